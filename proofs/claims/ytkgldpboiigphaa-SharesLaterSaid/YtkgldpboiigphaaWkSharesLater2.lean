/-
  The code returns what the functions say (printed by gen.py).
  Conditions: none.
-/
import Derived.Test.YtkgldpboiigphaaWkSharesLater1
set_option linter.all false
namespace Go.Proofs.Ytkgldpboiigphaa
open Go Go.AM Go.Law
set_option linter.unusedVariables false
set_option maxRecDepth 4000
set_option maxHeartbeats 4000000
theorem W_shares_Weeks {n : Nat} {a0 : Share} {a1 : List Int} {r : (List Split) × Int × Int} (hM : shares_Weeks n a0 a1 = some r) : PureSat Try.prog 35 [.agg [.sl .no 4 (a0.Clauses.map Clause.cells), .v (.int .i64 a0.Loan)], .sl .no 1 (a1.map cI)] (.tup [.sl .no 3 (r.1.map Split.cells), .v (.int .i64 r.2.1), .v (.int .i64 r.2.2)]) := by
  refine pure_of_wp mixed Try.func35 rfl (by decide) Try.ntmps35 (by simp) ?pure fun H0 g hf => ?_
  case pure => exact .tup _ (pl_cons (.sl _ _ (pures_map (fun x => (pl_cons (.v _) (pl_cons (.v _) (pl_cons (.v _) pl_nil)))))) (pl_cons (.v _) (pl_cons (.v _) pl_nil)))
  rw [frame0_of]
  change wpA _ _ _ _ (Fr.of [(0, .agg [.sl .no 4 (a0.Clauses.map Clause.cells), .v (.int .i64 a0.Loan)]), (1, .sl .no 1 (a1.map cI))]) H0 g
  have hS := St.start hf
  refine r_seq ?_
  refine r_region (n := 4) rfl ?_
  refine o_box (v := .agg [.sl .no 4 (a0.Clauses.map Clause.cells), .v (.int .i64 a0.Loan)]) (cs := [.sl .no 4 (a0.Clauses.map Clause.cells), .v (.int .i64 a0.Loan)]) hS (by decide) rfl rfl (by omega) fun H hS => ?_
  refine o_assign (v := .sl .nil 0 []) (by decide) rfl ?_
  refine o_assign (v := .v (.int .i64 0)) (by decide) rfl ?_
  refine o_assign (v := .v (.int .i64 0)) (by decide) rfl ?_
  refine run_nil ?_
  refine w_own [(1, .sl .no 1 (a1.map cI)), (2, .ptr (g + 0) 0), (4, .sl (.id (g + 4)) 3 (([] : List Split).map Split.cells))] 4 3 41 hS (by omega) (by decide) rfl (.cons (.refl _) (.cons (.refl _) (.cons (.refl _) .nil))) fun H hS => ?_
  refine r_seq ?_
  refine r_seq ?_
  refine r_region (n := 3) rfl ?_
  refine o_load (v := .agg [.sl .no 4 (a0.Clauses.map Clause.cells), .v (.int .i64 a0.Loan)]) 1 hS (by decide) rfl rfl .no (part_agg ty_agg24 (Nat.le_of_ble_eq_true rfl) rfl) ?_
  obtain ⟨r1, hr1, hM⟩ := bindE hM
  refine o_call (bs := [.agg [.sl .no 4 (a0.Clauses.map Clause.cells), .v (.int .i64 a0.Loan)]]) (by decide) rfl rfl ((W_shares_Check hr1).le (.cons (.refl _) .nil)) ?_
  refine o_assign (v := .v (.int .i64 r1)) (by decide) rfl ?_
  refine run_nil ?_
  refine w_next [(1, .sl .no 1 (a1.map cI)), (2, .ptr (g + 0) 0), (4, .sl (.id (g + 4)) 3 (([] : List Split).map Split.cells)), (7, .v (.int .i64 r1))] (.cons (.refl _) (.cons (.refl _) (.cons (.refl _) (.cons (.refl _) .nil)))) ?_
  refine r_seq ?_
  refine r_region (n := 2) rfl ?_
  refine o_move (v := .v (.int .i64 r1)) (by decide) rfl ?_
  refine o_int (v := .v (.bool (r1 != 0))) (by decide) rfl rfl rfl ?_
  refine run_nil ?_
  refine w_next [(1, .sl .no 1 (a1.map cI)), (2, .ptr (g + 0) 0), (4, .sl (.id (g + 4)) 3 (([] : List Split).map Split.cells)), (7, .v (.int .i64 r1)), (15, .v (.bool (r1 != 0)))] (.cons (.refl _) (.cons (.refl _) (.cons (.refl _) (.cons (.refl _) (.cons (.refl _) .nil))))) ?_
  rcases Bool.eq_false_or_eq_true (r1 != 0) with hb2 | hb2
  · replace hM := ifT hM hb2
    refine w_condT (e := (r1 != 0)) rfl hb2 ?_
    refine r_seq ?_
    refine r_region (n := 4) rfl ?_
    refine o_move (v := .v (.int .i64 r1)) (by decide) rfl ?_
    refine o_assign (v := .sl .nil 0 []) (by decide) rfl ?_
    refine o_assign (v := .v (.int .i64 0)) (by decide) rfl ?_
    refine o_assign (v := .v (.int .i64 r1)) (by decide) rfl ?_
    refine run_nil ?_
    refine w_own [(4, .sl (.id (g + 4 + 1 + 3 + 2 + 4)) 3 (([] : List Split).map Split.cells)), (5, .v (.int .i64 0)), (6, .v (.int .i64 r1))] 4 3 41 hS (by omega) (by decide) rfl (.cons (.refl _) (.cons (.refl _) (.cons (.refl _) .nil))) fun H hS => ?_
    refine r_ret ?_
    refine r_then_ret ?_
    refine w_end (x := .tup [.sl (.id (g + 4 + 1 + 3 + 2 + 4)) 3 (([] : List Split).map Split.cells), .v (.int .i64 0), .v (.int .i64 r1)]) (f := fun r => .tup [.sl .no 3 (r.1.map Split.cells), .v (.int .i64 r.2.1), .v (.int .i64 r.2.2)]) (.inr rfl) ?_ (.tupL (.cons (.sl _ _ _) (.cons (.refl _) (.cons (.refl _) .nil)))) (Option.some.inj hM) hS
    exact (res_three (res_tmp (x := .sl (.id (g + 4 + 1 + 3 + 2 + 4)) 3 (([] : List Split).map Split.cells)) rfl) (res_tmp (x := .v (.int .i64 0)) rfl) (res_tmp (x := .v (.int .i64 r1)) rfl))
  · replace hM := ifF hM hb2
    refine w_condF (e := (r1 != 0)) rfl hb2 ?_
    refine r_skip ?_
    refine w_next [(1, .sl .no 1 (a1.map cI)), (2, .ptr (g + 0) 0), (4, .sl (.id (g + 4)) 3 (([] : List Split).map Split.cells))] (.cons (.refl _) (.cons (.refl _) (.cons (.refl _) .nil))) ?_
    refine r_seq ?_
    refine r_seq ?_
    refine r_region (n := 3) rfl ?_
    refine o_move (v := .sl .no 1 (a1.map cI)) (by decide) rfl ?_
    refine o_len (n := a1.length) (by decide) rfl (List.length_map _) ty_isl28 ?_
    refine o_int (v := .v (.bool (decide ((a1.length : Int) > 6)))) (by decide) rfl rfl rfl ?_
    refine run_nil ?_
    refine w_next [(1, .sl .no 1 (a1.map cI)), (2, .ptr (g + 0) 0), (4, .sl (.id (g + 4)) 3 (([] : List Split).map Split.cells)), (19, .v (.bool (decide ((a1.length : Int) > 6))))] (.cons (.refl _) (.cons (.refl _) (.cons (.refl _) (.cons (.refl _) .nil)))) ?_
    rcases Bool.eq_false_or_eq_true (decide ((a1.length : Int) > 6)) with hb3 | hb3
    · replace hM := ifT hM hb3
      refine w_condT (e := (decide ((a1.length : Int) > 6))) rfl hb3 ?_
      refine r_seq ?_
      refine r_region (n := 3) rfl ?_
      refine o_assign (v := .sl .nil 0 []) (by decide) rfl ?_
      refine o_assign (v := .v (.int .i64 0)) (by decide) rfl ?_
      refine o_assign (v := .v (.int .i64 2)) (by decide) rfl ?_
      refine run_nil ?_
      refine w_own [(4, .sl (.id (g + 4 + 1 + 3 + 2 + 3 + 3)) 3 (([] : List Split).map Split.cells)), (5, .v (.int .i64 0)), (6, .v (.int .i64 2))] 4 3 41 hS (by omega) (by decide) rfl (.cons (.refl _) (.cons (.refl _) (.cons (.refl _) .nil))) fun H hS => ?_
      refine r_ret ?_
      refine r_then_ret ?_
      refine w_end (x := .tup [.sl (.id (g + 4 + 1 + 3 + 2 + 3 + 3)) 3 (([] : List Split).map Split.cells), .v (.int .i64 0), .v (.int .i64 2)]) (f := fun r => .tup [.sl .no 3 (r.1.map Split.cells), .v (.int .i64 r.2.1), .v (.int .i64 r.2.2)]) (.inr rfl) ?_ (.tupL (.cons (.sl _ _ _) (.cons (.refl _) (.cons (.refl _) .nil)))) (Option.some.inj hM) hS
      exact (res_three (res_tmp (x := .sl (.id (g + 4 + 1 + 3 + 2 + 3 + 3)) 3 (([] : List Split).map Split.cells)) rfl) (res_tmp (x := .v (.int .i64 0)) rfl) (res_tmp (x := .v (.int .i64 2)) rfl))
    · replace hM := ifF hM hb3
      refine w_condF (e := (decide ((a1.length : Int) > 6))) rfl hb3 ?_
      refine r_skip ?_
      refine w_next [(1, .sl .no 1 (a1.map cI)), (2, .ptr (g + 0) 0), (4, .sl (.id (g + 4)) 3 (([] : List Split).map Split.cells))] (.cons (.refl _) (.cons (.refl _) (.cons (.refl _) .nil))) ?_
      refine r_seq ?_
      refine r_region (n := 3) rfl ?_
      refine o_fieldP (by decide) ty_fo24_1 rfl ?_
      refine o_load (v := .v (.int .i64 a0.Loan)) 1 hS (by decide) rfl rfl .no (part_one ty_agg3 ty_sc3 rfl) ?_
      refine o_assign (v := .v (.int .i64 a0.Loan)) (by decide) rfl ?_
      refine run_nil ?_
      refine w_next [(1, .sl .no 1 (a1.map cI)), (2, .ptr (g + 0) 0), (4, .sl (.id (g + 4)) 3 (([] : List Split).map Split.cells)), (5, .v (.int .i64 a0.Loan))] (.cons (.refl _) (.cons (.refl _) (.cons (.refl _) (.cons (.refl _) .nil)))) ?_
      refine w_join (J := (List Split) × Int) (fun j => [(4, .sl (.id (g + 4)) 3 (j.1.map Split.cells)), (5, .v (.int .i64 j.2))]) (fun j H' g' => St (· < g) H0 [(g + 4, .row 41 j.1.length)] H' g' ∧ shares_Weeks_j1 j.1 j.2 = some r) ?_ ?_
      · rintro ⟨v4, v5⟩ H g1 ⟨hS, hM⟩
        change wpA _ _ _ _ (Fr.of [(4, .sl (.id (g + 4)) 3 (v4.map Split.cells)), (5, .v (.int .i64 v5))]) _ _
        replace hS : St (· < g) H0 [(g + 4, .row 41 v4.length)] H g1 := hS
        replace hM : shares_Weeks_j1 v4 v5 = some r := hM
        refine r_seq ?_
        refine r_region (n := 5) rfl ?_
        refine o_move (v := .sl (.id (g + 4)) 3 (v4.map Split.cells)) (by decide) rfl ?_
        refine o_move (v := .v (.int .i64 v5)) (by decide) rfl ?_
        refine o_assign (v := .sl (.id (g + 4)) 3 (v4.map Split.cells)) (by decide) rfl ?_
        refine o_assign (v := .v (.int .i64 v5)) (by decide) rfl ?_
        refine o_assign (v := .v (.int .i64 0)) (by decide) rfl ?_
        refine run_nil ?_
        refine w_next [(4, .sl (.id (g + 4)) 3 (v4.map Split.cells)), (5, .v (.int .i64 v5)), (6, .v (.int .i64 0))] (.cons (.refl _) (.cons (.refl _) (.cons (.refl _) .nil))) ?_
        refine r_ret ?_
        refine w_end (x := .tup [.sl (.id (g + 4)) 3 (v4.map Split.cells), .v (.int .i64 v5), .v (.int .i64 0)]) (f := fun r => .tup [.sl .no 3 (r.1.map Split.cells), .v (.int .i64 r.2.1), .v (.int .i64 r.2.2)]) (.inr rfl) ?_ (.tupL (.cons (.sl _ _ _) (.cons (.refl _) (.cons (.refl _) .nil)))) (Option.some.inj hM) hS
        exact (res_three (res_tmp (x := .sl (.id (g + 4)) 3 (v4.map Split.cells)) rfl) (res_tmp (x := .v (.int .i64 v5)) rfl) (res_tmp (x := .v (.int .i64 0)) rfl))
      · refine r_seq ?_
        refine r_region (n := 3) rfl ?_
        refine o_move (v := .sl .no 1 (a1.map cI)) (by decide) rfl ?_
        refine o_len (n := a1.length) (by decide) rfl (List.length_map _) ty_isl28 ?_
        refine o_move (v := .v (.int .i64 0)) (by decide) rfl ?_
        refine run_nil ?_
        refine w_next [(2, .ptr (g + 0) 0), (4, .sl (.id (g + 4)) 3 (([] : List Split).map Split.cells)), (5, .v (.int .i64 a0.Loan)), (22, .sl .no 1 (a1.map cI)), (23, .v (.int .i64 (a1.length : Int))), (24, .v (.int .i64 0))] (.cons (.refl _) (.cons (.refl _) (.cons (.refl _) (.cons (.refl _) (.cons (.refl _) (.cons (.refl _) .nil)))))) ?_
        refine r_block ?_
        refine w_loop (V := (List Split) × Int × Int) (fun v => [(2, .ptr (g + 0) 0), (4, .sl (.id (g + 4)) 3 (v.1.map Split.cells)), (5, .v (.int .i64 v.2.1)), (22, .sl .no 1 (a1.map cI)), (23, .v (.int .i64 (a1.length : Int))), (24, .v (.int .i64 v.2.2))]) (fun v m H' g' => St (· < g) H0 [(g + 4, .row 41 v.1.length), (g + 0, .cells [.sl .no 4 (a0.Clauses.map Clause.cells), .v (.int .i64 a0.Loan)])] H' g' ∧ shares_Weeks_l1 n a0 a1 m v.1 v.2.1 v.2.2 = some r) (n := n) (([] : List Split), a0.Loan, 0) (.cons (.refl _) (.cons (.refl _) (.cons (.refl _) (.cons (.refl _) (.cons (.refl _) (.cons (.refl _) .nil)))))) ⟨(hS.keep [true, true] rfl).up (by omega), hM⟩ ?_
        rintro ⟨v6, v7, v8⟩ m H g2 ⟨hS, hM⟩
        obtain _ | m := m
        · exact nomatch (show none = some _ from hM)
        change wpA _ _ _ _ (Fr.of [(2, .ptr (g + 0) 0), (4, .sl (.id (g + 4)) 3 (v6.map Split.cells)), (5, .v (.int .i64 v7)), (22, .sl .no 1 (a1.map cI)), (23, .v (.int .i64 (a1.length : Int))), (24, .v (.int .i64 v8))]) _ _
        replace hS : St (· < g) H0 [(g + 4, .row 41 v6.length), (g + 0, .cells [.sl .no 4 (a0.Clauses.map Clause.cells), .v (.int .i64 a0.Loan)])] H g2 := hS
        replace hM : shares_Weeks_l1_b n a0 a1 (shares_Weeks_l1 n a0 a1 m) v6 v7 v8 = some r := hM
        refine r_seq ?_
        refine r_region (n := 1) rfl ?_
        refine o_int (v := .v (.bool (decide (v8 < (a1.length : Int))))) (by decide) rfl rfl rfl ?_
        refine run_nil ?_
        refine w_next [(2, .ptr (g + 0) 0), (4, .sl (.id (g + 4)) 3 (v6.map Split.cells)), (5, .v (.int .i64 v7)), (22, .sl .no 1 (a1.map cI)), (23, .v (.int .i64 (a1.length : Int))), (24, .v (.int .i64 v8)), (25, .v (.bool (decide (v8 < (a1.length : Int)))))] (.cons (.refl _) (.cons (.refl _) (.cons (.refl _) (.cons (.refl _) (.cons (.refl _) (.cons (.refl _) (.cons (.refl _) .nil))))))) ?_
        refine r_seq ?_
        rcases Bool.eq_false_or_eq_true (decide (v8 < (a1.length : Int))) with hb9 | hb9
        · replace hM := ifT hM hb9
          refine w_condT (e := (decide (v8 < (a1.length : Int)))) rfl hb9 ?_
          refine r_skip ?_
          refine w_next [(2, .ptr (g + 0) 0), (4, .sl (.id (g + 4)) 3 (v6.map Split.cells)), (5, .v (.int .i64 v7)), (22, .sl .no 1 (a1.map cI)), (23, .v (.int .i64 (a1.length : Int))), (24, .v (.int .i64 v8))] (.cons (.refl _) (.cons (.refl _) (.cons (.refl _) (.cons (.refl _) (.cons (.refl _) (.cons (.refl _) .nil)))))) ?_
          refine r_seq ?_
          refine r_block ?_
          refine r_seq ?_
          refine r_region (n := 3) rfl ?_
          obtain ⟨x10, hx10, hM⟩ := bindE hM
          refine o_index (xs := a1) (f := cI) (z := v8) (u := x10) (by decide) rfl rfl ty_es28 hx10 ?_
          refine o_loadE (v := .v (.int .i64 x10)) (by decide) rfl (part_one ty_agg3 ty_sc3 rfl) ?_
          refine o_assign (v := .v (.int .i64 x10)) (by decide) rfl ?_
          refine run_nil ?_
          refine w_next [(2, .ptr (g + 0) 0), (4, .sl (.id (g + 4)) 3 (v6.map Split.cells)), (5, .v (.int .i64 v7)), (9, .v (.int .i64 x10)), (22, .sl .no 1 (a1.map cI)), (23, .v (.int .i64 (a1.length : Int))), (24, .v (.int .i64 v8))] (.cons (.refl _) (.cons (.refl _) (.cons (.refl _) (.cons (.refl _) (.cons (.refl _) (.cons (.refl _) (.cons (.refl _) .nil))))))) ?_
          refine r_seq ?_
          refine r_seq ?_
          refine r_region (n := 3) rfl ?_
          refine o_move (v := .v (.int .i64 x10)) (by decide) rfl ?_
          obtain ⟨r11, hr11, hM⟩ := bindE hM
          refine o_call (bs := [.v (.int .i64 x10)]) (by decide) rfl rfl ((W_shares_isCents hr11).le (.cons (.refl _) .nil)) ?_
          refine o_not (e := r11) (by decide) rfl ?_
          refine run_nil ?_
          refine w_next [(2, .ptr (g + 0) 0), (4, .sl (.id (g + 4)) 3 (v6.map Split.cells)), (5, .v (.int .i64 v7)), (9, .v (.int .i64 x10)), (22, .sl .no 1 (a1.map cI)), (23, .v (.int .i64 (a1.length : Int))), (24, .v (.int .i64 v8)), (30, .v (.bool (!r11)))] (.cons (.refl _) (.cons (.refl _) (.cons (.refl _) (.cons (.refl _) (.cons (.refl _) (.cons (.refl _) (.cons (.refl _) (.cons (.refl _) .nil)))))))) ?_
          rcases Bool.eq_false_or_eq_true (!r11) with hb12 | hb12
          · replace hM := ifT hM hb12
            refine w_condT (e := (!r11)) rfl hb12 ?_
            refine r_seq ?_
            refine r_region (n := 3) rfl ?_
            refine o_assign (v := .sl .nil 0 []) (by decide) rfl ?_
            refine o_assign (v := .v (.int .i64 0)) (by decide) rfl ?_
            refine o_assign (v := .v (.int .i64 1)) (by decide) rfl ?_
            refine run_nil ?_
            refine w_own [(4, .sl (.id (g2 + 1 + 3 + 3 + 3)) 3 (([] : List Split).map Split.cells)), (5, .v (.int .i64 0)), (6, .v (.int .i64 1))] 4 3 41 hS (by omega) (by decide) rfl (.cons (.refl _) (.cons (.refl _) (.cons (.refl _) .nil))) fun H hS => ?_
            refine r_ret ?_
            refine r_then_ret ?_
            refine r_blk_ret ?_
            refine r_then_ret ?_
            refine w_round_ret ?_
            refine r_blk_ret ?_
            refine w_goto_ret ?_
            refine w_end (x := .tup [.sl (.id (g2 + 1 + 3 + 3 + 3)) 3 (([] : List Split).map Split.cells), .v (.int .i64 0), .v (.int .i64 1)]) (f := fun r => .tup [.sl .no 3 (r.1.map Split.cells), .v (.int .i64 r.2.1), .v (.int .i64 r.2.2)]) (.inr rfl) ?_ (.tupL (.cons (.sl _ _ _) (.cons (.refl _) (.cons (.refl _) .nil)))) (Option.some.inj hM) hS
            exact (res_three (res_tmp (x := .sl (.id (g2 + 1 + 3 + 3 + 3)) 3 (([] : List Split).map Split.cells)) rfl) (res_tmp (x := .v (.int .i64 0)) rfl) (res_tmp (x := .v (.int .i64 1)) rfl))
          · replace hM := ifF hM hb12
            refine w_condF (e := (!r11)) rfl hb12 ?_
            refine r_skip ?_
            refine w_next [(2, .ptr (g + 0) 0), (4, .sl (.id (g + 4)) 3 (v6.map Split.cells)), (5, .v (.int .i64 v7)), (9, .v (.int .i64 x10)), (22, .sl .no 1 (a1.map cI)), (23, .v (.int .i64 (a1.length : Int))), (24, .v (.int .i64 v8))] (.cons (.refl _) (.cons (.refl _) (.cons (.refl _) (.cons (.refl _) (.cons (.refl _) (.cons (.refl _) (.cons (.refl _) .nil))))))) ?_
            refine r_seq ?_
            refine r_region (n := 11) rfl ?_
            refine o_fieldP (by decide) ty_fo24_0 rfl ?_
            refine o_load (v := .sl .no 4 (a0.Clauses.map Clause.cells)) 1 hS (by decide) rfl rfl .no (part_one ty_agg22 ty_sc22 rfl) ?_
            refine o_move (v := .v (.int .i64 v7)) (by decide) rfl ?_
            refine o_move (v := .v (.int .i64 x10)) (by decide) rfl ?_
            obtain ⟨r13, hr13, hM⟩ := bindE hM
            refine o_call (bs := [.sl .no 4 (a0.Clauses.map Clause.cells), .v (.int .i64 v7), .v (.int .i64 x10), .v (.int .i64 0)]) (by decide) rfl rfl ((W_shares_settle hr13).le (.cons (.refl _) (.cons (.refl _) (.cons (.refl _) (.cons (.refl _) .nil))))) ?_
            refine o_move (v := .tup [.agg [.v (.int .i64 r13.1.Split.Operator), .v (.int .i64 r13.1.Split.Owner), .v (.int .i64 r13.1.Split.Repaid), .v (.int .i64 r13.1.rest), .v (.int .i64 r13.1.owed)], .sl .no 1 (r13.2.map cI)]) (by decide) rfl ?_
            refine o_extract (v := .agg [.v (.int .i64 r13.1.Split.Operator), .v (.int .i64 r13.1.Split.Owner), .v (.int .i64 r13.1.Split.Repaid), .v (.int .i64 r13.1.rest), .v (.int .i64 r13.1.owed)]) (by decide) rfl rfl ?_
            refine o_extract (v := .sl .no 1 (r13.2.map cI)) (by decide) rfl rfl ?_
            refine o_alloc hS (by decide) ty_zero76 (by omega) fun H hS => ?_
            refine o_store (v := .agg [.v (.int .i64 r13.1.Split.Operator), .v (.int .i64 r13.1.Split.Owner), .v (.int .i64 r13.1.Split.Repaid), .v (.int .i64 r13.1.rest), .v (.int .i64 r13.1.owed)]) (ns := [.v (.int .i64 r13.1.Split.Operator), .v (.int .i64 r13.1.Split.Owner), .v (.int .i64 r13.1.Split.Repaid), .v (.int .i64 r13.1.rest), .v (.int .i64 r13.1.owed)]) (L' := [(g2 + 1 + 3 + 3 + 8, .cells [.v (.int .i64 r13.1.Split.Operator), .v (.int .i64 r13.1.Split.Owner), .v (.int .i64 r13.1.Split.Repaid), .v (.int .i64 r13.1.rest), .v (.int .i64 r13.1.owed)]), (g + 4, .row 41 v6.length), (g + 0, .cells [.sl .no 4 (a0.Clauses.map Clause.cells), .v (.int .i64 a0.Loan)])]) 0 hS rfl rfl .no rfl rfl ty_var76 (Nat.le_of_ble_eq_true rfl) rfl fun H hS => ?_
            refine o_assign (v := .sl .no 1 (r13.2.map cI)) (by decide) rfl ?_
            refine run_nil ?_
            refine w_next [(2, .ptr (g + 0) 0), (4, .sl (.id (g + 4)) 3 (v6.map Split.cells)), (10, .ptr (g2 + 1 + 3 + 3 + 8) 0), (22, .sl .no 1 (a1.map cI)), (23, .v (.int .i64 (a1.length : Int))), (24, .v (.int .i64 v8))] (.cons (.refl _) (.cons (.refl _) (.cons (.refl _) (.cons (.refl _) (.cons (.refl _) (.cons (.refl _) .nil)))))) ?_
            have hS0 := hS
            refine r_draw (n := 9) rfl (by kernel_rfl) ?_
            refine o_move (v := .sl (.id (g + 4)) 3 (v6.map Split.cells)) (by decide) rfl ?_
            refine o_fieldP (by decide) ty_fo76_0 rfl ?_
            refine o_load (v := .agg [.v (.int .i64 r13.1.Split.Operator), .v (.int .i64 r13.1.Split.Owner), .v (.int .i64 r13.1.Split.Repaid)]) 0 hS (by decide) rfl rfl (.st hS0 0 rfl (by omega)) (part_agg ty_agg41 (Nat.le_of_ble_eq_true rfl) rfl) ?_
            refine o_buildSlice (es := [[.v (.int .i64 r13.1.Split.Operator), .v (.int .i64 r13.1.Split.Owner), .v (.int .i64 r13.1.Split.Repaid)]]) hS (by decide) ty_es59 ty_el59 rfl ty_ef59 rfl (by decide) (by omega) fun H hS => ?_
            obtain ⟨l14, hl14, hM⟩ := bindE hM
            refine o_append (xs := v6) (ys := ([r13.1.Split] : List Split)) (zs := l14) (f := Split.cells) (L' := [(g2 + 1 + 3 + 3 + 11 + 3, .row 41 1), (g2 + 1 + 3 + 3 + 8, .cells [.v (.int .i64 r13.1.Split.Operator), .v (.int .i64 r13.1.Split.Owner), .v (.int .i64 r13.1.Split.Repaid), .v (.int .i64 r13.1.rest), .v (.int .i64 r13.1.owed)]), (g + 4, .row 41 l14.length), (g + 0, .cells [.sl .no 4 (a0.Clauses.map Clause.cells), .v (.int .i64 a0.Loan)])]) 2 hS (by decide) rfl rfl rfl rfl (.st hS0 1 rfl (by omega)) ty_es59 ty_el59 ty_ef59 hl14 rfl fun H hS => ?_
            refine o_fieldP (by decide) ty_fo76_2 rfl ?_
            refine o_load (v := .v (.int .i64 r13.1.owed)) 1 hS (by decide) rfl rfl (.st hS0 0 rfl (by omega)) (part_one ty_agg3 ty_sc3 rfl) ?_
            refine o_assign (v := .sl (.id (g + 4)) 3 (l14.map Split.cells)) (by decide) rfl ?_
            refine o_assign (v := .v (.int .i64 r13.1.owed)) (by decide) rfl ?_
            refine run_nil ?_
            refine r_blk_normal ?_
            replace hS := hS.keep (L' := [(g + 4, .row 41 l14.length), (g + 0, .cells [.sl .no 4 (a0.Clauses.map Clause.cells), .v (.int .i64 a0.Loan)])]) [false, false, true, true] rfl
            refine w_next [(2, .ptr (g + 0) 0), (4, .sl (.id (g + 4)) 3 (l14.map Split.cells)), (5, .v (.int .i64 r13.1.owed)), (22, .sl .no 1 (a1.map cI)), (23, .v (.int .i64 (a1.length : Int))), (24, .v (.int .i64 v8))] (.cons (.refl _) (.cons (.refl _) (.cons (.refl _) (.cons (.refl _) (.cons (.refl _) (.cons (.refl _) .nil)))))) ?_
            refine r_region (n := 2) rfl ?_
            refine o_int (v := .v (.int .i64 (w64 (v8 + 1)))) (by decide) rfl rfl rfl ?_
            refine o_move (v := .v (.int .i64 (w64 (v8 + 1)))) (by decide) rfl ?_
            refine run_nil ?_
            exact w_round (l14, r13.1.owed, w64 (v8 + 1)) (Nat.lt_succ_self _) (.cons (.refl _) (.cons (.refl _) (.cons (.refl _) (.cons (.refl _) (.cons (.refl _) (.cons (.refl _) .nil)))))) ⟨(hS.keep [true, true] rfl).up (by omega), hM⟩
        · replace hM := ifF hM hb9
          refine w_condF (e := (decide (v8 < (a1.length : Int)))) rfl hb9 ?_
          refine r_exit ?_
          refine r_then_exit ?_
          refine w_round_exit ?_
          refine r_blk_exit ?_
          exact w_goto (v6, v7) (.cons (.refl _) (.cons (.refl _) .nil)) ⟨(hS.keep [true, false] rfl).up (by omega), hM⟩
theorem W_law09_sameSplits {n : Nat} {a0 : List Split} {a1 : List Split} {r : Bool} (hM : law09_sameSplits n a0 a1 = some r) : PureSat Try.prog 37 [.sl .no 3 (a0.map Split.cells), .sl .no 3 (a1.map Split.cells)] (.v (.bool r)) := by
  refine pure_of_wp mixed Try.func37 rfl (by decide) Try.ntmps37 (by simp) ?pure fun H0 g hf => ?_
  case pure => exact .v _
  rw [frame0_of]
  change wpA _ _ _ _ (Fr.of [(0, .sl .no 3 (a0.map Split.cells)), (1, .sl .no 3 (a1.map Split.cells))]) H0 g
  have hS := St.start hf
  refine r_seq ?_
  refine r_region (n := 1) rfl ?_
  refine o_assign (v := .v (.bool false)) (by decide) rfl ?_
  refine run_nil ?_
  refine w_next [(0, .sl .no 3 (a0.map Split.cells)), (1, .sl .no 3 (a1.map Split.cells))] (.cons (.refl _) (.cons (.refl _) .nil)) ?_
  refine r_seq ?_
  refine r_seq ?_
  refine r_region (n := 5) rfl ?_
  refine o_move (v := .sl .no 3 (a0.map Split.cells)) (by decide) rfl ?_
  refine o_len (n := a0.length) (by decide) rfl (List.length_map _) ty_isl59 ?_
  refine o_move (v := .sl .no 3 (a1.map Split.cells)) (by decide) rfl ?_
  refine o_len (n := a1.length) (by decide) rfl (List.length_map _) ty_isl59 ?_
  refine o_int (v := .v (.bool ((a0.length : Int) != (a1.length : Int)))) (by decide) rfl rfl rfl ?_
  refine run_nil ?_
  refine w_next [(0, .sl .no 3 (a0.map Split.cells)), (1, .sl .no 3 (a1.map Split.cells)), (10, .v (.bool ((a0.length : Int) != (a1.length : Int))))] (.cons (.refl _) (.cons (.refl _) (.cons (.refl _) .nil))) ?_
  rcases Bool.eq_false_or_eq_true ((a0.length : Int) != (a1.length : Int)) with hb1 | hb1
  · replace hM := ifT hM hb1
    refine w_condT (e := ((a0.length : Int) != (a1.length : Int))) rfl hb1 ?_
    refine r_seq ?_
    refine r_region (n := 1) rfl ?_
    refine o_assign (v := .v (.bool false)) (by decide) rfl ?_
    refine run_nil ?_
    refine w_next [(4, .v (.bool false))] (.cons (.refl _) .nil) ?_
    refine r_ret ?_
    refine r_then_ret ?_
    refine w_end (x := .v (.bool false)) (f := fun r => .v (.bool r)) (.inr rfl) ?_ (.refl _) (Option.some.inj hM) hS
    exact (res_one (res_tmp (x := .v (.bool false)) rfl))
  · replace hM := ifF hM hb1
    refine w_condF (e := ((a0.length : Int) != (a1.length : Int))) rfl hb1 ?_
    refine r_skip ?_
    refine w_next [(0, .sl .no 3 (a0.map Split.cells)), (1, .sl .no 3 (a1.map Split.cells))] (.cons (.refl _) (.cons (.refl _) .nil)) ?_
    refine w_join (J := Unit) (fun j => []) (fun j H' g' => St (· < g) H0 [] H' g' ∧ law09_sameSplits_j1 = some r) ?_ ?_
    · rintro _ H g1 ⟨hS, hM⟩
      change wpA _ _ _ _ (Fr.of []) _ _
      replace hS : St (· < g) H0 [] H g1 := hS
      replace hM : law09_sameSplits_j1 = some r := hM
      refine r_seq ?_
      refine r_region (n := 1) rfl ?_
      refine o_assign (v := .v (.bool true)) (by decide) rfl ?_
      refine run_nil ?_
      refine w_next [(4, .v (.bool true))] (.cons (.refl _) .nil) ?_
      refine r_ret ?_
      refine w_end (x := .v (.bool true)) (f := fun r => .v (.bool r)) (.inr rfl) ?_ (.refl _) (Option.some.inj hM) hS
      exact (res_one (res_tmp (x := .v (.bool true)) rfl))
    · refine r_seq ?_
      refine r_region (n := 1) rfl ?_
      refine o_assign (v := .v (.int .i64 0)) (by decide) rfl ?_
      refine run_nil ?_
      refine w_next [(0, .sl .no 3 (a0.map Split.cells)), (1, .sl .no 3 (a1.map Split.cells)), (5, .v (.int .i64 0))] (.cons (.refl _) (.cons (.refl _) (.cons (.refl _) .nil))) ?_
      refine r_block ?_
      refine w_loop (V := Int) (fun v => [(0, .sl .no 3 (a0.map Split.cells)), (1, .sl .no 3 (a1.map Split.cells)), (5, .v (.int .i64 v))]) (fun v m H' g' => St (· < g) H0 [] H' g' ∧ law09_sameSplits_l1 a0 a1 m v = some r) (n := n) 0 (.cons (.refl _) (.cons (.refl _) (.cons (.refl _) .nil))) ⟨(hS.keep [] rfl).up (by omega), hM⟩ ?_
      rintro v2 m H g2 ⟨hS, hM⟩
      obtain _ | m := m
      · exact nomatch (show none = some _ from hM)
      change wpA _ _ _ _ (Fr.of [(0, .sl .no 3 (a0.map Split.cells)), (1, .sl .no 3 (a1.map Split.cells)), (5, .v (.int .i64 v2))]) _ _
      replace hS : St (· < g) H0 [] H g2 := hS
      replace hM : law09_sameSplits_l1_b a0 a1 (law09_sameSplits_l1 a0 a1 m) v2 = some r := hM
      refine r_seq ?_
      refine r_seq ?_
      refine r_region (n := 4) rfl ?_
      refine o_move (v := .v (.int .i64 v2)) (by decide) rfl ?_
      refine o_move (v := .sl .no 3 (a0.map Split.cells)) (by decide) rfl ?_
      refine o_len (n := a0.length) (by decide) rfl (List.length_map _) ty_isl59 ?_
      refine o_int (v := .v (.bool (decide (v2 < (a0.length : Int))))) (by decide) rfl rfl rfl ?_
      refine run_nil ?_
      refine w_next [(0, .sl .no 3 (a0.map Split.cells)), (1, .sl .no 3 (a1.map Split.cells)), (5, .v (.int .i64 v2)), (14, .v (.bool (decide (v2 < (a0.length : Int)))))] (.cons (.refl _) (.cons (.refl _) (.cons (.refl _) (.cons (.refl _) .nil)))) ?_
      rcases Bool.eq_false_or_eq_true (decide (v2 < (a0.length : Int))) with hb3 | hb3
      · replace hM := ifT hM hb3
        refine w_condT (e := (decide (v2 < (a0.length : Int)))) rfl hb3 ?_
        refine r_skip ?_
        refine w_next [(0, .sl .no 3 (a0.map Split.cells)), (1, .sl .no 3 (a1.map Split.cells)), (5, .v (.int .i64 v2))] (.cons (.refl _) (.cons (.refl _) (.cons (.refl _) .nil))) ?_
        refine r_seq ?_
        refine r_block ?_
        refine r_seq ?_
        have hS0 := hS
        refine r_draw (n := 9) rfl (by kernel_rfl) ?_
        refine o_move (v := .sl .no 3 (a0.map Split.cells)) (by decide) rfl ?_
        refine o_move (v := .v (.int .i64 v2)) (by decide) rfl ?_
        obtain ⟨x4, hx4, hM⟩ := bindE hM
        refine o_index (xs := a0) (f := Split.cells) (z := v2) (u := x4) (by decide) rfl rfl ty_es59 hx4 ?_
        refine o_loadE (v := .agg [.v (.int .i64 x4.Operator), .v (.int .i64 x4.Owner), .v (.int .i64 x4.Repaid)]) (by decide) rfl (part_agg ty_agg41 (Nat.le_of_ble_eq_true rfl) rfl) ?_
        refine o_move (v := .sl .no 3 (a1.map Split.cells)) (by decide) rfl ?_
        refine o_move (v := .v (.int .i64 v2)) (by decide) rfl ?_
        obtain ⟨x5, hx5, hM⟩ := bindE hM
        refine o_index (xs := a1) (f := Split.cells) (z := v2) (u := x5) (by decide) rfl rfl ty_es59 hx5 ?_
        refine o_loadE (v := .agg [.v (.int .i64 x5.Operator), .v (.int .i64 x5.Owner), .v (.int .i64 x5.Repaid)]) (by decide) rfl (part_agg ty_agg41 (Nat.le_of_ble_eq_true rfl) rfl) ?_
        refine o_neS (cs := [.v (.int .i64 x4.Operator), .v (.int .i64 x4.Owner), .v (.int .i64 x4.Repaid)]) (ds := [.v (.int .i64 x5.Operator), .v (.int .i64 x5.Owner), .v (.int .i64 x5.Repaid)]) (e := ((x4.Operator == x5.Operator) && ((x4.Owner == x5.Owner) && ((x4.Repaid == x5.Repaid) && true)))) (by decide) rfl rfl ty_flat41 rfl ?_
        refine run_nil ?_
        refine w_next [(0, .sl .no 3 (a0.map Split.cells)), (1, .sl .no 3 (a1.map Split.cells)), (5, .v (.int .i64 v2)), (25, .v (.bool (!((x4.Operator == x5.Operator) && ((x4.Owner == x5.Owner) && ((x4.Repaid == x5.Repaid) && true))))))] (.cons (.refl _) (.cons (.refl _) (.cons (.refl _) (.cons (.refl _) .nil)))) ?_
        rcases Bool.eq_false_or_eq_true (!((x4.Operator == x5.Operator) && ((x4.Owner == x5.Owner) && ((x4.Repaid == x5.Repaid) && true)))) with hb6 | hb6
        · replace hM := ifT hM hb6
          refine w_condT (e := (!((x4.Operator == x5.Operator) && ((x4.Owner == x5.Owner) && ((x4.Repaid == x5.Repaid) && true))))) rfl hb6 ?_
          refine r_seq ?_
          refine r_region (n := 1) rfl ?_
          refine o_assign (v := .v (.bool false)) (by decide) rfl ?_
          refine run_nil ?_
          refine w_next [(4, .v (.bool false))] (.cons (.refl _) .nil) ?_
          refine r_ret ?_
          refine r_blk_ret ?_
          refine r_then_ret ?_
          refine w_round_ret ?_
          refine r_blk_ret ?_
          refine w_goto_ret ?_
          refine w_end (x := .v (.bool false)) (f := fun r => .v (.bool r)) (.inr rfl) ?_ (.refl _) (Option.some.inj hM) hS
          exact (res_one (res_tmp (x := .v (.bool false)) rfl))
        · replace hM := ifF hM hb6
          refine w_condF (e := (!((x4.Operator == x5.Operator) && ((x4.Owner == x5.Owner) && ((x4.Repaid == x5.Repaid) && true))))) rfl hb6 ?_
          refine r_skip ?_
          refine r_blk_normal ?_
          refine w_next [(0, .sl .no 3 (a0.map Split.cells)), (1, .sl .no 3 (a1.map Split.cells)), (5, .v (.int .i64 v2))] (.cons (.refl _) (.cons (.refl _) (.cons (.refl _) .nil))) ?_
          refine r_region (n := 3) rfl ?_
          refine o_move (v := .v (.int .i64 v2)) (by decide) rfl ?_
          refine o_int (v := .v (.int .i64 (w64 (v2 + 1)))) (by decide) rfl rfl rfl ?_
          refine o_assign (v := .v (.int .i64 (w64 (v2 + 1)))) (by decide) rfl ?_
          refine run_nil ?_
          exact w_round (w64 (v2 + 1)) (Nat.lt_succ_self _) (.cons (.refl _) (.cons (.refl _) (.cons (.refl _) .nil))) ⟨(hS.keep [] rfl).up (by omega), hM⟩
      · replace hM := ifF hM hb3
        refine w_condF (e := (decide (v2 < (a0.length : Int)))) rfl hb3 ?_
        refine r_exit ?_
        refine r_then_exit ?_
        refine w_round_exit ?_
        refine r_blk_exit ?_
        exact w_goto () .nil ⟨(hS.keep [] rfl).up (by omega), hM⟩
theorem W_law09_SharesLater {n : Nat} {a0 : Share} {a1 : List Int} {a2 : List Int} {r : Bool} (hM : law09_SharesLater n a0 a1 a2 = some r) : PureSat Try.prog 10 [.agg [.sl .no 4 (a0.Clauses.map Clause.cells), .v (.int .i64 a0.Loan)], .sl .no 1 (a1.map cI), .sl .no 1 (a2.map cI)] (.v (.bool r)) := by
  refine pure_of_wp mixed Try.func10 rfl (by decide) Try.ntmps10 (by simp) ?pure fun H0 g hf => ?_
  case pure => exact .v _
  rw [frame0_of]
  change wpA _ _ _ _ (Fr.of [(0, .agg [.sl .no 4 (a0.Clauses.map Clause.cells), .v (.int .i64 a0.Loan)]), (1, .sl .no 1 (a1.map cI)), (2, .sl .no 1 (a2.map cI))]) H0 g
  have hS := St.start hf
  refine r_seq ?_
  refine r_region (n := 2) rfl ?_
  refine o_box (v := .agg [.sl .no 4 (a0.Clauses.map Clause.cells), .v (.int .i64 a0.Loan)]) (cs := [.sl .no 4 (a0.Clauses.map Clause.cells), .v (.int .i64 a0.Loan)]) hS (by decide) rfl rfl (by omega) fun H hS => ?_
  refine o_assign (v := .v (.bool false)) (by decide) rfl ?_
  refine run_nil ?_
  refine w_next [(1, .sl .no 1 (a1.map cI)), (2, .sl .no 1 (a2.map cI)), (3, .ptr (g + 0) 0)] (.cons (.refl _) (.cons (.refl _) (.cons (.refl _) .nil))) ?_
  refine r_seq ?_
  refine w_join (J := Bool) (fun j => [(1, .sl .no 1 (a1.map cI)), (2, .sl .no 1 (a2.map cI)), (3, .ptr (g + 0) 0), (31, .v (.bool j))]) (fun j H' g' => St (· < g) H0 [(g + 0, .cells [.sl .no 4 (a0.Clauses.map Clause.cells), .v (.int .i64 a0.Loan)])] H' g' ∧ law09_SharesLater_j1 n a0 a1 a2 j = some r) ?_ ?_
  · rintro v1 H g1 ⟨hS, hM⟩
    change wpA _ _ _ _ (Fr.of [(1, .sl .no 1 (a1.map cI)), (2, .sl .no 1 (a2.map cI)), (3, .ptr (g + 0) 0), (31, .v (.bool v1))]) _ _
    replace hS : St (· < g) H0 [(g + 0, .cells [.sl .no 4 (a0.Clauses.map Clause.cells), .v (.int .i64 a0.Loan)])] H g1 := hS
    replace hM : law09_SharesLater_j1 n a0 a1 a2 v1 = some r := hM
    rcases Bool.eq_false_or_eq_true v1 with hb2 | hb2
    · replace hM := ifT hM hb2
      refine w_condT (e := v1) rfl hb2 ?_
      refine r_seq ?_
      refine r_region (n := 2) rfl ?_
      obtain ⟨r3, hr3, hM⟩ := bindE hM
      refine o_call (bs := []) (by decide) rfl rfl ((W_law09_works hr3).le .nil) ?_
      refine o_assign (v := .v (.bool r3)) (by decide) rfl ?_
      refine run_nil ?_
      replace hS := hS.keep (L' := []) [false] rfl
      refine w_next [(6, .v (.bool r3))] (.cons (.refl _) .nil) ?_
      refine r_ret ?_
      refine r_then_ret ?_
      refine w_end (x := .v (.bool r3)) (f := fun r => .v (.bool r)) (.inr rfl) ?_ (.refl _) (Option.some.inj hM) hS
      exact (res_one (res_tmp (x := .v (.bool r3)) rfl))
    · replace hM := ifF hM hb2
      refine w_condF (e := v1) rfl hb2 ?_
      refine r_skip ?_
      refine w_next [(1, .sl .no 1 (a1.map cI)), (2, .sl .no 1 (a2.map cI)), (3, .ptr (g + 0) 0)] (.cons (.refl _) (.cons (.refl _) (.cons (.refl _) .nil))) ?_
      refine r_seq ?_
      refine r_region (n := 6) rfl ?_
      refine o_buildSlice (es := []) hS (by decide) ty_es28 ty_el28 rfl ty_ef28 rfl (by decide) (by omega) fun H hS => ?_
      refine o_move (v := .sl .no 1 (a1.map cI)) (by decide) rfl ?_
      obtain ⟨l4, hl4, hM⟩ := bindE hM
      refine o_append (xs := ([] : List Int)) (ys := a1) (zs := l4) (f := cI) (L' := [(g1 + 0, .row 3 l4.length), (g + 0, .cells [.sl .no 4 (a0.Clauses.map Clause.cells), .v (.int .i64 a0.Loan)])]) 0 hS (by decide) rfl rfl rfl rfl .no ty_es28 ty_el28 ty_ef28 hl4 rfl fun H hS => ?_
      refine o_move (v := .sl .no 1 (a2.map cI)) (by decide) rfl ?_
      obtain ⟨l5, hl5, hM⟩ := bindE hM
      refine o_append (xs := l4) (ys := a2) (zs := l5) (f := cI) (L' := [(g1 + 0, .row 3 l5.length), (g + 0, .cells [.sl .no 4 (a0.Clauses.map Clause.cells), .v (.int .i64 a0.Loan)])]) 0 hS (by decide) rfl rfl rfl rfl .no ty_es28 ty_el28 ty_ef28 hl5 rfl fun H hS => ?_
      refine o_assign (v := .sl (.id (g1 + 0)) 1 (l5.map cI)) (by decide) rfl ?_
      refine run_nil ?_
      refine w_next [(1, .sl .no 1 (a1.map cI)), (2, .sl .no 1 (a2.map cI)), (3, .ptr (g + 0) 0), (7, .sl (.id (g1 + 0)) 1 (l5.map cI))] (.cons (.refl _) (.cons (.refl _) (.cons (.refl _) (.cons (.refl _) .nil)))) ?_
      refine w_join (J := Unit) (fun j => [(1, .sl .no 1 (a1.map cI)), (2, .sl .no 1 (a2.map cI)), (3, .ptr (g + 0) 0), (7, .sl (.id (g1 + 0)) 1 (l5.map cI))]) (fun j H' g' => St (· < g) H0 [(g1 + 0, .row 3 l5.length), (g + 0, .cells [.sl .no 4 (a0.Clauses.map Clause.cells), .v (.int .i64 a0.Loan)])] H' g' ∧ law09_SharesLater_j2 n a0 a1 a2 l5 = some r) ?_ ?_
      · rintro _ H g2 ⟨hS, hM⟩
        change wpA _ _ _ _ (Fr.of [(1, .sl .no 1 (a1.map cI)), (2, .sl .no 1 (a2.map cI)), (3, .ptr (g + 0) 0), (7, .sl (.id (g1 + 0)) 1 (l5.map cI))]) _ _
        replace hS : St (· < g) H0 [(g1 + 0, .row 3 l5.length), (g + 0, .cells [.sl .no 4 (a0.Clauses.map Clause.cells), .v (.int .i64 a0.Loan)])] H g2 := hS
        replace hM : law09_SharesLater_j2 n a0 a1 a2 l5 = some r := hM
        refine r_seq ?_
        have hS0 := hS
        refine r_draw (n := 12) rfl (by kernel_rfl) ?_
        refine o_load (v := .agg [.sl .no 4 (a0.Clauses.map Clause.cells), .v (.int .i64 a0.Loan)]) 1 hS (by decide) rfl rfl (.st hS0 1 rfl (by omega)) (part_agg ty_agg24 (Nat.le_of_ble_eq_true rfl) rfl) ?_
        refine o_buildSlice (es := []) hS (by decide) ty_es28 ty_el28 rfl ty_ef28 rfl (by decide) (by omega) fun H hS => ?_
        refine o_move (v := .sl .no 1 (a1.map cI)) (by decide) rfl ?_
        obtain ⟨l6, hl6, hM⟩ := bindE hM
        refine o_append (xs := ([] : List Int)) (ys := a1) (zs := l6) (f := cI) (L' := [(g2 + 1, .row 3 l6.length), (g1 + 0, .row 3 l5.length), (g + 0, .cells [.sl .no 4 (a0.Clauses.map Clause.cells), .v (.int .i64 a0.Loan)])]) 0 hS (by decide) rfl rfl rfl rfl (.behind (by kernel_rfl)) ty_es28 ty_el28 ty_ef28 hl6 rfl fun H hS => ?_
        obtain ⟨r7, hr7, hM⟩ := bindE hM
        refine o_call (bs := [.agg [.sl .no 4 (a0.Clauses.map Clause.cells), .v (.int .i64 a0.Loan)], .sl (.id (g2 + 1)) 1 (l6.map cI)]) (by decide) rfl rfl ((W_shares_Weeks hr7).le (.cons (.refl _) (.cons (.sl _ _ _) .nil))) ?_
        refine o_move (v := .tup [.sl .no 3 (r7.1.map Split.cells), .v (.int .i64 r7.2.1), .v (.int .i64 r7.2.2)]) (by decide) rfl ?_
        refine o_extract (v := .sl .no 3 (r7.1.map Split.cells)) (by decide) rfl rfl ?_
        refine o_extract (v := .v (.int .i64 r7.2.1)) (by decide) rfl rfl ?_
        refine o_extract (v := .v (.int .i64 r7.2.2)) (by decide) rfl rfl ?_
        refine o_assign (v := .sl .no 3 (r7.1.map Split.cells)) (by decide) rfl ?_
        refine o_assign (v := .v (.int .i64 r7.2.1)) (by decide) rfl ?_
        refine o_assign (v := .v (.int .i64 r7.2.2)) (by decide) rfl ?_
        refine run_nil ?_
        replace hS := hS.keep (L' := [(g1 + 0, .row 3 l5.length), (g + 0, .cells [.sl .no 4 (a0.Clauses.map Clause.cells), .v (.int .i64 a0.Loan)])]) [false, true, true] rfl
        refine w_next [(1, .sl .no 1 (a1.map cI)), (2, .sl .no 1 (a2.map cI)), (3, .ptr (g + 0) 0), (7, .sl (.id (g1 + 0)) 1 (l5.map cI)), (9, .sl .no 3 (r7.1.map Split.cells)), (10, .v (.int .i64 r7.2.1)), (11, .v (.int .i64 r7.2.2))] (.cons (.refl _) (.cons (.refl _) (.cons (.refl _) (.cons (.refl _) (.cons (.refl _) (.cons (.refl _) (.cons (.refl _) .nil))))))) ?_
        refine r_seq ?_
        refine w_join (J := Bool) (fun j => [(1, .sl .no 1 (a1.map cI)), (2, .sl .no 1 (a2.map cI)), (3, .ptr (g + 0) 0), (7, .sl (.id (g1 + 0)) 1 (l5.map cI)), (9, .sl .no 3 (r7.1.map Split.cells)), (10, .v (.int .i64 r7.2.1)), (78, .v (.bool j))]) (fun j H' g' => St (· < g) H0 [(g1 + 0, .row 3 l5.length), (g + 0, .cells [.sl .no 4 (a0.Clauses.map Clause.cells), .v (.int .i64 a0.Loan)])] H' g' ∧ law09_SharesLater_j3 n a0 a1 a2 l5 r7 j = some r) ?_ ?_
        · rintro v8 H g3 ⟨hS, hM⟩
          change wpA _ _ _ _ (Fr.of [(1, .sl .no 1 (a1.map cI)), (2, .sl .no 1 (a2.map cI)), (3, .ptr (g + 0) 0), (7, .sl (.id (g1 + 0)) 1 (l5.map cI)), (9, .sl .no 3 (r7.1.map Split.cells)), (10, .v (.int .i64 r7.2.1)), (78, .v (.bool v8))]) _ _
          replace hS : St (· < g) H0 [(g1 + 0, .row 3 l5.length), (g + 0, .cells [.sl .no 4 (a0.Clauses.map Clause.cells), .v (.int .i64 a0.Loan)])] H g3 := hS
          replace hM : law09_SharesLater_j3 n a0 a1 a2 l5 r7 v8 = some r := hM
          rcases Bool.eq_false_or_eq_true v8 with hb9 | hb9
          · replace hM := ifT hM hb9
            refine w_condT (e := v8) rfl hb9 ?_
            refine r_seq ?_
            refine r_region (n := 1) rfl ?_
            refine o_assign (v := .v (.bool false)) (by decide) rfl ?_
            refine run_nil ?_
            replace hS := hS.keep (L' := []) [false, false] rfl
            refine w_next [(6, .v (.bool false))] (.cons (.refl _) .nil) ?_
            refine r_ret ?_
            refine r_then_ret ?_
            refine w_end (x := .v (.bool false)) (f := fun r => .v (.bool r)) (.inr rfl) ?_ (.refl _) (Option.some.inj hM) hS
            exact (res_one (res_tmp (x := .v (.bool false)) rfl))
          · replace hM := ifF hM hb9
            refine w_condF (e := v8) rfl hb9 ?_
            refine r_skip ?_
            refine w_next [(1, .sl .no 1 (a1.map cI)), (2, .sl .no 1 (a2.map cI)), (3, .ptr (g + 0) 0), (7, .sl (.id (g1 + 0)) 1 (l5.map cI)), (9, .sl .no 3 (r7.1.map Split.cells)), (10, .v (.int .i64 r7.2.1))] (.cons (.refl _) (.cons (.refl _) (.cons (.refl _) (.cons (.refl _) (.cons (.refl _) (.cons (.refl _) .nil)))))) ?_
            refine r_seq ?_
            refine r_region (n := 4) rfl ?_
            refine o_load (v := .agg [.sl .no 4 (a0.Clauses.map Clause.cells), .v (.int .i64 a0.Loan)]) 1 hS (by decide) rfl rfl .no (part_agg ty_agg24 (Nat.le_of_ble_eq_true rfl) rfl) ?_
            obtain ⟨r10, hr10, hM⟩ := bindE hM
            refine o_call (bs := [.agg [.sl .no 4 (a0.Clauses.map Clause.cells), .v (.int .i64 a0.Loan)]]) (by decide) rfl rfl ((W_ref09_Copy hr10).le (.cons (.refl _) .nil)) ?_
            refine o_alloc hS (by decide) ty_zero24 (by omega) fun H hS => ?_
            refine o_store (v := .agg [.sl .no 4 (r10.Clauses.map Clause.cells), .v (.int .i64 r10.Loan)]) (ns := [.sl .no 4 (r10.Clauses.map Clause.cells), .v (.int .i64 r10.Loan)]) (L' := [(g3 + 2, .cells [.sl .no 4 (r10.Clauses.map Clause.cells), .v (.int .i64 r10.Loan)]), (g1 + 0, .row 3 l5.length), (g + 0, .cells [.sl .no 4 (a0.Clauses.map Clause.cells), .v (.int .i64 a0.Loan)])]) 0 hS rfl rfl .no rfl rfl ty_var24 (Nat.le_of_ble_eq_true rfl) rfl fun H hS => ?_
            refine run_nil ?_
            refine w_next [(1, .sl .no 1 (a1.map cI)), (2, .sl .no 1 (a2.map cI)), (3, .ptr (g + 0) 0), (7, .sl (.id (g1 + 0)) 1 (l5.map cI)), (9, .sl .no 3 (r7.1.map Split.cells)), (10, .v (.int .i64 r7.2.1)), (12, .ptr (g3 + 2) 0)] (.cons (.refl _) (.cons (.refl _) (.cons (.refl _) (.cons (.refl _) (.cons (.refl _) (.cons (.refl _) (.cons (.refl _) .nil))))))) ?_
            refine r_seq ?_
            refine r_region (n := 3) rfl ?_
            refine o_move (v := .v (.int .i64 r7.2.1)) (by decide) rfl ?_
            refine o_fieldP (by decide) ty_fo24_1 rfl ?_
            refine o_store (v := .v (.int .i64 r7.2.1)) (ns := [.v (.int .i64 r7.2.1)]) (L' := [(g3 + 2, .cells [.sl .no 4 (r10.Clauses.map Clause.cells), .v (.int .i64 r7.2.1)]), (g1 + 0, .row 3 l5.length), (g + 0, .cells [.sl .no 4 (a0.Clauses.map Clause.cells), .v (.int .i64 a0.Loan)])]) 0 hS rfl rfl .no rfl rfl ty_var3 (Nat.le_of_ble_eq_true rfl) rfl fun H hS => ?_
            refine run_nil ?_
            refine w_next [(1, .sl .no 1 (a1.map cI)), (2, .sl .no 1 (a2.map cI)), (3, .ptr (g + 0) 0), (7, .sl (.id (g1 + 0)) 1 (l5.map cI)), (9, .sl .no 3 (r7.1.map Split.cells)), (10, .v (.int .i64 r7.2.1)), (12, .ptr (g3 + 2) 0)] (.cons (.refl _) (.cons (.refl _) (.cons (.refl _) (.cons (.refl _) (.cons (.refl _) (.cons (.refl _) (.cons (.refl _) .nil))))))) ?_
            refine r_seq ?_
            have hS0 := hS
            refine r_draw (n := 12) rfl (by kernel_rfl) ?_
            refine o_load (v := .agg [.sl .no 4 (r10.Clauses.map Clause.cells), .v (.int .i64 r7.2.1)]) 0 hS (by decide) rfl rfl (.st hS0 0 rfl (by omega)) (part_agg ty_agg24 (Nat.le_of_ble_eq_true rfl) rfl) ?_
            refine o_buildSlice (es := []) hS (by decide) ty_es28 ty_el28 rfl ty_ef28 rfl (by decide) (by omega) fun H hS => ?_
            refine o_move (v := .sl .no 1 (a2.map cI)) (by decide) rfl ?_
            obtain ⟨l11, hl11, hM⟩ := bindE hM
            refine o_append (xs := ([] : List Int)) (ys := a2) (zs := l11) (f := cI) (L' := [(g3 + 4 + 3 + 1, .row 3 l11.length), (g3 + 2, .cells [.sl .no 4 (r10.Clauses.map Clause.cells), .v (.int .i64 r7.2.1)]), (g1 + 0, .row 3 l5.length), (g + 0, .cells [.sl .no 4 (a0.Clauses.map Clause.cells), .v (.int .i64 a0.Loan)])]) 0 hS (by decide) rfl rfl rfl rfl (.behind (by kernel_rfl)) ty_es28 ty_el28 ty_ef28 hl11 rfl fun H hS => ?_
            obtain ⟨r12, hr12, hM⟩ := bindE hM
            refine o_call (bs := [.agg [.sl .no 4 (r10.Clauses.map Clause.cells), .v (.int .i64 r7.2.1)], .sl (.id (g3 + 4 + 3 + 1)) 1 (l11.map cI)]) (by decide) rfl rfl ((W_shares_Weeks hr12).le (.cons (.aggL (.cons (.sl _ _ _) (.cons (.refl _) .nil))) (.cons (.sl _ _ _) .nil))) ?_
            refine o_move (v := .tup [.sl .no 3 (r12.1.map Split.cells), .v (.int .i64 r12.2.1), .v (.int .i64 r12.2.2)]) (by decide) rfl ?_
            refine o_extract (v := .sl .no 3 (r12.1.map Split.cells)) (by decide) rfl rfl ?_
            refine o_extract (v := .v (.int .i64 r12.2.1)) (by decide) rfl rfl ?_
            refine o_extract (v := .v (.int .i64 r12.2.2)) (by decide) rfl rfl ?_
            refine o_assign (v := .sl .no 3 (r12.1.map Split.cells)) (by decide) rfl ?_
            refine o_assign (v := .v (.int .i64 r12.2.1)) (by decide) rfl ?_
            refine o_assign (v := .v (.int .i64 r12.2.2)) (by decide) rfl ?_
            refine run_nil ?_
            replace hS := hS.keep (L' := [(g1 + 0, .row 3 l5.length), (g + 0, .cells [.sl .no 4 (a0.Clauses.map Clause.cells), .v (.int .i64 a0.Loan)])]) [false, false, true, true] rfl
            refine w_next [(1, .sl .no 1 (a1.map cI)), (2, .sl .no 1 (a2.map cI)), (3, .ptr (g + 0) 0), (7, .sl (.id (g1 + 0)) 1 (l5.map cI)), (9, .sl .no 3 (r7.1.map Split.cells)), (10, .v (.int .i64 r7.2.1)), (13, .sl .no 3 (r12.1.map Split.cells)), (14, .v (.int .i64 r12.2.1)), (15, .v (.int .i64 r12.2.2))] (.cons (.refl _) (.cons (.refl _) (.cons (.refl _) (.cons (.refl _) (.cons (.refl _) (.cons (.refl _) (.cons (.refl _) (.cons (.refl _) (.cons (.refl _) .nil))))))))) ?_
            refine r_seq ?_
            refine r_region (n := 10) rfl ?_
            refine o_load (v := .agg [.sl .no 4 (a0.Clauses.map Clause.cells), .v (.int .i64 a0.Loan)]) 1 hS (by decide) rfl rfl .no (part_agg ty_agg24 (Nat.le_of_ble_eq_true rfl) rfl) ?_
            refine o_move (v := .sl (.id (g1 + 0)) 1 (l5.map cI)) (by decide) rfl ?_
            obtain ⟨r13, hr13, hM⟩ := bindE hM
            refine o_call (bs := [.agg [.sl .no 4 (a0.Clauses.map Clause.cells), .v (.int .i64 a0.Loan)], .sl (.id (g1 + 0)) 1 (l5.map cI)]) (by decide) rfl rfl ((W_shares_Weeks hr13).le (.cons (.refl _) (.cons (.sl _ _ _) .nil))) ?_
            refine o_move (v := .tup [.sl .no 3 (r13.1.map Split.cells), .v (.int .i64 r13.2.1), .v (.int .i64 r13.2.2)]) (by decide) rfl ?_
            refine o_extract (v := .sl .no 3 (r13.1.map Split.cells)) (by decide) rfl rfl ?_
            refine o_extract (v := .v (.int .i64 r13.2.1)) (by decide) rfl rfl ?_
            refine o_extract (v := .v (.int .i64 r13.2.2)) (by decide) rfl rfl ?_
            refine o_assign (v := .sl .no 3 (r13.1.map Split.cells)) (by decide) rfl ?_
            refine o_assign (v := .v (.int .i64 r13.2.1)) (by decide) rfl ?_
            refine o_assign (v := .v (.int .i64 r13.2.2)) (by decide) rfl ?_
            refine run_nil ?_
            refine w_next [(1, .sl .no 1 (a1.map cI)), (2, .sl .no 1 (a2.map cI)), (3, .ptr (g + 0) 0), (7, .sl (.id (g1 + 0)) 1 (l5.map cI)), (9, .sl .no 3 (r7.1.map Split.cells)), (10, .v (.int .i64 r7.2.1)), (13, .sl .no 3 (r12.1.map Split.cells)), (14, .v (.int .i64 r12.2.1)), (15, .v (.int .i64 r12.2.2)), (16, .sl .no 3 (r13.1.map Split.cells)), (17, .v (.int .i64 r13.2.1)), (18, .v (.int .i64 r13.2.2))] (.cons (.refl _) (.cons (.refl _) (.cons (.refl _) (.cons (.refl _) (.cons (.refl _) (.cons (.refl _) (.cons (.refl _) (.cons (.refl _) (.cons (.refl _) (.cons (.refl _) (.cons (.refl _) (.cons (.refl _) .nil)))))))))))) ?_
            refine r_seq ?_
            refine w_join (J := Bool) (fun j => [(3, .ptr (g + 0) 0), (7, .sl (.id (g1 + 0)) 1 (l5.map cI)), (16, .sl .no 3 (r13.1.map Split.cells)), (150, .v (.bool j))]) (fun j H' g' => St (· < g) H0 [(g1 + 0, .row 3 l5.length), (g + 0, .cells [.sl .no 4 (a0.Clauses.map Clause.cells), .v (.int .i64 a0.Loan)])] H' g' ∧ law09_SharesLater_j4 n a0 l5 r13 j = some r) ?_ ?_
            · rintro v14 H g4 ⟨hS, hM⟩
              change wpA _ _ _ _ (Fr.of [(3, .ptr (g + 0) 0), (7, .sl (.id (g1 + 0)) 1 (l5.map cI)), (16, .sl .no 3 (r13.1.map Split.cells)), (150, .v (.bool v14))]) _ _
              replace hS : St (· < g) H0 [(g1 + 0, .row 3 l5.length), (g + 0, .cells [.sl .no 4 (a0.Clauses.map Clause.cells), .v (.int .i64 a0.Loan)])] H g4 := hS
              replace hM : law09_SharesLater_j4 n a0 l5 r13 v14 = some r := hM
              rcases Bool.eq_false_or_eq_true v14 with hb15 | hb15
              · replace hM := ifT hM hb15
                refine w_condT (e := v14) rfl hb15 ?_
                refine r_seq ?_
                refine r_region (n := 1) rfl ?_
                refine o_assign (v := .v (.bool false)) (by decide) rfl ?_
                refine run_nil ?_
                replace hS := hS.keep (L' := []) [false, false] rfl
                refine w_next [(6, .v (.bool false))] (.cons (.refl _) .nil) ?_
                refine r_ret ?_
                refine r_then_ret ?_
                refine w_end (x := .v (.bool false)) (f := fun r => .v (.bool r)) (.inr rfl) ?_ (.refl _) (Option.some.inj hM) hS
                exact (res_one (res_tmp (x := .v (.bool false)) rfl))
              · replace hM := ifF hM hb15
                refine w_condF (e := v14) rfl hb15 ?_
                refine r_skip ?_
                refine w_next [(3, .ptr (g + 0) 0), (7, .sl (.id (g1 + 0)) 1 (l5.map cI)), (16, .sl .no 3 (r13.1.map Split.cells))] (.cons (.refl _) (.cons (.refl _) (.cons (.refl _) .nil))) ?_
                refine r_seq ?_
                refine r_seq ?_
                refine r_region (n := 3) rfl ?_
                refine o_move (v := .sl (.id (g1 + 0)) 1 (l5.map cI)) (by decide) rfl ?_
                refine o_len (n := l5.length) (by decide) rfl (List.length_map _) ty_isl28 ?_
                refine o_int (v := .v (.bool ((l5.length : Int) == 0))) (by decide) rfl rfl rfl ?_
                refine run_nil ?_
                refine w_next [(3, .ptr (g + 0) 0), (7, .sl (.id (g1 + 0)) 1 (l5.map cI)), (16, .sl .no 3 (r13.1.map Split.cells)), (153, .v (.bool ((l5.length : Int) == 0)))] (.cons (.refl _) (.cons (.refl _) (.cons (.refl _) (.cons (.refl _) .nil)))) ?_
                rcases Bool.eq_false_or_eq_true ((l5.length : Int) == 0) with hb16 | hb16
                · replace hM := ifT hM hb16
                  refine w_condT (e := ((l5.length : Int) == 0)) rfl hb16 ?_
                  refine r_seq ?_
                  refine r_region (n := 2) rfl ?_
                  obtain ⟨r17, hr17, hM⟩ := bindE hM
                  refine o_call (bs := []) (by decide) rfl rfl ((W_law09_works hr17).le .nil) ?_
                  refine o_assign (v := .v (.bool r17)) (by decide) rfl ?_
                  refine run_nil ?_
                  replace hS := hS.keep (L' := []) [false, false] rfl
                  refine w_next [(6, .v (.bool r17))] (.cons (.refl _) .nil) ?_
                  refine r_ret ?_
                  refine r_then_ret ?_
                  refine w_end (x := .v (.bool r17)) (f := fun r => .v (.bool r)) (.inr rfl) ?_ (.refl _) (Option.some.inj hM) hS
                  exact (res_one (res_tmp (x := .v (.bool r17)) rfl))
                · replace hM := ifF hM hb16
                  refine w_condF (e := ((l5.length : Int) == 0)) rfl hb16 ?_
                  refine r_skip ?_
                  refine w_next [(3, .ptr (g + 0) 0), (7, .sl (.id (g1 + 0)) 1 (l5.map cI)), (16, .sl .no 3 (r13.1.map Split.cells))] (.cons (.refl _) (.cons (.refl _) (.cons (.refl _) .nil))) ?_
                  refine r_seq ?_
                  have hS0 := hS
                  refine r_draw (n := 11) rfl (by kernel_rfl) ?_
                  refine o_load (v := .agg [.sl .no 4 (a0.Clauses.map Clause.cells), .v (.int .i64 a0.Loan)]) 1 hS (by decide) rfl rfl (.st hS0 1 rfl (by omega)) (part_agg ty_agg24 (Nat.le_of_ble_eq_true rfl) rfl) ?_
                  refine o_move (v := .sl (.id (g1 + 0)) 1 (l5.map cI)) (by decide) rfl ?_
                  obtain ⟨x18, hx18, hM⟩ := bindE hM
                  refine o_index (xs := l5) (f := cI) (z := 0) (u := x18) (by decide) rfl rfl ty_es28 hx18 ?_
                  refine o_loadE (v := .v (.int .i64 x18)) (by decide) rfl (part_one ty_agg3 ty_sc3 rfl) ?_
                  obtain ⟨r19, hr19, hM⟩ := bindE hM
                  refine o_call (bs := [.agg [.sl .no 4 (a0.Clauses.map Clause.cells), .v (.int .i64 a0.Loan)], .v (.int .i64 x18)]) (by decide) rfl rfl ((W_shares_Week hr19).le (.cons (.refl _) (.cons (.refl _) .nil))) ?_
                  refine o_move (v := .tup [.agg [.v (.int .i64 r19.1.Operator), .v (.int .i64 r19.1.Owner), .v (.int .i64 r19.1.Repaid)], .v (.int .i64 r19.2)]) (by decide) rfl ?_
                  refine o_extract (v := .agg [.v (.int .i64 r19.1.Operator), .v (.int .i64 r19.1.Owner), .v (.int .i64 r19.1.Repaid)]) (by decide) rfl rfl ?_
                  refine o_extract (v := .v (.int .i64 r19.2)) (by decide) rfl rfl ?_
                  refine o_alloc hS (by decide) ty_zero41 (by omega) fun H hS => ?_
                  refine o_store (v := .agg [.v (.int .i64 r19.1.Operator), .v (.int .i64 r19.1.Owner), .v (.int .i64 r19.1.Repaid)]) (ns := [.v (.int .i64 r19.1.Operator), .v (.int .i64 r19.1.Owner), .v (.int .i64 r19.1.Repaid)]) (L' := [(g4 + 3 + 8, .cells [.v (.int .i64 r19.1.Operator), .v (.int .i64 r19.1.Owner), .v (.int .i64 r19.1.Repaid)]), (g1 + 0, .row 3 l5.length), (g + 0, .cells [.sl .no 4 (a0.Clauses.map Clause.cells), .v (.int .i64 a0.Loan)])]) 0 hS rfl rfl (.behind (by kernel_rfl)) rfl rfl ty_var41 (Nat.le_of_ble_eq_true rfl) rfl fun H hS => ?_
                  refine o_assign (v := .v (.int .i64 r19.2)) (by decide) rfl ?_
                  refine run_nil ?_
                  replace hS := hS.keep (L' := [(g4 + 3 + 8, .cells [.v (.int .i64 r19.1.Operator), .v (.int .i64 r19.1.Owner), .v (.int .i64 r19.1.Repaid)])]) [true, false, false] rfl
                  refine w_next [(16, .sl .no 3 (r13.1.map Split.cells)), (19, .ptr (g4 + 3 + 8) 0), (20, .v (.int .i64 r19.2))] (.cons (.refl _) (.cons (.refl _) (.cons (.refl _) .nil))) ?_
                  refine w_join (J := Bool) (fun j => [(6, .v (.bool j))]) (fun j H' g' => St (· < g) H0 [] H' g' ∧ law09_SharesLater_j5 j = some r) ?_ ?_
                  · rintro v20 H g5 ⟨hS, hM⟩
                    change wpA _ _ _ _ (Fr.of [(6, .v (.bool v20))]) _ _
                    replace hS : St (· < g) H0 [] H g5 := hS
                    replace hM : law09_SharesLater_j5 v20 = some r := hM
                    refine r_ret ?_
                    refine w_end (x := .v (.bool v20)) (f := fun r => .v (.bool r)) (.inr rfl) ?_ (.refl _) (Option.some.inj hM) hS
                    exact (res_one (res_tmp (x := .v (.bool v20)) rfl))
                  · have hS0 := hS
                    refine r_draw (n := 13) rfl (by kernel_rfl) ?_
                    refine o_move (v := .v (.int .i64 r19.2)) (by decide) rfl ?_
                    refine o_int (v := .v (.bool (r19.2 == 0))) (by decide) rfl rfl rfl ?_
                    refine o_move (v := .v (.bool (r19.2 == 0))) (by decide) rfl ?_
                    rcases Bool.eq_false_or_eq_true (r19.2 == 0) with hb21 | hb21
                    · replace hM := ifT hM hb21
                      refine o_guardY (j := 2) (e := (r19.2 == 0)) (want := true) rfl hb21 ?_
                      refine o_load (v := .agg [.v (.int .i64 r19.1.Operator), .v (.int .i64 r19.1.Owner), .v (.int .i64 r19.1.Repaid)]) 0 hS (by decide) rfl rfl (.st hS0 0 rfl (by omega)) (part_agg ty_agg41 (Nat.le_of_ble_eq_true rfl) rfl) ?_
                      refine o_guardY (j := 2) (e := (r19.2 == 0)) (want := true) rfl hb21 ?_
                      refine o_move (v := .sl .no 3 (r13.1.map Split.cells)) (by decide) rfl ?_
                      refine o_guardY (j := 2) (e := (r19.2 == 0)) (want := true) rfl hb21 ?_
                      obtain ⟨x22, hx22, hM⟩ := bindE hM
                      refine o_index (xs := r13.1) (f := Split.cells) (z := 0) (u := x22) (by decide) rfl rfl ty_es59 hx22 ?_
                      refine o_guardY (j := 2) (e := (r19.2 == 0)) (want := true) rfl hb21 ?_
                      refine o_loadE (v := .agg [.v (.int .i64 x22.Operator), .v (.int .i64 x22.Owner), .v (.int .i64 x22.Repaid)]) (by decide) rfl (part_agg ty_agg41 (Nat.le_of_ble_eq_true rfl) rfl) ?_
                      refine o_guardY (j := 2) (e := (r19.2 == 0)) (want := true) rfl hb21 ?_
                      refine o_eqS (cs := [.v (.int .i64 r19.1.Operator), .v (.int .i64 r19.1.Owner), .v (.int .i64 r19.1.Repaid)]) (ds := [.v (.int .i64 x22.Operator), .v (.int .i64 x22.Owner), .v (.int .i64 x22.Repaid)]) (e := ((r19.1.Operator == x22.Operator) && ((r19.1.Owner == x22.Owner) && ((r19.1.Repaid == x22.Repaid) && true)))) (by decide) rfl rfl ty_flat41 rfl ?_
                      refine o_pickT (v := .v (.bool ((r19.1.Operator == x22.Operator) && ((r19.1.Owner == x22.Owner) && ((r19.1.Repaid == x22.Repaid) && true))))) (e := (r19.2 == 0)) (by decide) rfl hb21 rfl ?_
                      refine o_move (v := .v (.bool ((r19.1.Operator == x22.Operator) && ((r19.1.Owner == x22.Owner) && ((r19.1.Repaid == x22.Repaid) && true))))) (by decide) rfl ?_
                      rcases Bool.eq_false_or_eq_true ((r19.1.Operator == x22.Operator) && ((r19.1.Owner == x22.Owner) && ((r19.1.Repaid == x22.Repaid) && true))) with hb23 | hb23
                      · replace hM := ifT hM hb23
                        refine o_guardY (j := 9) (e := ((r19.1.Operator == x22.Operator) && ((r19.1.Owner == x22.Owner) && ((r19.1.Repaid == x22.Repaid) && true)))) (want := true) rfl hb23 ?_
                        obtain ⟨r24, hr24, hM⟩ := bindE hM
                        refine o_call (bs := []) (by decide) rfl rfl ((W_law09_works hr24).le .nil) ?_
                        refine o_pickT (v := .v (.bool r24)) (e := ((r19.1.Operator == x22.Operator) && ((r19.1.Owner == x22.Owner) && ((r19.1.Repaid == x22.Repaid) && true)))) (by decide) rfl hb23 rfl ?_
                        refine o_assign (v := .v (.bool r24)) (by decide) rfl ?_
                        refine run_nil ?_
                        exact w_goto r24 (.cons (.refl _) .nil) ⟨(hS.keep [false] rfl).up (by omega), hM⟩
                      · replace hM := ifF hM hb23
                        refine o_guardN (j := 9) (e := ((r19.1.Operator == x22.Operator) && ((r19.1.Owner == x22.Owner) && ((r19.1.Repaid == x22.Repaid) && true)))) (want := true) (by decide) rfl hb23 ?_
                        refine o_pickF (v := .v (.bool false)) (e := ((r19.1.Operator == x22.Operator) && ((r19.1.Owner == x22.Owner) && ((r19.1.Repaid == x22.Repaid) && true)))) (by decide) rfl hb23 rfl ?_
                        refine o_assign (v := .v (.bool false)) (by decide) rfl ?_
                        refine run_nil ?_
                        exact w_goto false (.cons (.refl _) .nil) ⟨(hS.keep [false] rfl).up (by omega), hM⟩
                    · replace hM := ifF hM hb21
                      refine o_guardN (j := 2) (e := (r19.2 == 0)) (want := true) (by decide) rfl hb21 ?_
                      refine o_guardN (j := 2) (e := (r19.2 == 0)) (want := true) (by decide) rfl hb21 ?_
                      refine o_guardN (j := 2) (e := (r19.2 == 0)) (want := true) (by decide) rfl hb21 ?_
                      refine o_guardN (j := 2) (e := (r19.2 == 0)) (want := true) (by decide) rfl hb21 ?_
                      refine o_guardN (j := 2) (e := (r19.2 == 0)) (want := true) (by decide) rfl hb21 ?_
                      refine o_pickF (v := .v (.bool false)) (e := (r19.2 == 0)) (by decide) rfl hb21 rfl ?_
                      refine o_move (v := .v (.bool false)) (by decide) rfl ?_
                      refine o_guardN (j := 9) (e := false) (want := true) (by decide) rfl rfl ?_
                      refine o_pickF (v := .v (.bool false)) (e := false) (by decide) rfl rfl rfl ?_
                      refine o_assign (v := .v (.bool false)) (by decide) rfl ?_
                      refine run_nil ?_
                      exact w_goto false (.cons (.refl _) .nil) ⟨(hS.keep [false] rfl).up (by omega), hM⟩
            · refine r_region (n := 52) rfl ?_
              refine o_move (v := .v (.int .i64 r12.2.2)) (by decide) rfl ?_
              refine o_int (v := .v (.bool (r12.2.2 != 0))) (by decide) rfl rfl rfl ?_
              refine o_move (v := .v (.bool (r12.2.2 != 0))) (by decide) rfl ?_
              rcases Bool.eq_false_or_eq_true (r12.2.2 != 0) with hb25 | hb25
              · replace hM := ifT hM hb25
                refine o_guardN (j := 2) (e := (r12.2.2 != 0)) (want := false) (by decide) rfl hb25 ?_
                refine o_guardN (j := 2) (e := (r12.2.2 != 0)) (want := false) (by decide) rfl hb25 ?_
                refine o_pickT (v := .v (.bool true)) (e := (r12.2.2 != 0)) (by decide) rfl hb25 rfl ?_
                refine o_move (v := .v (.bool true)) (by decide) rfl ?_
                refine o_guardN (j := 6) (e := true) (want := false) (by decide) rfl rfl ?_
                refine o_guardN (j := 6) (e := true) (want := false) (by decide) rfl rfl ?_
                refine o_guardN (j := 6) (e := true) (want := false) (by decide) rfl rfl ?_
                refine o_guardN (j := 6) (e := true) (want := false) (by decide) rfl rfl ?_
                refine o_guardN (j := 6) (e := true) (want := false) (by decide) rfl rfl ?_
                refine o_pickT (v := .v (.bool true)) (e := true) (by decide) rfl rfl rfl ?_
                refine o_move (v := .v (.bool true)) (by decide) rfl ?_
                refine o_guardN (j := 13) (e := true) (want := false) (by decide) rfl rfl ?_
                refine o_guardN (j := 13) (e := true) (want := false) (by decide) rfl rfl ?_
                refine o_guardN (j := 13) (e := true) (want := false) (by decide) rfl rfl ?_
                refine o_guardN (j := 13) (e := true) (want := false) (by decide) rfl rfl ?_
                refine o_guardN (j := 13) (e := true) (want := false) (by decide) rfl rfl ?_
                refine o_pickT (v := .v (.bool true)) (e := true) (by decide) rfl rfl rfl ?_
                refine o_move (v := .v (.bool true)) (by decide) rfl ?_
                refine o_guardN (j := 20) (e := true) (want := false) (by decide) rfl rfl ?_
                refine o_guardN (j := 20) (e := true) (want := false) (by decide) rfl rfl ?_
                refine o_guardN (j := 20) (e := true) (want := false) (by decide) rfl rfl ?_
                refine o_pickT (v := .v (.bool true)) (e := true) (by decide) rfl rfl rfl ?_
                refine o_move (v := .v (.bool true)) (by decide) rfl ?_
                refine o_guardN (j := 25) (e := true) (want := false) (by decide) rfl rfl ?_
                refine o_guardN (j := 25) (e := true) (want := false) (by decide) rfl rfl ?_
                refine o_pickT (v := .v (.bool true)) (e := true) (by decide) rfl rfl rfl ?_
                refine o_move (v := .v (.bool true)) (by decide) rfl ?_
                refine o_guardN (j := 29) (e := true) (want := false) (by decide) rfl rfl ?_
                refine o_guardN (j := 29) (e := true) (want := false) (by decide) rfl rfl ?_
                refine o_guardN (j := 29) (e := true) (want := false) (by decide) rfl rfl ?_
                refine o_pickT (v := .v (.bool true)) (e := true) (by decide) rfl rfl rfl ?_
                refine o_move (v := .v (.bool true)) (by decide) rfl ?_
                refine o_guardN (j := 34) (e := true) (want := false) (by decide) rfl rfl ?_
                refine o_guardN (j := 34) (e := true) (want := false) (by decide) rfl rfl ?_
                refine o_guardN (j := 34) (e := true) (want := false) (by decide) rfl rfl ?_
                refine o_guardN (j := 34) (e := true) (want := false) (by decide) rfl rfl ?_
                refine o_guardN (j := 34) (e := true) (want := false) (by decide) rfl rfl ?_
                refine o_guardN (j := 34) (e := true) (want := false) (by decide) rfl rfl ?_
                refine o_guardN (j := 34) (e := true) (want := false) (by decide) rfl rfl ?_
                refine o_pickT (v := .v (.bool true)) (e := true) (by decide) rfl rfl rfl ?_
                refine o_move (v := .v (.bool true)) (by decide) rfl ?_
                refine o_guardN (j := 43) (e := true) (want := false) (by decide) rfl rfl ?_
                refine o_guardN (j := 43) (e := true) (want := false) (by decide) rfl rfl ?_
                refine o_guardN (j := 43) (e := true) (want := false) (by decide) rfl rfl ?_
                refine o_guardN (j := 43) (e := true) (want := false) (by decide) rfl rfl ?_
                refine o_guardN (j := 43) (e := true) (want := false) (by decide) rfl rfl ?_
                refine o_guardN (j := 43) (e := true) (want := false) (by decide) rfl rfl ?_
                refine o_guardN (j := 43) (e := true) (want := false) (by decide) rfl rfl ?_
                refine o_pickT (v := .v (.bool true)) (e := true) (by decide) rfl rfl rfl ?_
                refine run_nil ?_
                exact w_goto true (.cons (.refl _) (.cons (.refl _) (.cons (.refl _) (.cons (.refl _) .nil)))) ⟨(hS.keep [true, true] rfl).up (by omega), hM⟩
              · replace hM := ifF hM hb25
                refine o_guardY (j := 2) (e := (r12.2.2 != 0)) (want := false) rfl hb25 ?_
                refine o_move (v := .v (.int .i64 r13.2.2)) (by decide) rfl ?_
                refine o_guardY (j := 2) (e := (r12.2.2 != 0)) (want := false) rfl hb25 ?_
                refine o_int (v := .v (.bool (r13.2.2 != 0))) (by decide) rfl rfl rfl ?_
                refine o_pickF (v := .v (.bool (r13.2.2 != 0))) (e := (r12.2.2 != 0)) (by decide) rfl hb25 rfl ?_
                refine o_move (v := .v (.bool (r13.2.2 != 0))) (by decide) rfl ?_
                rcases Bool.eq_false_or_eq_true (r13.2.2 != 0) with hb26 | hb26
                · replace hM := ifT hM hb26
                  refine o_guardN (j := 6) (e := (r13.2.2 != 0)) (want := false) (by decide) rfl hb26 ?_
                  refine o_guardN (j := 6) (e := (r13.2.2 != 0)) (want := false) (by decide) rfl hb26 ?_
                  refine o_guardN (j := 6) (e := (r13.2.2 != 0)) (want := false) (by decide) rfl hb26 ?_
                  refine o_guardN (j := 6) (e := (r13.2.2 != 0)) (want := false) (by decide) rfl hb26 ?_
                  refine o_guardN (j := 6) (e := (r13.2.2 != 0)) (want := false) (by decide) rfl hb26 ?_
                  refine o_pickT (v := .v (.bool true)) (e := (r13.2.2 != 0)) (by decide) rfl hb26 rfl ?_
                  refine o_move (v := .v (.bool true)) (by decide) rfl ?_
                  refine o_guardN (j := 13) (e := true) (want := false) (by decide) rfl rfl ?_
                  refine o_guardN (j := 13) (e := true) (want := false) (by decide) rfl rfl ?_
                  refine o_guardN (j := 13) (e := true) (want := false) (by decide) rfl rfl ?_
                  refine o_guardN (j := 13) (e := true) (want := false) (by decide) rfl rfl ?_
                  refine o_guardN (j := 13) (e := true) (want := false) (by decide) rfl rfl ?_
                  refine o_pickT (v := .v (.bool true)) (e := true) (by decide) rfl rfl rfl ?_
                  refine o_move (v := .v (.bool true)) (by decide) rfl ?_
                  refine o_guardN (j := 20) (e := true) (want := false) (by decide) rfl rfl ?_
                  refine o_guardN (j := 20) (e := true) (want := false) (by decide) rfl rfl ?_
                  refine o_guardN (j := 20) (e := true) (want := false) (by decide) rfl rfl ?_
                  refine o_pickT (v := .v (.bool true)) (e := true) (by decide) rfl rfl rfl ?_
                  refine o_move (v := .v (.bool true)) (by decide) rfl ?_
                  refine o_guardN (j := 25) (e := true) (want := false) (by decide) rfl rfl ?_
                  refine o_guardN (j := 25) (e := true) (want := false) (by decide) rfl rfl ?_
                  refine o_pickT (v := .v (.bool true)) (e := true) (by decide) rfl rfl rfl ?_
                  refine o_move (v := .v (.bool true)) (by decide) rfl ?_
                  refine o_guardN (j := 29) (e := true) (want := false) (by decide) rfl rfl ?_
                  refine o_guardN (j := 29) (e := true) (want := false) (by decide) rfl rfl ?_
                  refine o_guardN (j := 29) (e := true) (want := false) (by decide) rfl rfl ?_
                  refine o_pickT (v := .v (.bool true)) (e := true) (by decide) rfl rfl rfl ?_
                  refine o_move (v := .v (.bool true)) (by decide) rfl ?_
                  refine o_guardN (j := 34) (e := true) (want := false) (by decide) rfl rfl ?_
                  refine o_guardN (j := 34) (e := true) (want := false) (by decide) rfl rfl ?_
                  refine o_guardN (j := 34) (e := true) (want := false) (by decide) rfl rfl ?_
                  refine o_guardN (j := 34) (e := true) (want := false) (by decide) rfl rfl ?_
                  refine o_guardN (j := 34) (e := true) (want := false) (by decide) rfl rfl ?_
                  refine o_guardN (j := 34) (e := true) (want := false) (by decide) rfl rfl ?_
                  refine o_guardN (j := 34) (e := true) (want := false) (by decide) rfl rfl ?_
                  refine o_pickT (v := .v (.bool true)) (e := true) (by decide) rfl rfl rfl ?_
                  refine o_move (v := .v (.bool true)) (by decide) rfl ?_
                  refine o_guardN (j := 43) (e := true) (want := false) (by decide) rfl rfl ?_
                  refine o_guardN (j := 43) (e := true) (want := false) (by decide) rfl rfl ?_
                  refine o_guardN (j := 43) (e := true) (want := false) (by decide) rfl rfl ?_
                  refine o_guardN (j := 43) (e := true) (want := false) (by decide) rfl rfl ?_
                  refine o_guardN (j := 43) (e := true) (want := false) (by decide) rfl rfl ?_
                  refine o_guardN (j := 43) (e := true) (want := false) (by decide) rfl rfl ?_
                  refine o_guardN (j := 43) (e := true) (want := false) (by decide) rfl rfl ?_
                  refine o_pickT (v := .v (.bool true)) (e := true) (by decide) rfl rfl rfl ?_
                  refine run_nil ?_
                  exact w_goto true (.cons (.refl _) (.cons (.refl _) (.cons (.refl _) (.cons (.refl _) .nil)))) ⟨(hS.keep [true, true] rfl).up (by omega), hM⟩
                · replace hM := ifF hM hb26
                  refine o_guardY (j := 6) (e := (r13.2.2 != 0)) (want := false) rfl hb26 ?_
                  refine o_move (v := .sl .no 3 (r12.1.map Split.cells)) (by decide) rfl ?_
                  refine o_guardY (j := 6) (e := (r13.2.2 != 0)) (want := false) rfl hb26 ?_
                  refine o_len (n := r12.1.length) (by decide) rfl (List.length_map _) ty_isl59 ?_
                  refine o_guardY (j := 6) (e := (r13.2.2 != 0)) (want := false) rfl hb26 ?_
                  refine o_move (v := .sl .no 1 (a2.map cI)) (by decide) rfl ?_
                  refine o_guardY (j := 6) (e := (r13.2.2 != 0)) (want := false) rfl hb26 ?_
                  refine o_len (n := a2.length) (by decide) rfl (List.length_map _) ty_isl28 ?_
                  refine o_guardY (j := 6) (e := (r13.2.2 != 0)) (want := false) rfl hb26 ?_
                  refine o_int (v := .v (.bool ((r12.1.length : Int) != (a2.length : Int)))) (by decide) rfl rfl rfl ?_
                  refine o_pickF (v := .v (.bool ((r12.1.length : Int) != (a2.length : Int)))) (e := (r13.2.2 != 0)) (by decide) rfl hb26 rfl ?_
                  refine o_move (v := .v (.bool ((r12.1.length : Int) != (a2.length : Int)))) (by decide) rfl ?_
                  rcases Bool.eq_false_or_eq_true ((r12.1.length : Int) != (a2.length : Int)) with hb27 | hb27
                  · replace hM := ifT hM hb27
                    refine o_guardN (j := 13) (e := ((r12.1.length : Int) != (a2.length : Int))) (want := false) (by decide) rfl hb27 ?_
                    refine o_guardN (j := 13) (e := ((r12.1.length : Int) != (a2.length : Int))) (want := false) (by decide) rfl hb27 ?_
                    refine o_guardN (j := 13) (e := ((r12.1.length : Int) != (a2.length : Int))) (want := false) (by decide) rfl hb27 ?_
                    refine o_guardN (j := 13) (e := ((r12.1.length : Int) != (a2.length : Int))) (want := false) (by decide) rfl hb27 ?_
                    refine o_guardN (j := 13) (e := ((r12.1.length : Int) != (a2.length : Int))) (want := false) (by decide) rfl hb27 ?_
                    refine o_pickT (v := .v (.bool true)) (e := ((r12.1.length : Int) != (a2.length : Int))) (by decide) rfl hb27 rfl ?_
                    refine o_move (v := .v (.bool true)) (by decide) rfl ?_
                    refine o_guardN (j := 20) (e := true) (want := false) (by decide) rfl rfl ?_
                    refine o_guardN (j := 20) (e := true) (want := false) (by decide) rfl rfl ?_
                    refine o_guardN (j := 20) (e := true) (want := false) (by decide) rfl rfl ?_
                    refine o_pickT (v := .v (.bool true)) (e := true) (by decide) rfl rfl rfl ?_
                    refine o_move (v := .v (.bool true)) (by decide) rfl ?_
                    refine o_guardN (j := 25) (e := true) (want := false) (by decide) rfl rfl ?_
                    refine o_guardN (j := 25) (e := true) (want := false) (by decide) rfl rfl ?_
                    refine o_pickT (v := .v (.bool true)) (e := true) (by decide) rfl rfl rfl ?_
                    refine o_move (v := .v (.bool true)) (by decide) rfl ?_
                    refine o_guardN (j := 29) (e := true) (want := false) (by decide) rfl rfl ?_
                    refine o_guardN (j := 29) (e := true) (want := false) (by decide) rfl rfl ?_
                    refine o_guardN (j := 29) (e := true) (want := false) (by decide) rfl rfl ?_
                    refine o_pickT (v := .v (.bool true)) (e := true) (by decide) rfl rfl rfl ?_
                    refine o_move (v := .v (.bool true)) (by decide) rfl ?_
                    refine o_guardN (j := 34) (e := true) (want := false) (by decide) rfl rfl ?_
                    refine o_guardN (j := 34) (e := true) (want := false) (by decide) rfl rfl ?_
                    refine o_guardN (j := 34) (e := true) (want := false) (by decide) rfl rfl ?_
                    refine o_guardN (j := 34) (e := true) (want := false) (by decide) rfl rfl ?_
                    refine o_guardN (j := 34) (e := true) (want := false) (by decide) rfl rfl ?_
                    refine o_guardN (j := 34) (e := true) (want := false) (by decide) rfl rfl ?_
                    refine o_guardN (j := 34) (e := true) (want := false) (by decide) rfl rfl ?_
                    refine o_pickT (v := .v (.bool true)) (e := true) (by decide) rfl rfl rfl ?_
                    refine o_move (v := .v (.bool true)) (by decide) rfl ?_
                    refine o_guardN (j := 43) (e := true) (want := false) (by decide) rfl rfl ?_
                    refine o_guardN (j := 43) (e := true) (want := false) (by decide) rfl rfl ?_
                    refine o_guardN (j := 43) (e := true) (want := false) (by decide) rfl rfl ?_
                    refine o_guardN (j := 43) (e := true) (want := false) (by decide) rfl rfl ?_
                    refine o_guardN (j := 43) (e := true) (want := false) (by decide) rfl rfl ?_
                    refine o_guardN (j := 43) (e := true) (want := false) (by decide) rfl rfl ?_
                    refine o_guardN (j := 43) (e := true) (want := false) (by decide) rfl rfl ?_
                    refine o_pickT (v := .v (.bool true)) (e := true) (by decide) rfl rfl rfl ?_
                    refine run_nil ?_
                    exact w_goto true (.cons (.refl _) (.cons (.refl _) (.cons (.refl _) (.cons (.refl _) .nil)))) ⟨(hS.keep [true, true] rfl).up (by omega), hM⟩
                  · replace hM := ifF hM hb27
                    refine o_guardY (j := 13) (e := ((r12.1.length : Int) != (a2.length : Int))) (want := false) rfl hb27 ?_
                    refine o_move (v := .sl .no 3 (r13.1.map Split.cells)) (by decide) rfl ?_
                    refine o_guardY (j := 13) (e := ((r12.1.length : Int) != (a2.length : Int))) (want := false) rfl hb27 ?_
                    refine o_len (n := r13.1.length) (by decide) rfl (List.length_map _) ty_isl59 ?_
                    refine o_guardY (j := 13) (e := ((r12.1.length : Int) != (a2.length : Int))) (want := false) rfl hb27 ?_
                    refine o_move (v := .sl (.id (g1 + 0)) 1 (l5.map cI)) (by decide) rfl ?_
                    refine o_guardY (j := 13) (e := ((r12.1.length : Int) != (a2.length : Int))) (want := false) rfl hb27 ?_
                    refine o_len (n := l5.length) (by decide) rfl (List.length_map _) ty_isl28 ?_
                    refine o_guardY (j := 13) (e := ((r12.1.length : Int) != (a2.length : Int))) (want := false) rfl hb27 ?_
                    refine o_int (v := .v (.bool ((r13.1.length : Int) != (l5.length : Int)))) (by decide) rfl rfl rfl ?_
                    refine o_pickF (v := .v (.bool ((r13.1.length : Int) != (l5.length : Int)))) (e := ((r12.1.length : Int) != (a2.length : Int))) (by decide) rfl hb27 rfl ?_
                    refine o_move (v := .v (.bool ((r13.1.length : Int) != (l5.length : Int)))) (by decide) rfl ?_
                    rcases Bool.eq_false_or_eq_true ((r13.1.length : Int) != (l5.length : Int)) with hb28 | hb28
                    · replace hM := ifT hM hb28
                      refine o_guardN (j := 20) (e := ((r13.1.length : Int) != (l5.length : Int))) (want := false) (by decide) rfl hb28 ?_
                      refine o_guardN (j := 20) (e := ((r13.1.length : Int) != (l5.length : Int))) (want := false) (by decide) rfl hb28 ?_
                      refine o_guardN (j := 20) (e := ((r13.1.length : Int) != (l5.length : Int))) (want := false) (by decide) rfl hb28 ?_
                      refine o_pickT (v := .v (.bool true)) (e := ((r13.1.length : Int) != (l5.length : Int))) (by decide) rfl hb28 rfl ?_
                      refine o_move (v := .v (.bool true)) (by decide) rfl ?_
                      refine o_guardN (j := 25) (e := true) (want := false) (by decide) rfl rfl ?_
                      refine o_guardN (j := 25) (e := true) (want := false) (by decide) rfl rfl ?_
                      refine o_pickT (v := .v (.bool true)) (e := true) (by decide) rfl rfl rfl ?_
                      refine o_move (v := .v (.bool true)) (by decide) rfl ?_
                      refine o_guardN (j := 29) (e := true) (want := false) (by decide) rfl rfl ?_
                      refine o_guardN (j := 29) (e := true) (want := false) (by decide) rfl rfl ?_
                      refine o_guardN (j := 29) (e := true) (want := false) (by decide) rfl rfl ?_
                      refine o_pickT (v := .v (.bool true)) (e := true) (by decide) rfl rfl rfl ?_
                      refine o_move (v := .v (.bool true)) (by decide) rfl ?_
                      refine o_guardN (j := 34) (e := true) (want := false) (by decide) rfl rfl ?_
                      refine o_guardN (j := 34) (e := true) (want := false) (by decide) rfl rfl ?_
                      refine o_guardN (j := 34) (e := true) (want := false) (by decide) rfl rfl ?_
                      refine o_guardN (j := 34) (e := true) (want := false) (by decide) rfl rfl ?_
                      refine o_guardN (j := 34) (e := true) (want := false) (by decide) rfl rfl ?_
                      refine o_guardN (j := 34) (e := true) (want := false) (by decide) rfl rfl ?_
                      refine o_guardN (j := 34) (e := true) (want := false) (by decide) rfl rfl ?_
                      refine o_pickT (v := .v (.bool true)) (e := true) (by decide) rfl rfl rfl ?_
                      refine o_move (v := .v (.bool true)) (by decide) rfl ?_
                      refine o_guardN (j := 43) (e := true) (want := false) (by decide) rfl rfl ?_
                      refine o_guardN (j := 43) (e := true) (want := false) (by decide) rfl rfl ?_
                      refine o_guardN (j := 43) (e := true) (want := false) (by decide) rfl rfl ?_
                      refine o_guardN (j := 43) (e := true) (want := false) (by decide) rfl rfl ?_
                      refine o_guardN (j := 43) (e := true) (want := false) (by decide) rfl rfl ?_
                      refine o_guardN (j := 43) (e := true) (want := false) (by decide) rfl rfl ?_
                      refine o_guardN (j := 43) (e := true) (want := false) (by decide) rfl rfl ?_
                      refine o_pickT (v := .v (.bool true)) (e := true) (by decide) rfl rfl rfl ?_
                      refine run_nil ?_
                      exact w_goto true (.cons (.refl _) (.cons (.refl _) (.cons (.refl _) (.cons (.refl _) .nil)))) ⟨(hS.keep [true, true] rfl).up (by omega), hM⟩
                    · replace hM := ifF hM hb28
                      refine o_guardY (j := 20) (e := ((r13.1.length : Int) != (l5.length : Int))) (want := false) rfl hb28 ?_
                      refine o_move (v := .v (.int .i64 r12.2.1)) (by decide) rfl ?_
                      refine o_guardY (j := 20) (e := ((r13.1.length : Int) != (l5.length : Int))) (want := false) rfl hb28 ?_
                      refine o_move (v := .v (.int .i64 r13.2.1)) (by decide) rfl ?_
                      refine o_guardY (j := 20) (e := ((r13.1.length : Int) != (l5.length : Int))) (want := false) rfl hb28 ?_
                      refine o_int (v := .v (.bool (r12.2.1 != r13.2.1))) (by decide) rfl rfl rfl ?_
                      refine o_pickF (v := .v (.bool (r12.2.1 != r13.2.1))) (e := ((r13.1.length : Int) != (l5.length : Int))) (by decide) rfl hb28 rfl ?_
                      refine o_move (v := .v (.bool (r12.2.1 != r13.2.1))) (by decide) rfl ?_
                      rcases Bool.eq_false_or_eq_true (r12.2.1 != r13.2.1) with hb29 | hb29
                      · replace hM := ifT hM hb29
                        refine o_guardN (j := 25) (e := (r12.2.1 != r13.2.1)) (want := false) (by decide) rfl hb29 ?_
                        refine o_guardN (j := 25) (e := (r12.2.1 != r13.2.1)) (want := false) (by decide) rfl hb29 ?_
                        refine o_pickT (v := .v (.bool true)) (e := (r12.2.1 != r13.2.1)) (by decide) rfl hb29 rfl ?_
                        refine o_move (v := .v (.bool true)) (by decide) rfl ?_
                        refine o_guardN (j := 29) (e := true) (want := false) (by decide) rfl rfl ?_
                        refine o_guardN (j := 29) (e := true) (want := false) (by decide) rfl rfl ?_
                        refine o_guardN (j := 29) (e := true) (want := false) (by decide) rfl rfl ?_
                        refine o_pickT (v := .v (.bool true)) (e := true) (by decide) rfl rfl rfl ?_
                        refine o_move (v := .v (.bool true)) (by decide) rfl ?_
                        refine o_guardN (j := 34) (e := true) (want := false) (by decide) rfl rfl ?_
                        refine o_guardN (j := 34) (e := true) (want := false) (by decide) rfl rfl ?_
                        refine o_guardN (j := 34) (e := true) (want := false) (by decide) rfl rfl ?_
                        refine o_guardN (j := 34) (e := true) (want := false) (by decide) rfl rfl ?_
                        refine o_guardN (j := 34) (e := true) (want := false) (by decide) rfl rfl ?_
                        refine o_guardN (j := 34) (e := true) (want := false) (by decide) rfl rfl ?_
                        refine o_guardN (j := 34) (e := true) (want := false) (by decide) rfl rfl ?_
                        refine o_pickT (v := .v (.bool true)) (e := true) (by decide) rfl rfl rfl ?_
                        refine o_move (v := .v (.bool true)) (by decide) rfl ?_
                        refine o_guardN (j := 43) (e := true) (want := false) (by decide) rfl rfl ?_
                        refine o_guardN (j := 43) (e := true) (want := false) (by decide) rfl rfl ?_
                        refine o_guardN (j := 43) (e := true) (want := false) (by decide) rfl rfl ?_
                        refine o_guardN (j := 43) (e := true) (want := false) (by decide) rfl rfl ?_
                        refine o_guardN (j := 43) (e := true) (want := false) (by decide) rfl rfl ?_
                        refine o_guardN (j := 43) (e := true) (want := false) (by decide) rfl rfl ?_
                        refine o_guardN (j := 43) (e := true) (want := false) (by decide) rfl rfl ?_
                        refine o_pickT (v := .v (.bool true)) (e := true) (by decide) rfl rfl rfl ?_
                        refine run_nil ?_
                        exact w_goto true (.cons (.refl _) (.cons (.refl _) (.cons (.refl _) (.cons (.refl _) .nil)))) ⟨(hS.keep [true, true] rfl).up (by omega), hM⟩
                      · replace hM := ifF hM hb29
                        refine o_guardY (j := 25) (e := (r12.2.1 != r13.2.1)) (want := false) rfl hb29 ?_
                        refine o_move (v := .v (.int .i64 r12.2.1)) (by decide) rfl ?_
                        refine o_guardY (j := 25) (e := (r12.2.1 != r13.2.1)) (want := false) rfl hb29 ?_
                        refine o_int (v := .v (.bool (decide (r12.2.1 < 0)))) (by decide) rfl rfl rfl ?_
                        refine o_pickF (v := .v (.bool (decide (r12.2.1 < 0)))) (e := (r12.2.1 != r13.2.1)) (by decide) rfl hb29 rfl ?_
                        refine o_move (v := .v (.bool (decide (r12.2.1 < 0)))) (by decide) rfl ?_
                        rcases Bool.eq_false_or_eq_true (decide (r12.2.1 < 0)) with hb30 | hb30
                        · replace hM := ifT hM hb30
                          refine o_guardN (j := 29) (e := (decide (r12.2.1 < 0))) (want := false) (by decide) rfl hb30 ?_
                          refine o_guardN (j := 29) (e := (decide (r12.2.1 < 0))) (want := false) (by decide) rfl hb30 ?_
                          refine o_guardN (j := 29) (e := (decide (r12.2.1 < 0))) (want := false) (by decide) rfl hb30 ?_
                          refine o_pickT (v := .v (.bool true)) (e := (decide (r12.2.1 < 0))) (by decide) rfl hb30 rfl ?_
                          refine o_move (v := .v (.bool true)) (by decide) rfl ?_
                          refine o_guardN (j := 34) (e := true) (want := false) (by decide) rfl rfl ?_
                          refine o_guardN (j := 34) (e := true) (want := false) (by decide) rfl rfl ?_
                          refine o_guardN (j := 34) (e := true) (want := false) (by decide) rfl rfl ?_
                          refine o_guardN (j := 34) (e := true) (want := false) (by decide) rfl rfl ?_
                          refine o_guardN (j := 34) (e := true) (want := false) (by decide) rfl rfl ?_
                          refine o_guardN (j := 34) (e := true) (want := false) (by decide) rfl rfl ?_
                          refine o_guardN (j := 34) (e := true) (want := false) (by decide) rfl rfl ?_
                          refine o_pickT (v := .v (.bool true)) (e := true) (by decide) rfl rfl rfl ?_
                          refine o_move (v := .v (.bool true)) (by decide) rfl ?_
                          refine o_guardN (j := 43) (e := true) (want := false) (by decide) rfl rfl ?_
                          refine o_guardN (j := 43) (e := true) (want := false) (by decide) rfl rfl ?_
                          refine o_guardN (j := 43) (e := true) (want := false) (by decide) rfl rfl ?_
                          refine o_guardN (j := 43) (e := true) (want := false) (by decide) rfl rfl ?_
                          refine o_guardN (j := 43) (e := true) (want := false) (by decide) rfl rfl ?_
                          refine o_guardN (j := 43) (e := true) (want := false) (by decide) rfl rfl ?_
                          refine o_guardN (j := 43) (e := true) (want := false) (by decide) rfl rfl ?_
                          refine o_pickT (v := .v (.bool true)) (e := true) (by decide) rfl rfl rfl ?_
                          refine run_nil ?_
                          exact w_goto true (.cons (.refl _) (.cons (.refl _) (.cons (.refl _) (.cons (.refl _) .nil)))) ⟨(hS.keep [true, true] rfl).up (by omega), hM⟩
                        · replace hM := ifF hM hb30
                          refine o_guardY (j := 29) (e := (decide (r12.2.1 < 0))) (want := false) rfl hb30 ?_
                          refine o_move (v := .v (.int .i64 r12.2.1)) (by decide) rfl ?_
                          refine o_guardY (j := 29) (e := (decide (r12.2.1 < 0))) (want := false) rfl hb30 ?_
                          refine o_move (v := .v (.int .i64 r7.2.1)) (by decide) rfl ?_
                          refine o_guardY (j := 29) (e := (decide (r12.2.1 < 0))) (want := false) rfl hb30 ?_
                          refine o_int (v := .v (.bool (decide (r12.2.1 > r7.2.1)))) (by decide) rfl rfl rfl ?_
                          refine o_pickF (v := .v (.bool (decide (r12.2.1 > r7.2.1)))) (e := (decide (r12.2.1 < 0))) (by decide) rfl hb30 rfl ?_
                          refine o_move (v := .v (.bool (decide (r12.2.1 > r7.2.1)))) (by decide) rfl ?_
                          rcases Bool.eq_false_or_eq_true (decide (r12.2.1 > r7.2.1)) with hb31 | hb31
                          · replace hM := ifT hM hb31
                            refine o_guardN (j := 34) (e := (decide (r12.2.1 > r7.2.1))) (want := false) (by decide) rfl hb31 ?_
                            refine o_guardN (j := 34) (e := (decide (r12.2.1 > r7.2.1))) (want := false) (by decide) rfl hb31 ?_
                            refine o_guardN (j := 34) (e := (decide (r12.2.1 > r7.2.1))) (want := false) (by decide) rfl hb31 ?_
                            refine o_guardN (j := 34) (e := (decide (r12.2.1 > r7.2.1))) (want := false) (by decide) rfl hb31 ?_
                            refine o_guardN (j := 34) (e := (decide (r12.2.1 > r7.2.1))) (want := false) (by decide) rfl hb31 ?_
                            refine o_guardN (j := 34) (e := (decide (r12.2.1 > r7.2.1))) (want := false) (by decide) rfl hb31 ?_
                            refine o_guardN (j := 34) (e := (decide (r12.2.1 > r7.2.1))) (want := false) (by decide) rfl hb31 ?_
                            refine o_pickT (v := .v (.bool true)) (e := (decide (r12.2.1 > r7.2.1))) (by decide) rfl hb31 rfl ?_
                            refine o_move (v := .v (.bool true)) (by decide) rfl ?_
                            refine o_guardN (j := 43) (e := true) (want := false) (by decide) rfl rfl ?_
                            refine o_guardN (j := 43) (e := true) (want := false) (by decide) rfl rfl ?_
                            refine o_guardN (j := 43) (e := true) (want := false) (by decide) rfl rfl ?_
                            refine o_guardN (j := 43) (e := true) (want := false) (by decide) rfl rfl ?_
                            refine o_guardN (j := 43) (e := true) (want := false) (by decide) rfl rfl ?_
                            refine o_guardN (j := 43) (e := true) (want := false) (by decide) rfl rfl ?_
                            refine o_guardN (j := 43) (e := true) (want := false) (by decide) rfl rfl ?_
                            refine o_pickT (v := .v (.bool true)) (e := true) (by decide) rfl rfl rfl ?_
                            refine run_nil ?_
                            exact w_goto true (.cons (.refl _) (.cons (.refl _) (.cons (.refl _) (.cons (.refl _) .nil)))) ⟨(hS.keep [true, true] rfl).up (by omega), hM⟩
                          · replace hM := ifF hM hb31
                            refine o_guardY (j := 34) (e := (decide (r12.2.1 > r7.2.1))) (want := false) rfl hb31 ?_
                            refine o_move (v := .sl .no 3 (r13.1.map Split.cells)) (by decide) rfl ?_
                            refine o_guardY (j := 34) (e := (decide (r12.2.1 > r7.2.1))) (want := false) rfl hb31 ?_
                            refine o_move (v := .sl .no 1 (a1.map cI)) (by decide) rfl ?_
                            refine o_guardY (j := 34) (e := (decide (r12.2.1 > r7.2.1))) (want := false) rfl hb31 ?_
                            refine o_len (n := a1.length) (by decide) rfl (List.length_map _) ty_isl28 ?_
                            refine o_guardY (j := 34) (e := (decide (r12.2.1 > r7.2.1))) (want := false) rfl hb31 ?_
                            obtain ⟨c32, hc32, hM⟩ := bindE hM
                            refine o_slice (xs := r13.1) (ys := c32) (f := Split.cells) (p := 0) (q := (a1.length : Int)) (by decide) rfl ty_es59 (.inl ⟨rfl, rfl⟩) (.inr rfl) hc32 ?_
                            refine o_guardY (j := 34) (e := (decide (r12.2.1 > r7.2.1))) (want := false) rfl hb31 ?_
                            refine o_move (v := .sl .no 3 (r7.1.map Split.cells)) (by decide) rfl ?_
                            refine o_guardY (j := 34) (e := (decide (r12.2.1 > r7.2.1))) (want := false) rfl hb31 ?_
                            obtain ⟨r33, hr33, hM⟩ := bindE hM
                            refine o_call (bs := [.sl .no 3 (c32.map Split.cells), .sl .no 3 (r7.1.map Split.cells)]) (by decide) rfl rfl ((W_law09_sameSplits hr33).le (.cons (.refl _) (.cons (.refl _) .nil))) ?_
                            refine o_guardY (j := 34) (e := (decide (r12.2.1 > r7.2.1))) (want := false) rfl hb31 ?_
                            refine o_not (e := r33) (by decide) rfl ?_
                            refine o_pickF (v := .v (.bool (!r33))) (e := (decide (r12.2.1 > r7.2.1))) (by decide) rfl hb31 rfl ?_
                            refine o_move (v := .v (.bool (!r33))) (by decide) rfl ?_
                            rcases Bool.eq_false_or_eq_true (!r33) with hb34 | hb34
                            · replace hM := ifT hM hb34
                              refine o_guardN (j := 43) (e := (!r33)) (want := false) (by decide) rfl hb34 ?_
                              refine o_guardN (j := 43) (e := (!r33)) (want := false) (by decide) rfl hb34 ?_
                              refine o_guardN (j := 43) (e := (!r33)) (want := false) (by decide) rfl hb34 ?_
                              refine o_guardN (j := 43) (e := (!r33)) (want := false) (by decide) rfl hb34 ?_
                              refine o_guardN (j := 43) (e := (!r33)) (want := false) (by decide) rfl hb34 ?_
                              refine o_guardN (j := 43) (e := (!r33)) (want := false) (by decide) rfl hb34 ?_
                              refine o_guardN (j := 43) (e := (!r33)) (want := false) (by decide) rfl hb34 ?_
                              refine o_pickT (v := .v (.bool true)) (e := (!r33)) (by decide) rfl hb34 rfl ?_
                              refine run_nil ?_
                              exact w_goto true (.cons (.refl _) (.cons (.refl _) (.cons (.refl _) (.cons (.refl _) .nil)))) ⟨(hS.keep [true, true] rfl).up (by omega), hM⟩
                            · replace hM := ifF hM hb34
                              refine o_guardY (j := 43) (e := (!r33)) (want := false) rfl hb34 ?_
                              refine o_move (v := .sl .no 3 (r13.1.map Split.cells)) (by decide) rfl ?_
                              refine o_guardY (j := 43) (e := (!r33)) (want := false) rfl hb34 ?_
                              refine o_move (v := .sl .no 1 (a1.map cI)) (by decide) rfl ?_
                              refine o_guardY (j := 43) (e := (!r33)) (want := false) rfl hb34 ?_
                              refine o_len (n := a1.length) (by decide) rfl (List.length_map _) ty_isl28 ?_
                              refine o_guardY (j := 43) (e := (!r33)) (want := false) rfl hb34 ?_
                              obtain ⟨c35, hc35, hM⟩ := bindE hM
                              refine o_slice (xs := r13.1) (ys := c35) (f := Split.cells) (p := (a1.length : Int)) (q := (r13.1.length : Int)) (by decide) rfl ty_es59 (.inr rfl) (.inl ⟨rfl, rfl⟩) hc35 ?_
                              refine o_guardY (j := 43) (e := (!r33)) (want := false) rfl hb34 ?_
                              refine o_move (v := .sl .no 3 (r12.1.map Split.cells)) (by decide) rfl ?_
                              refine o_guardY (j := 43) (e := (!r33)) (want := false) rfl hb34 ?_
                              obtain ⟨r36, hr36, hM⟩ := bindE hM
                              refine o_call (bs := [.sl .no 3 (c35.map Split.cells), .sl .no 3 (r12.1.map Split.cells)]) (by decide) rfl rfl ((W_law09_sameSplits hr36).le (.cons (.refl _) (.cons (.refl _) .nil))) ?_
                              refine o_guardY (j := 43) (e := (!r33)) (want := false) rfl hb34 ?_
                              refine o_not (e := r36) (by decide) rfl ?_
                              refine o_pickF (v := .v (.bool (!r36))) (e := (!r33)) (by decide) rfl hb34 rfl ?_
                              refine run_nil ?_
                              exact w_goto (!r36) (.cons (.refl _) (.cons (.refl _) (.cons (.refl _) (.cons (.refl _) .nil)))) ⟨(hS.keep [true, true] rfl).up (by omega), hM⟩
        · refine r_region (n := 19) rfl ?_
          refine o_move (v := .v (.int .i64 r7.2.2)) (by decide) rfl ?_
          refine o_int (v := .v (.bool (r7.2.2 != 0))) (by decide) rfl rfl rfl ?_
          refine o_move (v := .v (.bool (r7.2.2 != 0))) (by decide) rfl ?_
          rcases Bool.eq_false_or_eq_true (r7.2.2 != 0) with hb37 | hb37
          · replace hM := ifT hM hb37
            refine o_guardN (j := 2) (e := (r7.2.2 != 0)) (want := false) (by decide) rfl hb37 ?_
            refine o_guardN (j := 2) (e := (r7.2.2 != 0)) (want := false) (by decide) rfl hb37 ?_
            refine o_guardN (j := 2) (e := (r7.2.2 != 0)) (want := false) (by decide) rfl hb37 ?_
            refine o_guardN (j := 2) (e := (r7.2.2 != 0)) (want := false) (by decide) rfl hb37 ?_
            refine o_guardN (j := 2) (e := (r7.2.2 != 0)) (want := false) (by decide) rfl hb37 ?_
            refine o_pickT (v := .v (.bool true)) (e := (r7.2.2 != 0)) (by decide) rfl hb37 rfl ?_
            refine o_move (v := .v (.bool true)) (by decide) rfl ?_
            refine o_guardN (j := 9) (e := true) (want := false) (by decide) rfl rfl ?_
            refine o_guardN (j := 9) (e := true) (want := false) (by decide) rfl rfl ?_
            refine o_pickT (v := .v (.bool true)) (e := true) (by decide) rfl rfl rfl ?_
            refine o_move (v := .v (.bool true)) (by decide) rfl ?_
            refine o_guardN (j := 13) (e := true) (want := false) (by decide) rfl rfl ?_
            refine o_guardN (j := 13) (e := true) (want := false) (by decide) rfl rfl ?_
            refine o_guardN (j := 13) (e := true) (want := false) (by decide) rfl rfl ?_
            refine o_guardN (j := 13) (e := true) (want := false) (by decide) rfl rfl ?_
            refine o_pickT (v := .v (.bool true)) (e := true) (by decide) rfl rfl rfl ?_
            refine run_nil ?_
            exact w_goto true (.cons (.refl _) (.cons (.refl _) (.cons (.refl _) (.cons (.refl _) (.cons (.refl _) (.cons (.refl _) (.cons (.refl _) .nil))))))) ⟨(hS.keep [true, true] rfl).up (by omega), hM⟩
          · replace hM := ifF hM hb37
            refine o_guardY (j := 2) (e := (r7.2.2 != 0)) (want := false) rfl hb37 ?_
            refine o_move (v := .sl .no 3 (r7.1.map Split.cells)) (by decide) rfl ?_
            refine o_guardY (j := 2) (e := (r7.2.2 != 0)) (want := false) rfl hb37 ?_
            refine o_len (n := r7.1.length) (by decide) rfl (List.length_map _) ty_isl59 ?_
            refine o_guardY (j := 2) (e := (r7.2.2 != 0)) (want := false) rfl hb37 ?_
            refine o_move (v := .sl .no 1 (a1.map cI)) (by decide) rfl ?_
            refine o_guardY (j := 2) (e := (r7.2.2 != 0)) (want := false) rfl hb37 ?_
            refine o_len (n := a1.length) (by decide) rfl (List.length_map _) ty_isl28 ?_
            refine o_guardY (j := 2) (e := (r7.2.2 != 0)) (want := false) rfl hb37 ?_
            refine o_int (v := .v (.bool ((r7.1.length : Int) != (a1.length : Int)))) (by decide) rfl rfl rfl ?_
            refine o_pickF (v := .v (.bool ((r7.1.length : Int) != (a1.length : Int)))) (e := (r7.2.2 != 0)) (by decide) rfl hb37 rfl ?_
            refine o_move (v := .v (.bool ((r7.1.length : Int) != (a1.length : Int)))) (by decide) rfl ?_
            rcases Bool.eq_false_or_eq_true ((r7.1.length : Int) != (a1.length : Int)) with hb38 | hb38
            · replace hM := ifT hM hb38
              refine o_guardN (j := 9) (e := ((r7.1.length : Int) != (a1.length : Int))) (want := false) (by decide) rfl hb38 ?_
              refine o_guardN (j := 9) (e := ((r7.1.length : Int) != (a1.length : Int))) (want := false) (by decide) rfl hb38 ?_
              refine o_pickT (v := .v (.bool true)) (e := ((r7.1.length : Int) != (a1.length : Int))) (by decide) rfl hb38 rfl ?_
              refine o_move (v := .v (.bool true)) (by decide) rfl ?_
              refine o_guardN (j := 13) (e := true) (want := false) (by decide) rfl rfl ?_
              refine o_guardN (j := 13) (e := true) (want := false) (by decide) rfl rfl ?_
              refine o_guardN (j := 13) (e := true) (want := false) (by decide) rfl rfl ?_
              refine o_guardN (j := 13) (e := true) (want := false) (by decide) rfl rfl ?_
              refine o_pickT (v := .v (.bool true)) (e := true) (by decide) rfl rfl rfl ?_
              refine run_nil ?_
              exact w_goto true (.cons (.refl _) (.cons (.refl _) (.cons (.refl _) (.cons (.refl _) (.cons (.refl _) (.cons (.refl _) (.cons (.refl _) .nil))))))) ⟨(hS.keep [true, true] rfl).up (by omega), hM⟩
            · replace hM := ifF hM hb38
              refine o_guardY (j := 9) (e := ((r7.1.length : Int) != (a1.length : Int))) (want := false) rfl hb38 ?_
              refine o_move (v := .v (.int .i64 r7.2.1)) (by decide) rfl ?_
              refine o_guardY (j := 9) (e := ((r7.1.length : Int) != (a1.length : Int))) (want := false) rfl hb38 ?_
              refine o_int (v := .v (.bool (decide (r7.2.1 < 0)))) (by decide) rfl rfl rfl ?_
              refine o_pickF (v := .v (.bool (decide (r7.2.1 < 0)))) (e := ((r7.1.length : Int) != (a1.length : Int))) (by decide) rfl hb38 rfl ?_
              refine o_move (v := .v (.bool (decide (r7.2.1 < 0)))) (by decide) rfl ?_
              rcases Bool.eq_false_or_eq_true (decide (r7.2.1 < 0)) with hb39 | hb39
              · replace hM := ifT hM hb39
                refine o_guardN (j := 13) (e := (decide (r7.2.1 < 0))) (want := false) (by decide) rfl hb39 ?_
                refine o_guardN (j := 13) (e := (decide (r7.2.1 < 0))) (want := false) (by decide) rfl hb39 ?_
                refine o_guardN (j := 13) (e := (decide (r7.2.1 < 0))) (want := false) (by decide) rfl hb39 ?_
                refine o_guardN (j := 13) (e := (decide (r7.2.1 < 0))) (want := false) (by decide) rfl hb39 ?_
                refine o_pickT (v := .v (.bool true)) (e := (decide (r7.2.1 < 0))) (by decide) rfl hb39 rfl ?_
                refine run_nil ?_
                exact w_goto true (.cons (.refl _) (.cons (.refl _) (.cons (.refl _) (.cons (.refl _) (.cons (.refl _) (.cons (.refl _) (.cons (.refl _) .nil))))))) ⟨(hS.keep [true, true] rfl).up (by omega), hM⟩
              · replace hM := ifF hM hb39
                refine o_guardY (j := 13) (e := (decide (r7.2.1 < 0))) (want := false) rfl hb39 ?_
                refine o_move (v := .v (.int .i64 r7.2.1)) (by decide) rfl ?_
                refine o_guardY (j := 13) (e := (decide (r7.2.1 < 0))) (want := false) rfl hb39 ?_
                refine o_fieldP (by decide) ty_fo24_1 rfl ?_
                refine o_guardY (j := 13) (e := (decide (r7.2.1 < 0))) (want := false) rfl hb39 ?_
                refine o_load (v := .v (.int .i64 a0.Loan)) 1 hS (by decide) rfl rfl .no (part_one ty_agg3 ty_sc3 rfl) ?_
                refine o_guardY (j := 13) (e := (decide (r7.2.1 < 0))) (want := false) rfl hb39 ?_
                refine o_int (v := .v (.bool (decide (r7.2.1 > a0.Loan)))) (by decide) rfl rfl rfl ?_
                refine o_pickF (v := .v (.bool (decide (r7.2.1 > a0.Loan)))) (e := (decide (r7.2.1 < 0))) (by decide) rfl hb39 rfl ?_
                refine run_nil ?_
                exact w_goto (decide (r7.2.1 > a0.Loan)) (.cons (.refl _) (.cons (.refl _) (.cons (.refl _) (.cons (.refl _) (.cons (.refl _) (.cons (.refl _) (.cons (.refl _) .nil))))))) ⟨(hS.keep [true, true] rfl).up (by omega), hM⟩
      · refine r_seq ?_
        refine r_region (n := 1) rfl ?_
        refine o_assign (v := .v (.int .i64 0)) (by decide) rfl ?_
        refine run_nil ?_
        refine w_next [(1, .sl .no 1 (a1.map cI)), (2, .sl .no 1 (a2.map cI)), (3, .ptr (g + 0) 0), (7, .sl (.id (g1 + 0)) 1 (l5.map cI)), (8, .v (.int .i64 0))] (.cons (.refl _) (.cons (.refl _) (.cons (.refl _) (.cons (.refl _) (.cons (.refl _) .nil))))) ?_
        refine r_block ?_
        refine w_loop (V := Int) (fun v => [(1, .sl .no 1 (a1.map cI)), (2, .sl .no 1 (a2.map cI)), (3, .ptr (g + 0) 0), (7, .sl (.id (g1 + 0)) 1 (l5.map cI)), (8, .v (.int .i64 v))]) (fun v m H' g' => St (· < g) H0 [(g1 + 0, .row 3 l5.length), (g + 0, .cells [.sl .no 4 (a0.Clauses.map Clause.cells), .v (.int .i64 a0.Loan)])] H' g' ∧ law09_SharesLater_l1 n a0 a1 a2 l5 m v = some r) (n := n) 0 (.cons (.refl _) (.cons (.refl _) (.cons (.refl _) (.cons (.refl _) (.cons (.refl _) .nil))))) ⟨(hS.keep [true, true] rfl).up (by omega), hM⟩ ?_
        rintro v40 m H g6 ⟨hS, hM⟩
        obtain _ | m := m
        · exact nomatch (show none = some _ from hM)
        change wpA _ _ _ _ (Fr.of [(1, .sl .no 1 (a1.map cI)), (2, .sl .no 1 (a2.map cI)), (3, .ptr (g + 0) 0), (7, .sl (.id (g1 + 0)) 1 (l5.map cI)), (8, .v (.int .i64 v40))]) _ _
        replace hS : St (· < g) H0 [(g1 + 0, .row 3 l5.length), (g + 0, .cells [.sl .no 4 (a0.Clauses.map Clause.cells), .v (.int .i64 a0.Loan)])] H g6 := hS
        replace hM : law09_SharesLater_l1_b n a0 a1 a2 l5 (law09_SharesLater_l1 n a0 a1 a2 l5 m) v40 = some r := hM
        refine r_seq ?_
        refine r_seq ?_
        refine r_region (n := 4) rfl ?_
        refine o_move (v := .v (.int .i64 v40)) (by decide) rfl ?_
        refine o_move (v := .sl (.id (g1 + 0)) 1 (l5.map cI)) (by decide) rfl ?_
        refine o_len (n := l5.length) (by decide) rfl (List.length_map _) ty_isl28 ?_
        refine o_int (v := .v (.bool (decide (v40 < (l5.length : Int))))) (by decide) rfl rfl rfl ?_
        refine run_nil ?_
        refine w_next [(1, .sl .no 1 (a1.map cI)), (2, .sl .no 1 (a2.map cI)), (3, .ptr (g + 0) 0), (7, .sl (.id (g1 + 0)) 1 (l5.map cI)), (8, .v (.int .i64 v40)), (41, .v (.bool (decide (v40 < (l5.length : Int)))))] (.cons (.refl _) (.cons (.refl _) (.cons (.refl _) (.cons (.refl _) (.cons (.refl _) (.cons (.refl _) .nil)))))) ?_
        rcases Bool.eq_false_or_eq_true (decide (v40 < (l5.length : Int))) with hb41 | hb41
        · replace hM := ifT hM hb41
          refine w_condT (e := (decide (v40 < (l5.length : Int)))) rfl hb41 ?_
          refine r_skip ?_
          refine w_next [(1, .sl .no 1 (a1.map cI)), (2, .sl .no 1 (a2.map cI)), (3, .ptr (g + 0) 0), (7, .sl (.id (g1 + 0)) 1 (l5.map cI)), (8, .v (.int .i64 v40))] (.cons (.refl _) (.cons (.refl _) (.cons (.refl _) (.cons (.refl _) (.cons (.refl _) .nil))))) ?_
          refine r_seq ?_
          refine r_block ?_
          refine r_seq ?_
          refine r_region (n := 6) rfl ?_
          refine o_move (v := .sl (.id (g1 + 0)) 1 (l5.map cI)) (by decide) rfl ?_
          refine o_move (v := .v (.int .i64 v40)) (by decide) rfl ?_
          obtain ⟨x42, hx42, hM⟩ := bindE hM
          refine o_index (xs := l5) (f := cI) (z := v40) (u := x42) (by decide) rfl rfl ty_es28 hx42 ?_
          refine o_loadE (v := .v (.int .i64 x42)) (by decide) rfl (part_one ty_agg3 ty_sc3 rfl) ?_
          obtain ⟨r43, hr43, hM⟩ := bindE hM
          refine o_call (bs := [.v (.int .i64 x42)]) (by decide) rfl rfl ((W_ref09_IsCents hr43).le (.cons (.refl _) .nil)) ?_
          refine o_not (e := r43) (by decide) rfl ?_
          refine run_nil ?_
          refine w_next [(1, .sl .no 1 (a1.map cI)), (2, .sl .no 1 (a2.map cI)), (3, .ptr (g + 0) 0), (7, .sl (.id (g1 + 0)) 1 (l5.map cI)), (8, .v (.int .i64 v40)), (49, .v (.bool (!r43)))] (.cons (.refl _) (.cons (.refl _) (.cons (.refl _) (.cons (.refl _) (.cons (.refl _) (.cons (.refl _) .nil)))))) ?_
          rcases Bool.eq_false_or_eq_true (!r43) with hb44 | hb44
          · replace hM := ifT hM hb44
            refine w_condT (e := (!r43)) rfl hb44 ?_
            refine r_seq ?_
            refine r_region (n := 2) rfl ?_
            obtain ⟨r45, hr45, hM⟩ := bindE hM
            refine o_call (bs := []) (by decide) rfl rfl ((W_law09_works hr45).le .nil) ?_
            refine o_assign (v := .v (.bool r45)) (by decide) rfl ?_
            refine run_nil ?_
            replace hS := hS.keep (L' := []) [false, false] rfl
            refine w_next [(6, .v (.bool r45))] (.cons (.refl _) .nil) ?_
            refine r_ret ?_
            refine r_blk_ret ?_
            refine r_then_ret ?_
            refine w_round_ret ?_
            refine r_blk_ret ?_
            refine w_goto_ret ?_
            refine w_end (x := .v (.bool r45)) (f := fun r => .v (.bool r)) (.inr rfl) ?_ (.refl _) (Option.some.inj hM) hS
            exact (res_one (res_tmp (x := .v (.bool r45)) rfl))
          · replace hM := ifF hM hb44
            refine w_condF (e := (!r43)) rfl hb44 ?_
            refine r_skip ?_
            refine r_blk_normal ?_
            refine w_next [(1, .sl .no 1 (a1.map cI)), (2, .sl .no 1 (a2.map cI)), (3, .ptr (g + 0) 0), (7, .sl (.id (g1 + 0)) 1 (l5.map cI)), (8, .v (.int .i64 v40))] (.cons (.refl _) (.cons (.refl _) (.cons (.refl _) (.cons (.refl _) (.cons (.refl _) .nil))))) ?_
            refine r_region (n := 3) rfl ?_
            refine o_move (v := .v (.int .i64 v40)) (by decide) rfl ?_
            refine o_int (v := .v (.int .i64 (w64 (v40 + 1)))) (by decide) rfl rfl rfl ?_
            refine o_assign (v := .v (.int .i64 (w64 (v40 + 1)))) (by decide) rfl ?_
            refine run_nil ?_
            exact w_round (w64 (v40 + 1)) (Nat.lt_succ_self _) (.cons (.refl _) (.cons (.refl _) (.cons (.refl _) (.cons (.refl _) (.cons (.refl _) .nil))))) ⟨(hS.keep [true, true] rfl).up (by omega), hM⟩
        · replace hM := ifF hM hb41
          refine w_condF (e := (decide (v40 < (l5.length : Int)))) rfl hb41 ?_
          refine r_exit ?_
          refine r_then_exit ?_
          refine w_round_exit ?_
          refine r_blk_exit ?_
          exact w_goto () (.cons (.refl _) (.cons (.refl _) (.cons (.refl _) (.cons (.refl _) .nil)))) ⟨(hS.keep [true, true] rfl).up (by omega), hM⟩
  · refine r_region (n := 11) rfl ?_
    refine o_load (v := .agg [.sl .no 4 (a0.Clauses.map Clause.cells), .v (.int .i64 a0.Loan)]) 0 hS (by decide) rfl rfl .no (part_agg ty_agg24 (Nat.le_of_ble_eq_true rfl) rfl) ?_
    obtain ⟨r46, hr46, hM⟩ := bindE hM
    refine o_call (bs := [.agg [.sl .no 4 (a0.Clauses.map Clause.cells), .v (.int .i64 a0.Loan)]]) (by decide) rfl rfl ((W_law09_isShare hr46).le (.cons (.refl _) .nil)) ?_
    refine o_not (e := r46) (by decide) rfl ?_
    refine o_move (v := .v (.bool (!r46))) (by decide) rfl ?_
    rcases Bool.eq_false_or_eq_true (!r46) with hb47 | hb47
    · replace hM := ifT hM hb47
      refine o_guardN (j := 3) (e := (!r46)) (want := false) (by decide) rfl hb47 ?_
      refine o_guardN (j := 3) (e := (!r46)) (want := false) (by decide) rfl hb47 ?_
      refine o_guardN (j := 3) (e := (!r46)) (want := false) (by decide) rfl hb47 ?_
      refine o_guardN (j := 3) (e := (!r46)) (want := false) (by decide) rfl hb47 ?_
      refine o_guardN (j := 3) (e := (!r46)) (want := false) (by decide) rfl hb47 ?_
      refine o_guardN (j := 3) (e := (!r46)) (want := false) (by decide) rfl hb47 ?_
      refine o_pickT (v := .v (.bool true)) (e := (!r46)) (by decide) rfl hb47 rfl ?_
      refine run_nil ?_
      exact w_goto true (.cons (.refl _) (.cons (.refl _) (.cons (.refl _) (.cons (.refl _) .nil)))) ⟨(hS.keep [true] rfl).up (by omega), hM⟩
    · replace hM := ifF hM hb47
      refine o_guardY (j := 3) (e := (!r46)) (want := false) rfl hb47 ?_
      refine o_move (v := .sl .no 1 (a1.map cI)) (by decide) rfl ?_
      refine o_guardY (j := 3) (e := (!r46)) (want := false) rfl hb47 ?_
      refine o_len (n := a1.length) (by decide) rfl (List.length_map _) ty_isl28 ?_
      refine o_guardY (j := 3) (e := (!r46)) (want := false) rfl hb47 ?_
      refine o_move (v := .sl .no 1 (a2.map cI)) (by decide) rfl ?_
      refine o_guardY (j := 3) (e := (!r46)) (want := false) rfl hb47 ?_
      refine o_len (n := a2.length) (by decide) rfl (List.length_map _) ty_isl28 ?_
      refine o_guardY (j := 3) (e := (!r46)) (want := false) rfl hb47 ?_
      refine o_int (v := .v (.int .i64 (w64 ((a1.length : Int) + (a2.length : Int))))) (by decide) rfl rfl rfl ?_
      refine o_guardY (j := 3) (e := (!r46)) (want := false) rfl hb47 ?_
      refine o_int (v := .v (.bool (decide ((w64 ((a1.length : Int) + (a2.length : Int))) > 6)))) (by decide) rfl rfl rfl ?_
      refine o_pickF (v := .v (.bool (decide ((w64 ((a1.length : Int) + (a2.length : Int))) > 6)))) (e := (!r46)) (by decide) rfl hb47 rfl ?_
      refine run_nil ?_
      exact w_goto (decide ((w64 ((a1.length : Int) + (a2.length : Int))) > 6)) (.cons (.refl _) (.cons (.refl _) (.cons (.refl _) (.cons (.refl _) .nil)))) ⟨(hS.keep [true] rfl).up (by omega), hM⟩
end Go.Proofs.Ytkgldpboiigphaa
