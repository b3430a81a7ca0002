/-
  The code returns what the functions say (printed by gen.py).
  Conditions: none.
-/
import Derived.Test.YtkgldpboiigphaaWkSharesRepaid1
set_option linter.all false
namespace Go.Proofs.Ytkgldpboiigphaa
open Go Go.AM Go.Law
set_option linter.unusedVariables false
set_option maxRecDepth 4000
set_option maxHeartbeats 4000000
theorem W_law09_SharesRepaid {n : Nat} {a0 : Share} {a1 : Int} {r : Bool} (hM : law09_SharesRepaid n a0 a1 = some r) : PureSat Try.prog 11 [.agg [.sl .no 4 (a0.Clauses.map Clause.cells), .v (.int .i64 a0.Loan)], .v (.int .i64 a1)] (.v (.bool r)) := by
  refine pure_of_wp mixed Try.func11 rfl (by decide) Try.ntmps11 (by simp) ?pure fun H0 g hf => ?_
  case pure => exact .v _
  rw [frame0_of]
  change wpA _ _ _ _ (Fr.of [(0, .agg [.sl .no 4 (a0.Clauses.map Clause.cells), .v (.int .i64 a0.Loan)]), (1, .v (.int .i64 a1))]) H0 g
  have hS := St.start hf
  refine r_seq ?_
  refine r_region (n := 2) rfl ?_
  refine o_box (v := .agg [.sl .no 4 (a0.Clauses.map Clause.cells), .v (.int .i64 a0.Loan)]) (cs := [.sl .no 4 (a0.Clauses.map Clause.cells), .v (.int .i64 a0.Loan)]) hS (by decide) rfl rfl (by omega) fun H hS => ?_
  refine o_assign (v := .v (.bool false)) (by decide) rfl ?_
  refine run_nil ?_
  refine w_next [(1, .v (.int .i64 a1)), (2, .ptr (g + 0) 0)] (.cons (.refl _) (.cons (.refl _) .nil)) ?_
  refine r_seq ?_
  refine w_join (J := Bool) (fun j => [(1, .v (.int .i64 a1)), (2, .ptr (g + 0) 0), (19, .v (.bool j))]) (fun j H' g' => St (· < g) H0 [(g + 0, .cells [.sl .no 4 (a0.Clauses.map Clause.cells), .v (.int .i64 a0.Loan)])] H' g' ∧ law09_SharesRepaid_j1 n a0 a1 j = some r) ?_ ?_
  · rintro v1 H g1 ⟨hS, hM⟩
    change wpA _ _ _ _ (Fr.of [(1, .v (.int .i64 a1)), (2, .ptr (g + 0) 0), (19, .v (.bool v1))]) _ _
    replace hS : St (· < g) H0 [(g + 0, .cells [.sl .no 4 (a0.Clauses.map Clause.cells), .v (.int .i64 a0.Loan)])] H g1 := hS
    replace hM : law09_SharesRepaid_j1 n a0 a1 v1 = some r := hM
    rcases Bool.eq_false_or_eq_true v1 with hb2 | hb2
    · replace hM := ifT hM hb2
      refine w_condT (e := v1) rfl hb2 ?_
      refine r_seq ?_
      refine r_region (n := 2) rfl ?_
      obtain ⟨r3, hr3, hM⟩ := bindE hM
      refine o_call (bs := []) (by decide) rfl rfl ((W_law09_works hr3).le .nil) ?_
      refine o_assign (v := .v (.bool r3)) (by decide) rfl ?_
      refine run_nil ?_
      replace hS := hS.keep (L' := []) [false] rfl
      refine w_next [(4, .v (.bool r3))] (.cons (.refl _) .nil) ?_
      refine r_ret ?_
      refine r_then_ret ?_
      refine w_end (x := .v (.bool r3)) (f := fun r => .v (.bool r)) (.inr rfl) ?_ (.refl _) (Option.some.inj hM) hS
      exact (res_one (res_tmp (x := .v (.bool r3)) rfl))
    · replace hM := ifF hM hb2
      refine w_condF (e := v1) rfl hb2 ?_
      refine r_skip ?_
      refine w_next [(1, .v (.int .i64 a1)), (2, .ptr (g + 0) 0)] (.cons (.refl _) (.cons (.refl _) .nil)) ?_
      refine r_seq ?_
      refine r_region (n := 8) rfl ?_
      refine o_load (v := .agg [.sl .no 4 (a0.Clauses.map Clause.cells), .v (.int .i64 a0.Loan)]) 0 hS (by decide) rfl rfl .no (part_agg ty_agg24 (Nat.le_of_ble_eq_true rfl) rfl) ?_
      refine o_move (v := .v (.int .i64 a1)) (by decide) rfl ?_
      obtain ⟨r4, hr4, hM⟩ := bindE hM
      refine o_call (bs := [.agg [.sl .no 4 (a0.Clauses.map Clause.cells), .v (.int .i64 a0.Loan)], .v (.int .i64 a1)]) (by decide) rfl rfl ((W_shares_Repaid hr4).le (.cons (.refl _) (.cons (.refl _) .nil))) ?_
      refine o_move (v := .tup [.v (.int .i64 r4.1), .v (.int .i64 r4.2)]) (by decide) rfl ?_
      refine o_extract (v := .v (.int .i64 r4.1)) (by decide) rfl rfl ?_
      refine o_extract (v := .v (.int .i64 r4.2)) (by decide) rfl rfl ?_
      refine o_assign (v := .v (.int .i64 r4.1)) (by decide) rfl ?_
      refine o_assign (v := .v (.int .i64 r4.2)) (by decide) rfl ?_
      refine run_nil ?_
      refine w_next [(1, .v (.int .i64 a1)), (2, .ptr (g + 0) 0), (5, .v (.int .i64 r4.1)), (6, .v (.int .i64 r4.2))] (.cons (.refl _) (.cons (.refl _) (.cons (.refl _) (.cons (.refl _) .nil)))) ?_
      refine r_seq ?_
      refine w_join (J := Bool) (fun j => [(1, .v (.int .i64 a1)), (2, .ptr (g + 0) 0), (5, .v (.int .i64 r4.1)), (6, .v (.int .i64 r4.2)), (49, .v (.bool j))]) (fun j H' g' => St (· < g) H0 [(g + 0, .cells [.sl .no 4 (a0.Clauses.map Clause.cells), .v (.int .i64 a0.Loan)])] H' g' ∧ law09_SharesRepaid_j2 n a0 a1 r4 j = some r) ?_ ?_
      · rintro v5 H g2 ⟨hS, hM⟩
        change wpA _ _ _ _ (Fr.of [(1, .v (.int .i64 a1)), (2, .ptr (g + 0) 0), (5, .v (.int .i64 r4.1)), (6, .v (.int .i64 r4.2)), (49, .v (.bool v5))]) _ _
        replace hS : St (· < g) H0 [(g + 0, .cells [.sl .no 4 (a0.Clauses.map Clause.cells), .v (.int .i64 a0.Loan)])] H g2 := hS
        replace hM : law09_SharesRepaid_j2 n a0 a1 r4 v5 = some r := hM
        rcases Bool.eq_false_or_eq_true v5 with hb6 | hb6
        · replace hM := ifT hM hb6
          refine w_condT (e := v5) rfl hb6 ?_
          refine r_seq ?_
          refine r_region (n := 1) rfl ?_
          refine o_assign (v := .v (.bool false)) (by decide) rfl ?_
          refine run_nil ?_
          replace hS := hS.keep (L' := []) [false] rfl
          refine w_next [(4, .v (.bool false))] (.cons (.refl _) .nil) ?_
          refine r_ret ?_
          refine r_then_ret ?_
          refine w_end (x := .v (.bool false)) (f := fun r => .v (.bool r)) (.inr rfl) ?_ (.refl _) (Option.some.inj hM) hS
          exact (res_one (res_tmp (x := .v (.bool false)) rfl))
        · replace hM := ifF hM hb6
          refine w_condF (e := v5) rfl hb6 ?_
          refine r_skip ?_
          refine w_next [(1, .v (.int .i64 a1)), (2, .ptr (g + 0) 0), (5, .v (.int .i64 r4.1)), (6, .v (.int .i64 r4.2))] (.cons (.refl _) (.cons (.refl _) (.cons (.refl _) (.cons (.refl _) .nil)))) ?_
          refine r_seq ?_
          refine r_region (n := 1) rfl ?_
          refine o_assign (v := .sl .nil 0 []) (by decide) rfl ?_
          refine run_nil ?_
          refine w_own [(1, .v (.int .i64 a1)), (2, .ptr (g + 0) 0), (5, .v (.int .i64 r4.1)), (6, .v (.int .i64 r4.2)), (7, .sl (.id (g2 + 1)) 1 (([] : List Int).map cI))] 7 1 3 hS (by omega) (by decide) rfl (.cons (.refl _) (.cons (.refl _) (.cons (.refl _) (.cons (.refl _) (.cons (.refl _) .nil))))) fun H hS => ?_
          refine w_join (J := Unit) (fun j => []) (fun j H' g' => St (· < g) H0 [] H' g' ∧ law09_SharesRepaid_j3 n = some r) ?_ ?_
          · rintro _ H g3 ⟨hS, hM⟩
            change wpA _ _ _ _ (Fr.of []) _ _
            replace hS : St (· < g) H0 [] H g3 := hS
            replace hM : law09_SharesRepaid_j3 n = some r := hM
            refine r_seq ?_
            refine r_region (n := 2) rfl ?_
            obtain ⟨r7, hr7, hM⟩ := bindE hM
            refine o_call (bs := []) (by decide) rfl rfl ((W_law09_works hr7).le .nil) ?_
            refine o_assign (v := .v (.bool r7)) (by decide) rfl ?_
            refine run_nil ?_
            refine w_next [(4, .v (.bool r7))] (.cons (.refl _) .nil) ?_
            refine r_ret ?_
            refine w_end (x := .v (.bool r7)) (f := fun r => .v (.bool r)) (.inr rfl) ?_ (.refl _) (Option.some.inj hM) hS
            exact (res_one (res_tmp (x := .v (.bool r7)) rfl))
          · refine r_seq ?_
            refine r_region (n := 1) rfl ?_
            refine o_assign (v := .v (.int .i64 0)) (by decide) rfl ?_
            refine run_nil ?_
            refine w_next [(1, .v (.int .i64 a1)), (2, .ptr (g + 0) 0), (5, .v (.int .i64 r4.1)), (6, .v (.int .i64 r4.2)), (7, .sl (.id (g2 + 1)) 1 (([] : List Int).map cI)), (8, .v (.int .i64 0))] (.cons (.refl _) (.cons (.refl _) (.cons (.refl _) (.cons (.refl _) (.cons (.refl _) (.cons (.refl _) .nil)))))) ?_
            refine r_block ?_
            refine w_loop (V := (List Int) × Int) (fun v => [(1, .v (.int .i64 a1)), (2, .ptr (g + 0) 0), (5, .v (.int .i64 r4.1)), (6, .v (.int .i64 r4.2)), (7, .sl (.id (g2 + 1)) 1 (v.1.map cI)), (8, .v (.int .i64 v.2))]) (fun v m H' g' => St (· < g) H0 [(g2 + 1, .row 3 v.1.length), (g + 0, .cells [.sl .no 4 (a0.Clauses.map Clause.cells), .v (.int .i64 a0.Loan)])] H' g' ∧ law09_SharesRepaid_l1 n a0 a1 r4 m v.1 v.2 = some r) (n := n) (([] : List Int), 0) (.cons (.refl _) (.cons (.refl _) (.cons (.refl _) (.cons (.refl _) (.cons (.refl _) (.cons (.refl _) .nil)))))) ⟨(hS.keep [true, true] rfl).up (by omega), hM⟩ ?_
            rintro ⟨v8, v9⟩ m H g4 ⟨hS, hM⟩
            obtain _ | m := m
            · exact nomatch (show none = some _ from hM)
            change wpA _ _ _ _ (Fr.of [(1, .v (.int .i64 a1)), (2, .ptr (g + 0) 0), (5, .v (.int .i64 r4.1)), (6, .v (.int .i64 r4.2)), (7, .sl (.id (g2 + 1)) 1 (v8.map cI)), (8, .v (.int .i64 v9))]) _ _
            replace hS : St (· < g) H0 [(g2 + 1, .row 3 v8.length), (g + 0, .cells [.sl .no 4 (a0.Clauses.map Clause.cells), .v (.int .i64 a0.Loan)])] H g4 := hS
            replace hM : law09_SharesRepaid_l1_b n a0 a1 r4 (law09_SharesRepaid_l1 n a0 a1 r4 m) v8 v9 = some r := hM
            refine r_seq ?_
            refine r_seq ?_
            refine r_region (n := 2) rfl ?_
            refine o_move (v := .v (.int .i64 v9)) (by decide) rfl ?_
            refine o_int (v := .v (.bool (decide (v9 < 6)))) (by decide) rfl rfl rfl ?_
            refine run_nil ?_
            refine w_next [(1, .v (.int .i64 a1)), (2, .ptr (g + 0) 0), (5, .v (.int .i64 r4.1)), (6, .v (.int .i64 r4.2)), (7, .sl (.id (g2 + 1)) 1 (v8.map cI)), (8, .v (.int .i64 v9)), (51, .v (.bool (decide (v9 < 6))))] (.cons (.refl _) (.cons (.refl _) (.cons (.refl _) (.cons (.refl _) (.cons (.refl _) (.cons (.refl _) (.cons (.refl _) .nil))))))) ?_
            rcases Bool.eq_false_or_eq_true (decide (v9 < 6)) with hb10 | hb10
            · replace hM := ifT hM hb10
              refine w_condT (e := (decide (v9 < 6))) rfl hb10 ?_
              refine r_skip ?_
              refine w_next [(1, .v (.int .i64 a1)), (2, .ptr (g + 0) 0), (5, .v (.int .i64 r4.1)), (6, .v (.int .i64 r4.2)), (7, .sl (.id (g2 + 1)) 1 (v8.map cI)), (8, .v (.int .i64 v9))] (.cons (.refl _) (.cons (.refl _) (.cons (.refl _) (.cons (.refl _) (.cons (.refl _) (.cons (.refl _) .nil)))))) ?_
              refine r_seq ?_
              refine r_block ?_
              refine r_seq ?_
              refine r_region (n := 5) rfl ?_
              refine o_move (v := .sl (.id (g2 + 1)) 1 (v8.map cI)) (by decide) rfl ?_
              refine o_move (v := .v (.int .i64 a1)) (by decide) rfl ?_
              refine o_buildSlice (es := [[.v (.int .i64 a1)]]) hS (by decide) ty_es28 ty_el28 rfl ty_ef28 rfl (by decide) (by omega) fun H hS => ?_
              obtain ⟨l11, hl11, hM⟩ := bindE hM
              refine o_append (xs := v8) (ys := ([a1] : List Int)) (zs := l11) (f := cI) (L' := [(g4 + 2 + 2, .row 3 1), (g2 + 1, .row 3 l11.length), (g + 0, .cells [.sl .no 4 (a0.Clauses.map Clause.cells), .v (.int .i64 a0.Loan)])]) 1 hS (by decide) rfl rfl rfl rfl .no ty_es28 ty_el28 ty_ef28 hl11 rfl fun H hS => ?_
              refine o_assign (v := .sl (.id (g2 + 1)) 1 (l11.map cI)) (by decide) rfl ?_
              refine run_nil ?_
              replace hS := hS.keep (L' := [(g2 + 1, .row 3 l11.length), (g + 0, .cells [.sl .no 4 (a0.Clauses.map Clause.cells), .v (.int .i64 a0.Loan)])]) [false, true, true] rfl
              refine w_next [(1, .v (.int .i64 a1)), (2, .ptr (g + 0) 0), (5, .v (.int .i64 r4.1)), (6, .v (.int .i64 r4.2)), (7, .sl (.id (g2 + 1)) 1 (l11.map cI)), (8, .v (.int .i64 v9))] (.cons (.refl _) (.cons (.refl _) (.cons (.refl _) (.cons (.refl _) (.cons (.refl _) (.cons (.refl _) .nil)))))) ?_
              refine r_seq ?_
              have hS0 := hS
              refine r_draw (n := 12) rfl (by kernel_rfl) ?_
              refine o_load (v := .agg [.sl .no 4 (a0.Clauses.map Clause.cells), .v (.int .i64 a0.Loan)]) 1 hS (by decide) rfl rfl (.st hS0 1 rfl (by omega)) (part_agg ty_agg24 (Nat.le_of_ble_eq_true rfl) rfl) ?_
              refine o_buildSlice (es := []) hS (by decide) ty_es28 ty_el28 rfl ty_ef28 rfl (by decide) (by omega) fun H hS => ?_
              refine o_move (v := .sl (.id (g2 + 1)) 1 (l11.map cI)) (by decide) rfl ?_
              obtain ⟨l12, hl12, hM⟩ := bindE hM
              refine o_append (xs := ([] : List Int)) (ys := l11) (zs := l12) (f := cI) (L' := [(g4 + 2 + 5 + 1, .row 3 l12.length), (g2 + 1, .row 3 l11.length), (g + 0, .cells [.sl .no 4 (a0.Clauses.map Clause.cells), .v (.int .i64 a0.Loan)])]) 0 hS (by decide) rfl rfl rfl rfl (.behind (by kernel_rfl)) ty_es28 ty_el28 ty_ef28 hl12 rfl fun H hS => ?_
              obtain ⟨r13, hr13, hM⟩ := bindE hM
              refine o_call (bs := [.agg [.sl .no 4 (a0.Clauses.map Clause.cells), .v (.int .i64 a0.Loan)], .sl (.id (g4 + 2 + 5 + 1)) 1 (l12.map cI)]) (by decide) rfl rfl ((W_shares_Weeks hr13).le (.cons (.refl _) (.cons (.sl _ _ _) .nil))) ?_
              refine o_move (v := .tup [.sl .no 3 (r13.1.map Split.cells), .v (.int .i64 r13.2.1), .v (.int .i64 r13.2.2)]) (by decide) rfl ?_
              refine o_extract (v := .sl .no 3 (r13.1.map Split.cells)) (by decide) rfl rfl ?_
              refine o_extract (v := .v (.int .i64 r13.2.1)) (by decide) rfl rfl ?_
              refine o_extract (v := .v (.int .i64 r13.2.2)) (by decide) rfl rfl ?_
              refine o_assign (v := .sl .no 3 (r13.1.map Split.cells)) (by decide) rfl ?_
              refine o_assign (v := .v (.int .i64 r13.2.1)) (by decide) rfl ?_
              refine o_assign (v := .v (.int .i64 r13.2.2)) (by decide) rfl ?_
              refine run_nil ?_
              replace hS := hS.keep (L' := [(g2 + 1, .row 3 l11.length), (g + 0, .cells [.sl .no 4 (a0.Clauses.map Clause.cells), .v (.int .i64 a0.Loan)])]) [false, true, true] rfl
              refine w_next [(1, .v (.int .i64 a1)), (2, .ptr (g + 0) 0), (5, .v (.int .i64 r4.1)), (6, .v (.int .i64 r4.2)), (7, .sl (.id (g2 + 1)) 1 (l11.map cI)), (8, .v (.int .i64 v9)), (10, .v (.int .i64 r13.2.1)), (11, .v (.int .i64 r13.2.2))] (.cons (.refl _) (.cons (.refl _) (.cons (.refl _) (.cons (.refl _) (.cons (.refl _) (.cons (.refl _) (.cons (.refl _) (.cons (.refl _) .nil)))))))) ?_
              refine w_join (J := Bool) (fun j => [(1, .v (.int .i64 a1)), (2, .ptr (g + 0) 0), (5, .v (.int .i64 r4.1)), (6, .v (.int .i64 r4.2)), (7, .sl (.id (g2 + 1)) 1 (l11.map cI)), (8, .v (.int .i64 v9)), (81, .v (.bool j))]) (fun j H' g' => St (· < g) H0 [(g2 + 1, .row 3 l11.length), (g + 0, .cells [.sl .no 4 (a0.Clauses.map Clause.cells), .v (.int .i64 a0.Loan)])] H' g' ∧ law09_SharesRepaid_j4 (law09_SharesRepaid_l1 n a0 a1 r4 m) v9 l11 j = some r) ?_ ?_
              · rintro v14 H g5 ⟨hS, hM⟩
                change wpA _ _ _ _ (Fr.of [(1, .v (.int .i64 a1)), (2, .ptr (g + 0) 0), (5, .v (.int .i64 r4.1)), (6, .v (.int .i64 r4.2)), (7, .sl (.id (g2 + 1)) 1 (l11.map cI)), (8, .v (.int .i64 v9)), (81, .v (.bool v14))]) _ _
                replace hS : St (· < g) H0 [(g2 + 1, .row 3 l11.length), (g + 0, .cells [.sl .no 4 (a0.Clauses.map Clause.cells), .v (.int .i64 a0.Loan)])] H g5 := hS
                replace hM : law09_SharesRepaid_j4 (law09_SharesRepaid_l1 n a0 a1 r4 m) v9 l11 v14 = some r := hM
                rcases Bool.eq_false_or_eq_true v14 with hb15 | hb15
                · replace hM := ifT hM hb15
                  refine w_condT (e := v14) rfl hb15 ?_
                  refine r_seq ?_
                  refine r_region (n := 1) rfl ?_
                  refine o_assign (v := .v (.bool false)) (by decide) rfl ?_
                  refine run_nil ?_
                  replace hS := hS.keep (L' := []) [false, false] rfl
                  refine w_next [(4, .v (.bool false))] (.cons (.refl _) .nil) ?_
                  refine r_ret ?_
                  refine r_blk_ret ?_
                  refine r_then_ret ?_
                  refine w_round_ret ?_
                  refine r_blk_ret ?_
                  refine w_goto_ret ?_
                  refine w_end (x := .v (.bool false)) (f := fun r => .v (.bool r)) (.inr rfl) ?_ (.refl _) (Option.some.inj hM) hS
                  exact (res_one (res_tmp (x := .v (.bool false)) rfl))
                · replace hM := ifF hM hb15
                  refine w_condF (e := v14) rfl hb15 ?_
                  refine r_skip ?_
                  refine r_blk_normal ?_
                  refine w_next [(1, .v (.int .i64 a1)), (2, .ptr (g + 0) 0), (5, .v (.int .i64 r4.1)), (6, .v (.int .i64 r4.2)), (7, .sl (.id (g2 + 1)) 1 (l11.map cI)), (8, .v (.int .i64 v9))] (.cons (.refl _) (.cons (.refl _) (.cons (.refl _) (.cons (.refl _) (.cons (.refl _) (.cons (.refl _) .nil)))))) ?_
                  refine r_region (n := 3) rfl ?_
                  refine o_move (v := .v (.int .i64 v9)) (by decide) rfl ?_
                  refine o_int (v := .v (.int .i64 (w64 (v9 + 1)))) (by decide) rfl rfl rfl ?_
                  refine o_assign (v := .v (.int .i64 (w64 (v9 + 1)))) (by decide) rfl ?_
                  refine run_nil ?_
                  exact w_round (l11, w64 (v9 + 1)) (Nat.lt_succ_self _) (.cons (.refl _) (.cons (.refl _) (.cons (.refl _) (.cons (.refl _) (.cons (.refl _) (.cons (.refl _) .nil)))))) ⟨(hS.keep [true, true] rfl).up (by omega), hM⟩
              · refine r_region (n := 15) rfl ?_
                refine o_move (v := .v (.int .i64 r13.2.2)) (by decide) rfl ?_
                refine o_int (v := .v (.bool (r13.2.2 != 0))) (by decide) rfl rfl rfl ?_
                refine o_move (v := .v (.bool (r13.2.2 != 0))) (by decide) rfl ?_
                rcases Bool.eq_false_or_eq_true (r13.2.2 != 0) with hb16 | hb16
                · replace hM := ifT hM hb16
                  refine o_guardN (j := 2) (e := (r13.2.2 != 0)) (want := false) (by decide) rfl hb16 ?_
                  refine o_guardN (j := 2) (e := (r13.2.2 != 0)) (want := false) (by decide) rfl hb16 ?_
                  refine o_guardN (j := 2) (e := (r13.2.2 != 0)) (want := false) (by decide) rfl hb16 ?_
                  refine o_guardN (j := 2) (e := (r13.2.2 != 0)) (want := false) (by decide) rfl hb16 ?_
                  refine o_guardN (j := 2) (e := (r13.2.2 != 0)) (want := false) (by decide) rfl hb16 ?_
                  refine o_guardU (j := 7) (by decide) rfl ?_
                  refine o_guardU (j := 7) (by decide) rfl ?_
                  refine o_guardU (j := 7) (by decide) rfl ?_
                  refine o_guardU (j := 7) (by decide) rfl ?_
                  refine o_guardN (j := 2) (e := (r13.2.2 != 0)) (want := false) (by decide) rfl hb16 ?_
                  refine o_guardN (j := 2) (e := (r13.2.2 != 0)) (want := false) (by decide) rfl hb16 ?_
                  refine o_pickT (v := .v (.bool true)) (e := (r13.2.2 != 0)) (by decide) rfl hb16 rfl ?_
                  refine run_nil ?_
                  exact w_goto true (.cons (.refl _) (.cons (.refl _) (.cons (.refl _) (.cons (.refl _) (.cons (.refl _) (.cons (.refl _) (.cons (.refl _) .nil))))))) ⟨(hS.keep [true, true] rfl).up (by omega), hM⟩
                · replace hM := ifF hM hb16
                  refine o_guardY (j := 2) (e := (r13.2.2 != 0)) (want := false) rfl hb16 ?_
                  refine o_move (v := .v (.int .i64 r13.2.1)) (by decide) rfl ?_
                  refine o_guardY (j := 2) (e := (r13.2.2 != 0)) (want := false) rfl hb16 ?_
                  refine o_int (v := .v (.bool (r13.2.1 == 0))) (by decide) rfl rfl rfl ?_
                  refine o_guardY (j := 2) (e := (r13.2.2 != 0)) (want := false) rfl hb16 ?_
                  refine o_move (v := .v (.int .i64 r4.2)) (by decide) rfl ?_
                  refine o_guardY (j := 2) (e := (r13.2.2 != 0)) (want := false) rfl hb16 ?_
                  refine o_int (v := .v (.bool (r4.2 == 0))) (by decide) rfl rfl rfl ?_
                  refine o_guardY (j := 2) (e := (r13.2.2 != 0)) (want := false) rfl hb16 ?_
                  refine o_move (v := .v (.bool (r4.2 == 0))) (by decide) rfl ?_
                  rcases Bool.eq_false_or_eq_true (r4.2 == 0) with hb17 | hb17
                  · replace hM := ifT hM hb17
                    refine o_guardY (j := 7) (e := (r4.2 == 0)) (want := true) rfl hb17 ?_
                    refine o_move (v := .v (.int .i64 r4.1)) (by decide) rfl ?_
                    refine o_guardY (j := 7) (e := (r4.2 == 0)) (want := true) rfl hb17 ?_
                    refine o_move (v := .v (.int .i64 v9)) (by decide) rfl ?_
                    refine o_guardY (j := 7) (e := (r4.2 == 0)) (want := true) rfl hb17 ?_
                    refine o_int (v := .v (.int .i64 (w64 (v9 + 1)))) (by decide) rfl rfl rfl ?_
                    refine o_guardY (j := 7) (e := (r4.2 == 0)) (want := true) rfl hb17 ?_
                    refine o_int (v := .v (.bool (decide (r4.1 ≤ (w64 (v9 + 1)))))) (by decide) rfl rfl rfl ?_
                    refine o_guardY (j := 2) (e := (r13.2.2 != 0)) (want := false) rfl hb16 ?_
                    refine o_pickT (v := .v (.bool (decide (r4.1 ≤ (w64 (v9 + 1)))))) (e := (r4.2 == 0)) (by decide) rfl hb17 rfl ?_
                    refine o_guardY (j := 2) (e := (r13.2.2 != 0)) (want := false) rfl hb16 ?_
                    refine o_neB (m := (r13.2.1 == 0)) (n := (decide (r4.1 ≤ (w64 (v9 + 1))))) (by decide) rfl rfl ty_bool4 ?_
                    refine o_pickF (v := .v (.bool (!((r13.2.1 == 0) == (decide (r4.1 ≤ (w64 (v9 + 1)))))))) (e := (r13.2.2 != 0)) (by decide) rfl hb16 rfl ?_
                    refine run_nil ?_
                    exact w_goto (!((r13.2.1 == 0) == (decide (r4.1 ≤ (w64 (v9 + 1)))))) (.cons (.refl _) (.cons (.refl _) (.cons (.refl _) (.cons (.refl _) (.cons (.refl _) (.cons (.refl _) (.cons (.refl _) .nil))))))) ⟨(hS.keep [true, true] rfl).up (by omega), hM⟩
                  · replace hM := ifF hM hb17
                    refine o_guardN (j := 7) (e := (r4.2 == 0)) (want := true) (by decide) rfl hb17 ?_
                    refine o_guardN (j := 7) (e := (r4.2 == 0)) (want := true) (by decide) rfl hb17 ?_
                    refine o_guardN (j := 7) (e := (r4.2 == 0)) (want := true) (by decide) rfl hb17 ?_
                    refine o_guardN (j := 7) (e := (r4.2 == 0)) (want := true) (by decide) rfl hb17 ?_
                    refine o_guardY (j := 2) (e := (r13.2.2 != 0)) (want := false) rfl hb16 ?_
                    refine o_pickF (v := .v (.bool false)) (e := (r4.2 == 0)) (by decide) rfl hb17 rfl ?_
                    refine o_guardY (j := 2) (e := (r13.2.2 != 0)) (want := false) rfl hb16 ?_
                    refine o_neB (m := (r13.2.1 == 0)) (n := false) (by decide) rfl rfl ty_bool4 ?_
                    refine o_pickF (v := .v (.bool (!((r13.2.1 == 0) == false)))) (e := (r13.2.2 != 0)) (by decide) rfl hb16 rfl ?_
                    refine run_nil ?_
                    exact w_goto (!((r13.2.1 == 0) == false)) (.cons (.refl _) (.cons (.refl _) (.cons (.refl _) (.cons (.refl _) (.cons (.refl _) (.cons (.refl _) (.cons (.refl _) .nil))))))) ⟨(hS.keep [true, true] rfl).up (by omega), hM⟩
            · replace hM := ifF hM hb10
              refine w_condF (e := (decide (v9 < 6))) rfl hb10 ?_
              refine r_exit ?_
              refine r_then_exit ?_
              refine w_round_exit ?_
              refine r_blk_exit ?_
              exact w_goto () .nil ⟨(hS.keep [false, false] rfl).up (by omega), hM⟩
      · refine r_region (n := 23) rfl ?_
        refine o_move (v := .v (.int .i64 r4.2)) (by decide) rfl ?_
        obtain ⟨r18, hr18, hM⟩ := bindE hM
        refine o_call (bs := [.v (.int .i64 r4.2)]) (by decide) rfl rfl ((W_law09_isKnown hr18).le (.cons (.refl _) .nil)) ?_
        refine o_not (e := r18) (by decide) rfl ?_
        refine o_move (v := .v (.bool (!r18))) (by decide) rfl ?_
        rcases Bool.eq_false_or_eq_true (!r18) with hb19 | hb19
        · replace hM := ifT hM hb19
          refine o_guardN (j := 3) (e := (!r18)) (want := false) (by decide) rfl hb19 ?_
          refine o_guardN (j := 3) (e := (!r18)) (want := false) (by decide) rfl hb19 ?_
          refine o_guardN (j := 3) (e := (!r18)) (want := false) (by decide) rfl hb19 ?_
          refine o_guardU (j := 6) (by decide) rfl ?_
          refine o_guardU (j := 6) (by decide) rfl ?_
          refine o_guardU (j := 6) (by decide) rfl ?_
          refine o_guardU (j := 9) (by decide) rfl ?_
          refine o_guardU (j := 9) (by decide) rfl ?_
          refine o_guardU (j := 6) (by decide) rfl ?_
          refine o_guardU (j := 6) (by decide) rfl ?_
          refine o_guardU (j := 13) (by decide) rfl ?_
          refine o_guardU (j := 13) (by decide) rfl ?_
          refine o_guardU (j := 13) (by decide) rfl ?_
          refine o_guardU (j := 13) (by decide) rfl ?_
          refine o_guardU (j := 13) (by decide) rfl ?_
          refine o_guardU (j := 13) (by decide) rfl ?_
          refine o_guardU (j := 6) (by decide) rfl ?_
          refine o_guardN (j := 3) (e := (!r18)) (want := false) (by decide) rfl hb19 ?_
          refine o_pickT (v := .v (.bool true)) (e := (!r18)) (by decide) rfl hb19 rfl ?_
          refine run_nil ?_
          exact w_goto true (.cons (.refl _) (.cons (.refl _) (.cons (.refl _) (.cons (.refl _) (.cons (.refl _) .nil))))) ⟨(hS.keep [true] rfl).up (by omega), hM⟩
        · replace hM := ifF hM hb19
          refine o_guardY (j := 3) (e := (!r18)) (want := false) rfl hb19 ?_
          refine o_move (v := .v (.int .i64 r4.2)) (by decide) rfl ?_
          refine o_guardY (j := 3) (e := (!r18)) (want := false) rfl hb19 ?_
          refine o_int (v := .v (.bool (r4.2 == 0))) (by decide) rfl rfl rfl ?_
          refine o_guardY (j := 3) (e := (!r18)) (want := false) rfl hb19 ?_
          refine o_move (v := .v (.bool (r4.2 == 0))) (by decide) rfl ?_
          rcases Bool.eq_false_or_eq_true (r4.2 == 0) with hb20 | hb20
          · replace hM := ifT hM hb20
            refine o_guardY (j := 6) (e := (r4.2 == 0)) (want := true) rfl hb20 ?_
            refine o_move (v := .v (.int .i64 r4.1)) (by decide) rfl ?_
            refine o_guardY (j := 6) (e := (r4.2 == 0)) (want := true) rfl hb20 ?_
            refine o_int (v := .v (.bool (decide (r4.1 < 0)))) (by decide) rfl rfl rfl ?_
            refine o_guardY (j := 6) (e := (r4.2 == 0)) (want := true) rfl hb20 ?_
            refine o_move (v := .v (.bool (decide (r4.1 < 0)))) (by decide) rfl ?_
            rcases Bool.eq_false_or_eq_true (decide (r4.1 < 0)) with hb21 | hb21
            · replace hM := ifT hM hb21
              refine o_guardN (j := 9) (e := (decide (r4.1 < 0))) (want := false) (by decide) rfl hb21 ?_
              refine o_guardN (j := 9) (e := (decide (r4.1 < 0))) (want := false) (by decide) rfl hb21 ?_
              refine o_guardY (j := 6) (e := (r4.2 == 0)) (want := true) rfl hb20 ?_
              refine o_pickT (v := .v (.bool true)) (e := (decide (r4.1 < 0))) (by decide) rfl hb21 rfl ?_
              refine o_guardY (j := 6) (e := (r4.2 == 0)) (want := true) rfl hb20 ?_
              refine o_move (v := .v (.bool true)) (by decide) rfl ?_
              refine o_guardN (j := 13) (e := true) (want := false) (by decide) rfl rfl ?_
              refine o_guardN (j := 13) (e := true) (want := false) (by decide) rfl rfl ?_
              refine o_guardN (j := 13) (e := true) (want := false) (by decide) rfl rfl ?_
              refine o_guardN (j := 13) (e := true) (want := false) (by decide) rfl rfl ?_
              refine o_guardN (j := 13) (e := true) (want := false) (by decide) rfl rfl ?_
              refine o_guardN (j := 13) (e := true) (want := false) (by decide) rfl rfl ?_
              refine o_guardY (j := 6) (e := (r4.2 == 0)) (want := true) rfl hb20 ?_
              refine o_pickT (v := .v (.bool true)) (e := true) (by decide) rfl rfl rfl ?_
              refine o_guardY (j := 3) (e := (!r18)) (want := false) rfl hb19 ?_
              refine o_pickT (v := .v (.bool true)) (e := (r4.2 == 0)) (by decide) rfl hb20 rfl ?_
              refine o_pickF (v := .v (.bool true)) (e := (!r18)) (by decide) rfl hb19 rfl ?_
              refine run_nil ?_
              exact w_goto true (.cons (.refl _) (.cons (.refl _) (.cons (.refl _) (.cons (.refl _) (.cons (.refl _) .nil))))) ⟨(hS.keep [true] rfl).up (by omega), hM⟩
            · replace hM := ifF hM hb21
              refine o_guardY (j := 9) (e := (decide (r4.1 < 0))) (want := false) rfl hb21 ?_
              refine o_move (v := .v (.int .i64 r4.1)) (by decide) rfl ?_
              refine o_guardY (j := 9) (e := (decide (r4.1 < 0))) (want := false) rfl hb21 ?_
              refine o_int (v := .v (.bool (decide (r4.1 > 1000)))) (by decide) rfl rfl rfl ?_
              refine o_guardY (j := 6) (e := (r4.2 == 0)) (want := true) rfl hb20 ?_
              refine o_pickF (v := .v (.bool (decide (r4.1 > 1000)))) (e := (decide (r4.1 < 0))) (by decide) rfl hb21 rfl ?_
              refine o_guardY (j := 6) (e := (r4.2 == 0)) (want := true) rfl hb20 ?_
              refine o_move (v := .v (.bool (decide (r4.1 > 1000)))) (by decide) rfl ?_
              rcases Bool.eq_false_or_eq_true (decide (r4.1 > 1000)) with hb22 | hb22
              · replace hM := ifT hM hb22
                refine o_guardN (j := 13) (e := (decide (r4.1 > 1000))) (want := false) (by decide) rfl hb22 ?_
                refine o_guardN (j := 13) (e := (decide (r4.1 > 1000))) (want := false) (by decide) rfl hb22 ?_
                refine o_guardN (j := 13) (e := (decide (r4.1 > 1000))) (want := false) (by decide) rfl hb22 ?_
                refine o_guardN (j := 13) (e := (decide (r4.1 > 1000))) (want := false) (by decide) rfl hb22 ?_
                refine o_guardN (j := 13) (e := (decide (r4.1 > 1000))) (want := false) (by decide) rfl hb22 ?_
                refine o_guardN (j := 13) (e := (decide (r4.1 > 1000))) (want := false) (by decide) rfl hb22 ?_
                refine o_guardY (j := 6) (e := (r4.2 == 0)) (want := true) rfl hb20 ?_
                refine o_pickT (v := .v (.bool true)) (e := (decide (r4.1 > 1000))) (by decide) rfl hb22 rfl ?_
                refine o_guardY (j := 3) (e := (!r18)) (want := false) rfl hb19 ?_
                refine o_pickT (v := .v (.bool true)) (e := (r4.2 == 0)) (by decide) rfl hb20 rfl ?_
                refine o_pickF (v := .v (.bool true)) (e := (!r18)) (by decide) rfl hb19 rfl ?_
                refine run_nil ?_
                exact w_goto true (.cons (.refl _) (.cons (.refl _) (.cons (.refl _) (.cons (.refl _) (.cons (.refl _) .nil))))) ⟨(hS.keep [true] rfl).up (by omega), hM⟩
              · replace hM := ifF hM hb22
                refine o_guardY (j := 13) (e := (decide (r4.1 > 1000))) (want := false) rfl hb22 ?_
                refine o_move (v := .v (.int .i64 r4.1)) (by decide) rfl ?_
                refine o_guardY (j := 13) (e := (decide (r4.1 > 1000))) (want := false) rfl hb22 ?_
                refine o_int (v := .v (.bool (r4.1 == 0))) (by decide) rfl rfl rfl ?_
                refine o_guardY (j := 13) (e := (decide (r4.1 > 1000))) (want := false) rfl hb22 ?_
                refine o_fieldP (by decide) ty_fo24_1 rfl ?_
                refine o_guardY (j := 13) (e := (decide (r4.1 > 1000))) (want := false) rfl hb22 ?_
                refine o_load (v := .v (.int .i64 a0.Loan)) 0 hS (by decide) rfl rfl .no (part_one ty_agg3 ty_sc3 rfl) ?_
                refine o_guardY (j := 13) (e := (decide (r4.1 > 1000))) (want := false) rfl hb22 ?_
                refine o_int (v := .v (.bool (a0.Loan == 0))) (by decide) rfl rfl rfl ?_
                refine o_guardY (j := 13) (e := (decide (r4.1 > 1000))) (want := false) rfl hb22 ?_
                refine o_neB (m := (r4.1 == 0)) (n := (a0.Loan == 0)) (by decide) rfl rfl ty_bool4 ?_
                refine o_guardY (j := 6) (e := (r4.2 == 0)) (want := true) rfl hb20 ?_
                refine o_pickF (v := .v (.bool (!((r4.1 == 0) == (a0.Loan == 0))))) (e := (decide (r4.1 > 1000))) (by decide) rfl hb22 rfl ?_
                refine o_guardY (j := 3) (e := (!r18)) (want := false) rfl hb19 ?_
                refine o_pickT (v := .v (.bool (!((r4.1 == 0) == (a0.Loan == 0))))) (e := (r4.2 == 0)) (by decide) rfl hb20 rfl ?_
                refine o_pickF (v := .v (.bool (!((r4.1 == 0) == (a0.Loan == 0))))) (e := (!r18)) (by decide) rfl hb19 rfl ?_
                refine run_nil ?_
                exact w_goto (!((r4.1 == 0) == (a0.Loan == 0))) (.cons (.refl _) (.cons (.refl _) (.cons (.refl _) (.cons (.refl _) (.cons (.refl _) .nil))))) ⟨(hS.keep [true] rfl).up (by omega), hM⟩
          · replace hM := ifF hM hb20
            refine o_guardN (j := 6) (e := (r4.2 == 0)) (want := true) (by decide) rfl hb20 ?_
            refine o_guardN (j := 6) (e := (r4.2 == 0)) (want := true) (by decide) rfl hb20 ?_
            refine o_guardN (j := 6) (e := (r4.2 == 0)) (want := true) (by decide) rfl hb20 ?_
            refine o_guardU (j := 9) (by decide) rfl ?_
            refine o_guardU (j := 9) (by decide) rfl ?_
            refine o_guardN (j := 6) (e := (r4.2 == 0)) (want := true) (by decide) rfl hb20 ?_
            refine o_guardN (j := 6) (e := (r4.2 == 0)) (want := true) (by decide) rfl hb20 ?_
            refine o_guardU (j := 13) (by decide) rfl ?_
            refine o_guardU (j := 13) (by decide) rfl ?_
            refine o_guardU (j := 13) (by decide) rfl ?_
            refine o_guardU (j := 13) (by decide) rfl ?_
            refine o_guardU (j := 13) (by decide) rfl ?_
            refine o_guardU (j := 13) (by decide) rfl ?_
            refine o_guardN (j := 6) (e := (r4.2 == 0)) (want := true) (by decide) rfl hb20 ?_
            refine o_guardY (j := 3) (e := (!r18)) (want := false) rfl hb19 ?_
            refine o_pickF (v := .v (.bool false)) (e := (r4.2 == 0)) (by decide) rfl hb20 rfl ?_
            refine o_pickF (v := .v (.bool false)) (e := (!r18)) (by decide) rfl hb19 rfl ?_
            refine run_nil ?_
            exact w_goto false (.cons (.refl _) (.cons (.refl _) (.cons (.refl _) (.cons (.refl _) (.cons (.refl _) .nil))))) ⟨(hS.keep [true] rfl).up (by omega), hM⟩
  · refine r_region (n := 8) rfl ?_
    refine o_load (v := .agg [.sl .no 4 (a0.Clauses.map Clause.cells), .v (.int .i64 a0.Loan)]) 0 hS (by decide) rfl rfl .no (part_agg ty_agg24 (Nat.le_of_ble_eq_true rfl) rfl) ?_
    obtain ⟨r23, hr23, hM⟩ := bindE hM
    refine o_call (bs := [.agg [.sl .no 4 (a0.Clauses.map Clause.cells), .v (.int .i64 a0.Loan)]]) (by decide) rfl rfl ((W_law09_isShare hr23).le (.cons (.refl _) .nil)) ?_
    refine o_not (e := r23) (by decide) rfl ?_
    refine o_move (v := .v (.bool (!r23))) (by decide) rfl ?_
    rcases Bool.eq_false_or_eq_true (!r23) with hb24 | hb24
    · replace hM := ifT hM hb24
      refine o_guardN (j := 3) (e := (!r23)) (want := false) (by decide) rfl hb24 ?_
      refine o_guardN (j := 3) (e := (!r23)) (want := false) (by decide) rfl hb24 ?_
      refine o_guardN (j := 3) (e := (!r23)) (want := false) (by decide) rfl hb24 ?_
      refine o_pickT (v := .v (.bool true)) (e := (!r23)) (by decide) rfl hb24 rfl ?_
      refine run_nil ?_
      exact w_goto true (.cons (.refl _) (.cons (.refl _) (.cons (.refl _) .nil))) ⟨(hS.keep [true] rfl).up (by omega), hM⟩
    · replace hM := ifF hM hb24
      refine o_guardY (j := 3) (e := (!r23)) (want := false) rfl hb24 ?_
      refine o_move (v := .v (.int .i64 a1)) (by decide) rfl ?_
      refine o_guardY (j := 3) (e := (!r23)) (want := false) rfl hb24 ?_
      obtain ⟨r25, hr25, hM⟩ := bindE hM
      refine o_call (bs := [.v (.int .i64 a1)]) (by decide) rfl rfl ((W_ref09_IsCents hr25).le (.cons (.refl _) .nil)) ?_
      refine o_guardY (j := 3) (e := (!r23)) (want := false) rfl hb24 ?_
      refine o_not (e := r25) (by decide) rfl ?_
      refine o_pickF (v := .v (.bool (!r25))) (e := (!r23)) (by decide) rfl hb24 rfl ?_
      refine run_nil ?_
      exact w_goto (!r25) (.cons (.refl _) (.cons (.refl _) (.cons (.refl _) .nil))) ⟨(hS.keep [true] rfl).up (by omega), hM⟩
end Go.Proofs.Ytkgldpboiigphaa
