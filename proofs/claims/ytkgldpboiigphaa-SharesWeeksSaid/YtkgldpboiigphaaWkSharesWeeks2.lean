/-
  The code returns what the functions say (printed by gen.py).
  Conditions: none.
-/
import Derived.Test.YtkgldpboiigphaaWkSharesWeeks1
set_option linter.all false
namespace Go.Proofs.Ytkgldpboiigphaa
open Go Go.AM Go.Law
set_option linter.unusedVariables false
set_option maxRecDepth 4000
set_option maxHeartbeats 4000000
theorem W_ref09_Gone {n : Nat} {a0 : Share} {a1 : Int} {a2 : Int} {r : (List Int) × Split} (hM : ref09_Gone n a0 a1 a2 = some r) : PureSat Try.prog 55 [.agg [.sl .no 4 (a0.Clauses.map Clause.cells), .v (.int .i64 a0.Loan)], .v (.int .i64 a1), .v (.int .i64 a2)] (.tup [.sl .no 1 (r.1.map cI), .agg [.v (.int .i64 r.2.Operator), .v (.int .i64 r.2.Owner), .v (.int .i64 r.2.Repaid)]]) := by
  refine pure_of_wp mixed Try.func55 rfl (by decide) Try.ntmps55 (by simp) ?pure fun H0 g hf => ?_
  case pure => exact .tup _ (pl_cons (.sl _ _ (pures_map (fun x => (pl_cons (.v _) pl_nil)))) (pl_cons (.agg _ (pl_cons (.v _) (pl_cons (.v _) (pl_cons (.v _) pl_nil)))) pl_nil))
  rw [frame0_of]
  change wpA _ _ _ _ (Fr.of [(0, .agg [.sl .no 4 (a0.Clauses.map Clause.cells), .v (.int .i64 a0.Loan)]), (1, .v (.int .i64 a1)), (2, .v (.int .i64 a2))]) H0 g
  have hS := St.start hf
  refine r_seq ?_
  refine r_region (n := 3) rfl ?_
  refine o_box (v := .agg [.sl .no 4 (a0.Clauses.map Clause.cells), .v (.int .i64 a0.Loan)]) (cs := [.sl .no 4 (a0.Clauses.map Clause.cells), .v (.int .i64 a0.Loan)]) hS (by decide) rfl rfl (by omega) fun H hS => ?_
  refine o_assign (v := .sl .nil 0 []) (by decide) rfl ?_
  refine o_alloc hS (by decide) ty_zero41 (by omega) fun H hS => ?_
  refine run_nil ?_
  refine w_next [(1, .v (.int .i64 a1)), (2, .v (.int .i64 a2)), (3, .ptr (g + 0) 0), (7, .ptr (g + 2) 0)] (.cons (.refl _) (.cons (.refl _) (.cons (.refl _) (.cons (.refl _) .nil)))) ?_
  refine r_seq ?_
  refine r_region (n := 6) rfl ?_
  refine o_move (v := .v (.int .i64 a2)) (by decide) rfl ?_
  refine o_move (v := .v (.int .i64 a1)) (by decide) rfl ?_
  refine o_min (v := .v (.int .i64 (min a2 a1))) (by decide) rfl ?_
  refine o_build (cs := [.v (.int .i64 0), .v (.int .i64 (min a2 a1)), .v (.int .i64 0)]) (by decide) ty_zero41 ty_pl41 rfl ?_
  refine o_alloc hS (by decide) ty_zero41 (by omega) fun H hS => ?_
  refine o_store (v := .agg [.v (.int .i64 0), .v (.int .i64 (min a2 a1)), .v (.int .i64 0)]) (ns := [.v (.int .i64 0), .v (.int .i64 (min a2 a1)), .v (.int .i64 0)]) (L' := [(g + 3 + 4, .cells [.v (.int .i64 0), .v (.int .i64 (min a2 a1)), .v (.int .i64 0)]), (g + 2, .cells [.v (.int .i64 0), .v (.int .i64 0), .v (.int .i64 0)]), (g + 0, .cells [.sl .no 4 (a0.Clauses.map Clause.cells), .v (.int .i64 a0.Loan)])]) 0 hS rfl rfl .no rfl rfl ty_var41 (Nat.le_of_ble_eq_true rfl) rfl fun H hS => ?_
  refine run_nil ?_
  refine w_next [(1, .v (.int .i64 a1)), (3, .ptr (g + 0) 0), (7, .ptr (g + 2) 0), (8, .ptr (g + 3 + 4) 0)] (.cons (.refl _) (.cons (.refl _) (.cons (.refl _) (.cons (.refl _) .nil)))) ?_
  refine r_seq ?_
  refine r_region (n := 5) rfl ?_
  refine o_move (v := .v (.int .i64 a1)) (by decide) rfl ?_
  refine o_fieldP (by decide) ty_fo41_1 rfl ?_
  refine o_load (v := .v (.int .i64 (min a2 a1))) 0 hS (by decide) rfl rfl .no (part_one ty_agg3 ty_sc3 rfl) ?_
  refine o_int (v := .v (.int .i64 (w64 (a1 - (min a2 a1))))) (by decide) rfl rfl rfl ?_
  refine o_assign (v := .v (.int .i64 (w64 (a1 - (min a2 a1))))) (by decide) rfl ?_
  refine run_nil ?_
  refine w_next [(1, .v (.int .i64 a1)), (3, .ptr (g + 0) 0), (7, .ptr (g + 2) 0), (8, .ptr (g + 3 + 4) 0), (9, .v (.int .i64 (w64 (a1 - (min a2 a1)))))] (.cons (.refl _) (.cons (.refl _) (.cons (.refl _) (.cons (.refl _) (.cons (.refl _) .nil))))) ?_
  refine r_seq ?_
  refine r_region (n := 1) rfl ?_
  refine o_assign (v := .sl .nil 0 []) (by decide) rfl ?_
  refine run_nil ?_
  refine w_own [(1, .v (.int .i64 a1)), (3, .ptr (g + 0) 0), (7, .ptr (g + 2) 0), (8, .ptr (g + 3 + 4) 0), (9, .v (.int .i64 (w64 (a1 - (min a2 a1))))), (10, .sl (.id (g + 3 + 6 + 5 + 1)) 1 (([] : List Int).map cI))] 10 1 3 hS (by omega) (by decide) rfl (.cons (.refl _) (.cons (.refl _) (.cons (.refl _) (.cons (.refl _) (.cons (.refl _) (.cons (.refl _) .nil)))))) fun H hS => ?_
  refine w_join (J := (List Int) × Int × Int) (fun j => [(1, .v (.int .i64 a1)), (7, .ptr (g + 2) 0), (8, .ptr (g + 3 + 4) 0), (10, .sl (.id (g + 3 + 6 + 5 + 1)) 1 (j.1.map cI))]) (fun j H' g' => St (· < g) H0 [(g + 3 + 6 + 5 + 1, .row 3 j.1.length), (g + 3 + 4, .cells [.v (.int .i64 0), .v (.int .i64 j.2.1), .v (.int .i64 j.2.2)]), (g + 2, .cells [.v (.int .i64 0), .v (.int .i64 0), .v (.int .i64 0)])] H' g' ∧ ref09_Gone_j1 a1 j.1 j.2.1 j.2.2 = some r) ?_ ?_
  · rintro ⟨v1, v2, v3⟩ H g1 ⟨hS, hM⟩
    change wpA _ _ _ _ (Fr.of [(1, .v (.int .i64 a1)), (7, .ptr (g + 2) 0), (8, .ptr (g + 3 + 4) 0), (10, .sl (.id (g + 3 + 6 + 5 + 1)) 1 (v1.map cI))]) _ _
    replace hS : St (· < g) H0 [(g + 3 + 6 + 5 + 1, .row 3 v1.length), (g + 3 + 4, .cells [.v (.int .i64 0), .v (.int .i64 v2), .v (.int .i64 v3)]), (g + 2, .cells [.v (.int .i64 0), .v (.int .i64 0), .v (.int .i64 0)])] H g1 := hS
    replace hM : ref09_Gone_j1 a1 v1 v2 v3 = some r := hM
    refine r_seq ?_
    refine r_region (n := 6) rfl ?_
    refine o_move (v := .v (.int .i64 a1)) (by decide) rfl ?_
    refine o_fieldP (by decide) ty_fo41_1 rfl ?_
    refine o_load (v := .v (.int .i64 v2)) 1 hS (by decide) rfl rfl .no (part_one ty_agg3 ty_sc3 rfl) ?_
    refine o_int (v := .v (.int .i64 (w64 (a1 - v2)))) (by decide) rfl rfl rfl ?_
    refine o_fieldP (by decide) ty_fo41_0 rfl ?_
    refine o_store (v := .v (.int .i64 (w64 (a1 - v2)))) (ns := [.v (.int .i64 (w64 (a1 - v2)))]) (L' := [(g + 3 + 6 + 5 + 1, .row 3 v1.length), (g + 3 + 4, .cells [.v (.int .i64 (w64 (a1 - v2))), .v (.int .i64 v2), .v (.int .i64 v3)]), (g + 2, .cells [.v (.int .i64 0), .v (.int .i64 0), .v (.int .i64 0)])]) 1 hS rfl rfl .no rfl rfl ty_var3 (Nat.le_of_ble_eq_true rfl) rfl fun H hS => ?_
    refine run_nil ?_
    refine w_next [(7, .ptr (g + 2) 0), (8, .ptr (g + 3 + 4) 0), (10, .sl (.id (g + 3 + 6 + 5 + 1)) 1 (v1.map cI))] (.cons (.refl _) (.cons (.refl _) (.cons (.refl _) .nil))) ?_
    refine r_seq ?_
    have hS0 := hS
    refine r_draw (n := 4) rfl (by kernel_rfl) ?_
    refine o_move (v := .sl (.id (g + 3 + 6 + 5 + 1)) 1 (v1.map cI)) (by decide) rfl ?_
    refine o_load (v := .agg [.v (.int .i64 (w64 (a1 - v2))), .v (.int .i64 v2), .v (.int .i64 v3)]) 1 hS (by decide) rfl rfl (.st hS0 1 rfl (by omega)) (part_agg ty_agg41 (Nat.le_of_ble_eq_true rfl) rfl) ?_
    refine o_assign (v := .sl (.id (g + 3 + 6 + 5 + 1)) 1 (v1.map cI)) (by decide) rfl ?_
    refine o_store (v := .agg [.v (.int .i64 (w64 (a1 - v2))), .v (.int .i64 v2), .v (.int .i64 v3)]) (ns := [.v (.int .i64 (w64 (a1 - v2))), .v (.int .i64 v2), .v (.int .i64 v3)]) (L' := [(g + 3 + 6 + 5 + 1, .row 3 v1.length), (g + 3 + 4, .cells [.v (.int .i64 (w64 (a1 - v2))), .v (.int .i64 v2), .v (.int .i64 v3)]), (g + 2, .cells [.v (.int .i64 (w64 (a1 - v2))), .v (.int .i64 v2), .v (.int .i64 v3)])]) 2 hS rfl rfl (.st hS0 2 rfl (by omega)) rfl rfl ty_var41 (Nat.le_of_ble_eq_true rfl) rfl fun H hS => ?_
    refine run_nil ?_
    replace hS := hS.keep (L' := [(g + 3 + 6 + 5 + 1, .row 3 v1.length), (g + 2, .cells [.v (.int .i64 (w64 (a1 - v2))), .v (.int .i64 v2), .v (.int .i64 v3)])]) [true, false, true] rfl
    refine w_next [(6, .sl (.id (g + 3 + 6 + 5 + 1)) 1 (v1.map cI)), (7, .ptr (g + 2) 0)] (.cons (.refl _) (.cons (.refl _) .nil)) ?_
    refine r_ret ?_
    refine w_end (x := .tup [.sl (.id (g + 3 + 6 + 5 + 1)) 1 (v1.map cI), .agg [.v (.int .i64 (w64 (a1 - v2))), .v (.int .i64 v2), .v (.int .i64 v3)]]) (f := fun r => .tup [.sl .no 1 (r.1.map cI), .agg [.v (.int .i64 r.2.Operator), .v (.int .i64 r.2.Owner), .v (.int .i64 r.2.Repaid)]]) (.inr rfl) ?_ (.tupL (.cons (.sl _ _ _) (.cons (.aggL (.cons (.refl _) (.cons (.refl _) (.cons (.refl _) .nil)))) .nil))) (Option.some.inj hM) hS
    exact (res_two (res_tmp (x := .sl (.id (g + 3 + 6 + 5 + 1)) 1 (v1.map cI)) rfl) (res_cell (x := .agg [.v (.int .i64 (w64 (a1 - v2))), .v (.int .i64 v2), .v (.int .i64 v3)]) 1 hS rfl rfl (part_agg ty_agg41 (Nat.le_of_ble_eq_true rfl) rfl)))
  · refine r_seq ?_
    refine r_region (n := 1) rfl ?_
    refine o_assign (v := .v (.int .i64 0)) (by decide) rfl ?_
    refine run_nil ?_
    refine w_next [(1, .v (.int .i64 a1)), (3, .ptr (g + 0) 0), (7, .ptr (g + 2) 0), (8, .ptr (g + 3 + 4) 0), (9, .v (.int .i64 (w64 (a1 - (min a2 a1))))), (10, .sl (.id (g + 3 + 6 + 5 + 1)) 1 (([] : List Int).map cI)), (11, .v (.int .i64 0))] (.cons (.refl _) (.cons (.refl _) (.cons (.refl _) (.cons (.refl _) (.cons (.refl _) (.cons (.refl _) (.cons (.refl _) .nil))))))) ?_
    refine r_block ?_
    refine w_loop (V := Int × (List Int) × Int × Int × Int) (fun v => [(1, .v (.int .i64 a1)), (3, .ptr (g + 0) 0), (7, .ptr (g + 2) 0), (8, .ptr (g + 3 + 4) 0), (9, .v (.int .i64 v.1)), (10, .sl (.id (g + 3 + 6 + 5 + 1)) 1 (v.2.1.map cI)), (11, .v (.int .i64 v.2.2.1))]) (fun v m H' g' => St (· < g) H0 [(g + 3 + 6 + 5 + 1, .row 3 v.2.1.length), (g + 3 + 4, .cells [.v (.int .i64 0), .v (.int .i64 v.2.2.2.1), .v (.int .i64 v.2.2.2.2)]), (g + 2, .cells [.v (.int .i64 0), .v (.int .i64 0), .v (.int .i64 0)]), (g + 0, .cells [.sl .no 4 (a0.Clauses.map Clause.cells), .v (.int .i64 a0.Loan)])] H' g' ∧ ref09_Gone_l1 a0 a1 m v.1 v.2.1 v.2.2.1 v.2.2.2.1 v.2.2.2.2 = some r) (n := n) (w64 (a1 - (min a2 a1)), ([] : List Int), 0, (min a2 a1), 0) (.cons (.refl _) (.cons (.refl _) (.cons (.refl _) (.cons (.refl _) (.cons (.refl _) (.cons (.refl _) (.cons (.refl _) .nil))))))) ⟨(hS.keep [true, true, true, true] rfl).up (by omega), hM⟩ ?_
    rintro ⟨v7, v8, v9, v10, v11⟩ m H g3 ⟨hS, hM⟩
    obtain _ | m := m
    · exact nomatch (show none = some _ from hM)
    change wpA _ _ _ _ (Fr.of [(1, .v (.int .i64 a1)), (3, .ptr (g + 0) 0), (7, .ptr (g + 2) 0), (8, .ptr (g + 3 + 4) 0), (9, .v (.int .i64 v7)), (10, .sl (.id (g + 3 + 6 + 5 + 1)) 1 (v8.map cI)), (11, .v (.int .i64 v9))]) _ _
    replace hS : St (· < g) H0 [(g + 3 + 6 + 5 + 1, .row 3 v8.length), (g + 3 + 4, .cells [.v (.int .i64 0), .v (.int .i64 v10), .v (.int .i64 v11)]), (g + 2, .cells [.v (.int .i64 0), .v (.int .i64 0), .v (.int .i64 0)]), (g + 0, .cells [.sl .no 4 (a0.Clauses.map Clause.cells), .v (.int .i64 a0.Loan)])] H g3 := hS
    replace hM : ref09_Gone_l1_b a0 a1 (ref09_Gone_l1 a0 a1 m) v7 v8 v9 v10 v11 = some r := hM
    refine r_seq ?_
    refine r_seq ?_
    refine r_region (n := 5) rfl ?_
    refine o_move (v := .v (.int .i64 v9)) (by decide) rfl ?_
    refine o_fieldP (by decide) ty_fo24_0 rfl ?_
    refine o_load (v := .sl .no 4 (a0.Clauses.map Clause.cells)) 3 hS (by decide) rfl rfl .no (part_one ty_agg22 ty_sc22 rfl) ?_
    refine o_len (n := a0.Clauses.length) (by decide) rfl (List.length_map _) ty_isl22 ?_
    refine o_int (v := .v (.bool (decide (v9 < (a0.Clauses.length : Int))))) (by decide) rfl rfl rfl ?_
    refine run_nil ?_
    refine w_next [(1, .v (.int .i64 a1)), (3, .ptr (g + 0) 0), (7, .ptr (g + 2) 0), (8, .ptr (g + 3 + 4) 0), (9, .v (.int .i64 v7)), (10, .sl (.id (g + 3 + 6 + 5 + 1)) 1 (v8.map cI)), (11, .v (.int .i64 v9)), (26, .v (.bool (decide (v9 < (a0.Clauses.length : Int)))))] (.cons (.refl _) (.cons (.refl _) (.cons (.refl _) (.cons (.refl _) (.cons (.refl _) (.cons (.refl _) (.cons (.refl _) (.cons (.refl _) .nil)))))))) ?_
    rcases Bool.eq_false_or_eq_true (decide (v9 < (a0.Clauses.length : Int))) with hb12 | hb12
    · replace hM := ifT hM hb12
      refine w_condT (e := (decide (v9 < (a0.Clauses.length : Int)))) rfl hb12 ?_
      refine r_skip ?_
      refine w_next [(1, .v (.int .i64 a1)), (3, .ptr (g + 0) 0), (7, .ptr (g + 2) 0), (8, .ptr (g + 3 + 4) 0), (9, .v (.int .i64 v7)), (10, .sl (.id (g + 3 + 6 + 5 + 1)) 1 (v8.map cI)), (11, .v (.int .i64 v9))] (.cons (.refl _) (.cons (.refl _) (.cons (.refl _) (.cons (.refl _) (.cons (.refl _) (.cons (.refl _) (.cons (.refl _) .nil))))))) ?_
      refine w_join (J := Int × (List Int) × Int × Int) (fun j => [(1, .v (.int .i64 a1)), (3, .ptr (g + 0) 0), (7, .ptr (g + 2) 0), (8, .ptr (g + 3 + 4) 0), (9, .v (.int .i64 j.1)), (10, .sl (.id (g + 3 + 6 + 5 + 1)) 1 (j.2.1.map cI)), (11, .v (.int .i64 v9))]) (fun j H' g' => St (· < g) H0 [(g + 3 + 6 + 5 + 1, .row 3 j.2.1.length), (g + 3 + 4, .cells [.v (.int .i64 0), .v (.int .i64 j.2.2.1), .v (.int .i64 j.2.2.2)]), (g + 2, .cells [.v (.int .i64 0), .v (.int .i64 0), .v (.int .i64 0)]), (g + 0, .cells [.sl .no 4 (a0.Clauses.map Clause.cells), .v (.int .i64 a0.Loan)])] H' g' ∧ ref09_Gone_j2 (ref09_Gone_l1 a0 a1 m) v9 j.1 j.2.1 j.2.2.1 j.2.2.2 = some r) ?_ ?_
      · rintro ⟨v13, v14, v15, v16⟩ H g4 ⟨hS, hM⟩
        change wpA _ _ _ _ (Fr.of [(1, .v (.int .i64 a1)), (3, .ptr (g + 0) 0), (7, .ptr (g + 2) 0), (8, .ptr (g + 3 + 4) 0), (9, .v (.int .i64 v13)), (10, .sl (.id (g + 3 + 6 + 5 + 1)) 1 (v14.map cI)), (11, .v (.int .i64 v9))]) _ _
        replace hS : St (· < g) H0 [(g + 3 + 6 + 5 + 1, .row 3 v14.length), (g + 3 + 4, .cells [.v (.int .i64 0), .v (.int .i64 v15), .v (.int .i64 v16)]), (g + 2, .cells [.v (.int .i64 0), .v (.int .i64 0), .v (.int .i64 0)]), (g + 0, .cells [.sl .no 4 (a0.Clauses.map Clause.cells), .v (.int .i64 a0.Loan)])] H g4 := hS
        replace hM : ref09_Gone_j2 (ref09_Gone_l1 a0 a1 m) v9 v13 v14 v15 v16 = some r := hM
        refine r_region (n := 3) rfl ?_
        refine o_move (v := .v (.int .i64 v9)) (by decide) rfl ?_
        refine o_int (v := .v (.int .i64 (w64 (v9 + 1)))) (by decide) rfl rfl rfl ?_
        refine o_assign (v := .v (.int .i64 (w64 (v9 + 1)))) (by decide) rfl ?_
        refine run_nil ?_
        exact w_round (v13, v14, w64 (v9 + 1), v15, v16) (Nat.lt_succ_self _) (.cons (.refl _) (.cons (.refl _) (.cons (.refl _) (.cons (.refl _) (.cons (.refl _) (.cons (.refl _) (.cons (.refl _) .nil))))))) ⟨(hS.keep [true, true, true, true] rfl).up (by omega), hM⟩
      · refine r_block ?_
        refine r_seq ?_
        refine r_region (n := 7) rfl ?_
        refine o_fieldP (by decide) ty_fo24_0 rfl ?_
        refine o_load (v := .sl .no 4 (a0.Clauses.map Clause.cells)) 3 hS (by decide) rfl rfl .no (part_one ty_agg22 ty_sc22 rfl) ?_
        refine o_move (v := .v (.int .i64 v9)) (by decide) rfl ?_
        obtain ⟨x17, hx17, hM⟩ := bindE hM
        refine o_index (xs := a0.Clauses) (f := Clause.cells) (z := v9) (u := x17) (by decide) rfl rfl ty_es22 hx17 ?_
        refine o_loadE (v := .agg [.v (.int .i64 x17.Kind), .v (.int .i64 x17.Cents), .v (.int .i64 x17.Part), .v (.int .i64 x17.More)]) (by decide) rfl (part_agg ty_agg39 (Nat.le_of_ble_eq_true rfl) rfl) ?_
        refine o_alloc hS (by decide) ty_zero39 (by omega) fun H hS => ?_
        refine o_store (v := .agg [.v (.int .i64 x17.Kind), .v (.int .i64 x17.Cents), .v (.int .i64 x17.Part), .v (.int .i64 x17.More)]) (ns := [.v (.int .i64 x17.Kind), .v (.int .i64 x17.Cents), .v (.int .i64 x17.Part), .v (.int .i64 x17.More)]) (L' := [(g3 + 5 + 5, .cells [.v (.int .i64 x17.Kind), .v (.int .i64 x17.Cents), .v (.int .i64 x17.Part), .v (.int .i64 x17.More)]), (g + 3 + 6 + 5 + 1, .row 3 v8.length), (g + 3 + 4, .cells [.v (.int .i64 0), .v (.int .i64 v10), .v (.int .i64 v11)]), (g + 2, .cells [.v (.int .i64 0), .v (.int .i64 0), .v (.int .i64 0)]), (g + 0, .cells [.sl .no 4 (a0.Clauses.map Clause.cells), .v (.int .i64 a0.Loan)])]) 0 hS rfl rfl .no rfl rfl ty_var39 (Nat.le_of_ble_eq_true rfl) rfl fun H hS => ?_
        refine run_nil ?_
        refine w_next [(1, .v (.int .i64 a1)), (3, .ptr (g + 0) 0), (7, .ptr (g + 2) 0), (8, .ptr (g + 3 + 4) 0), (9, .v (.int .i64 v7)), (10, .sl (.id (g + 3 + 6 + 5 + 1)) 1 (v8.map cI)), (11, .v (.int .i64 v9)), (12, .ptr (g3 + 5 + 5) 0)] (.cons (.refl _) (.cons (.refl _) (.cons (.refl _) (.cons (.refl _) (.cons (.refl _) (.cons (.refl _) (.cons (.refl _) (.cons (.refl _) .nil)))))))) ?_
        refine r_seq ?_
        refine r_region (n := 11) rfl ?_
        refine o_load (v := .agg [.v (.int .i64 x17.Kind), .v (.int .i64 x17.Cents), .v (.int .i64 x17.Part), .v (.int .i64 x17.More)]) 0 hS (by decide) rfl rfl .no (part_agg ty_agg39 (Nat.le_of_ble_eq_true rfl) rfl) ?_
        refine o_move (v := .v (.int .i64 v7)) (by decide) rfl ?_
        refine o_fieldP (by decide) ty_fo41_1 rfl ?_
        refine o_load (v := .v (.int .i64 v10)) 2 hS (by decide) rfl rfl .no (part_one ty_agg3 ty_sc3 rfl) ?_
        refine o_fieldP (by decide) ty_fo24_1 rfl ?_
        refine o_load (v := .v (.int .i64 a0.Loan)) 4 hS (by decide) rfl rfl .no (part_one ty_agg3 ty_sc3 rfl) ?_
        refine o_fieldP (by decide) ty_fo41_2 rfl ?_
        refine o_load (v := .v (.int .i64 v11)) 2 hS (by decide) rfl rfl .no (part_one ty_agg3 ty_sc3 rfl) ?_
        refine o_int (v := .v (.int .i64 (w64 (a0.Loan - v11)))) (by decide) rfl rfl rfl ?_
        obtain ⟨r18, hr18, hM⟩ := bindE hM
        refine o_call (bs := [.agg [.v (.int .i64 x17.Kind), .v (.int .i64 x17.Cents), .v (.int .i64 x17.Part), .v (.int .i64 x17.More)], .v (.int .i64 v7), .v (.int .i64 v10), .v (.int .i64 (w64 (a0.Loan - v11)))]) (by decide) rfl rfl ((W_ref09_Given hr18).le (.cons (.refl _) (.cons (.refl _) (.cons (.refl _) (.cons (.refl _) .nil))))) ?_
        refine o_assign (v := .v (.int .i64 r18)) (by decide) rfl ?_
        refine run_nil ?_
        refine w_next [(1, .v (.int .i64 a1)), (3, .ptr (g + 0) 0), (7, .ptr (g + 2) 0), (8, .ptr (g + 3 + 4) 0), (9, .v (.int .i64 v7)), (10, .sl (.id (g + 3 + 6 + 5 + 1)) 1 (v8.map cI)), (11, .v (.int .i64 v9)), (12, .ptr (g3 + 5 + 5) 0), (13, .v (.int .i64 r18))] (.cons (.refl _) (.cons (.refl _) (.cons (.refl _) (.cons (.refl _) (.cons (.refl _) (.cons (.refl _) (.cons (.refl _) (.cons (.refl _) (.cons (.refl _) .nil))))))))) ?_
        refine r_seq ?_
        refine r_region (n := 4) rfl ?_
        refine o_move (v := .v (.int .i64 v7)) (by decide) rfl ?_
        refine o_move (v := .v (.int .i64 r18)) (by decide) rfl ?_
        refine o_int (v := .v (.int .i64 (w64 (v7 - r18)))) (by decide) rfl rfl rfl ?_
        refine o_assign (v := .v (.int .i64 (w64 (v7 - r18)))) (by decide) rfl ?_
        refine run_nil ?_
        refine w_next [(1, .v (.int .i64 a1)), (3, .ptr (g + 0) 0), (7, .ptr (g + 2) 0), (8, .ptr (g + 3 + 4) 0), (9, .v (.int .i64 (w64 (v7 - r18)))), (10, .sl (.id (g + 3 + 6 + 5 + 1)) 1 (v8.map cI)), (11, .v (.int .i64 v9)), (12, .ptr (g3 + 5 + 5) 0), (13, .v (.int .i64 r18))] (.cons (.refl _) (.cons (.refl _) (.cons (.refl _) (.cons (.refl _) (.cons (.refl _) (.cons (.refl _) (.cons (.refl _) (.cons (.refl _) (.cons (.refl _) .nil))))))))) ?_
        refine r_seq ?_
        refine r_region (n := 5) rfl ?_
        refine o_move (v := .sl (.id (g + 3 + 6 + 5 + 1)) 1 (v8.map cI)) (by decide) rfl ?_
        refine o_move (v := .v (.int .i64 r18)) (by decide) rfl ?_
        refine o_buildSlice (es := [[.v (.int .i64 r18)]]) hS (by decide) ty_es28 ty_el28 rfl ty_ef28 rfl (by decide) (by omega) fun H hS => ?_
        obtain ⟨l19, hl19, hM⟩ := bindE hM
        refine o_append (xs := v8) (ys := ([r18] : List Int)) (zs := l19) (f := cI) (L' := [(g3 + 5 + 7 + 11 + 4 + 2, .row 3 1), (g3 + 5 + 5, .cells [.v (.int .i64 x17.Kind), .v (.int .i64 x17.Cents), .v (.int .i64 x17.Part), .v (.int .i64 x17.More)]), (g + 3 + 6 + 5 + 1, .row 3 l19.length), (g + 3 + 4, .cells [.v (.int .i64 0), .v (.int .i64 v10), .v (.int .i64 v11)]), (g + 2, .cells [.v (.int .i64 0), .v (.int .i64 0), .v (.int .i64 0)]), (g + 0, .cells [.sl .no 4 (a0.Clauses.map Clause.cells), .v (.int .i64 a0.Loan)])]) 2 hS (by decide) rfl rfl rfl rfl .no ty_es28 ty_el28 ty_ef28 hl19 rfl fun H hS => ?_
        refine o_assign (v := .sl (.id (g + 3 + 6 + 5 + 1)) 1 (l19.map cI)) (by decide) rfl ?_
        refine run_nil ?_
        replace hS := hS.keep (L' := [(g3 + 5 + 5, .cells [.v (.int .i64 x17.Kind), .v (.int .i64 x17.Cents), .v (.int .i64 x17.Part), .v (.int .i64 x17.More)]), (g + 3 + 6 + 5 + 1, .row 3 l19.length), (g + 3 + 4, .cells [.v (.int .i64 0), .v (.int .i64 v10), .v (.int .i64 v11)]), (g + 2, .cells [.v (.int .i64 0), .v (.int .i64 0), .v (.int .i64 0)]), (g + 0, .cells [.sl .no 4 (a0.Clauses.map Clause.cells), .v (.int .i64 a0.Loan)])]) [false, true, true, true, true, true] rfl
        refine w_next [(1, .v (.int .i64 a1)), (3, .ptr (g + 0) 0), (7, .ptr (g + 2) 0), (8, .ptr (g + 3 + 4) 0), (9, .v (.int .i64 (w64 (v7 - r18)))), (10, .sl (.id (g + 3 + 6 + 5 + 1)) 1 (l19.map cI)), (11, .v (.int .i64 v9)), (12, .ptr (g3 + 5 + 5) 0), (13, .v (.int .i64 r18))] (.cons (.refl _) (.cons (.refl _) (.cons (.refl _) (.cons (.refl _) (.cons (.refl _) (.cons (.refl _) (.cons (.refl _) (.cons (.refl _) (.cons (.refl _) .nil))))))))) ?_
        refine w_join (J := Int) (fun j => [(1, .v (.int .i64 a1)), (3, .ptr (g + 0) 0), (7, .ptr (g + 2) 0), (8, .ptr (g + 3 + 4) 0), (9, .v (.int .i64 (w64 (v7 - r18)))), (10, .sl (.id (g + 3 + 6 + 5 + 1)) 1 (l19.map cI)), (11, .v (.int .i64 v9)), (12, .ptr (g3 + 5 + 5) 0), (13, .v (.int .i64 r18))]) (fun j H' g' => St (· < g) H0 [(g3 + 5 + 5, .cells [.v (.int .i64 x17.Kind), .v (.int .i64 x17.Cents), .v (.int .i64 x17.Part), .v (.int .i64 x17.More)]), (g + 3 + 6 + 5 + 1, .row 3 l19.length), (g + 3 + 4, .cells [.v (.int .i64 0), .v (.int .i64 j), .v (.int .i64 v11)]), (g + 2, .cells [.v (.int .i64 0), .v (.int .i64 0), .v (.int .i64 0)]), (g + 0, .cells [.sl .no 4 (a0.Clauses.map Clause.cells), .v (.int .i64 a0.Loan)])] H' g' ∧ ref09_Gone_j3 (ref09_Gone_l1 a0 a1 m) v7 v9 v11 x17 r18 l19 j = some r) ?_ ?_
        · rintro v20 H g5 ⟨hS, hM⟩
          change wpA _ _ _ _ (Fr.of [(1, .v (.int .i64 a1)), (3, .ptr (g + 0) 0), (7, .ptr (g + 2) 0), (8, .ptr (g + 3 + 4) 0), (9, .v (.int .i64 (w64 (v7 - r18)))), (10, .sl (.id (g + 3 + 6 + 5 + 1)) 1 (l19.map cI)), (11, .v (.int .i64 v9)), (12, .ptr (g3 + 5 + 5) 0), (13, .v (.int .i64 r18))]) _ _
          replace hS : St (· < g) H0 [(g3 + 5 + 5, .cells [.v (.int .i64 x17.Kind), .v (.int .i64 x17.Cents), .v (.int .i64 x17.Part), .v (.int .i64 x17.More)]), (g + 3 + 6 + 5 + 1, .row 3 l19.length), (g + 3 + 4, .cells [.v (.int .i64 0), .v (.int .i64 v20), .v (.int .i64 v11)]), (g + 2, .cells [.v (.int .i64 0), .v (.int .i64 0), .v (.int .i64 0)]), (g + 0, .cells [.sl .no 4 (a0.Clauses.map Clause.cells), .v (.int .i64 a0.Loan)])] H g5 := hS
          replace hM : ref09_Gone_j3 (ref09_Gone_l1 a0 a1 m) v7 v9 v11 x17 r18 l19 v20 = some r := hM
          refine r_seq ?_
          refine r_region (n := 3) rfl ?_
          refine o_fieldP (by decide) ty_fo39_0 rfl ?_
          refine o_load (v := .v (.int .i64 x17.Kind)) 0 hS (by decide) rfl rfl .no (part_one ty_agg3 ty_sc3 rfl) ?_
          refine o_int (v := .v (.bool (x17.Kind == 2))) (by decide) rfl rfl rfl ?_
          refine run_nil ?_
          replace hS := hS.keep (L' := [(g + 3 + 6 + 5 + 1, .row 3 l19.length), (g + 3 + 4, .cells [.v (.int .i64 0), .v (.int .i64 v20), .v (.int .i64 v11)]), (g + 2, .cells [.v (.int .i64 0), .v (.int .i64 0), .v (.int .i64 0)]), (g + 0, .cells [.sl .no 4 (a0.Clauses.map Clause.cells), .v (.int .i64 a0.Loan)])]) [false, true, true, true, true] rfl
          refine w_next [(1, .v (.int .i64 a1)), (3, .ptr (g + 0) 0), (7, .ptr (g + 2) 0), (8, .ptr (g + 3 + 4) 0), (9, .v (.int .i64 (w64 (v7 - r18)))), (10, .sl (.id (g + 3 + 6 + 5 + 1)) 1 (l19.map cI)), (11, .v (.int .i64 v9)), (13, .v (.int .i64 r18)), (60, .v (.bool (x17.Kind == 2)))] (.cons (.refl _) (.cons (.refl _) (.cons (.refl _) (.cons (.refl _) (.cons (.refl _) (.cons (.refl _) (.cons (.refl _) (.cons (.refl _) (.cons (.refl _) .nil))))))))) ?_
          rcases Bool.eq_false_or_eq_true (x17.Kind == 2) with hb21 | hb21
          · replace hM := ifT hM hb21
            refine w_condT (e := (x17.Kind == 2)) rfl hb21 ?_
            refine r_region (n := 6) rfl ?_
            refine o_fieldP (by decide) ty_fo41_2 rfl ?_
            refine o_load (v := .v (.int .i64 v11)) 1 hS (by decide) rfl rfl .no (part_one ty_agg3 ty_sc3 rfl) ?_
            refine o_move (v := .v (.int .i64 r18)) (by decide) rfl ?_
            refine o_int (v := .v (.int .i64 (w64 (v11 + r18)))) (by decide) rfl rfl rfl ?_
            refine o_fieldP (by decide) ty_fo41_2 rfl ?_
            refine o_store (v := .v (.int .i64 (w64 (v11 + r18)))) (ns := [.v (.int .i64 (w64 (v11 + r18)))]) (L' := [(g + 3 + 6 + 5 + 1, .row 3 l19.length), (g + 3 + 4, .cells [.v (.int .i64 0), .v (.int .i64 v20), .v (.int .i64 (w64 (v11 + r18)))]), (g + 2, .cells [.v (.int .i64 0), .v (.int .i64 0), .v (.int .i64 0)]), (g + 0, .cells [.sl .no 4 (a0.Clauses.map Clause.cells), .v (.int .i64 a0.Loan)])]) 1 hS rfl rfl .no rfl rfl ty_var3 (Nat.le_of_ble_eq_true rfl) rfl fun H hS => ?_
            refine run_nil ?_
            refine r_blk_normal ?_
            exact w_goto (w64 (v7 - r18), l19, v20, w64 (v11 + r18)) (.cons (.refl _) (.cons (.refl _) (.cons (.refl _) (.cons (.refl _) (.cons (.refl _) (.cons (.refl _) (.cons (.refl _) .nil))))))) ⟨(hS.keep [true, true, true, true] rfl).up (by omega), hM⟩
          · replace hM := ifF hM hb21
            refine w_condF (e := (x17.Kind == 2)) rfl hb21 ?_
            refine r_skip ?_
            refine r_blk_normal ?_
            exact w_goto (w64 (v7 - r18), l19, v20, v11) (.cons (.refl _) (.cons (.refl _) (.cons (.refl _) (.cons (.refl _) (.cons (.refl _) (.cons (.refl _) (.cons (.refl _) .nil))))))) ⟨(hS.keep [true, true, true, true] rfl).up (by omega), hM⟩
        · refine r_seq ?_
          refine r_region (n := 2) rfl ?_
          refine o_load (v := .agg [.v (.int .i64 x17.Kind), .v (.int .i64 x17.Cents), .v (.int .i64 x17.Part), .v (.int .i64 x17.More)]) 0 hS (by decide) rfl rfl .no (part_agg ty_agg39 (Nat.le_of_ble_eq_true rfl) rfl) ?_
          obtain ⟨r22, hr22, hM⟩ := bindE hM
          refine o_call (bs := [.agg [.v (.int .i64 x17.Kind), .v (.int .i64 x17.Cents), .v (.int .i64 x17.Part), .v (.int .i64 x17.More)]]) (by decide) rfl rfl ((W_ref09_IsOwners hr22).le (.cons (.refl _) .nil)) ?_
          refine run_nil ?_
          refine w_next [(1, .v (.int .i64 a1)), (3, .ptr (g + 0) 0), (7, .ptr (g + 2) 0), (8, .ptr (g + 3 + 4) 0), (9, .v (.int .i64 (w64 (v7 - r18)))), (10, .sl (.id (g + 3 + 6 + 5 + 1)) 1 (l19.map cI)), (11, .v (.int .i64 v9)), (12, .ptr (g3 + 5 + 5) 0), (13, .v (.int .i64 r18)), (52, .v (.bool r22))] (.cons (.refl _) (.cons (.refl _) (.cons (.refl _) (.cons (.refl _) (.cons (.refl _) (.cons (.refl _) (.cons (.refl _) (.cons (.refl _) (.cons (.refl _) (.cons (.refl _) .nil)))))))))) ?_
          rcases Bool.eq_false_or_eq_true r22 with hb23 | hb23
          · replace hM := ifT hM hb23
            refine w_condT (e := r22) rfl hb23 ?_
            refine r_region (n := 6) rfl ?_
            refine o_fieldP (by decide) ty_fo41_1 rfl ?_
            refine o_load (v := .v (.int .i64 v10)) 2 hS (by decide) rfl rfl .no (part_one ty_agg3 ty_sc3 rfl) ?_
            refine o_move (v := .v (.int .i64 r18)) (by decide) rfl ?_
            refine o_int (v := .v (.int .i64 (w64 (v10 + r18)))) (by decide) rfl rfl rfl ?_
            refine o_fieldP (by decide) ty_fo41_1 rfl ?_
            refine o_store (v := .v (.int .i64 (w64 (v10 + r18)))) (ns := [.v (.int .i64 (w64 (v10 + r18)))]) (L' := [(g3 + 5 + 5, .cells [.v (.int .i64 x17.Kind), .v (.int .i64 x17.Cents), .v (.int .i64 x17.Part), .v (.int .i64 x17.More)]), (g + 3 + 6 + 5 + 1, .row 3 l19.length), (g + 3 + 4, .cells [.v (.int .i64 0), .v (.int .i64 (w64 (v10 + r18))), .v (.int .i64 v11)]), (g + 2, .cells [.v (.int .i64 0), .v (.int .i64 0), .v (.int .i64 0)]), (g + 0, .cells [.sl .no 4 (a0.Clauses.map Clause.cells), .v (.int .i64 a0.Loan)])]) 2 hS rfl rfl .no rfl rfl ty_var3 (Nat.le_of_ble_eq_true rfl) rfl fun H hS => ?_
            refine run_nil ?_
            exact w_goto (w64 (v10 + r18)) (.cons (.refl _) (.cons (.refl _) (.cons (.refl _) (.cons (.refl _) (.cons (.refl _) (.cons (.refl _) (.cons (.refl _) (.cons (.refl _) (.cons (.refl _) .nil))))))))) ⟨(hS.keep [true, true, true, true, true] rfl).up (by omega), hM⟩
          · replace hM := ifF hM hb23
            refine w_condF (e := r22) rfl hb23 ?_
            refine r_skip ?_
            exact w_goto v10 (.cons (.refl _) (.cons (.refl _) (.cons (.refl _) (.cons (.refl _) (.cons (.refl _) (.cons (.refl _) (.cons (.refl _) (.cons (.refl _) (.cons (.refl _) .nil))))))))) ⟨(hS.keep [true, true, true, true, true] rfl).up (by omega), hM⟩
    · replace hM := ifF hM hb12
      refine w_condF (e := (decide (v9 < (a0.Clauses.length : Int)))) rfl hb12 ?_
      refine r_exit ?_
      refine r_then_exit ?_
      refine w_round_exit ?_
      refine r_blk_exit ?_
      exact w_goto (v8, v10, v11) (.cons (.refl _) (.cons (.refl _) (.cons (.refl _) (.cons (.refl _) .nil)))) ⟨(hS.keep [true, true, true, false] rfl).up (by omega), hM⟩
theorem W_law09_same {n : Nat} {a0 : Share} {a1 : Share} {r : Bool} (hM : law09_same n a0 a1 = some r) : PureSat Try.prog 22 [.agg [.sl .no 4 (a0.Clauses.map Clause.cells), .v (.int .i64 a0.Loan)], .agg [.sl .no 4 (a1.Clauses.map Clause.cells), .v (.int .i64 a1.Loan)]] (.v (.bool r)) := by
  refine pure_of_wp mixed Try.func22 rfl (by decide) Try.ntmps22 (by simp) ?pure fun H0 g hf => ?_
  case pure => exact .v _
  rw [frame0_of]
  change wpA _ _ _ _ (Fr.of [(0, .agg [.sl .no 4 (a0.Clauses.map Clause.cells), .v (.int .i64 a0.Loan)]), (1, .agg [.sl .no 4 (a1.Clauses.map Clause.cells), .v (.int .i64 a1.Loan)])]) H0 g
  have hS := St.start hf
  refine r_seq ?_
  refine r_region (n := 3) rfl ?_
  refine o_box (v := .agg [.sl .no 4 (a0.Clauses.map Clause.cells), .v (.int .i64 a0.Loan)]) (cs := [.sl .no 4 (a0.Clauses.map Clause.cells), .v (.int .i64 a0.Loan)]) hS (by decide) rfl rfl (by omega) fun H hS => ?_
  refine o_box (v := .agg [.sl .no 4 (a1.Clauses.map Clause.cells), .v (.int .i64 a1.Loan)]) (cs := [.sl .no 4 (a1.Clauses.map Clause.cells), .v (.int .i64 a1.Loan)]) hS (by decide) rfl rfl (by omega) fun H hS => ?_
  refine o_assign (v := .v (.bool false)) (by decide) rfl ?_
  refine run_nil ?_
  refine w_next [(2, .ptr (g + 0) 0), (3, .ptr (g + 1) 0)] (.cons (.refl _) (.cons (.refl _) .nil)) ?_
  refine r_seq ?_
  refine w_join (J := Bool) (fun j => [(2, .ptr (g + 0) 0), (3, .ptr (g + 1) 0), (19, .v (.bool j))]) (fun j H' g' => St (· < g) H0 [(g + 1, .cells [.sl .no 4 (a1.Clauses.map Clause.cells), .v (.int .i64 a1.Loan)]), (g + 0, .cells [.sl .no 4 (a0.Clauses.map Clause.cells), .v (.int .i64 a0.Loan)])] H' g' ∧ law09_same_j1 n a0 a1 j = some r) ?_ ?_
  · rintro v1 H g1 ⟨hS, hM⟩
    change wpA _ _ _ _ (Fr.of [(2, .ptr (g + 0) 0), (3, .ptr (g + 1) 0), (19, .v (.bool v1))]) _ _
    replace hS : St (· < g) H0 [(g + 1, .cells [.sl .no 4 (a1.Clauses.map Clause.cells), .v (.int .i64 a1.Loan)]), (g + 0, .cells [.sl .no 4 (a0.Clauses.map Clause.cells), .v (.int .i64 a0.Loan)])] H g1 := hS
    replace hM : law09_same_j1 n a0 a1 v1 = some r := hM
    rcases Bool.eq_false_or_eq_true v1 with hb2 | hb2
    · replace hM := ifT hM hb2
      refine w_condT (e := v1) rfl hb2 ?_
      refine r_seq ?_
      refine r_region (n := 1) rfl ?_
      refine o_assign (v := .v (.bool false)) (by decide) rfl ?_
      refine run_nil ?_
      replace hS := hS.keep (L' := []) [false, false] rfl
      refine w_next [(4, .v (.bool false))] (.cons (.refl _) .nil) ?_
      refine r_ret ?_
      refine r_then_ret ?_
      refine w_end (x := .v (.bool false)) (f := fun r => .v (.bool r)) (.inr rfl) ?_ (.refl _) (Option.some.inj hM) hS
      exact (res_one (res_tmp (x := .v (.bool false)) rfl))
    · replace hM := ifF hM hb2
      refine w_condF (e := v1) rfl hb2 ?_
      refine r_skip ?_
      refine w_next [(2, .ptr (g + 0) 0), (3, .ptr (g + 1) 0)] (.cons (.refl _) (.cons (.refl _) .nil)) ?_
      refine w_join (J := Unit) (fun j => []) (fun j H' g' => St (· < g) H0 [] H' g' ∧ law09_same_j2 = some r) ?_ ?_
      · rintro _ H g2 ⟨hS, hM⟩
        change wpA _ _ _ _ (Fr.of []) _ _
        replace hS : St (· < g) H0 [] H g2 := hS
        replace hM : law09_same_j2 = some r := hM
        refine r_seq ?_
        refine r_region (n := 1) rfl ?_
        refine o_assign (v := .v (.bool true)) (by decide) rfl ?_
        refine run_nil ?_
        refine w_next [(4, .v (.bool true))] (.cons (.refl _) .nil) ?_
        refine r_ret ?_
        refine w_end (x := .v (.bool true)) (f := fun r => .v (.bool r)) (.inr rfl) ?_ (.refl _) (Option.some.inj hM) hS
        exact (res_one (res_tmp (x := .v (.bool true)) rfl))
      · refine r_seq ?_
        refine r_region (n := 1) rfl ?_
        refine o_assign (v := .v (.int .i64 0)) (by decide) rfl ?_
        refine run_nil ?_
        refine w_next [(2, .ptr (g + 0) 0), (3, .ptr (g + 1) 0), (5, .v (.int .i64 0))] (.cons (.refl _) (.cons (.refl _) (.cons (.refl _) .nil))) ?_
        refine r_block ?_
        refine w_loop (V := Int) (fun v => [(2, .ptr (g + 0) 0), (3, .ptr (g + 1) 0), (5, .v (.int .i64 v))]) (fun v m H' g' => St (· < g) H0 [(g + 1, .cells [.sl .no 4 (a1.Clauses.map Clause.cells), .v (.int .i64 a1.Loan)]), (g + 0, .cells [.sl .no 4 (a0.Clauses.map Clause.cells), .v (.int .i64 a0.Loan)])] H' g' ∧ law09_same_l1 a0 a1 m v = some r) (n := n) 0 (.cons (.refl _) (.cons (.refl _) (.cons (.refl _) .nil))) ⟨(hS.keep [true, true] rfl).up (by omega), hM⟩ ?_
        rintro v3 m H g3 ⟨hS, hM⟩
        obtain _ | m := m
        · exact nomatch (show none = some _ from hM)
        change wpA _ _ _ _ (Fr.of [(2, .ptr (g + 0) 0), (3, .ptr (g + 1) 0), (5, .v (.int .i64 v3))]) _ _
        replace hS : St (· < g) H0 [(g + 1, .cells [.sl .no 4 (a1.Clauses.map Clause.cells), .v (.int .i64 a1.Loan)]), (g + 0, .cells [.sl .no 4 (a0.Clauses.map Clause.cells), .v (.int .i64 a0.Loan)])] H g3 := hS
        replace hM : law09_same_l1_b a0 a1 (law09_same_l1 a0 a1 m) v3 = some r := hM
        refine r_seq ?_
        refine r_seq ?_
        refine r_region (n := 5) rfl ?_
        refine o_move (v := .v (.int .i64 v3)) (by decide) rfl ?_
        refine o_fieldP (by decide) ty_fo24_0 rfl ?_
        refine o_load (v := .sl .no 4 (a0.Clauses.map Clause.cells)) 1 hS (by decide) rfl rfl .no (part_one ty_agg22 ty_sc22 rfl) ?_
        refine o_len (n := a0.Clauses.length) (by decide) rfl (List.length_map _) ty_isl22 ?_
        refine o_int (v := .v (.bool (decide (v3 < (a0.Clauses.length : Int))))) (by decide) rfl rfl rfl ?_
        refine run_nil ?_
        refine w_next [(2, .ptr (g + 0) 0), (3, .ptr (g + 1) 0), (5, .v (.int .i64 v3)), (24, .v (.bool (decide (v3 < (a0.Clauses.length : Int)))))] (.cons (.refl _) (.cons (.refl _) (.cons (.refl _) (.cons (.refl _) .nil)))) ?_
        rcases Bool.eq_false_or_eq_true (decide (v3 < (a0.Clauses.length : Int))) with hb4 | hb4
        · replace hM := ifT hM hb4
          refine w_condT (e := (decide (v3 < (a0.Clauses.length : Int)))) rfl hb4 ?_
          refine r_skip ?_
          refine w_next [(2, .ptr (g + 0) 0), (3, .ptr (g + 1) 0), (5, .v (.int .i64 v3))] (.cons (.refl _) (.cons (.refl _) (.cons (.refl _) .nil))) ?_
          refine r_seq ?_
          refine r_block ?_
          refine r_seq ?_
          have hS0 := hS
          refine r_draw (n := 11) rfl (by kernel_rfl) ?_
          refine o_fieldP (by decide) ty_fo24_0 rfl ?_
          refine o_load (v := .sl .no 4 (a0.Clauses.map Clause.cells)) 1 hS (by decide) rfl rfl (.st hS0 1 rfl (by omega)) (part_one ty_agg22 ty_sc22 rfl) ?_
          refine o_move (v := .v (.int .i64 v3)) (by decide) rfl ?_
          obtain ⟨x5, hx5, hM⟩ := bindE hM
          refine o_index (xs := a0.Clauses) (f := Clause.cells) (z := v3) (u := x5) (by decide) rfl rfl ty_es22 hx5 ?_
          refine o_loadE (v := .agg [.v (.int .i64 x5.Kind), .v (.int .i64 x5.Cents), .v (.int .i64 x5.Part), .v (.int .i64 x5.More)]) (by decide) rfl (part_agg ty_agg39 (Nat.le_of_ble_eq_true rfl) rfl) ?_
          refine o_fieldP (by decide) ty_fo24_0 rfl ?_
          refine o_load (v := .sl .no 4 (a1.Clauses.map Clause.cells)) 0 hS (by decide) rfl rfl (.st hS0 0 rfl (by omega)) (part_one ty_agg22 ty_sc22 rfl) ?_
          refine o_move (v := .v (.int .i64 v3)) (by decide) rfl ?_
          obtain ⟨x6, hx6, hM⟩ := bindE hM
          refine o_index (xs := a1.Clauses) (f := Clause.cells) (z := v3) (u := x6) (by decide) rfl rfl ty_es22 hx6 ?_
          refine o_loadE (v := .agg [.v (.int .i64 x6.Kind), .v (.int .i64 x6.Cents), .v (.int .i64 x6.Part), .v (.int .i64 x6.More)]) (by decide) rfl (part_agg ty_agg39 (Nat.le_of_ble_eq_true rfl) rfl) ?_
          refine o_neS (cs := [.v (.int .i64 x5.Kind), .v (.int .i64 x5.Cents), .v (.int .i64 x5.Part), .v (.int .i64 x5.More)]) (ds := [.v (.int .i64 x6.Kind), .v (.int .i64 x6.Cents), .v (.int .i64 x6.Part), .v (.int .i64 x6.More)]) (e := ((x5.Kind == x6.Kind) && ((x5.Cents == x6.Cents) && ((x5.Part == x6.Part) && ((x5.More == x6.More) && true))))) (by decide) rfl rfl ty_flat39 rfl ?_
          refine run_nil ?_
          refine w_next [(2, .ptr (g + 0) 0), (3, .ptr (g + 1) 0), (5, .v (.int .i64 v3)), (37, .v (.bool (!((x5.Kind == x6.Kind) && ((x5.Cents == x6.Cents) && ((x5.Part == x6.Part) && ((x5.More == x6.More) && true)))))))] (.cons (.refl _) (.cons (.refl _) (.cons (.refl _) (.cons (.refl _) .nil)))) ?_
          rcases Bool.eq_false_or_eq_true (!((x5.Kind == x6.Kind) && ((x5.Cents == x6.Cents) && ((x5.Part == x6.Part) && ((x5.More == x6.More) && true))))) with hb7 | hb7
          · replace hM := ifT hM hb7
            refine w_condT (e := (!((x5.Kind == x6.Kind) && ((x5.Cents == x6.Cents) && ((x5.Part == x6.Part) && ((x5.More == x6.More) && true)))))) rfl hb7 ?_
            refine r_seq ?_
            refine r_region (n := 1) rfl ?_
            refine o_assign (v := .v (.bool false)) (by decide) rfl ?_
            refine run_nil ?_
            replace hS := hS.keep (L' := []) [false, false] rfl
            refine w_next [(4, .v (.bool false))] (.cons (.refl _) .nil) ?_
            refine r_ret ?_
            refine r_blk_ret ?_
            refine r_then_ret ?_
            refine w_round_ret ?_
            refine r_blk_ret ?_
            refine w_goto_ret ?_
            refine w_end (x := .v (.bool false)) (f := fun r => .v (.bool r)) (.inr rfl) ?_ (.refl _) (Option.some.inj hM) hS
            exact (res_one (res_tmp (x := .v (.bool false)) rfl))
          · replace hM := ifF hM hb7
            refine w_condF (e := (!((x5.Kind == x6.Kind) && ((x5.Cents == x6.Cents) && ((x5.Part == x6.Part) && ((x5.More == x6.More) && true)))))) rfl hb7 ?_
            refine r_skip ?_
            refine r_blk_normal ?_
            refine w_next [(2, .ptr (g + 0) 0), (3, .ptr (g + 1) 0), (5, .v (.int .i64 v3))] (.cons (.refl _) (.cons (.refl _) (.cons (.refl _) .nil))) ?_
            refine r_region (n := 3) rfl ?_
            refine o_move (v := .v (.int .i64 v3)) (by decide) rfl ?_
            refine o_int (v := .v (.int .i64 (w64 (v3 + 1)))) (by decide) rfl rfl rfl ?_
            refine o_assign (v := .v (.int .i64 (w64 (v3 + 1)))) (by decide) rfl ?_
            refine run_nil ?_
            exact w_round (w64 (v3 + 1)) (Nat.lt_succ_self _) (.cons (.refl _) (.cons (.refl _) (.cons (.refl _) .nil))) ⟨(hS.keep [true, true] rfl).up (by omega), hM⟩
        · replace hM := ifF hM hb4
          refine w_condF (e := (decide (v3 < (a0.Clauses.length : Int)))) rfl hb4 ?_
          refine r_exit ?_
          refine r_then_exit ?_
          refine w_round_exit ?_
          refine r_blk_exit ?_
          exact w_goto () .nil ⟨(hS.keep [false, false] rfl).up (by omega), hM⟩
  · refine r_region (n := 14) rfl ?_
    refine o_fieldP (by decide) ty_fo24_1 rfl ?_
    refine o_load (v := .v (.int .i64 a0.Loan)) 1 hS (by decide) rfl rfl .no (part_one ty_agg3 ty_sc3 rfl) ?_
    refine o_fieldP (by decide) ty_fo24_1 rfl ?_
    refine o_load (v := .v (.int .i64 a1.Loan)) 0 hS (by decide) rfl rfl .no (part_one ty_agg3 ty_sc3 rfl) ?_
    refine o_int (v := .v (.bool (a0.Loan != a1.Loan))) (by decide) rfl rfl rfl ?_
    refine o_move (v := .v (.bool (a0.Loan != a1.Loan))) (by decide) rfl ?_
    rcases Bool.eq_false_or_eq_true (a0.Loan != a1.Loan) with hb8 | hb8
    · replace hM := ifT hM hb8
      refine o_guardN (j := 5) (e := (a0.Loan != a1.Loan)) (want := false) (by decide) rfl hb8 ?_
      refine o_guardN (j := 5) (e := (a0.Loan != a1.Loan)) (want := false) (by decide) rfl hb8 ?_
      refine o_guardN (j := 5) (e := (a0.Loan != a1.Loan)) (want := false) (by decide) rfl hb8 ?_
      refine o_guardN (j := 5) (e := (a0.Loan != a1.Loan)) (want := false) (by decide) rfl hb8 ?_
      refine o_guardN (j := 5) (e := (a0.Loan != a1.Loan)) (want := false) (by decide) rfl hb8 ?_
      refine o_guardN (j := 5) (e := (a0.Loan != a1.Loan)) (want := false) (by decide) rfl hb8 ?_
      refine o_guardN (j := 5) (e := (a0.Loan != a1.Loan)) (want := false) (by decide) rfl hb8 ?_
      refine o_pickT (v := .v (.bool true)) (e := (a0.Loan != a1.Loan)) (by decide) rfl hb8 rfl ?_
      refine run_nil ?_
      exact w_goto true (.cons (.refl _) (.cons (.refl _) (.cons (.refl _) .nil))) ⟨(hS.keep [true, true] rfl).up (by omega), hM⟩
    · replace hM := ifF hM hb8
      refine o_guardY (j := 5) (e := (a0.Loan != a1.Loan)) (want := false) rfl hb8 ?_
      refine o_fieldP (by decide) ty_fo24_0 rfl ?_
      refine o_guardY (j := 5) (e := (a0.Loan != a1.Loan)) (want := false) rfl hb8 ?_
      refine o_load (v := .sl .no 4 (a0.Clauses.map Clause.cells)) 1 hS (by decide) rfl rfl .no (part_one ty_agg22 ty_sc22 rfl) ?_
      refine o_guardY (j := 5) (e := (a0.Loan != a1.Loan)) (want := false) rfl hb8 ?_
      refine o_len (n := a0.Clauses.length) (by decide) rfl (List.length_map _) ty_isl22 ?_
      refine o_guardY (j := 5) (e := (a0.Loan != a1.Loan)) (want := false) rfl hb8 ?_
      refine o_fieldP (by decide) ty_fo24_0 rfl ?_
      refine o_guardY (j := 5) (e := (a0.Loan != a1.Loan)) (want := false) rfl hb8 ?_
      refine o_load (v := .sl .no 4 (a1.Clauses.map Clause.cells)) 0 hS (by decide) rfl rfl .no (part_one ty_agg22 ty_sc22 rfl) ?_
      refine o_guardY (j := 5) (e := (a0.Loan != a1.Loan)) (want := false) rfl hb8 ?_
      refine o_len (n := a1.Clauses.length) (by decide) rfl (List.length_map _) ty_isl22 ?_
      refine o_guardY (j := 5) (e := (a0.Loan != a1.Loan)) (want := false) rfl hb8 ?_
      refine o_int (v := .v (.bool ((a0.Clauses.length : Int) != (a1.Clauses.length : Int)))) (by decide) rfl rfl rfl ?_
      refine o_pickF (v := .v (.bool ((a0.Clauses.length : Int) != (a1.Clauses.length : Int)))) (e := (a0.Loan != a1.Loan)) (by decide) rfl hb8 rfl ?_
      refine run_nil ?_
      exact w_goto ((a0.Clauses.length : Int) != (a1.Clauses.length : Int)) (.cons (.refl _) (.cons (.refl _) (.cons (.refl _) .nil))) ⟨(hS.keep [true, true] rfl).up (by omega), hM⟩
theorem W_shares_Weeks {n : Nat} {a0 : Share} {a1 : List Int} {r : (List Split) × Int × Int} (hM : shares_Weeks n a0 a1 = some r) : PureSat Try.prog 35 [.agg [.sl .no 4 (a0.Clauses.map Clause.cells), .v (.int .i64 a0.Loan)], .sl .no 1 (a1.map cI)] (.tup [.sl .no 3 (r.1.map Split.cells), .v (.int .i64 r.2.1), .v (.int .i64 r.2.2)]) := by
  refine pure_of_wp mixed Try.func35 rfl (by decide) Try.ntmps35 (by simp) ?pure fun H0 g hf => ?_
  case pure => exact .tup _ (pl_cons (.sl _ _ (pures_map (fun x => (pl_cons (.v _) (pl_cons (.v _) (pl_cons (.v _) pl_nil)))))) (pl_cons (.v _) (pl_cons (.v _) pl_nil)))
  rw [frame0_of]
  change wpA _ _ _ _ (Fr.of [(0, .agg [.sl .no 4 (a0.Clauses.map Clause.cells), .v (.int .i64 a0.Loan)]), (1, .sl .no 1 (a1.map cI))]) H0 g
  have hS := St.start hf
  refine r_seq ?_
  refine r_region (n := 4) rfl ?_
  refine o_box (v := .agg [.sl .no 4 (a0.Clauses.map Clause.cells), .v (.int .i64 a0.Loan)]) (cs := [.sl .no 4 (a0.Clauses.map Clause.cells), .v (.int .i64 a0.Loan)]) hS (by decide) rfl rfl (by omega) fun H hS => ?_
  refine o_assign (v := .sl .nil 0 []) (by decide) rfl ?_
  refine o_assign (v := .v (.int .i64 0)) (by decide) rfl ?_
  refine o_assign (v := .v (.int .i64 0)) (by decide) rfl ?_
  refine run_nil ?_
  refine w_own [(1, .sl .no 1 (a1.map cI)), (2, .ptr (g + 0) 0), (4, .sl (.id (g + 4)) 3 (([] : List Split).map Split.cells))] 4 3 41 hS (by omega) (by decide) rfl (.cons (.refl _) (.cons (.refl _) (.cons (.refl _) .nil))) fun H hS => ?_
  refine r_seq ?_
  refine r_seq ?_
  refine r_region (n := 3) rfl ?_
  refine o_load (v := .agg [.sl .no 4 (a0.Clauses.map Clause.cells), .v (.int .i64 a0.Loan)]) 1 hS (by decide) rfl rfl .no (part_agg ty_agg24 (Nat.le_of_ble_eq_true rfl) rfl) ?_
  obtain ⟨r1, hr1, hM⟩ := bindE hM
  refine o_call (bs := [.agg [.sl .no 4 (a0.Clauses.map Clause.cells), .v (.int .i64 a0.Loan)]]) (by decide) rfl rfl ((W_shares_Check hr1).le (.cons (.refl _) .nil)) ?_
  refine o_assign (v := .v (.int .i64 r1)) (by decide) rfl ?_
  refine run_nil ?_
  refine w_next [(1, .sl .no 1 (a1.map cI)), (2, .ptr (g + 0) 0), (4, .sl (.id (g + 4)) 3 (([] : List Split).map Split.cells)), (7, .v (.int .i64 r1))] (.cons (.refl _) (.cons (.refl _) (.cons (.refl _) (.cons (.refl _) .nil)))) ?_
  refine r_seq ?_
  refine r_region (n := 2) rfl ?_
  refine o_move (v := .v (.int .i64 r1)) (by decide) rfl ?_
  refine o_int (v := .v (.bool (r1 != 0))) (by decide) rfl rfl rfl ?_
  refine run_nil ?_
  refine w_next [(1, .sl .no 1 (a1.map cI)), (2, .ptr (g + 0) 0), (4, .sl (.id (g + 4)) 3 (([] : List Split).map Split.cells)), (7, .v (.int .i64 r1)), (15, .v (.bool (r1 != 0)))] (.cons (.refl _) (.cons (.refl _) (.cons (.refl _) (.cons (.refl _) (.cons (.refl _) .nil))))) ?_
  rcases Bool.eq_false_or_eq_true (r1 != 0) with hb2 | hb2
  · replace hM := ifT hM hb2
    refine w_condT (e := (r1 != 0)) rfl hb2 ?_
    refine r_seq ?_
    refine r_region (n := 4) rfl ?_
    refine o_move (v := .v (.int .i64 r1)) (by decide) rfl ?_
    refine o_assign (v := .sl .nil 0 []) (by decide) rfl ?_
    refine o_assign (v := .v (.int .i64 0)) (by decide) rfl ?_
    refine o_assign (v := .v (.int .i64 r1)) (by decide) rfl ?_
    refine run_nil ?_
    refine w_own [(4, .sl (.id (g + 4 + 1 + 3 + 2 + 4)) 3 (([] : List Split).map Split.cells)), (5, .v (.int .i64 0)), (6, .v (.int .i64 r1))] 4 3 41 hS (by omega) (by decide) rfl (.cons (.refl _) (.cons (.refl _) (.cons (.refl _) .nil))) fun H hS => ?_
    refine r_ret ?_
    refine r_then_ret ?_
    refine w_end (x := .tup [.sl (.id (g + 4 + 1 + 3 + 2 + 4)) 3 (([] : List Split).map Split.cells), .v (.int .i64 0), .v (.int .i64 r1)]) (f := fun r => .tup [.sl .no 3 (r.1.map Split.cells), .v (.int .i64 r.2.1), .v (.int .i64 r.2.2)]) (.inr rfl) ?_ (.tupL (.cons (.sl _ _ _) (.cons (.refl _) (.cons (.refl _) .nil)))) (Option.some.inj hM) hS
    exact (res_three (res_tmp (x := .sl (.id (g + 4 + 1 + 3 + 2 + 4)) 3 (([] : List Split).map Split.cells)) rfl) (res_tmp (x := .v (.int .i64 0)) rfl) (res_tmp (x := .v (.int .i64 r1)) rfl))
  · replace hM := ifF hM hb2
    refine w_condF (e := (r1 != 0)) rfl hb2 ?_
    refine r_skip ?_
    refine w_next [(1, .sl .no 1 (a1.map cI)), (2, .ptr (g + 0) 0), (4, .sl (.id (g + 4)) 3 (([] : List Split).map Split.cells))] (.cons (.refl _) (.cons (.refl _) (.cons (.refl _) .nil))) ?_
    refine r_seq ?_
    refine r_seq ?_
    refine r_region (n := 3) rfl ?_
    refine o_move (v := .sl .no 1 (a1.map cI)) (by decide) rfl ?_
    refine o_len (n := a1.length) (by decide) rfl (List.length_map _) ty_isl28 ?_
    refine o_int (v := .v (.bool (decide ((a1.length : Int) > 6)))) (by decide) rfl rfl rfl ?_
    refine run_nil ?_
    refine w_next [(1, .sl .no 1 (a1.map cI)), (2, .ptr (g + 0) 0), (4, .sl (.id (g + 4)) 3 (([] : List Split).map Split.cells)), (19, .v (.bool (decide ((a1.length : Int) > 6))))] (.cons (.refl _) (.cons (.refl _) (.cons (.refl _) (.cons (.refl _) .nil)))) ?_
    rcases Bool.eq_false_or_eq_true (decide ((a1.length : Int) > 6)) with hb3 | hb3
    · replace hM := ifT hM hb3
      refine w_condT (e := (decide ((a1.length : Int) > 6))) rfl hb3 ?_
      refine r_seq ?_
      refine r_region (n := 3) rfl ?_
      refine o_assign (v := .sl .nil 0 []) (by decide) rfl ?_
      refine o_assign (v := .v (.int .i64 0)) (by decide) rfl ?_
      refine o_assign (v := .v (.int .i64 2)) (by decide) rfl ?_
      refine run_nil ?_
      refine w_own [(4, .sl (.id (g + 4 + 1 + 3 + 2 + 3 + 3)) 3 (([] : List Split).map Split.cells)), (5, .v (.int .i64 0)), (6, .v (.int .i64 2))] 4 3 41 hS (by omega) (by decide) rfl (.cons (.refl _) (.cons (.refl _) (.cons (.refl _) .nil))) fun H hS => ?_
      refine r_ret ?_
      refine r_then_ret ?_
      refine w_end (x := .tup [.sl (.id (g + 4 + 1 + 3 + 2 + 3 + 3)) 3 (([] : List Split).map Split.cells), .v (.int .i64 0), .v (.int .i64 2)]) (f := fun r => .tup [.sl .no 3 (r.1.map Split.cells), .v (.int .i64 r.2.1), .v (.int .i64 r.2.2)]) (.inr rfl) ?_ (.tupL (.cons (.sl _ _ _) (.cons (.refl _) (.cons (.refl _) .nil)))) (Option.some.inj hM) hS
      exact (res_three (res_tmp (x := .sl (.id (g + 4 + 1 + 3 + 2 + 3 + 3)) 3 (([] : List Split).map Split.cells)) rfl) (res_tmp (x := .v (.int .i64 0)) rfl) (res_tmp (x := .v (.int .i64 2)) rfl))
    · replace hM := ifF hM hb3
      refine w_condF (e := (decide ((a1.length : Int) > 6))) rfl hb3 ?_
      refine r_skip ?_
      refine w_next [(1, .sl .no 1 (a1.map cI)), (2, .ptr (g + 0) 0), (4, .sl (.id (g + 4)) 3 (([] : List Split).map Split.cells))] (.cons (.refl _) (.cons (.refl _) (.cons (.refl _) .nil))) ?_
      refine r_seq ?_
      refine r_region (n := 3) rfl ?_
      refine o_fieldP (by decide) ty_fo24_1 rfl ?_
      refine o_load (v := .v (.int .i64 a0.Loan)) 1 hS (by decide) rfl rfl .no (part_one ty_agg3 ty_sc3 rfl) ?_
      refine o_assign (v := .v (.int .i64 a0.Loan)) (by decide) rfl ?_
      refine run_nil ?_
      refine w_next [(1, .sl .no 1 (a1.map cI)), (2, .ptr (g + 0) 0), (4, .sl (.id (g + 4)) 3 (([] : List Split).map Split.cells)), (5, .v (.int .i64 a0.Loan))] (.cons (.refl _) (.cons (.refl _) (.cons (.refl _) (.cons (.refl _) .nil)))) ?_
      refine w_join (J := (List Split) × Int) (fun j => [(4, .sl (.id (g + 4)) 3 (j.1.map Split.cells)), (5, .v (.int .i64 j.2))]) (fun j H' g' => St (· < g) H0 [(g + 4, .row 41 j.1.length)] H' g' ∧ shares_Weeks_j1 j.1 j.2 = some r) ?_ ?_
      · rintro ⟨v4, v5⟩ H g1 ⟨hS, hM⟩
        change wpA _ _ _ _ (Fr.of [(4, .sl (.id (g + 4)) 3 (v4.map Split.cells)), (5, .v (.int .i64 v5))]) _ _
        replace hS : St (· < g) H0 [(g + 4, .row 41 v4.length)] H g1 := hS
        replace hM : shares_Weeks_j1 v4 v5 = some r := hM
        refine r_seq ?_
        refine r_region (n := 5) rfl ?_
        refine o_move (v := .sl (.id (g + 4)) 3 (v4.map Split.cells)) (by decide) rfl ?_
        refine o_move (v := .v (.int .i64 v5)) (by decide) rfl ?_
        refine o_assign (v := .sl (.id (g + 4)) 3 (v4.map Split.cells)) (by decide) rfl ?_
        refine o_assign (v := .v (.int .i64 v5)) (by decide) rfl ?_
        refine o_assign (v := .v (.int .i64 0)) (by decide) rfl ?_
        refine run_nil ?_
        refine w_next [(4, .sl (.id (g + 4)) 3 (v4.map Split.cells)), (5, .v (.int .i64 v5)), (6, .v (.int .i64 0))] (.cons (.refl _) (.cons (.refl _) (.cons (.refl _) .nil))) ?_
        refine r_ret ?_
        refine w_end (x := .tup [.sl (.id (g + 4)) 3 (v4.map Split.cells), .v (.int .i64 v5), .v (.int .i64 0)]) (f := fun r => .tup [.sl .no 3 (r.1.map Split.cells), .v (.int .i64 r.2.1), .v (.int .i64 r.2.2)]) (.inr rfl) ?_ (.tupL (.cons (.sl _ _ _) (.cons (.refl _) (.cons (.refl _) .nil)))) (Option.some.inj hM) hS
        exact (res_three (res_tmp (x := .sl (.id (g + 4)) 3 (v4.map Split.cells)) rfl) (res_tmp (x := .v (.int .i64 v5)) rfl) (res_tmp (x := .v (.int .i64 0)) rfl))
      · refine r_seq ?_
        refine r_region (n := 3) rfl ?_
        refine o_move (v := .sl .no 1 (a1.map cI)) (by decide) rfl ?_
        refine o_len (n := a1.length) (by decide) rfl (List.length_map _) ty_isl28 ?_
        refine o_move (v := .v (.int .i64 0)) (by decide) rfl ?_
        refine run_nil ?_
        refine w_next [(2, .ptr (g + 0) 0), (4, .sl (.id (g + 4)) 3 (([] : List Split).map Split.cells)), (5, .v (.int .i64 a0.Loan)), (22, .sl .no 1 (a1.map cI)), (23, .v (.int .i64 (a1.length : Int))), (24, .v (.int .i64 0))] (.cons (.refl _) (.cons (.refl _) (.cons (.refl _) (.cons (.refl _) (.cons (.refl _) (.cons (.refl _) .nil)))))) ?_
        refine r_block ?_
        refine w_loop (V := (List Split) × Int × Int) (fun v => [(2, .ptr (g + 0) 0), (4, .sl (.id (g + 4)) 3 (v.1.map Split.cells)), (5, .v (.int .i64 v.2.1)), (22, .sl .no 1 (a1.map cI)), (23, .v (.int .i64 (a1.length : Int))), (24, .v (.int .i64 v.2.2))]) (fun v m H' g' => St (· < g) H0 [(g + 4, .row 41 v.1.length), (g + 0, .cells [.sl .no 4 (a0.Clauses.map Clause.cells), .v (.int .i64 a0.Loan)])] H' g' ∧ shares_Weeks_l1 n a0 a1 m v.1 v.2.1 v.2.2 = some r) (n := n) (([] : List Split), a0.Loan, 0) (.cons (.refl _) (.cons (.refl _) (.cons (.refl _) (.cons (.refl _) (.cons (.refl _) (.cons (.refl _) .nil)))))) ⟨(hS.keep [true, true] rfl).up (by omega), hM⟩ ?_
        rintro ⟨v6, v7, v8⟩ m H g2 ⟨hS, hM⟩
        obtain _ | m := m
        · exact nomatch (show none = some _ from hM)
        change wpA _ _ _ _ (Fr.of [(2, .ptr (g + 0) 0), (4, .sl (.id (g + 4)) 3 (v6.map Split.cells)), (5, .v (.int .i64 v7)), (22, .sl .no 1 (a1.map cI)), (23, .v (.int .i64 (a1.length : Int))), (24, .v (.int .i64 v8))]) _ _
        replace hS : St (· < g) H0 [(g + 4, .row 41 v6.length), (g + 0, .cells [.sl .no 4 (a0.Clauses.map Clause.cells), .v (.int .i64 a0.Loan)])] H g2 := hS
        replace hM : shares_Weeks_l1_b n a0 a1 (shares_Weeks_l1 n a0 a1 m) v6 v7 v8 = some r := hM
        refine r_seq ?_
        refine r_region (n := 1) rfl ?_
        refine o_int (v := .v (.bool (decide (v8 < (a1.length : Int))))) (by decide) rfl rfl rfl ?_
        refine run_nil ?_
        refine w_next [(2, .ptr (g + 0) 0), (4, .sl (.id (g + 4)) 3 (v6.map Split.cells)), (5, .v (.int .i64 v7)), (22, .sl .no 1 (a1.map cI)), (23, .v (.int .i64 (a1.length : Int))), (24, .v (.int .i64 v8)), (25, .v (.bool (decide (v8 < (a1.length : Int)))))] (.cons (.refl _) (.cons (.refl _) (.cons (.refl _) (.cons (.refl _) (.cons (.refl _) (.cons (.refl _) (.cons (.refl _) .nil))))))) ?_
        refine r_seq ?_
        rcases Bool.eq_false_or_eq_true (decide (v8 < (a1.length : Int))) with hb9 | hb9
        · replace hM := ifT hM hb9
          refine w_condT (e := (decide (v8 < (a1.length : Int)))) rfl hb9 ?_
          refine r_skip ?_
          refine w_next [(2, .ptr (g + 0) 0), (4, .sl (.id (g + 4)) 3 (v6.map Split.cells)), (5, .v (.int .i64 v7)), (22, .sl .no 1 (a1.map cI)), (23, .v (.int .i64 (a1.length : Int))), (24, .v (.int .i64 v8))] (.cons (.refl _) (.cons (.refl _) (.cons (.refl _) (.cons (.refl _) (.cons (.refl _) (.cons (.refl _) .nil)))))) ?_
          refine r_seq ?_
          refine r_block ?_
          refine r_seq ?_
          refine r_region (n := 3) rfl ?_
          obtain ⟨x10, hx10, hM⟩ := bindE hM
          refine o_index (xs := a1) (f := cI) (z := v8) (u := x10) (by decide) rfl rfl ty_es28 hx10 ?_
          refine o_loadE (v := .v (.int .i64 x10)) (by decide) rfl (part_one ty_agg3 ty_sc3 rfl) ?_
          refine o_assign (v := .v (.int .i64 x10)) (by decide) rfl ?_
          refine run_nil ?_
          refine w_next [(2, .ptr (g + 0) 0), (4, .sl (.id (g + 4)) 3 (v6.map Split.cells)), (5, .v (.int .i64 v7)), (9, .v (.int .i64 x10)), (22, .sl .no 1 (a1.map cI)), (23, .v (.int .i64 (a1.length : Int))), (24, .v (.int .i64 v8))] (.cons (.refl _) (.cons (.refl _) (.cons (.refl _) (.cons (.refl _) (.cons (.refl _) (.cons (.refl _) (.cons (.refl _) .nil))))))) ?_
          refine r_seq ?_
          refine r_seq ?_
          refine r_region (n := 3) rfl ?_
          refine o_move (v := .v (.int .i64 x10)) (by decide) rfl ?_
          obtain ⟨r11, hr11, hM⟩ := bindE hM
          refine o_call (bs := [.v (.int .i64 x10)]) (by decide) rfl rfl ((W_shares_isCents hr11).le (.cons (.refl _) .nil)) ?_
          refine o_not (e := r11) (by decide) rfl ?_
          refine run_nil ?_
          refine w_next [(2, .ptr (g + 0) 0), (4, .sl (.id (g + 4)) 3 (v6.map Split.cells)), (5, .v (.int .i64 v7)), (9, .v (.int .i64 x10)), (22, .sl .no 1 (a1.map cI)), (23, .v (.int .i64 (a1.length : Int))), (24, .v (.int .i64 v8)), (30, .v (.bool (!r11)))] (.cons (.refl _) (.cons (.refl _) (.cons (.refl _) (.cons (.refl _) (.cons (.refl _) (.cons (.refl _) (.cons (.refl _) (.cons (.refl _) .nil)))))))) ?_
          rcases Bool.eq_false_or_eq_true (!r11) with hb12 | hb12
          · replace hM := ifT hM hb12
            refine w_condT (e := (!r11)) rfl hb12 ?_
            refine r_seq ?_
            refine r_region (n := 3) rfl ?_
            refine o_assign (v := .sl .nil 0 []) (by decide) rfl ?_
            refine o_assign (v := .v (.int .i64 0)) (by decide) rfl ?_
            refine o_assign (v := .v (.int .i64 1)) (by decide) rfl ?_
            refine run_nil ?_
            refine w_own [(4, .sl (.id (g2 + 1 + 3 + 3 + 3)) 3 (([] : List Split).map Split.cells)), (5, .v (.int .i64 0)), (6, .v (.int .i64 1))] 4 3 41 hS (by omega) (by decide) rfl (.cons (.refl _) (.cons (.refl _) (.cons (.refl _) .nil))) fun H hS => ?_
            refine r_ret ?_
            refine r_then_ret ?_
            refine r_blk_ret ?_
            refine r_then_ret ?_
            refine w_round_ret ?_
            refine r_blk_ret ?_
            refine w_goto_ret ?_
            refine w_end (x := .tup [.sl (.id (g2 + 1 + 3 + 3 + 3)) 3 (([] : List Split).map Split.cells), .v (.int .i64 0), .v (.int .i64 1)]) (f := fun r => .tup [.sl .no 3 (r.1.map Split.cells), .v (.int .i64 r.2.1), .v (.int .i64 r.2.2)]) (.inr rfl) ?_ (.tupL (.cons (.sl _ _ _) (.cons (.refl _) (.cons (.refl _) .nil)))) (Option.some.inj hM) hS
            exact (res_three (res_tmp (x := .sl (.id (g2 + 1 + 3 + 3 + 3)) 3 (([] : List Split).map Split.cells)) rfl) (res_tmp (x := .v (.int .i64 0)) rfl) (res_tmp (x := .v (.int .i64 1)) rfl))
          · replace hM := ifF hM hb12
            refine w_condF (e := (!r11)) rfl hb12 ?_
            refine r_skip ?_
            refine w_next [(2, .ptr (g + 0) 0), (4, .sl (.id (g + 4)) 3 (v6.map Split.cells)), (5, .v (.int .i64 v7)), (9, .v (.int .i64 x10)), (22, .sl .no 1 (a1.map cI)), (23, .v (.int .i64 (a1.length : Int))), (24, .v (.int .i64 v8))] (.cons (.refl _) (.cons (.refl _) (.cons (.refl _) (.cons (.refl _) (.cons (.refl _) (.cons (.refl _) (.cons (.refl _) .nil))))))) ?_
            refine r_seq ?_
            refine r_region (n := 11) rfl ?_
            refine o_fieldP (by decide) ty_fo24_0 rfl ?_
            refine o_load (v := .sl .no 4 (a0.Clauses.map Clause.cells)) 1 hS (by decide) rfl rfl .no (part_one ty_agg22 ty_sc22 rfl) ?_
            refine o_move (v := .v (.int .i64 v7)) (by decide) rfl ?_
            refine o_move (v := .v (.int .i64 x10)) (by decide) rfl ?_
            obtain ⟨r13, hr13, hM⟩ := bindE hM
            refine o_call (bs := [.sl .no 4 (a0.Clauses.map Clause.cells), .v (.int .i64 v7), .v (.int .i64 x10), .v (.int .i64 0)]) (by decide) rfl rfl ((W_shares_settle hr13).le (.cons (.refl _) (.cons (.refl _) (.cons (.refl _) (.cons (.refl _) .nil))))) ?_
            refine o_move (v := .tup [.agg [.v (.int .i64 r13.1.Split.Operator), .v (.int .i64 r13.1.Split.Owner), .v (.int .i64 r13.1.Split.Repaid), .v (.int .i64 r13.1.rest), .v (.int .i64 r13.1.owed)], .sl .no 1 (r13.2.map cI)]) (by decide) rfl ?_
            refine o_extract (v := .agg [.v (.int .i64 r13.1.Split.Operator), .v (.int .i64 r13.1.Split.Owner), .v (.int .i64 r13.1.Split.Repaid), .v (.int .i64 r13.1.rest), .v (.int .i64 r13.1.owed)]) (by decide) rfl rfl ?_
            refine o_extract (v := .sl .no 1 (r13.2.map cI)) (by decide) rfl rfl ?_
            refine o_alloc hS (by decide) ty_zero76 (by omega) fun H hS => ?_
            refine o_store (v := .agg [.v (.int .i64 r13.1.Split.Operator), .v (.int .i64 r13.1.Split.Owner), .v (.int .i64 r13.1.Split.Repaid), .v (.int .i64 r13.1.rest), .v (.int .i64 r13.1.owed)]) (ns := [.v (.int .i64 r13.1.Split.Operator), .v (.int .i64 r13.1.Split.Owner), .v (.int .i64 r13.1.Split.Repaid), .v (.int .i64 r13.1.rest), .v (.int .i64 r13.1.owed)]) (L' := [(g2 + 1 + 3 + 3 + 8, .cells [.v (.int .i64 r13.1.Split.Operator), .v (.int .i64 r13.1.Split.Owner), .v (.int .i64 r13.1.Split.Repaid), .v (.int .i64 r13.1.rest), .v (.int .i64 r13.1.owed)]), (g + 4, .row 41 v6.length), (g + 0, .cells [.sl .no 4 (a0.Clauses.map Clause.cells), .v (.int .i64 a0.Loan)])]) 0 hS rfl rfl .no rfl rfl ty_var76 (Nat.le_of_ble_eq_true rfl) rfl fun H hS => ?_
            refine o_assign (v := .sl .no 1 (r13.2.map cI)) (by decide) rfl ?_
            refine run_nil ?_
            refine w_next [(2, .ptr (g + 0) 0), (4, .sl (.id (g + 4)) 3 (v6.map Split.cells)), (10, .ptr (g2 + 1 + 3 + 3 + 8) 0), (22, .sl .no 1 (a1.map cI)), (23, .v (.int .i64 (a1.length : Int))), (24, .v (.int .i64 v8))] (.cons (.refl _) (.cons (.refl _) (.cons (.refl _) (.cons (.refl _) (.cons (.refl _) (.cons (.refl _) .nil)))))) ?_
            have hS0 := hS
            refine r_draw (n := 9) rfl (by kernel_rfl) ?_
            refine o_move (v := .sl (.id (g + 4)) 3 (v6.map Split.cells)) (by decide) rfl ?_
            refine o_fieldP (by decide) ty_fo76_0 rfl ?_
            refine o_load (v := .agg [.v (.int .i64 r13.1.Split.Operator), .v (.int .i64 r13.1.Split.Owner), .v (.int .i64 r13.1.Split.Repaid)]) 0 hS (by decide) rfl rfl (.st hS0 0 rfl (by omega)) (part_agg ty_agg41 (Nat.le_of_ble_eq_true rfl) rfl) ?_
            refine o_buildSlice (es := [[.v (.int .i64 r13.1.Split.Operator), .v (.int .i64 r13.1.Split.Owner), .v (.int .i64 r13.1.Split.Repaid)]]) hS (by decide) ty_es59 ty_el59 rfl ty_ef59 rfl (by decide) (by omega) fun H hS => ?_
            obtain ⟨l14, hl14, hM⟩ := bindE hM
            refine o_append (xs := v6) (ys := ([r13.1.Split] : List Split)) (zs := l14) (f := Split.cells) (L' := [(g2 + 1 + 3 + 3 + 11 + 3, .row 41 1), (g2 + 1 + 3 + 3 + 8, .cells [.v (.int .i64 r13.1.Split.Operator), .v (.int .i64 r13.1.Split.Owner), .v (.int .i64 r13.1.Split.Repaid), .v (.int .i64 r13.1.rest), .v (.int .i64 r13.1.owed)]), (g + 4, .row 41 l14.length), (g + 0, .cells [.sl .no 4 (a0.Clauses.map Clause.cells), .v (.int .i64 a0.Loan)])]) 2 hS (by decide) rfl rfl rfl rfl (.st hS0 1 rfl (by omega)) ty_es59 ty_el59 ty_ef59 hl14 rfl fun H hS => ?_
            refine o_fieldP (by decide) ty_fo76_2 rfl ?_
            refine o_load (v := .v (.int .i64 r13.1.owed)) 1 hS (by decide) rfl rfl (.st hS0 0 rfl (by omega)) (part_one ty_agg3 ty_sc3 rfl) ?_
            refine o_assign (v := .sl (.id (g + 4)) 3 (l14.map Split.cells)) (by decide) rfl ?_
            refine o_assign (v := .v (.int .i64 r13.1.owed)) (by decide) rfl ?_
            refine run_nil ?_
            refine r_blk_normal ?_
            replace hS := hS.keep (L' := [(g + 4, .row 41 l14.length), (g + 0, .cells [.sl .no 4 (a0.Clauses.map Clause.cells), .v (.int .i64 a0.Loan)])]) [false, false, true, true] rfl
            refine w_next [(2, .ptr (g + 0) 0), (4, .sl (.id (g + 4)) 3 (l14.map Split.cells)), (5, .v (.int .i64 r13.1.owed)), (22, .sl .no 1 (a1.map cI)), (23, .v (.int .i64 (a1.length : Int))), (24, .v (.int .i64 v8))] (.cons (.refl _) (.cons (.refl _) (.cons (.refl _) (.cons (.refl _) (.cons (.refl _) (.cons (.refl _) .nil)))))) ?_
            refine r_region (n := 2) rfl ?_
            refine o_int (v := .v (.int .i64 (w64 (v8 + 1)))) (by decide) rfl rfl rfl ?_
            refine o_move (v := .v (.int .i64 (w64 (v8 + 1)))) (by decide) rfl ?_
            refine run_nil ?_
            exact w_round (l14, r13.1.owed, w64 (v8 + 1)) (Nat.lt_succ_self _) (.cons (.refl _) (.cons (.refl _) (.cons (.refl _) (.cons (.refl _) (.cons (.refl _) (.cons (.refl _) .nil)))))) ⟨(hS.keep [true, true] rfl).up (by omega), hM⟩
        · replace hM := ifF hM hb9
          refine w_condF (e := (decide (v8 < (a1.length : Int)))) rfl hb9 ?_
          refine r_exit ?_
          refine r_then_exit ?_
          refine w_round_exit ?_
          refine r_blk_exit ?_
          exact w_goto (v6, v7) (.cons (.refl _) (.cons (.refl _) .nil)) ⟨(hS.keep [true, false] rfl).up (by omega), hM⟩
theorem W_ref09_Weeks {n : Nat} {a0 : Share} {a1 : List Int} {r : (List Split) × Int × Int} (hM : ref09_Weeks n a0 a1 = some r) : PureSat Try.prog 36 [.agg [.sl .no 4 (a0.Clauses.map Clause.cells), .v (.int .i64 a0.Loan)], .sl .no 1 (a1.map cI)] (.tup [.sl .no 3 (r.1.map Split.cells), .v (.int .i64 r.2.1), .v (.int .i64 r.2.2)]) := by
  refine pure_of_wp mixed Try.func36 rfl (by decide) Try.ntmps36 (by simp) ?pure fun H0 g hf => ?_
  case pure => exact .tup _ (pl_cons (.sl _ _ (pures_map (fun x => (pl_cons (.v _) (pl_cons (.v _) (pl_cons (.v _) pl_nil)))))) (pl_cons (.v _) (pl_cons (.v _) pl_nil)))
  rw [frame0_of]
  change wpA _ _ _ _ (Fr.of [(0, .agg [.sl .no 4 (a0.Clauses.map Clause.cells), .v (.int .i64 a0.Loan)]), (1, .sl .no 1 (a1.map cI))]) H0 g
  have hS := St.start hf
  refine r_seq ?_
  refine r_region (n := 4) rfl ?_
  refine o_box (v := .agg [.sl .no 4 (a0.Clauses.map Clause.cells), .v (.int .i64 a0.Loan)]) (cs := [.sl .no 4 (a0.Clauses.map Clause.cells), .v (.int .i64 a0.Loan)]) hS (by decide) rfl rfl (by omega) fun H hS => ?_
  refine o_assign (v := .sl .nil 0 []) (by decide) rfl ?_
  refine o_assign (v := .v (.int .i64 0)) (by decide) rfl ?_
  refine o_assign (v := .v (.int .i64 0)) (by decide) rfl ?_
  refine run_nil ?_
  refine w_own [(1, .sl .no 1 (a1.map cI)), (2, .ptr (g + 0) 0), (4, .sl (.id (g + 4)) 3 (([] : List Split).map Split.cells))] 4 3 41 hS (by omega) (by decide) rfl (.cons (.refl _) (.cons (.refl _) (.cons (.refl _) .nil))) fun H hS => ?_
  refine r_seq ?_
  refine r_seq ?_
  refine r_region (n := 3) rfl ?_
  refine o_load (v := .agg [.sl .no 4 (a0.Clauses.map Clause.cells), .v (.int .i64 a0.Loan)]) 1 hS (by decide) rfl rfl .no (part_agg ty_agg24 (Nat.le_of_ble_eq_true rfl) rfl) ?_
  obtain ⟨r1, hr1, hM⟩ := bindE hM
  refine o_call (bs := [.agg [.sl .no 4 (a0.Clauses.map Clause.cells), .v (.int .i64 a0.Loan)]]) (by decide) rfl rfl ((W_ref09_Check hr1).le (.cons (.refl _) .nil)) ?_
  refine o_assign (v := .v (.int .i64 r1)) (by decide) rfl ?_
  refine run_nil ?_
  refine w_next [(1, .sl .no 1 (a1.map cI)), (2, .ptr (g + 0) 0), (4, .sl (.id (g + 4)) 3 (([] : List Split).map Split.cells)), (7, .v (.int .i64 r1))] (.cons (.refl _) (.cons (.refl _) (.cons (.refl _) (.cons (.refl _) .nil)))) ?_
  refine r_seq ?_
  refine r_region (n := 2) rfl ?_
  refine o_move (v := .v (.int .i64 r1)) (by decide) rfl ?_
  refine o_int (v := .v (.bool (r1 != 0))) (by decide) rfl rfl rfl ?_
  refine run_nil ?_
  refine w_next [(1, .sl .no 1 (a1.map cI)), (2, .ptr (g + 0) 0), (4, .sl (.id (g + 4)) 3 (([] : List Split).map Split.cells)), (7, .v (.int .i64 r1)), (16, .v (.bool (r1 != 0)))] (.cons (.refl _) (.cons (.refl _) (.cons (.refl _) (.cons (.refl _) (.cons (.refl _) .nil))))) ?_
  rcases Bool.eq_false_or_eq_true (r1 != 0) with hb2 | hb2
  · replace hM := ifT hM hb2
    refine w_condT (e := (r1 != 0)) rfl hb2 ?_
    refine r_seq ?_
    refine r_region (n := 4) rfl ?_
    refine o_move (v := .v (.int .i64 r1)) (by decide) rfl ?_
    refine o_assign (v := .sl .nil 0 []) (by decide) rfl ?_
    refine o_assign (v := .v (.int .i64 0)) (by decide) rfl ?_
    refine o_assign (v := .v (.int .i64 r1)) (by decide) rfl ?_
    refine run_nil ?_
    refine w_own [(4, .sl (.id (g + 4 + 1 + 3 + 2 + 4)) 3 (([] : List Split).map Split.cells)), (5, .v (.int .i64 0)), (6, .v (.int .i64 r1))] 4 3 41 hS (by omega) (by decide) rfl (.cons (.refl _) (.cons (.refl _) (.cons (.refl _) .nil))) fun H hS => ?_
    refine r_ret ?_
    refine r_then_ret ?_
    refine w_end (x := .tup [.sl (.id (g + 4 + 1 + 3 + 2 + 4)) 3 (([] : List Split).map Split.cells), .v (.int .i64 0), .v (.int .i64 r1)]) (f := fun r => .tup [.sl .no 3 (r.1.map Split.cells), .v (.int .i64 r.2.1), .v (.int .i64 r.2.2)]) (.inr rfl) ?_ (.tupL (.cons (.sl _ _ _) (.cons (.refl _) (.cons (.refl _) .nil)))) (Option.some.inj hM) hS
    exact (res_three (res_tmp (x := .sl (.id (g + 4 + 1 + 3 + 2 + 4)) 3 (([] : List Split).map Split.cells)) rfl) (res_tmp (x := .v (.int .i64 0)) rfl) (res_tmp (x := .v (.int .i64 r1)) rfl))
  · replace hM := ifF hM hb2
    refine w_condF (e := (r1 != 0)) rfl hb2 ?_
    refine r_skip ?_
    refine w_next [(1, .sl .no 1 (a1.map cI)), (2, .ptr (g + 0) 0), (4, .sl (.id (g + 4)) 3 (([] : List Split).map Split.cells))] (.cons (.refl _) (.cons (.refl _) (.cons (.refl _) .nil))) ?_
    refine r_seq ?_
    refine r_seq ?_
    refine r_region (n := 3) rfl ?_
    refine o_move (v := .sl .no 1 (a1.map cI)) (by decide) rfl ?_
    refine o_len (n := a1.length) (by decide) rfl (List.length_map _) ty_isl28 ?_
    refine o_int (v := .v (.bool (decide ((a1.length : Int) > 6)))) (by decide) rfl rfl rfl ?_
    refine run_nil ?_
    refine w_next [(1, .sl .no 1 (a1.map cI)), (2, .ptr (g + 0) 0), (4, .sl (.id (g + 4)) 3 (([] : List Split).map Split.cells)), (20, .v (.bool (decide ((a1.length : Int) > 6))))] (.cons (.refl _) (.cons (.refl _) (.cons (.refl _) (.cons (.refl _) .nil)))) ?_
    rcases Bool.eq_false_or_eq_true (decide ((a1.length : Int) > 6)) with hb3 | hb3
    · replace hM := ifT hM hb3
      refine w_condT (e := (decide ((a1.length : Int) > 6))) rfl hb3 ?_
      refine r_seq ?_
      refine r_region (n := 3) rfl ?_
      refine o_assign (v := .sl .nil 0 []) (by decide) rfl ?_
      refine o_assign (v := .v (.int .i64 0)) (by decide) rfl ?_
      refine o_assign (v := .v (.int .i64 2)) (by decide) rfl ?_
      refine run_nil ?_
      refine w_own [(4, .sl (.id (g + 4 + 1 + 3 + 2 + 3 + 3)) 3 (([] : List Split).map Split.cells)), (5, .v (.int .i64 0)), (6, .v (.int .i64 2))] 4 3 41 hS (by omega) (by decide) rfl (.cons (.refl _) (.cons (.refl _) (.cons (.refl _) .nil))) fun H hS => ?_
      refine r_ret ?_
      refine r_then_ret ?_
      refine w_end (x := .tup [.sl (.id (g + 4 + 1 + 3 + 2 + 3 + 3)) 3 (([] : List Split).map Split.cells), .v (.int .i64 0), .v (.int .i64 2)]) (f := fun r => .tup [.sl .no 3 (r.1.map Split.cells), .v (.int .i64 r.2.1), .v (.int .i64 r.2.2)]) (.inr rfl) ?_ (.tupL (.cons (.sl _ _ _) (.cons (.refl _) (.cons (.refl _) .nil)))) (Option.some.inj hM) hS
      exact (res_three (res_tmp (x := .sl (.id (g + 4 + 1 + 3 + 2 + 3 + 3)) 3 (([] : List Split).map Split.cells)) rfl) (res_tmp (x := .v (.int .i64 0)) rfl) (res_tmp (x := .v (.int .i64 2)) rfl))
    · replace hM := ifF hM hb3
      refine w_condF (e := (decide ((a1.length : Int) > 6))) rfl hb3 ?_
      refine r_skip ?_
      refine w_next [(1, .sl .no 1 (a1.map cI)), (2, .ptr (g + 0) 0), (4, .sl (.id (g + 4)) 3 (([] : List Split).map Split.cells))] (.cons (.refl _) (.cons (.refl _) (.cons (.refl _) .nil))) ?_
      refine w_join (J := (List Split)) (fun j => [(1, .sl .no 1 (a1.map cI)), (2, .ptr (g + 0) 0), (4, .sl (.id (g + 4)) 3 (j.map Split.cells))]) (fun j H' g' => St (· < g) H0 [(g + 4, .row 41 j.length), (g + 0, .cells [.sl .no 4 (a0.Clauses.map Clause.cells), .v (.int .i64 a0.Loan)])] H' g' ∧ ref09_Weeks_j1 n a0 a1 j = some r) ?_ ?_
      · rintro v4 H g1 ⟨hS, hM⟩
        change wpA _ _ _ _ (Fr.of [(1, .sl .no 1 (a1.map cI)), (2, .ptr (g + 0) 0), (4, .sl (.id (g + 4)) 3 (v4.map Split.cells))]) _ _
        replace hS : St (· < g) H0 [(g + 4, .row 41 v4.length), (g + 0, .cells [.sl .no 4 (a0.Clauses.map Clause.cells), .v (.int .i64 a0.Loan)])] H g1 := hS
        replace hM : ref09_Weeks_j1 n a0 a1 v4 = some r := hM
        refine r_seq ?_
        refine r_region (n := 4) rfl ?_
        refine o_load (v := .agg [.sl .no 4 (a0.Clauses.map Clause.cells), .v (.int .i64 a0.Loan)]) 1 hS (by decide) rfl rfl .no (part_agg ty_agg24 (Nat.le_of_ble_eq_true rfl) rfl) ?_
        obtain ⟨r5, hr5, hM⟩ := bindE hM
        refine o_call (bs := [.agg [.sl .no 4 (a0.Clauses.map Clause.cells), .v (.int .i64 a0.Loan)]]) (by decide) rfl rfl ((W_ref09_Copy hr5).le (.cons (.refl _) .nil)) ?_
        refine o_alloc hS (by decide) ty_zero24 (by omega) fun H hS => ?_
        refine o_store (v := .agg [.sl .no 4 (r5.Clauses.map Clause.cells), .v (.int .i64 r5.Loan)]) (ns := [.sl .no 4 (r5.Clauses.map Clause.cells), .v (.int .i64 r5.Loan)]) (L' := [(g1 + 2, .cells [.sl .no 4 (r5.Clauses.map Clause.cells), .v (.int .i64 r5.Loan)]), (g + 4, .row 41 v4.length), (g + 0, .cells [.sl .no 4 (a0.Clauses.map Clause.cells), .v (.int .i64 a0.Loan)])]) 0 hS rfl rfl .no rfl rfl ty_var24 (Nat.le_of_ble_eq_true rfl) rfl fun H hS => ?_
        refine run_nil ?_
        replace hS := hS.keep (L' := [(g1 + 2, .cells [.sl .no 4 (r5.Clauses.map Clause.cells), .v (.int .i64 r5.Loan)]), (g + 4, .row 41 v4.length)]) [true, true, false] rfl
        refine w_next [(1, .sl .no 1 (a1.map cI)), (4, .sl (.id (g + 4)) 3 (v4.map Split.cells)), (9, .ptr (g1 + 2) 0)] (.cons (.refl _) (.cons (.refl _) (.cons (.refl _) .nil))) ?_
        refine w_join (J := (List Split) × Int) (fun j => [(4, .sl (.id (g + 4)) 3 (j.1.map Split.cells)), (9, .ptr (g1 + 2) 0)]) (fun j H' g' => St (· < g) H0 [(g1 + 2, .cells [.sl .no 4 (r5.Clauses.map Clause.cells), .v (.int .i64 j.2)]), (g + 4, .row 41 j.1.length)] H' g' ∧ ref09_Weeks_j2 j.1 j.2 = some r) ?_ ?_
        · rintro ⟨v6, v7⟩ H g2 ⟨hS, hM⟩
          change wpA _ _ _ _ (Fr.of [(4, .sl (.id (g + 4)) 3 (v6.map Split.cells)), (9, .ptr (g1 + 2) 0)]) _ _
          replace hS : St (· < g) H0 [(g1 + 2, .cells [.sl .no 4 (r5.Clauses.map Clause.cells), .v (.int .i64 v7)]), (g + 4, .row 41 v6.length)] H g2 := hS
          replace hM : ref09_Weeks_j2 v6 v7 = some r := hM
          refine r_seq ?_
          have hS0 := hS
          refine r_draw (n := 6) rfl (by kernel_rfl) ?_
          refine o_move (v := .sl (.id (g + 4)) 3 (v6.map Split.cells)) (by decide) rfl ?_
          refine o_fieldP (by decide) ty_fo24_1 rfl ?_
          refine o_load (v := .v (.int .i64 v7)) 0 hS (by decide) rfl rfl (.st hS0 0 rfl (by omega)) (part_one ty_agg3 ty_sc3 rfl) ?_
          refine o_assign (v := .sl (.id (g + 4)) 3 (v6.map Split.cells)) (by decide) rfl ?_
          refine o_assign (v := .v (.int .i64 v7)) (by decide) rfl ?_
          refine o_assign (v := .v (.int .i64 0)) (by decide) rfl ?_
          refine run_nil ?_
          replace hS := hS.keep (L' := [(g + 4, .row 41 v6.length)]) [false, true] rfl
          refine w_next [(4, .sl (.id (g + 4)) 3 (v6.map Split.cells)), (5, .v (.int .i64 v7)), (6, .v (.int .i64 0))] (.cons (.refl _) (.cons (.refl _) (.cons (.refl _) .nil))) ?_
          refine r_ret ?_
          refine w_end (x := .tup [.sl (.id (g + 4)) 3 (v6.map Split.cells), .v (.int .i64 v7), .v (.int .i64 0)]) (f := fun r => .tup [.sl .no 3 (r.1.map Split.cells), .v (.int .i64 r.2.1), .v (.int .i64 r.2.2)]) (.inr rfl) ?_ (.tupL (.cons (.sl _ _ _) (.cons (.refl _) (.cons (.refl _) .nil)))) (Option.some.inj hM) hS
          exact (res_three (res_tmp (x := .sl (.id (g + 4)) 3 (v6.map Split.cells)) rfl) (res_tmp (x := .v (.int .i64 v7)) rfl) (res_tmp (x := .v (.int .i64 0)) rfl))
        · refine r_seq ?_
          refine r_region (n := 1) rfl ?_
          refine o_assign (v := .v (.int .i64 0)) (by decide) rfl ?_
          refine run_nil ?_
          refine w_next [(1, .sl .no 1 (a1.map cI)), (4, .sl (.id (g + 4)) 3 (v4.map Split.cells)), (9, .ptr (g1 + 2) 0), (10, .v (.int .i64 0))] (.cons (.refl _) (.cons (.refl _) (.cons (.refl _) (.cons (.refl _) .nil)))) ?_
          refine r_block ?_
          refine w_loop (V := (List Split) × Int × Int) (fun v => [(1, .sl .no 1 (a1.map cI)), (4, .sl (.id (g + 4)) 3 (v.1.map Split.cells)), (9, .ptr (g1 + 2) 0), (10, .v (.int .i64 v.2.1))]) (fun v m H' g' => St (· < g) H0 [(g1 + 2, .cells [.sl .no 4 (r5.Clauses.map Clause.cells), .v (.int .i64 v.2.2)]), (g + 4, .row 41 v.1.length)] H' g' ∧ ref09_Weeks_l1 n a1 r5 m v.1 v.2.1 v.2.2 = some r) (n := n) (v4, 0, r5.Loan) (.cons (.refl _) (.cons (.refl _) (.cons (.refl _) (.cons (.refl _) .nil)))) ⟨(hS.keep [true, true] rfl).up (by omega), hM⟩ ?_
          rintro ⟨v10, v11, v12⟩ m H g4 ⟨hS, hM⟩
          obtain _ | m := m
          · exact nomatch (show none = some _ from hM)
          change wpA _ _ _ _ (Fr.of [(1, .sl .no 1 (a1.map cI)), (4, .sl (.id (g + 4)) 3 (v10.map Split.cells)), (9, .ptr (g1 + 2) 0), (10, .v (.int .i64 v11))]) _ _
          replace hS : St (· < g) H0 [(g1 + 2, .cells [.sl .no 4 (r5.Clauses.map Clause.cells), .v (.int .i64 v12)]), (g + 4, .row 41 v10.length)] H g4 := hS
          replace hM : ref09_Weeks_l1_b n a1 r5 (ref09_Weeks_l1 n a1 r5 m) v10 v11 v12 = some r := hM
          refine r_seq ?_
          refine r_seq ?_
          refine r_region (n := 4) rfl ?_
          refine o_move (v := .v (.int .i64 v11)) (by decide) rfl ?_
          refine o_move (v := .sl .no 1 (a1.map cI)) (by decide) rfl ?_
          refine o_len (n := a1.length) (by decide) rfl (List.length_map _) ty_isl28 ?_
          refine o_int (v := .v (.bool (decide (v11 < (a1.length : Int))))) (by decide) rfl rfl rfl ?_
          refine run_nil ?_
          refine w_next [(1, .sl .no 1 (a1.map cI)), (4, .sl (.id (g + 4)) 3 (v10.map Split.cells)), (9, .ptr (g1 + 2) 0), (10, .v (.int .i64 v11)), (38, .v (.bool (decide (v11 < (a1.length : Int)))))] (.cons (.refl _) (.cons (.refl _) (.cons (.refl _) (.cons (.refl _) (.cons (.refl _) .nil))))) ?_
          rcases Bool.eq_false_or_eq_true (decide (v11 < (a1.length : Int))) with hb13 | hb13
          · replace hM := ifT hM hb13
            refine w_condT (e := (decide (v11 < (a1.length : Int)))) rfl hb13 ?_
            refine r_skip ?_
            refine w_next [(1, .sl .no 1 (a1.map cI)), (4, .sl (.id (g + 4)) 3 (v10.map Split.cells)), (9, .ptr (g1 + 2) 0), (10, .v (.int .i64 v11))] (.cons (.refl _) (.cons (.refl _) (.cons (.refl _) (.cons (.refl _) .nil)))) ?_
            refine r_seq ?_
            refine r_block ?_
            refine r_seq ?_
            have hS0 := hS
            refine r_draw (n := 12) rfl (by kernel_rfl) ?_
            refine o_load (v := .agg [.sl .no 4 (r5.Clauses.map Clause.cells), .v (.int .i64 v12)]) 0 hS (by decide) rfl rfl (.st hS0 0 rfl (by omega)) (part_agg ty_agg24 (Nat.le_of_ble_eq_true rfl) rfl) ?_
            refine o_move (v := .sl .no 1 (a1.map cI)) (by decide) rfl ?_
            refine o_move (v := .v (.int .i64 v11)) (by decide) rfl ?_
            obtain ⟨x14, hx14, hM⟩ := bindE hM
            refine o_index (xs := a1) (f := cI) (z := v11) (u := x14) (by decide) rfl rfl ty_es28 hx14 ?_
            refine o_loadE (v := .v (.int .i64 x14)) (by decide) rfl (part_one ty_agg3 ty_sc3 rfl) ?_
            obtain ⟨r15, hr15, hM⟩ := bindE hM
            refine o_call (bs := [.agg [.sl .no 4 (r5.Clauses.map Clause.cells), .v (.int .i64 v12)], .v (.int .i64 x14), .v (.int .i64 0)]) (by decide) rfl rfl ((W_ref09_Gone hr15).le (.cons (.aggL (.cons (.sl _ _ _) (.cons (.refl _) .nil))) (.cons (.refl _) (.cons (.refl _) .nil)))) ?_
            refine o_move (v := .tup [.sl .no 1 (r15.1.map cI), .agg [.v (.int .i64 r15.2.Operator), .v (.int .i64 r15.2.Owner), .v (.int .i64 r15.2.Repaid)]]) (by decide) rfl ?_
            refine o_extract (v := .sl .no 1 (r15.1.map cI)) (by decide) rfl rfl ?_
            refine o_extract (v := .agg [.v (.int .i64 r15.2.Operator), .v (.int .i64 r15.2.Owner), .v (.int .i64 r15.2.Repaid)]) (by decide) rfl rfl ?_
            refine o_alloc hS (by decide) ty_zero41 (by omega) fun H hS => ?_
            refine o_assign (v := .sl .no 1 (r15.1.map cI)) (by decide) rfl ?_
            refine o_store (v := .agg [.v (.int .i64 r15.2.Operator), .v (.int .i64 r15.2.Owner), .v (.int .i64 r15.2.Repaid)]) (ns := [.v (.int .i64 r15.2.Operator), .v (.int .i64 r15.2.Owner), .v (.int .i64 r15.2.Repaid)]) (L' := [(g4 + 4 + 9, .cells [.v (.int .i64 r15.2.Operator), .v (.int .i64 r15.2.Owner), .v (.int .i64 r15.2.Repaid)]), (g1 + 2, .cells [.sl .no 4 (r5.Clauses.map Clause.cells), .v (.int .i64 v12)]), (g + 4, .row 41 v10.length)]) 0 hS rfl rfl (.behind (by kernel_rfl)) rfl rfl ty_var41 (Nat.le_of_ble_eq_true rfl) rfl fun H hS => ?_
            refine run_nil ?_
            refine w_next [(1, .sl .no 1 (a1.map cI)), (4, .sl (.id (g + 4)) 3 (v10.map Split.cells)), (9, .ptr (g1 + 2) 0), (10, .v (.int .i64 v11)), (12, .ptr (g4 + 4 + 9) 0)] (.cons (.refl _) (.cons (.refl _) (.cons (.refl _) (.cons (.refl _) (.cons (.refl _) .nil))))) ?_
            refine r_seq ?_
            refine r_region (n := 5) rfl ?_
            refine o_move (v := .sl (.id (g + 4)) 3 (v10.map Split.cells)) (by decide) rfl ?_
            refine o_load (v := .agg [.v (.int .i64 r15.2.Operator), .v (.int .i64 r15.2.Owner), .v (.int .i64 r15.2.Repaid)]) 0 hS (by decide) rfl rfl .no (part_agg ty_agg41 (Nat.le_of_ble_eq_true rfl) rfl) ?_
            refine o_buildSlice (es := [[.v (.int .i64 r15.2.Operator), .v (.int .i64 r15.2.Owner), .v (.int .i64 r15.2.Repaid)]]) hS (by decide) ty_es59 ty_el59 rfl ty_ef59 rfl (by decide) (by omega) fun H hS => ?_
            obtain ⟨l16, hl16, hM⟩ := bindE hM
            refine o_append (xs := v10) (ys := ([r15.2] : List Split)) (zs := l16) (f := Split.cells) (L' := [(g4 + 4 + 12 + 2, .row 41 1), (g4 + 4 + 9, .cells [.v (.int .i64 r15.2.Operator), .v (.int .i64 r15.2.Owner), .v (.int .i64 r15.2.Repaid)]), (g1 + 2, .cells [.sl .no 4 (r5.Clauses.map Clause.cells), .v (.int .i64 v12)]), (g + 4, .row 41 l16.length)]) 3 hS (by decide) rfl rfl rfl rfl .no ty_es59 ty_el59 ty_ef59 hl16 rfl fun H hS => ?_
            refine o_assign (v := .sl (.id (g + 4)) 3 (l16.map Split.cells)) (by decide) rfl ?_
            refine run_nil ?_
            replace hS := hS.keep (L' := [(g4 + 4 + 9, .cells [.v (.int .i64 r15.2.Operator), .v (.int .i64 r15.2.Owner), .v (.int .i64 r15.2.Repaid)]), (g1 + 2, .cells [.sl .no 4 (r5.Clauses.map Clause.cells), .v (.int .i64 v12)]), (g + 4, .row 41 l16.length)]) [false, true, true, true] rfl
            refine w_next [(1, .sl .no 1 (a1.map cI)), (4, .sl (.id (g + 4)) 3 (l16.map Split.cells)), (9, .ptr (g1 + 2) 0), (10, .v (.int .i64 v11)), (12, .ptr (g4 + 4 + 9) 0)] (.cons (.refl _) (.cons (.refl _) (.cons (.refl _) (.cons (.refl _) (.cons (.refl _) .nil))))) ?_
            refine r_region (n := 7) rfl ?_
            refine o_fieldP (by decide) ty_fo24_1 rfl ?_
            refine o_load (v := .v (.int .i64 v12)) 1 hS (by decide) rfl rfl .no (part_one ty_agg3 ty_sc3 rfl) ?_
            refine o_fieldP (by decide) ty_fo41_2 rfl ?_
            refine o_load (v := .v (.int .i64 r15.2.Repaid)) 0 hS (by decide) rfl rfl .no (part_one ty_agg3 ty_sc3 rfl) ?_
            refine o_int (v := .v (.int .i64 (w64 (v12 - r15.2.Repaid)))) (by decide) rfl rfl rfl ?_
            refine o_fieldP (by decide) ty_fo24_1 rfl ?_
            refine o_store (v := .v (.int .i64 (w64 (v12 - r15.2.Repaid)))) (ns := [.v (.int .i64 (w64 (v12 - r15.2.Repaid)))]) (L' := [(g4 + 4 + 9, .cells [.v (.int .i64 r15.2.Operator), .v (.int .i64 r15.2.Owner), .v (.int .i64 r15.2.Repaid)]), (g1 + 2, .cells [.sl .no 4 (r5.Clauses.map Clause.cells), .v (.int .i64 (w64 (v12 - r15.2.Repaid)))]), (g + 4, .row 41 l16.length)]) 1 hS rfl rfl .no rfl rfl ty_var3 (Nat.le_of_ble_eq_true rfl) rfl fun H hS => ?_
            refine run_nil ?_
            refine r_blk_normal ?_
            replace hS := hS.keep (L' := [(g1 + 2, .cells [.sl .no 4 (r5.Clauses.map Clause.cells), .v (.int .i64 (w64 (v12 - r15.2.Repaid)))]), (g + 4, .row 41 l16.length)]) [false, true, true] rfl
            refine w_next [(1, .sl .no 1 (a1.map cI)), (4, .sl (.id (g + 4)) 3 (l16.map Split.cells)), (9, .ptr (g1 + 2) 0), (10, .v (.int .i64 v11))] (.cons (.refl _) (.cons (.refl _) (.cons (.refl _) (.cons (.refl _) .nil)))) ?_
            refine r_region (n := 3) rfl ?_
            refine o_move (v := .v (.int .i64 v11)) (by decide) rfl ?_
            refine o_int (v := .v (.int .i64 (w64 (v11 + 1)))) (by decide) rfl rfl rfl ?_
            refine o_assign (v := .v (.int .i64 (w64 (v11 + 1)))) (by decide) rfl ?_
            refine run_nil ?_
            exact w_round (l16, w64 (v11 + 1), w64 (v12 - r15.2.Repaid)) (Nat.lt_succ_self _) (.cons (.refl _) (.cons (.refl _) (.cons (.refl _) (.cons (.refl _) .nil)))) ⟨(hS.keep [true, true] rfl).up (by omega), hM⟩
          · replace hM := ifF hM hb13
            refine w_condF (e := (decide (v11 < (a1.length : Int)))) rfl hb13 ?_
            refine r_exit ?_
            refine r_then_exit ?_
            refine w_round_exit ?_
            refine r_blk_exit ?_
            exact w_goto (v10, v12) (.cons (.refl _) (.cons (.refl _) .nil)) ⟨(hS.keep [true, true] rfl).up (by omega), hM⟩
      · refine r_seq ?_
        refine r_region (n := 1) rfl ?_
        refine o_assign (v := .v (.int .i64 0)) (by decide) rfl ?_
        refine run_nil ?_
        refine w_next [(1, .sl .no 1 (a1.map cI)), (2, .ptr (g + 0) 0), (4, .sl (.id (g + 4)) 3 (([] : List Split).map Split.cells)), (8, .v (.int .i64 0))] (.cons (.refl _) (.cons (.refl _) (.cons (.refl _) (.cons (.refl _) .nil)))) ?_
        refine r_block ?_
        refine w_loop (V := (List Split) × Int) (fun v => [(1, .sl .no 1 (a1.map cI)), (2, .ptr (g + 0) 0), (4, .sl (.id (g + 4)) 3 (v.1.map Split.cells)), (8, .v (.int .i64 v.2))]) (fun v m H' g' => St (· < g) H0 [(g + 4, .row 41 v.1.length), (g + 0, .cells [.sl .no 4 (a0.Clauses.map Clause.cells), .v (.int .i64 a0.Loan)])] H' g' ∧ ref09_Weeks_l2 n a0 a1 m v.1 v.2 = some r) (n := n) (([] : List Split), 0) (.cons (.refl _) (.cons (.refl _) (.cons (.refl _) (.cons (.refl _) .nil)))) ⟨(hS.keep [true, true] rfl).up (by omega), hM⟩ ?_
        rintro ⟨v17, v18⟩ m H g5 ⟨hS, hM⟩
        obtain _ | m := m
        · exact nomatch (show none = some _ from hM)
        change wpA _ _ _ _ (Fr.of [(1, .sl .no 1 (a1.map cI)), (2, .ptr (g + 0) 0), (4, .sl (.id (g + 4)) 3 (v17.map Split.cells)), (8, .v (.int .i64 v18))]) _ _
        replace hS : St (· < g) H0 [(g + 4, .row 41 v17.length), (g + 0, .cells [.sl .no 4 (a0.Clauses.map Clause.cells), .v (.int .i64 a0.Loan)])] H g5 := hS
        replace hM : ref09_Weeks_l2_b n a0 a1 (ref09_Weeks_l2 n a0 a1 m) v17 v18 = some r := hM
        refine r_seq ?_
        refine r_seq ?_
        refine r_region (n := 4) rfl ?_
        refine o_move (v := .v (.int .i64 v18)) (by decide) rfl ?_
        refine o_move (v := .sl .no 1 (a1.map cI)) (by decide) rfl ?_
        refine o_len (n := a1.length) (by decide) rfl (List.length_map _) ty_isl28 ?_
        refine o_int (v := .v (.bool (decide (v18 < (a1.length : Int))))) (by decide) rfl rfl rfl ?_
        refine run_nil ?_
        refine w_next [(1, .sl .no 1 (a1.map cI)), (2, .ptr (g + 0) 0), (4, .sl (.id (g + 4)) 3 (v17.map Split.cells)), (8, .v (.int .i64 v18)), (24, .v (.bool (decide (v18 < (a1.length : Int)))))] (.cons (.refl _) (.cons (.refl _) (.cons (.refl _) (.cons (.refl _) (.cons (.refl _) .nil))))) ?_
        rcases Bool.eq_false_or_eq_true (decide (v18 < (a1.length : Int))) with hb19 | hb19
        · replace hM := ifT hM hb19
          refine w_condT (e := (decide (v18 < (a1.length : Int)))) rfl hb19 ?_
          refine r_skip ?_
          refine w_next [(1, .sl .no 1 (a1.map cI)), (2, .ptr (g + 0) 0), (4, .sl (.id (g + 4)) 3 (v17.map Split.cells)), (8, .v (.int .i64 v18))] (.cons (.refl _) (.cons (.refl _) (.cons (.refl _) (.cons (.refl _) .nil)))) ?_
          refine r_seq ?_
          refine r_block ?_
          refine r_seq ?_
          refine r_region (n := 6) rfl ?_
          refine o_move (v := .sl .no 1 (a1.map cI)) (by decide) rfl ?_
          refine o_move (v := .v (.int .i64 v18)) (by decide) rfl ?_
          obtain ⟨x20, hx20, hM⟩ := bindE hM
          refine o_index (xs := a1) (f := cI) (z := v18) (u := x20) (by decide) rfl rfl ty_es28 hx20 ?_
          refine o_loadE (v := .v (.int .i64 x20)) (by decide) rfl (part_one ty_agg3 ty_sc3 rfl) ?_
          obtain ⟨r21, hr21, hM⟩ := bindE hM
          refine o_call (bs := [.v (.int .i64 x20)]) (by decide) rfl rfl ((W_ref09_IsCents hr21).le (.cons (.refl _) .nil)) ?_
          refine o_not (e := r21) (by decide) rfl ?_
          refine run_nil ?_
          refine w_next [(1, .sl .no 1 (a1.map cI)), (2, .ptr (g + 0) 0), (4, .sl (.id (g + 4)) 3 (v17.map Split.cells)), (8, .v (.int .i64 v18)), (32, .v (.bool (!r21)))] (.cons (.refl _) (.cons (.refl _) (.cons (.refl _) (.cons (.refl _) (.cons (.refl _) .nil))))) ?_
          rcases Bool.eq_false_or_eq_true (!r21) with hb22 | hb22
          · replace hM := ifT hM hb22
            refine w_condT (e := (!r21)) rfl hb22 ?_
            refine r_seq ?_
            refine r_region (n := 3) rfl ?_
            refine o_assign (v := .sl .nil 0 []) (by decide) rfl ?_
            refine o_assign (v := .v (.int .i64 0)) (by decide) rfl ?_
            refine o_assign (v := .v (.int .i64 1)) (by decide) rfl ?_
            refine run_nil ?_
            refine w_own [(4, .sl (.id (g5 + 4 + 6 + 3)) 3 (([] : List Split).map Split.cells)), (5, .v (.int .i64 0)), (6, .v (.int .i64 1))] 4 3 41 hS (by omega) (by decide) rfl (.cons (.refl _) (.cons (.refl _) (.cons (.refl _) .nil))) fun H hS => ?_
            refine r_ret ?_
            refine r_blk_ret ?_
            refine r_then_ret ?_
            refine w_round_ret ?_
            refine r_blk_ret ?_
            refine w_goto_ret ?_
            refine w_end (x := .tup [.sl (.id (g5 + 4 + 6 + 3)) 3 (([] : List Split).map Split.cells), .v (.int .i64 0), .v (.int .i64 1)]) (f := fun r => .tup [.sl .no 3 (r.1.map Split.cells), .v (.int .i64 r.2.1), .v (.int .i64 r.2.2)]) (.inr rfl) ?_ (.tupL (.cons (.sl _ _ _) (.cons (.refl _) (.cons (.refl _) .nil)))) (Option.some.inj hM) hS
            exact (res_three (res_tmp (x := .sl (.id (g5 + 4 + 6 + 3)) 3 (([] : List Split).map Split.cells)) rfl) (res_tmp (x := .v (.int .i64 0)) rfl) (res_tmp (x := .v (.int .i64 1)) rfl))
          · replace hM := ifF hM hb22
            refine w_condF (e := (!r21)) rfl hb22 ?_
            refine r_skip ?_
            refine r_blk_normal ?_
            refine w_next [(1, .sl .no 1 (a1.map cI)), (2, .ptr (g + 0) 0), (4, .sl (.id (g + 4)) 3 (v17.map Split.cells)), (8, .v (.int .i64 v18))] (.cons (.refl _) (.cons (.refl _) (.cons (.refl _) (.cons (.refl _) .nil)))) ?_
            refine r_region (n := 3) rfl ?_
            refine o_move (v := .v (.int .i64 v18)) (by decide) rfl ?_
            refine o_int (v := .v (.int .i64 (w64 (v18 + 1)))) (by decide) rfl rfl rfl ?_
            refine o_assign (v := .v (.int .i64 (w64 (v18 + 1)))) (by decide) rfl ?_
            refine run_nil ?_
            exact w_round (v17, w64 (v18 + 1)) (Nat.lt_succ_self _) (.cons (.refl _) (.cons (.refl _) (.cons (.refl _) (.cons (.refl _) .nil)))) ⟨(hS.keep [true, true] rfl).up (by omega), hM⟩
        · replace hM := ifF hM hb19
          refine w_condF (e := (decide (v18 < (a1.length : Int)))) rfl hb19 ?_
          refine r_exit ?_
          refine r_then_exit ?_
          refine w_round_exit ?_
          refine r_blk_exit ?_
          exact w_goto v17 (.cons (.refl _) (.cons (.refl _) (.cons (.refl _) .nil))) ⟨(hS.keep [true, true] rfl).up (by omega), hM⟩
theorem W_law09_sameSplits {n : Nat} {a0 : List Split} {a1 : List Split} {r : Bool} (hM : law09_sameSplits n a0 a1 = some r) : PureSat Try.prog 37 [.sl .no 3 (a0.map Split.cells), .sl .no 3 (a1.map Split.cells)] (.v (.bool r)) := by
  refine pure_of_wp mixed Try.func37 rfl (by decide) Try.ntmps37 (by simp) ?pure fun H0 g hf => ?_
  case pure => exact .v _
  rw [frame0_of]
  change wpA _ _ _ _ (Fr.of [(0, .sl .no 3 (a0.map Split.cells)), (1, .sl .no 3 (a1.map Split.cells))]) H0 g
  have hS := St.start hf
  refine r_seq ?_
  refine r_region (n := 1) rfl ?_
  refine o_assign (v := .v (.bool false)) (by decide) rfl ?_
  refine run_nil ?_
  refine w_next [(0, .sl .no 3 (a0.map Split.cells)), (1, .sl .no 3 (a1.map Split.cells))] (.cons (.refl _) (.cons (.refl _) .nil)) ?_
  refine r_seq ?_
  refine r_seq ?_
  refine r_region (n := 5) rfl ?_
  refine o_move (v := .sl .no 3 (a0.map Split.cells)) (by decide) rfl ?_
  refine o_len (n := a0.length) (by decide) rfl (List.length_map _) ty_isl59 ?_
  refine o_move (v := .sl .no 3 (a1.map Split.cells)) (by decide) rfl ?_
  refine o_len (n := a1.length) (by decide) rfl (List.length_map _) ty_isl59 ?_
  refine o_int (v := .v (.bool ((a0.length : Int) != (a1.length : Int)))) (by decide) rfl rfl rfl ?_
  refine run_nil ?_
  refine w_next [(0, .sl .no 3 (a0.map Split.cells)), (1, .sl .no 3 (a1.map Split.cells)), (10, .v (.bool ((a0.length : Int) != (a1.length : Int))))] (.cons (.refl _) (.cons (.refl _) (.cons (.refl _) .nil))) ?_
  rcases Bool.eq_false_or_eq_true ((a0.length : Int) != (a1.length : Int)) with hb1 | hb1
  · replace hM := ifT hM hb1
    refine w_condT (e := ((a0.length : Int) != (a1.length : Int))) rfl hb1 ?_
    refine r_seq ?_
    refine r_region (n := 1) rfl ?_
    refine o_assign (v := .v (.bool false)) (by decide) rfl ?_
    refine run_nil ?_
    refine w_next [(4, .v (.bool false))] (.cons (.refl _) .nil) ?_
    refine r_ret ?_
    refine r_then_ret ?_
    refine w_end (x := .v (.bool false)) (f := fun r => .v (.bool r)) (.inr rfl) ?_ (.refl _) (Option.some.inj hM) hS
    exact (res_one (res_tmp (x := .v (.bool false)) rfl))
  · replace hM := ifF hM hb1
    refine w_condF (e := ((a0.length : Int) != (a1.length : Int))) rfl hb1 ?_
    refine r_skip ?_
    refine w_next [(0, .sl .no 3 (a0.map Split.cells)), (1, .sl .no 3 (a1.map Split.cells))] (.cons (.refl _) (.cons (.refl _) .nil)) ?_
    refine w_join (J := Unit) (fun j => []) (fun j H' g' => St (· < g) H0 [] H' g' ∧ law09_sameSplits_j1 = some r) ?_ ?_
    · rintro _ H g1 ⟨hS, hM⟩
      change wpA _ _ _ _ (Fr.of []) _ _
      replace hS : St (· < g) H0 [] H g1 := hS
      replace hM : law09_sameSplits_j1 = some r := hM
      refine r_seq ?_
      refine r_region (n := 1) rfl ?_
      refine o_assign (v := .v (.bool true)) (by decide) rfl ?_
      refine run_nil ?_
      refine w_next [(4, .v (.bool true))] (.cons (.refl _) .nil) ?_
      refine r_ret ?_
      refine w_end (x := .v (.bool true)) (f := fun r => .v (.bool r)) (.inr rfl) ?_ (.refl _) (Option.some.inj hM) hS
      exact (res_one (res_tmp (x := .v (.bool true)) rfl))
    · refine r_seq ?_
      refine r_region (n := 1) rfl ?_
      refine o_assign (v := .v (.int .i64 0)) (by decide) rfl ?_
      refine run_nil ?_
      refine w_next [(0, .sl .no 3 (a0.map Split.cells)), (1, .sl .no 3 (a1.map Split.cells)), (5, .v (.int .i64 0))] (.cons (.refl _) (.cons (.refl _) (.cons (.refl _) .nil))) ?_
      refine r_block ?_
      refine w_loop (V := Int) (fun v => [(0, .sl .no 3 (a0.map Split.cells)), (1, .sl .no 3 (a1.map Split.cells)), (5, .v (.int .i64 v))]) (fun v m H' g' => St (· < g) H0 [] H' g' ∧ law09_sameSplits_l1 a0 a1 m v = some r) (n := n) 0 (.cons (.refl _) (.cons (.refl _) (.cons (.refl _) .nil))) ⟨(hS.keep [] rfl).up (by omega), hM⟩ ?_
      rintro v2 m H g2 ⟨hS, hM⟩
      obtain _ | m := m
      · exact nomatch (show none = some _ from hM)
      change wpA _ _ _ _ (Fr.of [(0, .sl .no 3 (a0.map Split.cells)), (1, .sl .no 3 (a1.map Split.cells)), (5, .v (.int .i64 v2))]) _ _
      replace hS : St (· < g) H0 [] H g2 := hS
      replace hM : law09_sameSplits_l1_b a0 a1 (law09_sameSplits_l1 a0 a1 m) v2 = some r := hM
      refine r_seq ?_
      refine r_seq ?_
      refine r_region (n := 4) rfl ?_
      refine o_move (v := .v (.int .i64 v2)) (by decide) rfl ?_
      refine o_move (v := .sl .no 3 (a0.map Split.cells)) (by decide) rfl ?_
      refine o_len (n := a0.length) (by decide) rfl (List.length_map _) ty_isl59 ?_
      refine o_int (v := .v (.bool (decide (v2 < (a0.length : Int))))) (by decide) rfl rfl rfl ?_
      refine run_nil ?_
      refine w_next [(0, .sl .no 3 (a0.map Split.cells)), (1, .sl .no 3 (a1.map Split.cells)), (5, .v (.int .i64 v2)), (14, .v (.bool (decide (v2 < (a0.length : Int)))))] (.cons (.refl _) (.cons (.refl _) (.cons (.refl _) (.cons (.refl _) .nil)))) ?_
      rcases Bool.eq_false_or_eq_true (decide (v2 < (a0.length : Int))) with hb3 | hb3
      · replace hM := ifT hM hb3
        refine w_condT (e := (decide (v2 < (a0.length : Int)))) rfl hb3 ?_
        refine r_skip ?_
        refine w_next [(0, .sl .no 3 (a0.map Split.cells)), (1, .sl .no 3 (a1.map Split.cells)), (5, .v (.int .i64 v2))] (.cons (.refl _) (.cons (.refl _) (.cons (.refl _) .nil))) ?_
        refine r_seq ?_
        refine r_block ?_
        refine r_seq ?_
        have hS0 := hS
        refine r_draw (n := 9) rfl (by kernel_rfl) ?_
        refine o_move (v := .sl .no 3 (a0.map Split.cells)) (by decide) rfl ?_
        refine o_move (v := .v (.int .i64 v2)) (by decide) rfl ?_
        obtain ⟨x4, hx4, hM⟩ := bindE hM
        refine o_index (xs := a0) (f := Split.cells) (z := v2) (u := x4) (by decide) rfl rfl ty_es59 hx4 ?_
        refine o_loadE (v := .agg [.v (.int .i64 x4.Operator), .v (.int .i64 x4.Owner), .v (.int .i64 x4.Repaid)]) (by decide) rfl (part_agg ty_agg41 (Nat.le_of_ble_eq_true rfl) rfl) ?_
        refine o_move (v := .sl .no 3 (a1.map Split.cells)) (by decide) rfl ?_
        refine o_move (v := .v (.int .i64 v2)) (by decide) rfl ?_
        obtain ⟨x5, hx5, hM⟩ := bindE hM
        refine o_index (xs := a1) (f := Split.cells) (z := v2) (u := x5) (by decide) rfl rfl ty_es59 hx5 ?_
        refine o_loadE (v := .agg [.v (.int .i64 x5.Operator), .v (.int .i64 x5.Owner), .v (.int .i64 x5.Repaid)]) (by decide) rfl (part_agg ty_agg41 (Nat.le_of_ble_eq_true rfl) rfl) ?_
        refine o_neS (cs := [.v (.int .i64 x4.Operator), .v (.int .i64 x4.Owner), .v (.int .i64 x4.Repaid)]) (ds := [.v (.int .i64 x5.Operator), .v (.int .i64 x5.Owner), .v (.int .i64 x5.Repaid)]) (e := ((x4.Operator == x5.Operator) && ((x4.Owner == x5.Owner) && ((x4.Repaid == x5.Repaid) && true)))) (by decide) rfl rfl ty_flat41 rfl ?_
        refine run_nil ?_
        refine w_next [(0, .sl .no 3 (a0.map Split.cells)), (1, .sl .no 3 (a1.map Split.cells)), (5, .v (.int .i64 v2)), (25, .v (.bool (!((x4.Operator == x5.Operator) && ((x4.Owner == x5.Owner) && ((x4.Repaid == x5.Repaid) && true))))))] (.cons (.refl _) (.cons (.refl _) (.cons (.refl _) (.cons (.refl _) .nil)))) ?_
        rcases Bool.eq_false_or_eq_true (!((x4.Operator == x5.Operator) && ((x4.Owner == x5.Owner) && ((x4.Repaid == x5.Repaid) && true)))) with hb6 | hb6
        · replace hM := ifT hM hb6
          refine w_condT (e := (!((x4.Operator == x5.Operator) && ((x4.Owner == x5.Owner) && ((x4.Repaid == x5.Repaid) && true))))) rfl hb6 ?_
          refine r_seq ?_
          refine r_region (n := 1) rfl ?_
          refine o_assign (v := .v (.bool false)) (by decide) rfl ?_
          refine run_nil ?_
          refine w_next [(4, .v (.bool false))] (.cons (.refl _) .nil) ?_
          refine r_ret ?_
          refine r_blk_ret ?_
          refine r_then_ret ?_
          refine w_round_ret ?_
          refine r_blk_ret ?_
          refine w_goto_ret ?_
          refine w_end (x := .v (.bool false)) (f := fun r => .v (.bool r)) (.inr rfl) ?_ (.refl _) (Option.some.inj hM) hS
          exact (res_one (res_tmp (x := .v (.bool false)) rfl))
        · replace hM := ifF hM hb6
          refine w_condF (e := (!((x4.Operator == x5.Operator) && ((x4.Owner == x5.Owner) && ((x4.Repaid == x5.Repaid) && true))))) rfl hb6 ?_
          refine r_skip ?_
          refine r_blk_normal ?_
          refine w_next [(0, .sl .no 3 (a0.map Split.cells)), (1, .sl .no 3 (a1.map Split.cells)), (5, .v (.int .i64 v2))] (.cons (.refl _) (.cons (.refl _) (.cons (.refl _) .nil))) ?_
          refine r_region (n := 3) rfl ?_
          refine o_move (v := .v (.int .i64 v2)) (by decide) rfl ?_
          refine o_int (v := .v (.int .i64 (w64 (v2 + 1)))) (by decide) rfl rfl rfl ?_
          refine o_assign (v := .v (.int .i64 (w64 (v2 + 1)))) (by decide) rfl ?_
          refine run_nil ?_
          exact w_round (w64 (v2 + 1)) (Nat.lt_succ_self _) (.cons (.refl _) (.cons (.refl _) (.cons (.refl _) .nil))) ⟨(hS.keep [] rfl).up (by omega), hM⟩
      · replace hM := ifF hM hb3
        refine w_condF (e := (decide (v2 < (a0.length : Int)))) rfl hb3 ?_
        refine r_exit ?_
        refine r_then_exit ?_
        refine w_round_exit ?_
        refine r_blk_exit ?_
        exact w_goto () .nil ⟨(hS.keep [] rfl).up (by omega), hM⟩
theorem W_law09_SharesWeeks {n : Nat} {a0 : Share} {a1 : List Int} {r : Bool} (hM : law09_SharesWeeks n a0 a1 = some r) : PureSat Try.prog 9 [.agg [.sl .no 4 (a0.Clauses.map Clause.cells), .v (.int .i64 a0.Loan)], .sl .no 1 (a1.map cI)] (.v (.bool r)) := by
  refine pure_of_wp mixed Try.func9 rfl (by decide) Try.ntmps9 (by simp) ?pure fun H0 g hf => ?_
  case pure => exact .v _
  rw [frame0_of]
  change wpA _ _ _ _ (Fr.of [(0, .agg [.sl .no 4 (a0.Clauses.map Clause.cells), .v (.int .i64 a0.Loan)]), (1, .sl .no 1 (a1.map cI))]) H0 g
  have hS := St.start hf
  refine r_seq ?_
  refine r_region (n := 2) rfl ?_
  refine o_box (v := .agg [.sl .no 4 (a0.Clauses.map Clause.cells), .v (.int .i64 a0.Loan)]) (cs := [.sl .no 4 (a0.Clauses.map Clause.cells), .v (.int .i64 a0.Loan)]) hS (by decide) rfl rfl (by omega) fun H hS => ?_
  refine o_assign (v := .v (.bool false)) (by decide) rfl ?_
  refine run_nil ?_
  refine w_next [(1, .sl .no 1 (a1.map cI)), (2, .ptr (g + 0) 0)] (.cons (.refl _) (.cons (.refl _) .nil)) ?_
  refine r_seq ?_
  refine w_join (J := Bool) (fun j => [(1, .sl .no 1 (a1.map cI)), (2, .ptr (g + 0) 0), (19, .v (.bool j))]) (fun j H' g' => St (· < g) H0 [(g + 0, .cells [.sl .no 4 (a0.Clauses.map Clause.cells), .v (.int .i64 a0.Loan)])] H' g' ∧ law09_SharesWeeks_j1 n a0 a1 j = some r) ?_ ?_
  · rintro v1 H g1 ⟨hS, hM⟩
    change wpA _ _ _ _ (Fr.of [(1, .sl .no 1 (a1.map cI)), (2, .ptr (g + 0) 0), (19, .v (.bool v1))]) _ _
    replace hS : St (· < g) H0 [(g + 0, .cells [.sl .no 4 (a0.Clauses.map Clause.cells), .v (.int .i64 a0.Loan)])] H g1 := hS
    replace hM : law09_SharesWeeks_j1 n a0 a1 v1 = some r := hM
    rcases Bool.eq_false_or_eq_true v1 with hb2 | hb2
    · replace hM := ifT hM hb2
      refine w_condT (e := v1) rfl hb2 ?_
      refine r_seq ?_
      refine r_region (n := 2) rfl ?_
      obtain ⟨r3, hr3, hM⟩ := bindE hM
      refine o_call (bs := []) (by decide) rfl rfl ((W_law09_works hr3).le .nil) ?_
      refine o_assign (v := .v (.bool r3)) (by decide) rfl ?_
      refine run_nil ?_
      replace hS := hS.keep (L' := []) [false] rfl
      refine w_next [(4, .v (.bool r3))] (.cons (.refl _) .nil) ?_
      refine r_ret ?_
      refine r_then_ret ?_
      refine w_end (x := .v (.bool r3)) (f := fun r => .v (.bool r)) (.inr rfl) ?_ (.refl _) (Option.some.inj hM) hS
      exact (res_one (res_tmp (x := .v (.bool r3)) rfl))
    · replace hM := ifF hM hb2
      refine w_condF (e := v1) rfl hb2 ?_
      refine r_skip ?_
      refine w_next [(1, .sl .no 1 (a1.map cI)), (2, .ptr (g + 0) 0)] (.cons (.refl _) (.cons (.refl _) .nil)) ?_
      refine r_seq ?_
      refine r_region (n := 8) rfl ?_
      refine o_load (v := .agg [.sl .no 4 (a0.Clauses.map Clause.cells), .v (.int .i64 a0.Loan)]) 0 hS (by decide) rfl rfl .no (part_agg ty_agg24 (Nat.le_of_ble_eq_true rfl) rfl) ?_
      obtain ⟨r4, hr4, hM⟩ := bindE hM
      refine o_call (bs := [.agg [.sl .no 4 (a0.Clauses.map Clause.cells), .v (.int .i64 a0.Loan)]]) (by decide) rfl rfl ((W_ref09_Copy hr4).le (.cons (.refl _) .nil)) ?_
      refine o_buildSlice (es := []) hS (by decide) ty_es28 ty_el28 rfl ty_ef28 rfl (by decide) (by omega) fun H hS => ?_
      refine o_move (v := .sl .no 1 (a1.map cI)) (by decide) rfl ?_
      obtain ⟨l5, hl5, hM⟩ := bindE hM
      refine o_append (xs := ([] : List Int)) (ys := a1) (zs := l5) (f := cI) (L' := [(g1 + 2, .row 3 l5.length), (g + 0, .cells [.sl .no 4 (a0.Clauses.map Clause.cells), .v (.int .i64 a0.Loan)])]) 0 hS (by decide) rfl rfl rfl rfl .no ty_es28 ty_el28 ty_ef28 hl5 rfl fun H hS => ?_
      refine o_alloc hS (by decide) ty_zero24 (by omega) fun H hS => ?_
      refine o_store (v := .agg [.sl .no 4 (r4.Clauses.map Clause.cells), .v (.int .i64 r4.Loan)]) (ns := [.sl .no 4 (r4.Clauses.map Clause.cells), .v (.int .i64 r4.Loan)]) (L' := [(g1 + 5, .cells [.sl .no 4 (r4.Clauses.map Clause.cells), .v (.int .i64 r4.Loan)]), (g1 + 2, .row 3 l5.length), (g + 0, .cells [.sl .no 4 (a0.Clauses.map Clause.cells), .v (.int .i64 a0.Loan)])]) 0 hS rfl rfl .no rfl rfl ty_var24 (Nat.le_of_ble_eq_true rfl) rfl fun H hS => ?_
      refine o_assign (v := .sl (.id (g1 + 2)) 1 (l5.map cI)) (by decide) rfl ?_
      refine run_nil ?_
      refine w_next [(1, .sl .no 1 (a1.map cI)), (2, .ptr (g + 0) 0), (5, .ptr (g1 + 5) 0), (6, .sl (.id (g1 + 2)) 1 (l5.map cI))] (.cons (.refl _) (.cons (.refl _) (.cons (.refl _) (.cons (.refl _) .nil)))) ?_
      refine r_seq ?_
      refine r_region (n := 10) rfl ?_
      refine o_load (v := .agg [.sl .no 4 (r4.Clauses.map Clause.cells), .v (.int .i64 r4.Loan)]) 0 hS (by decide) rfl rfl .no (part_agg ty_agg24 (Nat.le_of_ble_eq_true rfl) rfl) ?_
      refine o_move (v := .sl (.id (g1 + 2)) 1 (l5.map cI)) (by decide) rfl ?_
      obtain ⟨r6, hr6, hM⟩ := bindE hM
      refine o_call (bs := [.agg [.sl .no 4 (r4.Clauses.map Clause.cells), .v (.int .i64 r4.Loan)], .sl (.id (g1 + 2)) 1 (l5.map cI)]) (by decide) rfl rfl ((W_shares_Weeks hr6).le (.cons (.refl _) (.cons (.sl _ _ _) .nil))) ?_
      refine o_move (v := .tup [.sl .no 3 (r6.1.map Split.cells), .v (.int .i64 r6.2.1), .v (.int .i64 r6.2.2)]) (by decide) rfl ?_
      refine o_extract (v := .sl .no 3 (r6.1.map Split.cells)) (by decide) rfl rfl ?_
      refine o_extract (v := .v (.int .i64 r6.2.1)) (by decide) rfl rfl ?_
      refine o_extract (v := .v (.int .i64 r6.2.2)) (by decide) rfl rfl ?_
      refine o_assign (v := .sl .no 3 (r6.1.map Split.cells)) (by decide) rfl ?_
      refine o_assign (v := .v (.int .i64 r6.2.1)) (by decide) rfl ?_
      refine o_assign (v := .v (.int .i64 r6.2.2)) (by decide) rfl ?_
      refine run_nil ?_
      refine w_next [(1, .sl .no 1 (a1.map cI)), (2, .ptr (g + 0) 0), (5, .ptr (g1 + 5) 0), (6, .sl (.id (g1 + 2)) 1 (l5.map cI)), (7, .sl .no 3 (r6.1.map Split.cells)), (8, .v (.int .i64 r6.2.1)), (9, .v (.int .i64 r6.2.2))] (.cons (.refl _) (.cons (.refl _) (.cons (.refl _) (.cons (.refl _) (.cons (.refl _) (.cons (.refl _) (.cons (.refl _) .nil))))))) ?_
      refine r_seq ?_
      refine r_region (n := 10) rfl ?_
      refine o_load (v := .agg [.sl .no 4 (a0.Clauses.map Clause.cells), .v (.int .i64 a0.Loan)]) 2 hS (by decide) rfl rfl .no (part_agg ty_agg24 (Nat.le_of_ble_eq_true rfl) rfl) ?_
      refine o_move (v := .sl .no 1 (a1.map cI)) (by decide) rfl ?_
      obtain ⟨r7, hr7, hM⟩ := bindE hM
      refine o_call (bs := [.agg [.sl .no 4 (a0.Clauses.map Clause.cells), .v (.int .i64 a0.Loan)], .sl .no 1 (a1.map cI)]) (by decide) rfl rfl ((W_ref09_Weeks hr7).le (.cons (.refl _) (.cons (.refl _) .nil))) ?_
      refine o_move (v := .tup [.sl .no 3 (r7.1.map Split.cells), .v (.int .i64 r7.2.1), .v (.int .i64 r7.2.2)]) (by decide) rfl ?_
      refine o_extract (v := .sl .no 3 (r7.1.map Split.cells)) (by decide) rfl rfl ?_
      refine o_extract (v := .v (.int .i64 r7.2.1)) (by decide) rfl rfl ?_
      refine o_extract (v := .v (.int .i64 r7.2.2)) (by decide) rfl rfl ?_
      refine o_assign (v := .sl .no 3 (r7.1.map Split.cells)) (by decide) rfl ?_
      refine o_assign (v := .v (.int .i64 r7.2.1)) (by decide) rfl ?_
      refine o_assign (v := .v (.int .i64 r7.2.2)) (by decide) rfl ?_
      refine run_nil ?_
      refine w_next [(1, .sl .no 1 (a1.map cI)), (2, .ptr (g + 0) 0), (5, .ptr (g1 + 5) 0), (6, .sl (.id (g1 + 2)) 1 (l5.map cI)), (7, .sl .no 3 (r6.1.map Split.cells)), (8, .v (.int .i64 r6.2.1)), (9, .v (.int .i64 r6.2.2)), (10, .sl .no 3 (r7.1.map Split.cells)), (11, .v (.int .i64 r7.2.1)), (12, .v (.int .i64 r7.2.2))] (.cons (.refl _) (.cons (.refl _) (.cons (.refl _) (.cons (.refl _) (.cons (.refl _) (.cons (.refl _) (.cons (.refl _) (.cons (.refl _) (.cons (.refl _) (.cons (.refl _) .nil)))))))))) ?_
      refine w_join (J := Bool) (fun j => [(4, .v (.bool j))]) (fun j H' g' => St (· < g) H0 [] H' g' ∧ law09_SharesWeeks_j2 j = some r) ?_ ?_
      · rintro v8 H g2 ⟨hS, hM⟩
        change wpA _ _ _ _ (Fr.of [(4, .v (.bool v8))]) _ _
        replace hS : St (· < g) H0 [] H g2 := hS
        replace hM : law09_SharesWeeks_j2 v8 = some r := hM
        refine r_ret ?_
        refine w_end (x := .v (.bool v8)) (f := fun r => .v (.bool r)) (.inr rfl) ?_ (.refl _) (Option.some.inj hM) hS
        exact (res_one (res_tmp (x := .v (.bool v8)) rfl))
      · refine r_region (n := 27) rfl ?_
        refine o_move (v := .sl .no 3 (r6.1.map Split.cells)) (by decide) rfl ?_
        refine o_move (v := .sl .no 3 (r7.1.map Split.cells)) (by decide) rfl ?_
        obtain ⟨r9, hr9, hM⟩ := bindE hM
        refine o_call (bs := [.sl .no 3 (r6.1.map Split.cells), .sl .no 3 (r7.1.map Split.cells)]) (by decide) rfl rfl ((W_law09_sameSplits hr9).le (.cons (.refl _) (.cons (.refl _) .nil))) ?_
        refine o_move (v := .v (.bool r9)) (by decide) rfl ?_
        rcases Bool.eq_false_or_eq_true r9 with hb10 | hb10
        · replace hM := ifT hM hb10
          refine o_guardY (j := 3) (e := r9) (want := true) rfl hb10 ?_
          refine o_move (v := .v (.int .i64 r6.2.1)) (by decide) rfl ?_
          refine o_guardY (j := 3) (e := r9) (want := true) rfl hb10 ?_
          refine o_move (v := .v (.int .i64 r7.2.1)) (by decide) rfl ?_
          refine o_guardY (j := 3) (e := r9) (want := true) rfl hb10 ?_
          refine o_int (v := .v (.bool (r6.2.1 == r7.2.1))) (by decide) rfl rfl rfl ?_
          refine o_pickT (v := .v (.bool (r6.2.1 == r7.2.1))) (e := r9) (by decide) rfl hb10 rfl ?_
          refine o_move (v := .v (.bool (r6.2.1 == r7.2.1))) (by decide) rfl ?_
          rcases Bool.eq_false_or_eq_true (r6.2.1 == r7.2.1) with hb11 | hb11
          · replace hM := ifT hM hb11
            refine o_guardY (j := 8) (e := (r6.2.1 == r7.2.1)) (want := true) rfl hb11 ?_
            refine o_move (v := .v (.int .i64 r6.2.2)) (by decide) rfl ?_
            refine o_guardY (j := 8) (e := (r6.2.1 == r7.2.1)) (want := true) rfl hb11 ?_
            refine o_move (v := .v (.int .i64 r7.2.2)) (by decide) rfl ?_
            refine o_guardY (j := 8) (e := (r6.2.1 == r7.2.1)) (want := true) rfl hb11 ?_
            refine o_int (v := .v (.bool (r6.2.2 == r7.2.2))) (by decide) rfl rfl rfl ?_
            refine o_pickT (v := .v (.bool (r6.2.2 == r7.2.2))) (e := (r6.2.1 == r7.2.1)) (by decide) rfl hb11 rfl ?_
            refine o_move (v := .v (.bool (r6.2.2 == r7.2.2))) (by decide) rfl ?_
            rcases Bool.eq_false_or_eq_true (r6.2.2 == r7.2.2) with hb12 | hb12
            · replace hM := ifT hM hb12
              refine o_guardY (j := 13) (e := (r6.2.2 == r7.2.2)) (want := true) rfl hb12 ?_
              refine o_load (v := .agg [.sl .no 4 (r4.Clauses.map Clause.cells), .v (.int .i64 r4.Loan)]) 0 hS (by decide) rfl rfl .no (part_agg ty_agg24 (Nat.le_of_ble_eq_true rfl) rfl) ?_
              refine o_guardY (j := 13) (e := (r6.2.2 == r7.2.2)) (want := true) rfl hb12 ?_
              refine o_load (v := .agg [.sl .no 4 (a0.Clauses.map Clause.cells), .v (.int .i64 a0.Loan)]) 2 hS (by decide) rfl rfl .no (part_agg ty_agg24 (Nat.le_of_ble_eq_true rfl) rfl) ?_
              refine o_guardY (j := 13) (e := (r6.2.2 == r7.2.2)) (want := true) rfl hb12 ?_
              obtain ⟨r13, hr13, hM⟩ := bindE hM
              refine o_call (bs := [.agg [.sl .no 4 (r4.Clauses.map Clause.cells), .v (.int .i64 r4.Loan)], .agg [.sl .no 4 (a0.Clauses.map Clause.cells), .v (.int .i64 a0.Loan)]]) (by decide) rfl rfl ((W_law09_same hr13).le (.cons (.refl _) (.cons (.refl _) .nil))) ?_
              refine o_pickT (v := .v (.bool r13)) (e := (r6.2.2 == r7.2.2)) (by decide) rfl hb12 rfl ?_
              refine o_move (v := .v (.bool r13)) (by decide) rfl ?_
              rcases Bool.eq_false_or_eq_true r13 with hb14 | hb14
              · replace hM := ifT hM hb14
                refine o_guardY (j := 18) (e := r13) (want := true) rfl hb14 ?_
                refine o_move (v := .sl (.id (g1 + 2)) 1 (l5.map cI)) (by decide) rfl ?_
                refine o_guardY (j := 18) (e := r13) (want := true) rfl hb14 ?_
                refine o_move (v := .sl .no 1 (a1.map cI)) (by decide) rfl ?_
                refine o_guardY (j := 18) (e := r13) (want := true) rfl hb14 ?_
                obtain ⟨r15, hr15, hM⟩ := bindE hM
                refine o_call (bs := [.sl (.id (g1 + 2)) 1 (l5.map cI), .sl .no 1 (a1.map cI)]) (by decide) rfl rfl ((W_ref01_SameInts hr15).le (.cons (.sl _ _ _) (.cons (.refl _) .nil))) ?_
                refine o_pickT (v := .v (.bool r15)) (e := r13) (by decide) rfl hb14 rfl ?_
                refine o_move (v := .v (.bool r15)) (by decide) rfl ?_
                rcases Bool.eq_false_or_eq_true r15 with hb16 | hb16
                · replace hM := ifT hM hb16
                  refine o_guardY (j := 23) (e := r15) (want := true) rfl hb16 ?_
                  obtain ⟨r17, hr17, hM⟩ := bindE hM
                  refine o_call (bs := []) (by decide) rfl rfl ((W_law09_works hr17).le .nil) ?_
                  refine o_pickT (v := .v (.bool r17)) (e := r15) (by decide) rfl hb16 rfl ?_
                  refine o_assign (v := .v (.bool r17)) (by decide) rfl ?_
                  refine run_nil ?_
                  exact w_goto r17 (.cons (.refl _) .nil) ⟨(hS.keep [false, false, false] rfl).up (by omega), hM⟩
                · replace hM := ifF hM hb16
                  refine o_guardN (j := 23) (e := r15) (want := true) (by decide) rfl hb16 ?_
                  refine o_pickF (v := .v (.bool false)) (e := r15) (by decide) rfl hb16 rfl ?_
                  refine o_assign (v := .v (.bool false)) (by decide) rfl ?_
                  refine run_nil ?_
                  exact w_goto false (.cons (.refl _) .nil) ⟨(hS.keep [false, false, false] rfl).up (by omega), hM⟩
              · replace hM := ifF hM hb14
                refine o_guardN (j := 18) (e := r13) (want := true) (by decide) rfl hb14 ?_
                refine o_guardN (j := 18) (e := r13) (want := true) (by decide) rfl hb14 ?_
                refine o_guardN (j := 18) (e := r13) (want := true) (by decide) rfl hb14 ?_
                refine o_pickF (v := .v (.bool false)) (e := r13) (by decide) rfl hb14 rfl ?_
                refine o_move (v := .v (.bool false)) (by decide) rfl ?_
                refine o_guardN (j := 23) (e := false) (want := true) (by decide) rfl rfl ?_
                refine o_pickF (v := .v (.bool false)) (e := false) (by decide) rfl rfl rfl ?_
                refine o_assign (v := .v (.bool false)) (by decide) rfl ?_
                refine run_nil ?_
                exact w_goto false (.cons (.refl _) .nil) ⟨(hS.keep [false, false, false] rfl).up (by omega), hM⟩
            · replace hM := ifF hM hb12
              refine o_guardN (j := 13) (e := (r6.2.2 == r7.2.2)) (want := true) (by decide) rfl hb12 ?_
              refine o_guardN (j := 13) (e := (r6.2.2 == r7.2.2)) (want := true) (by decide) rfl hb12 ?_
              refine o_guardN (j := 13) (e := (r6.2.2 == r7.2.2)) (want := true) (by decide) rfl hb12 ?_
              refine o_pickF (v := .v (.bool false)) (e := (r6.2.2 == r7.2.2)) (by decide) rfl hb12 rfl ?_
              refine o_move (v := .v (.bool false)) (by decide) rfl ?_
              refine o_guardN (j := 18) (e := false) (want := true) (by decide) rfl rfl ?_
              refine o_guardN (j := 18) (e := false) (want := true) (by decide) rfl rfl ?_
              refine o_guardN (j := 18) (e := false) (want := true) (by decide) rfl rfl ?_
              refine o_pickF (v := .v (.bool false)) (e := false) (by decide) rfl rfl rfl ?_
              refine o_move (v := .v (.bool false)) (by decide) rfl ?_
              refine o_guardN (j := 23) (e := false) (want := true) (by decide) rfl rfl ?_
              refine o_pickF (v := .v (.bool false)) (e := false) (by decide) rfl rfl rfl ?_
              refine o_assign (v := .v (.bool false)) (by decide) rfl ?_
              refine run_nil ?_
              exact w_goto false (.cons (.refl _) .nil) ⟨(hS.keep [false, false, false] rfl).up (by omega), hM⟩
          · replace hM := ifF hM hb11
            refine o_guardN (j := 8) (e := (r6.2.1 == r7.2.1)) (want := true) (by decide) rfl hb11 ?_
            refine o_guardN (j := 8) (e := (r6.2.1 == r7.2.1)) (want := true) (by decide) rfl hb11 ?_
            refine o_guardN (j := 8) (e := (r6.2.1 == r7.2.1)) (want := true) (by decide) rfl hb11 ?_
            refine o_pickF (v := .v (.bool false)) (e := (r6.2.1 == r7.2.1)) (by decide) rfl hb11 rfl ?_
            refine o_move (v := .v (.bool false)) (by decide) rfl ?_
            refine o_guardN (j := 13) (e := false) (want := true) (by decide) rfl rfl ?_
            refine o_guardN (j := 13) (e := false) (want := true) (by decide) rfl rfl ?_
            refine o_guardN (j := 13) (e := false) (want := true) (by decide) rfl rfl ?_
            refine o_pickF (v := .v (.bool false)) (e := false) (by decide) rfl rfl rfl ?_
            refine o_move (v := .v (.bool false)) (by decide) rfl ?_
            refine o_guardN (j := 18) (e := false) (want := true) (by decide) rfl rfl ?_
            refine o_guardN (j := 18) (e := false) (want := true) (by decide) rfl rfl ?_
            refine o_guardN (j := 18) (e := false) (want := true) (by decide) rfl rfl ?_
            refine o_pickF (v := .v (.bool false)) (e := false) (by decide) rfl rfl rfl ?_
            refine o_move (v := .v (.bool false)) (by decide) rfl ?_
            refine o_guardN (j := 23) (e := false) (want := true) (by decide) rfl rfl ?_
            refine o_pickF (v := .v (.bool false)) (e := false) (by decide) rfl rfl rfl ?_
            refine o_assign (v := .v (.bool false)) (by decide) rfl ?_
            refine run_nil ?_
            exact w_goto false (.cons (.refl _) .nil) ⟨(hS.keep [false, false, false] rfl).up (by omega), hM⟩
        · replace hM := ifF hM hb10
          refine o_guardN (j := 3) (e := r9) (want := true) (by decide) rfl hb10 ?_
          refine o_guardN (j := 3) (e := r9) (want := true) (by decide) rfl hb10 ?_
          refine o_guardN (j := 3) (e := r9) (want := true) (by decide) rfl hb10 ?_
          refine o_pickF (v := .v (.bool false)) (e := r9) (by decide) rfl hb10 rfl ?_
          refine o_move (v := .v (.bool false)) (by decide) rfl ?_
          refine o_guardN (j := 8) (e := false) (want := true) (by decide) rfl rfl ?_
          refine o_guardN (j := 8) (e := false) (want := true) (by decide) rfl rfl ?_
          refine o_guardN (j := 8) (e := false) (want := true) (by decide) rfl rfl ?_
          refine o_pickF (v := .v (.bool false)) (e := false) (by decide) rfl rfl rfl ?_
          refine o_move (v := .v (.bool false)) (by decide) rfl ?_
          refine o_guardN (j := 13) (e := false) (want := true) (by decide) rfl rfl ?_
          refine o_guardN (j := 13) (e := false) (want := true) (by decide) rfl rfl ?_
          refine o_guardN (j := 13) (e := false) (want := true) (by decide) rfl rfl ?_
          refine o_pickF (v := .v (.bool false)) (e := false) (by decide) rfl rfl rfl ?_
          refine o_move (v := .v (.bool false)) (by decide) rfl ?_
          refine o_guardN (j := 18) (e := false) (want := true) (by decide) rfl rfl ?_
          refine o_guardN (j := 18) (e := false) (want := true) (by decide) rfl rfl ?_
          refine o_guardN (j := 18) (e := false) (want := true) (by decide) rfl rfl ?_
          refine o_pickF (v := .v (.bool false)) (e := false) (by decide) rfl rfl rfl ?_
          refine o_move (v := .v (.bool false)) (by decide) rfl ?_
          refine o_guardN (j := 23) (e := false) (want := true) (by decide) rfl rfl ?_
          refine o_pickF (v := .v (.bool false)) (e := false) (by decide) rfl rfl rfl ?_
          refine o_assign (v := .v (.bool false)) (by decide) rfl ?_
          refine run_nil ?_
          exact w_goto false (.cons (.refl _) .nil) ⟨(hS.keep [false, false, false] rfl).up (by omega), hM⟩
  · refine r_region (n := 7) rfl ?_
    refine o_load (v := .agg [.sl .no 4 (a0.Clauses.map Clause.cells), .v (.int .i64 a0.Loan)]) 0 hS (by decide) rfl rfl .no (part_agg ty_agg24 (Nat.le_of_ble_eq_true rfl) rfl) ?_
    obtain ⟨r18, hr18, hM⟩ := bindE hM
    refine o_call (bs := [.agg [.sl .no 4 (a0.Clauses.map Clause.cells), .v (.int .i64 a0.Loan)]]) (by decide) rfl rfl ((W_law09_far hr18).le (.cons (.refl _) .nil)) ?_
    refine o_move (v := .v (.bool r18)) (by decide) rfl ?_
    rcases Bool.eq_false_or_eq_true r18 with hb19 | hb19
    · replace hM := ifT hM hb19
      refine o_guardN (j := 2) (e := r18) (want := false) (by decide) rfl hb19 ?_
      refine o_guardN (j := 2) (e := r18) (want := false) (by decide) rfl hb19 ?_
      refine o_guardN (j := 2) (e := r18) (want := false) (by decide) rfl hb19 ?_
      refine o_pickT (v := .v (.bool true)) (e := r18) (by decide) rfl hb19 rfl ?_
      refine run_nil ?_
      exact w_goto true (.cons (.refl _) (.cons (.refl _) (.cons (.refl _) .nil))) ⟨(hS.keep [true] rfl).up (by omega), hM⟩
    · replace hM := ifF hM hb19
      refine o_guardY (j := 2) (e := r18) (want := false) rfl hb19 ?_
      refine o_move (v := .sl .no 1 (a1.map cI)) (by decide) rfl ?_
      refine o_guardY (j := 2) (e := r18) (want := false) rfl hb19 ?_
      refine o_len (n := a1.length) (by decide) rfl (List.length_map _) ty_isl28 ?_
      refine o_guardY (j := 2) (e := r18) (want := false) rfl hb19 ?_
      refine o_int (v := .v (.bool (decide ((a1.length : Int) > 40)))) (by decide) rfl rfl rfl ?_
      refine o_pickF (v := .v (.bool (decide ((a1.length : Int) > 40)))) (e := r18) (by decide) rfl hb19 rfl ?_
      refine run_nil ?_
      exact w_goto (decide ((a1.length : Int) > 40)) (.cons (.refl _) (.cons (.refl _) (.cons (.refl _) .nil))) ⟨(hS.keep [true] rfl).up (by omega), hM⟩
end Go.Proofs.Ytkgldpboiigphaa
