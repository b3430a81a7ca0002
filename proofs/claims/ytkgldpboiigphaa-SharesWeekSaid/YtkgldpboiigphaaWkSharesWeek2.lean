/-
  The code returns what the functions say (printed by gen.py).
  Conditions: none.
-/
import Derived.Test.YtkgldpboiigphaaWkSharesWeek1
set_option linter.all false
namespace Go.Proofs.Ytkgldpboiigphaa
open Go Go.AM Go.Law
set_option linter.unusedVariables false
set_option maxRecDepth 4000
set_option maxHeartbeats 4000000
theorem W_ref09_Gone {n : Nat} {a0 : Share} {a1 : Int} {a2 : Int} {r : (List Int) × Split} (hM : ref09_Gone n a0 a1 a2 = some r) : PureSat Try.prog 55 [.agg [.sl .no 4 (a0.Clauses.map Clause.cells), .v (.int .i64 a0.Loan)], .v (.int .i64 a1), .v (.int .i64 a2)] (.tup [.sl .no 1 (r.1.map cI), .agg [.v (.int .i64 r.2.Operator), .v (.int .i64 r.2.Owner), .v (.int .i64 r.2.Repaid)]]) := by
  refine pure_of_wp mixed Try.func55 rfl (by decide) Try.ntmps55 (by simp) ?pure fun H0 g hf => ?_
  case pure => exact .tup _ (pl_cons (.sl _ _ (pures_map (fun x => (pl_cons (.v _) pl_nil)))) (pl_cons (.agg _ (pl_cons (.v _) (pl_cons (.v _) (pl_cons (.v _) pl_nil)))) pl_nil))
  rw [frame0_of]
  change wpA _ _ _ _ (Fr.of [(0, .agg [.sl .no 4 (a0.Clauses.map Clause.cells), .v (.int .i64 a0.Loan)]), (1, .v (.int .i64 a1)), (2, .v (.int .i64 a2))]) H0 g
  have hS := St.start hf
  refine r_seq ?_
  refine r_region (n := 3) rfl ?_
  refine o_box (v := .agg [.sl .no 4 (a0.Clauses.map Clause.cells), .v (.int .i64 a0.Loan)]) (cs := [.sl .no 4 (a0.Clauses.map Clause.cells), .v (.int .i64 a0.Loan)]) hS (by decide) rfl rfl (by omega) fun H hS => ?_
  refine o_assign (v := .sl .nil 0 []) (by decide) rfl ?_
  refine o_alloc hS (by decide) ty_zero41 (by omega) fun H hS => ?_
  refine run_nil ?_
  refine w_next [(1, .v (.int .i64 a1)), (2, .v (.int .i64 a2)), (3, .ptr (g + 0) 0), (7, .ptr (g + 2) 0)] (.cons (.refl _) (.cons (.refl _) (.cons (.refl _) (.cons (.refl _) .nil)))) ?_
  refine r_seq ?_
  refine r_region (n := 6) rfl ?_
  refine o_move (v := .v (.int .i64 a2)) (by decide) rfl ?_
  refine o_move (v := .v (.int .i64 a1)) (by decide) rfl ?_
  refine o_min (v := .v (.int .i64 (min a2 a1))) (by decide) rfl ?_
  refine o_build (cs := [.v (.int .i64 0), .v (.int .i64 (min a2 a1)), .v (.int .i64 0)]) (by decide) ty_zero41 ty_pl41 rfl ?_
  refine o_alloc hS (by decide) ty_zero41 (by omega) fun H hS => ?_
  refine o_store (v := .agg [.v (.int .i64 0), .v (.int .i64 (min a2 a1)), .v (.int .i64 0)]) (ns := [.v (.int .i64 0), .v (.int .i64 (min a2 a1)), .v (.int .i64 0)]) (L' := [(g + 3 + 4, .cells [.v (.int .i64 0), .v (.int .i64 (min a2 a1)), .v (.int .i64 0)]), (g + 2, .cells [.v (.int .i64 0), .v (.int .i64 0), .v (.int .i64 0)]), (g + 0, .cells [.sl .no 4 (a0.Clauses.map Clause.cells), .v (.int .i64 a0.Loan)])]) 0 hS rfl rfl .no rfl rfl ty_var41 (Nat.le_of_ble_eq_true rfl) rfl fun H hS => ?_
  refine run_nil ?_
  refine w_next [(1, .v (.int .i64 a1)), (3, .ptr (g + 0) 0), (7, .ptr (g + 2) 0), (8, .ptr (g + 3 + 4) 0)] (.cons (.refl _) (.cons (.refl _) (.cons (.refl _) (.cons (.refl _) .nil)))) ?_
  refine r_seq ?_
  refine r_region (n := 5) rfl ?_
  refine o_move (v := .v (.int .i64 a1)) (by decide) rfl ?_
  refine o_fieldP (by decide) ty_fo41_1 rfl ?_
  refine o_load (v := .v (.int .i64 (min a2 a1))) 0 hS (by decide) rfl rfl .no (part_one ty_agg3 ty_sc3 rfl) ?_
  refine o_int (v := .v (.int .i64 (w64 (a1 - (min a2 a1))))) (by decide) rfl rfl rfl ?_
  refine o_assign (v := .v (.int .i64 (w64 (a1 - (min a2 a1))))) (by decide) rfl ?_
  refine run_nil ?_
  refine w_next [(1, .v (.int .i64 a1)), (3, .ptr (g + 0) 0), (7, .ptr (g + 2) 0), (8, .ptr (g + 3 + 4) 0), (9, .v (.int .i64 (w64 (a1 - (min a2 a1)))))] (.cons (.refl _) (.cons (.refl _) (.cons (.refl _) (.cons (.refl _) (.cons (.refl _) .nil))))) ?_
  refine r_seq ?_
  refine r_region (n := 1) rfl ?_
  refine o_assign (v := .sl .nil 0 []) (by decide) rfl ?_
  refine run_nil ?_
  refine w_own [(1, .v (.int .i64 a1)), (3, .ptr (g + 0) 0), (7, .ptr (g + 2) 0), (8, .ptr (g + 3 + 4) 0), (9, .v (.int .i64 (w64 (a1 - (min a2 a1))))), (10, .sl (.id (g + 3 + 6 + 5 + 1)) 1 (([] : List Int).map cI))] 10 1 3 hS (by omega) (by decide) rfl (.cons (.refl _) (.cons (.refl _) (.cons (.refl _) (.cons (.refl _) (.cons (.refl _) (.cons (.refl _) .nil)))))) fun H hS => ?_
  refine w_join (J := (List Int) × Int × Int) (fun j => [(1, .v (.int .i64 a1)), (7, .ptr (g + 2) 0), (8, .ptr (g + 3 + 4) 0), (10, .sl (.id (g + 3 + 6 + 5 + 1)) 1 (j.1.map cI))]) (fun j H' g' => St (· < g) H0 [(g + 3 + 6 + 5 + 1, .row 3 j.1.length), (g + 3 + 4, .cells [.v (.int .i64 0), .v (.int .i64 j.2.1), .v (.int .i64 j.2.2)]), (g + 2, .cells [.v (.int .i64 0), .v (.int .i64 0), .v (.int .i64 0)])] H' g' ∧ ref09_Gone_j1 a1 j.1 j.2.1 j.2.2 = some r) ?_ ?_
  · rintro ⟨v1, v2, v3⟩ H g1 ⟨hS, hM⟩
    change wpA _ _ _ _ (Fr.of [(1, .v (.int .i64 a1)), (7, .ptr (g + 2) 0), (8, .ptr (g + 3 + 4) 0), (10, .sl (.id (g + 3 + 6 + 5 + 1)) 1 (v1.map cI))]) _ _
    replace hS : St (· < g) H0 [(g + 3 + 6 + 5 + 1, .row 3 v1.length), (g + 3 + 4, .cells [.v (.int .i64 0), .v (.int .i64 v2), .v (.int .i64 v3)]), (g + 2, .cells [.v (.int .i64 0), .v (.int .i64 0), .v (.int .i64 0)])] H g1 := hS
    replace hM : ref09_Gone_j1 a1 v1 v2 v3 = some r := hM
    refine r_seq ?_
    refine r_region (n := 6) rfl ?_
    refine o_move (v := .v (.int .i64 a1)) (by decide) rfl ?_
    refine o_fieldP (by decide) ty_fo41_1 rfl ?_
    refine o_load (v := .v (.int .i64 v2)) 1 hS (by decide) rfl rfl .no (part_one ty_agg3 ty_sc3 rfl) ?_
    refine o_int (v := .v (.int .i64 (w64 (a1 - v2)))) (by decide) rfl rfl rfl ?_
    refine o_fieldP (by decide) ty_fo41_0 rfl ?_
    refine o_store (v := .v (.int .i64 (w64 (a1 - v2)))) (ns := [.v (.int .i64 (w64 (a1 - v2)))]) (L' := [(g + 3 + 6 + 5 + 1, .row 3 v1.length), (g + 3 + 4, .cells [.v (.int .i64 (w64 (a1 - v2))), .v (.int .i64 v2), .v (.int .i64 v3)]), (g + 2, .cells [.v (.int .i64 0), .v (.int .i64 0), .v (.int .i64 0)])]) 1 hS rfl rfl .no rfl rfl ty_var3 (Nat.le_of_ble_eq_true rfl) rfl fun H hS => ?_
    refine run_nil ?_
    refine w_next [(7, .ptr (g + 2) 0), (8, .ptr (g + 3 + 4) 0), (10, .sl (.id (g + 3 + 6 + 5 + 1)) 1 (v1.map cI))] (.cons (.refl _) (.cons (.refl _) (.cons (.refl _) .nil))) ?_
    refine r_seq ?_
    have hS0 := hS
    refine r_draw (n := 4) rfl (by kernel_rfl) ?_
    refine o_move (v := .sl (.id (g + 3 + 6 + 5 + 1)) 1 (v1.map cI)) (by decide) rfl ?_
    refine o_load (v := .agg [.v (.int .i64 (w64 (a1 - v2))), .v (.int .i64 v2), .v (.int .i64 v3)]) 1 hS (by decide) rfl rfl (.st hS0 1 rfl (by omega)) (part_agg ty_agg41 (Nat.le_of_ble_eq_true rfl) rfl) ?_
    refine o_assign (v := .sl (.id (g + 3 + 6 + 5 + 1)) 1 (v1.map cI)) (by decide) rfl ?_
    refine o_store (v := .agg [.v (.int .i64 (w64 (a1 - v2))), .v (.int .i64 v2), .v (.int .i64 v3)]) (ns := [.v (.int .i64 (w64 (a1 - v2))), .v (.int .i64 v2), .v (.int .i64 v3)]) (L' := [(g + 3 + 6 + 5 + 1, .row 3 v1.length), (g + 3 + 4, .cells [.v (.int .i64 (w64 (a1 - v2))), .v (.int .i64 v2), .v (.int .i64 v3)]), (g + 2, .cells [.v (.int .i64 (w64 (a1 - v2))), .v (.int .i64 v2), .v (.int .i64 v3)])]) 2 hS rfl rfl (.st hS0 2 rfl (by omega)) rfl rfl ty_var41 (Nat.le_of_ble_eq_true rfl) rfl fun H hS => ?_
    refine run_nil ?_
    replace hS := hS.keep (L' := [(g + 3 + 6 + 5 + 1, .row 3 v1.length), (g + 2, .cells [.v (.int .i64 (w64 (a1 - v2))), .v (.int .i64 v2), .v (.int .i64 v3)])]) [true, false, true] rfl
    refine w_next [(6, .sl (.id (g + 3 + 6 + 5 + 1)) 1 (v1.map cI)), (7, .ptr (g + 2) 0)] (.cons (.refl _) (.cons (.refl _) .nil)) ?_
    refine r_ret ?_
    refine w_end (x := .tup [.sl (.id (g + 3 + 6 + 5 + 1)) 1 (v1.map cI), .agg [.v (.int .i64 (w64 (a1 - v2))), .v (.int .i64 v2), .v (.int .i64 v3)]]) (f := fun r => .tup [.sl .no 1 (r.1.map cI), .agg [.v (.int .i64 r.2.Operator), .v (.int .i64 r.2.Owner), .v (.int .i64 r.2.Repaid)]]) (.inr rfl) ?_ (.tupL (.cons (.sl _ _ _) (.cons (.refl _) .nil))) (Option.some.inj hM) hS
    exact (res_two (res_tmp (x := .sl (.id (g + 3 + 6 + 5 + 1)) 1 (v1.map cI)) rfl) (res_cell (x := .agg [.v (.int .i64 (w64 (a1 - v2))), .v (.int .i64 v2), .v (.int .i64 v3)]) 1 hS rfl rfl (part_agg ty_agg41 (Nat.le_of_ble_eq_true rfl) rfl)))
  · refine r_seq ?_
    refine r_region (n := 1) rfl ?_
    refine o_assign (v := .v (.int .i64 0)) (by decide) rfl ?_
    refine run_nil ?_
    refine w_next [(1, .v (.int .i64 a1)), (3, .ptr (g + 0) 0), (7, .ptr (g + 2) 0), (8, .ptr (g + 3 + 4) 0), (9, .v (.int .i64 (w64 (a1 - (min a2 a1))))), (10, .sl (.id (g + 3 + 6 + 5 + 1)) 1 (([] : List Int).map cI)), (11, .v (.int .i64 0))] (.cons (.refl _) (.cons (.refl _) (.cons (.refl _) (.cons (.refl _) (.cons (.refl _) (.cons (.refl _) (.cons (.refl _) .nil))))))) ?_
    refine r_block ?_
    refine w_loop (V := Int × (List Int) × Int × Int × Int) (fun v => [(1, .v (.int .i64 a1)), (3, .ptr (g + 0) 0), (7, .ptr (g + 2) 0), (8, .ptr (g + 3 + 4) 0), (9, .v (.int .i64 v.1)), (10, .sl (.id (g + 3 + 6 + 5 + 1)) 1 (v.2.1.map cI)), (11, .v (.int .i64 v.2.2.1))]) (fun v m3 H' g' => St (· < g) H0 [(g + 3 + 6 + 5 + 1, .row 3 v.2.1.length), (g + 3 + 4, .cells [.v (.int .i64 0), .v (.int .i64 v.2.2.2.1), .v (.int .i64 v.2.2.2.2)]), (g + 2, .cells [.v (.int .i64 0), .v (.int .i64 0), .v (.int .i64 0)]), (g + 0, .cells [.sl .no 4 (a0.Clauses.map Clause.cells), .v (.int .i64 a0.Loan)])] H' g' ∧ ref09_Gone_l1 a0 a1 m3 v.1 v.2.1 v.2.2.1 v.2.2.2.1 v.2.2.2.2 = some r) (n := n) (w64 (a1 - (min a2 a1)), ([] : List Int), 0, (min a2 a1), 0) (.cons (.refl _) (.cons (.refl _) (.cons (.refl _) (.cons (.refl _) (.cons (.refl _) (.cons (.refl _) (.cons (.refl _) .nil))))))) ⟨(hS.keep [true, true, true, true] rfl).up (by omega), hM⟩ ?_
    rintro ⟨v7, v8, v9, v10, v11⟩ m3 H g3 ⟨hS, hM⟩
    obtain _ | m3 := m3
    · exact nomatch (show none = some _ from hM)
    change wpA _ _ _ _ (Fr.of [(1, .v (.int .i64 a1)), (3, .ptr (g + 0) 0), (7, .ptr (g + 2) 0), (8, .ptr (g + 3 + 4) 0), (9, .v (.int .i64 v7)), (10, .sl (.id (g + 3 + 6 + 5 + 1)) 1 (v8.map cI)), (11, .v (.int .i64 v9))]) _ _
    replace hS : St (· < g) H0 [(g + 3 + 6 + 5 + 1, .row 3 v8.length), (g + 3 + 4, .cells [.v (.int .i64 0), .v (.int .i64 v10), .v (.int .i64 v11)]), (g + 2, .cells [.v (.int .i64 0), .v (.int .i64 0), .v (.int .i64 0)]), (g + 0, .cells [.sl .no 4 (a0.Clauses.map Clause.cells), .v (.int .i64 a0.Loan)])] H g3 := hS
    replace hM : ref09_Gone_l1_b a0 a1 (ref09_Gone_l1 a0 a1 m3) v7 v8 v9 v10 v11 = some r := hM
    refine r_seq ?_
    refine r_seq ?_
    refine r_region (n := 5) rfl ?_
    refine o_move (v := .v (.int .i64 v9)) (by decide) rfl ?_
    refine o_fieldP (by decide) ty_fo24_0 rfl ?_
    refine o_load (v := .sl .no 4 (a0.Clauses.map Clause.cells)) 3 hS (by decide) rfl rfl .no (part_one ty_agg22 ty_sc22 rfl) ?_
    refine o_len (n := a0.Clauses.length) (by decide) rfl (List.length_map _) ty_isl22 ?_
    refine o_int (v := .v (.bool (decide (v9 < (a0.Clauses.length : Int))))) (by decide) rfl rfl rfl ?_
    refine run_nil ?_
    refine w_next [(1, .v (.int .i64 a1)), (3, .ptr (g + 0) 0), (7, .ptr (g + 2) 0), (8, .ptr (g + 3 + 4) 0), (9, .v (.int .i64 v7)), (10, .sl (.id (g + 3 + 6 + 5 + 1)) 1 (v8.map cI)), (11, .v (.int .i64 v9)), (26, .v (.bool (decide (v9 < (a0.Clauses.length : Int)))))] (.cons (.refl _) (.cons (.refl _) (.cons (.refl _) (.cons (.refl _) (.cons (.refl _) (.cons (.refl _) (.cons (.refl _) (.cons (.refl _) .nil)))))))) ?_
    rcases Bool.eq_false_or_eq_true (decide (v9 < (a0.Clauses.length : Int))) with hb12 | hb12
    · replace hM := ifT hM hb12
      refine w_condT (e := (decide (v9 < (a0.Clauses.length : Int)))) rfl hb12 ?_
      refine r_skip ?_
      refine w_next [(1, .v (.int .i64 a1)), (3, .ptr (g + 0) 0), (7, .ptr (g + 2) 0), (8, .ptr (g + 3 + 4) 0), (9, .v (.int .i64 v7)), (10, .sl (.id (g + 3 + 6 + 5 + 1)) 1 (v8.map cI)), (11, .v (.int .i64 v9))] (.cons (.refl _) (.cons (.refl _) (.cons (.refl _) (.cons (.refl _) (.cons (.refl _) (.cons (.refl _) (.cons (.refl _) .nil))))))) ?_
      refine w_join (J := Int × (List Int) × Int × Int) (fun j => [(1, .v (.int .i64 a1)), (3, .ptr (g + 0) 0), (7, .ptr (g + 2) 0), (8, .ptr (g + 3 + 4) 0), (9, .v (.int .i64 j.1)), (10, .sl (.id (g + 3 + 6 + 5 + 1)) 1 (j.2.1.map cI)), (11, .v (.int .i64 v9))]) (fun j H' g' => St (· < g) H0 [(g + 3 + 6 + 5 + 1, .row 3 j.2.1.length), (g + 3 + 4, .cells [.v (.int .i64 0), .v (.int .i64 j.2.2.1), .v (.int .i64 j.2.2.2)]), (g + 2, .cells [.v (.int .i64 0), .v (.int .i64 0), .v (.int .i64 0)]), (g + 0, .cells [.sl .no 4 (a0.Clauses.map Clause.cells), .v (.int .i64 a0.Loan)])] H' g' ∧ ref09_Gone_j2 (ref09_Gone_l1 a0 a1 m3) v9 j.1 j.2.1 j.2.2.1 j.2.2.2 = some r) ?_ ?_
      · rintro ⟨v13, v14, v15, v16⟩ H g4 ⟨hS, hM⟩
        change wpA _ _ _ _ (Fr.of [(1, .v (.int .i64 a1)), (3, .ptr (g + 0) 0), (7, .ptr (g + 2) 0), (8, .ptr (g + 3 + 4) 0), (9, .v (.int .i64 v13)), (10, .sl (.id (g + 3 + 6 + 5 + 1)) 1 (v14.map cI)), (11, .v (.int .i64 v9))]) _ _
        replace hS : St (· < g) H0 [(g + 3 + 6 + 5 + 1, .row 3 v14.length), (g + 3 + 4, .cells [.v (.int .i64 0), .v (.int .i64 v15), .v (.int .i64 v16)]), (g + 2, .cells [.v (.int .i64 0), .v (.int .i64 0), .v (.int .i64 0)]), (g + 0, .cells [.sl .no 4 (a0.Clauses.map Clause.cells), .v (.int .i64 a0.Loan)])] H g4 := hS
        replace hM : ref09_Gone_j2 (ref09_Gone_l1 a0 a1 m3) v9 v13 v14 v15 v16 = some r := hM
        refine r_region (n := 3) rfl ?_
        refine o_move (v := .v (.int .i64 v9)) (by decide) rfl ?_
        refine o_int (v := .v (.int .i64 (w64 (v9 + 1)))) (by decide) rfl rfl rfl ?_
        refine o_assign (v := .v (.int .i64 (w64 (v9 + 1)))) (by decide) rfl ?_
        refine run_nil ?_
        exact w_round (v13, v14, w64 (v9 + 1), v15, v16) (Nat.lt_succ_self _) (.cons (.refl _) (.cons (.refl _) (.cons (.refl _) (.cons (.refl _) (.cons (.refl _) (.cons (.refl _) (.cons (.refl _) .nil))))))) ⟨(hS.keep [true, true, true, true] rfl).up (by omega), hM⟩
      · refine r_block ?_
        refine r_seq ?_
        refine r_region (n := 7) rfl ?_
        refine o_fieldP (by decide) ty_fo24_0 rfl ?_
        refine o_load (v := .sl .no 4 (a0.Clauses.map Clause.cells)) 3 hS (by decide) rfl rfl .no (part_one ty_agg22 ty_sc22 rfl) ?_
        refine o_move (v := .v (.int .i64 v9)) (by decide) rfl ?_
        obtain ⟨x17, hx17, hM⟩ := bindE hM
        refine o_index (xs := a0.Clauses) (f := Clause.cells) (z := v9) (u := x17) (by decide) rfl rfl ty_es22 hx17 ?_
        refine o_loadE (v := .agg [.v (.int .i64 x17.Kind), .v (.int .i64 x17.Cents), .v (.int .i64 x17.Part), .v (.int .i64 x17.More)]) (by decide) rfl (part_agg ty_agg39 (Nat.le_of_ble_eq_true rfl) rfl) ?_
        refine o_alloc hS (by decide) ty_zero39 (by omega) fun H hS => ?_
        refine o_store (v := .agg [.v (.int .i64 x17.Kind), .v (.int .i64 x17.Cents), .v (.int .i64 x17.Part), .v (.int .i64 x17.More)]) (ns := [.v (.int .i64 x17.Kind), .v (.int .i64 x17.Cents), .v (.int .i64 x17.Part), .v (.int .i64 x17.More)]) (L' := [(g3 + 5 + 5, .cells [.v (.int .i64 x17.Kind), .v (.int .i64 x17.Cents), .v (.int .i64 x17.Part), .v (.int .i64 x17.More)]), (g + 3 + 6 + 5 + 1, .row 3 v8.length), (g + 3 + 4, .cells [.v (.int .i64 0), .v (.int .i64 v10), .v (.int .i64 v11)]), (g + 2, .cells [.v (.int .i64 0), .v (.int .i64 0), .v (.int .i64 0)]), (g + 0, .cells [.sl .no 4 (a0.Clauses.map Clause.cells), .v (.int .i64 a0.Loan)])]) 0 hS rfl rfl .no rfl rfl ty_var39 (Nat.le_of_ble_eq_true rfl) rfl fun H hS => ?_
        refine run_nil ?_
        refine w_next [(1, .v (.int .i64 a1)), (3, .ptr (g + 0) 0), (7, .ptr (g + 2) 0), (8, .ptr (g + 3 + 4) 0), (9, .v (.int .i64 v7)), (10, .sl (.id (g + 3 + 6 + 5 + 1)) 1 (v8.map cI)), (11, .v (.int .i64 v9)), (12, .ptr (g3 + 5 + 5) 0)] (.cons (.refl _) (.cons (.refl _) (.cons (.refl _) (.cons (.refl _) (.cons (.refl _) (.cons (.refl _) (.cons (.refl _) (.cons (.refl _) .nil)))))))) ?_
        refine r_seq ?_
        refine r_region (n := 11) rfl ?_
        refine o_load (v := .agg [.v (.int .i64 x17.Kind), .v (.int .i64 x17.Cents), .v (.int .i64 x17.Part), .v (.int .i64 x17.More)]) 0 hS (by decide) rfl rfl .no (part_agg ty_agg39 (Nat.le_of_ble_eq_true rfl) rfl) ?_
        refine o_move (v := .v (.int .i64 v7)) (by decide) rfl ?_
        refine o_fieldP (by decide) ty_fo41_1 rfl ?_
        refine o_load (v := .v (.int .i64 v10)) 2 hS (by decide) rfl rfl .no (part_one ty_agg3 ty_sc3 rfl) ?_
        refine o_fieldP (by decide) ty_fo24_1 rfl ?_
        refine o_load (v := .v (.int .i64 a0.Loan)) 4 hS (by decide) rfl rfl .no (part_one ty_agg3 ty_sc3 rfl) ?_
        refine o_fieldP (by decide) ty_fo41_2 rfl ?_
        refine o_load (v := .v (.int .i64 v11)) 2 hS (by decide) rfl rfl .no (part_one ty_agg3 ty_sc3 rfl) ?_
        refine o_int (v := .v (.int .i64 (w64 (a0.Loan - v11)))) (by decide) rfl rfl rfl ?_
        obtain ⟨r18, hr18, hM⟩ := bindE hM
        refine o_call (bs := [.agg [.v (.int .i64 x17.Kind), .v (.int .i64 x17.Cents), .v (.int .i64 x17.Part), .v (.int .i64 x17.More)], .v (.int .i64 v7), .v (.int .i64 v10), .v (.int .i64 (w64 (a0.Loan - v11)))]) (by decide) rfl rfl ((W_ref09_Given hr18).le (.cons (.refl _) (.cons (.refl _) (.cons (.refl _) (.cons (.refl _) .nil))))) ?_
        refine o_assign (v := .v (.int .i64 r18)) (by decide) rfl ?_
        refine run_nil ?_
        refine w_next [(1, .v (.int .i64 a1)), (3, .ptr (g + 0) 0), (7, .ptr (g + 2) 0), (8, .ptr (g + 3 + 4) 0), (9, .v (.int .i64 v7)), (10, .sl (.id (g + 3 + 6 + 5 + 1)) 1 (v8.map cI)), (11, .v (.int .i64 v9)), (12, .ptr (g3 + 5 + 5) 0), (13, .v (.int .i64 r18))] (.cons (.refl _) (.cons (.refl _) (.cons (.refl _) (.cons (.refl _) (.cons (.refl _) (.cons (.refl _) (.cons (.refl _) (.cons (.refl _) (.cons (.refl _) .nil))))))))) ?_
        refine r_seq ?_
        refine r_region (n := 4) rfl ?_
        refine o_move (v := .v (.int .i64 v7)) (by decide) rfl ?_
        refine o_move (v := .v (.int .i64 r18)) (by decide) rfl ?_
        refine o_int (v := .v (.int .i64 (w64 (v7 - r18)))) (by decide) rfl rfl rfl ?_
        refine o_assign (v := .v (.int .i64 (w64 (v7 - r18)))) (by decide) rfl ?_
        refine run_nil ?_
        refine w_next [(1, .v (.int .i64 a1)), (3, .ptr (g + 0) 0), (7, .ptr (g + 2) 0), (8, .ptr (g + 3 + 4) 0), (9, .v (.int .i64 (w64 (v7 - r18)))), (10, .sl (.id (g + 3 + 6 + 5 + 1)) 1 (v8.map cI)), (11, .v (.int .i64 v9)), (12, .ptr (g3 + 5 + 5) 0), (13, .v (.int .i64 r18))] (.cons (.refl _) (.cons (.refl _) (.cons (.refl _) (.cons (.refl _) (.cons (.refl _) (.cons (.refl _) (.cons (.refl _) (.cons (.refl _) (.cons (.refl _) .nil))))))))) ?_
        refine r_seq ?_
        refine r_region (n := 5) rfl ?_
        refine o_move (v := .sl (.id (g + 3 + 6 + 5 + 1)) 1 (v8.map cI)) (by decide) rfl ?_
        refine o_move (v := .v (.int .i64 r18)) (by decide) rfl ?_
        refine o_buildSlice (es := [[.v (.int .i64 r18)]]) hS (by decide) ty_es28 ty_el28 rfl ty_ef28 rfl (by decide) (by omega) fun H hS => ?_
        obtain ⟨l19, hl19, hM⟩ := bindE hM
        refine o_append (xs := v8) (ys := ([r18] : List Int)) (zs := l19) (f := cI) (L' := [(g3 + 5 + 7 + 11 + 4 + 2, .row 3 1), (g3 + 5 + 5, .cells [.v (.int .i64 x17.Kind), .v (.int .i64 x17.Cents), .v (.int .i64 x17.Part), .v (.int .i64 x17.More)]), (g + 3 + 6 + 5 + 1, .row 3 l19.length), (g + 3 + 4, .cells [.v (.int .i64 0), .v (.int .i64 v10), .v (.int .i64 v11)]), (g + 2, .cells [.v (.int .i64 0), .v (.int .i64 0), .v (.int .i64 0)]), (g + 0, .cells [.sl .no 4 (a0.Clauses.map Clause.cells), .v (.int .i64 a0.Loan)])]) 2 hS (by decide) rfl rfl rfl rfl .no ty_es28 ty_el28 ty_ef28 hl19 rfl fun H hS => ?_
        refine o_assign (v := .sl (.id (g + 3 + 6 + 5 + 1)) 1 (l19.map cI)) (by decide) rfl ?_
        refine run_nil ?_
        replace hS := hS.keep (L' := [(g3 + 5 + 5, .cells [.v (.int .i64 x17.Kind), .v (.int .i64 x17.Cents), .v (.int .i64 x17.Part), .v (.int .i64 x17.More)]), (g + 3 + 6 + 5 + 1, .row 3 l19.length), (g + 3 + 4, .cells [.v (.int .i64 0), .v (.int .i64 v10), .v (.int .i64 v11)]), (g + 2, .cells [.v (.int .i64 0), .v (.int .i64 0), .v (.int .i64 0)]), (g + 0, .cells [.sl .no 4 (a0.Clauses.map Clause.cells), .v (.int .i64 a0.Loan)])]) [false, true, true, true, true, true] rfl
        refine w_next [(1, .v (.int .i64 a1)), (3, .ptr (g + 0) 0), (7, .ptr (g + 2) 0), (8, .ptr (g + 3 + 4) 0), (9, .v (.int .i64 (w64 (v7 - r18)))), (10, .sl (.id (g + 3 + 6 + 5 + 1)) 1 (l19.map cI)), (11, .v (.int .i64 v9)), (12, .ptr (g3 + 5 + 5) 0), (13, .v (.int .i64 r18))] (.cons (.refl _) (.cons (.refl _) (.cons (.refl _) (.cons (.refl _) (.cons (.refl _) (.cons (.refl _) (.cons (.refl _) (.cons (.refl _) (.cons (.refl _) .nil))))))))) ?_
        refine w_join (J := Int) (fun j => [(1, .v (.int .i64 a1)), (3, .ptr (g + 0) 0), (7, .ptr (g + 2) 0), (8, .ptr (g + 3 + 4) 0), (9, .v (.int .i64 (w64 (v7 - r18)))), (10, .sl (.id (g + 3 + 6 + 5 + 1)) 1 (l19.map cI)), (11, .v (.int .i64 v9)), (12, .ptr (g3 + 5 + 5) 0), (13, .v (.int .i64 r18))]) (fun j H' g' => St (· < g) H0 [(g3 + 5 + 5, .cells [.v (.int .i64 x17.Kind), .v (.int .i64 x17.Cents), .v (.int .i64 x17.Part), .v (.int .i64 x17.More)]), (g + 3 + 6 + 5 + 1, .row 3 l19.length), (g + 3 + 4, .cells [.v (.int .i64 0), .v (.int .i64 j), .v (.int .i64 v11)]), (g + 2, .cells [.v (.int .i64 0), .v (.int .i64 0), .v (.int .i64 0)]), (g + 0, .cells [.sl .no 4 (a0.Clauses.map Clause.cells), .v (.int .i64 a0.Loan)])] H' g' ∧ ref09_Gone_j3 (ref09_Gone_l1 a0 a1 m3) v7 v9 v11 x17 r18 l19 j = some r) ?_ ?_
        · rintro v20 H g5 ⟨hS, hM⟩
          change wpA _ _ _ _ (Fr.of [(1, .v (.int .i64 a1)), (3, .ptr (g + 0) 0), (7, .ptr (g + 2) 0), (8, .ptr (g + 3 + 4) 0), (9, .v (.int .i64 (w64 (v7 - r18)))), (10, .sl (.id (g + 3 + 6 + 5 + 1)) 1 (l19.map cI)), (11, .v (.int .i64 v9)), (12, .ptr (g3 + 5 + 5) 0), (13, .v (.int .i64 r18))]) _ _
          replace hS : St (· < g) H0 [(g3 + 5 + 5, .cells [.v (.int .i64 x17.Kind), .v (.int .i64 x17.Cents), .v (.int .i64 x17.Part), .v (.int .i64 x17.More)]), (g + 3 + 6 + 5 + 1, .row 3 l19.length), (g + 3 + 4, .cells [.v (.int .i64 0), .v (.int .i64 v20), .v (.int .i64 v11)]), (g + 2, .cells [.v (.int .i64 0), .v (.int .i64 0), .v (.int .i64 0)]), (g + 0, .cells [.sl .no 4 (a0.Clauses.map Clause.cells), .v (.int .i64 a0.Loan)])] H g5 := hS
          replace hM : ref09_Gone_j3 (ref09_Gone_l1 a0 a1 m3) v7 v9 v11 x17 r18 l19 v20 = some r := hM
          refine r_seq ?_
          refine r_region (n := 3) rfl ?_
          refine o_fieldP (by decide) ty_fo39_0 rfl ?_
          refine o_load (v := .v (.int .i64 x17.Kind)) 0 hS (by decide) rfl rfl .no (part_one ty_agg3 ty_sc3 rfl) ?_
          refine o_int (v := .v (.bool (x17.Kind == 2))) (by decide) rfl rfl rfl ?_
          refine run_nil ?_
          replace hS := hS.keep (L' := [(g + 3 + 6 + 5 + 1, .row 3 l19.length), (g + 3 + 4, .cells [.v (.int .i64 0), .v (.int .i64 v20), .v (.int .i64 v11)]), (g + 2, .cells [.v (.int .i64 0), .v (.int .i64 0), .v (.int .i64 0)]), (g + 0, .cells [.sl .no 4 (a0.Clauses.map Clause.cells), .v (.int .i64 a0.Loan)])]) [false, true, true, true, true] rfl
          refine w_next [(1, .v (.int .i64 a1)), (3, .ptr (g + 0) 0), (7, .ptr (g + 2) 0), (8, .ptr (g + 3 + 4) 0), (9, .v (.int .i64 (w64 (v7 - r18)))), (10, .sl (.id (g + 3 + 6 + 5 + 1)) 1 (l19.map cI)), (11, .v (.int .i64 v9)), (13, .v (.int .i64 r18)), (60, .v (.bool (x17.Kind == 2)))] (.cons (.refl _) (.cons (.refl _) (.cons (.refl _) (.cons (.refl _) (.cons (.refl _) (.cons (.refl _) (.cons (.refl _) (.cons (.refl _) (.cons (.refl _) .nil))))))))) ?_
          rcases Bool.eq_false_or_eq_true (x17.Kind == 2) with hb21 | hb21
          · replace hM := ifT hM hb21
            refine w_condT (e := (x17.Kind == 2)) rfl hb21 ?_
            refine r_region (n := 6) rfl ?_
            refine o_fieldP (by decide) ty_fo41_2 rfl ?_
            refine o_load (v := .v (.int .i64 v11)) 1 hS (by decide) rfl rfl .no (part_one ty_agg3 ty_sc3 rfl) ?_
            refine o_move (v := .v (.int .i64 r18)) (by decide) rfl ?_
            refine o_int (v := .v (.int .i64 (w64 (v11 + r18)))) (by decide) rfl rfl rfl ?_
            refine o_fieldP (by decide) ty_fo41_2 rfl ?_
            refine o_store (v := .v (.int .i64 (w64 (v11 + r18)))) (ns := [.v (.int .i64 (w64 (v11 + r18)))]) (L' := [(g + 3 + 6 + 5 + 1, .row 3 l19.length), (g + 3 + 4, .cells [.v (.int .i64 0), .v (.int .i64 v20), .v (.int .i64 (w64 (v11 + r18)))]), (g + 2, .cells [.v (.int .i64 0), .v (.int .i64 0), .v (.int .i64 0)]), (g + 0, .cells [.sl .no 4 (a0.Clauses.map Clause.cells), .v (.int .i64 a0.Loan)])]) 1 hS rfl rfl .no rfl rfl ty_var3 (Nat.le_of_ble_eq_true rfl) rfl fun H hS => ?_
            refine run_nil ?_
            refine r_blk_normal ?_
            exact w_goto (w64 (v7 - r18), l19, v20, w64 (v11 + r18)) (.cons (.refl _) (.cons (.refl _) (.cons (.refl _) (.cons (.refl _) (.cons (.refl _) (.cons (.refl _) (.cons (.refl _) .nil))))))) ⟨(hS.keep [true, true, true, true] rfl).up (by omega), hM⟩
          · replace hM := ifF hM hb21
            refine w_condF (e := (x17.Kind == 2)) rfl hb21 ?_
            refine r_skip ?_
            refine r_blk_normal ?_
            exact w_goto (w64 (v7 - r18), l19, v20, v11) (.cons (.refl _) (.cons (.refl _) (.cons (.refl _) (.cons (.refl _) (.cons (.refl _) (.cons (.refl _) (.cons (.refl _) .nil))))))) ⟨(hS.keep [true, true, true, true] rfl).up (by omega), hM⟩
        · refine r_seq ?_
          refine r_region (n := 2) rfl ?_
          refine o_load (v := .agg [.v (.int .i64 x17.Kind), .v (.int .i64 x17.Cents), .v (.int .i64 x17.Part), .v (.int .i64 x17.More)]) 0 hS (by decide) rfl rfl .no (part_agg ty_agg39 (Nat.le_of_ble_eq_true rfl) rfl) ?_
          obtain ⟨r22, hr22, hM⟩ := bindE hM
          refine o_call (bs := [.agg [.v (.int .i64 x17.Kind), .v (.int .i64 x17.Cents), .v (.int .i64 x17.Part), .v (.int .i64 x17.More)]]) (by decide) rfl rfl ((W_ref09_IsOwners hr22).le (.cons (.refl _) .nil)) ?_
          refine run_nil ?_
          refine w_next [(1, .v (.int .i64 a1)), (3, .ptr (g + 0) 0), (7, .ptr (g + 2) 0), (8, .ptr (g + 3 + 4) 0), (9, .v (.int .i64 (w64 (v7 - r18)))), (10, .sl (.id (g + 3 + 6 + 5 + 1)) 1 (l19.map cI)), (11, .v (.int .i64 v9)), (12, .ptr (g3 + 5 + 5) 0), (13, .v (.int .i64 r18)), (52, .v (.bool r22))] (.cons (.refl _) (.cons (.refl _) (.cons (.refl _) (.cons (.refl _) (.cons (.refl _) (.cons (.refl _) (.cons (.refl _) (.cons (.refl _) (.cons (.refl _) (.cons (.refl _) .nil)))))))))) ?_
          rcases Bool.eq_false_or_eq_true r22 with hb23 | hb23
          · replace hM := ifT hM hb23
            refine w_condT (e := r22) rfl hb23 ?_
            refine r_region (n := 6) rfl ?_
            refine o_fieldP (by decide) ty_fo41_1 rfl ?_
            refine o_load (v := .v (.int .i64 v10)) 2 hS (by decide) rfl rfl .no (part_one ty_agg3 ty_sc3 rfl) ?_
            refine o_move (v := .v (.int .i64 r18)) (by decide) rfl ?_
            refine o_int (v := .v (.int .i64 (w64 (v10 + r18)))) (by decide) rfl rfl rfl ?_
            refine o_fieldP (by decide) ty_fo41_1 rfl ?_
            refine o_store (v := .v (.int .i64 (w64 (v10 + r18)))) (ns := [.v (.int .i64 (w64 (v10 + r18)))]) (L' := [(g3 + 5 + 5, .cells [.v (.int .i64 x17.Kind), .v (.int .i64 x17.Cents), .v (.int .i64 x17.Part), .v (.int .i64 x17.More)]), (g + 3 + 6 + 5 + 1, .row 3 l19.length), (g + 3 + 4, .cells [.v (.int .i64 0), .v (.int .i64 (w64 (v10 + r18))), .v (.int .i64 v11)]), (g + 2, .cells [.v (.int .i64 0), .v (.int .i64 0), .v (.int .i64 0)]), (g + 0, .cells [.sl .no 4 (a0.Clauses.map Clause.cells), .v (.int .i64 a0.Loan)])]) 2 hS rfl rfl .no rfl rfl ty_var3 (Nat.le_of_ble_eq_true rfl) rfl fun H hS => ?_
            refine run_nil ?_
            exact w_goto (w64 (v10 + r18)) (.cons (.refl _) (.cons (.refl _) (.cons (.refl _) (.cons (.refl _) (.cons (.refl _) (.cons (.refl _) (.cons (.refl _) (.cons (.refl _) (.cons (.refl _) .nil))))))))) ⟨(hS.keep [true, true, true, true, true] rfl).up (by omega), hM⟩
          · replace hM := ifF hM hb23
            refine w_condF (e := r22) rfl hb23 ?_
            refine r_skip ?_
            exact w_goto v10 (.cons (.refl _) (.cons (.refl _) (.cons (.refl _) (.cons (.refl _) (.cons (.refl _) (.cons (.refl _) (.cons (.refl _) (.cons (.refl _) (.cons (.refl _) .nil))))))))) ⟨(hS.keep [true, true, true, true, true] rfl).up (by omega), hM⟩
    · replace hM := ifF hM hb12
      refine w_condF (e := (decide (v9 < (a0.Clauses.length : Int)))) rfl hb12 ?_
      refine r_exit ?_
      refine r_then_exit ?_
      refine w_round_exit ?_
      refine r_blk_exit ?_
      exact w_goto (v8, v10, v11) (.cons (.refl _) (.cons (.refl _) (.cons (.refl _) (.cons (.refl _) .nil)))) ⟨(hS.keep [true, true, true, false] rfl).up (by omega), hM⟩
theorem W_law09_same {n : Nat} {a0 : Share} {a1 : Share} {r : Bool} (hM : law09_same n a0 a1 = some r) : PureSat Try.prog 22 [.agg [.sl .no 4 (a0.Clauses.map Clause.cells), .v (.int .i64 a0.Loan)], .agg [.sl .no 4 (a1.Clauses.map Clause.cells), .v (.int .i64 a1.Loan)]] (.v (.bool r)) := by
  refine pure_of_wp mixed Try.func22 rfl (by decide) Try.ntmps22 (by simp) ?pure fun H0 g hf => ?_
  case pure => exact .v _
  rw [frame0_of]
  change wpA _ _ _ _ (Fr.of [(0, .agg [.sl .no 4 (a0.Clauses.map Clause.cells), .v (.int .i64 a0.Loan)]), (1, .agg [.sl .no 4 (a1.Clauses.map Clause.cells), .v (.int .i64 a1.Loan)])]) H0 g
  have hS := St.start hf
  refine r_seq ?_
  refine r_region (n := 3) rfl ?_
  refine o_box (v := .agg [.sl .no 4 (a0.Clauses.map Clause.cells), .v (.int .i64 a0.Loan)]) (cs := [.sl .no 4 (a0.Clauses.map Clause.cells), .v (.int .i64 a0.Loan)]) hS (by decide) rfl rfl (by omega) fun H hS => ?_
  refine o_box (v := .agg [.sl .no 4 (a1.Clauses.map Clause.cells), .v (.int .i64 a1.Loan)]) (cs := [.sl .no 4 (a1.Clauses.map Clause.cells), .v (.int .i64 a1.Loan)]) hS (by decide) rfl rfl (by omega) fun H hS => ?_
  refine o_assign (v := .v (.bool false)) (by decide) rfl ?_
  refine run_nil ?_
  refine w_next [(2, .ptr (g + 0) 0), (3, .ptr (g + 1) 0)] (.cons (.refl _) (.cons (.refl _) .nil)) ?_
  refine r_seq ?_
  refine w_join (J := Bool) (fun j => [(2, .ptr (g + 0) 0), (3, .ptr (g + 1) 0), (19, .v (.bool j))]) (fun j H' g' => St (· < g) H0 [(g + 1, .cells [.sl .no 4 (a1.Clauses.map Clause.cells), .v (.int .i64 a1.Loan)]), (g + 0, .cells [.sl .no 4 (a0.Clauses.map Clause.cells), .v (.int .i64 a0.Loan)])] H' g' ∧ law09_same_j1 n a0 a1 j = some r) ?_ ?_
  · rintro v1 H g1 ⟨hS, hM⟩
    change wpA _ _ _ _ (Fr.of [(2, .ptr (g + 0) 0), (3, .ptr (g + 1) 0), (19, .v (.bool v1))]) _ _
    replace hS : St (· < g) H0 [(g + 1, .cells [.sl .no 4 (a1.Clauses.map Clause.cells), .v (.int .i64 a1.Loan)]), (g + 0, .cells [.sl .no 4 (a0.Clauses.map Clause.cells), .v (.int .i64 a0.Loan)])] H g1 := hS
    replace hM : law09_same_j1 n a0 a1 v1 = some r := hM
    rcases Bool.eq_false_or_eq_true v1 with hb2 | hb2
    · replace hM := ifT hM hb2
      refine w_condT (e := v1) rfl hb2 ?_
      refine r_seq ?_
      refine r_region (n := 1) rfl ?_
      refine o_assign (v := .v (.bool false)) (by decide) rfl ?_
      refine run_nil ?_
      replace hS := hS.keep (L' := []) [false, false] rfl
      refine w_next [(4, .v (.bool false))] (.cons (.refl _) .nil) ?_
      refine r_ret ?_
      refine r_then_ret ?_
      refine w_end (x := .v (.bool false)) (f := fun r => .v (.bool r)) (.inr rfl) ?_ (.refl _) (Option.some.inj hM) hS
      exact (res_one (res_tmp (x := .v (.bool false)) rfl))
    · replace hM := ifF hM hb2
      refine w_condF (e := v1) rfl hb2 ?_
      refine r_skip ?_
      refine w_next [(2, .ptr (g + 0) 0), (3, .ptr (g + 1) 0)] (.cons (.refl _) (.cons (.refl _) .nil)) ?_
      refine w_join (J := Unit) (fun j => []) (fun j H' g' => St (· < g) H0 [] H' g' ∧ law09_same_j2 = some r) ?_ ?_
      · rintro _ H g2 ⟨hS, hM⟩
        change wpA _ _ _ _ (Fr.of []) _ _
        replace hS : St (· < g) H0 [] H g2 := hS
        replace hM : law09_same_j2 = some r := hM
        refine r_seq ?_
        refine r_region (n := 1) rfl ?_
        refine o_assign (v := .v (.bool true)) (by decide) rfl ?_
        refine run_nil ?_
        refine w_next [(4, .v (.bool true))] (.cons (.refl _) .nil) ?_
        refine r_ret ?_
        refine w_end (x := .v (.bool true)) (f := fun r => .v (.bool r)) (.inr rfl) ?_ (.refl _) (Option.some.inj hM) hS
        exact (res_one (res_tmp (x := .v (.bool true)) rfl))
      · refine r_seq ?_
        refine r_region (n := 1) rfl ?_
        refine o_assign (v := .v (.int .i64 0)) (by decide) rfl ?_
        refine run_nil ?_
        refine w_next [(2, .ptr (g + 0) 0), (3, .ptr (g + 1) 0), (5, .v (.int .i64 0))] (.cons (.refl _) (.cons (.refl _) (.cons (.refl _) .nil))) ?_
        refine r_block ?_
        refine w_loop (V := Int) (fun v => [(2, .ptr (g + 0) 0), (3, .ptr (g + 1) 0), (5, .v (.int .i64 v))]) (fun v m3 H' g' => St (· < g) H0 [(g + 1, .cells [.sl .no 4 (a1.Clauses.map Clause.cells), .v (.int .i64 a1.Loan)]), (g + 0, .cells [.sl .no 4 (a0.Clauses.map Clause.cells), .v (.int .i64 a0.Loan)])] H' g' ∧ law09_same_l1 a0 a1 m3 v = some r) (n := n) 0 (.cons (.refl _) (.cons (.refl _) (.cons (.refl _) .nil))) ⟨(hS.keep [true, true] rfl).up (by omega), hM⟩ ?_
        rintro v3 m3 H g3 ⟨hS, hM⟩
        obtain _ | m3 := m3
        · exact nomatch (show none = some _ from hM)
        change wpA _ _ _ _ (Fr.of [(2, .ptr (g + 0) 0), (3, .ptr (g + 1) 0), (5, .v (.int .i64 v3))]) _ _
        replace hS : St (· < g) H0 [(g + 1, .cells [.sl .no 4 (a1.Clauses.map Clause.cells), .v (.int .i64 a1.Loan)]), (g + 0, .cells [.sl .no 4 (a0.Clauses.map Clause.cells), .v (.int .i64 a0.Loan)])] H g3 := hS
        replace hM : law09_same_l1_b a0 a1 (law09_same_l1 a0 a1 m3) v3 = some r := hM
        refine r_seq ?_
        refine r_seq ?_
        refine r_region (n := 5) rfl ?_
        refine o_move (v := .v (.int .i64 v3)) (by decide) rfl ?_
        refine o_fieldP (by decide) ty_fo24_0 rfl ?_
        refine o_load (v := .sl .no 4 (a0.Clauses.map Clause.cells)) 1 hS (by decide) rfl rfl .no (part_one ty_agg22 ty_sc22 rfl) ?_
        refine o_len (n := a0.Clauses.length) (by decide) rfl (List.length_map _) ty_isl22 ?_
        refine o_int (v := .v (.bool (decide (v3 < (a0.Clauses.length : Int))))) (by decide) rfl rfl rfl ?_
        refine run_nil ?_
        refine w_next [(2, .ptr (g + 0) 0), (3, .ptr (g + 1) 0), (5, .v (.int .i64 v3)), (24, .v (.bool (decide (v3 < (a0.Clauses.length : Int)))))] (.cons (.refl _) (.cons (.refl _) (.cons (.refl _) (.cons (.refl _) .nil)))) ?_
        rcases Bool.eq_false_or_eq_true (decide (v3 < (a0.Clauses.length : Int))) with hb4 | hb4
        · replace hM := ifT hM hb4
          refine w_condT (e := (decide (v3 < (a0.Clauses.length : Int)))) rfl hb4 ?_
          refine r_skip ?_
          refine w_next [(2, .ptr (g + 0) 0), (3, .ptr (g + 1) 0), (5, .v (.int .i64 v3))] (.cons (.refl _) (.cons (.refl _) (.cons (.refl _) .nil))) ?_
          refine r_seq ?_
          refine r_block ?_
          refine r_seq ?_
          have hS0 := hS
          refine r_draw (n := 11) rfl (by kernel_rfl) ?_
          refine o_fieldP (by decide) ty_fo24_0 rfl ?_
          refine o_load (v := .sl .no 4 (a0.Clauses.map Clause.cells)) 1 hS (by decide) rfl rfl (.st hS0 1 rfl (by omega)) (part_one ty_agg22 ty_sc22 rfl) ?_
          refine o_move (v := .v (.int .i64 v3)) (by decide) rfl ?_
          obtain ⟨x5, hx5, hM⟩ := bindE hM
          refine o_index (xs := a0.Clauses) (f := Clause.cells) (z := v3) (u := x5) (by decide) rfl rfl ty_es22 hx5 ?_
          refine o_loadE (v := .agg [.v (.int .i64 x5.Kind), .v (.int .i64 x5.Cents), .v (.int .i64 x5.Part), .v (.int .i64 x5.More)]) (by decide) rfl (part_agg ty_agg39 (Nat.le_of_ble_eq_true rfl) rfl) ?_
          refine o_fieldP (by decide) ty_fo24_0 rfl ?_
          refine o_load (v := .sl .no 4 (a1.Clauses.map Clause.cells)) 0 hS (by decide) rfl rfl (.st hS0 0 rfl (by omega)) (part_one ty_agg22 ty_sc22 rfl) ?_
          refine o_move (v := .v (.int .i64 v3)) (by decide) rfl ?_
          obtain ⟨x6, hx6, hM⟩ := bindE hM
          refine o_index (xs := a1.Clauses) (f := Clause.cells) (z := v3) (u := x6) (by decide) rfl rfl ty_es22 hx6 ?_
          refine o_loadE (v := .agg [.v (.int .i64 x6.Kind), .v (.int .i64 x6.Cents), .v (.int .i64 x6.Part), .v (.int .i64 x6.More)]) (by decide) rfl (part_agg ty_agg39 (Nat.le_of_ble_eq_true rfl) rfl) ?_
          refine o_neS (cs := [.v (.int .i64 x5.Kind), .v (.int .i64 x5.Cents), .v (.int .i64 x5.Part), .v (.int .i64 x5.More)]) (ds := [.v (.int .i64 x6.Kind), .v (.int .i64 x6.Cents), .v (.int .i64 x6.Part), .v (.int .i64 x6.More)]) (e := ((x5.Kind == x6.Kind) && ((x5.Cents == x6.Cents) && ((x5.Part == x6.Part) && ((x5.More == x6.More) && true))))) (by decide) rfl rfl ty_flat39 rfl ?_
          refine run_nil ?_
          refine w_next [(2, .ptr (g + 0) 0), (3, .ptr (g + 1) 0), (5, .v (.int .i64 v3)), (37, .v (.bool (!((x5.Kind == x6.Kind) && ((x5.Cents == x6.Cents) && ((x5.Part == x6.Part) && ((x5.More == x6.More) && true)))))))] (.cons (.refl _) (.cons (.refl _) (.cons (.refl _) (.cons (.refl _) .nil)))) ?_
          rcases Bool.eq_false_or_eq_true (!((x5.Kind == x6.Kind) && ((x5.Cents == x6.Cents) && ((x5.Part == x6.Part) && ((x5.More == x6.More) && true))))) with hb7 | hb7
          · replace hM := ifT hM hb7
            refine w_condT (e := (!((x5.Kind == x6.Kind) && ((x5.Cents == x6.Cents) && ((x5.Part == x6.Part) && ((x5.More == x6.More) && true)))))) rfl hb7 ?_
            refine r_seq ?_
            refine r_region (n := 1) rfl ?_
            refine o_assign (v := .v (.bool false)) (by decide) rfl ?_
            refine run_nil ?_
            replace hS := hS.keep (L' := []) [false, false] rfl
            refine w_next [(4, .v (.bool false))] (.cons (.refl _) .nil) ?_
            refine r_ret ?_
            refine r_blk_ret ?_
            refine r_then_ret ?_
            refine w_round_ret ?_
            refine r_blk_ret ?_
            refine w_goto_ret ?_
            refine w_end (x := .v (.bool false)) (f := fun r => .v (.bool r)) (.inr rfl) ?_ (.refl _) (Option.some.inj hM) hS
            exact (res_one (res_tmp (x := .v (.bool false)) rfl))
          · replace hM := ifF hM hb7
            refine w_condF (e := (!((x5.Kind == x6.Kind) && ((x5.Cents == x6.Cents) && ((x5.Part == x6.Part) && ((x5.More == x6.More) && true)))))) rfl hb7 ?_
            refine r_skip ?_
            refine r_blk_normal ?_
            refine w_next [(2, .ptr (g + 0) 0), (3, .ptr (g + 1) 0), (5, .v (.int .i64 v3))] (.cons (.refl _) (.cons (.refl _) (.cons (.refl _) .nil))) ?_
            refine r_region (n := 3) rfl ?_
            refine o_move (v := .v (.int .i64 v3)) (by decide) rfl ?_
            refine o_int (v := .v (.int .i64 (w64 (v3 + 1)))) (by decide) rfl rfl rfl ?_
            refine o_assign (v := .v (.int .i64 (w64 (v3 + 1)))) (by decide) rfl ?_
            refine run_nil ?_
            exact w_round (w64 (v3 + 1)) (Nat.lt_succ_self _) (.cons (.refl _) (.cons (.refl _) (.cons (.refl _) .nil))) ⟨(hS.keep [true, true] rfl).up (by omega), hM⟩
        · replace hM := ifF hM hb4
          refine w_condF (e := (decide (v3 < (a0.Clauses.length : Int)))) rfl hb4 ?_
          refine r_exit ?_
          refine r_then_exit ?_
          refine w_round_exit ?_
          refine r_blk_exit ?_
          exact w_goto () .nil ⟨(hS.keep [false, false] rfl).up (by omega), hM⟩
  · refine r_region (n := 14) rfl ?_
    refine o_fieldP (by decide) ty_fo24_1 rfl ?_
    refine o_load (v := .v (.int .i64 a0.Loan)) 1 hS (by decide) rfl rfl .no (part_one ty_agg3 ty_sc3 rfl) ?_
    refine o_fieldP (by decide) ty_fo24_1 rfl ?_
    refine o_load (v := .v (.int .i64 a1.Loan)) 0 hS (by decide) rfl rfl .no (part_one ty_agg3 ty_sc3 rfl) ?_
    refine o_int (v := .v (.bool (a0.Loan != a1.Loan))) (by decide) rfl rfl rfl ?_
    refine o_move (v := .v (.bool (a0.Loan != a1.Loan))) (by decide) rfl ?_
    rcases Bool.eq_false_or_eq_true (a0.Loan != a1.Loan) with hb8 | hb8
    · replace hM := ifT hM hb8
      refine o_guardN (j := 5) (e := (a0.Loan != a1.Loan)) (want := false) (by decide) rfl hb8 ?_
      refine o_guardN (j := 5) (e := (a0.Loan != a1.Loan)) (want := false) (by decide) rfl hb8 ?_
      refine o_guardN (j := 5) (e := (a0.Loan != a1.Loan)) (want := false) (by decide) rfl hb8 ?_
      refine o_guardN (j := 5) (e := (a0.Loan != a1.Loan)) (want := false) (by decide) rfl hb8 ?_
      refine o_guardN (j := 5) (e := (a0.Loan != a1.Loan)) (want := false) (by decide) rfl hb8 ?_
      refine o_guardN (j := 5) (e := (a0.Loan != a1.Loan)) (want := false) (by decide) rfl hb8 ?_
      refine o_guardN (j := 5) (e := (a0.Loan != a1.Loan)) (want := false) (by decide) rfl hb8 ?_
      refine o_pickT (v := .v (.bool true)) (e := (a0.Loan != a1.Loan)) (by decide) rfl hb8 rfl ?_
      refine run_nil ?_
      exact w_goto true (.cons (.refl _) (.cons (.refl _) (.cons (.refl _) .nil))) ⟨(hS.keep [true, true] rfl).up (by omega), hM⟩
    · replace hM := ifF hM hb8
      refine o_guardY (j := 5) (e := (a0.Loan != a1.Loan)) (want := false) rfl hb8 ?_
      refine o_fieldP (by decide) ty_fo24_0 rfl ?_
      refine o_guardY (j := 5) (e := (a0.Loan != a1.Loan)) (want := false) rfl hb8 ?_
      refine o_load (v := .sl .no 4 (a0.Clauses.map Clause.cells)) 1 hS (by decide) rfl rfl .no (part_one ty_agg22 ty_sc22 rfl) ?_
      refine o_guardY (j := 5) (e := (a0.Loan != a1.Loan)) (want := false) rfl hb8 ?_
      refine o_len (n := a0.Clauses.length) (by decide) rfl (List.length_map _) ty_isl22 ?_
      refine o_guardY (j := 5) (e := (a0.Loan != a1.Loan)) (want := false) rfl hb8 ?_
      refine o_fieldP (by decide) ty_fo24_0 rfl ?_
      refine o_guardY (j := 5) (e := (a0.Loan != a1.Loan)) (want := false) rfl hb8 ?_
      refine o_load (v := .sl .no 4 (a1.Clauses.map Clause.cells)) 0 hS (by decide) rfl rfl .no (part_one ty_agg22 ty_sc22 rfl) ?_
      refine o_guardY (j := 5) (e := (a0.Loan != a1.Loan)) (want := false) rfl hb8 ?_
      refine o_len (n := a1.Clauses.length) (by decide) rfl (List.length_map _) ty_isl22 ?_
      refine o_guardY (j := 5) (e := (a0.Loan != a1.Loan)) (want := false) rfl hb8 ?_
      refine o_int (v := .v (.bool ((a0.Clauses.length : Int) != (a1.Clauses.length : Int)))) (by decide) rfl rfl rfl ?_
      refine o_pickF (v := .v (.bool ((a0.Clauses.length : Int) != (a1.Clauses.length : Int)))) (e := (a0.Loan != a1.Loan)) (by decide) rfl hb8 rfl ?_
      refine run_nil ?_
      exact w_goto ((a0.Clauses.length : Int) != (a1.Clauses.length : Int)) (.cons (.refl _) (.cons (.refl _) (.cons (.refl _) .nil))) ⟨(hS.keep [true, true] rfl).up (by omega), hM⟩
theorem W_shares_isClause {a0 : Share} {a1 : Int} {r : Bool} (hM : shares_isClause a0 a1 = some r) : PureSat Try.prog 59 [.agg [.sl .no 4 (a0.Clauses.map Clause.cells), .v (.int .i64 a0.Loan)], .v (.int .i64 a1)] (.v (.bool r)) := by
  refine pure_of_wp mixed Try.func59 rfl (by decide) Try.ntmps59 (by simp) ?pure fun H0 g hf => ?_
  case pure => exact .v _
  rw [frame0_of]
  change wpA _ _ _ _ (Fr.of [(0, .agg [.sl .no 4 (a0.Clauses.map Clause.cells), .v (.int .i64 a0.Loan)]), (1, .v (.int .i64 a1))]) H0 g
  have hS := St.start hf
  refine r_seq ?_
  refine r_region (n := 2) rfl ?_
  refine o_box (v := .agg [.sl .no 4 (a0.Clauses.map Clause.cells), .v (.int .i64 a0.Loan)]) (cs := [.sl .no 4 (a0.Clauses.map Clause.cells), .v (.int .i64 a0.Loan)]) hS (by decide) rfl rfl (by omega) fun H hS => ?_
  refine o_assign (v := .v (.bool false)) (by decide) rfl ?_
  refine run_nil ?_
  refine w_next [(1, .v (.int .i64 a1)), (2, .ptr (g + 0) 0)] (.cons (.refl _) (.cons (.refl _) .nil)) ?_
  refine r_seq ?_
  refine r_region (n := 7) rfl ?_
  refine o_move (v := .v (.int .i64 a1)) (by decide) rfl ?_
  refine o_fieldP (by decide) ty_fo24_0 rfl ?_
  refine o_load (v := .sl .no 4 (a0.Clauses.map Clause.cells)) 0 hS (by decide) rfl rfl .no (part_one ty_agg22 ty_sc22 rfl) ?_
  refine o_len (n := a0.Clauses.length) (by decide) rfl (List.length_map _) ty_isl22 ?_
  refine o_int (v := .v (.int .i64 (w64 ((a0.Clauses.length : Int) - 1)))) (by decide) rfl rfl rfl ?_
  obtain ⟨r1, hr1, hM⟩ := bindE hM
  refine o_call (bs := [.v (.int .i64 a1), .v (.int .i64 0), .v (.int .i64 (w64 ((a0.Clauses.length : Int) - 1)))]) (by decide) rfl rfl ((W_shares_within hr1).le (.cons (.refl _) (.cons (.refl _) (.cons (.refl _) .nil)))) ?_
  refine o_assign (v := .v (.bool r1)) (by decide) rfl ?_
  refine run_nil ?_
  replace hS := hS.keep (L' := []) [false] rfl
  refine w_next [(4, .v (.bool r1))] (.cons (.refl _) .nil) ?_
  refine r_ret ?_
  refine w_end (x := .v (.bool r1)) (f := fun r => .v (.bool r)) (.inr rfl) ?_ (.refl _) (Option.some.inj hM) hS
  exact (res_one (res_tmp (x := .v (.bool r1)) rfl))
theorem W_shares_Gives {n : Nat} {a0 : Share} {a1 : Int} {a2 : Int} {r : Int × Int} (hM : shares_Gives n a0 a1 a2 = some r) : PureSat Try.prog 30 [.agg [.sl .no 4 (a0.Clauses.map Clause.cells), .v (.int .i64 a0.Loan)], .v (.int .i64 a1), .v (.int .i64 a2)] (.tup [.v (.int .i64 r.1), .v (.int .i64 r.2)]) := by
  refine pure_of_wp mixed Try.func30 rfl (by decide) Try.ntmps30 (by simp) ?pure fun H0 g hf => ?_
  case pure => exact .tup _ (pl_cons (.v _) (pl_cons (.v _) pl_nil))
  rw [frame0_of]
  change wpA _ _ _ _ (Fr.of [(0, .agg [.sl .no 4 (a0.Clauses.map Clause.cells), .v (.int .i64 a0.Loan)]), (1, .v (.int .i64 a1)), (2, .v (.int .i64 a2))]) H0 g
  have hS := St.start hf
  refine r_seq ?_
  refine r_region (n := 3) rfl ?_
  refine o_box (v := .agg [.sl .no 4 (a0.Clauses.map Clause.cells), .v (.int .i64 a0.Loan)]) (cs := [.sl .no 4 (a0.Clauses.map Clause.cells), .v (.int .i64 a0.Loan)]) hS (by decide) rfl rfl (by omega) fun H hS => ?_
  refine o_assign (v := .v (.int .i64 0)) (by decide) rfl ?_
  refine o_assign (v := .v (.int .i64 0)) (by decide) rfl ?_
  refine run_nil ?_
  refine w_next [(1, .v (.int .i64 a1)), (2, .v (.int .i64 a2)), (3, .ptr (g + 0) 0)] (.cons (.refl _) (.cons (.refl _) (.cons (.refl _) .nil))) ?_
  refine r_seq ?_
  refine w_join (J := Int) (fun j => [(1, .v (.int .i64 a1)), (2, .v (.int .i64 a2)), (3, .ptr (g + 0) 0), (8, .v (.int .i64 j))]) (fun j H' g' => St (· < g) H0 [(g + 0, .cells [.sl .no 4 (a0.Clauses.map Clause.cells), .v (.int .i64 a0.Loan)])] H' g' ∧ shares_Gives_j1 n a0 a1 a2 j = some r) ?_ ?_
  · rintro v1 H g1 ⟨hS, hM⟩
    change wpA _ _ _ _ (Fr.of [(1, .v (.int .i64 a1)), (2, .v (.int .i64 a2)), (3, .ptr (g + 0) 0), (8, .v (.int .i64 v1))]) _ _
    replace hS : St (· < g) H0 [(g + 0, .cells [.sl .no 4 (a0.Clauses.map Clause.cells), .v (.int .i64 a0.Loan)])] H g1 := hS
    replace hM : shares_Gives_j1 n a0 a1 a2 v1 = some r := hM
    refine r_seq ?_
    refine r_region (n := 2) rfl ?_
    refine o_move (v := .v (.int .i64 v1)) (by decide) rfl ?_
    refine o_int (v := .v (.bool (v1 != 0))) (by decide) rfl rfl rfl ?_
    refine run_nil ?_
    refine w_next [(1, .v (.int .i64 a1)), (2, .v (.int .i64 a2)), (3, .ptr (g + 0) 0), (8, .v (.int .i64 v1)), (21, .v (.bool (v1 != 0)))] (.cons (.refl _) (.cons (.refl _) (.cons (.refl _) (.cons (.refl _) (.cons (.refl _) .nil))))) ?_
    rcases Bool.eq_false_or_eq_true (v1 != 0) with hb2 | hb2
    · replace hM := ifT hM hb2
      refine w_condT (e := (v1 != 0)) rfl hb2 ?_
      refine r_seq ?_
      refine r_region (n := 3) rfl ?_
      refine o_move (v := .v (.int .i64 v1)) (by decide) rfl ?_
      refine o_assign (v := .v (.int .i64 0)) (by decide) rfl ?_
      refine o_assign (v := .v (.int .i64 v1)) (by decide) rfl ?_
      refine run_nil ?_
      replace hS := hS.keep (L' := []) [false] rfl
      refine w_next [(6, .v (.int .i64 0)), (7, .v (.int .i64 v1))] (.cons (.refl _) (.cons (.refl _) .nil)) ?_
      refine r_ret ?_
      refine r_then_ret ?_
      refine w_end (x := .tup [.v (.int .i64 0), .v (.int .i64 v1)]) (f := fun r => .tup [.v (.int .i64 r.1), .v (.int .i64 r.2)]) (.inr rfl) ?_ (.refl _) (Option.some.inj hM) hS
      exact (res_two (res_tmp (x := .v (.int .i64 0)) rfl) (res_tmp (x := .v (.int .i64 v1)) rfl))
    · replace hM := ifF hM hb2
      refine w_condF (e := (v1 != 0)) rfl hb2 ?_
      refine r_skip ?_
      refine w_next [(1, .v (.int .i64 a1)), (2, .v (.int .i64 a2)), (3, .ptr (g + 0) 0)] (.cons (.refl _) (.cons (.refl _) (.cons (.refl _) .nil))) ?_
      refine r_seq ?_
      refine r_region (n := 12) rfl ?_
      refine o_fieldP (by decide) ty_fo24_0 rfl ?_
      refine o_load (v := .sl .no 4 (a0.Clauses.map Clause.cells)) 0 hS (by decide) rfl rfl .no (part_one ty_agg22 ty_sc22 rfl) ?_
      refine o_fieldP (by decide) ty_fo24_1 rfl ?_
      refine o_load (v := .v (.int .i64 a0.Loan)) 0 hS (by decide) rfl rfl .no (part_one ty_agg3 ty_sc3 rfl) ?_
      refine o_move (v := .v (.int .i64 a1)) (by decide) rfl ?_
      obtain ⟨r3, hr3, hM⟩ := bindE hM
      refine o_call (bs := [.sl .no 4 (a0.Clauses.map Clause.cells), .v (.int .i64 a0.Loan), .v (.int .i64 a1), .v (.int .i64 0)]) (by decide) rfl rfl ((W_shares_settle hr3).le (.cons (.refl _) (.cons (.refl _) (.cons (.refl _) (.cons (.refl _) .nil))))) ?_
      refine o_move (v := .tup [.agg [.v (.int .i64 r3.1.Split.Operator), .v (.int .i64 r3.1.Split.Owner), .v (.int .i64 r3.1.Split.Repaid), .v (.int .i64 r3.1.rest), .v (.int .i64 r3.1.owed)], .sl .no 1 (r3.2.map cI)]) (by decide) rfl ?_
      refine o_extract (v := .agg [.v (.int .i64 r3.1.Split.Operator), .v (.int .i64 r3.1.Split.Owner), .v (.int .i64 r3.1.Split.Repaid), .v (.int .i64 r3.1.rest), .v (.int .i64 r3.1.owed)]) (by decide) rfl rfl ?_
      refine o_extract (v := .sl .no 1 (r3.2.map cI)) (by decide) rfl rfl ?_
      refine o_alloc hS (by decide) ty_zero76 (by omega) fun H hS => ?_
      refine o_store (v := .agg [.v (.int .i64 r3.1.Split.Operator), .v (.int .i64 r3.1.Split.Owner), .v (.int .i64 r3.1.Split.Repaid), .v (.int .i64 r3.1.rest), .v (.int .i64 r3.1.owed)]) (ns := [.v (.int .i64 r3.1.Split.Operator), .v (.int .i64 r3.1.Split.Owner), .v (.int .i64 r3.1.Split.Repaid), .v (.int .i64 r3.1.rest), .v (.int .i64 r3.1.owed)]) (L' := [(g1 + 2 + 9, .cells [.v (.int .i64 r3.1.Split.Operator), .v (.int .i64 r3.1.Split.Owner), .v (.int .i64 r3.1.Split.Repaid), .v (.int .i64 r3.1.rest), .v (.int .i64 r3.1.owed)]), (g + 0, .cells [.sl .no 4 (a0.Clauses.map Clause.cells), .v (.int .i64 a0.Loan)])]) 0 hS rfl rfl .no rfl rfl ty_var76 (Nat.le_of_ble_eq_true rfl) rfl fun H hS => ?_
      refine o_assign (v := .sl .no 1 (r3.2.map cI)) (by decide) rfl ?_
      refine run_nil ?_
      replace hS := hS.keep (L' := []) [false, false] rfl
      refine w_next [(2, .v (.int .i64 a2)), (10, .sl .no 1 (r3.2.map cI))] (.cons (.refl _) (.cons (.refl _) .nil)) ?_
      refine r_seq ?_
      refine r_region (n := 6) rfl ?_
      refine o_move (v := .sl .no 1 (r3.2.map cI)) (by decide) rfl ?_
      refine o_move (v := .v (.int .i64 a2)) (by decide) rfl ?_
      obtain ⟨x4, hx4, hM⟩ := bindE hM
      refine o_index (xs := r3.2) (f := cI) (z := a2) (u := x4) (by decide) rfl rfl ty_es28 hx4 ?_
      refine o_loadE (v := .v (.int .i64 x4)) (by decide) rfl (part_one ty_agg3 ty_sc3 rfl) ?_
      refine o_assign (v := .v (.int .i64 x4)) (by decide) rfl ?_
      refine o_assign (v := .v (.int .i64 0)) (by decide) rfl ?_
      refine run_nil ?_
      refine w_next [(6, .v (.int .i64 x4)), (7, .v (.int .i64 0))] (.cons (.refl _) (.cons (.refl _) .nil)) ?_
      refine r_ret ?_
      refine w_end (x := .tup [.v (.int .i64 x4), .v (.int .i64 0)]) (f := fun r => .tup [.v (.int .i64 r.1), .v (.int .i64 r.2)]) (.inr rfl) ?_ (.refl _) (Option.some.inj hM) hS
      exact (res_two (res_tmp (x := .v (.int .i64 x4)) rfl) (res_tmp (x := .v (.int .i64 0)) rfl))
  · have hS0 := hS
    refine r_draw (n := 10) rfl (by kernel_rfl) ?_
    refine o_load (v := .agg [.sl .no 4 (a0.Clauses.map Clause.cells), .v (.int .i64 a0.Loan)]) 0 hS (by decide) rfl rfl (.st hS0 0 rfl (by omega)) (part_agg ty_agg24 (Nat.le_of_ble_eq_true rfl) rfl) ?_
    refine o_move (v := .v (.int .i64 a1)) (by decide) rfl ?_
    obtain ⟨r5, hr5, hM⟩ := bindE hM
    refine o_call (bs := [.v (.int .i64 a1)]) (by decide) rfl rfl ((W_shares_isCents hr5).le (.cons (.refl _) .nil)) ?_
    refine o_move (v := .v (.bool r5)) (by decide) rfl ?_
    rcases Bool.eq_false_or_eq_true r5 with hb6 | hb6
    · replace hM := ifT hM hb6
      refine o_guardY (j := 3) (e := r5) (want := true) rfl hb6 ?_
      refine o_load (v := .agg [.sl .no 4 (a0.Clauses.map Clause.cells), .v (.int .i64 a0.Loan)]) 0 hS (by decide) rfl rfl (.st hS0 0 rfl (by omega)) (part_agg ty_agg24 (Nat.le_of_ble_eq_true rfl) rfl) ?_
      refine o_guardY (j := 3) (e := r5) (want := true) rfl hb6 ?_
      refine o_move (v := .v (.int .i64 a2)) (by decide) rfl ?_
      refine o_guardY (j := 3) (e := r5) (want := true) rfl hb6 ?_
      obtain ⟨r7, hr7, hM⟩ := bindE hM
      refine o_call (bs := [.agg [.sl .no 4 (a0.Clauses.map Clause.cells), .v (.int .i64 a0.Loan)], .v (.int .i64 a2)]) (by decide) rfl rfl ((W_shares_isClause hr7).le (.cons (.refl _) (.cons (.refl _) .nil))) ?_
      refine o_pickT (v := .v (.bool r7)) (e := r5) (by decide) rfl hb6 rfl ?_
      obtain ⟨r8, hr8, hM⟩ := bindE hM
      refine o_call (bs := [.agg [.sl .no 4 (a0.Clauses.map Clause.cells), .v (.int .i64 a0.Loan)], .v (.bool r7)]) (by decide) rfl rfl ((W_shares_ask hr8).le (.cons (.refl _) (.cons (.refl _) .nil))) ?_
      refine o_assign (v := .v (.int .i64 r8)) (by decide) rfl ?_
      refine run_nil ?_
      exact w_goto r8 (.cons (.refl _) (.cons (.refl _) (.cons (.refl _) (.cons (.refl _) .nil)))) ⟨(hS.keep [true] rfl).up (by omega), hM⟩
    · replace hM := ifF hM hb6
      refine o_guardN (j := 3) (e := r5) (want := true) (by decide) rfl hb6 ?_
      refine o_guardN (j := 3) (e := r5) (want := true) (by decide) rfl hb6 ?_
      refine o_guardN (j := 3) (e := r5) (want := true) (by decide) rfl hb6 ?_
      refine o_pickF (v := .v (.bool false)) (e := r5) (by decide) rfl hb6 rfl ?_
      obtain ⟨r9, hr9, hM⟩ := bindE hM
      refine o_call (bs := [.agg [.sl .no 4 (a0.Clauses.map Clause.cells), .v (.int .i64 a0.Loan)], .v (.bool false)]) (by decide) rfl rfl ((W_shares_ask hr9).le (.cons (.refl _) (.cons (.refl _) .nil))) ?_
      refine o_assign (v := .v (.int .i64 r9)) (by decide) rfl ?_
      refine run_nil ?_
      exact w_goto r9 (.cons (.refl _) (.cons (.refl _) (.cons (.refl _) (.cons (.refl _) .nil)))) ⟨(hS.keep [true] rfl).up (by omega), hM⟩
theorem W_ref09_Week {n : Nat} {a0 : Share} {a1 : Int} {r : Split × Int} (hM : ref09_Week n a0 a1 = some r) : PureSat Try.prog 40 [.agg [.sl .no 4 (a0.Clauses.map Clause.cells), .v (.int .i64 a0.Loan)], .v (.int .i64 a1)] (.tup [.agg [.v (.int .i64 r.1.Operator), .v (.int .i64 r.1.Owner), .v (.int .i64 r.1.Repaid)], .v (.int .i64 r.2)]) := by
  refine pure_of_wp mixed Try.func40 rfl (by decide) Try.ntmps40 (by simp) ?pure fun H0 g hf => ?_
  case pure => exact .tup _ (pl_cons (.agg _ (pl_cons (.v _) (pl_cons (.v _) (pl_cons (.v _) pl_nil)))) (pl_cons (.v _) pl_nil))
  rw [frame0_of]
  change wpA _ _ _ _ (Fr.of [(0, .agg [.sl .no 4 (a0.Clauses.map Clause.cells), .v (.int .i64 a0.Loan)]), (1, .v (.int .i64 a1))]) H0 g
  have hS := St.start hf
  refine r_seq ?_
  refine r_region (n := 3) rfl ?_
  refine o_box (v := .agg [.sl .no 4 (a0.Clauses.map Clause.cells), .v (.int .i64 a0.Loan)]) (cs := [.sl .no 4 (a0.Clauses.map Clause.cells), .v (.int .i64 a0.Loan)]) hS (by decide) rfl rfl (by omega) fun H hS => ?_
  refine o_alloc hS (by decide) ty_zero41 (by omega) fun H hS => ?_
  refine o_assign (v := .v (.int .i64 0)) (by decide) rfl ?_
  refine run_nil ?_
  refine w_next [(1, .v (.int .i64 a1)), (2, .ptr (g + 0) 0), (4, .ptr (g + 1) 0)] (.cons (.refl _) (.cons (.refl _) (.cons (.refl _) .nil))) ?_
  refine r_seq ?_
  refine r_seq ?_
  have hS0 := hS
  refine r_draw (n := 5) rfl (by kernel_rfl) ?_
  refine o_load (v := .agg [.sl .no 4 (a0.Clauses.map Clause.cells), .v (.int .i64 a0.Loan)]) 1 hS (by decide) rfl rfl (.st hS0 1 rfl (by omega)) (part_agg ty_agg24 (Nat.le_of_ble_eq_true rfl) rfl) ?_
  refine o_move (v := .v (.int .i64 a1)) (by decide) rfl ?_
  obtain ⟨r1, hr1, hM⟩ := bindE hM
  refine o_call (bs := [.v (.int .i64 a1)]) (by decide) rfl rfl ((W_ref09_IsCents hr1).le (.cons (.refl _) .nil)) ?_
  obtain ⟨r2, hr2, hM⟩ := bindE hM
  refine o_call (bs := [.agg [.sl .no 4 (a0.Clauses.map Clause.cells), .v (.int .i64 a0.Loan)], .v (.bool r1)]) (by decide) rfl rfl ((W_ref09_ask hr2).le (.cons (.refl _) (.cons (.refl _) .nil))) ?_
  refine o_assign (v := .v (.int .i64 r2)) (by decide) rfl ?_
  refine run_nil ?_
  refine w_next [(1, .v (.int .i64 a1)), (2, .ptr (g + 0) 0), (4, .ptr (g + 1) 0), (6, .v (.int .i64 r2))] (.cons (.refl _) (.cons (.refl _) (.cons (.refl _) (.cons (.refl _) .nil)))) ?_
  refine r_seq ?_
  refine r_region (n := 2) rfl ?_
  refine o_move (v := .v (.int .i64 r2)) (by decide) rfl ?_
  refine o_int (v := .v (.bool (r2 != 0))) (by decide) rfl rfl rfl ?_
  refine run_nil ?_
  refine w_next [(1, .v (.int .i64 a1)), (2, .ptr (g + 0) 0), (4, .ptr (g + 1) 0), (6, .v (.int .i64 r2)), (14, .v (.bool (r2 != 0)))] (.cons (.refl _) (.cons (.refl _) (.cons (.refl _) (.cons (.refl _) (.cons (.refl _) .nil))))) ?_
  rcases Bool.eq_false_or_eq_true (r2 != 0) with hb3 | hb3
  · replace hM := ifT hM hb3
    refine w_condT (e := (r2 != 0)) rfl hb3 ?_
    refine r_seq ?_
    refine r_region (n := 4) rfl ?_
    refine o_build (cs := [.v (.int .i64 0), .v (.int .i64 0), .v (.int .i64 0)]) (by decide) ty_zero41 ty_pl41 rfl ?_
    refine o_move (v := .v (.int .i64 r2)) (by decide) rfl ?_
    refine o_store (v := .agg [.v (.int .i64 0), .v (.int .i64 0), .v (.int .i64 0)]) (ns := [.v (.int .i64 0), .v (.int .i64 0), .v (.int .i64 0)]) (L' := [(g + 1, .cells [.v (.int .i64 0), .v (.int .i64 0), .v (.int .i64 0)]), (g + 0, .cells [.sl .no 4 (a0.Clauses.map Clause.cells), .v (.int .i64 a0.Loan)])]) 0 hS rfl rfl .no rfl rfl ty_var41 (Nat.le_of_ble_eq_true rfl) rfl fun H hS => ?_
    refine o_assign (v := .v (.int .i64 r2)) (by decide) rfl ?_
    refine run_nil ?_
    replace hS := hS.keep (L' := [(g + 1, .cells [.v (.int .i64 0), .v (.int .i64 0), .v (.int .i64 0)])]) [true, false] rfl
    refine w_next [(4, .ptr (g + 1) 0), (5, .v (.int .i64 r2))] (.cons (.refl _) (.cons (.refl _) .nil)) ?_
    refine r_ret ?_
    refine r_then_ret ?_
    refine w_end (x := .tup [.agg [.v (.int .i64 0), .v (.int .i64 0), .v (.int .i64 0)], .v (.int .i64 r2)]) (f := fun r => .tup [.agg [.v (.int .i64 r.1.Operator), .v (.int .i64 r.1.Owner), .v (.int .i64 r.1.Repaid)], .v (.int .i64 r.2)]) (.inr rfl) ?_ (.refl _) (Option.some.inj hM) hS
    exact (res_two (res_cell (x := .agg [.v (.int .i64 0), .v (.int .i64 0), .v (.int .i64 0)]) 0 hS rfl rfl (part_agg ty_agg41 (Nat.le_of_ble_eq_true rfl) rfl)) (res_tmp (x := .v (.int .i64 r2)) rfl))
  · replace hM := ifF hM hb3
    refine w_condF (e := (r2 != 0)) rfl hb3 ?_
    refine r_skip ?_
    refine w_next [(1, .v (.int .i64 a1)), (2, .ptr (g + 0) 0), (4, .ptr (g + 1) 0)] (.cons (.refl _) (.cons (.refl _) (.cons (.refl _) .nil))) ?_
    refine r_seq ?_
    refine r_region (n := 9) rfl ?_
    refine o_load (v := .agg [.sl .no 4 (a0.Clauses.map Clause.cells), .v (.int .i64 a0.Loan)]) 1 hS (by decide) rfl rfl .no (part_agg ty_agg24 (Nat.le_of_ble_eq_true rfl) rfl) ?_
    refine o_move (v := .v (.int .i64 a1)) (by decide) rfl ?_
    obtain ⟨r4, hr4, hM⟩ := bindE hM
    refine o_call (bs := [.agg [.sl .no 4 (a0.Clauses.map Clause.cells), .v (.int .i64 a0.Loan)], .v (.int .i64 a1), .v (.int .i64 0)]) (by decide) rfl rfl ((W_ref09_Gone hr4).le (.cons (.refl _) (.cons (.refl _) (.cons (.refl _) .nil)))) ?_
    refine o_move (v := .tup [.sl .no 1 (r4.1.map cI), .agg [.v (.int .i64 r4.2.Operator), .v (.int .i64 r4.2.Owner), .v (.int .i64 r4.2.Repaid)]]) (by decide) rfl ?_
    refine o_extract (v := .sl .no 1 (r4.1.map cI)) (by decide) rfl rfl ?_
    refine o_extract (v := .agg [.v (.int .i64 r4.2.Operator), .v (.int .i64 r4.2.Owner), .v (.int .i64 r4.2.Repaid)]) (by decide) rfl rfl ?_
    refine o_alloc hS (by decide) ty_zero41 (by omega) fun H hS => ?_
    refine o_assign (v := .sl .no 1 (r4.1.map cI)) (by decide) rfl ?_
    refine o_store (v := .agg [.v (.int .i64 r4.2.Operator), .v (.int .i64 r4.2.Owner), .v (.int .i64 r4.2.Repaid)]) (ns := [.v (.int .i64 r4.2.Operator), .v (.int .i64 r4.2.Owner), .v (.int .i64 r4.2.Repaid)]) (L' := [(g + 3 + 5 + 2 + 6, .cells [.v (.int .i64 r4.2.Operator), .v (.int .i64 r4.2.Owner), .v (.int .i64 r4.2.Repaid)]), (g + 1, .cells [.v (.int .i64 0), .v (.int .i64 0), .v (.int .i64 0)]), (g + 0, .cells [.sl .no 4 (a0.Clauses.map Clause.cells), .v (.int .i64 a0.Loan)])]) 0 hS rfl rfl .no rfl rfl ty_var41 (Nat.le_of_ble_eq_true rfl) rfl fun H hS => ?_
    refine run_nil ?_
    replace hS := hS.keep (L' := [(g + 3 + 5 + 2 + 6, .cells [.v (.int .i64 r4.2.Operator), .v (.int .i64 r4.2.Owner), .v (.int .i64 r4.2.Repaid)]), (g + 1, .cells [.v (.int .i64 0), .v (.int .i64 0), .v (.int .i64 0)])]) [true, true, false] rfl
    refine w_next [(4, .ptr (g + 1) 0), (8, .ptr (g + 3 + 5 + 2 + 6) 0)] (.cons (.refl _) (.cons (.refl _) .nil)) ?_
    refine r_seq ?_
    refine r_region (n := 3) rfl ?_
    refine o_load (v := .agg [.v (.int .i64 r4.2.Operator), .v (.int .i64 r4.2.Owner), .v (.int .i64 r4.2.Repaid)]) 0 hS (by decide) rfl rfl .no (part_agg ty_agg41 (Nat.le_of_ble_eq_true rfl) rfl) ?_
    refine o_store (v := .agg [.v (.int .i64 r4.2.Operator), .v (.int .i64 r4.2.Owner), .v (.int .i64 r4.2.Repaid)]) (ns := [.v (.int .i64 r4.2.Operator), .v (.int .i64 r4.2.Owner), .v (.int .i64 r4.2.Repaid)]) (L' := [(g + 3 + 5 + 2 + 6, .cells [.v (.int .i64 r4.2.Operator), .v (.int .i64 r4.2.Owner), .v (.int .i64 r4.2.Repaid)]), (g + 1, .cells [.v (.int .i64 r4.2.Operator), .v (.int .i64 r4.2.Owner), .v (.int .i64 r4.2.Repaid)])]) 1 hS rfl rfl .no rfl rfl ty_var41 (Nat.le_of_ble_eq_true rfl) rfl fun H hS => ?_
    refine o_assign (v := .v (.int .i64 0)) (by decide) rfl ?_
    refine run_nil ?_
    replace hS := hS.keep (L' := [(g + 1, .cells [.v (.int .i64 r4.2.Operator), .v (.int .i64 r4.2.Owner), .v (.int .i64 r4.2.Repaid)])]) [false, true] rfl
    refine w_next [(4, .ptr (g + 1) 0), (5, .v (.int .i64 0))] (.cons (.refl _) (.cons (.refl _) .nil)) ?_
    refine r_ret ?_
    refine w_end (x := .tup [.agg [.v (.int .i64 r4.2.Operator), .v (.int .i64 r4.2.Owner), .v (.int .i64 r4.2.Repaid)], .v (.int .i64 0)]) (f := fun r => .tup [.agg [.v (.int .i64 r.1.Operator), .v (.int .i64 r.1.Owner), .v (.int .i64 r.1.Repaid)], .v (.int .i64 r.2)]) (.inr rfl) ?_ (.refl _) (Option.some.inj hM) hS
    exact (res_two (res_cell (x := .agg [.v (.int .i64 r4.2.Operator), .v (.int .i64 r4.2.Owner), .v (.int .i64 r4.2.Repaid)]) 0 hS rfl rfl (part_agg ty_agg41 (Nat.le_of_ble_eq_true rfl) rfl)) (res_tmp (x := .v (.int .i64 0)) rfl))
theorem W_ref09_Gift {n : Nat} {a0 : Share} {a1 : Int} {a2 : Int} {r : Split × Int} (hM : ref09_Gift n a0 a1 a2 = some r) : PureSat Try.prog 41 [.agg [.sl .no 4 (a0.Clauses.map Clause.cells), .v (.int .i64 a0.Loan)], .v (.int .i64 a1), .v (.int .i64 a2)] (.tup [.agg [.v (.int .i64 r.1.Operator), .v (.int .i64 r.1.Owner), .v (.int .i64 r.1.Repaid)], .v (.int .i64 r.2)]) := by
  refine pure_of_wp mixed Try.func41 rfl (by decide) Try.ntmps41 (by simp) ?pure fun H0 g hf => ?_
  case pure => exact .tup _ (pl_cons (.agg _ (pl_cons (.v _) (pl_cons (.v _) (pl_cons (.v _) pl_nil)))) (pl_cons (.v _) pl_nil))
  rw [frame0_of]
  change wpA _ _ _ _ (Fr.of [(0, .agg [.sl .no 4 (a0.Clauses.map Clause.cells), .v (.int .i64 a0.Loan)]), (1, .v (.int .i64 a1)), (2, .v (.int .i64 a2))]) H0 g
  have hS := St.start hf
  refine r_seq ?_
  refine r_region (n := 3) rfl ?_
  refine o_box (v := .agg [.sl .no 4 (a0.Clauses.map Clause.cells), .v (.int .i64 a0.Loan)]) (cs := [.sl .no 4 (a0.Clauses.map Clause.cells), .v (.int .i64 a0.Loan)]) hS (by decide) rfl rfl (by omega) fun H hS => ?_
  refine o_alloc hS (by decide) ty_zero41 (by omega) fun H hS => ?_
  refine o_assign (v := .v (.int .i64 0)) (by decide) rfl ?_
  refine run_nil ?_
  refine w_next [(1, .v (.int .i64 a1)), (2, .v (.int .i64 a2)), (3, .ptr (g + 0) 0), (6, .ptr (g + 1) 0)] (.cons (.refl _) (.cons (.refl _) (.cons (.refl _) (.cons (.refl _) .nil)))) ?_
  refine r_seq ?_
  refine w_join (J := Int) (fun j => [(1, .v (.int .i64 a1)), (2, .v (.int .i64 a2)), (3, .ptr (g + 0) 0), (6, .ptr (g + 1) 0), (8, .v (.int .i64 j))]) (fun j H' g' => St (· < g) H0 [(g + 1, .cells [.v (.int .i64 0), .v (.int .i64 0), .v (.int .i64 0)]), (g + 0, .cells [.sl .no 4 (a0.Clauses.map Clause.cells), .v (.int .i64 a0.Loan)])] H' g' ∧ ref09_Gift_j1 n a0 a1 a2 j = some r) ?_ ?_
  · rintro v1 H g1 ⟨hS, hM⟩
    change wpA _ _ _ _ (Fr.of [(1, .v (.int .i64 a1)), (2, .v (.int .i64 a2)), (3, .ptr (g + 0) 0), (6, .ptr (g + 1) 0), (8, .v (.int .i64 v1))]) _ _
    replace hS : St (· < g) H0 [(g + 1, .cells [.v (.int .i64 0), .v (.int .i64 0), .v (.int .i64 0)]), (g + 0, .cells [.sl .no 4 (a0.Clauses.map Clause.cells), .v (.int .i64 a0.Loan)])] H g1 := hS
    replace hM : ref09_Gift_j1 n a0 a1 a2 v1 = some r := hM
    refine r_seq ?_
    refine r_region (n := 2) rfl ?_
    refine o_move (v := .v (.int .i64 v1)) (by decide) rfl ?_
    refine o_int (v := .v (.bool (v1 != 0))) (by decide) rfl rfl rfl ?_
    refine run_nil ?_
    refine w_next [(1, .v (.int .i64 a1)), (2, .v (.int .i64 a2)), (3, .ptr (g + 0) 0), (6, .ptr (g + 1) 0), (8, .v (.int .i64 v1)), (20, .v (.bool (v1 != 0)))] (.cons (.refl _) (.cons (.refl _) (.cons (.refl _) (.cons (.refl _) (.cons (.refl _) (.cons (.refl _) .nil)))))) ?_
    rcases Bool.eq_false_or_eq_true (v1 != 0) with hb2 | hb2
    · replace hM := ifT hM hb2
      refine w_condT (e := (v1 != 0)) rfl hb2 ?_
      refine r_seq ?_
      refine r_region (n := 4) rfl ?_
      refine o_build (cs := [.v (.int .i64 0), .v (.int .i64 0), .v (.int .i64 0)]) (by decide) ty_zero41 ty_pl41 rfl ?_
      refine o_move (v := .v (.int .i64 v1)) (by decide) rfl ?_
      refine o_store (v := .agg [.v (.int .i64 0), .v (.int .i64 0), .v (.int .i64 0)]) (ns := [.v (.int .i64 0), .v (.int .i64 0), .v (.int .i64 0)]) (L' := [(g + 1, .cells [.v (.int .i64 0), .v (.int .i64 0), .v (.int .i64 0)]), (g + 0, .cells [.sl .no 4 (a0.Clauses.map Clause.cells), .v (.int .i64 a0.Loan)])]) 0 hS rfl rfl .no rfl rfl ty_var41 (Nat.le_of_ble_eq_true rfl) rfl fun H hS => ?_
      refine o_assign (v := .v (.int .i64 v1)) (by decide) rfl ?_
      refine run_nil ?_
      replace hS := hS.keep (L' := [(g + 1, .cells [.v (.int .i64 0), .v (.int .i64 0), .v (.int .i64 0)])]) [true, false] rfl
      refine w_next [(6, .ptr (g + 1) 0), (7, .v (.int .i64 v1))] (.cons (.refl _) (.cons (.refl _) .nil)) ?_
      refine r_ret ?_
      refine r_then_ret ?_
      refine w_end (x := .tup [.agg [.v (.int .i64 0), .v (.int .i64 0), .v (.int .i64 0)], .v (.int .i64 v1)]) (f := fun r => .tup [.agg [.v (.int .i64 r.1.Operator), .v (.int .i64 r.1.Owner), .v (.int .i64 r.1.Repaid)], .v (.int .i64 r.2)]) (.inr rfl) ?_ (.refl _) (Option.some.inj hM) hS
      exact (res_two (res_cell (x := .agg [.v (.int .i64 0), .v (.int .i64 0), .v (.int .i64 0)]) 0 hS rfl rfl (part_agg ty_agg41 (Nat.le_of_ble_eq_true rfl) rfl)) (res_tmp (x := .v (.int .i64 v1)) rfl))
    · replace hM := ifF hM hb2
      refine w_condF (e := (v1 != 0)) rfl hb2 ?_
      refine r_skip ?_
      refine w_next [(1, .v (.int .i64 a1)), (2, .v (.int .i64 a2)), (3, .ptr (g + 0) 0), (6, .ptr (g + 1) 0)] (.cons (.refl _) (.cons (.refl _) (.cons (.refl _) (.cons (.refl _) .nil)))) ?_
      refine r_seq ?_
      refine r_region (n := 10) rfl ?_
      refine o_load (v := .agg [.sl .no 4 (a0.Clauses.map Clause.cells), .v (.int .i64 a0.Loan)]) 1 hS (by decide) rfl rfl .no (part_agg ty_agg24 (Nat.le_of_ble_eq_true rfl) rfl) ?_
      refine o_move (v := .v (.int .i64 a1)) (by decide) rfl ?_
      refine o_move (v := .v (.int .i64 a2)) (by decide) rfl ?_
      obtain ⟨r3, hr3, hM⟩ := bindE hM
      refine o_call (bs := [.agg [.sl .no 4 (a0.Clauses.map Clause.cells), .v (.int .i64 a0.Loan)], .v (.int .i64 a1), .v (.int .i64 a2)]) (by decide) rfl rfl ((W_ref09_Gone hr3).le (.cons (.refl _) (.cons (.refl _) (.cons (.refl _) .nil)))) ?_
      refine o_move (v := .tup [.sl .no 1 (r3.1.map cI), .agg [.v (.int .i64 r3.2.Operator), .v (.int .i64 r3.2.Owner), .v (.int .i64 r3.2.Repaid)]]) (by decide) rfl ?_
      refine o_extract (v := .sl .no 1 (r3.1.map cI)) (by decide) rfl rfl ?_
      refine o_extract (v := .agg [.v (.int .i64 r3.2.Operator), .v (.int .i64 r3.2.Owner), .v (.int .i64 r3.2.Repaid)]) (by decide) rfl rfl ?_
      refine o_alloc hS (by decide) ty_zero41 (by omega) fun H hS => ?_
      refine o_assign (v := .sl .no 1 (r3.1.map cI)) (by decide) rfl ?_
      refine o_store (v := .agg [.v (.int .i64 r3.2.Operator), .v (.int .i64 r3.2.Owner), .v (.int .i64 r3.2.Repaid)]) (ns := [.v (.int .i64 r3.2.Operator), .v (.int .i64 r3.2.Owner), .v (.int .i64 r3.2.Repaid)]) (L' := [(g1 + 2 + 7, .cells [.v (.int .i64 r3.2.Operator), .v (.int .i64 r3.2.Owner), .v (.int .i64 r3.2.Repaid)]), (g + 1, .cells [.v (.int .i64 0), .v (.int .i64 0), .v (.int .i64 0)]), (g + 0, .cells [.sl .no 4 (a0.Clauses.map Clause.cells), .v (.int .i64 a0.Loan)])]) 0 hS rfl rfl .no rfl rfl ty_var41 (Nat.le_of_ble_eq_true rfl) rfl fun H hS => ?_
      refine run_nil ?_
      replace hS := hS.keep (L' := [(g1 + 2 + 7, .cells [.v (.int .i64 r3.2.Operator), .v (.int .i64 r3.2.Owner), .v (.int .i64 r3.2.Repaid)]), (g + 1, .cells [.v (.int .i64 0), .v (.int .i64 0), .v (.int .i64 0)])]) [true, true, false] rfl
      refine w_next [(6, .ptr (g + 1) 0), (10, .ptr (g1 + 2 + 7) 0)] (.cons (.refl _) (.cons (.refl _) .nil)) ?_
      refine r_seq ?_
      refine r_region (n := 3) rfl ?_
      refine o_load (v := .agg [.v (.int .i64 r3.2.Operator), .v (.int .i64 r3.2.Owner), .v (.int .i64 r3.2.Repaid)]) 0 hS (by decide) rfl rfl .no (part_agg ty_agg41 (Nat.le_of_ble_eq_true rfl) rfl) ?_
      refine o_store (v := .agg [.v (.int .i64 r3.2.Operator), .v (.int .i64 r3.2.Owner), .v (.int .i64 r3.2.Repaid)]) (ns := [.v (.int .i64 r3.2.Operator), .v (.int .i64 r3.2.Owner), .v (.int .i64 r3.2.Repaid)]) (L' := [(g1 + 2 + 7, .cells [.v (.int .i64 r3.2.Operator), .v (.int .i64 r3.2.Owner), .v (.int .i64 r3.2.Repaid)]), (g + 1, .cells [.v (.int .i64 r3.2.Operator), .v (.int .i64 r3.2.Owner), .v (.int .i64 r3.2.Repaid)])]) 1 hS rfl rfl .no rfl rfl ty_var41 (Nat.le_of_ble_eq_true rfl) rfl fun H hS => ?_
      refine o_assign (v := .v (.int .i64 0)) (by decide) rfl ?_
      refine run_nil ?_
      replace hS := hS.keep (L' := [(g + 1, .cells [.v (.int .i64 r3.2.Operator), .v (.int .i64 r3.2.Owner), .v (.int .i64 r3.2.Repaid)])]) [false, true] rfl
      refine w_next [(6, .ptr (g + 1) 0), (7, .v (.int .i64 0))] (.cons (.refl _) (.cons (.refl _) .nil)) ?_
      refine r_ret ?_
      refine w_end (x := .tup [.agg [.v (.int .i64 r3.2.Operator), .v (.int .i64 r3.2.Owner), .v (.int .i64 r3.2.Repaid)], .v (.int .i64 0)]) (f := fun r => .tup [.agg [.v (.int .i64 r.1.Operator), .v (.int .i64 r.1.Owner), .v (.int .i64 r.1.Repaid)], .v (.int .i64 r.2)]) (.inr rfl) ?_ (.refl _) (Option.some.inj hM) hS
      exact (res_two (res_cell (x := .agg [.v (.int .i64 r3.2.Operator), .v (.int .i64 r3.2.Owner), .v (.int .i64 r3.2.Repaid)]) 0 hS rfl rfl (part_agg ty_agg41 (Nat.le_of_ble_eq_true rfl) rfl)) (res_tmp (x := .v (.int .i64 0)) rfl))
  · have hS0 := hS
    refine r_draw (n := 9) rfl (by kernel_rfl) ?_
    refine o_load (v := .agg [.sl .no 4 (a0.Clauses.map Clause.cells), .v (.int .i64 a0.Loan)]) 1 hS (by decide) rfl rfl (.st hS0 1 rfl (by omega)) (part_agg ty_agg24 (Nat.le_of_ble_eq_true rfl) rfl) ?_
    refine o_move (v := .v (.int .i64 a1)) (by decide) rfl ?_
    obtain ⟨r4, hr4, hM⟩ := bindE hM
    refine o_call (bs := [.v (.int .i64 a1)]) (by decide) rfl rfl ((W_ref09_IsCents hr4).le (.cons (.refl _) .nil)) ?_
    refine o_move (v := .v (.bool r4)) (by decide) rfl ?_
    rcases Bool.eq_false_or_eq_true r4 with hb5 | hb5
    · replace hM := ifT hM hb5
      refine o_guardY (j := 3) (e := r4) (want := true) rfl hb5 ?_
      refine o_move (v := .v (.int .i64 a2)) (by decide) rfl ?_
      refine o_guardY (j := 3) (e := r4) (want := true) rfl hb5 ?_
      obtain ⟨r6, hr6, hM⟩ := bindE hM
      refine o_call (bs := [.v (.int .i64 a2)]) (by decide) rfl rfl ((W_ref09_IsCents hr6).le (.cons (.refl _) .nil)) ?_
      refine o_pickT (v := .v (.bool r6)) (e := r4) (by decide) rfl hb5 rfl ?_
      obtain ⟨r7, hr7, hM⟩ := bindE hM
      refine o_call (bs := [.agg [.sl .no 4 (a0.Clauses.map Clause.cells), .v (.int .i64 a0.Loan)], .v (.bool r6)]) (by decide) rfl rfl ((W_ref09_ask hr7).le (.cons (.refl _) (.cons (.refl _) .nil))) ?_
      refine o_assign (v := .v (.int .i64 r7)) (by decide) rfl ?_
      refine run_nil ?_
      exact w_goto r7 (.cons (.refl _) (.cons (.refl _) (.cons (.refl _) (.cons (.refl _) (.cons (.refl _) .nil))))) ⟨(hS.keep [true, true] rfl).up (by omega), hM⟩
    · replace hM := ifF hM hb5
      refine o_guardN (j := 3) (e := r4) (want := true) (by decide) rfl hb5 ?_
      refine o_guardN (j := 3) (e := r4) (want := true) (by decide) rfl hb5 ?_
      refine o_pickF (v := .v (.bool false)) (e := r4) (by decide) rfl hb5 rfl ?_
      obtain ⟨r8, hr8, hM⟩ := bindE hM
      refine o_call (bs := [.agg [.sl .no 4 (a0.Clauses.map Clause.cells), .v (.int .i64 a0.Loan)], .v (.bool false)]) (by decide) rfl rfl ((W_ref09_ask hr8).le (.cons (.refl _) (.cons (.refl _) .nil))) ?_
      refine o_assign (v := .v (.int .i64 r8)) (by decide) rfl ?_
      refine run_nil ?_
      exact w_goto r8 (.cons (.refl _) (.cons (.refl _) (.cons (.refl _) (.cons (.refl _) (.cons (.refl _) .nil))))) ⟨(hS.keep [true, true] rfl).up (by omega), hM⟩
theorem W_ref09_IsClause {a0 : Share} {a1 : Int} {r : Bool} (hM : ref09_IsClause a0 a1 = some r) : PureSat Try.prog 45 [.agg [.sl .no 4 (a0.Clauses.map Clause.cells), .v (.int .i64 a0.Loan)], .v (.int .i64 a1)] (.v (.bool r)) := by
  refine pure_of_wp mixed Try.func45 rfl (by decide) Try.ntmps45 (by simp) ?pure fun H0 g hf => ?_
  case pure => exact .v _
  rw [frame0_of]
  change wpA _ _ _ _ (Fr.of [(0, .agg [.sl .no 4 (a0.Clauses.map Clause.cells), .v (.int .i64 a0.Loan)]), (1, .v (.int .i64 a1))]) H0 g
  have hS := St.start hf
  refine r_seq ?_
  refine r_region (n := 2) rfl ?_
  refine o_box (v := .agg [.sl .no 4 (a0.Clauses.map Clause.cells), .v (.int .i64 a0.Loan)]) (cs := [.sl .no 4 (a0.Clauses.map Clause.cells), .v (.int .i64 a0.Loan)]) hS (by decide) rfl rfl (by omega) fun H hS => ?_
  refine o_assign (v := .v (.bool false)) (by decide) rfl ?_
  refine run_nil ?_
  refine w_next [(1, .v (.int .i64 a1)), (2, .ptr (g + 0) 0)] (.cons (.refl _) (.cons (.refl _) .nil)) ?_
  refine r_seq ?_
  refine r_region (n := 7) rfl ?_
  refine o_move (v := .v (.int .i64 a1)) (by decide) rfl ?_
  refine o_fieldP (by decide) ty_fo24_0 rfl ?_
  refine o_load (v := .sl .no 4 (a0.Clauses.map Clause.cells)) 0 hS (by decide) rfl rfl .no (part_one ty_agg22 ty_sc22 rfl) ?_
  refine o_len (n := a0.Clauses.length) (by decide) rfl (List.length_map _) ty_isl22 ?_
  refine o_int (v := .v (.int .i64 (w64 ((a0.Clauses.length : Int) - 1)))) (by decide) rfl rfl rfl ?_
  obtain ⟨r1, hr1, hM⟩ := bindE hM
  refine o_call (bs := [.v (.int .i64 a1), .v (.int .i64 0), .v (.int .i64 (w64 ((a0.Clauses.length : Int) - 1)))]) (by decide) rfl rfl ((W_ref09_within hr1).le (.cons (.refl _) (.cons (.refl _) (.cons (.refl _) .nil)))) ?_
  refine o_assign (v := .v (.bool r1)) (by decide) rfl ?_
  refine run_nil ?_
  replace hS := hS.keep (L' := []) [false] rfl
  refine w_next [(4, .v (.bool r1))] (.cons (.refl _) .nil) ?_
  refine r_ret ?_
  refine w_end (x := .v (.bool r1)) (f := fun r => .v (.bool r)) (.inr rfl) ?_ (.refl _) (Option.some.inj hM) hS
  exact (res_one (res_tmp (x := .v (.bool r1)) rfl))
theorem W_ref09_Gives {n : Nat} {a0 : Share} {a1 : Int} {a2 : Int} {r : Int × Int} (hM : ref09_Gives n a0 a1 a2 = some r) : PureSat Try.prog 42 [.agg [.sl .no 4 (a0.Clauses.map Clause.cells), .v (.int .i64 a0.Loan)], .v (.int .i64 a1), .v (.int .i64 a2)] (.tup [.v (.int .i64 r.1), .v (.int .i64 r.2)]) := by
  refine pure_of_wp mixed Try.func42 rfl (by decide) Try.ntmps42 (by simp) ?pure fun H0 g hf => ?_
  case pure => exact .tup _ (pl_cons (.v _) (pl_cons (.v _) pl_nil))
  rw [frame0_of]
  change wpA _ _ _ _ (Fr.of [(0, .agg [.sl .no 4 (a0.Clauses.map Clause.cells), .v (.int .i64 a0.Loan)]), (1, .v (.int .i64 a1)), (2, .v (.int .i64 a2))]) H0 g
  have hS := St.start hf
  refine r_seq ?_
  refine r_region (n := 3) rfl ?_
  refine o_box (v := .agg [.sl .no 4 (a0.Clauses.map Clause.cells), .v (.int .i64 a0.Loan)]) (cs := [.sl .no 4 (a0.Clauses.map Clause.cells), .v (.int .i64 a0.Loan)]) hS (by decide) rfl rfl (by omega) fun H hS => ?_
  refine o_assign (v := .v (.int .i64 0)) (by decide) rfl ?_
  refine o_assign (v := .v (.int .i64 0)) (by decide) rfl ?_
  refine run_nil ?_
  refine w_next [(1, .v (.int .i64 a1)), (2, .v (.int .i64 a2)), (3, .ptr (g + 0) 0)] (.cons (.refl _) (.cons (.refl _) (.cons (.refl _) .nil))) ?_
  refine r_seq ?_
  refine w_join (J := Int) (fun j => [(1, .v (.int .i64 a1)), (2, .v (.int .i64 a2)), (3, .ptr (g + 0) 0), (8, .v (.int .i64 j))]) (fun j H' g' => St (· < g) H0 [(g + 0, .cells [.sl .no 4 (a0.Clauses.map Clause.cells), .v (.int .i64 a0.Loan)])] H' g' ∧ ref09_Gives_j1 n a0 a1 a2 j = some r) ?_ ?_
  · rintro v1 H g1 ⟨hS, hM⟩
    change wpA _ _ _ _ (Fr.of [(1, .v (.int .i64 a1)), (2, .v (.int .i64 a2)), (3, .ptr (g + 0) 0), (8, .v (.int .i64 v1))]) _ _
    replace hS : St (· < g) H0 [(g + 0, .cells [.sl .no 4 (a0.Clauses.map Clause.cells), .v (.int .i64 a0.Loan)])] H g1 := hS
    replace hM : ref09_Gives_j1 n a0 a1 a2 v1 = some r := hM
    refine r_seq ?_
    refine r_region (n := 2) rfl ?_
    refine o_move (v := .v (.int .i64 v1)) (by decide) rfl ?_
    refine o_int (v := .v (.bool (v1 != 0))) (by decide) rfl rfl rfl ?_
    refine run_nil ?_
    refine w_next [(1, .v (.int .i64 a1)), (2, .v (.int .i64 a2)), (3, .ptr (g + 0) 0), (8, .v (.int .i64 v1)), (21, .v (.bool (v1 != 0)))] (.cons (.refl _) (.cons (.refl _) (.cons (.refl _) (.cons (.refl _) (.cons (.refl _) .nil))))) ?_
    rcases Bool.eq_false_or_eq_true (v1 != 0) with hb2 | hb2
    · replace hM := ifT hM hb2
      refine w_condT (e := (v1 != 0)) rfl hb2 ?_
      refine r_seq ?_
      refine r_region (n := 3) rfl ?_
      refine o_move (v := .v (.int .i64 v1)) (by decide) rfl ?_
      refine o_assign (v := .v (.int .i64 0)) (by decide) rfl ?_
      refine o_assign (v := .v (.int .i64 v1)) (by decide) rfl ?_
      refine run_nil ?_
      replace hS := hS.keep (L' := []) [false] rfl
      refine w_next [(6, .v (.int .i64 0)), (7, .v (.int .i64 v1))] (.cons (.refl _) (.cons (.refl _) .nil)) ?_
      refine r_ret ?_
      refine r_then_ret ?_
      refine w_end (x := .tup [.v (.int .i64 0), .v (.int .i64 v1)]) (f := fun r => .tup [.v (.int .i64 r.1), .v (.int .i64 r.2)]) (.inr rfl) ?_ (.refl _) (Option.some.inj hM) hS
      exact (res_two (res_tmp (x := .v (.int .i64 0)) rfl) (res_tmp (x := .v (.int .i64 v1)) rfl))
    · replace hM := ifF hM hb2
      refine w_condF (e := (v1 != 0)) rfl hb2 ?_
      refine r_skip ?_
      refine w_next [(1, .v (.int .i64 a1)), (2, .v (.int .i64 a2)), (3, .ptr (g + 0) 0)] (.cons (.refl _) (.cons (.refl _) (.cons (.refl _) .nil))) ?_
      refine r_seq ?_
      refine r_region (n := 9) rfl ?_
      refine o_load (v := .agg [.sl .no 4 (a0.Clauses.map Clause.cells), .v (.int .i64 a0.Loan)]) 0 hS (by decide) rfl rfl .no (part_agg ty_agg24 (Nat.le_of_ble_eq_true rfl) rfl) ?_
      refine o_move (v := .v (.int .i64 a1)) (by decide) rfl ?_
      obtain ⟨r3, hr3, hM⟩ := bindE hM
      refine o_call (bs := [.agg [.sl .no 4 (a0.Clauses.map Clause.cells), .v (.int .i64 a0.Loan)], .v (.int .i64 a1), .v (.int .i64 0)]) (by decide) rfl rfl ((W_ref09_Gone hr3).le (.cons (.refl _) (.cons (.refl _) (.cons (.refl _) .nil)))) ?_
      refine o_move (v := .tup [.sl .no 1 (r3.1.map cI), .agg [.v (.int .i64 r3.2.Operator), .v (.int .i64 r3.2.Owner), .v (.int .i64 r3.2.Repaid)]]) (by decide) rfl ?_
      refine o_extract (v := .sl .no 1 (r3.1.map cI)) (by decide) rfl rfl ?_
      refine o_extract (v := .agg [.v (.int .i64 r3.2.Operator), .v (.int .i64 r3.2.Owner), .v (.int .i64 r3.2.Repaid)]) (by decide) rfl rfl ?_
      refine o_alloc hS (by decide) ty_zero41 (by omega) fun H hS => ?_
      refine o_assign (v := .sl .no 1 (r3.1.map cI)) (by decide) rfl ?_
      refine o_store (v := .agg [.v (.int .i64 r3.2.Operator), .v (.int .i64 r3.2.Owner), .v (.int .i64 r3.2.Repaid)]) (ns := [.v (.int .i64 r3.2.Operator), .v (.int .i64 r3.2.Owner), .v (.int .i64 r3.2.Repaid)]) (L' := [(g1 + 2 + 6, .cells [.v (.int .i64 r3.2.Operator), .v (.int .i64 r3.2.Owner), .v (.int .i64 r3.2.Repaid)]), (g + 0, .cells [.sl .no 4 (a0.Clauses.map Clause.cells), .v (.int .i64 a0.Loan)])]) 0 hS rfl rfl .no rfl rfl ty_var41 (Nat.le_of_ble_eq_true rfl) rfl fun H hS => ?_
      refine run_nil ?_
      replace hS := hS.keep (L' := []) [false, false] rfl
      refine w_next [(2, .v (.int .i64 a2)), (9, .sl .no 1 (r3.1.map cI))] (.cons (.refl _) (.cons (.refl _) .nil)) ?_
      refine r_seq ?_
      refine r_region (n := 6) rfl ?_
      refine o_move (v := .sl .no 1 (r3.1.map cI)) (by decide) rfl ?_
      refine o_move (v := .v (.int .i64 a2)) (by decide) rfl ?_
      obtain ⟨x4, hx4, hM⟩ := bindE hM
      refine o_index (xs := r3.1) (f := cI) (z := a2) (u := x4) (by decide) rfl rfl ty_es28 hx4 ?_
      refine o_loadE (v := .v (.int .i64 x4)) (by decide) rfl (part_one ty_agg3 ty_sc3 rfl) ?_
      refine o_assign (v := .v (.int .i64 x4)) (by decide) rfl ?_
      refine o_assign (v := .v (.int .i64 0)) (by decide) rfl ?_
      refine run_nil ?_
      refine w_next [(6, .v (.int .i64 x4)), (7, .v (.int .i64 0))] (.cons (.refl _) (.cons (.refl _) .nil)) ?_
      refine r_ret ?_
      refine w_end (x := .tup [.v (.int .i64 x4), .v (.int .i64 0)]) (f := fun r => .tup [.v (.int .i64 r.1), .v (.int .i64 r.2)]) (.inr rfl) ?_ (.refl _) (Option.some.inj hM) hS
      exact (res_two (res_tmp (x := .v (.int .i64 x4)) rfl) (res_tmp (x := .v (.int .i64 0)) rfl))
  · have hS0 := hS
    refine r_draw (n := 10) rfl (by kernel_rfl) ?_
    refine o_load (v := .agg [.sl .no 4 (a0.Clauses.map Clause.cells), .v (.int .i64 a0.Loan)]) 0 hS (by decide) rfl rfl (.st hS0 0 rfl (by omega)) (part_agg ty_agg24 (Nat.le_of_ble_eq_true rfl) rfl) ?_
    refine o_move (v := .v (.int .i64 a1)) (by decide) rfl ?_
    obtain ⟨r5, hr5, hM⟩ := bindE hM
    refine o_call (bs := [.v (.int .i64 a1)]) (by decide) rfl rfl ((W_ref09_IsCents hr5).le (.cons (.refl _) .nil)) ?_
    refine o_move (v := .v (.bool r5)) (by decide) rfl ?_
    rcases Bool.eq_false_or_eq_true r5 with hb6 | hb6
    · replace hM := ifT hM hb6
      refine o_guardY (j := 3) (e := r5) (want := true) rfl hb6 ?_
      refine o_load (v := .agg [.sl .no 4 (a0.Clauses.map Clause.cells), .v (.int .i64 a0.Loan)]) 0 hS (by decide) rfl rfl (.st hS0 0 rfl (by omega)) (part_agg ty_agg24 (Nat.le_of_ble_eq_true rfl) rfl) ?_
      refine o_guardY (j := 3) (e := r5) (want := true) rfl hb6 ?_
      refine o_move (v := .v (.int .i64 a2)) (by decide) rfl ?_
      refine o_guardY (j := 3) (e := r5) (want := true) rfl hb6 ?_
      obtain ⟨r7, hr7, hM⟩ := bindE hM
      refine o_call (bs := [.agg [.sl .no 4 (a0.Clauses.map Clause.cells), .v (.int .i64 a0.Loan)], .v (.int .i64 a2)]) (by decide) rfl rfl ((W_ref09_IsClause hr7).le (.cons (.refl _) (.cons (.refl _) .nil))) ?_
      refine o_pickT (v := .v (.bool r7)) (e := r5) (by decide) rfl hb6 rfl ?_
      obtain ⟨r8, hr8, hM⟩ := bindE hM
      refine o_call (bs := [.agg [.sl .no 4 (a0.Clauses.map Clause.cells), .v (.int .i64 a0.Loan)], .v (.bool r7)]) (by decide) rfl rfl ((W_ref09_ask hr8).le (.cons (.refl _) (.cons (.refl _) .nil))) ?_
      refine o_assign (v := .v (.int .i64 r8)) (by decide) rfl ?_
      refine run_nil ?_
      exact w_goto r8 (.cons (.refl _) (.cons (.refl _) (.cons (.refl _) (.cons (.refl _) .nil)))) ⟨(hS.keep [true] rfl).up (by omega), hM⟩
    · replace hM := ifF hM hb6
      refine o_guardN (j := 3) (e := r5) (want := true) (by decide) rfl hb6 ?_
      refine o_guardN (j := 3) (e := r5) (want := true) (by decide) rfl hb6 ?_
      refine o_guardN (j := 3) (e := r5) (want := true) (by decide) rfl hb6 ?_
      refine o_pickF (v := .v (.bool false)) (e := r5) (by decide) rfl hb6 rfl ?_
      obtain ⟨r9, hr9, hM⟩ := bindE hM
      refine o_call (bs := [.agg [.sl .no 4 (a0.Clauses.map Clause.cells), .v (.int .i64 a0.Loan)], .v (.bool false)]) (by decide) rfl rfl ((W_ref09_ask hr9).le (.cons (.refl _) (.cons (.refl _) .nil))) ?_
      refine o_assign (v := .v (.int .i64 r9)) (by decide) rfl ?_
      refine run_nil ?_
      exact w_goto r9 (.cons (.refl _) (.cons (.refl _) (.cons (.refl _) (.cons (.refl _) .nil)))) ⟨(hS.keep [true] rfl).up (by omega), hM⟩
theorem W_slices_Delete_apiClause {a0 r : List Clause} {a1 a2 : Int} (hM : delL a0 a1 a2 = some r) : DelSat Try.prog 63 4 Clause.cells [.v (.int .i64 0), .v (.int .i64 0), .v (.int .i64 0), .v (.int .i64 0)] a0 a1 a2 := by
  have hpq : 0 ≤ a1 ∧ a1 < a2 ∧ a2 ≤ a0.length := by
    unfold delL at hM
    split at hM
    · assumption
    · cases hM
  clear hM
  obtain ⟨p, rfl⟩ : ∃ p : Nat, a1 = p := ⟨a1.toNat, by omega⟩
  obtain ⟨q, rfl⟩ : ∃ q : Nat, a2 = q := ⟨a2.toNat, by omega⟩
  have hf : ∀ x : Clause, (Clause.cells x).length = 4 := fun _ => rfl
  have hlen : (a0.take p ++ a0.drop q).length = p + (a0.length - q) := by rw [List.length_append, List.length_take, List.length_drop, Nat.min_eq_left (by omega)]
  have hcl := len_flat hf a0
  obtain ⟨R, hR, hRl⟩ := splice_app hf a0 (a := p) (c := q) (by omega) (by omega)
  unfold DelSat
  simp only [Int.toNat_natCast, hlen]
  intro j
  refine mutI_of_wp mixed Try.func63 rfl (by decide) Try.ntmps63 (by simp) (fun H hH => .ms _ _ _ _ _ (.inl ⟨_, hH⟩)) (pure_delC (fun x => (pl_cons (.v _) (pl_cons (.v _) (pl_cons (.v _) (pl_cons (.v _) pl_nil))))) (pl_cons (.v _) (pl_cons (.v _) (pl_cons (.v _) (pl_cons (.v _) pl_nil))))) fun H0 g hf_ hp => ?_
  rw [frame0_of]
  change wpA _ _ _ _ (Fr.of [(0, .ms j 0 4 a0.length a0.length), (1, .v (.int .i64 p)), (2, .v (.int .i64 q))]) H0 g
  have hS := St.startP hf_ hp
  refine r_seq ?_
  refine r_region (n := 1) rfl ?_
  refine o_assign (v := .sl .nil 0 []) (by decide) rfl ?_
  refine run_nil ?_
  refine w_next [(0, .ms j 0 4 a0.length a0.length), (1, .v (.int .i64 p)), (2, .v (.int .i64 q))] (.cons (.refl _) (.cons (.refl _) (.cons (.refl _) .nil))) ?_
  refine r_seq ?_
  refine r_region (n := 6) rfl ?_
  refine o_move (v := .ms j 0 4 a0.length a0.length) (by decide) rfl ?_
  refine o_move (v := .v (.int .i64 p)) (by decide) rfl ?_
  refine o_move (v := .v (.int .i64 q)) (by decide) rfl ?_
  refine o_move (v := .ms j 0 4 a0.length a0.length) (by decide) rfl ?_
  refine o_lenms (by decide) rfl ty_isl22 ?_
  refine o_slicems p q (by decide) rfl ty_es22 (by simp [loN, natOf, evL, lk]) (by simp [hiN, natOf, evL, lk]) (v := .ms j (0 + p * 4) 4 (q - p) (a0.length - p)) (by simp [cutM, natOf, evL, lk]; omega) ?_
  refine run_nil ?_
  refine w_next [(0, .ms j 0 4 a0.length a0.length), (1, .v (.int .i64 p)), (2, .v (.int .i64 q))] (.cons (.refl _) (.cons (.refl _) (.cons (.refl _) .nil))) ?_
  refine r_seq ?_
  refine r_seq ?_
  refine r_region (n := 3) rfl ?_
  refine o_move (v := .v (.int .i64 p)) (by decide) rfl ?_
  refine o_move (v := .v (.int .i64 q)) (by decide) rfl ?_
  refine o_int (v := .v (.bool ((p : Int) == (q : Int)))) (by decide) rfl rfl rfl ?_
  refine run_nil ?_
  refine w_next [(0, .ms j 0 4 a0.length a0.length), (1, .v (.int .i64 p)), (2, .v (.int .i64 q)), (16, .v (.bool false))] (.cons (.refl _) (.cons (.refl _) (.cons (.refl _) (.cons (by rw [show ((p : Int) == (q : Int)) = false from beq_eq_false_iff_ne.2 (by omega)]; exact .refl _) .nil)))) ?_
  refine w_condF (e := false) rfl rfl ?_
  refine r_skip ?_
  refine w_next [(0, .ms j 0 4 a0.length a0.length), (1, .v (.int .i64 p)), (2, .v (.int .i64 q))] (.cons (.refl _) (.cons (.refl _) (.cons (.refl _) .nil))) ?_
  refine r_seq ?_
  refine r_region (n := 3) rfl ?_
  refine o_move (v := .ms j 0 4 a0.length a0.length) (by decide) rfl ?_
  refine o_lenms (by decide) rfl ty_isl22 ?_
  refine o_assign (v := .v (.int .i64 a0.length)) (by decide) rfl ?_
  refine run_nil ?_
  refine w_next [(0, .ms j 0 4 a0.length a0.length), (1, .v (.int .i64 p)), (2, .v (.int .i64 q)), (7, .v (.int .i64 a0.length))] (.cons (.refl _) (.cons (.refl _) (.cons (.refl _) (.cons (.refl _) .nil)))) ?_
  refine r_seq ?_
  refine r_draw (n := 8) rfl (by kernel_rfl) ?_
  refine o_move (v := .ms j 0 4 a0.length a0.length) (by decide) rfl ?_
  refine o_move (v := .v (.int .i64 p)) (by decide) rfl ?_
  refine o_slicems 0 p (by decide) rfl ty_es22 rfl (by simp [hiN, natOf, evL, lk]) (v := .ms j 0 4 p a0.length) (by simp [cutM]; omega) ?_
  refine o_move (v := .ms j 0 4 a0.length a0.length) (by decide) rfl ?_
  refine o_move (v := .v (.int .i64 q)) (by decide) rfl ?_
  refine o_slicems q a0.length (by decide) rfl ty_es22 (by simp [loN, natOf, evL, lk]) (by simp [hiN]) (v := .ms j (0 + q * 4) 4 (a0.length - q) (a0.length - q)) (by simp [cutM]; omega) ?_
  have hH := hS.get (n := 0) rfl
  have e1 : ((a0.map Clause.cells).flatten.drop (0 + q * 4)).take ((a0.length - q) * 4) = ((a0.drop q).map Clause.cells).flatten := by
    rw [Nat.zero_add, drop_flatN hf a0 (by omega), List.take_of_length_le (by rw [len_flat hf, List.length_drop]; exact Nat.le_refl _)]
  have e2 : ((a0.drop q).map Clause.cells).flatten.length = (a0.length - q) * 4 := by rw [len_flat hf, List.length_drop]
  have e0 : appendM Try.prog 22 H0 (.ms j 0 4 p a0.length) (.ms j (0 + q * 4) 4 (a0.length - q) (a0.length - q)) = some (.ms j 0 4 (p + (a0.length - q)) a0.length, some (j, .cells (((a0.take p ++ a0.drop q).map Clause.cells).flatten ++ R))) := by
    simp only [appendM, hH, srcA]
    rw [if_pos ⟨ty_es22, by omega⟩, if_pos trivial, if_pos (by rw [hcl]; omega)]
    simp only [Option.bind_some]
    rw [e1, if_pos ⟨by omega, by rw [hcl, e2]; omega⟩, hR]
  refine run_piv (v := .ms j 0 4 (p + (a0.length - q)) a0.length) (wr := some (j, .cells (((a0.take p ++ a0.drop q).map Clause.cells).flatten ++ R))) (by decide) rfl rfl (by kernel_rfl) (by
    show (if (22 : Nat) = 22 then appendM Try.prog 22 H0 (.ms j 0 4 p a0.length) (.ms j (0 + q * 4) 4 (a0.length - q) (a0.length - q)) else none) = _
    rw [if_pos rfl]
    exact e0) ?_
  replace hS := hS.put (n := 0) rfl (.cells (((a0.take p ++ a0.drop q).map Clause.cells).flatten ++ R))
  refine o_assign (v := .ms j 0 4 (p + (a0.length - q)) a0.length) (by decide) rfl ?_
  refine run_nil ?_
  refine w_next [(0, .ms j 0 4 (p + (a0.length - q)) a0.length), (7, .v (.int .i64 a0.length))] (.cons (.refl _) (.cons (.refl _) .nil)) ?_
  refine r_seq ?_
  refine r_region (n := 6) rfl ?_
  refine o_move (v := .ms j 0 4 (p + (a0.length - q)) a0.length) (by decide) rfl ?_
  refine o_move (v := .ms j 0 4 (p + (a0.length - q)) a0.length) (by decide) rfl ?_
  refine o_lenms (by decide) rfl ty_isl22 ?_
  refine o_move (v := .v (.int .i64 a0.length)) (by decide) rfl ?_
  refine o_slicems (p + (a0.length - q)) a0.length (by decide) rfl ty_es22 (by simp [loN, natOf, evL, lk]; omega) (by simp [hiN, natOf, evL, lk]) (v := .ms j (0 + (p + (a0.length - q)) * 4) 4 (q - p) (q - p)) (by simp [cutM]; omega) ?_
  have hX : ((a0.take p ++ a0.drop q).map Clause.cells).flatten.length = (p + (a0.length - q)) * 4 := by rw [len_flat hf, hlen]
  have hz : (List.replicate (q - p) ([.v (.int .i64 0), .v (.int .i64 0), .v (.int .i64 0), .v (.int .i64 0)] : List AV)).flatten.length = (q - p) * 4 := by simp
  have e3 : clearA Try.prog 22 (H0.set j (.cells (((a0.take p ++ a0.drop q).map Clause.cells).flatten ++ R))) (.ms j (0 + (p + (a0.length - q)) * 4) 4 (q - p) (q - p)) = some (.any, some (j, .cells (delC Clause.cells [.v (.int .i64 0), .v (.int .i64 0), .v (.int .i64 0), .v (.int .i64 0)] a0 p q))) := by
    simp only [clearA, Heap.set_same]
    rw [if_pos ty_es22, ty_el22]
    simp only [Option.bind_some]
    rw [ty_zero39]
    simp only [Option.bind_some]
    rw [if_pos ⟨rfl, by rw [List.length_append, hX, hRl]; omega⟩, Nat.zero_add, ← hX, splice_clear (by rw [hRl, hz])]
    rfl
  refine run_eff (v := .any) (wr := some (j, .cells (delC Clause.cells [.v (.int .i64 0), .v (.int .i64 0), .v (.int .i64 0), .v (.int .i64 0)] a0 p q))) rfl rfl e3 ?_
  replace hS := hS.put (n := 0) rfl (.cells (delC Clause.cells [.v (.int .i64 0), .v (.int .i64 0), .v (.int .i64 0), .v (.int .i64 0)] a0 p q))
  refine run_nil ?_
  refine w_next [(0, .ms j 0 4 (p + (a0.length - q)) a0.length)] (.cons (.refl _) .nil) ?_
  refine r_seq ?_
  refine r_region (n := 2) rfl ?_
  refine o_move (v := .ms j 0 4 (p + (a0.length - q)) a0.length) (by decide) rfl ?_
  refine o_assign (v := .ms j 0 4 (p + (a0.length - q)) a0.length) (by decide) rfl ?_
  refine run_nil ?_
  refine w_next [(6, .ms j 0 4 (p + (a0.length - q)) a0.length)] (.cons (.refl _) .nil) ?_
  refine r_ret ?_
  exact ⟨.inr rfl, ⟨_, res_one (res_tmp rfl), .refl _⟩, fun i hi => (hS.old i hi).2, hS.get (n := 0) rfl⟩
theorem W_slices_Clone_apiClause {a0 : List Clause} {r : List Clause} (hM : slices_Clone_apiClause a0 = some r) : FreshSat Try.prog 64 [.sl .no 4 (a0.map Clause.cells)] 39 4 (r.map Clause.cells) := by
  have hr : r = a0 := by
    unfold slices_Clone_apiClause app at hM
    split at hM
    · injection hM with hM; rw [← hM]; rfl
    · cases hM
  refine fresh_of_wp mixed Try.func64 rfl (by decide) Try.ntmps64 (by simp) ?pure fun H0 g hf => ?_
  case pure => exact pures_map (fun x => (pl_cons (.v _) (pl_cons (.v _) (pl_cons (.v _) (pl_cons (.v _) pl_nil)))))
  rw [frame0_of]
  change wpA _ _ _ _ (Fr.of [(0, .sl .no 4 (a0.map Clause.cells))]) H0 g
  have hS := St.start hf
  refine r_seq ?_
  refine r_region (n := 1) rfl ?_
  refine o_assign (v := .sl .nil 0 []) (by decide) rfl ?_
  refine run_nil ?_
  refine w_next [(0, .sl .no 4 (a0.map Clause.cells))] (.cons (.refl _) .nil) ?_
  refine r_seq ?_
  refine r_seq ?_
  refine r_region (n := 2) rfl ?_
  refine o_move (v := .sl .no 4 (a0.map Clause.cells)) (by decide) rfl ?_
  refine o_nil (t := 22) (tg := .no) (k := 4) (es := a0.map Clause.cells) (e := true) (by decide) rfl rfl rfl rfl ty_isl22 (fun _ => ?_) (fun hnil => ?_)
  · refine run_nil ?_
    refine w_next [(0, .sl .no 4 (a0.map Clause.cells)), (4, .v (.bool (false == true)))] (.cons (.refl _) (.cons (.refl _) .nil)) ?_
    refine w_condF (e := false == true) rfl rfl ?_
    refine r_skip ?_
    refine w_next [(0, .sl .no 4 (a0.map Clause.cells))] (.cons (.refl _) .nil) ?_
    refine r_seq ?_
    refine r_region (n := 4) rfl ?_
    refine o_buildSlice (es := []) hS (by decide) ty_es22 ty_el22 rfl ty_ef22 rfl (by decide) (by omega) fun H hS => ?_
    refine o_move (v := .sl .no 4 (a0.map Clause.cells)) (by decide) rfl ?_
    refine o_append (xs := ([] : List Clause)) (ys := a0) (zs := r) (f := Clause.cells) (L' := [(g + 1 + 2 + 0, .row 39 r.length)]) 0 hS (by decide) rfl rfl rfl rfl .no ty_es22 ty_el22 ty_ef22 hM rfl fun H hS => ?_
    refine o_assign (v := .sl (.id (g + 1 + 2 + 0)) 4 (r.map Clause.cells)) (by decide) rfl ?_
    refine run_nil ?_
    refine w_next [(2, .sl (.id (g + 1 + 2 + 0)) 4 (r.map Clause.cells))] (.cons (.refl _) .nil) ?_
    refine r_ret ?_
    refine w_endF (j := g + 1 + 2 + 0) 0 (.inr rfl) ?_ hS rfl (List.length_map _).symm
    exact res_one (res_tmp rfl)
  · refine run_nil ?_
    refine w_next [(0, .sl .no 4 (a0.map Clause.cells)), (4, .v (.bool (true == true)))] (.cons (.refl _) (.cons (.refl _) .nil)) ?_
    refine w_condT (e := true == true) rfl rfl ?_
    refine r_seq ?_
    refine r_region (n := 1) rfl ?_
    refine o_assign (v := .sl .nil 0 []) (by decide) rfl ?_
    refine run_nil ?_
    refine w_next [(2, .sl .nil 0 [])] (.cons (.refl _) .nil) ?_
    refine r_ret ?_
    refine r_then_ret ?_
    refine w_endN (k' := 0) (.inr rfl) ?_ hS (by decide) (by rw [hr]; exact hnil)
    exact res_one (res_tmp rfl)
theorem W_shares_Without {n : Nat} {a0 : Share} {a1 : Int} {a2 : Int} {r : Int × Int} (hM : shares_Without n a0 a1 a2 = some r) : PureSat Try.prog 43 [.agg [.sl .no 4 (a0.Clauses.map Clause.cells), .v (.int .i64 a0.Loan)], .v (.int .i64 a1), .v (.int .i64 a2)] (.tup [.v (.int .i64 r.1), .v (.int .i64 r.2)]) := by
  refine pure_of_wp mixed Try.func43 rfl (by decide) Try.ntmps43 (by simp) ?pure fun H0 g hf => ?_
  case pure => exact .tup _ (pl_cons (.v _) (pl_cons (.v _) pl_nil))
  rw [frame0_of]
  change wpA _ _ _ _ (Fr.of [(0, .agg [.sl .no 4 (a0.Clauses.map Clause.cells), .v (.int .i64 a0.Loan)]), (1, .v (.int .i64 a1)), (2, .v (.int .i64 a2))]) H0 g
  have hS := St.start hf
  refine r_seq ?_
  refine r_region (n := 3) rfl ?_
  refine o_box (v := .agg [.sl .no 4 (a0.Clauses.map Clause.cells), .v (.int .i64 a0.Loan)]) (cs := [.sl .no 4 (a0.Clauses.map Clause.cells), .v (.int .i64 a0.Loan)]) hS (by decide) rfl rfl (by omega) fun H hS => ?_
  refine o_assign (v := .v (.int .i64 0)) (by decide) rfl ?_
  refine o_assign (v := .v (.int .i64 0)) (by decide) rfl ?_
  refine run_nil ?_
  refine w_next [(1, .v (.int .i64 a1)), (2, .v (.int .i64 a2)), (3, .ptr (g + 0) 0)] (.cons (.refl _) (.cons (.refl _) (.cons (.refl _) .nil))) ?_
  refine r_seq ?_
  refine w_join (J := Int) (fun j => [(1, .v (.int .i64 a1)), (2, .v (.int .i64 a2)), (3, .ptr (g + 0) 0), (8, .v (.int .i64 j))]) (fun j H' g' => St (· < g) H0 [(g + 0, .cells [.sl .no 4 (a0.Clauses.map Clause.cells), .v (.int .i64 a0.Loan)])] H' g' ∧ shares_Without_j1 n a0 a1 a2 j = some r) ?_ ?_
  · rintro v1 H g1 ⟨hS, hM⟩
    change wpA _ _ _ _ (Fr.of [(1, .v (.int .i64 a1)), (2, .v (.int .i64 a2)), (3, .ptr (g + 0) 0), (8, .v (.int .i64 v1))]) _ _
    replace hS : St (· < g) H0 [(g + 0, .cells [.sl .no 4 (a0.Clauses.map Clause.cells), .v (.int .i64 a0.Loan)])] H g1 := hS
    replace hM : shares_Without_j1 n a0 a1 a2 v1 = some r := hM
    refine r_seq ?_
    refine r_region (n := 2) rfl ?_
    refine o_move (v := .v (.int .i64 v1)) (by decide) rfl ?_
    refine o_int (v := .v (.bool (v1 != 0))) (by decide) rfl rfl rfl ?_
    refine run_nil ?_
    refine w_next [(1, .v (.int .i64 a1)), (2, .v (.int .i64 a2)), (3, .ptr (g + 0) 0), (8, .v (.int .i64 v1)), (20, .v (.bool (v1 != 0)))] (.cons (.refl _) (.cons (.refl _) (.cons (.refl _) (.cons (.refl _) (.cons (.refl _) .nil))))) ?_
    rcases Bool.eq_false_or_eq_true (v1 != 0) with hb2 | hb2
    · replace hM := ifT hM hb2
      refine w_condT (e := (v1 != 0)) rfl hb2 ?_
      refine r_seq ?_
      refine r_region (n := 3) rfl ?_
      refine o_move (v := .v (.int .i64 v1)) (by decide) rfl ?_
      refine o_assign (v := .v (.int .i64 0)) (by decide) rfl ?_
      refine o_assign (v := .v (.int .i64 v1)) (by decide) rfl ?_
      refine run_nil ?_
      replace hS := hS.keep (L' := []) [false] rfl
      refine w_next [(6, .v (.int .i64 0)), (7, .v (.int .i64 v1))] (.cons (.refl _) (.cons (.refl _) .nil)) ?_
      refine r_ret ?_
      refine r_then_ret ?_
      refine w_end (x := .tup [.v (.int .i64 0), .v (.int .i64 v1)]) (f := fun r => .tup [.v (.int .i64 r.1), .v (.int .i64 r.2)]) (.inr rfl) ?_ (.refl _) (Option.some.inj hM) hS
      exact (res_two (res_tmp (x := .v (.int .i64 0)) rfl) (res_tmp (x := .v (.int .i64 v1)) rfl))
    · replace hM := ifF hM hb2
      refine w_condF (e := (v1 != 0)) rfl hb2 ?_
      refine r_skip ?_
      refine w_next [(1, .v (.int .i64 a1)), (2, .v (.int .i64 a2)), (3, .ptr (g + 0) 0)] (.cons (.refl _) (.cons (.refl _) (.cons (.refl _) .nil))) ?_
      refine r_seq ?_
      refine r_region (n := 8) rfl ?_
      refine o_fieldP (by decide) ty_fo24_0 rfl ?_
      refine o_load (v := .sl .no 4 (a0.Clauses.map Clause.cells)) 0 hS (by decide) rfl rfl .no (part_one ty_agg22 ty_sc22 rfl) ?_
      obtain ⟨r3, hr3, hM⟩ := bindE hM
      refine o_thaw (mk := (fun s => s)) (k := 4) (e := 39) (es := (r3.map Clause.cells)) (bs := [.sl .no 4 (a0.Clauses.map Clause.cells)]) hS (by decide) rfl rfl ((Own0.of_fresh (W_slices_Clone_apiClause hr3)).le (.cons (.refl _) .nil)) id_ok (pl_cons (.sl _ _ (pures_map (fun x => (pl_cons (.v _) (pl_cons (.v _) (pl_cons (.v _) (pl_cons (.v _) pl_nil))))))) pl_nil) (fl_map (fun x => (fl_cons (fl_cons (fl_cons (fl_cons fl_nil)))))) (List.length_map _) (by omega) fun H hS => ?_
      refine o_move (v := .v (.int .i64 a2)) (by decide) rfl ?_
      refine o_move (v := .v (.int .i64 a2)) (by decide) rfl ?_
      refine o_int (v := .v (.int .i64 (w64 (a2 + 1)))) (by decide) rfl rfl rfl ?_
      obtain ⟨l4, hl4, hM⟩ := bindE hM
      refine o_delM (xs := r3) (ys := l4) (f := Clause.cells) (p := a2) (q := (w64 (a2 + 1))) hS (by decide) rfl rfl hl4 (W_slices_Delete_apiClause hl4) fun H Z hS => ?_
      refine o_assign (v := .ms (g1 + 2 + 2) 0 4 l4.length r3.length) (by decide) rfl ?_
      refine run_nil ?_
      refine w_iceG (t := 9) (es := l4.map Clause.cells) hS rfl (by decide) (each_map (fun _ => rfl)) (fl_map (fun x => (fl_cons (fl_cons (fl_cons (fl_cons fl_nil)))))) (List.length_map _).symm (take_flat (f := Clause.cells) (k := 4) (fun _ => rfl)) fun H hS => ?_
      refine w_next [(1, .v (.int .i64 a1)), (3, .ptr (g + 0) 0), (9, .sl .no 4 (l4.map Clause.cells))] (.cons (.refl _) (.cons (.refl _) (.cons (.refl _) .nil))) ?_
      refine r_seq ?_
      have hS0 := hS
      refine r_draw (n := 14) rfl (by kernel_rfl) ?_
      refine o_move (v := .sl .no 4 (l4.map Clause.cells)) (by decide) rfl ?_
      refine o_fieldP (by decide) ty_fo24_1 rfl ?_
      refine o_load (v := .v (.int .i64 a0.Loan)) 0 hS (by decide) rfl rfl (.st hS0 0 rfl (by omega)) (part_one ty_agg3 ty_sc3 rfl) ?_
      refine o_move (v := .v (.int .i64 a1)) (by decide) rfl ?_
      obtain ⟨r5, hr5, hM⟩ := bindE hM
      refine o_call (bs := [.sl .no 4 (l4.map Clause.cells), .v (.int .i64 a0.Loan), .v (.int .i64 a1)]) (by decide) rfl rfl ((W_shares_owners hr5).le (.cons (.refl _) (.cons (.refl _) (.cons (.refl _) .nil)))) ?_
      refine o_fieldP (by decide) ty_fo24_0 rfl ?_
      refine o_load (v := .sl .no 4 (a0.Clauses.map Clause.cells)) 0 hS (by decide) rfl rfl (.st hS0 0 rfl (by omega)) (part_one ty_agg22 ty_sc22 rfl) ?_
      refine o_fieldP (by decide) ty_fo24_1 rfl ?_
      refine o_load (v := .v (.int .i64 a0.Loan)) 0 hS (by decide) rfl rfl (.st hS0 0 rfl (by omega)) (part_one ty_agg3 ty_sc3 rfl) ?_
      refine o_move (v := .v (.int .i64 a1)) (by decide) rfl ?_
      obtain ⟨r6, hr6, hM⟩ := bindE hM
      refine o_call (bs := [.sl .no 4 (a0.Clauses.map Clause.cells), .v (.int .i64 a0.Loan), .v (.int .i64 a1)]) (by decide) rfl rfl ((W_shares_owners hr6).le (.cons (.refl _) (.cons (.refl _) (.cons (.refl _) .nil)))) ?_
      refine o_int (v := .v (.int .i64 (w64 (r5 - r6)))) (by decide) rfl rfl rfl ?_
      refine o_assign (v := .v (.int .i64 (w64 (r5 - r6)))) (by decide) rfl ?_
      refine o_assign (v := .v (.int .i64 0)) (by decide) rfl ?_
      refine run_nil ?_
      replace hS := hS.keep (L' := []) [false] rfl
      refine w_next [(6, .v (.int .i64 (w64 (r5 - r6)))), (7, .v (.int .i64 0))] (.cons (.refl _) (.cons (.refl _) .nil)) ?_
      refine r_ret ?_
      refine w_end (x := .tup [.v (.int .i64 (w64 (r5 - r6))), .v (.int .i64 0)]) (f := fun r => .tup [.v (.int .i64 r.1), .v (.int .i64 r.2)]) (.inr rfl) ?_ (.refl _) (Option.some.inj hM) hS
      exact (res_two (res_tmp (x := .v (.int .i64 (w64 (r5 - r6)))) rfl) (res_tmp (x := .v (.int .i64 0)) rfl))
  · have hS0 := hS
    refine r_draw (n := 10) rfl (by kernel_rfl) ?_
    refine o_load (v := .agg [.sl .no 4 (a0.Clauses.map Clause.cells), .v (.int .i64 a0.Loan)]) 0 hS (by decide) rfl rfl (.st hS0 0 rfl (by omega)) (part_agg ty_agg24 (Nat.le_of_ble_eq_true rfl) rfl) ?_
    refine o_move (v := .v (.int .i64 a1)) (by decide) rfl ?_
    obtain ⟨r7, hr7, hM⟩ := bindE hM
    refine o_call (bs := [.v (.int .i64 a1)]) (by decide) rfl rfl ((W_shares_isCents hr7).le (.cons (.refl _) .nil)) ?_
    refine o_move (v := .v (.bool r7)) (by decide) rfl ?_
    rcases Bool.eq_false_or_eq_true r7 with hb8 | hb8
    · replace hM := ifT hM hb8
      refine o_guardY (j := 3) (e := r7) (want := true) rfl hb8 ?_
      refine o_load (v := .agg [.sl .no 4 (a0.Clauses.map Clause.cells), .v (.int .i64 a0.Loan)]) 0 hS (by decide) rfl rfl (.st hS0 0 rfl (by omega)) (part_agg ty_agg24 (Nat.le_of_ble_eq_true rfl) rfl) ?_
      refine o_guardY (j := 3) (e := r7) (want := true) rfl hb8 ?_
      refine o_move (v := .v (.int .i64 a2)) (by decide) rfl ?_
      refine o_guardY (j := 3) (e := r7) (want := true) rfl hb8 ?_
      obtain ⟨r9, hr9, hM⟩ := bindE hM
      refine o_call (bs := [.agg [.sl .no 4 (a0.Clauses.map Clause.cells), .v (.int .i64 a0.Loan)], .v (.int .i64 a2)]) (by decide) rfl rfl ((W_shares_isClause hr9).le (.cons (.refl _) (.cons (.refl _) .nil))) ?_
      refine o_pickT (v := .v (.bool r9)) (e := r7) (by decide) rfl hb8 rfl ?_
      obtain ⟨r10, hr10, hM⟩ := bindE hM
      refine o_call (bs := [.agg [.sl .no 4 (a0.Clauses.map Clause.cells), .v (.int .i64 a0.Loan)], .v (.bool r9)]) (by decide) rfl rfl ((W_shares_ask hr10).le (.cons (.refl _) (.cons (.refl _) .nil))) ?_
      refine o_assign (v := .v (.int .i64 r10)) (by decide) rfl ?_
      refine run_nil ?_
      exact w_goto r10 (.cons (.refl _) (.cons (.refl _) (.cons (.refl _) (.cons (.refl _) .nil)))) ⟨(hS.keep [true] rfl).up (by omega), hM⟩
    · replace hM := ifF hM hb8
      refine o_guardN (j := 3) (e := r7) (want := true) (by decide) rfl hb8 ?_
      refine o_guardN (j := 3) (e := r7) (want := true) (by decide) rfl hb8 ?_
      refine o_guardN (j := 3) (e := r7) (want := true) (by decide) rfl hb8 ?_
      refine o_pickF (v := .v (.bool false)) (e := r7) (by decide) rfl hb8 rfl ?_
      obtain ⟨r11, hr11, hM⟩ := bindE hM
      refine o_call (bs := [.agg [.sl .no 4 (a0.Clauses.map Clause.cells), .v (.int .i64 a0.Loan)], .v (.bool false)]) (by decide) rfl rfl ((W_shares_ask hr11).le (.cons (.refl _) (.cons (.refl _) .nil))) ?_
      refine o_assign (v := .v (.int .i64 r11)) (by decide) rfl ?_
      refine run_nil ?_
      exact w_goto r11 (.cons (.refl _) (.cons (.refl _) (.cons (.refl _) (.cons (.refl _) .nil)))) ⟨(hS.keep [true] rfl).up (by omega), hM⟩
theorem W_ref09_Less {n : Nat} {a0 : Share} {a1 : Int} {r : Share} (hM : ref09_Less n a0 a1 = some r) : PureSat Try.prog 46 [.agg [.sl .no 4 (a0.Clauses.map Clause.cells), .v (.int .i64 a0.Loan)], .v (.int .i64 a1)] (.agg [.sl .no 4 (r.Clauses.map Clause.cells), .v (.int .i64 r.Loan)]) := by
  refine pure_of_wp mixed Try.func46 rfl (by decide) Try.ntmps46 (by simp) ?pure fun H0 g hf => ?_
  case pure => exact .agg _ (pl_cons (.sl _ _ (pures_map (fun x => (pl_cons (.v _) (pl_cons (.v _) (pl_cons (.v _) (pl_cons (.v _) pl_nil))))))) (pl_cons (.v _) pl_nil))
  rw [frame0_of]
  change wpA _ _ _ _ (Fr.of [(0, .agg [.sl .no 4 (a0.Clauses.map Clause.cells), .v (.int .i64 a0.Loan)]), (1, .v (.int .i64 a1))]) H0 g
  have hS := St.start hf
  refine r_seq ?_
  refine r_region (n := 2) rfl ?_
  refine o_box (v := .agg [.sl .no 4 (a0.Clauses.map Clause.cells), .v (.int .i64 a0.Loan)]) (cs := [.sl .no 4 (a0.Clauses.map Clause.cells), .v (.int .i64 a0.Loan)]) hS (by decide) rfl rfl (by omega) fun H hS => ?_
  refine o_alloc hS (by decide) ty_zero24 (by omega) fun H hS => ?_
  refine run_nil ?_
  refine w_ownC (cs' := [.sl (.id (g + 2)) 4 (([] : List Clause).map Clause.cells), .v (.int .i64 0)]) (L' := [(g + 1, .cells [.sl (.id (g + 2)) 4 (([] : List Clause).map Clause.cells), .v (.int .i64 0)]), (g + 0, .cells [.sl .no 4 (a0.Clauses.map Clause.cells), .v (.int .i64 a0.Loan)])]) 0 0 4 39 hS (by omega) (by decide) rfl rfl rfl rfl fun H hS => ?_
  refine w_next [(1, .v (.int .i64 a1)), (2, .ptr (g + 0) 0), (4, .ptr (g + 1) 0)] (.cons (.refl _) (.cons (.refl _) (.cons (.refl _) .nil))) ?_
  refine r_seq ?_
  refine r_region (n := 5) rfl ?_
  refine o_fieldP (by decide) ty_fo24_1 rfl ?_
  refine o_load (v := .v (.int .i64 a0.Loan)) 2 hS (by decide) rfl rfl .no (part_one ty_agg3 ty_sc3 rfl) ?_
  refine o_build (cs := [.sl .nil 0 [], .v (.int .i64 a0.Loan)]) (by decide) ty_zero24 ty_pl24 rfl ?_
  refine o_alloc hS (by decide) ty_zero24 (by omega) fun H hS => ?_
  refine o_store (v := .agg [.sl .nil 0 [], .v (.int .i64 a0.Loan)]) (ns := [.sl .nil 0 [], .v (.int .i64 a0.Loan)]) (L' := [(g + 2 + 1 + 3, .cells [.sl .nil 0 [], .v (.int .i64 a0.Loan)]), (g + 2, .row 39 0), (g + 1, .cells [.sl (.id (g + 2)) 4 (([] : List Clause).map Clause.cells), .v (.int .i64 0)]), (g + 0, .cells [.sl .no 4 (a0.Clauses.map Clause.cells), .v (.int .i64 a0.Loan)])]) 0 hS rfl rfl .no rfl rfl ty_var24 (Nat.le_of_ble_eq_true rfl) rfl fun H hS => ?_
  refine run_nil ?_
  refine w_ownC (cs' := [.sl (.id (g + 2 + 1 + 5)) 4 (([] : List Clause).map Clause.cells), .v (.int .i64 a0.Loan)]) (L' := [(g + 2 + 1 + 3, .cells [.sl (.id (g + 2 + 1 + 5)) 4 (([] : List Clause).map Clause.cells), .v (.int .i64 a0.Loan)]), (g + 2, .row 39 0), (g + 1, .cells [.sl (.id (g + 2)) 4 (([] : List Clause).map Clause.cells), .v (.int .i64 0)]), (g + 0, .cells [.sl .no 4 (a0.Clauses.map Clause.cells), .v (.int .i64 a0.Loan)])]) 0 0 4 39 hS (by omega) (by decide) rfl rfl rfl rfl fun H hS => ?_
  refine w_next [(1, .v (.int .i64 a1)), (2, .ptr (g + 0) 0), (4, .ptr (g + 1) 0), (5, .ptr (g + 2 + 1 + 3) 0)] (.cons (.refl _) (.cons (.refl _) (.cons (.refl _) (.cons (.refl _) .nil)))) ?_
  refine w_join (J := (List Clause)) (fun j => [(4, .ptr (g + 1) 0), (5, .ptr (g + 2 + 1 + 3) 0)]) (fun j H' g' => St (· < g) H0 [(g + 2 + 1 + 5, .row 39 j.length), (g + 2 + 1 + 3, .cells [.sl (.id (g + 2 + 1 + 5)) 4 (j.map Clause.cells), .v (.int .i64 a0.Loan)]), (g + 2, .row 39 ([] : List Clause).length), (g + 1, .cells [.sl (.id (g + 2)) 4 (([] : List Clause).map Clause.cells), .v (.int .i64 0)])] H' g' ∧ ref09_Less_j1 a0 j = some r) ?_ ?_
  · rintro v1 H g1 ⟨hS, hM⟩
    change wpA _ _ _ _ (Fr.of [(4, .ptr (g + 1) 0), (5, .ptr (g + 2 + 1 + 3) 0)]) _ _
    replace hS : St (· < g) H0 [(g + 2 + 1 + 5, .row 39 v1.length), (g + 2 + 1 + 3, .cells [.sl (.id (g + 2 + 1 + 5)) 4 (v1.map Clause.cells), .v (.int .i64 a0.Loan)]), (g + 2, .row 39 ([] : List Clause).length), (g + 1, .cells [.sl (.id (g + 2)) 4 (([] : List Clause).map Clause.cells), .v (.int .i64 0)])] H g1 := hS
    replace hM : ref09_Less_j1 a0 v1 = some r := hM
    refine r_seq ?_
    refine r_region (n := 2) rfl ?_
    refine o_load (v := .agg [.sl (.id (g + 2 + 1 + 5)) 4 (v1.map Clause.cells), .v (.int .i64 a0.Loan)]) 1 hS (by decide) rfl rfl .no (part_agg ty_agg24 (Nat.le_of_ble_eq_true rfl) rfl) ?_
    refine o_store (v := .agg [.sl (.id (g + 2 + 1 + 5)) 4 (v1.map Clause.cells), .v (.int .i64 a0.Loan)]) (ns := [.sl (.id (g + 2 + 1 + 5)) 4 (v1.map Clause.cells), .v (.int .i64 a0.Loan)]) (L' := [(g + 2 + 1 + 5, .row 39 v1.length), (g + 2 + 1 + 3, .cells [.sl (.id (g + 2 + 1 + 5)) 4 (v1.map Clause.cells), .v (.int .i64 a0.Loan)]), (g + 2, .row 39 ([] : List Clause).length), (g + 1, .cells [.sl (.id (g + 2 + 1 + 5)) 4 (v1.map Clause.cells), .v (.int .i64 a0.Loan)])]) 3 hS rfl rfl .no rfl rfl ty_var24 (Nat.le_of_ble_eq_true rfl) rfl fun H hS => ?_
    refine run_nil ?_
    replace hS := hS.keep (L' := [(g + 2 + 1 + 5, .row 39 v1.length), (g + 1, .cells [.sl (.id (g + 2 + 1 + 5)) 4 (v1.map Clause.cells), .v (.int .i64 a0.Loan)])]) [true, false, false, true] rfl
    refine w_next [(4, .ptr (g + 1) 0)] (.cons (.refl _) .nil) ?_
    refine r_ret ?_
    refine w_end (x := .agg [.sl (.id (g + 2 + 1 + 5)) 4 (v1.map Clause.cells), .v (.int .i64 a0.Loan)]) (f := fun r => .agg [.sl .no 4 (r.Clauses.map Clause.cells), .v (.int .i64 r.Loan)]) (.inr rfl) ?_ (.aggL (.cons (.sl _ _ _) (.cons (.refl _) .nil))) (Option.some.inj hM) hS
    exact (res_one (res_cell (x := .agg [.sl (.id (g + 2 + 1 + 5)) 4 (v1.map Clause.cells), .v (.int .i64 a0.Loan)]) 1 hS rfl rfl (part_agg ty_agg24 (Nat.le_of_ble_eq_true rfl) rfl)))
  · refine r_seq ?_
    refine r_region (n := 1) rfl ?_
    refine o_assign (v := .v (.int .i64 0)) (by decide) rfl ?_
    refine run_nil ?_
    refine w_next [(1, .v (.int .i64 a1)), (2, .ptr (g + 0) 0), (4, .ptr (g + 1) 0), (5, .ptr (g + 2 + 1 + 3) 0), (6, .v (.int .i64 0))] (.cons (.refl _) (.cons (.refl _) (.cons (.refl _) (.cons (.refl _) (.cons (.refl _) .nil))))) ?_
    refine r_block ?_
    refine w_loop (V := Int × (List Clause)) (fun v => [(1, .v (.int .i64 a1)), (2, .ptr (g + 0) 0), (4, .ptr (g + 1) 0), (5, .ptr (g + 2 + 1 + 3) 0), (6, .v (.int .i64 v.1))]) (fun v m3 H' g' => St (· < g) H0 [(g + 2 + 1 + 5, .row 39 v.2.length), (g + 2 + 1 + 3, .cells [.sl (.id (g + 2 + 1 + 5)) 4 (v.2.map Clause.cells), .v (.int .i64 a0.Loan)]), (g + 2, .row 39 ([] : List Clause).length), (g + 1, .cells [.sl (.id (g + 2)) 4 (([] : List Clause).map Clause.cells), .v (.int .i64 0)]), (g + 0, .cells [.sl .no 4 (a0.Clauses.map Clause.cells), .v (.int .i64 a0.Loan)])] H' g' ∧ ref09_Less_l1 a0 a1 m3 v.1 v.2 = some r) (n := n) (0, ([] : List Clause)) (.cons (.refl _) (.cons (.refl _) (.cons (.refl _) (.cons (.refl _) (.cons (.refl _) .nil))))) ⟨(hS.keep [true, true, true, true, true] rfl).up (by omega), hM⟩ ?_
    rintro ⟨v3, v4⟩ m3 H g3 ⟨hS, hM⟩
    obtain _ | m3 := m3
    · exact nomatch (show none = some _ from hM)
    change wpA _ _ _ _ (Fr.of [(1, .v (.int .i64 a1)), (2, .ptr (g + 0) 0), (4, .ptr (g + 1) 0), (5, .ptr (g + 2 + 1 + 3) 0), (6, .v (.int .i64 v3))]) _ _
    replace hS : St (· < g) H0 [(g + 2 + 1 + 5, .row 39 v4.length), (g + 2 + 1 + 3, .cells [.sl (.id (g + 2 + 1 + 5)) 4 (v4.map Clause.cells), .v (.int .i64 a0.Loan)]), (g + 2, .row 39 ([] : List Clause).length), (g + 1, .cells [.sl (.id (g + 2)) 4 (([] : List Clause).map Clause.cells), .v (.int .i64 0)]), (g + 0, .cells [.sl .no 4 (a0.Clauses.map Clause.cells), .v (.int .i64 a0.Loan)])] H g3 := hS
    replace hM : ref09_Less_l1_b a0 a1 (ref09_Less_l1 a0 a1 m3) v3 v4 = some r := hM
    refine r_seq ?_
    refine r_seq ?_
    refine r_region (n := 5) rfl ?_
    refine o_move (v := .v (.int .i64 v3)) (by decide) rfl ?_
    refine o_fieldP (by decide) ty_fo24_0 rfl ?_
    refine o_load (v := .sl .no 4 (a0.Clauses.map Clause.cells)) 4 hS (by decide) rfl rfl .no (part_one ty_agg22 ty_sc22 rfl) ?_
    refine o_len (n := a0.Clauses.length) (by decide) rfl (List.length_map _) ty_isl22 ?_
    refine o_int (v := .v (.bool (decide (v3 < (a0.Clauses.length : Int))))) (by decide) rfl rfl rfl ?_
    refine run_nil ?_
    refine w_next [(1, .v (.int .i64 a1)), (2, .ptr (g + 0) 0), (4, .ptr (g + 1) 0), (5, .ptr (g + 2 + 1 + 3) 0), (6, .v (.int .i64 v3)), (14, .v (.bool (decide (v3 < (a0.Clauses.length : Int)))))] (.cons (.refl _) (.cons (.refl _) (.cons (.refl _) (.cons (.refl _) (.cons (.refl _) (.cons (.refl _) .nil)))))) ?_
    rcases Bool.eq_false_or_eq_true (decide (v3 < (a0.Clauses.length : Int))) with hb5 | hb5
    · replace hM := ifT hM hb5
      refine w_condT (e := (decide (v3 < (a0.Clauses.length : Int)))) rfl hb5 ?_
      refine r_skip ?_
      refine w_next [(1, .v (.int .i64 a1)), (2, .ptr (g + 0) 0), (4, .ptr (g + 1) 0), (5, .ptr (g + 2 + 1 + 3) 0), (6, .v (.int .i64 v3))] (.cons (.refl _) (.cons (.refl _) (.cons (.refl _) (.cons (.refl _) (.cons (.refl _) .nil))))) ?_
      refine w_join (J := (List Clause)) (fun j => [(1, .v (.int .i64 a1)), (2, .ptr (g + 0) 0), (4, .ptr (g + 1) 0), (5, .ptr (g + 2 + 1 + 3) 0), (6, .v (.int .i64 v3))]) (fun j H' g' => St (· < g) H0 [(g + 2 + 1 + 5, .row 39 j.length), (g + 2 + 1 + 3, .cells [.sl (.id (g + 2 + 1 + 5)) 4 (j.map Clause.cells), .v (.int .i64 a0.Loan)]), (g + 2, .row 39 ([] : List Clause).length), (g + 1, .cells [.sl (.id (g + 2)) 4 (([] : List Clause).map Clause.cells), .v (.int .i64 0)]), (g + 0, .cells [.sl .no 4 (a0.Clauses.map Clause.cells), .v (.int .i64 a0.Loan)])] H' g' ∧ ref09_Less_j2 (ref09_Less_l1 a0 a1 m3) v3 j = some r) ?_ ?_
      · rintro v6 H g4 ⟨hS, hM⟩
        change wpA _ _ _ _ (Fr.of [(1, .v (.int .i64 a1)), (2, .ptr (g + 0) 0), (4, .ptr (g + 1) 0), (5, .ptr (g + 2 + 1 + 3) 0), (6, .v (.int .i64 v3))]) _ _
        replace hS : St (· < g) H0 [(g + 2 + 1 + 5, .row 39 v6.length), (g + 2 + 1 + 3, .cells [.sl (.id (g + 2 + 1 + 5)) 4 (v6.map Clause.cells), .v (.int .i64 a0.Loan)]), (g + 2, .row 39 ([] : List Clause).length), (g + 1, .cells [.sl (.id (g + 2)) 4 (([] : List Clause).map Clause.cells), .v (.int .i64 0)]), (g + 0, .cells [.sl .no 4 (a0.Clauses.map Clause.cells), .v (.int .i64 a0.Loan)])] H g4 := hS
        replace hM : ref09_Less_j2 (ref09_Less_l1 a0 a1 m3) v3 v6 = some r := hM
        refine r_region (n := 3) rfl ?_
        refine o_move (v := .v (.int .i64 v3)) (by decide) rfl ?_
        refine o_int (v := .v (.int .i64 (w64 (v3 + 1)))) (by decide) rfl rfl rfl ?_
        refine o_assign (v := .v (.int .i64 (w64 (v3 + 1)))) (by decide) rfl ?_
        refine run_nil ?_
        exact w_round (w64 (v3 + 1), v6) (Nat.lt_succ_self _) (.cons (.refl _) (.cons (.refl _) (.cons (.refl _) (.cons (.refl _) (.cons (.refl _) .nil))))) ⟨(hS.keep [true, true, true, true, true] rfl).up (by omega), hM⟩
      · refine r_block ?_
        refine r_seq ?_
        refine r_region (n := 3) rfl ?_
        refine o_move (v := .v (.int .i64 v3)) (by decide) rfl ?_
        refine o_move (v := .v (.int .i64 a1)) (by decide) rfl ?_
        refine o_int (v := .v (.bool (v3 != a1))) (by decide) rfl rfl rfl ?_
        refine run_nil ?_
        refine w_next [(1, .v (.int .i64 a1)), (2, .ptr (g + 0) 0), (4, .ptr (g + 1) 0), (5, .ptr (g + 2 + 1 + 3) 0), (6, .v (.int .i64 v3)), (19, .v (.bool (v3 != a1)))] (.cons (.refl _) (.cons (.refl _) (.cons (.refl _) (.cons (.refl _) (.cons (.refl _) (.cons (.refl _) .nil)))))) ?_
        rcases Bool.eq_false_or_eq_true (v3 != a1) with hb7 | hb7
        · replace hM := ifT hM hb7
          refine w_condT (e := (v3 != a1)) rfl hb7 ?_
          have hS0 := hS
          refine r_draw (n := 11) rfl (by kernel_rfl) ?_
          refine o_fieldP (by decide) ty_fo24_0 rfl ?_
          refine o_load (v := .sl (.id (g + 2 + 1 + 5)) 4 (v4.map Clause.cells)) 1 hS (by decide) rfl rfl (.st hS0 1 rfl (by omega)) (part_one ty_agg22 ty_sc22 rfl) ?_
          refine o_fieldP (by decide) ty_fo24_0 rfl ?_
          refine o_load (v := .sl .no 4 (a0.Clauses.map Clause.cells)) 4 hS (by decide) rfl rfl (.st hS0 4 rfl (by omega)) (part_one ty_agg22 ty_sc22 rfl) ?_
          refine o_move (v := .v (.int .i64 v3)) (by decide) rfl ?_
          obtain ⟨x8, hx8, hM⟩ := bindE hM
          refine o_index (xs := a0.Clauses) (f := Clause.cells) (z := v3) (u := x8) (by decide) rfl rfl ty_es22 hx8 ?_
          refine o_loadE (v := .agg [.v (.int .i64 x8.Kind), .v (.int .i64 x8.Cents), .v (.int .i64 x8.Part), .v (.int .i64 x8.More)]) (by decide) rfl (part_agg ty_agg39 (Nat.le_of_ble_eq_true rfl) rfl) ?_
          refine o_buildSlice (es := [[.v (.int .i64 x8.Kind), .v (.int .i64 x8.Cents), .v (.int .i64 x8.Part), .v (.int .i64 x8.More)]]) hS (by decide) ty_es22 ty_el22 rfl ty_ef22 rfl (by decide) (by omega) fun H hS => ?_
          obtain ⟨l9, hl9, hM⟩ := bindE hM
          refine o_append (xs := v4) (ys := ([x8] : List Clause)) (zs := l9) (f := Clause.cells) (L' := [(g3 + 5 + 3 + 7, .row 39 1), (g + 2 + 1 + 5, .row 39 l9.length), (g + 2 + 1 + 3, .cells [.sl (.id (g + 2 + 1 + 5)) 4 (v4.map Clause.cells), .v (.int .i64 a0.Loan)]), (g + 2, .row 39 ([] : List Clause).length), (g + 1, .cells [.sl (.id (g + 2)) 4 (([] : List Clause).map Clause.cells), .v (.int .i64 0)]), (g + 0, .cells [.sl .no 4 (a0.Clauses.map Clause.cells), .v (.int .i64 a0.Loan)])]) 1 hS (by decide) rfl rfl rfl rfl (.st hS0 0 rfl (by omega)) ty_es22 ty_el22 ty_ef22 hl9 rfl fun H hS => ?_
          refine o_fieldP (by decide) ty_fo24_0 rfl ?_
          refine o_store (v := .sl (.id (g + 2 + 1 + 5)) 4 (l9.map Clause.cells)) (ns := [.sl (.id (g + 2 + 1 + 5)) 4 (l9.map Clause.cells)]) (L' := [(g3 + 5 + 3 + 7, .row 39 1), (g + 2 + 1 + 5, .row 39 l9.length), (g + 2 + 1 + 3, .cells [.sl (.id (g + 2 + 1 + 5)) 4 (l9.map Clause.cells), .v (.int .i64 a0.Loan)]), (g + 2, .row 39 ([] : List Clause).length), (g + 1, .cells [.sl (.id (g + 2)) 4 (([] : List Clause).map Clause.cells), .v (.int .i64 0)]), (g + 0, .cells [.sl .no 4 (a0.Clauses.map Clause.cells), .v (.int .i64 a0.Loan)])]) 2 hS rfl rfl (.st hS0 1 rfl (by omega)) rfl rfl ty_var22 (Nat.le_of_ble_eq_true rfl) rfl fun H hS => ?_
          refine run_nil ?_
          refine r_blk_normal ?_
          exact w_goto l9 (.cons (.refl _) (.cons (.refl _) (.cons (.refl _) (.cons (.refl _) (.cons (.refl _) .nil))))) ⟨(hS.keep [false, true, true, true, true, true] rfl).up (by omega), hM⟩
        · replace hM := ifF hM hb7
          refine w_condF (e := (v3 != a1)) rfl hb7 ?_
          refine r_skip ?_
          refine r_blk_normal ?_
          exact w_goto v4 (.cons (.refl _) (.cons (.refl _) (.cons (.refl _) (.cons (.refl _) (.cons (.refl _) .nil))))) ⟨(hS.keep [true, true, true, true, true] rfl).up (by omega), hM⟩
    · replace hM := ifF hM hb5
      refine w_condF (e := (decide (v3 < (a0.Clauses.length : Int)))) rfl hb5 ?_
      refine r_exit ?_
      refine r_then_exit ?_
      refine w_round_exit ?_
      refine r_blk_exit ?_
      exact w_goto v4 (.cons (.refl _) (.cons (.refl _) .nil)) ⟨(hS.keep [true, true, true, true, false] rfl).up (by omega), hM⟩
theorem W_ref09_Without {n : Nat} {a0 : Share} {a1 : Int} {a2 : Int} {r : Int × Int} (hM : ref09_Without n a0 a1 a2 = some r) : PureSat Try.prog 44 [.agg [.sl .no 4 (a0.Clauses.map Clause.cells), .v (.int .i64 a0.Loan)], .v (.int .i64 a1), .v (.int .i64 a2)] (.tup [.v (.int .i64 r.1), .v (.int .i64 r.2)]) := by
  refine pure_of_wp mixed Try.func44 rfl (by decide) Try.ntmps44 (by simp) ?pure fun H0 g hf => ?_
  case pure => exact .tup _ (pl_cons (.v _) (pl_cons (.v _) pl_nil))
  rw [frame0_of]
  change wpA _ _ _ _ (Fr.of [(0, .agg [.sl .no 4 (a0.Clauses.map Clause.cells), .v (.int .i64 a0.Loan)]), (1, .v (.int .i64 a1)), (2, .v (.int .i64 a2))]) H0 g
  have hS := St.start hf
  refine r_seq ?_
  refine r_region (n := 3) rfl ?_
  refine o_box (v := .agg [.sl .no 4 (a0.Clauses.map Clause.cells), .v (.int .i64 a0.Loan)]) (cs := [.sl .no 4 (a0.Clauses.map Clause.cells), .v (.int .i64 a0.Loan)]) hS (by decide) rfl rfl (by omega) fun H hS => ?_
  refine o_assign (v := .v (.int .i64 0)) (by decide) rfl ?_
  refine o_assign (v := .v (.int .i64 0)) (by decide) rfl ?_
  refine run_nil ?_
  refine w_next [(1, .v (.int .i64 a1)), (2, .v (.int .i64 a2)), (3, .ptr (g + 0) 0)] (.cons (.refl _) (.cons (.refl _) (.cons (.refl _) .nil))) ?_
  refine r_seq ?_
  refine w_join (J := Int) (fun j => [(1, .v (.int .i64 a1)), (2, .v (.int .i64 a2)), (3, .ptr (g + 0) 0), (8, .v (.int .i64 j))]) (fun j H' g' => St (· < g) H0 [(g + 0, .cells [.sl .no 4 (a0.Clauses.map Clause.cells), .v (.int .i64 a0.Loan)])] H' g' ∧ ref09_Without_j1 n a0 a1 a2 j = some r) ?_ ?_
  · rintro v1 H g1 ⟨hS, hM⟩
    change wpA _ _ _ _ (Fr.of [(1, .v (.int .i64 a1)), (2, .v (.int .i64 a2)), (3, .ptr (g + 0) 0), (8, .v (.int .i64 v1))]) _ _
    replace hS : St (· < g) H0 [(g + 0, .cells [.sl .no 4 (a0.Clauses.map Clause.cells), .v (.int .i64 a0.Loan)])] H g1 := hS
    replace hM : ref09_Without_j1 n a0 a1 a2 v1 = some r := hM
    refine r_seq ?_
    refine r_region (n := 2) rfl ?_
    refine o_move (v := .v (.int .i64 v1)) (by decide) rfl ?_
    refine o_int (v := .v (.bool (v1 != 0))) (by decide) rfl rfl rfl ?_
    refine run_nil ?_
    refine w_next [(1, .v (.int .i64 a1)), (2, .v (.int .i64 a2)), (3, .ptr (g + 0) 0), (8, .v (.int .i64 v1)), (23, .v (.bool (v1 != 0)))] (.cons (.refl _) (.cons (.refl _) (.cons (.refl _) (.cons (.refl _) (.cons (.refl _) .nil))))) ?_
    rcases Bool.eq_false_or_eq_true (v1 != 0) with hb2 | hb2
    · replace hM := ifT hM hb2
      refine w_condT (e := (v1 != 0)) rfl hb2 ?_
      refine r_seq ?_
      refine r_region (n := 3) rfl ?_
      refine o_move (v := .v (.int .i64 v1)) (by decide) rfl ?_
      refine o_assign (v := .v (.int .i64 0)) (by decide) rfl ?_
      refine o_assign (v := .v (.int .i64 v1)) (by decide) rfl ?_
      refine run_nil ?_
      replace hS := hS.keep (L' := []) [false] rfl
      refine w_next [(6, .v (.int .i64 0)), (7, .v (.int .i64 v1))] (.cons (.refl _) (.cons (.refl _) .nil)) ?_
      refine r_ret ?_
      refine r_then_ret ?_
      refine w_end (x := .tup [.v (.int .i64 0), .v (.int .i64 v1)]) (f := fun r => .tup [.v (.int .i64 r.1), .v (.int .i64 r.2)]) (.inr rfl) ?_ (.refl _) (Option.some.inj hM) hS
      exact (res_two (res_tmp (x := .v (.int .i64 0)) rfl) (res_tmp (x := .v (.int .i64 v1)) rfl))
    · replace hM := ifF hM hb2
      refine w_condF (e := (v1 != 0)) rfl hb2 ?_
      refine r_skip ?_
      refine w_next [(1, .v (.int .i64 a1)), (2, .v (.int .i64 a2)), (3, .ptr (g + 0) 0)] (.cons (.refl _) (.cons (.refl _) (.cons (.refl _) .nil))) ?_
      refine r_seq ?_
      refine r_region (n := 9) rfl ?_
      refine o_load (v := .agg [.sl .no 4 (a0.Clauses.map Clause.cells), .v (.int .i64 a0.Loan)]) 0 hS (by decide) rfl rfl .no (part_agg ty_agg24 (Nat.le_of_ble_eq_true rfl) rfl) ?_
      refine o_move (v := .v (.int .i64 a1)) (by decide) rfl ?_
      obtain ⟨r3, hr3, hM⟩ := bindE hM
      refine o_call (bs := [.agg [.sl .no 4 (a0.Clauses.map Clause.cells), .v (.int .i64 a0.Loan)], .v (.int .i64 a1), .v (.int .i64 0)]) (by decide) rfl rfl ((W_ref09_Gone hr3).le (.cons (.refl _) (.cons (.refl _) (.cons (.refl _) .nil)))) ?_
      refine o_move (v := .tup [.sl .no 1 (r3.1.map cI), .agg [.v (.int .i64 r3.2.Operator), .v (.int .i64 r3.2.Owner), .v (.int .i64 r3.2.Repaid)]]) (by decide) rfl ?_
      refine o_extract (v := .sl .no 1 (r3.1.map cI)) (by decide) rfl rfl ?_
      refine o_extract (v := .agg [.v (.int .i64 r3.2.Operator), .v (.int .i64 r3.2.Owner), .v (.int .i64 r3.2.Repaid)]) (by decide) rfl rfl ?_
      refine o_alloc hS (by decide) ty_zero41 (by omega) fun H hS => ?_
      refine o_assign (v := .sl .no 1 (r3.1.map cI)) (by decide) rfl ?_
      refine o_store (v := .agg [.v (.int .i64 r3.2.Operator), .v (.int .i64 r3.2.Owner), .v (.int .i64 r3.2.Repaid)]) (ns := [.v (.int .i64 r3.2.Operator), .v (.int .i64 r3.2.Owner), .v (.int .i64 r3.2.Repaid)]) (L' := [(g1 + 2 + 6, .cells [.v (.int .i64 r3.2.Operator), .v (.int .i64 r3.2.Owner), .v (.int .i64 r3.2.Repaid)]), (g + 0, .cells [.sl .no 4 (a0.Clauses.map Clause.cells), .v (.int .i64 a0.Loan)])]) 0 hS rfl rfl .no rfl rfl ty_var41 (Nat.le_of_ble_eq_true rfl) rfl fun H hS => ?_
      refine run_nil ?_
      refine w_next [(1, .v (.int .i64 a1)), (2, .v (.int .i64 a2)), (3, .ptr (g + 0) 0), (10, .ptr (g1 + 2 + 6) 0)] (.cons (.refl _) (.cons (.refl _) (.cons (.refl _) (.cons (.refl _) .nil)))) ?_
      refine r_seq ?_
      refine r_region (n := 11) rfl ?_
      refine o_load (v := .agg [.sl .no 4 (a0.Clauses.map Clause.cells), .v (.int .i64 a0.Loan)]) 1 hS (by decide) rfl rfl .no (part_agg ty_agg24 (Nat.le_of_ble_eq_true rfl) rfl) ?_
      refine o_move (v := .v (.int .i64 a2)) (by decide) rfl ?_
      obtain ⟨r4, hr4, hM⟩ := bindE hM
      refine o_call (bs := [.agg [.sl .no 4 (a0.Clauses.map Clause.cells), .v (.int .i64 a0.Loan)], .v (.int .i64 a2)]) (by decide) rfl rfl ((W_ref09_Less hr4).le (.cons (.refl _) (.cons (.refl _) .nil))) ?_
      refine o_move (v := .v (.int .i64 a1)) (by decide) rfl ?_
      obtain ⟨r5, hr5, hM⟩ := bindE hM
      refine o_call (bs := [.agg [.sl .no 4 (r4.Clauses.map Clause.cells), .v (.int .i64 r4.Loan)], .v (.int .i64 a1), .v (.int .i64 0)]) (by decide) rfl rfl ((W_ref09_Gone hr5).le (.cons (.refl _) (.cons (.refl _) (.cons (.refl _) .nil)))) ?_
      refine o_move (v := .tup [.sl .no 1 (r5.1.map cI), .agg [.v (.int .i64 r5.2.Operator), .v (.int .i64 r5.2.Owner), .v (.int .i64 r5.2.Repaid)]]) (by decide) rfl ?_
      refine o_extract (v := .sl .no 1 (r5.1.map cI)) (by decide) rfl rfl ?_
      refine o_extract (v := .agg [.v (.int .i64 r5.2.Operator), .v (.int .i64 r5.2.Owner), .v (.int .i64 r5.2.Repaid)]) (by decide) rfl rfl ?_
      refine o_alloc hS (by decide) ty_zero41 (by omega) fun H hS => ?_
      refine o_assign (v := .sl .no 1 (r5.1.map cI)) (by decide) rfl ?_
      refine o_store (v := .agg [.v (.int .i64 r5.2.Operator), .v (.int .i64 r5.2.Owner), .v (.int .i64 r5.2.Repaid)]) (ns := [.v (.int .i64 r5.2.Operator), .v (.int .i64 r5.2.Owner), .v (.int .i64 r5.2.Repaid)]) (L' := [(g1 + 2 + 9 + 8, .cells [.v (.int .i64 r5.2.Operator), .v (.int .i64 r5.2.Owner), .v (.int .i64 r5.2.Repaid)]), (g1 + 2 + 6, .cells [.v (.int .i64 r3.2.Operator), .v (.int .i64 r3.2.Owner), .v (.int .i64 r3.2.Repaid)]), (g + 0, .cells [.sl .no 4 (a0.Clauses.map Clause.cells), .v (.int .i64 a0.Loan)])]) 0 hS rfl rfl .no rfl rfl ty_var41 (Nat.le_of_ble_eq_true rfl) rfl fun H hS => ?_
      refine run_nil ?_
      replace hS := hS.keep (L' := [(g1 + 2 + 9 + 8, .cells [.v (.int .i64 r5.2.Operator), .v (.int .i64 r5.2.Owner), .v (.int .i64 r5.2.Repaid)]), (g1 + 2 + 6, .cells [.v (.int .i64 r3.2.Operator), .v (.int .i64 r3.2.Owner), .v (.int .i64 r3.2.Repaid)])]) [true, true, false] rfl
      refine w_next [(10, .ptr (g1 + 2 + 6) 0), (12, .ptr (g1 + 2 + 9 + 8) 0)] (.cons (.refl _) (.cons (.refl _) .nil)) ?_
      refine r_seq ?_
      refine r_region (n := 7) rfl ?_
      refine o_fieldP (by decide) ty_fo41_1 rfl ?_
      refine o_load (v := .v (.int .i64 r5.2.Owner)) 0 hS (by decide) rfl rfl .no (part_one ty_agg3 ty_sc3 rfl) ?_
      refine o_fieldP (by decide) ty_fo41_1 rfl ?_
      refine o_load (v := .v (.int .i64 r3.2.Owner)) 1 hS (by decide) rfl rfl .no (part_one ty_agg3 ty_sc3 rfl) ?_
      refine o_int (v := .v (.int .i64 (w64 (r5.2.Owner - r3.2.Owner)))) (by decide) rfl rfl rfl ?_
      refine o_assign (v := .v (.int .i64 (w64 (r5.2.Owner - r3.2.Owner)))) (by decide) rfl ?_
      refine o_assign (v := .v (.int .i64 0)) (by decide) rfl ?_
      refine run_nil ?_
      replace hS := hS.keep (L' := []) [false, false] rfl
      refine w_next [(6, .v (.int .i64 (w64 (r5.2.Owner - r3.2.Owner)))), (7, .v (.int .i64 0))] (.cons (.refl _) (.cons (.refl _) .nil)) ?_
      refine r_ret ?_
      refine w_end (x := .tup [.v (.int .i64 (w64 (r5.2.Owner - r3.2.Owner))), .v (.int .i64 0)]) (f := fun r => .tup [.v (.int .i64 r.1), .v (.int .i64 r.2)]) (.inr rfl) ?_ (.refl _) (Option.some.inj hM) hS
      exact (res_two (res_tmp (x := .v (.int .i64 (w64 (r5.2.Owner - r3.2.Owner)))) rfl) (res_tmp (x := .v (.int .i64 0)) rfl))
  · have hS0 := hS
    refine r_draw (n := 10) rfl (by kernel_rfl) ?_
    refine o_load (v := .agg [.sl .no 4 (a0.Clauses.map Clause.cells), .v (.int .i64 a0.Loan)]) 0 hS (by decide) rfl rfl (.st hS0 0 rfl (by omega)) (part_agg ty_agg24 (Nat.le_of_ble_eq_true rfl) rfl) ?_
    refine o_move (v := .v (.int .i64 a1)) (by decide) rfl ?_
    obtain ⟨r6, hr6, hM⟩ := bindE hM
    refine o_call (bs := [.v (.int .i64 a1)]) (by decide) rfl rfl ((W_ref09_IsCents hr6).le (.cons (.refl _) .nil)) ?_
    refine o_move (v := .v (.bool r6)) (by decide) rfl ?_
    rcases Bool.eq_false_or_eq_true r6 with hb7 | hb7
    · replace hM := ifT hM hb7
      refine o_guardY (j := 3) (e := r6) (want := true) rfl hb7 ?_
      refine o_load (v := .agg [.sl .no 4 (a0.Clauses.map Clause.cells), .v (.int .i64 a0.Loan)]) 0 hS (by decide) rfl rfl (.st hS0 0 rfl (by omega)) (part_agg ty_agg24 (Nat.le_of_ble_eq_true rfl) rfl) ?_
      refine o_guardY (j := 3) (e := r6) (want := true) rfl hb7 ?_
      refine o_move (v := .v (.int .i64 a2)) (by decide) rfl ?_
      refine o_guardY (j := 3) (e := r6) (want := true) rfl hb7 ?_
      obtain ⟨r8, hr8, hM⟩ := bindE hM
      refine o_call (bs := [.agg [.sl .no 4 (a0.Clauses.map Clause.cells), .v (.int .i64 a0.Loan)], .v (.int .i64 a2)]) (by decide) rfl rfl ((W_ref09_IsClause hr8).le (.cons (.refl _) (.cons (.refl _) .nil))) ?_
      refine o_pickT (v := .v (.bool r8)) (e := r6) (by decide) rfl hb7 rfl ?_
      obtain ⟨r9, hr9, hM⟩ := bindE hM
      refine o_call (bs := [.agg [.sl .no 4 (a0.Clauses.map Clause.cells), .v (.int .i64 a0.Loan)], .v (.bool r8)]) (by decide) rfl rfl ((W_ref09_ask hr9).le (.cons (.refl _) (.cons (.refl _) .nil))) ?_
      refine o_assign (v := .v (.int .i64 r9)) (by decide) rfl ?_
      refine run_nil ?_
      exact w_goto r9 (.cons (.refl _) (.cons (.refl _) (.cons (.refl _) (.cons (.refl _) .nil)))) ⟨(hS.keep [true] rfl).up (by omega), hM⟩
    · replace hM := ifF hM hb7
      refine o_guardN (j := 3) (e := r6) (want := true) (by decide) rfl hb7 ?_
      refine o_guardN (j := 3) (e := r6) (want := true) (by decide) rfl hb7 ?_
      refine o_guardN (j := 3) (e := r6) (want := true) (by decide) rfl hb7 ?_
      refine o_pickF (v := .v (.bool false)) (e := r6) (by decide) rfl hb7 rfl ?_
      obtain ⟨r10, hr10, hM⟩ := bindE hM
      refine o_call (bs := [.agg [.sl .no 4 (a0.Clauses.map Clause.cells), .v (.int .i64 a0.Loan)], .v (.bool false)]) (by decide) rfl rfl ((W_ref09_ask hr10).le (.cons (.refl _) (.cons (.refl _) .nil))) ?_
      refine o_assign (v := .v (.int .i64 r10)) (by decide) rfl ?_
      refine run_nil ?_
      exact w_goto r10 (.cons (.refl _) (.cons (.refl _) (.cons (.refl _) (.cons (.refl _) .nil)))) ⟨(hS.keep [true] rfl).up (by omega), hM⟩
theorem W_law09_SharesWeek {n : Nat} {a0 : Share} {a1 : Ask_} {r : Bool} (hM : law09_SharesWeek n a0 a1 = some r) : PureSat Try.prog 12 [.agg [.sl .no 4 (a0.Clauses.map Clause.cells), .v (.int .i64 a0.Loan)], .agg [.v (.int .i64 a1.Takings), .v (.int .i64 a1.Gift), .v (.int .i64 a1.Clause)]] (.v (.bool r)) := by
  refine pure_of_wp mixed Try.func12 rfl (by decide) Try.ntmps12 (by simp) ?pure fun H0 g hf => ?_
  case pure => exact .v _
  rw [frame0_of]
  change wpA _ _ _ _ (Fr.of [(0, .agg [.sl .no 4 (a0.Clauses.map Clause.cells), .v (.int .i64 a0.Loan)]), (1, .agg [.v (.int .i64 a1.Takings), .v (.int .i64 a1.Gift), .v (.int .i64 a1.Clause)])]) H0 g
  have hS := St.start hf
  refine r_seq ?_
  refine r_region (n := 3) rfl ?_
  refine o_box (v := .agg [.sl .no 4 (a0.Clauses.map Clause.cells), .v (.int .i64 a0.Loan)]) (cs := [.sl .no 4 (a0.Clauses.map Clause.cells), .v (.int .i64 a0.Loan)]) hS (by decide) rfl rfl (by omega) fun H hS => ?_
  refine o_box (v := .agg [.v (.int .i64 a1.Takings), .v (.int .i64 a1.Gift), .v (.int .i64 a1.Clause)]) (cs := [.v (.int .i64 a1.Takings), .v (.int .i64 a1.Gift), .v (.int .i64 a1.Clause)]) hS (by decide) rfl rfl (by omega) fun H hS => ?_
  refine o_assign (v := .v (.bool false)) (by decide) rfl ?_
  refine run_nil ?_
  refine w_next [(2, .ptr (g + 0) 0), (3, .ptr (g + 1) 0)] (.cons (.refl _) (.cons (.refl _) .nil)) ?_
  refine r_seq ?_
  refine r_seq ?_
  refine r_region (n := 2) rfl ?_
  refine o_load (v := .agg [.sl .no 4 (a0.Clauses.map Clause.cells), .v (.int .i64 a0.Loan)]) 1 hS (by decide) rfl rfl .no (part_agg ty_agg24 (Nat.le_of_ble_eq_true rfl) rfl) ?_
  obtain ⟨r1, hr1, hM⟩ := bindE hM
  refine o_call (bs := [.agg [.sl .no 4 (a0.Clauses.map Clause.cells), .v (.int .i64 a0.Loan)]]) (by decide) rfl rfl ((W_law09_far hr1).le (.cons (.refl _) .nil)) ?_
  refine run_nil ?_
  refine w_next [(2, .ptr (g + 0) 0), (3, .ptr (g + 1) 0), (19, .v (.bool r1))] (.cons (.refl _) (.cons (.refl _) (.cons (.refl _) .nil))) ?_
  rcases Bool.eq_false_or_eq_true r1 with hb2 | hb2
  · replace hM := ifT hM hb2
    refine w_condT (e := r1) rfl hb2 ?_
    refine r_seq ?_
    refine r_region (n := 2) rfl ?_
    obtain ⟨r3, hr3, hM⟩ := bindE hM
    refine o_call (bs := []) (by decide) rfl rfl ((W_law09_works hr3).le .nil) ?_
    refine o_assign (v := .v (.bool r3)) (by decide) rfl ?_
    refine run_nil ?_
    replace hS := hS.keep (L' := []) [false, false] rfl
    refine w_next [(4, .v (.bool r3))] (.cons (.refl _) .nil) ?_
    refine r_ret ?_
    refine r_then_ret ?_
    refine w_end (x := .v (.bool r3)) (f := fun r => .v (.bool r)) (.inr rfl) ?_ (.refl _) (Option.some.inj hM) hS
    exact (res_one (res_tmp (x := .v (.bool r3)) rfl))
  · replace hM := ifF hM hb2
    refine w_condF (e := r1) rfl hb2 ?_
    refine r_skip ?_
    refine w_next [(2, .ptr (g + 0) 0), (3, .ptr (g + 1) 0)] (.cons (.refl _) (.cons (.refl _) .nil)) ?_
    refine r_seq ?_
    refine r_region (n := 4) rfl ?_
    refine o_load (v := .agg [.sl .no 4 (a0.Clauses.map Clause.cells), .v (.int .i64 a0.Loan)]) 1 hS (by decide) rfl rfl .no (part_agg ty_agg24 (Nat.le_of_ble_eq_true rfl) rfl) ?_
    obtain ⟨r4, hr4, hM⟩ := bindE hM
    refine o_call (bs := [.agg [.sl .no 4 (a0.Clauses.map Clause.cells), .v (.int .i64 a0.Loan)]]) (by decide) rfl rfl ((W_ref09_Copy hr4).le (.cons (.refl _) .nil)) ?_
    refine o_alloc hS (by decide) ty_zero24 (by omega) fun H hS => ?_
    refine o_store (v := .agg [.sl .no 4 (r4.Clauses.map Clause.cells), .v (.int .i64 r4.Loan)]) (ns := [.sl .no 4 (r4.Clauses.map Clause.cells), .v (.int .i64 r4.Loan)]) (L' := [(g + 3 + 2 + 2, .cells [.sl .no 4 (r4.Clauses.map Clause.cells), .v (.int .i64 r4.Loan)]), (g + 1, .cells [.v (.int .i64 a1.Takings), .v (.int .i64 a1.Gift), .v (.int .i64 a1.Clause)]), (g + 0, .cells [.sl .no 4 (a0.Clauses.map Clause.cells), .v (.int .i64 a0.Loan)])]) 0 hS rfl rfl .no rfl rfl ty_var24 (Nat.le_of_ble_eq_true rfl) rfl fun H hS => ?_
    refine run_nil ?_
    refine w_next [(2, .ptr (g + 0) 0), (3, .ptr (g + 1) 0), (5, .ptr (g + 3 + 2 + 2) 0)] (.cons (.refl _) (.cons (.refl _) (.cons (.refl _) .nil))) ?_
    refine r_seq ?_
    refine r_seq ?_
    have hS0 := hS
    refine r_draw (n := 5) rfl (by kernel_rfl) ?_
    refine o_load (v := .agg [.sl .no 4 (r4.Clauses.map Clause.cells), .v (.int .i64 r4.Loan)]) 0 hS (by decide) rfl rfl (.st hS0 0 rfl (by omega)) (part_agg ty_agg24 (Nat.le_of_ble_eq_true rfl) rfl) ?_
    obtain ⟨r5, hr5, hM⟩ := bindE hM
    refine o_call (bs := [.agg [.sl .no 4 (r4.Clauses.map Clause.cells), .v (.int .i64 r4.Loan)]]) (by decide) rfl rfl ((W_shares_Check hr5).le (.cons (.refl _) .nil)) ?_
    refine o_load (v := .agg [.sl .no 4 (a0.Clauses.map Clause.cells), .v (.int .i64 a0.Loan)]) 2 hS (by decide) rfl rfl (.st hS0 2 rfl (by omega)) (part_agg ty_agg24 (Nat.le_of_ble_eq_true rfl) rfl) ?_
    obtain ⟨r6, hr6, hM⟩ := bindE hM
    refine o_call (bs := [.agg [.sl .no 4 (a0.Clauses.map Clause.cells), .v (.int .i64 a0.Loan)]]) (by decide) rfl rfl ((W_ref09_Check hr6).le (.cons (.refl _) .nil)) ?_
    refine o_int (v := .v (.bool (r5 != r6))) (by decide) rfl rfl rfl ?_
    refine run_nil ?_
    refine w_next [(2, .ptr (g + 0) 0), (3, .ptr (g + 1) 0), (5, .ptr (g + 3 + 2 + 2) 0), (27, .v (.bool (r5 != r6)))] (.cons (.refl _) (.cons (.refl _) (.cons (.refl _) (.cons (.refl _) .nil)))) ?_
    rcases Bool.eq_false_or_eq_true (r5 != r6) with hb7 | hb7
    · replace hM := ifT hM hb7
      refine w_condT (e := (r5 != r6)) rfl hb7 ?_
      refine r_seq ?_
      refine r_region (n := 1) rfl ?_
      refine o_assign (v := .v (.bool false)) (by decide) rfl ?_
      refine run_nil ?_
      replace hS := hS.keep (L' := []) [false, false, false] rfl
      refine w_next [(4, .v (.bool false))] (.cons (.refl _) .nil) ?_
      refine r_ret ?_
      refine r_then_ret ?_
      refine w_end (x := .v (.bool false)) (f := fun r => .v (.bool r)) (.inr rfl) ?_ (.refl _) (Option.some.inj hM) hS
      exact (res_one (res_tmp (x := .v (.bool false)) rfl))
    · replace hM := ifF hM hb7
      refine w_condF (e := (r5 != r6)) rfl hb7 ?_
      refine r_skip ?_
      refine w_next [(2, .ptr (g + 0) 0), (3, .ptr (g + 1) 0), (5, .ptr (g + 3 + 2 + 2) 0)] (.cons (.refl _) (.cons (.refl _) (.cons (.refl _) .nil))) ?_
      refine r_seq ?_
      refine r_region (n := 10) rfl ?_
      refine o_load (v := .agg [.sl .no 4 (r4.Clauses.map Clause.cells), .v (.int .i64 r4.Loan)]) 0 hS (by decide) rfl rfl .no (part_agg ty_agg24 (Nat.le_of_ble_eq_true rfl) rfl) ?_
      refine o_fieldP (by decide) ty_fo50_0 rfl ?_
      refine o_load (v := .v (.int .i64 a1.Takings)) 1 hS (by decide) rfl rfl .no (part_one ty_agg3 ty_sc3 rfl) ?_
      obtain ⟨r8, hr8, hM⟩ := bindE hM
      refine o_call (bs := [.agg [.sl .no 4 (r4.Clauses.map Clause.cells), .v (.int .i64 r4.Loan)], .v (.int .i64 a1.Takings)]) (by decide) rfl rfl ((W_shares_Week hr8).le (.cons (.refl _) (.cons (.refl _) .nil))) ?_
      refine o_move (v := .tup [.agg [.v (.int .i64 r8.1.Operator), .v (.int .i64 r8.1.Owner), .v (.int .i64 r8.1.Repaid)], .v (.int .i64 r8.2)]) (by decide) rfl ?_
      refine o_extract (v := .agg [.v (.int .i64 r8.1.Operator), .v (.int .i64 r8.1.Owner), .v (.int .i64 r8.1.Repaid)]) (by decide) rfl rfl ?_
      refine o_extract (v := .v (.int .i64 r8.2)) (by decide) rfl rfl ?_
      refine o_alloc hS (by decide) ty_zero41 (by omega) fun H hS => ?_
      refine o_store (v := .agg [.v (.int .i64 r8.1.Operator), .v (.int .i64 r8.1.Owner), .v (.int .i64 r8.1.Repaid)]) (ns := [.v (.int .i64 r8.1.Operator), .v (.int .i64 r8.1.Owner), .v (.int .i64 r8.1.Repaid)]) (L' := [(g + 3 + 2 + 4 + 5 + 7, .cells [.v (.int .i64 r8.1.Operator), .v (.int .i64 r8.1.Owner), .v (.int .i64 r8.1.Repaid)]), (g + 3 + 2 + 2, .cells [.sl .no 4 (r4.Clauses.map Clause.cells), .v (.int .i64 r4.Loan)]), (g + 1, .cells [.v (.int .i64 a1.Takings), .v (.int .i64 a1.Gift), .v (.int .i64 a1.Clause)]), (g + 0, .cells [.sl .no 4 (a0.Clauses.map Clause.cells), .v (.int .i64 a0.Loan)])]) 0 hS rfl rfl .no rfl rfl ty_var41 (Nat.le_of_ble_eq_true rfl) rfl fun H hS => ?_
      refine o_assign (v := .v (.int .i64 r8.2)) (by decide) rfl ?_
      refine run_nil ?_
      refine w_next [(2, .ptr (g + 0) 0), (3, .ptr (g + 1) 0), (5, .ptr (g + 3 + 2 + 2) 0), (6, .ptr (g + 3 + 2 + 4 + 5 + 7) 0), (7, .v (.int .i64 r8.2))] (.cons (.refl _) (.cons (.refl _) (.cons (.refl _) (.cons (.refl _) (.cons (.refl _) .nil))))) ?_
      refine r_seq ?_
      refine r_region (n := 10) rfl ?_
      refine o_load (v := .agg [.sl .no 4 (a0.Clauses.map Clause.cells), .v (.int .i64 a0.Loan)]) 3 hS (by decide) rfl rfl .no (part_agg ty_agg24 (Nat.le_of_ble_eq_true rfl) rfl) ?_
      refine o_fieldP (by decide) ty_fo50_0 rfl ?_
      refine o_load (v := .v (.int .i64 a1.Takings)) 2 hS (by decide) rfl rfl .no (part_one ty_agg3 ty_sc3 rfl) ?_
      obtain ⟨r9, hr9, hM⟩ := bindE hM
      refine o_call (bs := [.agg [.sl .no 4 (a0.Clauses.map Clause.cells), .v (.int .i64 a0.Loan)], .v (.int .i64 a1.Takings)]) (by decide) rfl rfl ((W_ref09_Week hr9).le (.cons (.refl _) (.cons (.refl _) .nil))) ?_
      refine o_move (v := .tup [.agg [.v (.int .i64 r9.1.Operator), .v (.int .i64 r9.1.Owner), .v (.int .i64 r9.1.Repaid)], .v (.int .i64 r9.2)]) (by decide) rfl ?_
      refine o_extract (v := .agg [.v (.int .i64 r9.1.Operator), .v (.int .i64 r9.1.Owner), .v (.int .i64 r9.1.Repaid)]) (by decide) rfl rfl ?_
      refine o_extract (v := .v (.int .i64 r9.2)) (by decide) rfl rfl ?_
      refine o_alloc hS (by decide) ty_zero41 (by omega) fun H hS => ?_
      refine o_store (v := .agg [.v (.int .i64 r9.1.Operator), .v (.int .i64 r9.1.Owner), .v (.int .i64 r9.1.Repaid)]) (ns := [.v (.int .i64 r9.1.Operator), .v (.int .i64 r9.1.Owner), .v (.int .i64 r9.1.Repaid)]) (L' := [(g + 3 + 2 + 4 + 5 + 10 + 7, .cells [.v (.int .i64 r9.1.Operator), .v (.int .i64 r9.1.Owner), .v (.int .i64 r9.1.Repaid)]), (g + 3 + 2 + 4 + 5 + 7, .cells [.v (.int .i64 r8.1.Operator), .v (.int .i64 r8.1.Owner), .v (.int .i64 r8.1.Repaid)]), (g + 3 + 2 + 2, .cells [.sl .no 4 (r4.Clauses.map Clause.cells), .v (.int .i64 r4.Loan)]), (g + 1, .cells [.v (.int .i64 a1.Takings), .v (.int .i64 a1.Gift), .v (.int .i64 a1.Clause)]), (g + 0, .cells [.sl .no 4 (a0.Clauses.map Clause.cells), .v (.int .i64 a0.Loan)])]) 0 hS rfl rfl .no rfl rfl ty_var41 (Nat.le_of_ble_eq_true rfl) rfl fun H hS => ?_
      refine o_assign (v := .v (.int .i64 r9.2)) (by decide) rfl ?_
      refine run_nil ?_
      refine w_next [(2, .ptr (g + 0) 0), (3, .ptr (g + 1) 0), (5, .ptr (g + 3 + 2 + 2) 0), (6, .ptr (g + 3 + 2 + 4 + 5 + 7) 0), (7, .v (.int .i64 r8.2)), (8, .ptr (g + 3 + 2 + 4 + 5 + 10 + 7) 0), (9, .v (.int .i64 r9.2))] (.cons (.refl _) (.cons (.refl _) (.cons (.refl _) (.cons (.refl _) (.cons (.refl _) (.cons (.refl _) (.cons (.refl _) .nil))))))) ?_
      refine r_seq ?_
      refine r_region (n := 12) rfl ?_
      refine o_load (v := .agg [.sl .no 4 (r4.Clauses.map Clause.cells), .v (.int .i64 r4.Loan)]) 2 hS (by decide) rfl rfl .no (part_agg ty_agg24 (Nat.le_of_ble_eq_true rfl) rfl) ?_
      refine o_fieldP (by decide) ty_fo50_0 rfl ?_
      refine o_load (v := .v (.int .i64 a1.Takings)) 3 hS (by decide) rfl rfl .no (part_one ty_agg3 ty_sc3 rfl) ?_
      refine o_fieldP (by decide) ty_fo50_1 rfl ?_
      refine o_load (v := .v (.int .i64 a1.Gift)) 3 hS (by decide) rfl rfl .no (part_one ty_agg3 ty_sc3 rfl) ?_
      obtain ⟨r10, hr10, hM⟩ := bindE hM
      refine o_call (bs := [.agg [.sl .no 4 (r4.Clauses.map Clause.cells), .v (.int .i64 r4.Loan)], .v (.int .i64 a1.Takings), .v (.int .i64 a1.Gift)]) (by decide) rfl rfl ((W_shares_Gift hr10).le (.cons (.refl _) (.cons (.refl _) (.cons (.refl _) .nil)))) ?_
      refine o_move (v := .tup [.agg [.v (.int .i64 r10.1.Operator), .v (.int .i64 r10.1.Owner), .v (.int .i64 r10.1.Repaid)], .v (.int .i64 r10.2)]) (by decide) rfl ?_
      refine o_extract (v := .agg [.v (.int .i64 r10.1.Operator), .v (.int .i64 r10.1.Owner), .v (.int .i64 r10.1.Repaid)]) (by decide) rfl rfl ?_
      refine o_extract (v := .v (.int .i64 r10.2)) (by decide) rfl rfl ?_
      refine o_alloc hS (by decide) ty_zero41 (by omega) fun H hS => ?_
      refine o_store (v := .agg [.v (.int .i64 r10.1.Operator), .v (.int .i64 r10.1.Owner), .v (.int .i64 r10.1.Repaid)]) (ns := [.v (.int .i64 r10.1.Operator), .v (.int .i64 r10.1.Owner), .v (.int .i64 r10.1.Repaid)]) (L' := [(g + 3 + 2 + 4 + 5 + 10 + 10 + 9, .cells [.v (.int .i64 r10.1.Operator), .v (.int .i64 r10.1.Owner), .v (.int .i64 r10.1.Repaid)]), (g + 3 + 2 + 4 + 5 + 10 + 7, .cells [.v (.int .i64 r9.1.Operator), .v (.int .i64 r9.1.Owner), .v (.int .i64 r9.1.Repaid)]), (g + 3 + 2 + 4 + 5 + 7, .cells [.v (.int .i64 r8.1.Operator), .v (.int .i64 r8.1.Owner), .v (.int .i64 r8.1.Repaid)]), (g + 3 + 2 + 2, .cells [.sl .no 4 (r4.Clauses.map Clause.cells), .v (.int .i64 r4.Loan)]), (g + 1, .cells [.v (.int .i64 a1.Takings), .v (.int .i64 a1.Gift), .v (.int .i64 a1.Clause)]), (g + 0, .cells [.sl .no 4 (a0.Clauses.map Clause.cells), .v (.int .i64 a0.Loan)])]) 0 hS rfl rfl .no rfl rfl ty_var41 (Nat.le_of_ble_eq_true rfl) rfl fun H hS => ?_
      refine o_assign (v := .v (.int .i64 r10.2)) (by decide) rfl ?_
      refine run_nil ?_
      refine w_next [(2, .ptr (g + 0) 0), (3, .ptr (g + 1) 0), (5, .ptr (g + 3 + 2 + 2) 0), (6, .ptr (g + 3 + 2 + 4 + 5 + 7) 0), (7, .v (.int .i64 r8.2)), (8, .ptr (g + 3 + 2 + 4 + 5 + 10 + 7) 0), (9, .v (.int .i64 r9.2)), (10, .ptr (g + 3 + 2 + 4 + 5 + 10 + 10 + 9) 0), (11, .v (.int .i64 r10.2))] (.cons (.refl _) (.cons (.refl _) (.cons (.refl _) (.cons (.refl _) (.cons (.refl _) (.cons (.refl _) (.cons (.refl _) (.cons (.refl _) (.cons (.refl _) .nil))))))))) ?_
      refine r_seq ?_
      refine r_region (n := 12) rfl ?_
      refine o_load (v := .agg [.sl .no 4 (a0.Clauses.map Clause.cells), .v (.int .i64 a0.Loan)]) 5 hS (by decide) rfl rfl .no (part_agg ty_agg24 (Nat.le_of_ble_eq_true rfl) rfl) ?_
      refine o_fieldP (by decide) ty_fo50_0 rfl ?_
      refine o_load (v := .v (.int .i64 a1.Takings)) 4 hS (by decide) rfl rfl .no (part_one ty_agg3 ty_sc3 rfl) ?_
      refine o_fieldP (by decide) ty_fo50_1 rfl ?_
      refine o_load (v := .v (.int .i64 a1.Gift)) 4 hS (by decide) rfl rfl .no (part_one ty_agg3 ty_sc3 rfl) ?_
      obtain ⟨r11, hr11, hM⟩ := bindE hM
      refine o_call (bs := [.agg [.sl .no 4 (a0.Clauses.map Clause.cells), .v (.int .i64 a0.Loan)], .v (.int .i64 a1.Takings), .v (.int .i64 a1.Gift)]) (by decide) rfl rfl ((W_ref09_Gift hr11).le (.cons (.refl _) (.cons (.refl _) (.cons (.refl _) .nil)))) ?_
      refine o_move (v := .tup [.agg [.v (.int .i64 r11.1.Operator), .v (.int .i64 r11.1.Owner), .v (.int .i64 r11.1.Repaid)], .v (.int .i64 r11.2)]) (by decide) rfl ?_
      refine o_extract (v := .agg [.v (.int .i64 r11.1.Operator), .v (.int .i64 r11.1.Owner), .v (.int .i64 r11.1.Repaid)]) (by decide) rfl rfl ?_
      refine o_extract (v := .v (.int .i64 r11.2)) (by decide) rfl rfl ?_
      refine o_alloc hS (by decide) ty_zero41 (by omega) fun H hS => ?_
      refine o_store (v := .agg [.v (.int .i64 r11.1.Operator), .v (.int .i64 r11.1.Owner), .v (.int .i64 r11.1.Repaid)]) (ns := [.v (.int .i64 r11.1.Operator), .v (.int .i64 r11.1.Owner), .v (.int .i64 r11.1.Repaid)]) (L' := [(g + 3 + 2 + 4 + 5 + 10 + 10 + 12 + 9, .cells [.v (.int .i64 r11.1.Operator), .v (.int .i64 r11.1.Owner), .v (.int .i64 r11.1.Repaid)]), (g + 3 + 2 + 4 + 5 + 10 + 10 + 9, .cells [.v (.int .i64 r10.1.Operator), .v (.int .i64 r10.1.Owner), .v (.int .i64 r10.1.Repaid)]), (g + 3 + 2 + 4 + 5 + 10 + 7, .cells [.v (.int .i64 r9.1.Operator), .v (.int .i64 r9.1.Owner), .v (.int .i64 r9.1.Repaid)]), (g + 3 + 2 + 4 + 5 + 7, .cells [.v (.int .i64 r8.1.Operator), .v (.int .i64 r8.1.Owner), .v (.int .i64 r8.1.Repaid)]), (g + 3 + 2 + 2, .cells [.sl .no 4 (r4.Clauses.map Clause.cells), .v (.int .i64 r4.Loan)]), (g + 1, .cells [.v (.int .i64 a1.Takings), .v (.int .i64 a1.Gift), .v (.int .i64 a1.Clause)]), (g + 0, .cells [.sl .no 4 (a0.Clauses.map Clause.cells), .v (.int .i64 a0.Loan)])]) 0 hS rfl rfl .no rfl rfl ty_var41 (Nat.le_of_ble_eq_true rfl) rfl fun H hS => ?_
      refine o_assign (v := .v (.int .i64 r11.2)) (by decide) rfl ?_
      refine run_nil ?_
      refine w_next [(2, .ptr (g + 0) 0), (3, .ptr (g + 1) 0), (5, .ptr (g + 3 + 2 + 2) 0), (6, .ptr (g + 3 + 2 + 4 + 5 + 7) 0), (7, .v (.int .i64 r8.2)), (8, .ptr (g + 3 + 2 + 4 + 5 + 10 + 7) 0), (9, .v (.int .i64 r9.2)), (10, .ptr (g + 3 + 2 + 4 + 5 + 10 + 10 + 9) 0), (11, .v (.int .i64 r10.2)), (12, .ptr (g + 3 + 2 + 4 + 5 + 10 + 10 + 12 + 9) 0), (13, .v (.int .i64 r11.2))] (.cons (.refl _) (.cons (.refl _) (.cons (.refl _) (.cons (.refl _) (.cons (.refl _) (.cons (.refl _) (.cons (.refl _) (.cons (.refl _) (.cons (.refl _) (.cons (.refl _) (.cons (.refl _) .nil))))))))))) ?_
      refine r_seq ?_
      refine w_join (J := Bool) (fun j => [(2, .ptr (g + 0) 0), (3, .ptr (g + 1) 0), (5, .ptr (g + 3 + 2 + 2) 0), (77, .v (.bool j))]) (fun j H' g' => St (· < g) H0 [(g + 3 + 2 + 2, .cells [.sl .no 4 (r4.Clauses.map Clause.cells), .v (.int .i64 r4.Loan)]), (g + 1, .cells [.v (.int .i64 a1.Takings), .v (.int .i64 a1.Gift), .v (.int .i64 a1.Clause)]), (g + 0, .cells [.sl .no 4 (a0.Clauses.map Clause.cells), .v (.int .i64 a0.Loan)])] H' g' ∧ law09_SharesWeek_j1 n a0 a1 r4 j = some r) ?_ ?_
      · rintro v12 H g1 ⟨hS, hM⟩
        change wpA _ _ _ _ (Fr.of [(2, .ptr (g + 0) 0), (3, .ptr (g + 1) 0), (5, .ptr (g + 3 + 2 + 2) 0), (77, .v (.bool v12))]) _ _
        replace hS : St (· < g) H0 [(g + 3 + 2 + 2, .cells [.sl .no 4 (r4.Clauses.map Clause.cells), .v (.int .i64 r4.Loan)]), (g + 1, .cells [.v (.int .i64 a1.Takings), .v (.int .i64 a1.Gift), .v (.int .i64 a1.Clause)]), (g + 0, .cells [.sl .no 4 (a0.Clauses.map Clause.cells), .v (.int .i64 a0.Loan)])] H g1 := hS
        replace hM : law09_SharesWeek_j1 n a0 a1 r4 v12 = some r := hM
        rcases Bool.eq_false_or_eq_true v12 with hb13 | hb13
        · replace hM := ifT hM hb13
          refine w_condT (e := v12) rfl hb13 ?_
          refine r_seq ?_
          refine r_region (n := 1) rfl ?_
          refine o_assign (v := .v (.bool false)) (by decide) rfl ?_
          refine run_nil ?_
          replace hS := hS.keep (L' := []) [false, false, false] rfl
          refine w_next [(4, .v (.bool false))] (.cons (.refl _) .nil) ?_
          refine r_ret ?_
          refine r_then_ret ?_
          refine w_end (x := .v (.bool false)) (f := fun r => .v (.bool r)) (.inr rfl) ?_ (.refl _) (Option.some.inj hM) hS
          exact (res_one (res_tmp (x := .v (.bool false)) rfl))
        · replace hM := ifF hM hb13
          refine w_condF (e := v12) rfl hb13 ?_
          refine r_skip ?_
          refine w_next [(2, .ptr (g + 0) 0), (3, .ptr (g + 1) 0), (5, .ptr (g + 3 + 2 + 2) 0)] (.cons (.refl _) (.cons (.refl _) (.cons (.refl _) .nil))) ?_
          refine r_seq ?_
          refine r_region (n := 11) rfl ?_
          refine o_load (v := .agg [.sl .no 4 (r4.Clauses.map Clause.cells), .v (.int .i64 r4.Loan)]) 0 hS (by decide) rfl rfl .no (part_agg ty_agg24 (Nat.le_of_ble_eq_true rfl) rfl) ?_
          refine o_fieldP (by decide) ty_fo50_0 rfl ?_
          refine o_load (v := .v (.int .i64 a1.Takings)) 1 hS (by decide) rfl rfl .no (part_one ty_agg3 ty_sc3 rfl) ?_
          refine o_fieldP (by decide) ty_fo50_2 rfl ?_
          refine o_load (v := .v (.int .i64 a1.Clause)) 1 hS (by decide) rfl rfl .no (part_one ty_agg3 ty_sc3 rfl) ?_
          obtain ⟨r14, hr14, hM⟩ := bindE hM
          refine o_call (bs := [.agg [.sl .no 4 (r4.Clauses.map Clause.cells), .v (.int .i64 r4.Loan)], .v (.int .i64 a1.Takings), .v (.int .i64 a1.Clause)]) (by decide) rfl rfl ((W_shares_Gives hr14).le (.cons (.refl _) (.cons (.refl _) (.cons (.refl _) .nil)))) ?_
          refine o_move (v := .tup [.v (.int .i64 r14.1), .v (.int .i64 r14.2)]) (by decide) rfl ?_
          refine o_extract (v := .v (.int .i64 r14.1)) (by decide) rfl rfl ?_
          refine o_extract (v := .v (.int .i64 r14.2)) (by decide) rfl rfl ?_
          refine o_assign (v := .v (.int .i64 r14.1)) (by decide) rfl ?_
          refine o_assign (v := .v (.int .i64 r14.2)) (by decide) rfl ?_
          refine run_nil ?_
          refine w_next [(2, .ptr (g + 0) 0), (3, .ptr (g + 1) 0), (5, .ptr (g + 3 + 2 + 2) 0), (7, .v (.int .i64 r14.2)), (14, .v (.int .i64 r14.1))] (.cons (.refl _) (.cons (.refl _) (.cons (.refl _) (.cons (.refl _) (.cons (.refl _) .nil))))) ?_
          refine r_seq ?_
          refine r_region (n := 11) rfl ?_
          refine o_load (v := .agg [.sl .no 4 (a0.Clauses.map Clause.cells), .v (.int .i64 a0.Loan)]) 2 hS (by decide) rfl rfl .no (part_agg ty_agg24 (Nat.le_of_ble_eq_true rfl) rfl) ?_
          refine o_fieldP (by decide) ty_fo50_0 rfl ?_
          refine o_load (v := .v (.int .i64 a1.Takings)) 1 hS (by decide) rfl rfl .no (part_one ty_agg3 ty_sc3 rfl) ?_
          refine o_fieldP (by decide) ty_fo50_2 rfl ?_
          refine o_load (v := .v (.int .i64 a1.Clause)) 1 hS (by decide) rfl rfl .no (part_one ty_agg3 ty_sc3 rfl) ?_
          obtain ⟨r15, hr15, hM⟩ := bindE hM
          refine o_call (bs := [.agg [.sl .no 4 (a0.Clauses.map Clause.cells), .v (.int .i64 a0.Loan)], .v (.int .i64 a1.Takings), .v (.int .i64 a1.Clause)]) (by decide) rfl rfl ((W_ref09_Gives hr15).le (.cons (.refl _) (.cons (.refl _) (.cons (.refl _) .nil)))) ?_
          refine o_move (v := .tup [.v (.int .i64 r15.1), .v (.int .i64 r15.2)]) (by decide) rfl ?_
          refine o_extract (v := .v (.int .i64 r15.1)) (by decide) rfl rfl ?_
          refine o_extract (v := .v (.int .i64 r15.2)) (by decide) rfl rfl ?_
          refine o_assign (v := .v (.int .i64 r15.1)) (by decide) rfl ?_
          refine o_assign (v := .v (.int .i64 r15.2)) (by decide) rfl ?_
          refine run_nil ?_
          refine w_next [(2, .ptr (g + 0) 0), (3, .ptr (g + 1) 0), (5, .ptr (g + 3 + 2 + 2) 0), (7, .v (.int .i64 r14.2)), (9, .v (.int .i64 r15.2)), (14, .v (.int .i64 r14.1)), (15, .v (.int .i64 r15.1))] (.cons (.refl _) (.cons (.refl _) (.cons (.refl _) (.cons (.refl _) (.cons (.refl _) (.cons (.refl _) (.cons (.refl _) .nil))))))) ?_
          refine r_seq ?_
          refine r_region (n := 11) rfl ?_
          refine o_load (v := .agg [.sl .no 4 (r4.Clauses.map Clause.cells), .v (.int .i64 r4.Loan)]) 0 hS (by decide) rfl rfl .no (part_agg ty_agg24 (Nat.le_of_ble_eq_true rfl) rfl) ?_
          refine o_fieldP (by decide) ty_fo50_0 rfl ?_
          refine o_load (v := .v (.int .i64 a1.Takings)) 1 hS (by decide) rfl rfl .no (part_one ty_agg3 ty_sc3 rfl) ?_
          refine o_fieldP (by decide) ty_fo50_2 rfl ?_
          refine o_load (v := .v (.int .i64 a1.Clause)) 1 hS (by decide) rfl rfl .no (part_one ty_agg3 ty_sc3 rfl) ?_
          obtain ⟨r16, hr16, hM⟩ := bindE hM
          refine o_call (bs := [.agg [.sl .no 4 (r4.Clauses.map Clause.cells), .v (.int .i64 r4.Loan)], .v (.int .i64 a1.Takings), .v (.int .i64 a1.Clause)]) (by decide) rfl rfl ((W_shares_Without hr16).le (.cons (.refl _) (.cons (.refl _) (.cons (.refl _) .nil)))) ?_
          refine o_move (v := .tup [.v (.int .i64 r16.1), .v (.int .i64 r16.2)]) (by decide) rfl ?_
          refine o_extract (v := .v (.int .i64 r16.1)) (by decide) rfl rfl ?_
          refine o_extract (v := .v (.int .i64 r16.2)) (by decide) rfl rfl ?_
          refine o_assign (v := .v (.int .i64 r16.1)) (by decide) rfl ?_
          refine o_assign (v := .v (.int .i64 r16.2)) (by decide) rfl ?_
          refine run_nil ?_
          refine w_next [(2, .ptr (g + 0) 0), (3, .ptr (g + 1) 0), (5, .ptr (g + 3 + 2 + 2) 0), (7, .v (.int .i64 r14.2)), (9, .v (.int .i64 r15.2)), (11, .v (.int .i64 r16.2)), (14, .v (.int .i64 r14.1)), (15, .v (.int .i64 r15.1)), (16, .v (.int .i64 r16.1))] (.cons (.refl _) (.cons (.refl _) (.cons (.refl _) (.cons (.refl _) (.cons (.refl _) (.cons (.refl _) (.cons (.refl _) (.cons (.refl _) (.cons (.refl _) .nil))))))))) ?_
          refine r_seq ?_
          refine r_region (n := 11) rfl ?_
          refine o_load (v := .agg [.sl .no 4 (a0.Clauses.map Clause.cells), .v (.int .i64 a0.Loan)]) 2 hS (by decide) rfl rfl .no (part_agg ty_agg24 (Nat.le_of_ble_eq_true rfl) rfl) ?_
          refine o_fieldP (by decide) ty_fo50_0 rfl ?_
          refine o_load (v := .v (.int .i64 a1.Takings)) 1 hS (by decide) rfl rfl .no (part_one ty_agg3 ty_sc3 rfl) ?_
          refine o_fieldP (by decide) ty_fo50_2 rfl ?_
          refine o_load (v := .v (.int .i64 a1.Clause)) 1 hS (by decide) rfl rfl .no (part_one ty_agg3 ty_sc3 rfl) ?_
          obtain ⟨r17, hr17, hM⟩ := bindE hM
          refine o_call (bs := [.agg [.sl .no 4 (a0.Clauses.map Clause.cells), .v (.int .i64 a0.Loan)], .v (.int .i64 a1.Takings), .v (.int .i64 a1.Clause)]) (by decide) rfl rfl ((W_ref09_Without hr17).le (.cons (.refl _) (.cons (.refl _) (.cons (.refl _) .nil)))) ?_
          refine o_move (v := .tup [.v (.int .i64 r17.1), .v (.int .i64 r17.2)]) (by decide) rfl ?_
          refine o_extract (v := .v (.int .i64 r17.1)) (by decide) rfl rfl ?_
          refine o_extract (v := .v (.int .i64 r17.2)) (by decide) rfl rfl ?_
          refine o_assign (v := .v (.int .i64 r17.1)) (by decide) rfl ?_
          refine o_assign (v := .v (.int .i64 r17.2)) (by decide) rfl ?_
          refine run_nil ?_
          replace hS := hS.keep (L' := [(g + 3 + 2 + 2, .cells [.sl .no 4 (r4.Clauses.map Clause.cells), .v (.int .i64 r4.Loan)]), (g + 0, .cells [.sl .no 4 (a0.Clauses.map Clause.cells), .v (.int .i64 a0.Loan)])]) [true, false, true] rfl
          refine w_next [(2, .ptr (g + 0) 0), (5, .ptr (g + 3 + 2 + 2) 0), (7, .v (.int .i64 r14.2)), (9, .v (.int .i64 r15.2)), (11, .v (.int .i64 r16.2)), (13, .v (.int .i64 r17.2)), (14, .v (.int .i64 r14.1)), (15, .v (.int .i64 r15.1)), (16, .v (.int .i64 r16.1)), (17, .v (.int .i64 r17.1))] (.cons (.refl _) (.cons (.refl _) (.cons (.refl _) (.cons (.refl _) (.cons (.refl _) (.cons (.refl _) (.cons (.refl _) (.cons (.refl _) (.cons (.refl _) (.cons (.refl _) .nil)))))))))) ?_
          refine w_join (J := Bool) (fun j => [(4, .v (.bool j))]) (fun j H' g' => St (· < g) H0 [] H' g' ∧ law09_SharesWeek_j2 j = some r) ?_ ?_
          · rintro v18 H g2 ⟨hS, hM⟩
            change wpA _ _ _ _ (Fr.of [(4, .v (.bool v18))]) _ _
            replace hS : St (· < g) H0 [] H g2 := hS
            replace hM : law09_SharesWeek_j2 v18 = some r := hM
            refine r_ret ?_
            refine w_end (x := .v (.bool v18)) (f := fun r => .v (.bool r)) (.inr rfl) ?_ (.refl _) (Option.some.inj hM) hS
            exact (res_one (res_tmp (x := .v (.bool v18)) rfl))
          · refine r_region (n := 27) rfl ?_
            refine o_move (v := .v (.int .i64 r14.1)) (by decide) rfl ?_
            refine o_move (v := .v (.int .i64 r15.1)) (by decide) rfl ?_
            refine o_int (v := .v (.bool (r14.1 == r15.1))) (by decide) rfl rfl rfl ?_
            refine o_move (v := .v (.bool (r14.1 == r15.1))) (by decide) rfl ?_
            rcases Bool.eq_false_or_eq_true (r14.1 == r15.1) with hb19 | hb19
            · replace hM := ifT hM hb19
              refine o_guardY (j := 3) (e := (r14.1 == r15.1)) (want := true) rfl hb19 ?_
              refine o_move (v := .v (.int .i64 r14.2)) (by decide) rfl ?_
              refine o_guardY (j := 3) (e := (r14.1 == r15.1)) (want := true) rfl hb19 ?_
              refine o_move (v := .v (.int .i64 r15.2)) (by decide) rfl ?_
              refine o_guardY (j := 3) (e := (r14.1 == r15.1)) (want := true) rfl hb19 ?_
              refine o_int (v := .v (.bool (r14.2 == r15.2))) (by decide) rfl rfl rfl ?_
              refine o_pickT (v := .v (.bool (r14.2 == r15.2))) (e := (r14.1 == r15.1)) (by decide) rfl hb19 rfl ?_
              refine o_move (v := .v (.bool (r14.2 == r15.2))) (by decide) rfl ?_
              rcases Bool.eq_false_or_eq_true (r14.2 == r15.2) with hb20 | hb20
              · replace hM := ifT hM hb20
                refine o_guardY (j := 8) (e := (r14.2 == r15.2)) (want := true) rfl hb20 ?_
                refine o_move (v := .v (.int .i64 r16.1)) (by decide) rfl ?_
                refine o_guardY (j := 8) (e := (r14.2 == r15.2)) (want := true) rfl hb20 ?_
                refine o_move (v := .v (.int .i64 r17.1)) (by decide) rfl ?_
                refine o_guardY (j := 8) (e := (r14.2 == r15.2)) (want := true) rfl hb20 ?_
                refine o_int (v := .v (.bool (r16.1 == r17.1))) (by decide) rfl rfl rfl ?_
                refine o_pickT (v := .v (.bool (r16.1 == r17.1))) (e := (r14.2 == r15.2)) (by decide) rfl hb20 rfl ?_
                refine o_move (v := .v (.bool (r16.1 == r17.1))) (by decide) rfl ?_
                rcases Bool.eq_false_or_eq_true (r16.1 == r17.1) with hb21 | hb21
                · replace hM := ifT hM hb21
                  refine o_guardY (j := 13) (e := (r16.1 == r17.1)) (want := true) rfl hb21 ?_
                  refine o_move (v := .v (.int .i64 r16.2)) (by decide) rfl ?_
                  refine o_guardY (j := 13) (e := (r16.1 == r17.1)) (want := true) rfl hb21 ?_
                  refine o_move (v := .v (.int .i64 r17.2)) (by decide) rfl ?_
                  refine o_guardY (j := 13) (e := (r16.1 == r17.1)) (want := true) rfl hb21 ?_
                  refine o_int (v := .v (.bool (r16.2 == r17.2))) (by decide) rfl rfl rfl ?_
                  refine o_pickT (v := .v (.bool (r16.2 == r17.2))) (e := (r16.1 == r17.1)) (by decide) rfl hb21 rfl ?_
                  refine o_move (v := .v (.bool (r16.2 == r17.2))) (by decide) rfl ?_
                  rcases Bool.eq_false_or_eq_true (r16.2 == r17.2) with hb22 | hb22
                  · replace hM := ifT hM hb22
                    refine o_guardY (j := 18) (e := (r16.2 == r17.2)) (want := true) rfl hb22 ?_
                    refine o_load (v := .agg [.sl .no 4 (r4.Clauses.map Clause.cells), .v (.int .i64 r4.Loan)]) 0 hS (by decide) rfl rfl .no (part_agg ty_agg24 (Nat.le_of_ble_eq_true rfl) rfl) ?_
                    refine o_guardY (j := 18) (e := (r16.2 == r17.2)) (want := true) rfl hb22 ?_
                    refine o_load (v := .agg [.sl .no 4 (a0.Clauses.map Clause.cells), .v (.int .i64 a0.Loan)]) 1 hS (by decide) rfl rfl .no (part_agg ty_agg24 (Nat.le_of_ble_eq_true rfl) rfl) ?_
                    refine o_guardY (j := 18) (e := (r16.2 == r17.2)) (want := true) rfl hb22 ?_
                    obtain ⟨r23, hr23, hM⟩ := bindE hM
                    refine o_call (bs := [.agg [.sl .no 4 (r4.Clauses.map Clause.cells), .v (.int .i64 r4.Loan)], .agg [.sl .no 4 (a0.Clauses.map Clause.cells), .v (.int .i64 a0.Loan)]]) (by decide) rfl rfl ((W_law09_same hr23).le (.cons (.refl _) (.cons (.refl _) .nil))) ?_
                    refine o_pickT (v := .v (.bool r23)) (e := (r16.2 == r17.2)) (by decide) rfl hb22 rfl ?_
                    refine o_move (v := .v (.bool r23)) (by decide) rfl ?_
                    rcases Bool.eq_false_or_eq_true r23 with hb24 | hb24
                    · replace hM := ifT hM hb24
                      refine o_guardY (j := 23) (e := r23) (want := true) rfl hb24 ?_
                      obtain ⟨r25, hr25, hM⟩ := bindE hM
                      refine o_call (bs := []) (by decide) rfl rfl ((W_law09_works hr25).le .nil) ?_
                      refine o_pickT (v := .v (.bool r25)) (e := r23) (by decide) rfl hb24 rfl ?_
                      refine o_assign (v := .v (.bool r25)) (by decide) rfl ?_
                      refine run_nil ?_
                      exact w_goto r25 (.cons (.refl _) .nil) ⟨(hS.keep [false, false] rfl).up (by omega), hM⟩
                    · replace hM := ifF hM hb24
                      refine o_guardN (j := 23) (e := r23) (want := true) (by decide) rfl hb24 ?_
                      refine o_pickF (v := .v (.bool false)) (e := r23) (by decide) rfl hb24 rfl ?_
                      refine o_assign (v := .v (.bool false)) (by decide) rfl ?_
                      refine run_nil ?_
                      exact w_goto false (.cons (.refl _) .nil) ⟨(hS.keep [false, false] rfl).up (by omega), hM⟩
                  · replace hM := ifF hM hb22
                    refine o_guardN (j := 18) (e := (r16.2 == r17.2)) (want := true) (by decide) rfl hb22 ?_
                    refine o_guardN (j := 18) (e := (r16.2 == r17.2)) (want := true) (by decide) rfl hb22 ?_
                    refine o_guardN (j := 18) (e := (r16.2 == r17.2)) (want := true) (by decide) rfl hb22 ?_
                    refine o_pickF (v := .v (.bool false)) (e := (r16.2 == r17.2)) (by decide) rfl hb22 rfl ?_
                    refine o_move (v := .v (.bool false)) (by decide) rfl ?_
                    refine o_guardN (j := 23) (e := false) (want := true) (by decide) rfl rfl ?_
                    refine o_pickF (v := .v (.bool false)) (e := false) (by decide) rfl rfl rfl ?_
                    refine o_assign (v := .v (.bool false)) (by decide) rfl ?_
                    refine run_nil ?_
                    exact w_goto false (.cons (.refl _) .nil) ⟨(hS.keep [false, false] rfl).up (by omega), hM⟩
                · replace hM := ifF hM hb21
                  refine o_guardN (j := 13) (e := (r16.1 == r17.1)) (want := true) (by decide) rfl hb21 ?_
                  refine o_guardN (j := 13) (e := (r16.1 == r17.1)) (want := true) (by decide) rfl hb21 ?_
                  refine o_guardN (j := 13) (e := (r16.1 == r17.1)) (want := true) (by decide) rfl hb21 ?_
                  refine o_pickF (v := .v (.bool false)) (e := (r16.1 == r17.1)) (by decide) rfl hb21 rfl ?_
                  refine o_move (v := .v (.bool false)) (by decide) rfl ?_
                  refine o_guardN (j := 18) (e := false) (want := true) (by decide) rfl rfl ?_
                  refine o_guardN (j := 18) (e := false) (want := true) (by decide) rfl rfl ?_
                  refine o_guardN (j := 18) (e := false) (want := true) (by decide) rfl rfl ?_
                  refine o_pickF (v := .v (.bool false)) (e := false) (by decide) rfl rfl rfl ?_
                  refine o_move (v := .v (.bool false)) (by decide) rfl ?_
                  refine o_guardN (j := 23) (e := false) (want := true) (by decide) rfl rfl ?_
                  refine o_pickF (v := .v (.bool false)) (e := false) (by decide) rfl rfl rfl ?_
                  refine o_assign (v := .v (.bool false)) (by decide) rfl ?_
                  refine run_nil ?_
                  exact w_goto false (.cons (.refl _) .nil) ⟨(hS.keep [false, false] rfl).up (by omega), hM⟩
              · replace hM := ifF hM hb20
                refine o_guardN (j := 8) (e := (r14.2 == r15.2)) (want := true) (by decide) rfl hb20 ?_
                refine o_guardN (j := 8) (e := (r14.2 == r15.2)) (want := true) (by decide) rfl hb20 ?_
                refine o_guardN (j := 8) (e := (r14.2 == r15.2)) (want := true) (by decide) rfl hb20 ?_
                refine o_pickF (v := .v (.bool false)) (e := (r14.2 == r15.2)) (by decide) rfl hb20 rfl ?_
                refine o_move (v := .v (.bool false)) (by decide) rfl ?_
                refine o_guardN (j := 13) (e := false) (want := true) (by decide) rfl rfl ?_
                refine o_guardN (j := 13) (e := false) (want := true) (by decide) rfl rfl ?_
                refine o_guardN (j := 13) (e := false) (want := true) (by decide) rfl rfl ?_
                refine o_pickF (v := .v (.bool false)) (e := false) (by decide) rfl rfl rfl ?_
                refine o_move (v := .v (.bool false)) (by decide) rfl ?_
                refine o_guardN (j := 18) (e := false) (want := true) (by decide) rfl rfl ?_
                refine o_guardN (j := 18) (e := false) (want := true) (by decide) rfl rfl ?_
                refine o_guardN (j := 18) (e := false) (want := true) (by decide) rfl rfl ?_
                refine o_pickF (v := .v (.bool false)) (e := false) (by decide) rfl rfl rfl ?_
                refine o_move (v := .v (.bool false)) (by decide) rfl ?_
                refine o_guardN (j := 23) (e := false) (want := true) (by decide) rfl rfl ?_
                refine o_pickF (v := .v (.bool false)) (e := false) (by decide) rfl rfl rfl ?_
                refine o_assign (v := .v (.bool false)) (by decide) rfl ?_
                refine run_nil ?_
                exact w_goto false (.cons (.refl _) .nil) ⟨(hS.keep [false, false] rfl).up (by omega), hM⟩
            · replace hM := ifF hM hb19
              refine o_guardN (j := 3) (e := (r14.1 == r15.1)) (want := true) (by decide) rfl hb19 ?_
              refine o_guardN (j := 3) (e := (r14.1 == r15.1)) (want := true) (by decide) rfl hb19 ?_
              refine o_guardN (j := 3) (e := (r14.1 == r15.1)) (want := true) (by decide) rfl hb19 ?_
              refine o_pickF (v := .v (.bool false)) (e := (r14.1 == r15.1)) (by decide) rfl hb19 rfl ?_
              refine o_move (v := .v (.bool false)) (by decide) rfl ?_
              refine o_guardN (j := 8) (e := false) (want := true) (by decide) rfl rfl ?_
              refine o_guardN (j := 8) (e := false) (want := true) (by decide) rfl rfl ?_
              refine o_guardN (j := 8) (e := false) (want := true) (by decide) rfl rfl ?_
              refine o_pickF (v := .v (.bool false)) (e := false) (by decide) rfl rfl rfl ?_
              refine o_move (v := .v (.bool false)) (by decide) rfl ?_
              refine o_guardN (j := 13) (e := false) (want := true) (by decide) rfl rfl ?_
              refine o_guardN (j := 13) (e := false) (want := true) (by decide) rfl rfl ?_
              refine o_guardN (j := 13) (e := false) (want := true) (by decide) rfl rfl ?_
              refine o_pickF (v := .v (.bool false)) (e := false) (by decide) rfl rfl rfl ?_
              refine o_move (v := .v (.bool false)) (by decide) rfl ?_
              refine o_guardN (j := 18) (e := false) (want := true) (by decide) rfl rfl ?_
              refine o_guardN (j := 18) (e := false) (want := true) (by decide) rfl rfl ?_
              refine o_guardN (j := 18) (e := false) (want := true) (by decide) rfl rfl ?_
              refine o_pickF (v := .v (.bool false)) (e := false) (by decide) rfl rfl rfl ?_
              refine o_move (v := .v (.bool false)) (by decide) rfl ?_
              refine o_guardN (j := 23) (e := false) (want := true) (by decide) rfl rfl ?_
              refine o_pickF (v := .v (.bool false)) (e := false) (by decide) rfl rfl rfl ?_
              refine o_assign (v := .v (.bool false)) (by decide) rfl ?_
              refine run_nil ?_
              exact w_goto false (.cons (.refl _) .nil) ⟨(hS.keep [false, false] rfl).up (by omega), hM⟩
      · refine r_region (n := 18) rfl ?_
        refine o_load (v := .agg [.v (.int .i64 r8.1.Operator), .v (.int .i64 r8.1.Owner), .v (.int .i64 r8.1.Repaid)]) 3 hS (by decide) rfl rfl .no (part_agg ty_agg41 (Nat.le_of_ble_eq_true rfl) rfl) ?_
        refine o_load (v := .agg [.v (.int .i64 r9.1.Operator), .v (.int .i64 r9.1.Owner), .v (.int .i64 r9.1.Repaid)]) 2 hS (by decide) rfl rfl .no (part_agg ty_agg41 (Nat.le_of_ble_eq_true rfl) rfl) ?_
        refine o_neS (cs := [.v (.int .i64 r8.1.Operator), .v (.int .i64 r8.1.Owner), .v (.int .i64 r8.1.Repaid)]) (ds := [.v (.int .i64 r9.1.Operator), .v (.int .i64 r9.1.Owner), .v (.int .i64 r9.1.Repaid)]) (e := ((r8.1.Operator == r9.1.Operator) && ((r8.1.Owner == r9.1.Owner) && ((r8.1.Repaid == r9.1.Repaid) && true)))) (by decide) rfl rfl ty_flat41 rfl ?_
        refine o_move (v := .v (.bool (!((r8.1.Operator == r9.1.Operator) && ((r8.1.Owner == r9.1.Owner) && ((r8.1.Repaid == r9.1.Repaid) && true)))))) (by decide) rfl ?_
        rcases Bool.eq_false_or_eq_true (!((r8.1.Operator == r9.1.Operator) && ((r8.1.Owner == r9.1.Owner) && ((r8.1.Repaid == r9.1.Repaid) && true)))) with hb26 | hb26
        · replace hM := ifT hM hb26
          refine o_guardN (j := 3) (e := (!((r8.1.Operator == r9.1.Operator) && ((r8.1.Owner == r9.1.Owner) && ((r8.1.Repaid == r9.1.Repaid) && true))))) (want := false) (by decide) rfl hb26 ?_
          refine o_guardN (j := 3) (e := (!((r8.1.Operator == r9.1.Operator) && ((r8.1.Owner == r9.1.Owner) && ((r8.1.Repaid == r9.1.Repaid) && true))))) (want := false) (by decide) rfl hb26 ?_
          refine o_guardN (j := 3) (e := (!((r8.1.Operator == r9.1.Operator) && ((r8.1.Owner == r9.1.Owner) && ((r8.1.Repaid == r9.1.Repaid) && true))))) (want := false) (by decide) rfl hb26 ?_
          refine o_pickT (v := .v (.bool true)) (e := (!((r8.1.Operator == r9.1.Operator) && ((r8.1.Owner == r9.1.Owner) && ((r8.1.Repaid == r9.1.Repaid) && true))))) (by decide) rfl hb26 rfl ?_
          refine o_move (v := .v (.bool true)) (by decide) rfl ?_
          refine o_guardN (j := 8) (e := true) (want := false) (by decide) rfl rfl ?_
          refine o_guardN (j := 8) (e := true) (want := false) (by decide) rfl rfl ?_
          refine o_guardN (j := 8) (e := true) (want := false) (by decide) rfl rfl ?_
          refine o_pickT (v := .v (.bool true)) (e := true) (by decide) rfl rfl rfl ?_
          refine o_move (v := .v (.bool true)) (by decide) rfl ?_
          refine o_guardN (j := 13) (e := true) (want := false) (by decide) rfl rfl ?_
          refine o_guardN (j := 13) (e := true) (want := false) (by decide) rfl rfl ?_
          refine o_guardN (j := 13) (e := true) (want := false) (by decide) rfl rfl ?_
          refine o_pickT (v := .v (.bool true)) (e := true) (by decide) rfl rfl rfl ?_
          refine run_nil ?_
          exact w_goto true (.cons (.refl _) (.cons (.refl _) (.cons (.refl _) (.cons (.refl _) .nil)))) ⟨(hS.keep [false, false, false, false, true, true, true] rfl).up (by omega), hM⟩
        · replace hM := ifF hM hb26
          refine o_guardY (j := 3) (e := (!((r8.1.Operator == r9.1.Operator) && ((r8.1.Owner == r9.1.Owner) && ((r8.1.Repaid == r9.1.Repaid) && true))))) (want := false) rfl hb26 ?_
          refine o_move (v := .v (.int .i64 r8.2)) (by decide) rfl ?_
          refine o_guardY (j := 3) (e := (!((r8.1.Operator == r9.1.Operator) && ((r8.1.Owner == r9.1.Owner) && ((r8.1.Repaid == r9.1.Repaid) && true))))) (want := false) rfl hb26 ?_
          refine o_move (v := .v (.int .i64 r9.2)) (by decide) rfl ?_
          refine o_guardY (j := 3) (e := (!((r8.1.Operator == r9.1.Operator) && ((r8.1.Owner == r9.1.Owner) && ((r8.1.Repaid == r9.1.Repaid) && true))))) (want := false) rfl hb26 ?_
          refine o_int (v := .v (.bool (r8.2 != r9.2))) (by decide) rfl rfl rfl ?_
          refine o_pickF (v := .v (.bool (r8.2 != r9.2))) (e := (!((r8.1.Operator == r9.1.Operator) && ((r8.1.Owner == r9.1.Owner) && ((r8.1.Repaid == r9.1.Repaid) && true))))) (by decide) rfl hb26 rfl ?_
          refine o_move (v := .v (.bool (r8.2 != r9.2))) (by decide) rfl ?_
          rcases Bool.eq_false_or_eq_true (r8.2 != r9.2) with hb27 | hb27
          · replace hM := ifT hM hb27
            refine o_guardN (j := 8) (e := (r8.2 != r9.2)) (want := false) (by decide) rfl hb27 ?_
            refine o_guardN (j := 8) (e := (r8.2 != r9.2)) (want := false) (by decide) rfl hb27 ?_
            refine o_guardN (j := 8) (e := (r8.2 != r9.2)) (want := false) (by decide) rfl hb27 ?_
            refine o_pickT (v := .v (.bool true)) (e := (r8.2 != r9.2)) (by decide) rfl hb27 rfl ?_
            refine o_move (v := .v (.bool true)) (by decide) rfl ?_
            refine o_guardN (j := 13) (e := true) (want := false) (by decide) rfl rfl ?_
            refine o_guardN (j := 13) (e := true) (want := false) (by decide) rfl rfl ?_
            refine o_guardN (j := 13) (e := true) (want := false) (by decide) rfl rfl ?_
            refine o_pickT (v := .v (.bool true)) (e := true) (by decide) rfl rfl rfl ?_
            refine run_nil ?_
            exact w_goto true (.cons (.refl _) (.cons (.refl _) (.cons (.refl _) (.cons (.refl _) .nil)))) ⟨(hS.keep [false, false, false, false, true, true, true] rfl).up (by omega), hM⟩
          · replace hM := ifF hM hb27
            refine o_guardY (j := 8) (e := (r8.2 != r9.2)) (want := false) rfl hb27 ?_
            refine o_load (v := .agg [.v (.int .i64 r10.1.Operator), .v (.int .i64 r10.1.Owner), .v (.int .i64 r10.1.Repaid)]) 1 hS (by decide) rfl rfl .no (part_agg ty_agg41 (Nat.le_of_ble_eq_true rfl) rfl) ?_
            refine o_guardY (j := 8) (e := (r8.2 != r9.2)) (want := false) rfl hb27 ?_
            refine o_load (v := .agg [.v (.int .i64 r11.1.Operator), .v (.int .i64 r11.1.Owner), .v (.int .i64 r11.1.Repaid)]) 0 hS (by decide) rfl rfl .no (part_agg ty_agg41 (Nat.le_of_ble_eq_true rfl) rfl) ?_
            refine o_guardY (j := 8) (e := (r8.2 != r9.2)) (want := false) rfl hb27 ?_
            refine o_neS (cs := [.v (.int .i64 r10.1.Operator), .v (.int .i64 r10.1.Owner), .v (.int .i64 r10.1.Repaid)]) (ds := [.v (.int .i64 r11.1.Operator), .v (.int .i64 r11.1.Owner), .v (.int .i64 r11.1.Repaid)]) (e := ((r10.1.Operator == r11.1.Operator) && ((r10.1.Owner == r11.1.Owner) && ((r10.1.Repaid == r11.1.Repaid) && true)))) (by decide) rfl rfl ty_flat41 rfl ?_
            refine o_pickF (v := .v (.bool (!((r10.1.Operator == r11.1.Operator) && ((r10.1.Owner == r11.1.Owner) && ((r10.1.Repaid == r11.1.Repaid) && true)))))) (e := (r8.2 != r9.2)) (by decide) rfl hb27 rfl ?_
            refine o_move (v := .v (.bool (!((r10.1.Operator == r11.1.Operator) && ((r10.1.Owner == r11.1.Owner) && ((r10.1.Repaid == r11.1.Repaid) && true)))))) (by decide) rfl ?_
            rcases Bool.eq_false_or_eq_true (!((r10.1.Operator == r11.1.Operator) && ((r10.1.Owner == r11.1.Owner) && ((r10.1.Repaid == r11.1.Repaid) && true)))) with hb28 | hb28
            · replace hM := ifT hM hb28
              refine o_guardN (j := 13) (e := (!((r10.1.Operator == r11.1.Operator) && ((r10.1.Owner == r11.1.Owner) && ((r10.1.Repaid == r11.1.Repaid) && true))))) (want := false) (by decide) rfl hb28 ?_
              refine o_guardN (j := 13) (e := (!((r10.1.Operator == r11.1.Operator) && ((r10.1.Owner == r11.1.Owner) && ((r10.1.Repaid == r11.1.Repaid) && true))))) (want := false) (by decide) rfl hb28 ?_
              refine o_guardN (j := 13) (e := (!((r10.1.Operator == r11.1.Operator) && ((r10.1.Owner == r11.1.Owner) && ((r10.1.Repaid == r11.1.Repaid) && true))))) (want := false) (by decide) rfl hb28 ?_
              refine o_pickT (v := .v (.bool true)) (e := (!((r10.1.Operator == r11.1.Operator) && ((r10.1.Owner == r11.1.Owner) && ((r10.1.Repaid == r11.1.Repaid) && true))))) (by decide) rfl hb28 rfl ?_
              refine run_nil ?_
              exact w_goto true (.cons (.refl _) (.cons (.refl _) (.cons (.refl _) (.cons (.refl _) .nil)))) ⟨(hS.keep [false, false, false, false, true, true, true] rfl).up (by omega), hM⟩
            · replace hM := ifF hM hb28
              refine o_guardY (j := 13) (e := (!((r10.1.Operator == r11.1.Operator) && ((r10.1.Owner == r11.1.Owner) && ((r10.1.Repaid == r11.1.Repaid) && true))))) (want := false) rfl hb28 ?_
              refine o_move (v := .v (.int .i64 r10.2)) (by decide) rfl ?_
              refine o_guardY (j := 13) (e := (!((r10.1.Operator == r11.1.Operator) && ((r10.1.Owner == r11.1.Owner) && ((r10.1.Repaid == r11.1.Repaid) && true))))) (want := false) rfl hb28 ?_
              refine o_move (v := .v (.int .i64 r11.2)) (by decide) rfl ?_
              refine o_guardY (j := 13) (e := (!((r10.1.Operator == r11.1.Operator) && ((r10.1.Owner == r11.1.Owner) && ((r10.1.Repaid == r11.1.Repaid) && true))))) (want := false) rfl hb28 ?_
              refine o_int (v := .v (.bool (r10.2 != r11.2))) (by decide) rfl rfl rfl ?_
              refine o_pickF (v := .v (.bool (r10.2 != r11.2))) (e := (!((r10.1.Operator == r11.1.Operator) && ((r10.1.Owner == r11.1.Owner) && ((r10.1.Repaid == r11.1.Repaid) && true))))) (by decide) rfl hb28 rfl ?_
              refine run_nil ?_
              exact w_goto (r10.2 != r11.2) (.cons (.refl _) (.cons (.refl _) (.cons (.refl _) (.cons (.refl _) .nil)))) ⟨(hS.keep [false, false, false, false, true, true, true] rfl).up (by omega), hM⟩
end Go.Proofs.Ytkgldpboiigphaa
