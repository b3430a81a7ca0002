/-
  The code returns what the functions say (printed by gen.py).
  Conditions: none.
-/
import Derived.Test.YtekplngjaddccaaTy
import Derived.Test.YtekplngjaddccaaMd
set_option linter.all false
namespace Go.Proofs.Ytekplngjaddccaa
open Go Go.AM Go.Law
set_option linter.unusedVariables false
set_option maxRecDepth 4000
set_option maxHeartbeats 4000000
theorem W_pulses_within {a0 : Int} {a1 : Int} {a2 : Int} {r : Bool} (hM : pulses_within a0 a1 a2 = some r) : PureSat Try.prog 51 [.v (.int .i64 a0), .v (.int .i64 a1), .v (.int .i64 a2)] (.v (.bool r)) := by
  refine pure_of_wp mixed Try.func51 rfl (by decide) Try.ntmps51 (by simp) ?pure fun H0 g hf => ?_
  case pure => exact .v _
  rw [frame0_of]
  change wpA _ _ _ _ (Fr.of [(0, .v (.int .i64 a0)), (1, .v (.int .i64 a1)), (2, .v (.int .i64 a2))]) H0 g
  have hS := St.start hf
  refine r_seq ?_
  refine r_region (n := 1) rfl ?_
  refine o_assign (v := .v (.bool false)) (by decide) rfl ?_
  refine run_nil ?_
  refine w_next [(0, .v (.int .i64 a0)), (1, .v (.int .i64 a1)), (2, .v (.int .i64 a2))] (.cons (.refl _) (.cons (.refl _) (.cons (.refl _) .nil))) ?_
  refine w_join (J := Bool) (fun j => [(6, .v (.bool j))]) (fun j H' g' => St (· < g) H0 [] H' g' ∧ pulses_within_j1 j = some r) ?_ ?_
  · rintro v1 H g1 ⟨hS, hM⟩
    change wpA _ _ _ _ (Fr.of [(6, .v (.bool v1))]) _ _
    replace hS : St (· < g) H0 [] H g1 := hS
    replace hM : pulses_within_j1 v1 = some r := hM
    refine r_ret ?_
    refine w_end (x := .v (.bool v1)) (f := fun r => .v (.bool r)) (.inr rfl) ?_ (.refl _) (Option.some.inj hM) hS
    exact (res_one (res_tmp (x := .v (.bool v1)) rfl))
  · refine r_region (n := 9) rfl ?_
    refine o_move (v := .v (.int .i64 a1)) (by decide) rfl ?_
    refine o_move (v := .v (.int .i64 a0)) (by decide) rfl ?_
    refine o_int (v := .v (.bool (decide (a1 ≤ a0)))) (by decide) rfl rfl rfl ?_
    refine o_move (v := .v (.bool (decide (a1 ≤ a0)))) (by decide) rfl ?_
    rcases Bool.eq_false_or_eq_true (decide (a1 ≤ a0)) with hb2 | hb2
    · replace hM := ifT hM hb2
      refine o_guardY (j := 3) (e := (decide (a1 ≤ a0))) (want := true) rfl hb2 ?_
      refine o_move (v := .v (.int .i64 a0)) (by decide) rfl ?_
      refine o_guardY (j := 3) (e := (decide (a1 ≤ a0))) (want := true) rfl hb2 ?_
      refine o_move (v := .v (.int .i64 a2)) (by decide) rfl ?_
      refine o_guardY (j := 3) (e := (decide (a1 ≤ a0))) (want := true) rfl hb2 ?_
      refine o_int (v := .v (.bool (decide (a0 ≤ a2)))) (by decide) rfl rfl rfl ?_
      refine o_pickT (v := .v (.bool (decide (a0 ≤ a2)))) (e := (decide (a1 ≤ a0))) (by decide) rfl hb2 rfl ?_
      refine o_assign (v := .v (.bool (decide (a0 ≤ a2)))) (by decide) rfl ?_
      refine run_nil ?_
      exact w_goto (decide (a0 ≤ a2)) (.cons (.refl _) .nil) ⟨(hS.keep [] rfl).up (by omega), hM⟩
    · replace hM := ifF hM hb2
      refine o_guardN (j := 3) (e := (decide (a1 ≤ a0))) (want := true) (by decide) rfl hb2 ?_
      refine o_guardN (j := 3) (e := (decide (a1 ≤ a0))) (want := true) (by decide) rfl hb2 ?_
      refine o_guardN (j := 3) (e := (decide (a1 ≤ a0))) (want := true) (by decide) rfl hb2 ?_
      refine o_pickF (v := .v (.bool false)) (e := (decide (a1 ≤ a0))) (by decide) rfl hb2 rfl ?_
      refine o_assign (v := .v (.bool false)) (by decide) rfl ?_
      refine run_nil ?_
      exact w_goto false (.cons (.refl _) .nil) ⟨(hS.keep [] rfl).up (by omega), hM⟩
theorem W_pulses_Check {n : Nat} {a0 : Pulse} {r : Int} (hM : pulses_Check n a0 = some r) : PureSat Try.prog 16 [.agg [.v (.int .i64 a0.Letters), .v (.int .i64 a0.Numbers), .v (.int .i64 a0.Pitch), .v (.int .i64 a0.Slack), .v (.int .i64 a0.Gap), .v (.int .i64 a0.Pause), .v (.int .i64 a0.Sparks), .sl .no 1 (a0.Times.map cI)]] (.v (.int .i64 r)) := by
  refine pure_of_wp mixed Try.func16 rfl (by decide) Try.ntmps16 (by simp) ?pure fun H0 g hf => ?_
  case pure => exact .v _
  rw [frame0_of]
  change wpA _ _ _ _ (Fr.of [(0, .agg [.v (.int .i64 a0.Letters), .v (.int .i64 a0.Numbers), .v (.int .i64 a0.Pitch), .v (.int .i64 a0.Slack), .v (.int .i64 a0.Gap), .v (.int .i64 a0.Pause), .v (.int .i64 a0.Sparks), .sl .no 1 (a0.Times.map cI)])]) H0 g
  have hS := St.start hf
  refine r_seq ?_
  refine r_region (n := 2) rfl ?_
  refine o_box (v := .agg [.v (.int .i64 a0.Letters), .v (.int .i64 a0.Numbers), .v (.int .i64 a0.Pitch), .v (.int .i64 a0.Slack), .v (.int .i64 a0.Gap), .v (.int .i64 a0.Pause), .v (.int .i64 a0.Sparks), .sl .no 1 (a0.Times.map cI)]) (cs := [.v (.int .i64 a0.Letters), .v (.int .i64 a0.Numbers), .v (.int .i64 a0.Pitch), .v (.int .i64 a0.Slack), .v (.int .i64 a0.Gap), .v (.int .i64 a0.Pause), .v (.int .i64 a0.Sparks), .sl .no 1 (a0.Times.map cI)]) hS (by decide) rfl rfl (by omega) fun H hS => ?_
  refine o_assign (v := .v (.int .i64 0)) (by decide) rfl ?_
  refine run_nil ?_
  refine w_next [(1, .ptr (g + 0) 0)] (.cons (.refl _) .nil) ?_
  refine w_join (J := Unit) (fun j => [(1, .ptr (g + 0) 0)]) (fun j H' g' => St (· < g) H0 [(g + 0, .cells [.v (.int .i64 a0.Letters), .v (.int .i64 a0.Numbers), .v (.int .i64 a0.Pitch), .v (.int .i64 a0.Slack), .v (.int .i64 a0.Gap), .v (.int .i64 a0.Pause), .v (.int .i64 a0.Sparks), .sl .no 1 (a0.Times.map cI)])] H' g' ∧ pulses_Check_j1 n a0 = some r) ?_ ?_
  · rintro _ H g1 ⟨hS, hM⟩
    change wpA _ _ _ _ (Fr.of [(1, .ptr (g + 0) 0)]) _ _
    replace hS : St (· < g) H0 [(g + 0, .cells [.v (.int .i64 a0.Letters), .v (.int .i64 a0.Numbers), .v (.int .i64 a0.Pitch), .v (.int .i64 a0.Slack), .v (.int .i64 a0.Gap), .v (.int .i64 a0.Pause), .v (.int .i64 a0.Sparks), .sl .no 1 (a0.Times.map cI)])] H g1 := hS
    replace hM : pulses_Check_j1 n a0 = some r := hM
    refine w_join (J := Unit) (fun j => []) (fun j H' g' => St (· < g) H0 [] H' g' ∧ pulses_Check_j2 = some r) ?_ ?_
    · rintro _ H g2 ⟨hS, hM⟩
      change wpA _ _ _ _ (Fr.of []) _ _
      replace hS : St (· < g) H0 [] H g2 := hS
      replace hM : pulses_Check_j2 = some r := hM
      refine r_seq ?_
      refine r_region (n := 1) rfl ?_
      refine o_assign (v := .v (.int .i64 0)) (by decide) rfl ?_
      refine run_nil ?_
      refine w_next [(2, .v (.int .i64 0))] (.cons (.refl _) .nil) ?_
      refine r_ret ?_
      refine w_end (x := .v (.int .i64 0)) (f := fun r => .v (.int .i64 r)) (.inr rfl) ?_ (.refl _) (Option.some.inj hM) hS
      exact (res_one (res_tmp (x := .v (.int .i64 0)) rfl))
    · refine r_seq ?_
      refine r_region (n := 4) rfl ?_
      refine o_fieldP (by decide) ty_fo24_7 rfl ?_
      refine o_load (v := .sl .no 1 (a0.Times.map cI)) 0 hS (by decide) rfl rfl .no (part_one ty_agg22 ty_sc22 rfl) ?_
      refine o_len (n := a0.Times.length) (by decide) rfl (List.length_map _) ty_isl22 ?_
      refine o_move (v := .v (.int .i64 0)) (by decide) rfl ?_
      refine run_nil ?_
      refine w_next [(1, .ptr (g + 0) 0), (58, .sl .no 1 (a0.Times.map cI)), (59, .v (.int .i64 (a0.Times.length : Int))), (60, .v (.int .i64 0))] (.cons (.refl _) (.cons (.refl _) (.cons (.refl _) (.cons (.refl _) .nil)))) ?_
      refine r_block ?_
      refine w_loop (V := Int) (fun v => [(1, .ptr (g + 0) 0), (58, .sl .no 1 (a0.Times.map cI)), (59, .v (.int .i64 (a0.Times.length : Int))), (60, .v (.int .i64 v))]) (fun v m3 H' g' => St (· < g) H0 [(g + 0, .cells [.v (.int .i64 a0.Letters), .v (.int .i64 a0.Numbers), .v (.int .i64 a0.Pitch), .v (.int .i64 a0.Slack), .v (.int .i64 a0.Gap), .v (.int .i64 a0.Pause), .v (.int .i64 a0.Sparks), .sl .no 1 (a0.Times.map cI)])] H' g' ∧ pulses_Check_l1 a0 m3 v = some r) (n := n) 0 (.cons (.refl _) (.cons (.refl _) (.cons (.refl _) (.cons (.refl _) .nil)))) ⟨(hS.keep [true] rfl).up (by omega), hM⟩ ?_
      rintro v1 m3 H g3 ⟨hS, hM⟩
      obtain _ | m3 := m3
      · exact nomatch (show none = some _ from hM)
      change wpA _ _ _ _ (Fr.of [(1, .ptr (g + 0) 0), (58, .sl .no 1 (a0.Times.map cI)), (59, .v (.int .i64 (a0.Times.length : Int))), (60, .v (.int .i64 v1))]) _ _
      replace hS : St (· < g) H0 [(g + 0, .cells [.v (.int .i64 a0.Letters), .v (.int .i64 a0.Numbers), .v (.int .i64 a0.Pitch), .v (.int .i64 a0.Slack), .v (.int .i64 a0.Gap), .v (.int .i64 a0.Pause), .v (.int .i64 a0.Sparks), .sl .no 1 (a0.Times.map cI)])] H g3 := hS
      replace hM : pulses_Check_l1_b a0 (pulses_Check_l1 a0 m3) v1 = some r := hM
      refine r_seq ?_
      refine r_region (n := 1) rfl ?_
      refine o_int (v := .v (.bool (decide (v1 < (a0.Times.length : Int))))) (by decide) rfl rfl rfl ?_
      refine run_nil ?_
      refine w_next [(1, .ptr (g + 0) 0), (58, .sl .no 1 (a0.Times.map cI)), (59, .v (.int .i64 (a0.Times.length : Int))), (60, .v (.int .i64 v1)), (61, .v (.bool (decide (v1 < (a0.Times.length : Int)))))] (.cons (.refl _) (.cons (.refl _) (.cons (.refl _) (.cons (.refl _) (.cons (.refl _) .nil))))) ?_
      refine r_seq ?_
      rcases Bool.eq_false_or_eq_true (decide (v1 < (a0.Times.length : Int))) with hb2 | hb2
      · replace hM := ifT hM hb2
        refine w_condT (e := (decide (v1 < (a0.Times.length : Int)))) rfl hb2 ?_
        refine r_skip ?_
        refine w_next [(1, .ptr (g + 0) 0), (58, .sl .no 1 (a0.Times.map cI)), (59, .v (.int .i64 (a0.Times.length : Int))), (60, .v (.int .i64 v1))] (.cons (.refl _) (.cons (.refl _) (.cons (.refl _) (.cons (.refl _) .nil)))) ?_
        refine r_seq ?_
        refine r_block ?_
        refine r_seq ?_
        refine r_region (n := 5) rfl ?_
        refine o_move (v := .v (.int .i64 v1)) (by decide) rfl ?_
        obtain ⟨x3, hx3, hM⟩ := bindE hM
        refine o_index (xs := a0.Times) (f := cI) (z := v1) (u := x3) (by decide) rfl rfl ty_es22 hx3 ?_
        refine o_loadE (v := .v (.int .i64 x3)) (by decide) rfl (part_one ty_agg3 ty_sc3 rfl) ?_
        refine o_assign (v := .v (.int .i64 v1)) (by decide) rfl ?_
        refine o_assign (v := .v (.int .i64 x3)) (by decide) rfl ?_
        refine run_nil ?_
        refine w_next [(1, .ptr (g + 0) 0), (5, .v (.int .i64 v1)), (6, .v (.int .i64 x3)), (58, .sl .no 1 (a0.Times.map cI)), (59, .v (.int .i64 (a0.Times.length : Int))), (60, .v (.int .i64 v1))] (.cons (.refl _) (.cons (.refl _) (.cons (.refl _) (.cons (.refl _) (.cons (.refl _) (.cons (.refl _) .nil)))))) ?_
        refine w_join (J := Bool) (fun j => [(1, .ptr (g + 0) 0), (58, .sl .no 1 (a0.Times.map cI)), (59, .v (.int .i64 (a0.Times.length : Int))), (60, .v (.int .i64 v1)), (81, .v (.bool j))]) (fun j H' g' => St (· < g) H0 [(g + 0, .cells [.v (.int .i64 a0.Letters), .v (.int .i64 a0.Numbers), .v (.int .i64 a0.Pitch), .v (.int .i64 a0.Slack), .v (.int .i64 a0.Gap), .v (.int .i64 a0.Pause), .v (.int .i64 a0.Sparks), .sl .no 1 (a0.Times.map cI)])] H' g' ∧ pulses_Check_j3 (pulses_Check_l1 a0 m3) v1 j = some r) ?_ ?_
        · rintro v4 H g4 ⟨hS, hM⟩
          change wpA _ _ _ _ (Fr.of [(1, .ptr (g + 0) 0), (58, .sl .no 1 (a0.Times.map cI)), (59, .v (.int .i64 (a0.Times.length : Int))), (60, .v (.int .i64 v1)), (81, .v (.bool v4))]) _ _
          replace hS : St (· < g) H0 [(g + 0, .cells [.v (.int .i64 a0.Letters), .v (.int .i64 a0.Numbers), .v (.int .i64 a0.Pitch), .v (.int .i64 a0.Slack), .v (.int .i64 a0.Gap), .v (.int .i64 a0.Pause), .v (.int .i64 a0.Sparks), .sl .no 1 (a0.Times.map cI)])] H g4 := hS
          replace hM : pulses_Check_j3 (pulses_Check_l1 a0 m3) v1 v4 = some r := hM
          rcases Bool.eq_false_or_eq_true v4 with hb5 | hb5
          · replace hM := ifT hM hb5
            refine w_condT (e := v4) rfl hb5 ?_
            refine r_seq ?_
            refine r_region (n := 1) rfl ?_
            refine o_assign (v := .v (.int .i64 130)) (by decide) rfl ?_
            refine run_nil ?_
            replace hS := hS.keep (L' := []) [false] rfl
            refine w_next [(2, .v (.int .i64 130))] (.cons (.refl _) .nil) ?_
            refine r_ret ?_
            refine r_blk_ret ?_
            refine r_then_ret ?_
            refine w_round_ret ?_
            refine r_blk_ret ?_
            refine w_goto_ret ?_
            refine w_end (x := .v (.int .i64 130)) (f := fun r => .v (.int .i64 r)) (.inr rfl) ?_ (.refl _) (Option.some.inj hM) hS
            exact (res_one (res_tmp (x := .v (.int .i64 130)) rfl))
          · replace hM := ifF hM hb5
            refine w_condF (e := v4) rfl hb5 ?_
            refine r_skip ?_
            refine r_blk_normal ?_
            refine w_next [(1, .ptr (g + 0) 0), (58, .sl .no 1 (a0.Times.map cI)), (59, .v (.int .i64 (a0.Times.length : Int))), (60, .v (.int .i64 v1))] (.cons (.refl _) (.cons (.refl _) (.cons (.refl _) (.cons (.refl _) .nil)))) ?_
            refine r_region (n := 2) rfl ?_
            refine o_int (v := .v (.int .i64 (w64 (v1 + 1)))) (by decide) rfl rfl rfl ?_
            refine o_move (v := .v (.int .i64 (w64 (v1 + 1)))) (by decide) rfl ?_
            refine run_nil ?_
            exact w_round (w64 (v1 + 1)) (Nat.lt_succ_self _) (.cons (.refl _) (.cons (.refl _) (.cons (.refl _) (.cons (.refl _) .nil)))) ⟨(hS.keep [true] rfl).up (by omega), hM⟩
        · refine r_region (n := 17) rfl ?_
          refine o_move (v := .v (.int .i64 x3)) (by decide) rfl ?_
          obtain ⟨r6, hr6, hM⟩ := bindE hM
          refine o_call (bs := [.v (.int .i64 x3), .v (.int .i64 0), .v (.int .i64 99999)]) (by decide) rfl rfl ((W_pulses_within hr6).le (.cons (.refl _) (.cons (.refl _) (.cons (.refl _) .nil)))) ?_
          refine o_not (e := r6) (by decide) rfl ?_
          refine o_move (v := .v (.bool (!r6))) (by decide) rfl ?_
          rcases Bool.eq_false_or_eq_true (!r6) with hb7 | hb7
          · replace hM := ifT hM hb7
            refine o_guardN (j := 3) (e := (!r6)) (want := false) (by decide) rfl hb7 ?_
            refine o_guardN (j := 3) (e := (!r6)) (want := false) (by decide) rfl hb7 ?_
            refine o_guardN (j := 3) (e := (!r6)) (want := false) (by decide) rfl hb7 ?_
            refine o_guardU (j := 6) (by decide) rfl ?_
            refine o_guardU (j := 6) (by decide) rfl ?_
            refine o_guardU (j := 6) (by decide) rfl ?_
            refine o_guardU (j := 6) (by decide) rfl ?_
            refine o_guardU (j := 6) (by decide) rfl ?_
            refine o_guardU (j := 6) (by decide) rfl ?_
            refine o_guardU (j := 6) (by decide) rfl ?_
            refine o_guardU (j := 6) (by decide) rfl ?_
            refine o_guardN (j := 3) (e := (!r6)) (want := false) (by decide) rfl hb7 ?_
            refine o_pickT (v := .v (.bool true)) (e := (!r6)) (by decide) rfl hb7 rfl ?_
            refine run_nil ?_
            exact w_goto true (.cons (.refl _) (.cons (.refl _) (.cons (.refl _) (.cons (.refl _) (.cons (.refl _) .nil))))) ⟨(hS.keep [true] rfl).up (by omega), hM⟩
          · replace hM := ifF hM hb7
            refine o_guardY (j := 3) (e := (!r6)) (want := false) rfl hb7 ?_
            refine o_move (v := .v (.int .i64 v1)) (by decide) rfl ?_
            refine o_guardY (j := 3) (e := (!r6)) (want := false) rfl hb7 ?_
            refine o_int (v := .v (.bool (decide (v1 > 0)))) (by decide) rfl rfl rfl ?_
            refine o_guardY (j := 3) (e := (!r6)) (want := false) rfl hb7 ?_
            refine o_move (v := .v (.bool (decide (v1 > 0)))) (by decide) rfl ?_
            rcases Bool.eq_false_or_eq_true (decide (v1 > 0)) with hb8 | hb8
            · replace hM := ifT hM hb8
              refine o_guardY (j := 6) (e := (decide (v1 > 0))) (want := true) rfl hb8 ?_
              refine o_move (v := .v (.int .i64 x3)) (by decide) rfl ?_
              refine o_guardY (j := 6) (e := (decide (v1 > 0))) (want := true) rfl hb8 ?_
              refine o_fieldP (by decide) ty_fo24_7 rfl ?_
              refine o_guardY (j := 6) (e := (decide (v1 > 0))) (want := true) rfl hb8 ?_
              refine o_load (v := .sl .no 1 (a0.Times.map cI)) 0 hS (by decide) rfl rfl .no (part_one ty_agg22 ty_sc22 rfl) ?_
              refine o_guardY (j := 6) (e := (decide (v1 > 0))) (want := true) rfl hb8 ?_
              refine o_move (v := .v (.int .i64 v1)) (by decide) rfl ?_
              refine o_guardY (j := 6) (e := (decide (v1 > 0))) (want := true) rfl hb8 ?_
              refine o_int (v := .v (.int .i64 (w64 (v1 - 1)))) (by decide) rfl rfl rfl ?_
              refine o_guardY (j := 6) (e := (decide (v1 > 0))) (want := true) rfl hb8 ?_
              obtain ⟨x9, hx9, hM⟩ := bindE hM
              refine o_index (xs := a0.Times) (f := cI) (z := (w64 (v1 - 1))) (u := x9) (by decide) rfl rfl ty_es22 hx9 ?_
              refine o_guardY (j := 6) (e := (decide (v1 > 0))) (want := true) rfl hb8 ?_
              refine o_loadE (v := .v (.int .i64 x9)) (by decide) rfl (part_one ty_agg3 ty_sc3 rfl) ?_
              refine o_guardY (j := 6) (e := (decide (v1 > 0))) (want := true) rfl hb8 ?_
              refine o_int (v := .v (.bool (decide (x3 ≤ x9)))) (by decide) rfl rfl rfl ?_
              refine o_guardY (j := 3) (e := (!r6)) (want := false) rfl hb7 ?_
              refine o_pickT (v := .v (.bool (decide (x3 ≤ x9)))) (e := (decide (v1 > 0))) (by decide) rfl hb8 rfl ?_
              refine o_pickF (v := .v (.bool (decide (x3 ≤ x9)))) (e := (!r6)) (by decide) rfl hb7 rfl ?_
              refine run_nil ?_
              exact w_goto (decide (x3 ≤ x9)) (.cons (.refl _) (.cons (.refl _) (.cons (.refl _) (.cons (.refl _) (.cons (.refl _) .nil))))) ⟨(hS.keep [true] rfl).up (by omega), hM⟩
            · replace hM := ifF hM hb8
              refine o_guardN (j := 6) (e := (decide (v1 > 0))) (want := true) (by decide) rfl hb8 ?_
              refine o_guardN (j := 6) (e := (decide (v1 > 0))) (want := true) (by decide) rfl hb8 ?_
              refine o_guardN (j := 6) (e := (decide (v1 > 0))) (want := true) (by decide) rfl hb8 ?_
              refine o_guardN (j := 6) (e := (decide (v1 > 0))) (want := true) (by decide) rfl hb8 ?_
              refine o_guardN (j := 6) (e := (decide (v1 > 0))) (want := true) (by decide) rfl hb8 ?_
              refine o_guardN (j := 6) (e := (decide (v1 > 0))) (want := true) (by decide) rfl hb8 ?_
              refine o_guardN (j := 6) (e := (decide (v1 > 0))) (want := true) (by decide) rfl hb8 ?_
              refine o_guardN (j := 6) (e := (decide (v1 > 0))) (want := true) (by decide) rfl hb8 ?_
              refine o_guardY (j := 3) (e := (!r6)) (want := false) rfl hb7 ?_
              refine o_pickF (v := .v (.bool false)) (e := (decide (v1 > 0))) (by decide) rfl hb8 rfl ?_
              refine o_pickF (v := .v (.bool false)) (e := (!r6)) (by decide) rfl hb7 rfl ?_
              refine run_nil ?_
              exact w_goto false (.cons (.refl _) (.cons (.refl _) (.cons (.refl _) (.cons (.refl _) (.cons (.refl _) .nil))))) ⟨(hS.keep [true] rfl).up (by omega), hM⟩
      · replace hM := ifF hM hb2
        refine w_condF (e := (decide (v1 < (a0.Times.length : Int)))) rfl hb2 ?_
        refine r_exit ?_
        refine r_then_exit ?_
        refine w_round_exit ?_
        refine r_blk_exit ?_
        exact w_goto () .nil ⟨(hS.keep [false] rfl).up (by omega), hM⟩
  · refine r_seq ?_
    refine r_region (n := 39) rfl ?_
    refine o_fieldP (by decide) ty_fo24_0 rfl ?_
    refine o_load (v := .v (.int .i64 a0.Letters)) 0 hS (by decide) rfl rfl .no (part_one ty_agg3 ty_sc3 rfl) ?_
    refine o_build (cs := [.v (.int .i64 a0.Letters), .v (.int .i64 1), .v (.int .i64 5)]) (by decide) ty_zero58 ty_pl58 rfl ?_
    refine o_fieldP (by decide) ty_fo24_1 rfl ?_
    refine o_load (v := .v (.int .i64 a0.Numbers)) 0 hS (by decide) rfl rfl .no (part_one ty_agg3 ty_sc3 rfl) ?_
    refine o_build (cs := [.v (.int .i64 a0.Numbers), .v (.int .i64 1), .v (.int .i64 5)]) (by decide) ty_zero58 ty_pl58 rfl ?_
    refine o_fieldP (by decide) ty_fo24_2 rfl ?_
    refine o_load (v := .v (.int .i64 a0.Pitch)) 0 hS (by decide) rfl rfl .no (part_one ty_agg3 ty_sc3 rfl) ?_
    refine o_build (cs := [.v (.int .i64 a0.Pitch), .v (.int .i64 1), .v (.int .i64 99)]) (by decide) ty_zero58 ty_pl58 rfl ?_
    refine o_fieldP (by decide) ty_fo24_3 rfl ?_
    refine o_load (v := .v (.int .i64 a0.Slack)) 0 hS (by decide) rfl rfl .no (part_one ty_agg3 ty_sc3 rfl) ?_
    refine o_fieldP (by decide) ty_fo24_2 rfl ?_
    refine o_load (v := .v (.int .i64 a0.Pitch)) 0 hS (by decide) rfl rfl .no (part_one ty_agg3 ty_sc3 rfl) ?_
    refine o_int (v := .v (.int .i64 (w64 (a0.Pitch - 1)))) (by decide) rfl rfl rfl ?_
    refine o_build (cs := [.v (.int .i64 a0.Slack), .v (.int .i64 0), .v (.int .i64 (w64 (a0.Pitch - 1)))]) (by decide) ty_zero58 ty_pl58 rfl ?_
    refine o_fieldP (by decide) ty_fo24_4 rfl ?_
    refine o_load (v := .v (.int .i64 a0.Gap)) 0 hS (by decide) rfl rfl .no (part_one ty_agg3 ty_sc3 rfl) ?_
    refine o_fieldP (by decide) ty_fo24_2 rfl ?_
    refine o_load (v := .v (.int .i64 a0.Pitch)) 0 hS (by decide) rfl rfl .no (part_one ty_agg3 ty_sc3 rfl) ?_
    refine o_fieldP (by decide) ty_fo24_3 rfl ?_
    refine o_load (v := .v (.int .i64 a0.Slack)) 0 hS (by decide) rfl rfl .no (part_one ty_agg3 ty_sc3 rfl) ?_
    refine o_int (v := .v (.int .i64 (w64 (a0.Pitch + a0.Slack)))) (by decide) rfl rfl rfl ?_
    refine o_int (v := .v (.int .i64 (w64 ((w64 (a0.Pitch + a0.Slack)) + 1)))) (by decide) rfl rfl rfl ?_
    refine o_fieldP (by decide) ty_fo24_5 rfl ?_
    refine o_load (v := .v (.int .i64 a0.Pause)) 0 hS (by decide) rfl rfl .no (part_one ty_agg3 ty_sc3 rfl) ?_
    refine o_int (v := .v (.int .i64 (w64 (a0.Pause - 1)))) (by decide) rfl rfl rfl ?_
    refine o_build (cs := [.v (.int .i64 a0.Gap), .v (.int .i64 (w64 ((w64 (a0.Pitch + a0.Slack)) + 1))), .v (.int .i64 (w64 (a0.Pause - 1)))]) (by decide) ty_zero58 ty_pl58 rfl ?_
    refine o_fieldP (by decide) ty_fo24_5 rfl ?_
    refine o_load (v := .v (.int .i64 a0.Pause)) 0 hS (by decide) rfl rfl .no (part_one ty_agg3 ty_sc3 rfl) ?_
    refine o_build (cs := [.v (.int .i64 a0.Pause), .v (.int .i64 0), .v (.int .i64 999)]) (by decide) ty_zero58 ty_pl58 rfl ?_
    refine o_fieldP (by decide) ty_fo24_6 rfl ?_
    refine o_load (v := .v (.int .i64 a0.Sparks)) 0 hS (by decide) rfl rfl .no (part_one ty_agg3 ty_sc3 rfl) ?_
    refine o_build (cs := [.v (.int .i64 a0.Sparks), .v (.int .i64 0), .v (.int .i64 3)]) (by decide) ty_zero58 ty_pl58 rfl ?_
    refine o_fieldP (by decide) ty_fo24_7 rfl ?_
    refine o_load (v := .sl .no 1 (a0.Times.map cI)) 0 hS (by decide) rfl rfl .no (part_one ty_agg22 ty_sc22 rfl) ?_
    refine o_len (n := a0.Times.length) (by decide) rfl (List.length_map _) ty_isl22 ?_
    refine o_build (cs := [.v (.int .i64 (a0.Times.length : Int)), .v (.int .i64 0), .v (.int .i64 24)]) (by decide) ty_zero58 ty_pl58 rfl ?_
    refine o_build (cs := [.v (.int .i64 a0.Letters), .v (.int .i64 1), .v (.int .i64 5), .v (.int .i64 a0.Numbers), .v (.int .i64 1), .v (.int .i64 5), .v (.int .i64 a0.Pitch), .v (.int .i64 1), .v (.int .i64 99), .v (.int .i64 a0.Slack), .v (.int .i64 0), .v (.int .i64 (w64 (a0.Pitch - 1))), .v (.int .i64 a0.Gap), .v (.int .i64 (w64 ((w64 (a0.Pitch + a0.Slack)) + 1))), .v (.int .i64 (w64 (a0.Pause - 1))), .v (.int .i64 a0.Pause), .v (.int .i64 0), .v (.int .i64 999), .v (.int .i64 a0.Sparks), .v (.int .i64 0), .v (.int .i64 3), .v (.int .i64 (a0.Times.length : Int)), .v (.int .i64 0), .v (.int .i64 24)]) (by decide) ty_zero59 ty_pl59 rfl ?_
    refine o_move (v := .v (.int .i64 0)) (by decide) rfl ?_
    refine run_nil ?_
    refine w_next [(1, .ptr (g + 0) 0), (44, .agg [.v (.int .i64 a0.Letters), .v (.int .i64 1), .v (.int .i64 5), .v (.int .i64 a0.Numbers), .v (.int .i64 1), .v (.int .i64 5), .v (.int .i64 a0.Pitch), .v (.int .i64 1), .v (.int .i64 99), .v (.int .i64 a0.Slack), .v (.int .i64 0), .v (.int .i64 (w64 (a0.Pitch - 1))), .v (.int .i64 a0.Gap), .v (.int .i64 (w64 ((w64 (a0.Pitch + a0.Slack)) + 1))), .v (.int .i64 (w64 (a0.Pause - 1))), .v (.int .i64 a0.Pause), .v (.int .i64 0), .v (.int .i64 999), .v (.int .i64 a0.Sparks), .v (.int .i64 0), .v (.int .i64 3), .v (.int .i64 (a0.Times.length : Int)), .v (.int .i64 0), .v (.int .i64 24)]), (45, .v (.int .i64 0))] (.cons (.refl _) (.cons (.refl _) (.cons (.refl _) .nil))) ?_
    refine r_block ?_
    refine w_loop (V := Int) (fun v => [(1, .ptr (g + 0) 0), (44, .agg [.v (.int .i64 a0.Letters), .v (.int .i64 1), .v (.int .i64 5), .v (.int .i64 a0.Numbers), .v (.int .i64 1), .v (.int .i64 5), .v (.int .i64 a0.Pitch), .v (.int .i64 1), .v (.int .i64 99), .v (.int .i64 a0.Slack), .v (.int .i64 0), .v (.int .i64 (w64 (a0.Pitch - 1))), .v (.int .i64 a0.Gap), .v (.int .i64 (w64 ((w64 (a0.Pitch + a0.Slack)) + 1))), .v (.int .i64 (w64 (a0.Pause - 1))), .v (.int .i64 a0.Pause), .v (.int .i64 0), .v (.int .i64 999), .v (.int .i64 a0.Sparks), .v (.int .i64 0), .v (.int .i64 3), .v (.int .i64 (a0.Times.length : Int)), .v (.int .i64 0), .v (.int .i64 24)]), (45, .v (.int .i64 v))]) (fun v m5 H' g' => St (· < g) H0 [(g + 0, .cells [.v (.int .i64 a0.Letters), .v (.int .i64 a0.Numbers), .v (.int .i64 a0.Pitch), .v (.int .i64 a0.Slack), .v (.int .i64 a0.Gap), .v (.int .i64 a0.Pause), .v (.int .i64 a0.Sparks), .sl .no 1 (a0.Times.map cI)])] H' g' ∧ pulses_Check_l2 n a0 m5 v = some r) (n := n) 0 (.cons (.refl _) (.cons (.refl _) (.cons (.refl _) .nil))) ⟨(hS.keep [true] rfl).up (by omega), hM⟩ ?_
    rintro v10 m5 H g5 ⟨hS, hM⟩
    obtain _ | m5 := m5
    · exact nomatch (show none = some _ from hM)
    change wpA _ _ _ _ (Fr.of [(1, .ptr (g + 0) 0), (44, .agg [.v (.int .i64 a0.Letters), .v (.int .i64 1), .v (.int .i64 5), .v (.int .i64 a0.Numbers), .v (.int .i64 1), .v (.int .i64 5), .v (.int .i64 a0.Pitch), .v (.int .i64 1), .v (.int .i64 99), .v (.int .i64 a0.Slack), .v (.int .i64 0), .v (.int .i64 (w64 (a0.Pitch - 1))), .v (.int .i64 a0.Gap), .v (.int .i64 (w64 ((w64 (a0.Pitch + a0.Slack)) + 1))), .v (.int .i64 (w64 (a0.Pause - 1))), .v (.int .i64 a0.Pause), .v (.int .i64 0), .v (.int .i64 999), .v (.int .i64 a0.Sparks), .v (.int .i64 0), .v (.int .i64 3), .v (.int .i64 (a0.Times.length : Int)), .v (.int .i64 0), .v (.int .i64 24)]), (45, .v (.int .i64 v10))]) _ _
    replace hS : St (· < g) H0 [(g + 0, .cells [.v (.int .i64 a0.Letters), .v (.int .i64 a0.Numbers), .v (.int .i64 a0.Pitch), .v (.int .i64 a0.Slack), .v (.int .i64 a0.Gap), .v (.int .i64 a0.Pause), .v (.int .i64 a0.Sparks), .sl .no 1 (a0.Times.map cI)])] H g5 := hS
    replace hM : pulses_Check_l2_b n a0 (pulses_Check_l2 n a0 m5) v10 = some r := hM
    refine r_seq ?_
    refine r_region (n := 1) rfl ?_
    refine o_int (v := .v (.bool (decide (v10 < 8)))) (by decide) rfl rfl rfl ?_
    refine run_nil ?_
    refine w_next [(1, .ptr (g + 0) 0), (44, .agg [.v (.int .i64 a0.Letters), .v (.int .i64 1), .v (.int .i64 5), .v (.int .i64 a0.Numbers), .v (.int .i64 1), .v (.int .i64 5), .v (.int .i64 a0.Pitch), .v (.int .i64 1), .v (.int .i64 99), .v (.int .i64 a0.Slack), .v (.int .i64 0), .v (.int .i64 (w64 (a0.Pitch - 1))), .v (.int .i64 a0.Gap), .v (.int .i64 (w64 ((w64 (a0.Pitch + a0.Slack)) + 1))), .v (.int .i64 (w64 (a0.Pause - 1))), .v (.int .i64 a0.Pause), .v (.int .i64 0), .v (.int .i64 999), .v (.int .i64 a0.Sparks), .v (.int .i64 0), .v (.int .i64 3), .v (.int .i64 (a0.Times.length : Int)), .v (.int .i64 0), .v (.int .i64 24)]), (45, .v (.int .i64 v10)), (46, .v (.bool (decide (v10 < 8))))] (.cons (.refl _) (.cons (.refl _) (.cons (.refl _) (.cons (.refl _) .nil)))) ?_
    refine r_seq ?_
    rcases Bool.eq_false_or_eq_true (decide (v10 < 8)) with hb11 | hb11
    · replace hM := ifT hM hb11
      refine w_condT (e := (decide (v10 < 8))) rfl hb11 ?_
      refine r_skip ?_
      refine w_next [(1, .ptr (g + 0) 0), (44, .agg [.v (.int .i64 a0.Letters), .v (.int .i64 1), .v (.int .i64 5), .v (.int .i64 a0.Numbers), .v (.int .i64 1), .v (.int .i64 5), .v (.int .i64 a0.Pitch), .v (.int .i64 1), .v (.int .i64 99), .v (.int .i64 a0.Slack), .v (.int .i64 0), .v (.int .i64 (w64 (a0.Pitch - 1))), .v (.int .i64 a0.Gap), .v (.int .i64 (w64 ((w64 (a0.Pitch + a0.Slack)) + 1))), .v (.int .i64 (w64 (a0.Pause - 1))), .v (.int .i64 a0.Pause), .v (.int .i64 0), .v (.int .i64 999), .v (.int .i64 a0.Sparks), .v (.int .i64 0), .v (.int .i64 3), .v (.int .i64 (a0.Times.length : Int)), .v (.int .i64 0), .v (.int .i64 24)]), (45, .v (.int .i64 v10))] (.cons (.refl _) (.cons (.refl _) (.cons (.refl _) .nil))) ?_
      refine r_seq ?_
      refine r_block ?_
      refine r_seq ?_
      refine r_region (n := 3) rfl ?_
      obtain ⟨x12, hx12, hM⟩ := bindE hM
      refine o_indexL (xs := ([(⟨a0.Letters, 1, 5⟩ : An58), (⟨a0.Numbers, 1, 5⟩ : An58), (⟨a0.Pitch, 1, 99⟩ : An58), (⟨a0.Slack, 0, w64 (a0.Pitch - 1)⟩ : An58), (⟨a0.Gap, w64 ((w64 (a0.Pitch + a0.Slack)) + 1), w64 (a0.Pause - 1)⟩ : An58), (⟨a0.Pause, 0, 999⟩ : An58), (⟨a0.Sparks, 0, 3⟩ : An58), (⟨(a0.Times.length : Int), 0, 24⟩ : An58)] : List An58)) (f := An58.cells) (z := v10) (u := x12) (by decide) rfl rfl ty_arx59 rfl ty_agg58 (fun _ => rfl) hx12 ?_
      refine o_alloc hS (by decide) ty_zero58 (by omega) fun H hS => ?_
      refine o_store (v := .agg [.v (.int .i64 x12.n), .v (.int .i64 x12.low), .v (.int .i64 x12.high)]) (ns := [.v (.int .i64 x12.n), .v (.int .i64 x12.low), .v (.int .i64 x12.high)]) (L' := [(g5 + 1 + 1, .cells [.v (.int .i64 x12.n), .v (.int .i64 x12.low), .v (.int .i64 x12.high)]), (g + 0, .cells [.v (.int .i64 a0.Letters), .v (.int .i64 a0.Numbers), .v (.int .i64 a0.Pitch), .v (.int .i64 a0.Slack), .v (.int .i64 a0.Gap), .v (.int .i64 a0.Pause), .v (.int .i64 a0.Sparks), .sl .no 1 (a0.Times.map cI)])]) 0 hS rfl rfl .no rfl rfl ty_var58 (Nat.le_of_ble_eq_true rfl) rfl fun H hS => ?_
      refine run_nil ?_
      refine w_next [(1, .ptr (g + 0) 0), (4, .ptr (g5 + 1 + 1) 0), (44, .agg [.v (.int .i64 a0.Letters), .v (.int .i64 1), .v (.int .i64 5), .v (.int .i64 a0.Numbers), .v (.int .i64 1), .v (.int .i64 5), .v (.int .i64 a0.Pitch), .v (.int .i64 1), .v (.int .i64 99), .v (.int .i64 a0.Slack), .v (.int .i64 0), .v (.int .i64 (w64 (a0.Pitch - 1))), .v (.int .i64 a0.Gap), .v (.int .i64 (w64 ((w64 (a0.Pitch + a0.Slack)) + 1))), .v (.int .i64 (w64 (a0.Pause - 1))), .v (.int .i64 a0.Pause), .v (.int .i64 0), .v (.int .i64 999), .v (.int .i64 a0.Sparks), .v (.int .i64 0), .v (.int .i64 3), .v (.int .i64 (a0.Times.length : Int)), .v (.int .i64 0), .v (.int .i64 24)]), (45, .v (.int .i64 v10))] (.cons (.refl _) (.cons (.refl _) (.cons (.refl _) (.cons (.refl _) .nil)))) ?_
      refine r_seq ?_
      refine r_region (n := 8) rfl ?_
      refine o_fieldP (by decide) ty_fo58_0 rfl ?_
      refine o_load (v := .v (.int .i64 x12.n)) 0 hS (by decide) rfl rfl .no (part_one ty_agg3 ty_sc3 rfl) ?_
      refine o_fieldP (by decide) ty_fo58_1 rfl ?_
      refine o_load (v := .v (.int .i64 x12.low)) 0 hS (by decide) rfl rfl .no (part_one ty_agg3 ty_sc3 rfl) ?_
      refine o_fieldP (by decide) ty_fo58_2 rfl ?_
      refine o_load (v := .v (.int .i64 x12.high)) 0 hS (by decide) rfl rfl .no (part_one ty_agg3 ty_sc3 rfl) ?_
      obtain ⟨r13, hr13, hM⟩ := bindE hM
      refine o_call (bs := [.v (.int .i64 x12.n), .v (.int .i64 x12.low), .v (.int .i64 x12.high)]) (by decide) rfl rfl ((W_pulses_within hr13).le (.cons (.refl _) (.cons (.refl _) (.cons (.refl _) .nil)))) ?_
      refine o_not (e := r13) (by decide) rfl ?_
      refine run_nil ?_
      replace hS := hS.keep (L' := [(g + 0, .cells [.v (.int .i64 a0.Letters), .v (.int .i64 a0.Numbers), .v (.int .i64 a0.Pitch), .v (.int .i64 a0.Slack), .v (.int .i64 a0.Gap), .v (.int .i64 a0.Pause), .v (.int .i64 a0.Sparks), .sl .no 1 (a0.Times.map cI)])]) [false, true] rfl
      refine w_next [(1, .ptr (g + 0) 0), (44, .agg [.v (.int .i64 a0.Letters), .v (.int .i64 1), .v (.int .i64 5), .v (.int .i64 a0.Numbers), .v (.int .i64 1), .v (.int .i64 5), .v (.int .i64 a0.Pitch), .v (.int .i64 1), .v (.int .i64 99), .v (.int .i64 a0.Slack), .v (.int .i64 0), .v (.int .i64 (w64 (a0.Pitch - 1))), .v (.int .i64 a0.Gap), .v (.int .i64 (w64 ((w64 (a0.Pitch + a0.Slack)) + 1))), .v (.int .i64 (w64 (a0.Pause - 1))), .v (.int .i64 a0.Pause), .v (.int .i64 0), .v (.int .i64 999), .v (.int .i64 a0.Sparks), .v (.int .i64 0), .v (.int .i64 3), .v (.int .i64 (a0.Times.length : Int)), .v (.int .i64 0), .v (.int .i64 24)]), (45, .v (.int .i64 v10)), (55, .v (.bool (!r13)))] (.cons (.refl _) (.cons (.refl _) (.cons (.refl _) (.cons (.refl _) .nil)))) ?_
      rcases Bool.eq_false_or_eq_true (!r13) with hb14 | hb14
      · replace hM := ifT hM hb14
        refine w_condT (e := (!r13)) rfl hb14 ?_
        refine r_seq ?_
        refine r_region (n := 1) rfl ?_
        refine o_assign (v := .v (.int .i64 130)) (by decide) rfl ?_
        refine run_nil ?_
        replace hS := hS.keep (L' := []) [false] rfl
        refine w_next [(2, .v (.int .i64 130))] (.cons (.refl _) .nil) ?_
        refine r_ret ?_
        refine r_blk_ret ?_
        refine r_then_ret ?_
        refine w_round_ret ?_
        refine r_blk_ret ?_
        refine w_goto_ret ?_
        refine w_end (x := .v (.int .i64 130)) (f := fun r => .v (.int .i64 r)) (.inr rfl) ?_ (.refl _) (Option.some.inj hM) hS
        exact (res_one (res_tmp (x := .v (.int .i64 130)) rfl))
      · replace hM := ifF hM hb14
        refine w_condF (e := (!r13)) rfl hb14 ?_
        refine r_skip ?_
        refine r_blk_normal ?_
        refine w_next [(1, .ptr (g + 0) 0), (44, .agg [.v (.int .i64 a0.Letters), .v (.int .i64 1), .v (.int .i64 5), .v (.int .i64 a0.Numbers), .v (.int .i64 1), .v (.int .i64 5), .v (.int .i64 a0.Pitch), .v (.int .i64 1), .v (.int .i64 99), .v (.int .i64 a0.Slack), .v (.int .i64 0), .v (.int .i64 (w64 (a0.Pitch - 1))), .v (.int .i64 a0.Gap), .v (.int .i64 (w64 ((w64 (a0.Pitch + a0.Slack)) + 1))), .v (.int .i64 (w64 (a0.Pause - 1))), .v (.int .i64 a0.Pause), .v (.int .i64 0), .v (.int .i64 999), .v (.int .i64 a0.Sparks), .v (.int .i64 0), .v (.int .i64 3), .v (.int .i64 (a0.Times.length : Int)), .v (.int .i64 0), .v (.int .i64 24)]), (45, .v (.int .i64 v10))] (.cons (.refl _) (.cons (.refl _) (.cons (.refl _) .nil))) ?_
        refine r_region (n := 2) rfl ?_
        refine o_int (v := .v (.int .i64 (w64 (v10 + 1)))) (by decide) rfl rfl rfl ?_
        refine o_move (v := .v (.int .i64 (w64 (v10 + 1)))) (by decide) rfl ?_
        refine run_nil ?_
        exact w_round (w64 (v10 + 1)) (Nat.lt_succ_self _) (.cons (.refl _) (.cons (.refl _) (.cons (.refl _) .nil))) ⟨(hS.keep [true] rfl).up (by omega), hM⟩
    · replace hM := ifF hM hb11
      refine w_condF (e := (decide (v10 < 8))) rfl hb11 ?_
      refine r_exit ?_
      refine r_then_exit ?_
      refine w_round_exit ?_
      refine r_blk_exit ?_
      exact w_goto () (.cons (.refl _) .nil) ⟨(hS.keep [true] rfl).up (by omega), hM⟩
theorem W_pulses_isTime {a0 : Int} {r : Bool} (hM : pulses_isTime a0 = some r) : PureSat Try.prog 54 [.v (.int .i64 a0)] (.v (.bool r)) := by
  refine pure_of_wp mixed Try.func54 rfl (by decide) Try.ntmps54 (by simp) ?pure fun H0 g hf => ?_
  case pure => exact .v _
  rw [frame0_of]
  change wpA _ _ _ _ (Fr.of [(0, .v (.int .i64 a0))]) H0 g
  have hS := St.start hf
  refine r_seq ?_
  refine r_region (n := 1) rfl ?_
  refine o_assign (v := .v (.bool false)) (by decide) rfl ?_
  refine run_nil ?_
  refine w_next [(0, .v (.int .i64 a0))] (.cons (.refl _) .nil) ?_
  refine r_seq ?_
  refine r_region (n := 3) rfl ?_
  refine o_move (v := .v (.int .i64 a0)) (by decide) rfl ?_
  obtain ⟨r1, hr1, hM⟩ := bindE hM
  refine o_call (bs := [.v (.int .i64 a0), .v (.int .i64 0), .v (.int .i64 99999)]) (by decide) rfl rfl ((W_pulses_within hr1).le (.cons (.refl _) (.cons (.refl _) (.cons (.refl _) .nil)))) ?_
  refine o_assign (v := .v (.bool r1)) (by decide) rfl ?_
  refine run_nil ?_
  refine w_next [(2, .v (.bool r1))] (.cons (.refl _) .nil) ?_
  refine r_ret ?_
  refine w_end (x := .v (.bool r1)) (f := fun r => .v (.bool r)) (.inr rfl) ?_ (.refl _) (Option.some.inj hM) hS
  exact (res_one (res_tmp (x := .v (.bool r1)) rfl))
theorem W_slices_IndexFunc_int {S : Type} {Lo : S → BL} (hk : ∀ s s', KinL (Lo s) (Lo s')) (hnd : ∀ s, (ids (Lo s)).Nodup) (hin : ∀ s, InB In (Lo s)) {aF : Int → S → Option (Bool × S)} {f0 : AV} (hF : ∀ s H, Has H (Lo s) → In H f0) (h0 : cellsOf f0 = some [f0]) (hf : ∀ {x0 : Int} {s : S} {r : Bool × S}, aF x0 s = some r → CSat Try.prog f0 [.v (.int .i64 x0)] (Lo s) (.v (.bool r.1)) (Lo r.2)) {n : Nat} {a0 : List Int} {st : S} {r : Int × S} (hM : slices_IndexFunc_int n aF a0 st = some r) : HSat Try.prog 82 [.sl .no 1 (a0.map cI), f0] (Lo st) (.v (.int .i64 r.1)) (Lo r.2) := by
  have hnd0 : ∀ s, (ids (Lo s)).Nodup := fun s => hnd s
  refine hsat_of_wp mixed Try.func82 rfl (by decide) Try.ntmps82 (by simp) (hk _ _) (hnd st) ?pure ?cells fun H0 g hf_ hp => ?_
  case pure => exact fun H _ => (show Go.AM.Pure _ from .v _).inH
  case cells => exact hin _
  rw [frame0_of]
  change wpA _ _ _ _ (Fr.of [(0, .sl .no 1 (a0.map cI)), (1, f0)]) H0 g
  have hS := St.startH (L := ([] ++ Lo st)) hf_ (hnd st) hp
  replace hS : St (fun i => i < g ∧ i ∉ ids (Lo st)) H0 ([] ++ Lo st) H0 g := hS
  refine r_seq ?_
  refine r_region (n := 1) rfl ?_
  refine o_assign (v := .v (.int .i64 0)) (by decide) rfl ?_
  refine run_nil ?_
  refine w_next [(0, .sl .no 1 (a0.map cI)), (1, f0)] (.cons (.refl _) (.cons (.refl _) .nil)) ?_
  refine w_join (J := S) (fun j => []) (fun j H' g' => St (fun i => i < g ∧ i ∉ ids (Lo st)) H0 ([] ++ Lo j) H' g' ∧ slices_IndexFunc_int_j1 j = some r) ?_ ?_
  · rintro v1 H g1 ⟨hS, hM⟩
    change wpA _ _ _ _ (Fr.of []) _ _
    replace hS : St (fun i => i < g ∧ i ∉ ids (Lo st)) H0 ([] ++ Lo v1) H g1 := hS
    replace hM : slices_IndexFunc_int_j1 v1 = some r := hM
    refine r_seq ?_
    refine r_region (n := 1) rfl ?_
    refine o_assign (v := .v (.int .i64 (-1))) (by decide) rfl ?_
    refine run_nil ?_
    refine w_next [(4, .v (.int .i64 (-1)))] (.cons (.refl _) .nil) ?_
    refine r_ret ?_
    refine w_endS (x := .v (.int .i64 (-1))) (f := fun r => .v (.int .i64 r.1)) (fd := fun r => (Lo r.2)) (.inr rfl) ?_ (.refl _) (Option.some.inj hM) hS 0 rfl
    exact (res_one (res_tmp (x := .v (.int .i64 (-1))) rfl))
  · refine r_seq ?_
    refine r_region (n := 3) rfl ?_
    refine o_move (v := .sl .no 1 (a0.map cI)) (by decide) rfl ?_
    refine o_len (n := a0.length) (by decide) rfl (List.length_map _) ty_isl22 ?_
    refine o_move (v := .v (.int .i64 0)) (by decide) rfl ?_
    refine run_nil ?_
    refine w_next [(0, .sl .no 1 (a0.map cI)), (1, f0), (7, .v (.int .i64 (a0.length : Int))), (8, .v (.int .i64 0))] (.cons (.refl _) (.cons (.refl _) (.cons (.refl _) (.cons (.refl _) .nil)))) ?_
    refine r_block ?_
    refine w_loop (V := Int × S) (fun v => [(0, .sl .no 1 (a0.map cI)), (1, f0), (7, .v (.int .i64 (a0.length : Int))), (8, .v (.int .i64 v.1))]) (fun v m3 H' g' => St (fun i => i < g ∧ i ∉ ids (Lo st)) H0 ([] ++ Lo v.2) H' g' ∧ slices_IndexFunc_int_l1 a0 aF m3 v.1 v.2 = some r) (n := n) (0, st) (.cons (.refl _) (.cons (.refl _) (.cons (.refl _) (.cons (.refl _) .nil)))) ⟨(hS.keep [] rfl).up (by omega), hM⟩ ?_
    rintro ⟨v3, v4⟩ m3 H g3 ⟨hS, hM⟩
    obtain _ | m3 := m3
    · exact nomatch (show none = some _ from hM)
    change wpA _ _ _ _ (Fr.of [(0, .sl .no 1 (a0.map cI)), (1, f0), (7, .v (.int .i64 (a0.length : Int))), (8, .v (.int .i64 v3))]) _ _
    replace hS : St (fun i => i < g ∧ i ∉ ids (Lo st)) H0 ([] ++ Lo v4) H g3 := hS
    replace hM : slices_IndexFunc_int_l1_b a0 aF (slices_IndexFunc_int_l1 a0 aF m3) v3 v4 = some r := hM
    refine r_seq ?_
    refine r_region (n := 1) rfl ?_
    refine o_int (v := .v (.bool (decide (v3 < (a0.length : Int))))) (by decide) rfl rfl rfl ?_
    refine run_nil ?_
    refine w_next [(0, .sl .no 1 (a0.map cI)), (1, f0), (7, .v (.int .i64 (a0.length : Int))), (8, .v (.int .i64 v3)), (9, .v (.bool (decide (v3 < (a0.length : Int)))))] (.cons (.refl _) (.cons (.refl _) (.cons (.refl _) (.cons (.refl _) (.cons (.refl _) .nil))))) ?_
    refine r_seq ?_
    rcases Bool.eq_false_or_eq_true (decide (v3 < (a0.length : Int))) with hb5 | hb5
    · replace hM := ifT hM hb5
      refine w_condT (e := (decide (v3 < (a0.length : Int)))) rfl hb5 ?_
      refine r_skip ?_
      refine w_next [(0, .sl .no 1 (a0.map cI)), (1, f0), (7, .v (.int .i64 (a0.length : Int))), (8, .v (.int .i64 v3))] (.cons (.refl _) (.cons (.refl _) (.cons (.refl _) (.cons (.refl _) .nil)))) ?_
      refine r_seq ?_
      refine r_block ?_
      refine r_seq ?_
      refine r_region (n := 2) rfl ?_
      refine o_move (v := .v (.int .i64 v3)) (by decide) rfl ?_
      refine o_assign (v := .v (.int .i64 v3)) (by decide) rfl ?_
      refine run_nil ?_
      refine w_next [(0, .sl .no 1 (a0.map cI)), (1, f0), (5, .v (.int .i64 v3)), (7, .v (.int .i64 (a0.length : Int))), (8, .v (.int .i64 v3))] (.cons (.refl _) (.cons (.refl _) (.cons (.refl _) (.cons (.refl _) (.cons (.refl _) .nil))))) ?_
      refine r_seq ?_
      refine r_region (n := 6) rfl ?_
      refine o_move (v := f0) (by decide) rfl ?_
      refine o_move (v := .sl .no 1 (a0.map cI)) (by decide) rfl ?_
      refine o_move (v := .v (.int .i64 v3)) (by decide) rfl ?_
      obtain ⟨x6, hx6, hM⟩ := bindE hM
      refine o_index (xs := a0) (f := cI) (z := v3) (u := x6) (by decide) rfl rfl ty_es22 hx6 ?_
      refine o_loadE (v := .v (.int .i64 x6)) (by decide) rfl (part_one ty_agg3 ty_sc3 rfl) ?_
      obtain ⟨r7, hr7, hM⟩ := bindE hM
      replace hS : St (fun i => i < g ∧ i ∉ ids (Lo st)) H0 ([] ++ Lo v4) _ _ := hS
      refine o_state (bs := [.v (.int .i64 x6)]) (.inl rfl) hS (by decide) rfl rfl ((hf hr7).le (.cons (.refl _) .nil)) (hk _ _).ids (by omega) fun H hS => ?_
      refine run_nil ?_
      refine w_next [(0, .sl .no 1 (a0.map cI)), (1, f0), (5, .v (.int .i64 v3)), (7, .v (.int .i64 (a0.length : Int))), (8, .v (.int .i64 v3)), (16, .v (.bool r7.1))] (.cons (.refl _) (.cons (.refl _) (.cons (.refl _) (.cons (.refl _) (.cons (.refl _) (.cons (.refl _) .nil)))))) ?_
      rcases Bool.eq_false_or_eq_true r7.1 with hb8 | hb8
      · replace hM := ifT hM hb8
        refine w_condT (e := r7.1) rfl hb8 ?_
        refine r_seq ?_
        refine r_region (n := 2) rfl ?_
        refine o_move (v := .v (.int .i64 v3)) (by decide) rfl ?_
        refine o_assign (v := .v (.int .i64 v3)) (by decide) rfl ?_
        refine run_nil ?_
        refine w_next [(4, .v (.int .i64 v3))] (.cons (.refl _) .nil) ?_
        refine r_ret ?_
        refine r_blk_ret ?_
        refine r_then_ret ?_
        refine w_round_ret ?_
        refine r_blk_ret ?_
        refine w_goto_ret ?_
        refine w_endS (x := .v (.int .i64 v3)) (f := fun r => .v (.int .i64 r.1)) (fd := fun r => (Lo r.2)) (.inr rfl) ?_ (.refl _) (Option.some.inj hM) hS 0 rfl
        exact (res_one (res_tmp (x := .v (.int .i64 v3)) rfl))
      · replace hM := ifF hM hb8
        refine w_condF (e := r7.1) rfl hb8 ?_
        refine r_skip ?_
        refine r_blk_normal ?_
        refine w_next [(0, .sl .no 1 (a0.map cI)), (1, f0), (7, .v (.int .i64 (a0.length : Int))), (8, .v (.int .i64 v3))] (.cons (.refl _) (.cons (.refl _) (.cons (.refl _) (.cons (.refl _) .nil)))) ?_
        refine r_region (n := 2) rfl ?_
        refine o_int (v := .v (.int .i64 (w64 (v3 + 1)))) (by decide) rfl rfl rfl ?_
        refine o_move (v := .v (.int .i64 (w64 (v3 + 1)))) (by decide) rfl ?_
        refine run_nil ?_
        exact w_round (w64 (v3 + 1), r7.2) (Nat.lt_succ_self _) (.cons (.refl _) (.cons (.refl _) (.cons (.refl _) (.cons (.refl _) .nil)))) ⟨(hS.keep [] rfl).up (by omega), hM⟩
    · replace hM := ifF hM hb5
      refine w_condF (e := (decide (v3 < (a0.length : Int)))) rfl hb5 ?_
      refine r_exit ?_
      refine r_then_exit ?_
      refine w_round_exit ?_
      refine r_blk_exit ?_
      exact w_goto v4 .nil ⟨(hS.keep [] rfl).up (by omega), hM⟩
theorem W_slices_ContainsFunc_int {S : Type} {Lo : S → BL} (hk : ∀ s s', KinL (Lo s) (Lo s')) (hnd : ∀ s, (ids (Lo s)).Nodup) (hin : ∀ s, InB In (Lo s)) {aF : Int → S → Option (Bool × S)} {f0 : AV} (hF : ∀ s H, Has H (Lo s) → In H f0) (h0 : cellsOf f0 = some [f0]) (hf : ∀ {x0 : Int} {s : S} {r : Bool × S}, aF x0 s = some r → CSat Try.prog f0 [.v (.int .i64 x0)] (Lo s) (.v (.bool r.1)) (Lo r.2)) {n : Nat} {a0 : List Int} {st : S} {r : Bool × S} (hM : slices_ContainsFunc_int n aF a0 st = some r) : HSat Try.prog 55 [.sl .no 1 (a0.map cI), f0] (Lo st) (.v (.bool r.1)) (Lo r.2) := by
  have hnd0 : ∀ s, (ids (Lo s)).Nodup := fun s => hnd s
  refine hsat_of_wp mixed Try.func55 rfl (by decide) Try.ntmps55 (by simp) (hk _ _) (hnd st) ?pure ?cells fun H0 g hf_ hp => ?_
  case pure => exact fun H _ => (show Go.AM.Pure _ from .v _).inH
  case cells => exact hin _
  rw [frame0_of]
  change wpA _ _ _ _ (Fr.of [(0, .sl .no 1 (a0.map cI)), (1, f0)]) H0 g
  have hS := St.startH (L := ([] ++ Lo st)) hf_ (hnd st) hp
  replace hS : St (fun i => i < g ∧ i ∉ ids (Lo st)) H0 ([] ++ Lo st) H0 g := hS
  refine r_seq ?_
  refine r_region (n := 1) rfl ?_
  refine o_assign (v := .v (.bool false)) (by decide) rfl ?_
  refine run_nil ?_
  refine w_next [(0, .sl .no 1 (a0.map cI)), (1, f0)] (.cons (.refl _) (.cons (.refl _) .nil)) ?_
  refine r_seq ?_
  refine r_region (n := 5) rfl ?_
  refine o_move (v := .sl .no 1 (a0.map cI)) (by decide) rfl ?_
  refine o_move (v := f0) (by decide) rfl ?_
  obtain ⟨r1, hr1, hM⟩ := bindE hM
  replace hS : St (fun i => i < g ∧ i ∉ ids (Lo st)) H0 ([] ++ Lo st) _ _ := hS
  refine o_stateH (bs := [.sl .no 1 (a0.map cI), f0]) (.inl rfl) hS (by decide) rfl rfl ((W_slices_IndexFunc_int (Lo := Lo)  hk hnd0 hin (aF := aF) hF h0 hf hr1).le (.cons (.refl _) (.cons (.refl _) .nil))) (hk _ _).ids (by omega) fun H hS => ?_
  refine o_int (v := .v (.bool (decide (r1.1 ≥ 0)))) (by decide) rfl rfl rfl ?_
  refine o_assign (v := .v (.bool (decide (r1.1 ≥ 0)))) (by decide) rfl ?_
  refine run_nil ?_
  refine w_next [(4, .v (.bool (decide (r1.1 ≥ 0))))] (.cons (.refl _) .nil) ?_
  refine r_ret ?_
  refine w_endS (x := .v (.bool (decide (r1.1 ≥ 0)))) (f := fun r => .v (.bool r.1)) (fd := fun r => (Lo r.2)) (.inr rfl) ?_ (.refl _) (Option.some.inj hM) hS 0 rfl
  exact (res_one (res_tmp (x := .v (.bool (decide (r1.1 ≥ 0)))) rfl))
theorem W_pulses_train_isSelection {a0 : Train_} {a1 : Int} {r : Bool} (hM : pulses_train_isSelection a0 a1 = some r) : PureSat Try.prog 57 [.agg [.v (.int .i64 a0.Pulse.Letters), .v (.int .i64 a0.Pulse.Numbers), .v (.int .i64 a0.Pulse.Pitch), .v (.int .i64 a0.Pulse.Slack), .v (.int .i64 a0.Pulse.Gap), .v (.int .i64 a0.Pulse.Pause), .v (.int .i64 a0.Pulse.Sparks), .sl .no 1 (a0.Pulse.Times.map cI)], .v (.int .i64 a1)] (.v (.bool r)) := by
  refine pure_of_wp mixed Try.func57 rfl (by decide) Try.ntmps57 (by simp) ?pure fun H0 g hf => ?_
  case pure => exact .v _
  rw [frame0_of]
  change wpA _ _ _ _ (Fr.of [(0, .agg [.v (.int .i64 a0.Pulse.Letters), .v (.int .i64 a0.Pulse.Numbers), .v (.int .i64 a0.Pulse.Pitch), .v (.int .i64 a0.Pulse.Slack), .v (.int .i64 a0.Pulse.Gap), .v (.int .i64 a0.Pulse.Pause), .v (.int .i64 a0.Pulse.Sparks), .sl .no 1 (a0.Pulse.Times.map cI)]), (1, .v (.int .i64 a1))]) H0 g
  have hS := St.start hf
  refine r_seq ?_
  refine r_region (n := 2) rfl ?_
  refine o_box (v := .agg [.v (.int .i64 a0.Pulse.Letters), .v (.int .i64 a0.Pulse.Numbers), .v (.int .i64 a0.Pulse.Pitch), .v (.int .i64 a0.Pulse.Slack), .v (.int .i64 a0.Pulse.Gap), .v (.int .i64 a0.Pulse.Pause), .v (.int .i64 a0.Pulse.Sparks), .sl .no 1 (a0.Pulse.Times.map cI)]) (cs := [.v (.int .i64 a0.Pulse.Letters), .v (.int .i64 a0.Pulse.Numbers), .v (.int .i64 a0.Pulse.Pitch), .v (.int .i64 a0.Pulse.Slack), .v (.int .i64 a0.Pulse.Gap), .v (.int .i64 a0.Pulse.Pause), .v (.int .i64 a0.Pulse.Sparks), .sl .no 1 (a0.Pulse.Times.map cI)]) hS (by decide) rfl rfl (by omega) fun H hS => ?_
  refine o_assign (v := .v (.bool false)) (by decide) rfl ?_
  refine run_nil ?_
  refine w_next [(1, .v (.int .i64 a1)), (2, .ptr (g + 0) 0)] (.cons (.refl _) (.cons (.refl _) .nil)) ?_
  refine r_seq ?_
  refine r_region (n := 11) rfl ?_
  refine o_move (v := .v (.int .i64 a1)) (by decide) rfl ?_
  refine o_fieldP (by decide) ty_fo62_0 rfl ?_
  refine o_fieldP (by decide) ty_fo24_0 rfl ?_
  refine o_load (v := .v (.int .i64 a0.Pulse.Letters)) 0 hS (by decide) rfl rfl .no (part_one ty_agg3 ty_sc3 rfl) ?_
  refine o_fieldP (by decide) ty_fo62_0 rfl ?_
  refine o_fieldP (by decide) ty_fo24_1 rfl ?_
  refine o_load (v := .v (.int .i64 a0.Pulse.Numbers)) 0 hS (by decide) rfl rfl .no (part_one ty_agg3 ty_sc3 rfl) ?_
  refine o_int (v := .v (.int .i64 (w64 (a0.Pulse.Letters * a0.Pulse.Numbers)))) (by decide) rfl rfl rfl ?_
  refine o_int (v := .v (.int .i64 (w64 ((w64 (a0.Pulse.Letters * a0.Pulse.Numbers)) - 1)))) (by decide) rfl rfl rfl ?_
  obtain ⟨r1, hr1, hM⟩ := bindE hM
  refine o_call (bs := [.v (.int .i64 a1), .v (.int .i64 0), .v (.int .i64 (w64 ((w64 (a0.Pulse.Letters * a0.Pulse.Numbers)) - 1)))]) (by decide) rfl rfl ((W_pulses_within hr1).le (.cons (.refl _) (.cons (.refl _) (.cons (.refl _) .nil)))) ?_
  refine o_assign (v := .v (.bool r1)) (by decide) rfl ?_
  refine run_nil ?_
  replace hS := hS.keep (L' := []) [false] rfl
  refine w_next [(4, .v (.bool r1))] (.cons (.refl _) .nil) ?_
  refine r_ret ?_
  refine w_end (x := .v (.bool r1)) (f := fun r => .v (.bool r)) (.inr rfl) ?_ (.refl _) (Option.some.inj hM) hS
  exact (res_one (res_tmp (x := .v (.bool r1)) rfl))
theorem W_pulses_Write_c1 {p1 : Nat} (hnd : [p1].Nodup) {a0 : Int} {a1 : Train_} {r : Bool} (hM : pulses_Write_c1 a0 a1 = some r) : HSat Try.prog 56 [.v (.int .i64 a0), .ptr p1 0] [(p1, .cells [.v (.int .i64 a1.Pulse.Letters), .v (.int .i64 a1.Pulse.Numbers), .v (.int .i64 a1.Pulse.Pitch), .v (.int .i64 a1.Pulse.Slack), .v (.int .i64 a1.Pulse.Gap), .v (.int .i64 a1.Pulse.Pause), .v (.int .i64 a1.Pulse.Sparks), .sl .no 1 (a1.Pulse.Times.map cI)])] (.v (.bool r)) [(p1, .cells [.v (.int .i64 a1.Pulse.Letters), .v (.int .i64 a1.Pulse.Numbers), .v (.int .i64 a1.Pulse.Pitch), .v (.int .i64 a1.Pulse.Slack), .v (.int .i64 a1.Pulse.Gap), .v (.int .i64 a1.Pulse.Pause), .v (.int .i64 a1.Pulse.Sparks), .sl .no 1 (a1.Pulse.Times.map cI)])] := by
  refine hsat_of_wp mixed Try.func56 rfl (by decide) Try.ntmps56 (by simp) (kl_cells kl_nil) hnd ?pure ?cells fun H0 g hf_ hp => ?_
  case pure => exact fun H _ => (show Go.AM.Pure _ from .v _).inH
  case cells => exact (inb_st (ic_cells (ci_cons (.inl (.inl (.v _))) (ci_cons (.inl (.inl (.v _))) (ci_cons (.inl (.inl (.v _))) (ci_cons (.inl (.inl (.v _))) (ci_cons (.inl (.inl (.v _))) (ci_cons (.inl (.inl (.v _))) (ci_cons (.inl (.inl (.v _))) (ci_cons (.inl (.inl (.sl _ _ (pures_map (fun x => (pl_cons (.v _) pl_nil)))))) ci_nil)))))))) ic_nil) inb_nil)
  rw [frame0_of]
  change wpA _ _ _ _ (Fr.of [(0, .v (.int .i64 a0)), (1, .ptr p1 0)]) H0 g
  have hS := St.startH (L := [(p1, .cells [.v (.int .i64 a1.Pulse.Letters), .v (.int .i64 a1.Pulse.Numbers), .v (.int .i64 a1.Pulse.Pitch), .v (.int .i64 a1.Pulse.Slack), .v (.int .i64 a1.Pulse.Gap), .v (.int .i64 a1.Pulse.Pause), .v (.int .i64 a1.Pulse.Sparks), .sl .no 1 (a1.Pulse.Times.map cI)])]) hf_ hnd hp
  replace hS : St (fun i => i < g ∧ i ∉ ids [(p1, .cells [.v (.int .i64 a1.Pulse.Letters), .v (.int .i64 a1.Pulse.Numbers), .v (.int .i64 a1.Pulse.Pitch), .v (.int .i64 a1.Pulse.Slack), .v (.int .i64 a1.Pulse.Gap), .v (.int .i64 a1.Pulse.Pause), .v (.int .i64 a1.Pulse.Sparks), .sl .no 1 (a1.Pulse.Times.map cI)])]) H0 [(p1, .cells [.v (.int .i64 a1.Pulse.Letters), .v (.int .i64 a1.Pulse.Numbers), .v (.int .i64 a1.Pulse.Pitch), .v (.int .i64 a1.Pulse.Slack), .v (.int .i64 a1.Pulse.Gap), .v (.int .i64 a1.Pulse.Pause), .v (.int .i64 a1.Pulse.Sparks), .sl .no 1 (a1.Pulse.Times.map cI)])] H0 g := hS
  refine r_seq ?_
  refine r_region (n := 1) rfl ?_
  refine o_assign (v := .v (.bool false)) (by decide) rfl ?_
  refine run_nil ?_
  refine w_next [(0, .v (.int .i64 a0)), (1, .ptr p1 0)] (.cons (.refl _) (.cons (.refl _) .nil)) ?_
  refine r_seq ?_
  refine r_region (n := 5) rfl ?_
  refine o_load (v := .agg [.v (.int .i64 a1.Pulse.Letters), .v (.int .i64 a1.Pulse.Numbers), .v (.int .i64 a1.Pulse.Pitch), .v (.int .i64 a1.Pulse.Slack), .v (.int .i64 a1.Pulse.Gap), .v (.int .i64 a1.Pulse.Pause), .v (.int .i64 a1.Pulse.Sparks), .sl .no 1 (a1.Pulse.Times.map cI)]) 0 hS (by decide) rfl rfl .no (part_agg ty_agg62 (Nat.le_of_ble_eq_true rfl) rfl) ?_
  refine o_move (v := .v (.int .i64 a0)) (by decide) rfl ?_
  obtain ⟨r1, hr1, hM⟩ := bindE hM
  refine o_call (bs := [.agg [.v (.int .i64 a1.Pulse.Letters), .v (.int .i64 a1.Pulse.Numbers), .v (.int .i64 a1.Pulse.Pitch), .v (.int .i64 a1.Pulse.Slack), .v (.int .i64 a1.Pulse.Gap), .v (.int .i64 a1.Pulse.Pause), .v (.int .i64 a1.Pulse.Sparks), .sl .no 1 (a1.Pulse.Times.map cI)], .v (.int .i64 a0)]) (by decide) rfl rfl ((W_pulses_train_isSelection hr1).le (.cons (.refl _) (.cons (.refl _) .nil))) ?_
  refine o_not (e := r1) (by decide) rfl ?_
  refine o_assign (v := .v (.bool (!r1))) (by decide) rfl ?_
  refine run_nil ?_
  refine w_next [(3, .v (.bool (!r1)))] (.cons (.refl _) .nil) ?_
  refine r_ret ?_
  refine w_endS (x := .v (.bool (!r1))) (f := fun r => .v (.bool r)) (fd := fun r => [(p1, .cells [.v (.int .i64 a1.Pulse.Letters), .v (.int .i64 a1.Pulse.Numbers), .v (.int .i64 a1.Pulse.Pitch), .v (.int .i64 a1.Pulse.Slack), .v (.int .i64 a1.Pulse.Gap), .v (.int .i64 a1.Pulse.Pause), .v (.int .i64 a1.Pulse.Sparks), .sl .no 1 (a1.Pulse.Times.map cI)])]) (.inr rfl) ?_ (.refl _) (Option.some.inj hM) hS 0 rfl
  exact (res_one (res_tmp (x := .v (.bool (!r1))) rfl))
theorem W_pulses_Write_c2 {p1 w1 p2 p3 : Nat} (hnd : [p1, w1, p2, p3].Nodup) {n : Nat} {a0 : Int} {a1 : Int} {a4 : Pulse} {st : (List Int) × Int} {r : Unit × ((List Int) × Int)} (hM : pulses_Write_c2 n a0 a1 a4 st = some r) : HSat Try.prog 58 [.v (.int .i64 a0), .v (.int .i64 a1), .ptr p1 0, .ptr p2 0, .ptr p3 0] [(p1, .cells [.sl (.id w1) 1 (st.1.map cI)]), (w1, .row 3 st.1.length), (p2, .cells [.v (.int .i64 st.2)]), (p3, .cells [.v (.int .i64 a4.Letters), .v (.int .i64 a4.Numbers), .v (.int .i64 a4.Pitch), .v (.int .i64 a4.Slack), .v (.int .i64 a4.Gap), .v (.int .i64 a4.Pause), .v (.int .i64 a4.Sparks), .sl .no 1 (a4.Times.map cI)])] (.tup []) [(p1, .cells [.sl (.id w1) 1 (r.2.1.map cI)]), (w1, .row 3 r.2.1.length), (p2, .cells [.v (.int .i64 r.2.2)]), (p3, .cells [.v (.int .i64 a4.Letters), .v (.int .i64 a4.Numbers), .v (.int .i64 a4.Pitch), .v (.int .i64 a4.Slack), .v (.int .i64 a4.Gap), .v (.int .i64 a4.Pause), .v (.int .i64 a4.Sparks), .sl .no 1 (a4.Times.map cI)])] := by
  refine hsat_of_wp mixed Try.func58 rfl (by decide) Try.ntmps58 (by simp) (kl_cells (kl_row (kl_cells (kl_cells kl_nil)))) hnd ?pure ?cells fun H0 g hf_ hp => ?_
  case pure => exact fun H _ => (show Go.AM.Pure _ from .tup _ pl_nil).inH
  case cells => exact (inb_st (ic_cells (ci_cons (.inl (.inr ⟨_, _, _, _, _, rfl, (List.mem_of_getElem? (i := 1) rfl), pures_map (fun x => (pl_cons (.v _) pl_nil))⟩)) ci_nil) (ic_row (ic_cells (ci_cons (.inl (.inl (.v _))) ci_nil) (ic_cells (ci_cons (.inl (.inl (.v _))) (ci_cons (.inl (.inl (.v _))) (ci_cons (.inl (.inl (.v _))) (ci_cons (.inl (.inl (.v _))) (ci_cons (.inl (.inl (.v _))) (ci_cons (.inl (.inl (.v _))) (ci_cons (.inl (.inl (.v _))) (ci_cons (.inl (.inl (.sl _ _ (pures_map (fun x => (pl_cons (.v _) pl_nil)))))) ci_nil)))))))) ic_nil)))) inb_nil)
  rw [frame0_of]
  change wpA _ _ _ _ (Fr.of [(0, .v (.int .i64 a0)), (1, .v (.int .i64 a1)), (2, .ptr p1 0), (3, .ptr p2 0), (4, .ptr p3 0)]) H0 g
  have hS := St.startH (L := [(p1, .cells [.sl (.id w1) 1 (st.1.map cI)]), (w1, .row 3 st.1.length), (p2, .cells [.v (.int .i64 st.2)]), (p3, .cells [.v (.int .i64 a4.Letters), .v (.int .i64 a4.Numbers), .v (.int .i64 a4.Pitch), .v (.int .i64 a4.Slack), .v (.int .i64 a4.Gap), .v (.int .i64 a4.Pause), .v (.int .i64 a4.Sparks), .sl .no 1 (a4.Times.map cI)])]) hf_ hnd hp
  replace hS : St (fun i => i < g ∧ i ∉ ids [(p1, .cells [.sl (.id w1) 1 (st.1.map cI)]), (w1, .row 3 st.1.length), (p2, .cells [.v (.int .i64 st.2)]), (p3, .cells [.v (.int .i64 a4.Letters), .v (.int .i64 a4.Numbers), .v (.int .i64 a4.Pitch), .v (.int .i64 a4.Slack), .v (.int .i64 a4.Gap), .v (.int .i64 a4.Pause), .v (.int .i64 a4.Sparks), .sl .no 1 (a4.Times.map cI)])]) H0 [(p1, .cells [.sl (.id w1) 1 (st.1.map cI)]), (w1, .row 3 st.1.length), (p2, .cells [.v (.int .i64 st.2)]), (p3, .cells [.v (.int .i64 a4.Letters), .v (.int .i64 a4.Numbers), .v (.int .i64 a4.Pitch), .v (.int .i64 a4.Slack), .v (.int .i64 a4.Gap), .v (.int .i64 a4.Pause), .v (.int .i64 a4.Sparks), .sl .no 1 (a4.Times.map cI)])] H0 g := hS
  refine r_seq ?_
  refine r_region (n := 2) rfl ?_
  refine o_move (v := .v (.int .i64 a1)) (by decide) rfl ?_
  refine o_move (v := .v (.int .i64 0)) (by decide) rfl ?_
  refine run_nil ?_
  refine w_next [(0, .v (.int .i64 a0)), (2, .ptr p1 0), (3, .ptr p2 0), (4, .ptr p3 0), (7, .v (.int .i64 a1)), (8, .v (.int .i64 0))] (.cons (.refl _) (.cons (.refl _) (.cons (.refl _) (.cons (.refl _) (.cons (.refl _) (.cons (.refl _) .nil)))))) ?_
  refine r_block ?_
  refine w_loop (V := Int × Int × (List Int) × Int) (fun v => [(0, .v (.int .i64 v.1)), (2, .ptr p1 0), (3, .ptr p2 0), (4, .ptr p3 0), (7, .v (.int .i64 a1)), (8, .v (.int .i64 v.2.1))]) (fun v m2 H' g' => St (fun i => i < g ∧ i ∉ ids [(p1, .cells [.sl (.id w1) 1 (st.1.map cI)]), (w1, .row 3 st.1.length), (p2, .cells [.v (.int .i64 st.2)]), (p3, .cells [.v (.int .i64 a4.Letters), .v (.int .i64 a4.Numbers), .v (.int .i64 a4.Pitch), .v (.int .i64 a4.Slack), .v (.int .i64 a4.Gap), .v (.int .i64 a4.Pause), .v (.int .i64 a4.Sparks), .sl .no 1 (a4.Times.map cI)])]) H0 [(p1, .cells [.sl (.id w1) 1 (v.2.2.1.map cI)]), (w1, .row 3 v.2.2.1.length), (p2, .cells [.v (.int .i64 v.2.2.2)]), (p3, .cells [.v (.int .i64 a4.Letters), .v (.int .i64 a4.Numbers), .v (.int .i64 a4.Pitch), .v (.int .i64 a4.Slack), .v (.int .i64 a4.Gap), .v (.int .i64 a4.Pause), .v (.int .i64 a4.Sparks), .sl .no 1 (a4.Times.map cI)])] H' g' ∧ pulses_Write_c2_l1 a1 a4 m2 v.1 v.2.1 v.2.2.1 v.2.2.2 = some r) (n := n) (a0, 0, st.1, st.2) (.cons (.refl _) (.cons (.refl _) (.cons (.refl _) (.cons (.refl _) (.cons (.refl _) (.cons (.refl _) .nil)))))) ⟨(hS.keep [true, true, true, true] rfl).up (by omega), hM⟩ ?_
  rintro ⟨v3, v4, v5, v6⟩ m2 H g2 ⟨hS, hM⟩
  obtain _ | m2 := m2
  · exact nomatch (show none = some _ from hM)
  change wpA _ _ _ _ (Fr.of [(0, .v (.int .i64 v3)), (2, .ptr p1 0), (3, .ptr p2 0), (4, .ptr p3 0), (7, .v (.int .i64 a1)), (8, .v (.int .i64 v4))]) _ _
  replace hS : St (fun i => i < g ∧ i ∉ ids [(p1, .cells [.sl (.id w1) 1 (st.1.map cI)]), (w1, .row 3 st.1.length), (p2, .cells [.v (.int .i64 st.2)]), (p3, .cells [.v (.int .i64 a4.Letters), .v (.int .i64 a4.Numbers), .v (.int .i64 a4.Pitch), .v (.int .i64 a4.Slack), .v (.int .i64 a4.Gap), .v (.int .i64 a4.Pause), .v (.int .i64 a4.Sparks), .sl .no 1 (a4.Times.map cI)])]) H0 [(p1, .cells [.sl (.id w1) 1 (v5.map cI)]), (w1, .row 3 v5.length), (p2, .cells [.v (.int .i64 v6)]), (p3, .cells [.v (.int .i64 a4.Letters), .v (.int .i64 a4.Numbers), .v (.int .i64 a4.Pitch), .v (.int .i64 a4.Slack), .v (.int .i64 a4.Gap), .v (.int .i64 a4.Pause), .v (.int .i64 a4.Sparks), .sl .no 1 (a4.Times.map cI)])] H g2 := hS
  replace hM : pulses_Write_c2_l1_b a1 a4 (pulses_Write_c2_l1 a1 a4 m2) v3 v4 v5 v6 = some r := hM
  refine r_seq ?_
  refine r_region (n := 1) rfl ?_
  refine o_int (v := .v (.bool (decide (v4 < a1)))) (by decide) rfl rfl rfl ?_
  refine run_nil ?_
  refine w_next [(0, .v (.int .i64 v3)), (2, .ptr p1 0), (3, .ptr p2 0), (4, .ptr p3 0), (7, .v (.int .i64 a1)), (8, .v (.int .i64 v4)), (9, .v (.bool (decide (v4 < a1))))] (.cons (.refl _) (.cons (.refl _) (.cons (.refl _) (.cons (.refl _) (.cons (.refl _) (.cons (.refl _) (.cons (.refl _) .nil))))))) ?_
  refine r_seq ?_
  rcases Bool.eq_false_or_eq_true (decide (v4 < a1)) with hb7 | hb7
  · replace hM := ifT hM hb7
    refine w_condT (e := (decide (v4 < a1))) rfl hb7 ?_
    refine r_skip ?_
    refine w_next [(0, .v (.int .i64 v3)), (2, .ptr p1 0), (3, .ptr p2 0), (4, .ptr p3 0), (7, .v (.int .i64 a1)), (8, .v (.int .i64 v4))] (.cons (.refl _) (.cons (.refl _) (.cons (.refl _) (.cons (.refl _) (.cons (.refl _) (.cons (.refl _) .nil)))))) ?_
    refine r_seq ?_
    refine r_block ?_
    refine w_join (J := Int) (fun j => [(2, .ptr p1 0), (3, .ptr p2 0), (4, .ptr p3 0), (7, .v (.int .i64 a1)), (8, .v (.int .i64 v4))]) (fun j H' g' => St (fun i => i < g ∧ i ∉ ids [(p1, .cells [.sl (.id w1) 1 (st.1.map cI)]), (w1, .row 3 st.1.length), (p2, .cells [.v (.int .i64 st.2)]), (p3, .cells [.v (.int .i64 a4.Letters), .v (.int .i64 a4.Numbers), .v (.int .i64 a4.Pitch), .v (.int .i64 a4.Slack), .v (.int .i64 a4.Gap), .v (.int .i64 a4.Pause), .v (.int .i64 a4.Sparks), .sl .no 1 (a4.Times.map cI)])]) H0 [(p1, .cells [.sl (.id w1) 1 (v5.map cI)]), (w1, .row 3 v5.length), (p2, .cells [.v (.int .i64 j)]), (p3, .cells [.v (.int .i64 a4.Letters), .v (.int .i64 a4.Numbers), .v (.int .i64 a4.Pitch), .v (.int .i64 a4.Slack), .v (.int .i64 a4.Gap), .v (.int .i64 a4.Pause), .v (.int .i64 a4.Sparks), .sl .no 1 (a4.Times.map cI)])] H' g' ∧ pulses_Write_c2_j1 (pulses_Write_c2_l1 a1 a4 m2) a4 v4 v5 j = some r) ?_ ?_
    · rintro v8 H g3 ⟨hS, hM⟩
      change wpA _ _ _ _ (Fr.of [(2, .ptr p1 0), (3, .ptr p2 0), (4, .ptr p3 0), (7, .v (.int .i64 a1)), (8, .v (.int .i64 v4))]) _ _
      replace hS : St (fun i => i < g ∧ i ∉ ids [(p1, .cells [.sl (.id w1) 1 (st.1.map cI)]), (w1, .row 3 st.1.length), (p2, .cells [.v (.int .i64 st.2)]), (p3, .cells [.v (.int .i64 a4.Letters), .v (.int .i64 a4.Numbers), .v (.int .i64 a4.Pitch), .v (.int .i64 a4.Slack), .v (.int .i64 a4.Gap), .v (.int .i64 a4.Pause), .v (.int .i64 a4.Sparks), .sl .no 1 (a4.Times.map cI)])]) H0 [(p1, .cells [.sl (.id w1) 1 (v5.map cI)]), (w1, .row 3 v5.length), (p2, .cells [.v (.int .i64 v8)]), (p3, .cells [.v (.int .i64 a4.Letters), .v (.int .i64 a4.Numbers), .v (.int .i64 a4.Pitch), .v (.int .i64 a4.Slack), .v (.int .i64 a4.Gap), .v (.int .i64 a4.Pause), .v (.int .i64 a4.Sparks), .sl .no 1 (a4.Times.map cI)])] H g3 := hS
      replace hM : pulses_Write_c2_j1 (pulses_Write_c2_l1 a1 a4 m2) a4 v4 v5 v8 = some r := hM
      have hS0 := hS
      refine r_drawX (n := 8) [(2, 20)] rfl (by kernel_rfl) (by kernel_rfl) ?_
      refine o_load (v := .sl (.id w1) 1 (v5.map cI)) 0 hS (by decide) rfl rfl (.st hS0 0 rfl (by omega)) (part_one ty_agg22 ty_sc22 rfl) ?_
      refine o_load (v := .v (.int .i64 v8)) 2 hS (by decide) rfl rfl (.st hS0 2 rfl (by omega)) (part_one ty_agg3 ty_sc3 rfl) ?_
      refine o_buildSlice (es := [[.v (.int .i64 v8)]]) hS (by decide) ty_es22 ty_el22 rfl ty_ef22 rfl (by decide) (by omega) fun H hS => ?_
      obtain ⟨l9, hl9, hM⟩ := bindE hM
      refine o_append (xs := v5) (ys := ([v8] : List Int)) (zs := l9) (f := cI) (L' := [(g3 + 2, .row 3 1), (p1, .cells [.sl (.id w1) 1 (v5.map cI)]), (w1, .row 3 l9.length), (p2, .cells [.v (.int .i64 v8)]), (p3, .cells [.v (.int .i64 a4.Letters), .v (.int .i64 a4.Numbers), .v (.int .i64 a4.Pitch), .v (.int .i64 a4.Slack), .v (.int .i64 a4.Gap), .v (.int .i64 a4.Pause), .v (.int .i64 a4.Sparks), .sl .no 1 (a4.Times.map cI)])]) 2 hS (by decide) rfl rfl rfl rfl (.st hS0 1 rfl (by omega)) ty_es22 ty_el22 ty_ef22 hl9 rfl fun H hS => ?_
      refine o_fieldP (by decide) ty_fo24_2 rfl ?_
      refine o_load (v := .v (.int .i64 a4.Pitch)) 4 hS (by decide) rfl rfl (.st hS0 3 rfl (by omega)) (part_one ty_agg3 ty_sc3 rfl) ?_
      refine o_store (v := .sl (.id w1) 1 (l9.map cI)) (ns := [.sl (.id w1) 1 (l9.map cI)]) (L' := [(g3 + 2, .row 3 1), (p1, .cells [.sl (.id w1) 1 (l9.map cI)]), (w1, .row 3 l9.length), (p2, .cells [.v (.int .i64 v8)]), (p3, .cells [.v (.int .i64 a4.Letters), .v (.int .i64 a4.Numbers), .v (.int .i64 a4.Pitch), .v (.int .i64 a4.Slack), .v (.int .i64 a4.Gap), .v (.int .i64 a4.Pause), .v (.int .i64 a4.Sparks), .sl .no 1 (a4.Times.map cI)])]) 1 hS rfl rfl (.st hS0 0 rfl (by omega)) rfl rfl ty_var22 (Nat.le_of_ble_eq_true rfl) rfl fun H hS => ?_
      refine o_assign (v := .v (.int .i64 a4.Pitch)) (by decide) rfl ?_
      refine run_nil ?_
      refine ⟨(sep_cons (hS.ne (n := 1) (m := 4) rfl rfl (by decide)) sep_nil), ?_⟩
      refine r_blk_normal ?_
      replace hS := hS.keep (L' := [(p1, .cells [.sl (.id w1) 1 (l9.map cI)]), (w1, .row 3 l9.length), (p2, .cells [.v (.int .i64 v8)]), (p3, .cells [.v (.int .i64 a4.Letters), .v (.int .i64 a4.Numbers), .v (.int .i64 a4.Pitch), .v (.int .i64 a4.Slack), .v (.int .i64 a4.Gap), .v (.int .i64 a4.Pause), .v (.int .i64 a4.Sparks), .sl .no 1 (a4.Times.map cI)])]) [false, true, true, true, true] rfl
      refine w_next [(0, .v (.int .i64 a4.Pitch)), (2, .ptr p1 0), (3, .ptr p2 0), (4, .ptr p3 0), (7, .v (.int .i64 a1)), (8, .v (.int .i64 v4))] (.cons (.refl _) (.cons (.refl _) (.cons (.refl _) (.cons (.refl _) (.cons (.refl _) (.cons (.refl _) .nil)))))) ?_
      refine r_region (n := 2) rfl ?_
      refine o_int (v := .v (.int .i64 (w64 (v4 + 1)))) (by decide) rfl rfl rfl ?_
      refine o_move (v := .v (.int .i64 (w64 (v4 + 1)))) (by decide) rfl ?_
      refine run_nil ?_
      exact w_round (a4.Pitch, w64 (v4 + 1), l9, v8) (Nat.lt_succ_self _) (.cons (.refl _) (.cons (.refl _) (.cons (.refl _) (.cons (.refl _) (.cons (.refl _) (.cons (.refl _) .nil)))))) ⟨(hS.keep [true, true, true, true] rfl).up (by omega), hM⟩
    · refine r_seq ?_
      refine r_region (n := 3) rfl ?_
      refine o_load (v := .sl (.id w1) 1 (v5.map cI)) 0 hS (by decide) rfl rfl .no (part_one ty_agg22 ty_sc22 rfl) ?_
      refine o_len (n := v5.length) (by decide) rfl (List.length_map _) ty_isl22 ?_
      refine o_int (v := .v (.bool (decide ((v5.length : Int) > 0)))) (by decide) rfl rfl rfl ?_
      refine run_nil ?_
      refine w_next [(0, .v (.int .i64 v3)), (2, .ptr p1 0), (3, .ptr p2 0), (4, .ptr p3 0), (7, .v (.int .i64 a1)), (8, .v (.int .i64 v4)), (12, .v (.bool (decide ((v5.length : Int) > 0))))] (.cons (.refl _) (.cons (.refl _) (.cons (.refl _) (.cons (.refl _) (.cons (.refl _) (.cons (.refl _) (.cons (.refl _) .nil))))))) ?_
      rcases Bool.eq_false_or_eq_true (decide ((v5.length : Int) > 0)) with hb10 | hb10
      · replace hM := ifT hM hb10
        refine w_condT (e := (decide ((v5.length : Int) > 0))) rfl hb10 ?_
        refine r_region (n := 4) rfl ?_
        refine o_load (v := .v (.int .i64 v6)) 2 hS (by decide) rfl rfl .no (part_one ty_agg3 ty_sc3 rfl) ?_
        refine o_move (v := .v (.int .i64 v3)) (by decide) rfl ?_
        refine o_int (v := .v (.int .i64 (w64 (v6 + v3)))) (by decide) rfl rfl rfl ?_
        refine o_store (v := .v (.int .i64 (w64 (v6 + v3)))) (ns := [.v (.int .i64 (w64 (v6 + v3)))]) (L' := [(p1, .cells [.sl (.id w1) 1 (v5.map cI)]), (w1, .row 3 v5.length), (p2, .cells [.v (.int .i64 (w64 (v6 + v3)))]), (p3, .cells [.v (.int .i64 a4.Letters), .v (.int .i64 a4.Numbers), .v (.int .i64 a4.Pitch), .v (.int .i64 a4.Slack), .v (.int .i64 a4.Gap), .v (.int .i64 a4.Pause), .v (.int .i64 a4.Sparks), .sl .no 1 (a4.Times.map cI)])]) 2 hS rfl rfl .no rfl rfl ty_var3 (Nat.le_of_ble_eq_true rfl) rfl fun H hS => ?_
        refine run_nil ?_
        exact w_goto (w64 (v6 + v3)) (.cons (.refl _) (.cons (.refl _) (.cons (.refl _) (.cons (.refl _) (.cons (.refl _) .nil))))) ⟨(hS.keep [true, true, true, true] rfl).up (by omega), hM⟩
      · replace hM := ifF hM hb10
        refine w_condF (e := (decide ((v5.length : Int) > 0))) rfl hb10 ?_
        refine r_skip ?_
        exact w_goto v6 (.cons (.refl _) (.cons (.refl _) (.cons (.refl _) (.cons (.refl _) (.cons (.refl _) .nil))))) ⟨(hS.keep [true, true, true, true] rfl).up (by omega), hM⟩
  · replace hM := ifF hM hb7
    refine w_condF (e := (decide (v4 < a1))) rfl hb7 ?_
    refine r_exit ?_
    refine r_then_exit ?_
    refine w_round_exit ?_
    refine r_blk_exit ?_
    refine w_endS (x := .tup []) (f := fun r => .tup []) (fd := fun r => [(p1, .cells [.sl (.id w1) 1 (r.2.1.map cI)]), (w1, .row 3 r.2.1.length), (p2, .cells [.v (.int .i64 r.2.2)]), (p3, .cells [.v (.int .i64 a4.Letters), .v (.int .i64 a4.Numbers), .v (.int .i64 a4.Pitch), .v (.int .i64 a4.Slack), .v (.int .i64 a4.Gap), .v (.int .i64 a4.Pause), .v (.int .i64 a4.Sparks), .sl .no 1 (a4.Times.map cI)])]) (.inl rfl) ?_ (.refl _) (Option.some.inj hM) hS 0 rfl
    exact rfl
theorem W_pulses_Write {n : Nat} {a0 : Pulse} {a1 : List Int} {a2 : Int} {r : (List Int) × Int} (hM : pulses_Write n a0 a1 a2 = some r) : PureSat Try.prog 18 [.agg [.v (.int .i64 a0.Letters), .v (.int .i64 a0.Numbers), .v (.int .i64 a0.Pitch), .v (.int .i64 a0.Slack), .v (.int .i64 a0.Gap), .v (.int .i64 a0.Pause), .v (.int .i64 a0.Sparks), .sl .no 1 (a0.Times.map cI)], .sl .no 1 (a1.map cI), .v (.int .i64 a2)] (.tup [.sl .no 1 (r.1.map cI), .v (.int .i64 r.2)]) := by
  refine pure_of_wp mixed Try.func18 rfl (by decide) Try.ntmps18 (by simp) ?pure fun H0 g hf => ?_
  case pure => exact .tup _ (pl_cons (.sl _ _ (pures_map (fun x => (pl_cons (.v _) pl_nil)))) (pl_cons (.v _) pl_nil))
  rw [frame0_of]
  change wpA _ _ _ _ (Fr.of [(0, .agg [.v (.int .i64 a0.Letters), .v (.int .i64 a0.Numbers), .v (.int .i64 a0.Pitch), .v (.int .i64 a0.Slack), .v (.int .i64 a0.Gap), .v (.int .i64 a0.Pause), .v (.int .i64 a0.Sparks), .sl .no 1 (a0.Times.map cI)]), (1, .sl .no 1 (a1.map cI)), (2, .v (.int .i64 a2))]) H0 g
  have hS := St.start hf
  refine r_seq ?_
  refine r_region (n := 4) rfl ?_
  refine o_box (v := .agg [.v (.int .i64 a0.Letters), .v (.int .i64 a0.Numbers), .v (.int .i64 a0.Pitch), .v (.int .i64 a0.Slack), .v (.int .i64 a0.Gap), .v (.int .i64 a0.Pause), .v (.int .i64 a0.Sparks), .sl .no 1 (a0.Times.map cI)]) (cs := [.v (.int .i64 a0.Letters), .v (.int .i64 a0.Numbers), .v (.int .i64 a0.Pitch), .v (.int .i64 a0.Slack), .v (.int .i64 a0.Gap), .v (.int .i64 a0.Pause), .v (.int .i64 a0.Sparks), .sl .no 1 (a0.Times.map cI)]) hS (by decide) rfl rfl (by omega) fun H hS => ?_
  refine o_box (v := .v (.int .i64 a2)) (cs := [.v (.int .i64 a2)]) hS (by decide) rfl rfl (by omega) fun H hS => ?_
  refine o_assign (v := .sl .nil 0 []) (by decide) rfl ?_
  refine o_assign (v := .v (.int .i64 0)) (by decide) rfl ?_
  refine run_nil ?_
  refine w_next [(1, .sl .no 1 (a1.map cI)), (3, .ptr (g + 0) 0), (5, .ptr (g + 1) 0)] (.cons (.refl _) (.cons (.refl _) (.cons (.refl _) .nil))) ?_
  refine r_seq ?_
  refine r_seq ?_
  refine r_region (n := 3) rfl ?_
  refine o_load (v := .agg [.v (.int .i64 a0.Letters), .v (.int .i64 a0.Numbers), .v (.int .i64 a0.Pitch), .v (.int .i64 a0.Slack), .v (.int .i64 a0.Gap), .v (.int .i64 a0.Pause), .v (.int .i64 a0.Sparks), .sl .no 1 (a0.Times.map cI)]) 1 hS (by decide) rfl rfl .no (part_agg ty_agg24 (Nat.le_of_ble_eq_true rfl) rfl) ?_
  obtain ⟨r1, hr1, hM⟩ := bindE hM
  refine o_call (bs := [.agg [.v (.int .i64 a0.Letters), .v (.int .i64 a0.Numbers), .v (.int .i64 a0.Pitch), .v (.int .i64 a0.Slack), .v (.int .i64 a0.Gap), .v (.int .i64 a0.Pause), .v (.int .i64 a0.Sparks), .sl .no 1 (a0.Times.map cI)]]) (by decide) rfl rfl ((W_pulses_Check hr1).le (.cons (.refl _) .nil)) ?_
  refine o_assign (v := .v (.int .i64 r1)) (by decide) rfl ?_
  refine run_nil ?_
  refine w_next [(1, .sl .no 1 (a1.map cI)), (3, .ptr (g + 0) 0), (5, .ptr (g + 1) 0), (8, .v (.int .i64 r1))] (.cons (.refl _) (.cons (.refl _) (.cons (.refl _) (.cons (.refl _) .nil)))) ?_
  refine r_seq ?_
  refine r_region (n := 2) rfl ?_
  refine o_move (v := .v (.int .i64 r1)) (by decide) rfl ?_
  refine o_int (v := .v (.bool (r1 != 0))) (by decide) rfl rfl rfl ?_
  refine run_nil ?_
  refine w_next [(1, .sl .no 1 (a1.map cI)), (3, .ptr (g + 0) 0), (5, .ptr (g + 1) 0), (8, .v (.int .i64 r1)), (17, .v (.bool (r1 != 0)))] (.cons (.refl _) (.cons (.refl _) (.cons (.refl _) (.cons (.refl _) (.cons (.refl _) .nil))))) ?_
  rcases Bool.eq_false_or_eq_true (r1 != 0) with hb2 | hb2
  · replace hM := ifT hM hb2
    refine w_condT (e := (r1 != 0)) rfl hb2 ?_
    refine r_seq ?_
    refine r_region (n := 3) rfl ?_
    refine o_move (v := .v (.int .i64 r1)) (by decide) rfl ?_
    refine o_assign (v := .sl .nil 0 []) (by decide) rfl ?_
    refine o_assign (v := .v (.int .i64 r1)) (by decide) rfl ?_
    refine run_nil ?_
    replace hS := hS.keep (L' := []) [false, false] rfl
    refine w_next [(6, .sl .nil 0 []), (7, .v (.int .i64 r1))] (.cons (.refl _) (.cons (.refl _) .nil)) ?_
    refine r_ret ?_
    refine r_then_ret ?_
    refine w_end (x := .tup [.sl .nil 0 [], .v (.int .i64 r1)]) (f := fun r => .tup [.sl .no 1 (r.1.map cI), .v (.int .i64 r.2)]) (.inr rfl) ?_ (.tupL (.cons (.sl0 .nil 1 0) (.cons (.refl _) .nil))) (Option.some.inj hM) hS
    exact (res_two (res_tmp (x := .sl .nil 0 []) rfl) (res_tmp (x := .v (.int .i64 r1)) rfl))
  · replace hM := ifF hM hb2
    refine w_condF (e := (r1 != 0)) rfl hb2 ?_
    refine r_skip ?_
    refine w_next [(1, .sl .no 1 (a1.map cI)), (3, .ptr (g + 0) 0), (5, .ptr (g + 1) 0)] (.cons (.refl _) (.cons (.refl _) (.cons (.refl _) .nil))) ?_
    refine r_seq ?_
    refine r_region (n := 4) rfl ?_
    refine o_load (v := .agg [.v (.int .i64 a0.Letters), .v (.int .i64 a0.Numbers), .v (.int .i64 a0.Pitch), .v (.int .i64 a0.Slack), .v (.int .i64 a0.Gap), .v (.int .i64 a0.Pause), .v (.int .i64 a0.Sparks), .sl .no 1 (a0.Times.map cI)]) 1 hS (by decide) rfl rfl .no (part_agg ty_agg24 (Nat.le_of_ble_eq_true rfl) rfl) ?_
    refine o_build (cs := [.v (.int .i64 a0.Letters), .v (.int .i64 a0.Numbers), .v (.int .i64 a0.Pitch), .v (.int .i64 a0.Slack), .v (.int .i64 a0.Gap), .v (.int .i64 a0.Pause), .v (.int .i64 a0.Sparks), .sl .no 1 (a0.Times.map cI)]) (by decide) ty_zero62 ty_pl62 rfl ?_
    refine o_alloc hS (by decide) ty_zero62 (by omega) fun H hS => ?_
    refine o_store (v := .agg [.v (.int .i64 a0.Letters), .v (.int .i64 a0.Numbers), .v (.int .i64 a0.Pitch), .v (.int .i64 a0.Slack), .v (.int .i64 a0.Gap), .v (.int .i64 a0.Pause), .v (.int .i64 a0.Sparks), .sl .no 1 (a0.Times.map cI)]) (ns := [.v (.int .i64 a0.Letters), .v (.int .i64 a0.Numbers), .v (.int .i64 a0.Pitch), .v (.int .i64 a0.Slack), .v (.int .i64 a0.Gap), .v (.int .i64 a0.Pause), .v (.int .i64 a0.Sparks), .sl .no 1 (a0.Times.map cI)]) (L' := [(g + 4 + 3 + 2 + 2, .cells [.v (.int .i64 a0.Letters), .v (.int .i64 a0.Numbers), .v (.int .i64 a0.Pitch), .v (.int .i64 a0.Slack), .v (.int .i64 a0.Gap), .v (.int .i64 a0.Pause), .v (.int .i64 a0.Sparks), .sl .no 1 (a0.Times.map cI)]), (g + 1, .cells [.v (.int .i64 a2)]), (g + 0, .cells [.v (.int .i64 a0.Letters), .v (.int .i64 a0.Numbers), .v (.int .i64 a0.Pitch), .v (.int .i64 a0.Slack), .v (.int .i64 a0.Gap), .v (.int .i64 a0.Pause), .v (.int .i64 a0.Sparks), .sl .no 1 (a0.Times.map cI)])]) 0 hS rfl rfl .no rfl rfl ty_var62 (Nat.le_of_ble_eq_true rfl) rfl fun H hS => ?_
    refine run_nil ?_
    refine w_next [(1, .sl .no 1 (a1.map cI)), (3, .ptr (g + 0) 0), (5, .ptr (g + 1) 0), (9, .ptr (g + 4 + 3 + 2 + 2) 0)] (.cons (.refl _) (.cons (.refl _) (.cons (.refl _) (.cons (.refl _) .nil)))) ?_
    refine r_seq ?_
    refine w_join (J := Bool) (fun j => [(1, .sl .no 1 (a1.map cI)), (3, .ptr (g + 0) 0), (5, .ptr (g + 1) 0), (33, .v (.bool j))]) (fun j H' g' => St (· < g) H0 [(g + 1, .cells [.v (.int .i64 a2)]), (g + 0, .cells [.v (.int .i64 a0.Letters), .v (.int .i64 a0.Numbers), .v (.int .i64 a0.Pitch), .v (.int .i64 a0.Slack), .v (.int .i64 a0.Gap), .v (.int .i64 a0.Pause), .v (.int .i64 a0.Sparks), .sl .no 1 (a0.Times.map cI)])] H' g' ∧ pulses_Write_j1 n a0 a1 a2 j = some r) ?_ ?_
    · rintro v3 H g1 ⟨hS, hM⟩
      change wpA _ _ _ _ (Fr.of [(1, .sl .no 1 (a1.map cI)), (3, .ptr (g + 0) 0), (5, .ptr (g + 1) 0), (33, .v (.bool v3))]) _ _
      replace hS : St (· < g) H0 [(g + 1, .cells [.v (.int .i64 a2)]), (g + 0, .cells [.v (.int .i64 a0.Letters), .v (.int .i64 a0.Numbers), .v (.int .i64 a0.Pitch), .v (.int .i64 a0.Slack), .v (.int .i64 a0.Gap), .v (.int .i64 a0.Pause), .v (.int .i64 a0.Sparks), .sl .no 1 (a0.Times.map cI)])] H g1 := hS
      replace hM : pulses_Write_j1 n a0 a1 a2 v3 = some r := hM
      rcases Bool.eq_false_or_eq_true v3 with hb4 | hb4
      · replace hM := ifT hM hb4
        refine w_condT (e := v3) rfl hb4 ?_
        refine r_seq ?_
        refine r_region (n := 2) rfl ?_
        refine o_assign (v := .sl .nil 0 []) (by decide) rfl ?_
        refine o_assign (v := .v (.int .i64 1)) (by decide) rfl ?_
        refine run_nil ?_
        replace hS := hS.keep (L' := []) [false, false] rfl
        refine w_next [(6, .sl .nil 0 []), (7, .v (.int .i64 1))] (.cons (.refl _) (.cons (.refl _) .nil)) ?_
        refine r_ret ?_
        refine r_then_ret ?_
        refine w_end (x := .tup [.sl .nil 0 [], .v (.int .i64 1)]) (f := fun r => .tup [.sl .no 1 (r.1.map cI), .v (.int .i64 r.2)]) (.inr rfl) ?_ (.tupL (.cons (.sl0 .nil 1 0) (.cons (.refl _) .nil))) (Option.some.inj hM) hS
        exact (res_two (res_tmp (x := .sl .nil 0 []) rfl) (res_tmp (x := .v (.int .i64 1)) rfl))
      · replace hM := ifF hM hb4
        refine w_condF (e := v3) rfl hb4 ?_
        refine r_skip ?_
        refine w_next [(1, .sl .no 1 (a1.map cI)), (3, .ptr (g + 0) 0), (5, .ptr (g + 1) 0)] (.cons (.refl _) (.cons (.refl _) (.cons (.refl _) .nil))) ?_
        refine r_seq ?_
        refine r_region (n := 1) rfl ?_
        refine o_alloc hS (by decide) ty_zero22 (by omega) fun H hS => ?_
        refine run_nil ?_
        refine w_ownC (cs' := [.sl (.id (g1 + 1)) 1 (([] : List Int).map cI)]) (L' := [(g1 + 0, .cells [.sl (.id (g1 + 1)) 1 (([] : List Int).map cI)]), (g + 1, .cells [.v (.int .i64 a2)]), (g + 0, .cells [.v (.int .i64 a0.Letters), .v (.int .i64 a0.Numbers), .v (.int .i64 a0.Pitch), .v (.int .i64 a0.Slack), .v (.int .i64 a0.Gap), .v (.int .i64 a0.Pause), .v (.int .i64 a0.Sparks), .sl .no 1 (a0.Times.map cI)])]) 0 0 1 3 hS (by omega) (by decide) rfl rfl rfl rfl fun H hS => ?_
        refine w_next [(1, .sl .no 1 (a1.map cI)), (3, .ptr (g + 0) 0), (5, .ptr (g + 1) 0), (10, .ptr (g1 + 0) 0)] (.cons (.refl _) (.cons (.refl _) (.cons (.refl _) (.cons (.refl _) .nil)))) ?_
        refine r_seq ?_
        refine r_region (n := 2) rfl ?_
        refine o_makeFunc (first := []) (cap := [.ptr (g1 + 0) 0, .ptr (g + 1) 0, .ptr (g + 0) 0]) (by decide) rfl rfl ?_
        refine o_assign (v := .fn (.func 58) [] [.ptr (g1 + 0) 0, .ptr (g + 1) 0, .ptr (g + 0) 0]) (by decide) rfl ?_
        refine run_nil ?_
        refine w_next [(1, .sl .no 1 (a1.map cI)), (3, .ptr (g + 0) 0), (5, .ptr (g + 1) 0), (10, .ptr (g1 + 0) 0), (11, .fn (.func 58) [] [.ptr (g1 + 0) 0, .ptr (g + 1) 0, .ptr (g + 0) 0])] (.cons (.refl _) (.cons (.refl _) (.cons (.refl _) (.cons (.refl _) (.cons (.refl _) .nil))))) ?_
        refine w_join (J := (List Int) × Int) (fun j => [(5, .ptr (g + 1) 0), (10, .ptr (g1 + 0) 0)]) (fun j H' g' => St (· < g) H0 [(g1 + 1, .row 3 j.1.length), (g1 + 0, .cells [.sl (.id (g1 + 1)) 1 (j.1.map cI)]), (g + 1, .cells [.v (.int .i64 j.2)])] H' g' ∧ pulses_Write_j2 j.1 j.2 = some r) ?_ ?_
        · rintro ⟨v5, v6⟩ H g2 ⟨hS, hM⟩
          change wpA _ _ _ _ (Fr.of [(5, .ptr (g + 1) 0), (10, .ptr (g1 + 0) 0)]) _ _
          replace hS : St (· < g) H0 [(g1 + 1, .row 3 v5.length), (g1 + 0, .cells [.sl (.id (g1 + 1)) 1 (v5.map cI)]), (g + 1, .cells [.v (.int .i64 v6)])] H g2 := hS
          replace hM : pulses_Write_j2 v5 v6 = some r := hM
          refine r_seq ?_
          refine w_join (J := Bool) (fun j => [(10, .ptr (g1 + 0) 0), (67, .v (.bool j))]) (fun j H' g' => St (· < g) H0 [(g1 + 1, .row 3 v5.length), (g1 + 0, .cells [.sl (.id (g1 + 1)) 1 (v5.map cI)])] H' g' ∧ pulses_Write_j3 v5 j = some r) ?_ ?_
          · rintro v7 H g3 ⟨hS, hM⟩
            change wpA _ _ _ _ (Fr.of [(10, .ptr (g1 + 0) 0), (67, .v (.bool v7))]) _ _
            replace hS : St (· < g) H0 [(g1 + 1, .row 3 v5.length), (g1 + 0, .cells [.sl (.id (g1 + 1)) 1 (v5.map cI)])] H g3 := hS
            replace hM : pulses_Write_j3 v5 v7 = some r := hM
            rcases Bool.eq_false_or_eq_true v7 with hb8 | hb8
            · replace hM := ifT hM hb8
              refine w_condT (e := v7) rfl hb8 ?_
              refine r_seq ?_
              refine r_region (n := 2) rfl ?_
              refine o_assign (v := .sl .nil 0 []) (by decide) rfl ?_
              refine o_assign (v := .v (.int .i64 131)) (by decide) rfl ?_
              refine run_nil ?_
              replace hS := hS.keep (L' := []) [false, false] rfl
              refine w_next [(6, .sl .nil 0 []), (7, .v (.int .i64 131))] (.cons (.refl _) (.cons (.refl _) .nil)) ?_
              refine r_ret ?_
              refine r_then_ret ?_
              refine w_end (x := .tup [.sl .nil 0 [], .v (.int .i64 131)]) (f := fun r => .tup [.sl .no 1 (r.1.map cI), .v (.int .i64 r.2)]) (.inr rfl) ?_ (.tupL (.cons (.sl0 .nil 1 0) (.cons (.refl _) .nil))) (Option.some.inj hM) hS
              exact (res_two (res_tmp (x := .sl .nil 0 []) rfl) (res_tmp (x := .v (.int .i64 131)) rfl))
            · replace hM := ifF hM hb8
              refine w_condF (e := v7) rfl hb8 ?_
              refine r_skip ?_
              refine w_next [(10, .ptr (g1 + 0) 0)] (.cons (.refl _) .nil) ?_
              refine r_seq ?_
              refine r_region (n := 3) rfl ?_
              refine o_load (v := .sl (.id (g1 + 1)) 1 (v5.map cI)) 1 hS (by decide) rfl rfl .no (part_one ty_agg22 ty_sc22 rfl) ?_
              refine o_assign (v := .sl (.id (g1 + 1)) 1 (v5.map cI)) (by decide) rfl ?_
              refine o_assign (v := .v (.int .i64 0)) (by decide) rfl ?_
              refine run_nil ?_
              replace hS := hS.keep (L' := [(g1 + 1, .row 3 v5.length)]) [true, false] rfl
              refine w_next [(6, .sl (.id (g1 + 1)) 1 (v5.map cI)), (7, .v (.int .i64 0))] (.cons (.refl _) (.cons (.refl _) .nil)) ?_
              refine r_ret ?_
              refine w_end (x := .tup [.sl (.id (g1 + 1)) 1 (v5.map cI), .v (.int .i64 0)]) (f := fun r => .tup [.sl .no 1 (r.1.map cI), .v (.int .i64 r.2)]) (.inr rfl) ?_ (.tupL (.cons (.sl _ _ _) (.cons (.refl _) .nil))) (Option.some.inj hM) hS
              exact (res_two (res_tmp (x := .sl (.id (g1 + 1)) 1 (v5.map cI)) rfl) (res_tmp (x := .v (.int .i64 0)) rfl))
          · refine r_region (n := 8) rfl ?_
            refine o_load (v := .sl (.id (g1 + 1)) 1 (v5.map cI)) 1 hS (by decide) rfl rfl .no (part_one ty_agg22 ty_sc22 rfl) ?_
            refine o_len (n := v5.length) (by decide) rfl (List.length_map _) ty_isl22 ?_
            refine o_int (v := .v (.bool (decide ((v5.length : Int) > 24)))) (by decide) rfl rfl rfl ?_
            refine o_move (v := .v (.bool (decide ((v5.length : Int) > 24)))) (by decide) rfl ?_
            rcases Bool.eq_false_or_eq_true (decide ((v5.length : Int) > 24)) with hb9 | hb9
            · replace hM := ifT hM hb9
              refine o_guardN (j := 3) (e := (decide ((v5.length : Int) > 24))) (want := false) (by decide) rfl hb9 ?_
              refine o_guardN (j := 3) (e := (decide ((v5.length : Int) > 24))) (want := false) (by decide) rfl hb9 ?_
              refine o_guardN (j := 3) (e := (decide ((v5.length : Int) > 24))) (want := false) (by decide) rfl hb9 ?_
              refine o_pickT (v := .v (.bool true)) (e := (decide ((v5.length : Int) > 24))) (by decide) rfl hb9 rfl ?_
              refine run_nil ?_
              exact w_goto true (.cons (.refl _) (.cons (.refl _) .nil)) ⟨(hS.keep [true, true, false] rfl).up (by omega), hM⟩
            · replace hM := ifF hM hb9
              refine o_guardY (j := 3) (e := (decide ((v5.length : Int) > 24))) (want := false) rfl hb9 ?_
              refine o_load (v := .v (.int .i64 v6)) 2 hS (by decide) rfl rfl .no (part_one ty_agg3 ty_sc3 rfl) ?_
              refine o_guardY (j := 3) (e := (decide ((v5.length : Int) > 24))) (want := false) rfl hb9 ?_
              obtain ⟨r10, hr10, hM⟩ := bindE hM
              refine o_call (bs := [.v (.int .i64 v6)]) (by decide) rfl rfl ((W_pulses_isTime hr10).le (.cons (.refl _) .nil)) ?_
              refine o_guardY (j := 3) (e := (decide ((v5.length : Int) > 24))) (want := false) rfl hb9 ?_
              refine o_not (e := r10) (by decide) rfl ?_
              refine o_pickF (v := .v (.bool (!r10))) (e := (decide ((v5.length : Int) > 24))) (by decide) rfl hb9 rfl ?_
              refine run_nil ?_
              exact w_goto (!r10) (.cons (.refl _) (.cons (.refl _) .nil)) ⟨(hS.keep [true, true, false] rfl).up (by omega), hM⟩
        · refine r_seq ?_
          refine r_region (n := 3) rfl ?_
          refine o_move (v := .sl .no 1 (a1.map cI)) (by decide) rfl ?_
          refine o_len (n := a1.length) (by decide) rfl (List.length_map _) ty_isl22 ?_
          refine o_move (v := .v (.int .i64 0)) (by decide) rfl ?_
          refine run_nil ?_
          refine w_next [(3, .ptr (g + 0) 0), (5, .ptr (g + 1) 0), (10, .ptr (g1 + 0) 0), (11, .fn (.func 58) [] [.ptr (g1 + 0) 0, .ptr (g + 1) 0, .ptr (g + 0) 0]), (35, .sl .no 1 (a1.map cI)), (36, .v (.int .i64 (a1.length : Int))), (37, .v (.int .i64 0))] (.cons (.refl _) (.cons (.refl _) (.cons (.refl _) (.cons (.refl _) (.cons (.refl _) (.cons (.refl _) (.cons (.refl _) .nil))))))) ?_
          refine r_block ?_
          refine w_loop (V := Int × (List Int) × Int) (fun v => [(3, .ptr (g + 0) 0), (5, .ptr (g + 1) 0), (10, .ptr (g1 + 0) 0), (11, .fn (.func 58) [] [.ptr (g1 + 0) 0, .ptr (g + 1) 0, .ptr (g + 0) 0]), (35, .sl .no 1 (a1.map cI)), (36, .v (.int .i64 (a1.length : Int))), (37, .v (.int .i64 v.1))]) (fun v m5 H' g' => St (· < g) H0 [(g1 + 1, .row 3 v.2.1.length), (g1 + 0, .cells [.sl (.id (g1 + 1)) 1 (v.2.1.map cI)]), (g + 1, .cells [.v (.int .i64 v.2.2)]), (g + 0, .cells [.v (.int .i64 a0.Letters), .v (.int .i64 a0.Numbers), .v (.int .i64 a0.Pitch), .v (.int .i64 a0.Slack), .v (.int .i64 a0.Gap), .v (.int .i64 a0.Pause), .v (.int .i64 a0.Sparks), .sl .no 1 (a0.Times.map cI)])] H' g' ∧ pulses_Write_l1 n a0 a1 m5 v.1 v.2.1 v.2.2 = some r) (n := n) (0, ([] : List Int), a2) (.cons (.refl _) (.cons (.refl _) (.cons (.refl _) (.cons (.refl _) (.cons (.refl _) (.cons (.refl _) (.cons (.refl _) .nil))))))) ⟨(hS.keep [true, true, true, true] rfl).up (by omega), hM⟩ ?_
          rintro ⟨v12, v13, v14⟩ m5 H g5 ⟨hS, hM⟩
          obtain _ | m5 := m5
          · exact nomatch (show none = some _ from hM)
          change wpA _ _ _ _ (Fr.of [(3, .ptr (g + 0) 0), (5, .ptr (g + 1) 0), (10, .ptr (g1 + 0) 0), (11, .fn (.func 58) [] [.ptr (g1 + 0) 0, .ptr (g + 1) 0, .ptr (g + 0) 0]), (35, .sl .no 1 (a1.map cI)), (36, .v (.int .i64 (a1.length : Int))), (37, .v (.int .i64 v12))]) _ _
          replace hS : St (· < g) H0 [(g1 + 1, .row 3 v13.length), (g1 + 0, .cells [.sl (.id (g1 + 1)) 1 (v13.map cI)]), (g + 1, .cells [.v (.int .i64 v14)]), (g + 0, .cells [.v (.int .i64 a0.Letters), .v (.int .i64 a0.Numbers), .v (.int .i64 a0.Pitch), .v (.int .i64 a0.Slack), .v (.int .i64 a0.Gap), .v (.int .i64 a0.Pause), .v (.int .i64 a0.Sparks), .sl .no 1 (a0.Times.map cI)])] H g5 := hS
          replace hM : pulses_Write_l1_b n a0 a1 (pulses_Write_l1 n a0 a1 m5) v12 v13 v14 = some r := hM
          refine r_seq ?_
          refine r_region (n := 1) rfl ?_
          refine o_int (v := .v (.bool (decide (v12 < (a1.length : Int))))) (by decide) rfl rfl rfl ?_
          refine run_nil ?_
          refine w_next [(3, .ptr (g + 0) 0), (5, .ptr (g + 1) 0), (10, .ptr (g1 + 0) 0), (11, .fn (.func 58) [] [.ptr (g1 + 0) 0, .ptr (g + 1) 0, .ptr (g + 0) 0]), (35, .sl .no 1 (a1.map cI)), (36, .v (.int .i64 (a1.length : Int))), (37, .v (.int .i64 v12)), (38, .v (.bool (decide (v12 < (a1.length : Int)))))] (.cons (.refl _) (.cons (.refl _) (.cons (.refl _) (.cons (.refl _) (.cons (.refl _) (.cons (.refl _) (.cons (.refl _) (.cons (.refl _) .nil)))))))) ?_
          refine r_seq ?_
          rcases Bool.eq_false_or_eq_true (decide (v12 < (a1.length : Int))) with hb15 | hb15
          · replace hM := ifT hM hb15
            refine w_condT (e := (decide (v12 < (a1.length : Int)))) rfl hb15 ?_
            refine r_skip ?_
            refine w_next [(3, .ptr (g + 0) 0), (5, .ptr (g + 1) 0), (10, .ptr (g1 + 0) 0), (11, .fn (.func 58) [] [.ptr (g1 + 0) 0, .ptr (g + 1) 0, .ptr (g + 0) 0]), (35, .sl .no 1 (a1.map cI)), (36, .v (.int .i64 (a1.length : Int))), (37, .v (.int .i64 v12))] (.cons (.refl _) (.cons (.refl _) (.cons (.refl _) (.cons (.refl _) (.cons (.refl _) (.cons (.refl _) (.cons (.refl _) .nil))))))) ?_
            refine r_seq ?_
            refine r_block ?_
            refine r_seq ?_
            refine r_region (n := 3) rfl ?_
            obtain ⟨x16, hx16, hM⟩ := bindE hM
            refine o_index (xs := a1) (f := cI) (z := v12) (u := x16) (by decide) rfl rfl ty_es22 hx16 ?_
            refine o_loadE (v := .v (.int .i64 x16)) (by decide) rfl (part_one ty_agg3 ty_sc3 rfl) ?_
            refine o_assign (v := .v (.int .i64 x16)) (by decide) rfl ?_
            refine run_nil ?_
            refine w_next [(3, .ptr (g + 0) 0), (5, .ptr (g + 1) 0), (10, .ptr (g1 + 0) 0), (11, .fn (.func 58) [] [.ptr (g1 + 0) 0, .ptr (g + 1) 0, .ptr (g + 0) 0]), (13, .v (.int .i64 x16)), (35, .sl .no 1 (a1.map cI)), (36, .v (.int .i64 (a1.length : Int))), (37, .v (.int .i64 v12))] (.cons (.refl _) (.cons (.refl _) (.cons (.refl _) (.cons (.refl _) (.cons (.refl _) (.cons (.refl _) (.cons (.refl _) (.cons (.refl _) .nil)))))))) ?_
            refine r_seq ?_
            have hS0 := hS
            refine r_draw (n := 9) rfl (by kernel_rfl) ?_
            refine o_move (v := .fn (.func 58) [] [.ptr (g1 + 0) 0, .ptr (g + 1) 0, .ptr (g + 0) 0]) (by decide) rfl ?_
            refine o_fieldP (by decide) ty_fo24_5 rfl ?_
            refine o_load (v := .v (.int .i64 a0.Pause)) 3 hS (by decide) rfl rfl (.st hS0 3 rfl (by omega)) (part_one ty_agg3 ty_sc3 rfl) ?_
            refine o_move (v := .v (.int .i64 x16)) (by decide) rfl ?_
            refine o_fieldP (by decide) ty_fo24_1 rfl ?_
            refine o_load (v := .v (.int .i64 a0.Numbers)) 3 hS (by decide) rfl rfl (.st hS0 3 rfl (by omega)) (part_one ty_agg3 ty_sc3 rfl) ?_
            obtain ⟨q17, hq17, hM⟩ := bindE hM
            refine o_int (by decide) rfl rfl (quo_int hq17) ?_
            refine o_int (v := .v (.int .i64 (w64 (q17 + 1)))) (by decide) rfl rfl rfl ?_
            obtain ⟨r18, hr18, hM⟩ := bindE hM
            have hndr18 := hS.nd_at (ns := [1, 0, 2, 3]) (M := [(g1 + 0, .cells [.sl (.id (g1 + 1)) 1 (v13.map cI)]), (g1 + 1, .row 3 v13.length), (g + 1, .cells [.v (.int .i64 v14)]), (g + 0, .cells [.v (.int .i64 a0.Letters), .v (.int .i64 a0.Numbers), .v (.int .i64 a0.Pitch), .v (.int .i64 a0.Slack), .v (.int .i64 a0.Gap), .v (.int .i64 a0.Pause), .v (.int .i64 a0.Sparks), .sl .no 1 (a0.Times.map cI)])]) (M' := [(g1 + 0, .cells [.sl (.id (g1 + 1)) 1 (r18.2.1.map cI)]), (g1 + 1, .row 3 r18.2.1.length), (g + 1, .cells [.v (.int .i64 r18.2.2)]), (g + 0, .cells [.v (.int .i64 a0.Letters), .v (.int .i64 a0.Numbers), .v (.int .i64 a0.Pitch), .v (.int .i64 a0.Slack), .v (.int .i64 a0.Gap), .v (.int .i64 a0.Pause), .v (.int .i64 a0.Sparks), .sl .no 1 (a0.Times.map cI)])]) (.cons rfl (.cons rfl (.cons rfl (.cons rfl .nil)))) (by decide)
            refine o_hsat (bs := [.v (.int .i64 a0.Pause), .v (.int .i64 (w64 (q17 + 1))), .ptr (g1 + 0) 0, .ptr (g + 1) 0, .ptr (g + 0) 0]) (M := [(g1 + 0, .cells [.sl (.id (g1 + 1)) 1 (v13.map cI)]), (g1 + 1, .row 3 v13.length), (g + 1, .cells [.v (.int .i64 v14)]), (g + 0, .cells [.v (.int .i64 a0.Letters), .v (.int .i64 a0.Numbers), .v (.int .i64 a0.Pitch), .v (.int .i64 a0.Slack), .v (.int .i64 a0.Gap), .v (.int .i64 a0.Pause), .v (.int .i64 a0.Sparks), .sl .no 1 (a0.Times.map cI)])]) (M' := [(g1 + 0, .cells [.sl (.id (g1 + 1)) 1 (r18.2.1.map cI)]), (g1 + 1, .row 3 r18.2.1.length), (g + 1, .cells [.v (.int .i64 r18.2.2)]), (g + 0, .cells [.v (.int .i64 a0.Letters), .v (.int .i64 a0.Numbers), .v (.int .i64 a0.Pitch), .v (.int .i64 a0.Slack), .v (.int .i64 a0.Gap), .v (.int .i64 a0.Pause), .v (.int .i64 a0.Sparks), .sl .no 1 (a0.Times.map cI)])]) (L' := [(g1 + 1, .row 3 r18.2.1.length), (g1 + 0, .cells [.sl (.id (g1 + 1)) 1 (r18.2.1.map cI)]), (g + 1, .cells [.v (.int .i64 r18.2.2)]), (g + 0, .cells [.v (.int .i64 a0.Letters), .v (.int .i64 a0.Numbers), .v (.int .i64 a0.Pitch), .v (.int .i64 a0.Slack), .v (.int .i64 a0.Gap), .v (.int .i64 a0.Pause), .v (.int .i64 a0.Sparks), .sl .no 1 (a0.Times.map cI)])]) [1, 0, 2, 3] (.inr (by kernel_rfl)) hS (by decide) rfl rfl ((W_pulses_Write_c2 (p1 := g1 + 0) (w1 := g1 + 1) (p2 := g + 1) (p3 := g + 0) hndr18 hr18).le (.cons (.refl _) (.cons (.refl _) (.cons (.refl _) (.cons (.refl _) (.cons (.refl _) .nil)))))) (.cons rfl (.cons rfl (.cons rfl (.cons rfl .nil)))) rfl (by omega) fun H hS => ?_
            refine run_nil ?_
            refine w_next [(3, .ptr (g + 0) 0), (5, .ptr (g + 1) 0), (10, .ptr (g1 + 0) 0), (11, .fn (.func 58) [] [.ptr (g1 + 0) 0, .ptr (g + 1) 0, .ptr (g + 0) 0]), (13, .v (.int .i64 x16)), (35, .sl .no 1 (a1.map cI)), (36, .v (.int .i64 (a1.length : Int))), (37, .v (.int .i64 v12))] (.cons (.refl _) (.cons (.refl _) (.cons (.refl _) (.cons (.refl _) (.cons (.refl _) (.cons (.refl _) (.cons (.refl _) (.cons (.refl _) .nil)))))))) ?_
            have hS0 := hS
            refine r_draw (n := 9) rfl (by kernel_rfl) ?_
            refine o_move (v := .fn (.func 58) [] [.ptr (g1 + 0) 0, .ptr (g + 1) 0, .ptr (g + 0) 0]) (by decide) rfl ?_
            refine o_fieldP (by decide) ty_fo24_4 rfl ?_
            refine o_load (v := .v (.int .i64 a0.Gap)) 3 hS (by decide) rfl rfl (.st hS0 3 rfl (by omega)) (part_one ty_agg3 ty_sc3 rfl) ?_
            refine o_move (v := .v (.int .i64 x16)) (by decide) rfl ?_
            refine o_fieldP (by decide) ty_fo24_1 rfl ?_
            refine o_load (v := .v (.int .i64 a0.Numbers)) 3 hS (by decide) rfl rfl (.st hS0 3 rfl (by omega)) (part_one ty_agg3 ty_sc3 rfl) ?_
            obtain ⟨q19, hq19, hM⟩ := bindE hM
            refine o_int (by decide) rfl rfl (rem_int hq19) ?_
            refine o_int (v := .v (.int .i64 (w64 (q19 + 1)))) (by decide) rfl rfl rfl ?_
            obtain ⟨r20, hr20, hM⟩ := bindE hM
            have hndr20 := hS.nd_at (ns := [1, 0, 2, 3]) (M := [(g1 + 0, .cells [.sl (.id (g1 + 1)) 1 (r18.2.1.map cI)]), (g1 + 1, .row 3 r18.2.1.length), (g + 1, .cells [.v (.int .i64 r18.2.2)]), (g + 0, .cells [.v (.int .i64 a0.Letters), .v (.int .i64 a0.Numbers), .v (.int .i64 a0.Pitch), .v (.int .i64 a0.Slack), .v (.int .i64 a0.Gap), .v (.int .i64 a0.Pause), .v (.int .i64 a0.Sparks), .sl .no 1 (a0.Times.map cI)])]) (M' := [(g1 + 0, .cells [.sl (.id (g1 + 1)) 1 (r20.2.1.map cI)]), (g1 + 1, .row 3 r20.2.1.length), (g + 1, .cells [.v (.int .i64 r20.2.2)]), (g + 0, .cells [.v (.int .i64 a0.Letters), .v (.int .i64 a0.Numbers), .v (.int .i64 a0.Pitch), .v (.int .i64 a0.Slack), .v (.int .i64 a0.Gap), .v (.int .i64 a0.Pause), .v (.int .i64 a0.Sparks), .sl .no 1 (a0.Times.map cI)])]) (.cons rfl (.cons rfl (.cons rfl (.cons rfl .nil)))) (by decide)
            refine o_hsat (bs := [.v (.int .i64 a0.Gap), .v (.int .i64 (w64 (q19 + 1))), .ptr (g1 + 0) 0, .ptr (g + 1) 0, .ptr (g + 0) 0]) (M := [(g1 + 0, .cells [.sl (.id (g1 + 1)) 1 (r18.2.1.map cI)]), (g1 + 1, .row 3 r18.2.1.length), (g + 1, .cells [.v (.int .i64 r18.2.2)]), (g + 0, .cells [.v (.int .i64 a0.Letters), .v (.int .i64 a0.Numbers), .v (.int .i64 a0.Pitch), .v (.int .i64 a0.Slack), .v (.int .i64 a0.Gap), .v (.int .i64 a0.Pause), .v (.int .i64 a0.Sparks), .sl .no 1 (a0.Times.map cI)])]) (M' := [(g1 + 0, .cells [.sl (.id (g1 + 1)) 1 (r20.2.1.map cI)]), (g1 + 1, .row 3 r20.2.1.length), (g + 1, .cells [.v (.int .i64 r20.2.2)]), (g + 0, .cells [.v (.int .i64 a0.Letters), .v (.int .i64 a0.Numbers), .v (.int .i64 a0.Pitch), .v (.int .i64 a0.Slack), .v (.int .i64 a0.Gap), .v (.int .i64 a0.Pause), .v (.int .i64 a0.Sparks), .sl .no 1 (a0.Times.map cI)])]) (L' := [(g1 + 1, .row 3 r20.2.1.length), (g1 + 0, .cells [.sl (.id (g1 + 1)) 1 (r20.2.1.map cI)]), (g + 1, .cells [.v (.int .i64 r20.2.2)]), (g + 0, .cells [.v (.int .i64 a0.Letters), .v (.int .i64 a0.Numbers), .v (.int .i64 a0.Pitch), .v (.int .i64 a0.Slack), .v (.int .i64 a0.Gap), .v (.int .i64 a0.Pause), .v (.int .i64 a0.Sparks), .sl .no 1 (a0.Times.map cI)])]) [1, 0, 2, 3] (.inr (by kernel_rfl)) hS (by decide) rfl rfl ((W_pulses_Write_c2 (p1 := g1 + 0) (w1 := g1 + 1) (p2 := g + 1) (p3 := g + 0) hndr20 hr20).le (.cons (.refl _) (.cons (.refl _) (.cons (.refl _) (.cons (.refl _) (.cons (.refl _) .nil)))))) (.cons rfl (.cons rfl (.cons rfl (.cons rfl .nil)))) rfl (by omega) fun H hS => ?_
            refine run_nil ?_
            refine r_blk_normal ?_
            refine w_next [(3, .ptr (g + 0) 0), (5, .ptr (g + 1) 0), (10, .ptr (g1 + 0) 0), (11, .fn (.func 58) [] [.ptr (g1 + 0) 0, .ptr (g + 1) 0, .ptr (g + 0) 0]), (35, .sl .no 1 (a1.map cI)), (36, .v (.int .i64 (a1.length : Int))), (37, .v (.int .i64 v12))] (.cons (.refl _) (.cons (.refl _) (.cons (.refl _) (.cons (.refl _) (.cons (.refl _) (.cons (.refl _) (.cons (.refl _) .nil))))))) ?_
            refine r_region (n := 2) rfl ?_
            refine o_int (v := .v (.int .i64 (w64 (v12 + 1)))) (by decide) rfl rfl rfl ?_
            refine o_move (v := .v (.int .i64 (w64 (v12 + 1)))) (by decide) rfl ?_
            refine run_nil ?_
            exact w_round (w64 (v12 + 1), r20.2.1, r20.2.2) (Nat.lt_succ_self _) (.cons (.refl _) (.cons (.refl _) (.cons (.refl _) (.cons (.refl _) (.cons (.refl _) (.cons (.refl _) (.cons (.refl _) .nil))))))) ⟨(hS.keep [true, true, true, true] rfl).up (by omega), hM⟩
          · replace hM := ifF hM hb15
            refine w_condF (e := (decide (v12 < (a1.length : Int)))) rfl hb15 ?_
            refine r_exit ?_
            refine r_then_exit ?_
            refine w_round_exit ?_
            refine r_blk_exit ?_
            exact w_goto (v13, v14) (.cons (.refl _) (.cons (.refl _) .nil)) ⟨(hS.keep [true, true, true, false] rfl).up (by omega), hM⟩
    · refine r_region (n := 13) rfl ?_
      refine o_move (v := .sl .no 1 (a1.map cI)) (by decide) rfl ?_
      refine o_len (n := a1.length) (by decide) rfl (List.length_map _) ty_isl22 ?_
      refine o_int (v := .v (.bool (decide ((a1.length : Int) > 24)))) (by decide) rfl rfl rfl ?_
      refine o_move (v := .v (.bool (decide ((a1.length : Int) > 24)))) (by decide) rfl ?_
      rcases Bool.eq_false_or_eq_true (decide ((a1.length : Int) > 24)) with hb21 | hb21
      · replace hM := ifT hM hb21
        refine o_guardN (j := 3) (e := (decide ((a1.length : Int) > 24))) (want := false) (by decide) rfl hb21 ?_
        refine o_guardN (j := 3) (e := (decide ((a1.length : Int) > 24))) (want := false) (by decide) rfl hb21 ?_
        refine o_guardN (j := 3) (e := (decide ((a1.length : Int) > 24))) (want := false) (by decide) rfl hb21 ?_
        refine o_pickT (v := .v (.bool true)) (e := (decide ((a1.length : Int) > 24))) (by decide) rfl hb21 rfl ?_
        refine o_move (v := .v (.bool true)) (by decide) rfl ?_
        refine o_guardN (j := 8) (e := true) (want := false) (by decide) rfl rfl ?_
        refine o_guardN (j := 8) (e := true) (want := false) (by decide) rfl rfl ?_
        refine o_guardN (j := 8) (e := true) (want := false) (by decide) rfl rfl ?_
        refine o_pickT (v := .v (.bool true)) (e := true) (by decide) rfl rfl rfl ?_
        refine run_nil ?_
        exact w_goto true (.cons (.refl _) (.cons (.refl _) (.cons (.refl _) (.cons (.refl _) .nil)))) ⟨(hS.keep [false, true, true] rfl).up (by omega), hM⟩
      · replace hM := ifF hM hb21
        refine o_guardY (j := 3) (e := (decide ((a1.length : Int) > 24))) (want := false) rfl hb21 ?_
        refine o_load (v := .v (.int .i64 a2)) 1 hS (by decide) rfl rfl .no (part_one ty_agg3 ty_sc3 rfl) ?_
        refine o_guardY (j := 3) (e := (decide ((a1.length : Int) > 24))) (want := false) rfl hb21 ?_
        obtain ⟨r22, hr22, hM⟩ := bindE hM
        refine o_call (bs := [.v (.int .i64 a2)]) (by decide) rfl rfl ((W_pulses_isTime hr22).le (.cons (.refl _) .nil)) ?_
        refine o_guardY (j := 3) (e := (decide ((a1.length : Int) > 24))) (want := false) rfl hb21 ?_
        refine o_not (e := r22) (by decide) rfl ?_
        refine o_pickF (v := .v (.bool (!r22))) (e := (decide ((a1.length : Int) > 24))) (by decide) rfl hb21 rfl ?_
        refine o_move (v := .v (.bool (!r22))) (by decide) rfl ?_
        rcases Bool.eq_false_or_eq_true (!r22) with hb23 | hb23
        · replace hM := ifT hM hb23
          refine o_guardN (j := 8) (e := (!r22)) (want := false) (by decide) rfl hb23 ?_
          refine o_guardN (j := 8) (e := (!r22)) (want := false) (by decide) rfl hb23 ?_
          refine o_guardN (j := 8) (e := (!r22)) (want := false) (by decide) rfl hb23 ?_
          refine o_pickT (v := .v (.bool true)) (e := (!r22)) (by decide) rfl hb23 rfl ?_
          refine run_nil ?_
          exact w_goto true (.cons (.refl _) (.cons (.refl _) (.cons (.refl _) (.cons (.refl _) .nil)))) ⟨(hS.keep [false, true, true] rfl).up (by omega), hM⟩
        · replace hM := ifF hM hb23
          refine o_guardY (j := 8) (e := (!r22)) (want := false) rfl hb23 ?_
          refine o_move (v := .sl .no 1 (a1.map cI)) (by decide) rfl ?_
          refine o_guardY (j := 8) (e := (!r22)) (want := false) rfl hb23 ?_
          refine o_makeFunc (first := []) (cap := [.ptr (g + 4 + 3 + 2 + 2) 0]) (by decide) rfl rfl ?_
          refine o_guardY (j := 8) (e := (!r22)) (want := false) rfl hb23 ?_
          obtain ⟨r24, hr24, hM⟩ := bindE hM
          have hndr24 := hS.nd_at (ns := [0]) (M := [(g + 4 + 3 + 2 + 2, .cells [.v (.int .i64 a0.Letters), .v (.int .i64 a0.Numbers), .v (.int .i64 a0.Pitch), .v (.int .i64 a0.Slack), .v (.int .i64 a0.Gap), .v (.int .i64 a0.Pause), .v (.int .i64 a0.Sparks), .sl .no 1 (a0.Times.map cI)])]) (M' := [(g + 4 + 3 + 2 + 2, .cells [.v (.int .i64 a0.Letters), .v (.int .i64 a0.Numbers), .v (.int .i64 a0.Pitch), .v (.int .i64 a0.Slack), .v (.int .i64 a0.Gap), .v (.int .i64 a0.Pause), .v (.int .i64 a0.Sparks), .sl .no 1 (a0.Times.map cI)])]) (.cons rfl .nil) (by decide)
          have hncr24 := hS.nd_at (ns := [0]) (M := [(g + 4 + 3 + 2 + 2, .cells [.v (.int .i64 a0.Letters), .v (.int .i64 a0.Numbers), .v (.int .i64 a0.Pitch), .v (.int .i64 a0.Slack), .v (.int .i64 a0.Gap), .v (.int .i64 a0.Pause), .v (.int .i64 a0.Sparks), .sl .no 1 (a0.Times.map cI)])]) (M' := [(g + 4 + 3 + 2 + 2, .cells [.v (.int .i64 a0.Letters), .v (.int .i64 a0.Numbers), .v (.int .i64 a0.Pitch), .v (.int .i64 a0.Slack), .v (.int .i64 a0.Gap), .v (.int .i64 a0.Pause), .v (.int .i64 a0.Sparks), .sl .no 1 (a0.Times.map cI)])]) (.cons rfl .nil) (by decide)
          refine o_hsat (bs := [.sl .no 1 (a1.map cI), .fn (.func 56) [] [.ptr (g + 4 + 3 + 2 + 2) 0]]) (M := [(g + 4 + 3 + 2 + 2, .cells [.v (.int .i64 a0.Letters), .v (.int .i64 a0.Numbers), .v (.int .i64 a0.Pitch), .v (.int .i64 a0.Slack), .v (.int .i64 a0.Gap), .v (.int .i64 a0.Pause), .v (.int .i64 a0.Sparks), .sl .no 1 (a0.Times.map cI)])]) (M' := [(g + 4 + 3 + 2 + 2, .cells [.v (.int .i64 a0.Letters), .v (.int .i64 a0.Numbers), .v (.int .i64 a0.Pitch), .v (.int .i64 a0.Slack), .v (.int .i64 a0.Gap), .v (.int .i64 a0.Pause), .v (.int .i64 a0.Sparks), .sl .no 1 (a0.Times.map cI)])]) (L' := [(g + 4 + 3 + 2 + 2, .cells [.v (.int .i64 a0.Letters), .v (.int .i64 a0.Numbers), .v (.int .i64 a0.Pitch), .v (.int .i64 a0.Slack), .v (.int .i64 a0.Gap), .v (.int .i64 a0.Pause), .v (.int .i64 a0.Sparks), .sl .no 1 (a0.Times.map cI)]), (g + 1, .cells [.v (.int .i64 a2)]), (g + 0, .cells [.v (.int .i64 a0.Letters), .v (.int .i64 a0.Numbers), .v (.int .i64 a0.Pitch), .v (.int .i64 a0.Slack), .v (.int .i64 a0.Gap), .v (.int .i64 a0.Pause), .v (.int .i64 a0.Sparks), .sl .no 1 (a0.Times.map cI)])]) [0] (.inl rfl) hS (by decide) rfl rfl ((W_slices_ContainsFunc_int (Lo := (fun (_ : Unit) => [(g + 4 + 3 + 2 + 2, .cells [.v (.int .i64 a0.Letters), .v (.int .i64 a0.Numbers), .v (.int .i64 a0.Pitch), .v (.int .i64 a0.Slack), .v (.int .i64 a0.Gap), .v (.int .i64 a0.Pause), .v (.int .i64 a0.Sparks), .sl .no 1 (a0.Times.map cI)])]))  (fun _ _ => (kl_cells kl_nil)) (fun _ => hndr24) (fun s => (inb_st (ic_cells (ci_cons (.inl (.inl (.v _))) (ci_cons (.inl (.inl (.v _))) (ci_cons (.inl (.inl (.v _))) (ci_cons (.inl (.inl (.v _))) (ci_cons (.inl (.inl (.v _))) (ci_cons (.inl (.inl (.v _))) (ci_cons (.inl (.inl (.v _))) (ci_cons (.inl (.inl (.sl _ _ (pures_map (fun x => (pl_cons (.v _) pl_nil)))))) ci_nil)))))))) ic_nil) inb_nil)) (aF := (fun (x0 : Int) (_ : Unit) => (pulses_Write_c1 x0 (⟨a0⟩ : Train_)).map fun y => (y, ()))) (fun s H hH => .fn _ _ _ ai_nil (ai_cons (in_ptr hH 0 rfl) ai_nil)) rfl (fun h => csat_cap (W_pulses_Write_c1 (p1 := g + 4 + 3 + 2 + 2)  hncr24 (pure_some h))) hr24).le (.cons (.refl _) (.cons (.refl _) .nil))) (.cons rfl .nil) rfl (by omega) fun H hS => ?_
          refine o_pickF (v := .v (.bool r24.1)) (e := (!r22)) (by decide) rfl hb23 rfl ?_
          refine run_nil ?_
          exact w_goto r24.1 (.cons (.refl _) (.cons (.refl _) (.cons (.refl _) (.cons (.refl _) .nil)))) ⟨(hS.keep [false, true, true] rfl).up (by omega), hM⟩
theorem W_ref01_SameInts {n : Nat} {a0 : List Int} {a1 : List Int} {r : Bool} (hM : ref01_SameInts n a0 a1 = some r) : PureSat Try.prog 20 [.sl .no 1 (a0.map cI), .sl .no 1 (a1.map cI)] (.v (.bool r)) := by
  refine pure_of_wp mixed Try.func20 rfl (by decide) Try.ntmps20 (by simp) ?pure fun H0 g hf => ?_
  case pure => exact .v _
  rw [frame0_of]
  change wpA _ _ _ _ (Fr.of [(0, .sl .no 1 (a0.map cI)), (1, .sl .no 1 (a1.map cI))]) H0 g
  have hS := St.start hf
  refine r_seq ?_
  refine r_region (n := 1) rfl ?_
  refine o_assign (v := .v (.bool false)) (by decide) rfl ?_
  refine run_nil ?_
  refine w_next [(0, .sl .no 1 (a0.map cI)), (1, .sl .no 1 (a1.map cI))] (.cons (.refl _) (.cons (.refl _) .nil)) ?_
  refine r_seq ?_
  refine r_seq ?_
  refine r_region (n := 5) rfl ?_
  refine o_move (v := .sl .no 1 (a0.map cI)) (by decide) rfl ?_
  refine o_len (n := a0.length) (by decide) rfl (List.length_map _) ty_isl22 ?_
  refine o_move (v := .sl .no 1 (a1.map cI)) (by decide) rfl ?_
  refine o_len (n := a1.length) (by decide) rfl (List.length_map _) ty_isl22 ?_
  refine o_int (v := .v (.bool ((a0.length : Int) != (a1.length : Int)))) (by decide) rfl rfl rfl ?_
  refine run_nil ?_
  refine w_next [(0, .sl .no 1 (a0.map cI)), (1, .sl .no 1 (a1.map cI)), (10, .v (.bool ((a0.length : Int) != (a1.length : Int))))] (.cons (.refl _) (.cons (.refl _) (.cons (.refl _) .nil))) ?_
  rcases Bool.eq_false_or_eq_true ((a0.length : Int) != (a1.length : Int)) with hb1 | hb1
  · replace hM := ifT hM hb1
    refine w_condT (e := ((a0.length : Int) != (a1.length : Int))) rfl hb1 ?_
    refine r_seq ?_
    refine r_region (n := 1) rfl ?_
    refine o_assign (v := .v (.bool false)) (by decide) rfl ?_
    refine run_nil ?_
    refine w_next [(4, .v (.bool false))] (.cons (.refl _) .nil) ?_
    refine r_ret ?_
    refine r_then_ret ?_
    refine w_end (x := .v (.bool false)) (f := fun r => .v (.bool r)) (.inr rfl) ?_ (.refl _) (Option.some.inj hM) hS
    exact (res_one (res_tmp (x := .v (.bool false)) rfl))
  · replace hM := ifF hM hb1
    refine w_condF (e := ((a0.length : Int) != (a1.length : Int))) rfl hb1 ?_
    refine r_skip ?_
    refine w_next [(0, .sl .no 1 (a0.map cI)), (1, .sl .no 1 (a1.map cI))] (.cons (.refl _) (.cons (.refl _) .nil)) ?_
    refine w_join (J := Unit) (fun j => []) (fun j H' g' => St (· < g) H0 [] H' g' ∧ ref01_SameInts_j1 = some r) ?_ ?_
    · rintro _ H g1 ⟨hS, hM⟩
      change wpA _ _ _ _ (Fr.of []) _ _
      replace hS : St (· < g) H0 [] H g1 := hS
      replace hM : ref01_SameInts_j1 = some r := hM
      refine r_seq ?_
      refine r_region (n := 1) rfl ?_
      refine o_assign (v := .v (.bool true)) (by decide) rfl ?_
      refine run_nil ?_
      refine w_next [(4, .v (.bool true))] (.cons (.refl _) .nil) ?_
      refine r_ret ?_
      refine w_end (x := .v (.bool true)) (f := fun r => .v (.bool r)) (.inr rfl) ?_ (.refl _) (Option.some.inj hM) hS
      exact (res_one (res_tmp (x := .v (.bool true)) rfl))
    · refine r_seq ?_
      refine r_region (n := 1) rfl ?_
      refine o_assign (v := .v (.int .i64 0)) (by decide) rfl ?_
      refine run_nil ?_
      refine w_next [(0, .sl .no 1 (a0.map cI)), (1, .sl .no 1 (a1.map cI)), (5, .v (.int .i64 0))] (.cons (.refl _) (.cons (.refl _) (.cons (.refl _) .nil))) ?_
      refine r_block ?_
      refine w_loop (V := Int) (fun v => [(0, .sl .no 1 (a0.map cI)), (1, .sl .no 1 (a1.map cI)), (5, .v (.int .i64 v))]) (fun v m2 H' g' => St (· < g) H0 [] H' g' ∧ ref01_SameInts_l1 a0 a1 m2 v = some r) (n := n) 0 (.cons (.refl _) (.cons (.refl _) (.cons (.refl _) .nil))) ⟨(hS.keep [] rfl).up (by omega), hM⟩ ?_
      rintro v2 m2 H g2 ⟨hS, hM⟩
      obtain _ | m2 := m2
      · exact nomatch (show none = some _ from hM)
      change wpA _ _ _ _ (Fr.of [(0, .sl .no 1 (a0.map cI)), (1, .sl .no 1 (a1.map cI)), (5, .v (.int .i64 v2))]) _ _
      replace hS : St (· < g) H0 [] H g2 := hS
      replace hM : ref01_SameInts_l1_b a0 a1 (ref01_SameInts_l1 a0 a1 m2) v2 = some r := hM
      refine r_seq ?_
      refine r_seq ?_
      refine r_region (n := 4) rfl ?_
      refine o_move (v := .v (.int .i64 v2)) (by decide) rfl ?_
      refine o_move (v := .sl .no 1 (a0.map cI)) (by decide) rfl ?_
      refine o_len (n := a0.length) (by decide) rfl (List.length_map _) ty_isl22 ?_
      refine o_int (v := .v (.bool (decide (v2 < (a0.length : Int))))) (by decide) rfl rfl rfl ?_
      refine run_nil ?_
      refine w_next [(0, .sl .no 1 (a0.map cI)), (1, .sl .no 1 (a1.map cI)), (5, .v (.int .i64 v2)), (14, .v (.bool (decide (v2 < (a0.length : Int)))))] (.cons (.refl _) (.cons (.refl _) (.cons (.refl _) (.cons (.refl _) .nil)))) ?_
      rcases Bool.eq_false_or_eq_true (decide (v2 < (a0.length : Int))) with hb3 | hb3
      · replace hM := ifT hM hb3
        refine w_condT (e := (decide (v2 < (a0.length : Int)))) rfl hb3 ?_
        refine r_skip ?_
        refine w_next [(0, .sl .no 1 (a0.map cI)), (1, .sl .no 1 (a1.map cI)), (5, .v (.int .i64 v2))] (.cons (.refl _) (.cons (.refl _) (.cons (.refl _) .nil))) ?_
        refine r_seq ?_
        refine r_block ?_
        refine r_seq ?_
        have hS0 := hS
        refine r_draw (n := 9) rfl (by kernel_rfl) ?_
        refine o_move (v := .sl .no 1 (a0.map cI)) (by decide) rfl ?_
        refine o_move (v := .v (.int .i64 v2)) (by decide) rfl ?_
        obtain ⟨x4, hx4, hM⟩ := bindE hM
        refine o_index (xs := a0) (f := cI) (z := v2) (u := x4) (by decide) rfl rfl ty_es22 hx4 ?_
        refine o_loadE (v := .v (.int .i64 x4)) (by decide) rfl (part_one ty_agg3 ty_sc3 rfl) ?_
        refine o_move (v := .sl .no 1 (a1.map cI)) (by decide) rfl ?_
        refine o_move (v := .v (.int .i64 v2)) (by decide) rfl ?_
        obtain ⟨x5, hx5, hM⟩ := bindE hM
        refine o_index (xs := a1) (f := cI) (z := v2) (u := x5) (by decide) rfl rfl ty_es22 hx5 ?_
        refine o_loadE (v := .v (.int .i64 x5)) (by decide) rfl (part_one ty_agg3 ty_sc3 rfl) ?_
        refine o_int (v := .v (.bool (x4 != x5))) (by decide) rfl rfl rfl ?_
        refine run_nil ?_
        refine w_next [(0, .sl .no 1 (a0.map cI)), (1, .sl .no 1 (a1.map cI)), (5, .v (.int .i64 v2)), (25, .v (.bool (x4 != x5)))] (.cons (.refl _) (.cons (.refl _) (.cons (.refl _) (.cons (.refl _) .nil)))) ?_
        rcases Bool.eq_false_or_eq_true (x4 != x5) with hb6 | hb6
        · replace hM := ifT hM hb6
          refine w_condT (e := (x4 != x5)) rfl hb6 ?_
          refine r_seq ?_
          refine r_region (n := 1) rfl ?_
          refine o_assign (v := .v (.bool false)) (by decide) rfl ?_
          refine run_nil ?_
          refine w_next [(4, .v (.bool false))] (.cons (.refl _) .nil) ?_
          refine r_ret ?_
          refine r_blk_ret ?_
          refine r_then_ret ?_
          refine w_round_ret ?_
          refine r_blk_ret ?_
          refine w_goto_ret ?_
          refine w_end (x := .v (.bool false)) (f := fun r => .v (.bool r)) (.inr rfl) ?_ (.refl _) (Option.some.inj hM) hS
          exact (res_one (res_tmp (x := .v (.bool false)) rfl))
        · replace hM := ifF hM hb6
          refine w_condF (e := (x4 != x5)) rfl hb6 ?_
          refine r_skip ?_
          refine r_blk_normal ?_
          refine w_next [(0, .sl .no 1 (a0.map cI)), (1, .sl .no 1 (a1.map cI)), (5, .v (.int .i64 v2))] (.cons (.refl _) (.cons (.refl _) (.cons (.refl _) .nil))) ?_
          refine r_region (n := 3) rfl ?_
          refine o_move (v := .v (.int .i64 v2)) (by decide) rfl ?_
          refine o_int (v := .v (.int .i64 (w64 (v2 + 1)))) (by decide) rfl rfl rfl ?_
          refine o_assign (v := .v (.int .i64 (w64 (v2 + 1)))) (by decide) rfl ?_
          refine run_nil ?_
          exact w_round (w64 (v2 + 1)) (Nat.lt_succ_self _) (.cons (.refl _) (.cons (.refl _) (.cons (.refl _) .nil))) ⟨(hS.keep [] rfl).up (by omega), hM⟩
      · replace hM := ifF hM hb3
        refine w_condF (e := (decide (v2 < (a0.length : Int)))) rfl hb3 ?_
        refine r_exit ?_
        refine r_then_exit ?_
        refine w_round_exit ?_
        refine r_blk_exit ?_
        exact w_goto () .nil ⟨(hS.keep [] rfl).up (by omega), hM⟩
theorem W_pulses_train_sets_b {S : Type} {Lo : S → BL} (hk : ∀ s s', KinL (Lo s) (Lo s')) (hnd : ∀ s, (ids (Lo s)).Nodup) (hin : ∀ s, InB In (Lo s)) {aF : Int → S → Option (Bool × S)} {f0 : AV} (hF : ∀ s H, Has H (Lo s) → In H f0) (h0 : cellsOf f0 = some [f0]) (hf : ∀ {x0 : Int} {s : S} {r : Bool × S}, aF x0 s = some r → CSat Try.prog f0 [.v (.int .u64 x0)] (Lo s) (.v (.bool r.1)) (Lo r.2)) {n : Nat} {rec : Train_ → Int → Int → Int → S → Option (Bool × S)} (hrec : ∀ {a0 : Train_} {a1 : Int} {a2 : Int} {a3 : Int} {st : S} {r : Bool × S}, rec a0 a1 a2 a3 st = some r → HSat Try.prog 84 [.agg [.v (.int .i64 a0.Pulse.Letters), .v (.int .i64 a0.Pulse.Numbers), .v (.int .i64 a0.Pulse.Pitch), .v (.int .i64 a0.Pulse.Slack), .v (.int .i64 a0.Pulse.Gap), .v (.int .i64 a0.Pulse.Pause), .v (.int .i64 a0.Pulse.Sparks), .sl .no 1 (a0.Pulse.Times.map cI)], .v (.int .u64 a1), .v (.int .i64 a2), .v (.int .i64 a3), f0] (Lo st) (.v (.bool r.1)) (Lo r.2)) {a0 : Train_} {a1 : Int} {a2 : Int} {a3 : Int} {st : S} {r : Bool × S} (hM : pulses_train_sets_b n rec aF a0 a1 a2 a3 st = some r) : HSat Try.prog 84 [.agg [.v (.int .i64 a0.Pulse.Letters), .v (.int .i64 a0.Pulse.Numbers), .v (.int .i64 a0.Pulse.Pitch), .v (.int .i64 a0.Pulse.Slack), .v (.int .i64 a0.Pulse.Gap), .v (.int .i64 a0.Pulse.Pause), .v (.int .i64 a0.Pulse.Sparks), .sl .no 1 (a0.Pulse.Times.map cI)], .v (.int .u64 a1), .v (.int .i64 a2), .v (.int .i64 a3), f0] (Lo st) (.v (.bool r.1)) (Lo r.2) := by
  have hnd0 : ∀ s, (ids (Lo s)).Nodup := fun s => hnd s
  refine hsat_of_wp mixed Try.func84 rfl (by decide) Try.ntmps84 (by simp) (hk _ _) (hnd st) ?pure ?cells fun H0 g hf_ hp => ?_
  case pure => exact fun H _ => (show Go.AM.Pure _ from .v _).inH
  case cells => exact hin _
  rw [frame0_of]
  change wpA _ _ _ _ (Fr.of [(0, .agg [.v (.int .i64 a0.Pulse.Letters), .v (.int .i64 a0.Pulse.Numbers), .v (.int .i64 a0.Pulse.Pitch), .v (.int .i64 a0.Pulse.Slack), .v (.int .i64 a0.Pulse.Gap), .v (.int .i64 a0.Pulse.Pause), .v (.int .i64 a0.Pulse.Sparks), .sl .no 1 (a0.Pulse.Times.map cI)]), (1, .v (.int .u64 a1)), (2, .v (.int .i64 a2)), (3, .v (.int .i64 a3)), (4, f0)]) H0 g
  have hS := St.startH (L := ([] ++ Lo st)) hf_ (hnd st) hp
  replace hS : St (fun i => i < g ∧ i ∉ ids (Lo st)) H0 ([] ++ Lo st) H0 g := hS
  refine r_seq ?_
  refine r_region (n := 2) rfl ?_
  refine o_box (v := .agg [.v (.int .i64 a0.Pulse.Letters), .v (.int .i64 a0.Pulse.Numbers), .v (.int .i64 a0.Pulse.Pitch), .v (.int .i64 a0.Pulse.Slack), .v (.int .i64 a0.Pulse.Gap), .v (.int .i64 a0.Pulse.Pause), .v (.int .i64 a0.Pulse.Sparks), .sl .no 1 (a0.Pulse.Times.map cI)]) (cs := [.v (.int .i64 a0.Pulse.Letters), .v (.int .i64 a0.Pulse.Numbers), .v (.int .i64 a0.Pulse.Pitch), .v (.int .i64 a0.Pulse.Slack), .v (.int .i64 a0.Pulse.Gap), .v (.int .i64 a0.Pulse.Pause), .v (.int .i64 a0.Pulse.Sparks), .sl .no 1 (a0.Pulse.Times.map cI)]) hS (by decide) rfl rfl (by omega) fun H hS => ?_
  refine o_assign (v := .v (.bool false)) (by decide) rfl ?_
  refine run_nil ?_
  refine w_next [(1, .v (.int .u64 a1)), (2, .v (.int .i64 a2)), (3, .v (.int .i64 a3)), (4, f0), (5, .ptr (g + 0) 0)] (.cons (.refl _) (.cons (.refl _) (.cons (.refl _) (.cons (.refl _) (.cons (.refl _) .nil))))) ?_
  refine r_seq ?_
  refine r_seq ?_
  refine r_region (n := 2) rfl ?_
  refine o_move (v := .v (.int .i64 a3)) (by decide) rfl ?_
  refine o_int (v := .v (.bool (a3 == 0))) (by decide) rfl rfl rfl ?_
  refine run_nil ?_
  refine w_next [(1, .v (.int .u64 a1)), (2, .v (.int .i64 a2)), (3, .v (.int .i64 a3)), (4, f0), (5, .ptr (g + 0) 0), (13, .v (.bool (a3 == 0)))] (.cons (.refl _) (.cons (.refl _) (.cons (.refl _) (.cons (.refl _) (.cons (.refl _) (.cons (.refl _) .nil)))))) ?_
  rcases Bool.eq_false_or_eq_true (a3 == 0) with hb1 | hb1
  · replace hM := ifT hM hb1
    refine w_condT (e := (a3 == 0)) rfl hb1 ?_
    refine r_seq ?_
    refine r_region (n := 4) rfl ?_
    refine o_move (v := f0) (by decide) rfl ?_
    refine o_move (v := .v (.int .u64 a1)) (by decide) rfl ?_
    obtain ⟨r2, hr2, hM⟩ := bindE hM
    replace hS : St (fun i => i < g ∧ i ∉ ids (Lo st)) H0 ([(g + 0, .cells [.v (.int .i64 a0.Pulse.Letters), .v (.int .i64 a0.Pulse.Numbers), .v (.int .i64 a0.Pulse.Pitch), .v (.int .i64 a0.Pulse.Slack), .v (.int .i64 a0.Pulse.Gap), .v (.int .i64 a0.Pulse.Pause), .v (.int .i64 a0.Pulse.Sparks), .sl .no 1 (a0.Pulse.Times.map cI)])] ++ Lo st) _ _ := hS
    refine o_state (bs := [.v (.int .u64 a1)]) (.inl rfl) hS (by decide) rfl rfl ((hf hr2).le (.cons (.refl _) .nil)) (hk _ _).ids (by omega) fun H hS => ?_
    refine o_assign (v := .v (.bool r2.1)) (by decide) rfl ?_
    refine run_nil ?_
    replace hS := hS.keep (L' := ([] ++ Lo r2.2)) [false] rfl
    refine w_next [(10, .v (.bool r2.1))] (.cons (.refl _) .nil) ?_
    refine r_ret ?_
    refine r_then_ret ?_
    refine w_endS (x := .v (.bool r2.1)) (f := fun r => .v (.bool r.1)) (fd := fun r => (Lo r.2)) (.inr rfl) ?_ (.refl _) (Option.some.inj hM) hS 0 rfl
    exact (res_one (res_tmp (x := .v (.bool r2.1)) rfl))
  · replace hM := ifF hM hb1
    refine w_condF (e := (a3 == 0)) rfl hb1 ?_
    refine r_skip ?_
    refine w_next [(1, .v (.int .u64 a1)), (2, .v (.int .i64 a2)), (3, .v (.int .i64 a3)), (4, f0), (5, .ptr (g + 0) 0)] (.cons (.refl _) (.cons (.refl _) (.cons (.refl _) (.cons (.refl _) (.cons (.refl _) .nil))))) ?_
    refine w_join (J := S) (fun j => []) (fun j H' g' => St (fun i => i < g ∧ i ∉ ids (Lo st)) H0 ([] ++ Lo j) H' g' ∧ pulses_train_sets_j1 j = some r) ?_ ?_
    · rintro v3 H g1 ⟨hS, hM⟩
      change wpA _ _ _ _ (Fr.of []) _ _
      replace hS : St (fun i => i < g ∧ i ∉ ids (Lo st)) H0 ([] ++ Lo v3) H g1 := hS
      replace hM : pulses_train_sets_j1 v3 = some r := hM
      refine r_seq ?_
      refine r_region (n := 1) rfl ?_
      refine o_assign (v := .v (.bool true)) (by decide) rfl ?_
      refine run_nil ?_
      refine w_next [(10, .v (.bool true))] (.cons (.refl _) .nil) ?_
      refine r_ret ?_
      refine w_endS (x := .v (.bool true)) (f := fun r => .v (.bool r.1)) (fd := fun r => (Lo r.2)) (.inr rfl) ?_ (.refl _) (Option.some.inj hM) hS 0 rfl
      exact (res_one (res_tmp (x := .v (.bool true)) rfl))
    · refine r_seq ?_
      refine r_region (n := 2) rfl ?_
      refine o_move (v := .v (.int .i64 a2)) (by decide) rfl ?_
      refine o_assign (v := .v (.int .i64 a2)) (by decide) rfl ?_
      refine run_nil ?_
      refine w_next [(1, .v (.int .u64 a1)), (3, .v (.int .i64 a3)), (4, f0), (5, .ptr (g + 0) 0), (11, .v (.int .i64 a2))] (.cons (.refl _) (.cons (.refl _) (.cons (.refl _) (.cons (.refl _) (.cons (.refl _) .nil))))) ?_
      refine r_block ?_
      refine w_loop (V := Int × S) (fun v => [(1, .v (.int .u64 a1)), (3, .v (.int .i64 a3)), (4, f0), (5, .ptr (g + 0) 0), (11, .v (.int .i64 v.1))]) (fun v m3 H' g' => St (fun i => i < g ∧ i ∉ ids (Lo st)) H0 ([(g + 0, .cells [.v (.int .i64 a0.Pulse.Letters), .v (.int .i64 a0.Pulse.Numbers), .v (.int .i64 a0.Pulse.Pitch), .v (.int .i64 a0.Pulse.Slack), .v (.int .i64 a0.Pulse.Gap), .v (.int .i64 a0.Pulse.Pause), .v (.int .i64 a0.Pulse.Sparks), .sl .no 1 (a0.Pulse.Times.map cI)])] ++ Lo v.2) H' g' ∧ pulses_train_sets_l1 rec a0 a1 a3 m3 v.1 v.2 = some r) (n := n) (a2, st) (.cons (.refl _) (.cons (.refl _) (.cons (.refl _) (.cons (.refl _) (.cons (.refl _) .nil))))) ⟨(hS.keep [true] rfl).up (by omega), hM⟩ ?_
      rintro ⟨v5, v6⟩ m3 H g3 ⟨hS, hM⟩
      obtain _ | m3 := m3
      · exact nomatch (show none = some _ from hM)
      change wpA _ _ _ _ (Fr.of [(1, .v (.int .u64 a1)), (3, .v (.int .i64 a3)), (4, f0), (5, .ptr (g + 0) 0), (11, .v (.int .i64 v5))]) _ _
      replace hS : St (fun i => i < g ∧ i ∉ ids (Lo st)) H0 ([(g + 0, .cells [.v (.int .i64 a0.Pulse.Letters), .v (.int .i64 a0.Pulse.Numbers), .v (.int .i64 a0.Pulse.Pitch), .v (.int .i64 a0.Pulse.Slack), .v (.int .i64 a0.Pulse.Gap), .v (.int .i64 a0.Pulse.Pause), .v (.int .i64 a0.Pulse.Sparks), .sl .no 1 (a0.Pulse.Times.map cI)])] ++ Lo v6) H g3 := hS
      replace hM : pulses_train_sets_l1_b rec a0 a1 a3 (pulses_train_sets_l1 rec a0 a1 a3 m3) v5 v6 = some r := hM
      refine r_seq ?_
      refine r_seq ?_
      refine r_region (n := 6) rfl ?_
      refine o_move (v := .v (.int .i64 v5)) (by decide) rfl ?_
      refine o_fieldP (by decide) ty_fo62_0 rfl ?_
      refine o_fieldP (by decide) ty_fo24_7 rfl ?_
      refine o_load (v := .sl .no 1 (a0.Pulse.Times.map cI)) 0 hS (by decide) rfl rfl .no (part_one ty_agg22 ty_sc22 rfl) ?_
      refine o_len (n := a0.Pulse.Times.length) (by decide) rfl (List.length_map _) ty_isl22 ?_
      refine o_int (v := .v (.bool (decide (v5 < (a0.Pulse.Times.length : Int))))) (by decide) rfl rfl rfl ?_
      refine run_nil ?_
      refine w_next [(1, .v (.int .u64 a1)), (3, .v (.int .i64 a3)), (4, f0), (5, .ptr (g + 0) 0), (11, .v (.int .i64 v5)), (23, .v (.bool (decide (v5 < (a0.Pulse.Times.length : Int)))))] (.cons (.refl _) (.cons (.refl _) (.cons (.refl _) (.cons (.refl _) (.cons (.refl _) (.cons (.refl _) .nil)))))) ?_
      rcases Bool.eq_false_or_eq_true (decide (v5 < (a0.Pulse.Times.length : Int))) with hb7 | hb7
      · replace hM := ifT hM hb7
        refine w_condT (e := (decide (v5 < (a0.Pulse.Times.length : Int)))) rfl hb7 ?_
        refine r_skip ?_
        refine w_next [(1, .v (.int .u64 a1)), (3, .v (.int .i64 a3)), (4, f0), (5, .ptr (g + 0) 0), (11, .v (.int .i64 v5))] (.cons (.refl _) (.cons (.refl _) (.cons (.refl _) (.cons (.refl _) (.cons (.refl _) .nil))))) ?_
        refine r_seq ?_
        refine r_block ?_
        refine r_seq ?_
        have hS0 := hS
        refine r_draw (n := 12) rfl (by kernel_rfl) ?_
        refine o_load (v := .agg [.v (.int .i64 a0.Pulse.Letters), .v (.int .i64 a0.Pulse.Numbers), .v (.int .i64 a0.Pulse.Pitch), .v (.int .i64 a0.Pulse.Slack), .v (.int .i64 a0.Pulse.Gap), .v (.int .i64 a0.Pulse.Pause), .v (.int .i64 a0.Pulse.Sparks), .sl .no 1 (a0.Pulse.Times.map cI)]) 0 hS (by decide) rfl rfl (.st hS0 0 rfl (by omega)) (part_agg ty_agg62 (Nat.le_of_ble_eq_true rfl) rfl) ?_
        refine o_move (v := .v (.int .u64 a1)) (by decide) rfl ?_
        refine o_move (v := .v (.int .i64 v5)) (by decide) rfl ?_
        obtain ⟨q8, hq8, hM⟩ := bindE hM
        refine o_shift (by decide) rfl rfl (shl_int hq8) ?_
        refine o_int (v := .v (.int .u64 (or64 a1 q8))) (by decide) rfl rfl rfl ?_
        refine o_move (v := .v (.int .i64 v5)) (by decide) rfl ?_
        refine o_int (v := .v (.int .i64 (w64 (v5 + 1)))) (by decide) rfl rfl rfl ?_
        refine o_move (v := .v (.int .i64 a3)) (by decide) rfl ?_
        refine o_int (v := .v (.int .i64 (w64 (a3 - 1)))) (by decide) rfl rfl rfl ?_
        refine o_move (v := f0) (by decide) rfl ?_
        obtain ⟨r9, hr9, hM⟩ := bindE hM
        replace hS : St (fun i => i < g ∧ i ∉ ids (Lo st)) H0 ([(g + 0, .cells [.v (.int .i64 a0.Pulse.Letters), .v (.int .i64 a0.Pulse.Numbers), .v (.int .i64 a0.Pulse.Pitch), .v (.int .i64 a0.Pulse.Slack), .v (.int .i64 a0.Pulse.Gap), .v (.int .i64 a0.Pulse.Pause), .v (.int .i64 a0.Pulse.Sparks), .sl .no 1 (a0.Pulse.Times.map cI)])] ++ Lo v6) _ _ := hS
        refine o_stateH (bs := [.agg [.v (.int .i64 a0.Pulse.Letters), .v (.int .i64 a0.Pulse.Numbers), .v (.int .i64 a0.Pulse.Pitch), .v (.int .i64 a0.Pulse.Slack), .v (.int .i64 a0.Pulse.Gap), .v (.int .i64 a0.Pulse.Pause), .v (.int .i64 a0.Pulse.Sparks), .sl .no 1 (a0.Pulse.Times.map cI)], .v (.int .u64 (or64 a1 q8)), .v (.int .i64 (w64 (v5 + 1))), .v (.int .i64 (w64 (a3 - 1))), f0]) (.inr (by kernel_rfl)) hS (by decide) rfl rfl ((hrec hr9).le (.cons (.refl _) (.cons (.refl _) (.cons (.refl _) (.cons (.refl _) (.cons (.refl _) .nil)))))) (hk _ _).ids (by omega) fun H hS => ?_
        refine o_not (e := r9.1) (by decide) rfl ?_
        refine run_nil ?_
        refine w_next [(1, .v (.int .u64 a1)), (3, .v (.int .i64 a3)), (4, f0), (5, .ptr (g + 0) 0), (11, .v (.int .i64 v5)), (37, .v (.bool (!r9.1)))] (.cons (.refl _) (.cons (.refl _) (.cons (.refl _) (.cons (.refl _) (.cons (.refl _) (.cons (.refl _) .nil)))))) ?_
        rcases Bool.eq_false_or_eq_true (!r9.1) with hb10 | hb10
        · replace hM := ifT hM hb10
          refine w_condT (e := (!r9.1)) rfl hb10 ?_
          refine r_seq ?_
          refine r_region (n := 1) rfl ?_
          refine o_assign (v := .v (.bool false)) (by decide) rfl ?_
          refine run_nil ?_
          replace hS := hS.keep (L' := ([] ++ Lo r9.2)) [false] rfl
          refine w_next [(10, .v (.bool false))] (.cons (.refl _) .nil) ?_
          refine r_ret ?_
          refine r_blk_ret ?_
          refine r_then_ret ?_
          refine w_round_ret ?_
          refine r_blk_ret ?_
          refine w_goto_ret ?_
          refine w_endS (x := .v (.bool false)) (f := fun r => .v (.bool r.1)) (fd := fun r => (Lo r.2)) (.inr rfl) ?_ (.refl _) (Option.some.inj hM) hS 0 rfl
          exact (res_one (res_tmp (x := .v (.bool false)) rfl))
        · replace hM := ifF hM hb10
          refine w_condF (e := (!r9.1)) rfl hb10 ?_
          refine r_skip ?_
          refine r_blk_normal ?_
          refine w_next [(1, .v (.int .u64 a1)), (3, .v (.int .i64 a3)), (4, f0), (5, .ptr (g + 0) 0), (11, .v (.int .i64 v5))] (.cons (.refl _) (.cons (.refl _) (.cons (.refl _) (.cons (.refl _) (.cons (.refl _) .nil))))) ?_
          refine r_region (n := 3) rfl ?_
          refine o_move (v := .v (.int .i64 v5)) (by decide) rfl ?_
          refine o_int (v := .v (.int .i64 (w64 (v5 + 1)))) (by decide) rfl rfl rfl ?_
          refine o_assign (v := .v (.int .i64 (w64 (v5 + 1)))) (by decide) rfl ?_
          refine run_nil ?_
          exact w_round (w64 (v5 + 1), r9.2) (Nat.lt_succ_self _) (.cons (.refl _) (.cons (.refl _) (.cons (.refl _) (.cons (.refl _) (.cons (.refl _) .nil))))) ⟨(hS.keep [true] rfl).up (by omega), hM⟩
      · replace hM := ifF hM hb7
        refine w_condF (e := (decide (v5 < (a0.Pulse.Times.length : Int)))) rfl hb7 ?_
        refine r_exit ?_
        refine r_then_exit ?_
        refine w_round_exit ?_
        refine r_blk_exit ?_
        exact w_goto v6 .nil ⟨(hS.keep [false] rfl).up (by omega), hM⟩
theorem W_pulses_train_sets {S : Type} {Lo : S → BL} (hk : ∀ s s', KinL (Lo s) (Lo s')) (hnd : ∀ s, (ids (Lo s)).Nodup) (hin : ∀ s, InB In (Lo s)) {aF : Int → S → Option (Bool × S)} {f0 : AV} (hF : ∀ s H, Has H (Lo s) → In H f0) (h0 : cellsOf f0 = some [f0]) (hf : ∀ {x0 : Int} {s : S} {r : Bool × S}, aF x0 s = some r → CSat Try.prog f0 [.v (.int .u64 x0)] (Lo s) (.v (.bool r.1)) (Lo r.2)) : ∀ {n : Nat} {a0 : Train_} {a1 : Int} {a2 : Int} {a3 : Int} {st : S} {r : Bool × S}, pulses_train_sets n aF a0 a1 a2 a3 st = some r → HSat Try.prog 84 [.agg [.v (.int .i64 a0.Pulse.Letters), .v (.int .i64 a0.Pulse.Numbers), .v (.int .i64 a0.Pulse.Pitch), .v (.int .i64 a0.Pulse.Slack), .v (.int .i64 a0.Pulse.Gap), .v (.int .i64 a0.Pulse.Pause), .v (.int .i64 a0.Pulse.Sparks), .sl .no 1 (a0.Pulse.Times.map cI)], .v (.int .u64 a1), .v (.int .i64 a2), .v (.int .i64 a3), f0] (Lo st) (.v (.bool r.1)) (Lo r.2)
  | 0, _, _, _, _, _, _, h => nomatch (show none = some _ from h)
  | n + 1, _, _, _, _, _, _, h => W_pulses_train_sets_b hk hnd hin hF h0 hf (n := n) (rec := pulses_train_sets n aF) (fun h => W_pulses_train_sets hk hnd hin hF h0 hf h) h
theorem W_pulses_set_has {a0 : Int} {a1 : Int} {r : Bool} (hM : pulses_set_has a0 a1 = some r) : PureSat Try.prog 86 [.v (.int .u64 a0), .v (.int .i64 a1)] (.v (.bool r)) := by
  refine pure_of_wp mixed Try.func86 rfl (by decide) Try.ntmps86 (by simp) ?pure fun H0 g hf => ?_
  case pure => exact .v _
  rw [frame0_of]
  change wpA _ _ _ _ (Fr.of [(0, .v (.int .u64 a0)), (1, .v (.int .i64 a1))]) H0 g
  have hS := St.start hf
  refine r_seq ?_
  refine r_region (n := 1) rfl ?_
  refine o_assign (v := .v (.bool false)) (by decide) rfl ?_
  refine run_nil ?_
  refine w_next [(0, .v (.int .u64 a0)), (1, .v (.int .i64 a1))] (.cons (.refl _) (.cons (.refl _) .nil)) ?_
  refine r_seq ?_
  refine r_region (n := 6) rfl ?_
  refine o_move (v := .v (.int .u64 a0)) (by decide) rfl ?_
  refine o_move (v := .v (.int .i64 a1)) (by decide) rfl ?_
  obtain ⟨q1, hq1, hM⟩ := bindE hM
  refine o_shift (by decide) rfl rfl (shr_int hq1) ?_
  refine o_int (v := .v (.int .u64 (and64 q1 1))) (by decide) rfl rfl rfl ?_
  refine o_int (v := .v (.bool ((and64 q1 1) == 1))) (by decide) rfl rfl rfl ?_
  refine o_assign (v := .v (.bool ((and64 q1 1) == 1))) (by decide) rfl ?_
  refine run_nil ?_
  refine w_next [(4, .v (.bool ((and64 q1 1) == 1)))] (.cons (.refl _) .nil) ?_
  refine r_ret ?_
  refine w_end (x := .v (.bool ((and64 q1 1) == 1))) (f := fun r => .v (.bool r)) (.inr rfl) ?_ (.refl _) (Option.some.inj hM) hS
  exact (res_one (res_tmp (x := .v (.bool ((and64 q1 1) == 1))) rfl))
theorem W_pulses_train_list_c1 {p1 w1 p2 p3 : Nat} (hnd : [p1, w1, p2, p3].Nodup) {a1 : Groups_} {a2 : Train_} {st : (List Int)} {r : Bool × (List Int)} (hM : pulses_train_list_c1 a1 a2 st = some r) : HSat Try.prog 107 [.ptr p1 0, .ptr p2 0, .ptr p3 0] [(p1, .cells [.sl (.id w1) 1 (st.map cI)]), (w1, .row 3 st.length), (p2, .cells [.v (.int .i64 a1.letter), .v (.int .i64 a1.number)]), (p3, .cells [.v (.int .i64 a2.Pulse.Letters), .v (.int .i64 a2.Pulse.Numbers), .v (.int .i64 a2.Pulse.Pitch), .v (.int .i64 a2.Pulse.Slack), .v (.int .i64 a2.Pulse.Gap), .v (.int .i64 a2.Pulse.Pause), .v (.int .i64 a2.Pulse.Sparks), .sl .no 1 (a2.Pulse.Times.map cI)])] (.v (.bool r.1)) [(p1, .cells [.sl (.id w1) 1 (r.2.map cI)]), (w1, .row 3 r.2.length), (p2, .cells [.v (.int .i64 a1.letter), .v (.int .i64 a1.number)]), (p3, .cells [.v (.int .i64 a2.Pulse.Letters), .v (.int .i64 a2.Pulse.Numbers), .v (.int .i64 a2.Pulse.Pitch), .v (.int .i64 a2.Pulse.Slack), .v (.int .i64 a2.Pulse.Gap), .v (.int .i64 a2.Pulse.Pause), .v (.int .i64 a2.Pulse.Sparks), .sl .no 1 (a2.Pulse.Times.map cI)])] := by
  refine hsat_of_wp mixed Try.func107 rfl (by decide) Try.ntmps107 (by simp) (kl_cells (kl_row (kl_cells (kl_cells kl_nil)))) hnd ?pure ?cells fun H0 g hf_ hp => ?_
  case pure => exact fun H _ => (show Go.AM.Pure _ from .v _).inH
  case cells => exact (inb_st (ic_cells (ci_cons (.inl (.inr ⟨_, _, _, _, _, rfl, (List.mem_of_getElem? (i := 1) rfl), pures_map (fun x => (pl_cons (.v _) pl_nil))⟩)) ci_nil) (ic_row (ic_cells (ci_cons (.inl (.inl (.v _))) (ci_cons (.inl (.inl (.v _))) ci_nil)) (ic_cells (ci_cons (.inl (.inl (.v _))) (ci_cons (.inl (.inl (.v _))) (ci_cons (.inl (.inl (.v _))) (ci_cons (.inl (.inl (.v _))) (ci_cons (.inl (.inl (.v _))) (ci_cons (.inl (.inl (.v _))) (ci_cons (.inl (.inl (.v _))) (ci_cons (.inl (.inl (.sl _ _ (pures_map (fun x => (pl_cons (.v _) pl_nil)))))) ci_nil)))))))) ic_nil)))) inb_nil)
  rw [frame0_of]
  change wpA _ _ _ _ (Fr.of [(0, .ptr p1 0), (1, .ptr p2 0), (2, .ptr p3 0)]) H0 g
  have hS := St.startH (L := [(p1, .cells [.sl (.id w1) 1 (st.map cI)]), (w1, .row 3 st.length), (p2, .cells [.v (.int .i64 a1.letter), .v (.int .i64 a1.number)]), (p3, .cells [.v (.int .i64 a2.Pulse.Letters), .v (.int .i64 a2.Pulse.Numbers), .v (.int .i64 a2.Pulse.Pitch), .v (.int .i64 a2.Pulse.Slack), .v (.int .i64 a2.Pulse.Gap), .v (.int .i64 a2.Pulse.Pause), .v (.int .i64 a2.Pulse.Sparks), .sl .no 1 (a2.Pulse.Times.map cI)])]) hf_ hnd hp
  replace hS : St (fun i => i < g ∧ i ∉ ids [(p1, .cells [.sl (.id w1) 1 (st.map cI)]), (w1, .row 3 st.length), (p2, .cells [.v (.int .i64 a1.letter), .v (.int .i64 a1.number)]), (p3, .cells [.v (.int .i64 a2.Pulse.Letters), .v (.int .i64 a2.Pulse.Numbers), .v (.int .i64 a2.Pulse.Pitch), .v (.int .i64 a2.Pulse.Slack), .v (.int .i64 a2.Pulse.Gap), .v (.int .i64 a2.Pulse.Pause), .v (.int .i64 a2.Pulse.Sparks), .sl .no 1 (a2.Pulse.Times.map cI)])]) H0 [(p1, .cells [.sl (.id w1) 1 (st.map cI)]), (w1, .row 3 st.length), (p2, .cells [.v (.int .i64 a1.letter), .v (.int .i64 a1.number)]), (p3, .cells [.v (.int .i64 a2.Pulse.Letters), .v (.int .i64 a2.Pulse.Numbers), .v (.int .i64 a2.Pulse.Pitch), .v (.int .i64 a2.Pulse.Slack), .v (.int .i64 a2.Pulse.Gap), .v (.int .i64 a2.Pulse.Pause), .v (.int .i64 a2.Pulse.Sparks), .sl .no 1 (a2.Pulse.Times.map cI)])] H0 g := hS
  refine r_seq ?_
  refine r_region (n := 1) rfl ?_
  refine o_assign (v := .v (.bool false)) (by decide) rfl ?_
  refine run_nil ?_
  refine w_next [(0, .ptr p1 0), (1, .ptr p2 0), (2, .ptr p3 0)] (.cons (.refl _) (.cons (.refl _) (.cons (.refl _) .nil))) ?_
  refine r_seq ?_
  refine r_region (n := 15) rfl ?_
  refine o_load (v := .sl (.id w1) 1 (st.map cI)) 0 hS (by decide) rfl rfl .no (part_one ty_agg22 ty_sc22 rfl) ?_
  refine o_fieldP (by decide) ty_fo127_0 rfl ?_
  refine o_load (v := .v (.int .i64 a1.letter)) 2 hS (by decide) rfl rfl .no (part_one ty_agg3 ty_sc3 rfl) ?_
  refine o_int (v := .v (.int .i64 (w64 (a1.letter - 1)))) (by decide) rfl rfl rfl ?_
  refine o_fieldP (by decide) ty_fo62_0 rfl ?_
  refine o_fieldP (by decide) ty_fo24_1 rfl ?_
  refine o_load (v := .v (.int .i64 a2.Pulse.Numbers)) 3 hS (by decide) rfl rfl .no (part_one ty_agg3 ty_sc3 rfl) ?_
  refine o_int (v := .v (.int .i64 (w64 ((w64 (a1.letter - 1)) * a2.Pulse.Numbers)))) (by decide) rfl rfl rfl ?_
  refine o_fieldP (by decide) ty_fo127_1 rfl ?_
  refine o_load (v := .v (.int .i64 a1.number)) 2 hS (by decide) rfl rfl .no (part_one ty_agg3 ty_sc3 rfl) ?_
  refine o_int (v := .v (.int .i64 (w64 ((w64 ((w64 (a1.letter - 1)) * a2.Pulse.Numbers)) + a1.number)))) (by decide) rfl rfl rfl ?_
  refine o_int (v := .v (.int .i64 (w64 ((w64 ((w64 ((w64 (a1.letter - 1)) * a2.Pulse.Numbers)) + a1.number)) - 1)))) (by decide) rfl rfl rfl ?_
  refine o_buildSlice (es := [[.v (.int .i64 (w64 ((w64 ((w64 ((w64 (a1.letter - 1)) * a2.Pulse.Numbers)) + a1.number)) - 1)))]]) hS (by decide) ty_es22 ty_el22 rfl ty_ef22 rfl (by decide) (by omega) fun H hS => ?_
  obtain ⟨l1, hl1, hM⟩ := bindE hM
  refine o_append (xs := st) (ys := ([w64 ((w64 ((w64 ((w64 (a1.letter - 1)) * a2.Pulse.Numbers)) + a1.number)) - 1)] : List Int)) (zs := l1) (f := cI) (L' := [(g + 1 + 12, .row 3 1), (p1, .cells [.sl (.id w1) 1 (st.map cI)]), (w1, .row 3 l1.length), (p2, .cells [.v (.int .i64 a1.letter), .v (.int .i64 a1.number)]), (p3, .cells [.v (.int .i64 a2.Pulse.Letters), .v (.int .i64 a2.Pulse.Numbers), .v (.int .i64 a2.Pulse.Pitch), .v (.int .i64 a2.Pulse.Slack), .v (.int .i64 a2.Pulse.Gap), .v (.int .i64 a2.Pulse.Pause), .v (.int .i64 a2.Pulse.Sparks), .sl .no 1 (a2.Pulse.Times.map cI)])]) 2 hS (by decide) rfl rfl rfl rfl .no ty_es22 ty_el22 ty_ef22 hl1 rfl fun H hS => ?_
  refine o_store (v := .sl (.id w1) 1 (l1.map cI)) (ns := [.sl (.id w1) 1 (l1.map cI)]) (L' := [(g + 1 + 12, .row 3 1), (p1, .cells [.sl (.id w1) 1 (l1.map cI)]), (w1, .row 3 l1.length), (p2, .cells [.v (.int .i64 a1.letter), .v (.int .i64 a1.number)]), (p3, .cells [.v (.int .i64 a2.Pulse.Letters), .v (.int .i64 a2.Pulse.Numbers), .v (.int .i64 a2.Pulse.Pitch), .v (.int .i64 a2.Pulse.Slack), .v (.int .i64 a2.Pulse.Gap), .v (.int .i64 a2.Pulse.Pause), .v (.int .i64 a2.Pulse.Sparks), .sl .no 1 (a2.Pulse.Times.map cI)])]) 1 hS rfl rfl .no rfl rfl ty_var22 (Nat.le_of_ble_eq_true rfl) rfl fun H hS => ?_
  refine run_nil ?_
  replace hS := hS.keep (L' := [(p1, .cells [.sl (.id w1) 1 (l1.map cI)]), (w1, .row 3 l1.length), (p2, .cells [.v (.int .i64 a1.letter), .v (.int .i64 a1.number)]), (p3, .cells [.v (.int .i64 a2.Pulse.Letters), .v (.int .i64 a2.Pulse.Numbers), .v (.int .i64 a2.Pulse.Pitch), .v (.int .i64 a2.Pulse.Slack), .v (.int .i64 a2.Pulse.Gap), .v (.int .i64 a2.Pulse.Pause), .v (.int .i64 a2.Pulse.Sparks), .sl .no 1 (a2.Pulse.Times.map cI)])]) [false, true, true, true, true] rfl
  refine w_next [(1, .ptr p2 0), (2, .ptr p3 0)] (.cons (.refl _) (.cons (.refl _) .nil)) ?_
  refine w_join (J := Bool) (fun j => [(3, .v (.bool j))]) (fun j H' g' => St (fun i => i < g ∧ i ∉ ids [(p1, .cells [.sl (.id w1) 1 (st.map cI)]), (w1, .row 3 st.length), (p2, .cells [.v (.int .i64 a1.letter), .v (.int .i64 a1.number)]), (p3, .cells [.v (.int .i64 a2.Pulse.Letters), .v (.int .i64 a2.Pulse.Numbers), .v (.int .i64 a2.Pulse.Pitch), .v (.int .i64 a2.Pulse.Slack), .v (.int .i64 a2.Pulse.Gap), .v (.int .i64 a2.Pulse.Pause), .v (.int .i64 a2.Pulse.Sparks), .sl .no 1 (a2.Pulse.Times.map cI)])]) H0 [(p1, .cells [.sl (.id w1) 1 (l1.map cI)]), (w1, .row 3 l1.length), (p2, .cells [.v (.int .i64 a1.letter), .v (.int .i64 a1.number)]), (p3, .cells [.v (.int .i64 a2.Pulse.Letters), .v (.int .i64 a2.Pulse.Numbers), .v (.int .i64 a2.Pulse.Pitch), .v (.int .i64 a2.Pulse.Slack), .v (.int .i64 a2.Pulse.Gap), .v (.int .i64 a2.Pulse.Pause), .v (.int .i64 a2.Pulse.Sparks), .sl .no 1 (a2.Pulse.Times.map cI)])] H' g' ∧ pulses_train_list_c1_j1 l1 j = some r) ?_ ?_
  · rintro v2 H g1 ⟨hS, hM⟩
    change wpA _ _ _ _ (Fr.of [(3, .v (.bool v2))]) _ _
    replace hS : St (fun i => i < g ∧ i ∉ ids [(p1, .cells [.sl (.id w1) 1 (st.map cI)]), (w1, .row 3 st.length), (p2, .cells [.v (.int .i64 a1.letter), .v (.int .i64 a1.number)]), (p3, .cells [.v (.int .i64 a2.Pulse.Letters), .v (.int .i64 a2.Pulse.Numbers), .v (.int .i64 a2.Pulse.Pitch), .v (.int .i64 a2.Pulse.Slack), .v (.int .i64 a2.Pulse.Gap), .v (.int .i64 a2.Pulse.Pause), .v (.int .i64 a2.Pulse.Sparks), .sl .no 1 (a2.Pulse.Times.map cI)])]) H0 [(p1, .cells [.sl (.id w1) 1 (l1.map cI)]), (w1, .row 3 l1.length), (p2, .cells [.v (.int .i64 a1.letter), .v (.int .i64 a1.number)]), (p3, .cells [.v (.int .i64 a2.Pulse.Letters), .v (.int .i64 a2.Pulse.Numbers), .v (.int .i64 a2.Pulse.Pitch), .v (.int .i64 a2.Pulse.Slack), .v (.int .i64 a2.Pulse.Gap), .v (.int .i64 a2.Pulse.Pause), .v (.int .i64 a2.Pulse.Sparks), .sl .no 1 (a2.Pulse.Times.map cI)])] H g1 := hS
    replace hM : pulses_train_list_c1_j1 l1 v2 = some r := hM
    refine r_ret ?_
    refine w_endS (x := .v (.bool v2)) (f := fun r => .v (.bool r.1)) (fd := fun r => [(p1, .cells [.sl (.id w1) 1 (r.2.map cI)]), (w1, .row 3 r.2.length), (p2, .cells [.v (.int .i64 a1.letter), .v (.int .i64 a1.number)]), (p3, .cells [.v (.int .i64 a2.Pulse.Letters), .v (.int .i64 a2.Pulse.Numbers), .v (.int .i64 a2.Pulse.Pitch), .v (.int .i64 a2.Pulse.Slack), .v (.int .i64 a2.Pulse.Gap), .v (.int .i64 a2.Pulse.Pause), .v (.int .i64 a2.Pulse.Sparks), .sl .no 1 (a2.Pulse.Times.map cI)])]) (.inr rfl) ?_ (.refl _) (Option.some.inj hM) hS 0 rfl
    exact (res_one (res_tmp (x := .v (.bool v2)) rfl))
  · refine r_region (n := 15) rfl ?_
    refine o_fieldP (by decide) ty_fo127_0 rfl ?_
    refine o_load (v := .v (.int .i64 a1.letter)) 2 hS (by decide) rfl rfl .no (part_one ty_agg3 ty_sc3 rfl) ?_
    refine o_fieldP (by decide) ty_fo62_0 rfl ?_
    refine o_fieldP (by decide) ty_fo24_0 rfl ?_
    refine o_load (v := .v (.int .i64 a2.Pulse.Letters)) 3 hS (by decide) rfl rfl .no (part_one ty_agg3 ty_sc3 rfl) ?_
    obtain ⟨r3, hr3, hM⟩ := bindE hM
    refine o_call (bs := [.v (.int .i64 a1.letter), .v (.int .i64 1), .v (.int .i64 a2.Pulse.Letters)]) (by decide) rfl rfl ((W_pulses_within hr3).le (.cons (.refl _) (.cons (.refl _) (.cons (.refl _) .nil)))) ?_
    refine o_move (v := .v (.bool r3)) (by decide) rfl ?_
    rcases Bool.eq_false_or_eq_true r3 with hb4 | hb4
    · replace hM := ifT hM hb4
      refine o_guardY (j := 6) (e := r3) (want := true) rfl hb4 ?_
      refine o_fieldP (by decide) ty_fo127_1 rfl ?_
      refine o_guardY (j := 6) (e := r3) (want := true) rfl hb4 ?_
      refine o_load (v := .v (.int .i64 a1.number)) 2 hS (by decide) rfl rfl .no (part_one ty_agg3 ty_sc3 rfl) ?_
      refine o_guardY (j := 6) (e := r3) (want := true) rfl hb4 ?_
      refine o_fieldP (by decide) ty_fo62_0 rfl ?_
      refine o_guardY (j := 6) (e := r3) (want := true) rfl hb4 ?_
      refine o_fieldP (by decide) ty_fo24_1 rfl ?_
      refine o_guardY (j := 6) (e := r3) (want := true) rfl hb4 ?_
      refine o_load (v := .v (.int .i64 a2.Pulse.Numbers)) 3 hS (by decide) rfl rfl .no (part_one ty_agg3 ty_sc3 rfl) ?_
      refine o_guardY (j := 6) (e := r3) (want := true) rfl hb4 ?_
      obtain ⟨r5, hr5, hM⟩ := bindE hM
      refine o_call (bs := [.v (.int .i64 a1.number), .v (.int .i64 1), .v (.int .i64 a2.Pulse.Numbers)]) (by decide) rfl rfl ((W_pulses_within hr5).le (.cons (.refl _) (.cons (.refl _) (.cons (.refl _) .nil)))) ?_
      refine o_pickT (v := .v (.bool r5)) (e := r3) (by decide) rfl hb4 rfl ?_
      refine o_assign (v := .v (.bool r5)) (by decide) rfl ?_
      refine run_nil ?_
      exact w_goto r5 (.cons (.refl _) .nil) ⟨(hS.keep [true, true, true, true] rfl).up (by omega), hM⟩
    · replace hM := ifF hM hb4
      refine o_guardN (j := 6) (e := r3) (want := true) (by decide) rfl hb4 ?_
      refine o_guardN (j := 6) (e := r3) (want := true) (by decide) rfl hb4 ?_
      refine o_guardN (j := 6) (e := r3) (want := true) (by decide) rfl hb4 ?_
      refine o_guardN (j := 6) (e := r3) (want := true) (by decide) rfl hb4 ?_
      refine o_guardN (j := 6) (e := r3) (want := true) (by decide) rfl hb4 ?_
      refine o_guardN (j := 6) (e := r3) (want := true) (by decide) rfl hb4 ?_
      refine o_pickF (v := .v (.bool false)) (e := r3) (by decide) rfl hb4 rfl ?_
      refine o_assign (v := .v (.bool false)) (by decide) rfl ?_
      refine run_nil ?_
      exact w_goto false (.cons (.refl _) .nil) ⟨(hS.keep [true, true, true, true] rfl).up (by omega), hM⟩
theorem W_pulses_train_says {a0 : Train_} {a1 : Int} {r : Int} (hM : pulses_train_says a0 a1 = some r) : PureSat Try.prog 108 [.agg [.v (.int .i64 a0.Pulse.Letters), .v (.int .i64 a0.Pulse.Numbers), .v (.int .i64 a0.Pulse.Pitch), .v (.int .i64 a0.Pulse.Slack), .v (.int .i64 a0.Pulse.Gap), .v (.int .i64 a0.Pulse.Pause), .v (.int .i64 a0.Pulse.Sparks), .sl .no 1 (a0.Pulse.Times.map cI)], .v (.int .i64 a1)] (.v (.int .i64 r)) := by
  refine pure_of_wp mixed Try.func108 rfl (by decide) Try.ntmps108 (by simp) ?pure fun H0 g hf => ?_
  case pure => exact .v _
  rw [frame0_of]
  change wpA _ _ _ _ (Fr.of [(0, .agg [.v (.int .i64 a0.Pulse.Letters), .v (.int .i64 a0.Pulse.Numbers), .v (.int .i64 a0.Pulse.Pitch), .v (.int .i64 a0.Pulse.Slack), .v (.int .i64 a0.Pulse.Gap), .v (.int .i64 a0.Pulse.Pause), .v (.int .i64 a0.Pulse.Sparks), .sl .no 1 (a0.Pulse.Times.map cI)]), (1, .v (.int .i64 a1))]) H0 g
  have hS := St.start hf
  refine r_seq ?_
  refine r_region (n := 2) rfl ?_
  refine o_box (v := .agg [.v (.int .i64 a0.Pulse.Letters), .v (.int .i64 a0.Pulse.Numbers), .v (.int .i64 a0.Pulse.Pitch), .v (.int .i64 a0.Pulse.Slack), .v (.int .i64 a0.Pulse.Gap), .v (.int .i64 a0.Pulse.Pause), .v (.int .i64 a0.Pulse.Sparks), .sl .no 1 (a0.Pulse.Times.map cI)]) (cs := [.v (.int .i64 a0.Pulse.Letters), .v (.int .i64 a0.Pulse.Numbers), .v (.int .i64 a0.Pulse.Pitch), .v (.int .i64 a0.Pulse.Slack), .v (.int .i64 a0.Pulse.Gap), .v (.int .i64 a0.Pulse.Pause), .v (.int .i64 a0.Pulse.Sparks), .sl .no 1 (a0.Pulse.Times.map cI)]) hS (by decide) rfl rfl (by omega) fun H hS => ?_
  refine o_assign (v := .v (.int .i64 0)) (by decide) rfl ?_
  refine run_nil ?_
  refine w_next [(1, .v (.int .i64 a1)), (2, .ptr (g + 0) 0)] (.cons (.refl _) (.cons (.refl _) .nil)) ?_
  refine r_seq ?_
  refine r_block ?_
  refine r_seq ?_
  refine r_region (n := 6) rfl ?_
  refine o_move (v := .v (.int .i64 a1)) (by decide) rfl ?_
  refine o_fieldP (by decide) ty_fo62_0 rfl ?_
  refine o_fieldP (by decide) ty_fo24_5 rfl ?_
  refine o_load (v := .v (.int .i64 a0.Pulse.Pause)) 0 hS (by decide) rfl rfl .no (part_one ty_agg3 ty_sc3 rfl) ?_
  refine o_int (v := .v (.bool (decide (a1 ≥ a0.Pulse.Pause)))) (by decide) rfl rfl rfl ?_
  refine o_assign (v := .v (.bool (decide (a1 ≥ a0.Pulse.Pause)))) (by decide) rfl ?_
  refine run_nil ?_
  refine w_next [(1, .v (.int .i64 a1)), (2, .ptr (g + 0) 0), (5, .v (.bool (decide (a1 ≥ a0.Pulse.Pause))))] (.cons (.refl _) (.cons (.refl _) (.cons (.refl _) .nil))) ?_
  rcases Bool.eq_false_or_eq_true (decide (a1 ≥ a0.Pulse.Pause)) with hb1 | hb1
  · replace hM := ifT hM hb1
    refine w_condT (e := (decide (a1 ≥ a0.Pulse.Pause))) rfl hb1 ?_
    refine r_seq ?_
    refine r_region (n := 1) rfl ?_
    refine o_assign (v := .v (.int .i64 3)) (by decide) rfl ?_
    refine run_nil ?_
    replace hS := hS.keep (L' := []) [false] rfl
    refine w_next [(4, .v (.int .i64 3))] (.cons (.refl _) .nil) ?_
    refine r_ret ?_
    refine r_blk_ret ?_
    refine r_then_ret ?_
    refine w_end (x := .v (.int .i64 3)) (f := fun r => .v (.int .i64 r)) (.inr rfl) ?_ (.refl _) (Option.some.inj hM) hS
    exact (res_one (res_tmp (x := .v (.int .i64 3)) rfl))
  · replace hM := ifF hM hb1
    refine w_condF (e := (decide (a1 ≥ a0.Pulse.Pause))) rfl hb1 ?_
    refine r_seq ?_
    refine r_region (n := 6) rfl ?_
    refine o_move (v := .v (.int .i64 a1)) (by decide) rfl ?_
    refine o_fieldP (by decide) ty_fo62_0 rfl ?_
    refine o_fieldP (by decide) ty_fo24_4 rfl ?_
    refine o_load (v := .v (.int .i64 a0.Pulse.Gap)) 0 hS (by decide) rfl rfl .no (part_one ty_agg3 ty_sc3 rfl) ?_
    refine o_int (v := .v (.bool (decide (a1 ≥ a0.Pulse.Gap)))) (by decide) rfl rfl rfl ?_
    refine o_assign (v := .v (.bool (decide (a1 ≥ a0.Pulse.Gap)))) (by decide) rfl ?_
    refine run_nil ?_
    refine w_next [(1, .v (.int .i64 a1)), (2, .ptr (g + 0) 0), (11, .v (.bool (decide (a1 ≥ a0.Pulse.Gap))))] (.cons (.refl _) (.cons (.refl _) (.cons (.refl _) .nil))) ?_
    rcases Bool.eq_false_or_eq_true (decide (a1 ≥ a0.Pulse.Gap)) with hb2 | hb2
    · replace hM := ifT hM hb2
      refine w_condT (e := (decide (a1 ≥ a0.Pulse.Gap))) rfl hb2 ?_
      refine r_seq ?_
      refine r_region (n := 1) rfl ?_
      refine o_assign (v := .v (.int .i64 2)) (by decide) rfl ?_
      refine run_nil ?_
      replace hS := hS.keep (L' := []) [false] rfl
      refine w_next [(4, .v (.int .i64 2))] (.cons (.refl _) .nil) ?_
      refine r_ret ?_
      refine r_blk_ret ?_
      refine r_then_ret ?_
      refine w_end (x := .v (.int .i64 2)) (f := fun r => .v (.int .i64 r)) (.inr rfl) ?_ (.refl _) (Option.some.inj hM) hS
      exact (res_one (res_tmp (x := .v (.int .i64 2)) rfl))
    · replace hM := ifF hM hb2
      refine w_condF (e := (decide (a1 ≥ a0.Pulse.Gap))) rfl hb2 ?_
      refine r_seq ?_
      refine r_region (n := 17) rfl ?_
      refine o_move (v := .v (.int .i64 a1)) (by decide) rfl ?_
      refine o_fieldP (by decide) ty_fo62_0 rfl ?_
      refine o_fieldP (by decide) ty_fo24_2 rfl ?_
      refine o_load (v := .v (.int .i64 a0.Pulse.Pitch)) 0 hS (by decide) rfl rfl .no (part_one ty_agg3 ty_sc3 rfl) ?_
      refine o_fieldP (by decide) ty_fo62_0 rfl ?_
      refine o_fieldP (by decide) ty_fo24_3 rfl ?_
      refine o_load (v := .v (.int .i64 a0.Pulse.Slack)) 0 hS (by decide) rfl rfl .no (part_one ty_agg3 ty_sc3 rfl) ?_
      refine o_int (v := .v (.int .i64 (w64 (a0.Pulse.Pitch - a0.Pulse.Slack)))) (by decide) rfl rfl rfl ?_
      refine o_fieldP (by decide) ty_fo62_0 rfl ?_
      refine o_fieldP (by decide) ty_fo24_2 rfl ?_
      refine o_load (v := .v (.int .i64 a0.Pulse.Pitch)) 0 hS (by decide) rfl rfl .no (part_one ty_agg3 ty_sc3 rfl) ?_
      refine o_fieldP (by decide) ty_fo62_0 rfl ?_
      refine o_fieldP (by decide) ty_fo24_3 rfl ?_
      refine o_load (v := .v (.int .i64 a0.Pulse.Slack)) 0 hS (by decide) rfl rfl .no (part_one ty_agg3 ty_sc3 rfl) ?_
      refine o_int (v := .v (.int .i64 (w64 (a0.Pulse.Pitch + a0.Pulse.Slack)))) (by decide) rfl rfl rfl ?_
      obtain ⟨r3, hr3, hM⟩ := bindE hM
      refine o_call (bs := [.v (.int .i64 a1), .v (.int .i64 (w64 (a0.Pulse.Pitch - a0.Pulse.Slack))), .v (.int .i64 (w64 (a0.Pulse.Pitch + a0.Pulse.Slack)))]) (by decide) rfl rfl ((W_pulses_within hr3).le (.cons (.refl _) (.cons (.refl _) (.cons (.refl _) .nil)))) ?_
      refine o_assign (v := .v (.bool r3)) (by decide) rfl ?_
      refine run_nil ?_
      replace hS := hS.keep (L' := []) [false] rfl
      refine w_next [(17, .v (.bool r3))] (.cons (.refl _) .nil) ?_
      rcases Bool.eq_false_or_eq_true r3 with hb4 | hb4
      · replace hM := ifT hM hb4
        refine w_condT (e := r3) rfl hb4 ?_
        refine r_seq ?_
        refine r_region (n := 1) rfl ?_
        refine o_assign (v := .v (.int .i64 1)) (by decide) rfl ?_
        refine run_nil ?_
        refine w_next [(4, .v (.int .i64 1))] (.cons (.refl _) .nil) ?_
        refine r_ret ?_
        refine r_blk_ret ?_
        refine r_then_ret ?_
        refine w_end (x := .v (.int .i64 1)) (f := fun r => .v (.int .i64 r)) (.inr rfl) ?_ (.refl _) (Option.some.inj hM) hS
        exact (res_one (res_tmp (x := .v (.int .i64 1)) rfl))
      · replace hM := ifF hM hb4
        refine w_condF (e := r3) rfl hb4 ?_
        refine r_skip ?_
        refine r_blk_normal ?_
        refine w_next [] .nil ?_
        refine r_seq ?_
        refine r_region (n := 1) rfl ?_
        refine o_assign (v := .v (.int .i64 0)) (by decide) rfl ?_
        refine run_nil ?_
        refine w_next [(4, .v (.int .i64 0))] (.cons (.refl _) .nil) ?_
        refine r_ret ?_
        refine w_end (x := .v (.int .i64 0)) (f := fun r => .v (.int .i64 r)) (.inr rfl) ?_ (.refl _) (Option.some.inj hM) hS
        exact (res_one (res_tmp (x := .v (.int .i64 0)) rfl))
theorem W_pulses_train_list {n : Nat} {a0 : Train_} {a1 : List Int} {r : (List Int) × Bool} (hM : pulses_train_list n a0 a1 = some r) : PureSat Try.prog 87 [.agg [.v (.int .i64 a0.Pulse.Letters), .v (.int .i64 a0.Pulse.Numbers), .v (.int .i64 a0.Pulse.Pitch), .v (.int .i64 a0.Pulse.Slack), .v (.int .i64 a0.Pulse.Gap), .v (.int .i64 a0.Pulse.Pause), .v (.int .i64 a0.Pulse.Sparks), .sl .no 1 (a0.Pulse.Times.map cI)], .sl .no 1 (a1.map cI)] (.tup [.sl .no 1 (r.1.map cI), .v (.bool r.2)]) := by
  refine pure_of_wp mixed Try.func87 rfl (by decide) Try.ntmps87 (by simp) ?pure fun H0 g hf => ?_
  case pure => exact .tup _ (pl_cons (.sl _ _ (pures_map (fun x => (pl_cons (.v _) pl_nil)))) (pl_cons (.v _) pl_nil))
  rw [frame0_of]
  change wpA _ _ _ _ (Fr.of [(0, .agg [.v (.int .i64 a0.Pulse.Letters), .v (.int .i64 a0.Pulse.Numbers), .v (.int .i64 a0.Pulse.Pitch), .v (.int .i64 a0.Pulse.Slack), .v (.int .i64 a0.Pulse.Gap), .v (.int .i64 a0.Pulse.Pause), .v (.int .i64 a0.Pulse.Sparks), .sl .no 1 (a0.Pulse.Times.map cI)]), (1, .sl .no 1 (a1.map cI))]) H0 g
  have hS := St.start hf
  refine r_seq ?_
  refine r_region (n := 3) rfl ?_
  refine o_box (v := .agg [.v (.int .i64 a0.Pulse.Letters), .v (.int .i64 a0.Pulse.Numbers), .v (.int .i64 a0.Pulse.Pitch), .v (.int .i64 a0.Pulse.Slack), .v (.int .i64 a0.Pulse.Gap), .v (.int .i64 a0.Pulse.Pause), .v (.int .i64 a0.Pulse.Sparks), .sl .no 1 (a0.Pulse.Times.map cI)]) (cs := [.v (.int .i64 a0.Pulse.Letters), .v (.int .i64 a0.Pulse.Numbers), .v (.int .i64 a0.Pulse.Pitch), .v (.int .i64 a0.Pulse.Slack), .v (.int .i64 a0.Pulse.Gap), .v (.int .i64 a0.Pulse.Pause), .v (.int .i64 a0.Pulse.Sparks), .sl .no 1 (a0.Pulse.Times.map cI)]) hS (by decide) rfl rfl (by omega) fun H hS => ?_
  refine o_alloc hS (by decide) ty_zero22 (by omega) fun H hS => ?_
  refine o_assign (v := .v (.bool false)) (by decide) rfl ?_
  refine run_nil ?_
  refine w_ownC (cs' := [.sl (.id (g + 3)) 1 (([] : List Int).map cI)]) (L' := [(g + 1, .cells [.sl (.id (g + 3)) 1 (([] : List Int).map cI)]), (g + 0, .cells [.v (.int .i64 a0.Pulse.Letters), .v (.int .i64 a0.Pulse.Numbers), .v (.int .i64 a0.Pulse.Pitch), .v (.int .i64 a0.Pulse.Slack), .v (.int .i64 a0.Pulse.Gap), .v (.int .i64 a0.Pulse.Pause), .v (.int .i64 a0.Pulse.Sparks), .sl .no 1 (a0.Pulse.Times.map cI)])]) 0 0 1 3 hS (by omega) (by decide) rfl rfl rfl rfl fun H hS => ?_
  refine w_next [(1, .sl .no 1 (a1.map cI)), (2, .ptr (g + 0) 0), (4, .ptr (g + 1) 0)] (.cons (.refl _) (.cons (.refl _) (.cons (.refl _) .nil))) ?_
  refine r_seq ?_
  refine r_region (n := 1) rfl ?_
  refine o_alloc hS (by decide) ty_zero127 (by omega) fun H hS => ?_
  refine run_nil ?_
  refine w_next [(1, .sl .no 1 (a1.map cI)), (2, .ptr (g + 0) 0), (4, .ptr (g + 1) 0), (6, .ptr (g + 3 + 1 + 0) 0)] (.cons (.refl _) (.cons (.refl _) (.cons (.refl _) (.cons (.refl _) .nil)))) ?_
  refine r_seq ?_
  refine r_region (n := 2) rfl ?_
  refine o_makeFunc (first := []) (cap := [.ptr (g + 1) 0, .ptr (g + 3 + 1 + 0) 0, .ptr (g + 0) 0]) (by decide) rfl rfl ?_
  refine o_assign (v := .fn (.func 107) [] [.ptr (g + 1) 0, .ptr (g + 3 + 1 + 0) 0, .ptr (g + 0) 0]) (by decide) rfl ?_
  refine run_nil ?_
  refine w_next [(1, .sl .no 1 (a1.map cI)), (2, .ptr (g + 0) 0), (4, .ptr (g + 1) 0), (6, .ptr (g + 3 + 1 + 0) 0), (7, .fn (.func 107) [] [.ptr (g + 1) 0, .ptr (g + 3 + 1 + 0) 0, .ptr (g + 0) 0])] (.cons (.refl _) (.cons (.refl _) (.cons (.refl _) (.cons (.refl _) (.cons (.refl _) .nil))))) ?_
  refine w_join (J := Int × Int × (List Int)) (fun j => [(1, .sl .no 1 (a1.map cI)), (4, .ptr (g + 1) 0), (7, .fn (.func 107) [] [.ptr (g + 1) 0, .ptr (g + 3 + 1 + 0) 0, .ptr (g + 0) 0])]) (fun j H' g' => St (· < g) H0 [(g + 3 + 1 + 0, .cells [.v (.int .i64 j.1), .v (.int .i64 j.2.1)]), (g + 3, .row 3 j.2.2.length), (g + 1, .cells [.sl (.id (g + 3)) 1 (j.2.2.map cI)]), (g + 0, .cells [.v (.int .i64 a0.Pulse.Letters), .v (.int .i64 a0.Pulse.Numbers), .v (.int .i64 a0.Pulse.Pitch), .v (.int .i64 a0.Pulse.Slack), .v (.int .i64 a0.Pulse.Gap), .v (.int .i64 a0.Pulse.Pause), .v (.int .i64 a0.Pulse.Sparks), .sl .no 1 (a0.Pulse.Times.map cI)])] H' g' ∧ pulses_train_list_j1 a0 a1 j.1 j.2.1 j.2.2 = some r) ?_ ?_
  · rintro ⟨v1, v2, v3⟩ H g1 ⟨hS, hM⟩
    change wpA _ _ _ _ (Fr.of [(1, .sl .no 1 (a1.map cI)), (4, .ptr (g + 1) 0), (7, .fn (.func 107) [] [.ptr (g + 1) 0, .ptr (g + 3 + 1 + 0) 0, .ptr (g + 0) 0])]) _ _
    replace hS : St (· < g) H0 [(g + 3 + 1 + 0, .cells [.v (.int .i64 v1), .v (.int .i64 v2)]), (g + 3, .row 3 v3.length), (g + 1, .cells [.sl (.id (g + 3)) 1 (v3.map cI)]), (g + 0, .cells [.v (.int .i64 a0.Pulse.Letters), .v (.int .i64 a0.Pulse.Numbers), .v (.int .i64 a0.Pulse.Pitch), .v (.int .i64 a0.Pulse.Slack), .v (.int .i64 a0.Pulse.Gap), .v (.int .i64 a0.Pulse.Pause), .v (.int .i64 a0.Pulse.Sparks), .sl .no 1 (a0.Pulse.Times.map cI)])] H g1 := hS
    replace hM : pulses_train_list_j1 a0 a1 v1 v2 v3 = some r := hM
    refine r_seq ?_
    refine w_join (J := Bool × (List Int)) (fun j => [(4, .ptr (g + 1) 0), (63, .v (.bool j.1))]) (fun j H' g' => St (· < g) H0 [(g + 3, .row 3 j.2.length), (g + 1, .cells [.sl (.id (g + 3)) 1 (j.2.map cI)])] H' g' ∧ pulses_train_list_j2 j.1 j.2 = some r) ?_ ?_
    · rintro ⟨v4, v5⟩ H g2 ⟨hS, hM⟩
      change wpA _ _ _ _ (Fr.of [(4, .ptr (g + 1) 0), (63, .v (.bool v4))]) _ _
      replace hS : St (· < g) H0 [(g + 3, .row 3 v5.length), (g + 1, .cells [.sl (.id (g + 3)) 1 (v5.map cI)])] H g2 := hS
      replace hM : pulses_train_list_j2 v4 v5 = some r := hM
      rcases Bool.eq_false_or_eq_true v4 with hb6 | hb6
      · replace hM := ifT hM hb6
        refine w_condT (e := v4) rfl hb6 ?_
        refine r_seq ?_
        refine r_region (n := 2) rfl ?_
        refine o_store (v := .sl .nil 0 []) (ns := [.sl .nil 0 []]) (L' := [(g + 3, .row 3 v5.length), (g + 1, .cells [.sl .nil 0 []])]) 1 hS rfl rfl .no rfl rfl ty_var22 (Nat.le_of_ble_eq_true rfl) rfl fun H hS => ?_
        refine o_assign (v := .v (.bool false)) (by decide) rfl ?_
        refine run_nil ?_
        refine w_ownC (cs' := [.sl (.id (g2 + 2)) 1 (([] : List Int).map cI)]) (L' := [(g + 3, .row 3 v5.length), (g + 1, .cells [.sl (.id (g2 + 2)) 1 (([] : List Int).map cI)])]) 1 0 1 3 hS (by omega) (by decide) rfl rfl rfl rfl fun H hS => ?_
        replace hS := hS.keep (L' := [(g2 + 2, .row 3 0), (g + 1, .cells [.sl (.id (g2 + 2)) 1 (([] : List Int).map cI)])]) [true, false, true] rfl
        refine w_next [(4, .ptr (g + 1) 0), (5, .v (.bool false))] (.cons (.refl _) (.cons (.refl _) .nil)) ?_
        refine r_ret ?_
        refine r_then_ret ?_
        refine w_end (x := .tup [.sl (.id (g2 + 2)) 1 (([] : List Int).map cI), .v (.bool false)]) (f := fun r => .tup [.sl .no 1 (r.1.map cI), .v (.bool r.2)]) (.inr rfl) ?_ (.tupL (.cons (.sl _ _ _) (.cons (.refl _) .nil))) (Option.some.inj hM) hS
        exact (res_two (res_cell (x := .sl (.id (g2 + 2)) 1 (([] : List Int).map cI)) 1 hS rfl rfl (part_one ty_agg22 ty_sc22 rfl)) (res_tmp (x := .v (.bool false)) rfl))
      · replace hM := ifF hM hb6
        refine w_condF (e := v4) rfl hb6 ?_
        refine r_skip ?_
        refine w_next [(4, .ptr (g + 1) 0)] (.cons (.refl _) .nil) ?_
        refine r_seq ?_
        refine r_region (n := 3) rfl ?_
        refine o_load (v := .sl (.id (g + 3)) 1 (v5.map cI)) 1 hS (by decide) rfl rfl .no (part_one ty_agg22 ty_sc22 rfl) ?_
        refine o_store (v := .sl (.id (g + 3)) 1 (v5.map cI)) (ns := [.sl (.id (g + 3)) 1 (v5.map cI)]) (L' := [(g + 3, .row 3 v5.length), (g + 1, .cells [.sl (.id (g + 3)) 1 (v5.map cI)])]) 1 hS rfl rfl .no rfl rfl ty_var22 (Nat.le_of_ble_eq_true rfl) rfl fun H hS => ?_
        refine o_assign (v := .v (.bool true)) (by decide) rfl ?_
        refine run_nil ?_
        refine w_next [(4, .ptr (g + 1) 0), (5, .v (.bool true))] (.cons (.refl _) (.cons (.refl _) .nil)) ?_
        refine r_ret ?_
        refine w_end (x := .tup [.sl (.id (g + 3)) 1 (v5.map cI), .v (.bool true)]) (f := fun r => .tup [.sl .no 1 (r.1.map cI), .v (.bool r.2)]) (.inr rfl) ?_ (.tupL (.cons (.sl _ _ _) (.cons (.refl _) .nil))) (Option.some.inj hM) hS
        exact (res_two (res_cell (x := .sl (.id (g + 3)) 1 (v5.map cI)) 1 hS rfl rfl (part_one ty_agg22 ty_sc22 rfl)) (res_tmp (x := .v (.bool true)) rfl))
    · refine r_region (n := 8) rfl ?_
      refine o_move (v := .sl .no 1 (a1.map cI)) (by decide) rfl ?_
      refine o_len (n := a1.length) (by decide) rfl (List.length_map _) ty_isl22 ?_
      refine o_int (v := .v (.bool (decide ((a1.length : Int) > 0)))) (by decide) rfl rfl rfl ?_
      refine o_move (v := .v (.bool (decide ((a1.length : Int) > 0)))) (by decide) rfl ?_
      rcases Bool.eq_false_or_eq_true (decide ((a1.length : Int) > 0)) with hb7 | hb7
      · replace hM := ifT hM hb7
        refine o_guardY (j := 3) (e := (decide ((a1.length : Int) > 0))) (want := true) rfl hb7 ?_
        refine o_move (v := .fn (.func 107) [] [.ptr (g + 1) 0, .ptr (g + 3 + 1 + 0) 0, .ptr (g + 0) 0]) (by decide) rfl ?_
        refine o_guardY (j := 3) (e := (decide ((a1.length : Int) > 0))) (want := true) rfl hb7 ?_
        obtain ⟨r8, hr8, hM⟩ := bindE hM
        have hndr8 := hS.nd_at (ns := [2, 1, 0, 3]) (M := [(g + 1, .cells [.sl (.id (g + 3)) 1 (v3.map cI)]), (g + 3, .row 3 v3.length), (g + 3 + 1 + 0, .cells [.v (.int .i64 v1), .v (.int .i64 v2)]), (g + 0, .cells [.v (.int .i64 a0.Pulse.Letters), .v (.int .i64 a0.Pulse.Numbers), .v (.int .i64 a0.Pulse.Pitch), .v (.int .i64 a0.Pulse.Slack), .v (.int .i64 a0.Pulse.Gap), .v (.int .i64 a0.Pulse.Pause), .v (.int .i64 a0.Pulse.Sparks), .sl .no 1 (a0.Pulse.Times.map cI)])]) (M' := [(g + 1, .cells [.sl (.id (g + 3)) 1 (r8.2.map cI)]), (g + 3, .row 3 r8.2.length), (g + 3 + 1 + 0, .cells [.v (.int .i64 v1), .v (.int .i64 v2)]), (g + 0, .cells [.v (.int .i64 a0.Pulse.Letters), .v (.int .i64 a0.Pulse.Numbers), .v (.int .i64 a0.Pulse.Pitch), .v (.int .i64 a0.Pulse.Slack), .v (.int .i64 a0.Pulse.Gap), .v (.int .i64 a0.Pulse.Pause), .v (.int .i64 a0.Pulse.Sparks), .sl .no 1 (a0.Pulse.Times.map cI)])]) (.cons rfl (.cons rfl (.cons rfl (.cons rfl .nil)))) (by decide)
        refine o_hsat (bs := [.ptr (g + 1) 0, .ptr (g + 3 + 1 + 0) 0, .ptr (g + 0) 0]) (M := [(g + 1, .cells [.sl (.id (g + 3)) 1 (v3.map cI)]), (g + 3, .row 3 v3.length), (g + 3 + 1 + 0, .cells [.v (.int .i64 v1), .v (.int .i64 v2)]), (g + 0, .cells [.v (.int .i64 a0.Pulse.Letters), .v (.int .i64 a0.Pulse.Numbers), .v (.int .i64 a0.Pulse.Pitch), .v (.int .i64 a0.Pulse.Slack), .v (.int .i64 a0.Pulse.Gap), .v (.int .i64 a0.Pulse.Pause), .v (.int .i64 a0.Pulse.Sparks), .sl .no 1 (a0.Pulse.Times.map cI)])]) (M' := [(g + 1, .cells [.sl (.id (g + 3)) 1 (r8.2.map cI)]), (g + 3, .row 3 r8.2.length), (g + 3 + 1 + 0, .cells [.v (.int .i64 v1), .v (.int .i64 v2)]), (g + 0, .cells [.v (.int .i64 a0.Pulse.Letters), .v (.int .i64 a0.Pulse.Numbers), .v (.int .i64 a0.Pulse.Pitch), .v (.int .i64 a0.Pulse.Slack), .v (.int .i64 a0.Pulse.Gap), .v (.int .i64 a0.Pulse.Pause), .v (.int .i64 a0.Pulse.Sparks), .sl .no 1 (a0.Pulse.Times.map cI)])]) (L' := [(g + 3 + 1 + 0, .cells [.v (.int .i64 v1), .v (.int .i64 v2)]), (g + 3, .row 3 r8.2.length), (g + 1, .cells [.sl (.id (g + 3)) 1 (r8.2.map cI)]), (g + 0, .cells [.v (.int .i64 a0.Pulse.Letters), .v (.int .i64 a0.Pulse.Numbers), .v (.int .i64 a0.Pulse.Pitch), .v (.int .i64 a0.Pulse.Slack), .v (.int .i64 a0.Pulse.Gap), .v (.int .i64 a0.Pulse.Pause), .v (.int .i64 a0.Pulse.Sparks), .sl .no 1 (a0.Pulse.Times.map cI)])]) [2, 1, 0, 3] (.inl rfl) hS (by decide) rfl rfl ((W_pulses_train_list_c1 (p1 := g + 1) (w1 := g + 3) (p2 := g + 3 + 1 + 0) (p3 := g + 0) hndr8 hr8).le (.cons (.refl _) (.cons (.refl _) (.cons (.refl _) .nil)))) (.cons rfl (.cons rfl (.cons rfl (.cons rfl .nil)))) rfl (by omega) fun H hS => ?_
        refine o_guardY (j := 3) (e := (decide ((a1.length : Int) > 0))) (want := true) rfl hb7 ?_
        refine o_not (e := r8.1) (by decide) rfl ?_
        refine o_pickT (v := .v (.bool (!r8.1))) (e := (decide ((a1.length : Int) > 0))) (by decide) rfl hb7 rfl ?_
        refine run_nil ?_
        exact w_goto ((!r8.1), r8.2) (.cons (.refl _) (.cons (.refl _) .nil)) ⟨(hS.keep [false, true, true, false] rfl).up (by omega), hM⟩
      · replace hM := ifF hM hb7
        refine o_guardN (j := 3) (e := (decide ((a1.length : Int) > 0))) (want := true) (by decide) rfl hb7 ?_
        refine o_guardN (j := 3) (e := (decide ((a1.length : Int) > 0))) (want := true) (by decide) rfl hb7 ?_
        refine o_guardN (j := 3) (e := (decide ((a1.length : Int) > 0))) (want := true) (by decide) rfl hb7 ?_
        refine o_pickF (v := .v (.bool false)) (e := (decide ((a1.length : Int) > 0))) (by decide) rfl hb7 rfl ?_
        refine run_nil ?_
        exact w_goto (false, v3) (.cons (.refl _) (.cons (.refl _) .nil)) ⟨(hS.keep [false, true, true, false] rfl).up (by omega), hM⟩
  · refine r_seq ?_
    refine r_region (n := 3) rfl ?_
    refine o_move (v := .sl .no 1 (a1.map cI)) (by decide) rfl ?_
    refine o_len (n := a1.length) (by decide) rfl (List.length_map _) ty_isl22 ?_
    refine o_move (v := .v (.int .i64 0)) (by decide) rfl ?_
    refine run_nil ?_
    refine w_next [(1, .sl .no 1 (a1.map cI)), (2, .ptr (g + 0) 0), (4, .ptr (g + 1) 0), (6, .ptr (g + 3 + 1 + 0) 0), (7, .fn (.func 107) [] [.ptr (g + 1) 0, .ptr (g + 3 + 1 + 0) 0, .ptr (g + 0) 0]), (11, .sl .no 1 (a1.map cI)), (12, .v (.int .i64 (a1.length : Int))), (13, .v (.int .i64 0))] (.cons (.refl _) (.cons (.refl _) (.cons (.refl _) (.cons (.refl _) (.cons (.refl _) (.cons (.refl _) (.cons (.refl _) (.cons (.refl _) .nil)))))))) ?_
    refine r_block ?_
    refine w_loop (V := Int × Int × Int × (List Int)) (fun v => [(1, .sl .no 1 (a1.map cI)), (2, .ptr (g + 0) 0), (4, .ptr (g + 1) 0), (6, .ptr (g + 3 + 1 + 0) 0), (7, .fn (.func 107) [] [.ptr (g + 1) 0, .ptr (g + 3 + 1 + 0) 0, .ptr (g + 0) 0]), (11, .sl .no 1 (a1.map cI)), (12, .v (.int .i64 (a1.length : Int))), (13, .v (.int .i64 v.1))]) (fun v m4 H' g' => St (· < g) H0 [(g + 3 + 1 + 0, .cells [.v (.int .i64 v.2.1), .v (.int .i64 v.2.2.1)]), (g + 3, .row 3 v.2.2.2.length), (g + 1, .cells [.sl (.id (g + 3)) 1 (v.2.2.2.map cI)]), (g + 0, .cells [.v (.int .i64 a0.Pulse.Letters), .v (.int .i64 a0.Pulse.Numbers), .v (.int .i64 a0.Pulse.Pitch), .v (.int .i64 a0.Pulse.Slack), .v (.int .i64 a0.Pulse.Gap), .v (.int .i64 a0.Pulse.Pause), .v (.int .i64 a0.Pulse.Sparks), .sl .no 1 (a0.Pulse.Times.map cI)])] H' g' ∧ pulses_train_list_l1 a0 a1 m4 v.1 v.2.1 v.2.2.1 v.2.2.2 = some r) (n := n) (0, 0, 0, ([] : List Int)) (.cons (.refl _) (.cons (.refl _) (.cons (.refl _) (.cons (.refl _) (.cons (.refl _) (.cons (.refl _) (.cons (.refl _) (.cons (.refl _) .nil)))))))) ⟨(hS.keep [true, true, true, true] rfl).up (by omega), hM⟩ ?_
    rintro ⟨v10, v11, v12, v13⟩ m4 H g4 ⟨hS, hM⟩
    obtain _ | m4 := m4
    · exact nomatch (show none = some _ from hM)
    change wpA _ _ _ _ (Fr.of [(1, .sl .no 1 (a1.map cI)), (2, .ptr (g + 0) 0), (4, .ptr (g + 1) 0), (6, .ptr (g + 3 + 1 + 0) 0), (7, .fn (.func 107) [] [.ptr (g + 1) 0, .ptr (g + 3 + 1 + 0) 0, .ptr (g + 0) 0]), (11, .sl .no 1 (a1.map cI)), (12, .v (.int .i64 (a1.length : Int))), (13, .v (.int .i64 v10))]) _ _
    replace hS : St (· < g) H0 [(g + 3 + 1 + 0, .cells [.v (.int .i64 v11), .v (.int .i64 v12)]), (g + 3, .row 3 v13.length), (g + 1, .cells [.sl (.id (g + 3)) 1 (v13.map cI)]), (g + 0, .cells [.v (.int .i64 a0.Pulse.Letters), .v (.int .i64 a0.Pulse.Numbers), .v (.int .i64 a0.Pulse.Pitch), .v (.int .i64 a0.Pulse.Slack), .v (.int .i64 a0.Pulse.Gap), .v (.int .i64 a0.Pulse.Pause), .v (.int .i64 a0.Pulse.Sparks), .sl .no 1 (a0.Pulse.Times.map cI)])] H g4 := hS
    replace hM : pulses_train_list_l1_b a0 a1 (pulses_train_list_l1 a0 a1 m4) v10 v11 v12 v13 = some r := hM
    refine r_seq ?_
    refine r_region (n := 1) rfl ?_
    refine o_int (v := .v (.bool (decide (v10 < (a1.length : Int))))) (by decide) rfl rfl rfl ?_
    refine run_nil ?_
    refine w_next [(1, .sl .no 1 (a1.map cI)), (2, .ptr (g + 0) 0), (4, .ptr (g + 1) 0), (6, .ptr (g + 3 + 1 + 0) 0), (7, .fn (.func 107) [] [.ptr (g + 1) 0, .ptr (g + 3 + 1 + 0) 0, .ptr (g + 0) 0]), (11, .sl .no 1 (a1.map cI)), (12, .v (.int .i64 (a1.length : Int))), (13, .v (.int .i64 v10)), (14, .v (.bool (decide (v10 < (a1.length : Int)))))] (.cons (.refl _) (.cons (.refl _) (.cons (.refl _) (.cons (.refl _) (.cons (.refl _) (.cons (.refl _) (.cons (.refl _) (.cons (.refl _) (.cons (.refl _) .nil))))))))) ?_
    refine r_seq ?_
    rcases Bool.eq_false_or_eq_true (decide (v10 < (a1.length : Int))) with hb14 | hb14
    · replace hM := ifT hM hb14
      refine w_condT (e := (decide (v10 < (a1.length : Int)))) rfl hb14 ?_
      refine r_skip ?_
      refine w_next [(1, .sl .no 1 (a1.map cI)), (2, .ptr (g + 0) 0), (4, .ptr (g + 1) 0), (6, .ptr (g + 3 + 1 + 0) 0), (7, .fn (.func 107) [] [.ptr (g + 1) 0, .ptr (g + 3 + 1 + 0) 0, .ptr (g + 0) 0]), (11, .sl .no 1 (a1.map cI)), (12, .v (.int .i64 (a1.length : Int))), (13, .v (.int .i64 v10))] (.cons (.refl _) (.cons (.refl _) (.cons (.refl _) (.cons (.refl _) (.cons (.refl _) (.cons (.refl _) (.cons (.refl _) (.cons (.refl _) .nil)))))))) ?_
      refine w_join (J := Int × Int × (List Int)) (fun j => [(1, .sl .no 1 (a1.map cI)), (2, .ptr (g + 0) 0), (4, .ptr (g + 1) 0), (6, .ptr (g + 3 + 1 + 0) 0), (7, .fn (.func 107) [] [.ptr (g + 1) 0, .ptr (g + 3 + 1 + 0) 0, .ptr (g + 0) 0]), (11, .sl .no 1 (a1.map cI)), (12, .v (.int .i64 (a1.length : Int))), (13, .v (.int .i64 v10))]) (fun j H' g' => St (· < g) H0 [(g + 3 + 1 + 0, .cells [.v (.int .i64 j.1), .v (.int .i64 j.2.1)]), (g + 3, .row 3 j.2.2.length), (g + 1, .cells [.sl (.id (g + 3)) 1 (j.2.2.map cI)]), (g + 0, .cells [.v (.int .i64 a0.Pulse.Letters), .v (.int .i64 a0.Pulse.Numbers), .v (.int .i64 a0.Pulse.Pitch), .v (.int .i64 a0.Pulse.Slack), .v (.int .i64 a0.Pulse.Gap), .v (.int .i64 a0.Pulse.Pause), .v (.int .i64 a0.Pulse.Sparks), .sl .no 1 (a0.Pulse.Times.map cI)])] H' g' ∧ pulses_train_list_j3 (pulses_train_list_l1 a0 a1 m4) v10 j.1 j.2.1 j.2.2 = some r) ?_ ?_
      · rintro ⟨v15, v16, v17⟩ H g5 ⟨hS, hM⟩
        change wpA _ _ _ _ (Fr.of [(1, .sl .no 1 (a1.map cI)), (2, .ptr (g + 0) 0), (4, .ptr (g + 1) 0), (6, .ptr (g + 3 + 1 + 0) 0), (7, .fn (.func 107) [] [.ptr (g + 1) 0, .ptr (g + 3 + 1 + 0) 0, .ptr (g + 0) 0]), (11, .sl .no 1 (a1.map cI)), (12, .v (.int .i64 (a1.length : Int))), (13, .v (.int .i64 v10))]) _ _
        replace hS : St (· < g) H0 [(g + 3 + 1 + 0, .cells [.v (.int .i64 v15), .v (.int .i64 v16)]), (g + 3, .row 3 v17.length), (g + 1, .cells [.sl (.id (g + 3)) 1 (v17.map cI)]), (g + 0, .cells [.v (.int .i64 a0.Pulse.Letters), .v (.int .i64 a0.Pulse.Numbers), .v (.int .i64 a0.Pulse.Pitch), .v (.int .i64 a0.Pulse.Slack), .v (.int .i64 a0.Pulse.Gap), .v (.int .i64 a0.Pulse.Pause), .v (.int .i64 a0.Pulse.Sparks), .sl .no 1 (a0.Pulse.Times.map cI)])] H g5 := hS
        replace hM : pulses_train_list_j3 (pulses_train_list_l1 a0 a1 m4) v10 v15 v16 v17 = some r := hM
        refine r_region (n := 2) rfl ?_
        refine o_int (v := .v (.int .i64 (w64 (v10 + 1)))) (by decide) rfl rfl rfl ?_
        refine o_move (v := .v (.int .i64 (w64 (v10 + 1)))) (by decide) rfl ?_
        refine run_nil ?_
        exact w_round (w64 (v10 + 1), v15, v16, v17) (Nat.lt_succ_self _) (.cons (.refl _) (.cons (.refl _) (.cons (.refl _) (.cons (.refl _) (.cons (.refl _) (.cons (.refl _) (.cons (.refl _) (.cons (.refl _) .nil)))))))) ⟨(hS.keep [true, true, true, true] rfl).up (by omega), hM⟩
      · refine r_block ?_
        refine r_seq ?_
        refine r_region (n := 5) rfl ?_
        refine o_move (v := .v (.int .i64 v10)) (by decide) rfl ?_
        obtain ⟨x18, hx18, hM⟩ := bindE hM
        refine o_index (xs := a1) (f := cI) (z := v10) (u := x18) (by decide) rfl rfl ty_es22 hx18 ?_
        refine o_loadE (v := .v (.int .i64 x18)) (by decide) rfl (part_one ty_agg3 ty_sc3 rfl) ?_
        refine o_assign (v := .v (.int .i64 v10)) (by decide) rfl ?_
        refine o_assign (v := .v (.int .i64 x18)) (by decide) rfl ?_
        refine run_nil ?_
        refine w_next [(1, .sl .no 1 (a1.map cI)), (2, .ptr (g + 0) 0), (4, .ptr (g + 1) 0), (6, .ptr (g + 3 + 1 + 0) 0), (7, .fn (.func 107) [] [.ptr (g + 1) 0, .ptr (g + 3 + 1 + 0) 0, .ptr (g + 0) 0]), (8, .v (.int .i64 v10)), (9, .v (.int .i64 x18)), (11, .sl .no 1 (a1.map cI)), (12, .v (.int .i64 (a1.length : Int))), (13, .v (.int .i64 v10))] (.cons (.refl _) (.cons (.refl _) (.cons (.refl _) (.cons (.refl _) (.cons (.refl _) (.cons (.refl _) (.cons (.refl _) (.cons (.refl _) (.cons (.refl _) (.cons (.refl _) .nil)))))))))) ?_
        refine r_seq ?_
        refine r_seq ?_
        refine r_region (n := 2) rfl ?_
        refine o_move (v := .v (.int .i64 v10)) (by decide) rfl ?_
        refine o_int (v := .v (.bool (v10 == 0))) (by decide) rfl rfl rfl ?_
        refine run_nil ?_
        refine w_next [(1, .sl .no 1 (a1.map cI)), (2, .ptr (g + 0) 0), (4, .ptr (g + 1) 0), (6, .ptr (g + 3 + 1 + 0) 0), (7, .fn (.func 107) [] [.ptr (g + 1) 0, .ptr (g + 3 + 1 + 0) 0, .ptr (g + 0) 0]), (8, .v (.int .i64 v10)), (9, .v (.int .i64 x18)), (11, .sl .no 1 (a1.map cI)), (12, .v (.int .i64 (a1.length : Int))), (13, .v (.int .i64 v10)), (19, .v (.bool (v10 == 0)))] (.cons (.refl _) (.cons (.refl _) (.cons (.refl _) (.cons (.refl _) (.cons (.refl _) (.cons (.refl _) (.cons (.refl _) (.cons (.refl _) (.cons (.refl _) (.cons (.refl _) (.cons (.refl _) .nil))))))))))) ?_
        rcases Bool.eq_false_or_eq_true (v10 == 0) with hb19 | hb19
        · replace hM := ifT hM hb19
          refine w_condT (e := (v10 == 0)) rfl hb19 ?_
          refine r_seq ?_
          refine r_region (n := 2) rfl ?_
          refine o_build (cs := [.v (.int .i64 1), .v (.int .i64 0)]) (by decide) ty_zero127 ty_pl127 rfl ?_
          refine o_store (v := .agg [.v (.int .i64 1), .v (.int .i64 0)]) (ns := [.v (.int .i64 1), .v (.int .i64 0)]) (L' := [(g + 3 + 1 + 0, .cells [.v (.int .i64 1), .v (.int .i64 0)]), (g + 3, .row 3 v13.length), (g + 1, .cells [.sl (.id (g + 3)) 1 (v13.map cI)]), (g + 0, .cells [.v (.int .i64 a0.Pulse.Letters), .v (.int .i64 a0.Pulse.Numbers), .v (.int .i64 a0.Pulse.Pitch), .v (.int .i64 a0.Pulse.Slack), .v (.int .i64 a0.Pulse.Gap), .v (.int .i64 a0.Pulse.Pause), .v (.int .i64 a0.Pulse.Sparks), .sl .no 1 (a0.Pulse.Times.map cI)])]) 0 hS rfl rfl .no rfl rfl ty_var127 (Nat.le_of_ble_eq_true rfl) rfl fun H hS => ?_
          refine run_nil ?_
          refine w_next [(1, .sl .no 1 (a1.map cI)), (2, .ptr (g + 0) 0), (4, .ptr (g + 1) 0), (6, .ptr (g + 3 + 1 + 0) 0), (7, .fn (.func 107) [] [.ptr (g + 1) 0, .ptr (g + 3 + 1 + 0) 0, .ptr (g + 0) 0]), (11, .sl .no 1 (a1.map cI)), (12, .v (.int .i64 (a1.length : Int))), (13, .v (.int .i64 v10))] (.cons (.refl _) (.cons (.refl _) (.cons (.refl _) (.cons (.refl _) (.cons (.refl _) (.cons (.refl _) (.cons (.refl _) (.cons (.refl _) .nil)))))))) ?_
          refine r_exit ?_
          refine r_then_exit ?_
          refine r_blk_exit ?_
          exact w_goto (1, 0, v13) (.cons (.refl _) (.cons (.refl _) (.cons (.refl _) (.cons (.refl _) (.cons (.refl _) (.cons (.refl _) (.cons (.refl _) (.cons (.refl _) .nil)))))))) ⟨(hS.keep [true, true, true, true] rfl).up (by omega), hM⟩
        · replace hM := ifF hM hb19
          refine w_condF (e := (v10 == 0)) rfl hb19 ?_
          refine r_skip ?_
          refine w_next [(1, .sl .no 1 (a1.map cI)), (2, .ptr (g + 0) 0), (4, .ptr (g + 1) 0), (6, .ptr (g + 3 + 1 + 0) 0), (7, .fn (.func 107) [] [.ptr (g + 1) 0, .ptr (g + 3 + 1 + 0) 0, .ptr (g + 0) 0]), (8, .v (.int .i64 v10)), (9, .v (.int .i64 x18)), (11, .sl .no 1 (a1.map cI)), (12, .v (.int .i64 (a1.length : Int))), (13, .v (.int .i64 v10))] (.cons (.refl _) (.cons (.refl _) (.cons (.refl _) (.cons (.refl _) (.cons (.refl _) (.cons (.refl _) (.cons (.refl _) (.cons (.refl _) (.cons (.refl _) (.cons (.refl _) .nil)))))))))) ?_
          refine r_seq ?_
          have hS0 := hS
          refine r_draw (n := 9) rfl (by kernel_rfl) ?_
          refine o_load (v := .agg [.v (.int .i64 a0.Pulse.Letters), .v (.int .i64 a0.Pulse.Numbers), .v (.int .i64 a0.Pulse.Pitch), .v (.int .i64 a0.Pulse.Slack), .v (.int .i64 a0.Pulse.Gap), .v (.int .i64 a0.Pulse.Pause), .v (.int .i64 a0.Pulse.Sparks), .sl .no 1 (a0.Pulse.Times.map cI)]) 3 hS (by decide) rfl rfl (.st hS0 3 rfl (by omega)) (part_agg ty_agg62 (Nat.le_of_ble_eq_true rfl) rfl) ?_
          refine o_move (v := .v (.int .i64 x18)) (by decide) rfl ?_
          refine o_move (v := .sl .no 1 (a1.map cI)) (by decide) rfl ?_
          refine o_move (v := .v (.int .i64 v10)) (by decide) rfl ?_
          refine o_int (v := .v (.int .i64 (w64 (v10 - 1)))) (by decide) rfl rfl rfl ?_
          obtain ⟨x20, hx20, hM⟩ := bindE hM
          refine o_index (xs := a1) (f := cI) (z := (w64 (v10 - 1))) (u := x20) (by decide) rfl rfl ty_es22 hx20 ?_
          refine o_loadE (v := .v (.int .i64 x20)) (by decide) rfl (part_one ty_agg3 ty_sc3 rfl) ?_
          refine o_int (v := .v (.int .i64 (w64 (x18 - x20)))) (by decide) rfl rfl rfl ?_
          obtain ⟨r21, hr21, hM⟩ := bindE hM
          refine o_call (bs := [.agg [.v (.int .i64 a0.Pulse.Letters), .v (.int .i64 a0.Pulse.Numbers), .v (.int .i64 a0.Pulse.Pitch), .v (.int .i64 a0.Pulse.Slack), .v (.int .i64 a0.Pulse.Gap), .v (.int .i64 a0.Pulse.Pause), .v (.int .i64 a0.Pulse.Sparks), .sl .no 1 (a0.Pulse.Times.map cI)], .v (.int .i64 (w64 (x18 - x20)))]) (by decide) rfl rfl ((W_pulses_train_says hr21).le (.cons (.refl _) (.cons (.refl _) .nil))) ?_
          refine run_nil ?_
          refine w_next [(1, .sl .no 1 (a1.map cI)), (2, .ptr (g + 0) 0), (4, .ptr (g + 1) 0), (6, .ptr (g + 3 + 1 + 0) 0), (7, .fn (.func 107) [] [.ptr (g + 1) 0, .ptr (g + 3 + 1 + 0) 0, .ptr (g + 0) 0]), (11, .sl .no 1 (a1.map cI)), (12, .v (.int .i64 (a1.length : Int))), (13, .v (.int .i64 v10)), (29, .v (.int .i64 r21))] (.cons (.refl _) (.cons (.refl _) (.cons (.refl _) (.cons (.refl _) (.cons (.refl _) (.cons (.refl _) (.cons (.refl _) (.cons (.refl _) (.cons (.refl _) .nil))))))))) ?_
          refine r_block ?_
          refine r_seq ?_
          refine r_region (n := 2) rfl ?_
          refine o_int (v := .v (.bool (r21 == 1))) (by decide) rfl rfl rfl ?_
          refine o_assign (v := .v (.bool (r21 == 1))) (by decide) rfl ?_
          refine run_nil ?_
          refine w_next [(1, .sl .no 1 (a1.map cI)), (2, .ptr (g + 0) 0), (4, .ptr (g + 1) 0), (6, .ptr (g + 3 + 1 + 0) 0), (7, .fn (.func 107) [] [.ptr (g + 1) 0, .ptr (g + 3 + 1 + 0) 0, .ptr (g + 0) 0]), (11, .sl .no 1 (a1.map cI)), (12, .v (.int .i64 (a1.length : Int))), (13, .v (.int .i64 v10)), (29, .v (.int .i64 r21)), (30, .v (.bool (r21 == 1)))] (.cons (.refl _) (.cons (.refl _) (.cons (.refl _) (.cons (.refl _) (.cons (.refl _) (.cons (.refl _) (.cons (.refl _) (.cons (.refl _) (.cons (.refl _) (.cons (.refl _) .nil)))))))))) ?_
          rcases Bool.eq_false_or_eq_true (r21 == 1) with hb22 | hb22
          · replace hM := ifT hM hb22
            refine w_condT (e := (r21 == 1)) rfl hb22 ?_
            refine r_seq ?_
            refine r_region (n := 3) rfl ?_
            refine o_fieldP (by decide) ty_fo127_1 rfl ?_
            refine o_load (v := .v (.int .i64 v12)) 0 hS (by decide) rfl rfl .no (part_one ty_agg3 ty_sc3 rfl) ?_
            refine o_int (v := .v (.bool (decide (v12 > 0)))) (by decide) rfl rfl rfl ?_
            refine run_nil ?_
            refine w_next [(1, .sl .no 1 (a1.map cI)), (2, .ptr (g + 0) 0), (4, .ptr (g + 1) 0), (6, .ptr (g + 3 + 1 + 0) 0), (7, .fn (.func 107) [] [.ptr (g + 1) 0, .ptr (g + 3 + 1 + 0) 0, .ptr (g + 0) 0]), (11, .sl .no 1 (a1.map cI)), (12, .v (.int .i64 (a1.length : Int))), (13, .v (.int .i64 v10)), (34, .v (.bool (decide (v12 > 0))))] (.cons (.refl _) (.cons (.refl _) (.cons (.refl _) (.cons (.refl _) (.cons (.refl _) (.cons (.refl _) (.cons (.refl _) (.cons (.refl _) (.cons (.refl _) .nil))))))))) ?_
            rcases Bool.eq_false_or_eq_true (decide (v12 > 0)) with hb23 | hb23
            · replace hM := ifT hM hb23
              refine w_condT (e := (decide (v12 > 0))) rfl hb23 ?_
              refine r_region (n := 5) rfl ?_
              refine o_fieldP (by decide) ty_fo127_1 rfl ?_
              refine o_load (v := .v (.int .i64 v12)) 0 hS (by decide) rfl rfl .no (part_one ty_agg3 ty_sc3 rfl) ?_
              refine o_int (v := .v (.int .i64 (w64 (v12 + 1)))) (by decide) rfl rfl rfl ?_
              refine o_fieldP (by decide) ty_fo127_1 rfl ?_
              refine o_store (v := .v (.int .i64 (w64 (v12 + 1)))) (ns := [.v (.int .i64 (w64 (v12 + 1)))]) (L' := [(g + 3 + 1 + 0, .cells [.v (.int .i64 v11), .v (.int .i64 (w64 (v12 + 1)))]), (g + 3, .row 3 v13.length), (g + 1, .cells [.sl (.id (g + 3)) 1 (v13.map cI)]), (g + 0, .cells [.v (.int .i64 a0.Pulse.Letters), .v (.int .i64 a0.Pulse.Numbers), .v (.int .i64 a0.Pulse.Pitch), .v (.int .i64 a0.Pulse.Slack), .v (.int .i64 a0.Pulse.Gap), .v (.int .i64 a0.Pulse.Pause), .v (.int .i64 a0.Pulse.Sparks), .sl .no 1 (a0.Pulse.Times.map cI)])]) 0 hS rfl rfl .no rfl rfl ty_var3 (Nat.le_of_ble_eq_true rfl) rfl fun H hS => ?_
              refine run_nil ?_
              refine r_blk_normal ?_
              refine r_blk_normal ?_
              exact w_goto (v11, w64 (v12 + 1), v13) (.cons (.refl _) (.cons (.refl _) (.cons (.refl _) (.cons (.refl _) (.cons (.refl _) (.cons (.refl _) (.cons (.refl _) (.cons (.refl _) .nil)))))))) ⟨(hS.keep [true, true, true, true] rfl).up (by omega), hM⟩
            · replace hM := ifF hM hb23
              refine w_condF (e := (decide (v12 > 0))) rfl hb23 ?_
              refine r_region (n := 5) rfl ?_
              refine o_fieldP (by decide) ty_fo127_0 rfl ?_
              refine o_load (v := .v (.int .i64 v11)) 0 hS (by decide) rfl rfl .no (part_one ty_agg3 ty_sc3 rfl) ?_
              refine o_int (v := .v (.int .i64 (w64 (v11 + 1)))) (by decide) rfl rfl rfl ?_
              refine o_fieldP (by decide) ty_fo127_0 rfl ?_
              refine o_store (v := .v (.int .i64 (w64 (v11 + 1)))) (ns := [.v (.int .i64 (w64 (v11 + 1)))]) (L' := [(g + 3 + 1 + 0, .cells [.v (.int .i64 (w64 (v11 + 1))), .v (.int .i64 v12)]), (g + 3, .row 3 v13.length), (g + 1, .cells [.sl (.id (g + 3)) 1 (v13.map cI)]), (g + 0, .cells [.v (.int .i64 a0.Pulse.Letters), .v (.int .i64 a0.Pulse.Numbers), .v (.int .i64 a0.Pulse.Pitch), .v (.int .i64 a0.Pulse.Slack), .v (.int .i64 a0.Pulse.Gap), .v (.int .i64 a0.Pulse.Pause), .v (.int .i64 a0.Pulse.Sparks), .sl .no 1 (a0.Pulse.Times.map cI)])]) 0 hS rfl rfl .no rfl rfl ty_var3 (Nat.le_of_ble_eq_true rfl) rfl fun H hS => ?_
              refine run_nil ?_
              refine r_blk_normal ?_
              refine r_blk_normal ?_
              exact w_goto (w64 (v11 + 1), v12, v13) (.cons (.refl _) (.cons (.refl _) (.cons (.refl _) (.cons (.refl _) (.cons (.refl _) (.cons (.refl _) (.cons (.refl _) (.cons (.refl _) .nil)))))))) ⟨(hS.keep [true, true, true, true] rfl).up (by omega), hM⟩
          · replace hM := ifF hM hb22
            refine w_condF (e := (r21 == 1)) rfl hb22 ?_
            refine r_seq ?_
            refine r_region (n := 2) rfl ?_
            refine o_int (v := .v (.bool (r21 == 2))) (by decide) rfl rfl rfl ?_
            refine o_assign (v := .v (.bool (r21 == 2))) (by decide) rfl ?_
            refine run_nil ?_
            refine w_next [(1, .sl .no 1 (a1.map cI)), (2, .ptr (g + 0) 0), (4, .ptr (g + 1) 0), (6, .ptr (g + 3 + 1 + 0) 0), (7, .fn (.func 107) [] [.ptr (g + 1) 0, .ptr (g + 3 + 1 + 0) 0, .ptr (g + 0) 0]), (11, .sl .no 1 (a1.map cI)), (12, .v (.int .i64 (a1.length : Int))), (13, .v (.int .i64 v10)), (29, .v (.int .i64 r21)), (43, .v (.bool (r21 == 2)))] (.cons (.refl _) (.cons (.refl _) (.cons (.refl _) (.cons (.refl _) (.cons (.refl _) (.cons (.refl _) (.cons (.refl _) (.cons (.refl _) (.cons (.refl _) (.cons (.refl _) .nil)))))))))) ?_
            rcases Bool.eq_false_or_eq_true (r21 == 2) with hb24 | hb24
            · replace hM := ifT hM hb24
              refine w_condT (e := (r21 == 2)) rfl hb24 ?_
              refine r_seq ?_
              refine r_seq ?_
              refine r_region (n := 3) rfl ?_
              refine o_fieldP (by decide) ty_fo127_1 rfl ?_
              refine o_load (v := .v (.int .i64 v12)) 0 hS (by decide) rfl rfl .no (part_one ty_agg3 ty_sc3 rfl) ?_
              refine o_int (v := .v (.bool (decide (v12 > 0)))) (by decide) rfl rfl rfl ?_
              refine run_nil ?_
              refine w_next [(1, .sl .no 1 (a1.map cI)), (2, .ptr (g + 0) 0), (4, .ptr (g + 1) 0), (6, .ptr (g + 3 + 1 + 0) 0), (7, .fn (.func 107) [] [.ptr (g + 1) 0, .ptr (g + 3 + 1 + 0) 0, .ptr (g + 0) 0]), (11, .sl .no 1 (a1.map cI)), (12, .v (.int .i64 (a1.length : Int))), (13, .v (.int .i64 v10)), (47, .v (.bool (decide (v12 > 0))))] (.cons (.refl _) (.cons (.refl _) (.cons (.refl _) (.cons (.refl _) (.cons (.refl _) (.cons (.refl _) (.cons (.refl _) (.cons (.refl _) (.cons (.refl _) .nil))))))))) ?_
              rcases Bool.eq_false_or_eq_true (decide (v12 > 0)) with hb25 | hb25
              · replace hM := ifT hM hb25
                refine w_condT (e := (decide (v12 > 0))) rfl hb25 ?_
                refine r_seq ?_
                refine r_region (n := 2) rfl ?_
                refine o_store (v := .sl .nil 0 []) (ns := [.sl .nil 0 []]) (L' := [(g + 3 + 1 + 0, .cells [.v (.int .i64 v11), .v (.int .i64 v12)]), (g + 3, .row 3 v13.length), (g + 1, .cells [.sl .nil 0 []]), (g + 0, .cells [.v (.int .i64 a0.Pulse.Letters), .v (.int .i64 a0.Pulse.Numbers), .v (.int .i64 a0.Pulse.Pitch), .v (.int .i64 a0.Pulse.Slack), .v (.int .i64 a0.Pulse.Gap), .v (.int .i64 a0.Pulse.Pause), .v (.int .i64 a0.Pulse.Sparks), .sl .no 1 (a0.Pulse.Times.map cI)])]) 2 hS rfl rfl .no rfl rfl ty_var22 (Nat.le_of_ble_eq_true rfl) rfl fun H hS => ?_
                refine o_assign (v := .v (.bool false)) (by decide) rfl ?_
                refine run_nil ?_
                refine w_ownC (cs' := [.sl (.id (g4 + 1 + 5 + 2 + 9 + 2 + 2 + 3 + 2)) 1 (([] : List Int).map cI)]) (L' := [(g + 3 + 1 + 0, .cells [.v (.int .i64 v11), .v (.int .i64 v12)]), (g + 3, .row 3 v13.length), (g + 1, .cells [.sl (.id (g4 + 1 + 5 + 2 + 9 + 2 + 2 + 3 + 2)) 1 (([] : List Int).map cI)]), (g + 0, .cells [.v (.int .i64 a0.Pulse.Letters), .v (.int .i64 a0.Pulse.Numbers), .v (.int .i64 a0.Pulse.Pitch), .v (.int .i64 a0.Pulse.Slack), .v (.int .i64 a0.Pulse.Gap), .v (.int .i64 a0.Pulse.Pause), .v (.int .i64 a0.Pulse.Sparks), .sl .no 1 (a0.Pulse.Times.map cI)])]) 2 0 1 3 hS (by omega) (by decide) rfl rfl rfl rfl fun H hS => ?_
                replace hS := hS.keep (L' := [(g4 + 1 + 5 + 2 + 9 + 2 + 2 + 3 + 2, .row 3 0), (g + 1, .cells [.sl (.id (g4 + 1 + 5 + 2 + 9 + 2 + 2 + 3 + 2)) 1 (([] : List Int).map cI)])]) [true, false, false, true, false] rfl
                refine w_next [(4, .ptr (g + 1) 0), (5, .v (.bool false))] (.cons (.refl _) (.cons (.refl _) .nil)) ?_
                refine r_ret ?_
                refine r_then_ret ?_
                refine r_blk_ret ?_
                refine r_blk_ret ?_
                refine w_goto_ret ?_
                refine w_round_ret ?_
                refine r_blk_ret ?_
                refine w_goto_ret ?_
                refine w_end (x := .tup [.sl (.id (g4 + 1 + 5 + 2 + 9 + 2 + 2 + 3 + 2)) 1 (([] : List Int).map cI), .v (.bool false)]) (f := fun r => .tup [.sl .no 1 (r.1.map cI), .v (.bool r.2)]) (.inr rfl) ?_ (.tupL (.cons (.sl _ _ _) (.cons (.refl _) .nil))) (Option.some.inj hM) hS
                exact (res_two (res_cell (x := .sl (.id (g4 + 1 + 5 + 2 + 9 + 2 + 2 + 3 + 2)) 1 (([] : List Int).map cI)) 1 hS rfl rfl (part_one ty_agg22 ty_sc22 rfl)) (res_tmp (x := .v (.bool false)) rfl))
              · replace hM := ifF hM hb25
                refine w_condF (e := (decide (v12 > 0))) rfl hb25 ?_
                refine r_skip ?_
                refine w_next [(1, .sl .no 1 (a1.map cI)), (2, .ptr (g + 0) 0), (4, .ptr (g + 1) 0), (6, .ptr (g + 3 + 1 + 0) 0), (7, .fn (.func 107) [] [.ptr (g + 1) 0, .ptr (g + 3 + 1 + 0) 0, .ptr (g + 0) 0]), (11, .sl .no 1 (a1.map cI)), (12, .v (.int .i64 (a1.length : Int))), (13, .v (.int .i64 v10))] (.cons (.refl _) (.cons (.refl _) (.cons (.refl _) (.cons (.refl _) (.cons (.refl _) (.cons (.refl _) (.cons (.refl _) (.cons (.refl _) .nil)))))))) ?_
                refine r_region (n := 2) rfl ?_
                refine o_fieldP (by decide) ty_fo127_1 rfl ?_
                refine o_store (v := .v (.int .i64 1)) (ns := [.v (.int .i64 1)]) (L' := [(g + 3 + 1 + 0, .cells [.v (.int .i64 v11), .v (.int .i64 1)]), (g + 3, .row 3 v13.length), (g + 1, .cells [.sl (.id (g + 3)) 1 (v13.map cI)]), (g + 0, .cells [.v (.int .i64 a0.Pulse.Letters), .v (.int .i64 a0.Pulse.Numbers), .v (.int .i64 a0.Pulse.Pitch), .v (.int .i64 a0.Pulse.Slack), .v (.int .i64 a0.Pulse.Gap), .v (.int .i64 a0.Pulse.Pause), .v (.int .i64 a0.Pulse.Sparks), .sl .no 1 (a0.Pulse.Times.map cI)])]) 0 hS rfl rfl .no rfl rfl ty_var3 (Nat.le_of_ble_eq_true rfl) rfl fun H hS => ?_
                refine run_nil ?_
                refine r_blk_normal ?_
                refine r_blk_normal ?_
                exact w_goto (v11, 1, v13) (.cons (.refl _) (.cons (.refl _) (.cons (.refl _) (.cons (.refl _) (.cons (.refl _) (.cons (.refl _) (.cons (.refl _) (.cons (.refl _) .nil)))))))) ⟨(hS.keep [true, true, true, true] rfl).up (by omega), hM⟩
            · replace hM := ifF hM hb24
              refine w_condF (e := (r21 == 2)) rfl hb24 ?_
              refine r_seq ?_
              refine r_region (n := 2) rfl ?_
              refine o_int (v := .v (.bool (r21 == 3))) (by decide) rfl rfl rfl ?_
              refine o_assign (v := .v (.bool (r21 == 3))) (by decide) rfl ?_
              refine run_nil ?_
              refine w_next [(1, .sl .no 1 (a1.map cI)), (2, .ptr (g + 0) 0), (4, .ptr (g + 1) 0), (6, .ptr (g + 3 + 1 + 0) 0), (7, .fn (.func 107) [] [.ptr (g + 1) 0, .ptr (g + 3 + 1 + 0) 0, .ptr (g + 0) 0]), (11, .sl .no 1 (a1.map cI)), (12, .v (.int .i64 (a1.length : Int))), (13, .v (.int .i64 v10)), (49, .v (.bool (r21 == 3)))] (.cons (.refl _) (.cons (.refl _) (.cons (.refl _) (.cons (.refl _) (.cons (.refl _) (.cons (.refl _) (.cons (.refl _) (.cons (.refl _) (.cons (.refl _) .nil))))))))) ?_
              rcases Bool.eq_false_or_eq_true (r21 == 3) with hb26 | hb26
              · replace hM := ifT hM hb26
                refine w_condT (e := (r21 == 3)) rfl hb26 ?_
                refine r_seq ?_
                refine r_seq ?_
                refine r_region (n := 3) rfl ?_
                refine o_move (v := .fn (.func 107) [] [.ptr (g + 1) 0, .ptr (g + 3 + 1 + 0) 0, .ptr (g + 0) 0]) (by decide) rfl ?_
                obtain ⟨r27, hr27, hM⟩ := bindE hM
                have hndr27 := hS.nd_at (ns := [2, 1, 0, 3]) (M := [(g + 1, .cells [.sl (.id (g + 3)) 1 (v13.map cI)]), (g + 3, .row 3 v13.length), (g + 3 + 1 + 0, .cells [.v (.int .i64 v11), .v (.int .i64 v12)]), (g + 0, .cells [.v (.int .i64 a0.Pulse.Letters), .v (.int .i64 a0.Pulse.Numbers), .v (.int .i64 a0.Pulse.Pitch), .v (.int .i64 a0.Pulse.Slack), .v (.int .i64 a0.Pulse.Gap), .v (.int .i64 a0.Pulse.Pause), .v (.int .i64 a0.Pulse.Sparks), .sl .no 1 (a0.Pulse.Times.map cI)])]) (M' := [(g + 1, .cells [.sl (.id (g + 3)) 1 (r27.2.map cI)]), (g + 3, .row 3 r27.2.length), (g + 3 + 1 + 0, .cells [.v (.int .i64 v11), .v (.int .i64 v12)]), (g + 0, .cells [.v (.int .i64 a0.Pulse.Letters), .v (.int .i64 a0.Pulse.Numbers), .v (.int .i64 a0.Pulse.Pitch), .v (.int .i64 a0.Pulse.Slack), .v (.int .i64 a0.Pulse.Gap), .v (.int .i64 a0.Pulse.Pause), .v (.int .i64 a0.Pulse.Sparks), .sl .no 1 (a0.Pulse.Times.map cI)])]) (.cons rfl (.cons rfl (.cons rfl (.cons rfl .nil)))) (by decide)
                refine o_hsat (bs := [.ptr (g + 1) 0, .ptr (g + 3 + 1 + 0) 0, .ptr (g + 0) 0]) (M := [(g + 1, .cells [.sl (.id (g + 3)) 1 (v13.map cI)]), (g + 3, .row 3 v13.length), (g + 3 + 1 + 0, .cells [.v (.int .i64 v11), .v (.int .i64 v12)]), (g + 0, .cells [.v (.int .i64 a0.Pulse.Letters), .v (.int .i64 a0.Pulse.Numbers), .v (.int .i64 a0.Pulse.Pitch), .v (.int .i64 a0.Pulse.Slack), .v (.int .i64 a0.Pulse.Gap), .v (.int .i64 a0.Pulse.Pause), .v (.int .i64 a0.Pulse.Sparks), .sl .no 1 (a0.Pulse.Times.map cI)])]) (M' := [(g + 1, .cells [.sl (.id (g + 3)) 1 (r27.2.map cI)]), (g + 3, .row 3 r27.2.length), (g + 3 + 1 + 0, .cells [.v (.int .i64 v11), .v (.int .i64 v12)]), (g + 0, .cells [.v (.int .i64 a0.Pulse.Letters), .v (.int .i64 a0.Pulse.Numbers), .v (.int .i64 a0.Pulse.Pitch), .v (.int .i64 a0.Pulse.Slack), .v (.int .i64 a0.Pulse.Gap), .v (.int .i64 a0.Pulse.Pause), .v (.int .i64 a0.Pulse.Sparks), .sl .no 1 (a0.Pulse.Times.map cI)])]) (L' := [(g + 3 + 1 + 0, .cells [.v (.int .i64 v11), .v (.int .i64 v12)]), (g + 3, .row 3 r27.2.length), (g + 1, .cells [.sl (.id (g + 3)) 1 (r27.2.map cI)]), (g + 0, .cells [.v (.int .i64 a0.Pulse.Letters), .v (.int .i64 a0.Pulse.Numbers), .v (.int .i64 a0.Pulse.Pitch), .v (.int .i64 a0.Pulse.Slack), .v (.int .i64 a0.Pulse.Gap), .v (.int .i64 a0.Pulse.Pause), .v (.int .i64 a0.Pulse.Sparks), .sl .no 1 (a0.Pulse.Times.map cI)])]) [2, 1, 0, 3] (.inl rfl) hS (by decide) rfl rfl ((W_pulses_train_list_c1 (p1 := g + 1) (w1 := g + 3) (p2 := g + 3 + 1 + 0) (p3 := g + 0) hndr27 hr27).le (.cons (.refl _) (.cons (.refl _) (.cons (.refl _) .nil)))) (.cons rfl (.cons rfl (.cons rfl (.cons rfl .nil)))) rfl (by omega) fun H hS => ?_
                refine o_not (e := r27.1) (by decide) rfl ?_
                refine run_nil ?_
                refine w_next [(1, .sl .no 1 (a1.map cI)), (2, .ptr (g + 0) 0), (4, .ptr (g + 1) 0), (6, .ptr (g + 3 + 1 + 0) 0), (7, .fn (.func 107) [] [.ptr (g + 1) 0, .ptr (g + 3 + 1 + 0) 0, .ptr (g + 0) 0]), (11, .sl .no 1 (a1.map cI)), (12, .v (.int .i64 (a1.length : Int))), (13, .v (.int .i64 v10)), (53, .v (.bool (!r27.1)))] (.cons (.refl _) (.cons (.refl _) (.cons (.refl _) (.cons (.refl _) (.cons (.refl _) (.cons (.refl _) (.cons (.refl _) (.cons (.refl _) (.cons (.refl _) .nil))))))))) ?_
                rcases Bool.eq_false_or_eq_true (!r27.1) with hb28 | hb28
                · replace hM := ifT hM hb28
                  refine w_condT (e := (!r27.1)) rfl hb28 ?_
                  refine r_seq ?_
                  refine r_region (n := 2) rfl ?_
                  refine o_store (v := .sl .nil 0 []) (ns := [.sl .nil 0 []]) (L' := [(g + 3 + 1 + 0, .cells [.v (.int .i64 v11), .v (.int .i64 v12)]), (g + 3, .row 3 r27.2.length), (g + 1, .cells [.sl .nil 0 []]), (g + 0, .cells [.v (.int .i64 a0.Pulse.Letters), .v (.int .i64 a0.Pulse.Numbers), .v (.int .i64 a0.Pulse.Pitch), .v (.int .i64 a0.Pulse.Slack), .v (.int .i64 a0.Pulse.Gap), .v (.int .i64 a0.Pulse.Pause), .v (.int .i64 a0.Pulse.Sparks), .sl .no 1 (a0.Pulse.Times.map cI)])]) 2 hS rfl rfl .no rfl rfl ty_var22 (Nat.le_of_ble_eq_true rfl) rfl fun H hS => ?_
                  refine o_assign (v := .v (.bool false)) (by decide) rfl ?_
                  refine run_nil ?_
                  refine w_ownC (cs' := [.sl (.id (g4 + 1 + 5 + 2 + 9 + 2 + 2 + 2 + 3 + 2)) 1 (([] : List Int).map cI)]) (L' := [(g + 3 + 1 + 0, .cells [.v (.int .i64 v11), .v (.int .i64 v12)]), (g + 3, .row 3 r27.2.length), (g + 1, .cells [.sl (.id (g4 + 1 + 5 + 2 + 9 + 2 + 2 + 2 + 3 + 2)) 1 (([] : List Int).map cI)]), (g + 0, .cells [.v (.int .i64 a0.Pulse.Letters), .v (.int .i64 a0.Pulse.Numbers), .v (.int .i64 a0.Pulse.Pitch), .v (.int .i64 a0.Pulse.Slack), .v (.int .i64 a0.Pulse.Gap), .v (.int .i64 a0.Pulse.Pause), .v (.int .i64 a0.Pulse.Sparks), .sl .no 1 (a0.Pulse.Times.map cI)])]) 2 0 1 3 hS (by omega) (by decide) rfl rfl rfl rfl fun H hS => ?_
                  replace hS := hS.keep (L' := [(g4 + 1 + 5 + 2 + 9 + 2 + 2 + 2 + 3 + 2, .row 3 0), (g + 1, .cells [.sl (.id (g4 + 1 + 5 + 2 + 9 + 2 + 2 + 2 + 3 + 2)) 1 (([] : List Int).map cI)])]) [true, false, false, true, false] rfl
                  refine w_next [(4, .ptr (g + 1) 0), (5, .v (.bool false))] (.cons (.refl _) (.cons (.refl _) .nil)) ?_
                  refine r_ret ?_
                  refine r_then_ret ?_
                  refine r_blk_ret ?_
                  refine r_blk_ret ?_
                  refine w_goto_ret ?_
                  refine w_round_ret ?_
                  refine r_blk_ret ?_
                  refine w_goto_ret ?_
                  refine w_end (x := .tup [.sl (.id (g4 + 1 + 5 + 2 + 9 + 2 + 2 + 2 + 3 + 2)) 1 (([] : List Int).map cI), .v (.bool false)]) (f := fun r => .tup [.sl .no 1 (r.1.map cI), .v (.bool r.2)]) (.inr rfl) ?_ (.tupL (.cons (.sl _ _ _) (.cons (.refl _) .nil))) (Option.some.inj hM) hS
                  exact (res_two (res_cell (x := .sl (.id (g4 + 1 + 5 + 2 + 9 + 2 + 2 + 2 + 3 + 2)) 1 (([] : List Int).map cI)) 1 hS rfl rfl (part_one ty_agg22 ty_sc22 rfl)) (res_tmp (x := .v (.bool false)) rfl))
                · replace hM := ifF hM hb28
                  refine w_condF (e := (!r27.1)) rfl hb28 ?_
                  refine r_skip ?_
                  refine w_next [(1, .sl .no 1 (a1.map cI)), (2, .ptr (g + 0) 0), (4, .ptr (g + 1) 0), (6, .ptr (g + 3 + 1 + 0) 0), (7, .fn (.func 107) [] [.ptr (g + 1) 0, .ptr (g + 3 + 1 + 0) 0, .ptr (g + 0) 0]), (11, .sl .no 1 (a1.map cI)), (12, .v (.int .i64 (a1.length : Int))), (13, .v (.int .i64 v10))] (.cons (.refl _) (.cons (.refl _) (.cons (.refl _) (.cons (.refl _) (.cons (.refl _) (.cons (.refl _) (.cons (.refl _) (.cons (.refl _) .nil)))))))) ?_
                  refine r_region (n := 2) rfl ?_
                  refine o_build (cs := [.v (.int .i64 1), .v (.int .i64 0)]) (by decide) ty_zero127 ty_pl127 rfl ?_
                  refine o_store (v := .agg [.v (.int .i64 1), .v (.int .i64 0)]) (ns := [.v (.int .i64 1), .v (.int .i64 0)]) (L' := [(g + 3 + 1 + 0, .cells [.v (.int .i64 1), .v (.int .i64 0)]), (g + 3, .row 3 r27.2.length), (g + 1, .cells [.sl (.id (g + 3)) 1 (r27.2.map cI)]), (g + 0, .cells [.v (.int .i64 a0.Pulse.Letters), .v (.int .i64 a0.Pulse.Numbers), .v (.int .i64 a0.Pulse.Pitch), .v (.int .i64 a0.Pulse.Slack), .v (.int .i64 a0.Pulse.Gap), .v (.int .i64 a0.Pulse.Pause), .v (.int .i64 a0.Pulse.Sparks), .sl .no 1 (a0.Pulse.Times.map cI)])]) 0 hS rfl rfl .no rfl rfl ty_var127 (Nat.le_of_ble_eq_true rfl) rfl fun H hS => ?_
                  refine run_nil ?_
                  refine r_blk_normal ?_
                  refine r_blk_normal ?_
                  exact w_goto (1, 0, r27.2) (.cons (.refl _) (.cons (.refl _) (.cons (.refl _) (.cons (.refl _) (.cons (.refl _) (.cons (.refl _) (.cons (.refl _) (.cons (.refl _) .nil)))))))) ⟨(hS.keep [true, true, true, true] rfl).up (by omega), hM⟩
              · replace hM := ifF hM hb26
                refine w_condF (e := (r21 == 3)) rfl hb26 ?_
                refine r_seq ?_
                refine r_region (n := 2) rfl ?_
                refine o_store (v := .sl .nil 0 []) (ns := [.sl .nil 0 []]) (L' := [(g + 3 + 1 + 0, .cells [.v (.int .i64 v11), .v (.int .i64 v12)]), (g + 3, .row 3 v13.length), (g + 1, .cells [.sl .nil 0 []]), (g + 0, .cells [.v (.int .i64 a0.Pulse.Letters), .v (.int .i64 a0.Pulse.Numbers), .v (.int .i64 a0.Pulse.Pitch), .v (.int .i64 a0.Pulse.Slack), .v (.int .i64 a0.Pulse.Gap), .v (.int .i64 a0.Pulse.Pause), .v (.int .i64 a0.Pulse.Sparks), .sl .no 1 (a0.Pulse.Times.map cI)])]) 2 hS rfl rfl .no rfl rfl ty_var22 (Nat.le_of_ble_eq_true rfl) rfl fun H hS => ?_
                refine o_assign (v := .v (.bool false)) (by decide) rfl ?_
                refine run_nil ?_
                refine w_ownC (cs' := [.sl (.id (g4 + 1 + 5 + 2 + 9 + 2 + 2 + 2 + 2)) 1 (([] : List Int).map cI)]) (L' := [(g + 3 + 1 + 0, .cells [.v (.int .i64 v11), .v (.int .i64 v12)]), (g + 3, .row 3 v13.length), (g + 1, .cells [.sl (.id (g4 + 1 + 5 + 2 + 9 + 2 + 2 + 2 + 2)) 1 (([] : List Int).map cI)]), (g + 0, .cells [.v (.int .i64 a0.Pulse.Letters), .v (.int .i64 a0.Pulse.Numbers), .v (.int .i64 a0.Pulse.Pitch), .v (.int .i64 a0.Pulse.Slack), .v (.int .i64 a0.Pulse.Gap), .v (.int .i64 a0.Pulse.Pause), .v (.int .i64 a0.Pulse.Sparks), .sl .no 1 (a0.Pulse.Times.map cI)])]) 2 0 1 3 hS (by omega) (by decide) rfl rfl rfl rfl fun H hS => ?_
                replace hS := hS.keep (L' := [(g4 + 1 + 5 + 2 + 9 + 2 + 2 + 2 + 2, .row 3 0), (g + 1, .cells [.sl (.id (g4 + 1 + 5 + 2 + 9 + 2 + 2 + 2 + 2)) 1 (([] : List Int).map cI)])]) [true, false, false, true, false] rfl
                refine w_next [(4, .ptr (g + 1) 0), (5, .v (.bool false))] (.cons (.refl _) (.cons (.refl _) .nil)) ?_
                refine r_ret ?_
                refine r_blk_ret ?_
                refine r_blk_ret ?_
                refine w_goto_ret ?_
                refine w_round_ret ?_
                refine r_blk_ret ?_
                refine w_goto_ret ?_
                refine w_end (x := .tup [.sl (.id (g4 + 1 + 5 + 2 + 9 + 2 + 2 + 2 + 2)) 1 (([] : List Int).map cI), .v (.bool false)]) (f := fun r => .tup [.sl .no 1 (r.1.map cI), .v (.bool r.2)]) (.inr rfl) ?_ (.tupL (.cons (.sl _ _ _) (.cons (.refl _) .nil))) (Option.some.inj hM) hS
                exact (res_two (res_cell (x := .sl (.id (g4 + 1 + 5 + 2 + 9 + 2 + 2 + 2 + 2)) 1 (([] : List Int).map cI)) 1 hS rfl rfl (part_one ty_agg22 ty_sc22 rfl)) (res_tmp (x := .v (.bool false)) rfl))
    · replace hM := ifF hM hb14
      refine w_condF (e := (decide (v10 < (a1.length : Int)))) rfl hb14 ?_
      refine r_exit ?_
      refine r_then_exit ?_
      refine w_round_exit ?_
      refine r_blk_exit ?_
      exact w_goto (v11, v12, v13) (.cons (.refl _) (.cons (.refl _) (.cons (.refl _) .nil))) ⟨(hS.keep [true, true, true, true] rfl).up (by omega), hM⟩
theorem W_pulses_train_readings_c1_c1 {S : Type} {Lo : S → BL} (hk : ∀ s s', KinL (Lo s) (Lo s')) {p1 p2 : Nat} (hnd : ∀ s, ([p1, p2] ++ ids (Lo s)).Nodup) (hin : ∀ s, InB In (Lo s)) {aF : Reading_ → S → Option (Bool × S)} {f0 : AV} (hF : ∀ s H, Has H (Lo s) → In H f0) (h0 : cellsOf f0 = some [f0]) (hf : ∀ {x0 : Reading_} {s : S} {r : Bool × S}, aF x0 s = some r → CSat Try.prog f0 [.agg [.v (.int .u64 x0.sparks), .sl .no 1 (x0.list.map cI)]] (Lo s) (.v (.bool r.1)) (Lo r.2)) {n : Nat} {a0 : Int} {a1 : Train_} {st : S} {r : Bool × S} (hM : pulses_train_readings_c1_c1 n aF a0 a1 st = some r) : HSat Try.prog 85 [.v (.int .u64 a0), .ptr p1 0, .ptr p2 0] ([(p1, .cells [.v (.int .i64 a1.Pulse.Letters), .v (.int .i64 a1.Pulse.Numbers), .v (.int .i64 a1.Pulse.Pitch), .v (.int .i64 a1.Pulse.Slack), .v (.int .i64 a1.Pulse.Gap), .v (.int .i64 a1.Pulse.Pause), .v (.int .i64 a1.Pulse.Sparks), .sl .no 1 (a1.Pulse.Times.map cI)]), (p2, .cells [f0])] ++ Lo st) (.v (.bool r.1)) ([(p1, .cells [.v (.int .i64 a1.Pulse.Letters), .v (.int .i64 a1.Pulse.Numbers), .v (.int .i64 a1.Pulse.Pitch), .v (.int .i64 a1.Pulse.Slack), .v (.int .i64 a1.Pulse.Gap), .v (.int .i64 a1.Pulse.Pause), .v (.int .i64 a1.Pulse.Sparks), .sl .no 1 (a1.Pulse.Times.map cI)]), (p2, .cells [f0])] ++ Lo r.2) := by
  have hnd0 : ∀ s, (ids (Lo s)).Nodup := fun s => (List.nodup_append.1 (hnd s)).2.1
  refine hsat_of_wp mixed Try.func85 rfl (by decide) Try.ntmps85 (by simp) (kl_tail (kl_cells (kl_cells kl_nil)) (hk _ _)) (hnd st) ?pure ?cells fun H0 g hf_ hp => ?_
  case pure => exact fun H _ => (show Go.AM.Pure _ from .v _).inH
  case cells => exact (inb_st (ic_cells (ci_cons (.inl (.inl (.v _))) (ci_cons (.inl (.inl (.v _))) (ci_cons (.inl (.inl (.v _))) (ci_cons (.inl (.inl (.v _))) (ci_cons (.inl (.inl (.v _))) (ci_cons (.inl (.inl (.v _))) (ci_cons (.inl (.inl (.v _))) (ci_cons (.inl (.inl (.sl _ _ (pures_map (fun x => (pl_cons (.v _) pl_nil)))))) ci_nil)))))))) (ic_cells (ci_cons (.inr fun H hH => hF _ H hH) ci_nil) ic_nil)) (hin _))
  rw [frame0_of]
  change wpA _ _ _ _ (Fr.of [(0, .v (.int .u64 a0)), (1, .ptr p1 0), (2, .ptr p2 0)]) H0 g
  have hS := St.startH (L := ([(p1, .cells [.v (.int .i64 a1.Pulse.Letters), .v (.int .i64 a1.Pulse.Numbers), .v (.int .i64 a1.Pulse.Pitch), .v (.int .i64 a1.Pulse.Slack), .v (.int .i64 a1.Pulse.Gap), .v (.int .i64 a1.Pulse.Pause), .v (.int .i64 a1.Pulse.Sparks), .sl .no 1 (a1.Pulse.Times.map cI)]), (p2, .cells [f0])] ++ Lo st)) hf_ (nd_ids (hnd st)) hp
  replace hS : St (fun i => i < g ∧ i ∉ ids ([(p1, .cells [.v (.int .i64 a1.Pulse.Letters), .v (.int .i64 a1.Pulse.Numbers), .v (.int .i64 a1.Pulse.Pitch), .v (.int .i64 a1.Pulse.Slack), .v (.int .i64 a1.Pulse.Gap), .v (.int .i64 a1.Pulse.Pause), .v (.int .i64 a1.Pulse.Sparks), .sl .no 1 (a1.Pulse.Times.map cI)]), (p2, .cells [f0])] ++ Lo st)) H0 ([(p1, .cells [.v (.int .i64 a1.Pulse.Letters), .v (.int .i64 a1.Pulse.Numbers), .v (.int .i64 a1.Pulse.Pitch), .v (.int .i64 a1.Pulse.Slack), .v (.int .i64 a1.Pulse.Gap), .v (.int .i64 a1.Pulse.Pause), .v (.int .i64 a1.Pulse.Sparks), .sl .no 1 (a1.Pulse.Times.map cI)]), (p2, .cells [f0])] ++ Lo st) H0 g := hS
  refine r_seq ?_
  refine r_region (n := 1) rfl ?_
  refine o_assign (v := .v (.bool false)) (by decide) rfl ?_
  refine run_nil ?_
  refine w_next [(0, .v (.int .u64 a0)), (1, .ptr p1 0), (2, .ptr p2 0)] (.cons (.refl _) (.cons (.refl _) (.cons (.refl _) .nil))) ?_
  refine r_seq ?_
  refine r_region (n := 1) rfl ?_
  refine o_assign (v := .sl .nil 0 []) (by decide) rfl ?_
  refine run_nil ?_
  refine w_own [(0, .v (.int .u64 a0)), (1, .ptr p1 0), (2, .ptr p2 0), (5, .sl (.id (g + 1 + 1)) 1 (([] : List Int).map cI))] 5 1 3 hS (by omega) (by decide) rfl (.cons (.refl _) (.cons (.refl _) (.cons (.refl _) (.cons (.refl _) .nil)))) fun H hS => ?_
  refine w_join (J := (List Int)) (fun j => [(0, .v (.int .u64 a0)), (1, .ptr p1 0), (2, .ptr p2 0), (5, .sl (.id (g + 1 + 1)) 1 (j.map cI))]) (fun j H' g' => St (fun i => i < g ∧ i ∉ ids ([(p1, .cells [.v (.int .i64 a1.Pulse.Letters), .v (.int .i64 a1.Pulse.Numbers), .v (.int .i64 a1.Pulse.Pitch), .v (.int .i64 a1.Pulse.Slack), .v (.int .i64 a1.Pulse.Gap), .v (.int .i64 a1.Pulse.Pause), .v (.int .i64 a1.Pulse.Sparks), .sl .no 1 (a1.Pulse.Times.map cI)]), (p2, .cells [f0])] ++ Lo st)) H0 ([(g + 1 + 1, .row 3 j.length), (p1, .cells [.v (.int .i64 a1.Pulse.Letters), .v (.int .i64 a1.Pulse.Numbers), .v (.int .i64 a1.Pulse.Pitch), .v (.int .i64 a1.Pulse.Slack), .v (.int .i64 a1.Pulse.Gap), .v (.int .i64 a1.Pulse.Pause), .v (.int .i64 a1.Pulse.Sparks), .sl .no 1 (a1.Pulse.Times.map cI)]), (p2, .cells [f0])] ++ Lo st) H' g' ∧ pulses_train_readings_c1_c1_j1 n a0 aF st a1 j = some r) ?_ ?_
  · rintro v1 H g1 ⟨hS, hM⟩
    change wpA _ _ _ _ (Fr.of [(0, .v (.int .u64 a0)), (1, .ptr p1 0), (2, .ptr p2 0), (5, .sl (.id (g + 1 + 1)) 1 (v1.map cI))]) _ _
    replace hS : St (fun i => i < g ∧ i ∉ ids ([(p1, .cells [.v (.int .i64 a1.Pulse.Letters), .v (.int .i64 a1.Pulse.Numbers), .v (.int .i64 a1.Pulse.Pitch), .v (.int .i64 a1.Pulse.Slack), .v (.int .i64 a1.Pulse.Gap), .v (.int .i64 a1.Pulse.Pause), .v (.int .i64 a1.Pulse.Sparks), .sl .no 1 (a1.Pulse.Times.map cI)]), (p2, .cells [f0])] ++ Lo st)) H0 ([(g + 1 + 1, .row 3 v1.length), (p1, .cells [.v (.int .i64 a1.Pulse.Letters), .v (.int .i64 a1.Pulse.Numbers), .v (.int .i64 a1.Pulse.Pitch), .v (.int .i64 a1.Pulse.Slack), .v (.int .i64 a1.Pulse.Gap), .v (.int .i64 a1.Pulse.Pause), .v (.int .i64 a1.Pulse.Sparks), .sl .no 1 (a1.Pulse.Times.map cI)]), (p2, .cells [f0])] ++ Lo st) H g1 := hS
    replace hM : pulses_train_readings_c1_c1_j1 n a0 aF st a1 v1 = some r := hM
    refine r_seq ?_
    refine r_region (n := 8) rfl ?_
    refine o_load (v := .agg [.v (.int .i64 a1.Pulse.Letters), .v (.int .i64 a1.Pulse.Numbers), .v (.int .i64 a1.Pulse.Pitch), .v (.int .i64 a1.Pulse.Slack), .v (.int .i64 a1.Pulse.Gap), .v (.int .i64 a1.Pulse.Pause), .v (.int .i64 a1.Pulse.Sparks), .sl .no 1 (a1.Pulse.Times.map cI)]) 1 hS (by decide) rfl rfl .no (part_agg ty_agg62 (Nat.le_of_ble_eq_true rfl) rfl) ?_
    refine o_move (v := .sl (.id (g + 1 + 1)) 1 (v1.map cI)) (by decide) rfl ?_
    obtain ⟨r2, hr2, hM⟩ := bindE hM
    refine o_call (bs := [.agg [.v (.int .i64 a1.Pulse.Letters), .v (.int .i64 a1.Pulse.Numbers), .v (.int .i64 a1.Pulse.Pitch), .v (.int .i64 a1.Pulse.Slack), .v (.int .i64 a1.Pulse.Gap), .v (.int .i64 a1.Pulse.Pause), .v (.int .i64 a1.Pulse.Sparks), .sl .no 1 (a1.Pulse.Times.map cI)], .sl (.id (g + 1 + 1)) 1 (v1.map cI)]) (by decide) rfl rfl ((W_pulses_train_list hr2).le (.cons (.refl _) (.cons (.sl _ _ _) .nil))) ?_
    refine o_move (v := .tup [.sl .no 1 (r2.1.map cI), .v (.bool r2.2)]) (by decide) rfl ?_
    refine o_extract (v := .sl .no 1 (r2.1.map cI)) (by decide) rfl rfl ?_
    refine o_extract (v := .v (.bool r2.2)) (by decide) rfl rfl ?_
    refine o_assign (v := .sl .no 1 (r2.1.map cI)) (by decide) rfl ?_
    refine o_assign (v := .v (.bool r2.2)) (by decide) rfl ?_
    refine run_nil ?_
    replace hS := hS.keep (L' := ([(p1, .cells [.v (.int .i64 a1.Pulse.Letters), .v (.int .i64 a1.Pulse.Numbers), .v (.int .i64 a1.Pulse.Pitch), .v (.int .i64 a1.Pulse.Slack), .v (.int .i64 a1.Pulse.Gap), .v (.int .i64 a1.Pulse.Pause), .v (.int .i64 a1.Pulse.Sparks), .sl .no 1 (a1.Pulse.Times.map cI)]), (p2, .cells [f0])] ++ Lo st)) [false, true, true] rfl
    refine w_next [(0, .v (.int .u64 a0)), (2, .ptr p2 0), (8, .sl .no 1 (r2.1.map cI)), (9, .v (.bool r2.2))] (.cons (.refl _) (.cons (.refl _) (.cons (.refl _) (.cons (.refl _) .nil)))) ?_
    refine w_join (J := Bool × S) (fun j => [(4, .v (.bool j.1))]) (fun j H' g' => St (fun i => i < g ∧ i ∉ ids ([(p1, .cells [.v (.int .i64 a1.Pulse.Letters), .v (.int .i64 a1.Pulse.Numbers), .v (.int .i64 a1.Pulse.Pitch), .v (.int .i64 a1.Pulse.Slack), .v (.int .i64 a1.Pulse.Gap), .v (.int .i64 a1.Pulse.Pause), .v (.int .i64 a1.Pulse.Sparks), .sl .no 1 (a1.Pulse.Times.map cI)]), (p2, .cells [f0])] ++ Lo st)) H0 ([(p1, .cells [.v (.int .i64 a1.Pulse.Letters), .v (.int .i64 a1.Pulse.Numbers), .v (.int .i64 a1.Pulse.Pitch), .v (.int .i64 a1.Pulse.Slack), .v (.int .i64 a1.Pulse.Gap), .v (.int .i64 a1.Pulse.Pause), .v (.int .i64 a1.Pulse.Sparks), .sl .no 1 (a1.Pulse.Times.map cI)]), (p2, .cells [f0])] ++ Lo j.2) H' g' ∧ pulses_train_readings_c1_c1_j2 j.1 j.2 = some r) ?_ ?_
    · rintro ⟨v3, v4⟩ H g2 ⟨hS, hM⟩
      change wpA _ _ _ _ (Fr.of [(4, .v (.bool v3))]) _ _
      replace hS : St (fun i => i < g ∧ i ∉ ids ([(p1, .cells [.v (.int .i64 a1.Pulse.Letters), .v (.int .i64 a1.Pulse.Numbers), .v (.int .i64 a1.Pulse.Pitch), .v (.int .i64 a1.Pulse.Slack), .v (.int .i64 a1.Pulse.Gap), .v (.int .i64 a1.Pulse.Pause), .v (.int .i64 a1.Pulse.Sparks), .sl .no 1 (a1.Pulse.Times.map cI)]), (p2, .cells [f0])] ++ Lo st)) H0 ([(p1, .cells [.v (.int .i64 a1.Pulse.Letters), .v (.int .i64 a1.Pulse.Numbers), .v (.int .i64 a1.Pulse.Pitch), .v (.int .i64 a1.Pulse.Slack), .v (.int .i64 a1.Pulse.Gap), .v (.int .i64 a1.Pulse.Pause), .v (.int .i64 a1.Pulse.Sparks), .sl .no 1 (a1.Pulse.Times.map cI)]), (p2, .cells [f0])] ++ Lo v4) H g2 := hS
      replace hM : pulses_train_readings_c1_c1_j2 v3 v4 = some r := hM
      refine r_ret ?_
      refine w_endS (x := .v (.bool v3)) (f := fun r => .v (.bool r.1)) (fd := fun r => ([(p1, .cells [.v (.int .i64 a1.Pulse.Letters), .v (.int .i64 a1.Pulse.Numbers), .v (.int .i64 a1.Pulse.Pitch), .v (.int .i64 a1.Pulse.Slack), .v (.int .i64 a1.Pulse.Gap), .v (.int .i64 a1.Pulse.Pause), .v (.int .i64 a1.Pulse.Sparks), .sl .no 1 (a1.Pulse.Times.map cI)]), (p2, .cells [f0])] ++ Lo r.2)) (.inr rfl) ?_ (.refl _) (Option.some.inj hM) hS 0 rfl
      exact (res_one (res_tmp (x := .v (.bool v3)) rfl))
    · refine r_region (n := 10) rfl ?_
      refine o_move (v := .v (.bool r2.2)) (by decide) rfl ?_
      refine o_not (e := r2.2) (by decide) rfl ?_
      refine o_move (v := .v (.bool (!r2.2))) (by decide) rfl ?_
      rcases Bool.eq_false_or_eq_true (!r2.2) with hb5 | hb5
      · replace hM := ifT hM hb5
        refine o_guardN (j := 2) (e := (!r2.2)) (want := false) (by decide) rfl hb5 ?_
        refine o_guardN (j := 2) (e := (!r2.2)) (want := false) (by decide) rfl hb5 ?_
        refine o_guardN (j := 2) (e := (!r2.2)) (want := false) (by decide) rfl hb5 ?_
        refine o_guardN (j := 2) (e := (!r2.2)) (want := false) (by decide) rfl hb5 ?_
        refine o_guardN (j := 2) (e := (!r2.2)) (want := false) (by decide) rfl hb5 ?_
        refine o_pickT (v := .v (.bool true)) (e := (!r2.2)) (by decide) rfl hb5 rfl ?_
        refine o_assign (v := .v (.bool true)) (by decide) rfl ?_
        refine run_nil ?_
        exact w_goto (true, st) (.cons (.refl _) .nil) ⟨(hS.keep [true, true] rfl).up (by omega), hM⟩
      · replace hM := ifF hM hb5
        refine o_guardY (j := 2) (e := (!r2.2)) (want := false) rfl hb5 ?_
        refine o_load (v := f0) 1 hS (by decide) rfl rfl .no (part_one ty_agg100 ty_sc100 rfl) ?_
        refine o_guardY (j := 2) (e := (!r2.2)) (want := false) rfl hb5 ?_
        refine o_move (v := .v (.int .u64 a0)) (by decide) rfl ?_
        refine o_guardY (j := 2) (e := (!r2.2)) (want := false) rfl hb5 ?_
        refine o_move (v := .sl .no 1 (r2.1.map cI)) (by decide) rfl ?_
        refine o_guardY (j := 2) (e := (!r2.2)) (want := false) rfl hb5 ?_
        refine o_build (cs := [.v (.int .u64 a0), .sl .no 1 (r2.1.map cI)]) (by decide) ty_zero86 ty_pl86 rfl ?_
        refine o_guardY (j := 2) (e := (!r2.2)) (want := false) rfl hb5 ?_
        obtain ⟨r6, hr6, hM⟩ := bindE hM
        replace hS : St (fun i => i < g ∧ i ∉ ids ([(p1, .cells [.v (.int .i64 a1.Pulse.Letters), .v (.int .i64 a1.Pulse.Numbers), .v (.int .i64 a1.Pulse.Pitch), .v (.int .i64 a1.Pulse.Slack), .v (.int .i64 a1.Pulse.Gap), .v (.int .i64 a1.Pulse.Pause), .v (.int .i64 a1.Pulse.Sparks), .sl .no 1 (a1.Pulse.Times.map cI)]), (p2, .cells [f0])] ++ Lo st)) H0 ([(p1, .cells [.v (.int .i64 a1.Pulse.Letters), .v (.int .i64 a1.Pulse.Numbers), .v (.int .i64 a1.Pulse.Pitch), .v (.int .i64 a1.Pulse.Slack), .v (.int .i64 a1.Pulse.Gap), .v (.int .i64 a1.Pulse.Pause), .v (.int .i64 a1.Pulse.Sparks), .sl .no 1 (a1.Pulse.Times.map cI)]), (p2, .cells [f0])] ++ Lo st) _ _ := hS
        refine o_state (bs := [.agg [.v (.int .u64 a0), .sl .no 1 (r2.1.map cI)]]) (.inl rfl) hS (by decide) rfl rfl ((hf hr6).le (.cons (.refl _) .nil)) (hk _ _).ids (by omega) fun H hS => ?_
        refine o_pickF (v := .v (.bool r6.1)) (e := (!r2.2)) (by decide) rfl hb5 rfl ?_
        refine o_assign (v := .v (.bool r6.1)) (by decide) rfl ?_
        refine run_nil ?_
        exact w_goto (r6.1, r6.2) (.cons (.refl _) .nil) ⟨(hS.keep [true, true] rfl).up (by omega), hM⟩
  · refine r_seq ?_
    refine r_region (n := 5) rfl ?_
    refine o_fieldP (by decide) ty_fo62_0 rfl ?_
    refine o_fieldP (by decide) ty_fo24_7 rfl ?_
    refine o_load (v := .sl .no 1 (a1.Pulse.Times.map cI)) 1 hS (by decide) rfl rfl .no (part_one ty_agg22 ty_sc22 rfl) ?_
    refine o_len (n := a1.Pulse.Times.length) (by decide) rfl (List.length_map _) ty_isl22 ?_
    refine o_move (v := .v (.int .i64 0)) (by decide) rfl ?_
    refine run_nil ?_
    refine w_next [(0, .v (.int .u64 a0)), (1, .ptr p1 0), (2, .ptr p2 0), (5, .sl (.id (g + 1 + 1)) 1 (([] : List Int).map cI)), (12, .sl .no 1 (a1.Pulse.Times.map cI)), (13, .v (.int .i64 (a1.Pulse.Times.length : Int))), (14, .v (.int .i64 0))] (.cons (.refl _) (.cons (.refl _) (.cons (.refl _) (.cons (.refl _) (.cons (.refl _) (.cons (.refl _) (.cons (.refl _) .nil))))))) ?_
    refine r_block ?_
    refine w_loop (V := (List Int) × Int) (fun v => [(0, .v (.int .u64 a0)), (1, .ptr p1 0), (2, .ptr p2 0), (5, .sl (.id (g + 1 + 1)) 1 (v.1.map cI)), (12, .sl .no 1 (a1.Pulse.Times.map cI)), (13, .v (.int .i64 (a1.Pulse.Times.length : Int))), (14, .v (.int .i64 v.2))]) (fun v m3 H' g' => St (fun i => i < g ∧ i ∉ ids ([(p1, .cells [.v (.int .i64 a1.Pulse.Letters), .v (.int .i64 a1.Pulse.Numbers), .v (.int .i64 a1.Pulse.Pitch), .v (.int .i64 a1.Pulse.Slack), .v (.int .i64 a1.Pulse.Gap), .v (.int .i64 a1.Pulse.Pause), .v (.int .i64 a1.Pulse.Sparks), .sl .no 1 (a1.Pulse.Times.map cI)]), (p2, .cells [f0])] ++ Lo st)) H0 ([(g + 1 + 1, .row 3 v.1.length), (p1, .cells [.v (.int .i64 a1.Pulse.Letters), .v (.int .i64 a1.Pulse.Numbers), .v (.int .i64 a1.Pulse.Pitch), .v (.int .i64 a1.Pulse.Slack), .v (.int .i64 a1.Pulse.Gap), .v (.int .i64 a1.Pulse.Pause), .v (.int .i64 a1.Pulse.Sparks), .sl .no 1 (a1.Pulse.Times.map cI)]), (p2, .cells [f0])] ++ Lo st) H' g' ∧ pulses_train_readings_c1_c1_l1 n a0 aF st a1 m3 v.1 v.2 = some r) (n := n) (([] : List Int), 0) (.cons (.refl _) (.cons (.refl _) (.cons (.refl _) (.cons (.refl _) (.cons (.refl _) (.cons (.refl _) (.cons (.refl _) .nil))))))) ⟨(hS.keep [true, true, true] rfl).up (by omega), hM⟩ ?_
    rintro ⟨v7, v8⟩ m3 H g3 ⟨hS, hM⟩
    obtain _ | m3 := m3
    · exact nomatch (show none = some _ from hM)
    change wpA _ _ _ _ (Fr.of [(0, .v (.int .u64 a0)), (1, .ptr p1 0), (2, .ptr p2 0), (5, .sl (.id (g + 1 + 1)) 1 (v7.map cI)), (12, .sl .no 1 (a1.Pulse.Times.map cI)), (13, .v (.int .i64 (a1.Pulse.Times.length : Int))), (14, .v (.int .i64 v8))]) _ _
    replace hS : St (fun i => i < g ∧ i ∉ ids ([(p1, .cells [.v (.int .i64 a1.Pulse.Letters), .v (.int .i64 a1.Pulse.Numbers), .v (.int .i64 a1.Pulse.Pitch), .v (.int .i64 a1.Pulse.Slack), .v (.int .i64 a1.Pulse.Gap), .v (.int .i64 a1.Pulse.Pause), .v (.int .i64 a1.Pulse.Sparks), .sl .no 1 (a1.Pulse.Times.map cI)]), (p2, .cells [f0])] ++ Lo st)) H0 ([(g + 1 + 1, .row 3 v7.length), (p1, .cells [.v (.int .i64 a1.Pulse.Letters), .v (.int .i64 a1.Pulse.Numbers), .v (.int .i64 a1.Pulse.Pitch), .v (.int .i64 a1.Pulse.Slack), .v (.int .i64 a1.Pulse.Gap), .v (.int .i64 a1.Pulse.Pause), .v (.int .i64 a1.Pulse.Sparks), .sl .no 1 (a1.Pulse.Times.map cI)]), (p2, .cells [f0])] ++ Lo st) H g3 := hS
    replace hM : pulses_train_readings_c1_c1_l1_b n a0 aF st a1 (pulses_train_readings_c1_c1_l1 n a0 aF st a1 m3) v7 v8 = some r := hM
    refine r_seq ?_
    refine r_region (n := 1) rfl ?_
    refine o_int (v := .v (.bool (decide (v8 < (a1.Pulse.Times.length : Int))))) (by decide) rfl rfl rfl ?_
    refine run_nil ?_
    refine w_next [(0, .v (.int .u64 a0)), (1, .ptr p1 0), (2, .ptr p2 0), (5, .sl (.id (g + 1 + 1)) 1 (v7.map cI)), (12, .sl .no 1 (a1.Pulse.Times.map cI)), (13, .v (.int .i64 (a1.Pulse.Times.length : Int))), (14, .v (.int .i64 v8)), (15, .v (.bool (decide (v8 < (a1.Pulse.Times.length : Int)))))] (.cons (.refl _) (.cons (.refl _) (.cons (.refl _) (.cons (.refl _) (.cons (.refl _) (.cons (.refl _) (.cons (.refl _) (.cons (.refl _) .nil)))))))) ?_
    refine r_seq ?_
    rcases Bool.eq_false_or_eq_true (decide (v8 < (a1.Pulse.Times.length : Int))) with hb9 | hb9
    · replace hM := ifT hM hb9
      refine w_condT (e := (decide (v8 < (a1.Pulse.Times.length : Int)))) rfl hb9 ?_
      refine r_skip ?_
      refine w_next [(0, .v (.int .u64 a0)), (1, .ptr p1 0), (2, .ptr p2 0), (5, .sl (.id (g + 1 + 1)) 1 (v7.map cI)), (12, .sl .no 1 (a1.Pulse.Times.map cI)), (13, .v (.int .i64 (a1.Pulse.Times.length : Int))), (14, .v (.int .i64 v8))] (.cons (.refl _) (.cons (.refl _) (.cons (.refl _) (.cons (.refl _) (.cons (.refl _) (.cons (.refl _) (.cons (.refl _) .nil))))))) ?_
      refine w_join (J := (List Int)) (fun j => [(0, .v (.int .u64 a0)), (1, .ptr p1 0), (2, .ptr p2 0), (5, .sl (.id (g + 1 + 1)) 1 (j.map cI)), (12, .sl .no 1 (a1.Pulse.Times.map cI)), (13, .v (.int .i64 (a1.Pulse.Times.length : Int))), (14, .v (.int .i64 v8))]) (fun j H' g' => St (fun i => i < g ∧ i ∉ ids ([(p1, .cells [.v (.int .i64 a1.Pulse.Letters), .v (.int .i64 a1.Pulse.Numbers), .v (.int .i64 a1.Pulse.Pitch), .v (.int .i64 a1.Pulse.Slack), .v (.int .i64 a1.Pulse.Gap), .v (.int .i64 a1.Pulse.Pause), .v (.int .i64 a1.Pulse.Sparks), .sl .no 1 (a1.Pulse.Times.map cI)]), (p2, .cells [f0])] ++ Lo st)) H0 ([(g + 1 + 1, .row 3 j.length), (p1, .cells [.v (.int .i64 a1.Pulse.Letters), .v (.int .i64 a1.Pulse.Numbers), .v (.int .i64 a1.Pulse.Pitch), .v (.int .i64 a1.Pulse.Slack), .v (.int .i64 a1.Pulse.Gap), .v (.int .i64 a1.Pulse.Pause), .v (.int .i64 a1.Pulse.Sparks), .sl .no 1 (a1.Pulse.Times.map cI)]), (p2, .cells [f0])] ++ Lo st) H' g' ∧ pulses_train_readings_c1_c1_j3 (pulses_train_readings_c1_c1_l1 n a0 aF st a1 m3) v8 j = some r) ?_ ?_
      · rintro v10 H g4 ⟨hS, hM⟩
        change wpA _ _ _ _ (Fr.of [(0, .v (.int .u64 a0)), (1, .ptr p1 0), (2, .ptr p2 0), (5, .sl (.id (g + 1 + 1)) 1 (v10.map cI)), (12, .sl .no 1 (a1.Pulse.Times.map cI)), (13, .v (.int .i64 (a1.Pulse.Times.length : Int))), (14, .v (.int .i64 v8))]) _ _
        replace hS : St (fun i => i < g ∧ i ∉ ids ([(p1, .cells [.v (.int .i64 a1.Pulse.Letters), .v (.int .i64 a1.Pulse.Numbers), .v (.int .i64 a1.Pulse.Pitch), .v (.int .i64 a1.Pulse.Slack), .v (.int .i64 a1.Pulse.Gap), .v (.int .i64 a1.Pulse.Pause), .v (.int .i64 a1.Pulse.Sparks), .sl .no 1 (a1.Pulse.Times.map cI)]), (p2, .cells [f0])] ++ Lo st)) H0 ([(g + 1 + 1, .row 3 v10.length), (p1, .cells [.v (.int .i64 a1.Pulse.Letters), .v (.int .i64 a1.Pulse.Numbers), .v (.int .i64 a1.Pulse.Pitch), .v (.int .i64 a1.Pulse.Slack), .v (.int .i64 a1.Pulse.Gap), .v (.int .i64 a1.Pulse.Pause), .v (.int .i64 a1.Pulse.Sparks), .sl .no 1 (a1.Pulse.Times.map cI)]), (p2, .cells [f0])] ++ Lo st) H g4 := hS
        replace hM : pulses_train_readings_c1_c1_j3 (pulses_train_readings_c1_c1_l1 n a0 aF st a1 m3) v8 v10 = some r := hM
        refine r_region (n := 2) rfl ?_
        refine o_int (v := .v (.int .i64 (w64 (v8 + 1)))) (by decide) rfl rfl rfl ?_
        refine o_move (v := .v (.int .i64 (w64 (v8 + 1)))) (by decide) rfl ?_
        refine run_nil ?_
        exact w_round (v10, w64 (v8 + 1)) (Nat.lt_succ_self _) (.cons (.refl _) (.cons (.refl _) (.cons (.refl _) (.cons (.refl _) (.cons (.refl _) (.cons (.refl _) (.cons (.refl _) .nil))))))) ⟨(hS.keep [true, true, true] rfl).up (by omega), hM⟩
      · refine r_block ?_
        refine r_seq ?_
        refine r_region (n := 5) rfl ?_
        refine o_move (v := .v (.int .i64 v8)) (by decide) rfl ?_
        obtain ⟨x11, hx11, hM⟩ := bindE hM
        refine o_index (xs := a1.Pulse.Times) (f := cI) (z := v8) (u := x11) (by decide) rfl rfl ty_es22 hx11 ?_
        refine o_loadE (v := .v (.int .i64 x11)) (by decide) rfl (part_one ty_agg3 ty_sc3 rfl) ?_
        refine o_assign (v := .v (.int .i64 v8)) (by decide) rfl ?_
        refine o_assign (v := .v (.int .i64 x11)) (by decide) rfl ?_
        refine run_nil ?_
        refine w_next [(0, .v (.int .u64 a0)), (1, .ptr p1 0), (2, .ptr p2 0), (5, .sl (.id (g + 1 + 1)) 1 (v7.map cI)), (6, .v (.int .i64 v8)), (7, .v (.int .i64 x11)), (12, .sl .no 1 (a1.Pulse.Times.map cI)), (13, .v (.int .i64 (a1.Pulse.Times.length : Int))), (14, .v (.int .i64 v8))] (.cons (.refl _) (.cons (.refl _) (.cons (.refl _) (.cons (.refl _) (.cons (.refl _) (.cons (.refl _) (.cons (.refl _) (.cons (.refl _) (.cons (.refl _) .nil))))))))) ?_
        refine r_seq ?_
        refine r_region (n := 4) rfl ?_
        refine o_move (v := .v (.int .u64 a0)) (by decide) rfl ?_
        refine o_move (v := .v (.int .i64 v8)) (by decide) rfl ?_
        obtain ⟨r12, hr12, hM⟩ := bindE hM
        refine o_call (bs := [.v (.int .u64 a0), .v (.int .i64 v8)]) (by decide) rfl rfl ((W_pulses_set_has hr12).le (.cons (.refl _) (.cons (.refl _) .nil))) ?_
        refine o_not (e := r12) (by decide) rfl ?_
        refine run_nil ?_
        refine w_next [(0, .v (.int .u64 a0)), (1, .ptr p1 0), (2, .ptr p2 0), (5, .sl (.id (g + 1 + 1)) 1 (v7.map cI)), (7, .v (.int .i64 x11)), (12, .sl .no 1 (a1.Pulse.Times.map cI)), (13, .v (.int .i64 (a1.Pulse.Times.length : Int))), (14, .v (.int .i64 v8)), (22, .v (.bool (!r12)))] (.cons (.refl _) (.cons (.refl _) (.cons (.refl _) (.cons (.refl _) (.cons (.refl _) (.cons (.refl _) (.cons (.refl _) (.cons (.refl _) (.cons (.refl _) .nil))))))))) ?_
        rcases Bool.eq_false_or_eq_true (!r12) with hb13 | hb13
        · replace hM := ifT hM hb13
          refine w_condT (e := (!r12)) rfl hb13 ?_
          refine r_region (n := 5) rfl ?_
          refine o_move (v := .sl (.id (g + 1 + 1)) 1 (v7.map cI)) (by decide) rfl ?_
          refine o_move (v := .v (.int .i64 x11)) (by decide) rfl ?_
          refine o_buildSlice (es := [[.v (.int .i64 x11)]]) hS (by decide) ty_es22 ty_el22 rfl ty_ef22 rfl (by decide) (by omega) fun H hS => ?_
          obtain ⟨l14, hl14, hM⟩ := bindE hM
          refine o_append (xs := v7) (ys := ([x11] : List Int)) (zs := l14) (f := cI) (L' := ([(g3 + 1 + 5 + 4 + 2, .row 3 1), (g + 1 + 1, .row 3 l14.length), (p1, .cells [.v (.int .i64 a1.Pulse.Letters), .v (.int .i64 a1.Pulse.Numbers), .v (.int .i64 a1.Pulse.Pitch), .v (.int .i64 a1.Pulse.Slack), .v (.int .i64 a1.Pulse.Gap), .v (.int .i64 a1.Pulse.Pause), .v (.int .i64 a1.Pulse.Sparks), .sl .no 1 (a1.Pulse.Times.map cI)]), (p2, .cells [f0])] ++ Lo st)) 1 hS (by decide) rfl rfl rfl rfl .no ty_es22 ty_el22 ty_ef22 hl14 rfl fun H hS => ?_
          refine o_assign (v := .sl (.id (g + 1 + 1)) 1 (l14.map cI)) (by decide) rfl ?_
          refine run_nil ?_
          refine r_blk_normal ?_
          exact w_goto l14 (.cons (.refl _) (.cons (.refl _) (.cons (.refl _) (.cons (.refl _) (.cons (.refl _) (.cons (.refl _) (.cons (.refl _) .nil))))))) ⟨(hS.keep [false, true, true, true] rfl).up (by omega), hM⟩
        · replace hM := ifF hM hb13
          refine w_condF (e := (!r12)) rfl hb13 ?_
          refine r_skip ?_
          refine r_blk_normal ?_
          exact w_goto v7 (.cons (.refl _) (.cons (.refl _) (.cons (.refl _) (.cons (.refl _) (.cons (.refl _) (.cons (.refl _) (.cons (.refl _) .nil))))))) ⟨(hS.keep [true, true, true] rfl).up (by omega), hM⟩
    · replace hM := ifF hM hb9
      refine w_condF (e := (decide (v8 < (a1.Pulse.Times.length : Int)))) rfl hb9 ?_
      refine r_exit ?_
      refine r_then_exit ?_
      refine w_round_exit ?_
      refine r_blk_exit ?_
      exact w_goto v7 (.cons (.refl _) (.cons (.refl _) (.cons (.refl _) (.cons (.refl _) .nil)))) ⟨(hS.keep [true, true, true] rfl).up (by omega), hM⟩
theorem W_pulses_train_readings_c1 {S : Type} {Lo : S → BL} (hk : ∀ s s', KinL (Lo s) (Lo s')) {p1 p2 : Nat} (hnd : ∀ s, ([p1, p2] ++ ids (Lo s)).Nodup) (hin : ∀ s, InB In (Lo s)) {aF : Reading_ → S → Option (Bool × S)} {f0 : AV} (hF : ∀ s H, Has H (Lo s) → In H f0) (h0 : cellsOf f0 = some [f0]) (hf : ∀ {x0 : Reading_} {s : S} {r : Bool × S}, aF x0 s = some r → CSat Try.prog f0 [.agg [.v (.int .u64 x0.sparks), .sl .no 1 (x0.list.map cI)]] (Lo s) (.v (.bool r.1)) (Lo r.2)) {n : Nat} {a1 : Train_} {a2 : Int} {st : S} {r : Unit × S} (hM : pulses_train_readings_c1 n aF a1 a2 st = some r) : HSat Try.prog 83 [f0, .ptr p1 0, .ptr p2 0] ([(p1, .cells [.v (.int .i64 a1.Pulse.Letters), .v (.int .i64 a1.Pulse.Numbers), .v (.int .i64 a1.Pulse.Pitch), .v (.int .i64 a1.Pulse.Slack), .v (.int .i64 a1.Pulse.Gap), .v (.int .i64 a1.Pulse.Pause), .v (.int .i64 a1.Pulse.Sparks), .sl .no 1 (a1.Pulse.Times.map cI)]), (p2, .cells [.v (.int .i64 a2)])] ++ Lo st) (.tup []) ([(p1, .cells [.v (.int .i64 a1.Pulse.Letters), .v (.int .i64 a1.Pulse.Numbers), .v (.int .i64 a1.Pulse.Pitch), .v (.int .i64 a1.Pulse.Slack), .v (.int .i64 a1.Pulse.Gap), .v (.int .i64 a1.Pulse.Pause), .v (.int .i64 a1.Pulse.Sparks), .sl .no 1 (a1.Pulse.Times.map cI)]), (p2, .cells [.v (.int .i64 a2)])] ++ Lo r.2) := by
  have hnd0 : ∀ s, (ids (Lo s)).Nodup := fun s => (List.nodup_append.1 (hnd s)).2.1
  refine hsat_of_wp mixed Try.func83 rfl (by decide) Try.ntmps83 (by simp) (kl_tail (kl_cells (kl_cells kl_nil)) (hk _ _)) (hnd st) ?pure ?cells fun H0 g hf_ hp => ?_
  case pure => exact fun H _ => (show Go.AM.Pure _ from .tup _ pl_nil).inH
  case cells => exact (inb_st (ic_cells (ci_cons (.inl (.inl (.v _))) (ci_cons (.inl (.inl (.v _))) (ci_cons (.inl (.inl (.v _))) (ci_cons (.inl (.inl (.v _))) (ci_cons (.inl (.inl (.v _))) (ci_cons (.inl (.inl (.v _))) (ci_cons (.inl (.inl (.v _))) (ci_cons (.inl (.inl (.sl _ _ (pures_map (fun x => (pl_cons (.v _) pl_nil)))))) ci_nil)))))))) (ic_cells (ci_cons (.inl (.inl (.v _))) ci_nil) ic_nil)) (hin _))
  rw [frame0_of]
  change wpA _ _ _ _ (Fr.of [(0, f0), (1, .ptr p1 0), (2, .ptr p2 0)]) H0 g
  have hS := St.startH (L := ([(p1, .cells [.v (.int .i64 a1.Pulse.Letters), .v (.int .i64 a1.Pulse.Numbers), .v (.int .i64 a1.Pulse.Pitch), .v (.int .i64 a1.Pulse.Slack), .v (.int .i64 a1.Pulse.Gap), .v (.int .i64 a1.Pulse.Pause), .v (.int .i64 a1.Pulse.Sparks), .sl .no 1 (a1.Pulse.Times.map cI)]), (p2, .cells [.v (.int .i64 a2)])] ++ Lo st)) hf_ (nd_ids (hnd st)) hp
  replace hS : St (fun i => i < g ∧ i ∉ ids ([(p1, .cells [.v (.int .i64 a1.Pulse.Letters), .v (.int .i64 a1.Pulse.Numbers), .v (.int .i64 a1.Pulse.Pitch), .v (.int .i64 a1.Pulse.Slack), .v (.int .i64 a1.Pulse.Gap), .v (.int .i64 a1.Pulse.Pause), .v (.int .i64 a1.Pulse.Sparks), .sl .no 1 (a1.Pulse.Times.map cI)]), (p2, .cells [.v (.int .i64 a2)])] ++ Lo st)) H0 ([(p1, .cells [.v (.int .i64 a1.Pulse.Letters), .v (.int .i64 a1.Pulse.Numbers), .v (.int .i64 a1.Pulse.Pitch), .v (.int .i64 a1.Pulse.Slack), .v (.int .i64 a1.Pulse.Gap), .v (.int .i64 a1.Pulse.Pause), .v (.int .i64 a1.Pulse.Sparks), .sl .no 1 (a1.Pulse.Times.map cI)]), (p2, .cells [.v (.int .i64 a2)])] ++ Lo st) H0 g := hS
  refine r_seq ?_
  refine r_region (n := 1) rfl ?_
  refine o_box (v := f0) (cs := [f0]) hS (by decide) rfl h0 (by omega) fun H hS => ?_
  refine run_nil ?_
  refine w_next [(1, .ptr p1 0), (2, .ptr p2 0), (3, .ptr (g + 0) 0)] (.cons (.refl _) (.cons (.refl _) (.cons (.refl _) .nil))) ?_
  refine r_region (n := 4) rfl ?_
  refine o_load (v := .agg [.v (.int .i64 a1.Pulse.Letters), .v (.int .i64 a1.Pulse.Numbers), .v (.int .i64 a1.Pulse.Pitch), .v (.int .i64 a1.Pulse.Slack), .v (.int .i64 a1.Pulse.Gap), .v (.int .i64 a1.Pulse.Pause), .v (.int .i64 a1.Pulse.Sparks), .sl .no 1 (a1.Pulse.Times.map cI)]) 1 hS (by decide) rfl rfl .no (part_agg ty_agg62 (Nat.le_of_ble_eq_true rfl) rfl) ?_
  refine o_load (v := .v (.int .i64 a2)) 2 hS (by decide) rfl rfl .no (part_one ty_agg3 ty_sc3 rfl) ?_
  refine o_makeFunc (first := []) (cap := [.ptr p1 0, .ptr (g + 0) 0]) (by decide) rfl rfl ?_
  obtain ⟨r1, hr1, hM⟩ := bindE hM
  replace hS : St (fun i => i < g ∧ i ∉ ids ([(p1, .cells [.v (.int .i64 a1.Pulse.Letters), .v (.int .i64 a1.Pulse.Numbers), .v (.int .i64 a1.Pulse.Pitch), .v (.int .i64 a1.Pulse.Slack), .v (.int .i64 a1.Pulse.Gap), .v (.int .i64 a1.Pulse.Pause), .v (.int .i64 a1.Pulse.Sparks), .sl .no 1 (a1.Pulse.Times.map cI)]), (p2, .cells [.v (.int .i64 a2)])] ++ Lo st)) H0 ([(g + 0, .cells [f0]), (p1, .cells [.v (.int .i64 a1.Pulse.Letters), .v (.int .i64 a1.Pulse.Numbers), .v (.int .i64 a1.Pulse.Pitch), .v (.int .i64 a1.Pulse.Slack), .v (.int .i64 a1.Pulse.Gap), .v (.int .i64 a1.Pulse.Pause), .v (.int .i64 a1.Pulse.Sparks), .sl .no 1 (a1.Pulse.Times.map cI)]), (p2, .cells [.v (.int .i64 a2)])] ++ Lo st) _ _ := hS
  have hndr1 := hS.nd_atS (ns := [1, 0]) (A := [(p1, .cells [.v (.int .i64 a1.Pulse.Letters), .v (.int .i64 a1.Pulse.Numbers), .v (.int .i64 a1.Pulse.Pitch), .v (.int .i64 a1.Pulse.Slack), .v (.int .i64 a1.Pulse.Gap), .v (.int .i64 a1.Pulse.Pause), .v (.int .i64 a1.Pulse.Sparks), .sl .no 1 (a1.Pulse.Times.map cI)]), (g + 0, .cells [f0])]) (A' := [(p1, .cells [.v (.int .i64 a1.Pulse.Letters), .v (.int .i64 a1.Pulse.Numbers), .v (.int .i64 a1.Pulse.Pitch), .v (.int .i64 a1.Pulse.Slack), .v (.int .i64 a1.Pulse.Gap), .v (.int .i64 a1.Pulse.Pause), .v (.int .i64 a1.Pulse.Sparks), .sl .no 1 (a1.Pulse.Times.map cI)]), (g + 0, .cells [f0])]) (.cons rfl (.cons rfl .nil)) (by decide)
  have hncr1 := hS.nd_atS (ns := [1, 0]) (A := [(p1, .cells [.v (.int .i64 a1.Pulse.Letters), .v (.int .i64 a1.Pulse.Numbers), .v (.int .i64 a1.Pulse.Pitch), .v (.int .i64 a1.Pulse.Slack), .v (.int .i64 a1.Pulse.Gap), .v (.int .i64 a1.Pulse.Pause), .v (.int .i64 a1.Pulse.Sparks), .sl .no 1 (a1.Pulse.Times.map cI)]), (g + 0, .cells [f0])]) (A' := [(p1, .cells [.v (.int .i64 a1.Pulse.Letters), .v (.int .i64 a1.Pulse.Numbers), .v (.int .i64 a1.Pulse.Pitch), .v (.int .i64 a1.Pulse.Slack), .v (.int .i64 a1.Pulse.Gap), .v (.int .i64 a1.Pulse.Pause), .v (.int .i64 a1.Pulse.Sparks), .sl .no 1 (a1.Pulse.Times.map cI)]), (g + 0, .cells [f0])]) (.cons rfl (.cons rfl .nil)) (by decide)
  refine o_hsatS (bs := [.agg [.v (.int .i64 a1.Pulse.Letters), .v (.int .i64 a1.Pulse.Numbers), .v (.int .i64 a1.Pulse.Pitch), .v (.int .i64 a1.Pulse.Slack), .v (.int .i64 a1.Pulse.Gap), .v (.int .i64 a1.Pulse.Pause), .v (.int .i64 a1.Pulse.Sparks), .sl .no 1 (a1.Pulse.Times.map cI)], .v (.int .u64 0), .v (.int .i64 0), .v (.int .i64 a2), .fn (.func 85) [] [.ptr p1 0, .ptr (g + 0) 0]]) (A := [(p1, .cells [.v (.int .i64 a1.Pulse.Letters), .v (.int .i64 a1.Pulse.Numbers), .v (.int .i64 a1.Pulse.Pitch), .v (.int .i64 a1.Pulse.Slack), .v (.int .i64 a1.Pulse.Gap), .v (.int .i64 a1.Pulse.Pause), .v (.int .i64 a1.Pulse.Sparks), .sl .no 1 (a1.Pulse.Times.map cI)]), (g + 0, .cells [f0])]) (A' := [(p1, .cells [.v (.int .i64 a1.Pulse.Letters), .v (.int .i64 a1.Pulse.Numbers), .v (.int .i64 a1.Pulse.Pitch), .v (.int .i64 a1.Pulse.Slack), .v (.int .i64 a1.Pulse.Gap), .v (.int .i64 a1.Pulse.Pause), .v (.int .i64 a1.Pulse.Sparks), .sl .no 1 (a1.Pulse.Times.map cI)]), (g + 0, .cells [f0])]) (M := Lo st) (M' := Lo r1.2) (L' := [(g + 0, .cells [f0]), (p1, .cells [.v (.int .i64 a1.Pulse.Letters), .v (.int .i64 a1.Pulse.Numbers), .v (.int .i64 a1.Pulse.Pitch), .v (.int .i64 a1.Pulse.Slack), .v (.int .i64 a1.Pulse.Gap), .v (.int .i64 a1.Pulse.Pause), .v (.int .i64 a1.Pulse.Sparks), .sl .no 1 (a1.Pulse.Times.map cI)]), (p2, .cells [.v (.int .i64 a2)])]) [1, 0] (.inl rfl) hS (by decide) rfl rfl ((W_pulses_train_sets (Lo := (fun s => ([(p1, .cells [.v (.int .i64 a1.Pulse.Letters), .v (.int .i64 a1.Pulse.Numbers), .v (.int .i64 a1.Pulse.Pitch), .v (.int .i64 a1.Pulse.Slack), .v (.int .i64 a1.Pulse.Gap), .v (.int .i64 a1.Pulse.Pause), .v (.int .i64 a1.Pulse.Sparks), .sl .no 1 (a1.Pulse.Times.map cI)]), (g + 0, .cells [f0])] ++ Lo s)))  (fun _ _ => kl_tail (kl_cells (kl_cells kl_nil)) (hk _ _)) (fun s => nd_tail (T' := Lo s) (hk _ _) hndr1) (fun s => (inb_st (ic_cells (ci_cons (.inl (.inl (.v _))) (ci_cons (.inl (.inl (.v _))) (ci_cons (.inl (.inl (.v _))) (ci_cons (.inl (.inl (.v _))) (ci_cons (.inl (.inl (.v _))) (ci_cons (.inl (.inl (.v _))) (ci_cons (.inl (.inl (.v _))) (ci_cons (.inl (.inl (.sl _ _ (pures_map (fun x => (pl_cons (.v _) pl_nil)))))) ci_nil)))))))) (ic_cells (ci_cons (.inr fun H hH => hF _ H hH) ci_nil) ic_nil)) (hin _))) (aF := (fun (x0 : Int) s => pulses_train_readings_c1_c1 n aF x0 a1 s)) (fun s H hH => .fn _ _ _ ai_nil (ai_cons (in_ptr hH 0 rfl) (ai_cons (in_ptr hH 1 rfl) ai_nil))) rfl (fun h => csat_cap (W_pulses_train_readings_c1_c1 (Lo := Lo) (p1 := p1)  (p2 := g + 0)  hk (fun _ => nd_tail (hk _ _) hncr1) hin hF h0 hf h)) hr1).le (.cons (.refl _) (.cons (.refl _) (.cons (.refl _) (.cons (.refl _) (.cons (.refl _) .nil)))))) (.cons rfl (.cons rfl .nil)) (hk _ _).ids rfl (by omega) fun H hS => ?_
  refine run_nil ?_
  refine w_endS (x := .tup []) (f := fun r => .tup []) (fd := fun r => ([(p1, .cells [.v (.int .i64 a1.Pulse.Letters), .v (.int .i64 a1.Pulse.Numbers), .v (.int .i64 a1.Pulse.Pitch), .v (.int .i64 a1.Pulse.Slack), .v (.int .i64 a1.Pulse.Gap), .v (.int .i64 a1.Pulse.Pause), .v (.int .i64 a1.Pulse.Sparks), .sl .no 1 (a1.Pulse.Times.map cI)]), (p2, .cells [.v (.int .i64 a2)])] ++ Lo r.2)) (.inl rfl) ?_ (.refl _) (Option.some.inj hM) hS 1 rfl
  exact rfl
theorem W_pulses_train_readings {a0 : Train_} {a1 : Int} : NewSat Try.prog 59 [.agg [.v (.int .i64 a0.Pulse.Letters), .v (.int .i64 a0.Pulse.Numbers), .v (.int .i64 a0.Pulse.Pitch), .v (.int .i64 a0.Pulse.Slack), .v (.int .i64 a0.Pulse.Gap), .v (.int .i64 a0.Pulse.Pause), .v (.int .i64 a0.Pulse.Sparks), .sl .no 1 (a0.Pulse.Times.map cI)], .v (.int .i64 a1)] (fun g => .fn (.func 83) [] [.ptr g 0, .ptr (g + 1) 0]) [.v (.int .i64 a1)] [.v (.int .i64 a0.Pulse.Letters), .v (.int .i64 a0.Pulse.Numbers), .v (.int .i64 a0.Pulse.Pitch), .v (.int .i64 a0.Pulse.Slack), .v (.int .i64 a0.Pulse.Gap), .v (.int .i64 a0.Pulse.Pause), .v (.int .i64 a0.Pulse.Sparks), .sl .no 1 (a0.Pulse.Times.map cI)] := by
  refine new_of_wp mixed Try.func59 rfl (by decide) Try.ntmps59 (by simp) (pl_cons (.v _) pl_nil) (pl_cons (.v _) (pl_cons (.v _) (pl_cons (.v _) (pl_cons (.v _) (pl_cons (.v _) (pl_cons (.v _) (pl_cons (.v _) (pl_cons (.sl _ _ (pures_map (fun x => (pl_cons (.v _) pl_nil)))) pl_nil)))))))) (fun g H hH => .fn _ _ _ ai_nil (ai_cons (in_ptr hH 1 rfl) (ai_cons (in_ptr hH 0 rfl) ai_nil))) fun H0 g hf => ?_
  rw [frame0_of]
  change wpA _ _ _ _ (Fr.of [(0, .agg [.v (.int .i64 a0.Pulse.Letters), .v (.int .i64 a0.Pulse.Numbers), .v (.int .i64 a0.Pulse.Pitch), .v (.int .i64 a0.Pulse.Slack), .v (.int .i64 a0.Pulse.Gap), .v (.int .i64 a0.Pulse.Pause), .v (.int .i64 a0.Pulse.Sparks), .sl .no 1 (a0.Pulse.Times.map cI)]), (1, .v (.int .i64 a1))]) H0 g
  have hS := St.start hf
  refine r_seq ?_
  refine r_region (n := 3) rfl ?_
  refine o_box (v := .agg [.v (.int .i64 a0.Pulse.Letters), .v (.int .i64 a0.Pulse.Numbers), .v (.int .i64 a0.Pulse.Pitch), .v (.int .i64 a0.Pulse.Slack), .v (.int .i64 a0.Pulse.Gap), .v (.int .i64 a0.Pulse.Pause), .v (.int .i64 a0.Pulse.Sparks), .sl .no 1 (a0.Pulse.Times.map cI)]) (cs := [.v (.int .i64 a0.Pulse.Letters), .v (.int .i64 a0.Pulse.Numbers), .v (.int .i64 a0.Pulse.Pitch), .v (.int .i64 a0.Pulse.Slack), .v (.int .i64 a0.Pulse.Gap), .v (.int .i64 a0.Pulse.Pause), .v (.int .i64 a0.Pulse.Sparks), .sl .no 1 (a0.Pulse.Times.map cI)]) hS (by decide) rfl rfl (by omega) fun H hS => ?_
  refine o_box (v := .v (.int .i64 a1)) (cs := [.v (.int .i64 a1)]) hS (by decide) rfl rfl (by omega) fun H hS => ?_
  refine o_assign (v := .v .nilFunc) (by decide) rfl ?_
  refine run_nil ?_
  refine w_next [(2, .ptr (g + 0) 0), (3, .ptr (g + 1) 0)] (.cons (.refl _) (.cons (.refl _) .nil)) ?_
  refine r_seq ?_
  refine r_region (n := 2) rfl ?_
  refine o_makeFunc (first := []) (cap := [.ptr (g + 0) 0, .ptr (g + 1) 0]) (by decide) rfl rfl ?_
  refine o_assign (v := .fn (.func 83) [] [.ptr (g + 0) 0, .ptr (g + 1) 0]) (by decide) rfl ?_
  refine run_nil ?_
  refine w_next [(4, .fn (.func 83) [] [.ptr (g + 0) 0, .ptr (g + 1) 0])] (.cons (.refl _) .nil) ?_
  refine r_ret ?_
  refine w_endW (x := .fn (.func 83) [] [.ptr (g + 0) 0, .ptr (g + 1) 0]) (.inr rfl) ?_ (.refl _) hS [true, true] rfl
  exact (res_one (res_tmp (x := .fn (.func 83) [] [.ptr (g + 0) 0, .ptr (g + 1) 0]) rfl))
theorem W_slices_AppendSeq_pulsesreading {w0 p1 p2 : Nat} (hnd : [w0, p1, p2].Nodup) {n : Nat} {a0 : List Reading_} {a91 : Train_} {a92 : Int} {r : (List Reading_)} (hM : slices_AppendSeq_pulsesreading n a0 a91 a92 = some r) : HSat Try.prog 89 [.sl (.id w0) 2 (a0.map Reading_.cells), .fn (.func 83) [] [.ptr p1 0, .ptr p2 0]] [(w0, .row 86 a0.length), (p1, .cells [.v (.int .i64 a91.Pulse.Letters), .v (.int .i64 a91.Pulse.Numbers), .v (.int .i64 a91.Pulse.Pitch), .v (.int .i64 a91.Pulse.Slack), .v (.int .i64 a91.Pulse.Gap), .v (.int .i64 a91.Pulse.Pause), .v (.int .i64 a91.Pulse.Sparks), .sl .no 1 (a91.Pulse.Times.map cI)]), (p2, .cells [.v (.int .i64 a92)])] (.sl (.id w0) 2 (r.map Reading_.cells)) [(w0, .row 86 r.length), (p1, .cells [.v (.int .i64 a91.Pulse.Letters), .v (.int .i64 a91.Pulse.Numbers), .v (.int .i64 a91.Pulse.Pitch), .v (.int .i64 a91.Pulse.Slack), .v (.int .i64 a91.Pulse.Gap), .v (.int .i64 a91.Pulse.Pause), .v (.int .i64 a91.Pulse.Sparks), .sl .no 1 (a91.Pulse.Times.map cI)]), (p2, .cells [.v (.int .i64 a92)])] := by
  refine hsat_of_wp mixed Try.func89 rfl (by decide) Try.ntmps89 (by simp) (kl_row (kl_cells (kl_cells kl_nil))) hnd ?pure ?cells fun H0 g hf_ hp => ?_
  case pure => exact fun H hH => in_own hH 0 rfl (pures_map (fun x => (pl_cons (.v _) (pl_cons (.sl _ _ (pures_map (fun x => (pl_cons (.v _) pl_nil)))) pl_nil))))
  case cells => exact (inb_own (inb_st (ic_cells (ci_cons (.inl (.inl (.v _))) (ci_cons (.inl (.inl (.v _))) (ci_cons (.inl (.inl (.v _))) (ci_cons (.inl (.inl (.v _))) (ci_cons (.inl (.inl (.v _))) (ci_cons (.inl (.inl (.v _))) (ci_cons (.inl (.inl (.v _))) (ci_cons (.inl (.inl (.sl _ _ (pures_map (fun x => (pl_cons (.v _) pl_nil)))))) ci_nil)))))))) (ic_cells (ci_cons (.inl (.inl (.v _))) ci_nil) ic_nil)) inb_nil))
  rw [frame0_of]
  change wpA _ _ _ _ (Fr.of [(0, .sl (.id w0) 2 (a0.map Reading_.cells)), (1, .fn (.func 83) [] [.ptr p1 0, .ptr p2 0])]) H0 g
  have hS := St.startH (L := [(w0, .row 86 a0.length), (p1, .cells [.v (.int .i64 a91.Pulse.Letters), .v (.int .i64 a91.Pulse.Numbers), .v (.int .i64 a91.Pulse.Pitch), .v (.int .i64 a91.Pulse.Slack), .v (.int .i64 a91.Pulse.Gap), .v (.int .i64 a91.Pulse.Pause), .v (.int .i64 a91.Pulse.Sparks), .sl .no 1 (a91.Pulse.Times.map cI)]), (p2, .cells [.v (.int .i64 a92)])]) hf_ hnd hp
  replace hS : St (fun i => i < g ∧ i ∉ ids [(w0, .row 86 a0.length), (p1, .cells [.v (.int .i64 a91.Pulse.Letters), .v (.int .i64 a91.Pulse.Numbers), .v (.int .i64 a91.Pulse.Pitch), .v (.int .i64 a91.Pulse.Slack), .v (.int .i64 a91.Pulse.Gap), .v (.int .i64 a91.Pulse.Pause), .v (.int .i64 a91.Pulse.Sparks), .sl .no 1 (a91.Pulse.Times.map cI)]), (p2, .cells [.v (.int .i64 a92)])]) H0 [(w0, .row 86 a0.length), (p1, .cells [.v (.int .i64 a91.Pulse.Letters), .v (.int .i64 a91.Pulse.Numbers), .v (.int .i64 a91.Pulse.Pitch), .v (.int .i64 a91.Pulse.Slack), .v (.int .i64 a91.Pulse.Gap), .v (.int .i64 a91.Pulse.Pause), .v (.int .i64 a91.Pulse.Sparks), .sl .no 1 (a91.Pulse.Times.map cI)]), (p2, .cells [.v (.int .i64 a92)])] H0 g := hS
  refine r_seq ?_
  refine r_region (n := 2) rfl ?_
  refine o_box (v := .sl (.id w0) 2 (a0.map Reading_.cells)) (cs := [.sl (.id w0) 2 (a0.map Reading_.cells)]) hS (by decide) rfl rfl (by omega) fun H hS => ?_
  refine o_assign (v := .sl .nil 0 []) (by decide) rfl ?_
  refine run_nil ?_
  refine w_next [(1, .fn (.func 83) [] [.ptr p1 0, .ptr p2 0]), (2, .ptr (g + 0) 0)] (.cons (.refl _) (.cons (.refl _) .nil)) ?_
  refine r_seq ?_
  refine r_seq ?_
  refine r_region (n := 1) rfl ?_
  refine o_move (v := .fn (.func 83) [] [.ptr p1 0, .ptr p2 0]) (by decide) rfl ?_
  refine run_nil ?_
  refine w_next [(2, .ptr (g + 0) 0), (6, .fn (.func 83) [] [.ptr p1 0, .ptr p2 0])] (.cons (.refl _) (.cons (.refl _) .nil)) ?_
  refine r_block ?_
  obtain ⟨r3, hr3, hM⟩ := bindE hM
  refine w_range0 (Lo := fun s : (List Reading_) => [(g + 0, .cells [.sl (.id w0) 2 (s.map Reading_.cells)]), (w0, .row 86 s.length)]) (R := fun x s b s' => ∃ y, x = .agg [.v (.int .u64 y.sparks), .sl .no 1 (y.list.map cI)] ∧ slices_AppendSeq_pulsesreading_r1 y s = some (b, s')) (s0 := a0) (sF := r3.2) (A := [(p1, .cells [.v (.int .i64 a91.Pulse.Letters), .v (.int .i64 a91.Pulse.Numbers), .v (.int .i64 a91.Pulse.Pitch), .v (.int .i64 a91.Pulse.Slack), .v (.int .i64 a91.Pulse.Gap), .v (.int .i64 a91.Pulse.Pause), .v (.int .i64 a91.Pulse.Sparks), .sl .no 1 (a91.Pulse.Times.map cI)]), (p2, .cells [.v (.int .i64 a92)])]) (A' := [(p1, .cells [.v (.int .i64 a91.Pulse.Letters), .v (.int .i64 a91.Pulse.Numbers), .v (.int .i64 a91.Pulse.Pitch), .v (.int .i64 a91.Pulse.Slack), .v (.int .i64 a91.Pulse.Gap), .v (.int .i64 a91.Pulse.Pause), .v (.int .i64 a91.Pulse.Sparks), .sl .no 1 (a91.Pulse.Times.map cI)]), (p2, .cells [.v (.int .i64 a92)])]) (L' := [(g + 0, .cells [.sl (.id w0) 2 (r3.2.map Reading_.cells)]), (w0, .row 86 r3.2.length), (p1, .cells [.v (.int .i64 a91.Pulse.Letters), .v (.int .i64 a91.Pulse.Numbers), .v (.int .i64 a91.Pulse.Pitch), .v (.int .i64 a91.Pulse.Slack), .v (.int .i64 a91.Pulse.Gap), .v (.int .i64 a91.Pulse.Pause), .v (.int .i64 a91.Pulse.Sparks), .sl .no 1 (a91.Pulse.Times.map cI)]), (p2, .cells [.v (.int .i64 a92)])]) [(2, .ptr (g + 0) 0)] [2, 3, 0, 1] hS (by omega) rfl rfl rfl (.cons rfl (.cons rfl (.cons rfl (.cons rfl .nil)))) (by decide) rfl (kl_cells (kl_cells kl_nil)) (fun _ _ => (kl_cells (kl_row kl_nil))) (fun s => (inb_st (ic_cells (ci_cons (.inl (.inr ⟨_, _, _, _, _, rfl, List.mem_of_getElem? (i := 1) rfl, pures_map (fun x => (pl_cons (.v _) (pl_cons (.sl _ _ (pures_map (fun x => (pl_cons (.v _) pl_nil)))) pl_nil)))⟩)) ci_nil) (ic_row ic_nil)) inb_nil)) (fun s H hH => (ai_cons (in_ptr hH 0 rfl) ai_nil)) (.cons (.refl _) .nil) rfl (by decide) rfl ?_ (fun F Lx hk1 hnd1 hin1 hF1 h01 hf1 => W_pulses_train_readings_c1 (Lo := Lx) (p1 := p1) (p2 := p2) hk1 hnd1 hin1 (aF := slices_AppendSeq_pulsesreading_r1) hF1 h01 (fun h => hf1 _ _ _ _ ⟨_, rfl, h⟩) hr3) fun H hS => ?_
  · rintro x v1 b s' ⟨y1, rfl, hM⟩
    refine ⟨rfl, fun H' g1 hf' hh' => ?_⟩
    have hS := St.start hf'
    change wpA _ _ _ _ (Fr.of [(7, .agg [.v (.int .u64 y1.sparks), .sl .no 1 (y1.list.map cI)]), (2, .ptr (g + 0) 0)]) _ _
    refine r_region (n := 2) rfl ?_
    refine o_alloc hS (by decide) ty_zero86 (by omega) fun H hS => ?_
    refine o_store (v := .agg [.v (.int .u64 y1.sparks), .sl .no 1 (y1.list.map cI)]) (ns := [.v (.int .u64 y1.sparks), .sl .no 1 (y1.list.map cI)]) (L' := [(g1 + 0, .cells [.v (.int .u64 y1.sparks), .sl .no 1 (y1.list.map cI)])]) 0 hS rfl rfl .no rfl rfl ty_var86 (Nat.le_of_ble_eq_true rfl) rfl fun H hS => ?_
    refine run_nil ?_
    refine w_rasg (l3 := [(2, .ptr (g + 0) 0), (5, .ptr (g1 + 0) 0)]) (.cons (.refl _) (.cons (.refl _) .nil)) hS (by omega) fun Hb H hS => ?_
    replace hS : St (fun i => i < g1 ∧ i ∉ ids [(g + 0, .cells [.sl (.id w0) 2 (v1.map Reading_.cells)]), (w0, .row 86 v1.length)]) Hb [(g1 + 0, .cells [.v (.int .u64 y1.sparks), .sl .no 1 (y1.list.map cI)]), (g + 0, .cells [.sl (.id w0) 2 (v1.map Reading_.cells)]), (w0, .row 86 v1.length)] H _ := hS
    refine r_block ?_
    refine r_region (n := 5) rfl ?_
    refine o_load (v := .sl (.id w0) 2 (v1.map Reading_.cells)) 1 hS (by decide) rfl rfl .no (part_one ty_agg72 ty_sc72 rfl) ?_
    refine o_load (v := .agg [.v (.int .u64 y1.sparks), .sl .no 1 (y1.list.map cI)]) 0 hS (by decide) rfl rfl .no (part_agg ty_agg86 (Nat.le_of_ble_eq_true rfl) rfl) ?_
    refine o_buildSlice (es := [[.v (.int .u64 y1.sparks), .sl .no 1 (y1.list.map cI)]]) hS (by decide) ty_es72 ty_el72 rfl ty_ef72 rfl (by decide) (by omega) fun H hS => ?_
    obtain ⟨l2, hl2, hM⟩ := bindE hM
    refine o_append (xs := v1) (ys := ([y1] : List Reading_)) (zs := l2) (f := Reading_.cells) (L' := [(g1 + 2 + 2, .row 86 1), (g1 + 0, .cells [.v (.int .u64 y1.sparks), .sl .no 1 (y1.list.map cI)]), (g + 0, .cells [.sl (.id w0) 2 (v1.map Reading_.cells)]), (w0, .row 86 l2.length)]) 3 hS (by decide) rfl rfl rfl rfl .no ty_es72 ty_el72 ty_ef72 hl2 rfl fun H hS => ?_
    refine o_store (v := .sl (.id w0) 2 (l2.map Reading_.cells)) (ns := [.sl (.id w0) 2 (l2.map Reading_.cells)]) (L' := [(g1 + 2 + 2, .row 86 1), (g1 + 0, .cells [.v (.int .u64 y1.sparks), .sl .no 1 (y1.list.map cI)]), (g + 0, .cells [.sl (.id w0) 2 (l2.map Reading_.cells)]), (w0, .row 86 l2.length)]) 2 hS rfl rfl .no rfl rfl ty_var72 (Nat.le_of_ble_eq_true rfl) rfl fun H hS => ?_
    refine run_nil ?_
    refine r_blk_normal ?_
    injection hM with hM
    injection hM with hm1 hm2
    subst hm1 hm2
    exact w_rend (hS.keep [false, false, true, true] rfl)
  refine r_blk_normal ?_
  refine w_next [(2, .ptr (g + 0) 0)] (.cons (.refl _) .nil) ?_
  refine r_seq ?_
  refine r_region (n := 2) rfl ?_
  refine o_load (v := .sl (.id w0) 2 (r3.2.map Reading_.cells)) 0 hS (by decide) rfl rfl .no (part_one ty_agg72 ty_sc72 rfl) ?_
  refine o_assign (v := .sl (.id w0) 2 (r3.2.map Reading_.cells)) (by decide) rfl ?_
  refine run_nil ?_
  replace hS := hS.keep (L' := [(w0, .row 86 r3.2.length), (p1, .cells [.v (.int .i64 a91.Pulse.Letters), .v (.int .i64 a91.Pulse.Numbers), .v (.int .i64 a91.Pulse.Pitch), .v (.int .i64 a91.Pulse.Slack), .v (.int .i64 a91.Pulse.Gap), .v (.int .i64 a91.Pulse.Pause), .v (.int .i64 a91.Pulse.Sparks), .sl .no 1 (a91.Pulse.Times.map cI)]), (p2, .cells [.v (.int .i64 a92)])]) [false, true, true, true] rfl
  refine w_next [(4, .sl (.id w0) 2 (r3.2.map Reading_.cells))] (.cons (.refl _) .nil) ?_
  refine r_ret ?_
  refine w_endS (x := .sl (.id w0) 2 (r3.2.map Reading_.cells)) (f := fun r => .sl (.id w0) 2 (r.map Reading_.cells)) (fd := fun r => [(w0, .row 86 r.length), (p1, .cells [.v (.int .i64 a91.Pulse.Letters), .v (.int .i64 a91.Pulse.Numbers), .v (.int .i64 a91.Pulse.Pitch), .v (.int .i64 a91.Pulse.Slack), .v (.int .i64 a91.Pulse.Gap), .v (.int .i64 a91.Pulse.Pause), .v (.int .i64 a91.Pulse.Sparks), .sl .no 1 (a91.Pulse.Times.map cI)]), (p2, .cells [.v (.int .i64 a92)])]) (.inr rfl) ?_ (.refl _) (Option.some.inj hM) hS 0 rfl
  exact (res_one (res_tmp (x := .sl (.id w0) 2 (r3.2.map Reading_.cells)) rfl))
theorem W_pulses_open {S : Type} {Lo : S → BL} (hk : ∀ s s', KinL (Lo s) (Lo s')) (hnd : ∀ s, (ids (Lo s)).Nodup) (hin : ∀ s, InB In (Lo s)) {aF : Train_ → S → Option (Bool × S)} {f0 : AV} (hF : ∀ s H, Has H (Lo s) → In H f0) (h0 : cellsOf f0 = some [f0]) (hf : ∀ {x0 : Train_} {s : S} {r : Bool × S}, aF x0 s = some r → CSat Try.prog f0 [.agg [.v (.int .i64 x0.Pulse.Letters), .v (.int .i64 x0.Pulse.Numbers), .v (.int .i64 x0.Pulse.Pitch), .v (.int .i64 x0.Pulse.Slack), .v (.int .i64 x0.Pulse.Gap), .v (.int .i64 x0.Pulse.Pause), .v (.int .i64 x0.Pulse.Sparks), .sl .no 1 (x0.Pulse.Times.map cI)]] (Lo s) (.v (.bool r.1)) (Lo r.2)) {n : Nat} {a0 : Pulse} {st : S} {r : ((List Reading_) × Int) × S} (hM : pulses_open n aF a0 st = some r) : HSat Try.prog 61 [.agg [.v (.int .i64 a0.Letters), .v (.int .i64 a0.Numbers), .v (.int .i64 a0.Pitch), .v (.int .i64 a0.Slack), .v (.int .i64 a0.Gap), .v (.int .i64 a0.Pause), .v (.int .i64 a0.Sparks), .sl .no 1 (a0.Times.map cI)], f0] (Lo st) (.tup [.sl .no 2 (r.1.1.map Reading_.cells), .v (.int .i64 r.1.2)]) (Lo r.2) := by
  have hnd0 : ∀ s, (ids (Lo s)).Nodup := fun s => hnd s
  refine hsat_of_wp mixed Try.func61 rfl (by decide) Try.ntmps61 (by simp) (hk _ _) (hnd st) ?pure ?cells fun H0 g hf_ hp => ?_
  case pure => exact fun H _ => (show Go.AM.Pure _ from .tup _ (pl_cons (.sl _ _ (pures_map (fun x => (pl_cons (.v _) (pl_cons (.sl _ _ (pures_map (fun x => (pl_cons (.v _) pl_nil)))) pl_nil))))) (pl_cons (.v _) pl_nil))).inH
  case cells => exact hin _
  rw [frame0_of]
  change wpA _ _ _ _ (Fr.of [(0, .agg [.v (.int .i64 a0.Letters), .v (.int .i64 a0.Numbers), .v (.int .i64 a0.Pitch), .v (.int .i64 a0.Slack), .v (.int .i64 a0.Gap), .v (.int .i64 a0.Pause), .v (.int .i64 a0.Sparks), .sl .no 1 (a0.Times.map cI)]), (1, f0)]) H0 g
  have hS := St.startH (L := ([] ++ Lo st)) hf_ (hnd st) hp
  replace hS : St (fun i => i < g ∧ i ∉ ids (Lo st)) H0 ([] ++ Lo st) H0 g := hS
  refine r_seq ?_
  refine r_region (n := 3) rfl ?_
  refine o_box (v := .agg [.v (.int .i64 a0.Letters), .v (.int .i64 a0.Numbers), .v (.int .i64 a0.Pitch), .v (.int .i64 a0.Slack), .v (.int .i64 a0.Gap), .v (.int .i64 a0.Pause), .v (.int .i64 a0.Sparks), .sl .no 1 (a0.Times.map cI)]) (cs := [.v (.int .i64 a0.Letters), .v (.int .i64 a0.Numbers), .v (.int .i64 a0.Pitch), .v (.int .i64 a0.Slack), .v (.int .i64 a0.Gap), .v (.int .i64 a0.Pause), .v (.int .i64 a0.Sparks), .sl .no 1 (a0.Times.map cI)]) hS (by decide) rfl rfl (by omega) fun H hS => ?_
  refine o_assign (v := .sl .nil 0 []) (by decide) rfl ?_
  refine o_assign (v := .v (.int .i64 0)) (by decide) rfl ?_
  refine run_nil ?_
  refine w_next [(1, f0), (2, .ptr (g + 0) 0)] (.cons (.refl _) (.cons (.refl _) .nil)) ?_
  refine r_seq ?_
  refine r_seq ?_
  refine r_region (n := 3) rfl ?_
  refine o_load (v := .agg [.v (.int .i64 a0.Letters), .v (.int .i64 a0.Numbers), .v (.int .i64 a0.Pitch), .v (.int .i64 a0.Slack), .v (.int .i64 a0.Gap), .v (.int .i64 a0.Pause), .v (.int .i64 a0.Sparks), .sl .no 1 (a0.Times.map cI)]) 0 hS (by decide) rfl rfl .no (part_agg ty_agg24 (Nat.le_of_ble_eq_true rfl) rfl) ?_
  obtain ⟨r1, hr1, hM⟩ := bindE hM
  refine o_call (bs := [.agg [.v (.int .i64 a0.Letters), .v (.int .i64 a0.Numbers), .v (.int .i64 a0.Pitch), .v (.int .i64 a0.Slack), .v (.int .i64 a0.Gap), .v (.int .i64 a0.Pause), .v (.int .i64 a0.Sparks), .sl .no 1 (a0.Times.map cI)]]) (by decide) rfl rfl ((W_pulses_Check hr1).le (.cons (.refl _) .nil)) ?_
  refine o_assign (v := .v (.int .i64 r1)) (by decide) rfl ?_
  refine run_nil ?_
  refine w_next [(1, f0), (2, .ptr (g + 0) 0), (6, .v (.int .i64 r1))] (.cons (.refl _) (.cons (.refl _) (.cons (.refl _) .nil))) ?_
  refine r_seq ?_
  refine r_region (n := 2) rfl ?_
  refine o_move (v := .v (.int .i64 r1)) (by decide) rfl ?_
  refine o_int (v := .v (.bool (r1 != 0))) (by decide) rfl rfl rfl ?_
  refine run_nil ?_
  refine w_next [(1, f0), (2, .ptr (g + 0) 0), (6, .v (.int .i64 r1)), (13, .v (.bool (r1 != 0)))] (.cons (.refl _) (.cons (.refl _) (.cons (.refl _) (.cons (.refl _) .nil)))) ?_
  rcases Bool.eq_false_or_eq_true (r1 != 0) with hb2 | hb2
  · replace hM := ifT hM hb2
    refine w_condT (e := (r1 != 0)) rfl hb2 ?_
    refine r_seq ?_
    refine r_region (n := 3) rfl ?_
    refine o_move (v := .v (.int .i64 r1)) (by decide) rfl ?_
    refine o_assign (v := .sl .nil 0 []) (by decide) rfl ?_
    refine o_assign (v := .v (.int .i64 r1)) (by decide) rfl ?_
    refine run_nil ?_
    replace hS := hS.keep (L' := ([] ++ Lo st)) [false] rfl
    refine w_next [(4, .sl .nil 0 []), (5, .v (.int .i64 r1))] (.cons (.refl _) (.cons (.refl _) .nil)) ?_
    refine r_ret ?_
    refine r_then_ret ?_
    refine w_endS (x := .tup [.sl .nil 0 [], .v (.int .i64 r1)]) (f := fun r => .tup [.sl .no 2 (r.1.1.map Reading_.cells), .v (.int .i64 r.1.2)]) (fd := fun r => (Lo r.2)) (.inr rfl) ?_ (.tupL (.cons (.sl0 .nil 2 0) (.cons (.refl _) .nil))) (Option.some.inj hM) hS 0 rfl
    exact (res_two (res_tmp (x := .sl .nil 0 []) rfl) (res_tmp (x := .v (.int .i64 r1)) rfl))
  · replace hM := ifF hM hb2
    refine w_condF (e := (r1 != 0)) rfl hb2 ?_
    refine r_skip ?_
    refine w_next [(1, f0), (2, .ptr (g + 0) 0)] (.cons (.refl _) (.cons (.refl _) .nil)) ?_
    refine r_seq ?_
    refine r_region (n := 4) rfl ?_
    refine o_load (v := .agg [.v (.int .i64 a0.Letters), .v (.int .i64 a0.Numbers), .v (.int .i64 a0.Pitch), .v (.int .i64 a0.Slack), .v (.int .i64 a0.Gap), .v (.int .i64 a0.Pause), .v (.int .i64 a0.Sparks), .sl .no 1 (a0.Times.map cI)]) 0 hS (by decide) rfl rfl .no (part_agg ty_agg24 (Nat.le_of_ble_eq_true rfl) rfl) ?_
    refine o_build (cs := [.v (.int .i64 a0.Letters), .v (.int .i64 a0.Numbers), .v (.int .i64 a0.Pitch), .v (.int .i64 a0.Slack), .v (.int .i64 a0.Gap), .v (.int .i64 a0.Pause), .v (.int .i64 a0.Sparks), .sl .no 1 (a0.Times.map cI)]) (by decide) ty_zero62 ty_pl62 rfl ?_
    refine o_alloc hS (by decide) ty_zero62 (by omega) fun H hS => ?_
    refine o_store (v := .agg [.v (.int .i64 a0.Letters), .v (.int .i64 a0.Numbers), .v (.int .i64 a0.Pitch), .v (.int .i64 a0.Slack), .v (.int .i64 a0.Gap), .v (.int .i64 a0.Pause), .v (.int .i64 a0.Sparks), .sl .no 1 (a0.Times.map cI)]) (ns := [.v (.int .i64 a0.Letters), .v (.int .i64 a0.Numbers), .v (.int .i64 a0.Pitch), .v (.int .i64 a0.Slack), .v (.int .i64 a0.Gap), .v (.int .i64 a0.Pause), .v (.int .i64 a0.Sparks), .sl .no 1 (a0.Times.map cI)]) (L' := ([(g + 3 + 3 + 2 + 2, .cells [.v (.int .i64 a0.Letters), .v (.int .i64 a0.Numbers), .v (.int .i64 a0.Pitch), .v (.int .i64 a0.Slack), .v (.int .i64 a0.Gap), .v (.int .i64 a0.Pause), .v (.int .i64 a0.Sparks), .sl .no 1 (a0.Times.map cI)]), (g + 0, .cells [.v (.int .i64 a0.Letters), .v (.int .i64 a0.Numbers), .v (.int .i64 a0.Pitch), .v (.int .i64 a0.Slack), .v (.int .i64 a0.Gap), .v (.int .i64 a0.Pause), .v (.int .i64 a0.Sparks), .sl .no 1 (a0.Times.map cI)])] ++ Lo st)) 0 hS rfl rfl .no rfl rfl ty_var62 (Nat.le_of_ble_eq_true rfl) rfl fun H hS => ?_
    refine run_nil ?_
    refine w_next [(1, f0), (2, .ptr (g + 0) 0), (7, .ptr (g + 3 + 3 + 2 + 2) 0)] (.cons (.refl _) (.cons (.refl _) (.cons (.refl _) .nil))) ?_
    refine r_seq ?_
    refine r_seq ?_
    refine r_region (n := 4) rfl ?_
    refine o_move (v := f0) (by decide) rfl ?_
    refine o_load (v := .agg [.v (.int .i64 a0.Letters), .v (.int .i64 a0.Numbers), .v (.int .i64 a0.Pitch), .v (.int .i64 a0.Slack), .v (.int .i64 a0.Gap), .v (.int .i64 a0.Pause), .v (.int .i64 a0.Sparks), .sl .no 1 (a0.Times.map cI)]) 0 hS (by decide) rfl rfl .no (part_agg ty_agg62 (Nat.le_of_ble_eq_true rfl) rfl) ?_
    obtain ⟨r3, hr3, hM⟩ := bindE hM
    replace hS : St (fun i => i < g ∧ i ∉ ids (Lo st)) H0 ([(g + 3 + 3 + 2 + 2, .cells [.v (.int .i64 a0.Letters), .v (.int .i64 a0.Numbers), .v (.int .i64 a0.Pitch), .v (.int .i64 a0.Slack), .v (.int .i64 a0.Gap), .v (.int .i64 a0.Pause), .v (.int .i64 a0.Sparks), .sl .no 1 (a0.Times.map cI)]), (g + 0, .cells [.v (.int .i64 a0.Letters), .v (.int .i64 a0.Numbers), .v (.int .i64 a0.Pitch), .v (.int .i64 a0.Slack), .v (.int .i64 a0.Gap), .v (.int .i64 a0.Pause), .v (.int .i64 a0.Sparks), .sl .no 1 (a0.Times.map cI)])] ++ Lo st) _ _ := hS
    refine o_state (bs := [.agg [.v (.int .i64 a0.Letters), .v (.int .i64 a0.Numbers), .v (.int .i64 a0.Pitch), .v (.int .i64 a0.Slack), .v (.int .i64 a0.Gap), .v (.int .i64 a0.Pause), .v (.int .i64 a0.Sparks), .sl .no 1 (a0.Times.map cI)]]) (.inl rfl) hS (by decide) rfl rfl ((hf hr3).le (.cons (.refl _) .nil)) (hk _ _).ids (by omega) fun H hS => ?_
    refine o_not (e := r3.1) (by decide) rfl ?_
    refine run_nil ?_
    refine w_next [(2, .ptr (g + 0) 0), (7, .ptr (g + 3 + 3 + 2 + 2) 0), (20, .v (.bool (!r3.1)))] (.cons (.refl _) (.cons (.refl _) (.cons (.refl _) .nil))) ?_
    rcases Bool.eq_false_or_eq_true (!r3.1) with hb4 | hb4
    · replace hM := ifT hM hb4
      refine w_condT (e := (!r3.1)) rfl hb4 ?_
      refine r_seq ?_
      refine r_region (n := 2) rfl ?_
      refine o_assign (v := .sl .nil 0 []) (by decide) rfl ?_
      refine o_assign (v := .v (.int .i64 1)) (by decide) rfl ?_
      refine run_nil ?_
      replace hS := hS.keep (L' := ([] ++ Lo r3.2)) [false, false] rfl
      refine w_next [(4, .sl .nil 0 []), (5, .v (.int .i64 1))] (.cons (.refl _) (.cons (.refl _) .nil)) ?_
      refine r_ret ?_
      refine r_then_ret ?_
      refine w_endS (x := .tup [.sl .nil 0 [], .v (.int .i64 1)]) (f := fun r => .tup [.sl .no 2 (r.1.1.map Reading_.cells), .v (.int .i64 r.1.2)]) (fd := fun r => (Lo r.2)) (.inr rfl) ?_ (.tupL (.cons (.sl0 .nil 2 0) (.cons (.refl _) .nil))) (Option.some.inj hM) hS 0 rfl
      exact (res_two (res_tmp (x := .sl .nil 0 []) rfl) (res_tmp (x := .v (.int .i64 1)) rfl))
    · replace hM := ifF hM hb4
      refine w_condF (e := (!r3.1)) rfl hb4 ?_
      refine r_skip ?_
      refine w_next [(2, .ptr (g + 0) 0), (7, .ptr (g + 3 + 3 + 2 + 2) 0)] (.cons (.refl _) (.cons (.refl _) .nil)) ?_
      refine r_seq ?_
      refine r_region (n := 1) rfl ?_
      refine o_assign (v := .sl .nil 0 []) (by decide) rfl ?_
      refine run_nil ?_
      refine w_own [(2, .ptr (g + 0) 0), (7, .ptr (g + 3 + 3 + 2 + 2) 0), (8, .sl (.id (g + 3 + 3 + 2 + 4 + 4 + 1)) 2 (([] : List Reading_).map Reading_.cells))] 8 2 86 hS (by omega) (by decide) rfl (.cons (.refl _) (.cons (.refl _) (.cons (.refl _) .nil))) fun H hS => ?_
      refine w_join (J := (List Reading_)) (fun j => [(8, .sl (.id (g + 3 + 3 + 2 + 4 + 4 + 1)) 2 (j.map Reading_.cells))]) (fun j H' g' => St (fun i => i < g ∧ i ∉ ids (Lo st)) H0 ([(g + 3 + 3 + 2 + 4 + 4 + 1, .row 86 j.length)] ++ Lo r3.2) H' g' ∧ pulses_open_j1 r3 j = some r) ?_ ?_
      · rintro v5 H g1 ⟨hS, hM⟩
        change wpA _ _ _ _ (Fr.of [(8, .sl (.id (g + 3 + 3 + 2 + 4 + 4 + 1)) 2 (v5.map Reading_.cells))]) _ _
        replace hS : St (fun i => i < g ∧ i ∉ ids (Lo st)) H0 ([(g + 3 + 3 + 2 + 4 + 4 + 1, .row 86 v5.length)] ++ Lo r3.2) H g1 := hS
        replace hM : pulses_open_j1 r3 v5 = some r := hM
        refine r_seq ?_
        refine r_seq ?_
        refine r_region (n := 3) rfl ?_
        refine o_move (v := .sl (.id (g + 3 + 3 + 2 + 4 + 4 + 1)) 2 (v5.map Reading_.cells)) (by decide) rfl ?_
        refine o_len (n := v5.length) (by decide) rfl (List.length_map _) ty_isl72 ?_
        refine o_int (v := .v (.bool ((v5.length : Int) == 0))) (by decide) rfl rfl rfl ?_
        refine run_nil ?_
        refine w_next [(8, .sl (.id (g + 3 + 3 + 2 + 4 + 4 + 1)) 2 (v5.map Reading_.cells)), (35, .v (.bool ((v5.length : Int) == 0)))] (.cons (.refl _) (.cons (.refl _) .nil)) ?_
        rcases Bool.eq_false_or_eq_true ((v5.length : Int) == 0) with hb6 | hb6
        · replace hM := ifT hM hb6
          refine w_condT (e := ((v5.length : Int) == 0)) rfl hb6 ?_
          refine r_seq ?_
          refine r_region (n := 2) rfl ?_
          refine o_assign (v := .sl .nil 0 []) (by decide) rfl ?_
          refine o_assign (v := .v (.int .i64 3)) (by decide) rfl ?_
          refine run_nil ?_
          replace hS := hS.keep (L' := ([] ++ Lo r3.2)) [false] rfl
          refine w_next [(4, .sl .nil 0 []), (5, .v (.int .i64 3))] (.cons (.refl _) (.cons (.refl _) .nil)) ?_
          refine r_ret ?_
          refine r_then_ret ?_
          refine w_endS (x := .tup [.sl .nil 0 [], .v (.int .i64 3)]) (f := fun r => .tup [.sl .no 2 (r.1.1.map Reading_.cells), .v (.int .i64 r.1.2)]) (fd := fun r => (Lo r.2)) (.inr rfl) ?_ (.tupL (.cons (.sl0 .nil 2 0) (.cons (.refl _) .nil))) (Option.some.inj hM) hS 0 rfl
          exact (res_two (res_tmp (x := .sl .nil 0 []) rfl) (res_tmp (x := .v (.int .i64 3)) rfl))
        · replace hM := ifF hM hb6
          refine w_condF (e := ((v5.length : Int) == 0)) rfl hb6 ?_
          refine r_skip ?_
          refine w_next [(8, .sl (.id (g + 3 + 3 + 2 + 4 + 4 + 1)) 2 (v5.map Reading_.cells))] (.cons (.refl _) .nil) ?_
          refine r_seq ?_
          refine r_region (n := 3) rfl ?_
          refine o_move (v := .sl (.id (g + 3 + 3 + 2 + 4 + 4 + 1)) 2 (v5.map Reading_.cells)) (by decide) rfl ?_
          refine o_assign (v := .sl (.id (g + 3 + 3 + 2 + 4 + 4 + 1)) 2 (v5.map Reading_.cells)) (by decide) rfl ?_
          refine o_assign (v := .v (.int .i64 0)) (by decide) rfl ?_
          refine run_nil ?_
          refine w_next [(4, .sl (.id (g + 3 + 3 + 2 + 4 + 4 + 1)) 2 (v5.map Reading_.cells)), (5, .v (.int .i64 0))] (.cons (.refl _) (.cons (.refl _) .nil)) ?_
          refine r_ret ?_
          refine w_endS (x := .tup [.sl (.id (g + 3 + 3 + 2 + 4 + 4 + 1)) 2 (v5.map Reading_.cells), .v (.int .i64 0)]) (f := fun r => .tup [.sl .no 2 (r.1.1.map Reading_.cells), .v (.int .i64 r.1.2)]) (fd := fun r => (Lo r.2)) (.inr rfl) ?_ (.tupL (.cons (.sl _ _ _) (.cons (.refl _) .nil))) (Option.some.inj hM) hS 1 rfl
          exact (res_two (res_tmp (x := .sl (.id (g + 3 + 3 + 2 + 4 + 4 + 1)) 2 (v5.map Reading_.cells)) rfl) (res_tmp (x := .v (.int .i64 0)) rfl))
      · refine r_seq ?_
        refine r_region (n := 4) rfl ?_
        refine o_fieldP (by decide) ty_fo24_6 rfl ?_
        refine o_load (v := .v (.int .i64 a0.Sparks)) 2 hS (by decide) rfl rfl .no (part_one ty_agg3 ty_sc3 rfl) ?_
        refine o_int (v := .v (.int .i64 (w64 (a0.Sparks + 1)))) (by decide) rfl rfl rfl ?_
        refine o_move (v := .v (.int .i64 0)) (by decide) rfl ?_
        refine run_nil ?_
        replace hS := hS.keep (L' := ([(g + 3 + 3 + 2 + 4 + 4 + 1, .row 86 0), (g + 3 + 3 + 2 + 2, .cells [.v (.int .i64 a0.Letters), .v (.int .i64 a0.Numbers), .v (.int .i64 a0.Pitch), .v (.int .i64 a0.Slack), .v (.int .i64 a0.Gap), .v (.int .i64 a0.Pause), .v (.int .i64 a0.Sparks), .sl .no 1 (a0.Times.map cI)])] ++ Lo r3.2)) [true, true, false] rfl
        refine w_next [(7, .ptr (g + 3 + 3 + 2 + 2) 0), (8, .sl (.id (g + 3 + 3 + 2 + 4 + 4 + 1)) 2 (([] : List Reading_).map Reading_.cells)), (23, .v (.int .i64 (w64 (a0.Sparks + 1)))), (24, .v (.int .i64 0))] (.cons (.refl _) (.cons (.refl _) (.cons (.refl _) (.cons (.refl _) .nil)))) ?_
        refine r_block ?_
        refine w_loop (V := (List Reading_) × Int) (fun v => [(7, .ptr (g + 3 + 3 + 2 + 2) 0), (8, .sl (.id (g + 3 + 3 + 2 + 4 + 4 + 1)) 2 (v.1.map Reading_.cells)), (23, .v (.int .i64 (w64 (a0.Sparks + 1)))), (24, .v (.int .i64 v.2))]) (fun v m2 H' g' => St (fun i => i < g ∧ i ∉ ids (Lo st)) H0 ([(g + 3 + 3 + 2 + 4 + 4 + 1, .row 86 v.1.length), (g + 3 + 3 + 2 + 2, .cells [.v (.int .i64 a0.Letters), .v (.int .i64 a0.Numbers), .v (.int .i64 a0.Pitch), .v (.int .i64 a0.Slack), .v (.int .i64 a0.Gap), .v (.int .i64 a0.Pause), .v (.int .i64 a0.Sparks), .sl .no 1 (a0.Times.map cI)])] ++ Lo r3.2) H' g' ∧ pulses_open_l1 n a0 r3 m2 v.1 v.2 = some r) (n := n) (([] : List Reading_), 0) (.cons (.refl _) (.cons (.refl _) (.cons (.refl _) (.cons (.refl _) .nil)))) ⟨(hS.keep [true, true] rfl).up (by omega), hM⟩ ?_
        rintro ⟨v7, v8⟩ m2 H g2 ⟨hS, hM⟩
        obtain _ | m2 := m2
        · exact nomatch (show none = some _ from hM)
        change wpA _ _ _ _ (Fr.of [(7, .ptr (g + 3 + 3 + 2 + 2) 0), (8, .sl (.id (g + 3 + 3 + 2 + 4 + 4 + 1)) 2 (v7.map Reading_.cells)), (23, .v (.int .i64 (w64 (a0.Sparks + 1)))), (24, .v (.int .i64 v8))]) _ _
        replace hS : St (fun i => i < g ∧ i ∉ ids (Lo st)) H0 ([(g + 3 + 3 + 2 + 4 + 4 + 1, .row 86 v7.length), (g + 3 + 3 + 2 + 2, .cells [.v (.int .i64 a0.Letters), .v (.int .i64 a0.Numbers), .v (.int .i64 a0.Pitch), .v (.int .i64 a0.Slack), .v (.int .i64 a0.Gap), .v (.int .i64 a0.Pause), .v (.int .i64 a0.Sparks), .sl .no 1 (a0.Times.map cI)])] ++ Lo r3.2) H g2 := hS
        replace hM : pulses_open_l1_b n a0 r3 (pulses_open_l1 n a0 r3 m2) v7 v8 = some r := hM
        refine r_seq ?_
        refine r_region (n := 1) rfl ?_
        refine o_int (v := .v (.bool (decide (v8 < (w64 (a0.Sparks + 1)))))) (by decide) rfl rfl rfl ?_
        refine run_nil ?_
        refine w_next [(7, .ptr (g + 3 + 3 + 2 + 2) 0), (8, .sl (.id (g + 3 + 3 + 2 + 4 + 4 + 1)) 2 (v7.map Reading_.cells)), (23, .v (.int .i64 (w64 (a0.Sparks + 1)))), (24, .v (.int .i64 v8)), (25, .v (.bool (decide (v8 < (w64 (a0.Sparks + 1))))))] (.cons (.refl _) (.cons (.refl _) (.cons (.refl _) (.cons (.refl _) (.cons (.refl _) .nil))))) ?_
        refine r_seq ?_
        rcases Bool.eq_false_or_eq_true (decide (v8 < (w64 (a0.Sparks + 1)))) with hb9 | hb9
        · replace hM := ifT hM hb9
          refine w_condT (e := (decide (v8 < (w64 (a0.Sparks + 1))))) rfl hb9 ?_
          refine r_skip ?_
          refine w_next [(7, .ptr (g + 3 + 3 + 2 + 2) 0), (8, .sl (.id (g + 3 + 3 + 2 + 4 + 4 + 1)) 2 (v7.map Reading_.cells)), (23, .v (.int .i64 (w64 (a0.Sparks + 1)))), (24, .v (.int .i64 v8))] (.cons (.refl _) (.cons (.refl _) (.cons (.refl _) (.cons (.refl _) .nil)))) ?_
          refine r_seq ?_
          refine r_block ?_
          refine r_seq ?_
          refine r_region (n := 2) rfl ?_
          refine o_move (v := .v (.int .i64 v8)) (by decide) rfl ?_
          refine o_assign (v := .v (.int .i64 v8)) (by decide) rfl ?_
          refine run_nil ?_
          refine w_next [(7, .ptr (g + 3 + 3 + 2 + 2) 0), (8, .sl (.id (g + 3 + 3 + 2 + 4 + 4 + 1)) 2 (v7.map Reading_.cells)), (9, .v (.int .i64 v8)), (23, .v (.int .i64 (w64 (a0.Sparks + 1)))), (24, .v (.int .i64 v8))] (.cons (.refl _) (.cons (.refl _) (.cons (.refl _) (.cons (.refl _) (.cons (.refl _) .nil))))) ?_
          refine r_region (n := 6) rfl ?_
          refine o_move (v := .sl (.id (g + 3 + 3 + 2 + 4 + 4 + 1)) 2 (v7.map Reading_.cells)) (by decide) rfl ?_
          refine o_load (v := .agg [.v (.int .i64 a0.Letters), .v (.int .i64 a0.Numbers), .v (.int .i64 a0.Pitch), .v (.int .i64 a0.Slack), .v (.int .i64 a0.Gap), .v (.int .i64 a0.Pause), .v (.int .i64 a0.Sparks), .sl .no 1 (a0.Times.map cI)]) 1 hS (by decide) rfl rfl .no (part_agg ty_agg62 (Nat.le_of_ble_eq_true rfl) rfl) ?_
          refine o_move (v := .v (.int .i64 v8)) (by decide) rfl ?_
          refine o_new (bs := [.agg [.v (.int .i64 a0.Letters), .v (.int .i64 a0.Numbers), .v (.int .i64 a0.Pitch), .v (.int .i64 a0.Slack), .v (.int .i64 a0.Gap), .v (.int .i64 a0.Pause), .v (.int .i64 a0.Sparks), .sl .no 1 (a0.Times.map cI)], .v (.int .i64 v8)]) (.inl rfl) hS (by decide) rfl rfl (W_pulses_train_readings.le (.cons (.refl _) (.cons (.refl _) .nil))) (by omega) fun H hS => ?_
          obtain ⟨r10, hr10, hM⟩ := bindE hM
          have hndr10 := hS.nd_at (ns := [2, 1, 0]) (M := [(g + 3 + 3 + 2 + 4 + 4 + 1, .row 86 v7.length), (g2 + 1 + 2 + 6, .cells [.v (.int .i64 a0.Letters), .v (.int .i64 a0.Numbers), .v (.int .i64 a0.Pitch), .v (.int .i64 a0.Slack), .v (.int .i64 a0.Gap), .v (.int .i64 a0.Pause), .v (.int .i64 a0.Sparks), .sl .no 1 (a0.Times.map cI)]), (g2 + 1 + 2 + 6 + 1, .cells [.v (.int .i64 v8)])]) (M' := [(g + 3 + 3 + 2 + 4 + 4 + 1, .row 86 r10.length), (g2 + 1 + 2 + 6, .cells [.v (.int .i64 a0.Letters), .v (.int .i64 a0.Numbers), .v (.int .i64 a0.Pitch), .v (.int .i64 a0.Slack), .v (.int .i64 a0.Gap), .v (.int .i64 a0.Pause), .v (.int .i64 a0.Sparks), .sl .no 1 (a0.Times.map cI)]), (g2 + 1 + 2 + 6 + 1, .cells [.v (.int .i64 v8)])]) (.cons rfl (.cons rfl (.cons rfl .nil))) (by decide)
          refine o_hsat (bs := [.sl (.id (g + 3 + 3 + 2 + 4 + 4 + 1)) 2 (v7.map Reading_.cells), .fn (.func 83) [] [.ptr (g2 + 1 + 2 + 6) 0, .ptr (g2 + 1 + 2 + 6 + 1) 0]]) (M := [(g + 3 + 3 + 2 + 4 + 4 + 1, .row 86 v7.length), (g2 + 1 + 2 + 6, .cells [.v (.int .i64 a0.Letters), .v (.int .i64 a0.Numbers), .v (.int .i64 a0.Pitch), .v (.int .i64 a0.Slack), .v (.int .i64 a0.Gap), .v (.int .i64 a0.Pause), .v (.int .i64 a0.Sparks), .sl .no 1 (a0.Times.map cI)]), (g2 + 1 + 2 + 6 + 1, .cells [.v (.int .i64 v8)])]) (M' := [(g + 3 + 3 + 2 + 4 + 4 + 1, .row 86 r10.length), (g2 + 1 + 2 + 6, .cells [.v (.int .i64 a0.Letters), .v (.int .i64 a0.Numbers), .v (.int .i64 a0.Pitch), .v (.int .i64 a0.Slack), .v (.int .i64 a0.Gap), .v (.int .i64 a0.Pause), .v (.int .i64 a0.Sparks), .sl .no 1 (a0.Times.map cI)]), (g2 + 1 + 2 + 6 + 1, .cells [.v (.int .i64 v8)])]) (L' := ([(g2 + 1 + 2 + 6 + 1, .cells [.v (.int .i64 v8)]), (g2 + 1 + 2 + 6, .cells [.v (.int .i64 a0.Letters), .v (.int .i64 a0.Numbers), .v (.int .i64 a0.Pitch), .v (.int .i64 a0.Slack), .v (.int .i64 a0.Gap), .v (.int .i64 a0.Pause), .v (.int .i64 a0.Sparks), .sl .no 1 (a0.Times.map cI)]), (g + 3 + 3 + 2 + 4 + 4 + 1, .row 86 r10.length), (g + 3 + 3 + 2 + 2, .cells [.v (.int .i64 a0.Letters), .v (.int .i64 a0.Numbers), .v (.int .i64 a0.Pitch), .v (.int .i64 a0.Slack), .v (.int .i64 a0.Gap), .v (.int .i64 a0.Pause), .v (.int .i64 a0.Sparks), .sl .no 1 (a0.Times.map cI)])] ++ Lo r3.2)) [2, 1, 0] (.inl rfl) hS (by decide) rfl rfl ((W_slices_AppendSeq_pulsesreading (w0 := g + 3 + 3 + 2 + 4 + 4 + 1) (p1 := g2 + 1 + 2 + 6) (p2 := g2 + 1 + 2 + 6 + 1) hndr10 hr10).le (.cons (.refl _) (.cons (.refl _) .nil))) (.cons rfl (.cons rfl (.cons rfl .nil))) rfl (by omega) fun H hS => ?_
          refine o_assign (v := .sl (.id (g + 3 + 3 + 2 + 4 + 4 + 1)) 2 (r10.map Reading_.cells)) (by decide) rfl ?_
          refine run_nil ?_
          refine r_blk_normal ?_
          replace hS := hS.keep (L' := ([(g + 3 + 3 + 2 + 4 + 4 + 1, .row 86 r10.length), (g + 3 + 3 + 2 + 2, .cells [.v (.int .i64 a0.Letters), .v (.int .i64 a0.Numbers), .v (.int .i64 a0.Pitch), .v (.int .i64 a0.Slack), .v (.int .i64 a0.Gap), .v (.int .i64 a0.Pause), .v (.int .i64 a0.Sparks), .sl .no 1 (a0.Times.map cI)])] ++ Lo r3.2)) [false, false, true, true] rfl
          refine w_next [(7, .ptr (g + 3 + 3 + 2 + 2) 0), (8, .sl (.id (g + 3 + 3 + 2 + 4 + 4 + 1)) 2 (r10.map Reading_.cells)), (23, .v (.int .i64 (w64 (a0.Sparks + 1)))), (24, .v (.int .i64 v8))] (.cons (.refl _) (.cons (.refl _) (.cons (.refl _) (.cons (.refl _) .nil)))) ?_
          refine r_region (n := 2) rfl ?_
          refine o_int (v := .v (.int .i64 (w64 (v8 + 1)))) (by decide) rfl rfl rfl ?_
          refine o_move (v := .v (.int .i64 (w64 (v8 + 1)))) (by decide) rfl ?_
          refine run_nil ?_
          exact w_round (r10, w64 (v8 + 1)) (Nat.lt_succ_self _) (.cons (.refl _) (.cons (.refl _) (.cons (.refl _) (.cons (.refl _) .nil)))) ⟨(hS.keep [true, true] rfl).up (by omega), hM⟩
        · replace hM := ifF hM hb9
          refine w_condF (e := (decide (v8 < (w64 (a0.Sparks + 1))))) rfl hb9 ?_
          refine r_exit ?_
          refine r_then_exit ?_
          refine w_round_exit ?_
          refine r_blk_exit ?_
          exact w_goto v7 (.cons (.refl _) .nil) ⟨(hS.keep [true, false] rfl).up (by omega), hM⟩
theorem W_pulses_anything {a0 : Train_} {r : Bool} (hM : pulses_anything a0 = some r) : PureSat Try.prog 62 [.agg [.v (.int .i64 a0.Pulse.Letters), .v (.int .i64 a0.Pulse.Numbers), .v (.int .i64 a0.Pulse.Pitch), .v (.int .i64 a0.Pulse.Slack), .v (.int .i64 a0.Pulse.Gap), .v (.int .i64 a0.Pulse.Pause), .v (.int .i64 a0.Pulse.Sparks), .sl .no 1 (a0.Pulse.Times.map cI)]] (.v (.bool r)) := by
  refine pure_of_wp mixed Try.func62 rfl (by decide) Try.ntmps62 (by simp) ?pure fun H0 g hf => ?_
  case pure => exact .v _
  rw [frame0_of]
  change wpA _ _ _ _ (Fr.of [(0, .agg [.v (.int .i64 a0.Pulse.Letters), .v (.int .i64 a0.Pulse.Numbers), .v (.int .i64 a0.Pulse.Pitch), .v (.int .i64 a0.Pulse.Slack), .v (.int .i64 a0.Pulse.Gap), .v (.int .i64 a0.Pulse.Pause), .v (.int .i64 a0.Pulse.Sparks), .sl .no 1 (a0.Pulse.Times.map cI)])]) H0 g
  have hS := St.start hf
  refine r_seq ?_
  refine r_region (n := 2) rfl ?_
  refine o_box (v := .agg [.v (.int .i64 a0.Pulse.Letters), .v (.int .i64 a0.Pulse.Numbers), .v (.int .i64 a0.Pulse.Pitch), .v (.int .i64 a0.Pulse.Slack), .v (.int .i64 a0.Pulse.Gap), .v (.int .i64 a0.Pulse.Pause), .v (.int .i64 a0.Pulse.Sparks), .sl .no 1 (a0.Pulse.Times.map cI)]) (cs := [.v (.int .i64 a0.Pulse.Letters), .v (.int .i64 a0.Pulse.Numbers), .v (.int .i64 a0.Pulse.Pitch), .v (.int .i64 a0.Pulse.Slack), .v (.int .i64 a0.Pulse.Gap), .v (.int .i64 a0.Pulse.Pause), .v (.int .i64 a0.Pulse.Sparks), .sl .no 1 (a0.Pulse.Times.map cI)]) hS (by decide) rfl rfl (by omega) fun H hS => ?_
  refine o_assign (v := .v (.bool false)) (by decide) rfl ?_
  refine run_nil ?_
  replace hS := hS.keep (L' := []) [false] rfl
  refine w_next [] .nil ?_
  refine r_seq ?_
  refine r_region (n := 1) rfl ?_
  refine o_assign (v := .v (.bool true)) (by decide) rfl ?_
  refine run_nil ?_
  refine w_next [(2, .v (.bool true))] (.cons (.refl _) .nil) ?_
  refine r_ret ?_
  refine w_end (x := .v (.bool true)) (f := fun r => .v (.bool r)) (.inr rfl) ?_ (.refl _) (Option.some.inj hM) hS
  exact (res_one (res_tmp (x := .v (.bool true)) rfl))
theorem W_pulses_Many {n : Nat} {a0 : Pulse} {r : Int × Int} (hM : pulses_Many n a0 = some r) : PureSat Try.prog 25 [.agg [.v (.int .i64 a0.Letters), .v (.int .i64 a0.Numbers), .v (.int .i64 a0.Pitch), .v (.int .i64 a0.Slack), .v (.int .i64 a0.Gap), .v (.int .i64 a0.Pause), .v (.int .i64 a0.Sparks), .sl .no 1 (a0.Times.map cI)]] (.tup [.v (.int .i64 r.1), .v (.int .i64 r.2)]) := by
  refine pure_of_wp mixed Try.func25 rfl (by decide) Try.ntmps25 (by simp) ?pure fun H0 g hf => ?_
  case pure => exact .tup _ (pl_cons (.v _) (pl_cons (.v _) pl_nil))
  rw [frame0_of]
  change wpA _ _ _ _ (Fr.of [(0, .agg [.v (.int .i64 a0.Letters), .v (.int .i64 a0.Numbers), .v (.int .i64 a0.Pitch), .v (.int .i64 a0.Slack), .v (.int .i64 a0.Gap), .v (.int .i64 a0.Pause), .v (.int .i64 a0.Sparks), .sl .no 1 (a0.Times.map cI)])]) H0 g
  have hS := St.start hf
  refine r_seq ?_
  refine r_region (n := 3) rfl ?_
  refine o_box (v := .agg [.v (.int .i64 a0.Letters), .v (.int .i64 a0.Numbers), .v (.int .i64 a0.Pitch), .v (.int .i64 a0.Slack), .v (.int .i64 a0.Gap), .v (.int .i64 a0.Pause), .v (.int .i64 a0.Sparks), .sl .no 1 (a0.Times.map cI)]) (cs := [.v (.int .i64 a0.Letters), .v (.int .i64 a0.Numbers), .v (.int .i64 a0.Pitch), .v (.int .i64 a0.Slack), .v (.int .i64 a0.Gap), .v (.int .i64 a0.Pause), .v (.int .i64 a0.Sparks), .sl .no 1 (a0.Times.map cI)]) hS (by decide) rfl rfl (by omega) fun H hS => ?_
  refine o_assign (v := .v (.int .i64 0)) (by decide) rfl ?_
  refine o_assign (v := .v (.int .i64 0)) (by decide) rfl ?_
  refine run_nil ?_
  refine w_next [(1, .ptr (g + 0) 0)] (.cons (.refl _) .nil) ?_
  refine r_seq ?_
  refine r_region (n := 7) rfl ?_
  refine o_load (v := .agg [.v (.int .i64 a0.Letters), .v (.int .i64 a0.Numbers), .v (.int .i64 a0.Pitch), .v (.int .i64 a0.Slack), .v (.int .i64 a0.Gap), .v (.int .i64 a0.Pause), .v (.int .i64 a0.Sparks), .sl .no 1 (a0.Times.map cI)]) 0 hS (by decide) rfl rfl .no (part_agg ty_agg24 (Nat.le_of_ble_eq_true rfl) rfl) ?_
  obtain ⟨r1, hr1, hM⟩ := bindE hM
  refine o_call (bs := [.agg [.v (.int .i64 a0.Letters), .v (.int .i64 a0.Numbers), .v (.int .i64 a0.Pitch), .v (.int .i64 a0.Slack), .v (.int .i64 a0.Gap), .v (.int .i64 a0.Pause), .v (.int .i64 a0.Sparks), .sl .no 1 (a0.Times.map cI)], .fn (.func 62) [] []]) (by decide) rfl rfl (pure_of_hsat ((W_pulses_open (Lo := (fun (_ : Unit) => []))  (fun _ _ => kl_nil) (fun _ => List.nodup_nil) (fun _ => inb_nil) (aF := (fun (x0 : Train_) (_ : Unit) => (pulses_anything x0).map fun y => (y, ()))) (fun _ _ _ => .fn _ _ _ ai_nil ai_nil) rfl (fun h => csat_pure (W_pulses_anything (pure_some h))) hr1).le (.cons (.refl _) (.cons (.refl _) .nil)))) ?_
  refine o_move (v := .tup [.sl .no 2 (r1.1.1.map Reading_.cells), .v (.int .i64 r1.1.2)]) (by decide) rfl ?_
  refine o_extract (v := .sl .no 2 (r1.1.1.map Reading_.cells)) (by decide) rfl rfl ?_
  refine o_extract (v := .v (.int .i64 r1.1.2)) (by decide) rfl rfl ?_
  refine o_assign (v := .sl .no 2 (r1.1.1.map Reading_.cells)) (by decide) rfl ?_
  refine o_assign (v := .v (.int .i64 r1.1.2)) (by decide) rfl ?_
  refine run_nil ?_
  replace hS := hS.keep (L' := []) [false] rfl
  refine w_next [(4, .sl .no 2 (r1.1.1.map Reading_.cells)), (5, .v (.int .i64 r1.1.2))] (.cons (.refl _) (.cons (.refl _) .nil)) ?_
  refine r_seq ?_
  refine r_region (n := 5) rfl ?_
  refine o_move (v := .sl .no 2 (r1.1.1.map Reading_.cells)) (by decide) rfl ?_
  refine o_len (n := r1.1.1.length) (by decide) rfl (List.length_map _) ty_isl72 ?_
  refine o_move (v := .v (.int .i64 r1.1.2)) (by decide) rfl ?_
  refine o_assign (v := .v (.int .i64 (r1.1.1.length : Int))) (by decide) rfl ?_
  refine o_assign (v := .v (.int .i64 r1.1.2)) (by decide) rfl ?_
  refine run_nil ?_
  refine w_next [(2, .v (.int .i64 (r1.1.1.length : Int))), (3, .v (.int .i64 r1.1.2))] (.cons (.refl _) (.cons (.refl _) .nil)) ?_
  refine r_ret ?_
  refine w_end (x := .tup [.v (.int .i64 (r1.1.1.length : Int)), .v (.int .i64 r1.1.2)]) (f := fun r => .tup [.v (.int .i64 r.1), .v (.int .i64 r.2)]) (.inr rfl) ?_ (.refl _) (Option.some.inj hM) hS
  exact (res_two (res_tmp (x := .v (.int .i64 (r1.1.1.length : Int))) rfl) (res_tmp (x := .v (.int .i64 r1.1.2)) rfl))
end Go.Proofs.Ytekplngjaddccaa
