/-
  The code returns what the functions say (printed by gen.py).
  Conditions: none.
-/
import Derived.Test.YtekplngjaddccaaWkPulsesMoved2
set_option linter.all false
namespace Go.Proofs.Ytekplngjaddccaa
open Go Go.AM Go.Law
set_option linter.unusedVariables false
set_option maxRecDepth 4000
set_option maxHeartbeats 4000000
theorem W_law13_PulsesMoved {n : Nat} {a0 : Pulse} {a1 : Int} {a2 : Int} {r : Bool} (hM : law13_PulsesMoved n a0 a1 a2 = some r) : PureSat Try.prog 11 [.agg [.v (.int .i64 a0.Letters), .v (.int .i64 a0.Numbers), .v (.int .i64 a0.Pitch), .v (.int .i64 a0.Slack), .v (.int .i64 a0.Gap), .v (.int .i64 a0.Pause), .v (.int .i64 a0.Sparks), .sl .no 1 (a0.Times.map cI)], .v (.int .i64 a1), .v (.int .i64 a2)] (.v (.bool r)) := by
  refine pure_of_wp mixed Try.func11 rfl (by decide) Try.ntmps11 (by simp) ?pure fun H0 g hf => ?_
  case pure => exact .v _
  rw [frame0_of]
  change wpA _ _ _ _ (Fr.of [(0, .agg [.v (.int .i64 a0.Letters), .v (.int .i64 a0.Numbers), .v (.int .i64 a0.Pitch), .v (.int .i64 a0.Slack), .v (.int .i64 a0.Gap), .v (.int .i64 a0.Pause), .v (.int .i64 a0.Sparks), .sl .no 1 (a0.Times.map cI)]), (1, .v (.int .i64 a1)), (2, .v (.int .i64 a2))]) H0 g
  have hS := St.start hf
  refine r_seq ?_
  refine r_region (n := 2) rfl ?_
  refine o_box (v := .agg [.v (.int .i64 a0.Letters), .v (.int .i64 a0.Numbers), .v (.int .i64 a0.Pitch), .v (.int .i64 a0.Slack), .v (.int .i64 a0.Gap), .v (.int .i64 a0.Pause), .v (.int .i64 a0.Sparks), .sl .no 1 (a0.Times.map cI)]) (cs := [.v (.int .i64 a0.Letters), .v (.int .i64 a0.Numbers), .v (.int .i64 a0.Pitch), .v (.int .i64 a0.Slack), .v (.int .i64 a0.Gap), .v (.int .i64 a0.Pause), .v (.int .i64 a0.Sparks), .sl .no 1 (a0.Times.map cI)]) hS (by decide) rfl rfl (by omega) fun H hS => ?_
  refine o_assign (v := .v (.bool false)) (by decide) rfl ?_
  refine run_nil ?_
  refine w_next [(1, .v (.int .i64 a1)), (2, .v (.int .i64 a2)), (3, .ptr (g + 0) 0)] (.cons (.refl _) (.cons (.refl _) (.cons (.refl _) .nil))) ?_
  refine r_seq ?_
  refine w_join (J := Bool) (fun j => [(1, .v (.int .i64 a1)), (2, .v (.int .i64 a2)), (3, .ptr (g + 0) 0), (35, .v (.bool j))]) (fun j H' g' => St (· < g) H0 [(g + 0, .cells [.v (.int .i64 a0.Letters), .v (.int .i64 a0.Numbers), .v (.int .i64 a0.Pitch), .v (.int .i64 a0.Slack), .v (.int .i64 a0.Gap), .v (.int .i64 a0.Pause), .v (.int .i64 a0.Sparks), .sl .no 1 (a0.Times.map cI)])] H' g' ∧ law13_PulsesMoved_j1 n a0 a1 a2 j = some r) ?_ ?_
  · rintro v1 H g1 ⟨hS, hM⟩
    change wpA _ _ _ _ (Fr.of [(1, .v (.int .i64 a1)), (2, .v (.int .i64 a2)), (3, .ptr (g + 0) 0), (35, .v (.bool v1))]) _ _
    replace hS : St (· < g) H0 [(g + 0, .cells [.v (.int .i64 a0.Letters), .v (.int .i64 a0.Numbers), .v (.int .i64 a0.Pitch), .v (.int .i64 a0.Slack), .v (.int .i64 a0.Gap), .v (.int .i64 a0.Pause), .v (.int .i64 a0.Sparks), .sl .no 1 (a0.Times.map cI)])] H g1 := hS
    replace hM : law13_PulsesMoved_j1 n a0 a1 a2 v1 = some r := hM
    rcases Bool.eq_false_or_eq_true v1 with hb2 | hb2
    · replace hM := ifT hM hb2
      refine w_condT (e := v1) rfl hb2 ?_
      refine r_seq ?_
      refine r_region (n := 2) rfl ?_
      obtain ⟨r3, hr3, hM⟩ := bindE hM
      refine o_call (bs := []) (by decide) rfl rfl ((W_law13_works hr3).le .nil) ?_
      refine o_assign (v := .v (.bool r3)) (by decide) rfl ?_
      refine run_nil ?_
      replace hS := hS.keep (L' := []) [false] rfl
      refine w_next [(6, .v (.bool r3))] (.cons (.refl _) .nil) ?_
      refine r_ret ?_
      refine r_then_ret ?_
      refine w_end (x := .v (.bool r3)) (f := fun r => .v (.bool r)) (.inr rfl) ?_ (.refl _) (Option.some.inj hM) hS
      exact (res_one (res_tmp (x := .v (.bool r3)) rfl))
    · replace hM := ifF hM hb2
      refine w_condF (e := v1) rfl hb2 ?_
      refine r_skip ?_
      refine w_next [(1, .v (.int .i64 a1)), (2, .v (.int .i64 a2)), (3, .ptr (g + 0) 0)] (.cons (.refl _) (.cons (.refl _) (.cons (.refl _) .nil))) ?_
      refine r_seq ?_
      refine r_region (n := 4) rfl ?_
      refine o_load (v := .agg [.v (.int .i64 a0.Letters), .v (.int .i64 a0.Numbers), .v (.int .i64 a0.Pitch), .v (.int .i64 a0.Slack), .v (.int .i64 a0.Gap), .v (.int .i64 a0.Pause), .v (.int .i64 a0.Sparks), .sl .no 1 (a0.Times.map cI)]) 0 hS (by decide) rfl rfl .no (part_agg ty_agg24 (Nat.le_of_ble_eq_true rfl) rfl) ?_
      obtain ⟨r4, hr4, hM⟩ := bindE hM
      refine o_thaw (mk := (aggAt [.v (.int .i64 r4.Letters), .v (.int .i64 r4.Numbers), .v (.int .i64 r4.Pitch), .v (.int .i64 r4.Slack), .v (.int .i64 r4.Gap), .v (.int .i64 r4.Pause), .v (.int .i64 r4.Sparks)] [])) (k := 1) (e := 3) (es := (r4.Times.map cI)) (bs := [.agg [.v (.int .i64 a0.Letters), .v (.int .i64 a0.Numbers), .v (.int .i64 a0.Pitch), .v (.int .i64 a0.Slack), .v (.int .i64 a0.Gap), .v (.int .i64 a0.Pause), .v (.int .i64 a0.Sparks), .sl .no 1 (a0.Times.map cI)]]) hS (by decide) rfl rfl ((WO_ref13_Copy hr4).le (.cons (.refl _) .nil)) (aggAt_ok (fl_cons (fl_cons (fl_cons (fl_cons (fl_cons (fl_cons (fl_cons fl_nil))))))) fl_nil) (pl_cons (.agg _ (pl_cons (.v _) (pl_cons (.v _) (pl_cons (.v _) (pl_cons (.v _) (pl_cons (.v _) (pl_cons (.v _) (pl_cons (.v _) (pl_cons (.sl _ _ (pures_map (fun x => (pl_cons (.v _) pl_nil)))) pl_nil))))))))) pl_nil) (fl_map (fun x => (fl_cons fl_nil))) (List.length_map _) (by omega) fun H hS => ?_
      refine o_alloc hS (by decide) ty_zero24 (by omega) fun H hS => ?_
      refine o_store (v := .agg [.v (.int .i64 r4.Letters), .v (.int .i64 r4.Numbers), .v (.int .i64 r4.Pitch), .v (.int .i64 r4.Slack), .v (.int .i64 r4.Gap), .v (.int .i64 r4.Pause), .v (.int .i64 r4.Sparks), msn (g1 + 1) 1 r4.Times.length]) (ns := [.v (.int .i64 r4.Letters), .v (.int .i64 r4.Numbers), .v (.int .i64 r4.Pitch), .v (.int .i64 r4.Slack), .v (.int .i64 r4.Gap), .v (.int .i64 r4.Pause), .v (.int .i64 r4.Sparks), msn (g1 + 1) 1 r4.Times.length]) (L' := ([(g1 + 2, .cells [.v (.int .i64 r4.Letters), .v (.int .i64 r4.Numbers), .v (.int .i64 r4.Pitch), .v (.int .i64 r4.Slack), .v (.int .i64 r4.Gap), .v (.int .i64 r4.Pause), .v (.int .i64 r4.Sparks), msn (g1 + 1) 1 r4.Times.length]), (g + 0, .cells [.v (.int .i64 a0.Letters), .v (.int .i64 a0.Numbers), .v (.int .i64 a0.Pitch), .v (.int .i64 a0.Slack), .v (.int .i64 a0.Gap), .v (.int .i64 a0.Pause), .v (.int .i64 a0.Sparks), .sl .no 1 (a0.Times.map cI)])] ++ thawN (g1 + 1) r4.Times.length (r4.Times.map cI))) 0 hS rfl rfl .no rfl rfl ty_var24 (Nat.le_of_ble_eq_true rfl) rfl fun H hS => ?_
      refine run_nil ?_
      refine w_next [(1, .v (.int .i64 a1)), (2, .v (.int .i64 a2)), (3, .ptr (g + 0) 0), (7, .ptr (g1 + 2) 0)] (.cons (.refl _) (.cons (.refl _) (.cons (.refl _) (.cons (.refl _) .nil)))) ?_
      refine w_joinD (J := (List Int)) (fun j => [(2, .v (.int .i64 a2)), (3, .ptr (g + 0) 0), (7, .ptr (g1 + 2) 0)]) (fun j H' g' => St (· < g) H0 [(g1 + 2, .cells [.v (.int .i64 r4.Letters), .v (.int .i64 r4.Numbers), .v (.int .i64 r4.Pitch), .v (.int .i64 r4.Slack), .v (.int .i64 r4.Gap), .v (.int .i64 r4.Pause), .v (.int .i64 r4.Sparks), .sl .no 1 (j.map cI)]), (g + 0, .cells [.v (.int .i64 a0.Letters), .v (.int .i64 a0.Numbers), .v (.int .i64 a0.Pitch), .v (.int .i64 a0.Slack), .v (.int .i64 a0.Gap), .v (.int .i64 a0.Pause), .v (.int .i64 a0.Sparks), .sl .no 1 (a0.Times.map cI)])] H' g' ∧ law13_PulsesMoved_j2 n a0 a2 r4 j = some r) ?_ ?_
      · rintro v5 H g2 ⟨hS, hM⟩
        change wpA _ _ _ _ (Fr.of [(2, .v (.int .i64 a2)), (3, .ptr (g + 0) 0), (7, .ptr (g1 + 2) 0)]) _ _
        replace hS : St (· < g) H0 [(g1 + 2, .cells [.v (.int .i64 r4.Letters), .v (.int .i64 r4.Numbers), .v (.int .i64 r4.Pitch), .v (.int .i64 r4.Slack), .v (.int .i64 r4.Gap), .v (.int .i64 r4.Pause), .v (.int .i64 r4.Sparks), .sl .no 1 (v5.map cI)]), (g + 0, .cells [.v (.int .i64 a0.Letters), .v (.int .i64 a0.Numbers), .v (.int .i64 a0.Pitch), .v (.int .i64 a0.Slack), .v (.int .i64 a0.Gap), .v (.int .i64 a0.Pause), .v (.int .i64 a0.Sparks), .sl .no 1 (a0.Times.map cI)])] H g2 := hS
        replace hM : law13_PulsesMoved_j2 n a0 a2 r4 v5 = some r := hM
        refine r_seq ?_
        refine r_seq ?_
        refine r_region (n := 3) rfl ?_
        refine o_load (v := .agg [.v (.int .i64 r4.Letters), .v (.int .i64 r4.Numbers), .v (.int .i64 r4.Pitch), .v (.int .i64 r4.Slack), .v (.int .i64 r4.Gap), .v (.int .i64 r4.Pause), .v (.int .i64 r4.Sparks), .sl .no 1 (v5.map cI)]) 0 hS (by decide) rfl rfl .no (part_agg ty_agg24 (Nat.le_of_ble_eq_true rfl) rfl) ?_
        obtain ⟨r6, hr6, hM⟩ := bindE hM
        refine o_call (bs := [.agg [.v (.int .i64 r4.Letters), .v (.int .i64 r4.Numbers), .v (.int .i64 r4.Pitch), .v (.int .i64 r4.Slack), .v (.int .i64 r4.Gap), .v (.int .i64 r4.Pause), .v (.int .i64 r4.Sparks), .sl .no 1 (v5.map cI)]]) (by decide) rfl rfl ((W_law13_ready hr6).le (.cons (.refl _) .nil)) ?_
        refine o_not (e := r6) (by decide) rfl ?_
        refine run_nil ?_
        refine w_next [(2, .v (.int .i64 a2)), (3, .ptr (g + 0) 0), (7, .ptr (g1 + 2) 0), (56, .v (.bool (!r6)))] (.cons (.refl _) (.cons (.refl _) (.cons (.refl _) (.cons (.refl _) .nil)))) ?_
        rcases Bool.eq_false_or_eq_true (!r6) with hb7 | hb7
        · replace hM := ifT hM hb7
          refine w_condT (e := (!r6)) rfl hb7 ?_
          refine r_seq ?_
          refine r_region (n := 2) rfl ?_
          obtain ⟨r8, hr8, hM⟩ := bindE hM
          refine o_call (bs := []) (by decide) rfl rfl ((W_law13_works hr8).le .nil) ?_
          refine o_assign (v := .v (.bool r8)) (by decide) rfl ?_
          refine run_nil ?_
          replace hS := hS.keep (L' := []) [false, false] rfl
          refine w_next [(6, .v (.bool r8))] (.cons (.refl _) .nil) ?_
          refine r_ret ?_
          refine r_then_ret ?_
          refine w_end (x := .v (.bool r8)) (f := fun r => .v (.bool r)) (.inr rfl) ?_ (.refl _) (Option.some.inj hM) hS
          exact (res_one (res_tmp (x := .v (.bool r8)) rfl))
        · replace hM := ifF hM hb7
          refine w_condF (e := (!r6)) rfl hb7 ?_
          refine r_skip ?_
          refine w_next [(2, .v (.int .i64 a2)), (3, .ptr (g + 0) 0), (7, .ptr (g1 + 2) 0)] (.cons (.refl _) (.cons (.refl _) (.cons (.refl _) .nil))) ?_
          refine r_seq ?_
          refine r_region (n := 7) rfl ?_
          refine o_load (v := .agg [.v (.int .i64 a0.Letters), .v (.int .i64 a0.Numbers), .v (.int .i64 a0.Pitch), .v (.int .i64 a0.Slack), .v (.int .i64 a0.Gap), .v (.int .i64 a0.Pause), .v (.int .i64 a0.Sparks), .sl .no 1 (a0.Times.map cI)]) 1 hS (by decide) rfl rfl .no (part_agg ty_agg24 (Nat.le_of_ble_eq_true rfl) rfl) ?_
          obtain ⟨r9, hr9, hM⟩ := bindE hM
          refine o_call (bs := [.agg [.v (.int .i64 a0.Letters), .v (.int .i64 a0.Numbers), .v (.int .i64 a0.Pitch), .v (.int .i64 a0.Slack), .v (.int .i64 a0.Gap), .v (.int .i64 a0.Pause), .v (.int .i64 a0.Sparks), .sl .no 1 (a0.Times.map cI)]]) (by decide) rfl rfl ((W_pulses_Fewest hr9).le (.cons (.refl _) .nil)) ?_
          refine o_move (v := .tup [.v (.int .i64 r9.1), .v (.int .i64 r9.2)]) (by decide) rfl ?_
          refine o_extract (v := .v (.int .i64 r9.1)) (by decide) rfl rfl ?_
          refine o_extract (v := .v (.int .i64 r9.2)) (by decide) rfl rfl ?_
          refine o_assign (v := .v (.int .i64 r9.1)) (by decide) rfl ?_
          refine o_assign (v := .v (.int .i64 r9.2)) (by decide) rfl ?_
          refine run_nil ?_
          refine w_next [(2, .v (.int .i64 a2)), (3, .ptr (g + 0) 0), (7, .ptr (g1 + 2) 0), (9, .v (.int .i64 r9.1)), (10, .v (.int .i64 r9.2))] (.cons (.refl _) (.cons (.refl _) (.cons (.refl _) (.cons (.refl _) (.cons (.refl _) .nil))))) ?_
          refine r_seq ?_
          refine r_region (n := 7) rfl ?_
          refine o_load (v := .agg [.v (.int .i64 r4.Letters), .v (.int .i64 r4.Numbers), .v (.int .i64 r4.Pitch), .v (.int .i64 r4.Slack), .v (.int .i64 r4.Gap), .v (.int .i64 r4.Pause), .v (.int .i64 r4.Sparks), .sl .no 1 (v5.map cI)]) 0 hS (by decide) rfl rfl .no (part_agg ty_agg24 (Nat.le_of_ble_eq_true rfl) rfl) ?_
          obtain ⟨r10, hr10, hM⟩ := bindE hM
          refine o_call (bs := [.agg [.v (.int .i64 r4.Letters), .v (.int .i64 r4.Numbers), .v (.int .i64 r4.Pitch), .v (.int .i64 r4.Slack), .v (.int .i64 r4.Gap), .v (.int .i64 r4.Pause), .v (.int .i64 r4.Sparks), .sl .no 1 (v5.map cI)]]) (by decide) rfl rfl ((W_pulses_Fewest hr10).le (.cons (.refl _) .nil)) ?_
          refine o_move (v := .tup [.v (.int .i64 r10.1), .v (.int .i64 r10.2)]) (by decide) rfl ?_
          refine o_extract (v := .v (.int .i64 r10.1)) (by decide) rfl rfl ?_
          refine o_extract (v := .v (.int .i64 r10.2)) (by decide) rfl rfl ?_
          refine o_assign (v := .v (.int .i64 r10.1)) (by decide) rfl ?_
          refine o_assign (v := .v (.int .i64 r10.2)) (by decide) rfl ?_
          refine run_nil ?_
          refine w_next [(2, .v (.int .i64 a2)), (3, .ptr (g + 0) 0), (7, .ptr (g1 + 2) 0), (9, .v (.int .i64 r9.1)), (10, .v (.int .i64 r9.2)), (11, .v (.int .i64 r10.1)), (12, .v (.int .i64 r10.2))] (.cons (.refl _) (.cons (.refl _) (.cons (.refl _) (.cons (.refl _) (.cons (.refl _) (.cons (.refl _) (.cons (.refl _) .nil))))))) ?_
          refine r_seq ?_
          refine r_region (n := 7) rfl ?_
          refine o_load (v := .agg [.v (.int .i64 a0.Letters), .v (.int .i64 a0.Numbers), .v (.int .i64 a0.Pitch), .v (.int .i64 a0.Slack), .v (.int .i64 a0.Gap), .v (.int .i64 a0.Pause), .v (.int .i64 a0.Sparks), .sl .no 1 (a0.Times.map cI)]) 1 hS (by decide) rfl rfl .no (part_agg ty_agg24 (Nat.le_of_ble_eq_true rfl) rfl) ?_
          obtain ⟨r11, hr11, hM⟩ := bindE hM
          refine o_call (bs := [.agg [.v (.int .i64 a0.Letters), .v (.int .i64 a0.Numbers), .v (.int .i64 a0.Pitch), .v (.int .i64 a0.Slack), .v (.int .i64 a0.Gap), .v (.int .i64 a0.Pause), .v (.int .i64 a0.Sparks), .sl .no 1 (a0.Times.map cI)]]) (by decide) rfl rfl ((W_pulses_Many hr11).le (.cons (.refl _) .nil)) ?_
          refine o_move (v := .tup [.v (.int .i64 r11.1), .v (.int .i64 r11.2)]) (by decide) rfl ?_
          refine o_extract (v := .v (.int .i64 r11.1)) (by decide) rfl rfl ?_
          refine o_extract (v := .v (.int .i64 r11.2)) (by decide) rfl rfl ?_
          refine o_assign (v := .v (.int .i64 r11.1)) (by decide) rfl ?_
          refine o_assign (v := .v (.int .i64 r11.2)) (by decide) rfl ?_
          refine run_nil ?_
          refine w_next [(2, .v (.int .i64 a2)), (3, .ptr (g + 0) 0), (7, .ptr (g1 + 2) 0), (9, .v (.int .i64 r9.1)), (10, .v (.int .i64 r9.2)), (11, .v (.int .i64 r10.1)), (12, .v (.int .i64 r10.2)), (13, .v (.int .i64 r11.1)), (14, .v (.int .i64 r11.2))] (.cons (.refl _) (.cons (.refl _) (.cons (.refl _) (.cons (.refl _) (.cons (.refl _) (.cons (.refl _) (.cons (.refl _) (.cons (.refl _) (.cons (.refl _) .nil))))))))) ?_
          refine r_seq ?_
          refine r_region (n := 7) rfl ?_
          refine o_load (v := .agg [.v (.int .i64 r4.Letters), .v (.int .i64 r4.Numbers), .v (.int .i64 r4.Pitch), .v (.int .i64 r4.Slack), .v (.int .i64 r4.Gap), .v (.int .i64 r4.Pause), .v (.int .i64 r4.Sparks), .sl .no 1 (v5.map cI)]) 0 hS (by decide) rfl rfl .no (part_agg ty_agg24 (Nat.le_of_ble_eq_true rfl) rfl) ?_
          obtain ⟨r12, hr12, hM⟩ := bindE hM
          refine o_call (bs := [.agg [.v (.int .i64 r4.Letters), .v (.int .i64 r4.Numbers), .v (.int .i64 r4.Pitch), .v (.int .i64 r4.Slack), .v (.int .i64 r4.Gap), .v (.int .i64 r4.Pause), .v (.int .i64 r4.Sparks), .sl .no 1 (v5.map cI)]]) (by decide) rfl rfl ((W_pulses_Many hr12).le (.cons (.refl _) .nil)) ?_
          refine o_move (v := .tup [.v (.int .i64 r12.1), .v (.int .i64 r12.2)]) (by decide) rfl ?_
          refine o_extract (v := .v (.int .i64 r12.1)) (by decide) rfl rfl ?_
          refine o_extract (v := .v (.int .i64 r12.2)) (by decide) rfl rfl ?_
          refine o_assign (v := .v (.int .i64 r12.1)) (by decide) rfl ?_
          refine o_assign (v := .v (.int .i64 r12.2)) (by decide) rfl ?_
          refine run_nil ?_
          refine w_next [(2, .v (.int .i64 a2)), (3, .ptr (g + 0) 0), (7, .ptr (g1 + 2) 0), (9, .v (.int .i64 r9.1)), (10, .v (.int .i64 r9.2)), (11, .v (.int .i64 r10.1)), (12, .v (.int .i64 r10.2)), (13, .v (.int .i64 r11.1)), (14, .v (.int .i64 r11.2)), (15, .v (.int .i64 r12.1)), (16, .v (.int .i64 r12.2))] (.cons (.refl _) (.cons (.refl _) (.cons (.refl _) (.cons (.refl _) (.cons (.refl _) (.cons (.refl _) (.cons (.refl _) (.cons (.refl _) (.cons (.refl _) (.cons (.refl _) (.cons (.refl _) .nil))))))))))) ?_
          refine r_seq ?_
          refine w_join (J := Bool) (fun j => [(2, .v (.int .i64 a2)), (3, .ptr (g + 0) 0), (7, .ptr (g1 + 2) 0), (95, .v (.bool j))]) (fun j H' g' => St (· < g) H0 [(g1 + 2, .cells [.v (.int .i64 r4.Letters), .v (.int .i64 r4.Numbers), .v (.int .i64 r4.Pitch), .v (.int .i64 r4.Slack), .v (.int .i64 r4.Gap), .v (.int .i64 r4.Pause), .v (.int .i64 r4.Sparks), .sl .no 1 (v5.map cI)]), (g + 0, .cells [.v (.int .i64 a0.Letters), .v (.int .i64 a0.Numbers), .v (.int .i64 a0.Pitch), .v (.int .i64 a0.Slack), .v (.int .i64 a0.Gap), .v (.int .i64 a0.Pause), .v (.int .i64 a0.Sparks), .sl .no 1 (a0.Times.map cI)])] H' g' ∧ law13_PulsesMoved_j3 n a0 a2 r4 v5 j = some r) ?_ ?_
          · rintro v13 H g3 ⟨hS, hM⟩
            change wpA _ _ _ _ (Fr.of [(2, .v (.int .i64 a2)), (3, .ptr (g + 0) 0), (7, .ptr (g1 + 2) 0), (95, .v (.bool v13))]) _ _
            replace hS : St (· < g) H0 [(g1 + 2, .cells [.v (.int .i64 r4.Letters), .v (.int .i64 r4.Numbers), .v (.int .i64 r4.Pitch), .v (.int .i64 r4.Slack), .v (.int .i64 r4.Gap), .v (.int .i64 r4.Pause), .v (.int .i64 r4.Sparks), .sl .no 1 (v5.map cI)]), (g + 0, .cells [.v (.int .i64 a0.Letters), .v (.int .i64 a0.Numbers), .v (.int .i64 a0.Pitch), .v (.int .i64 a0.Slack), .v (.int .i64 a0.Gap), .v (.int .i64 a0.Pause), .v (.int .i64 a0.Sparks), .sl .no 1 (a0.Times.map cI)])] H g3 := hS
            replace hM : law13_PulsesMoved_j3 n a0 a2 r4 v5 v13 = some r := hM
            rcases Bool.eq_false_or_eq_true v13 with hb14 | hb14
            · replace hM := ifT hM hb14
              refine w_condT (e := v13) rfl hb14 ?_
              refine r_seq ?_
              refine r_region (n := 1) rfl ?_
              refine o_assign (v := .v (.bool false)) (by decide) rfl ?_
              refine run_nil ?_
              replace hS := hS.keep (L' := []) [false, false] rfl
              refine w_next [(6, .v (.bool false))] (.cons (.refl _) .nil) ?_
              refine r_ret ?_
              refine r_then_ret ?_
              refine w_end (x := .v (.bool false)) (f := fun r => .v (.bool r)) (.inr rfl) ?_ (.refl _) (Option.some.inj hM) hS
              exact (res_one (res_tmp (x := .v (.bool false)) rfl))
            · replace hM := ifF hM hb14
              refine w_condF (e := v13) rfl hb14 ?_
              refine r_skip ?_
              refine w_next [(2, .v (.int .i64 a2)), (3, .ptr (g + 0) 0), (7, .ptr (g1 + 2) 0)] (.cons (.refl _) (.cons (.refl _) (.cons (.refl _) .nil))) ?_
              refine r_seq ?_
              refine r_region (n := 7) rfl ?_
              refine o_load (v := .agg [.v (.int .i64 a0.Letters), .v (.int .i64 a0.Numbers), .v (.int .i64 a0.Pitch), .v (.int .i64 a0.Slack), .v (.int .i64 a0.Gap), .v (.int .i64 a0.Pause), .v (.int .i64 a0.Sparks), .sl .no 1 (a0.Times.map cI)]) 1 hS (by decide) rfl rfl .no (part_agg ty_agg24 (Nat.le_of_ble_eq_true rfl) rfl) ?_
              obtain ⟨r15, hr15, hM⟩ := bindE hM
              refine o_call (bs := [.agg [.v (.int .i64 a0.Letters), .v (.int .i64 a0.Numbers), .v (.int .i64 a0.Pitch), .v (.int .i64 a0.Slack), .v (.int .i64 a0.Gap), .v (.int .i64 a0.Pause), .v (.int .i64 a0.Sparks), .sl .no 1 (a0.Times.map cI)]]) (by decide) rfl rfl ((W_pulses_Read hr15).le (.cons (.refl _) .nil)) ?_
              refine o_move (v := .tup [.sl .no 1 (r15.1.map cI), .v (.int .i64 r15.2)]) (by decide) rfl ?_
              refine o_extract (v := .sl .no 1 (r15.1.map cI)) (by decide) rfl rfl ?_
              refine o_extract (v := .v (.int .i64 r15.2)) (by decide) rfl rfl ?_
              refine o_assign (v := .sl .no 1 (r15.1.map cI)) (by decide) rfl ?_
              refine o_assign (v := .v (.int .i64 r15.2)) (by decide) rfl ?_
              refine run_nil ?_
              refine w_next [(2, .v (.int .i64 a2)), (3, .ptr (g + 0) 0), (7, .ptr (g1 + 2) 0), (10, .v (.int .i64 r15.2)), (17, .sl .no 1 (r15.1.map cI))] (.cons (.refl _) (.cons (.refl _) (.cons (.refl _) (.cons (.refl _) (.cons (.refl _) .nil))))) ?_
              refine r_seq ?_
              refine r_region (n := 7) rfl ?_
              refine o_load (v := .agg [.v (.int .i64 r4.Letters), .v (.int .i64 r4.Numbers), .v (.int .i64 r4.Pitch), .v (.int .i64 r4.Slack), .v (.int .i64 r4.Gap), .v (.int .i64 r4.Pause), .v (.int .i64 r4.Sparks), .sl .no 1 (v5.map cI)]) 0 hS (by decide) rfl rfl .no (part_agg ty_agg24 (Nat.le_of_ble_eq_true rfl) rfl) ?_
              obtain ⟨r16, hr16, hM⟩ := bindE hM
              refine o_call (bs := [.agg [.v (.int .i64 r4.Letters), .v (.int .i64 r4.Numbers), .v (.int .i64 r4.Pitch), .v (.int .i64 r4.Slack), .v (.int .i64 r4.Gap), .v (.int .i64 r4.Pause), .v (.int .i64 r4.Sparks), .sl .no 1 (v5.map cI)]]) (by decide) rfl rfl ((W_pulses_Read hr16).le (.cons (.refl _) .nil)) ?_
              refine o_move (v := .tup [.sl .no 1 (r16.1.map cI), .v (.int .i64 r16.2)]) (by decide) rfl ?_
              refine o_extract (v := .sl .no 1 (r16.1.map cI)) (by decide) rfl rfl ?_
              refine o_extract (v := .v (.int .i64 r16.2)) (by decide) rfl rfl ?_
              refine o_assign (v := .sl .no 1 (r16.1.map cI)) (by decide) rfl ?_
              refine o_assign (v := .v (.int .i64 r16.2)) (by decide) rfl ?_
              refine run_nil ?_
              refine w_next [(2, .v (.int .i64 a2)), (3, .ptr (g + 0) 0), (7, .ptr (g1 + 2) 0), (10, .v (.int .i64 r15.2)), (12, .v (.int .i64 r16.2)), (17, .sl .no 1 (r15.1.map cI)), (18, .sl .no 1 (r16.1.map cI))] (.cons (.refl _) (.cons (.refl _) (.cons (.refl _) (.cons (.refl _) (.cons (.refl _) (.cons (.refl _) (.cons (.refl _) .nil))))))) ?_
              refine r_seq ?_
              refine r_region (n := 9) rfl ?_
              refine o_load (v := .agg [.v (.int .i64 a0.Letters), .v (.int .i64 a0.Numbers), .v (.int .i64 a0.Pitch), .v (.int .i64 a0.Slack), .v (.int .i64 a0.Gap), .v (.int .i64 a0.Pause), .v (.int .i64 a0.Sparks), .sl .no 1 (a0.Times.map cI)]) 1 hS (by decide) rfl rfl .no (part_agg ty_agg24 (Nat.le_of_ble_eq_true rfl) rfl) ?_
              refine o_move (v := .v (.int .i64 a2)) (by decide) rfl ?_
              obtain ⟨r17, hr17, hM⟩ := bindE hM
              refine o_call (bs := [.agg [.v (.int .i64 a0.Letters), .v (.int .i64 a0.Numbers), .v (.int .i64 a0.Pitch), .v (.int .i64 a0.Slack), .v (.int .i64 a0.Gap), .v (.int .i64 a0.Pause), .v (.int .i64 a0.Sparks), .sl .no 1 (a0.Times.map cI)], .v (.int .i64 a2)]) (by decide) rfl rfl ((W_pulses_Asked hr17).le (.cons (.refl _) (.cons (.refl _) .nil))) ?_
              refine o_move (v := .tup [.agg [.v (.int .i64 r17.1.Low), .v (.int .i64 r17.1.High)], .v (.int .i64 r17.2)]) (by decide) rfl ?_
              refine o_extract (v := .agg [.v (.int .i64 r17.1.Low), .v (.int .i64 r17.1.High)]) (by decide) rfl rfl ?_
              refine o_extract (v := .v (.int .i64 r17.2)) (by decide) rfl rfl ?_
              refine o_alloc hS (by decide) ty_zero44 (by omega) fun H hS => ?_
              refine o_store (v := .agg [.v (.int .i64 r17.1.Low), .v (.int .i64 r17.1.High)]) (ns := [.v (.int .i64 r17.1.Low), .v (.int .i64 r17.1.High)]) (L' := [(g3 + 7 + 7 + 6, .cells [.v (.int .i64 r17.1.Low), .v (.int .i64 r17.1.High)]), (g1 + 2, .cells [.v (.int .i64 r4.Letters), .v (.int .i64 r4.Numbers), .v (.int .i64 r4.Pitch), .v (.int .i64 r4.Slack), .v (.int .i64 r4.Gap), .v (.int .i64 r4.Pause), .v (.int .i64 r4.Sparks), .sl .no 1 (v5.map cI)]), (g + 0, .cells [.v (.int .i64 a0.Letters), .v (.int .i64 a0.Numbers), .v (.int .i64 a0.Pitch), .v (.int .i64 a0.Slack), .v (.int .i64 a0.Gap), .v (.int .i64 a0.Pause), .v (.int .i64 a0.Sparks), .sl .no 1 (a0.Times.map cI)])]) 0 hS rfl rfl .no rfl rfl ty_var44 (Nat.le_of_ble_eq_true rfl) rfl fun H hS => ?_
              refine o_assign (v := .v (.int .i64 r17.2)) (by decide) rfl ?_
              refine run_nil ?_
              refine w_next [(2, .v (.int .i64 a2)), (3, .ptr (g + 0) 0), (7, .ptr (g1 + 2) 0), (10, .v (.int .i64 r15.2)), (12, .v (.int .i64 r16.2)), (14, .v (.int .i64 r17.2)), (17, .sl .no 1 (r15.1.map cI)), (18, .sl .no 1 (r16.1.map cI)), (19, .ptr (g3 + 7 + 7 + 6) 0)] (.cons (.refl _) (.cons (.refl _) (.cons (.refl _) (.cons (.refl _) (.cons (.refl _) (.cons (.refl _) (.cons (.refl _) (.cons (.refl _) (.cons (.refl _) .nil))))))))) ?_
              refine r_seq ?_
              refine r_region (n := 9) rfl ?_
              refine o_load (v := .agg [.v (.int .i64 r4.Letters), .v (.int .i64 r4.Numbers), .v (.int .i64 r4.Pitch), .v (.int .i64 r4.Slack), .v (.int .i64 r4.Gap), .v (.int .i64 r4.Pause), .v (.int .i64 r4.Sparks), .sl .no 1 (v5.map cI)]) 1 hS (by decide) rfl rfl .no (part_agg ty_agg24 (Nat.le_of_ble_eq_true rfl) rfl) ?_
              refine o_move (v := .v (.int .i64 a2)) (by decide) rfl ?_
              obtain ⟨r18, hr18, hM⟩ := bindE hM
              refine o_call (bs := [.agg [.v (.int .i64 r4.Letters), .v (.int .i64 r4.Numbers), .v (.int .i64 r4.Pitch), .v (.int .i64 r4.Slack), .v (.int .i64 r4.Gap), .v (.int .i64 r4.Pause), .v (.int .i64 r4.Sparks), .sl .no 1 (v5.map cI)], .v (.int .i64 a2)]) (by decide) rfl rfl ((W_pulses_Asked hr18).le (.cons (.refl _) (.cons (.refl _) .nil))) ?_
              refine o_move (v := .tup [.agg [.v (.int .i64 r18.1.Low), .v (.int .i64 r18.1.High)], .v (.int .i64 r18.2)]) (by decide) rfl ?_
              refine o_extract (v := .agg [.v (.int .i64 r18.1.Low), .v (.int .i64 r18.1.High)]) (by decide) rfl rfl ?_
              refine o_extract (v := .v (.int .i64 r18.2)) (by decide) rfl rfl ?_
              refine o_alloc hS (by decide) ty_zero44 (by omega) fun H hS => ?_
              refine o_store (v := .agg [.v (.int .i64 r18.1.Low), .v (.int .i64 r18.1.High)]) (ns := [.v (.int .i64 r18.1.Low), .v (.int .i64 r18.1.High)]) (L' := [(g3 + 7 + 7 + 9 + 6, .cells [.v (.int .i64 r18.1.Low), .v (.int .i64 r18.1.High)]), (g3 + 7 + 7 + 6, .cells [.v (.int .i64 r17.1.Low), .v (.int .i64 r17.1.High)]), (g1 + 2, .cells [.v (.int .i64 r4.Letters), .v (.int .i64 r4.Numbers), .v (.int .i64 r4.Pitch), .v (.int .i64 r4.Slack), .v (.int .i64 r4.Gap), .v (.int .i64 r4.Pause), .v (.int .i64 r4.Sparks), .sl .no 1 (v5.map cI)]), (g + 0, .cells [.v (.int .i64 a0.Letters), .v (.int .i64 a0.Numbers), .v (.int .i64 a0.Pitch), .v (.int .i64 a0.Slack), .v (.int .i64 a0.Gap), .v (.int .i64 a0.Pause), .v (.int .i64 a0.Sparks), .sl .no 1 (a0.Times.map cI)])]) 0 hS rfl rfl .no rfl rfl ty_var44 (Nat.le_of_ble_eq_true rfl) rfl fun H hS => ?_
              refine o_assign (v := .v (.int .i64 r18.2)) (by decide) rfl ?_
              refine run_nil ?_
              refine w_next [(3, .ptr (g + 0) 0), (7, .ptr (g1 + 2) 0), (10, .v (.int .i64 r15.2)), (12, .v (.int .i64 r16.2)), (14, .v (.int .i64 r17.2)), (16, .v (.int .i64 r18.2)), (17, .sl .no 1 (r15.1.map cI)), (18, .sl .no 1 (r16.1.map cI)), (19, .ptr (g3 + 7 + 7 + 6) 0), (20, .ptr (g3 + 7 + 7 + 9 + 6) 0)] (.cons (.refl _) (.cons (.refl _) (.cons (.refl _) (.cons (.refl _) (.cons (.refl _) (.cons (.refl _) (.cons (.refl _) (.cons (.refl _) (.cons (.refl _) (.cons (.refl _) .nil)))))))))) ?_
              refine r_seq ?_
              refine r_region (n := 7) rfl ?_
              refine o_load (v := .agg [.v (.int .i64 a0.Letters), .v (.int .i64 a0.Numbers), .v (.int .i64 a0.Pitch), .v (.int .i64 a0.Slack), .v (.int .i64 a0.Gap), .v (.int .i64 a0.Pause), .v (.int .i64 a0.Sparks), .sl .no 1 (a0.Times.map cI)]) 3 hS (by decide) rfl rfl .no (part_agg ty_agg24 (Nat.le_of_ble_eq_true rfl) rfl) ?_
              obtain ⟨r19, hr19, hM⟩ := bindE hM
              refine o_call (bs := [.agg [.v (.int .i64 a0.Letters), .v (.int .i64 a0.Numbers), .v (.int .i64 a0.Pitch), .v (.int .i64 a0.Slack), .v (.int .i64 a0.Gap), .v (.int .i64 a0.Pause), .v (.int .i64 a0.Sparks), .sl .no 1 (a0.Times.map cI)]]) (by decide) rfl rfl ((W_pulses_Real hr19).le (.cons (.refl _) .nil)) ?_
              refine o_move (v := .tup [.sl .no 1 (r19.1.map cI), .v (.int .i64 r19.2)]) (by decide) rfl ?_
              refine o_extract (v := .sl .no 1 (r19.1.map cI)) (by decide) rfl rfl ?_
              refine o_extract (v := .v (.int .i64 r19.2)) (by decide) rfl rfl ?_
              refine o_assign (v := .sl .no 1 (r19.1.map cI)) (by decide) rfl ?_
              refine o_assign (v := .v (.int .i64 r19.2)) (by decide) rfl ?_
              refine run_nil ?_
              replace hS := hS.keep (L' := [(g3 + 7 + 7 + 9 + 6, .cells [.v (.int .i64 r18.1.Low), .v (.int .i64 r18.1.High)]), (g3 + 7 + 7 + 6, .cells [.v (.int .i64 r17.1.Low), .v (.int .i64 r17.1.High)]), (g1 + 2, .cells [.v (.int .i64 r4.Letters), .v (.int .i64 r4.Numbers), .v (.int .i64 r4.Pitch), .v (.int .i64 r4.Slack), .v (.int .i64 r4.Gap), .v (.int .i64 r4.Pause), .v (.int .i64 r4.Sparks), .sl .no 1 (v5.map cI)])]) [true, true, true, false] rfl
              refine w_next [(7, .ptr (g1 + 2) 0), (10, .v (.int .i64 r15.2)), (12, .v (.int .i64 r16.2)), (14, .v (.int .i64 r17.2)), (16, .v (.int .i64 r18.2)), (17, .sl .no 1 (r15.1.map cI)), (18, .sl .no 1 (r16.1.map cI)), (19, .ptr (g3 + 7 + 7 + 6) 0), (20, .ptr (g3 + 7 + 7 + 9 + 6) 0), (21, .sl .no 1 (r19.1.map cI)), (22, .v (.int .i64 r19.2))] (.cons (.refl _) (.cons (.refl _) (.cons (.refl _) (.cons (.refl _) (.cons (.refl _) (.cons (.refl _) (.cons (.refl _) (.cons (.refl _) (.cons (.refl _) (.cons (.refl _) (.cons (.refl _) .nil))))))))))) ?_
              refine r_seq ?_
              refine r_region (n := 7) rfl ?_
              refine o_load (v := .agg [.v (.int .i64 r4.Letters), .v (.int .i64 r4.Numbers), .v (.int .i64 r4.Pitch), .v (.int .i64 r4.Slack), .v (.int .i64 r4.Gap), .v (.int .i64 r4.Pause), .v (.int .i64 r4.Sparks), .sl .no 1 (v5.map cI)]) 2 hS (by decide) rfl rfl .no (part_agg ty_agg24 (Nat.le_of_ble_eq_true rfl) rfl) ?_
              obtain ⟨r20, hr20, hM⟩ := bindE hM
              refine o_call (bs := [.agg [.v (.int .i64 r4.Letters), .v (.int .i64 r4.Numbers), .v (.int .i64 r4.Pitch), .v (.int .i64 r4.Slack), .v (.int .i64 r4.Gap), .v (.int .i64 r4.Pause), .v (.int .i64 r4.Sparks), .sl .no 1 (v5.map cI)]]) (by decide) rfl rfl ((W_pulses_Real hr20).le (.cons (.refl _) .nil)) ?_
              refine o_move (v := .tup [.sl .no 1 (r20.1.map cI), .v (.int .i64 r20.2)]) (by decide) rfl ?_
              refine o_extract (v := .sl .no 1 (r20.1.map cI)) (by decide) rfl rfl ?_
              refine o_extract (v := .v (.int .i64 r20.2)) (by decide) rfl rfl ?_
              refine o_assign (v := .sl .no 1 (r20.1.map cI)) (by decide) rfl ?_
              refine o_assign (v := .v (.int .i64 r20.2)) (by decide) rfl ?_
              refine run_nil ?_
              replace hS := hS.keep (L' := [(g3 + 7 + 7 + 9 + 6, .cells [.v (.int .i64 r18.1.Low), .v (.int .i64 r18.1.High)]), (g3 + 7 + 7 + 6, .cells [.v (.int .i64 r17.1.Low), .v (.int .i64 r17.1.High)])]) [true, true, false] rfl
              refine w_next [(10, .v (.int .i64 r15.2)), (12, .v (.int .i64 r16.2)), (14, .v (.int .i64 r17.2)), (16, .v (.int .i64 r18.2)), (17, .sl .no 1 (r15.1.map cI)), (18, .sl .no 1 (r16.1.map cI)), (19, .ptr (g3 + 7 + 7 + 6) 0), (20, .ptr (g3 + 7 + 7 + 9 + 6) 0), (21, .sl .no 1 (r19.1.map cI)), (22, .v (.int .i64 r19.2)), (23, .sl .no 1 (r20.1.map cI)), (24, .v (.int .i64 r20.2))] (.cons (.refl _) (.cons (.refl _) (.cons (.refl _) (.cons (.refl _) (.cons (.refl _) (.cons (.refl _) (.cons (.refl _) (.cons (.refl _) (.cons (.refl _) (.cons (.refl _) (.cons (.refl _) (.cons (.refl _) .nil)))))))))))) ?_
              refine w_join (J := Bool) (fun j => [(6, .v (.bool j))]) (fun j H' g' => St (· < g) H0 [] H' g' ∧ law13_PulsesMoved_j4 j = some r) ?_ ?_
              · rintro v21 H g4 ⟨hS, hM⟩
                change wpA _ _ _ _ (Fr.of [(6, .v (.bool v21))]) _ _
                replace hS : St (· < g) H0 [] H g4 := hS
                replace hM : law13_PulsesMoved_j4 v21 = some r := hM
                refine r_ret ?_
                refine w_end (x := .v (.bool v21)) (f := fun r => .v (.bool r)) (.inr rfl) ?_ (.refl _) (Option.some.inj hM) hS
                exact (res_one (res_tmp (x := .v (.bool v21)) rfl))
              · refine r_region (n := 32) rfl ?_
                refine o_move (v := .sl .no 1 (r15.1.map cI)) (by decide) rfl ?_
                refine o_move (v := .sl .no 1 (r16.1.map cI)) (by decide) rfl ?_
                obtain ⟨r22, hr22, hM⟩ := bindE hM
                refine o_call (bs := [.sl .no 1 (r15.1.map cI), .sl .no 1 (r16.1.map cI)]) (by decide) rfl rfl ((W_ref01_SameInts hr22).le (.cons (.refl _) (.cons (.refl _) .nil))) ?_
                refine o_move (v := .v (.bool r22)) (by decide) rfl ?_
                rcases Bool.eq_false_or_eq_true r22 with hb23 | hb23
                · replace hM := ifT hM hb23
                  refine o_guardY (j := 3) (e := r22) (want := true) rfl hb23 ?_
                  refine o_move (v := .v (.int .i64 r15.2)) (by decide) rfl ?_
                  refine o_guardY (j := 3) (e := r22) (want := true) rfl hb23 ?_
                  refine o_move (v := .v (.int .i64 r16.2)) (by decide) rfl ?_
                  refine o_guardY (j := 3) (e := r22) (want := true) rfl hb23 ?_
                  refine o_int (v := .v (.bool (r15.2 == r16.2))) (by decide) rfl rfl rfl ?_
                  refine o_pickT (v := .v (.bool (r15.2 == r16.2))) (e := r22) (by decide) rfl hb23 rfl ?_
                  refine o_move (v := .v (.bool (r15.2 == r16.2))) (by decide) rfl ?_
                  rcases Bool.eq_false_or_eq_true (r15.2 == r16.2) with hb24 | hb24
                  · replace hM := ifT hM hb24
                    refine o_guardY (j := 8) (e := (r15.2 == r16.2)) (want := true) rfl hb24 ?_
                    refine o_load (v := .agg [.v (.int .i64 r17.1.Low), .v (.int .i64 r17.1.High)]) 1 hS (by decide) rfl rfl .no (part_agg ty_agg44 (Nat.le_of_ble_eq_true rfl) rfl) ?_
                    refine o_guardY (j := 8) (e := (r15.2 == r16.2)) (want := true) rfl hb24 ?_
                    refine o_load (v := .agg [.v (.int .i64 r18.1.Low), .v (.int .i64 r18.1.High)]) 0 hS (by decide) rfl rfl .no (part_agg ty_agg44 (Nat.le_of_ble_eq_true rfl) rfl) ?_
                    refine o_guardY (j := 8) (e := (r15.2 == r16.2)) (want := true) rfl hb24 ?_
                    refine o_eqS (cs := [.v (.int .i64 r17.1.Low), .v (.int .i64 r17.1.High)]) (ds := [.v (.int .i64 r18.1.Low), .v (.int .i64 r18.1.High)]) (e := ((r17.1.Low == r18.1.Low) && ((r17.1.High == r18.1.High) && true))) (by decide) rfl rfl ty_flat44 rfl ?_
                    refine o_pickT (v := .v (.bool ((r17.1.Low == r18.1.Low) && ((r17.1.High == r18.1.High) && true)))) (e := (r15.2 == r16.2)) (by decide) rfl hb24 rfl ?_
                    refine o_move (v := .v (.bool ((r17.1.Low == r18.1.Low) && ((r17.1.High == r18.1.High) && true)))) (by decide) rfl ?_
                    rcases Bool.eq_false_or_eq_true ((r17.1.Low == r18.1.Low) && ((r17.1.High == r18.1.High) && true)) with hb25 | hb25
                    · replace hM := ifT hM hb25
                      refine o_guardY (j := 13) (e := ((r17.1.Low == r18.1.Low) && ((r17.1.High == r18.1.High) && true))) (want := true) rfl hb25 ?_
                      refine o_move (v := .v (.int .i64 r17.2)) (by decide) rfl ?_
                      refine o_guardY (j := 13) (e := ((r17.1.Low == r18.1.Low) && ((r17.1.High == r18.1.High) && true))) (want := true) rfl hb25 ?_
                      refine o_move (v := .v (.int .i64 r18.2)) (by decide) rfl ?_
                      refine o_guardY (j := 13) (e := ((r17.1.Low == r18.1.Low) && ((r17.1.High == r18.1.High) && true))) (want := true) rfl hb25 ?_
                      refine o_int (v := .v (.bool (r17.2 == r18.2))) (by decide) rfl rfl rfl ?_
                      refine o_pickT (v := .v (.bool (r17.2 == r18.2))) (e := ((r17.1.Low == r18.1.Low) && ((r17.1.High == r18.1.High) && true))) (by decide) rfl hb25 rfl ?_
                      refine o_move (v := .v (.bool (r17.2 == r18.2))) (by decide) rfl ?_
                      rcases Bool.eq_false_or_eq_true (r17.2 == r18.2) with hb26 | hb26
                      · replace hM := ifT hM hb26
                        refine o_guardY (j := 18) (e := (r17.2 == r18.2)) (want := true) rfl hb26 ?_
                        refine o_move (v := .sl .no 1 (r19.1.map cI)) (by decide) rfl ?_
                        refine o_guardY (j := 18) (e := (r17.2 == r18.2)) (want := true) rfl hb26 ?_
                        refine o_move (v := .sl .no 1 (r20.1.map cI)) (by decide) rfl ?_
                        refine o_guardY (j := 18) (e := (r17.2 == r18.2)) (want := true) rfl hb26 ?_
                        obtain ⟨r27, hr27, hM⟩ := bindE hM
                        refine o_call (bs := [.sl .no 1 (r19.1.map cI), .sl .no 1 (r20.1.map cI)]) (by decide) rfl rfl ((W_ref01_SameInts hr27).le (.cons (.refl _) (.cons (.refl _) .nil))) ?_
                        refine o_pickT (v := .v (.bool r27)) (e := (r17.2 == r18.2)) (by decide) rfl hb26 rfl ?_
                        refine o_move (v := .v (.bool r27)) (by decide) rfl ?_
                        rcases Bool.eq_false_or_eq_true r27 with hb28 | hb28
                        · replace hM := ifT hM hb28
                          refine o_guardY (j := 23) (e := r27) (want := true) rfl hb28 ?_
                          refine o_move (v := .v (.int .i64 r19.2)) (by decide) rfl ?_
                          refine o_guardY (j := 23) (e := r27) (want := true) rfl hb28 ?_
                          refine o_move (v := .v (.int .i64 r20.2)) (by decide) rfl ?_
                          refine o_guardY (j := 23) (e := r27) (want := true) rfl hb28 ?_
                          refine o_int (v := .v (.bool (r19.2 == r20.2))) (by decide) rfl rfl rfl ?_
                          refine o_pickT (v := .v (.bool (r19.2 == r20.2))) (e := r27) (by decide) rfl hb28 rfl ?_
                          refine o_move (v := .v (.bool (r19.2 == r20.2))) (by decide) rfl ?_
                          rcases Bool.eq_false_or_eq_true (r19.2 == r20.2) with hb29 | hb29
                          · replace hM := ifT hM hb29
                            refine o_guardY (j := 28) (e := (r19.2 == r20.2)) (want := true) rfl hb29 ?_
                            obtain ⟨r30, hr30, hM⟩ := bindE hM
                            refine o_call (bs := []) (by decide) rfl rfl ((W_law13_works hr30).le .nil) ?_
                            refine o_pickT (v := .v (.bool r30)) (e := (r19.2 == r20.2)) (by decide) rfl hb29 rfl ?_
                            refine o_assign (v := .v (.bool r30)) (by decide) rfl ?_
                            refine run_nil ?_
                            exact w_goto r30 (.cons (.refl _) .nil) ⟨(hS.keep [false, false] rfl).up (by omega), hM⟩
                          · replace hM := ifF hM hb29
                            refine o_guardN (j := 28) (e := (r19.2 == r20.2)) (want := true) (by decide) rfl hb29 ?_
                            refine o_pickF (v := .v (.bool false)) (e := (r19.2 == r20.2)) (by decide) rfl hb29 rfl ?_
                            refine o_assign (v := .v (.bool false)) (by decide) rfl ?_
                            refine run_nil ?_
                            exact w_goto false (.cons (.refl _) .nil) ⟨(hS.keep [false, false] rfl).up (by omega), hM⟩
                        · replace hM := ifF hM hb28
                          refine o_guardN (j := 23) (e := r27) (want := true) (by decide) rfl hb28 ?_
                          refine o_guardN (j := 23) (e := r27) (want := true) (by decide) rfl hb28 ?_
                          refine o_guardN (j := 23) (e := r27) (want := true) (by decide) rfl hb28 ?_
                          refine o_pickF (v := .v (.bool false)) (e := r27) (by decide) rfl hb28 rfl ?_
                          refine o_move (v := .v (.bool false)) (by decide) rfl ?_
                          refine o_guardN (j := 28) (e := false) (want := true) (by decide) rfl rfl ?_
                          refine o_pickF (v := .v (.bool false)) (e := false) (by decide) rfl rfl rfl ?_
                          refine o_assign (v := .v (.bool false)) (by decide) rfl ?_
                          refine run_nil ?_
                          exact w_goto false (.cons (.refl _) .nil) ⟨(hS.keep [false, false] rfl).up (by omega), hM⟩
                      · replace hM := ifF hM hb26
                        refine o_guardN (j := 18) (e := (r17.2 == r18.2)) (want := true) (by decide) rfl hb26 ?_
                        refine o_guardN (j := 18) (e := (r17.2 == r18.2)) (want := true) (by decide) rfl hb26 ?_
                        refine o_guardN (j := 18) (e := (r17.2 == r18.2)) (want := true) (by decide) rfl hb26 ?_
                        refine o_pickF (v := .v (.bool false)) (e := (r17.2 == r18.2)) (by decide) rfl hb26 rfl ?_
                        refine o_move (v := .v (.bool false)) (by decide) rfl ?_
                        refine o_guardN (j := 23) (e := false) (want := true) (by decide) rfl rfl ?_
                        refine o_guardN (j := 23) (e := false) (want := true) (by decide) rfl rfl ?_
                        refine o_guardN (j := 23) (e := false) (want := true) (by decide) rfl rfl ?_
                        refine o_pickF (v := .v (.bool false)) (e := false) (by decide) rfl rfl rfl ?_
                        refine o_move (v := .v (.bool false)) (by decide) rfl ?_
                        refine o_guardN (j := 28) (e := false) (want := true) (by decide) rfl rfl ?_
                        refine o_pickF (v := .v (.bool false)) (e := false) (by decide) rfl rfl rfl ?_
                        refine o_assign (v := .v (.bool false)) (by decide) rfl ?_
                        refine run_nil ?_
                        exact w_goto false (.cons (.refl _) .nil) ⟨(hS.keep [false, false] rfl).up (by omega), hM⟩
                    · replace hM := ifF hM hb25
                      refine o_guardN (j := 13) (e := ((r17.1.Low == r18.1.Low) && ((r17.1.High == r18.1.High) && true))) (want := true) (by decide) rfl hb25 ?_
                      refine o_guardN (j := 13) (e := ((r17.1.Low == r18.1.Low) && ((r17.1.High == r18.1.High) && true))) (want := true) (by decide) rfl hb25 ?_
                      refine o_guardN (j := 13) (e := ((r17.1.Low == r18.1.Low) && ((r17.1.High == r18.1.High) && true))) (want := true) (by decide) rfl hb25 ?_
                      refine o_pickF (v := .v (.bool false)) (e := ((r17.1.Low == r18.1.Low) && ((r17.1.High == r18.1.High) && true))) (by decide) rfl hb25 rfl ?_
                      refine o_move (v := .v (.bool false)) (by decide) rfl ?_
                      refine o_guardN (j := 18) (e := false) (want := true) (by decide) rfl rfl ?_
                      refine o_guardN (j := 18) (e := false) (want := true) (by decide) rfl rfl ?_
                      refine o_guardN (j := 18) (e := false) (want := true) (by decide) rfl rfl ?_
                      refine o_pickF (v := .v (.bool false)) (e := false) (by decide) rfl rfl rfl ?_
                      refine o_move (v := .v (.bool false)) (by decide) rfl ?_
                      refine o_guardN (j := 23) (e := false) (want := true) (by decide) rfl rfl ?_
                      refine o_guardN (j := 23) (e := false) (want := true) (by decide) rfl rfl ?_
                      refine o_guardN (j := 23) (e := false) (want := true) (by decide) rfl rfl ?_
                      refine o_pickF (v := .v (.bool false)) (e := false) (by decide) rfl rfl rfl ?_
                      refine o_move (v := .v (.bool false)) (by decide) rfl ?_
                      refine o_guardN (j := 28) (e := false) (want := true) (by decide) rfl rfl ?_
                      refine o_pickF (v := .v (.bool false)) (e := false) (by decide) rfl rfl rfl ?_
                      refine o_assign (v := .v (.bool false)) (by decide) rfl ?_
                      refine run_nil ?_
                      exact w_goto false (.cons (.refl _) .nil) ⟨(hS.keep [false, false] rfl).up (by omega), hM⟩
                  · replace hM := ifF hM hb24
                    refine o_guardN (j := 8) (e := (r15.2 == r16.2)) (want := true) (by decide) rfl hb24 ?_
                    refine o_guardN (j := 8) (e := (r15.2 == r16.2)) (want := true) (by decide) rfl hb24 ?_
                    refine o_guardN (j := 8) (e := (r15.2 == r16.2)) (want := true) (by decide) rfl hb24 ?_
                    refine o_pickF (v := .v (.bool false)) (e := (r15.2 == r16.2)) (by decide) rfl hb24 rfl ?_
                    refine o_move (v := .v (.bool false)) (by decide) rfl ?_
                    refine o_guardN (j := 13) (e := false) (want := true) (by decide) rfl rfl ?_
                    refine o_guardN (j := 13) (e := false) (want := true) (by decide) rfl rfl ?_
                    refine o_guardN (j := 13) (e := false) (want := true) (by decide) rfl rfl ?_
                    refine o_pickF (v := .v (.bool false)) (e := false) (by decide) rfl rfl rfl ?_
                    refine o_move (v := .v (.bool false)) (by decide) rfl ?_
                    refine o_guardN (j := 18) (e := false) (want := true) (by decide) rfl rfl ?_
                    refine o_guardN (j := 18) (e := false) (want := true) (by decide) rfl rfl ?_
                    refine o_guardN (j := 18) (e := false) (want := true) (by decide) rfl rfl ?_
                    refine o_pickF (v := .v (.bool false)) (e := false) (by decide) rfl rfl rfl ?_
                    refine o_move (v := .v (.bool false)) (by decide) rfl ?_
                    refine o_guardN (j := 23) (e := false) (want := true) (by decide) rfl rfl ?_
                    refine o_guardN (j := 23) (e := false) (want := true) (by decide) rfl rfl ?_
                    refine o_guardN (j := 23) (e := false) (want := true) (by decide) rfl rfl ?_
                    refine o_pickF (v := .v (.bool false)) (e := false) (by decide) rfl rfl rfl ?_
                    refine o_move (v := .v (.bool false)) (by decide) rfl ?_
                    refine o_guardN (j := 28) (e := false) (want := true) (by decide) rfl rfl ?_
                    refine o_pickF (v := .v (.bool false)) (e := false) (by decide) rfl rfl rfl ?_
                    refine o_assign (v := .v (.bool false)) (by decide) rfl ?_
                    refine run_nil ?_
                    exact w_goto false (.cons (.refl _) .nil) ⟨(hS.keep [false, false] rfl).up (by omega), hM⟩
                · replace hM := ifF hM hb23
                  refine o_guardN (j := 3) (e := r22) (want := true) (by decide) rfl hb23 ?_
                  refine o_guardN (j := 3) (e := r22) (want := true) (by decide) rfl hb23 ?_
                  refine o_guardN (j := 3) (e := r22) (want := true) (by decide) rfl hb23 ?_
                  refine o_pickF (v := .v (.bool false)) (e := r22) (by decide) rfl hb23 rfl ?_
                  refine o_move (v := .v (.bool false)) (by decide) rfl ?_
                  refine o_guardN (j := 8) (e := false) (want := true) (by decide) rfl rfl ?_
                  refine o_guardN (j := 8) (e := false) (want := true) (by decide) rfl rfl ?_
                  refine o_guardN (j := 8) (e := false) (want := true) (by decide) rfl rfl ?_
                  refine o_pickF (v := .v (.bool false)) (e := false) (by decide) rfl rfl rfl ?_
                  refine o_move (v := .v (.bool false)) (by decide) rfl ?_
                  refine o_guardN (j := 13) (e := false) (want := true) (by decide) rfl rfl ?_
                  refine o_guardN (j := 13) (e := false) (want := true) (by decide) rfl rfl ?_
                  refine o_guardN (j := 13) (e := false) (want := true) (by decide) rfl rfl ?_
                  refine o_pickF (v := .v (.bool false)) (e := false) (by decide) rfl rfl rfl ?_
                  refine o_move (v := .v (.bool false)) (by decide) rfl ?_
                  refine o_guardN (j := 18) (e := false) (want := true) (by decide) rfl rfl ?_
                  refine o_guardN (j := 18) (e := false) (want := true) (by decide) rfl rfl ?_
                  refine o_guardN (j := 18) (e := false) (want := true) (by decide) rfl rfl ?_
                  refine o_pickF (v := .v (.bool false)) (e := false) (by decide) rfl rfl rfl ?_
                  refine o_move (v := .v (.bool false)) (by decide) rfl ?_
                  refine o_guardN (j := 23) (e := false) (want := true) (by decide) rfl rfl ?_
                  refine o_guardN (j := 23) (e := false) (want := true) (by decide) rfl rfl ?_
                  refine o_guardN (j := 23) (e := false) (want := true) (by decide) rfl rfl ?_
                  refine o_pickF (v := .v (.bool false)) (e := false) (by decide) rfl rfl rfl ?_
                  refine o_move (v := .v (.bool false)) (by decide) rfl ?_
                  refine o_guardN (j := 28) (e := false) (want := true) (by decide) rfl rfl ?_
                  refine o_pickF (v := .v (.bool false)) (e := false) (by decide) rfl rfl rfl ?_
                  refine o_assign (v := .v (.bool false)) (by decide) rfl ?_
                  refine run_nil ?_
                  exact w_goto false (.cons (.refl _) .nil) ⟨(hS.keep [false, false] rfl).up (by omega), hM⟩
          · refine r_region (n := 18) rfl ?_
            refine o_move (v := .v (.int .i64 r9.1)) (by decide) rfl ?_
            refine o_move (v := .v (.int .i64 r10.1)) (by decide) rfl ?_
            refine o_int (v := .v (.bool (r9.1 != r10.1))) (by decide) rfl rfl rfl ?_
            refine o_move (v := .v (.bool (r9.1 != r10.1))) (by decide) rfl ?_
            rcases Bool.eq_false_or_eq_true (r9.1 != r10.1) with hb31 | hb31
            · replace hM := ifT hM hb31
              refine o_guardN (j := 3) (e := (r9.1 != r10.1)) (want := false) (by decide) rfl hb31 ?_
              refine o_guardN (j := 3) (e := (r9.1 != r10.1)) (want := false) (by decide) rfl hb31 ?_
              refine o_guardN (j := 3) (e := (r9.1 != r10.1)) (want := false) (by decide) rfl hb31 ?_
              refine o_pickT (v := .v (.bool true)) (e := (r9.1 != r10.1)) (by decide) rfl hb31 rfl ?_
              refine o_move (v := .v (.bool true)) (by decide) rfl ?_
              refine o_guardN (j := 8) (e := true) (want := false) (by decide) rfl rfl ?_
              refine o_guardN (j := 8) (e := true) (want := false) (by decide) rfl rfl ?_
              refine o_guardN (j := 8) (e := true) (want := false) (by decide) rfl rfl ?_
              refine o_pickT (v := .v (.bool true)) (e := true) (by decide) rfl rfl rfl ?_
              refine o_move (v := .v (.bool true)) (by decide) rfl ?_
              refine o_guardN (j := 13) (e := true) (want := false) (by decide) rfl rfl ?_
              refine o_guardN (j := 13) (e := true) (want := false) (by decide) rfl rfl ?_
              refine o_guardN (j := 13) (e := true) (want := false) (by decide) rfl rfl ?_
              refine o_pickT (v := .v (.bool true)) (e := true) (by decide) rfl rfl rfl ?_
              refine run_nil ?_
              exact w_goto true (.cons (.refl _) (.cons (.refl _) (.cons (.refl _) (.cons (.refl _) .nil)))) ⟨(hS.keep [true, true] rfl).up (by omega), hM⟩
            · replace hM := ifF hM hb31
              refine o_guardY (j := 3) (e := (r9.1 != r10.1)) (want := false) rfl hb31 ?_
              refine o_move (v := .v (.int .i64 r9.2)) (by decide) rfl ?_
              refine o_guardY (j := 3) (e := (r9.1 != r10.1)) (want := false) rfl hb31 ?_
              refine o_move (v := .v (.int .i64 r10.2)) (by decide) rfl ?_
              refine o_guardY (j := 3) (e := (r9.1 != r10.1)) (want := false) rfl hb31 ?_
              refine o_int (v := .v (.bool (r9.2 != r10.2))) (by decide) rfl rfl rfl ?_
              refine o_pickF (v := .v (.bool (r9.2 != r10.2))) (e := (r9.1 != r10.1)) (by decide) rfl hb31 rfl ?_
              refine o_move (v := .v (.bool (r9.2 != r10.2))) (by decide) rfl ?_
              rcases Bool.eq_false_or_eq_true (r9.2 != r10.2) with hb32 | hb32
              · replace hM := ifT hM hb32
                refine o_guardN (j := 8) (e := (r9.2 != r10.2)) (want := false) (by decide) rfl hb32 ?_
                refine o_guardN (j := 8) (e := (r9.2 != r10.2)) (want := false) (by decide) rfl hb32 ?_
                refine o_guardN (j := 8) (e := (r9.2 != r10.2)) (want := false) (by decide) rfl hb32 ?_
                refine o_pickT (v := .v (.bool true)) (e := (r9.2 != r10.2)) (by decide) rfl hb32 rfl ?_
                refine o_move (v := .v (.bool true)) (by decide) rfl ?_
                refine o_guardN (j := 13) (e := true) (want := false) (by decide) rfl rfl ?_
                refine o_guardN (j := 13) (e := true) (want := false) (by decide) rfl rfl ?_
                refine o_guardN (j := 13) (e := true) (want := false) (by decide) rfl rfl ?_
                refine o_pickT (v := .v (.bool true)) (e := true) (by decide) rfl rfl rfl ?_
                refine run_nil ?_
                exact w_goto true (.cons (.refl _) (.cons (.refl _) (.cons (.refl _) (.cons (.refl _) .nil)))) ⟨(hS.keep [true, true] rfl).up (by omega), hM⟩
              · replace hM := ifF hM hb32
                refine o_guardY (j := 8) (e := (r9.2 != r10.2)) (want := false) rfl hb32 ?_
                refine o_move (v := .v (.int .i64 r11.1)) (by decide) rfl ?_
                refine o_guardY (j := 8) (e := (r9.2 != r10.2)) (want := false) rfl hb32 ?_
                refine o_move (v := .v (.int .i64 r12.1)) (by decide) rfl ?_
                refine o_guardY (j := 8) (e := (r9.2 != r10.2)) (want := false) rfl hb32 ?_
                refine o_int (v := .v (.bool (r11.1 != r12.1))) (by decide) rfl rfl rfl ?_
                refine o_pickF (v := .v (.bool (r11.1 != r12.1))) (e := (r9.2 != r10.2)) (by decide) rfl hb32 rfl ?_
                refine o_move (v := .v (.bool (r11.1 != r12.1))) (by decide) rfl ?_
                rcases Bool.eq_false_or_eq_true (r11.1 != r12.1) with hb33 | hb33
                · replace hM := ifT hM hb33
                  refine o_guardN (j := 13) (e := (r11.1 != r12.1)) (want := false) (by decide) rfl hb33 ?_
                  refine o_guardN (j := 13) (e := (r11.1 != r12.1)) (want := false) (by decide) rfl hb33 ?_
                  refine o_guardN (j := 13) (e := (r11.1 != r12.1)) (want := false) (by decide) rfl hb33 ?_
                  refine o_pickT (v := .v (.bool true)) (e := (r11.1 != r12.1)) (by decide) rfl hb33 rfl ?_
                  refine run_nil ?_
                  exact w_goto true (.cons (.refl _) (.cons (.refl _) (.cons (.refl _) (.cons (.refl _) .nil)))) ⟨(hS.keep [true, true] rfl).up (by omega), hM⟩
                · replace hM := ifF hM hb33
                  refine o_guardY (j := 13) (e := (r11.1 != r12.1)) (want := false) rfl hb33 ?_
                  refine o_move (v := .v (.int .i64 r11.2)) (by decide) rfl ?_
                  refine o_guardY (j := 13) (e := (r11.1 != r12.1)) (want := false) rfl hb33 ?_
                  refine o_move (v := .v (.int .i64 r12.2)) (by decide) rfl ?_
                  refine o_guardY (j := 13) (e := (r11.1 != r12.1)) (want := false) rfl hb33 ?_
                  refine o_int (v := .v (.bool (r11.2 != r12.2))) (by decide) rfl rfl rfl ?_
                  refine o_pickF (v := .v (.bool (r11.2 != r12.2))) (e := (r11.1 != r12.1)) (by decide) rfl hb33 rfl ?_
                  refine run_nil ?_
                  exact w_goto (r11.2 != r12.2) (.cons (.refl _) (.cons (.refl _) (.cons (.refl _) (.cons (.refl _) .nil)))) ⟨(hS.keep [true, true] rfl).up (by omega), hM⟩
      · refine r_seq ?_
        refine r_region (n := 1) rfl ?_
        refine o_assign (v := .v (.int .i64 0)) (by decide) rfl ?_
        refine run_nil ?_
        refine w_next [(1, .v (.int .i64 a1)), (2, .v (.int .i64 a2)), (3, .ptr (g + 0) 0), (7, .ptr (g1 + 2) 0), (8, .v (.int .i64 0))] (.cons (.refl _) (.cons (.refl _) (.cons (.refl _) (.cons (.refl _) (.cons (.refl _) .nil))))) ?_
        refine r_block ?_
        refine w_loop (V := Int × (List Int)) (fun v => [(1, .v (.int .i64 a1)), (2, .v (.int .i64 a2)), (3, .ptr (g + 0) 0), (7, .ptr (g1 + 2) 0), (8, .v (.int .i64 v.1))]) (fun v m6 H' g' => St (· < g) H0 ([(g1 + 2, .cells [.v (.int .i64 r4.Letters), .v (.int .i64 r4.Numbers), .v (.int .i64 r4.Pitch), .v (.int .i64 r4.Slack), .v (.int .i64 r4.Gap), .v (.int .i64 r4.Pause), .v (.int .i64 r4.Sparks), msn (g1 + 1) 1 r4.Times.length]), (g + 0, .cells [.v (.int .i64 a0.Letters), .v (.int .i64 a0.Numbers), .v (.int .i64 a0.Pitch), .v (.int .i64 a0.Slack), .v (.int .i64 a0.Gap), .v (.int .i64 a0.Pause), .v (.int .i64 a0.Sparks), .sl .no 1 (a0.Times.map cI)])] ++ thawN (g1 + 1) r4.Times.length (v.2.map cI)) H' g' ∧ law13_PulsesMoved_l1 n a0 a1 a2 r4 m6 v.1 v.2 = some r) (n := n) (0, r4.Times) (.cons (.refl _) (.cons (.refl _) (.cons (.refl _) (.cons (.refl _) (.cons (.refl _) .nil))))) ⟨(hS.keep [true, true] rfl).up (by omega), hM⟩ ?_
        rintro ⟨v35, v36⟩ m6 H g6 ⟨hS, hM⟩
        obtain _ | m6 := m6
        · exact nomatch (show none = some _ from hM)
        change wpA _ _ _ _ (Fr.of [(1, .v (.int .i64 a1)), (2, .v (.int .i64 a2)), (3, .ptr (g + 0) 0), (7, .ptr (g1 + 2) 0), (8, .v (.int .i64 v35))]) _ _
        replace hS : St (· < g) H0 ([(g1 + 2, .cells [.v (.int .i64 r4.Letters), .v (.int .i64 r4.Numbers), .v (.int .i64 r4.Pitch), .v (.int .i64 r4.Slack), .v (.int .i64 r4.Gap), .v (.int .i64 r4.Pause), .v (.int .i64 r4.Sparks), msn (g1 + 1) 1 r4.Times.length]), (g + 0, .cells [.v (.int .i64 a0.Letters), .v (.int .i64 a0.Numbers), .v (.int .i64 a0.Pitch), .v (.int .i64 a0.Slack), .v (.int .i64 a0.Gap), .v (.int .i64 a0.Pause), .v (.int .i64 a0.Sparks), .sl .no 1 (a0.Times.map cI)])] ++ thawN (g1 + 1) r4.Times.length (v36.map cI)) H g6 := hS
        replace hM : law13_PulsesMoved_l1_b n a0 a1 a2 r4 (law13_PulsesMoved_l1 n a0 a1 a2 r4 m6) v35 v36 = some r := hM
        refine r_seq ?_
        refine r_seq ?_
        refine r_region (n := 5) rfl ?_
        refine o_move (v := .v (.int .i64 v35)) (by decide) rfl ?_
        refine o_fieldP (by decide) ty_fo24_7 rfl ?_
        refine o_load (v := msn (g1 + 1) 1 r4.Times.length) 0 hS (by decide) rfl rfl .no (part_one ty_agg22 ty_sc22 rfl) ?_
        refine o_lenM (n := r4.Times.length) (by decide) rfl ty_isl22 ?_
        refine o_int (v := .v (.bool (decide (v35 < (r4.Times.length : Int))))) (by decide) rfl rfl rfl ?_
        refine run_nil ?_
        refine w_next [(1, .v (.int .i64 a1)), (2, .v (.int .i64 a2)), (3, .ptr (g + 0) 0), (7, .ptr (g1 + 2) 0), (8, .v (.int .i64 v35)), (43, .v (.bool (decide (v35 < (r4.Times.length : Int)))))] (.cons (.refl _) (.cons (.refl _) (.cons (.refl _) (.cons (.refl _) (.cons (.refl _) (.cons (.refl _) .nil)))))) ?_
        rcases Bool.eq_false_or_eq_true (decide (v35 < (r4.Times.length : Int))) with hb37 | hb37
        · replace hM := ifT hM hb37
          refine w_condT (e := (decide (v35 < (r4.Times.length : Int)))) rfl hb37 ?_
          refine r_skip ?_
          refine w_next [(1, .v (.int .i64 a1)), (2, .v (.int .i64 a2)), (3, .ptr (g + 0) 0), (7, .ptr (g1 + 2) 0), (8, .v (.int .i64 v35))] (.cons (.refl _) (.cons (.refl _) (.cons (.refl _) (.cons (.refl _) (.cons (.refl _) .nil))))) ?_
          refine r_seq ?_
          refine r_block ?_
          refine r_region (n := 9) rfl ?_
          refine o_fieldP (by decide) ty_fo24_7 rfl ?_
          refine o_load (v := msn (g1 + 1) 1 r4.Times.length) 0 hS (by decide) rfl rfl .no (part_one ty_agg22 ty_sc22 rfl) ?_
          refine o_move (v := .v (.int .i64 v35)) (by decide) rfl ?_
          obtain ⟨x38, hx38, hM⟩ := bindE hM
          refine o_indexM (xs := v36) (f := cI) (z := v35) (u := x38) hS (by decide) rfl rfl ty_es22 hx38 ?_
          refine o_loadM (xs := v36) (z := v35) (u := x38) hS (by decide) rfl hx38 ty_agg3 ty_sc3 ?_
          refine o_move (v := .v (.int .i64 a1)) (by decide) rfl ?_
          refine o_int (v := .v (.int .i64 (w64 (x38 + a1)))) (by decide) rfl rfl rfl ?_
          obtain ⟨x39, hx39, hM⟩ := bindE hM
          refine o_indexM (xs := v36) (f := cI) (z := v35) (u := x39) hS (by decide) rfl rfl ty_es22 hx39 ?_
          refine o_storeM (xs := v36) (z := v35) (u := x39) (v := (w64 (x38 + a1))) hS rfl hx39 rfl ty_var3 fun H hS => ?_
          refine run_nil ?_
          refine r_blk_normal ?_
          refine w_next [(1, .v (.int .i64 a1)), (2, .v (.int .i64 a2)), (3, .ptr (g + 0) 0), (7, .ptr (g1 + 2) 0), (8, .v (.int .i64 v35))] (.cons (.refl _) (.cons (.refl _) (.cons (.refl _) (.cons (.refl _) (.cons (.refl _) .nil))))) ?_
          refine r_region (n := 3) rfl ?_
          refine o_move (v := .v (.int .i64 v35)) (by decide) rfl ?_
          refine o_int (v := .v (.int .i64 (w64 (v35 + 1)))) (by decide) rfl rfl rfl ?_
          refine o_assign (v := .v (.int .i64 (w64 (v35 + 1)))) (by decide) rfl ?_
          refine run_nil ?_
          exact w_round (w64 (v35 + 1), (v36.set (Int.toNat v35) (w64 (x38 + a1)))) (Nat.lt_succ_self _) (.cons (.refl _) (.cons (.refl _) (.cons (.refl _) (.cons (.refl _) (.cons (.refl _) .nil))))) ⟨(hS.keep [true, true] rfl).up (by omega), hM⟩
        · replace hM := ifF hM hb37
          refine w_condF (e := (decide (v35 < (r4.Times.length : Int)))) rfl hb37 ?_
          refine r_exit ?_
          refine r_then_exit ?_
          refine w_round_exit ?_
          refine r_blk_exit ?_
          exact w_gotoC Try.prog 0 (p := 7) hS rfl rfl (by decide) (each_map (fun _ => rfl)) (fl_map (fun x => (fl_cons fl_nil))) rfl rfl v36 (.cons (.refl _) (.cons (.refl _) (.cons (.refl _) .nil))) (fun H hS => ⟨(hS.keep [true, true] rfl).up (by omega), hM⟩)
  · refine r_region (n := 11) rfl ?_
    refine o_load (v := .agg [.v (.int .i64 a0.Letters), .v (.int .i64 a0.Numbers), .v (.int .i64 a0.Pitch), .v (.int .i64 a0.Slack), .v (.int .i64 a0.Gap), .v (.int .i64 a0.Pause), .v (.int .i64 a0.Sparks), .sl .no 1 (a0.Times.map cI)]) 0 hS (by decide) rfl rfl .no (part_agg ty_agg24 (Nat.le_of_ble_eq_true rfl) rfl) ?_
    obtain ⟨r40, hr40, hM⟩ := bindE hM
    refine o_call (bs := [.agg [.v (.int .i64 a0.Letters), .v (.int .i64 a0.Numbers), .v (.int .i64 a0.Pitch), .v (.int .i64 a0.Slack), .v (.int .i64 a0.Gap), .v (.int .i64 a0.Pause), .v (.int .i64 a0.Sparks), .sl .no 1 (a0.Times.map cI)]]) (by decide) rfl rfl ((W_law13_ready hr40).le (.cons (.refl _) .nil)) ?_
    refine o_not (e := r40) (by decide) rfl ?_
    refine o_move (v := .v (.bool (!r40))) (by decide) rfl ?_
    rcases Bool.eq_false_or_eq_true (!r40) with hb41 | hb41
    · replace hM := ifT hM hb41
      refine o_guardN (j := 3) (e := (!r40)) (want := false) (by decide) rfl hb41 ?_
      refine o_guardN (j := 3) (e := (!r40)) (want := false) (by decide) rfl hb41 ?_
      refine o_pickT (v := .v (.bool true)) (e := (!r40)) (by decide) rfl hb41 rfl ?_
      refine o_move (v := .v (.bool true)) (by decide) rfl ?_
      refine o_guardN (j := 7) (e := true) (want := false) (by decide) rfl rfl ?_
      refine o_guardN (j := 7) (e := true) (want := false) (by decide) rfl rfl ?_
      refine o_pickT (v := .v (.bool true)) (e := true) (by decide) rfl rfl rfl ?_
      refine run_nil ?_
      exact w_goto true (.cons (.refl _) (.cons (.refl _) (.cons (.refl _) (.cons (.refl _) .nil)))) ⟨(hS.keep [true] rfl).up (by omega), hM⟩
    · replace hM := ifF hM hb41
      refine o_guardY (j := 3) (e := (!r40)) (want := false) rfl hb41 ?_
      refine o_move (v := .v (.int .i64 a1)) (by decide) rfl ?_
      refine o_guardY (j := 3) (e := (!r40)) (want := false) rfl hb41 ?_
      refine o_int (v := .v (.bool (decide (a1 < 0)))) (by decide) rfl rfl rfl ?_
      refine o_pickF (v := .v (.bool (decide (a1 < 0)))) (e := (!r40)) (by decide) rfl hb41 rfl ?_
      refine o_move (v := .v (.bool (decide (a1 < 0)))) (by decide) rfl ?_
      rcases Bool.eq_false_or_eq_true (decide (a1 < 0)) with hb42 | hb42
      · replace hM := ifT hM hb42
        refine o_guardN (j := 7) (e := (decide (a1 < 0))) (want := false) (by decide) rfl hb42 ?_
        refine o_guardN (j := 7) (e := (decide (a1 < 0))) (want := false) (by decide) rfl hb42 ?_
        refine o_pickT (v := .v (.bool true)) (e := (decide (a1 < 0))) (by decide) rfl hb42 rfl ?_
        refine run_nil ?_
        exact w_goto true (.cons (.refl _) (.cons (.refl _) (.cons (.refl _) (.cons (.refl _) .nil)))) ⟨(hS.keep [true] rfl).up (by omega), hM⟩
      · replace hM := ifF hM hb42
        refine o_guardY (j := 7) (e := (decide (a1 < 0))) (want := false) rfl hb42 ?_
        refine o_move (v := .v (.int .i64 a1)) (by decide) rfl ?_
        refine o_guardY (j := 7) (e := (decide (a1 < 0))) (want := false) rfl hb42 ?_
        refine o_int (v := .v (.bool (decide (a1 > 99999)))) (by decide) rfl rfl rfl ?_
        refine o_pickF (v := .v (.bool (decide (a1 > 99999)))) (e := (decide (a1 < 0))) (by decide) rfl hb42 rfl ?_
        refine run_nil ?_
        exact w_goto (decide (a1 > 99999)) (.cons (.refl _) (.cons (.refl _) (.cons (.refl _) (.cons (.refl _) .nil)))) ⟨(hS.keep [true] rfl).up (by omega), hM⟩
end Go.Proofs.Ytekplngjaddccaa
