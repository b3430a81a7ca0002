/-
  The code returns what the functions say (printed by gen.py).
  Conditions: none.
-/
import Derived.Test.YtekplngjaddccaaWkPulsesMore2
set_option linter.all false
namespace Go.Proofs.Ytekplngjaddccaa
open Go Go.AM Go.Law
set_option linter.unusedVariables false
set_option maxRecDepth 4000
set_option maxHeartbeats 4000000
theorem W_law13_PulsesMore {n : Nat} {a0 : Pulse} {a1 : Int} {a2 : Int} {r : Bool} (hM : law13_PulsesMore n a0 a1 a2 = some r) : PureSat Try.prog 10 [.agg [.v (.int .i64 a0.Letters), .v (.int .i64 a0.Numbers), .v (.int .i64 a0.Pitch), .v (.int .i64 a0.Slack), .v (.int .i64 a0.Gap), .v (.int .i64 a0.Pause), .v (.int .i64 a0.Sparks), .sl .no 1 (a0.Times.map cI)], .v (.int .i64 a1), .v (.int .i64 a2)] (.v (.bool r)) := by
  refine pure_of_wp mixed Try.func10 rfl (by decide) Try.ntmps10 (by simp) ?pure fun H0 g hf => ?_
  case pure => exact .v _
  rw [frame0_of]
  change wpA _ _ _ _ (Fr.of [(0, .agg [.v (.int .i64 a0.Letters), .v (.int .i64 a0.Numbers), .v (.int .i64 a0.Pitch), .v (.int .i64 a0.Slack), .v (.int .i64 a0.Gap), .v (.int .i64 a0.Pause), .v (.int .i64 a0.Sparks), .sl .no 1 (a0.Times.map cI)]), (1, .v (.int .i64 a1)), (2, .v (.int .i64 a2))]) H0 g
  have hS := St.start hf
  refine r_seq ?_
  refine r_region (n := 2) rfl ?_
  refine o_box (v := .agg [.v (.int .i64 a0.Letters), .v (.int .i64 a0.Numbers), .v (.int .i64 a0.Pitch), .v (.int .i64 a0.Slack), .v (.int .i64 a0.Gap), .v (.int .i64 a0.Pause), .v (.int .i64 a0.Sparks), .sl .no 1 (a0.Times.map cI)]) (cs := [.v (.int .i64 a0.Letters), .v (.int .i64 a0.Numbers), .v (.int .i64 a0.Pitch), .v (.int .i64 a0.Slack), .v (.int .i64 a0.Gap), .v (.int .i64 a0.Pause), .v (.int .i64 a0.Sparks), .sl .no 1 (a0.Times.map cI)]) hS (by decide) rfl rfl (by omega) fun H hS => ?_
  refine o_assign (v := .v (.bool false)) (by decide) rfl ?_
  refine run_nil ?_
  refine w_next [(1, .v (.int .i64 a1)), (2, .v (.int .i64 a2)), (3, .ptr (g + 0) 0)] (.cons (.refl _) (.cons (.refl _) (.cons (.refl _) .nil))) ?_
  refine r_seq ?_
  refine w_join (J := Bool) (fun j => [(1, .v (.int .i64 a1)), (2, .v (.int .i64 a2)), (3, .ptr (g + 0) 0), (47, .v (.bool j))]) (fun j H' g' => St (· < g) H0 [(g + 0, .cells [.v (.int .i64 a0.Letters), .v (.int .i64 a0.Numbers), .v (.int .i64 a0.Pitch), .v (.int .i64 a0.Slack), .v (.int .i64 a0.Gap), .v (.int .i64 a0.Pause), .v (.int .i64 a0.Sparks), .sl .no 1 (a0.Times.map cI)])] H' g' ∧ law13_PulsesMore_j1 n a0 a1 a2 j = some r) ?_ ?_
  · rintro v1 H g1 ⟨hS, hM⟩
    change wpA _ _ _ _ (Fr.of [(1, .v (.int .i64 a1)), (2, .v (.int .i64 a2)), (3, .ptr (g + 0) 0), (47, .v (.bool v1))]) _ _
    replace hS : St (· < g) H0 [(g + 0, .cells [.v (.int .i64 a0.Letters), .v (.int .i64 a0.Numbers), .v (.int .i64 a0.Pitch), .v (.int .i64 a0.Slack), .v (.int .i64 a0.Gap), .v (.int .i64 a0.Pause), .v (.int .i64 a0.Sparks), .sl .no 1 (a0.Times.map cI)])] H g1 := hS
    replace hM : law13_PulsesMore_j1 n a0 a1 a2 v1 = some r := hM
    rcases Bool.eq_false_or_eq_true v1 with hb2 | hb2
    · replace hM := ifT hM hb2
      refine w_condT (e := v1) rfl hb2 ?_
      refine r_seq ?_
      refine r_region (n := 2) rfl ?_
      obtain ⟨r3, hr3, hM⟩ := bindE hM
      refine o_call (bs := []) (by decide) rfl rfl ((W_law13_works hr3).le .nil) ?_
      refine o_assign (v := .v (.bool r3)) (by decide) rfl ?_
      refine run_nil ?_
      replace hS := hS.keep (L' := []) [false] rfl
      refine w_next [(6, .v (.bool r3))] (.cons (.refl _) .nil) ?_
      refine r_ret ?_
      refine r_then_ret ?_
      refine w_end (x := .v (.bool r3)) (f := fun r => .v (.bool r)) (.inr rfl) ?_ (.refl _) (Option.some.inj hM) hS
      exact (res_one (res_tmp (x := .v (.bool r3)) rfl))
    · replace hM := ifF hM hb2
      refine w_condF (e := v1) rfl hb2 ?_
      refine r_skip ?_
      refine w_next [(1, .v (.int .i64 a1)), (2, .v (.int .i64 a2)), (3, .ptr (g + 0) 0)] (.cons (.refl _) (.cons (.refl _) (.cons (.refl _) .nil))) ?_
      refine r_seq ?_
      refine r_region (n := 4) rfl ?_
      refine o_load (v := .agg [.v (.int .i64 a0.Letters), .v (.int .i64 a0.Numbers), .v (.int .i64 a0.Pitch), .v (.int .i64 a0.Slack), .v (.int .i64 a0.Gap), .v (.int .i64 a0.Pause), .v (.int .i64 a0.Sparks), .sl .no 1 (a0.Times.map cI)]) 0 hS (by decide) rfl rfl .no (part_agg ty_agg24 (Nat.le_of_ble_eq_true rfl) rfl) ?_
      obtain ⟨r4, hr4, hM⟩ := bindE hM
      refine o_call (bs := [.agg [.v (.int .i64 a0.Letters), .v (.int .i64 a0.Numbers), .v (.int .i64 a0.Pitch), .v (.int .i64 a0.Slack), .v (.int .i64 a0.Gap), .v (.int .i64 a0.Pause), .v (.int .i64 a0.Sparks), .sl .no 1 (a0.Times.map cI)]]) (by decide) rfl rfl ((W_ref13_Copy hr4).le (.cons (.refl _) .nil)) ?_
      refine o_alloc hS (by decide) ty_zero24 (by omega) fun H hS => ?_
      refine o_store (v := .agg [.v (.int .i64 r4.Letters), .v (.int .i64 r4.Numbers), .v (.int .i64 r4.Pitch), .v (.int .i64 r4.Slack), .v (.int .i64 r4.Gap), .v (.int .i64 r4.Pause), .v (.int .i64 r4.Sparks), .sl .no 1 (r4.Times.map cI)]) (ns := [.v (.int .i64 r4.Letters), .v (.int .i64 r4.Numbers), .v (.int .i64 r4.Pitch), .v (.int .i64 r4.Slack), .v (.int .i64 r4.Gap), .v (.int .i64 r4.Pause), .v (.int .i64 r4.Sparks), .sl .no 1 (r4.Times.map cI)]) (L' := [(g1 + 2, .cells [.v (.int .i64 r4.Letters), .v (.int .i64 r4.Numbers), .v (.int .i64 r4.Pitch), .v (.int .i64 r4.Slack), .v (.int .i64 r4.Gap), .v (.int .i64 r4.Pause), .v (.int .i64 r4.Sparks), .sl .no 1 (r4.Times.map cI)]), (g + 0, .cells [.v (.int .i64 a0.Letters), .v (.int .i64 a0.Numbers), .v (.int .i64 a0.Pitch), .v (.int .i64 a0.Slack), .v (.int .i64 a0.Gap), .v (.int .i64 a0.Pause), .v (.int .i64 a0.Sparks), .sl .no 1 (a0.Times.map cI)])]) 0 hS rfl rfl .no rfl rfl ty_var24 (Nat.le_of_ble_eq_true rfl) rfl fun H hS => ?_
      refine run_nil ?_
      refine w_next [(1, .v (.int .i64 a1)), (2, .v (.int .i64 a2)), (3, .ptr (g + 0) 0), (7, .ptr (g1 + 2) 0)] (.cons (.refl _) (.cons (.refl _) (.cons (.refl _) (.cons (.refl _) .nil)))) ?_
      refine r_seq ?_
      refine r_region (n := 6) rfl ?_
      refine o_fieldP (by decide) ty_fo24_6 rfl ?_
      refine o_load (v := .v (.int .i64 r4.Sparks)) 0 hS (by decide) rfl rfl .no (part_one ty_agg3 ty_sc3 rfl) ?_
      refine o_move (v := .v (.int .i64 a1)) (by decide) rfl ?_
      refine o_int (v := .v (.int .i64 (w64 (r4.Sparks + a1)))) (by decide) rfl rfl rfl ?_
      refine o_fieldP (by decide) ty_fo24_6 rfl ?_
      refine o_store (v := .v (.int .i64 (w64 (r4.Sparks + a1)))) (ns := [.v (.int .i64 (w64 (r4.Sparks + a1)))]) (L' := [(g1 + 2, .cells [.v (.int .i64 r4.Letters), .v (.int .i64 r4.Numbers), .v (.int .i64 r4.Pitch), .v (.int .i64 r4.Slack), .v (.int .i64 r4.Gap), .v (.int .i64 r4.Pause), .v (.int .i64 (w64 (r4.Sparks + a1))), .sl .no 1 (r4.Times.map cI)]), (g + 0, .cells [.v (.int .i64 a0.Letters), .v (.int .i64 a0.Numbers), .v (.int .i64 a0.Pitch), .v (.int .i64 a0.Slack), .v (.int .i64 a0.Gap), .v (.int .i64 a0.Pause), .v (.int .i64 a0.Sparks), .sl .no 1 (a0.Times.map cI)])]) 0 hS rfl rfl .no rfl rfl ty_var3 (Nat.le_of_ble_eq_true rfl) rfl fun H hS => ?_
      refine run_nil ?_
      refine w_next [(2, .v (.int .i64 a2)), (3, .ptr (g + 0) 0), (7, .ptr (g1 + 2) 0)] (.cons (.refl _) (.cons (.refl _) (.cons (.refl _) .nil))) ?_
      refine r_seq ?_
      refine r_region (n := 7) rfl ?_
      refine o_load (v := .agg [.v (.int .i64 a0.Letters), .v (.int .i64 a0.Numbers), .v (.int .i64 a0.Pitch), .v (.int .i64 a0.Slack), .v (.int .i64 a0.Gap), .v (.int .i64 a0.Pause), .v (.int .i64 a0.Sparks), .sl .no 1 (a0.Times.map cI)]) 1 hS (by decide) rfl rfl .no (part_agg ty_agg24 (Nat.le_of_ble_eq_true rfl) rfl) ?_
      obtain ⟨r5, hr5, hM⟩ := bindE hM
      refine o_call (bs := [.agg [.v (.int .i64 a0.Letters), .v (.int .i64 a0.Numbers), .v (.int .i64 a0.Pitch), .v (.int .i64 a0.Slack), .v (.int .i64 a0.Gap), .v (.int .i64 a0.Pause), .v (.int .i64 a0.Sparks), .sl .no 1 (a0.Times.map cI)]]) (by decide) rfl rfl ((W_pulses_Many hr5).le (.cons (.refl _) .nil)) ?_
      refine o_move (v := .tup [.v (.int .i64 r5.1), .v (.int .i64 r5.2)]) (by decide) rfl ?_
      refine o_extract (v := .v (.int .i64 r5.1)) (by decide) rfl rfl ?_
      refine o_extract (v := .v (.int .i64 r5.2)) (by decide) rfl rfl ?_
      refine o_assign (v := .v (.int .i64 r5.1)) (by decide) rfl ?_
      refine o_assign (v := .v (.int .i64 r5.2)) (by decide) rfl ?_
      refine run_nil ?_
      refine w_next [(2, .v (.int .i64 a2)), (3, .ptr (g + 0) 0), (7, .ptr (g1 + 2) 0), (8, .v (.int .i64 r5.1)), (9, .v (.int .i64 r5.2))] (.cons (.refl _) (.cons (.refl _) (.cons (.refl _) (.cons (.refl _) (.cons (.refl _) .nil))))) ?_
      refine r_seq ?_
      refine r_region (n := 7) rfl ?_
      refine o_load (v := .agg [.v (.int .i64 r4.Letters), .v (.int .i64 r4.Numbers), .v (.int .i64 r4.Pitch), .v (.int .i64 r4.Slack), .v (.int .i64 r4.Gap), .v (.int .i64 r4.Pause), .v (.int .i64 (w64 (r4.Sparks + a1))), .sl .no 1 (r4.Times.map cI)]) 0 hS (by decide) rfl rfl .no (part_agg ty_agg24 (Nat.le_of_ble_eq_true rfl) rfl) ?_
      obtain ⟨r6, hr6, hM⟩ := bindE hM
      refine o_call (bs := [.agg [.v (.int .i64 r4.Letters), .v (.int .i64 r4.Numbers), .v (.int .i64 r4.Pitch), .v (.int .i64 r4.Slack), .v (.int .i64 r4.Gap), .v (.int .i64 r4.Pause), .v (.int .i64 (w64 (r4.Sparks + a1))), .sl .no 1 (r4.Times.map cI)]]) (by decide) rfl rfl ((W_pulses_Many hr6).le (.cons (.refl _) .nil)) ?_
      refine o_move (v := .tup [.v (.int .i64 r6.1), .v (.int .i64 r6.2)]) (by decide) rfl ?_
      refine o_extract (v := .v (.int .i64 r6.1)) (by decide) rfl rfl ?_
      refine o_extract (v := .v (.int .i64 r6.2)) (by decide) rfl rfl ?_
      refine o_assign (v := .v (.int .i64 r6.1)) (by decide) rfl ?_
      refine o_assign (v := .v (.int .i64 r6.2)) (by decide) rfl ?_
      refine run_nil ?_
      refine w_next [(2, .v (.int .i64 a2)), (3, .ptr (g + 0) 0), (7, .ptr (g1 + 2) 0), (8, .v (.int .i64 r5.1)), (9, .v (.int .i64 r5.2)), (10, .v (.int .i64 r6.1)), (11, .v (.int .i64 r6.2))] (.cons (.refl _) (.cons (.refl _) (.cons (.refl _) (.cons (.refl _) (.cons (.refl _) (.cons (.refl _) (.cons (.refl _) .nil))))))) ?_
      refine r_seq ?_
      refine r_region (n := 7) rfl ?_
      refine o_load (v := .agg [.v (.int .i64 a0.Letters), .v (.int .i64 a0.Numbers), .v (.int .i64 a0.Pitch), .v (.int .i64 a0.Slack), .v (.int .i64 a0.Gap), .v (.int .i64 a0.Pause), .v (.int .i64 a0.Sparks), .sl .no 1 (a0.Times.map cI)]) 1 hS (by decide) rfl rfl .no (part_agg ty_agg24 (Nat.le_of_ble_eq_true rfl) rfl) ?_
      obtain ⟨r7, hr7, hM⟩ := bindE hM
      refine o_call (bs := [.agg [.v (.int .i64 a0.Letters), .v (.int .i64 a0.Numbers), .v (.int .i64 a0.Pitch), .v (.int .i64 a0.Slack), .v (.int .i64 a0.Gap), .v (.int .i64 a0.Pause), .v (.int .i64 a0.Sparks), .sl .no 1 (a0.Times.map cI)]]) (by decide) rfl rfl ((W_pulses_Lists hr7).le (.cons (.refl _) .nil)) ?_
      refine o_move (v := .tup [.v (.int .i64 r7.1), .v (.int .i64 r7.2)]) (by decide) rfl ?_
      refine o_extract (v := .v (.int .i64 r7.1)) (by decide) rfl rfl ?_
      refine o_extract (v := .v (.int .i64 r7.2)) (by decide) rfl rfl ?_
      refine o_assign (v := .v (.int .i64 r7.1)) (by decide) rfl ?_
      refine o_assign (v := .v (.int .i64 r7.2)) (by decide) rfl ?_
      refine run_nil ?_
      refine w_next [(2, .v (.int .i64 a2)), (3, .ptr (g + 0) 0), (7, .ptr (g1 + 2) 0), (8, .v (.int .i64 r5.1)), (9, .v (.int .i64 r5.2)), (10, .v (.int .i64 r6.1)), (11, .v (.int .i64 r6.2)), (12, .v (.int .i64 r7.1)), (13, .v (.int .i64 r7.2))] (.cons (.refl _) (.cons (.refl _) (.cons (.refl _) (.cons (.refl _) (.cons (.refl _) (.cons (.refl _) (.cons (.refl _) (.cons (.refl _) (.cons (.refl _) .nil))))))))) ?_
      refine r_seq ?_
      refine r_region (n := 7) rfl ?_
      refine o_load (v := .agg [.v (.int .i64 r4.Letters), .v (.int .i64 r4.Numbers), .v (.int .i64 r4.Pitch), .v (.int .i64 r4.Slack), .v (.int .i64 r4.Gap), .v (.int .i64 r4.Pause), .v (.int .i64 (w64 (r4.Sparks + a1))), .sl .no 1 (r4.Times.map cI)]) 0 hS (by decide) rfl rfl .no (part_agg ty_agg24 (Nat.le_of_ble_eq_true rfl) rfl) ?_
      obtain ⟨r8, hr8, hM⟩ := bindE hM
      refine o_call (bs := [.agg [.v (.int .i64 r4.Letters), .v (.int .i64 r4.Numbers), .v (.int .i64 r4.Pitch), .v (.int .i64 r4.Slack), .v (.int .i64 r4.Gap), .v (.int .i64 r4.Pause), .v (.int .i64 (w64 (r4.Sparks + a1))), .sl .no 1 (r4.Times.map cI)]]) (by decide) rfl rfl ((W_pulses_Lists hr8).le (.cons (.refl _) .nil)) ?_
      refine o_move (v := .tup [.v (.int .i64 r8.1), .v (.int .i64 r8.2)]) (by decide) rfl ?_
      refine o_extract (v := .v (.int .i64 r8.1)) (by decide) rfl rfl ?_
      refine o_extract (v := .v (.int .i64 r8.2)) (by decide) rfl rfl ?_
      refine o_assign (v := .v (.int .i64 r8.1)) (by decide) rfl ?_
      refine o_assign (v := .v (.int .i64 r8.2)) (by decide) rfl ?_
      refine run_nil ?_
      refine w_next [(2, .v (.int .i64 a2)), (3, .ptr (g + 0) 0), (7, .ptr (g1 + 2) 0), (8, .v (.int .i64 r5.1)), (9, .v (.int .i64 r5.2)), (10, .v (.int .i64 r6.1)), (11, .v (.int .i64 r6.2)), (12, .v (.int .i64 r7.1)), (13, .v (.int .i64 r7.2)), (14, .v (.int .i64 r8.1)), (15, .v (.int .i64 r8.2))] (.cons (.refl _) (.cons (.refl _) (.cons (.refl _) (.cons (.refl _) (.cons (.refl _) (.cons (.refl _) (.cons (.refl _) (.cons (.refl _) (.cons (.refl _) (.cons (.refl _) (.cons (.refl _) .nil))))))))))) ?_
      refine r_seq ?_
      refine w_join (J := Bool) (fun j => [(2, .v (.int .i64 a2)), (3, .ptr (g + 0) 0), (7, .ptr (g1 + 2) 0), (8, .v (.int .i64 r5.1)), (9, .v (.int .i64 r5.2)), (10, .v (.int .i64 r6.1)), (11, .v (.int .i64 r6.2)), (12, .v (.int .i64 r7.1)), (14, .v (.int .i64 r8.1)), (93, .v (.bool j))]) (fun j H' g' => St (· < g) H0 [(g1 + 2, .cells [.v (.int .i64 r4.Letters), .v (.int .i64 r4.Numbers), .v (.int .i64 r4.Pitch), .v (.int .i64 r4.Slack), .v (.int .i64 r4.Gap), .v (.int .i64 r4.Pause), .v (.int .i64 (w64 (r4.Sparks + a1))), .sl .no 1 (r4.Times.map cI)]), (g + 0, .cells [.v (.int .i64 a0.Letters), .v (.int .i64 a0.Numbers), .v (.int .i64 a0.Pitch), .v (.int .i64 a0.Slack), .v (.int .i64 a0.Gap), .v (.int .i64 a0.Pause), .v (.int .i64 a0.Sparks), .sl .no 1 (a0.Times.map cI)])] H' g' ∧ law13_PulsesMore_j2 n a0 a1 a2 r4 r5 r6 r7 r8 j = some r) ?_ ?_
      · rintro v9 H g2 ⟨hS, hM⟩
        change wpA _ _ _ _ (Fr.of [(2, .v (.int .i64 a2)), (3, .ptr (g + 0) 0), (7, .ptr (g1 + 2) 0), (8, .v (.int .i64 r5.1)), (9, .v (.int .i64 r5.2)), (10, .v (.int .i64 r6.1)), (11, .v (.int .i64 r6.2)), (12, .v (.int .i64 r7.1)), (14, .v (.int .i64 r8.1)), (93, .v (.bool v9))]) _ _
        replace hS : St (· < g) H0 [(g1 + 2, .cells [.v (.int .i64 r4.Letters), .v (.int .i64 r4.Numbers), .v (.int .i64 r4.Pitch), .v (.int .i64 r4.Slack), .v (.int .i64 r4.Gap), .v (.int .i64 r4.Pause), .v (.int .i64 (w64 (r4.Sparks + a1))), .sl .no 1 (r4.Times.map cI)]), (g + 0, .cells [.v (.int .i64 a0.Letters), .v (.int .i64 a0.Numbers), .v (.int .i64 a0.Pitch), .v (.int .i64 a0.Slack), .v (.int .i64 a0.Gap), .v (.int .i64 a0.Pause), .v (.int .i64 a0.Sparks), .sl .no 1 (a0.Times.map cI)])] H g2 := hS
        replace hM : law13_PulsesMore_j2 n a0 a1 a2 r4 r5 r6 r7 r8 v9 = some r := hM
        rcases Bool.eq_false_or_eq_true v9 with hb10 | hb10
        · replace hM := ifT hM hb10
          refine w_condT (e := v9) rfl hb10 ?_
          refine r_seq ?_
          refine r_region (n := 1) rfl ?_
          refine o_assign (v := .v (.bool false)) (by decide) rfl ?_
          refine run_nil ?_
          replace hS := hS.keep (L' := []) [false, false] rfl
          refine w_next [(6, .v (.bool false))] (.cons (.refl _) .nil) ?_
          refine r_ret ?_
          refine r_then_ret ?_
          refine w_end (x := .v (.bool false)) (f := fun r => .v (.bool r)) (.inr rfl) ?_ (.refl _) (Option.some.inj hM) hS
          exact (res_one (res_tmp (x := .v (.bool false)) rfl))
        · replace hM := ifF hM hb10
          refine w_condF (e := v9) rfl hb10 ?_
          refine r_skip ?_
          refine w_next [(2, .v (.int .i64 a2)), (3, .ptr (g + 0) 0), (7, .ptr (g1 + 2) 0), (8, .v (.int .i64 r5.1)), (9, .v (.int .i64 r5.2)), (10, .v (.int .i64 r6.1)), (11, .v (.int .i64 r6.2)), (12, .v (.int .i64 r7.1)), (14, .v (.int .i64 r8.1))] (.cons (.refl _) (.cons (.refl _) (.cons (.refl _) (.cons (.refl _) (.cons (.refl _) (.cons (.refl _) (.cons (.refl _) (.cons (.refl _) (.cons (.refl _) .nil))))))))) ?_
          refine r_seq ?_
          refine r_seq ?_
          refine r_region (n := 2) rfl ?_
          refine o_move (v := .v (.int .i64 r5.2)) (by decide) rfl ?_
          refine o_int (v := .v (.bool (r5.2 != 0))) (by decide) rfl rfl rfl ?_
          refine run_nil ?_
          refine w_next [(2, .v (.int .i64 a2)), (3, .ptr (g + 0) 0), (7, .ptr (g1 + 2) 0), (8, .v (.int .i64 r5.1)), (10, .v (.int .i64 r6.1)), (11, .v (.int .i64 r6.2)), (12, .v (.int .i64 r7.1)), (14, .v (.int .i64 r8.1)), (95, .v (.bool (r5.2 != 0)))] (.cons (.refl _) (.cons (.refl _) (.cons (.refl _) (.cons (.refl _) (.cons (.refl _) (.cons (.refl _) (.cons (.refl _) (.cons (.refl _) (.cons (.refl _) .nil))))))))) ?_
          rcases Bool.eq_false_or_eq_true (r5.2 != 0) with hb11 | hb11
          · replace hM := ifT hM hb11
            refine w_condT (e := (r5.2 != 0)) rfl hb11 ?_
            refine r_seq ?_
            refine r_region (n := 2) rfl ?_
            obtain ⟨r12, hr12, hM⟩ := bindE hM
            refine o_call (bs := []) (by decide) rfl rfl ((W_law13_works hr12).le .nil) ?_
            refine o_assign (v := .v (.bool r12)) (by decide) rfl ?_
            refine run_nil ?_
            replace hS := hS.keep (L' := []) [false, false] rfl
            refine w_next [(6, .v (.bool r12))] (.cons (.refl _) .nil) ?_
            refine r_ret ?_
            refine r_then_ret ?_
            refine w_end (x := .v (.bool r12)) (f := fun r => .v (.bool r)) (.inr rfl) ?_ (.refl _) (Option.some.inj hM) hS
            exact (res_one (res_tmp (x := .v (.bool r12)) rfl))
          · replace hM := ifF hM hb11
            refine w_condF (e := (r5.2 != 0)) rfl hb11 ?_
            refine r_skip ?_
            refine w_next [(2, .v (.int .i64 a2)), (3, .ptr (g + 0) 0), (7, .ptr (g1 + 2) 0), (8, .v (.int .i64 r5.1)), (10, .v (.int .i64 r6.1)), (11, .v (.int .i64 r6.2)), (12, .v (.int .i64 r7.1)), (14, .v (.int .i64 r8.1))] (.cons (.refl _) (.cons (.refl _) (.cons (.refl _) (.cons (.refl _) (.cons (.refl _) (.cons (.refl _) (.cons (.refl _) (.cons (.refl _) .nil)))))))) ?_
            refine r_seq ?_
            refine r_region (n := 9) rfl ?_
            refine o_load (v := .agg [.v (.int .i64 a0.Letters), .v (.int .i64 a0.Numbers), .v (.int .i64 a0.Pitch), .v (.int .i64 a0.Slack), .v (.int .i64 a0.Gap), .v (.int .i64 a0.Pause), .v (.int .i64 a0.Sparks), .sl .no 1 (a0.Times.map cI)]) 1 hS (by decide) rfl rfl .no (part_agg ty_agg24 (Nat.le_of_ble_eq_true rfl) rfl) ?_
            refine o_move (v := .v (.int .i64 a2)) (by decide) rfl ?_
            obtain ⟨r13, hr13, hM⟩ := bindE hM
            refine o_call (bs := [.agg [.v (.int .i64 a0.Letters), .v (.int .i64 a0.Numbers), .v (.int .i64 a0.Pitch), .v (.int .i64 a0.Slack), .v (.int .i64 a0.Gap), .v (.int .i64 a0.Pause), .v (.int .i64 a0.Sparks), .sl .no 1 (a0.Times.map cI)], .v (.int .i64 a2)]) (by decide) rfl rfl ((W_pulses_Asked hr13).le (.cons (.refl _) (.cons (.refl _) .nil))) ?_
            refine o_move (v := .tup [.agg [.v (.int .i64 r13.1.Low), .v (.int .i64 r13.1.High)], .v (.int .i64 r13.2)]) (by decide) rfl ?_
            refine o_extract (v := .agg [.v (.int .i64 r13.1.Low), .v (.int .i64 r13.1.High)]) (by decide) rfl rfl ?_
            refine o_extract (v := .v (.int .i64 r13.2)) (by decide) rfl rfl ?_
            refine o_alloc hS (by decide) ty_zero44 (by omega) fun H hS => ?_
            refine o_store (v := .agg [.v (.int .i64 r13.1.Low), .v (.int .i64 r13.1.High)]) (ns := [.v (.int .i64 r13.1.Low), .v (.int .i64 r13.1.High)]) (L' := [(g2 + 2 + 6, .cells [.v (.int .i64 r13.1.Low), .v (.int .i64 r13.1.High)]), (g1 + 2, .cells [.v (.int .i64 r4.Letters), .v (.int .i64 r4.Numbers), .v (.int .i64 r4.Pitch), .v (.int .i64 r4.Slack), .v (.int .i64 r4.Gap), .v (.int .i64 r4.Pause), .v (.int .i64 (w64 (r4.Sparks + a1))), .sl .no 1 (r4.Times.map cI)]), (g + 0, .cells [.v (.int .i64 a0.Letters), .v (.int .i64 a0.Numbers), .v (.int .i64 a0.Pitch), .v (.int .i64 a0.Slack), .v (.int .i64 a0.Gap), .v (.int .i64 a0.Pause), .v (.int .i64 a0.Sparks), .sl .no 1 (a0.Times.map cI)])]) 0 hS rfl rfl .no rfl rfl ty_var44 (Nat.le_of_ble_eq_true rfl) rfl fun H hS => ?_
            refine o_assign (v := .v (.int .i64 r13.2)) (by decide) rfl ?_
            refine run_nil ?_
            refine w_next [(2, .v (.int .i64 a2)), (3, .ptr (g + 0) 0), (7, .ptr (g1 + 2) 0), (8, .v (.int .i64 r5.1)), (10, .v (.int .i64 r6.1)), (11, .v (.int .i64 r6.2)), (12, .v (.int .i64 r7.1)), (14, .v (.int .i64 r8.1)), (16, .ptr (g2 + 2 + 6) 0), (17, .v (.int .i64 r13.2))] (.cons (.refl _) (.cons (.refl _) (.cons (.refl _) (.cons (.refl _) (.cons (.refl _) (.cons (.refl _) (.cons (.refl _) (.cons (.refl _) (.cons (.refl _) (.cons (.refl _) .nil)))))))))) ?_
            refine r_seq ?_
            refine r_region (n := 9) rfl ?_
            refine o_load (v := .agg [.v (.int .i64 r4.Letters), .v (.int .i64 r4.Numbers), .v (.int .i64 r4.Pitch), .v (.int .i64 r4.Slack), .v (.int .i64 r4.Gap), .v (.int .i64 r4.Pause), .v (.int .i64 (w64 (r4.Sparks + a1))), .sl .no 1 (r4.Times.map cI)]) 1 hS (by decide) rfl rfl .no (part_agg ty_agg24 (Nat.le_of_ble_eq_true rfl) rfl) ?_
            refine o_move (v := .v (.int .i64 a2)) (by decide) rfl ?_
            obtain ⟨r14, hr14, hM⟩ := bindE hM
            refine o_call (bs := [.agg [.v (.int .i64 r4.Letters), .v (.int .i64 r4.Numbers), .v (.int .i64 r4.Pitch), .v (.int .i64 r4.Slack), .v (.int .i64 r4.Gap), .v (.int .i64 r4.Pause), .v (.int .i64 (w64 (r4.Sparks + a1))), .sl .no 1 (r4.Times.map cI)], .v (.int .i64 a2)]) (by decide) rfl rfl ((W_pulses_Asked hr14).le (.cons (.refl _) (.cons (.refl _) .nil))) ?_
            refine o_move (v := .tup [.agg [.v (.int .i64 r14.1.Low), .v (.int .i64 r14.1.High)], .v (.int .i64 r14.2)]) (by decide) rfl ?_
            refine o_extract (v := .agg [.v (.int .i64 r14.1.Low), .v (.int .i64 r14.1.High)]) (by decide) rfl rfl ?_
            refine o_extract (v := .v (.int .i64 r14.2)) (by decide) rfl rfl ?_
            refine o_alloc hS (by decide) ty_zero44 (by omega) fun H hS => ?_
            refine o_store (v := .agg [.v (.int .i64 r14.1.Low), .v (.int .i64 r14.1.High)]) (ns := [.v (.int .i64 r14.1.Low), .v (.int .i64 r14.1.High)]) (L' := [(g2 + 2 + 9 + 6, .cells [.v (.int .i64 r14.1.Low), .v (.int .i64 r14.1.High)]), (g2 + 2 + 6, .cells [.v (.int .i64 r13.1.Low), .v (.int .i64 r13.1.High)]), (g1 + 2, .cells [.v (.int .i64 r4.Letters), .v (.int .i64 r4.Numbers), .v (.int .i64 r4.Pitch), .v (.int .i64 r4.Slack), .v (.int .i64 r4.Gap), .v (.int .i64 r4.Pause), .v (.int .i64 (w64 (r4.Sparks + a1))), .sl .no 1 (r4.Times.map cI)]), (g + 0, .cells [.v (.int .i64 a0.Letters), .v (.int .i64 a0.Numbers), .v (.int .i64 a0.Pitch), .v (.int .i64 a0.Slack), .v (.int .i64 a0.Gap), .v (.int .i64 a0.Pause), .v (.int .i64 a0.Sparks), .sl .no 1 (a0.Times.map cI)])]) 0 hS rfl rfl .no rfl rfl ty_var44 (Nat.le_of_ble_eq_true rfl) rfl fun H hS => ?_
            refine o_assign (v := .v (.int .i64 r14.2)) (by decide) rfl ?_
            refine run_nil ?_
            refine w_next [(3, .ptr (g + 0) 0), (7, .ptr (g1 + 2) 0), (8, .v (.int .i64 r5.1)), (10, .v (.int .i64 r6.1)), (11, .v (.int .i64 r6.2)), (12, .v (.int .i64 r7.1)), (14, .v (.int .i64 r8.1)), (16, .ptr (g2 + 2 + 6) 0), (17, .v (.int .i64 r13.2)), (18, .ptr (g2 + 2 + 9 + 6) 0), (19, .v (.int .i64 r14.2))] (.cons (.refl _) (.cons (.refl _) (.cons (.refl _) (.cons (.refl _) (.cons (.refl _) (.cons (.refl _) (.cons (.refl _) (.cons (.refl _) (.cons (.refl _) (.cons (.refl _) (.cons (.refl _) .nil))))))))))) ?_
            refine r_seq ?_
            refine w_join (J := Bool) (fun j => [(3, .ptr (g + 0) 0), (7, .ptr (g1 + 2) 0), (158, .v (.bool j))]) (fun j H' g' => St (· < g) H0 [(g1 + 2, .cells [.v (.int .i64 r4.Letters), .v (.int .i64 r4.Numbers), .v (.int .i64 r4.Pitch), .v (.int .i64 r4.Slack), .v (.int .i64 r4.Gap), .v (.int .i64 r4.Pause), .v (.int .i64 (w64 (r4.Sparks + a1))), .sl .no 1 (r4.Times.map cI)]), (g + 0, .cells [.v (.int .i64 a0.Letters), .v (.int .i64 a0.Numbers), .v (.int .i64 a0.Pitch), .v (.int .i64 a0.Slack), .v (.int .i64 a0.Gap), .v (.int .i64 a0.Pause), .v (.int .i64 a0.Sparks), .sl .no 1 (a0.Times.map cI)])] H' g' ∧ law13_PulsesMore_j3 n a0 a1 r4 j = some r) ?_ ?_
            · rintro v15 H g3 ⟨hS, hM⟩
              change wpA _ _ _ _ (Fr.of [(3, .ptr (g + 0) 0), (7, .ptr (g1 + 2) 0), (158, .v (.bool v15))]) _ _
              replace hS : St (· < g) H0 [(g1 + 2, .cells [.v (.int .i64 r4.Letters), .v (.int .i64 r4.Numbers), .v (.int .i64 r4.Pitch), .v (.int .i64 r4.Slack), .v (.int .i64 r4.Gap), .v (.int .i64 r4.Pause), .v (.int .i64 (w64 (r4.Sparks + a1))), .sl .no 1 (r4.Times.map cI)]), (g + 0, .cells [.v (.int .i64 a0.Letters), .v (.int .i64 a0.Numbers), .v (.int .i64 a0.Pitch), .v (.int .i64 a0.Slack), .v (.int .i64 a0.Gap), .v (.int .i64 a0.Pause), .v (.int .i64 a0.Sparks), .sl .no 1 (a0.Times.map cI)])] H g3 := hS
              replace hM : law13_PulsesMore_j3 n a0 a1 r4 v15 = some r := hM
              rcases Bool.eq_false_or_eq_true v15 with hb16 | hb16
              · replace hM := ifT hM hb16
                refine w_condT (e := v15) rfl hb16 ?_
                refine r_seq ?_
                refine r_region (n := 1) rfl ?_
                refine o_assign (v := .v (.bool false)) (by decide) rfl ?_
                refine run_nil ?_
                replace hS := hS.keep (L' := []) [false, false] rfl
                refine w_next [(6, .v (.bool false))] (.cons (.refl _) .nil) ?_
                refine r_ret ?_
                refine r_then_ret ?_
                refine w_end (x := .v (.bool false)) (f := fun r => .v (.bool r)) (.inr rfl) ?_ (.refl _) (Option.some.inj hM) hS
                exact (res_one (res_tmp (x := .v (.bool false)) rfl))
              · replace hM := ifF hM hb16
                refine w_condF (e := v15) rfl hb16 ?_
                refine r_skip ?_
                refine w_next [(3, .ptr (g + 0) 0), (7, .ptr (g1 + 2) 0)] (.cons (.refl _) (.cons (.refl _) .nil)) ?_
                refine r_seq ?_
                refine r_region (n := 7) rfl ?_
                refine o_load (v := .agg [.v (.int .i64 a0.Letters), .v (.int .i64 a0.Numbers), .v (.int .i64 a0.Pitch), .v (.int .i64 a0.Slack), .v (.int .i64 a0.Gap), .v (.int .i64 a0.Pause), .v (.int .i64 a0.Sparks), .sl .no 1 (a0.Times.map cI)]) 1 hS (by decide) rfl rfl .no (part_agg ty_agg24 (Nat.le_of_ble_eq_true rfl) rfl) ?_
                obtain ⟨r17, hr17, hM⟩ := bindE hM
                refine o_call (bs := [.agg [.v (.int .i64 a0.Letters), .v (.int .i64 a0.Numbers), .v (.int .i64 a0.Pitch), .v (.int .i64 a0.Slack), .v (.int .i64 a0.Gap), .v (.int .i64 a0.Pause), .v (.int .i64 a0.Sparks), .sl .no 1 (a0.Times.map cI)]]) (by decide) rfl rfl ((W_pulses_Real hr17).le (.cons (.refl _) .nil)) ?_
                refine o_move (v := .tup [.sl .no 1 (r17.1.map cI), .v (.int .i64 r17.2)]) (by decide) rfl ?_
                refine o_extract (v := .sl .no 1 (r17.1.map cI)) (by decide) rfl rfl ?_
                refine o_extract (v := .v (.int .i64 r17.2)) (by decide) rfl rfl ?_
                refine o_assign (v := .sl .no 1 (r17.1.map cI)) (by decide) rfl ?_
                refine o_assign (v := .v (.int .i64 r17.2)) (by decide) rfl ?_
                refine run_nil ?_
                refine w_next [(3, .ptr (g + 0) 0), (7, .ptr (g1 + 2) 0), (9, .v (.int .i64 r17.2)), (20, .sl .no 1 (r17.1.map cI))] (.cons (.refl _) (.cons (.refl _) (.cons (.refl _) (.cons (.refl _) .nil)))) ?_
                refine r_seq ?_
                refine r_region (n := 7) rfl ?_
                refine o_load (v := .agg [.v (.int .i64 r4.Letters), .v (.int .i64 r4.Numbers), .v (.int .i64 r4.Pitch), .v (.int .i64 r4.Slack), .v (.int .i64 r4.Gap), .v (.int .i64 r4.Pause), .v (.int .i64 (w64 (r4.Sparks + a1))), .sl .no 1 (r4.Times.map cI)]) 0 hS (by decide) rfl rfl .no (part_agg ty_agg24 (Nat.le_of_ble_eq_true rfl) rfl) ?_
                obtain ⟨r18, hr18, hM⟩ := bindE hM
                refine o_call (bs := [.agg [.v (.int .i64 r4.Letters), .v (.int .i64 r4.Numbers), .v (.int .i64 r4.Pitch), .v (.int .i64 r4.Slack), .v (.int .i64 r4.Gap), .v (.int .i64 r4.Pause), .v (.int .i64 (w64 (r4.Sparks + a1))), .sl .no 1 (r4.Times.map cI)]]) (by decide) rfl rfl ((W_pulses_Real hr18).le (.cons (.refl _) .nil)) ?_
                refine o_move (v := .tup [.sl .no 1 (r18.1.map cI), .v (.int .i64 r18.2)]) (by decide) rfl ?_
                refine o_extract (v := .sl .no 1 (r18.1.map cI)) (by decide) rfl rfl ?_
                refine o_extract (v := .v (.int .i64 r18.2)) (by decide) rfl rfl ?_
                refine o_assign (v := .sl .no 1 (r18.1.map cI)) (by decide) rfl ?_
                refine o_assign (v := .v (.int .i64 r18.2)) (by decide) rfl ?_
                refine run_nil ?_
                refine w_next [(3, .ptr (g + 0) 0), (7, .ptr (g1 + 2) 0), (9, .v (.int .i64 r17.2)), (11, .v (.int .i64 r18.2)), (20, .sl .no 1 (r17.1.map cI)), (21, .sl .no 1 (r18.1.map cI))] (.cons (.refl _) (.cons (.refl _) (.cons (.refl _) (.cons (.refl _) (.cons (.refl _) (.cons (.refl _) .nil)))))) ?_
                refine r_seq ?_
                refine r_region (n := 7) rfl ?_
                refine o_load (v := .agg [.v (.int .i64 a0.Letters), .v (.int .i64 a0.Numbers), .v (.int .i64 a0.Pitch), .v (.int .i64 a0.Slack), .v (.int .i64 a0.Gap), .v (.int .i64 a0.Pause), .v (.int .i64 a0.Sparks), .sl .no 1 (a0.Times.map cI)]) 1 hS (by decide) rfl rfl .no (part_agg ty_agg24 (Nat.le_of_ble_eq_true rfl) rfl) ?_
                obtain ⟨r19, hr19, hM⟩ := bindE hM
                refine o_call (bs := [.agg [.v (.int .i64 a0.Letters), .v (.int .i64 a0.Numbers), .v (.int .i64 a0.Pitch), .v (.int .i64 a0.Slack), .v (.int .i64 a0.Gap), .v (.int .i64 a0.Pause), .v (.int .i64 a0.Sparks), .sl .no 1 (a0.Times.map cI)]]) (by decide) rfl rfl ((W_pulses_Sparks hr19).le (.cons (.refl _) .nil)) ?_
                refine o_move (v := .tup [.sl .no 1 (r19.1.map cI), .v (.int .i64 r19.2)]) (by decide) rfl ?_
                refine o_extract (v := .sl .no 1 (r19.1.map cI)) (by decide) rfl rfl ?_
                refine o_extract (v := .v (.int .i64 r19.2)) (by decide) rfl rfl ?_
                refine o_assign (v := .sl .no 1 (r19.1.map cI)) (by decide) rfl ?_
                refine o_assign (v := .v (.int .i64 r19.2)) (by decide) rfl ?_
                refine run_nil ?_
                replace hS := hS.keep (L' := [(g1 + 2, .cells [.v (.int .i64 r4.Letters), .v (.int .i64 r4.Numbers), .v (.int .i64 r4.Pitch), .v (.int .i64 r4.Slack), .v (.int .i64 r4.Gap), .v (.int .i64 r4.Pause), .v (.int .i64 (w64 (r4.Sparks + a1))), .sl .no 1 (r4.Times.map cI)])]) [true, false] rfl
                refine w_next [(7, .ptr (g1 + 2) 0), (9, .v (.int .i64 r17.2)), (11, .v (.int .i64 r18.2)), (13, .v (.int .i64 r19.2)), (20, .sl .no 1 (r17.1.map cI)), (21, .sl .no 1 (r18.1.map cI)), (22, .sl .no 1 (r19.1.map cI))] (.cons (.refl _) (.cons (.refl _) (.cons (.refl _) (.cons (.refl _) (.cons (.refl _) (.cons (.refl _) (.cons (.refl _) .nil))))))) ?_
                refine r_seq ?_
                refine r_region (n := 7) rfl ?_
                refine o_load (v := .agg [.v (.int .i64 r4.Letters), .v (.int .i64 r4.Numbers), .v (.int .i64 r4.Pitch), .v (.int .i64 r4.Slack), .v (.int .i64 r4.Gap), .v (.int .i64 r4.Pause), .v (.int .i64 (w64 (r4.Sparks + a1))), .sl .no 1 (r4.Times.map cI)]) 0 hS (by decide) rfl rfl .no (part_agg ty_agg24 (Nat.le_of_ble_eq_true rfl) rfl) ?_
                obtain ⟨r20, hr20, hM⟩ := bindE hM
                refine o_call (bs := [.agg [.v (.int .i64 r4.Letters), .v (.int .i64 r4.Numbers), .v (.int .i64 r4.Pitch), .v (.int .i64 r4.Slack), .v (.int .i64 r4.Gap), .v (.int .i64 r4.Pause), .v (.int .i64 (w64 (r4.Sparks + a1))), .sl .no 1 (r4.Times.map cI)]]) (by decide) rfl rfl ((W_pulses_Sparks hr20).le (.cons (.refl _) .nil)) ?_
                refine o_move (v := .tup [.sl .no 1 (r20.1.map cI), .v (.int .i64 r20.2)]) (by decide) rfl ?_
                refine o_extract (v := .sl .no 1 (r20.1.map cI)) (by decide) rfl rfl ?_
                refine o_extract (v := .v (.int .i64 r20.2)) (by decide) rfl rfl ?_
                refine o_assign (v := .sl .no 1 (r20.1.map cI)) (by decide) rfl ?_
                refine o_assign (v := .v (.int .i64 r20.2)) (by decide) rfl ?_
                refine run_nil ?_
                replace hS := hS.keep (L' := []) [false] rfl
                refine w_next [(9, .v (.int .i64 r17.2)), (11, .v (.int .i64 r18.2)), (13, .v (.int .i64 r19.2)), (15, .v (.int .i64 r20.2)), (20, .sl .no 1 (r17.1.map cI)), (21, .sl .no 1 (r18.1.map cI)), (22, .sl .no 1 (r19.1.map cI)), (23, .sl .no 1 (r20.1.map cI))] (.cons (.refl _) (.cons (.refl _) (.cons (.refl _) (.cons (.refl _) (.cons (.refl _) (.cons (.refl _) (.cons (.refl _) (.cons (.refl _) .nil)))))))) ?_
                refine w_join (J := Bool) (fun j => [(6, .v (.bool j))]) (fun j H' g' => St (· < g) H0 [] H' g' ∧ law13_PulsesMore_j4 j = some r) ?_ ?_
                · rintro v21 H g4 ⟨hS, hM⟩
                  change wpA _ _ _ _ (Fr.of [(6, .v (.bool v21))]) _ _
                  replace hS : St (· < g) H0 [] H g4 := hS
                  replace hM : law13_PulsesMore_j4 v21 = some r := hM
                  refine r_ret ?_
                  refine w_end (x := .v (.bool v21)) (f := fun r => .v (.bool r)) (.inr rfl) ?_ (.refl _) (Option.some.inj hM) hS
                  exact (res_one (res_tmp (x := .v (.bool v21)) rfl))
                · refine r_region (n := 28) rfl ?_
                  refine o_move (v := .v (.int .i64 r17.2)) (by decide) rfl ?_
                  refine o_int (v := .v (.bool (r17.2 == 0))) (by decide) rfl rfl rfl ?_
                  refine o_move (v := .v (.bool (r17.2 == 0))) (by decide) rfl ?_
                  rcases Bool.eq_false_or_eq_true (r17.2 == 0) with hb22 | hb22
                  · replace hM := ifT hM hb22
                    refine o_guardY (j := 2) (e := (r17.2 == 0)) (want := true) rfl hb22 ?_
                    refine o_move (v := .v (.int .i64 r18.2)) (by decide) rfl ?_
                    refine o_guardY (j := 2) (e := (r17.2 == 0)) (want := true) rfl hb22 ?_
                    refine o_int (v := .v (.bool (r18.2 == 0))) (by decide) rfl rfl rfl ?_
                    refine o_pickT (v := .v (.bool (r18.2 == 0))) (e := (r17.2 == 0)) (by decide) rfl hb22 rfl ?_
                    refine o_move (v := .v (.bool (r18.2 == 0))) (by decide) rfl ?_
                    rcases Bool.eq_false_or_eq_true (r18.2 == 0) with hb23 | hb23
                    · replace hM := ifT hM hb23
                      refine o_guardY (j := 6) (e := (r18.2 == 0)) (want := true) rfl hb23 ?_
                      refine o_move (v := .v (.int .i64 r19.2)) (by decide) rfl ?_
                      refine o_guardY (j := 6) (e := (r18.2 == 0)) (want := true) rfl hb23 ?_
                      refine o_int (v := .v (.bool (r19.2 == 0))) (by decide) rfl rfl rfl ?_
                      refine o_pickT (v := .v (.bool (r19.2 == 0))) (e := (r18.2 == 0)) (by decide) rfl hb23 rfl ?_
                      refine o_move (v := .v (.bool (r19.2 == 0))) (by decide) rfl ?_
                      rcases Bool.eq_false_or_eq_true (r19.2 == 0) with hb24 | hb24
                      · replace hM := ifT hM hb24
                        refine o_guardY (j := 10) (e := (r19.2 == 0)) (want := true) rfl hb24 ?_
                        refine o_move (v := .v (.int .i64 r20.2)) (by decide) rfl ?_
                        refine o_guardY (j := 10) (e := (r19.2 == 0)) (want := true) rfl hb24 ?_
                        refine o_int (v := .v (.bool (r20.2 == 0))) (by decide) rfl rfl rfl ?_
                        refine o_pickT (v := .v (.bool (r20.2 == 0))) (e := (r19.2 == 0)) (by decide) rfl hb24 rfl ?_
                        refine o_move (v := .v (.bool (r20.2 == 0))) (by decide) rfl ?_
                        rcases Bool.eq_false_or_eq_true (r20.2 == 0) with hb25 | hb25
                        · replace hM := ifT hM hb25
                          refine o_guardY (j := 14) (e := (r20.2 == 0)) (want := true) rfl hb25 ?_
                          refine o_move (v := .sl .no 1 (r18.1.map cI)) (by decide) rfl ?_
                          refine o_guardY (j := 14) (e := (r20.2 == 0)) (want := true) rfl hb25 ?_
                          refine o_move (v := .sl .no 1 (r17.1.map cI)) (by decide) rfl ?_
                          refine o_guardY (j := 14) (e := (r20.2 == 0)) (want := true) rfl hb25 ?_
                          obtain ⟨r26, hr26, hM⟩ := bindE hM
                          refine o_call (bs := [.sl .no 1 (r18.1.map cI), .sl .no 1 (r17.1.map cI)]) (by decide) rfl rfl ((W_law13_isIn hr26).le (.cons (.refl _) (.cons (.refl _) .nil))) ?_
                          refine o_pickT (v := .v (.bool r26)) (e := (r20.2 == 0)) (by decide) rfl hb25 rfl ?_
                          refine o_move (v := .v (.bool r26)) (by decide) rfl ?_
                          rcases Bool.eq_false_or_eq_true r26 with hb27 | hb27
                          · replace hM := ifT hM hb27
                            refine o_guardY (j := 19) (e := r26) (want := true) rfl hb27 ?_
                            refine o_move (v := .sl .no 1 (r20.1.map cI)) (by decide) rfl ?_
                            refine o_guardY (j := 19) (e := r26) (want := true) rfl hb27 ?_
                            refine o_move (v := .sl .no 1 (r19.1.map cI)) (by decide) rfl ?_
                            refine o_guardY (j := 19) (e := r26) (want := true) rfl hb27 ?_
                            obtain ⟨r28, hr28, hM⟩ := bindE hM
                            refine o_call (bs := [.sl .no 1 (r20.1.map cI), .sl .no 1 (r19.1.map cI)]) (by decide) rfl rfl ((W_law13_isIn hr28).le (.cons (.refl _) (.cons (.refl _) .nil))) ?_
                            refine o_pickT (v := .v (.bool r28)) (e := r26) (by decide) rfl hb27 rfl ?_
                            refine o_move (v := .v (.bool r28)) (by decide) rfl ?_
                            rcases Bool.eq_false_or_eq_true r28 with hb29 | hb29
                            · replace hM := ifT hM hb29
                              refine o_guardY (j := 24) (e := r28) (want := true) rfl hb29 ?_
                              obtain ⟨r30, hr30, hM⟩ := bindE hM
                              refine o_call (bs := []) (by decide) rfl rfl ((W_law13_works hr30).le .nil) ?_
                              refine o_pickT (v := .v (.bool r30)) (e := r28) (by decide) rfl hb29 rfl ?_
                              refine o_assign (v := .v (.bool r30)) (by decide) rfl ?_
                              refine run_nil ?_
                              exact w_goto r30 (.cons (.refl _) .nil) ⟨(hS.keep [] rfl).up (by omega), hM⟩
                            · replace hM := ifF hM hb29
                              refine o_guardN (j := 24) (e := r28) (want := true) (by decide) rfl hb29 ?_
                              refine o_pickF (v := .v (.bool false)) (e := r28) (by decide) rfl hb29 rfl ?_
                              refine o_assign (v := .v (.bool false)) (by decide) rfl ?_
                              refine run_nil ?_
                              exact w_goto false (.cons (.refl _) .nil) ⟨(hS.keep [] rfl).up (by omega), hM⟩
                          · replace hM := ifF hM hb27
                            refine o_guardN (j := 19) (e := r26) (want := true) (by decide) rfl hb27 ?_
                            refine o_guardN (j := 19) (e := r26) (want := true) (by decide) rfl hb27 ?_
                            refine o_guardN (j := 19) (e := r26) (want := true) (by decide) rfl hb27 ?_
                            refine o_pickF (v := .v (.bool false)) (e := r26) (by decide) rfl hb27 rfl ?_
                            refine o_move (v := .v (.bool false)) (by decide) rfl ?_
                            refine o_guardN (j := 24) (e := false) (want := true) (by decide) rfl rfl ?_
                            refine o_pickF (v := .v (.bool false)) (e := false) (by decide) rfl rfl rfl ?_
                            refine o_assign (v := .v (.bool false)) (by decide) rfl ?_
                            refine run_nil ?_
                            exact w_goto false (.cons (.refl _) .nil) ⟨(hS.keep [] rfl).up (by omega), hM⟩
                        · replace hM := ifF hM hb25
                          refine o_guardN (j := 14) (e := (r20.2 == 0)) (want := true) (by decide) rfl hb25 ?_
                          refine o_guardN (j := 14) (e := (r20.2 == 0)) (want := true) (by decide) rfl hb25 ?_
                          refine o_guardN (j := 14) (e := (r20.2 == 0)) (want := true) (by decide) rfl hb25 ?_
                          refine o_pickF (v := .v (.bool false)) (e := (r20.2 == 0)) (by decide) rfl hb25 rfl ?_
                          refine o_move (v := .v (.bool false)) (by decide) rfl ?_
                          refine o_guardN (j := 19) (e := false) (want := true) (by decide) rfl rfl ?_
                          refine o_guardN (j := 19) (e := false) (want := true) (by decide) rfl rfl ?_
                          refine o_guardN (j := 19) (e := false) (want := true) (by decide) rfl rfl ?_
                          refine o_pickF (v := .v (.bool false)) (e := false) (by decide) rfl rfl rfl ?_
                          refine o_move (v := .v (.bool false)) (by decide) rfl ?_
                          refine o_guardN (j := 24) (e := false) (want := true) (by decide) rfl rfl ?_
                          refine o_pickF (v := .v (.bool false)) (e := false) (by decide) rfl rfl rfl ?_
                          refine o_assign (v := .v (.bool false)) (by decide) rfl ?_
                          refine run_nil ?_
                          exact w_goto false (.cons (.refl _) .nil) ⟨(hS.keep [] rfl).up (by omega), hM⟩
                      · replace hM := ifF hM hb24
                        refine o_guardN (j := 10) (e := (r19.2 == 0)) (want := true) (by decide) rfl hb24 ?_
                        refine o_guardN (j := 10) (e := (r19.2 == 0)) (want := true) (by decide) rfl hb24 ?_
                        refine o_pickF (v := .v (.bool false)) (e := (r19.2 == 0)) (by decide) rfl hb24 rfl ?_
                        refine o_move (v := .v (.bool false)) (by decide) rfl ?_
                        refine o_guardN (j := 14) (e := false) (want := true) (by decide) rfl rfl ?_
                        refine o_guardN (j := 14) (e := false) (want := true) (by decide) rfl rfl ?_
                        refine o_guardN (j := 14) (e := false) (want := true) (by decide) rfl rfl ?_
                        refine o_pickF (v := .v (.bool false)) (e := false) (by decide) rfl rfl rfl ?_
                        refine o_move (v := .v (.bool false)) (by decide) rfl ?_
                        refine o_guardN (j := 19) (e := false) (want := true) (by decide) rfl rfl ?_
                        refine o_guardN (j := 19) (e := false) (want := true) (by decide) rfl rfl ?_
                        refine o_guardN (j := 19) (e := false) (want := true) (by decide) rfl rfl ?_
                        refine o_pickF (v := .v (.bool false)) (e := false) (by decide) rfl rfl rfl ?_
                        refine o_move (v := .v (.bool false)) (by decide) rfl ?_
                        refine o_guardN (j := 24) (e := false) (want := true) (by decide) rfl rfl ?_
                        refine o_pickF (v := .v (.bool false)) (e := false) (by decide) rfl rfl rfl ?_
                        refine o_assign (v := .v (.bool false)) (by decide) rfl ?_
                        refine run_nil ?_
                        exact w_goto false (.cons (.refl _) .nil) ⟨(hS.keep [] rfl).up (by omega), hM⟩
                    · replace hM := ifF hM hb23
                      refine o_guardN (j := 6) (e := (r18.2 == 0)) (want := true) (by decide) rfl hb23 ?_
                      refine o_guardN (j := 6) (e := (r18.2 == 0)) (want := true) (by decide) rfl hb23 ?_
                      refine o_pickF (v := .v (.bool false)) (e := (r18.2 == 0)) (by decide) rfl hb23 rfl ?_
                      refine o_move (v := .v (.bool false)) (by decide) rfl ?_
                      refine o_guardN (j := 10) (e := false) (want := true) (by decide) rfl rfl ?_
                      refine o_guardN (j := 10) (e := false) (want := true) (by decide) rfl rfl ?_
                      refine o_pickF (v := .v (.bool false)) (e := false) (by decide) rfl rfl rfl ?_
                      refine o_move (v := .v (.bool false)) (by decide) rfl ?_
                      refine o_guardN (j := 14) (e := false) (want := true) (by decide) rfl rfl ?_
                      refine o_guardN (j := 14) (e := false) (want := true) (by decide) rfl rfl ?_
                      refine o_guardN (j := 14) (e := false) (want := true) (by decide) rfl rfl ?_
                      refine o_pickF (v := .v (.bool false)) (e := false) (by decide) rfl rfl rfl ?_
                      refine o_move (v := .v (.bool false)) (by decide) rfl ?_
                      refine o_guardN (j := 19) (e := false) (want := true) (by decide) rfl rfl ?_
                      refine o_guardN (j := 19) (e := false) (want := true) (by decide) rfl rfl ?_
                      refine o_guardN (j := 19) (e := false) (want := true) (by decide) rfl rfl ?_
                      refine o_pickF (v := .v (.bool false)) (e := false) (by decide) rfl rfl rfl ?_
                      refine o_move (v := .v (.bool false)) (by decide) rfl ?_
                      refine o_guardN (j := 24) (e := false) (want := true) (by decide) rfl rfl ?_
                      refine o_pickF (v := .v (.bool false)) (e := false) (by decide) rfl rfl rfl ?_
                      refine o_assign (v := .v (.bool false)) (by decide) rfl ?_
                      refine run_nil ?_
                      exact w_goto false (.cons (.refl _) .nil) ⟨(hS.keep [] rfl).up (by omega), hM⟩
                  · replace hM := ifF hM hb22
                    refine o_guardN (j := 2) (e := (r17.2 == 0)) (want := true) (by decide) rfl hb22 ?_
                    refine o_guardN (j := 2) (e := (r17.2 == 0)) (want := true) (by decide) rfl hb22 ?_
                    refine o_pickF (v := .v (.bool false)) (e := (r17.2 == 0)) (by decide) rfl hb22 rfl ?_
                    refine o_move (v := .v (.bool false)) (by decide) rfl ?_
                    refine o_guardN (j := 6) (e := false) (want := true) (by decide) rfl rfl ?_
                    refine o_guardN (j := 6) (e := false) (want := true) (by decide) rfl rfl ?_
                    refine o_pickF (v := .v (.bool false)) (e := false) (by decide) rfl rfl rfl ?_
                    refine o_move (v := .v (.bool false)) (by decide) rfl ?_
                    refine o_guardN (j := 10) (e := false) (want := true) (by decide) rfl rfl ?_
                    refine o_guardN (j := 10) (e := false) (want := true) (by decide) rfl rfl ?_
                    refine o_pickF (v := .v (.bool false)) (e := false) (by decide) rfl rfl rfl ?_
                    refine o_move (v := .v (.bool false)) (by decide) rfl ?_
                    refine o_guardN (j := 14) (e := false) (want := true) (by decide) rfl rfl ?_
                    refine o_guardN (j := 14) (e := false) (want := true) (by decide) rfl rfl ?_
                    refine o_guardN (j := 14) (e := false) (want := true) (by decide) rfl rfl ?_
                    refine o_pickF (v := .v (.bool false)) (e := false) (by decide) rfl rfl rfl ?_
                    refine o_move (v := .v (.bool false)) (by decide) rfl ?_
                    refine o_guardN (j := 19) (e := false) (want := true) (by decide) rfl rfl ?_
                    refine o_guardN (j := 19) (e := false) (want := true) (by decide) rfl rfl ?_
                    refine o_guardN (j := 19) (e := false) (want := true) (by decide) rfl rfl ?_
                    refine o_pickF (v := .v (.bool false)) (e := false) (by decide) rfl rfl rfl ?_
                    refine o_move (v := .v (.bool false)) (by decide) rfl ?_
                    refine o_guardN (j := 24) (e := false) (want := true) (by decide) rfl rfl ?_
                    refine o_pickF (v := .v (.bool false)) (e := false) (by decide) rfl rfl rfl ?_
                    refine o_assign (v := .v (.bool false)) (by decide) rfl ?_
                    refine run_nil ?_
                    exact w_goto false (.cons (.refl _) .nil) ⟨(hS.keep [] rfl).up (by omega), hM⟩
            · refine r_region (n := 50) rfl ?_
              refine o_move (v := .v (.int .i64 r6.2)) (by decide) rfl ?_
              refine o_int (v := .v (.bool (r6.2 != 0))) (by decide) rfl rfl rfl ?_
              refine o_move (v := .v (.bool (r6.2 != 0))) (by decide) rfl ?_
              rcases Bool.eq_false_or_eq_true (r6.2 != 0) with hb31 | hb31
              · replace hM := ifT hM hb31
                refine o_guardN (j := 2) (e := (r6.2 != 0)) (want := false) (by decide) rfl hb31 ?_
                refine o_guardN (j := 2) (e := (r6.2 != 0)) (want := false) (by decide) rfl hb31 ?_
                refine o_guardN (j := 2) (e := (r6.2 != 0)) (want := false) (by decide) rfl hb31 ?_
                refine o_pickT (v := .v (.bool true)) (e := (r6.2 != 0)) (by decide) rfl hb31 rfl ?_
                refine o_move (v := .v (.bool true)) (by decide) rfl ?_
                refine o_guardN (j := 7) (e := true) (want := false) (by decide) rfl rfl ?_
                refine o_guardN (j := 7) (e := true) (want := false) (by decide) rfl rfl ?_
                refine o_guardN (j := 7) (e := true) (want := false) (by decide) rfl rfl ?_
                refine o_pickT (v := .v (.bool true)) (e := true) (by decide) rfl rfl rfl ?_
                refine o_move (v := .v (.bool true)) (by decide) rfl ?_
                refine o_guardN (j := 12) (e := true) (want := false) (by decide) rfl rfl ?_
                refine o_guardN (j := 12) (e := true) (want := false) (by decide) rfl rfl ?_
                refine o_pickT (v := .v (.bool true)) (e := true) (by decide) rfl rfl rfl ?_
                refine o_move (v := .v (.bool true)) (by decide) rfl ?_
                refine o_guardN (j := 16) (e := true) (want := false) (by decide) rfl rfl ?_
                refine o_guardN (j := 16) (e := true) (want := false) (by decide) rfl rfl ?_
                refine o_guardN (j := 16) (e := true) (want := false) (by decide) rfl rfl ?_
                refine o_pickT (v := .v (.bool true)) (e := true) (by decide) rfl rfl rfl ?_
                refine o_move (v := .v (.bool true)) (by decide) rfl ?_
                refine o_guardN (j := 21) (e := true) (want := false) (by decide) rfl rfl ?_
                refine o_guardN (j := 21) (e := true) (want := false) (by decide) rfl rfl ?_
                refine o_pickT (v := .v (.bool true)) (e := true) (by decide) rfl rfl rfl ?_
                refine o_move (v := .v (.bool true)) (by decide) rfl ?_
                refine o_guardN (j := 25) (e := true) (want := false) (by decide) rfl rfl ?_
                refine o_guardN (j := 25) (e := true) (want := false) (by decide) rfl rfl ?_
                refine o_pickT (v := .v (.bool true)) (e := true) (by decide) rfl rfl rfl ?_
                refine o_move (v := .v (.bool true)) (by decide) rfl ?_
                refine o_guardN (j := 29) (e := true) (want := false) (by decide) rfl rfl ?_
                refine o_guardN (j := 29) (e := true) (want := false) (by decide) rfl rfl ?_
                refine o_guardN (j := 29) (e := true) (want := false) (by decide) rfl rfl ?_
                refine o_guardN (j := 29) (e := true) (want := false) (by decide) rfl rfl ?_
                refine o_guardN (j := 29) (e := true) (want := false) (by decide) rfl rfl ?_
                refine o_pickT (v := .v (.bool true)) (e := true) (by decide) rfl rfl rfl ?_
                refine o_move (v := .v (.bool true)) (by decide) rfl ?_
                refine o_guardN (j := 36) (e := true) (want := false) (by decide) rfl rfl ?_
                refine o_guardN (j := 36) (e := true) (want := false) (by decide) rfl rfl ?_
                refine o_guardN (j := 36) (e := true) (want := false) (by decide) rfl rfl ?_
                refine o_guardN (j := 36) (e := true) (want := false) (by decide) rfl rfl ?_
                refine o_guardN (j := 36) (e := true) (want := false) (by decide) rfl rfl ?_
                refine o_pickT (v := .v (.bool true)) (e := true) (by decide) rfl rfl rfl ?_
                refine o_move (v := .v (.bool true)) (by decide) rfl ?_
                refine o_guardN (j := 43) (e := true) (want := false) (by decide) rfl rfl ?_
                refine o_guardN (j := 43) (e := true) (want := false) (by decide) rfl rfl ?_
                refine o_guardN (j := 43) (e := true) (want := false) (by decide) rfl rfl ?_
                refine o_guardN (j := 43) (e := true) (want := false) (by decide) rfl rfl ?_
                refine o_guardN (j := 43) (e := true) (want := false) (by decide) rfl rfl ?_
                refine o_pickT (v := .v (.bool true)) (e := true) (by decide) rfl rfl rfl ?_
                refine run_nil ?_
                exact w_goto true (.cons (.refl _) (.cons (.refl _) (.cons (.refl _) .nil))) ⟨(hS.keep [false, false, true, true] rfl).up (by omega), hM⟩
              · replace hM := ifF hM hb31
                refine o_guardY (j := 2) (e := (r6.2 != 0)) (want := false) rfl hb31 ?_
                refine o_move (v := .v (.int .i64 r5.1)) (by decide) rfl ?_
                refine o_guardY (j := 2) (e := (r6.2 != 0)) (want := false) rfl hb31 ?_
                refine o_move (v := .v (.int .i64 r6.1)) (by decide) rfl ?_
                refine o_guardY (j := 2) (e := (r6.2 != 0)) (want := false) rfl hb31 ?_
                refine o_int (v := .v (.bool (decide (r5.1 > r6.1)))) (by decide) rfl rfl rfl ?_
                refine o_pickF (v := .v (.bool (decide (r5.1 > r6.1)))) (e := (r6.2 != 0)) (by decide) rfl hb31 rfl ?_
                refine o_move (v := .v (.bool (decide (r5.1 > r6.1)))) (by decide) rfl ?_
                rcases Bool.eq_false_or_eq_true (decide (r5.1 > r6.1)) with hb32 | hb32
                · replace hM := ifT hM hb32
                  refine o_guardN (j := 7) (e := (decide (r5.1 > r6.1))) (want := false) (by decide) rfl hb32 ?_
                  refine o_guardN (j := 7) (e := (decide (r5.1 > r6.1))) (want := false) (by decide) rfl hb32 ?_
                  refine o_guardN (j := 7) (e := (decide (r5.1 > r6.1))) (want := false) (by decide) rfl hb32 ?_
                  refine o_pickT (v := .v (.bool true)) (e := (decide (r5.1 > r6.1))) (by decide) rfl hb32 rfl ?_
                  refine o_move (v := .v (.bool true)) (by decide) rfl ?_
                  refine o_guardN (j := 12) (e := true) (want := false) (by decide) rfl rfl ?_
                  refine o_guardN (j := 12) (e := true) (want := false) (by decide) rfl rfl ?_
                  refine o_pickT (v := .v (.bool true)) (e := true) (by decide) rfl rfl rfl ?_
                  refine o_move (v := .v (.bool true)) (by decide) rfl ?_
                  refine o_guardN (j := 16) (e := true) (want := false) (by decide) rfl rfl ?_
                  refine o_guardN (j := 16) (e := true) (want := false) (by decide) rfl rfl ?_
                  refine o_guardN (j := 16) (e := true) (want := false) (by decide) rfl rfl ?_
                  refine o_pickT (v := .v (.bool true)) (e := true) (by decide) rfl rfl rfl ?_
                  refine o_move (v := .v (.bool true)) (by decide) rfl ?_
                  refine o_guardN (j := 21) (e := true) (want := false) (by decide) rfl rfl ?_
                  refine o_guardN (j := 21) (e := true) (want := false) (by decide) rfl rfl ?_
                  refine o_pickT (v := .v (.bool true)) (e := true) (by decide) rfl rfl rfl ?_
                  refine o_move (v := .v (.bool true)) (by decide) rfl ?_
                  refine o_guardN (j := 25) (e := true) (want := false) (by decide) rfl rfl ?_
                  refine o_guardN (j := 25) (e := true) (want := false) (by decide) rfl rfl ?_
                  refine o_pickT (v := .v (.bool true)) (e := true) (by decide) rfl rfl rfl ?_
                  refine o_move (v := .v (.bool true)) (by decide) rfl ?_
                  refine o_guardN (j := 29) (e := true) (want := false) (by decide) rfl rfl ?_
                  refine o_guardN (j := 29) (e := true) (want := false) (by decide) rfl rfl ?_
                  refine o_guardN (j := 29) (e := true) (want := false) (by decide) rfl rfl ?_
                  refine o_guardN (j := 29) (e := true) (want := false) (by decide) rfl rfl ?_
                  refine o_guardN (j := 29) (e := true) (want := false) (by decide) rfl rfl ?_
                  refine o_pickT (v := .v (.bool true)) (e := true) (by decide) rfl rfl rfl ?_
                  refine o_move (v := .v (.bool true)) (by decide) rfl ?_
                  refine o_guardN (j := 36) (e := true) (want := false) (by decide) rfl rfl ?_
                  refine o_guardN (j := 36) (e := true) (want := false) (by decide) rfl rfl ?_
                  refine o_guardN (j := 36) (e := true) (want := false) (by decide) rfl rfl ?_
                  refine o_guardN (j := 36) (e := true) (want := false) (by decide) rfl rfl ?_
                  refine o_guardN (j := 36) (e := true) (want := false) (by decide) rfl rfl ?_
                  refine o_pickT (v := .v (.bool true)) (e := true) (by decide) rfl rfl rfl ?_
                  refine o_move (v := .v (.bool true)) (by decide) rfl ?_
                  refine o_guardN (j := 43) (e := true) (want := false) (by decide) rfl rfl ?_
                  refine o_guardN (j := 43) (e := true) (want := false) (by decide) rfl rfl ?_
                  refine o_guardN (j := 43) (e := true) (want := false) (by decide) rfl rfl ?_
                  refine o_guardN (j := 43) (e := true) (want := false) (by decide) rfl rfl ?_
                  refine o_guardN (j := 43) (e := true) (want := false) (by decide) rfl rfl ?_
                  refine o_pickT (v := .v (.bool true)) (e := true) (by decide) rfl rfl rfl ?_
                  refine run_nil ?_
                  exact w_goto true (.cons (.refl _) (.cons (.refl _) (.cons (.refl _) .nil))) ⟨(hS.keep [false, false, true, true] rfl).up (by omega), hM⟩
                · replace hM := ifF hM hb32
                  refine o_guardY (j := 7) (e := (decide (r5.1 > r6.1))) (want := false) rfl hb32 ?_
                  refine o_move (v := .v (.int .i64 r7.1)) (by decide) rfl ?_
                  refine o_guardY (j := 7) (e := (decide (r5.1 > r6.1))) (want := false) rfl hb32 ?_
                  refine o_move (v := .v (.int .i64 r8.1)) (by decide) rfl ?_
                  refine o_guardY (j := 7) (e := (decide (r5.1 > r6.1))) (want := false) rfl hb32 ?_
                  refine o_int (v := .v (.bool (decide (r7.1 > r8.1)))) (by decide) rfl rfl rfl ?_
                  refine o_pickF (v := .v (.bool (decide (r7.1 > r8.1)))) (e := (decide (r5.1 > r6.1))) (by decide) rfl hb32 rfl ?_
                  refine o_move (v := .v (.bool (decide (r7.1 > r8.1)))) (by decide) rfl ?_
                  rcases Bool.eq_false_or_eq_true (decide (r7.1 > r8.1)) with hb33 | hb33
                  · replace hM := ifT hM hb33
                    refine o_guardN (j := 12) (e := (decide (r7.1 > r8.1))) (want := false) (by decide) rfl hb33 ?_
                    refine o_guardN (j := 12) (e := (decide (r7.1 > r8.1))) (want := false) (by decide) rfl hb33 ?_
                    refine o_pickT (v := .v (.bool true)) (e := (decide (r7.1 > r8.1))) (by decide) rfl hb33 rfl ?_
                    refine o_move (v := .v (.bool true)) (by decide) rfl ?_
                    refine o_guardN (j := 16) (e := true) (want := false) (by decide) rfl rfl ?_
                    refine o_guardN (j := 16) (e := true) (want := false) (by decide) rfl rfl ?_
                    refine o_guardN (j := 16) (e := true) (want := false) (by decide) rfl rfl ?_
                    refine o_pickT (v := .v (.bool true)) (e := true) (by decide) rfl rfl rfl ?_
                    refine o_move (v := .v (.bool true)) (by decide) rfl ?_
                    refine o_guardN (j := 21) (e := true) (want := false) (by decide) rfl rfl ?_
                    refine o_guardN (j := 21) (e := true) (want := false) (by decide) rfl rfl ?_
                    refine o_pickT (v := .v (.bool true)) (e := true) (by decide) rfl rfl rfl ?_
                    refine o_move (v := .v (.bool true)) (by decide) rfl ?_
                    refine o_guardN (j := 25) (e := true) (want := false) (by decide) rfl rfl ?_
                    refine o_guardN (j := 25) (e := true) (want := false) (by decide) rfl rfl ?_
                    refine o_pickT (v := .v (.bool true)) (e := true) (by decide) rfl rfl rfl ?_
                    refine o_move (v := .v (.bool true)) (by decide) rfl ?_
                    refine o_guardN (j := 29) (e := true) (want := false) (by decide) rfl rfl ?_
                    refine o_guardN (j := 29) (e := true) (want := false) (by decide) rfl rfl ?_
                    refine o_guardN (j := 29) (e := true) (want := false) (by decide) rfl rfl ?_
                    refine o_guardN (j := 29) (e := true) (want := false) (by decide) rfl rfl ?_
                    refine o_guardN (j := 29) (e := true) (want := false) (by decide) rfl rfl ?_
                    refine o_pickT (v := .v (.bool true)) (e := true) (by decide) rfl rfl rfl ?_
                    refine o_move (v := .v (.bool true)) (by decide) rfl ?_
                    refine o_guardN (j := 36) (e := true) (want := false) (by decide) rfl rfl ?_
                    refine o_guardN (j := 36) (e := true) (want := false) (by decide) rfl rfl ?_
                    refine o_guardN (j := 36) (e := true) (want := false) (by decide) rfl rfl ?_
                    refine o_guardN (j := 36) (e := true) (want := false) (by decide) rfl rfl ?_
                    refine o_guardN (j := 36) (e := true) (want := false) (by decide) rfl rfl ?_
                    refine o_pickT (v := .v (.bool true)) (e := true) (by decide) rfl rfl rfl ?_
                    refine o_move (v := .v (.bool true)) (by decide) rfl ?_
                    refine o_guardN (j := 43) (e := true) (want := false) (by decide) rfl rfl ?_
                    refine o_guardN (j := 43) (e := true) (want := false) (by decide) rfl rfl ?_
                    refine o_guardN (j := 43) (e := true) (want := false) (by decide) rfl rfl ?_
                    refine o_guardN (j := 43) (e := true) (want := false) (by decide) rfl rfl ?_
                    refine o_guardN (j := 43) (e := true) (want := false) (by decide) rfl rfl ?_
                    refine o_pickT (v := .v (.bool true)) (e := true) (by decide) rfl rfl rfl ?_
                    refine run_nil ?_
                    exact w_goto true (.cons (.refl _) (.cons (.refl _) (.cons (.refl _) .nil))) ⟨(hS.keep [false, false, true, true] rfl).up (by omega), hM⟩
                  · replace hM := ifF hM hb33
                    refine o_guardY (j := 12) (e := (decide (r7.1 > r8.1))) (want := false) rfl hb33 ?_
                    refine o_move (v := .v (.int .i64 r7.1)) (by decide) rfl ?_
                    refine o_guardY (j := 12) (e := (decide (r7.1 > r8.1))) (want := false) rfl hb33 ?_
                    refine o_int (v := .v (.bool (decide (r7.1 < 1)))) (by decide) rfl rfl rfl ?_
                    refine o_pickF (v := .v (.bool (decide (r7.1 < 1)))) (e := (decide (r7.1 > r8.1))) (by decide) rfl hb33 rfl ?_
                    refine o_move (v := .v (.bool (decide (r7.1 < 1)))) (by decide) rfl ?_
                    rcases Bool.eq_false_or_eq_true (decide (r7.1 < 1)) with hb34 | hb34
                    · replace hM := ifT hM hb34
                      refine o_guardN (j := 16) (e := (decide (r7.1 < 1))) (want := false) (by decide) rfl hb34 ?_
                      refine o_guardN (j := 16) (e := (decide (r7.1 < 1))) (want := false) (by decide) rfl hb34 ?_
                      refine o_guardN (j := 16) (e := (decide (r7.1 < 1))) (want := false) (by decide) rfl hb34 ?_
                      refine o_pickT (v := .v (.bool true)) (e := (decide (r7.1 < 1))) (by decide) rfl hb34 rfl ?_
                      refine o_move (v := .v (.bool true)) (by decide) rfl ?_
                      refine o_guardN (j := 21) (e := true) (want := false) (by decide) rfl rfl ?_
                      refine o_guardN (j := 21) (e := true) (want := false) (by decide) rfl rfl ?_
                      refine o_pickT (v := .v (.bool true)) (e := true) (by decide) rfl rfl rfl ?_
                      refine o_move (v := .v (.bool true)) (by decide) rfl ?_
                      refine o_guardN (j := 25) (e := true) (want := false) (by decide) rfl rfl ?_
                      refine o_guardN (j := 25) (e := true) (want := false) (by decide) rfl rfl ?_
                      refine o_pickT (v := .v (.bool true)) (e := true) (by decide) rfl rfl rfl ?_
                      refine o_move (v := .v (.bool true)) (by decide) rfl ?_
                      refine o_guardN (j := 29) (e := true) (want := false) (by decide) rfl rfl ?_
                      refine o_guardN (j := 29) (e := true) (want := false) (by decide) rfl rfl ?_
                      refine o_guardN (j := 29) (e := true) (want := false) (by decide) rfl rfl ?_
                      refine o_guardN (j := 29) (e := true) (want := false) (by decide) rfl rfl ?_
                      refine o_guardN (j := 29) (e := true) (want := false) (by decide) rfl rfl ?_
                      refine o_pickT (v := .v (.bool true)) (e := true) (by decide) rfl rfl rfl ?_
                      refine o_move (v := .v (.bool true)) (by decide) rfl ?_
                      refine o_guardN (j := 36) (e := true) (want := false) (by decide) rfl rfl ?_
                      refine o_guardN (j := 36) (e := true) (want := false) (by decide) rfl rfl ?_
                      refine o_guardN (j := 36) (e := true) (want := false) (by decide) rfl rfl ?_
                      refine o_guardN (j := 36) (e := true) (want := false) (by decide) rfl rfl ?_
                      refine o_guardN (j := 36) (e := true) (want := false) (by decide) rfl rfl ?_
                      refine o_pickT (v := .v (.bool true)) (e := true) (by decide) rfl rfl rfl ?_
                      refine o_move (v := .v (.bool true)) (by decide) rfl ?_
                      refine o_guardN (j := 43) (e := true) (want := false) (by decide) rfl rfl ?_
                      refine o_guardN (j := 43) (e := true) (want := false) (by decide) rfl rfl ?_
                      refine o_guardN (j := 43) (e := true) (want := false) (by decide) rfl rfl ?_
                      refine o_guardN (j := 43) (e := true) (want := false) (by decide) rfl rfl ?_
                      refine o_guardN (j := 43) (e := true) (want := false) (by decide) rfl rfl ?_
                      refine o_pickT (v := .v (.bool true)) (e := true) (by decide) rfl rfl rfl ?_
                      refine run_nil ?_
                      exact w_goto true (.cons (.refl _) (.cons (.refl _) (.cons (.refl _) .nil))) ⟨(hS.keep [false, false, true, true] rfl).up (by omega), hM⟩
                    · replace hM := ifF hM hb34
                      refine o_guardY (j := 16) (e := (decide (r7.1 < 1))) (want := false) rfl hb34 ?_
                      refine o_move (v := .v (.int .i64 r7.1)) (by decide) rfl ?_
                      refine o_guardY (j := 16) (e := (decide (r7.1 < 1))) (want := false) rfl hb34 ?_
                      refine o_move (v := .v (.int .i64 r5.1)) (by decide) rfl ?_
                      refine o_guardY (j := 16) (e := (decide (r7.1 < 1))) (want := false) rfl hb34 ?_
                      refine o_int (v := .v (.bool (decide (r7.1 > r5.1)))) (by decide) rfl rfl rfl ?_
                      refine o_pickF (v := .v (.bool (decide (r7.1 > r5.1)))) (e := (decide (r7.1 < 1))) (by decide) rfl hb34 rfl ?_
                      refine o_move (v := .v (.bool (decide (r7.1 > r5.1)))) (by decide) rfl ?_
                      rcases Bool.eq_false_or_eq_true (decide (r7.1 > r5.1)) with hb35 | hb35
                      · replace hM := ifT hM hb35
                        refine o_guardN (j := 21) (e := (decide (r7.1 > r5.1))) (want := false) (by decide) rfl hb35 ?_
                        refine o_guardN (j := 21) (e := (decide (r7.1 > r5.1))) (want := false) (by decide) rfl hb35 ?_
                        refine o_pickT (v := .v (.bool true)) (e := (decide (r7.1 > r5.1))) (by decide) rfl hb35 rfl ?_
                        refine o_move (v := .v (.bool true)) (by decide) rfl ?_
                        refine o_guardN (j := 25) (e := true) (want := false) (by decide) rfl rfl ?_
                        refine o_guardN (j := 25) (e := true) (want := false) (by decide) rfl rfl ?_
                        refine o_pickT (v := .v (.bool true)) (e := true) (by decide) rfl rfl rfl ?_
                        refine o_move (v := .v (.bool true)) (by decide) rfl ?_
                        refine o_guardN (j := 29) (e := true) (want := false) (by decide) rfl rfl ?_
                        refine o_guardN (j := 29) (e := true) (want := false) (by decide) rfl rfl ?_
                        refine o_guardN (j := 29) (e := true) (want := false) (by decide) rfl rfl ?_
                        refine o_guardN (j := 29) (e := true) (want := false) (by decide) rfl rfl ?_
                        refine o_guardN (j := 29) (e := true) (want := false) (by decide) rfl rfl ?_
                        refine o_pickT (v := .v (.bool true)) (e := true) (by decide) rfl rfl rfl ?_
                        refine o_move (v := .v (.bool true)) (by decide) rfl ?_
                        refine o_guardN (j := 36) (e := true) (want := false) (by decide) rfl rfl ?_
                        refine o_guardN (j := 36) (e := true) (want := false) (by decide) rfl rfl ?_
                        refine o_guardN (j := 36) (e := true) (want := false) (by decide) rfl rfl ?_
                        refine o_guardN (j := 36) (e := true) (want := false) (by decide) rfl rfl ?_
                        refine o_guardN (j := 36) (e := true) (want := false) (by decide) rfl rfl ?_
                        refine o_pickT (v := .v (.bool true)) (e := true) (by decide) rfl rfl rfl ?_
                        refine o_move (v := .v (.bool true)) (by decide) rfl ?_
                        refine o_guardN (j := 43) (e := true) (want := false) (by decide) rfl rfl ?_
                        refine o_guardN (j := 43) (e := true) (want := false) (by decide) rfl rfl ?_
                        refine o_guardN (j := 43) (e := true) (want := false) (by decide) rfl rfl ?_
                        refine o_guardN (j := 43) (e := true) (want := false) (by decide) rfl rfl ?_
                        refine o_guardN (j := 43) (e := true) (want := false) (by decide) rfl rfl ?_
                        refine o_pickT (v := .v (.bool true)) (e := true) (by decide) rfl rfl rfl ?_
                        refine run_nil ?_
                        exact w_goto true (.cons (.refl _) (.cons (.refl _) (.cons (.refl _) .nil))) ⟨(hS.keep [false, false, true, true] rfl).up (by omega), hM⟩
                      · replace hM := ifF hM hb35
                        refine o_guardY (j := 21) (e := (decide (r7.1 > r5.1))) (want := false) rfl hb35 ?_
                        refine o_move (v := .v (.int .i64 r13.2)) (by decide) rfl ?_
                        refine o_guardY (j := 21) (e := (decide (r7.1 > r5.1))) (want := false) rfl hb35 ?_
                        refine o_int (v := .v (.bool (r13.2 != 0))) (by decide) rfl rfl rfl ?_
                        refine o_pickF (v := .v (.bool (r13.2 != 0))) (e := (decide (r7.1 > r5.1))) (by decide) rfl hb35 rfl ?_
                        refine o_move (v := .v (.bool (r13.2 != 0))) (by decide) rfl ?_
                        rcases Bool.eq_false_or_eq_true (r13.2 != 0) with hb36 | hb36
                        · replace hM := ifT hM hb36
                          refine o_guardN (j := 25) (e := (r13.2 != 0)) (want := false) (by decide) rfl hb36 ?_
                          refine o_guardN (j := 25) (e := (r13.2 != 0)) (want := false) (by decide) rfl hb36 ?_
                          refine o_pickT (v := .v (.bool true)) (e := (r13.2 != 0)) (by decide) rfl hb36 rfl ?_
                          refine o_move (v := .v (.bool true)) (by decide) rfl ?_
                          refine o_guardN (j := 29) (e := true) (want := false) (by decide) rfl rfl ?_
                          refine o_guardN (j := 29) (e := true) (want := false) (by decide) rfl rfl ?_
                          refine o_guardN (j := 29) (e := true) (want := false) (by decide) rfl rfl ?_
                          refine o_guardN (j := 29) (e := true) (want := false) (by decide) rfl rfl ?_
                          refine o_guardN (j := 29) (e := true) (want := false) (by decide) rfl rfl ?_
                          refine o_pickT (v := .v (.bool true)) (e := true) (by decide) rfl rfl rfl ?_
                          refine o_move (v := .v (.bool true)) (by decide) rfl ?_
                          refine o_guardN (j := 36) (e := true) (want := false) (by decide) rfl rfl ?_
                          refine o_guardN (j := 36) (e := true) (want := false) (by decide) rfl rfl ?_
                          refine o_guardN (j := 36) (e := true) (want := false) (by decide) rfl rfl ?_
                          refine o_guardN (j := 36) (e := true) (want := false) (by decide) rfl rfl ?_
                          refine o_guardN (j := 36) (e := true) (want := false) (by decide) rfl rfl ?_
                          refine o_pickT (v := .v (.bool true)) (e := true) (by decide) rfl rfl rfl ?_
                          refine o_move (v := .v (.bool true)) (by decide) rfl ?_
                          refine o_guardN (j := 43) (e := true) (want := false) (by decide) rfl rfl ?_
                          refine o_guardN (j := 43) (e := true) (want := false) (by decide) rfl rfl ?_
                          refine o_guardN (j := 43) (e := true) (want := false) (by decide) rfl rfl ?_
                          refine o_guardN (j := 43) (e := true) (want := false) (by decide) rfl rfl ?_
                          refine o_guardN (j := 43) (e := true) (want := false) (by decide) rfl rfl ?_
                          refine o_pickT (v := .v (.bool true)) (e := true) (by decide) rfl rfl rfl ?_
                          refine run_nil ?_
                          exact w_goto true (.cons (.refl _) (.cons (.refl _) (.cons (.refl _) .nil))) ⟨(hS.keep [false, false, true, true] rfl).up (by omega), hM⟩
                        · replace hM := ifF hM hb36
                          refine o_guardY (j := 25) (e := (r13.2 != 0)) (want := false) rfl hb36 ?_
                          refine o_move (v := .v (.int .i64 r14.2)) (by decide) rfl ?_
                          refine o_guardY (j := 25) (e := (r13.2 != 0)) (want := false) rfl hb36 ?_
                          refine o_int (v := .v (.bool (r14.2 != 0))) (by decide) rfl rfl rfl ?_
                          refine o_pickF (v := .v (.bool (r14.2 != 0))) (e := (r13.2 != 0)) (by decide) rfl hb36 rfl ?_
                          refine o_move (v := .v (.bool (r14.2 != 0))) (by decide) rfl ?_
                          rcases Bool.eq_false_or_eq_true (r14.2 != 0) with hb37 | hb37
                          · replace hM := ifT hM hb37
                            refine o_guardN (j := 29) (e := (r14.2 != 0)) (want := false) (by decide) rfl hb37 ?_
                            refine o_guardN (j := 29) (e := (r14.2 != 0)) (want := false) (by decide) rfl hb37 ?_
                            refine o_guardN (j := 29) (e := (r14.2 != 0)) (want := false) (by decide) rfl hb37 ?_
                            refine o_guardN (j := 29) (e := (r14.2 != 0)) (want := false) (by decide) rfl hb37 ?_
                            refine o_guardN (j := 29) (e := (r14.2 != 0)) (want := false) (by decide) rfl hb37 ?_
                            refine o_pickT (v := .v (.bool true)) (e := (r14.2 != 0)) (by decide) rfl hb37 rfl ?_
                            refine o_move (v := .v (.bool true)) (by decide) rfl ?_
                            refine o_guardN (j := 36) (e := true) (want := false) (by decide) rfl rfl ?_
                            refine o_guardN (j := 36) (e := true) (want := false) (by decide) rfl rfl ?_
                            refine o_guardN (j := 36) (e := true) (want := false) (by decide) rfl rfl ?_
                            refine o_guardN (j := 36) (e := true) (want := false) (by decide) rfl rfl ?_
                            refine o_guardN (j := 36) (e := true) (want := false) (by decide) rfl rfl ?_
                            refine o_pickT (v := .v (.bool true)) (e := true) (by decide) rfl rfl rfl ?_
                            refine o_move (v := .v (.bool true)) (by decide) rfl ?_
                            refine o_guardN (j := 43) (e := true) (want := false) (by decide) rfl rfl ?_
                            refine o_guardN (j := 43) (e := true) (want := false) (by decide) rfl rfl ?_
                            refine o_guardN (j := 43) (e := true) (want := false) (by decide) rfl rfl ?_
                            refine o_guardN (j := 43) (e := true) (want := false) (by decide) rfl rfl ?_
                            refine o_guardN (j := 43) (e := true) (want := false) (by decide) rfl rfl ?_
                            refine o_pickT (v := .v (.bool true)) (e := true) (by decide) rfl rfl rfl ?_
                            refine run_nil ?_
                            exact w_goto true (.cons (.refl _) (.cons (.refl _) (.cons (.refl _) .nil))) ⟨(hS.keep [false, false, true, true] rfl).up (by omega), hM⟩
                          · replace hM := ifF hM hb37
                            refine o_guardY (j := 29) (e := (r14.2 != 0)) (want := false) rfl hb37 ?_
                            refine o_fieldP (by decide) ty_fo44_0 rfl ?_
                            refine o_guardY (j := 29) (e := (r14.2 != 0)) (want := false) rfl hb37 ?_
                            refine o_load (v := .v (.int .i64 r14.1.Low)) 0 hS (by decide) rfl rfl .no (part_one ty_agg3 ty_sc3 rfl) ?_
                            refine o_guardY (j := 29) (e := (r14.2 != 0)) (want := false) rfl hb37 ?_
                            refine o_fieldP (by decide) ty_fo44_0 rfl ?_
                            refine o_guardY (j := 29) (e := (r14.2 != 0)) (want := false) rfl hb37 ?_
                            refine o_load (v := .v (.int .i64 r13.1.Low)) 1 hS (by decide) rfl rfl .no (part_one ty_agg3 ty_sc3 rfl) ?_
                            refine o_guardY (j := 29) (e := (r14.2 != 0)) (want := false) rfl hb37 ?_
                            refine o_int (v := .v (.bool (decide (r14.1.Low > r13.1.Low)))) (by decide) rfl rfl rfl ?_
                            refine o_pickF (v := .v (.bool (decide (r14.1.Low > r13.1.Low)))) (e := (r14.2 != 0)) (by decide) rfl hb37 rfl ?_
                            refine o_move (v := .v (.bool (decide (r14.1.Low > r13.1.Low)))) (by decide) rfl ?_
                            rcases Bool.eq_false_or_eq_true (decide (r14.1.Low > r13.1.Low)) with hb38 | hb38
                            · replace hM := ifT hM hb38
                              refine o_guardN (j := 36) (e := (decide (r14.1.Low > r13.1.Low))) (want := false) (by decide) rfl hb38 ?_
                              refine o_guardN (j := 36) (e := (decide (r14.1.Low > r13.1.Low))) (want := false) (by decide) rfl hb38 ?_
                              refine o_guardN (j := 36) (e := (decide (r14.1.Low > r13.1.Low))) (want := false) (by decide) rfl hb38 ?_
                              refine o_guardN (j := 36) (e := (decide (r14.1.Low > r13.1.Low))) (want := false) (by decide) rfl hb38 ?_
                              refine o_guardN (j := 36) (e := (decide (r14.1.Low > r13.1.Low))) (want := false) (by decide) rfl hb38 ?_
                              refine o_pickT (v := .v (.bool true)) (e := (decide (r14.1.Low > r13.1.Low))) (by decide) rfl hb38 rfl ?_
                              refine o_move (v := .v (.bool true)) (by decide) rfl ?_
                              refine o_guardN (j := 43) (e := true) (want := false) (by decide) rfl rfl ?_
                              refine o_guardN (j := 43) (e := true) (want := false) (by decide) rfl rfl ?_
                              refine o_guardN (j := 43) (e := true) (want := false) (by decide) rfl rfl ?_
                              refine o_guardN (j := 43) (e := true) (want := false) (by decide) rfl rfl ?_
                              refine o_guardN (j := 43) (e := true) (want := false) (by decide) rfl rfl ?_
                              refine o_pickT (v := .v (.bool true)) (e := true) (by decide) rfl rfl rfl ?_
                              refine run_nil ?_
                              exact w_goto true (.cons (.refl _) (.cons (.refl _) (.cons (.refl _) .nil))) ⟨(hS.keep [false, false, true, true] rfl).up (by omega), hM⟩
                            · replace hM := ifF hM hb38
                              refine o_guardY (j := 36) (e := (decide (r14.1.Low > r13.1.Low))) (want := false) rfl hb38 ?_
                              refine o_fieldP (by decide) ty_fo44_0 rfl ?_
                              refine o_guardY (j := 36) (e := (decide (r14.1.Low > r13.1.Low))) (want := false) rfl hb38 ?_
                              refine o_load (v := .v (.int .i64 r13.1.Low)) 1 hS (by decide) rfl rfl .no (part_one ty_agg3 ty_sc3 rfl) ?_
                              refine o_guardY (j := 36) (e := (decide (r14.1.Low > r13.1.Low))) (want := false) rfl hb38 ?_
                              refine o_fieldP (by decide) ty_fo44_1 rfl ?_
                              refine o_guardY (j := 36) (e := (decide (r14.1.Low > r13.1.Low))) (want := false) rfl hb38 ?_
                              refine o_load (v := .v (.int .i64 r13.1.High)) 1 hS (by decide) rfl rfl .no (part_one ty_agg3 ty_sc3 rfl) ?_
                              refine o_guardY (j := 36) (e := (decide (r14.1.Low > r13.1.Low))) (want := false) rfl hb38 ?_
                              refine o_int (v := .v (.bool (decide (r13.1.Low > r13.1.High)))) (by decide) rfl rfl rfl ?_
                              refine o_pickF (v := .v (.bool (decide (r13.1.Low > r13.1.High)))) (e := (decide (r14.1.Low > r13.1.Low))) (by decide) rfl hb38 rfl ?_
                              refine o_move (v := .v (.bool (decide (r13.1.Low > r13.1.High)))) (by decide) rfl ?_
                              rcases Bool.eq_false_or_eq_true (decide (r13.1.Low > r13.1.High)) with hb39 | hb39
                              · replace hM := ifT hM hb39
                                refine o_guardN (j := 43) (e := (decide (r13.1.Low > r13.1.High))) (want := false) (by decide) rfl hb39 ?_
                                refine o_guardN (j := 43) (e := (decide (r13.1.Low > r13.1.High))) (want := false) (by decide) rfl hb39 ?_
                                refine o_guardN (j := 43) (e := (decide (r13.1.Low > r13.1.High))) (want := false) (by decide) rfl hb39 ?_
                                refine o_guardN (j := 43) (e := (decide (r13.1.Low > r13.1.High))) (want := false) (by decide) rfl hb39 ?_
                                refine o_guardN (j := 43) (e := (decide (r13.1.Low > r13.1.High))) (want := false) (by decide) rfl hb39 ?_
                                refine o_pickT (v := .v (.bool true)) (e := (decide (r13.1.Low > r13.1.High))) (by decide) rfl hb39 rfl ?_
                                refine run_nil ?_
                                exact w_goto true (.cons (.refl _) (.cons (.refl _) (.cons (.refl _) .nil))) ⟨(hS.keep [false, false, true, true] rfl).up (by omega), hM⟩
                              · replace hM := ifF hM hb39
                                refine o_guardY (j := 43) (e := (decide (r13.1.Low > r13.1.High))) (want := false) rfl hb39 ?_
                                refine o_fieldP (by decide) ty_fo44_1 rfl ?_
                                refine o_guardY (j := 43) (e := (decide (r13.1.Low > r13.1.High))) (want := false) rfl hb39 ?_
                                refine o_load (v := .v (.int .i64 r13.1.High)) 1 hS (by decide) rfl rfl .no (part_one ty_agg3 ty_sc3 rfl) ?_
                                refine o_guardY (j := 43) (e := (decide (r13.1.Low > r13.1.High))) (want := false) rfl hb39 ?_
                                refine o_fieldP (by decide) ty_fo44_1 rfl ?_
                                refine o_guardY (j := 43) (e := (decide (r13.1.Low > r13.1.High))) (want := false) rfl hb39 ?_
                                refine o_load (v := .v (.int .i64 r14.1.High)) 0 hS (by decide) rfl rfl .no (part_one ty_agg3 ty_sc3 rfl) ?_
                                refine o_guardY (j := 43) (e := (decide (r13.1.Low > r13.1.High))) (want := false) rfl hb39 ?_
                                refine o_int (v := .v (.bool (decide (r13.1.High > r14.1.High)))) (by decide) rfl rfl rfl ?_
                                refine o_pickF (v := .v (.bool (decide (r13.1.High > r14.1.High)))) (e := (decide (r13.1.Low > r13.1.High))) (by decide) rfl hb39 rfl ?_
                                refine run_nil ?_
                                exact w_goto (decide (r13.1.High > r14.1.High)) (.cons (.refl _) (.cons (.refl _) (.cons (.refl _) .nil))) ⟨(hS.keep [false, false, true, true] rfl).up (by omega), hM⟩
      · refine r_region (n := 18) rfl ?_
        refine o_move (v := .v (.int .i64 r5.2)) (by decide) rfl ?_
        obtain ⟨r40, hr40, hM⟩ := bindE hM
        refine o_call (bs := [.v (.int .i64 r5.2)]) (by decide) rfl rfl ((W_law13_isKnown hr40).le (.cons (.refl _) .nil)) ?_
        refine o_not (e := r40) (by decide) rfl ?_
        refine o_move (v := .v (.bool (!r40))) (by decide) rfl ?_
        rcases Bool.eq_false_or_eq_true (!r40) with hb41 | hb41
        · replace hM := ifT hM hb41
          refine o_guardN (j := 3) (e := (!r40)) (want := false) (by decide) rfl hb41 ?_
          refine o_guardN (j := 3) (e := (!r40)) (want := false) (by decide) rfl hb41 ?_
          refine o_guardN (j := 3) (e := (!r40)) (want := false) (by decide) rfl hb41 ?_
          refine o_pickT (v := .v (.bool true)) (e := (!r40)) (by decide) rfl hb41 rfl ?_
          refine o_move (v := .v (.bool true)) (by decide) rfl ?_
          refine o_guardN (j := 8) (e := true) (want := false) (by decide) rfl rfl ?_
          refine o_guardN (j := 8) (e := true) (want := false) (by decide) rfl rfl ?_
          refine o_guardN (j := 8) (e := true) (want := false) (by decide) rfl rfl ?_
          refine o_pickT (v := .v (.bool true)) (e := true) (by decide) rfl rfl rfl ?_
          refine o_move (v := .v (.bool true)) (by decide) rfl ?_
          refine o_guardN (j := 13) (e := true) (want := false) (by decide) rfl rfl ?_
          refine o_guardN (j := 13) (e := true) (want := false) (by decide) rfl rfl ?_
          refine o_guardN (j := 13) (e := true) (want := false) (by decide) rfl rfl ?_
          refine o_pickT (v := .v (.bool true)) (e := true) (by decide) rfl rfl rfl ?_
          refine run_nil ?_
          exact w_goto true (.cons (.refl _) (.cons (.refl _) (.cons (.refl _) (.cons (.refl _) (.cons (.refl _) (.cons (.refl _) (.cons (.refl _) (.cons (.refl _) (.cons (.refl _) (.cons (.refl _) .nil)))))))))) ⟨(hS.keep [true, true] rfl).up (by omega), hM⟩
        · replace hM := ifF hM hb41
          refine o_guardY (j := 3) (e := (!r40)) (want := false) rfl hb41 ?_
          refine o_move (v := .v (.int .i64 r6.2)) (by decide) rfl ?_
          refine o_guardY (j := 3) (e := (!r40)) (want := false) rfl hb41 ?_
          obtain ⟨r42, hr42, hM⟩ := bindE hM
          refine o_call (bs := [.v (.int .i64 r6.2)]) (by decide) rfl rfl ((W_law13_isKnown hr42).le (.cons (.refl _) .nil)) ?_
          refine o_guardY (j := 3) (e := (!r40)) (want := false) rfl hb41 ?_
          refine o_not (e := r42) (by decide) rfl ?_
          refine o_pickF (v := .v (.bool (!r42))) (e := (!r40)) (by decide) rfl hb41 rfl ?_
          refine o_move (v := .v (.bool (!r42))) (by decide) rfl ?_
          rcases Bool.eq_false_or_eq_true (!r42) with hb43 | hb43
          · replace hM := ifT hM hb43
            refine o_guardN (j := 8) (e := (!r42)) (want := false) (by decide) rfl hb43 ?_
            refine o_guardN (j := 8) (e := (!r42)) (want := false) (by decide) rfl hb43 ?_
            refine o_guardN (j := 8) (e := (!r42)) (want := false) (by decide) rfl hb43 ?_
            refine o_pickT (v := .v (.bool true)) (e := (!r42)) (by decide) rfl hb43 rfl ?_
            refine o_move (v := .v (.bool true)) (by decide) rfl ?_
            refine o_guardN (j := 13) (e := true) (want := false) (by decide) rfl rfl ?_
            refine o_guardN (j := 13) (e := true) (want := false) (by decide) rfl rfl ?_
            refine o_guardN (j := 13) (e := true) (want := false) (by decide) rfl rfl ?_
            refine o_pickT (v := .v (.bool true)) (e := true) (by decide) rfl rfl rfl ?_
            refine run_nil ?_
            exact w_goto true (.cons (.refl _) (.cons (.refl _) (.cons (.refl _) (.cons (.refl _) (.cons (.refl _) (.cons (.refl _) (.cons (.refl _) (.cons (.refl _) (.cons (.refl _) (.cons (.refl _) .nil)))))))))) ⟨(hS.keep [true, true] rfl).up (by omega), hM⟩
          · replace hM := ifF hM hb43
            refine o_guardY (j := 8) (e := (!r42)) (want := false) rfl hb43 ?_
            refine o_move (v := .v (.int .i64 r7.2)) (by decide) rfl ?_
            refine o_guardY (j := 8) (e := (!r42)) (want := false) rfl hb43 ?_
            refine o_move (v := .v (.int .i64 r5.2)) (by decide) rfl ?_
            refine o_guardY (j := 8) (e := (!r42)) (want := false) rfl hb43 ?_
            refine o_int (v := .v (.bool (r7.2 != r5.2))) (by decide) rfl rfl rfl ?_
            refine o_pickF (v := .v (.bool (r7.2 != r5.2))) (e := (!r42)) (by decide) rfl hb43 rfl ?_
            refine o_move (v := .v (.bool (r7.2 != r5.2))) (by decide) rfl ?_
            rcases Bool.eq_false_or_eq_true (r7.2 != r5.2) with hb44 | hb44
            · replace hM := ifT hM hb44
              refine o_guardN (j := 13) (e := (r7.2 != r5.2)) (want := false) (by decide) rfl hb44 ?_
              refine o_guardN (j := 13) (e := (r7.2 != r5.2)) (want := false) (by decide) rfl hb44 ?_
              refine o_guardN (j := 13) (e := (r7.2 != r5.2)) (want := false) (by decide) rfl hb44 ?_
              refine o_pickT (v := .v (.bool true)) (e := (r7.2 != r5.2)) (by decide) rfl hb44 rfl ?_
              refine run_nil ?_
              exact w_goto true (.cons (.refl _) (.cons (.refl _) (.cons (.refl _) (.cons (.refl _) (.cons (.refl _) (.cons (.refl _) (.cons (.refl _) (.cons (.refl _) (.cons (.refl _) (.cons (.refl _) .nil)))))))))) ⟨(hS.keep [true, true] rfl).up (by omega), hM⟩
            · replace hM := ifF hM hb44
              refine o_guardY (j := 13) (e := (r7.2 != r5.2)) (want := false) rfl hb44 ?_
              refine o_move (v := .v (.int .i64 r8.2)) (by decide) rfl ?_
              refine o_guardY (j := 13) (e := (r7.2 != r5.2)) (want := false) rfl hb44 ?_
              refine o_move (v := .v (.int .i64 r6.2)) (by decide) rfl ?_
              refine o_guardY (j := 13) (e := (r7.2 != r5.2)) (want := false) rfl hb44 ?_
              refine o_int (v := .v (.bool (r8.2 != r6.2))) (by decide) rfl rfl rfl ?_
              refine o_pickF (v := .v (.bool (r8.2 != r6.2))) (e := (r7.2 != r5.2)) (by decide) rfl hb44 rfl ?_
              refine run_nil ?_
              exact w_goto (r8.2 != r6.2) (.cons (.refl _) (.cons (.refl _) (.cons (.refl _) (.cons (.refl _) (.cons (.refl _) (.cons (.refl _) (.cons (.refl _) (.cons (.refl _) (.cons (.refl _) (.cons (.refl _) .nil)))))))))) ⟨(hS.keep [true, true] rfl).up (by omega), hM⟩
  · refine r_region (n := 24) rfl ?_
    refine o_load (v := .agg [.v (.int .i64 a0.Letters), .v (.int .i64 a0.Numbers), .v (.int .i64 a0.Pitch), .v (.int .i64 a0.Slack), .v (.int .i64 a0.Gap), .v (.int .i64 a0.Pause), .v (.int .i64 a0.Sparks), .sl .no 1 (a0.Times.map cI)]) 0 hS (by decide) rfl rfl .no (part_agg ty_agg24 (Nat.le_of_ble_eq_true rfl) rfl) ?_
    obtain ⟨r45, hr45, hM⟩ := bindE hM
    refine o_call (bs := [.agg [.v (.int .i64 a0.Letters), .v (.int .i64 a0.Numbers), .v (.int .i64 a0.Pitch), .v (.int .i64 a0.Slack), .v (.int .i64 a0.Gap), .v (.int .i64 a0.Pause), .v (.int .i64 a0.Sparks), .sl .no 1 (a0.Times.map cI)]]) (by decide) rfl rfl ((W_law13_ready hr45).le (.cons (.refl _) .nil)) ?_
    refine o_not (e := r45) (by decide) rfl ?_
    refine o_move (v := .v (.bool (!r45))) (by decide) rfl ?_
    rcases Bool.eq_false_or_eq_true (!r45) with hb46 | hb46
    · replace hM := ifT hM hb46
      refine o_guardN (j := 3) (e := (!r45)) (want := false) (by decide) rfl hb46 ?_
      refine o_guardN (j := 3) (e := (!r45)) (want := false) (by decide) rfl hb46 ?_
      refine o_pickT (v := .v (.bool true)) (e := (!r45)) (by decide) rfl hb46 rfl ?_
      refine o_move (v := .v (.bool true)) (by decide) rfl ?_
      refine o_guardN (j := 7) (e := true) (want := false) (by decide) rfl rfl ?_
      refine o_guardN (j := 7) (e := true) (want := false) (by decide) rfl rfl ?_
      refine o_pickT (v := .v (.bool true)) (e := true) (by decide) rfl rfl rfl ?_
      refine o_move (v := .v (.bool true)) (by decide) rfl ?_
      refine o_guardN (j := 11) (e := true) (want := false) (by decide) rfl rfl ?_
      refine o_guardN (j := 11) (e := true) (want := false) (by decide) rfl rfl ?_
      refine o_guardN (j := 11) (e := true) (want := false) (by decide) rfl rfl ?_
      refine o_guardN (j := 11) (e := true) (want := false) (by decide) rfl rfl ?_
      refine o_guardN (j := 11) (e := true) (want := false) (by decide) rfl rfl ?_
      refine o_pickT (v := .v (.bool true)) (e := true) (by decide) rfl rfl rfl ?_
      refine o_move (v := .v (.bool true)) (by decide) rfl ?_
      refine o_guardN (j := 18) (e := true) (want := false) (by decide) rfl rfl ?_
      refine o_guardN (j := 18) (e := true) (want := false) (by decide) rfl rfl ?_
      refine o_guardN (j := 18) (e := true) (want := false) (by decide) rfl rfl ?_
      refine o_guardN (j := 18) (e := true) (want := false) (by decide) rfl rfl ?_
      refine o_pickT (v := .v (.bool true)) (e := true) (by decide) rfl rfl rfl ?_
      refine run_nil ?_
      exact w_goto true (.cons (.refl _) (.cons (.refl _) (.cons (.refl _) (.cons (.refl _) .nil)))) ⟨(hS.keep [true] rfl).up (by omega), hM⟩
    · replace hM := ifF hM hb46
      refine o_guardY (j := 3) (e := (!r45)) (want := false) rfl hb46 ?_
      refine o_move (v := .v (.int .i64 a1)) (by decide) rfl ?_
      refine o_guardY (j := 3) (e := (!r45)) (want := false) rfl hb46 ?_
      refine o_int (v := .v (.bool (decide (a1 < 0)))) (by decide) rfl rfl rfl ?_
      refine o_pickF (v := .v (.bool (decide (a1 < 0)))) (e := (!r45)) (by decide) rfl hb46 rfl ?_
      refine o_move (v := .v (.bool (decide (a1 < 0)))) (by decide) rfl ?_
      rcases Bool.eq_false_or_eq_true (decide (a1 < 0)) with hb47 | hb47
      · replace hM := ifT hM hb47
        refine o_guardN (j := 7) (e := (decide (a1 < 0))) (want := false) (by decide) rfl hb47 ?_
        refine o_guardN (j := 7) (e := (decide (a1 < 0))) (want := false) (by decide) rfl hb47 ?_
        refine o_pickT (v := .v (.bool true)) (e := (decide (a1 < 0))) (by decide) rfl hb47 rfl ?_
        refine o_move (v := .v (.bool true)) (by decide) rfl ?_
        refine o_guardN (j := 11) (e := true) (want := false) (by decide) rfl rfl ?_
        refine o_guardN (j := 11) (e := true) (want := false) (by decide) rfl rfl ?_
        refine o_guardN (j := 11) (e := true) (want := false) (by decide) rfl rfl ?_
        refine o_guardN (j := 11) (e := true) (want := false) (by decide) rfl rfl ?_
        refine o_guardN (j := 11) (e := true) (want := false) (by decide) rfl rfl ?_
        refine o_pickT (v := .v (.bool true)) (e := true) (by decide) rfl rfl rfl ?_
        refine o_move (v := .v (.bool true)) (by decide) rfl ?_
        refine o_guardN (j := 18) (e := true) (want := false) (by decide) rfl rfl ?_
        refine o_guardN (j := 18) (e := true) (want := false) (by decide) rfl rfl ?_
        refine o_guardN (j := 18) (e := true) (want := false) (by decide) rfl rfl ?_
        refine o_guardN (j := 18) (e := true) (want := false) (by decide) rfl rfl ?_
        refine o_pickT (v := .v (.bool true)) (e := true) (by decide) rfl rfl rfl ?_
        refine run_nil ?_
        exact w_goto true (.cons (.refl _) (.cons (.refl _) (.cons (.refl _) (.cons (.refl _) .nil)))) ⟨(hS.keep [true] rfl).up (by omega), hM⟩
      · replace hM := ifF hM hb47
        refine o_guardY (j := 7) (e := (decide (a1 < 0))) (want := false) rfl hb47 ?_
        refine o_move (v := .v (.int .i64 a1)) (by decide) rfl ?_
        refine o_guardY (j := 7) (e := (decide (a1 < 0))) (want := false) rfl hb47 ?_
        refine o_int (v := .v (.bool (decide (a1 > 3)))) (by decide) rfl rfl rfl ?_
        refine o_pickF (v := .v (.bool (decide (a1 > 3)))) (e := (decide (a1 < 0))) (by decide) rfl hb47 rfl ?_
        refine o_move (v := .v (.bool (decide (a1 > 3)))) (by decide) rfl ?_
        rcases Bool.eq_false_or_eq_true (decide (a1 > 3)) with hb48 | hb48
        · replace hM := ifT hM hb48
          refine o_guardN (j := 11) (e := (decide (a1 > 3))) (want := false) (by decide) rfl hb48 ?_
          refine o_guardN (j := 11) (e := (decide (a1 > 3))) (want := false) (by decide) rfl hb48 ?_
          refine o_guardN (j := 11) (e := (decide (a1 > 3))) (want := false) (by decide) rfl hb48 ?_
          refine o_guardN (j := 11) (e := (decide (a1 > 3))) (want := false) (by decide) rfl hb48 ?_
          refine o_guardN (j := 11) (e := (decide (a1 > 3))) (want := false) (by decide) rfl hb48 ?_
          refine o_pickT (v := .v (.bool true)) (e := (decide (a1 > 3))) (by decide) rfl hb48 rfl ?_
          refine o_move (v := .v (.bool true)) (by decide) rfl ?_
          refine o_guardN (j := 18) (e := true) (want := false) (by decide) rfl rfl ?_
          refine o_guardN (j := 18) (e := true) (want := false) (by decide) rfl rfl ?_
          refine o_guardN (j := 18) (e := true) (want := false) (by decide) rfl rfl ?_
          refine o_guardN (j := 18) (e := true) (want := false) (by decide) rfl rfl ?_
          refine o_pickT (v := .v (.bool true)) (e := true) (by decide) rfl rfl rfl ?_
          refine run_nil ?_
          exact w_goto true (.cons (.refl _) (.cons (.refl _) (.cons (.refl _) (.cons (.refl _) .nil)))) ⟨(hS.keep [true] rfl).up (by omega), hM⟩
        · replace hM := ifF hM hb48
          refine o_guardY (j := 11) (e := (decide (a1 > 3))) (want := false) rfl hb48 ?_
          refine o_fieldP (by decide) ty_fo24_6 rfl ?_
          refine o_guardY (j := 11) (e := (decide (a1 > 3))) (want := false) rfl hb48 ?_
          refine o_load (v := .v (.int .i64 a0.Sparks)) 0 hS (by decide) rfl rfl .no (part_one ty_agg3 ty_sc3 rfl) ?_
          refine o_guardY (j := 11) (e := (decide (a1 > 3))) (want := false) rfl hb48 ?_
          refine o_move (v := .v (.int .i64 a1)) (by decide) rfl ?_
          refine o_guardY (j := 11) (e := (decide (a1 > 3))) (want := false) rfl hb48 ?_
          refine o_int (v := .v (.int .i64 (w64 (a0.Sparks + a1)))) (by decide) rfl rfl rfl ?_
          refine o_guardY (j := 11) (e := (decide (a1 > 3))) (want := false) rfl hb48 ?_
          refine o_int (v := .v (.bool (decide ((w64 (a0.Sparks + a1)) > 3)))) (by decide) rfl rfl rfl ?_
          refine o_pickF (v := .v (.bool (decide ((w64 (a0.Sparks + a1)) > 3)))) (e := (decide (a1 > 3))) (by decide) rfl hb48 rfl ?_
          refine o_move (v := .v (.bool (decide ((w64 (a0.Sparks + a1)) > 3)))) (by decide) rfl ?_
          rcases Bool.eq_false_or_eq_true (decide ((w64 (a0.Sparks + a1)) > 3)) with hb49 | hb49
          · replace hM := ifT hM hb49
            refine o_guardN (j := 18) (e := (decide ((w64 (a0.Sparks + a1)) > 3))) (want := false) (by decide) rfl hb49 ?_
            refine o_guardN (j := 18) (e := (decide ((w64 (a0.Sparks + a1)) > 3))) (want := false) (by decide) rfl hb49 ?_
            refine o_guardN (j := 18) (e := (decide ((w64 (a0.Sparks + a1)) > 3))) (want := false) (by decide) rfl hb49 ?_
            refine o_guardN (j := 18) (e := (decide ((w64 (a0.Sparks + a1)) > 3))) (want := false) (by decide) rfl hb49 ?_
            refine o_pickT (v := .v (.bool true)) (e := (decide ((w64 (a0.Sparks + a1)) > 3))) (by decide) rfl hb49 rfl ?_
            refine run_nil ?_
            exact w_goto true (.cons (.refl _) (.cons (.refl _) (.cons (.refl _) (.cons (.refl _) .nil)))) ⟨(hS.keep [true] rfl).up (by omega), hM⟩
          · replace hM := ifF hM hb49
            refine o_guardY (j := 18) (e := (decide ((w64 (a0.Sparks + a1)) > 3))) (want := false) rfl hb49 ?_
            refine o_load (v := .agg [.v (.int .i64 a0.Letters), .v (.int .i64 a0.Numbers), .v (.int .i64 a0.Pitch), .v (.int .i64 a0.Slack), .v (.int .i64 a0.Gap), .v (.int .i64 a0.Pause), .v (.int .i64 a0.Sparks), .sl .no 1 (a0.Times.map cI)]) 0 hS (by decide) rfl rfl .no (part_agg ty_agg24 (Nat.le_of_ble_eq_true rfl) rfl) ?_
            refine o_guardY (j := 18) (e := (decide ((w64 (a0.Sparks + a1)) > 3))) (want := false) rfl hb49 ?_
            refine o_move (v := .v (.int .i64 a2)) (by decide) rfl ?_
            refine o_guardY (j := 18) (e := (decide ((w64 (a0.Sparks + a1)) > 3))) (want := false) rfl hb49 ?_
            obtain ⟨r50, hr50, hM⟩ := bindE hM
            refine o_call (bs := [.agg [.v (.int .i64 a0.Letters), .v (.int .i64 a0.Numbers), .v (.int .i64 a0.Pitch), .v (.int .i64 a0.Slack), .v (.int .i64 a0.Gap), .v (.int .i64 a0.Pause), .v (.int .i64 a0.Sparks), .sl .no 1 (a0.Times.map cI)], .v (.int .i64 a2)]) (by decide) rfl rfl ((W_ref13_IsSelection hr50).le (.cons (.refl _) (.cons (.refl _) .nil))) ?_
            refine o_guardY (j := 18) (e := (decide ((w64 (a0.Sparks + a1)) > 3))) (want := false) rfl hb49 ?_
            refine o_not (e := r50) (by decide) rfl ?_
            refine o_pickF (v := .v (.bool (!r50))) (e := (decide ((w64 (a0.Sparks + a1)) > 3))) (by decide) rfl hb49 rfl ?_
            refine run_nil ?_
            exact w_goto (!r50) (.cons (.refl _) (.cons (.refl _) (.cons (.refl _) (.cons (.refl _) .nil)))) ⟨(hS.keep [true] rfl).up (by omega), hM⟩
end Go.Proofs.Ytekplngjaddccaa
