/-
  The code returns what the functions say (printed by gen.py).
  Conditions: none.
-/
import Derived.Test.YtekplngjaddccaaWkPulsesOne2
set_option linter.all false
namespace Go.Proofs.Ytekplngjaddccaa
open Go Go.AM Go.Law
set_option linter.unusedVariables false
set_option maxRecDepth 4000
set_option maxHeartbeats 4000000
theorem W_law13_PulsesOne {n : Nat} {a0 : Pulse} {a1 : Int} {r : Bool} (hM : law13_PulsesOne n a0 a1 = some r) : PureSat Try.prog 5 [.agg [.v (.int .i64 a0.Letters), .v (.int .i64 a0.Numbers), .v (.int .i64 a0.Pitch), .v (.int .i64 a0.Slack), .v (.int .i64 a0.Gap), .v (.int .i64 a0.Pause), .v (.int .i64 a0.Sparks), .sl .no 1 (a0.Times.map cI)], .v (.int .i64 a1)] (.v (.bool r)) := by
  refine pure_of_wp mixed Try.func5 rfl (by decide) Try.ntmps5 (by simp) ?pure fun H0 g hf => ?_
  case pure => exact .v _
  rw [frame0_of]
  change wpA _ _ _ _ (Fr.of [(0, .agg [.v (.int .i64 a0.Letters), .v (.int .i64 a0.Numbers), .v (.int .i64 a0.Pitch), .v (.int .i64 a0.Slack), .v (.int .i64 a0.Gap), .v (.int .i64 a0.Pause), .v (.int .i64 a0.Sparks), .sl .no 1 (a0.Times.map cI)]), (1, .v (.int .i64 a1))]) H0 g
  have hS := St.start hf
  refine r_seq ?_
  refine r_region (n := 2) rfl ?_
  refine o_box (v := .agg [.v (.int .i64 a0.Letters), .v (.int .i64 a0.Numbers), .v (.int .i64 a0.Pitch), .v (.int .i64 a0.Slack), .v (.int .i64 a0.Gap), .v (.int .i64 a0.Pause), .v (.int .i64 a0.Sparks), .sl .no 1 (a0.Times.map cI)]) (cs := [.v (.int .i64 a0.Letters), .v (.int .i64 a0.Numbers), .v (.int .i64 a0.Pitch), .v (.int .i64 a0.Slack), .v (.int .i64 a0.Gap), .v (.int .i64 a0.Pause), .v (.int .i64 a0.Sparks), .sl .no 1 (a0.Times.map cI)]) hS (by decide) rfl rfl (by omega) fun H hS => ?_
  refine o_assign (v := .v (.bool false)) (by decide) rfl ?_
  refine run_nil ?_
  refine w_next [(1, .v (.int .i64 a1)), (2, .ptr (g + 0) 0)] (.cons (.refl _) (.cons (.refl _) .nil)) ?_
  refine r_seq ?_
  refine w_join (J := Bool) (fun j => [(1, .v (.int .i64 a1)), (2, .ptr (g + 0) 0), (20, .v (.bool j))]) (fun j H' g' => St (· < g) H0 [(g + 0, .cells [.v (.int .i64 a0.Letters), .v (.int .i64 a0.Numbers), .v (.int .i64 a0.Pitch), .v (.int .i64 a0.Slack), .v (.int .i64 a0.Gap), .v (.int .i64 a0.Pause), .v (.int .i64 a0.Sparks), .sl .no 1 (a0.Times.map cI)])] H' g' ∧ law13_PulsesOne_j1 n a0 a1 j = some r) ?_ ?_
  · rintro v1 H g1 ⟨hS, hM⟩
    change wpA _ _ _ _ (Fr.of [(1, .v (.int .i64 a1)), (2, .ptr (g + 0) 0), (20, .v (.bool v1))]) _ _
    replace hS : St (· < g) H0 [(g + 0, .cells [.v (.int .i64 a0.Letters), .v (.int .i64 a0.Numbers), .v (.int .i64 a0.Pitch), .v (.int .i64 a0.Slack), .v (.int .i64 a0.Gap), .v (.int .i64 a0.Pause), .v (.int .i64 a0.Sparks), .sl .no 1 (a0.Times.map cI)])] H g1 := hS
    replace hM : law13_PulsesOne_j1 n a0 a1 v1 = some r := hM
    rcases Bool.eq_false_or_eq_true v1 with hb2 | hb2
    · replace hM := ifT hM hb2
      refine w_condT (e := v1) rfl hb2 ?_
      refine r_seq ?_
      refine r_region (n := 2) rfl ?_
      obtain ⟨r3, hr3, hM⟩ := bindE hM
      refine o_call (bs := []) (by decide) rfl rfl ((W_law13_works hr3).le .nil) ?_
      refine o_assign (v := .v (.bool r3)) (by decide) rfl ?_
      refine run_nil ?_
      replace hS := hS.keep (L' := []) [false] rfl
      refine w_next [(4, .v (.bool r3))] (.cons (.refl _) .nil) ?_
      refine r_ret ?_
      refine r_then_ret ?_
      refine w_end (x := .v (.bool r3)) (f := fun r => .v (.bool r)) (.inr rfl) ?_ (.refl _) (Option.some.inj hM) hS
      exact (res_one (res_tmp (x := .v (.bool r3)) rfl))
    · replace hM := ifF hM hb2
      refine w_condF (e := v1) rfl hb2 ?_
      refine r_skip ?_
      refine w_next [(1, .v (.int .i64 a1)), (2, .ptr (g + 0) 0)] (.cons (.refl _) (.cons (.refl _) .nil)) ?_
      refine r_seq ?_
      refine r_region (n := 4) rfl ?_
      refine o_load (v := .agg [.v (.int .i64 a0.Letters), .v (.int .i64 a0.Numbers), .v (.int .i64 a0.Pitch), .v (.int .i64 a0.Slack), .v (.int .i64 a0.Gap), .v (.int .i64 a0.Pause), .v (.int .i64 a0.Sparks), .sl .no 1 (a0.Times.map cI)]) 0 hS (by decide) rfl rfl .no (part_agg ty_agg24 (Nat.le_of_ble_eq_true rfl) rfl) ?_
      obtain ⟨r4, hr4, hM⟩ := bindE hM
      refine o_call (bs := [.agg [.v (.int .i64 a0.Letters), .v (.int .i64 a0.Numbers), .v (.int .i64 a0.Pitch), .v (.int .i64 a0.Slack), .v (.int .i64 a0.Gap), .v (.int .i64 a0.Pause), .v (.int .i64 a0.Sparks), .sl .no 1 (a0.Times.map cI)]]) (by decide) rfl rfl ((W_ref13_Copy hr4).le (.cons (.refl _) .nil)) ?_
      refine o_alloc hS (by decide) ty_zero24 (by omega) fun H hS => ?_
      refine o_store (v := .agg [.v (.int .i64 r4.Letters), .v (.int .i64 r4.Numbers), .v (.int .i64 r4.Pitch), .v (.int .i64 r4.Slack), .v (.int .i64 r4.Gap), .v (.int .i64 r4.Pause), .v (.int .i64 r4.Sparks), .sl .no 1 (r4.Times.map cI)]) (ns := [.v (.int .i64 r4.Letters), .v (.int .i64 r4.Numbers), .v (.int .i64 r4.Pitch), .v (.int .i64 r4.Slack), .v (.int .i64 r4.Gap), .v (.int .i64 r4.Pause), .v (.int .i64 r4.Sparks), .sl .no 1 (r4.Times.map cI)]) (L' := [(g1 + 2, .cells [.v (.int .i64 r4.Letters), .v (.int .i64 r4.Numbers), .v (.int .i64 r4.Pitch), .v (.int .i64 r4.Slack), .v (.int .i64 r4.Gap), .v (.int .i64 r4.Pause), .v (.int .i64 r4.Sparks), .sl .no 1 (r4.Times.map cI)]), (g + 0, .cells [.v (.int .i64 a0.Letters), .v (.int .i64 a0.Numbers), .v (.int .i64 a0.Pitch), .v (.int .i64 a0.Slack), .v (.int .i64 a0.Gap), .v (.int .i64 a0.Pause), .v (.int .i64 a0.Sparks), .sl .no 1 (a0.Times.map cI)])]) 0 hS rfl rfl .no rfl rfl ty_var24 (Nat.le_of_ble_eq_true rfl) rfl fun H hS => ?_
      refine run_nil ?_
      refine w_next [(1, .v (.int .i64 a1)), (2, .ptr (g + 0) 0), (5, .ptr (g1 + 2) 0)] (.cons (.refl _) (.cons (.refl _) (.cons (.refl _) .nil))) ?_
      refine r_seq ?_
      refine r_region (n := 2) rfl ?_
      refine o_fieldP (by decide) ty_fo24_7 rfl ?_
      refine o_store (v := .sl .nil 0 []) (ns := [.sl .nil 0 []]) (L' := [(g1 + 2, .cells [.v (.int .i64 r4.Letters), .v (.int .i64 r4.Numbers), .v (.int .i64 r4.Pitch), .v (.int .i64 r4.Slack), .v (.int .i64 r4.Gap), .v (.int .i64 r4.Pause), .v (.int .i64 r4.Sparks), .sl .nil 0 []]), (g + 0, .cells [.v (.int .i64 a0.Letters), .v (.int .i64 a0.Numbers), .v (.int .i64 a0.Pitch), .v (.int .i64 a0.Slack), .v (.int .i64 a0.Gap), .v (.int .i64 a0.Pause), .v (.int .i64 a0.Sparks), .sl .no 1 (a0.Times.map cI)])]) 0 hS rfl rfl .no rfl rfl ty_var22 (Nat.le_of_ble_eq_true rfl) rfl fun H hS => ?_
      refine run_nil ?_
      refine w_ownC (cs' := [.v (.int .i64 r4.Letters), .v (.int .i64 r4.Numbers), .v (.int .i64 r4.Pitch), .v (.int .i64 r4.Slack), .v (.int .i64 r4.Gap), .v (.int .i64 r4.Pause), .v (.int .i64 r4.Sparks), .sl (.id (g1 + 4 + 2)) 1 (([] : List Int).map cI)]) (L' := [(g1 + 2, .cells [.v (.int .i64 r4.Letters), .v (.int .i64 r4.Numbers), .v (.int .i64 r4.Pitch), .v (.int .i64 r4.Slack), .v (.int .i64 r4.Gap), .v (.int .i64 r4.Pause), .v (.int .i64 r4.Sparks), .sl (.id (g1 + 4 + 2)) 1 (([] : List Int).map cI)]), (g + 0, .cells [.v (.int .i64 a0.Letters), .v (.int .i64 a0.Numbers), .v (.int .i64 a0.Pitch), .v (.int .i64 a0.Slack), .v (.int .i64 a0.Gap), .v (.int .i64 a0.Pause), .v (.int .i64 a0.Sparks), .sl .no 1 (a0.Times.map cI)])]) 0 7 1 3 hS (by omega) (by decide) rfl rfl rfl rfl fun H hS => ?_
      refine w_next [(1, .v (.int .i64 a1)), (2, .ptr (g + 0) 0), (5, .ptr (g1 + 2) 0)] (.cons (.refl _) (.cons (.refl _) (.cons (.refl _) .nil))) ?_
      refine r_seq ?_
      refine r_region (n := 1) rfl ?_
      refine o_assign (v := .v (.bool false)) (by decide) rfl ?_
      refine run_nil ?_
      refine w_next [(1, .v (.int .i64 a1)), (2, .ptr (g + 0) 0), (5, .ptr (g1 + 2) 0), (6, .v (.bool false))] (.cons (.refl _) (.cons (.refl _) (.cons (.refl _) (.cons (.refl _) .nil)))) ?_
      refine w_join (J := Bool × (List Int)) (fun j => [(1, .v (.int .i64 a1)), (2, .ptr (g + 0) 0), (5, .ptr (g1 + 2) 0), (6, .v (.bool j.1))]) (fun j H' g' => St (· < g) H0 [(g1 + 4 + 2, .row 3 j.2.length), (g1 + 2, .cells [.v (.int .i64 r4.Letters), .v (.int .i64 r4.Numbers), .v (.int .i64 r4.Pitch), .v (.int .i64 r4.Slack), .v (.int .i64 r4.Gap), .v (.int .i64 r4.Pause), .v (.int .i64 r4.Sparks), .sl (.id (g1 + 4 + 2)) 1 (j.2.map cI)]), (g + 0, .cells [.v (.int .i64 a0.Letters), .v (.int .i64 a0.Numbers), .v (.int .i64 a0.Pitch), .v (.int .i64 a0.Slack), .v (.int .i64 a0.Gap), .v (.int .i64 a0.Pause), .v (.int .i64 a0.Sparks), .sl .no 1 (a0.Times.map cI)])] H' g' ∧ law13_PulsesOne_j2 n a0 a1 r4 j.1 j.2 = some r) ?_ ?_
      · rintro ⟨v5, v6⟩ H g2 ⟨hS, hM⟩
        change wpA _ _ _ _ (Fr.of [(1, .v (.int .i64 a1)), (2, .ptr (g + 0) 0), (5, .ptr (g1 + 2) 0), (6, .v (.bool v5))]) _ _
        replace hS : St (· < g) H0 [(g1 + 4 + 2, .row 3 v6.length), (g1 + 2, .cells [.v (.int .i64 r4.Letters), .v (.int .i64 r4.Numbers), .v (.int .i64 r4.Pitch), .v (.int .i64 r4.Slack), .v (.int .i64 r4.Gap), .v (.int .i64 r4.Pause), .v (.int .i64 r4.Sparks), .sl (.id (g1 + 4 + 2)) 1 (v6.map cI)]), (g + 0, .cells [.v (.int .i64 a0.Letters), .v (.int .i64 a0.Numbers), .v (.int .i64 a0.Pitch), .v (.int .i64 a0.Slack), .v (.int .i64 a0.Gap), .v (.int .i64 a0.Pause), .v (.int .i64 a0.Sparks), .sl .no 1 (a0.Times.map cI)])] H g2 := hS
        replace hM : law13_PulsesOne_j2 n a0 a1 r4 v5 v6 = some r := hM
        refine w_join (J := (List Int)) (fun j => [(2, .ptr (g + 0) 0), (5, .ptr (g1 + 2) 0)]) (fun j H' g' => St (· < g) H0 [(g1 + 4 + 2, .row 3 j.length), (g1 + 2, .cells [.v (.int .i64 r4.Letters), .v (.int .i64 r4.Numbers), .v (.int .i64 r4.Pitch), .v (.int .i64 r4.Slack), .v (.int .i64 r4.Gap), .v (.int .i64 r4.Pause), .v (.int .i64 r4.Sparks), .sl (.id (g1 + 4 + 2)) 1 (j.map cI)]), (g + 0, .cells [.v (.int .i64 a0.Letters), .v (.int .i64 a0.Numbers), .v (.int .i64 a0.Pitch), .v (.int .i64 a0.Slack), .v (.int .i64 a0.Gap), .v (.int .i64 a0.Pause), .v (.int .i64 a0.Sparks), .sl .no 1 (a0.Times.map cI)])] H' g' ∧ law13_PulsesOne_j3 n a0 r4 j = some r) ?_ ?_
        · rintro v7 H g3 ⟨hS, hM⟩
          change wpA _ _ _ _ (Fr.of [(2, .ptr (g + 0) 0), (5, .ptr (g1 + 2) 0)]) _ _
          replace hS : St (· < g) H0 [(g1 + 4 + 2, .row 3 v7.length), (g1 + 2, .cells [.v (.int .i64 r4.Letters), .v (.int .i64 r4.Numbers), .v (.int .i64 r4.Pitch), .v (.int .i64 r4.Slack), .v (.int .i64 r4.Gap), .v (.int .i64 r4.Pause), .v (.int .i64 r4.Sparks), .sl (.id (g1 + 4 + 2)) 1 (v7.map cI)]), (g + 0, .cells [.v (.int .i64 a0.Letters), .v (.int .i64 a0.Numbers), .v (.int .i64 a0.Pitch), .v (.int .i64 a0.Slack), .v (.int .i64 a0.Gap), .v (.int .i64 a0.Pause), .v (.int .i64 a0.Sparks), .sl .no 1 (a0.Times.map cI)])] H g3 := hS
          replace hM : law13_PulsesOne_j3 n a0 r4 v7 = some r := hM
          refine r_seq ?_
          refine r_seq ?_
          refine r_region (n := 3) rfl ?_
          refine o_load (v := .agg [.v (.int .i64 r4.Letters), .v (.int .i64 r4.Numbers), .v (.int .i64 r4.Pitch), .v (.int .i64 r4.Slack), .v (.int .i64 r4.Gap), .v (.int .i64 r4.Pause), .v (.int .i64 r4.Sparks), .sl (.id (g1 + 4 + 2)) 1 (v7.map cI)]) 1 hS (by decide) rfl rfl .no (part_agg ty_agg24 (Nat.le_of_ble_eq_true rfl) rfl) ?_
          obtain ⟨r8, hr8, hM⟩ := bindE hM
          refine o_call (bs := [.agg [.v (.int .i64 r4.Letters), .v (.int .i64 r4.Numbers), .v (.int .i64 r4.Pitch), .v (.int .i64 r4.Slack), .v (.int .i64 r4.Gap), .v (.int .i64 r4.Pause), .v (.int .i64 r4.Sparks), .sl (.id (g1 + 4 + 2)) 1 (v7.map cI)]]) (by decide) rfl rfl ((W_law13_ready hr8).le (.cons (.aggL (.cons (.refl _) (.cons (.refl _) (.cons (.refl _) (.cons (.refl _) (.cons (.refl _) (.cons (.refl _) (.cons (.refl _) (.cons (.sl _ _ _) .nil))))))))) .nil)) ?_
          refine o_not (e := r8) (by decide) rfl ?_
          refine run_nil ?_
          refine w_next [(2, .ptr (g + 0) 0), (5, .ptr (g1 + 2) 0), (69, .v (.bool (!r8)))] (.cons (.refl _) (.cons (.refl _) (.cons (.refl _) .nil))) ?_
          rcases Bool.eq_false_or_eq_true (!r8) with hb9 | hb9
          · replace hM := ifT hM hb9
            refine w_condT (e := (!r8)) rfl hb9 ?_
            refine r_seq ?_
            refine r_region (n := 2) rfl ?_
            obtain ⟨r10, hr10, hM⟩ := bindE hM
            refine o_call (bs := []) (by decide) rfl rfl ((W_law13_works hr10).le .nil) ?_
            refine o_assign (v := .v (.bool r10)) (by decide) rfl ?_
            refine run_nil ?_
            replace hS := hS.keep (L' := []) [false, false, false] rfl
            refine w_next [(4, .v (.bool r10))] (.cons (.refl _) .nil) ?_
            refine r_ret ?_
            refine r_then_ret ?_
            refine w_end (x := .v (.bool r10)) (f := fun r => .v (.bool r)) (.inr rfl) ?_ (.refl _) (Option.some.inj hM) hS
            exact (res_one (res_tmp (x := .v (.bool r10)) rfl))
          · replace hM := ifF hM hb9
            refine w_condF (e := (!r8)) rfl hb9 ?_
            refine r_skip ?_
            refine w_next [(2, .ptr (g + 0) 0), (5, .ptr (g1 + 2) 0)] (.cons (.refl _) (.cons (.refl _) .nil)) ?_
            refine r_seq ?_
            refine r_region (n := 7) rfl ?_
            refine o_load (v := .agg [.v (.int .i64 a0.Letters), .v (.int .i64 a0.Numbers), .v (.int .i64 a0.Pitch), .v (.int .i64 a0.Slack), .v (.int .i64 a0.Gap), .v (.int .i64 a0.Pause), .v (.int .i64 a0.Sparks), .sl .no 1 (a0.Times.map cI)]) 2 hS (by decide) rfl rfl .no (part_agg ty_agg24 (Nat.le_of_ble_eq_true rfl) rfl) ?_
            obtain ⟨r11, hr11, hM⟩ := bindE hM
            refine o_call (bs := [.agg [.v (.int .i64 a0.Letters), .v (.int .i64 a0.Numbers), .v (.int .i64 a0.Pitch), .v (.int .i64 a0.Slack), .v (.int .i64 a0.Gap), .v (.int .i64 a0.Pause), .v (.int .i64 a0.Sparks), .sl .no 1 (a0.Times.map cI)]]) (by decide) rfl rfl ((W_pulses_Fewest hr11).le (.cons (.refl _) .nil)) ?_
            refine o_move (v := .tup [.v (.int .i64 r11.1), .v (.int .i64 r11.2)]) (by decide) rfl ?_
            refine o_extract (v := .v (.int .i64 r11.1)) (by decide) rfl rfl ?_
            refine o_extract (v := .v (.int .i64 r11.2)) (by decide) rfl rfl ?_
            refine o_assign (v := .v (.int .i64 r11.1)) (by decide) rfl ?_
            refine o_assign (v := .v (.int .i64 r11.2)) (by decide) rfl ?_
            refine run_nil ?_
            replace hS := hS.keep (L' := [(g1 + 4 + 2, .row 3 v7.length), (g1 + 2, .cells [.v (.int .i64 r4.Letters), .v (.int .i64 r4.Numbers), .v (.int .i64 r4.Pitch), .v (.int .i64 r4.Slack), .v (.int .i64 r4.Gap), .v (.int .i64 r4.Pause), .v (.int .i64 r4.Sparks), .sl (.id (g1 + 4 + 2)) 1 (v7.map cI)])]) [true, true, false] rfl
            refine w_next [(5, .ptr (g1 + 2) 0), (8, .v (.int .i64 r11.1)), (9, .v (.int .i64 r11.2))] (.cons (.refl _) (.cons (.refl _) (.cons (.refl _) .nil))) ?_
            refine r_seq ?_
            refine r_region (n := 7) rfl ?_
            refine o_load (v := .agg [.v (.int .i64 r4.Letters), .v (.int .i64 r4.Numbers), .v (.int .i64 r4.Pitch), .v (.int .i64 r4.Slack), .v (.int .i64 r4.Gap), .v (.int .i64 r4.Pause), .v (.int .i64 r4.Sparks), .sl (.id (g1 + 4 + 2)) 1 (v7.map cI)]) 1 hS (by decide) rfl rfl .no (part_agg ty_agg24 (Nat.le_of_ble_eq_true rfl) rfl) ?_
            obtain ⟨r12, hr12, hM⟩ := bindE hM
            refine o_call (bs := [.agg [.v (.int .i64 r4.Letters), .v (.int .i64 r4.Numbers), .v (.int .i64 r4.Pitch), .v (.int .i64 r4.Slack), .v (.int .i64 r4.Gap), .v (.int .i64 r4.Pause), .v (.int .i64 r4.Sparks), .sl (.id (g1 + 4 + 2)) 1 (v7.map cI)]]) (by decide) rfl rfl ((W_pulses_Fewest hr12).le (.cons (.aggL (.cons (.refl _) (.cons (.refl _) (.cons (.refl _) (.cons (.refl _) (.cons (.refl _) (.cons (.refl _) (.cons (.refl _) (.cons (.sl _ _ _) .nil))))))))) .nil)) ?_
            refine o_move (v := .tup [.v (.int .i64 r12.1), .v (.int .i64 r12.2)]) (by decide) rfl ?_
            refine o_extract (v := .v (.int .i64 r12.1)) (by decide) rfl rfl ?_
            refine o_extract (v := .v (.int .i64 r12.2)) (by decide) rfl rfl ?_
            refine o_assign (v := .v (.int .i64 r12.1)) (by decide) rfl ?_
            refine o_assign (v := .v (.int .i64 r12.2)) (by decide) rfl ?_
            refine run_nil ?_
            replace hS := hS.keep (L' := []) [false, false] rfl
            refine w_next [(8, .v (.int .i64 r11.1)), (9, .v (.int .i64 r11.2)), (10, .v (.int .i64 r12.1)), (11, .v (.int .i64 r12.2))] (.cons (.refl _) (.cons (.refl _) (.cons (.refl _) (.cons (.refl _) .nil)))) ?_
            refine r_seq ?_
            refine w_join (J := Bool) (fun j => [(8, .v (.int .i64 r11.1)), (9, .v (.int .i64 r11.2)), (10, .v (.int .i64 r12.1)), (11, .v (.int .i64 r12.2)), (100, .v (.bool j))]) (fun j H' g' => St (· < g) H0 [] H' g' ∧ law13_PulsesOne_j4 n r11 r12 j = some r) ?_ ?_
            · rintro v13 H g4 ⟨hS, hM⟩
              change wpA _ _ _ _ (Fr.of [(8, .v (.int .i64 r11.1)), (9, .v (.int .i64 r11.2)), (10, .v (.int .i64 r12.1)), (11, .v (.int .i64 r12.2)), (100, .v (.bool v13))]) _ _
              replace hS : St (· < g) H0 [] H g4 := hS
              replace hM : law13_PulsesOne_j4 n r11 r12 v13 = some r := hM
              rcases Bool.eq_false_or_eq_true v13 with hb14 | hb14
              · replace hM := ifT hM hb14
                refine w_condT (e := v13) rfl hb14 ?_
                refine r_seq ?_
                refine r_region (n := 1) rfl ?_
                refine o_assign (v := .v (.bool false)) (by decide) rfl ?_
                refine run_nil ?_
                refine w_next [(4, .v (.bool false))] (.cons (.refl _) .nil) ?_
                refine r_ret ?_
                refine r_then_ret ?_
                refine w_end (x := .v (.bool false)) (f := fun r => .v (.bool r)) (.inr rfl) ?_ (.refl _) (Option.some.inj hM) hS
                exact (res_one (res_tmp (x := .v (.bool false)) rfl))
              · replace hM := ifF hM hb14
                refine w_condF (e := v13) rfl hb14 ?_
                refine r_skip ?_
                refine w_next [(8, .v (.int .i64 r11.1)), (9, .v (.int .i64 r11.2)), (10, .v (.int .i64 r12.1)), (11, .v (.int .i64 r12.2))] (.cons (.refl _) (.cons (.refl _) (.cons (.refl _) (.cons (.refl _) .nil)))) ?_
                refine w_join (J := Bool) (fun j => [(4, .v (.bool j))]) (fun j H' g' => St (· < g) H0 [] H' g' ∧ law13_PulsesOne_j5 j = some r) ?_ ?_
                · rintro v15 H g5 ⟨hS, hM⟩
                  change wpA _ _ _ _ (Fr.of [(4, .v (.bool v15))]) _ _
                  replace hS : St (· < g) H0 [] H g5 := hS
                  replace hM : law13_PulsesOne_j5 v15 = some r := hM
                  refine r_ret ?_
                  refine w_end (x := .v (.bool v15)) (f := fun r => .v (.bool r)) (.inr rfl) ?_ (.refl _) (Option.some.inj hM) hS
                  exact (res_one (res_tmp (x := .v (.bool v15)) rfl))
                · refine r_region (n := 20) rfl ?_
                  refine o_move (v := .v (.int .i64 r11.2)) (by decide) rfl ?_
                  refine o_int (v := .v (.bool (r11.2 != 0))) (by decide) rfl rfl rfl ?_
                  refine o_move (v := .v (.bool (r11.2 != 0))) (by decide) rfl ?_
                  rcases Bool.eq_false_or_eq_true (r11.2 != 0) with hb16 | hb16
                  · replace hM := ifT hM hb16
                    refine o_guardN (j := 2) (e := (r11.2 != 0)) (want := false) (by decide) rfl hb16 ?_
                    refine o_guardN (j := 2) (e := (r11.2 != 0)) (want := false) (by decide) rfl hb16 ?_
                    refine o_pickT (v := .v (.bool true)) (e := (r11.2 != 0)) (by decide) rfl hb16 rfl ?_
                    refine o_move (v := .v (.bool true)) (by decide) rfl ?_
                    refine o_guardN (j := 6) (e := true) (want := false) (by decide) rfl rfl ?_
                    refine o_guardN (j := 6) (e := true) (want := false) (by decide) rfl rfl ?_
                    refine o_guardN (j := 6) (e := true) (want := false) (by decide) rfl rfl ?_
                    refine o_guardU (j := 9) (by decide) rfl ?_
                    refine o_guardU (j := 9) (by decide) rfl ?_
                    refine o_guardU (j := 9) (by decide) rfl ?_
                    refine o_guardU (j := 9) (by decide) rfl ?_
                    refine o_guardN (j := 6) (e := true) (want := false) (by decide) rfl rfl ?_
                    refine o_pickT (v := .v (.bool true)) (e := true) (by decide) rfl rfl rfl ?_
                    refine o_move (v := .v (.bool true)) (by decide) rfl ?_
                    refine o_guardY (j := 16) (e := true) (want := true) rfl rfl ?_
                    obtain ⟨r17, hr17, hM⟩ := bindE hM
                    refine o_call (bs := []) (by decide) rfl rfl ((W_law13_works hr17).le .nil) ?_
                    refine o_pickT (v := .v (.bool r17)) (e := true) (by decide) rfl rfl rfl ?_
                    refine o_assign (v := .v (.bool r17)) (by decide) rfl ?_
                    refine run_nil ?_
                    exact w_goto r17 (.cons (.refl _) .nil) ⟨(hS.keep [] rfl).up (by omega), hM⟩
                  · replace hM := ifF hM hb16
                    refine o_guardY (j := 2) (e := (r11.2 != 0)) (want := false) rfl hb16 ?_
                    refine o_move (v := .v (.int .i64 r11.1)) (by decide) rfl ?_
                    refine o_guardY (j := 2) (e := (r11.2 != 0)) (want := false) rfl hb16 ?_
                    refine o_int (v := .v (.bool (r11.1 == 3))) (by decide) rfl rfl rfl ?_
                    refine o_pickF (v := .v (.bool (r11.1 == 3))) (e := (r11.2 != 0)) (by decide) rfl hb16 rfl ?_
                    refine o_move (v := .v (.bool (r11.1 == 3))) (by decide) rfl ?_
                    rcases Bool.eq_false_or_eq_true (r11.1 == 3) with hb18 | hb18
                    · replace hM := ifT hM hb18
                      refine o_guardN (j := 6) (e := (r11.1 == 3)) (want := false) (by decide) rfl hb18 ?_
                      refine o_guardN (j := 6) (e := (r11.1 == 3)) (want := false) (by decide) rfl hb18 ?_
                      refine o_guardN (j := 6) (e := (r11.1 == 3)) (want := false) (by decide) rfl hb18 ?_
                      refine o_guardU (j := 9) (by decide) rfl ?_
                      refine o_guardU (j := 9) (by decide) rfl ?_
                      refine o_guardU (j := 9) (by decide) rfl ?_
                      refine o_guardU (j := 9) (by decide) rfl ?_
                      refine o_guardN (j := 6) (e := (r11.1 == 3)) (want := false) (by decide) rfl hb18 ?_
                      refine o_pickT (v := .v (.bool true)) (e := (r11.1 == 3)) (by decide) rfl hb18 rfl ?_
                      refine o_move (v := .v (.bool true)) (by decide) rfl ?_
                      refine o_guardY (j := 16) (e := true) (want := true) rfl rfl ?_
                      obtain ⟨r19, hr19, hM⟩ := bindE hM
                      refine o_call (bs := []) (by decide) rfl rfl ((W_law13_works hr19).le .nil) ?_
                      refine o_pickT (v := .v (.bool r19)) (e := true) (by decide) rfl rfl rfl ?_
                      refine o_assign (v := .v (.bool r19)) (by decide) rfl ?_
                      refine run_nil ?_
                      exact w_goto r19 (.cons (.refl _) .nil) ⟨(hS.keep [] rfl).up (by omega), hM⟩
                    · replace hM := ifF hM hb18
                      refine o_guardY (j := 6) (e := (r11.1 == 3)) (want := false) rfl hb18 ?_
                      refine o_move (v := .v (.int .i64 r12.2)) (by decide) rfl ?_
                      refine o_guardY (j := 6) (e := (r11.1 == 3)) (want := false) rfl hb18 ?_
                      refine o_int (v := .v (.bool (r12.2 == 0))) (by decide) rfl rfl rfl ?_
                      refine o_guardY (j := 6) (e := (r11.1 == 3)) (want := false) rfl hb18 ?_
                      refine o_move (v := .v (.bool (r12.2 == 0))) (by decide) rfl ?_
                      rcases Bool.eq_false_or_eq_true (r12.2 == 0) with hb20 | hb20
                      · replace hM := ifT hM hb20
                        refine o_guardY (j := 9) (e := (r12.2 == 0)) (want := true) rfl hb20 ?_
                        refine o_move (v := .v (.int .i64 r12.1)) (by decide) rfl ?_
                        refine o_guardY (j := 9) (e := (r12.2 == 0)) (want := true) rfl hb20 ?_
                        refine o_move (v := .v (.int .i64 r11.1)) (by decide) rfl ?_
                        refine o_guardY (j := 9) (e := (r12.2 == 0)) (want := true) rfl hb20 ?_
                        refine o_int (v := .v (.int .i64 (w64 (r11.1 + 1)))) (by decide) rfl rfl rfl ?_
                        refine o_guardY (j := 9) (e := (r12.2 == 0)) (want := true) rfl hb20 ?_
                        refine o_int (v := .v (.bool (decide (r12.1 ≤ (w64 (r11.1 + 1)))))) (by decide) rfl rfl rfl ?_
                        refine o_guardY (j := 6) (e := (r11.1 == 3)) (want := false) rfl hb18 ?_
                        refine o_pickT (v := .v (.bool (decide (r12.1 ≤ (w64 (r11.1 + 1)))))) (e := (r12.2 == 0)) (by decide) rfl hb20 rfl ?_
                        refine o_pickF (v := .v (.bool (decide (r12.1 ≤ (w64 (r11.1 + 1)))))) (e := (r11.1 == 3)) (by decide) rfl hb18 rfl ?_
                        refine o_move (v := .v (.bool (decide (r12.1 ≤ (w64 (r11.1 + 1)))))) (by decide) rfl ?_
                        rcases Bool.eq_false_or_eq_true (decide (r12.1 ≤ (w64 (r11.1 + 1)))) with hb21 | hb21
                        · replace hM := ifT hM hb21
                          refine o_guardY (j := 16) (e := (decide (r12.1 ≤ (w64 (r11.1 + 1))))) (want := true) rfl hb21 ?_
                          obtain ⟨r22, hr22, hM⟩ := bindE hM
                          refine o_call (bs := []) (by decide) rfl rfl ((W_law13_works hr22).le .nil) ?_
                          refine o_pickT (v := .v (.bool r22)) (e := (decide (r12.1 ≤ (w64 (r11.1 + 1))))) (by decide) rfl hb21 rfl ?_
                          refine o_assign (v := .v (.bool r22)) (by decide) rfl ?_
                          refine run_nil ?_
                          exact w_goto r22 (.cons (.refl _) .nil) ⟨(hS.keep [] rfl).up (by omega), hM⟩
                        · replace hM := ifF hM hb21
                          refine o_guardN (j := 16) (e := (decide (r12.1 ≤ (w64 (r11.1 + 1))))) (want := true) (by decide) rfl hb21 ?_
                          refine o_pickF (v := .v (.bool false)) (e := (decide (r12.1 ≤ (w64 (r11.1 + 1))))) (by decide) rfl hb21 rfl ?_
                          refine o_assign (v := .v (.bool false)) (by decide) rfl ?_
                          refine run_nil ?_
                          exact w_goto false (.cons (.refl _) .nil) ⟨(hS.keep [] rfl).up (by omega), hM⟩
                      · replace hM := ifF hM hb20
                        refine o_guardN (j := 9) (e := (r12.2 == 0)) (want := true) (by decide) rfl hb20 ?_
                        refine o_guardN (j := 9) (e := (r12.2 == 0)) (want := true) (by decide) rfl hb20 ?_
                        refine o_guardN (j := 9) (e := (r12.2 == 0)) (want := true) (by decide) rfl hb20 ?_
                        refine o_guardN (j := 9) (e := (r12.2 == 0)) (want := true) (by decide) rfl hb20 ?_
                        refine o_guardY (j := 6) (e := (r11.1 == 3)) (want := false) rfl hb18 ?_
                        refine o_pickF (v := .v (.bool false)) (e := (r12.2 == 0)) (by decide) rfl hb20 rfl ?_
                        refine o_pickF (v := .v (.bool false)) (e := (r11.1 == 3)) (by decide) rfl hb18 rfl ?_
                        refine o_move (v := .v (.bool false)) (by decide) rfl ?_
                        refine o_guardN (j := 16) (e := false) (want := true) (by decide) rfl rfl ?_
                        refine o_pickF (v := .v (.bool false)) (e := false) (by decide) rfl rfl rfl ?_
                        refine o_assign (v := .v (.bool false)) (by decide) rfl ?_
                        refine run_nil ?_
                        exact w_goto false (.cons (.refl _) .nil) ⟨(hS.keep [] rfl).up (by omega), hM⟩
            · refine r_region (n := 20) rfl ?_
              refine o_move (v := .v (.int .i64 r11.2)) (by decide) rfl ?_
              obtain ⟨r23, hr23, hM⟩ := bindE hM
              refine o_call (bs := [.v (.int .i64 r11.2)]) (by decide) rfl rfl ((W_law13_isKnown hr23).le (.cons (.refl _) .nil)) ?_
              refine o_not (e := r23) (by decide) rfl ?_
              refine o_move (v := .v (.bool (!r23))) (by decide) rfl ?_
              rcases Bool.eq_false_or_eq_true (!r23) with hb24 | hb24
              · replace hM := ifT hM hb24
                refine o_guardN (j := 3) (e := (!r23)) (want := false) (by decide) rfl hb24 ?_
                refine o_guardN (j := 3) (e := (!r23)) (want := false) (by decide) rfl hb24 ?_
                refine o_guardN (j := 3) (e := (!r23)) (want := false) (by decide) rfl hb24 ?_
                refine o_pickT (v := .v (.bool true)) (e := (!r23)) (by decide) rfl hb24 rfl ?_
                refine o_move (v := .v (.bool true)) (by decide) rfl ?_
                refine o_guardN (j := 8) (e := true) (want := false) (by decide) rfl rfl ?_
                refine o_guardN (j := 8) (e := true) (want := false) (by decide) rfl rfl ?_
                refine o_pickT (v := .v (.bool true)) (e := true) (by decide) rfl rfl rfl ?_
                refine o_move (v := .v (.bool true)) (by decide) rfl ?_
                refine o_guardN (j := 12) (e := true) (want := false) (by decide) rfl rfl ?_
                refine o_guardN (j := 12) (e := true) (want := false) (by decide) rfl rfl ?_
                refine o_pickT (v := .v (.bool true)) (e := true) (by decide) rfl rfl rfl ?_
                refine o_move (v := .v (.bool true)) (by decide) rfl ?_
                refine o_guardN (j := 16) (e := true) (want := false) (by decide) rfl rfl ?_
                refine o_guardN (j := 16) (e := true) (want := false) (by decide) rfl rfl ?_
                refine o_pickT (v := .v (.bool true)) (e := true) (by decide) rfl rfl rfl ?_
                refine run_nil ?_
                exact w_goto true (.cons (.refl _) (.cons (.refl _) (.cons (.refl _) (.cons (.refl _) (.cons (.refl _) .nil))))) ⟨(hS.keep [] rfl).up (by omega), hM⟩
              · replace hM := ifF hM hb24
                refine o_guardY (j := 3) (e := (!r23)) (want := false) rfl hb24 ?_
                refine o_move (v := .v (.int .i64 r12.2)) (by decide) rfl ?_
                refine o_guardY (j := 3) (e := (!r23)) (want := false) rfl hb24 ?_
                obtain ⟨r25, hr25, hM⟩ := bindE hM
                refine o_call (bs := [.v (.int .i64 r12.2)]) (by decide) rfl rfl ((W_law13_isKnown hr25).le (.cons (.refl _) .nil)) ?_
                refine o_guardY (j := 3) (e := (!r23)) (want := false) rfl hb24 ?_
                refine o_not (e := r25) (by decide) rfl ?_
                refine o_pickF (v := .v (.bool (!r25))) (e := (!r23)) (by decide) rfl hb24 rfl ?_
                refine o_move (v := .v (.bool (!r25))) (by decide) rfl ?_
                rcases Bool.eq_false_or_eq_true (!r25) with hb26 | hb26
                · replace hM := ifT hM hb26
                  refine o_guardN (j := 8) (e := (!r25)) (want := false) (by decide) rfl hb26 ?_
                  refine o_guardN (j := 8) (e := (!r25)) (want := false) (by decide) rfl hb26 ?_
                  refine o_pickT (v := .v (.bool true)) (e := (!r25)) (by decide) rfl hb26 rfl ?_
                  refine o_move (v := .v (.bool true)) (by decide) rfl ?_
                  refine o_guardN (j := 12) (e := true) (want := false) (by decide) rfl rfl ?_
                  refine o_guardN (j := 12) (e := true) (want := false) (by decide) rfl rfl ?_
                  refine o_pickT (v := .v (.bool true)) (e := true) (by decide) rfl rfl rfl ?_
                  refine o_move (v := .v (.bool true)) (by decide) rfl ?_
                  refine o_guardN (j := 16) (e := true) (want := false) (by decide) rfl rfl ?_
                  refine o_guardN (j := 16) (e := true) (want := false) (by decide) rfl rfl ?_
                  refine o_pickT (v := .v (.bool true)) (e := true) (by decide) rfl rfl rfl ?_
                  refine run_nil ?_
                  exact w_goto true (.cons (.refl _) (.cons (.refl _) (.cons (.refl _) (.cons (.refl _) (.cons (.refl _) .nil))))) ⟨(hS.keep [] rfl).up (by omega), hM⟩
                · replace hM := ifF hM hb26
                  refine o_guardY (j := 8) (e := (!r25)) (want := false) rfl hb26 ?_
                  refine o_move (v := .v (.int .i64 r11.1)) (by decide) rfl ?_
                  refine o_guardY (j := 8) (e := (!r25)) (want := false) rfl hb26 ?_
                  refine o_int (v := .v (.bool (decide (r11.1 < 0)))) (by decide) rfl rfl rfl ?_
                  refine o_pickF (v := .v (.bool (decide (r11.1 < 0)))) (e := (!r25)) (by decide) rfl hb26 rfl ?_
                  refine o_move (v := .v (.bool (decide (r11.1 < 0)))) (by decide) rfl ?_
                  rcases Bool.eq_false_or_eq_true (decide (r11.1 < 0)) with hb27 | hb27
                  · replace hM := ifT hM hb27
                    refine o_guardN (j := 12) (e := (decide (r11.1 < 0))) (want := false) (by decide) rfl hb27 ?_
                    refine o_guardN (j := 12) (e := (decide (r11.1 < 0))) (want := false) (by decide) rfl hb27 ?_
                    refine o_pickT (v := .v (.bool true)) (e := (decide (r11.1 < 0))) (by decide) rfl hb27 rfl ?_
                    refine o_move (v := .v (.bool true)) (by decide) rfl ?_
                    refine o_guardN (j := 16) (e := true) (want := false) (by decide) rfl rfl ?_
                    refine o_guardN (j := 16) (e := true) (want := false) (by decide) rfl rfl ?_
                    refine o_pickT (v := .v (.bool true)) (e := true) (by decide) rfl rfl rfl ?_
                    refine run_nil ?_
                    exact w_goto true (.cons (.refl _) (.cons (.refl _) (.cons (.refl _) (.cons (.refl _) (.cons (.refl _) .nil))))) ⟨(hS.keep [] rfl).up (by omega), hM⟩
                  · replace hM := ifF hM hb27
                    refine o_guardY (j := 12) (e := (decide (r11.1 < 0))) (want := false) rfl hb27 ?_
                    refine o_move (v := .v (.int .i64 r12.1)) (by decide) rfl ?_
                    refine o_guardY (j := 12) (e := (decide (r11.1 < 0))) (want := false) rfl hb27 ?_
                    refine o_int (v := .v (.bool (decide (r12.1 < 0)))) (by decide) rfl rfl rfl ?_
                    refine o_pickF (v := .v (.bool (decide (r12.1 < 0)))) (e := (decide (r11.1 < 0))) (by decide) rfl hb27 rfl ?_
                    refine o_move (v := .v (.bool (decide (r12.1 < 0)))) (by decide) rfl ?_
                    rcases Bool.eq_false_or_eq_true (decide (r12.1 < 0)) with hb28 | hb28
                    · replace hM := ifT hM hb28
                      refine o_guardN (j := 16) (e := (decide (r12.1 < 0))) (want := false) (by decide) rfl hb28 ?_
                      refine o_guardN (j := 16) (e := (decide (r12.1 < 0))) (want := false) (by decide) rfl hb28 ?_
                      refine o_pickT (v := .v (.bool true)) (e := (decide (r12.1 < 0))) (by decide) rfl hb28 rfl ?_
                      refine run_nil ?_
                      exact w_goto true (.cons (.refl _) (.cons (.refl _) (.cons (.refl _) (.cons (.refl _) (.cons (.refl _) .nil))))) ⟨(hS.keep [] rfl).up (by omega), hM⟩
                    · replace hM := ifF hM hb28
                      refine o_guardY (j := 16) (e := (decide (r12.1 < 0))) (want := false) rfl hb28 ?_
                      refine o_move (v := .v (.int .i64 r11.1)) (by decide) rfl ?_
                      refine o_guardY (j := 16) (e := (decide (r12.1 < 0))) (want := false) rfl hb28 ?_
                      refine o_int (v := .v (.bool (decide (r11.1 > 3)))) (by decide) rfl rfl rfl ?_
                      refine o_pickF (v := .v (.bool (decide (r11.1 > 3)))) (e := (decide (r12.1 < 0))) (by decide) rfl hb28 rfl ?_
                      refine run_nil ?_
                      exact w_goto (decide (r11.1 > 3)) (.cons (.refl _) (.cons (.refl _) (.cons (.refl _) (.cons (.refl _) (.cons (.refl _) .nil))))) ⟨(hS.keep [] rfl).up (by omega), hM⟩
        · refine r_seq ?_
          refine r_region (n := 2) rfl ?_
          refine o_move (v := .v (.bool v5)) (by decide) rfl ?_
          refine o_not (e := v5) (by decide) rfl ?_
          refine run_nil ?_
          refine w_next [(1, .v (.int .i64 a1)), (2, .ptr (g + 0) 0), (5, .ptr (g1 + 2) 0), (60, .v (.bool (!v5)))] (.cons (.refl _) (.cons (.refl _) (.cons (.refl _) (.cons (.refl _) .nil)))) ?_
          rcases Bool.eq_false_or_eq_true (!v5) with hb29 | hb29
          · replace hM := ifT hM hb29
            refine w_condT (e := (!v5)) rfl hb29 ?_
            refine r_region (n := 7) rfl ?_
            refine o_fieldP (by decide) ty_fo24_7 rfl ?_
            refine o_load (v := .sl (.id (g1 + 4 + 2)) 1 (v6.map cI)) 1 hS (by decide) rfl rfl .no (part_one ty_agg22 ty_sc22 rfl) ?_
            refine o_move (v := .v (.int .i64 a1)) (by decide) rfl ?_
            refine o_buildSlice (es := [[.v (.int .i64 a1)]]) hS (by decide) ty_es22 ty_el22 rfl ty_ef22 rfl (by decide) (by omega) fun H hS => ?_
            obtain ⟨l30, hl30, hM⟩ := bindE hM
            refine o_append (xs := v6) (ys := ([a1] : List Int)) (zs := l30) (f := cI) (L' := [(g2 + 2 + 3, .row 3 1), (g1 + 4 + 2, .row 3 l30.length), (g1 + 2, .cells [.v (.int .i64 r4.Letters), .v (.int .i64 r4.Numbers), .v (.int .i64 r4.Pitch), .v (.int .i64 r4.Slack), .v (.int .i64 r4.Gap), .v (.int .i64 r4.Pause), .v (.int .i64 r4.Sparks), .sl (.id (g1 + 4 + 2)) 1 (v6.map cI)]), (g + 0, .cells [.v (.int .i64 a0.Letters), .v (.int .i64 a0.Numbers), .v (.int .i64 a0.Pitch), .v (.int .i64 a0.Slack), .v (.int .i64 a0.Gap), .v (.int .i64 a0.Pause), .v (.int .i64 a0.Sparks), .sl .no 1 (a0.Times.map cI)])]) 1 hS (by decide) rfl rfl rfl rfl .no ty_es22 ty_el22 ty_ef22 hl30 rfl fun H hS => ?_
            refine o_fieldP (by decide) ty_fo24_7 rfl ?_
            refine o_store (v := .sl (.id (g1 + 4 + 2)) 1 (l30.map cI)) (ns := [.sl (.id (g1 + 4 + 2)) 1 (l30.map cI)]) (L' := [(g2 + 2 + 3, .row 3 1), (g1 + 4 + 2, .row 3 l30.length), (g1 + 2, .cells [.v (.int .i64 r4.Letters), .v (.int .i64 r4.Numbers), .v (.int .i64 r4.Pitch), .v (.int .i64 r4.Slack), .v (.int .i64 r4.Gap), .v (.int .i64 r4.Pause), .v (.int .i64 r4.Sparks), .sl (.id (g1 + 4 + 2)) 1 (l30.map cI)]), (g + 0, .cells [.v (.int .i64 a0.Letters), .v (.int .i64 a0.Numbers), .v (.int .i64 a0.Pitch), .v (.int .i64 a0.Slack), .v (.int .i64 a0.Gap), .v (.int .i64 a0.Pause), .v (.int .i64 a0.Sparks), .sl .no 1 (a0.Times.map cI)])]) 2 hS rfl rfl .no rfl rfl ty_var22 (Nat.le_of_ble_eq_true rfl) rfl fun H hS => ?_
            refine run_nil ?_
            exact w_goto l30 (.cons (.refl _) (.cons (.refl _) .nil)) ⟨(hS.keep [false, true, true, true] rfl).up (by omega), hM⟩
          · replace hM := ifF hM hb29
            refine w_condF (e := (!v5)) rfl hb29 ?_
            refine r_skip ?_
            exact w_goto v6 (.cons (.refl _) (.cons (.refl _) .nil)) ⟨(hS.keep [true, true, true] rfl).up (by omega), hM⟩
      · refine r_seq ?_
        refine r_region (n := 1) rfl ?_
        refine o_assign (v := .v (.int .i64 0)) (by decide) rfl ?_
        refine run_nil ?_
        refine w_next [(1, .v (.int .i64 a1)), (2, .ptr (g + 0) 0), (5, .ptr (g1 + 2) 0), (6, .v (.bool false)), (7, .v (.int .i64 0))] (.cons (.refl _) (.cons (.refl _) (.cons (.refl _) (.cons (.refl _) (.cons (.refl _) .nil))))) ?_
        refine r_block ?_
        refine w_loop (V := Bool × Int × (List Int)) (fun v => [(1, .v (.int .i64 a1)), (2, .ptr (g + 0) 0), (5, .ptr (g1 + 2) 0), (6, .v (.bool v.1)), (7, .v (.int .i64 v.2.1))]) (fun v m7 H' g' => St (· < g) H0 [(g1 + 4 + 2, .row 3 v.2.2.length), (g1 + 2, .cells [.v (.int .i64 r4.Letters), .v (.int .i64 r4.Numbers), .v (.int .i64 r4.Pitch), .v (.int .i64 r4.Slack), .v (.int .i64 r4.Gap), .v (.int .i64 r4.Pause), .v (.int .i64 r4.Sparks), .sl (.id (g1 + 4 + 2)) 1 (v.2.2.map cI)]), (g + 0, .cells [.v (.int .i64 a0.Letters), .v (.int .i64 a0.Numbers), .v (.int .i64 a0.Pitch), .v (.int .i64 a0.Slack), .v (.int .i64 a0.Gap), .v (.int .i64 a0.Pause), .v (.int .i64 a0.Sparks), .sl .no 1 (a0.Times.map cI)])] H' g' ∧ law13_PulsesOne_l1 n a0 a1 r4 m7 v.1 v.2.1 v.2.2 = some r) (n := n) (false, 0, ([] : List Int)) (.cons (.refl _) (.cons (.refl _) (.cons (.refl _) (.cons (.refl _) (.cons (.refl _) .nil))))) ⟨(hS.keep [true, true, true] rfl).up (by omega), hM⟩ ?_
        rintro ⟨v33, v34, v35⟩ m7 H g7 ⟨hS, hM⟩
        obtain _ | m7 := m7
        · exact nomatch (show none = some _ from hM)
        change wpA _ _ _ _ (Fr.of [(1, .v (.int .i64 a1)), (2, .ptr (g + 0) 0), (5, .ptr (g1 + 2) 0), (6, .v (.bool v33)), (7, .v (.int .i64 v34))]) _ _
        replace hS : St (· < g) H0 [(g1 + 4 + 2, .row 3 v35.length), (g1 + 2, .cells [.v (.int .i64 r4.Letters), .v (.int .i64 r4.Numbers), .v (.int .i64 r4.Pitch), .v (.int .i64 r4.Slack), .v (.int .i64 r4.Gap), .v (.int .i64 r4.Pause), .v (.int .i64 r4.Sparks), .sl (.id (g1 + 4 + 2)) 1 (v35.map cI)]), (g + 0, .cells [.v (.int .i64 a0.Letters), .v (.int .i64 a0.Numbers), .v (.int .i64 a0.Pitch), .v (.int .i64 a0.Slack), .v (.int .i64 a0.Gap), .v (.int .i64 a0.Pause), .v (.int .i64 a0.Sparks), .sl .no 1 (a0.Times.map cI)])] H g7 := hS
        replace hM : law13_PulsesOne_l1_b n a0 a1 r4 (law13_PulsesOne_l1 n a0 a1 r4 m7) v33 v34 v35 = some r := hM
        refine r_seq ?_
        refine r_seq ?_
        refine r_region (n := 5) rfl ?_
        refine o_move (v := .v (.int .i64 v34)) (by decide) rfl ?_
        refine o_fieldP (by decide) ty_fo24_7 rfl ?_
        refine o_load (v := .sl .no 1 (a0.Times.map cI)) 2 hS (by decide) rfl rfl .no (part_one ty_agg22 ty_sc22 rfl) ?_
        refine o_len (n := a0.Times.length) (by decide) rfl (List.length_map _) ty_isl22 ?_
        refine o_int (v := .v (.bool (decide (v34 < (a0.Times.length : Int))))) (by decide) rfl rfl rfl ?_
        refine run_nil ?_
        refine w_next [(1, .v (.int .i64 a1)), (2, .ptr (g + 0) 0), (5, .ptr (g1 + 2) 0), (6, .v (.bool v33)), (7, .v (.int .i64 v34)), (29, .v (.bool (decide (v34 < (a0.Times.length : Int)))))] (.cons (.refl _) (.cons (.refl _) (.cons (.refl _) (.cons (.refl _) (.cons (.refl _) (.cons (.refl _) .nil)))))) ?_
        rcases Bool.eq_false_or_eq_true (decide (v34 < (a0.Times.length : Int))) with hb36 | hb36
        · replace hM := ifT hM hb36
          refine w_condT (e := (decide (v34 < (a0.Times.length : Int)))) rfl hb36 ?_
          refine r_skip ?_
          refine w_next [(1, .v (.int .i64 a1)), (2, .ptr (g + 0) 0), (5, .ptr (g1 + 2) 0), (6, .v (.bool v33)), (7, .v (.int .i64 v34))] (.cons (.refl _) (.cons (.refl _) (.cons (.refl _) (.cons (.refl _) (.cons (.refl _) .nil))))) ?_
          refine r_seq ?_
          refine r_block ?_
          refine w_join (J := Bool × (List Int)) (fun j => [(1, .v (.int .i64 a1)), (2, .ptr (g + 0) 0), (5, .ptr (g1 + 2) 0), (6, .v (.bool j.1)), (7, .v (.int .i64 v34))]) (fun j H' g' => St (· < g) H0 [(g1 + 4 + 2, .row 3 j.2.length), (g1 + 2, .cells [.v (.int .i64 r4.Letters), .v (.int .i64 r4.Numbers), .v (.int .i64 r4.Pitch), .v (.int .i64 r4.Slack), .v (.int .i64 r4.Gap), .v (.int .i64 r4.Pause), .v (.int .i64 r4.Sparks), .sl (.id (g1 + 4 + 2)) 1 (j.2.map cI)]), (g + 0, .cells [.v (.int .i64 a0.Letters), .v (.int .i64 a0.Numbers), .v (.int .i64 a0.Pitch), .v (.int .i64 a0.Slack), .v (.int .i64 a0.Gap), .v (.int .i64 a0.Pause), .v (.int .i64 a0.Sparks), .sl .no 1 (a0.Times.map cI)])] H' g' ∧ law13_PulsesOne_j6 (law13_PulsesOne_l1 n a0 a1 r4 m7) a0 v34 j.1 j.2 = some r) ?_ ?_
          · rintro ⟨v37, v38⟩ H g8 ⟨hS, hM⟩
            change wpA _ _ _ _ (Fr.of [(1, .v (.int .i64 a1)), (2, .ptr (g + 0) 0), (5, .ptr (g1 + 2) 0), (6, .v (.bool v37)), (7, .v (.int .i64 v34))]) _ _
            replace hS : St (· < g) H0 [(g1 + 4 + 2, .row 3 v38.length), (g1 + 2, .cells [.v (.int .i64 r4.Letters), .v (.int .i64 r4.Numbers), .v (.int .i64 r4.Pitch), .v (.int .i64 r4.Slack), .v (.int .i64 r4.Gap), .v (.int .i64 r4.Pause), .v (.int .i64 r4.Sparks), .sl (.id (g1 + 4 + 2)) 1 (v38.map cI)]), (g + 0, .cells [.v (.int .i64 a0.Letters), .v (.int .i64 a0.Numbers), .v (.int .i64 a0.Pitch), .v (.int .i64 a0.Slack), .v (.int .i64 a0.Gap), .v (.int .i64 a0.Pause), .v (.int .i64 a0.Sparks), .sl .no 1 (a0.Times.map cI)])] H g8 := hS
            replace hM : law13_PulsesOne_j6 (law13_PulsesOne_l1 n a0 a1 r4 m7) a0 v34 v37 v38 = some r := hM
            have hS0 := hS
            refine r_draw (n := 11) rfl (by kernel_rfl) ?_
            refine o_fieldP (by decide) ty_fo24_7 rfl ?_
            refine o_load (v := .sl (.id (g1 + 4 + 2)) 1 (v38.map cI)) 1 hS (by decide) rfl rfl (.st hS0 1 rfl (by omega)) (part_one ty_agg22 ty_sc22 rfl) ?_
            refine o_fieldP (by decide) ty_fo24_7 rfl ?_
            refine o_load (v := .sl .no 1 (a0.Times.map cI)) 2 hS (by decide) rfl rfl (.st hS0 2 rfl (by omega)) (part_one ty_agg22 ty_sc22 rfl) ?_
            refine o_move (v := .v (.int .i64 v34)) (by decide) rfl ?_
            obtain ⟨x39, hx39, hM⟩ := bindE hM
            refine o_index (xs := a0.Times) (f := cI) (z := v34) (u := x39) (by decide) rfl rfl ty_es22 hx39 ?_
            refine o_loadE (v := .v (.int .i64 x39)) (by decide) rfl (part_one ty_agg3 ty_sc3 rfl) ?_
            refine o_buildSlice (es := [[.v (.int .i64 x39)]]) hS (by decide) ty_es22 ty_el22 rfl ty_ef22 rfl (by decide) (by omega) fun H hS => ?_
            obtain ⟨l40, hl40, hM⟩ := bindE hM
            refine o_append (xs := v38) (ys := ([x39] : List Int)) (zs := l40) (f := cI) (L' := [(g8 + 7, .row 3 1), (g1 + 4 + 2, .row 3 l40.length), (g1 + 2, .cells [.v (.int .i64 r4.Letters), .v (.int .i64 r4.Numbers), .v (.int .i64 r4.Pitch), .v (.int .i64 r4.Slack), .v (.int .i64 r4.Gap), .v (.int .i64 r4.Pause), .v (.int .i64 r4.Sparks), .sl (.id (g1 + 4 + 2)) 1 (v38.map cI)]), (g + 0, .cells [.v (.int .i64 a0.Letters), .v (.int .i64 a0.Numbers), .v (.int .i64 a0.Pitch), .v (.int .i64 a0.Slack), .v (.int .i64 a0.Gap), .v (.int .i64 a0.Pause), .v (.int .i64 a0.Sparks), .sl .no 1 (a0.Times.map cI)])]) 1 hS (by decide) rfl rfl rfl rfl (.st hS0 0 rfl (by omega)) ty_es22 ty_el22 ty_ef22 hl40 rfl fun H hS => ?_
            refine o_fieldP (by decide) ty_fo24_7 rfl ?_
            refine o_store (v := .sl (.id (g1 + 4 + 2)) 1 (l40.map cI)) (ns := [.sl (.id (g1 + 4 + 2)) 1 (l40.map cI)]) (L' := [(g8 + 7, .row 3 1), (g1 + 4 + 2, .row 3 l40.length), (g1 + 2, .cells [.v (.int .i64 r4.Letters), .v (.int .i64 r4.Numbers), .v (.int .i64 r4.Pitch), .v (.int .i64 r4.Slack), .v (.int .i64 r4.Gap), .v (.int .i64 r4.Pause), .v (.int .i64 r4.Sparks), .sl (.id (g1 + 4 + 2)) 1 (l40.map cI)]), (g + 0, .cells [.v (.int .i64 a0.Letters), .v (.int .i64 a0.Numbers), .v (.int .i64 a0.Pitch), .v (.int .i64 a0.Slack), .v (.int .i64 a0.Gap), .v (.int .i64 a0.Pause), .v (.int .i64 a0.Sparks), .sl .no 1 (a0.Times.map cI)])]) 2 hS rfl rfl (.st hS0 1 rfl (by omega)) rfl rfl ty_var22 (Nat.le_of_ble_eq_true rfl) rfl fun H hS => ?_
            refine run_nil ?_
            refine r_blk_normal ?_
            replace hS := hS.keep (L' := [(g1 + 4 + 2, .row 3 l40.length), (g1 + 2, .cells [.v (.int .i64 r4.Letters), .v (.int .i64 r4.Numbers), .v (.int .i64 r4.Pitch), .v (.int .i64 r4.Slack), .v (.int .i64 r4.Gap), .v (.int .i64 r4.Pause), .v (.int .i64 r4.Sparks), .sl (.id (g1 + 4 + 2)) 1 (l40.map cI)]), (g + 0, .cells [.v (.int .i64 a0.Letters), .v (.int .i64 a0.Numbers), .v (.int .i64 a0.Pitch), .v (.int .i64 a0.Slack), .v (.int .i64 a0.Gap), .v (.int .i64 a0.Pause), .v (.int .i64 a0.Sparks), .sl .no 1 (a0.Times.map cI)])]) [false, true, true, true] rfl
            refine w_next [(1, .v (.int .i64 a1)), (2, .ptr (g + 0) 0), (5, .ptr (g1 + 2) 0), (6, .v (.bool v37)), (7, .v (.int .i64 v34))] (.cons (.refl _) (.cons (.refl _) (.cons (.refl _) (.cons (.refl _) (.cons (.refl _) .nil))))) ?_
            refine r_region (n := 3) rfl ?_
            refine o_move (v := .v (.int .i64 v34)) (by decide) rfl ?_
            refine o_int (v := .v (.int .i64 (w64 (v34 + 1)))) (by decide) rfl rfl rfl ?_
            refine o_assign (v := .v (.int .i64 (w64 (v34 + 1)))) (by decide) rfl ?_
            refine run_nil ?_
            exact w_round (v37, w64 (v34 + 1), l40) (Nat.lt_succ_self _) (.cons (.refl _) (.cons (.refl _) (.cons (.refl _) (.cons (.refl _) (.cons (.refl _) .nil))))) ⟨(hS.keep [true, true, true] rfl).up (by omega), hM⟩
          · refine w_join (J := Bool) (fun j => [(1, .v (.int .i64 a1)), (2, .ptr (g + 0) 0), (5, .ptr (g1 + 2) 0), (6, .v (.bool v33)), (7, .v (.int .i64 v34)), (42, .v (.bool j))]) (fun j H' g' => St (· < g) H0 [(g1 + 4 + 2, .row 3 v35.length), (g1 + 2, .cells [.v (.int .i64 r4.Letters), .v (.int .i64 r4.Numbers), .v (.int .i64 r4.Pitch), .v (.int .i64 r4.Slack), .v (.int .i64 r4.Gap), .v (.int .i64 r4.Pause), .v (.int .i64 r4.Sparks), .sl (.id (g1 + 4 + 2)) 1 (v35.map cI)]), (g + 0, .cells [.v (.int .i64 a0.Letters), .v (.int .i64 a0.Numbers), .v (.int .i64 a0.Pitch), .v (.int .i64 a0.Slack), .v (.int .i64 a0.Gap), .v (.int .i64 a0.Pause), .v (.int .i64 a0.Sparks), .sl .no 1 (a0.Times.map cI)])] H' g' ∧ law13_PulsesOne_j7 (law13_PulsesOne_l1 n a0 a1 r4 m7) a0 a1 v33 v34 v35 j = some r) ?_ ?_
            · rintro v41 H g9 ⟨hS, hM⟩
              change wpA _ _ _ _ (Fr.of [(1, .v (.int .i64 a1)), (2, .ptr (g + 0) 0), (5, .ptr (g1 + 2) 0), (6, .v (.bool v33)), (7, .v (.int .i64 v34)), (42, .v (.bool v41))]) _ _
              replace hS : St (· < g) H0 [(g1 + 4 + 2, .row 3 v35.length), (g1 + 2, .cells [.v (.int .i64 r4.Letters), .v (.int .i64 r4.Numbers), .v (.int .i64 r4.Pitch), .v (.int .i64 r4.Slack), .v (.int .i64 r4.Gap), .v (.int .i64 r4.Pause), .v (.int .i64 r4.Sparks), .sl (.id (g1 + 4 + 2)) 1 (v35.map cI)]), (g + 0, .cells [.v (.int .i64 a0.Letters), .v (.int .i64 a0.Numbers), .v (.int .i64 a0.Pitch), .v (.int .i64 a0.Slack), .v (.int .i64 a0.Gap), .v (.int .i64 a0.Pause), .v (.int .i64 a0.Sparks), .sl .no 1 (a0.Times.map cI)])] H g9 := hS
              replace hM : law13_PulsesOne_j7 (law13_PulsesOne_l1 n a0 a1 r4 m7) a0 a1 v33 v34 v35 v41 = some r := hM
              rcases Bool.eq_false_or_eq_true v41 with hb42 | hb42
              · replace hM := ifT hM hb42
                refine w_condT (e := v41) rfl hb42 ?_
                refine r_region (n := 8) rfl ?_
                refine o_fieldP (by decide) ty_fo24_7 rfl ?_
                refine o_load (v := .sl (.id (g1 + 4 + 2)) 1 (v35.map cI)) 1 hS (by decide) rfl rfl .no (part_one ty_agg22 ty_sc22 rfl) ?_
                refine o_move (v := .v (.int .i64 a1)) (by decide) rfl ?_
                refine o_buildSlice (es := [[.v (.int .i64 a1)]]) hS (by decide) ty_es22 ty_el22 rfl ty_ef22 rfl (by decide) (by omega) fun H hS => ?_
                obtain ⟨l43, hl43, hM⟩ := bindE hM
                refine o_append (xs := v35) (ys := ([a1] : List Int)) (zs := l43) (f := cI) (L' := [(g9 + 3, .row 3 1), (g1 + 4 + 2, .row 3 l43.length), (g1 + 2, .cells [.v (.int .i64 r4.Letters), .v (.int .i64 r4.Numbers), .v (.int .i64 r4.Pitch), .v (.int .i64 r4.Slack), .v (.int .i64 r4.Gap), .v (.int .i64 r4.Pause), .v (.int .i64 r4.Sparks), .sl (.id (g1 + 4 + 2)) 1 (v35.map cI)]), (g + 0, .cells [.v (.int .i64 a0.Letters), .v (.int .i64 a0.Numbers), .v (.int .i64 a0.Pitch), .v (.int .i64 a0.Slack), .v (.int .i64 a0.Gap), .v (.int .i64 a0.Pause), .v (.int .i64 a0.Sparks), .sl .no 1 (a0.Times.map cI)])]) 1 hS (by decide) rfl rfl rfl rfl .no ty_es22 ty_el22 ty_ef22 hl43 rfl fun H hS => ?_
                refine o_fieldP (by decide) ty_fo24_7 rfl ?_
                refine o_store (v := .sl (.id (g1 + 4 + 2)) 1 (l43.map cI)) (ns := [.sl (.id (g1 + 4 + 2)) 1 (l43.map cI)]) (L' := [(g9 + 3, .row 3 1), (g1 + 4 + 2, .row 3 l43.length), (g1 + 2, .cells [.v (.int .i64 r4.Letters), .v (.int .i64 r4.Numbers), .v (.int .i64 r4.Pitch), .v (.int .i64 r4.Slack), .v (.int .i64 r4.Gap), .v (.int .i64 r4.Pause), .v (.int .i64 r4.Sparks), .sl (.id (g1 + 4 + 2)) 1 (l43.map cI)]), (g + 0, .cells [.v (.int .i64 a0.Letters), .v (.int .i64 a0.Numbers), .v (.int .i64 a0.Pitch), .v (.int .i64 a0.Slack), .v (.int .i64 a0.Gap), .v (.int .i64 a0.Pause), .v (.int .i64 a0.Sparks), .sl .no 1 (a0.Times.map cI)])]) 2 hS rfl rfl .no rfl rfl ty_var22 (Nat.le_of_ble_eq_true rfl) rfl fun H hS => ?_
                refine o_assign (v := .v (.bool true)) (by decide) rfl ?_
                refine run_nil ?_
                exact w_goto (true, l43) (.cons (.refl _) (.cons (.refl _) (.cons (.refl _) (.cons (.refl _) (.cons (.refl _) .nil))))) ⟨(hS.keep [false, true, true, true] rfl).up (by omega), hM⟩
              · replace hM := ifF hM hb42
                refine w_condF (e := v41) rfl hb42 ?_
                refine r_skip ?_
                exact w_goto (v33, v35) (.cons (.refl _) (.cons (.refl _) (.cons (.refl _) (.cons (.refl _) (.cons (.refl _) .nil))))) ⟨(hS.keep [true, true, true] rfl).up (by omega), hM⟩
            · refine r_region (n := 11) rfl ?_
              refine o_move (v := .v (.bool v33)) (by decide) rfl ?_
              refine o_not (e := v33) (by decide) rfl ?_
              refine o_move (v := .v (.bool (!v33))) (by decide) rfl ?_
              rcases Bool.eq_false_or_eq_true (!v33) with hb44 | hb44
              · replace hM := ifT hM hb44
                refine o_guardY (j := 2) (e := (!v33)) (want := true) rfl hb44 ?_
                refine o_fieldP (by decide) ty_fo24_7 rfl ?_
                refine o_guardY (j := 2) (e := (!v33)) (want := true) rfl hb44 ?_
                refine o_load (v := .sl .no 1 (a0.Times.map cI)) 2 hS (by decide) rfl rfl .no (part_one ty_agg22 ty_sc22 rfl) ?_
                refine o_guardY (j := 2) (e := (!v33)) (want := true) rfl hb44 ?_
                refine o_move (v := .v (.int .i64 v34)) (by decide) rfl ?_
                refine o_guardY (j := 2) (e := (!v33)) (want := true) rfl hb44 ?_
                obtain ⟨x45, hx45, hM⟩ := bindE hM
                refine o_index (xs := a0.Times) (f := cI) (z := v34) (u := x45) (by decide) rfl rfl ty_es22 hx45 ?_
                refine o_guardY (j := 2) (e := (!v33)) (want := true) rfl hb44 ?_
                refine o_loadE (v := .v (.int .i64 x45)) (by decide) rfl (part_one ty_agg3 ty_sc3 rfl) ?_
                refine o_guardY (j := 2) (e := (!v33)) (want := true) rfl hb44 ?_
                refine o_move (v := .v (.int .i64 a1)) (by decide) rfl ?_
                refine o_guardY (j := 2) (e := (!v33)) (want := true) rfl hb44 ?_
                refine o_int (v := .v (.bool (decide (x45 > a1)))) (by decide) rfl rfl rfl ?_
                refine o_pickT (v := .v (.bool (decide (x45 > a1)))) (e := (!v33)) (by decide) rfl hb44 rfl ?_
                refine run_nil ?_
                exact w_goto (decide (x45 > a1)) (.cons (.refl _) (.cons (.refl _) (.cons (.refl _) (.cons (.refl _) (.cons (.refl _) (.cons (.refl _) .nil)))))) ⟨(hS.keep [true, true, true] rfl).up (by omega), hM⟩
              · replace hM := ifF hM hb44
                refine o_guardN (j := 2) (e := (!v33)) (want := true) (by decide) rfl hb44 ?_
                refine o_guardN (j := 2) (e := (!v33)) (want := true) (by decide) rfl hb44 ?_
                refine o_guardN (j := 2) (e := (!v33)) (want := true) (by decide) rfl hb44 ?_
                refine o_guardN (j := 2) (e := (!v33)) (want := true) (by decide) rfl hb44 ?_
                refine o_guardN (j := 2) (e := (!v33)) (want := true) (by decide) rfl hb44 ?_
                refine o_guardN (j := 2) (e := (!v33)) (want := true) (by decide) rfl hb44 ?_
                refine o_guardN (j := 2) (e := (!v33)) (want := true) (by decide) rfl hb44 ?_
                refine o_pickF (v := .v (.bool false)) (e := (!v33)) (by decide) rfl hb44 rfl ?_
                refine run_nil ?_
                exact w_goto false (.cons (.refl _) (.cons (.refl _) (.cons (.refl _) (.cons (.refl _) (.cons (.refl _) (.cons (.refl _) .nil)))))) ⟨(hS.keep [true, true, true] rfl).up (by omega), hM⟩
        · replace hM := ifF hM hb36
          refine w_condF (e := (decide (v34 < (a0.Times.length : Int)))) rfl hb36 ?_
          refine r_exit ?_
          refine r_then_exit ?_
          refine w_round_exit ?_
          refine r_blk_exit ?_
          exact w_goto (v33, v35) (.cons (.refl _) (.cons (.refl _) (.cons (.refl _) (.cons (.refl _) .nil)))) ⟨(hS.keep [true, true, true] rfl).up (by omega), hM⟩
  · refine r_region (n := 9) rfl ?_
    refine o_load (v := .agg [.v (.int .i64 a0.Letters), .v (.int .i64 a0.Numbers), .v (.int .i64 a0.Pitch), .v (.int .i64 a0.Slack), .v (.int .i64 a0.Gap), .v (.int .i64 a0.Pause), .v (.int .i64 a0.Sparks), .sl .no 1 (a0.Times.map cI)]) 0 hS (by decide) rfl rfl .no (part_agg ty_agg24 (Nat.le_of_ble_eq_true rfl) rfl) ?_
    obtain ⟨r46, hr46, hM⟩ := bindE hM
    refine o_call (bs := [.agg [.v (.int .i64 a0.Letters), .v (.int .i64 a0.Numbers), .v (.int .i64 a0.Pitch), .v (.int .i64 a0.Slack), .v (.int .i64 a0.Gap), .v (.int .i64 a0.Pause), .v (.int .i64 a0.Sparks), .sl .no 1 (a0.Times.map cI)]]) (by decide) rfl rfl ((W_law13_ready hr46).le (.cons (.refl _) .nil)) ?_
    refine o_not (e := r46) (by decide) rfl ?_
    refine o_move (v := .v (.bool (!r46))) (by decide) rfl ?_
    rcases Bool.eq_false_or_eq_true (!r46) with hb47 | hb47
    · replace hM := ifT hM hb47
      refine o_guardN (j := 3) (e := (!r46)) (want := false) (by decide) rfl hb47 ?_
      refine o_guardN (j := 3) (e := (!r46)) (want := false) (by decide) rfl hb47 ?_
      refine o_guardN (j := 3) (e := (!r46)) (want := false) (by decide) rfl hb47 ?_
      refine o_guardN (j := 3) (e := (!r46)) (want := false) (by decide) rfl hb47 ?_
      refine o_pickT (v := .v (.bool true)) (e := (!r46)) (by decide) rfl hb47 rfl ?_
      refine run_nil ?_
      exact w_goto true (.cons (.refl _) (.cons (.refl _) (.cons (.refl _) .nil))) ⟨(hS.keep [true] rfl).up (by omega), hM⟩
    · replace hM := ifF hM hb47
      refine o_guardY (j := 3) (e := (!r46)) (want := false) rfl hb47 ?_
      refine o_fieldP (by decide) ty_fo24_7 rfl ?_
      refine o_guardY (j := 3) (e := (!r46)) (want := false) rfl hb47 ?_
      refine o_load (v := .sl .no 1 (a0.Times.map cI)) 0 hS (by decide) rfl rfl .no (part_one ty_agg22 ty_sc22 rfl) ?_
      refine o_guardY (j := 3) (e := (!r46)) (want := false) rfl hb47 ?_
      refine o_move (v := .v (.int .i64 a1)) (by decide) rfl ?_
      refine o_guardY (j := 3) (e := (!r46)) (want := false) rfl hb47 ?_
      obtain ⟨r48, hr48, hM⟩ := bindE hM
      refine o_call (bs := [.sl .no 1 (a0.Times.map cI), .v (.int .i64 a1)]) (by decide) rfl rfl ((W_ref01_In hr48).le (.cons (.refl _) (.cons (.refl _) .nil))) ?_
      refine o_pickF (v := .v (.bool r48)) (e := (!r46)) (by decide) rfl hb47 rfl ?_
      refine run_nil ?_
      exact w_goto r48 (.cons (.refl _) (.cons (.refl _) (.cons (.refl _) .nil))) ⟨(hS.keep [true] rfl).up (by omega), hM⟩
end Go.Proofs.Ytekplngjaddccaa
