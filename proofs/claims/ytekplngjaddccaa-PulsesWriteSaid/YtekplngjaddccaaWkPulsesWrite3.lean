/-
  The code returns what the functions say (printed by gen.py).
  Conditions: none.
-/
import Derived.Test.YtekplngjaddccaaWkPulsesWrite2
set_option linter.all false
namespace Go.Proofs.Ytekplngjaddccaa
open Go Go.AM Go.Law
set_option linter.unusedVariables false
set_option maxRecDepth 4000
set_option maxHeartbeats 4000000
theorem W_law13_PulsesWrite {n : Nat} {a0 : Pulse} {a1 : List Int} {a2 : Int} {r : Bool} (hM : law13_PulsesWrite n a0 a1 a2 = some r) : PureSat Try.prog 3 [.agg [.v (.int .i64 a0.Letters), .v (.int .i64 a0.Numbers), .v (.int .i64 a0.Pitch), .v (.int .i64 a0.Slack), .v (.int .i64 a0.Gap), .v (.int .i64 a0.Pause), .v (.int .i64 a0.Sparks), .sl .no 1 (a0.Times.map cI)], .sl .no 1 (a1.map cI), .v (.int .i64 a2)] (.v (.bool r)) := by
  refine pure_of_wp mixed Try.func3 rfl (by decide) Try.ntmps3 (by simp) ?pure fun H0 g hf => ?_
  case pure => exact .v _
  rw [frame0_of]
  change wpA _ _ _ _ (Fr.of [(0, .agg [.v (.int .i64 a0.Letters), .v (.int .i64 a0.Numbers), .v (.int .i64 a0.Pitch), .v (.int .i64 a0.Slack), .v (.int .i64 a0.Gap), .v (.int .i64 a0.Pause), .v (.int .i64 a0.Sparks), .sl .no 1 (a0.Times.map cI)]), (1, .sl .no 1 (a1.map cI)), (2, .v (.int .i64 a2))]) H0 g
  have hS := St.start hf
  refine r_seq ?_
  refine r_region (n := 2) rfl ?_
  refine o_box (v := .agg [.v (.int .i64 a0.Letters), .v (.int .i64 a0.Numbers), .v (.int .i64 a0.Pitch), .v (.int .i64 a0.Slack), .v (.int .i64 a0.Gap), .v (.int .i64 a0.Pause), .v (.int .i64 a0.Sparks), .sl .no 1 (a0.Times.map cI)]) (cs := [.v (.int .i64 a0.Letters), .v (.int .i64 a0.Numbers), .v (.int .i64 a0.Pitch), .v (.int .i64 a0.Slack), .v (.int .i64 a0.Gap), .v (.int .i64 a0.Pause), .v (.int .i64 a0.Sparks), .sl .no 1 (a0.Times.map cI)]) hS (by decide) rfl rfl (by omega) fun H hS => ?_
  refine o_assign (v := .v (.bool false)) (by decide) rfl ?_
  refine run_nil ?_
  refine w_next [(1, .sl .no 1 (a1.map cI)), (2, .v (.int .i64 a2)), (3, .ptr (g + 0) 0)] (.cons (.refl _) (.cons (.refl _) (.cons (.refl _) .nil))) ?_
  refine r_seq ?_
  refine w_join (J := Bool) (fun j => [(1, .sl .no 1 (a1.map cI)), (2, .v (.int .i64 a2)), (3, .ptr (g + 0) 0), (21, .v (.bool j))]) (fun j H' g' => St (· < g) H0 [(g + 0, .cells [.v (.int .i64 a0.Letters), .v (.int .i64 a0.Numbers), .v (.int .i64 a0.Pitch), .v (.int .i64 a0.Slack), .v (.int .i64 a0.Gap), .v (.int .i64 a0.Pause), .v (.int .i64 a0.Sparks), .sl .no 1 (a0.Times.map cI)])] H' g' ∧ law13_PulsesWrite_j1 n a0 a1 a2 j = some r) ?_ ?_
  · rintro v1 H g1 ⟨hS, hM⟩
    change wpA _ _ _ _ (Fr.of [(1, .sl .no 1 (a1.map cI)), (2, .v (.int .i64 a2)), (3, .ptr (g + 0) 0), (21, .v (.bool v1))]) _ _
    replace hS : St (· < g) H0 [(g + 0, .cells [.v (.int .i64 a0.Letters), .v (.int .i64 a0.Numbers), .v (.int .i64 a0.Pitch), .v (.int .i64 a0.Slack), .v (.int .i64 a0.Gap), .v (.int .i64 a0.Pause), .v (.int .i64 a0.Sparks), .sl .no 1 (a0.Times.map cI)])] H g1 := hS
    replace hM : law13_PulsesWrite_j1 n a0 a1 a2 v1 = some r := hM
    rcases Bool.eq_false_or_eq_true v1 with hb2 | hb2
    · replace hM := ifT hM hb2
      refine w_condT (e := v1) rfl hb2 ?_
      refine r_seq ?_
      refine r_region (n := 2) rfl ?_
      obtain ⟨r3, hr3, hM⟩ := bindE hM
      refine o_call (bs := []) (by decide) rfl rfl ((W_law13_works hr3).le .nil) ?_
      refine o_assign (v := .v (.bool r3)) (by decide) rfl ?_
      refine run_nil ?_
      replace hS := hS.keep (L' := []) [false] rfl
      refine w_next [(6, .v (.bool r3))] (.cons (.refl _) .nil) ?_
      refine r_ret ?_
      refine r_then_ret ?_
      refine w_end (x := .v (.bool r3)) (f := fun r => .v (.bool r)) (.inr rfl) ?_ (.refl _) (Option.some.inj hM) hS
      exact (res_one (res_tmp (x := .v (.bool r3)) rfl))
    · replace hM := ifF hM hb2
      refine w_condF (e := v1) rfl hb2 ?_
      refine r_skip ?_
      refine w_next [(1, .sl .no 1 (a1.map cI)), (2, .v (.int .i64 a2)), (3, .ptr (g + 0) 0)] (.cons (.refl _) (.cons (.refl _) (.cons (.refl _) .nil))) ?_
      refine r_seq ?_
      refine r_region (n := 8) rfl ?_
      refine o_load (v := .agg [.v (.int .i64 a0.Letters), .v (.int .i64 a0.Numbers), .v (.int .i64 a0.Pitch), .v (.int .i64 a0.Slack), .v (.int .i64 a0.Gap), .v (.int .i64 a0.Pause), .v (.int .i64 a0.Sparks), .sl .no 1 (a0.Times.map cI)]) 0 hS (by decide) rfl rfl .no (part_agg ty_agg24 (Nat.le_of_ble_eq_true rfl) rfl) ?_
      obtain ⟨r4, hr4, hM⟩ := bindE hM
      refine o_call (bs := [.agg [.v (.int .i64 a0.Letters), .v (.int .i64 a0.Numbers), .v (.int .i64 a0.Pitch), .v (.int .i64 a0.Slack), .v (.int .i64 a0.Gap), .v (.int .i64 a0.Pause), .v (.int .i64 a0.Sparks), .sl .no 1 (a0.Times.map cI)]]) (by decide) rfl rfl ((W_ref13_Copy hr4).le (.cons (.refl _) .nil)) ?_
      refine o_buildSlice (es := []) hS (by decide) ty_es22 ty_el22 rfl ty_ef22 rfl (by decide) (by omega) fun H hS => ?_
      refine o_move (v := .sl .no 1 (a1.map cI)) (by decide) rfl ?_
      obtain ⟨l5, hl5, hM⟩ := bindE hM
      refine o_append (xs := ([] : List Int)) (ys := a1) (zs := l5) (f := cI) (L' := [(g1 + 2, .row 3 l5.length), (g + 0, .cells [.v (.int .i64 a0.Letters), .v (.int .i64 a0.Numbers), .v (.int .i64 a0.Pitch), .v (.int .i64 a0.Slack), .v (.int .i64 a0.Gap), .v (.int .i64 a0.Pause), .v (.int .i64 a0.Sparks), .sl .no 1 (a0.Times.map cI)])]) 0 hS (by decide) rfl rfl rfl rfl .no ty_es22 ty_el22 ty_ef22 hl5 rfl fun H hS => ?_
      refine o_alloc hS (by decide) ty_zero24 (by omega) fun H hS => ?_
      refine o_store (v := .agg [.v (.int .i64 r4.Letters), .v (.int .i64 r4.Numbers), .v (.int .i64 r4.Pitch), .v (.int .i64 r4.Slack), .v (.int .i64 r4.Gap), .v (.int .i64 r4.Pause), .v (.int .i64 r4.Sparks), .sl .no 1 (r4.Times.map cI)]) (ns := [.v (.int .i64 r4.Letters), .v (.int .i64 r4.Numbers), .v (.int .i64 r4.Pitch), .v (.int .i64 r4.Slack), .v (.int .i64 r4.Gap), .v (.int .i64 r4.Pause), .v (.int .i64 r4.Sparks), .sl .no 1 (r4.Times.map cI)]) (L' := [(g1 + 5, .cells [.v (.int .i64 r4.Letters), .v (.int .i64 r4.Numbers), .v (.int .i64 r4.Pitch), .v (.int .i64 r4.Slack), .v (.int .i64 r4.Gap), .v (.int .i64 r4.Pause), .v (.int .i64 r4.Sparks), .sl .no 1 (r4.Times.map cI)]), (g1 + 2, .row 3 l5.length), (g + 0, .cells [.v (.int .i64 a0.Letters), .v (.int .i64 a0.Numbers), .v (.int .i64 a0.Pitch), .v (.int .i64 a0.Slack), .v (.int .i64 a0.Gap), .v (.int .i64 a0.Pause), .v (.int .i64 a0.Sparks), .sl .no 1 (a0.Times.map cI)])]) 0 hS rfl rfl .no rfl rfl ty_var24 (Nat.le_of_ble_eq_true rfl) rfl fun H hS => ?_
      refine o_assign (v := .sl (.id (g1 + 2)) 1 (l5.map cI)) (by decide) rfl ?_
      refine run_nil ?_
      refine w_next [(1, .sl .no 1 (a1.map cI)), (2, .v (.int .i64 a2)), (3, .ptr (g + 0) 0), (7, .ptr (g1 + 5) 0), (8, .sl (.id (g1 + 2)) 1 (l5.map cI))] (.cons (.refl _) (.cons (.refl _) (.cons (.refl _) (.cons (.refl _) (.cons (.refl _) .nil))))) ?_
      refine r_seq ?_
      refine r_seq ?_
      have hS0 := hS
      refine r_draw (n := 5) rfl (by kernel_rfl) ?_
      refine o_load (v := .agg [.v (.int .i64 r4.Letters), .v (.int .i64 r4.Numbers), .v (.int .i64 r4.Pitch), .v (.int .i64 r4.Slack), .v (.int .i64 r4.Gap), .v (.int .i64 r4.Pause), .v (.int .i64 r4.Sparks), .sl .no 1 (r4.Times.map cI)]) 0 hS (by decide) rfl rfl (.st hS0 0 rfl (by omega)) (part_agg ty_agg24 (Nat.le_of_ble_eq_true rfl) rfl) ?_
      obtain ⟨r6, hr6, hM⟩ := bindE hM
      refine o_call (bs := [.agg [.v (.int .i64 r4.Letters), .v (.int .i64 r4.Numbers), .v (.int .i64 r4.Pitch), .v (.int .i64 r4.Slack), .v (.int .i64 r4.Gap), .v (.int .i64 r4.Pause), .v (.int .i64 r4.Sparks), .sl .no 1 (r4.Times.map cI)]]) (by decide) rfl rfl ((W_pulses_Check hr6).le (.cons (.refl _) .nil)) ?_
      refine o_load (v := .agg [.v (.int .i64 a0.Letters), .v (.int .i64 a0.Numbers), .v (.int .i64 a0.Pitch), .v (.int .i64 a0.Slack), .v (.int .i64 a0.Gap), .v (.int .i64 a0.Pause), .v (.int .i64 a0.Sparks), .sl .no 1 (a0.Times.map cI)]) 2 hS (by decide) rfl rfl (.st hS0 2 rfl (by omega)) (part_agg ty_agg24 (Nat.le_of_ble_eq_true rfl) rfl) ?_
      obtain ⟨r7, hr7, hM⟩ := bindE hM
      refine o_call (bs := [.agg [.v (.int .i64 a0.Letters), .v (.int .i64 a0.Numbers), .v (.int .i64 a0.Pitch), .v (.int .i64 a0.Slack), .v (.int .i64 a0.Gap), .v (.int .i64 a0.Pause), .v (.int .i64 a0.Sparks), .sl .no 1 (a0.Times.map cI)]]) (by decide) rfl rfl ((W_ref13_Check hr7).le (.cons (.refl _) .nil)) ?_
      refine o_int (v := .v (.bool (r6 != r7))) (by decide) rfl rfl rfl ?_
      refine run_nil ?_
      refine w_next [(1, .sl .no 1 (a1.map cI)), (2, .v (.int .i64 a2)), (3, .ptr (g + 0) 0), (7, .ptr (g1 + 5) 0), (8, .sl (.id (g1 + 2)) 1 (l5.map cI)), (32, .v (.bool (r6 != r7)))] (.cons (.refl _) (.cons (.refl _) (.cons (.refl _) (.cons (.refl _) (.cons (.refl _) (.cons (.refl _) .nil)))))) ?_
      rcases Bool.eq_false_or_eq_true (r6 != r7) with hb8 | hb8
      · replace hM := ifT hM hb8
        refine w_condT (e := (r6 != r7)) rfl hb8 ?_
        refine r_seq ?_
        refine r_region (n := 1) rfl ?_
        refine o_assign (v := .v (.bool false)) (by decide) rfl ?_
        refine run_nil ?_
        replace hS := hS.keep (L' := []) [false, false, false] rfl
        refine w_next [(6, .v (.bool false))] (.cons (.refl _) .nil) ?_
        refine r_ret ?_
        refine r_then_ret ?_
        refine w_end (x := .v (.bool false)) (f := fun r => .v (.bool r)) (.inr rfl) ?_ (.refl _) (Option.some.inj hM) hS
        exact (res_one (res_tmp (x := .v (.bool false)) rfl))
      · replace hM := ifF hM hb8
        refine w_condF (e := (r6 != r7)) rfl hb8 ?_
        refine r_skip ?_
        refine w_next [(1, .sl .no 1 (a1.map cI)), (2, .v (.int .i64 a2)), (3, .ptr (g + 0) 0), (7, .ptr (g1 + 5) 0), (8, .sl (.id (g1 + 2)) 1 (l5.map cI))] (.cons (.refl _) (.cons (.refl _) (.cons (.refl _) (.cons (.refl _) (.cons (.refl _) .nil))))) ?_
        refine r_seq ?_
        refine r_region (n := 9) rfl ?_
        refine o_load (v := .agg [.v (.int .i64 r4.Letters), .v (.int .i64 r4.Numbers), .v (.int .i64 r4.Pitch), .v (.int .i64 r4.Slack), .v (.int .i64 r4.Gap), .v (.int .i64 r4.Pause), .v (.int .i64 r4.Sparks), .sl .no 1 (r4.Times.map cI)]) 0 hS (by decide) rfl rfl .no (part_agg ty_agg24 (Nat.le_of_ble_eq_true rfl) rfl) ?_
        refine o_move (v := .sl (.id (g1 + 2)) 1 (l5.map cI)) (by decide) rfl ?_
        refine o_move (v := .v (.int .i64 a2)) (by decide) rfl ?_
        obtain ⟨r9, hr9, hM⟩ := bindE hM
        refine o_call (bs := [.agg [.v (.int .i64 r4.Letters), .v (.int .i64 r4.Numbers), .v (.int .i64 r4.Pitch), .v (.int .i64 r4.Slack), .v (.int .i64 r4.Gap), .v (.int .i64 r4.Pause), .v (.int .i64 r4.Sparks), .sl .no 1 (r4.Times.map cI)], .sl (.id (g1 + 2)) 1 (l5.map cI), .v (.int .i64 a2)]) (by decide) rfl rfl ((W_pulses_Write hr9).le (.cons (.refl _) (.cons (.sl _ _ _) (.cons (.refl _) .nil)))) ?_
        refine o_move (v := .tup [.sl .no 1 (r9.1.map cI), .v (.int .i64 r9.2)]) (by decide) rfl ?_
        refine o_extract (v := .sl .no 1 (r9.1.map cI)) (by decide) rfl rfl ?_
        refine o_extract (v := .v (.int .i64 r9.2)) (by decide) rfl rfl ?_
        refine o_assign (v := .sl .no 1 (r9.1.map cI)) (by decide) rfl ?_
        refine o_assign (v := .v (.int .i64 r9.2)) (by decide) rfl ?_
        refine run_nil ?_
        refine w_next [(1, .sl .no 1 (a1.map cI)), (2, .v (.int .i64 a2)), (3, .ptr (g + 0) 0), (7, .ptr (g1 + 5) 0), (8, .sl (.id (g1 + 2)) 1 (l5.map cI)), (9, .sl .no 1 (r9.1.map cI)), (10, .v (.int .i64 r9.2))] (.cons (.refl _) (.cons (.refl _) (.cons (.refl _) (.cons (.refl _) (.cons (.refl _) (.cons (.refl _) (.cons (.refl _) .nil))))))) ?_
        refine r_seq ?_
        refine r_region (n := 9) rfl ?_
        refine o_load (v := .agg [.v (.int .i64 a0.Letters), .v (.int .i64 a0.Numbers), .v (.int .i64 a0.Pitch), .v (.int .i64 a0.Slack), .v (.int .i64 a0.Gap), .v (.int .i64 a0.Pause), .v (.int .i64 a0.Sparks), .sl .no 1 (a0.Times.map cI)]) 2 hS (by decide) rfl rfl .no (part_agg ty_agg24 (Nat.le_of_ble_eq_true rfl) rfl) ?_
        refine o_move (v := .sl .no 1 (a1.map cI)) (by decide) rfl ?_
        refine o_move (v := .v (.int .i64 a2)) (by decide) rfl ?_
        obtain ⟨r10, hr10, hM⟩ := bindE hM
        refine o_call (bs := [.agg [.v (.int .i64 a0.Letters), .v (.int .i64 a0.Numbers), .v (.int .i64 a0.Pitch), .v (.int .i64 a0.Slack), .v (.int .i64 a0.Gap), .v (.int .i64 a0.Pause), .v (.int .i64 a0.Sparks), .sl .no 1 (a0.Times.map cI)], .sl .no 1 (a1.map cI), .v (.int .i64 a2)]) (by decide) rfl rfl ((W_ref13_Write hr10).le (.cons (.refl _) (.cons (.refl _) (.cons (.refl _) .nil)))) ?_
        refine o_move (v := .tup [.sl .no 1 (r10.1.map cI), .v (.int .i64 r10.2)]) (by decide) rfl ?_
        refine o_extract (v := .sl .no 1 (r10.1.map cI)) (by decide) rfl rfl ?_
        refine o_extract (v := .v (.int .i64 r10.2)) (by decide) rfl rfl ?_
        refine o_assign (v := .sl .no 1 (r10.1.map cI)) (by decide) rfl ?_
        refine o_assign (v := .v (.int .i64 r10.2)) (by decide) rfl ?_
        refine run_nil ?_
        refine w_next [(1, .sl .no 1 (a1.map cI)), (3, .ptr (g + 0) 0), (7, .ptr (g1 + 5) 0), (8, .sl (.id (g1 + 2)) 1 (l5.map cI)), (9, .sl .no 1 (r9.1.map cI)), (10, .v (.int .i64 r9.2)), (11, .sl .no 1 (r10.1.map cI)), (12, .v (.int .i64 r10.2))] (.cons (.refl _) (.cons (.refl _) (.cons (.refl _) (.cons (.refl _) (.cons (.refl _) (.cons (.refl _) (.cons (.refl _) (.cons (.refl _) .nil)))))))) ?_
        refine w_join (J := Bool) (fun j => [(6, .v (.bool j))]) (fun j H' g' => St (· < g) H0 [] H' g' ∧ law13_PulsesWrite_j2 j = some r) ?_ ?_
        · rintro v11 H g2 ⟨hS, hM⟩
          change wpA _ _ _ _ (Fr.of [(6, .v (.bool v11))]) _ _
          replace hS : St (· < g) H0 [] H g2 := hS
          replace hM : law13_PulsesWrite_j2 v11 = some r := hM
          refine r_ret ?_
          refine w_end (x := .v (.bool v11)) (f := fun r => .v (.bool r)) (.inr rfl) ?_ (.refl _) (Option.some.inj hM) hS
          exact (res_one (res_tmp (x := .v (.bool v11)) rfl))
        · refine r_region (n := 22) rfl ?_
          refine o_move (v := .sl .no 1 (r9.1.map cI)) (by decide) rfl ?_
          refine o_move (v := .sl .no 1 (r10.1.map cI)) (by decide) rfl ?_
          obtain ⟨r12, hr12, hM⟩ := bindE hM
          refine o_call (bs := [.sl .no 1 (r9.1.map cI), .sl .no 1 (r10.1.map cI)]) (by decide) rfl rfl ((W_ref01_SameInts hr12).le (.cons (.refl _) (.cons (.refl _) .nil))) ?_
          refine o_move (v := .v (.bool r12)) (by decide) rfl ?_
          rcases Bool.eq_false_or_eq_true r12 with hb13 | hb13
          · replace hM := ifT hM hb13
            refine o_guardY (j := 3) (e := r12) (want := true) rfl hb13 ?_
            refine o_move (v := .v (.int .i64 r9.2)) (by decide) rfl ?_
            refine o_guardY (j := 3) (e := r12) (want := true) rfl hb13 ?_
            refine o_move (v := .v (.int .i64 r10.2)) (by decide) rfl ?_
            refine o_guardY (j := 3) (e := r12) (want := true) rfl hb13 ?_
            refine o_int (v := .v (.bool (r9.2 == r10.2))) (by decide) rfl rfl rfl ?_
            refine o_pickT (v := .v (.bool (r9.2 == r10.2))) (e := r12) (by decide) rfl hb13 rfl ?_
            refine o_move (v := .v (.bool (r9.2 == r10.2))) (by decide) rfl ?_
            rcases Bool.eq_false_or_eq_true (r9.2 == r10.2) with hb14 | hb14
            · replace hM := ifT hM hb14
              refine o_guardY (j := 8) (e := (r9.2 == r10.2)) (want := true) rfl hb14 ?_
              refine o_load (v := .agg [.v (.int .i64 r4.Letters), .v (.int .i64 r4.Numbers), .v (.int .i64 r4.Pitch), .v (.int .i64 r4.Slack), .v (.int .i64 r4.Gap), .v (.int .i64 r4.Pause), .v (.int .i64 r4.Sparks), .sl .no 1 (r4.Times.map cI)]) 0 hS (by decide) rfl rfl .no (part_agg ty_agg24 (Nat.le_of_ble_eq_true rfl) rfl) ?_
              refine o_guardY (j := 8) (e := (r9.2 == r10.2)) (want := true) rfl hb14 ?_
              refine o_load (v := .agg [.v (.int .i64 a0.Letters), .v (.int .i64 a0.Numbers), .v (.int .i64 a0.Pitch), .v (.int .i64 a0.Slack), .v (.int .i64 a0.Gap), .v (.int .i64 a0.Pause), .v (.int .i64 a0.Sparks), .sl .no 1 (a0.Times.map cI)]) 2 hS (by decide) rfl rfl .no (part_agg ty_agg24 (Nat.le_of_ble_eq_true rfl) rfl) ?_
              refine o_guardY (j := 8) (e := (r9.2 == r10.2)) (want := true) rfl hb14 ?_
              obtain ⟨r15, hr15, hM⟩ := bindE hM
              refine o_call (bs := [.agg [.v (.int .i64 r4.Letters), .v (.int .i64 r4.Numbers), .v (.int .i64 r4.Pitch), .v (.int .i64 r4.Slack), .v (.int .i64 r4.Gap), .v (.int .i64 r4.Pause), .v (.int .i64 r4.Sparks), .sl .no 1 (r4.Times.map cI)], .agg [.v (.int .i64 a0.Letters), .v (.int .i64 a0.Numbers), .v (.int .i64 a0.Pitch), .v (.int .i64 a0.Slack), .v (.int .i64 a0.Gap), .v (.int .i64 a0.Pause), .v (.int .i64 a0.Sparks), .sl .no 1 (a0.Times.map cI)]]) (by decide) rfl rfl ((W_law13_same hr15).le (.cons (.refl _) (.cons (.refl _) .nil))) ?_
              refine o_pickT (v := .v (.bool r15)) (e := (r9.2 == r10.2)) (by decide) rfl hb14 rfl ?_
              refine o_move (v := .v (.bool r15)) (by decide) rfl ?_
              rcases Bool.eq_false_or_eq_true r15 with hb16 | hb16
              · replace hM := ifT hM hb16
                refine o_guardY (j := 13) (e := r15) (want := true) rfl hb16 ?_
                refine o_move (v := .sl (.id (g1 + 2)) 1 (l5.map cI)) (by decide) rfl ?_
                refine o_guardY (j := 13) (e := r15) (want := true) rfl hb16 ?_
                refine o_move (v := .sl .no 1 (a1.map cI)) (by decide) rfl ?_
                refine o_guardY (j := 13) (e := r15) (want := true) rfl hb16 ?_
                obtain ⟨r17, hr17, hM⟩ := bindE hM
                refine o_call (bs := [.sl (.id (g1 + 2)) 1 (l5.map cI), .sl .no 1 (a1.map cI)]) (by decide) rfl rfl ((W_ref01_SameInts hr17).le (.cons (.sl _ _ _) (.cons (.refl _) .nil))) ?_
                refine o_pickT (v := .v (.bool r17)) (e := r15) (by decide) rfl hb16 rfl ?_
                refine o_move (v := .v (.bool r17)) (by decide) rfl ?_
                rcases Bool.eq_false_or_eq_true r17 with hb18 | hb18
                · replace hM := ifT hM hb18
                  refine o_guardY (j := 18) (e := r17) (want := true) rfl hb18 ?_
                  obtain ⟨r19, hr19, hM⟩ := bindE hM
                  refine o_call (bs := []) (by decide) rfl rfl ((W_law13_works hr19).le .nil) ?_
                  refine o_pickT (v := .v (.bool r19)) (e := r17) (by decide) rfl hb18 rfl ?_
                  refine o_assign (v := .v (.bool r19)) (by decide) rfl ?_
                  refine run_nil ?_
                  exact w_goto r19 (.cons (.refl _) .nil) ⟨(hS.keep [false, false, false] rfl).up (by omega), hM⟩
                · replace hM := ifF hM hb18
                  refine o_guardN (j := 18) (e := r17) (want := true) (by decide) rfl hb18 ?_
                  refine o_pickF (v := .v (.bool false)) (e := r17) (by decide) rfl hb18 rfl ?_
                  refine o_assign (v := .v (.bool false)) (by decide) rfl ?_
                  refine run_nil ?_
                  exact w_goto false (.cons (.refl _) .nil) ⟨(hS.keep [false, false, false] rfl).up (by omega), hM⟩
              · replace hM := ifF hM hb16
                refine o_guardN (j := 13) (e := r15) (want := true) (by decide) rfl hb16 ?_
                refine o_guardN (j := 13) (e := r15) (want := true) (by decide) rfl hb16 ?_
                refine o_guardN (j := 13) (e := r15) (want := true) (by decide) rfl hb16 ?_
                refine o_pickF (v := .v (.bool false)) (e := r15) (by decide) rfl hb16 rfl ?_
                refine o_move (v := .v (.bool false)) (by decide) rfl ?_
                refine o_guardN (j := 18) (e := false) (want := true) (by decide) rfl rfl ?_
                refine o_pickF (v := .v (.bool false)) (e := false) (by decide) rfl rfl rfl ?_
                refine o_assign (v := .v (.bool false)) (by decide) rfl ?_
                refine run_nil ?_
                exact w_goto false (.cons (.refl _) .nil) ⟨(hS.keep [false, false, false] rfl).up (by omega), hM⟩
            · replace hM := ifF hM hb14
              refine o_guardN (j := 8) (e := (r9.2 == r10.2)) (want := true) (by decide) rfl hb14 ?_
              refine o_guardN (j := 8) (e := (r9.2 == r10.2)) (want := true) (by decide) rfl hb14 ?_
              refine o_guardN (j := 8) (e := (r9.2 == r10.2)) (want := true) (by decide) rfl hb14 ?_
              refine o_pickF (v := .v (.bool false)) (e := (r9.2 == r10.2)) (by decide) rfl hb14 rfl ?_
              refine o_move (v := .v (.bool false)) (by decide) rfl ?_
              refine o_guardN (j := 13) (e := false) (want := true) (by decide) rfl rfl ?_
              refine o_guardN (j := 13) (e := false) (want := true) (by decide) rfl rfl ?_
              refine o_guardN (j := 13) (e := false) (want := true) (by decide) rfl rfl ?_
              refine o_pickF (v := .v (.bool false)) (e := false) (by decide) rfl rfl rfl ?_
              refine o_move (v := .v (.bool false)) (by decide) rfl ?_
              refine o_guardN (j := 18) (e := false) (want := true) (by decide) rfl rfl ?_
              refine o_pickF (v := .v (.bool false)) (e := false) (by decide) rfl rfl rfl ?_
              refine o_assign (v := .v (.bool false)) (by decide) rfl ?_
              refine run_nil ?_
              exact w_goto false (.cons (.refl _) .nil) ⟨(hS.keep [false, false, false] rfl).up (by omega), hM⟩
          · replace hM := ifF hM hb13
            refine o_guardN (j := 3) (e := r12) (want := true) (by decide) rfl hb13 ?_
            refine o_guardN (j := 3) (e := r12) (want := true) (by decide) rfl hb13 ?_
            refine o_guardN (j := 3) (e := r12) (want := true) (by decide) rfl hb13 ?_
            refine o_pickF (v := .v (.bool false)) (e := r12) (by decide) rfl hb13 rfl ?_
            refine o_move (v := .v (.bool false)) (by decide) rfl ?_
            refine o_guardN (j := 8) (e := false) (want := true) (by decide) rfl rfl ?_
            refine o_guardN (j := 8) (e := false) (want := true) (by decide) rfl rfl ?_
            refine o_guardN (j := 8) (e := false) (want := true) (by decide) rfl rfl ?_
            refine o_pickF (v := .v (.bool false)) (e := false) (by decide) rfl rfl rfl ?_
            refine o_move (v := .v (.bool false)) (by decide) rfl ?_
            refine o_guardN (j := 13) (e := false) (want := true) (by decide) rfl rfl ?_
            refine o_guardN (j := 13) (e := false) (want := true) (by decide) rfl rfl ?_
            refine o_guardN (j := 13) (e := false) (want := true) (by decide) rfl rfl ?_
            refine o_pickF (v := .v (.bool false)) (e := false) (by decide) rfl rfl rfl ?_
            refine o_move (v := .v (.bool false)) (by decide) rfl ?_
            refine o_guardN (j := 18) (e := false) (want := true) (by decide) rfl rfl ?_
            refine o_pickF (v := .v (.bool false)) (e := false) (by decide) rfl rfl rfl ?_
            refine o_assign (v := .v (.bool false)) (by decide) rfl ?_
            refine run_nil ?_
            exact w_goto false (.cons (.refl _) .nil) ⟨(hS.keep [false, false, false] rfl).up (by omega), hM⟩
  · refine r_region (n := 9) rfl ?_
    refine o_fieldP (by decide) ty_fo24_7 rfl ?_
    refine o_load (v := .sl .no 1 (a0.Times.map cI)) 0 hS (by decide) rfl rfl .no (part_one ty_agg22 ty_sc22 rfl) ?_
    refine o_len (n := a0.Times.length) (by decide) rfl (List.length_map _) ty_isl22 ?_
    refine o_int (v := .v (.bool (decide ((a0.Times.length : Int) > 40)))) (by decide) rfl rfl rfl ?_
    refine o_move (v := .v (.bool (decide ((a0.Times.length : Int) > 40)))) (by decide) rfl ?_
    rcases Bool.eq_false_or_eq_true (decide ((a0.Times.length : Int) > 40)) with hb20 | hb20
    · replace hM := ifT hM hb20
      refine o_guardN (j := 4) (e := (decide ((a0.Times.length : Int) > 40))) (want := false) (by decide) rfl hb20 ?_
      refine o_guardN (j := 4) (e := (decide ((a0.Times.length : Int) > 40))) (want := false) (by decide) rfl hb20 ?_
      refine o_guardN (j := 4) (e := (decide ((a0.Times.length : Int) > 40))) (want := false) (by decide) rfl hb20 ?_
      refine o_pickT (v := .v (.bool true)) (e := (decide ((a0.Times.length : Int) > 40))) (by decide) rfl hb20 rfl ?_
      refine run_nil ?_
      exact w_goto true (.cons (.refl _) (.cons (.refl _) (.cons (.refl _) (.cons (.refl _) .nil)))) ⟨(hS.keep [true] rfl).up (by omega), hM⟩
    · replace hM := ifF hM hb20
      refine o_guardY (j := 4) (e := (decide ((a0.Times.length : Int) > 40))) (want := false) rfl hb20 ?_
      refine o_move (v := .sl .no 1 (a1.map cI)) (by decide) rfl ?_
      refine o_guardY (j := 4) (e := (decide ((a0.Times.length : Int) > 40))) (want := false) rfl hb20 ?_
      refine o_len (n := a1.length) (by decide) rfl (List.length_map _) ty_isl22 ?_
      refine o_guardY (j := 4) (e := (decide ((a0.Times.length : Int) > 40))) (want := false) rfl hb20 ?_
      refine o_int (v := .v (.bool (decide ((a1.length : Int) > 40)))) (by decide) rfl rfl rfl ?_
      refine o_pickF (v := .v (.bool (decide ((a1.length : Int) > 40)))) (e := (decide ((a0.Times.length : Int) > 40))) (by decide) rfl hb20 rfl ?_
      refine run_nil ?_
      exact w_goto (decide ((a1.length : Int) > 40)) (.cons (.refl _) (.cons (.refl _) (.cons (.refl _) (.cons (.refl _) .nil)))) ⟨(hS.keep [true] rfl).up (by omega), hM⟩
end Go.Proofs.Ytekplngjaddccaa
