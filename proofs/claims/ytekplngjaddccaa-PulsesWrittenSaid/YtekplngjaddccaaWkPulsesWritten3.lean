/-
  The code returns what the functions say (printed by gen.py).
  Conditions: none.
-/
import Derived.Test.YtekplngjaddccaaWkPulsesWritten2
set_option linter.all false
namespace Go.Proofs.Ytekplngjaddccaa
open Go Go.AM Go.Law
set_option linter.unusedVariables false
set_option maxRecDepth 4000
set_option maxHeartbeats 4000000
theorem W_law13_PulsesWritten {n : Nat} {a0 : Pulse} {a1 : List Int} {a2 : Int} {r : Bool} (hM : law13_PulsesWritten n a0 a1 a2 = some r) : PureSat Try.prog 8 [.agg [.v (.int .i64 a0.Letters), .v (.int .i64 a0.Numbers), .v (.int .i64 a0.Pitch), .v (.int .i64 a0.Slack), .v (.int .i64 a0.Gap), .v (.int .i64 a0.Pause), .v (.int .i64 a0.Sparks), .sl .no 1 (a0.Times.map cI)], .sl .no 1 (a1.map cI), .v (.int .i64 a2)] (.v (.bool r)) := by
  refine pure_of_wp mixed Try.func8 rfl (by decide) Try.ntmps8 (by simp) ?pure fun H0 g hf => ?_
  case pure => exact .v _
  rw [frame0_of]
  change wpA _ _ _ _ (Fr.of [(0, .agg [.v (.int .i64 a0.Letters), .v (.int .i64 a0.Numbers), .v (.int .i64 a0.Pitch), .v (.int .i64 a0.Slack), .v (.int .i64 a0.Gap), .v (.int .i64 a0.Pause), .v (.int .i64 a0.Sparks), .sl .no 1 (a0.Times.map cI)]), (1, .sl .no 1 (a1.map cI)), (2, .v (.int .i64 a2))]) H0 g
  have hS := St.start hf
  refine r_seq ?_
  refine r_region (n := 2) rfl ?_
  refine o_box (v := .agg [.v (.int .i64 a0.Letters), .v (.int .i64 a0.Numbers), .v (.int .i64 a0.Pitch), .v (.int .i64 a0.Slack), .v (.int .i64 a0.Gap), .v (.int .i64 a0.Pause), .v (.int .i64 a0.Sparks), .sl .no 1 (a0.Times.map cI)]) (cs := [.v (.int .i64 a0.Letters), .v (.int .i64 a0.Numbers), .v (.int .i64 a0.Pitch), .v (.int .i64 a0.Slack), .v (.int .i64 a0.Gap), .v (.int .i64 a0.Pause), .v (.int .i64 a0.Sparks), .sl .no 1 (a0.Times.map cI)]) hS (by decide) rfl rfl (by omega) fun H hS => ?_
  refine o_assign (v := .v (.bool false)) (by decide) rfl ?_
  refine run_nil ?_
  refine w_next [(1, .sl .no 1 (a1.map cI)), (2, .v (.int .i64 a2)), (3, .ptr (g + 0) 0)] (.cons (.refl _) (.cons (.refl _) (.cons (.refl _) .nil))) ?_
  refine r_seq ?_
  refine w_join (J := Bool) (fun j => [(1, .sl .no 1 (a1.map cI)), (2, .v (.int .i64 a2)), (3, .ptr (g + 0) 0), (40, .v (.bool j))]) (fun j H' g' => St (· < g) H0 [(g + 0, .cells [.v (.int .i64 a0.Letters), .v (.int .i64 a0.Numbers), .v (.int .i64 a0.Pitch), .v (.int .i64 a0.Slack), .v (.int .i64 a0.Gap), .v (.int .i64 a0.Pause), .v (.int .i64 a0.Sparks), .sl .no 1 (a0.Times.map cI)])] H' g' ∧ law13_PulsesWritten_j1 n a0 a1 a2 j = some r) ?_ ?_
  · rintro v1 H g1 ⟨hS, hM⟩
    change wpA _ _ _ _ (Fr.of [(1, .sl .no 1 (a1.map cI)), (2, .v (.int .i64 a2)), (3, .ptr (g + 0) 0), (40, .v (.bool v1))]) _ _
    replace hS : St (· < g) H0 [(g + 0, .cells [.v (.int .i64 a0.Letters), .v (.int .i64 a0.Numbers), .v (.int .i64 a0.Pitch), .v (.int .i64 a0.Slack), .v (.int .i64 a0.Gap), .v (.int .i64 a0.Pause), .v (.int .i64 a0.Sparks), .sl .no 1 (a0.Times.map cI)])] H g1 := hS
    replace hM : law13_PulsesWritten_j1 n a0 a1 a2 v1 = some r := hM
    rcases Bool.eq_false_or_eq_true v1 with hb2 | hb2
    · replace hM := ifT hM hb2
      refine w_condT (e := v1) rfl hb2 ?_
      refine r_seq ?_
      refine r_region (n := 2) rfl ?_
      obtain ⟨r3, hr3, hM⟩ := bindE hM
      refine o_call (bs := []) (by decide) rfl rfl ((W_law13_works hr3).le .nil) ?_
      refine o_assign (v := .v (.bool r3)) (by decide) rfl ?_
      refine run_nil ?_
      replace hS := hS.keep (L' := []) [false] rfl
      refine w_next [(6, .v (.bool r3))] (.cons (.refl _) .nil) ?_
      refine r_ret ?_
      refine r_then_ret ?_
      refine w_end (x := .v (.bool r3)) (f := fun r => .v (.bool r)) (.inr rfl) ?_ (.refl _) (Option.some.inj hM) hS
      exact (res_one (res_tmp (x := .v (.bool r3)) rfl))
    · replace hM := ifF hM hb2
      refine w_condF (e := v1) rfl hb2 ?_
      refine r_skip ?_
      refine w_next [(1, .sl .no 1 (a1.map cI)), (2, .v (.int .i64 a2)), (3, .ptr (g + 0) 0)] (.cons (.refl _) (.cons (.refl _) (.cons (.refl _) .nil))) ?_
      refine r_seq ?_
      have hS0 := hS
      refine r_draw (n := 11) rfl (by kernel_rfl) ?_
      refine o_load (v := .agg [.v (.int .i64 a0.Letters), .v (.int .i64 a0.Numbers), .v (.int .i64 a0.Pitch), .v (.int .i64 a0.Slack), .v (.int .i64 a0.Gap), .v (.int .i64 a0.Pause), .v (.int .i64 a0.Sparks), .sl .no 1 (a0.Times.map cI)]) 0 hS (by decide) rfl rfl (.st hS0 0 rfl (by omega)) (part_agg ty_agg24 (Nat.le_of_ble_eq_true rfl) rfl) ?_
      refine o_buildSlice (es := []) hS (by decide) ty_es22 ty_el22 rfl ty_ef22 rfl (by decide) (by omega) fun H hS => ?_
      refine o_move (v := .sl .no 1 (a1.map cI)) (by decide) rfl ?_
      obtain ⟨l4, hl4, hM⟩ := bindE hM
      refine o_append (xs := ([] : List Int)) (ys := a1) (zs := l4) (f := cI) (L' := [(g1 + 1, .row 3 l4.length), (g + 0, .cells [.v (.int .i64 a0.Letters), .v (.int .i64 a0.Numbers), .v (.int .i64 a0.Pitch), .v (.int .i64 a0.Slack), .v (.int .i64 a0.Gap), .v (.int .i64 a0.Pause), .v (.int .i64 a0.Sparks), .sl .no 1 (a0.Times.map cI)])]) 0 hS (by decide) rfl rfl rfl rfl (.behind (by kernel_rfl)) ty_es22 ty_el22 ty_ef22 hl4 rfl fun H hS => ?_
      refine o_move (v := .v (.int .i64 a2)) (by decide) rfl ?_
      obtain ⟨r5, hr5, hM⟩ := bindE hM
      refine o_call (bs := [.agg [.v (.int .i64 a0.Letters), .v (.int .i64 a0.Numbers), .v (.int .i64 a0.Pitch), .v (.int .i64 a0.Slack), .v (.int .i64 a0.Gap), .v (.int .i64 a0.Pause), .v (.int .i64 a0.Sparks), .sl .no 1 (a0.Times.map cI)], .sl (.id (g1 + 1)) 1 (l4.map cI), .v (.int .i64 a2)]) (by decide) rfl rfl ((W_pulses_Write hr5).le (.cons (.refl _) (.cons (.sl _ _ _) (.cons (.refl _) .nil)))) ?_
      refine o_move (v := .tup [.sl .no 1 (r5.1.map cI), .v (.int .i64 r5.2)]) (by decide) rfl ?_
      refine o_extract (v := .sl .no 1 (r5.1.map cI)) (by decide) rfl rfl ?_
      refine o_extract (v := .v (.int .i64 r5.2)) (by decide) rfl rfl ?_
      refine o_assign (v := .sl .no 1 (r5.1.map cI)) (by decide) rfl ?_
      refine o_assign (v := .v (.int .i64 r5.2)) (by decide) rfl ?_
      refine run_nil ?_
      replace hS := hS.keep (L' := [(g + 0, .cells [.v (.int .i64 a0.Letters), .v (.int .i64 a0.Numbers), .v (.int .i64 a0.Pitch), .v (.int .i64 a0.Slack), .v (.int .i64 a0.Gap), .v (.int .i64 a0.Pause), .v (.int .i64 a0.Sparks), .sl .no 1 (a0.Times.map cI)])]) [false, true] rfl
      refine w_next [(1, .sl .no 1 (a1.map cI)), (2, .v (.int .i64 a2)), (3, .ptr (g + 0) 0), (7, .sl .no 1 (r5.1.map cI)), (8, .v (.int .i64 r5.2))] (.cons (.refl _) (.cons (.refl _) (.cons (.refl _) (.cons (.refl _) (.cons (.refl _) .nil))))) ?_
      refine r_seq ?_
      refine r_seq ?_
      refine r_region (n := 2) rfl ?_
      refine o_move (v := .v (.int .i64 r5.2)) (by decide) rfl ?_
      refine o_int (v := .v (.bool (r5.2 != 0))) (by decide) rfl rfl rfl ?_
      refine run_nil ?_
      refine w_next [(1, .sl .no 1 (a1.map cI)), (2, .v (.int .i64 a2)), (3, .ptr (g + 0) 0), (7, .sl .no 1 (r5.1.map cI)), (8, .v (.int .i64 r5.2)), (52, .v (.bool (r5.2 != 0)))] (.cons (.refl _) (.cons (.refl _) (.cons (.refl _) (.cons (.refl _) (.cons (.refl _) (.cons (.refl _) .nil)))))) ?_
      rcases Bool.eq_false_or_eq_true (r5.2 != 0) with hb6 | hb6
      · replace hM := ifT hM hb6
        refine w_condT (e := (r5.2 != 0)) rfl hb6 ?_
        refine w_join (J := Bool) (fun j => [(6, .v (.bool j))]) (fun j H' g' => St (· < g) H0 [] H' g' ∧ law13_PulsesWritten_j2 j = some r) ?_ ?_
        · rintro v7 H g2 ⟨hS, hM⟩
          change wpA _ _ _ _ (Fr.of [(6, .v (.bool v7))]) _ _
          replace hS : St (· < g) H0 [] H g2 := hS
          replace hM : law13_PulsesWritten_j2 v7 = some r := hM
          refine r_ret ?_
          refine r_then_ret ?_
          refine w_end (x := .v (.bool v7)) (f := fun r => .v (.bool r)) (.inr rfl) ?_ (.refl _) (Option.some.inj hM) hS
          exact (res_one (res_tmp (x := .v (.bool v7)) rfl))
        · refine r_region (n := 11) rfl ?_
          refine o_move (v := .v (.int .i64 r5.2)) (by decide) rfl ?_
          refine o_int (v := .v (.bool (r5.2 == 131))) (by decide) rfl rfl rfl ?_
          refine o_move (v := .v (.bool (r5.2 == 131))) (by decide) rfl ?_
          rcases Bool.eq_false_or_eq_true (r5.2 == 131) with hb8 | hb8
          · replace hM := ifT hM hb8
            refine o_guardY (j := 2) (e := (r5.2 == 131)) (want := true) rfl hb8 ?_
            refine o_move (v := .sl .no 1 (r5.1.map cI)) (by decide) rfl ?_
            refine o_guardY (j := 2) (e := (r5.2 == 131)) (want := true) rfl hb8 ?_
            refine o_len (n := r5.1.length) (by decide) rfl (List.length_map _) ty_isl22 ?_
            refine o_guardY (j := 2) (e := (r5.2 == 131)) (want := true) rfl hb8 ?_
            refine o_int (v := .v (.bool ((r5.1.length : Int) == 0))) (by decide) rfl rfl rfl ?_
            refine o_pickT (v := .v (.bool ((r5.1.length : Int) == 0))) (e := (r5.2 == 131)) (by decide) rfl hb8 rfl ?_
            refine o_move (v := .v (.bool ((r5.1.length : Int) == 0))) (by decide) rfl ?_
            rcases Bool.eq_false_or_eq_true ((r5.1.length : Int) == 0) with hb9 | hb9
            · replace hM := ifT hM hb9
              refine o_guardY (j := 7) (e := ((r5.1.length : Int) == 0)) (want := true) rfl hb9 ?_
              obtain ⟨r10, hr10, hM⟩ := bindE hM
              refine o_call (bs := []) (by decide) rfl rfl ((W_law13_works hr10).le .nil) ?_
              refine o_pickT (v := .v (.bool r10)) (e := ((r5.1.length : Int) == 0)) (by decide) rfl hb9 rfl ?_
              refine o_assign (v := .v (.bool r10)) (by decide) rfl ?_
              refine run_nil ?_
              exact w_goto r10 (.cons (.refl _) .nil) ⟨(hS.keep [false] rfl).up (by omega), hM⟩
            · replace hM := ifF hM hb9
              refine o_guardN (j := 7) (e := ((r5.1.length : Int) == 0)) (want := true) (by decide) rfl hb9 ?_
              refine o_pickF (v := .v (.bool false)) (e := ((r5.1.length : Int) == 0)) (by decide) rfl hb9 rfl ?_
              refine o_assign (v := .v (.bool false)) (by decide) rfl ?_
              refine run_nil ?_
              exact w_goto false (.cons (.refl _) .nil) ⟨(hS.keep [false] rfl).up (by omega), hM⟩
          · replace hM := ifF hM hb8
            refine o_guardN (j := 2) (e := (r5.2 == 131)) (want := true) (by decide) rfl hb8 ?_
            refine o_guardN (j := 2) (e := (r5.2 == 131)) (want := true) (by decide) rfl hb8 ?_
            refine o_guardN (j := 2) (e := (r5.2 == 131)) (want := true) (by decide) rfl hb8 ?_
            refine o_pickF (v := .v (.bool false)) (e := (r5.2 == 131)) (by decide) rfl hb8 rfl ?_
            refine o_move (v := .v (.bool false)) (by decide) rfl ?_
            refine o_guardN (j := 7) (e := false) (want := true) (by decide) rfl rfl ?_
            refine o_pickF (v := .v (.bool false)) (e := false) (by decide) rfl rfl rfl ?_
            refine o_assign (v := .v (.bool false)) (by decide) rfl ?_
            refine run_nil ?_
            exact w_goto false (.cons (.refl _) .nil) ⟨(hS.keep [false] rfl).up (by omega), hM⟩
      · replace hM := ifF hM hb6
        refine w_condF (e := (r5.2 != 0)) rfl hb6 ?_
        refine r_skip ?_
        refine w_next [(1, .sl .no 1 (a1.map cI)), (2, .v (.int .i64 a2)), (3, .ptr (g + 0) 0), (7, .sl .no 1 (r5.1.map cI))] (.cons (.refl _) (.cons (.refl _) (.cons (.refl _) (.cons (.refl _) .nil)))) ?_
        refine r_seq ?_
        refine w_join (J := Bool) (fun j => [(1, .sl .no 1 (a1.map cI)), (3, .ptr (g + 0) 0), (7, .sl .no 1 (r5.1.map cI)), (86, .v (.bool j))]) (fun j H' g' => St (· < g) H0 [(g + 0, .cells [.v (.int .i64 a0.Letters), .v (.int .i64 a0.Numbers), .v (.int .i64 a0.Pitch), .v (.int .i64 a0.Slack), .v (.int .i64 a0.Gap), .v (.int .i64 a0.Pause), .v (.int .i64 a0.Sparks), .sl .no 1 (a0.Times.map cI)])] H' g' ∧ law13_PulsesWritten_j3 n a0 a1 r5 j = some r) ?_ ?_
        · rintro v11 H g3 ⟨hS, hM⟩
          change wpA _ _ _ _ (Fr.of [(1, .sl .no 1 (a1.map cI)), (3, .ptr (g + 0) 0), (7, .sl .no 1 (r5.1.map cI)), (86, .v (.bool v11))]) _ _
          replace hS : St (· < g) H0 [(g + 0, .cells [.v (.int .i64 a0.Letters), .v (.int .i64 a0.Numbers), .v (.int .i64 a0.Pitch), .v (.int .i64 a0.Slack), .v (.int .i64 a0.Gap), .v (.int .i64 a0.Pause), .v (.int .i64 a0.Sparks), .sl .no 1 (a0.Times.map cI)])] H g3 := hS
          replace hM : law13_PulsesWritten_j3 n a0 a1 r5 v11 = some r := hM
          rcases Bool.eq_false_or_eq_true v11 with hb12 | hb12
          · replace hM := ifT hM hb12
            refine w_condT (e := v11) rfl hb12 ?_
            refine r_seq ?_
            refine r_region (n := 1) rfl ?_
            refine o_assign (v := .v (.bool false)) (by decide) rfl ?_
            refine run_nil ?_
            replace hS := hS.keep (L' := []) [false] rfl
            refine w_next [(6, .v (.bool false))] (.cons (.refl _) .nil) ?_
            refine r_ret ?_
            refine r_then_ret ?_
            refine w_end (x := .v (.bool false)) (f := fun r => .v (.bool r)) (.inr rfl) ?_ (.refl _) (Option.some.inj hM) hS
            exact (res_one (res_tmp (x := .v (.bool false)) rfl))
          · replace hM := ifF hM hb12
            refine w_condF (e := v11) rfl hb12 ?_
            refine r_skip ?_
            refine w_next [(1, .sl .no 1 (a1.map cI)), (3, .ptr (g + 0) 0), (7, .sl .no 1 (r5.1.map cI))] (.cons (.refl _) (.cons (.refl _) (.cons (.refl _) .nil))) ?_
            refine r_seq ?_
            refine r_region (n := 4) rfl ?_
            refine o_load (v := .agg [.v (.int .i64 a0.Letters), .v (.int .i64 a0.Numbers), .v (.int .i64 a0.Pitch), .v (.int .i64 a0.Slack), .v (.int .i64 a0.Gap), .v (.int .i64 a0.Pause), .v (.int .i64 a0.Sparks), .sl .no 1 (a0.Times.map cI)]) 0 hS (by decide) rfl rfl .no (part_agg ty_agg24 (Nat.le_of_ble_eq_true rfl) rfl) ?_
            obtain ⟨r13, hr13, hM⟩ := bindE hM
            refine o_call (bs := [.agg [.v (.int .i64 a0.Letters), .v (.int .i64 a0.Numbers), .v (.int .i64 a0.Pitch), .v (.int .i64 a0.Slack), .v (.int .i64 a0.Gap), .v (.int .i64 a0.Pause), .v (.int .i64 a0.Sparks), .sl .no 1 (a0.Times.map cI)]]) (by decide) rfl rfl ((W_ref13_Copy hr13).le (.cons (.refl _) .nil)) ?_
            refine o_alloc hS (by decide) ty_zero24 (by omega) fun H hS => ?_
            refine o_store (v := .agg [.v (.int .i64 r13.Letters), .v (.int .i64 r13.Numbers), .v (.int .i64 r13.Pitch), .v (.int .i64 r13.Slack), .v (.int .i64 r13.Gap), .v (.int .i64 r13.Pause), .v (.int .i64 r13.Sparks), .sl .no 1 (r13.Times.map cI)]) (ns := [.v (.int .i64 r13.Letters), .v (.int .i64 r13.Numbers), .v (.int .i64 r13.Pitch), .v (.int .i64 r13.Slack), .v (.int .i64 r13.Gap), .v (.int .i64 r13.Pause), .v (.int .i64 r13.Sparks), .sl .no 1 (r13.Times.map cI)]) (L' := [(g3 + 2, .cells [.v (.int .i64 r13.Letters), .v (.int .i64 r13.Numbers), .v (.int .i64 r13.Pitch), .v (.int .i64 r13.Slack), .v (.int .i64 r13.Gap), .v (.int .i64 r13.Pause), .v (.int .i64 r13.Sparks), .sl .no 1 (r13.Times.map cI)]), (g + 0, .cells [.v (.int .i64 a0.Letters), .v (.int .i64 a0.Numbers), .v (.int .i64 a0.Pitch), .v (.int .i64 a0.Slack), .v (.int .i64 a0.Gap), .v (.int .i64 a0.Pause), .v (.int .i64 a0.Sparks), .sl .no 1 (a0.Times.map cI)])]) 0 hS rfl rfl .no rfl rfl ty_var24 (Nat.le_of_ble_eq_true rfl) rfl fun H hS => ?_
            refine run_nil ?_
            replace hS := hS.keep (L' := [(g3 + 2, .cells [.v (.int .i64 r13.Letters), .v (.int .i64 r13.Numbers), .v (.int .i64 r13.Pitch), .v (.int .i64 r13.Slack), .v (.int .i64 r13.Gap), .v (.int .i64 r13.Pause), .v (.int .i64 r13.Sparks), .sl .no 1 (r13.Times.map cI)])]) [true, false] rfl
            refine w_next [(1, .sl .no 1 (a1.map cI)), (7, .sl .no 1 (r5.1.map cI)), (9, .ptr (g3 + 2) 0)] (.cons (.refl _) (.cons (.refl _) (.cons (.refl _) .nil))) ?_
            refine r_seq ?_
            refine r_region (n := 7) rfl ?_
            refine o_buildSlice (es := []) hS (by decide) ty_es22 ty_el22 rfl ty_ef22 rfl (by decide) (by omega) fun H hS => ?_
            refine o_move (v := .sl .no 1 (r5.1.map cI)) (by decide) rfl ?_
            obtain ⟨l14, hl14, hM⟩ := bindE hM
            refine o_append (xs := ([] : List Int)) (ys := r5.1) (zs := l14) (f := cI) (L' := [(g3 + 4 + 0, .row 3 l14.length), (g3 + 2, .cells [.v (.int .i64 r13.Letters), .v (.int .i64 r13.Numbers), .v (.int .i64 r13.Pitch), .v (.int .i64 r13.Slack), .v (.int .i64 r13.Gap), .v (.int .i64 r13.Pause), .v (.int .i64 r13.Sparks), .sl .no 1 (r13.Times.map cI)])]) 0 hS (by decide) rfl rfl rfl rfl .no ty_es22 ty_el22 ty_ef22 hl14 rfl fun H hS => ?_
            refine o_fieldP (by decide) ty_fo24_6 rfl ?_
            refine o_store (v := .v (.int .i64 0)) (ns := [.v (.int .i64 0)]) (L' := [(g3 + 4 + 0, .row 3 l14.length), (g3 + 2, .cells [.v (.int .i64 r13.Letters), .v (.int .i64 r13.Numbers), .v (.int .i64 r13.Pitch), .v (.int .i64 r13.Slack), .v (.int .i64 r13.Gap), .v (.int .i64 r13.Pause), .v (.int .i64 0), .sl .no 1 (r13.Times.map cI)])]) 1 hS rfl rfl .no rfl rfl ty_var3 (Nat.le_of_ble_eq_true rfl) rfl fun H hS => ?_
            refine o_fieldP (by decide) ty_fo24_7 rfl ?_
            refine o_store (v := .sl (.id (g3 + 4 + 0)) 1 (l14.map cI)) (ns := [.sl (.id (g3 + 4 + 0)) 1 (l14.map cI)]) (L' := [(g3 + 4 + 0, .row 3 l14.length), (g3 + 2, .cells [.v (.int .i64 r13.Letters), .v (.int .i64 r13.Numbers), .v (.int .i64 r13.Pitch), .v (.int .i64 r13.Slack), .v (.int .i64 r13.Gap), .v (.int .i64 r13.Pause), .v (.int .i64 0), .sl (.id (g3 + 4 + 0)) 1 (l14.map cI)])]) 1 hS rfl rfl .no rfl rfl ty_var22 (Nat.le_of_ble_eq_true rfl) rfl fun H hS => ?_
            refine run_nil ?_
            refine w_next [(1, .sl .no 1 (a1.map cI)), (7, .sl .no 1 (r5.1.map cI)), (9, .ptr (g3 + 2) 0)] (.cons (.refl _) (.cons (.refl _) (.cons (.refl _) .nil))) ?_
            refine r_seq ?_
            refine r_seq ?_
            refine r_region (n := 3) rfl ?_
            refine o_load (v := .agg [.v (.int .i64 r13.Letters), .v (.int .i64 r13.Numbers), .v (.int .i64 r13.Pitch), .v (.int .i64 r13.Slack), .v (.int .i64 r13.Gap), .v (.int .i64 r13.Pause), .v (.int .i64 0), .sl (.id (g3 + 4 + 0)) 1 (l14.map cI)]) 1 hS (by decide) rfl rfl .no (part_agg ty_agg24 (Nat.le_of_ble_eq_true rfl) rfl) ?_
            obtain ⟨r15, hr15, hM⟩ := bindE hM
            refine o_call (bs := [.agg [.v (.int .i64 r13.Letters), .v (.int .i64 r13.Numbers), .v (.int .i64 r13.Pitch), .v (.int .i64 r13.Slack), .v (.int .i64 r13.Gap), .v (.int .i64 r13.Pause), .v (.int .i64 0), .sl (.id (g3 + 4 + 0)) 1 (l14.map cI)]]) (by decide) rfl rfl ((W_ref13_Check hr15).le (.cons (.aggL (.cons (.refl _) (.cons (.refl _) (.cons (.refl _) (.cons (.refl _) (.cons (.refl _) (.cons (.refl _) (.cons (.refl _) (.cons (.sl _ _ _) .nil))))))))) .nil)) ?_
            refine o_int (v := .v (.bool (r15 != 0))) (by decide) rfl rfl rfl ?_
            refine run_nil ?_
            refine w_next [(1, .sl .no 1 (a1.map cI)), (7, .sl .no 1 (r5.1.map cI)), (9, .ptr (g3 + 2) 0), (96, .v (.bool (r15 != 0)))] (.cons (.refl _) (.cons (.refl _) (.cons (.refl _) (.cons (.refl _) .nil)))) ?_
            rcases Bool.eq_false_or_eq_true (r15 != 0) with hb16 | hb16
            · replace hM := ifT hM hb16
              refine w_condT (e := (r15 != 0)) rfl hb16 ?_
              refine r_seq ?_
              refine r_region (n := 1) rfl ?_
              refine o_assign (v := .v (.bool false)) (by decide) rfl ?_
              refine run_nil ?_
              replace hS := hS.keep (L' := []) [false, false] rfl
              refine w_next [(6, .v (.bool false))] (.cons (.refl _) .nil) ?_
              refine r_ret ?_
              refine r_then_ret ?_
              refine w_end (x := .v (.bool false)) (f := fun r => .v (.bool r)) (.inr rfl) ?_ (.refl _) (Option.some.inj hM) hS
              exact (res_one (res_tmp (x := .v (.bool false)) rfl))
            · replace hM := ifF hM hb16
              refine w_condF (e := (r15 != 0)) rfl hb16 ?_
              refine r_skip ?_
              refine w_next [(1, .sl .no 1 (a1.map cI)), (7, .sl .no 1 (r5.1.map cI)), (9, .ptr (g3 + 2) 0)] (.cons (.refl _) (.cons (.refl _) (.cons (.refl _) .nil))) ?_
              refine r_seq ?_
              refine r_region (n := 7) rfl ?_
              refine o_load (v := .agg [.v (.int .i64 r13.Letters), .v (.int .i64 r13.Numbers), .v (.int .i64 r13.Pitch), .v (.int .i64 r13.Slack), .v (.int .i64 r13.Gap), .v (.int .i64 r13.Pause), .v (.int .i64 0), .sl (.id (g3 + 4 + 0)) 1 (l14.map cI)]) 1 hS (by decide) rfl rfl .no (part_agg ty_agg24 (Nat.le_of_ble_eq_true rfl) rfl) ?_
              obtain ⟨r17, hr17, hM⟩ := bindE hM
              refine o_call (bs := [.agg [.v (.int .i64 r13.Letters), .v (.int .i64 r13.Numbers), .v (.int .i64 r13.Pitch), .v (.int .i64 r13.Slack), .v (.int .i64 r13.Gap), .v (.int .i64 r13.Pause), .v (.int .i64 0), .sl (.id (g3 + 4 + 0)) 1 (l14.map cI)]]) (by decide) rfl rfl ((W_pulses_Read hr17).le (.cons (.aggL (.cons (.refl _) (.cons (.refl _) (.cons (.refl _) (.cons (.refl _) (.cons (.refl _) (.cons (.refl _) (.cons (.refl _) (.cons (.sl _ _ _) .nil))))))))) .nil)) ?_
              refine o_move (v := .tup [.sl .no 1 (r17.1.map cI), .v (.int .i64 r17.2)]) (by decide) rfl ?_
              refine o_extract (v := .sl .no 1 (r17.1.map cI)) (by decide) rfl rfl ?_
              refine o_extract (v := .v (.int .i64 r17.2)) (by decide) rfl rfl ?_
              refine o_assign (v := .sl .no 1 (r17.1.map cI)) (by decide) rfl ?_
              refine o_assign (v := .v (.int .i64 r17.2)) (by decide) rfl ?_
              refine run_nil ?_
              refine w_next [(1, .sl .no 1 (a1.map cI)), (7, .sl .no 1 (r5.1.map cI)), (9, .ptr (g3 + 2) 0), (10, .sl .no 1 (r17.1.map cI)), (11, .v (.int .i64 r17.2))] (.cons (.refl _) (.cons (.refl _) (.cons (.refl _) (.cons (.refl _) (.cons (.refl _) .nil))))) ?_
              refine r_seq ?_
              refine r_region (n := 7) rfl ?_
              refine o_load (v := .agg [.v (.int .i64 r13.Letters), .v (.int .i64 r13.Numbers), .v (.int .i64 r13.Pitch), .v (.int .i64 r13.Slack), .v (.int .i64 r13.Gap), .v (.int .i64 r13.Pause), .v (.int .i64 0), .sl (.id (g3 + 4 + 0)) 1 (l14.map cI)]) 1 hS (by decide) rfl rfl .no (part_agg ty_agg24 (Nat.le_of_ble_eq_true rfl) rfl) ?_
              obtain ⟨r18, hr18, hM⟩ := bindE hM
              refine o_call (bs := [.agg [.v (.int .i64 r13.Letters), .v (.int .i64 r13.Numbers), .v (.int .i64 r13.Pitch), .v (.int .i64 r13.Slack), .v (.int .i64 r13.Gap), .v (.int .i64 r13.Pause), .v (.int .i64 0), .sl (.id (g3 + 4 + 0)) 1 (l14.map cI)]]) (by decide) rfl rfl ((W_pulses_Many hr18).le (.cons (.aggL (.cons (.refl _) (.cons (.refl _) (.cons (.refl _) (.cons (.refl _) (.cons (.refl _) (.cons (.refl _) (.cons (.refl _) (.cons (.sl _ _ _) .nil))))))))) .nil)) ?_
              refine o_move (v := .tup [.v (.int .i64 r18.1), .v (.int .i64 r18.2)]) (by decide) rfl ?_
              refine o_extract (v := .v (.int .i64 r18.1)) (by decide) rfl rfl ?_
              refine o_extract (v := .v (.int .i64 r18.2)) (by decide) rfl rfl ?_
              refine o_assign (v := .v (.int .i64 r18.1)) (by decide) rfl ?_
              refine o_assign (v := .v (.int .i64 r18.2)) (by decide) rfl ?_
              refine run_nil ?_
              refine w_next [(1, .sl .no 1 (a1.map cI)), (7, .sl .no 1 (r5.1.map cI)), (9, .ptr (g3 + 2) 0), (10, .sl .no 1 (r17.1.map cI)), (11, .v (.int .i64 r17.2)), (12, .v (.int .i64 r18.1)), (13, .v (.int .i64 r18.2))] (.cons (.refl _) (.cons (.refl _) (.cons (.refl _) (.cons (.refl _) (.cons (.refl _) (.cons (.refl _) (.cons (.refl _) .nil))))))) ?_
              refine r_seq ?_
              refine r_region (n := 7) rfl ?_
              refine o_load (v := .agg [.v (.int .i64 r13.Letters), .v (.int .i64 r13.Numbers), .v (.int .i64 r13.Pitch), .v (.int .i64 r13.Slack), .v (.int .i64 r13.Gap), .v (.int .i64 r13.Pause), .v (.int .i64 0), .sl (.id (g3 + 4 + 0)) 1 (l14.map cI)]) 1 hS (by decide) rfl rfl .no (part_agg ty_agg24 (Nat.le_of_ble_eq_true rfl) rfl) ?_
              obtain ⟨r19, hr19, hM⟩ := bindE hM
              refine o_call (bs := [.agg [.v (.int .i64 r13.Letters), .v (.int .i64 r13.Numbers), .v (.int .i64 r13.Pitch), .v (.int .i64 r13.Slack), .v (.int .i64 r13.Gap), .v (.int .i64 r13.Pause), .v (.int .i64 0), .sl (.id (g3 + 4 + 0)) 1 (l14.map cI)]]) (by decide) rfl rfl ((W_pulses_Real hr19).le (.cons (.aggL (.cons (.refl _) (.cons (.refl _) (.cons (.refl _) (.cons (.refl _) (.cons (.refl _) (.cons (.refl _) (.cons (.refl _) (.cons (.sl _ _ _) .nil))))))))) .nil)) ?_
              refine o_move (v := .tup [.sl .no 1 (r19.1.map cI), .v (.int .i64 r19.2)]) (by decide) rfl ?_
              refine o_extract (v := .sl .no 1 (r19.1.map cI)) (by decide) rfl rfl ?_
              refine o_extract (v := .v (.int .i64 r19.2)) (by decide) rfl rfl ?_
              refine o_assign (v := .sl .no 1 (r19.1.map cI)) (by decide) rfl ?_
              refine o_assign (v := .v (.int .i64 r19.2)) (by decide) rfl ?_
              refine run_nil ?_
              replace hS := hS.keep (L' := []) [false, false] rfl
              refine w_next [(1, .sl .no 1 (a1.map cI)), (7, .sl .no 1 (r5.1.map cI)), (10, .sl .no 1 (r17.1.map cI)), (11, .v (.int .i64 r17.2)), (12, .v (.int .i64 r18.1)), (13, .v (.int .i64 r18.2)), (14, .sl .no 1 (r19.1.map cI)), (15, .v (.int .i64 r19.2))] (.cons (.refl _) (.cons (.refl _) (.cons (.refl _) (.cons (.refl _) (.cons (.refl _) (.cons (.refl _) (.cons (.refl _) (.cons (.refl _) .nil)))))))) ?_
              refine w_join (J := Bool) (fun j => [(6, .v (.bool j))]) (fun j H' g' => St (· < g) H0 [] H' g' ∧ law13_PulsesWritten_j4 j = some r) ?_ ?_
              · rintro v20 H g4 ⟨hS, hM⟩
                change wpA _ _ _ _ (Fr.of [(6, .v (.bool v20))]) _ _
                replace hS : St (· < g) H0 [] H g4 := hS
                replace hM : law13_PulsesWritten_j4 v20 = some r := hM
                refine r_ret ?_
                refine w_end (x := .v (.bool v20)) (f := fun r => .v (.bool r)) (.inr rfl) ?_ (.refl _) (Option.some.inj hM) hS
                exact (res_one (res_tmp (x := .v (.bool v20)) rfl))
              · refine r_region (n := 30) rfl ?_
                refine o_move (v := .v (.int .i64 r17.2)) (by decide) rfl ?_
                refine o_int (v := .v (.bool (r17.2 == 0))) (by decide) rfl rfl rfl ?_
                refine o_move (v := .v (.bool (r17.2 == 0))) (by decide) rfl ?_
                rcases Bool.eq_false_or_eq_true (r17.2 == 0) with hb21 | hb21
                · replace hM := ifT hM hb21
                  refine o_guardY (j := 2) (e := (r17.2 == 0)) (want := true) rfl hb21 ?_
                  refine o_move (v := .v (.int .i64 r18.2)) (by decide) rfl ?_
                  refine o_guardY (j := 2) (e := (r17.2 == 0)) (want := true) rfl hb21 ?_
                  refine o_int (v := .v (.bool (r18.2 == 0))) (by decide) rfl rfl rfl ?_
                  refine o_pickT (v := .v (.bool (r18.2 == 0))) (e := (r17.2 == 0)) (by decide) rfl hb21 rfl ?_
                  refine o_move (v := .v (.bool (r18.2 == 0))) (by decide) rfl ?_
                  rcases Bool.eq_false_or_eq_true (r18.2 == 0) with hb22 | hb22
                  · replace hM := ifT hM hb22
                    refine o_guardY (j := 6) (e := (r18.2 == 0)) (want := true) rfl hb22 ?_
                    refine o_move (v := .v (.int .i64 r19.2)) (by decide) rfl ?_
                    refine o_guardY (j := 6) (e := (r18.2 == 0)) (want := true) rfl hb22 ?_
                    refine o_int (v := .v (.bool (r19.2 == 0))) (by decide) rfl rfl rfl ?_
                    refine o_pickT (v := .v (.bool (r19.2 == 0))) (e := (r18.2 == 0)) (by decide) rfl hb22 rfl ?_
                    refine o_move (v := .v (.bool (r19.2 == 0))) (by decide) rfl ?_
                    rcases Bool.eq_false_or_eq_true (r19.2 == 0) with hb23 | hb23
                    · replace hM := ifT hM hb23
                      refine o_guardY (j := 10) (e := (r19.2 == 0)) (want := true) rfl hb23 ?_
                      refine o_move (v := .v (.int .i64 r18.1)) (by decide) rfl ?_
                      refine o_guardY (j := 10) (e := (r19.2 == 0)) (want := true) rfl hb23 ?_
                      refine o_int (v := .v (.bool (r18.1 == 1))) (by decide) rfl rfl rfl ?_
                      refine o_pickT (v := .v (.bool (r18.1 == 1))) (e := (r19.2 == 0)) (by decide) rfl hb23 rfl ?_
                      refine o_move (v := .v (.bool (r18.1 == 1))) (by decide) rfl ?_
                      rcases Bool.eq_false_or_eq_true (r18.1 == 1) with hb24 | hb24
                      · replace hM := ifT hM hb24
                        refine o_guardY (j := 14) (e := (r18.1 == 1)) (want := true) rfl hb24 ?_
                        refine o_move (v := .sl .no 1 (r17.1.map cI)) (by decide) rfl ?_
                        refine o_guardY (j := 14) (e := (r18.1 == 1)) (want := true) rfl hb24 ?_
                        refine o_move (v := .sl .no 1 (a1.map cI)) (by decide) rfl ?_
                        refine o_guardY (j := 14) (e := (r18.1 == 1)) (want := true) rfl hb24 ?_
                        obtain ⟨r25, hr25, hM⟩ := bindE hM
                        refine o_call (bs := [.sl .no 1 (r17.1.map cI), .sl .no 1 (a1.map cI)]) (by decide) rfl rfl ((W_ref01_SameInts hr25).le (.cons (.refl _) (.cons (.refl _) .nil))) ?_
                        refine o_pickT (v := .v (.bool r25)) (e := (r18.1 == 1)) (by decide) rfl hb24 rfl ?_
                        refine o_move (v := .v (.bool r25)) (by decide) rfl ?_
                        rcases Bool.eq_false_or_eq_true r25 with hb26 | hb26
                        · replace hM := ifT hM hb26
                          refine o_guardY (j := 19) (e := r25) (want := true) rfl hb26 ?_
                          refine o_move (v := .sl .no 1 (r19.1.map cI)) (by decide) rfl ?_
                          refine o_guardY (j := 19) (e := r25) (want := true) rfl hb26 ?_
                          refine o_len (n := r19.1.length) (by decide) rfl (List.length_map _) ty_isl22 ?_
                          refine o_guardY (j := 19) (e := r25) (want := true) rfl hb26 ?_
                          refine o_move (v := .sl .no 1 (r5.1.map cI)) (by decide) rfl ?_
                          refine o_guardY (j := 19) (e := r25) (want := true) rfl hb26 ?_
                          refine o_len (n := r5.1.length) (by decide) rfl (List.length_map _) ty_isl22 ?_
                          refine o_guardY (j := 19) (e := r25) (want := true) rfl hb26 ?_
                          refine o_int (v := .v (.bool ((r19.1.length : Int) == (r5.1.length : Int)))) (by decide) rfl rfl rfl ?_
                          refine o_pickT (v := .v (.bool ((r19.1.length : Int) == (r5.1.length : Int)))) (e := r25) (by decide) rfl hb26 rfl ?_
                          refine o_move (v := .v (.bool ((r19.1.length : Int) == (r5.1.length : Int)))) (by decide) rfl ?_
                          rcases Bool.eq_false_or_eq_true ((r19.1.length : Int) == (r5.1.length : Int)) with hb27 | hb27
                          · replace hM := ifT hM hb27
                            refine o_guardY (j := 26) (e := ((r19.1.length : Int) == (r5.1.length : Int))) (want := true) rfl hb27 ?_
                            obtain ⟨r28, hr28, hM⟩ := bindE hM
                            refine o_call (bs := []) (by decide) rfl rfl ((W_law13_works hr28).le .nil) ?_
                            refine o_pickT (v := .v (.bool r28)) (e := ((r19.1.length : Int) == (r5.1.length : Int))) (by decide) rfl hb27 rfl ?_
                            refine o_assign (v := .v (.bool r28)) (by decide) rfl ?_
                            refine run_nil ?_
                            exact w_goto r28 (.cons (.refl _) .nil) ⟨(hS.keep [] rfl).up (by omega), hM⟩
                          · replace hM := ifF hM hb27
                            refine o_guardN (j := 26) (e := ((r19.1.length : Int) == (r5.1.length : Int))) (want := true) (by decide) rfl hb27 ?_
                            refine o_pickF (v := .v (.bool false)) (e := ((r19.1.length : Int) == (r5.1.length : Int))) (by decide) rfl hb27 rfl ?_
                            refine o_assign (v := .v (.bool false)) (by decide) rfl ?_
                            refine run_nil ?_
                            exact w_goto false (.cons (.refl _) .nil) ⟨(hS.keep [] rfl).up (by omega), hM⟩
                        · replace hM := ifF hM hb26
                          refine o_guardN (j := 19) (e := r25) (want := true) (by decide) rfl hb26 ?_
                          refine o_guardN (j := 19) (e := r25) (want := true) (by decide) rfl hb26 ?_
                          refine o_guardN (j := 19) (e := r25) (want := true) (by decide) rfl hb26 ?_
                          refine o_guardN (j := 19) (e := r25) (want := true) (by decide) rfl hb26 ?_
                          refine o_guardN (j := 19) (e := r25) (want := true) (by decide) rfl hb26 ?_
                          refine o_pickF (v := .v (.bool false)) (e := r25) (by decide) rfl hb26 rfl ?_
                          refine o_move (v := .v (.bool false)) (by decide) rfl ?_
                          refine o_guardN (j := 26) (e := false) (want := true) (by decide) rfl rfl ?_
                          refine o_pickF (v := .v (.bool false)) (e := false) (by decide) rfl rfl rfl ?_
                          refine o_assign (v := .v (.bool false)) (by decide) rfl ?_
                          refine run_nil ?_
                          exact w_goto false (.cons (.refl _) .nil) ⟨(hS.keep [] rfl).up (by omega), hM⟩
                      · replace hM := ifF hM hb24
                        refine o_guardN (j := 14) (e := (r18.1 == 1)) (want := true) (by decide) rfl hb24 ?_
                        refine o_guardN (j := 14) (e := (r18.1 == 1)) (want := true) (by decide) rfl hb24 ?_
                        refine o_guardN (j := 14) (e := (r18.1 == 1)) (want := true) (by decide) rfl hb24 ?_
                        refine o_pickF (v := .v (.bool false)) (e := (r18.1 == 1)) (by decide) rfl hb24 rfl ?_
                        refine o_move (v := .v (.bool false)) (by decide) rfl ?_
                        refine o_guardN (j := 19) (e := false) (want := true) (by decide) rfl rfl ?_
                        refine o_guardN (j := 19) (e := false) (want := true) (by decide) rfl rfl ?_
                        refine o_guardN (j := 19) (e := false) (want := true) (by decide) rfl rfl ?_
                        refine o_guardN (j := 19) (e := false) (want := true) (by decide) rfl rfl ?_
                        refine o_guardN (j := 19) (e := false) (want := true) (by decide) rfl rfl ?_
                        refine o_pickF (v := .v (.bool false)) (e := false) (by decide) rfl rfl rfl ?_
                        refine o_move (v := .v (.bool false)) (by decide) rfl ?_
                        refine o_guardN (j := 26) (e := false) (want := true) (by decide) rfl rfl ?_
                        refine o_pickF (v := .v (.bool false)) (e := false) (by decide) rfl rfl rfl ?_
                        refine o_assign (v := .v (.bool false)) (by decide) rfl ?_
                        refine run_nil ?_
                        exact w_goto false (.cons (.refl _) .nil) ⟨(hS.keep [] rfl).up (by omega), hM⟩
                    · replace hM := ifF hM hb23
                      refine o_guardN (j := 10) (e := (r19.2 == 0)) (want := true) (by decide) rfl hb23 ?_
                      refine o_guardN (j := 10) (e := (r19.2 == 0)) (want := true) (by decide) rfl hb23 ?_
                      refine o_pickF (v := .v (.bool false)) (e := (r19.2 == 0)) (by decide) rfl hb23 rfl ?_
                      refine o_move (v := .v (.bool false)) (by decide) rfl ?_
                      refine o_guardN (j := 14) (e := false) (want := true) (by decide) rfl rfl ?_
                      refine o_guardN (j := 14) (e := false) (want := true) (by decide) rfl rfl ?_
                      refine o_guardN (j := 14) (e := false) (want := true) (by decide) rfl rfl ?_
                      refine o_pickF (v := .v (.bool false)) (e := false) (by decide) rfl rfl rfl ?_
                      refine o_move (v := .v (.bool false)) (by decide) rfl ?_
                      refine o_guardN (j := 19) (e := false) (want := true) (by decide) rfl rfl ?_
                      refine o_guardN (j := 19) (e := false) (want := true) (by decide) rfl rfl ?_
                      refine o_guardN (j := 19) (e := false) (want := true) (by decide) rfl rfl ?_
                      refine o_guardN (j := 19) (e := false) (want := true) (by decide) rfl rfl ?_
                      refine o_guardN (j := 19) (e := false) (want := true) (by decide) rfl rfl ?_
                      refine o_pickF (v := .v (.bool false)) (e := false) (by decide) rfl rfl rfl ?_
                      refine o_move (v := .v (.bool false)) (by decide) rfl ?_
                      refine o_guardN (j := 26) (e := false) (want := true) (by decide) rfl rfl ?_
                      refine o_pickF (v := .v (.bool false)) (e := false) (by decide) rfl rfl rfl ?_
                      refine o_assign (v := .v (.bool false)) (by decide) rfl ?_
                      refine run_nil ?_
                      exact w_goto false (.cons (.refl _) .nil) ⟨(hS.keep [] rfl).up (by omega), hM⟩
                  · replace hM := ifF hM hb22
                    refine o_guardN (j := 6) (e := (r18.2 == 0)) (want := true) (by decide) rfl hb22 ?_
                    refine o_guardN (j := 6) (e := (r18.2 == 0)) (want := true) (by decide) rfl hb22 ?_
                    refine o_pickF (v := .v (.bool false)) (e := (r18.2 == 0)) (by decide) rfl hb22 rfl ?_
                    refine o_move (v := .v (.bool false)) (by decide) rfl ?_
                    refine o_guardN (j := 10) (e := false) (want := true) (by decide) rfl rfl ?_
                    refine o_guardN (j := 10) (e := false) (want := true) (by decide) rfl rfl ?_
                    refine o_pickF (v := .v (.bool false)) (e := false) (by decide) rfl rfl rfl ?_
                    refine o_move (v := .v (.bool false)) (by decide) rfl ?_
                    refine o_guardN (j := 14) (e := false) (want := true) (by decide) rfl rfl ?_
                    refine o_guardN (j := 14) (e := false) (want := true) (by decide) rfl rfl ?_
                    refine o_guardN (j := 14) (e := false) (want := true) (by decide) rfl rfl ?_
                    refine o_pickF (v := .v (.bool false)) (e := false) (by decide) rfl rfl rfl ?_
                    refine o_move (v := .v (.bool false)) (by decide) rfl ?_
                    refine o_guardN (j := 19) (e := false) (want := true) (by decide) rfl rfl ?_
                    refine o_guardN (j := 19) (e := false) (want := true) (by decide) rfl rfl ?_
                    refine o_guardN (j := 19) (e := false) (want := true) (by decide) rfl rfl ?_
                    refine o_guardN (j := 19) (e := false) (want := true) (by decide) rfl rfl ?_
                    refine o_guardN (j := 19) (e := false) (want := true) (by decide) rfl rfl ?_
                    refine o_pickF (v := .v (.bool false)) (e := false) (by decide) rfl rfl rfl ?_
                    refine o_move (v := .v (.bool false)) (by decide) rfl ?_
                    refine o_guardN (j := 26) (e := false) (want := true) (by decide) rfl rfl ?_
                    refine o_pickF (v := .v (.bool false)) (e := false) (by decide) rfl rfl rfl ?_
                    refine o_assign (v := .v (.bool false)) (by decide) rfl ?_
                    refine run_nil ?_
                    exact w_goto false (.cons (.refl _) .nil) ⟨(hS.keep [] rfl).up (by omega), hM⟩
                · replace hM := ifF hM hb21
                  refine o_guardN (j := 2) (e := (r17.2 == 0)) (want := true) (by decide) rfl hb21 ?_
                  refine o_guardN (j := 2) (e := (r17.2 == 0)) (want := true) (by decide) rfl hb21 ?_
                  refine o_pickF (v := .v (.bool false)) (e := (r17.2 == 0)) (by decide) rfl hb21 rfl ?_
                  refine o_move (v := .v (.bool false)) (by decide) rfl ?_
                  refine o_guardN (j := 6) (e := false) (want := true) (by decide) rfl rfl ?_
                  refine o_guardN (j := 6) (e := false) (want := true) (by decide) rfl rfl ?_
                  refine o_pickF (v := .v (.bool false)) (e := false) (by decide) rfl rfl rfl ?_
                  refine o_move (v := .v (.bool false)) (by decide) rfl ?_
                  refine o_guardN (j := 10) (e := false) (want := true) (by decide) rfl rfl ?_
                  refine o_guardN (j := 10) (e := false) (want := true) (by decide) rfl rfl ?_
                  refine o_pickF (v := .v (.bool false)) (e := false) (by decide) rfl rfl rfl ?_
                  refine o_move (v := .v (.bool false)) (by decide) rfl ?_
                  refine o_guardN (j := 14) (e := false) (want := true) (by decide) rfl rfl ?_
                  refine o_guardN (j := 14) (e := false) (want := true) (by decide) rfl rfl ?_
                  refine o_guardN (j := 14) (e := false) (want := true) (by decide) rfl rfl ?_
                  refine o_pickF (v := .v (.bool false)) (e := false) (by decide) rfl rfl rfl ?_
                  refine o_move (v := .v (.bool false)) (by decide) rfl ?_
                  refine o_guardN (j := 19) (e := false) (want := true) (by decide) rfl rfl ?_
                  refine o_guardN (j := 19) (e := false) (want := true) (by decide) rfl rfl ?_
                  refine o_guardN (j := 19) (e := false) (want := true) (by decide) rfl rfl ?_
                  refine o_guardN (j := 19) (e := false) (want := true) (by decide) rfl rfl ?_
                  refine o_guardN (j := 19) (e := false) (want := true) (by decide) rfl rfl ?_
                  refine o_pickF (v := .v (.bool false)) (e := false) (by decide) rfl rfl rfl ?_
                  refine o_move (v := .v (.bool false)) (by decide) rfl ?_
                  refine o_guardN (j := 26) (e := false) (want := true) (by decide) rfl rfl ?_
                  refine o_pickF (v := .v (.bool false)) (e := false) (by decide) rfl rfl rfl ?_
                  refine o_assign (v := .v (.bool false)) (by decide) rfl ?_
                  refine run_nil ?_
                  exact w_goto false (.cons (.refl _) .nil) ⟨(hS.keep [] rfl).up (by omega), hM⟩
        · refine r_region (n := 24) rfl ?_
          refine o_move (v := .sl .no 1 (r5.1.map cI)) (by decide) rfl ?_
          refine o_len (n := r5.1.length) (by decide) rfl (List.length_map _) ty_isl22 ?_
          refine o_int (v := .v (.bool (decide ((r5.1.length : Int) > 24)))) (by decide) rfl rfl rfl ?_
          refine o_move (v := .v (.bool (decide ((r5.1.length : Int) > 24)))) (by decide) rfl ?_
          rcases Bool.eq_false_or_eq_true (decide ((r5.1.length : Int) > 24)) with hb29 | hb29
          · replace hM := ifT hM hb29
            refine o_guardN (j := 3) (e := (decide ((r5.1.length : Int) > 24))) (want := false) (by decide) rfl hb29 ?_
            refine o_guardN (j := 3) (e := (decide ((r5.1.length : Int) > 24))) (want := false) (by decide) rfl hb29 ?_
            refine o_guardN (j := 3) (e := (decide ((r5.1.length : Int) > 24))) (want := false) (by decide) rfl hb29 ?_
            refine o_guardN (j := 3) (e := (decide ((r5.1.length : Int) > 24))) (want := false) (by decide) rfl hb29 ?_
            refine o_guardN (j := 3) (e := (decide ((r5.1.length : Int) > 24))) (want := false) (by decide) rfl hb29 ?_
            refine o_guardN (j := 3) (e := (decide ((r5.1.length : Int) > 24))) (want := false) (by decide) rfl hb29 ?_
            refine o_guardN (j := 3) (e := (decide ((r5.1.length : Int) > 24))) (want := false) (by decide) rfl hb29 ?_
            refine o_pickT (v := .v (.bool true)) (e := (decide ((r5.1.length : Int) > 24))) (by decide) rfl hb29 rfl ?_
            refine o_move (v := .v (.bool true)) (by decide) rfl ?_
            refine o_guardN (j := 12) (e := true) (want := false) (by decide) rfl rfl ?_
            refine o_guardN (j := 12) (e := true) (want := false) (by decide) rfl rfl ?_
            refine o_guardN (j := 12) (e := true) (want := false) (by decide) rfl rfl ?_
            refine o_guardN (j := 12) (e := true) (want := false) (by decide) rfl rfl ?_
            refine o_guardU (j := 16) (by decide) rfl ?_
            refine o_guardU (j := 16) (by decide) rfl ?_
            refine o_guardU (j := 16) (by decide) rfl ?_
            refine o_guardU (j := 16) (by decide) rfl ?_
            refine o_guardU (j := 16) (by decide) rfl ?_
            refine o_guardN (j := 12) (e := true) (want := false) (by decide) rfl rfl ?_
            refine o_pickT (v := .v (.bool true)) (e := true) (by decide) rfl rfl rfl ?_
            refine run_nil ?_
            exact w_goto true (.cons (.refl _) (.cons (.refl _) (.cons (.refl _) (.cons (.refl _) .nil)))) ⟨(hS.keep [true] rfl).up (by omega), hM⟩
          · replace hM := ifF hM hb29
            refine o_guardY (j := 3) (e := (decide ((r5.1.length : Int) > 24))) (want := false) rfl hb29 ?_
            refine o_move (v := .sl .no 1 (r5.1.map cI)) (by decide) rfl ?_
            refine o_guardY (j := 3) (e := (decide ((r5.1.length : Int) > 24))) (want := false) rfl hb29 ?_
            refine o_len (n := r5.1.length) (by decide) rfl (List.length_map _) ty_isl22 ?_
            refine o_guardY (j := 3) (e := (decide ((r5.1.length : Int) > 24))) (want := false) rfl hb29 ?_
            refine o_int (v := .v (.bool ((r5.1.length : Int) == 0))) (by decide) rfl rfl rfl ?_
            refine o_guardY (j := 3) (e := (decide ((r5.1.length : Int) > 24))) (want := false) rfl hb29 ?_
            refine o_move (v := .sl .no 1 (a1.map cI)) (by decide) rfl ?_
            refine o_guardY (j := 3) (e := (decide ((r5.1.length : Int) > 24))) (want := false) rfl hb29 ?_
            refine o_len (n := a1.length) (by decide) rfl (List.length_map _) ty_isl22 ?_
            refine o_guardY (j := 3) (e := (decide ((r5.1.length : Int) > 24))) (want := false) rfl hb29 ?_
            refine o_int (v := .v (.bool ((a1.length : Int) == 0))) (by decide) rfl rfl rfl ?_
            refine o_guardY (j := 3) (e := (decide ((r5.1.length : Int) > 24))) (want := false) rfl hb29 ?_
            refine o_neB (m := ((r5.1.length : Int) == 0)) (n := ((a1.length : Int) == 0)) (by decide) rfl rfl ty_bool4 ?_
            refine o_pickF (v := .v (.bool (!(((r5.1.length : Int) == 0) == ((a1.length : Int) == 0))))) (e := (decide ((r5.1.length : Int) > 24))) (by decide) rfl hb29 rfl ?_
            refine o_move (v := .v (.bool (!(((r5.1.length : Int) == 0) == ((a1.length : Int) == 0))))) (by decide) rfl ?_
            rcases Bool.eq_false_or_eq_true (!(((r5.1.length : Int) == 0) == ((a1.length : Int) == 0))) with hb30 | hb30
            · replace hM := ifT hM hb30
              refine o_guardN (j := 12) (e := (!(((r5.1.length : Int) == 0) == ((a1.length : Int) == 0)))) (want := false) (by decide) rfl hb30 ?_
              refine o_guardN (j := 12) (e := (!(((r5.1.length : Int) == 0) == ((a1.length : Int) == 0)))) (want := false) (by decide) rfl hb30 ?_
              refine o_guardN (j := 12) (e := (!(((r5.1.length : Int) == 0) == ((a1.length : Int) == 0)))) (want := false) (by decide) rfl hb30 ?_
              refine o_guardN (j := 12) (e := (!(((r5.1.length : Int) == 0) == ((a1.length : Int) == 0)))) (want := false) (by decide) rfl hb30 ?_
              refine o_guardU (j := 16) (by decide) rfl ?_
              refine o_guardU (j := 16) (by decide) rfl ?_
              refine o_guardU (j := 16) (by decide) rfl ?_
              refine o_guardU (j := 16) (by decide) rfl ?_
              refine o_guardU (j := 16) (by decide) rfl ?_
              refine o_guardN (j := 12) (e := (!(((r5.1.length : Int) == 0) == ((a1.length : Int) == 0)))) (want := false) (by decide) rfl hb30 ?_
              refine o_pickT (v := .v (.bool true)) (e := (!(((r5.1.length : Int) == 0) == ((a1.length : Int) == 0)))) (by decide) rfl hb30 rfl ?_
              refine run_nil ?_
              exact w_goto true (.cons (.refl _) (.cons (.refl _) (.cons (.refl _) (.cons (.refl _) .nil)))) ⟨(hS.keep [true] rfl).up (by omega), hM⟩
            · replace hM := ifF hM hb30
              refine o_guardY (j := 12) (e := (!(((r5.1.length : Int) == 0) == ((a1.length : Int) == 0)))) (want := false) rfl hb30 ?_
              refine o_move (v := .sl .no 1 (r5.1.map cI)) (by decide) rfl ?_
              refine o_guardY (j := 12) (e := (!(((r5.1.length : Int) == 0) == ((a1.length : Int) == 0)))) (want := false) rfl hb30 ?_
              refine o_len (n := r5.1.length) (by decide) rfl (List.length_map _) ty_isl22 ?_
              refine o_guardY (j := 12) (e := (!(((r5.1.length : Int) == 0) == ((a1.length : Int) == 0)))) (want := false) rfl hb30 ?_
              refine o_int (v := .v (.bool (decide ((r5.1.length : Int) > 0)))) (by decide) rfl rfl rfl ?_
              refine o_guardY (j := 12) (e := (!(((r5.1.length : Int) == 0) == ((a1.length : Int) == 0)))) (want := false) rfl hb30 ?_
              refine o_move (v := .v (.bool (decide ((r5.1.length : Int) > 0)))) (by decide) rfl ?_
              rcases Bool.eq_false_or_eq_true (decide ((r5.1.length : Int) > 0)) with hb31 | hb31
              · replace hM := ifT hM hb31
                refine o_guardY (j := 16) (e := (decide ((r5.1.length : Int) > 0))) (want := true) rfl hb31 ?_
                refine o_move (v := .sl .no 1 (r5.1.map cI)) (by decide) rfl ?_
                refine o_guardY (j := 16) (e := (decide ((r5.1.length : Int) > 0))) (want := true) rfl hb31 ?_
                obtain ⟨x32, hx32, hM⟩ := bindE hM
                refine o_index (xs := r5.1) (f := cI) (z := 0) (u := x32) (by decide) rfl rfl ty_es22 hx32 ?_
                refine o_guardY (j := 16) (e := (decide ((r5.1.length : Int) > 0))) (want := true) rfl hb31 ?_
                refine o_loadE (v := .v (.int .i64 x32)) (by decide) rfl (part_one ty_agg3 ty_sc3 rfl) ?_
                refine o_guardY (j := 16) (e := (decide ((r5.1.length : Int) > 0))) (want := true) rfl hb31 ?_
                refine o_move (v := .v (.int .i64 a2)) (by decide) rfl ?_
                refine o_guardY (j := 16) (e := (decide ((r5.1.length : Int) > 0))) (want := true) rfl hb31 ?_
                refine o_int (v := .v (.bool (x32 != a2))) (by decide) rfl rfl rfl ?_
                refine o_guardY (j := 12) (e := (!(((r5.1.length : Int) == 0) == ((a1.length : Int) == 0)))) (want := false) rfl hb30 ?_
                refine o_pickT (v := .v (.bool (x32 != a2))) (e := (decide ((r5.1.length : Int) > 0))) (by decide) rfl hb31 rfl ?_
                refine o_pickF (v := .v (.bool (x32 != a2))) (e := (!(((r5.1.length : Int) == 0) == ((a1.length : Int) == 0)))) (by decide) rfl hb30 rfl ?_
                refine run_nil ?_
                exact w_goto (x32 != a2) (.cons (.refl _) (.cons (.refl _) (.cons (.refl _) (.cons (.refl _) .nil)))) ⟨(hS.keep [true] rfl).up (by omega), hM⟩
              · replace hM := ifF hM hb31
                refine o_guardN (j := 16) (e := (decide ((r5.1.length : Int) > 0))) (want := true) (by decide) rfl hb31 ?_
                refine o_guardN (j := 16) (e := (decide ((r5.1.length : Int) > 0))) (want := true) (by decide) rfl hb31 ?_
                refine o_guardN (j := 16) (e := (decide ((r5.1.length : Int) > 0))) (want := true) (by decide) rfl hb31 ?_
                refine o_guardN (j := 16) (e := (decide ((r5.1.length : Int) > 0))) (want := true) (by decide) rfl hb31 ?_
                refine o_guardN (j := 16) (e := (decide ((r5.1.length : Int) > 0))) (want := true) (by decide) rfl hb31 ?_
                refine o_guardY (j := 12) (e := (!(((r5.1.length : Int) == 0) == ((a1.length : Int) == 0)))) (want := false) rfl hb30 ?_
                refine o_pickF (v := .v (.bool false)) (e := (decide ((r5.1.length : Int) > 0))) (by decide) rfl hb31 rfl ?_
                refine o_pickF (v := .v (.bool false)) (e := (!(((r5.1.length : Int) == 0) == ((a1.length : Int) == 0)))) (by decide) rfl hb30 rfl ?_
                refine run_nil ?_
                exact w_goto false (.cons (.refl _) (.cons (.refl _) (.cons (.refl _) (.cons (.refl _) .nil)))) ⟨(hS.keep [true] rfl).up (by omega), hM⟩
  · refine r_region (n := 25) rfl ?_
    refine o_fieldP (by decide) ty_fo24_7 rfl ?_
    refine o_load (v := .sl .no 1 (a0.Times.map cI)) 0 hS (by decide) rfl rfl .no (part_one ty_agg22 ty_sc22 rfl) ?_
    refine o_len (n := a0.Times.length) (by decide) rfl (List.length_map _) ty_isl22 ?_
    refine o_int (v := .v (.bool (decide ((a0.Times.length : Int) > 40)))) (by decide) rfl rfl rfl ?_
    refine o_move (v := .v (.bool (decide ((a0.Times.length : Int) > 40)))) (by decide) rfl ?_
    rcases Bool.eq_false_or_eq_true (decide ((a0.Times.length : Int) > 40)) with hb33 | hb33
    · replace hM := ifT hM hb33
      refine o_guardN (j := 4) (e := (decide ((a0.Times.length : Int) > 40))) (want := false) (by decide) rfl hb33 ?_
      refine o_guardN (j := 4) (e := (decide ((a0.Times.length : Int) > 40))) (want := false) (by decide) rfl hb33 ?_
      refine o_guardN (j := 4) (e := (decide ((a0.Times.length : Int) > 40))) (want := false) (by decide) rfl hb33 ?_
      refine o_pickT (v := .v (.bool true)) (e := (decide ((a0.Times.length : Int) > 40))) (by decide) rfl hb33 rfl ?_
      refine o_move (v := .v (.bool true)) (by decide) rfl ?_
      refine o_guardN (j := 9) (e := true) (want := false) (by decide) rfl rfl ?_
      refine o_guardN (j := 9) (e := true) (want := false) (by decide) rfl rfl ?_
      refine o_guardN (j := 9) (e := true) (want := false) (by decide) rfl rfl ?_
      refine o_pickT (v := .v (.bool true)) (e := true) (by decide) rfl rfl rfl ?_
      refine o_move (v := .v (.bool true)) (by decide) rfl ?_
      refine o_guardN (j := 14) (e := true) (want := false) (by decide) rfl rfl ?_
      refine o_guardN (j := 14) (e := true) (want := false) (by decide) rfl rfl ?_
      refine o_guardN (j := 14) (e := true) (want := false) (by decide) rfl rfl ?_
      refine o_guardN (j := 14) (e := true) (want := false) (by decide) rfl rfl ?_
      refine o_pickT (v := .v (.bool true)) (e := true) (by decide) rfl rfl rfl ?_
      refine o_move (v := .v (.bool true)) (by decide) rfl ?_
      refine o_guardN (j := 20) (e := true) (want := false) (by decide) rfl rfl ?_
      refine o_guardN (j := 20) (e := true) (want := false) (by decide) rfl rfl ?_
      refine o_guardN (j := 20) (e := true) (want := false) (by decide) rfl rfl ?_
      refine o_pickT (v := .v (.bool true)) (e := true) (by decide) rfl rfl rfl ?_
      refine run_nil ?_
      exact w_goto true (.cons (.refl _) (.cons (.refl _) (.cons (.refl _) (.cons (.refl _) .nil)))) ⟨(hS.keep [true] rfl).up (by omega), hM⟩
    · replace hM := ifF hM hb33
      refine o_guardY (j := 4) (e := (decide ((a0.Times.length : Int) > 40))) (want := false) rfl hb33 ?_
      refine o_load (v := .agg [.v (.int .i64 a0.Letters), .v (.int .i64 a0.Numbers), .v (.int .i64 a0.Pitch), .v (.int .i64 a0.Slack), .v (.int .i64 a0.Gap), .v (.int .i64 a0.Pause), .v (.int .i64 a0.Sparks), .sl .no 1 (a0.Times.map cI)]) 0 hS (by decide) rfl rfl .no (part_agg ty_agg24 (Nat.le_of_ble_eq_true rfl) rfl) ?_
      refine o_guardY (j := 4) (e := (decide ((a0.Times.length : Int) > 40))) (want := false) rfl hb33 ?_
      obtain ⟨r34, hr34, hM⟩ := bindE hM
      refine o_call (bs := [.agg [.v (.int .i64 a0.Letters), .v (.int .i64 a0.Numbers), .v (.int .i64 a0.Pitch), .v (.int .i64 a0.Slack), .v (.int .i64 a0.Gap), .v (.int .i64 a0.Pause), .v (.int .i64 a0.Sparks), .sl .no 1 (a0.Times.map cI)]]) (by decide) rfl rfl ((W_ref13_Check hr34).le (.cons (.refl _) .nil)) ?_
      refine o_guardY (j := 4) (e := (decide ((a0.Times.length : Int) > 40))) (want := false) rfl hb33 ?_
      refine o_int (v := .v (.bool (r34 != 0))) (by decide) rfl rfl rfl ?_
      refine o_pickF (v := .v (.bool (r34 != 0))) (e := (decide ((a0.Times.length : Int) > 40))) (by decide) rfl hb33 rfl ?_
      refine o_move (v := .v (.bool (r34 != 0))) (by decide) rfl ?_
      rcases Bool.eq_false_or_eq_true (r34 != 0) with hb35 | hb35
      · replace hM := ifT hM hb35
        refine o_guardN (j := 9) (e := (r34 != 0)) (want := false) (by decide) rfl hb35 ?_
        refine o_guardN (j := 9) (e := (r34 != 0)) (want := false) (by decide) rfl hb35 ?_
        refine o_guardN (j := 9) (e := (r34 != 0)) (want := false) (by decide) rfl hb35 ?_
        refine o_pickT (v := .v (.bool true)) (e := (r34 != 0)) (by decide) rfl hb35 rfl ?_
        refine o_move (v := .v (.bool true)) (by decide) rfl ?_
        refine o_guardN (j := 14) (e := true) (want := false) (by decide) rfl rfl ?_
        refine o_guardN (j := 14) (e := true) (want := false) (by decide) rfl rfl ?_
        refine o_guardN (j := 14) (e := true) (want := false) (by decide) rfl rfl ?_
        refine o_guardN (j := 14) (e := true) (want := false) (by decide) rfl rfl ?_
        refine o_pickT (v := .v (.bool true)) (e := true) (by decide) rfl rfl rfl ?_
        refine o_move (v := .v (.bool true)) (by decide) rfl ?_
        refine o_guardN (j := 20) (e := true) (want := false) (by decide) rfl rfl ?_
        refine o_guardN (j := 20) (e := true) (want := false) (by decide) rfl rfl ?_
        refine o_guardN (j := 20) (e := true) (want := false) (by decide) rfl rfl ?_
        refine o_pickT (v := .v (.bool true)) (e := true) (by decide) rfl rfl rfl ?_
        refine run_nil ?_
        exact w_goto true (.cons (.refl _) (.cons (.refl _) (.cons (.refl _) (.cons (.refl _) .nil)))) ⟨(hS.keep [true] rfl).up (by omega), hM⟩
      · replace hM := ifF hM hb35
        refine o_guardY (j := 9) (e := (r34 != 0)) (want := false) rfl hb35 ?_
        refine o_move (v := .sl .no 1 (a1.map cI)) (by decide) rfl ?_
        refine o_guardY (j := 9) (e := (r34 != 0)) (want := false) rfl hb35 ?_
        refine o_len (n := a1.length) (by decide) rfl (List.length_map _) ty_isl22 ?_
        refine o_guardY (j := 9) (e := (r34 != 0)) (want := false) rfl hb35 ?_
        refine o_int (v := .v (.bool (decide ((a1.length : Int) > 40)))) (by decide) rfl rfl rfl ?_
        refine o_pickF (v := .v (.bool (decide ((a1.length : Int) > 40)))) (e := (r34 != 0)) (by decide) rfl hb35 rfl ?_
        refine o_move (v := .v (.bool (decide ((a1.length : Int) > 40)))) (by decide) rfl ?_
        rcases Bool.eq_false_or_eq_true (decide ((a1.length : Int) > 40)) with hb36 | hb36
        · replace hM := ifT hM hb36
          refine o_guardN (j := 14) (e := (decide ((a1.length : Int) > 40))) (want := false) (by decide) rfl hb36 ?_
          refine o_guardN (j := 14) (e := (decide ((a1.length : Int) > 40))) (want := false) (by decide) rfl hb36 ?_
          refine o_guardN (j := 14) (e := (decide ((a1.length : Int) > 40))) (want := false) (by decide) rfl hb36 ?_
          refine o_guardN (j := 14) (e := (decide ((a1.length : Int) > 40))) (want := false) (by decide) rfl hb36 ?_
          refine o_pickT (v := .v (.bool true)) (e := (decide ((a1.length : Int) > 40))) (by decide) rfl hb36 rfl ?_
          refine o_move (v := .v (.bool true)) (by decide) rfl ?_
          refine o_guardN (j := 20) (e := true) (want := false) (by decide) rfl rfl ?_
          refine o_guardN (j := 20) (e := true) (want := false) (by decide) rfl rfl ?_
          refine o_guardN (j := 20) (e := true) (want := false) (by decide) rfl rfl ?_
          refine o_pickT (v := .v (.bool true)) (e := true) (by decide) rfl rfl rfl ?_
          refine run_nil ?_
          exact w_goto true (.cons (.refl _) (.cons (.refl _) (.cons (.refl _) (.cons (.refl _) .nil)))) ⟨(hS.keep [true] rfl).up (by omega), hM⟩
        · replace hM := ifF hM hb36
          refine o_guardY (j := 14) (e := (decide ((a1.length : Int) > 40))) (want := false) rfl hb36 ?_
          refine o_load (v := .agg [.v (.int .i64 a0.Letters), .v (.int .i64 a0.Numbers), .v (.int .i64 a0.Pitch), .v (.int .i64 a0.Slack), .v (.int .i64 a0.Gap), .v (.int .i64 a0.Pause), .v (.int .i64 a0.Sparks), .sl .no 1 (a0.Times.map cI)]) 0 hS (by decide) rfl rfl .no (part_agg ty_agg24 (Nat.le_of_ble_eq_true rfl) rfl) ?_
          refine o_guardY (j := 14) (e := (decide ((a1.length : Int) > 40))) (want := false) rfl hb36 ?_
          refine o_move (v := .sl .no 1 (a1.map cI)) (by decide) rfl ?_
          refine o_guardY (j := 14) (e := (decide ((a1.length : Int) > 40))) (want := false) rfl hb36 ?_
          obtain ⟨r37, hr37, hM⟩ := bindE hM
          refine o_call (bs := [.agg [.v (.int .i64 a0.Letters), .v (.int .i64 a0.Numbers), .v (.int .i64 a0.Pitch), .v (.int .i64 a0.Slack), .v (.int .i64 a0.Gap), .v (.int .i64 a0.Pause), .v (.int .i64 a0.Sparks), .sl .no 1 (a0.Times.map cI)], .sl .no 1 (a1.map cI)]) (by decide) rfl rfl ((W_ref13_IsList hr37).le (.cons (.refl _) (.cons (.refl _) .nil))) ?_
          refine o_guardY (j := 14) (e := (decide ((a1.length : Int) > 40))) (want := false) rfl hb36 ?_
          refine o_not (e := r37) (by decide) rfl ?_
          refine o_pickF (v := .v (.bool (!r37))) (e := (decide ((a1.length : Int) > 40))) (by decide) rfl hb36 rfl ?_
          refine o_move (v := .v (.bool (!r37))) (by decide) rfl ?_
          rcases Bool.eq_false_or_eq_true (!r37) with hb38 | hb38
          · replace hM := ifT hM hb38
            refine o_guardN (j := 20) (e := (!r37)) (want := false) (by decide) rfl hb38 ?_
            refine o_guardN (j := 20) (e := (!r37)) (want := false) (by decide) rfl hb38 ?_
            refine o_guardN (j := 20) (e := (!r37)) (want := false) (by decide) rfl hb38 ?_
            refine o_pickT (v := .v (.bool true)) (e := (!r37)) (by decide) rfl hb38 rfl ?_
            refine run_nil ?_
            exact w_goto true (.cons (.refl _) (.cons (.refl _) (.cons (.refl _) (.cons (.refl _) .nil)))) ⟨(hS.keep [true] rfl).up (by omega), hM⟩
          · replace hM := ifF hM hb38
            refine o_guardY (j := 20) (e := (!r37)) (want := false) rfl hb38 ?_
            refine o_move (v := .v (.int .i64 a2)) (by decide) rfl ?_
            refine o_guardY (j := 20) (e := (!r37)) (want := false) rfl hb38 ?_
            obtain ⟨r39, hr39, hM⟩ := bindE hM
            refine o_call (bs := [.v (.int .i64 a2), .v (.int .i64 0), .v (.int .i64 99999)]) (by decide) rfl rfl ((W_ref01_Within hr39).le (.cons (.refl _) (.cons (.refl _) (.cons (.refl _) .nil)))) ?_
            refine o_guardY (j := 20) (e := (!r37)) (want := false) rfl hb38 ?_
            refine o_not (e := r39) (by decide) rfl ?_
            refine o_pickF (v := .v (.bool (!r39))) (e := (!r37)) (by decide) rfl hb38 rfl ?_
            refine run_nil ?_
            exact w_goto (!r39) (.cons (.refl _) (.cons (.refl _) (.cons (.refl _) (.cons (.refl _) .nil)))) ⟨(hS.keep [true] rfl).up (by omega), hM⟩
end Go.Proofs.Ytekplngjaddccaa
