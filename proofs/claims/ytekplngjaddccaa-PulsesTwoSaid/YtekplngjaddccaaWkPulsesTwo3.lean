/-
  The code returns what the functions say (printed by gen.py).
  Conditions: none.
-/
import Derived.Test.YtekplngjaddccaaWkPulsesTwo2
set_option linter.all false
namespace Go.Proofs.Ytekplngjaddccaa
open Go Go.AM Go.Law
set_option linter.unusedVariables false
set_option maxRecDepth 4000
set_option maxHeartbeats 4000000
theorem W_law13_PulsesTwo {n : Nat} {a0 : Pulse} {a1 : List Int} {r : Bool} (hM : law13_PulsesTwo n a0 a1 = some r) : PureSat Try.prog 6 [.agg [.v (.int .i64 a0.Letters), .v (.int .i64 a0.Numbers), .v (.int .i64 a0.Pitch), .v (.int .i64 a0.Slack), .v (.int .i64 a0.Gap), .v (.int .i64 a0.Pause), .v (.int .i64 a0.Sparks), .sl .no 1 (a0.Times.map cI)], .sl .no 1 (a1.map cI)] (.v (.bool r)) := by
  refine pure_of_wp mixed Try.func6 rfl (by decide) Try.ntmps6 (by simp) ?pure fun H0 g hf => ?_
  case pure => exact .v _
  rw [frame0_of]
  change wpA _ _ _ _ (Fr.of [(0, .agg [.v (.int .i64 a0.Letters), .v (.int .i64 a0.Numbers), .v (.int .i64 a0.Pitch), .v (.int .i64 a0.Slack), .v (.int .i64 a0.Gap), .v (.int .i64 a0.Pause), .v (.int .i64 a0.Sparks), .sl .no 1 (a0.Times.map cI)]), (1, .sl .no 1 (a1.map cI))]) H0 g
  have hS := St.start hf
  refine r_seq ?_
  refine r_region (n := 2) rfl ?_
  refine o_box (v := .agg [.v (.int .i64 a0.Letters), .v (.int .i64 a0.Numbers), .v (.int .i64 a0.Pitch), .v (.int .i64 a0.Slack), .v (.int .i64 a0.Gap), .v (.int .i64 a0.Pause), .v (.int .i64 a0.Sparks), .sl .no 1 (a0.Times.map cI)]) (cs := [.v (.int .i64 a0.Letters), .v (.int .i64 a0.Numbers), .v (.int .i64 a0.Pitch), .v (.int .i64 a0.Slack), .v (.int .i64 a0.Gap), .v (.int .i64 a0.Pause), .v (.int .i64 a0.Sparks), .sl .no 1 (a0.Times.map cI)]) hS (by decide) rfl rfl (by omega) fun H hS => ?_
  refine o_assign (v := .v (.bool false)) (by decide) rfl ?_
  refine run_nil ?_
  refine w_next [(1, .sl .no 1 (a1.map cI)), (2, .ptr (g + 0) 0)] (.cons (.refl _) (.cons (.refl _) .nil)) ?_
  refine r_seq ?_
  refine w_join (J := Bool) (fun j => [(1, .sl .no 1 (a1.map cI)), (2, .ptr (g + 0) 0), (25, .v (.bool j))]) (fun j H' g' => St (· < g) H0 [(g + 0, .cells [.v (.int .i64 a0.Letters), .v (.int .i64 a0.Numbers), .v (.int .i64 a0.Pitch), .v (.int .i64 a0.Slack), .v (.int .i64 a0.Gap), .v (.int .i64 a0.Pause), .v (.int .i64 a0.Sparks), .sl .no 1 (a0.Times.map cI)])] H' g' ∧ law13_PulsesTwo_j1 n a0 a1 j = some r) ?_ ?_
  · rintro v1 H g1 ⟨hS, hM⟩
    change wpA _ _ _ _ (Fr.of [(1, .sl .no 1 (a1.map cI)), (2, .ptr (g + 0) 0), (25, .v (.bool v1))]) _ _
    replace hS : St (· < g) H0 [(g + 0, .cells [.v (.int .i64 a0.Letters), .v (.int .i64 a0.Numbers), .v (.int .i64 a0.Pitch), .v (.int .i64 a0.Slack), .v (.int .i64 a0.Gap), .v (.int .i64 a0.Pause), .v (.int .i64 a0.Sparks), .sl .no 1 (a0.Times.map cI)])] H g1 := hS
    replace hM : law13_PulsesTwo_j1 n a0 a1 v1 = some r := hM
    rcases Bool.eq_false_or_eq_true v1 with hb2 | hb2
    · replace hM := ifT hM hb2
      refine w_condT (e := v1) rfl hb2 ?_
      refine r_seq ?_
      refine r_region (n := 2) rfl ?_
      obtain ⟨r3, hr3, hM⟩ := bindE hM
      refine o_call (bs := []) (by decide) rfl rfl ((W_law13_works hr3).le .nil) ?_
      refine o_assign (v := .v (.bool r3)) (by decide) rfl ?_
      refine run_nil ?_
      replace hS := hS.keep (L' := []) [false] rfl
      refine w_next [(4, .v (.bool r3))] (.cons (.refl _) .nil) ?_
      refine r_ret ?_
      refine r_then_ret ?_
      refine w_end (x := .v (.bool r3)) (f := fun r => .v (.bool r)) (.inr rfl) ?_ (.refl _) (Option.some.inj hM) hS
      exact (res_one (res_tmp (x := .v (.bool r3)) rfl))
    · replace hM := ifF hM hb2
      refine w_condF (e := v1) rfl hb2 ?_
      refine r_skip ?_
      refine w_next [(1, .sl .no 1 (a1.map cI)), (2, .ptr (g + 0) 0)] (.cons (.refl _) (.cons (.refl _) .nil)) ?_
      refine r_seq ?_
      have hS0 := hS
      refine r_draw (n := 8) rfl (by kernel_rfl) ?_
      refine o_load (v := .agg [.v (.int .i64 a0.Letters), .v (.int .i64 a0.Numbers), .v (.int .i64 a0.Pitch), .v (.int .i64 a0.Slack), .v (.int .i64 a0.Gap), .v (.int .i64 a0.Pause), .v (.int .i64 a0.Sparks), .sl .no 1 (a0.Times.map cI)]) 0 hS (by decide) rfl rfl (.st hS0 0 rfl (by omega)) (part_agg ty_agg24 (Nat.le_of_ble_eq_true rfl) rfl) ?_
      obtain ⟨r4, hr4, hM⟩ := bindE hM
      refine o_own1 (mk := (aggAt [.v (.int .i64 r4.Letters), .v (.int .i64 r4.Numbers), .v (.int .i64 r4.Pitch), .v (.int .i64 r4.Slack), .v (.int .i64 r4.Gap), .v (.int .i64 r4.Pause), .v (.int .i64 r4.Sparks)] [])) (k := 1) (e := 3) (es := (r4.Times.map cI)) (bs := [.agg [.v (.int .i64 a0.Letters), .v (.int .i64 a0.Numbers), .v (.int .i64 a0.Pitch), .v (.int .i64 a0.Slack), .v (.int .i64 a0.Gap), .v (.int .i64 a0.Pause), .v (.int .i64 a0.Sparks), .sl .no 1 (a0.Times.map cI)]]) hS (by decide) rfl rfl ((WO_ref13_Copy hr4).le (.cons (.refl _) .nil)) (aggAt_ok (fl_cons (fl_cons (fl_cons (fl_cons (fl_cons (fl_cons (fl_cons fl_nil))))))) fl_nil) (pl_cons (.agg _ (pl_cons (.v _) (pl_cons (.v _) (pl_cons (.v _) (pl_cons (.v _) (pl_cons (.v _) (pl_cons (.v _) (pl_cons (.v _) (pl_cons (.sl _ _ (pures_map (fun x => (pl_cons (.v _) pl_nil)))) pl_nil))))))))) pl_nil) (fl_map (fun x => (fl_cons fl_nil))) (by omega) fun H hS => ?_
      rw [List.length_map] at hS
      refine o_load (v := .agg [.v (.int .i64 a0.Letters), .v (.int .i64 a0.Numbers), .v (.int .i64 a0.Pitch), .v (.int .i64 a0.Slack), .v (.int .i64 a0.Gap), .v (.int .i64 a0.Pause), .v (.int .i64 a0.Sparks), .sl .no 1 (a0.Times.map cI)]) 1 hS (by decide) rfl rfl (.st hS0 0 rfl (by omega)) (part_agg ty_agg24 (Nat.le_of_ble_eq_true rfl) rfl) ?_
      obtain ⟨r5, hr5, hM⟩ := bindE hM
      refine o_own1 (mk := (aggAt [.v (.int .i64 r5.Letters), .v (.int .i64 r5.Numbers), .v (.int .i64 r5.Pitch), .v (.int .i64 r5.Slack), .v (.int .i64 r5.Gap), .v (.int .i64 r5.Pause), .v (.int .i64 r5.Sparks)] [])) (k := 1) (e := 3) (es := (r5.Times.map cI)) (bs := [.agg [.v (.int .i64 a0.Letters), .v (.int .i64 a0.Numbers), .v (.int .i64 a0.Pitch), .v (.int .i64 a0.Slack), .v (.int .i64 a0.Gap), .v (.int .i64 a0.Pause), .v (.int .i64 a0.Sparks), .sl .no 1 (a0.Times.map cI)]]) hS (by decide) rfl rfl ((WO_ref13_Copy hr5).le (.cons (.refl _) .nil)) (aggAt_ok (fl_cons (fl_cons (fl_cons (fl_cons (fl_cons (fl_cons (fl_cons fl_nil))))))) fl_nil) (pl_cons (.agg _ (pl_cons (.v _) (pl_cons (.v _) (pl_cons (.v _) (pl_cons (.v _) (pl_cons (.v _) (pl_cons (.v _) (pl_cons (.v _) (pl_cons (.sl _ _ (pures_map (fun x => (pl_cons (.v _) pl_nil)))) pl_nil))))))))) pl_nil) (fl_map (fun x => (fl_cons fl_nil))) (by omega) fun H hS => ?_
      rw [List.length_map] at hS
      refine o_alloc hS (by decide) ty_zero24 (by omega) fun H hS => ?_
      refine o_alloc hS (by decide) ty_zero24 (by omega) fun H hS => ?_
      refine o_store (v := .agg [.v (.int .i64 r4.Letters), .v (.int .i64 r4.Numbers), .v (.int .i64 r4.Pitch), .v (.int .i64 r4.Slack), .v (.int .i64 r4.Gap), .v (.int .i64 r4.Pause), .v (.int .i64 r4.Sparks), .sl (.id (g1 + 1)) 1 (r4.Times.map cI)]) (ns := [.v (.int .i64 r4.Letters), .v (.int .i64 r4.Numbers), .v (.int .i64 r4.Pitch), .v (.int .i64 r4.Slack), .v (.int .i64 r4.Gap), .v (.int .i64 r4.Pause), .v (.int .i64 r4.Sparks), .sl (.id (g1 + 1)) 1 (r4.Times.map cI)]) (L' := [(g1 + 5, .cells [.v (.int .i64 0), .v (.int .i64 0), .v (.int .i64 0), .v (.int .i64 0), .v (.int .i64 0), .v (.int .i64 0), .v (.int .i64 0), .sl .nil 0 []]), (g1 + 4, .cells [.v (.int .i64 r4.Letters), .v (.int .i64 r4.Numbers), .v (.int .i64 r4.Pitch), .v (.int .i64 r4.Slack), .v (.int .i64 r4.Gap), .v (.int .i64 r4.Pause), .v (.int .i64 r4.Sparks), .sl (.id (g1 + 1)) 1 (r4.Times.map cI)]), (g1 + 3, .row 3 r5.Times.length), (g1 + 1, .row 3 r4.Times.length), (g + 0, .cells [.v (.int .i64 a0.Letters), .v (.int .i64 a0.Numbers), .v (.int .i64 a0.Pitch), .v (.int .i64 a0.Slack), .v (.int .i64 a0.Gap), .v (.int .i64 a0.Pause), .v (.int .i64 a0.Sparks), .sl .no 1 (a0.Times.map cI)])]) 1 hS rfl rfl (.behind (by kernel_rfl)) rfl rfl ty_var24 (Nat.le_of_ble_eq_true rfl) rfl fun H hS => ?_
      refine o_store (v := .agg [.v (.int .i64 r5.Letters), .v (.int .i64 r5.Numbers), .v (.int .i64 r5.Pitch), .v (.int .i64 r5.Slack), .v (.int .i64 r5.Gap), .v (.int .i64 r5.Pause), .v (.int .i64 r5.Sparks), .sl (.id (g1 + 3)) 1 (r5.Times.map cI)]) (ns := [.v (.int .i64 r5.Letters), .v (.int .i64 r5.Numbers), .v (.int .i64 r5.Pitch), .v (.int .i64 r5.Slack), .v (.int .i64 r5.Gap), .v (.int .i64 r5.Pause), .v (.int .i64 r5.Sparks), .sl (.id (g1 + 3)) 1 (r5.Times.map cI)]) (L' := [(g1 + 5, .cells [.v (.int .i64 r5.Letters), .v (.int .i64 r5.Numbers), .v (.int .i64 r5.Pitch), .v (.int .i64 r5.Slack), .v (.int .i64 r5.Gap), .v (.int .i64 r5.Pause), .v (.int .i64 r5.Sparks), .sl (.id (g1 + 3)) 1 (r5.Times.map cI)]), (g1 + 4, .cells [.v (.int .i64 r4.Letters), .v (.int .i64 r4.Numbers), .v (.int .i64 r4.Pitch), .v (.int .i64 r4.Slack), .v (.int .i64 r4.Gap), .v (.int .i64 r4.Pause), .v (.int .i64 r4.Sparks), .sl (.id (g1 + 1)) 1 (r4.Times.map cI)]), (g1 + 3, .row 3 r5.Times.length), (g1 + 1, .row 3 r4.Times.length), (g + 0, .cells [.v (.int .i64 a0.Letters), .v (.int .i64 a0.Numbers), .v (.int .i64 a0.Pitch), .v (.int .i64 a0.Slack), .v (.int .i64 a0.Gap), .v (.int .i64 a0.Pause), .v (.int .i64 a0.Sparks), .sl .no 1 (a0.Times.map cI)])]) 0 hS rfl rfl (.behind (by kernel_rfl)) rfl rfl ty_var24 (Nat.le_of_ble_eq_true rfl) rfl fun H hS => ?_
      refine run_nil ?_
      refine w_next [(1, .sl .no 1 (a1.map cI)), (2, .ptr (g + 0) 0), (5, .ptr (g1 + 4) 0), (6, .ptr (g1 + 5) 0)] (.cons (.refl _) (.cons (.refl _) (.cons (.refl _) (.cons (.refl _) .nil)))) ?_
      refine r_seq ?_
      refine r_region (n := 2) rfl ?_
      refine o_fieldP (by decide) ty_fo24_7 rfl ?_
      refine o_store (v := .sl .nil 0 []) (ns := [.sl .nil 0 []]) (L' := [(g1 + 5, .cells [.v (.int .i64 r5.Letters), .v (.int .i64 r5.Numbers), .v (.int .i64 r5.Pitch), .v (.int .i64 r5.Slack), .v (.int .i64 r5.Gap), .v (.int .i64 r5.Pause), .v (.int .i64 r5.Sparks), .sl (.id (g1 + 3)) 1 (r5.Times.map cI)]), (g1 + 4, .cells [.v (.int .i64 r4.Letters), .v (.int .i64 r4.Numbers), .v (.int .i64 r4.Pitch), .v (.int .i64 r4.Slack), .v (.int .i64 r4.Gap), .v (.int .i64 r4.Pause), .v (.int .i64 r4.Sparks), .sl .nil 0 []]), (g1 + 3, .row 3 r5.Times.length), (g1 + 1, .row 3 r4.Times.length), (g + 0, .cells [.v (.int .i64 a0.Letters), .v (.int .i64 a0.Numbers), .v (.int .i64 a0.Pitch), .v (.int .i64 a0.Slack), .v (.int .i64 a0.Gap), .v (.int .i64 a0.Pause), .v (.int .i64 a0.Sparks), .sl .no 1 (a0.Times.map cI)])]) 1 hS rfl rfl .no rfl rfl ty_var22 (Nat.le_of_ble_eq_true rfl) rfl fun H hS => ?_
      refine run_nil ?_
      refine w_ownC (cs' := [.v (.int .i64 r4.Letters), .v (.int .i64 r4.Numbers), .v (.int .i64 r4.Pitch), .v (.int .i64 r4.Slack), .v (.int .i64 r4.Gap), .v (.int .i64 r4.Pause), .v (.int .i64 r4.Sparks), .sl (.id (g1 + 8 + 2)) 1 (([] : List Int).map cI)]) (L' := [(g1 + 5, .cells [.v (.int .i64 r5.Letters), .v (.int .i64 r5.Numbers), .v (.int .i64 r5.Pitch), .v (.int .i64 r5.Slack), .v (.int .i64 r5.Gap), .v (.int .i64 r5.Pause), .v (.int .i64 r5.Sparks), .sl (.id (g1 + 3)) 1 (r5.Times.map cI)]), (g1 + 4, .cells [.v (.int .i64 r4.Letters), .v (.int .i64 r4.Numbers), .v (.int .i64 r4.Pitch), .v (.int .i64 r4.Slack), .v (.int .i64 r4.Gap), .v (.int .i64 r4.Pause), .v (.int .i64 r4.Sparks), .sl (.id (g1 + 8 + 2)) 1 (([] : List Int).map cI)]), (g1 + 3, .row 3 r5.Times.length), (g1 + 1, .row 3 r4.Times.length), (g + 0, .cells [.v (.int .i64 a0.Letters), .v (.int .i64 a0.Numbers), .v (.int .i64 a0.Pitch), .v (.int .i64 a0.Slack), .v (.int .i64 a0.Gap), .v (.int .i64 a0.Pause), .v (.int .i64 a0.Sparks), .sl .no 1 (a0.Times.map cI)])]) 1 7 1 3 hS (by omega) (by decide) rfl rfl rfl rfl fun H hS => ?_
      replace hS := hS.keep (L' := [(g1 + 8 + 2, .row 3 0), (g1 + 5, .cells [.v (.int .i64 r5.Letters), .v (.int .i64 r5.Numbers), .v (.int .i64 r5.Pitch), .v (.int .i64 r5.Slack), .v (.int .i64 r5.Gap), .v (.int .i64 r5.Pause), .v (.int .i64 r5.Sparks), .sl (.id (g1 + 3)) 1 (r5.Times.map cI)]), (g1 + 4, .cells [.v (.int .i64 r4.Letters), .v (.int .i64 r4.Numbers), .v (.int .i64 r4.Pitch), .v (.int .i64 r4.Slack), .v (.int .i64 r4.Gap), .v (.int .i64 r4.Pause), .v (.int .i64 r4.Sparks), .sl (.id (g1 + 8 + 2)) 1 (([] : List Int).map cI)]), (g1 + 3, .row 3 r5.Times.length), (g + 0, .cells [.v (.int .i64 a0.Letters), .v (.int .i64 a0.Numbers), .v (.int .i64 a0.Pitch), .v (.int .i64 a0.Slack), .v (.int .i64 a0.Gap), .v (.int .i64 a0.Pause), .v (.int .i64 a0.Sparks), .sl .no 1 (a0.Times.map cI)])]) [true, true, true, true, false, true] rfl
      refine w_next [(1, .sl .no 1 (a1.map cI)), (2, .ptr (g + 0) 0), (5, .ptr (g1 + 4) 0), (6, .ptr (g1 + 5) 0)] (.cons (.refl _) (.cons (.refl _) (.cons (.refl _) (.cons (.refl _) .nil)))) ?_
      refine r_seq ?_
      refine r_region (n := 1) rfl ?_
      refine o_assign (v := .v (.int .i64 0)) (by decide) rfl ?_
      refine run_nil ?_
      refine w_next [(1, .sl .no 1 (a1.map cI)), (2, .ptr (g + 0) 0), (5, .ptr (g1 + 4) 0), (6, .ptr (g1 + 5) 0), (7, .v (.int .i64 0))] (.cons (.refl _) (.cons (.refl _) (.cons (.refl _) (.cons (.refl _) (.cons (.refl _) .nil))))) ?_
      refine w_join (J := Int) (fun j => [(1, .sl .no 1 (a1.map cI)), (2, .ptr (g + 0) 0), (5, .ptr (g1 + 4) 0), (6, .ptr (g1 + 5) 0), (7, .v (.int .i64 j))]) (fun j H' g' => St (· < g) H0 [(g1 + 8 + 2, .row 3 ([] : List Int).length), (g1 + 5, .cells [.v (.int .i64 r5.Letters), .v (.int .i64 r5.Numbers), .v (.int .i64 r5.Pitch), .v (.int .i64 r5.Slack), .v (.int .i64 r5.Gap), .v (.int .i64 r5.Pause), .v (.int .i64 r5.Sparks), .sl (.id (g1 + 3)) 1 (r5.Times.map cI)]), (g1 + 4, .cells [.v (.int .i64 r4.Letters), .v (.int .i64 r4.Numbers), .v (.int .i64 r4.Pitch), .v (.int .i64 r4.Slack), .v (.int .i64 r4.Gap), .v (.int .i64 r4.Pause), .v (.int .i64 r4.Sparks), .sl (.id (g1 + 8 + 2)) 1 (([] : List Int).map cI)]), (g1 + 3, .row 3 r5.Times.length), (g + 0, .cells [.v (.int .i64 a0.Letters), .v (.int .i64 a0.Numbers), .v (.int .i64 a0.Pitch), .v (.int .i64 a0.Slack), .v (.int .i64 a0.Gap), .v (.int .i64 a0.Pause), .v (.int .i64 a0.Sparks), .sl .no 1 (a0.Times.map cI)])] H' g' ∧ law13_PulsesTwo_j2 n a0 a1 r4 r5 j = some r) ?_ ?_
      · rintro v6 H g2 ⟨hS, hM⟩
        change wpA _ _ _ _ (Fr.of [(1, .sl .no 1 (a1.map cI)), (2, .ptr (g + 0) 0), (5, .ptr (g1 + 4) 0), (6, .ptr (g1 + 5) 0), (7, .v (.int .i64 v6))]) _ _
        replace hS : St (· < g) H0 [(g1 + 8 + 2, .row 3 ([] : List Int).length), (g1 + 5, .cells [.v (.int .i64 r5.Letters), .v (.int .i64 r5.Numbers), .v (.int .i64 r5.Pitch), .v (.int .i64 r5.Slack), .v (.int .i64 r5.Gap), .v (.int .i64 r5.Pause), .v (.int .i64 r5.Sparks), .sl (.id (g1 + 3)) 1 (r5.Times.map cI)]), (g1 + 4, .cells [.v (.int .i64 r4.Letters), .v (.int .i64 r4.Numbers), .v (.int .i64 r4.Pitch), .v (.int .i64 r4.Slack), .v (.int .i64 r4.Gap), .v (.int .i64 r4.Pause), .v (.int .i64 r4.Sparks), .sl (.id (g1 + 8 + 2)) 1 (([] : List Int).map cI)]), (g1 + 3, .row 3 r5.Times.length), (g + 0, .cells [.v (.int .i64 a0.Letters), .v (.int .i64 a0.Numbers), .v (.int .i64 a0.Pitch), .v (.int .i64 a0.Slack), .v (.int .i64 a0.Gap), .v (.int .i64 a0.Pause), .v (.int .i64 a0.Sparks), .sl .no 1 (a0.Times.map cI)])] H g2 := hS
        replace hM : law13_PulsesTwo_j2 n a0 a1 r4 r5 v6 = some r := hM
        refine w_join (J := (List Int) × (List Int)) (fun j => [(2, .ptr (g + 0) 0), (5, .ptr (g1 + 4) 0), (6, .ptr (g1 + 5) 0)]) (fun j H' g' => St (· < g) H0 [(g1 + 8 + 2, .row 3 j.2.length), (g1 + 5, .cells [.v (.int .i64 r5.Letters), .v (.int .i64 r5.Numbers), .v (.int .i64 r5.Pitch), .v (.int .i64 r5.Slack), .v (.int .i64 r5.Gap), .v (.int .i64 r5.Pause), .v (.int .i64 r5.Sparks), .sl (.id (g1 + 3)) 1 (j.1.map cI)]), (g1 + 4, .cells [.v (.int .i64 r4.Letters), .v (.int .i64 r4.Numbers), .v (.int .i64 r4.Pitch), .v (.int .i64 r4.Slack), .v (.int .i64 r4.Gap), .v (.int .i64 r4.Pause), .v (.int .i64 r4.Sparks), .sl (.id (g1 + 8 + 2)) 1 (j.2.map cI)]), (g1 + 3, .row 3 j.1.length), (g + 0, .cells [.v (.int .i64 a0.Letters), .v (.int .i64 a0.Numbers), .v (.int .i64 a0.Pitch), .v (.int .i64 a0.Slack), .v (.int .i64 a0.Gap), .v (.int .i64 a0.Pause), .v (.int .i64 a0.Sparks), .sl .no 1 (a0.Times.map cI)])] H' g' ∧ law13_PulsesTwo_j3 n a0 r4 r5 j.1 j.2 = some r) ?_ ?_
        · rintro ⟨v7, v8⟩ H g3 ⟨hS, hM⟩
          change wpA _ _ _ _ (Fr.of [(2, .ptr (g + 0) 0), (5, .ptr (g1 + 4) 0), (6, .ptr (g1 + 5) 0)]) _ _
          replace hS : St (· < g) H0 [(g1 + 8 + 2, .row 3 v8.length), (g1 + 5, .cells [.v (.int .i64 r5.Letters), .v (.int .i64 r5.Numbers), .v (.int .i64 r5.Pitch), .v (.int .i64 r5.Slack), .v (.int .i64 r5.Gap), .v (.int .i64 r5.Pause), .v (.int .i64 r5.Sparks), .sl (.id (g1 + 3)) 1 (v7.map cI)]), (g1 + 4, .cells [.v (.int .i64 r4.Letters), .v (.int .i64 r4.Numbers), .v (.int .i64 r4.Pitch), .v (.int .i64 r4.Slack), .v (.int .i64 r4.Gap), .v (.int .i64 r4.Pause), .v (.int .i64 r4.Sparks), .sl (.id (g1 + 8 + 2)) 1 (v8.map cI)]), (g1 + 3, .row 3 v7.length), (g + 0, .cells [.v (.int .i64 a0.Letters), .v (.int .i64 a0.Numbers), .v (.int .i64 a0.Pitch), .v (.int .i64 a0.Slack), .v (.int .i64 a0.Gap), .v (.int .i64 a0.Pause), .v (.int .i64 a0.Sparks), .sl .no 1 (a0.Times.map cI)])] H g3 := hS
          replace hM : law13_PulsesTwo_j3 n a0 r4 r5 v7 v8 = some r := hM
          refine r_seq ?_
          refine w_join (J := Bool) (fun j => [(2, .ptr (g + 0) 0), (5, .ptr (g1 + 4) 0), (6, .ptr (g1 + 5) 0), (91, .v (.bool j))]) (fun j H' g' => St (· < g) H0 [(g1 + 8 + 2, .row 3 v8.length), (g1 + 5, .cells [.v (.int .i64 r5.Letters), .v (.int .i64 r5.Numbers), .v (.int .i64 r5.Pitch), .v (.int .i64 r5.Slack), .v (.int .i64 r5.Gap), .v (.int .i64 r5.Pause), .v (.int .i64 r5.Sparks), .sl (.id (g1 + 3)) 1 (v7.map cI)]), (g1 + 4, .cells [.v (.int .i64 r4.Letters), .v (.int .i64 r4.Numbers), .v (.int .i64 r4.Pitch), .v (.int .i64 r4.Slack), .v (.int .i64 r4.Gap), .v (.int .i64 r4.Pause), .v (.int .i64 r4.Sparks), .sl (.id (g1 + 8 + 2)) 1 (v8.map cI)]), (g1 + 3, .row 3 v7.length), (g + 0, .cells [.v (.int .i64 a0.Letters), .v (.int .i64 a0.Numbers), .v (.int .i64 a0.Pitch), .v (.int .i64 a0.Slack), .v (.int .i64 a0.Gap), .v (.int .i64 a0.Pause), .v (.int .i64 a0.Sparks), .sl .no 1 (a0.Times.map cI)])] H' g' ∧ law13_PulsesTwo_j4 n a0 r4 r5 v7 v8 j = some r) ?_ ?_
          · rintro v9 H g4 ⟨hS, hM⟩
            change wpA _ _ _ _ (Fr.of [(2, .ptr (g + 0) 0), (5, .ptr (g1 + 4) 0), (6, .ptr (g1 + 5) 0), (91, .v (.bool v9))]) _ _
            replace hS : St (· < g) H0 [(g1 + 8 + 2, .row 3 v8.length), (g1 + 5, .cells [.v (.int .i64 r5.Letters), .v (.int .i64 r5.Numbers), .v (.int .i64 r5.Pitch), .v (.int .i64 r5.Slack), .v (.int .i64 r5.Gap), .v (.int .i64 r5.Pause), .v (.int .i64 r5.Sparks), .sl (.id (g1 + 3)) 1 (v7.map cI)]), (g1 + 4, .cells [.v (.int .i64 r4.Letters), .v (.int .i64 r4.Numbers), .v (.int .i64 r4.Pitch), .v (.int .i64 r4.Slack), .v (.int .i64 r4.Gap), .v (.int .i64 r4.Pause), .v (.int .i64 r4.Sparks), .sl (.id (g1 + 8 + 2)) 1 (v8.map cI)]), (g1 + 3, .row 3 v7.length), (g + 0, .cells [.v (.int .i64 a0.Letters), .v (.int .i64 a0.Numbers), .v (.int .i64 a0.Pitch), .v (.int .i64 a0.Slack), .v (.int .i64 a0.Gap), .v (.int .i64 a0.Pause), .v (.int .i64 a0.Sparks), .sl .no 1 (a0.Times.map cI)])] H g4 := hS
            replace hM : law13_PulsesTwo_j4 n a0 r4 r5 v7 v8 v9 = some r := hM
            rcases Bool.eq_false_or_eq_true v9 with hb10 | hb10
            · replace hM := ifT hM hb10
              refine w_condT (e := v9) rfl hb10 ?_
              refine r_seq ?_
              refine r_region (n := 2) rfl ?_
              obtain ⟨r11, hr11, hM⟩ := bindE hM
              refine o_call (bs := []) (by decide) rfl rfl ((W_law13_works hr11).le .nil) ?_
              refine o_assign (v := .v (.bool r11)) (by decide) rfl ?_
              refine run_nil ?_
              replace hS := hS.keep (L' := []) [false, false, false, false, false] rfl
              refine w_next [(4, .v (.bool r11))] (.cons (.refl _) .nil) ?_
              refine r_ret ?_
              refine r_then_ret ?_
              refine w_end (x := .v (.bool r11)) (f := fun r => .v (.bool r)) (.inr rfl) ?_ (.refl _) (Option.some.inj hM) hS
              exact (res_one (res_tmp (x := .v (.bool r11)) rfl))
            · replace hM := ifF hM hb10
              refine w_condF (e := v9) rfl hb10 ?_
              refine r_skip ?_
              refine w_next [(2, .ptr (g + 0) 0), (5, .ptr (g1 + 4) 0), (6, .ptr (g1 + 5) 0)] (.cons (.refl _) (.cons (.refl _) (.cons (.refl _) .nil))) ?_
              refine r_seq ?_
              refine r_region (n := 7) rfl ?_
              refine o_load (v := .agg [.v (.int .i64 a0.Letters), .v (.int .i64 a0.Numbers), .v (.int .i64 a0.Pitch), .v (.int .i64 a0.Slack), .v (.int .i64 a0.Gap), .v (.int .i64 a0.Pause), .v (.int .i64 a0.Sparks), .sl .no 1 (a0.Times.map cI)]) 4 hS (by decide) rfl rfl .no (part_agg ty_agg24 (Nat.le_of_ble_eq_true rfl) rfl) ?_
              obtain ⟨r12, hr12, hM⟩ := bindE hM
              refine o_call (bs := [.agg [.v (.int .i64 a0.Letters), .v (.int .i64 a0.Numbers), .v (.int .i64 a0.Pitch), .v (.int .i64 a0.Slack), .v (.int .i64 a0.Gap), .v (.int .i64 a0.Pause), .v (.int .i64 a0.Sparks), .sl .no 1 (a0.Times.map cI)]]) (by decide) rfl rfl ((W_pulses_Fewest hr12).le (.cons (.refl _) .nil)) ?_
              refine o_move (v := .tup [.v (.int .i64 r12.1), .v (.int .i64 r12.2)]) (by decide) rfl ?_
              refine o_extract (v := .v (.int .i64 r12.1)) (by decide) rfl rfl ?_
              refine o_extract (v := .v (.int .i64 r12.2)) (by decide) rfl rfl ?_
              refine o_assign (v := .v (.int .i64 r12.1)) (by decide) rfl ?_
              refine o_assign (v := .v (.int .i64 r12.2)) (by decide) rfl ?_
              refine run_nil ?_
              refine w_next [(2, .ptr (g + 0) 0), (5, .ptr (g1 + 4) 0), (6, .ptr (g1 + 5) 0), (9, .v (.int .i64 r12.1)), (10, .v (.int .i64 r12.2))] (.cons (.refl _) (.cons (.refl _) (.cons (.refl _) (.cons (.refl _) (.cons (.refl _) .nil))))) ?_
              refine r_seq ?_
              refine r_region (n := 7) rfl ?_
              refine o_load (v := .agg [.v (.int .i64 r4.Letters), .v (.int .i64 r4.Numbers), .v (.int .i64 r4.Pitch), .v (.int .i64 r4.Slack), .v (.int .i64 r4.Gap), .v (.int .i64 r4.Pause), .v (.int .i64 r4.Sparks), .sl (.id (g1 + 8 + 2)) 1 (v8.map cI)]) 2 hS (by decide) rfl rfl .no (part_agg ty_agg24 (Nat.le_of_ble_eq_true rfl) rfl) ?_
              obtain ⟨r13, hr13, hM⟩ := bindE hM
              refine o_call (bs := [.agg [.v (.int .i64 r4.Letters), .v (.int .i64 r4.Numbers), .v (.int .i64 r4.Pitch), .v (.int .i64 r4.Slack), .v (.int .i64 r4.Gap), .v (.int .i64 r4.Pause), .v (.int .i64 r4.Sparks), .sl (.id (g1 + 8 + 2)) 1 (v8.map cI)]]) (by decide) rfl rfl ((W_pulses_Fewest hr13).le (.cons (.aggL (.cons (.refl _) (.cons (.refl _) (.cons (.refl _) (.cons (.refl _) (.cons (.refl _) (.cons (.refl _) (.cons (.refl _) (.cons (.sl _ _ _) .nil))))))))) .nil)) ?_
              refine o_move (v := .tup [.v (.int .i64 r13.1), .v (.int .i64 r13.2)]) (by decide) rfl ?_
              refine o_extract (v := .v (.int .i64 r13.1)) (by decide) rfl rfl ?_
              refine o_extract (v := .v (.int .i64 r13.2)) (by decide) rfl rfl ?_
              refine o_assign (v := .v (.int .i64 r13.1)) (by decide) rfl ?_
              refine o_assign (v := .v (.int .i64 r13.2)) (by decide) rfl ?_
              refine run_nil ?_
              refine w_next [(2, .ptr (g + 0) 0), (5, .ptr (g1 + 4) 0), (6, .ptr (g1 + 5) 0), (9, .v (.int .i64 r12.1)), (10, .v (.int .i64 r12.2)), (11, .v (.int .i64 r13.1)), (12, .v (.int .i64 r13.2))] (.cons (.refl _) (.cons (.refl _) (.cons (.refl _) (.cons (.refl _) (.cons (.refl _) (.cons (.refl _) (.cons (.refl _) .nil))))))) ?_
              refine r_seq ?_
              refine r_region (n := 7) rfl ?_
              refine o_load (v := .agg [.v (.int .i64 r5.Letters), .v (.int .i64 r5.Numbers), .v (.int .i64 r5.Pitch), .v (.int .i64 r5.Slack), .v (.int .i64 r5.Gap), .v (.int .i64 r5.Pause), .v (.int .i64 r5.Sparks), .sl (.id (g1 + 3)) 1 (v7.map cI)]) 1 hS (by decide) rfl rfl .no (part_agg ty_agg24 (Nat.le_of_ble_eq_true rfl) rfl) ?_
              obtain ⟨r14, hr14, hM⟩ := bindE hM
              refine o_call (bs := [.agg [.v (.int .i64 r5.Letters), .v (.int .i64 r5.Numbers), .v (.int .i64 r5.Pitch), .v (.int .i64 r5.Slack), .v (.int .i64 r5.Gap), .v (.int .i64 r5.Pause), .v (.int .i64 r5.Sparks), .sl (.id (g1 + 3)) 1 (v7.map cI)]]) (by decide) rfl rfl ((W_pulses_Fewest hr14).le (.cons (.aggL (.cons (.refl _) (.cons (.refl _) (.cons (.refl _) (.cons (.refl _) (.cons (.refl _) (.cons (.refl _) (.cons (.refl _) (.cons (.sl _ _ _) .nil))))))))) .nil)) ?_
              refine o_move (v := .tup [.v (.int .i64 r14.1), .v (.int .i64 r14.2)]) (by decide) rfl ?_
              refine o_extract (v := .v (.int .i64 r14.1)) (by decide) rfl rfl ?_
              refine o_extract (v := .v (.int .i64 r14.2)) (by decide) rfl rfl ?_
              refine o_assign (v := .v (.int .i64 r14.1)) (by decide) rfl ?_
              refine o_assign (v := .v (.int .i64 r14.2)) (by decide) rfl ?_
              refine run_nil ?_
              refine w_next [(2, .ptr (g + 0) 0), (5, .ptr (g1 + 4) 0), (6, .ptr (g1 + 5) 0), (9, .v (.int .i64 r12.1)), (10, .v (.int .i64 r12.2)), (11, .v (.int .i64 r13.1)), (12, .v (.int .i64 r13.2)), (13, .v (.int .i64 r14.1)), (14, .v (.int .i64 r14.2))] (.cons (.refl _) (.cons (.refl _) (.cons (.refl _) (.cons (.refl _) (.cons (.refl _) (.cons (.refl _) (.cons (.refl _) (.cons (.refl _) (.cons (.refl _) .nil))))))))) ?_
              refine r_seq ?_
              refine w_join (J := Bool) (fun j => [(2, .ptr (g + 0) 0), (5, .ptr (g1 + 4) 0), (6, .ptr (g1 + 5) 0), (9, .v (.int .i64 r12.1)), (10, .v (.int .i64 r12.2)), (11, .v (.int .i64 r13.1)), (12, .v (.int .i64 r13.2)), (13, .v (.int .i64 r14.1)), (14, .v (.int .i64 r14.2)), (133, .v (.bool j))]) (fun j H' g' => St (· < g) H0 [(g1 + 8 + 2, .row 3 v8.length), (g1 + 5, .cells [.v (.int .i64 r5.Letters), .v (.int .i64 r5.Numbers), .v (.int .i64 r5.Pitch), .v (.int .i64 r5.Slack), .v (.int .i64 r5.Gap), .v (.int .i64 r5.Pause), .v (.int .i64 r5.Sparks), .sl (.id (g1 + 3)) 1 (v7.map cI)]), (g1 + 4, .cells [.v (.int .i64 r4.Letters), .v (.int .i64 r4.Numbers), .v (.int .i64 r4.Pitch), .v (.int .i64 r4.Slack), .v (.int .i64 r4.Gap), .v (.int .i64 r4.Pause), .v (.int .i64 r4.Sparks), .sl (.id (g1 + 8 + 2)) 1 (v8.map cI)]), (g1 + 3, .row 3 v7.length), (g + 0, .cells [.v (.int .i64 a0.Letters), .v (.int .i64 a0.Numbers), .v (.int .i64 a0.Pitch), .v (.int .i64 a0.Slack), .v (.int .i64 a0.Gap), .v (.int .i64 a0.Pause), .v (.int .i64 a0.Sparks), .sl .no 1 (a0.Times.map cI)])] H' g' ∧ law13_PulsesTwo_j5 n a0 r4 r5 v7 v8 r12 r13 r14 j = some r) ?_ ?_
              · rintro v15 H g5 ⟨hS, hM⟩
                change wpA _ _ _ _ (Fr.of [(2, .ptr (g + 0) 0), (5, .ptr (g1 + 4) 0), (6, .ptr (g1 + 5) 0), (9, .v (.int .i64 r12.1)), (10, .v (.int .i64 r12.2)), (11, .v (.int .i64 r13.1)), (12, .v (.int .i64 r13.2)), (13, .v (.int .i64 r14.1)), (14, .v (.int .i64 r14.2)), (133, .v (.bool v15))]) _ _
                replace hS : St (· < g) H0 [(g1 + 8 + 2, .row 3 v8.length), (g1 + 5, .cells [.v (.int .i64 r5.Letters), .v (.int .i64 r5.Numbers), .v (.int .i64 r5.Pitch), .v (.int .i64 r5.Slack), .v (.int .i64 r5.Gap), .v (.int .i64 r5.Pause), .v (.int .i64 r5.Sparks), .sl (.id (g1 + 3)) 1 (v7.map cI)]), (g1 + 4, .cells [.v (.int .i64 r4.Letters), .v (.int .i64 r4.Numbers), .v (.int .i64 r4.Pitch), .v (.int .i64 r4.Slack), .v (.int .i64 r4.Gap), .v (.int .i64 r4.Pause), .v (.int .i64 r4.Sparks), .sl (.id (g1 + 8 + 2)) 1 (v8.map cI)]), (g1 + 3, .row 3 v7.length), (g + 0, .cells [.v (.int .i64 a0.Letters), .v (.int .i64 a0.Numbers), .v (.int .i64 a0.Pitch), .v (.int .i64 a0.Slack), .v (.int .i64 a0.Gap), .v (.int .i64 a0.Pause), .v (.int .i64 a0.Sparks), .sl .no 1 (a0.Times.map cI)])] H g5 := hS
                replace hM : law13_PulsesTwo_j5 n a0 r4 r5 v7 v8 r12 r13 r14 v15 = some r := hM
                rcases Bool.eq_false_or_eq_true v15 with hb16 | hb16
                · replace hM := ifT hM hb16
                  refine w_condT (e := v15) rfl hb16 ?_
                  refine r_seq ?_
                  refine r_region (n := 1) rfl ?_
                  refine o_assign (v := .v (.bool false)) (by decide) rfl ?_
                  refine run_nil ?_
                  replace hS := hS.keep (L' := []) [false, false, false, false, false] rfl
                  refine w_next [(4, .v (.bool false))] (.cons (.refl _) .nil) ?_
                  refine r_ret ?_
                  refine r_then_ret ?_
                  refine w_end (x := .v (.bool false)) (f := fun r => .v (.bool r)) (.inr rfl) ?_ (.refl _) (Option.some.inj hM) hS
                  exact (res_one (res_tmp (x := .v (.bool false)) rfl))
                · replace hM := ifF hM hb16
                  refine w_condF (e := v15) rfl hb16 ?_
                  refine r_skip ?_
                  refine w_next [(2, .ptr (g + 0) 0), (5, .ptr (g1 + 4) 0), (6, .ptr (g1 + 5) 0), (9, .v (.int .i64 r12.1)), (10, .v (.int .i64 r12.2)), (11, .v (.int .i64 r13.1)), (12, .v (.int .i64 r13.2)), (13, .v (.int .i64 r14.1)), (14, .v (.int .i64 r14.2))] (.cons (.refl _) (.cons (.refl _) (.cons (.refl _) (.cons (.refl _) (.cons (.refl _) (.cons (.refl _) (.cons (.refl _) (.cons (.refl _) (.cons (.refl _) .nil))))))))) ?_
                  refine r_seq ?_
                  refine w_join (J := Bool) (fun j => [(2, .ptr (g + 0) 0), (5, .ptr (g1 + 4) 0), (6, .ptr (g1 + 5) 0), (156, .v (.bool j))]) (fun j H' g' => St (· < g) H0 [(g1 + 8 + 2, .row 3 v8.length), (g1 + 5, .cells [.v (.int .i64 r5.Letters), .v (.int .i64 r5.Numbers), .v (.int .i64 r5.Pitch), .v (.int .i64 r5.Slack), .v (.int .i64 r5.Gap), .v (.int .i64 r5.Pause), .v (.int .i64 r5.Sparks), .sl (.id (g1 + 3)) 1 (v7.map cI)]), (g1 + 4, .cells [.v (.int .i64 r4.Letters), .v (.int .i64 r4.Numbers), .v (.int .i64 r4.Pitch), .v (.int .i64 r4.Slack), .v (.int .i64 r4.Gap), .v (.int .i64 r4.Pause), .v (.int .i64 r4.Sparks), .sl (.id (g1 + 8 + 2)) 1 (v8.map cI)]), (g1 + 3, .row 3 v7.length), (g + 0, .cells [.v (.int .i64 a0.Letters), .v (.int .i64 a0.Numbers), .v (.int .i64 a0.Pitch), .v (.int .i64 a0.Slack), .v (.int .i64 a0.Gap), .v (.int .i64 a0.Pause), .v (.int .i64 a0.Sparks), .sl .no 1 (a0.Times.map cI)])] H' g' ∧ law13_PulsesTwo_j6 n a0 r4 r5 v7 v8 j = some r) ?_ ?_
                  · rintro v17 H g6 ⟨hS, hM⟩
                    change wpA _ _ _ _ (Fr.of [(2, .ptr (g + 0) 0), (5, .ptr (g1 + 4) 0), (6, .ptr (g1 + 5) 0), (156, .v (.bool v17))]) _ _
                    replace hS : St (· < g) H0 [(g1 + 8 + 2, .row 3 v8.length), (g1 + 5, .cells [.v (.int .i64 r5.Letters), .v (.int .i64 r5.Numbers), .v (.int .i64 r5.Pitch), .v (.int .i64 r5.Slack), .v (.int .i64 r5.Gap), .v (.int .i64 r5.Pause), .v (.int .i64 r5.Sparks), .sl (.id (g1 + 3)) 1 (v7.map cI)]), (g1 + 4, .cells [.v (.int .i64 r4.Letters), .v (.int .i64 r4.Numbers), .v (.int .i64 r4.Pitch), .v (.int .i64 r4.Slack), .v (.int .i64 r4.Gap), .v (.int .i64 r4.Pause), .v (.int .i64 r4.Sparks), .sl (.id (g1 + 8 + 2)) 1 (v8.map cI)]), (g1 + 3, .row 3 v7.length), (g + 0, .cells [.v (.int .i64 a0.Letters), .v (.int .i64 a0.Numbers), .v (.int .i64 a0.Pitch), .v (.int .i64 a0.Slack), .v (.int .i64 a0.Gap), .v (.int .i64 a0.Pause), .v (.int .i64 a0.Sparks), .sl .no 1 (a0.Times.map cI)])] H g6 := hS
                    replace hM : law13_PulsesTwo_j6 n a0 r4 r5 v7 v8 v17 = some r := hM
                    rcases Bool.eq_false_or_eq_true v17 with hb18 | hb18
                    · replace hM := ifT hM hb18
                      refine w_condT (e := v17) rfl hb18 ?_
                      refine r_seq ?_
                      refine r_region (n := 1) rfl ?_
                      refine o_assign (v := .v (.bool false)) (by decide) rfl ?_
                      refine run_nil ?_
                      replace hS := hS.keep (L' := []) [false, false, false, false, false] rfl
                      refine w_next [(4, .v (.bool false))] (.cons (.refl _) .nil) ?_
                      refine r_ret ?_
                      refine r_then_ret ?_
                      refine w_end (x := .v (.bool false)) (f := fun r => .v (.bool r)) (.inr rfl) ?_ (.refl _) (Option.some.inj hM) hS
                      exact (res_one (res_tmp (x := .v (.bool false)) rfl))
                    · replace hM := ifF hM hb18
                      refine w_condF (e := v17) rfl hb18 ?_
                      refine r_skip ?_
                      refine w_next [(2, .ptr (g + 0) 0), (5, .ptr (g1 + 4) 0), (6, .ptr (g1 + 5) 0)] (.cons (.refl _) (.cons (.refl _) (.cons (.refl _) .nil))) ?_
                      refine r_seq ?_
                      refine r_region (n := 3) rfl ?_
                      refine o_load (v := .agg [.v (.int .i64 a0.Letters), .v (.int .i64 a0.Numbers), .v (.int .i64 a0.Pitch), .v (.int .i64 a0.Slack), .v (.int .i64 a0.Gap), .v (.int .i64 a0.Pause), .v (.int .i64 a0.Sparks), .sl .no 1 (a0.Times.map cI)]) 4 hS (by decide) rfl rfl .no (part_agg ty_agg24 (Nat.le_of_ble_eq_true rfl) rfl) ?_
                      obtain ⟨r19, hr19, hM⟩ := bindE hM
                      refine o_own1 (mk := (aggAt [.v (.int .i64 r19.Letters), .v (.int .i64 r19.Numbers), .v (.int .i64 r19.Pitch), .v (.int .i64 r19.Slack), .v (.int .i64 r19.Gap), .v (.int .i64 r19.Pause), .v (.int .i64 r19.Sparks)] [])) (k := 1) (e := 3) (es := (r19.Times.map cI)) (bs := [.agg [.v (.int .i64 a0.Letters), .v (.int .i64 a0.Numbers), .v (.int .i64 a0.Pitch), .v (.int .i64 a0.Slack), .v (.int .i64 a0.Gap), .v (.int .i64 a0.Pause), .v (.int .i64 a0.Sparks), .sl .no 1 (a0.Times.map cI)]]) hS (by decide) rfl rfl ((WO_ref13_Copy hr19).le (.cons (.refl _) .nil)) (aggAt_ok (fl_cons (fl_cons (fl_cons (fl_cons (fl_cons (fl_cons (fl_cons fl_nil))))))) fl_nil) (pl_cons (.agg _ (pl_cons (.v _) (pl_cons (.v _) (pl_cons (.v _) (pl_cons (.v _) (pl_cons (.v _) (pl_cons (.v _) (pl_cons (.v _) (pl_cons (.sl _ _ (pures_map (fun x => (pl_cons (.v _) pl_nil)))) pl_nil))))))))) pl_nil) (fl_map (fun x => (fl_cons fl_nil))) (by omega) fun H hS => ?_
                      rw [List.length_map] at hS
                      refine o_store (v := .agg [.v (.int .i64 r19.Letters), .v (.int .i64 r19.Numbers), .v (.int .i64 r19.Pitch), .v (.int .i64 r19.Slack), .v (.int .i64 r19.Gap), .v (.int .i64 r19.Pause), .v (.int .i64 r19.Sparks), .sl (.id (g6 + 1)) 1 (r19.Times.map cI)]) (ns := [.v (.int .i64 r19.Letters), .v (.int .i64 r19.Numbers), .v (.int .i64 r19.Pitch), .v (.int .i64 r19.Slack), .v (.int .i64 r19.Gap), .v (.int .i64 r19.Pause), .v (.int .i64 r19.Sparks), .sl (.id (g6 + 1)) 1 (r19.Times.map cI)]) (L' := [(g6 + 1, .row 3 r19.Times.length), (g1 + 8 + 2, .row 3 v8.length), (g1 + 5, .cells [.v (.int .i64 r5.Letters), .v (.int .i64 r5.Numbers), .v (.int .i64 r5.Pitch), .v (.int .i64 r5.Slack), .v (.int .i64 r5.Gap), .v (.int .i64 r5.Pause), .v (.int .i64 r5.Sparks), .sl (.id (g1 + 3)) 1 (v7.map cI)]), (g1 + 4, .cells [.v (.int .i64 r4.Letters), .v (.int .i64 r4.Numbers), .v (.int .i64 r4.Pitch), .v (.int .i64 r4.Slack), .v (.int .i64 r4.Gap), .v (.int .i64 r4.Pause), .v (.int .i64 r4.Sparks), .sl (.id (g1 + 8 + 2)) 1 (v8.map cI)]), (g1 + 3, .row 3 v7.length), (g + 0, .cells [.v (.int .i64 r19.Letters), .v (.int .i64 r19.Numbers), .v (.int .i64 r19.Pitch), .v (.int .i64 r19.Slack), .v (.int .i64 r19.Gap), .v (.int .i64 r19.Pause), .v (.int .i64 r19.Sparks), .sl (.id (g6 + 1)) 1 (r19.Times.map cI)])]) 5 hS rfl rfl .no rfl rfl ty_var24 (Nat.le_of_ble_eq_true rfl) rfl fun H hS => ?_
                      refine run_nil ?_
                      refine w_next [(2, .ptr (g + 0) 0), (5, .ptr (g1 + 4) 0), (6, .ptr (g1 + 5) 0)] (.cons (.refl _) (.cons (.refl _) (.cons (.refl _) .nil))) ?_
                      refine r_seq ?_
                      refine r_region (n := 6) rfl ?_
                      refine o_fieldP (by decide) ty_fo24_6 rfl ?_
                      refine o_store (v := .v (.int .i64 0)) (ns := [.v (.int .i64 0)]) (L' := [(g6 + 1, .row 3 r19.Times.length), (g1 + 8 + 2, .row 3 v8.length), (g1 + 5, .cells [.v (.int .i64 r5.Letters), .v (.int .i64 r5.Numbers), .v (.int .i64 r5.Pitch), .v (.int .i64 r5.Slack), .v (.int .i64 r5.Gap), .v (.int .i64 r5.Pause), .v (.int .i64 r5.Sparks), .sl (.id (g1 + 3)) 1 (v7.map cI)]), (g1 + 4, .cells [.v (.int .i64 r4.Letters), .v (.int .i64 r4.Numbers), .v (.int .i64 r4.Pitch), .v (.int .i64 r4.Slack), .v (.int .i64 r4.Gap), .v (.int .i64 r4.Pause), .v (.int .i64 r4.Sparks), .sl (.id (g1 + 8 + 2)) 1 (v8.map cI)]), (g1 + 3, .row 3 v7.length), (g + 0, .cells [.v (.int .i64 r19.Letters), .v (.int .i64 r19.Numbers), .v (.int .i64 r19.Pitch), .v (.int .i64 r19.Slack), .v (.int .i64 r19.Gap), .v (.int .i64 r19.Pause), .v (.int .i64 0), .sl (.id (g6 + 1)) 1 (r19.Times.map cI)])]) 5 hS rfl rfl .no rfl rfl ty_var3 (Nat.le_of_ble_eq_true rfl) rfl fun H hS => ?_
                      refine o_fieldP (by decide) ty_fo24_6 rfl ?_
                      refine o_store (v := .v (.int .i64 0)) (ns := [.v (.int .i64 0)]) (L' := [(g6 + 1, .row 3 r19.Times.length), (g1 + 8 + 2, .row 3 v8.length), (g1 + 5, .cells [.v (.int .i64 r5.Letters), .v (.int .i64 r5.Numbers), .v (.int .i64 r5.Pitch), .v (.int .i64 r5.Slack), .v (.int .i64 r5.Gap), .v (.int .i64 r5.Pause), .v (.int .i64 r5.Sparks), .sl (.id (g1 + 3)) 1 (v7.map cI)]), (g1 + 4, .cells [.v (.int .i64 r4.Letters), .v (.int .i64 r4.Numbers), .v (.int .i64 r4.Pitch), .v (.int .i64 r4.Slack), .v (.int .i64 r4.Gap), .v (.int .i64 r4.Pause), .v (.int .i64 0), .sl (.id (g1 + 8 + 2)) 1 (v8.map cI)]), (g1 + 3, .row 3 v7.length), (g + 0, .cells [.v (.int .i64 r19.Letters), .v (.int .i64 r19.Numbers), .v (.int .i64 r19.Pitch), .v (.int .i64 r19.Slack), .v (.int .i64 r19.Gap), .v (.int .i64 r19.Pause), .v (.int .i64 0), .sl (.id (g6 + 1)) 1 (r19.Times.map cI)])]) 3 hS rfl rfl .no rfl rfl ty_var3 (Nat.le_of_ble_eq_true rfl) rfl fun H hS => ?_
                      refine o_fieldP (by decide) ty_fo24_6 rfl ?_
                      refine o_store (v := .v (.int .i64 0)) (ns := [.v (.int .i64 0)]) (L' := [(g6 + 1, .row 3 r19.Times.length), (g1 + 8 + 2, .row 3 v8.length), (g1 + 5, .cells [.v (.int .i64 r5.Letters), .v (.int .i64 r5.Numbers), .v (.int .i64 r5.Pitch), .v (.int .i64 r5.Slack), .v (.int .i64 r5.Gap), .v (.int .i64 r5.Pause), .v (.int .i64 0), .sl (.id (g1 + 3)) 1 (v7.map cI)]), (g1 + 4, .cells [.v (.int .i64 r4.Letters), .v (.int .i64 r4.Numbers), .v (.int .i64 r4.Pitch), .v (.int .i64 r4.Slack), .v (.int .i64 r4.Gap), .v (.int .i64 r4.Pause), .v (.int .i64 0), .sl (.id (g1 + 8 + 2)) 1 (v8.map cI)]), (g1 + 3, .row 3 v7.length), (g + 0, .cells [.v (.int .i64 r19.Letters), .v (.int .i64 r19.Numbers), .v (.int .i64 r19.Pitch), .v (.int .i64 r19.Slack), .v (.int .i64 r19.Gap), .v (.int .i64 r19.Pause), .v (.int .i64 0), .sl (.id (g6 + 1)) 1 (r19.Times.map cI)])]) 2 hS rfl rfl .no rfl rfl ty_var3 (Nat.le_of_ble_eq_true rfl) rfl fun H hS => ?_
                      refine run_nil ?_
                      refine w_next [(2, .ptr (g + 0) 0), (5, .ptr (g1 + 4) 0), (6, .ptr (g1 + 5) 0)] (.cons (.refl _) (.cons (.refl _) (.cons (.refl _) .nil))) ?_
                      refine r_seq ?_
                      refine r_region (n := 7) rfl ?_
                      refine o_load (v := .agg [.v (.int .i64 r19.Letters), .v (.int .i64 r19.Numbers), .v (.int .i64 r19.Pitch), .v (.int .i64 r19.Slack), .v (.int .i64 r19.Gap), .v (.int .i64 r19.Pause), .v (.int .i64 0), .sl (.id (g6 + 1)) 1 (r19.Times.map cI)]) 5 hS (by decide) rfl rfl .no (part_agg ty_agg24 (Nat.le_of_ble_eq_true rfl) rfl) ?_
                      obtain ⟨r20, hr20, hM⟩ := bindE hM
                      refine o_call (bs := [.agg [.v (.int .i64 r19.Letters), .v (.int .i64 r19.Numbers), .v (.int .i64 r19.Pitch), .v (.int .i64 r19.Slack), .v (.int .i64 r19.Gap), .v (.int .i64 r19.Pause), .v (.int .i64 0), .sl (.id (g6 + 1)) 1 (r19.Times.map cI)]]) (by decide) rfl rfl ((W_pulses_Read hr20).le (.cons (.aggL (.cons (.refl _) (.cons (.refl _) (.cons (.refl _) (.cons (.refl _) (.cons (.refl _) (.cons (.refl _) (.cons (.refl _) (.cons (.sl _ _ _) .nil))))))))) .nil)) ?_
                      refine o_move (v := .tup [.sl .no 1 (r20.1.map cI), .v (.int .i64 r20.2)]) (by decide) rfl ?_
                      refine o_extract (v := .sl .no 1 (r20.1.map cI)) (by decide) rfl rfl ?_
                      refine o_extract (v := .v (.int .i64 r20.2)) (by decide) rfl rfl ?_
                      refine o_assign (v := .sl .no 1 (r20.1.map cI)) (by decide) rfl ?_
                      refine o_assign (v := .v (.int .i64 r20.2)) (by decide) rfl ?_
                      refine run_nil ?_
                      replace hS := hS.keep (L' := [(g1 + 8 + 2, .row 3 v8.length), (g1 + 5, .cells [.v (.int .i64 r5.Letters), .v (.int .i64 r5.Numbers), .v (.int .i64 r5.Pitch), .v (.int .i64 r5.Slack), .v (.int .i64 r5.Gap), .v (.int .i64 r5.Pause), .v (.int .i64 0), .sl (.id (g1 + 3)) 1 (v7.map cI)]), (g1 + 4, .cells [.v (.int .i64 r4.Letters), .v (.int .i64 r4.Numbers), .v (.int .i64 r4.Pitch), .v (.int .i64 r4.Slack), .v (.int .i64 r4.Gap), .v (.int .i64 r4.Pause), .v (.int .i64 0), .sl (.id (g1 + 8 + 2)) 1 (v8.map cI)]), (g1 + 3, .row 3 v7.length)]) [false, true, true, true, true, false] rfl
                      refine w_next [(5, .ptr (g1 + 4) 0), (6, .ptr (g1 + 5) 0), (10, .v (.int .i64 r20.2)), (15, .sl .no 1 (r20.1.map cI))] (.cons (.refl _) (.cons (.refl _) (.cons (.refl _) (.cons (.refl _) .nil)))) ?_
                      refine r_seq ?_
                      refine r_region (n := 7) rfl ?_
                      refine o_load (v := .agg [.v (.int .i64 r4.Letters), .v (.int .i64 r4.Numbers), .v (.int .i64 r4.Pitch), .v (.int .i64 r4.Slack), .v (.int .i64 r4.Gap), .v (.int .i64 r4.Pause), .v (.int .i64 0), .sl (.id (g1 + 8 + 2)) 1 (v8.map cI)]) 2 hS (by decide) rfl rfl .no (part_agg ty_agg24 (Nat.le_of_ble_eq_true rfl) rfl) ?_
                      obtain ⟨r21, hr21, hM⟩ := bindE hM
                      refine o_call (bs := [.agg [.v (.int .i64 r4.Letters), .v (.int .i64 r4.Numbers), .v (.int .i64 r4.Pitch), .v (.int .i64 r4.Slack), .v (.int .i64 r4.Gap), .v (.int .i64 r4.Pause), .v (.int .i64 0), .sl (.id (g1 + 8 + 2)) 1 (v8.map cI)]]) (by decide) rfl rfl ((W_pulses_Read hr21).le (.cons (.aggL (.cons (.refl _) (.cons (.refl _) (.cons (.refl _) (.cons (.refl _) (.cons (.refl _) (.cons (.refl _) (.cons (.refl _) (.cons (.sl _ _ _) .nil))))))))) .nil)) ?_
                      refine o_move (v := .tup [.sl .no 1 (r21.1.map cI), .v (.int .i64 r21.2)]) (by decide) rfl ?_
                      refine o_extract (v := .sl .no 1 (r21.1.map cI)) (by decide) rfl rfl ?_
                      refine o_extract (v := .v (.int .i64 r21.2)) (by decide) rfl rfl ?_
                      refine o_assign (v := .sl .no 1 (r21.1.map cI)) (by decide) rfl ?_
                      refine o_assign (v := .v (.int .i64 r21.2)) (by decide) rfl ?_
                      refine run_nil ?_
                      replace hS := hS.keep (L' := [(g1 + 5, .cells [.v (.int .i64 r5.Letters), .v (.int .i64 r5.Numbers), .v (.int .i64 r5.Pitch), .v (.int .i64 r5.Slack), .v (.int .i64 r5.Gap), .v (.int .i64 r5.Pause), .v (.int .i64 0), .sl (.id (g1 + 3)) 1 (v7.map cI)]), (g1 + 3, .row 3 v7.length)]) [false, true, false, true] rfl
                      refine w_next [(6, .ptr (g1 + 5) 0), (10, .v (.int .i64 r20.2)), (12, .v (.int .i64 r21.2)), (15, .sl .no 1 (r20.1.map cI)), (16, .sl .no 1 (r21.1.map cI))] (.cons (.refl _) (.cons (.refl _) (.cons (.refl _) (.cons (.refl _) (.cons (.refl _) .nil))))) ?_
                      refine r_seq ?_
                      refine r_region (n := 7) rfl ?_
                      refine o_load (v := .agg [.v (.int .i64 r5.Letters), .v (.int .i64 r5.Numbers), .v (.int .i64 r5.Pitch), .v (.int .i64 r5.Slack), .v (.int .i64 r5.Gap), .v (.int .i64 r5.Pause), .v (.int .i64 0), .sl (.id (g1 + 3)) 1 (v7.map cI)]) 0 hS (by decide) rfl rfl .no (part_agg ty_agg24 (Nat.le_of_ble_eq_true rfl) rfl) ?_
                      obtain ⟨r22, hr22, hM⟩ := bindE hM
                      refine o_call (bs := [.agg [.v (.int .i64 r5.Letters), .v (.int .i64 r5.Numbers), .v (.int .i64 r5.Pitch), .v (.int .i64 r5.Slack), .v (.int .i64 r5.Gap), .v (.int .i64 r5.Pause), .v (.int .i64 0), .sl (.id (g1 + 3)) 1 (v7.map cI)]]) (by decide) rfl rfl ((W_pulses_Read hr22).le (.cons (.aggL (.cons (.refl _) (.cons (.refl _) (.cons (.refl _) (.cons (.refl _) (.cons (.refl _) (.cons (.refl _) (.cons (.refl _) (.cons (.sl _ _ _) .nil))))))))) .nil)) ?_
                      refine o_move (v := .tup [.sl .no 1 (r22.1.map cI), .v (.int .i64 r22.2)]) (by decide) rfl ?_
                      refine o_extract (v := .sl .no 1 (r22.1.map cI)) (by decide) rfl rfl ?_
                      refine o_extract (v := .v (.int .i64 r22.2)) (by decide) rfl rfl ?_
                      refine o_assign (v := .sl .no 1 (r22.1.map cI)) (by decide) rfl ?_
                      refine o_assign (v := .v (.int .i64 r22.2)) (by decide) rfl ?_
                      refine run_nil ?_
                      replace hS := hS.keep (L' := []) [false, false] rfl
                      refine w_next [(10, .v (.int .i64 r20.2)), (12, .v (.int .i64 r21.2)), (14, .v (.int .i64 r22.2)), (15, .sl .no 1 (r20.1.map cI)), (16, .sl .no 1 (r21.1.map cI)), (17, .sl .no 1 (r22.1.map cI))] (.cons (.refl _) (.cons (.refl _) (.cons (.refl _) (.cons (.refl _) (.cons (.refl _) (.cons (.refl _) .nil)))))) ?_
                      refine r_seq ?_
                      refine w_join (J := Bool) (fun j => [(10, .v (.int .i64 r20.2)), (12, .v (.int .i64 r21.2)), (14, .v (.int .i64 r22.2)), (15, .sl .no 1 (r20.1.map cI)), (16, .sl .no 1 (r21.1.map cI)), (17, .sl .no 1 (r22.1.map cI)), (182, .v (.bool j))]) (fun j H' g' => St (· < g) H0 [] H' g' ∧ law13_PulsesTwo_j7 n r20 r21 r22 j = some r) ?_ ?_
                      · rintro v23 H g7 ⟨hS, hM⟩
                        change wpA _ _ _ _ (Fr.of [(10, .v (.int .i64 r20.2)), (12, .v (.int .i64 r21.2)), (14, .v (.int .i64 r22.2)), (15, .sl .no 1 (r20.1.map cI)), (16, .sl .no 1 (r21.1.map cI)), (17, .sl .no 1 (r22.1.map cI)), (182, .v (.bool v23))]) _ _
                        replace hS : St (· < g) H0 [] H g7 := hS
                        replace hM : law13_PulsesTwo_j7 n r20 r21 r22 v23 = some r := hM
                        rcases Bool.eq_false_or_eq_true v23 with hb24 | hb24
                        · replace hM := ifT hM hb24
                          refine w_condT (e := v23) rfl hb24 ?_
                          refine w_join (J := Bool) (fun j => [(4, .v (.bool j))]) (fun j H' g' => St (· < g) H0 [] H' g' ∧ law13_PulsesTwo_j8 j = some r) ?_ ?_
                          · rintro v25 H g8 ⟨hS, hM⟩
                            change wpA _ _ _ _ (Fr.of [(4, .v (.bool v25))]) _ _
                            replace hS : St (· < g) H0 [] H g8 := hS
                            replace hM : law13_PulsesTwo_j8 v25 = some r := hM
                            refine r_ret ?_
                            refine r_then_ret ?_
                            refine w_end (x := .v (.bool v25)) (f := fun r => .v (.bool r)) (.inr rfl) ?_ (.refl _) (Option.some.inj hM) hS
                            exact (res_one (res_tmp (x := .v (.bool v25)) rfl))
                          · refine r_region (n := 10) rfl ?_
                            refine o_move (v := .v (.int .i64 r20.2)) (by decide) rfl ?_
                            obtain ⟨r26, hr26, hM⟩ := bindE hM
                            refine o_call (bs := [.v (.int .i64 r20.2)]) (by decide) rfl rfl ((W_law13_isKnown hr26).le (.cons (.refl _) .nil)) ?_
                            refine o_move (v := .v (.bool r26)) (by decide) rfl ?_
                            rcases Bool.eq_false_or_eq_true r26 with hb27 | hb27
                            · replace hM := ifT hM hb27
                              refine o_guardY (j := 2) (e := r26) (want := true) rfl hb27 ?_
                              refine o_move (v := .v (.int .i64 r21.2)) (by decide) rfl ?_
                              refine o_guardY (j := 2) (e := r26) (want := true) rfl hb27 ?_
                              obtain ⟨r28, hr28, hM⟩ := bindE hM
                              refine o_call (bs := [.v (.int .i64 r21.2)]) (by decide) rfl rfl ((W_law13_isKnown hr28).le (.cons (.refl _) .nil)) ?_
                              refine o_pickT (v := .v (.bool r28)) (e := r26) (by decide) rfl hb27 rfl ?_
                              refine o_move (v := .v (.bool r28)) (by decide) rfl ?_
                              rcases Bool.eq_false_or_eq_true r28 with hb29 | hb29
                              · replace hM := ifT hM hb29
                                refine o_guardY (j := 6) (e := r28) (want := true) rfl hb29 ?_
                                obtain ⟨r30, hr30, hM⟩ := bindE hM
                                refine o_call (bs := []) (by decide) rfl rfl ((W_law13_works hr30).le .nil) ?_
                                refine o_pickT (v := .v (.bool r30)) (e := r28) (by decide) rfl hb29 rfl ?_
                                refine o_assign (v := .v (.bool r30)) (by decide) rfl ?_
                                refine run_nil ?_
                                exact w_goto r30 (.cons (.refl _) .nil) ⟨(hS.keep [] rfl).up (by omega), hM⟩
                              · replace hM := ifF hM hb29
                                refine o_guardN (j := 6) (e := r28) (want := true) (by decide) rfl hb29 ?_
                                refine o_pickF (v := .v (.bool false)) (e := r28) (by decide) rfl hb29 rfl ?_
                                refine o_assign (v := .v (.bool false)) (by decide) rfl ?_
                                refine run_nil ?_
                                exact w_goto false (.cons (.refl _) .nil) ⟨(hS.keep [] rfl).up (by omega), hM⟩
                            · replace hM := ifF hM hb27
                              refine o_guardN (j := 2) (e := r26) (want := true) (by decide) rfl hb27 ?_
                              refine o_guardN (j := 2) (e := r26) (want := true) (by decide) rfl hb27 ?_
                              refine o_pickF (v := .v (.bool false)) (e := r26) (by decide) rfl hb27 rfl ?_
                              refine o_move (v := .v (.bool false)) (by decide) rfl ?_
                              refine o_guardN (j := 6) (e := false) (want := true) (by decide) rfl rfl ?_
                              refine o_pickF (v := .v (.bool false)) (e := false) (by decide) rfl rfl rfl ?_
                              refine o_assign (v := .v (.bool false)) (by decide) rfl ?_
                              refine run_nil ?_
                              exact w_goto false (.cons (.refl _) .nil) ⟨(hS.keep [] rfl).up (by omega), hM⟩
                        · replace hM := ifF hM hb24
                          refine w_condF (e := v23) rfl hb24 ?_
                          refine r_skip ?_
                          refine w_next [(14, .v (.int .i64 r22.2)), (15, .sl .no 1 (r20.1.map cI)), (16, .sl .no 1 (r21.1.map cI)), (17, .sl .no 1 (r22.1.map cI))] (.cons (.refl _) (.cons (.refl _) (.cons (.refl _) (.cons (.refl _) .nil)))) ?_
                          refine w_join (J := Bool) (fun j => [(4, .v (.bool j))]) (fun j H' g' => St (· < g) H0 [] H' g' ∧ law13_PulsesTwo_j9 j = some r) ?_ ?_
                          · rintro v31 H g9 ⟨hS, hM⟩
                            change wpA _ _ _ _ (Fr.of [(4, .v (.bool v31))]) _ _
                            replace hS : St (· < g) H0 [] H g9 := hS
                            replace hM : law13_PulsesTwo_j9 v31 = some r := hM
                            refine r_ret ?_
                            refine w_end (x := .v (.bool v31)) (f := fun r => .v (.bool r)) (.inr rfl) ?_ (.refl _) (Option.some.inj hM) hS
                            exact (res_one (res_tmp (x := .v (.bool v31)) rfl))
                          · refine r_region (n := 15) rfl ?_
                            refine o_move (v := .v (.int .i64 r22.2)) (by decide) rfl ?_
                            refine o_int (v := .v (.bool (r22.2 == 0))) (by decide) rfl rfl rfl ?_
                            refine o_move (v := .v (.bool (r22.2 == 0))) (by decide) rfl ?_
                            rcases Bool.eq_false_or_eq_true (r22.2 == 0) with hb32 | hb32
                            · replace hM := ifT hM hb32
                              refine o_guardY (j := 2) (e := (r22.2 == 0)) (want := true) rfl hb32 ?_
                              refine o_move (v := .sl .no 1 (r22.1.map cI)) (by decide) rfl ?_
                              refine o_guardY (j := 2) (e := (r22.2 == 0)) (want := true) rfl hb32 ?_
                              refine o_buildSlice (es := []) hS (by decide) ty_es22 ty_el22 rfl ty_ef22 rfl (by decide) (by omega) fun H hS => ?_
                              refine o_guardY (j := 2) (e := (r22.2 == 0)) (want := true) rfl hb32 ?_
                              refine o_move (v := .sl .no 1 (r20.1.map cI)) (by decide) rfl ?_
                              refine o_guardY (j := 2) (e := (r22.2 == 0)) (want := true) rfl hb32 ?_
                              obtain ⟨l33, hl33, hM⟩ := bindE hM
                              refine o_append (xs := ([] : List Int)) (ys := r20.1) (zs := l33) (f := cI) (L' := [(g7 + 4, .row 3 l33.length)]) 0 hS (by decide) rfl rfl rfl rfl .no ty_es22 ty_el22 ty_ef22 hl33 rfl fun H hS => ?_
                              refine o_guardY (j := 2) (e := (r22.2 == 0)) (want := true) rfl hb32 ?_
                              refine o_move (v := .sl .no 1 (r21.1.map cI)) (by decide) rfl ?_
                              refine o_guardY (j := 2) (e := (r22.2 == 0)) (want := true) rfl hb32 ?_
                              obtain ⟨l34, hl34, hM⟩ := bindE hM
                              refine o_append (xs := l33) (ys := r21.1) (zs := l34) (f := cI) (L' := [(g7 + 4, .row 3 l34.length)]) 0 hS (by decide) rfl rfl rfl rfl .no ty_es22 ty_el22 ty_ef22 hl34 rfl fun H hS => ?_
                              refine o_guardY (j := 2) (e := (r22.2 == 0)) (want := true) rfl hb32 ?_
                              obtain ⟨r35, hr35, hM⟩ := bindE hM
                              refine o_call (bs := [.sl .no 1 (r22.1.map cI), .sl (.id (g7 + 4)) 1 (l34.map cI)]) (by decide) rfl rfl ((W_ref01_SameInts hr35).le (.cons (.refl _) (.cons (.sl _ _ _) .nil))) ?_
                              refine o_pickT (v := .v (.bool r35)) (e := (r22.2 == 0)) (by decide) rfl hb32 rfl ?_
                              refine o_move (v := .v (.bool r35)) (by decide) rfl ?_
                              rcases Bool.eq_false_or_eq_true r35 with hb36 | hb36
                              · replace hM := ifT hM hb36
                                refine o_guardY (j := 11) (e := r35) (want := true) rfl hb36 ?_
                                obtain ⟨r37, hr37, hM⟩ := bindE hM
                                refine o_call (bs := []) (by decide) rfl rfl ((W_law13_works hr37).le .nil) ?_
                                refine o_pickT (v := .v (.bool r37)) (e := r35) (by decide) rfl hb36 rfl ?_
                                refine o_assign (v := .v (.bool r37)) (by decide) rfl ?_
                                refine run_nil ?_
                                exact w_goto r37 (.cons (.refl _) .nil) ⟨(hS.keep [false] rfl).up (by omega), hM⟩
                              · replace hM := ifF hM hb36
                                refine o_guardN (j := 11) (e := r35) (want := true) (by decide) rfl hb36 ?_
                                refine o_pickF (v := .v (.bool false)) (e := r35) (by decide) rfl hb36 rfl ?_
                                refine o_assign (v := .v (.bool false)) (by decide) rfl ?_
                                refine run_nil ?_
                                exact w_goto false (.cons (.refl _) .nil) ⟨(hS.keep [false] rfl).up (by omega), hM⟩
                            · replace hM := ifF hM hb32
                              refine o_guardN (j := 2) (e := (r22.2 == 0)) (want := true) (by decide) rfl hb32 ?_
                              refine o_guardN (j := 2) (e := (r22.2 == 0)) (want := true) (by decide) rfl hb32 ?_
                              refine o_guardN (j := 2) (e := (r22.2 == 0)) (want := true) (by decide) rfl hb32 ?_
                              refine o_guardN (j := 2) (e := (r22.2 == 0)) (want := true) (by decide) rfl hb32 ?_
                              refine o_guardN (j := 2) (e := (r22.2 == 0)) (want := true) (by decide) rfl hb32 ?_
                              refine o_guardN (j := 2) (e := (r22.2 == 0)) (want := true) (by decide) rfl hb32 ?_
                              refine o_guardN (j := 2) (e := (r22.2 == 0)) (want := true) (by decide) rfl hb32 ?_
                              refine o_pickF (v := .v (.bool false)) (e := (r22.2 == 0)) (by decide) rfl hb32 rfl ?_
                              refine o_move (v := .v (.bool false)) (by decide) rfl ?_
                              refine o_guardN (j := 11) (e := false) (want := true) (by decide) rfl rfl ?_
                              refine o_pickF (v := .v (.bool false)) (e := false) (by decide) rfl rfl rfl ?_
                              refine o_assign (v := .v (.bool false)) (by decide) rfl ?_
                              refine run_nil ?_
                              exact w_goto false (.cons (.refl _) .nil) ⟨(hS.keep [] rfl).up (by omega), hM⟩
                      · refine r_region (n := 6) rfl ?_
                        refine o_move (v := .v (.int .i64 r20.2)) (by decide) rfl ?_
                        refine o_int (v := .v (.bool (r20.2 != 0))) (by decide) rfl rfl rfl ?_
                        refine o_move (v := .v (.bool (r20.2 != 0))) (by decide) rfl ?_
                        rcases Bool.eq_false_or_eq_true (r20.2 != 0) with hb38 | hb38
                        · replace hM := ifT hM hb38
                          refine o_guardN (j := 2) (e := (r20.2 != 0)) (want := false) (by decide) rfl hb38 ?_
                          refine o_guardN (j := 2) (e := (r20.2 != 0)) (want := false) (by decide) rfl hb38 ?_
                          refine o_pickT (v := .v (.bool true)) (e := (r20.2 != 0)) (by decide) rfl hb38 rfl ?_
                          refine run_nil ?_
                          exact w_goto true (.cons (.refl _) (.cons (.refl _) (.cons (.refl _) (.cons (.refl _) (.cons (.refl _) (.cons (.refl _) (.cons (.refl _) .nil))))))) ⟨(hS.keep [] rfl).up (by omega), hM⟩
                        · replace hM := ifF hM hb38
                          refine o_guardY (j := 2) (e := (r20.2 != 0)) (want := false) rfl hb38 ?_
                          refine o_move (v := .v (.int .i64 r21.2)) (by decide) rfl ?_
                          refine o_guardY (j := 2) (e := (r20.2 != 0)) (want := false) rfl hb38 ?_
                          refine o_int (v := .v (.bool (r21.2 != 0))) (by decide) rfl rfl rfl ?_
                          refine o_pickF (v := .v (.bool (r21.2 != 0))) (e := (r20.2 != 0)) (by decide) rfl hb38 rfl ?_
                          refine run_nil ?_
                          exact w_goto (r21.2 != 0) (.cons (.refl _) (.cons (.refl _) (.cons (.refl _) (.cons (.refl _) (.cons (.refl _) (.cons (.refl _) (.cons (.refl _) .nil))))))) ⟨(hS.keep [] rfl).up (by omega), hM⟩
                  · refine r_region (n := 23) rfl ?_
                    refine o_move (v := .v (.int .i64 r12.2)) (by decide) rfl ?_
                    refine o_int (v := .v (.bool (r12.2 == 0))) (by decide) rfl rfl rfl ?_
                    refine o_move (v := .v (.bool (r12.2 == 0))) (by decide) rfl ?_
                    rcases Bool.eq_false_or_eq_true (r12.2 == 0) with hb39 | hb39
                    · replace hM := ifT hM hb39
                      refine o_guardY (j := 2) (e := (r12.2 == 0)) (want := true) rfl hb39 ?_
                      refine o_move (v := .v (.int .i64 r13.2)) (by decide) rfl ?_
                      refine o_guardY (j := 2) (e := (r12.2 == 0)) (want := true) rfl hb39 ?_
                      refine o_int (v := .v (.bool (r13.2 == 0))) (by decide) rfl rfl rfl ?_
                      refine o_pickT (v := .v (.bool (r13.2 == 0))) (e := (r12.2 == 0)) (by decide) rfl hb39 rfl ?_
                      refine o_move (v := .v (.bool (r13.2 == 0))) (by decide) rfl ?_
                      rcases Bool.eq_false_or_eq_true (r13.2 == 0) with hb40 | hb40
                      · replace hM := ifT hM hb40
                        refine o_guardY (j := 6) (e := (r13.2 == 0)) (want := true) rfl hb40 ?_
                        refine o_move (v := .v (.int .i64 r12.1)) (by decide) rfl ?_
                        refine o_guardY (j := 6) (e := (r13.2 == 0)) (want := true) rfl hb40 ?_
                        refine o_move (v := .v (.int .i64 r13.1)) (by decide) rfl ?_
                        refine o_guardY (j := 6) (e := (r13.2 == 0)) (want := true) rfl hb40 ?_
                        refine o_int (v := .v (.int .i64 (w64 (r12.1 + r13.1)))) (by decide) rfl rfl rfl ?_
                        refine o_guardY (j := 6) (e := (r13.2 == 0)) (want := true) rfl hb40 ?_
                        refine o_int (v := .v (.bool (decide ((w64 (r12.1 + r13.1)) ≤ 3)))) (by decide) rfl rfl rfl ?_
                        refine o_pickT (v := .v (.bool (decide ((w64 (r12.1 + r13.1)) ≤ 3)))) (e := (r13.2 == 0)) (by decide) rfl hb40 rfl ?_
                        refine o_move (v := .v (.bool (decide ((w64 (r12.1 + r13.1)) ≤ 3)))) (by decide) rfl ?_
                        rcases Bool.eq_false_or_eq_true (decide ((w64 (r12.1 + r13.1)) ≤ 3)) with hb41 | hb41
                        · replace hM := ifT hM hb41
                          refine o_guardY (j := 12) (e := (decide ((w64 (r12.1 + r13.1)) ≤ 3))) (want := true) rfl hb41 ?_
                          refine o_move (v := .v (.int .i64 r14.2)) (by decide) rfl ?_
                          refine o_guardY (j := 12) (e := (decide ((w64 (r12.1 + r13.1)) ≤ 3))) (want := true) rfl hb41 ?_
                          refine o_int (v := .v (.bool (r14.2 != 0))) (by decide) rfl rfl rfl ?_
                          refine o_guardY (j := 12) (e := (decide ((w64 (r12.1 + r13.1)) ≤ 3))) (want := true) rfl hb41 ?_
                          refine o_move (v := .v (.bool (r14.2 != 0))) (by decide) rfl ?_
                          rcases Bool.eq_false_or_eq_true (r14.2 != 0) with hb42 | hb42
                          · replace hM := ifT hM hb42
                            refine o_guardN (j := 15) (e := (r14.2 != 0)) (want := false) (by decide) rfl hb42 ?_
                            refine o_guardN (j := 15) (e := (r14.2 != 0)) (want := false) (by decide) rfl hb42 ?_
                            refine o_guardN (j := 15) (e := (r14.2 != 0)) (want := false) (by decide) rfl hb42 ?_
                            refine o_guardN (j := 15) (e := (r14.2 != 0)) (want := false) (by decide) rfl hb42 ?_
                            refine o_guardN (j := 15) (e := (r14.2 != 0)) (want := false) (by decide) rfl hb42 ?_
                            refine o_guardY (j := 12) (e := (decide ((w64 (r12.1 + r13.1)) ≤ 3))) (want := true) rfl hb41 ?_
                            refine o_pickT (v := .v (.bool true)) (e := (r14.2 != 0)) (by decide) rfl hb42 rfl ?_
                            refine o_pickT (v := .v (.bool true)) (e := (decide ((w64 (r12.1 + r13.1)) ≤ 3))) (by decide) rfl hb41 rfl ?_
                            refine run_nil ?_
                            exact w_goto true (.cons (.refl _) (.cons (.refl _) (.cons (.refl _) (.cons (.refl _) .nil)))) ⟨(hS.keep [true, true, true, true, true] rfl).up (by omega), hM⟩
                          · replace hM := ifF hM hb42
                            refine o_guardY (j := 15) (e := (r14.2 != 0)) (want := false) rfl hb42 ?_
                            refine o_move (v := .v (.int .i64 r14.1)) (by decide) rfl ?_
                            refine o_guardY (j := 15) (e := (r14.2 != 0)) (want := false) rfl hb42 ?_
                            refine o_move (v := .v (.int .i64 r12.1)) (by decide) rfl ?_
                            refine o_guardY (j := 15) (e := (r14.2 != 0)) (want := false) rfl hb42 ?_
                            refine o_move (v := .v (.int .i64 r13.1)) (by decide) rfl ?_
                            refine o_guardY (j := 15) (e := (r14.2 != 0)) (want := false) rfl hb42 ?_
                            refine o_int (v := .v (.int .i64 (w64 (r12.1 + r13.1)))) (by decide) rfl rfl rfl ?_
                            refine o_guardY (j := 15) (e := (r14.2 != 0)) (want := false) rfl hb42 ?_
                            refine o_int (v := .v (.bool (decide (r14.1 > (w64 (r12.1 + r13.1)))))) (by decide) rfl rfl rfl ?_
                            refine o_guardY (j := 12) (e := (decide ((w64 (r12.1 + r13.1)) ≤ 3))) (want := true) rfl hb41 ?_
                            refine o_pickF (v := .v (.bool (decide (r14.1 > (w64 (r12.1 + r13.1)))))) (e := (r14.2 != 0)) (by decide) rfl hb42 rfl ?_
                            refine o_pickT (v := .v (.bool (decide (r14.1 > (w64 (r12.1 + r13.1)))))) (e := (decide ((w64 (r12.1 + r13.1)) ≤ 3))) (by decide) rfl hb41 rfl ?_
                            refine run_nil ?_
                            exact w_goto (decide (r14.1 > (w64 (r12.1 + r13.1)))) (.cons (.refl _) (.cons (.refl _) (.cons (.refl _) (.cons (.refl _) .nil)))) ⟨(hS.keep [true, true, true, true, true] rfl).up (by omega), hM⟩
                        · replace hM := ifF hM hb41
                          refine o_guardN (j := 12) (e := (decide ((w64 (r12.1 + r13.1)) ≤ 3))) (want := true) (by decide) rfl hb41 ?_
                          refine o_guardN (j := 12) (e := (decide ((w64 (r12.1 + r13.1)) ≤ 3))) (want := true) (by decide) rfl hb41 ?_
                          refine o_guardN (j := 12) (e := (decide ((w64 (r12.1 + r13.1)) ≤ 3))) (want := true) (by decide) rfl hb41 ?_
                          refine o_guardU (j := 15) (by decide) rfl ?_
                          refine o_guardU (j := 15) (by decide) rfl ?_
                          refine o_guardU (j := 15) (by decide) rfl ?_
                          refine o_guardU (j := 15) (by decide) rfl ?_
                          refine o_guardU (j := 15) (by decide) rfl ?_
                          refine o_guardN (j := 12) (e := (decide ((w64 (r12.1 + r13.1)) ≤ 3))) (want := true) (by decide) rfl hb41 ?_
                          refine o_pickF (v := .v (.bool false)) (e := (decide ((w64 (r12.1 + r13.1)) ≤ 3))) (by decide) rfl hb41 rfl ?_
                          refine run_nil ?_
                          exact w_goto false (.cons (.refl _) (.cons (.refl _) (.cons (.refl _) (.cons (.refl _) .nil)))) ⟨(hS.keep [true, true, true, true, true] rfl).up (by omega), hM⟩
                      · replace hM := ifF hM hb40
                        refine o_guardN (j := 6) (e := (r13.2 == 0)) (want := true) (by decide) rfl hb40 ?_
                        refine o_guardN (j := 6) (e := (r13.2 == 0)) (want := true) (by decide) rfl hb40 ?_
                        refine o_guardN (j := 6) (e := (r13.2 == 0)) (want := true) (by decide) rfl hb40 ?_
                        refine o_guardN (j := 6) (e := (r13.2 == 0)) (want := true) (by decide) rfl hb40 ?_
                        refine o_pickF (v := .v (.bool false)) (e := (r13.2 == 0)) (by decide) rfl hb40 rfl ?_
                        refine o_move (v := .v (.bool false)) (by decide) rfl ?_
                        refine o_guardN (j := 12) (e := false) (want := true) (by decide) rfl rfl ?_
                        refine o_guardN (j := 12) (e := false) (want := true) (by decide) rfl rfl ?_
                        refine o_guardN (j := 12) (e := false) (want := true) (by decide) rfl rfl ?_
                        refine o_guardU (j := 15) (by decide) rfl ?_
                        refine o_guardU (j := 15) (by decide) rfl ?_
                        refine o_guardU (j := 15) (by decide) rfl ?_
                        refine o_guardU (j := 15) (by decide) rfl ?_
                        refine o_guardU (j := 15) (by decide) rfl ?_
                        refine o_guardN (j := 12) (e := false) (want := true) (by decide) rfl rfl ?_
                        refine o_pickF (v := .v (.bool false)) (e := false) (by decide) rfl rfl rfl ?_
                        refine run_nil ?_
                        exact w_goto false (.cons (.refl _) (.cons (.refl _) (.cons (.refl _) (.cons (.refl _) .nil)))) ⟨(hS.keep [true, true, true, true, true] rfl).up (by omega), hM⟩
                    · replace hM := ifF hM hb39
                      refine o_guardN (j := 2) (e := (r12.2 == 0)) (want := true) (by decide) rfl hb39 ?_
                      refine o_guardN (j := 2) (e := (r12.2 == 0)) (want := true) (by decide) rfl hb39 ?_
                      refine o_pickF (v := .v (.bool false)) (e := (r12.2 == 0)) (by decide) rfl hb39 rfl ?_
                      refine o_move (v := .v (.bool false)) (by decide) rfl ?_
                      refine o_guardN (j := 6) (e := false) (want := true) (by decide) rfl rfl ?_
                      refine o_guardN (j := 6) (e := false) (want := true) (by decide) rfl rfl ?_
                      refine o_guardN (j := 6) (e := false) (want := true) (by decide) rfl rfl ?_
                      refine o_guardN (j := 6) (e := false) (want := true) (by decide) rfl rfl ?_
                      refine o_pickF (v := .v (.bool false)) (e := false) (by decide) rfl rfl rfl ?_
                      refine o_move (v := .v (.bool false)) (by decide) rfl ?_
                      refine o_guardN (j := 12) (e := false) (want := true) (by decide) rfl rfl ?_
                      refine o_guardN (j := 12) (e := false) (want := true) (by decide) rfl rfl ?_
                      refine o_guardN (j := 12) (e := false) (want := true) (by decide) rfl rfl ?_
                      refine o_guardU (j := 15) (by decide) rfl ?_
                      refine o_guardU (j := 15) (by decide) rfl ?_
                      refine o_guardU (j := 15) (by decide) rfl ?_
                      refine o_guardU (j := 15) (by decide) rfl ?_
                      refine o_guardU (j := 15) (by decide) rfl ?_
                      refine o_guardN (j := 12) (e := false) (want := true) (by decide) rfl rfl ?_
                      refine o_pickF (v := .v (.bool false)) (e := false) (by decide) rfl rfl rfl ?_
                      refine run_nil ?_
                      exact w_goto false (.cons (.refl _) (.cons (.refl _) (.cons (.refl _) (.cons (.refl _) .nil)))) ⟨(hS.keep [true, true, true, true, true] rfl).up (by omega), hM⟩
              · refine r_region (n := 26) rfl ?_
                refine o_move (v := .v (.int .i64 r12.2)) (by decide) rfl ?_
                obtain ⟨r43, hr43, hM⟩ := bindE hM
                refine o_call (bs := [.v (.int .i64 r12.2)]) (by decide) rfl rfl ((W_law13_isKnown hr43).le (.cons (.refl _) .nil)) ?_
                refine o_not (e := r43) (by decide) rfl ?_
                refine o_move (v := .v (.bool (!r43))) (by decide) rfl ?_
                rcases Bool.eq_false_or_eq_true (!r43) with hb44 | hb44
                · replace hM := ifT hM hb44
                  refine o_guardN (j := 3) (e := (!r43)) (want := false) (by decide) rfl hb44 ?_
                  refine o_guardN (j := 3) (e := (!r43)) (want := false) (by decide) rfl hb44 ?_
                  refine o_guardN (j := 3) (e := (!r43)) (want := false) (by decide) rfl hb44 ?_
                  refine o_pickT (v := .v (.bool true)) (e := (!r43)) (by decide) rfl hb44 rfl ?_
                  refine o_move (v := .v (.bool true)) (by decide) rfl ?_
                  refine o_guardN (j := 8) (e := true) (want := false) (by decide) rfl rfl ?_
                  refine o_guardN (j := 8) (e := true) (want := false) (by decide) rfl rfl ?_
                  refine o_guardN (j := 8) (e := true) (want := false) (by decide) rfl rfl ?_
                  refine o_pickT (v := .v (.bool true)) (e := true) (by decide) rfl rfl rfl ?_
                  refine o_move (v := .v (.bool true)) (by decide) rfl ?_
                  refine o_guardN (j := 13) (e := true) (want := false) (by decide) rfl rfl ?_
                  refine o_guardN (j := 13) (e := true) (want := false) (by decide) rfl rfl ?_
                  refine o_guardN (j := 13) (e := true) (want := false) (by decide) rfl rfl ?_
                  refine o_guardN (j := 13) (e := true) (want := false) (by decide) rfl rfl ?_
                  refine o_guardN (j := 13) (e := true) (want := false) (by decide) rfl rfl ?_
                  refine o_pickT (v := .v (.bool true)) (e := true) (by decide) rfl rfl rfl ?_
                  refine o_move (v := .v (.bool true)) (by decide) rfl ?_
                  refine o_guardN (j := 20) (e := true) (want := false) (by decide) rfl rfl ?_
                  refine o_guardN (j := 20) (e := true) (want := false) (by decide) rfl rfl ?_
                  refine o_guardN (j := 20) (e := true) (want := false) (by decide) rfl rfl ?_
                  refine o_guardN (j := 20) (e := true) (want := false) (by decide) rfl rfl ?_
                  refine o_pickT (v := .v (.bool true)) (e := true) (by decide) rfl rfl rfl ?_
                  refine run_nil ?_
                  exact w_goto true (.cons (.refl _) (.cons (.refl _) (.cons (.refl _) (.cons (.refl _) (.cons (.refl _) (.cons (.refl _) (.cons (.refl _) (.cons (.refl _) (.cons (.refl _) (.cons (.refl _) .nil)))))))))) ⟨(hS.keep [true, true, true, true, true] rfl).up (by omega), hM⟩
                · replace hM := ifF hM hb44
                  refine o_guardY (j := 3) (e := (!r43)) (want := false) rfl hb44 ?_
                  refine o_move (v := .v (.int .i64 r13.2)) (by decide) rfl ?_
                  refine o_guardY (j := 3) (e := (!r43)) (want := false) rfl hb44 ?_
                  obtain ⟨r45, hr45, hM⟩ := bindE hM
                  refine o_call (bs := [.v (.int .i64 r13.2)]) (by decide) rfl rfl ((W_law13_isKnown hr45).le (.cons (.refl _) .nil)) ?_
                  refine o_guardY (j := 3) (e := (!r43)) (want := false) rfl hb44 ?_
                  refine o_not (e := r45) (by decide) rfl ?_
                  refine o_pickF (v := .v (.bool (!r45))) (e := (!r43)) (by decide) rfl hb44 rfl ?_
                  refine o_move (v := .v (.bool (!r45))) (by decide) rfl ?_
                  rcases Bool.eq_false_or_eq_true (!r45) with hb46 | hb46
                  · replace hM := ifT hM hb46
                    refine o_guardN (j := 8) (e := (!r45)) (want := false) (by decide) rfl hb46 ?_
                    refine o_guardN (j := 8) (e := (!r45)) (want := false) (by decide) rfl hb46 ?_
                    refine o_guardN (j := 8) (e := (!r45)) (want := false) (by decide) rfl hb46 ?_
                    refine o_pickT (v := .v (.bool true)) (e := (!r45)) (by decide) rfl hb46 rfl ?_
                    refine o_move (v := .v (.bool true)) (by decide) rfl ?_
                    refine o_guardN (j := 13) (e := true) (want := false) (by decide) rfl rfl ?_
                    refine o_guardN (j := 13) (e := true) (want := false) (by decide) rfl rfl ?_
                    refine o_guardN (j := 13) (e := true) (want := false) (by decide) rfl rfl ?_
                    refine o_guardN (j := 13) (e := true) (want := false) (by decide) rfl rfl ?_
                    refine o_guardN (j := 13) (e := true) (want := false) (by decide) rfl rfl ?_
                    refine o_pickT (v := .v (.bool true)) (e := true) (by decide) rfl rfl rfl ?_
                    refine o_move (v := .v (.bool true)) (by decide) rfl ?_
                    refine o_guardN (j := 20) (e := true) (want := false) (by decide) rfl rfl ?_
                    refine o_guardN (j := 20) (e := true) (want := false) (by decide) rfl rfl ?_
                    refine o_guardN (j := 20) (e := true) (want := false) (by decide) rfl rfl ?_
                    refine o_guardN (j := 20) (e := true) (want := false) (by decide) rfl rfl ?_
                    refine o_pickT (v := .v (.bool true)) (e := true) (by decide) rfl rfl rfl ?_
                    refine run_nil ?_
                    exact w_goto true (.cons (.refl _) (.cons (.refl _) (.cons (.refl _) (.cons (.refl _) (.cons (.refl _) (.cons (.refl _) (.cons (.refl _) (.cons (.refl _) (.cons (.refl _) (.cons (.refl _) .nil)))))))))) ⟨(hS.keep [true, true, true, true, true] rfl).up (by omega), hM⟩
                  · replace hM := ifF hM hb46
                    refine o_guardY (j := 8) (e := (!r45)) (want := false) rfl hb46 ?_
                    refine o_move (v := .v (.int .i64 r14.2)) (by decide) rfl ?_
                    refine o_guardY (j := 8) (e := (!r45)) (want := false) rfl hb46 ?_
                    obtain ⟨r47, hr47, hM⟩ := bindE hM
                    refine o_call (bs := [.v (.int .i64 r14.2)]) (by decide) rfl rfl ((W_law13_isKnown hr47).le (.cons (.refl _) .nil)) ?_
                    refine o_guardY (j := 8) (e := (!r45)) (want := false) rfl hb46 ?_
                    refine o_not (e := r47) (by decide) rfl ?_
                    refine o_pickF (v := .v (.bool (!r47))) (e := (!r45)) (by decide) rfl hb46 rfl ?_
                    refine o_move (v := .v (.bool (!r47))) (by decide) rfl ?_
                    rcases Bool.eq_false_or_eq_true (!r47) with hb48 | hb48
                    · replace hM := ifT hM hb48
                      refine o_guardN (j := 13) (e := (!r47)) (want := false) (by decide) rfl hb48 ?_
                      refine o_guardN (j := 13) (e := (!r47)) (want := false) (by decide) rfl hb48 ?_
                      refine o_guardN (j := 13) (e := (!r47)) (want := false) (by decide) rfl hb48 ?_
                      refine o_guardN (j := 13) (e := (!r47)) (want := false) (by decide) rfl hb48 ?_
                      refine o_guardN (j := 13) (e := (!r47)) (want := false) (by decide) rfl hb48 ?_
                      refine o_pickT (v := .v (.bool true)) (e := (!r47)) (by decide) rfl hb48 rfl ?_
                      refine o_move (v := .v (.bool true)) (by decide) rfl ?_
                      refine o_guardN (j := 20) (e := true) (want := false) (by decide) rfl rfl ?_
                      refine o_guardN (j := 20) (e := true) (want := false) (by decide) rfl rfl ?_
                      refine o_guardN (j := 20) (e := true) (want := false) (by decide) rfl rfl ?_
                      refine o_guardN (j := 20) (e := true) (want := false) (by decide) rfl rfl ?_
                      refine o_pickT (v := .v (.bool true)) (e := true) (by decide) rfl rfl rfl ?_
                      refine run_nil ?_
                      exact w_goto true (.cons (.refl _) (.cons (.refl _) (.cons (.refl _) (.cons (.refl _) (.cons (.refl _) (.cons (.refl _) (.cons (.refl _) (.cons (.refl _) (.cons (.refl _) (.cons (.refl _) .nil)))))))))) ⟨(hS.keep [true, true, true, true, true] rfl).up (by omega), hM⟩
                    · replace hM := ifF hM hb48
                      refine o_guardY (j := 13) (e := (!r47)) (want := false) rfl hb48 ?_
                      refine o_move (v := .v (.int .i64 r12.1)) (by decide) rfl ?_
                      refine o_guardY (j := 13) (e := (!r47)) (want := false) rfl hb48 ?_
                      refine o_move (v := .v (.int .i64 r13.1)) (by decide) rfl ?_
                      refine o_guardY (j := 13) (e := (!r47)) (want := false) rfl hb48 ?_
                      refine o_move (v := .v (.int .i64 r14.1)) (by decide) rfl ?_
                      refine o_guardY (j := 13) (e := (!r47)) (want := false) rfl hb48 ?_
                      refine o_min (v := .v (.int .i64 (min (min r12.1 r13.1) r14.1))) (by decide) rfl ?_
                      refine o_guardY (j := 13) (e := (!r47)) (want := false) rfl hb48 ?_
                      refine o_int (v := .v (.bool (decide ((min (min r12.1 r13.1) r14.1) < 0)))) (by decide) rfl rfl rfl ?_
                      refine o_pickF (v := .v (.bool (decide ((min (min r12.1 r13.1) r14.1) < 0)))) (e := (!r47)) (by decide) rfl hb48 rfl ?_
                      refine o_move (v := .v (.bool (decide ((min (min r12.1 r13.1) r14.1) < 0)))) (by decide) rfl ?_
                      rcases Bool.eq_false_or_eq_true (decide ((min (min r12.1 r13.1) r14.1) < 0)) with hb49 | hb49
                      · replace hM := ifT hM hb49
                        refine o_guardN (j := 20) (e := (decide ((min (min r12.1 r13.1) r14.1) < 0))) (want := false) (by decide) rfl hb49 ?_
                        refine o_guardN (j := 20) (e := (decide ((min (min r12.1 r13.1) r14.1) < 0))) (want := false) (by decide) rfl hb49 ?_
                        refine o_guardN (j := 20) (e := (decide ((min (min r12.1 r13.1) r14.1) < 0))) (want := false) (by decide) rfl hb49 ?_
                        refine o_guardN (j := 20) (e := (decide ((min (min r12.1 r13.1) r14.1) < 0))) (want := false) (by decide) rfl hb49 ?_
                        refine o_pickT (v := .v (.bool true)) (e := (decide ((min (min r12.1 r13.1) r14.1) < 0))) (by decide) rfl hb49 rfl ?_
                        refine run_nil ?_
                        exact w_goto true (.cons (.refl _) (.cons (.refl _) (.cons (.refl _) (.cons (.refl _) (.cons (.refl _) (.cons (.refl _) (.cons (.refl _) (.cons (.refl _) (.cons (.refl _) (.cons (.refl _) .nil)))))))))) ⟨(hS.keep [true, true, true, true, true] rfl).up (by omega), hM⟩
                      · replace hM := ifF hM hb49
                        refine o_guardY (j := 20) (e := (decide ((min (min r12.1 r13.1) r14.1) < 0))) (want := false) rfl hb49 ?_
                        refine o_move (v := .v (.int .i64 r12.1)) (by decide) rfl ?_
                        refine o_guardY (j := 20) (e := (decide ((min (min r12.1 r13.1) r14.1) < 0))) (want := false) rfl hb49 ?_
                        refine o_move (v := .v (.int .i64 r13.1)) (by decide) rfl ?_
                        refine o_guardY (j := 20) (e := (decide ((min (min r12.1 r13.1) r14.1) < 0))) (want := false) rfl hb49 ?_
                        refine o_max (v := .v (.int .i64 (max r12.1 r13.1))) (by decide) rfl ?_
                        refine o_guardY (j := 20) (e := (decide ((min (min r12.1 r13.1) r14.1) < 0))) (want := false) rfl hb49 ?_
                        refine o_int (v := .v (.bool (decide ((max r12.1 r13.1) > 3)))) (by decide) rfl rfl rfl ?_
                        refine o_pickF (v := .v (.bool (decide ((max r12.1 r13.1) > 3)))) (e := (decide ((min (min r12.1 r13.1) r14.1) < 0))) (by decide) rfl hb49 rfl ?_
                        refine run_nil ?_
                        exact w_goto (decide ((max r12.1 r13.1) > 3)) (.cons (.refl _) (.cons (.refl _) (.cons (.refl _) (.cons (.refl _) (.cons (.refl _) (.cons (.refl _) (.cons (.refl _) (.cons (.refl _) (.cons (.refl _) (.cons (.refl _) .nil)))))))))) ⟨(hS.keep [true, true, true, true, true] rfl).up (by omega), hM⟩
          · refine r_region (n := 8) rfl ?_
            refine o_load (v := .agg [.v (.int .i64 r4.Letters), .v (.int .i64 r4.Numbers), .v (.int .i64 r4.Pitch), .v (.int .i64 r4.Slack), .v (.int .i64 r4.Gap), .v (.int .i64 r4.Pause), .v (.int .i64 r4.Sparks), .sl (.id (g1 + 8 + 2)) 1 (v8.map cI)]) 2 hS (by decide) rfl rfl .no (part_agg ty_agg24 (Nat.le_of_ble_eq_true rfl) rfl) ?_
            obtain ⟨r50, hr50, hM⟩ := bindE hM
            refine o_call (bs := [.agg [.v (.int .i64 r4.Letters), .v (.int .i64 r4.Numbers), .v (.int .i64 r4.Pitch), .v (.int .i64 r4.Slack), .v (.int .i64 r4.Gap), .v (.int .i64 r4.Pause), .v (.int .i64 r4.Sparks), .sl (.id (g1 + 8 + 2)) 1 (v8.map cI)]]) (by decide) rfl rfl ((W_law13_ready hr50).le (.cons (.aggL (.cons (.refl _) (.cons (.refl _) (.cons (.refl _) (.cons (.refl _) (.cons (.refl _) (.cons (.refl _) (.cons (.refl _) (.cons (.sl _ _ _) .nil))))))))) .nil)) ?_
            refine o_not (e := r50) (by decide) rfl ?_
            refine o_move (v := .v (.bool (!r50))) (by decide) rfl ?_
            rcases Bool.eq_false_or_eq_true (!r50) with hb51 | hb51
            · replace hM := ifT hM hb51
              refine o_guardN (j := 3) (e := (!r50)) (want := false) (by decide) rfl hb51 ?_
              refine o_guardN (j := 3) (e := (!r50)) (want := false) (by decide) rfl hb51 ?_
              refine o_guardN (j := 3) (e := (!r50)) (want := false) (by decide) rfl hb51 ?_
              refine o_pickT (v := .v (.bool true)) (e := (!r50)) (by decide) rfl hb51 rfl ?_
              refine run_nil ?_
              exact w_goto true (.cons (.refl _) (.cons (.refl _) (.cons (.refl _) (.cons (.refl _) .nil)))) ⟨(hS.keep [true, true, true, true, true] rfl).up (by omega), hM⟩
            · replace hM := ifF hM hb51
              refine o_guardY (j := 3) (e := (!r50)) (want := false) rfl hb51 ?_
              refine o_load (v := .agg [.v (.int .i64 r5.Letters), .v (.int .i64 r5.Numbers), .v (.int .i64 r5.Pitch), .v (.int .i64 r5.Slack), .v (.int .i64 r5.Gap), .v (.int .i64 r5.Pause), .v (.int .i64 r5.Sparks), .sl (.id (g1 + 3)) 1 (v7.map cI)]) 1 hS (by decide) rfl rfl .no (part_agg ty_agg24 (Nat.le_of_ble_eq_true rfl) rfl) ?_
              refine o_guardY (j := 3) (e := (!r50)) (want := false) rfl hb51 ?_
              obtain ⟨r52, hr52, hM⟩ := bindE hM
              refine o_call (bs := [.agg [.v (.int .i64 r5.Letters), .v (.int .i64 r5.Numbers), .v (.int .i64 r5.Pitch), .v (.int .i64 r5.Slack), .v (.int .i64 r5.Gap), .v (.int .i64 r5.Pause), .v (.int .i64 r5.Sparks), .sl (.id (g1 + 3)) 1 (v7.map cI)]]) (by decide) rfl rfl ((W_law13_ready hr52).le (.cons (.aggL (.cons (.refl _) (.cons (.refl _) (.cons (.refl _) (.cons (.refl _) (.cons (.refl _) (.cons (.refl _) (.cons (.refl _) (.cons (.sl _ _ _) .nil))))))))) .nil)) ?_
              refine o_guardY (j := 3) (e := (!r50)) (want := false) rfl hb51 ?_
              refine o_not (e := r52) (by decide) rfl ?_
              refine o_pickF (v := .v (.bool (!r52))) (e := (!r50)) (by decide) rfl hb51 rfl ?_
              refine run_nil ?_
              exact w_goto (!r52) (.cons (.refl _) (.cons (.refl _) (.cons (.refl _) (.cons (.refl _) .nil)))) ⟨(hS.keep [true, true, true, true, true] rfl).up (by omega), hM⟩
        · refine r_seq ?_
          refine r_region (n := 1) rfl ?_
          refine o_assign (v := .v (.int .i64 0)) (by decide) rfl ?_
          refine run_nil ?_
          refine w_next [(1, .sl .no 1 (a1.map cI)), (2, .ptr (g + 0) 0), (5, .ptr (g1 + 4) 0), (6, .ptr (g1 + 5) 0), (7, .v (.int .i64 v6)), (8, .v (.int .i64 0))] (.cons (.refl _) (.cons (.refl _) (.cons (.refl _) (.cons (.refl _) (.cons (.refl _) (.cons (.refl _) .nil)))))) ?_
          refine r_block ?_
          refine w_loop (V := Int × Int × (List Int) × (List Int)) (fun v => [(1, .sl .no 1 (a1.map cI)), (2, .ptr (g + 0) 0), (5, .ptr (g1 + 4) 0), (6, .ptr (g1 + 5) 0), (7, .v (.int .i64 v.1)), (8, .v (.int .i64 v.2.1))]) (fun v m11 H' g' => St (· < g) H0 [(g1 + 8 + 2, .row 3 v.2.2.2.length), (g1 + 5, .cells [.v (.int .i64 r5.Letters), .v (.int .i64 r5.Numbers), .v (.int .i64 r5.Pitch), .v (.int .i64 r5.Slack), .v (.int .i64 r5.Gap), .v (.int .i64 r5.Pause), .v (.int .i64 r5.Sparks), .sl (.id (g1 + 3)) 1 (v.2.2.1.map cI)]), (g1 + 4, .cells [.v (.int .i64 r4.Letters), .v (.int .i64 r4.Numbers), .v (.int .i64 r4.Pitch), .v (.int .i64 r4.Slack), .v (.int .i64 r4.Gap), .v (.int .i64 r4.Pause), .v (.int .i64 r4.Sparks), .sl (.id (g1 + 8 + 2)) 1 (v.2.2.2.map cI)]), (g1 + 3, .row 3 v.2.2.1.length), (g + 0, .cells [.v (.int .i64 a0.Letters), .v (.int .i64 a0.Numbers), .v (.int .i64 a0.Pitch), .v (.int .i64 a0.Slack), .v (.int .i64 a0.Gap), .v (.int .i64 a0.Pause), .v (.int .i64 a0.Sparks), .sl .no 1 (a0.Times.map cI)])] H' g' ∧ law13_PulsesTwo_l1 n a0 a1 r4 r5 m11 v.1 v.2.1 v.2.2.1 v.2.2.2 = some r) (n := n) (v6, 0, r5.Times, ([] : List Int)) (.cons (.refl _) (.cons (.refl _) (.cons (.refl _) (.cons (.refl _) (.cons (.refl _) (.cons (.refl _) .nil)))))) ⟨(hS.keep [true, true, true, true, true] rfl).up (by omega), hM⟩ ?_
          rintro ⟨v55, v56, v57, v58⟩ m11 H g11 ⟨hS, hM⟩
          obtain _ | m11 := m11
          · exact nomatch (show none = some _ from hM)
          change wpA _ _ _ _ (Fr.of [(1, .sl .no 1 (a1.map cI)), (2, .ptr (g + 0) 0), (5, .ptr (g1 + 4) 0), (6, .ptr (g1 + 5) 0), (7, .v (.int .i64 v55)), (8, .v (.int .i64 v56))]) _ _
          replace hS : St (· < g) H0 [(g1 + 8 + 2, .row 3 v58.length), (g1 + 5, .cells [.v (.int .i64 r5.Letters), .v (.int .i64 r5.Numbers), .v (.int .i64 r5.Pitch), .v (.int .i64 r5.Slack), .v (.int .i64 r5.Gap), .v (.int .i64 r5.Pause), .v (.int .i64 r5.Sparks), .sl (.id (g1 + 3)) 1 (v57.map cI)]), (g1 + 4, .cells [.v (.int .i64 r4.Letters), .v (.int .i64 r4.Numbers), .v (.int .i64 r4.Pitch), .v (.int .i64 r4.Slack), .v (.int .i64 r4.Gap), .v (.int .i64 r4.Pause), .v (.int .i64 r4.Sparks), .sl (.id (g1 + 8 + 2)) 1 (v58.map cI)]), (g1 + 3, .row 3 v57.length), (g + 0, .cells [.v (.int .i64 a0.Letters), .v (.int .i64 a0.Numbers), .v (.int .i64 a0.Pitch), .v (.int .i64 a0.Slack), .v (.int .i64 a0.Gap), .v (.int .i64 a0.Pause), .v (.int .i64 a0.Sparks), .sl .no 1 (a0.Times.map cI)])] H g11 := hS
          replace hM : law13_PulsesTwo_l1_b n a0 a1 r4 r5 (law13_PulsesTwo_l1 n a0 a1 r4 r5 m11) v55 v56 v57 v58 = some r := hM
          refine r_seq ?_
          refine r_seq ?_
          refine r_region (n := 4) rfl ?_
          refine o_move (v := .v (.int .i64 v56)) (by decide) rfl ?_
          refine o_move (v := .sl .no 1 (a1.map cI)) (by decide) rfl ?_
          refine o_len (n := a1.length) (by decide) rfl (List.length_map _) ty_isl22 ?_
          refine o_int (v := .v (.bool (decide (v56 < (a1.length : Int))))) (by decide) rfl rfl rfl ?_
          refine run_nil ?_
          refine w_next [(1, .sl .no 1 (a1.map cI)), (2, .ptr (g + 0) 0), (5, .ptr (g1 + 4) 0), (6, .ptr (g1 + 5) 0), (7, .v (.int .i64 v55)), (8, .v (.int .i64 v56)), (50, .v (.bool (decide (v56 < (a1.length : Int)))))] (.cons (.refl _) (.cons (.refl _) (.cons (.refl _) (.cons (.refl _) (.cons (.refl _) (.cons (.refl _) (.cons (.refl _) .nil))))))) ?_
          rcases Bool.eq_false_or_eq_true (decide (v56 < (a1.length : Int))) with hb59 | hb59
          · replace hM := ifT hM hb59
            refine w_condT (e := (decide (v56 < (a1.length : Int)))) rfl hb59 ?_
            refine r_skip ?_
            refine w_next [(1, .sl .no 1 (a1.map cI)), (2, .ptr (g + 0) 0), (5, .ptr (g1 + 4) 0), (6, .ptr (g1 + 5) 0), (7, .v (.int .i64 v55)), (8, .v (.int .i64 v56))] (.cons (.refl _) (.cons (.refl _) (.cons (.refl _) (.cons (.refl _) (.cons (.refl _) (.cons (.refl _) .nil)))))) ?_
            refine r_seq ?_
            refine r_block ?_
            refine r_seq ?_
            refine w_join (J := Bool) (fun j => [(1, .sl .no 1 (a1.map cI)), (2, .ptr (g + 0) 0), (5, .ptr (g1 + 4) 0), (6, .ptr (g1 + 5) 0), (7, .v (.int .i64 v55)), (8, .v (.int .i64 v56)), (64, .v (.bool j))]) (fun j H' g' => St (· < g) H0 [(g1 + 8 + 2, .row 3 v58.length), (g1 + 5, .cells [.v (.int .i64 r5.Letters), .v (.int .i64 r5.Numbers), .v (.int .i64 r5.Pitch), .v (.int .i64 r5.Slack), .v (.int .i64 r5.Gap), .v (.int .i64 r5.Pause), .v (.int .i64 r5.Sparks), .sl (.id (g1 + 3)) 1 (v57.map cI)]), (g1 + 4, .cells [.v (.int .i64 r4.Letters), .v (.int .i64 r4.Numbers), .v (.int .i64 r4.Pitch), .v (.int .i64 r4.Slack), .v (.int .i64 r4.Gap), .v (.int .i64 r4.Pause), .v (.int .i64 r4.Sparks), .sl (.id (g1 + 8 + 2)) 1 (v58.map cI)]), (g1 + 3, .row 3 v57.length), (g + 0, .cells [.v (.int .i64 a0.Letters), .v (.int .i64 a0.Numbers), .v (.int .i64 a0.Pitch), .v (.int .i64 a0.Slack), .v (.int .i64 a0.Gap), .v (.int .i64 a0.Pause), .v (.int .i64 a0.Sparks), .sl .no 1 (a0.Times.map cI)])] H' g' ∧ law13_PulsesTwo_j10 n (law13_PulsesTwo_l1 n a0 a1 r4 r5 m11) a1 v55 v56 v57 v58 j = some r) ?_ ?_
            · rintro v60 H g12 ⟨hS, hM⟩
              change wpA _ _ _ _ (Fr.of [(1, .sl .no 1 (a1.map cI)), (2, .ptr (g + 0) 0), (5, .ptr (g1 + 4) 0), (6, .ptr (g1 + 5) 0), (7, .v (.int .i64 v55)), (8, .v (.int .i64 v56)), (64, .v (.bool v60))]) _ _
              replace hS : St (· < g) H0 [(g1 + 8 + 2, .row 3 v58.length), (g1 + 5, .cells [.v (.int .i64 r5.Letters), .v (.int .i64 r5.Numbers), .v (.int .i64 r5.Pitch), .v (.int .i64 r5.Slack), .v (.int .i64 r5.Gap), .v (.int .i64 r5.Pause), .v (.int .i64 r5.Sparks), .sl (.id (g1 + 3)) 1 (v57.map cI)]), (g1 + 4, .cells [.v (.int .i64 r4.Letters), .v (.int .i64 r4.Numbers), .v (.int .i64 r4.Pitch), .v (.int .i64 r4.Slack), .v (.int .i64 r4.Gap), .v (.int .i64 r4.Pause), .v (.int .i64 r4.Sparks), .sl (.id (g1 + 8 + 2)) 1 (v58.map cI)]), (g1 + 3, .row 3 v57.length), (g + 0, .cells [.v (.int .i64 a0.Letters), .v (.int .i64 a0.Numbers), .v (.int .i64 a0.Pitch), .v (.int .i64 a0.Slack), .v (.int .i64 a0.Gap), .v (.int .i64 a0.Pause), .v (.int .i64 a0.Sparks), .sl .no 1 (a0.Times.map cI)])] H g12 := hS
              replace hM : law13_PulsesTwo_j10 n (law13_PulsesTwo_l1 n a0 a1 r4 r5 m11) a1 v55 v56 v57 v58 v60 = some r := hM
              rcases Bool.eq_false_or_eq_true v60 with hb61 | hb61
              · replace hM := ifT hM hb61
                refine w_condT (e := v60) rfl hb61 ?_
                refine r_seq ?_
                refine r_region (n := 2) rfl ?_
                obtain ⟨r62, hr62, hM⟩ := bindE hM
                refine o_call (bs := []) (by decide) rfl rfl ((W_law13_works hr62).le .nil) ?_
                refine o_assign (v := .v (.bool r62)) (by decide) rfl ?_
                refine run_nil ?_
                replace hS := hS.keep (L' := []) [false, false, false, false, false] rfl
                refine w_next [(4, .v (.bool r62))] (.cons (.refl _) .nil) ?_
                refine r_ret ?_
                refine r_then_ret ?_
                refine r_blk_ret ?_
                refine r_then_ret ?_
                refine w_round_ret ?_
                refine r_blk_ret ?_
                refine w_goto_ret ?_
                refine w_end (x := .v (.bool r62)) (f := fun r => .v (.bool r)) (.inr rfl) ?_ (.refl _) (Option.some.inj hM) hS
                exact (res_one (res_tmp (x := .v (.bool r62)) rfl))
              · replace hM := ifF hM hb61
                refine w_condF (e := v60) rfl hb61 ?_
                refine r_skip ?_
                refine w_next [(1, .sl .no 1 (a1.map cI)), (2, .ptr (g + 0) 0), (5, .ptr (g1 + 4) 0), (6, .ptr (g1 + 5) 0), (7, .v (.int .i64 v55)), (8, .v (.int .i64 v56))] (.cons (.refl _) (.cons (.refl _) (.cons (.refl _) (.cons (.refl _) (.cons (.refl _) (.cons (.refl _) .nil)))))) ?_
                refine r_seq ?_
                refine r_region (n := 7) rfl ?_
                refine o_move (v := .v (.int .i64 v55)) (by decide) rfl ?_
                refine o_move (v := .sl .no 1 (a1.map cI)) (by decide) rfl ?_
                refine o_move (v := .v (.int .i64 v56)) (by decide) rfl ?_
                obtain ⟨x63, hx63, hM⟩ := bindE hM
                refine o_index (xs := a1) (f := cI) (z := v56) (u := x63) (by decide) rfl rfl ty_es22 hx63 ?_
                refine o_loadE (v := .v (.int .i64 x63)) (by decide) rfl (part_one ty_agg3 ty_sc3 rfl) ?_
                refine o_int (v := .v (.int .i64 (w64 (v55 + x63)))) (by decide) rfl rfl rfl ?_
                refine o_assign (v := .v (.int .i64 (w64 (v55 + x63)))) (by decide) rfl ?_
                refine run_nil ?_
                refine w_next [(1, .sl .no 1 (a1.map cI)), (2, .ptr (g + 0) 0), (5, .ptr (g1 + 4) 0), (6, .ptr (g1 + 5) 0), (7, .v (.int .i64 (w64 (v55 + x63)))), (8, .v (.int .i64 v56))] (.cons (.refl _) (.cons (.refl _) (.cons (.refl _) (.cons (.refl _) (.cons (.refl _) (.cons (.refl _) .nil)))))) ?_
                have hS0 := hS
                refine r_draw (n := 14) rfl (by kernel_rfl) ?_
                refine o_fieldP (by decide) ty_fo24_7 rfl ?_
                refine o_load (v := .sl (.id (g1 + 8 + 2)) 1 (v58.map cI)) 2 hS (by decide) rfl rfl (.st hS0 2 rfl (by omega)) (part_one ty_agg22 ty_sc22 rfl) ?_
                refine o_move (v := .v (.int .i64 (w64 (v55 + x63)))) (by decide) rfl ?_
                refine o_buildSlice (es := [[.v (.int .i64 (w64 (v55 + x63)))]]) hS (by decide) ty_es22 ty_el22 rfl ty_ef22 rfl (by decide) (by omega) fun H hS => ?_
                obtain ⟨l64, hl64, hM⟩ := bindE hM
                refine o_append (xs := v58) (ys := ([w64 (v55 + x63)] : List Int)) (zs := l64) (f := cI) (L' := [(g12 + 7 + 3, .row 3 1), (g1 + 8 + 2, .row 3 l64.length), (g1 + 5, .cells [.v (.int .i64 r5.Letters), .v (.int .i64 r5.Numbers), .v (.int .i64 r5.Pitch), .v (.int .i64 r5.Slack), .v (.int .i64 r5.Gap), .v (.int .i64 r5.Pause), .v (.int .i64 r5.Sparks), .sl (.id (g1 + 3)) 1 (v57.map cI)]), (g1 + 4, .cells [.v (.int .i64 r4.Letters), .v (.int .i64 r4.Numbers), .v (.int .i64 r4.Pitch), .v (.int .i64 r4.Slack), .v (.int .i64 r4.Gap), .v (.int .i64 r4.Pause), .v (.int .i64 r4.Sparks), .sl (.id (g1 + 8 + 2)) 1 (v58.map cI)]), (g1 + 3, .row 3 v57.length), (g + 0, .cells [.v (.int .i64 a0.Letters), .v (.int .i64 a0.Numbers), .v (.int .i64 a0.Pitch), .v (.int .i64 a0.Slack), .v (.int .i64 a0.Gap), .v (.int .i64 a0.Pause), .v (.int .i64 a0.Sparks), .sl .no 1 (a0.Times.map cI)])]) 1 hS (by decide) rfl rfl rfl rfl (.st hS0 0 rfl (by omega)) ty_es22 ty_el22 ty_ef22 hl64 rfl fun H hS => ?_
                refine o_fieldP (by decide) ty_fo24_7 rfl ?_
                refine o_load (v := .sl (.id (g1 + 3)) 1 (v57.map cI)) 2 hS (by decide) rfl rfl (.st hS0 1 rfl (by omega)) (part_one ty_agg22 ty_sc22 rfl) ?_
                refine o_move (v := .v (.int .i64 (w64 (v55 + x63)))) (by decide) rfl ?_
                refine o_buildSlice (es := [[.v (.int .i64 (w64 (v55 + x63)))]]) hS (by decide) ty_es22 ty_el22 rfl ty_ef22 rfl (by decide) (by omega) fun H hS => ?_
                obtain ⟨l65, hl65, hM⟩ := bindE hM
                refine o_append (xs := v57) (ys := ([w64 (v55 + x63)] : List Int)) (zs := l65) (f := cI) (L' := [(g12 + 7 + 8, .row 3 1), (g12 + 7 + 3, .row 3 1), (g1 + 8 + 2, .row 3 l64.length), (g1 + 5, .cells [.v (.int .i64 r5.Letters), .v (.int .i64 r5.Numbers), .v (.int .i64 r5.Pitch), .v (.int .i64 r5.Slack), .v (.int .i64 r5.Gap), .v (.int .i64 r5.Pause), .v (.int .i64 r5.Sparks), .sl (.id (g1 + 3)) 1 (v57.map cI)]), (g1 + 4, .cells [.v (.int .i64 r4.Letters), .v (.int .i64 r4.Numbers), .v (.int .i64 r4.Pitch), .v (.int .i64 r4.Slack), .v (.int .i64 r4.Gap), .v (.int .i64 r4.Pause), .v (.int .i64 r4.Sparks), .sl (.id (g1 + 8 + 2)) 1 (v58.map cI)]), (g1 + 3, .row 3 l65.length), (g + 0, .cells [.v (.int .i64 a0.Letters), .v (.int .i64 a0.Numbers), .v (.int .i64 a0.Pitch), .v (.int .i64 a0.Slack), .v (.int .i64 a0.Gap), .v (.int .i64 a0.Pause), .v (.int .i64 a0.Sparks), .sl .no 1 (a0.Times.map cI)])]) 5 hS (by decide) rfl rfl rfl rfl (.st hS0 3 rfl (by omega)) ty_es22 ty_el22 ty_ef22 hl65 rfl fun H hS => ?_
                refine o_fieldP (by decide) ty_fo24_7 rfl ?_
                refine o_store (v := .sl (.id (g1 + 8 + 2)) 1 (l64.map cI)) (ns := [.sl (.id (g1 + 8 + 2)) 1 (l64.map cI)]) (L' := [(g12 + 7 + 8, .row 3 1), (g12 + 7 + 3, .row 3 1), (g1 + 8 + 2, .row 3 l64.length), (g1 + 5, .cells [.v (.int .i64 r5.Letters), .v (.int .i64 r5.Numbers), .v (.int .i64 r5.Pitch), .v (.int .i64 r5.Slack), .v (.int .i64 r5.Gap), .v (.int .i64 r5.Pause), .v (.int .i64 r5.Sparks), .sl (.id (g1 + 3)) 1 (v57.map cI)]), (g1 + 4, .cells [.v (.int .i64 r4.Letters), .v (.int .i64 r4.Numbers), .v (.int .i64 r4.Pitch), .v (.int .i64 r4.Slack), .v (.int .i64 r4.Gap), .v (.int .i64 r4.Pause), .v (.int .i64 r4.Sparks), .sl (.id (g1 + 8 + 2)) 1 (l64.map cI)]), (g1 + 3, .row 3 l65.length), (g + 0, .cells [.v (.int .i64 a0.Letters), .v (.int .i64 a0.Numbers), .v (.int .i64 a0.Pitch), .v (.int .i64 a0.Slack), .v (.int .i64 a0.Gap), .v (.int .i64 a0.Pause), .v (.int .i64 a0.Sparks), .sl .no 1 (a0.Times.map cI)])]) 4 hS rfl rfl (.st hS0 2 rfl (by omega)) rfl rfl ty_var22 (Nat.le_of_ble_eq_true rfl) rfl fun H hS => ?_
                refine o_fieldP (by decide) ty_fo24_7 rfl ?_
                refine o_store (v := .sl (.id (g1 + 3)) 1 (l65.map cI)) (ns := [.sl (.id (g1 + 3)) 1 (l65.map cI)]) (L' := [(g12 + 7 + 8, .row 3 1), (g12 + 7 + 3, .row 3 1), (g1 + 8 + 2, .row 3 l64.length), (g1 + 5, .cells [.v (.int .i64 r5.Letters), .v (.int .i64 r5.Numbers), .v (.int .i64 r5.Pitch), .v (.int .i64 r5.Slack), .v (.int .i64 r5.Gap), .v (.int .i64 r5.Pause), .v (.int .i64 r5.Sparks), .sl (.id (g1 + 3)) 1 (l65.map cI)]), (g1 + 4, .cells [.v (.int .i64 r4.Letters), .v (.int .i64 r4.Numbers), .v (.int .i64 r4.Pitch), .v (.int .i64 r4.Slack), .v (.int .i64 r4.Gap), .v (.int .i64 r4.Pause), .v (.int .i64 r4.Sparks), .sl (.id (g1 + 8 + 2)) 1 (l64.map cI)]), (g1 + 3, .row 3 l65.length), (g + 0, .cells [.v (.int .i64 a0.Letters), .v (.int .i64 a0.Numbers), .v (.int .i64 a0.Pitch), .v (.int .i64 a0.Slack), .v (.int .i64 a0.Gap), .v (.int .i64 a0.Pause), .v (.int .i64 a0.Sparks), .sl .no 1 (a0.Times.map cI)])]) 3 hS rfl rfl (.st hS0 1 rfl (by omega)) rfl rfl ty_var22 (Nat.le_of_ble_eq_true rfl) rfl fun H hS => ?_
                refine run_nil ?_
                refine r_blk_normal ?_
                replace hS := hS.keep (L' := [(g1 + 8 + 2, .row 3 l64.length), (g1 + 5, .cells [.v (.int .i64 r5.Letters), .v (.int .i64 r5.Numbers), .v (.int .i64 r5.Pitch), .v (.int .i64 r5.Slack), .v (.int .i64 r5.Gap), .v (.int .i64 r5.Pause), .v (.int .i64 r5.Sparks), .sl (.id (g1 + 3)) 1 (l65.map cI)]), (g1 + 4, .cells [.v (.int .i64 r4.Letters), .v (.int .i64 r4.Numbers), .v (.int .i64 r4.Pitch), .v (.int .i64 r4.Slack), .v (.int .i64 r4.Gap), .v (.int .i64 r4.Pause), .v (.int .i64 r4.Sparks), .sl (.id (g1 + 8 + 2)) 1 (l64.map cI)]), (g1 + 3, .row 3 l65.length), (g + 0, .cells [.v (.int .i64 a0.Letters), .v (.int .i64 a0.Numbers), .v (.int .i64 a0.Pitch), .v (.int .i64 a0.Slack), .v (.int .i64 a0.Gap), .v (.int .i64 a0.Pause), .v (.int .i64 a0.Sparks), .sl .no 1 (a0.Times.map cI)])]) [false, false, true, true, true, true, true] rfl
                refine w_next [(1, .sl .no 1 (a1.map cI)), (2, .ptr (g + 0) 0), (5, .ptr (g1 + 4) 0), (6, .ptr (g1 + 5) 0), (7, .v (.int .i64 (w64 (v55 + x63)))), (8, .v (.int .i64 v56))] (.cons (.refl _) (.cons (.refl _) (.cons (.refl _) (.cons (.refl _) (.cons (.refl _) (.cons (.refl _) .nil)))))) ?_
                refine r_region (n := 3) rfl ?_
                refine o_move (v := .v (.int .i64 v56)) (by decide) rfl ?_
                refine o_int (v := .v (.int .i64 (w64 (v56 + 1)))) (by decide) rfl rfl rfl ?_
                refine o_assign (v := .v (.int .i64 (w64 (v56 + 1)))) (by decide) rfl ?_
                refine run_nil ?_
                exact w_round (w64 (v55 + x63), w64 (v56 + 1), l65, l64) (Nat.lt_succ_self _) (.cons (.refl _) (.cons (.refl _) (.cons (.refl _) (.cons (.refl _) (.cons (.refl _) (.cons (.refl _) .nil)))))) ⟨(hS.keep [true, true, true, true, true] rfl).up (by omega), hM⟩
            · refine r_region (n := 12) rfl ?_
              refine o_move (v := .sl .no 1 (a1.map cI)) (by decide) rfl ?_
              refine o_move (v := .v (.int .i64 v56)) (by decide) rfl ?_
              obtain ⟨x66, hx66, hM⟩ := bindE hM
              refine o_index (xs := a1) (f := cI) (z := v56) (u := x66) (by decide) rfl rfl ty_es22 hx66 ?_
              refine o_loadE (v := .v (.int .i64 x66)) (by decide) rfl (part_one ty_agg3 ty_sc3 rfl) ?_
              refine o_int (v := .v (.bool (decide (x66 < 0)))) (by decide) rfl rfl rfl ?_
              refine o_move (v := .v (.bool (decide (x66 < 0)))) (by decide) rfl ?_
              rcases Bool.eq_false_or_eq_true (decide (x66 < 0)) with hb67 | hb67
              · replace hM := ifT hM hb67
                refine o_guardN (j := 5) (e := (decide (x66 < 0))) (want := false) (by decide) rfl hb67 ?_
                refine o_guardN (j := 5) (e := (decide (x66 < 0))) (want := false) (by decide) rfl hb67 ?_
                refine o_guardN (j := 5) (e := (decide (x66 < 0))) (want := false) (by decide) rfl hb67 ?_
                refine o_guardN (j := 5) (e := (decide (x66 < 0))) (want := false) (by decide) rfl hb67 ?_
                refine o_guardN (j := 5) (e := (decide (x66 < 0))) (want := false) (by decide) rfl hb67 ?_
                refine o_pickT (v := .v (.bool true)) (e := (decide (x66 < 0))) (by decide) rfl hb67 rfl ?_
                refine run_nil ?_
                exact w_goto true (.cons (.refl _) (.cons (.refl _) (.cons (.refl _) (.cons (.refl _) (.cons (.refl _) (.cons (.refl _) (.cons (.refl _) .nil))))))) ⟨(hS.keep [true, true, true, true, true] rfl).up (by omega), hM⟩
              · replace hM := ifF hM hb67
                refine o_guardY (j := 5) (e := (decide (x66 < 0))) (want := false) rfl hb67 ?_
                refine o_move (v := .sl .no 1 (a1.map cI)) (by decide) rfl ?_
                refine o_guardY (j := 5) (e := (decide (x66 < 0))) (want := false) rfl hb67 ?_
                refine o_move (v := .v (.int .i64 v56)) (by decide) rfl ?_
                refine o_guardY (j := 5) (e := (decide (x66 < 0))) (want := false) rfl hb67 ?_
                obtain ⟨x68, hx68, hM⟩ := bindE hM
                refine o_index (xs := a1) (f := cI) (z := v56) (u := x68) (by decide) rfl rfl ty_es22 hx68 ?_
                refine o_guardY (j := 5) (e := (decide (x66 < 0))) (want := false) rfl hb67 ?_
                refine o_loadE (v := .v (.int .i64 x68)) (by decide) rfl (part_one ty_agg3 ty_sc3 rfl) ?_
                refine o_guardY (j := 5) (e := (decide (x66 < 0))) (want := false) rfl hb67 ?_
                refine o_int (v := .v (.bool (decide (x68 > 99999)))) (by decide) rfl rfl rfl ?_
                refine o_pickF (v := .v (.bool (decide (x68 > 99999)))) (e := (decide (x66 < 0))) (by decide) rfl hb67 rfl ?_
                refine run_nil ?_
                exact w_goto (decide (x68 > 99999)) (.cons (.refl _) (.cons (.refl _) (.cons (.refl _) (.cons (.refl _) (.cons (.refl _) (.cons (.refl _) (.cons (.refl _) .nil))))))) ⟨(hS.keep [true, true, true, true, true] rfl).up (by omega), hM⟩
          · replace hM := ifF hM hb59
            refine w_condF (e := (decide (v56 < (a1.length : Int)))) rfl hb59 ?_
            refine r_exit ?_
            refine r_then_exit ?_
            refine w_round_exit ?_
            refine r_blk_exit ?_
            exact w_goto (v57, v58) (.cons (.refl _) (.cons (.refl _) (.cons (.refl _) .nil))) ⟨(hS.keep [true, true, true, true, true] rfl).up (by omega), hM⟩
      · refine r_seq ?_
        refine r_region (n := 4) rfl ?_
        refine o_fieldP (by decide) ty_fo24_7 rfl ?_
        refine o_load (v := .sl .no 1 (a0.Times.map cI)) 4 hS (by decide) rfl rfl .no (part_one ty_agg22 ty_sc22 rfl) ?_
        refine o_len (n := a0.Times.length) (by decide) rfl (List.length_map _) ty_isl22 ?_
        refine o_int (v := .v (.bool (decide ((a0.Times.length : Int) > 0)))) (by decide) rfl rfl rfl ?_
        refine run_nil ?_
        refine w_next [(1, .sl .no 1 (a1.map cI)), (2, .ptr (g + 0) 0), (5, .ptr (g1 + 4) 0), (6, .ptr (g1 + 5) 0), (7, .v (.int .i64 0)), (35, .v (.bool (decide ((a0.Times.length : Int) > 0))))] (.cons (.refl _) (.cons (.refl _) (.cons (.refl _) (.cons (.refl _) (.cons (.refl _) (.cons (.refl _) .nil)))))) ?_
        rcases Bool.eq_false_or_eq_true (decide ((a0.Times.length : Int) > 0)) with hb69 | hb69
        · replace hM := ifT hM hb69
          refine w_condT (e := (decide ((a0.Times.length : Int) > 0))) rfl hb69 ?_
          have hS0 := hS
          refine r_draw (n := 12) rfl (by kernel_rfl) ?_
          refine o_fieldP (by decide) ty_fo24_7 rfl ?_
          refine o_load (v := .sl .no 1 (a0.Times.map cI)) 4 hS (by decide) rfl rfl (.st hS0 4 rfl (by omega)) (part_one ty_agg22 ty_sc22 rfl) ?_
          refine o_fieldP (by decide) ty_fo24_7 rfl ?_
          refine o_load (v := .sl .no 1 (a0.Times.map cI)) 4 hS (by decide) rfl rfl (.st hS0 4 rfl (by omega)) (part_one ty_agg22 ty_sc22 rfl) ?_
          refine o_len (n := a0.Times.length) (by decide) rfl (List.length_map _) ty_isl22 ?_
          refine o_int (v := .v (.int .i64 (w64 ((a0.Times.length : Int) - 1)))) (by decide) rfl rfl rfl ?_
          obtain ⟨x70, hx70, hM⟩ := bindE hM
          refine o_index (xs := a0.Times) (f := cI) (z := (w64 ((a0.Times.length : Int) - 1))) (u := x70) (by decide) rfl rfl ty_es22 hx70 ?_
          refine o_loadE (v := .v (.int .i64 x70)) (by decide) rfl (part_one ty_agg3 ty_sc3 rfl) ?_
          refine o_fieldP (by decide) ty_fo24_5 rfl ?_
          refine o_load (v := .v (.int .i64 a0.Pause)) 4 hS (by decide) rfl rfl (.st hS0 4 rfl (by omega)) (part_one ty_agg3 ty_sc3 rfl) ?_
          refine o_int (v := .v (.int .i64 (w64 (x70 + a0.Pause)))) (by decide) rfl rfl rfl ?_
          refine o_assign (v := .v (.int .i64 (w64 (x70 + a0.Pause)))) (by decide) rfl ?_
          refine run_nil ?_
          exact w_goto (w64 (x70 + a0.Pause)) (.cons (.refl _) (.cons (.refl _) (.cons (.refl _) (.cons (.refl _) (.cons (.refl _) .nil))))) ⟨(hS.keep [true, true, true, true, true] rfl).up (by omega), hM⟩
        · replace hM := ifF hM hb69
          refine w_condF (e := (decide ((a0.Times.length : Int) > 0))) rfl hb69 ?_
          refine r_skip ?_
          exact w_goto 0 (.cons (.refl _) (.cons (.refl _) (.cons (.refl _) (.cons (.refl _) (.cons (.refl _) .nil))))) ⟨(hS.keep [true, true, true, true, true] rfl).up (by omega), hM⟩
  · refine r_region (n := 8) rfl ?_
    refine o_load (v := .agg [.v (.int .i64 a0.Letters), .v (.int .i64 a0.Numbers), .v (.int .i64 a0.Pitch), .v (.int .i64 a0.Slack), .v (.int .i64 a0.Gap), .v (.int .i64 a0.Pause), .v (.int .i64 a0.Sparks), .sl .no 1 (a0.Times.map cI)]) 0 hS (by decide) rfl rfl .no (part_agg ty_agg24 (Nat.le_of_ble_eq_true rfl) rfl) ?_
    obtain ⟨r71, hr71, hM⟩ := bindE hM
    refine o_call (bs := [.agg [.v (.int .i64 a0.Letters), .v (.int .i64 a0.Numbers), .v (.int .i64 a0.Pitch), .v (.int .i64 a0.Slack), .v (.int .i64 a0.Gap), .v (.int .i64 a0.Pause), .v (.int .i64 a0.Sparks), .sl .no 1 (a0.Times.map cI)]]) (by decide) rfl rfl ((W_law13_ready hr71).le (.cons (.refl _) .nil)) ?_
    refine o_not (e := r71) (by decide) rfl ?_
    refine o_move (v := .v (.bool (!r71))) (by decide) rfl ?_
    rcases Bool.eq_false_or_eq_true (!r71) with hb72 | hb72
    · replace hM := ifT hM hb72
      refine o_guardN (j := 3) (e := (!r71)) (want := false) (by decide) rfl hb72 ?_
      refine o_guardN (j := 3) (e := (!r71)) (want := false) (by decide) rfl hb72 ?_
      refine o_guardN (j := 3) (e := (!r71)) (want := false) (by decide) rfl hb72 ?_
      refine o_pickT (v := .v (.bool true)) (e := (!r71)) (by decide) rfl hb72 rfl ?_
      refine run_nil ?_
      exact w_goto true (.cons (.refl _) (.cons (.refl _) (.cons (.refl _) .nil))) ⟨(hS.keep [true] rfl).up (by omega), hM⟩
    · replace hM := ifF hM hb72
      refine o_guardY (j := 3) (e := (!r71)) (want := false) rfl hb72 ?_
      refine o_move (v := .sl .no 1 (a1.map cI)) (by decide) rfl ?_
      refine o_guardY (j := 3) (e := (!r71)) (want := false) rfl hb72 ?_
      refine o_len (n := a1.length) (by decide) rfl (List.length_map _) ty_isl22 ?_
      refine o_guardY (j := 3) (e := (!r71)) (want := false) rfl hb72 ?_
      refine o_int (v := .v (.bool (decide ((a1.length : Int) > 14)))) (by decide) rfl rfl rfl ?_
      refine o_pickF (v := .v (.bool (decide ((a1.length : Int) > 14)))) (e := (!r71)) (by decide) rfl hb72 rfl ?_
      refine run_nil ?_
      exact w_goto (decide ((a1.length : Int) > 14)) (.cons (.refl _) (.cons (.refl _) (.cons (.refl _) .nil))) ⟨(hS.keep [true] rfl).up (by omega), hM⟩
end Go.Proofs.Ytekplngjaddccaa
