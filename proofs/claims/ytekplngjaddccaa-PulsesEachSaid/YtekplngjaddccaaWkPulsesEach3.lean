/-
  The code returns what the functions say (printed by gen.py).
  Conditions: none.
-/
import Derived.Test.YtekplngjaddccaaWkPulsesEach2
set_option linter.all false
namespace Go.Proofs.Ytekplngjaddccaa
open Go Go.AM Go.Law
set_option linter.unusedVariables false
set_option maxRecDepth 4000
set_option maxHeartbeats 4000000
theorem W_ref13_Clean {n : Nat} {a0 : Pulse} {a1 : List Int} {r : (List Int) × Bool} (hM : ref13_Clean n a0 a1 = some r) : PureSat Try.prog 46 [.agg [.v (.int .i64 a0.Letters), .v (.int .i64 a0.Numbers), .v (.int .i64 a0.Pitch), .v (.int .i64 a0.Slack), .v (.int .i64 a0.Gap), .v (.int .i64 a0.Pause), .v (.int .i64 a0.Sparks), .sl .no 1 (a0.Times.map cI)], .sl .no 1 (a1.map cI)] (.tup [.sl .no 1 (r.1.map cI), .v (.bool r.2)]) := by
  refine pure_of_wp mixed Try.func46 rfl (by decide) Try.ntmps46 (by simp) ?pure fun H0 g hf => ?_
  case pure => exact .tup _ (pl_cons (.sl _ _ (pures_map (fun x => (pl_cons (.v _) pl_nil)))) (pl_cons (.v _) pl_nil))
  rw [frame0_of]
  change wpA _ _ _ _ (Fr.of [(0, .agg [.v (.int .i64 a0.Letters), .v (.int .i64 a0.Numbers), .v (.int .i64 a0.Pitch), .v (.int .i64 a0.Slack), .v (.int .i64 a0.Gap), .v (.int .i64 a0.Pause), .v (.int .i64 a0.Sparks), .sl .no 1 (a0.Times.map cI)]), (1, .sl .no 1 (a1.map cI))]) H0 g
  have hS := St.start hf
  refine r_seq ?_
  refine r_region (n := 3) rfl ?_
  refine o_box (v := .agg [.v (.int .i64 a0.Letters), .v (.int .i64 a0.Numbers), .v (.int .i64 a0.Pitch), .v (.int .i64 a0.Slack), .v (.int .i64 a0.Gap), .v (.int .i64 a0.Pause), .v (.int .i64 a0.Sparks), .sl .no 1 (a0.Times.map cI)]) (cs := [.v (.int .i64 a0.Letters), .v (.int .i64 a0.Numbers), .v (.int .i64 a0.Pitch), .v (.int .i64 a0.Slack), .v (.int .i64 a0.Gap), .v (.int .i64 a0.Pause), .v (.int .i64 a0.Sparks), .sl .no 1 (a0.Times.map cI)]) hS (by decide) rfl rfl (by omega) fun H hS => ?_
  refine o_assign (v := .sl .nil 0 []) (by decide) rfl ?_
  refine o_assign (v := .v (.bool false)) (by decide) rfl ?_
  refine run_nil ?_
  refine w_next [(1, .sl .no 1 (a1.map cI)), (2, .ptr (g + 0) 0)] (.cons (.refl _) (.cons (.refl _) .nil)) ?_
  refine r_seq ?_
  refine r_region (n := 1) rfl ?_
  refine o_assign (v := .sl .nil 0 []) (by decide) rfl ?_
  refine run_nil ?_
  refine w_own [(1, .sl .no 1 (a1.map cI)), (2, .ptr (g + 0) 0), (6, .sl (.id (g + 3 + 1)) 1 (([] : List Int).map cI))] 6 1 3 hS (by omega) (by decide) rfl (.cons (.refl _) (.cons (.refl _) (.cons (.refl _) .nil))) fun H hS => ?_
  refine r_seq ?_
  refine r_region (n := 1) rfl ?_
  refine o_assign (v := .v (.int .i64 0)) (by decide) rfl ?_
  refine run_nil ?_
  refine w_next [(1, .sl .no 1 (a1.map cI)), (2, .ptr (g + 0) 0), (6, .sl (.id (g + 3 + 1)) 1 (([] : List Int).map cI)), (7, .v (.int .i64 0))] (.cons (.refl _) (.cons (.refl _) (.cons (.refl _) (.cons (.refl _) .nil)))) ?_
  refine w_join (J := (List Int)) (fun j => [(6, .sl (.id (g + 3 + 1)) 1 (j.map cI))]) (fun j H' g' => St (· < g) H0 [(g + 3 + 1, .row 3 j.length)] H' g' ∧ ref13_Clean_j1 j = some r) ?_ ?_
  · rintro v1 H g1 ⟨hS, hM⟩
    change wpA _ _ _ _ (Fr.of [(6, .sl (.id (g + 3 + 1)) 1 (v1.map cI))]) _ _
    replace hS : St (· < g) H0 [(g + 3 + 1, .row 3 v1.length)] H g1 := hS
    replace hM : ref13_Clean_j1 v1 = some r := hM
    refine r_seq ?_
    refine r_region (n := 3) rfl ?_
    refine o_move (v := .sl (.id (g + 3 + 1)) 1 (v1.map cI)) (by decide) rfl ?_
    refine o_assign (v := .sl (.id (g + 3 + 1)) 1 (v1.map cI)) (by decide) rfl ?_
    refine o_assign (v := .v (.bool true)) (by decide) rfl ?_
    refine run_nil ?_
    refine w_next [(4, .sl (.id (g + 3 + 1)) 1 (v1.map cI)), (5, .v (.bool true))] (.cons (.refl _) (.cons (.refl _) .nil)) ?_
    refine r_ret ?_
    refine w_end (x := .tup [.sl (.id (g + 3 + 1)) 1 (v1.map cI), .v (.bool true)]) (f := fun r => .tup [.sl .no 1 (r.1.map cI), .v (.bool r.2)]) (.inr rfl) ?_ (.tupL (.cons (.sl _ _ _) (.cons (.refl _) .nil))) (Option.some.inj hM) hS
    exact (res_two (res_tmp (x := .sl (.id (g + 3 + 1)) 1 (v1.map cI)) rfl) (res_tmp (x := .v (.bool true)) rfl))
  · refine r_block ?_
    refine w_loop (V := (List Int) × Int) (fun v => [(1, .sl .no 1 (a1.map cI)), (2, .ptr (g + 0) 0), (6, .sl (.id (g + 3 + 1)) 1 (v.1.map cI)), (7, .v (.int .i64 v.2))]) (fun v m2 H' g' => St (· < g) H0 [(g + 3 + 1, .row 3 v.1.length), (g + 0, .cells [.v (.int .i64 a0.Letters), .v (.int .i64 a0.Numbers), .v (.int .i64 a0.Pitch), .v (.int .i64 a0.Slack), .v (.int .i64 a0.Gap), .v (.int .i64 a0.Pause), .v (.int .i64 a0.Sparks), .sl .no 1 (a0.Times.map cI)])] H' g' ∧ ref13_Clean_l1 n a0 a1 m2 v.1 v.2 = some r) (n := n) (([] : List Int), 0) (.cons (.refl _) (.cons (.refl _) (.cons (.refl _) (.cons (.refl _) .nil)))) ⟨(hS.keep [true, true] rfl).up (by omega), hM⟩ ?_
    rintro ⟨v2, v3⟩ m2 H g2 ⟨hS, hM⟩
    obtain _ | m2 := m2
    · exact nomatch (show none = some _ from hM)
    change wpA _ _ _ _ (Fr.of [(1, .sl .no 1 (a1.map cI)), (2, .ptr (g + 0) 0), (6, .sl (.id (g + 3 + 1)) 1 (v2.map cI)), (7, .v (.int .i64 v3))]) _ _
    replace hS : St (· < g) H0 [(g + 3 + 1, .row 3 v2.length), (g + 0, .cells [.v (.int .i64 a0.Letters), .v (.int .i64 a0.Numbers), .v (.int .i64 a0.Pitch), .v (.int .i64 a0.Slack), .v (.int .i64 a0.Gap), .v (.int .i64 a0.Pause), .v (.int .i64 a0.Sparks), .sl .no 1 (a0.Times.map cI)])] H g2 := hS
    replace hM : ref13_Clean_l1_b n a0 a1 (ref13_Clean_l1 n a0 a1 m2) v2 v3 = some r := hM
    refine r_seq ?_
    refine r_seq ?_
    refine r_region (n := 4) rfl ?_
    refine o_move (v := .v (.int .i64 v3)) (by decide) rfl ?_
    refine o_move (v := .sl .no 1 (a1.map cI)) (by decide) rfl ?_
    refine o_len (n := a1.length) (by decide) rfl (List.length_map _) ty_isl22 ?_
    refine o_int (v := .v (.bool (decide (v3 < (a1.length : Int))))) (by decide) rfl rfl rfl ?_
    refine run_nil ?_
    refine w_next [(1, .sl .no 1 (a1.map cI)), (2, .ptr (g + 0) 0), (6, .sl (.id (g + 3 + 1)) 1 (v2.map cI)), (7, .v (.int .i64 v3)), (14, .v (.bool (decide (v3 < (a1.length : Int)))))] (.cons (.refl _) (.cons (.refl _) (.cons (.refl _) (.cons (.refl _) (.cons (.refl _) .nil))))) ?_
    rcases Bool.eq_false_or_eq_true (decide (v3 < (a1.length : Int))) with hb4 | hb4
    · replace hM := ifT hM hb4
      refine w_condT (e := (decide (v3 < (a1.length : Int)))) rfl hb4 ?_
      refine r_skip ?_
      refine w_next [(1, .sl .no 1 (a1.map cI)), (2, .ptr (g + 0) 0), (6, .sl (.id (g + 3 + 1)) 1 (v2.map cI)), (7, .v (.int .i64 v3))] (.cons (.refl _) (.cons (.refl _) (.cons (.refl _) (.cons (.refl _) .nil)))) ?_
      refine r_block ?_
      refine r_seq ?_
      refine r_region (n := 6) rfl ?_
      refine o_load (v := .agg [.v (.int .i64 a0.Letters), .v (.int .i64 a0.Numbers), .v (.int .i64 a0.Pitch), .v (.int .i64 a0.Slack), .v (.int .i64 a0.Gap), .v (.int .i64 a0.Pause), .v (.int .i64 a0.Sparks), .sl .no 1 (a0.Times.map cI)]) 1 hS (by decide) rfl rfl .no (part_agg ty_agg24 (Nat.le_of_ble_eq_true rfl) rfl) ?_
      refine o_move (v := .sl .no 1 (a1.map cI)) (by decide) rfl ?_
      refine o_move (v := .v (.int .i64 v3)) (by decide) rfl ?_
      obtain ⟨r5, hr5, hM⟩ := bindE hM
      refine o_call (bs := [.agg [.v (.int .i64 a0.Letters), .v (.int .i64 a0.Numbers), .v (.int .i64 a0.Pitch), .v (.int .i64 a0.Slack), .v (.int .i64 a0.Gap), .v (.int .i64 a0.Pause), .v (.int .i64 a0.Sparks), .sl .no 1 (a0.Times.map cI)], .sl .no 1 (a1.map cI), .v (.int .i64 v3)]) (by decide) rfl rfl ((W_ref13_group hr5).le (.cons (.refl _) (.cons (.refl _) (.cons (.refl _) .nil)))) ?_
      refine o_assign (v := .v (.int .i64 r5)) (by decide) rfl ?_
      refine o_assign (v := .v (.int .i64 0)) (by decide) rfl ?_
      refine run_nil ?_
      refine w_next [(1, .sl .no 1 (a1.map cI)), (2, .ptr (g + 0) 0), (6, .sl (.id (g + 3 + 1)) 1 (v2.map cI)), (7, .v (.int .i64 v3)), (8, .v (.int .i64 r5)), (9, .v (.int .i64 0))] (.cons (.refl _) (.cons (.refl _) (.cons (.refl _) (.cons (.refl _) (.cons (.refl _) (.cons (.refl _) .nil)))))) ?_
      refine w_join (J := Int) (fun j => [(1, .sl .no 1 (a1.map cI)), (2, .ptr (g + 0) 0), (6, .sl (.id (g + 3 + 1)) 1 (v2.map cI)), (7, .v (.int .i64 v3)), (8, .v (.int .i64 r5)), (9, .v (.int .i64 j))]) (fun j H' g' => St (· < g) H0 [(g + 3 + 1, .row 3 v2.length), (g + 0, .cells [.v (.int .i64 a0.Letters), .v (.int .i64 a0.Numbers), .v (.int .i64 a0.Pitch), .v (.int .i64 a0.Slack), .v (.int .i64 a0.Gap), .v (.int .i64 a0.Pause), .v (.int .i64 a0.Sparks), .sl .no 1 (a0.Times.map cI)])] H' g' ∧ ref13_Clean_j2 (ref13_Clean_l1 n a0 a1 m2) a0 a1 v2 v3 r5 j = some r) ?_ ?_
      · rintro v6 H g3 ⟨hS, hM⟩
        change wpA _ _ _ _ (Fr.of [(1, .sl .no 1 (a1.map cI)), (2, .ptr (g + 0) 0), (6, .sl (.id (g + 3 + 1)) 1 (v2.map cI)), (7, .v (.int .i64 v3)), (8, .v (.int .i64 r5)), (9, .v (.int .i64 v6))]) _ _
        replace hS : St (· < g) H0 [(g + 3 + 1, .row 3 v2.length), (g + 0, .cells [.v (.int .i64 a0.Letters), .v (.int .i64 a0.Numbers), .v (.int .i64 a0.Pitch), .v (.int .i64 a0.Slack), .v (.int .i64 a0.Gap), .v (.int .i64 a0.Pause), .v (.int .i64 a0.Sparks), .sl .no 1 (a0.Times.map cI)])] H g3 := hS
        replace hM : ref13_Clean_j2 (ref13_Clean_l1 n a0 a1 m2) a0 a1 v2 v3 r5 v6 = some r := hM
        refine r_seq ?_
        refine w_join (J := Bool) (fun j => [(1, .sl .no 1 (a1.map cI)), (2, .ptr (g + 0) 0), (6, .sl (.id (g + 3 + 1)) 1 (v2.map cI)), (7, .v (.int .i64 v3)), (8, .v (.int .i64 r5)), (9, .v (.int .i64 v6)), (58, .v (.bool j))]) (fun j H' g' => St (· < g) H0 [(g + 3 + 1, .row 3 v2.length), (g + 0, .cells [.v (.int .i64 a0.Letters), .v (.int .i64 a0.Numbers), .v (.int .i64 a0.Pitch), .v (.int .i64 a0.Slack), .v (.int .i64 a0.Gap), .v (.int .i64 a0.Pause), .v (.int .i64 a0.Sparks), .sl .no 1 (a0.Times.map cI)])] H' g' ∧ ref13_Clean_j3 (ref13_Clean_l1 n a0 a1 m2) a0 a1 v2 v3 r5 v6 j = some r) ?_ ?_
        · rintro v7 H g4 ⟨hS, hM⟩
          change wpA _ _ _ _ (Fr.of [(1, .sl .no 1 (a1.map cI)), (2, .ptr (g + 0) 0), (6, .sl (.id (g + 3 + 1)) 1 (v2.map cI)), (7, .v (.int .i64 v3)), (8, .v (.int .i64 r5)), (9, .v (.int .i64 v6)), (58, .v (.bool v7))]) _ _
          replace hS : St (· < g) H0 [(g + 3 + 1, .row 3 v2.length), (g + 0, .cells [.v (.int .i64 a0.Letters), .v (.int .i64 a0.Numbers), .v (.int .i64 a0.Pitch), .v (.int .i64 a0.Slack), .v (.int .i64 a0.Gap), .v (.int .i64 a0.Pause), .v (.int .i64 a0.Sparks), .sl .no 1 (a0.Times.map cI)])] H g4 := hS
          replace hM : ref13_Clean_j3 (ref13_Clean_l1 n a0 a1 m2) a0 a1 v2 v3 r5 v6 v7 = some r := hM
          rcases Bool.eq_false_or_eq_true v7 with hb8 | hb8
          · replace hM := ifT hM hb8
            refine w_condT (e := v7) rfl hb8 ?_
            refine r_seq ?_
            refine r_region (n := 2) rfl ?_
            refine o_assign (v := .sl .nil 0 []) (by decide) rfl ?_
            refine o_assign (v := .v (.bool false)) (by decide) rfl ?_
            refine run_nil ?_
            replace hS := hS.keep (L' := []) [false, false] rfl
            refine w_next [(4, .sl .nil 0 []), (5, .v (.bool false))] (.cons (.refl _) (.cons (.refl _) .nil)) ?_
            refine r_ret ?_
            refine r_then_ret ?_
            refine r_blk_ret ?_
            refine w_round_ret ?_
            refine r_blk_ret ?_
            refine w_goto_ret ?_
            refine w_end (x := .tup [.sl .nil 0 [], .v (.bool false)]) (f := fun r => .tup [.sl .no 1 (r.1.map cI), .v (.bool r.2)]) (.inr rfl) ?_ (.tupL (.cons (.sl0 .nil 1 0) (.cons (.refl _) .nil))) (Option.some.inj hM) hS
            exact (res_two (res_tmp (x := .sl .nil 0 []) rfl) (res_tmp (x := .v (.bool false)) rfl))
          · replace hM := ifF hM hb8
            refine w_condF (e := v7) rfl hb8 ?_
            refine r_skip ?_
            refine w_next [(1, .sl .no 1 (a1.map cI)), (2, .ptr (g + 0) 0), (6, .sl (.id (g + 3 + 1)) 1 (v2.map cI)), (7, .v (.int .i64 v3)), (8, .v (.int .i64 r5)), (9, .v (.int .i64 v6))] (.cons (.refl _) (.cons (.refl _) (.cons (.refl _) (.cons (.refl _) (.cons (.refl _) (.cons (.refl _) .nil)))))) ?_
            refine r_seq ?_
            refine r_region (n := 12) rfl ?_
            refine o_move (v := .sl (.id (g + 3 + 1)) 1 (v2.map cI)) (by decide) rfl ?_
            refine o_move (v := .v (.int .i64 r5)) (by decide) rfl ?_
            refine o_int (v := .v (.int .i64 (w64 (r5 - 1)))) (by decide) rfl rfl rfl ?_
            refine o_fieldP (by decide) ty_fo24_1 rfl ?_
            refine o_load (v := .v (.int .i64 a0.Numbers)) 1 hS (by decide) rfl rfl .no (part_one ty_agg3 ty_sc3 rfl) ?_
            refine o_int (v := .v (.int .i64 (w64 ((w64 (r5 - 1)) * a0.Numbers)))) (by decide) rfl rfl rfl ?_
            refine o_move (v := .v (.int .i64 v6)) (by decide) rfl ?_
            refine o_int (v := .v (.int .i64 (w64 ((w64 ((w64 (r5 - 1)) * a0.Numbers)) + v6)))) (by decide) rfl rfl rfl ?_
            refine o_int (v := .v (.int .i64 (w64 ((w64 ((w64 ((w64 (r5 - 1)) * a0.Numbers)) + v6)) - 1)))) (by decide) rfl rfl rfl ?_
            refine o_buildSlice (es := [[.v (.int .i64 (w64 ((w64 ((w64 ((w64 (r5 - 1)) * a0.Numbers)) + v6)) - 1)))]]) hS (by decide) ty_es22 ty_el22 rfl ty_ef22 rfl (by decide) (by omega) fun H hS => ?_
            obtain ⟨l9, hl9, hM⟩ := bindE hM
            refine o_append (xs := v2) (ys := ([w64 ((w64 ((w64 ((w64 (r5 - 1)) * a0.Numbers)) + v6)) - 1)] : List Int)) (zs := l9) (f := cI) (L' := [(g4 + 9, .row 3 1), (g + 3 + 1, .row 3 l9.length), (g + 0, .cells [.v (.int .i64 a0.Letters), .v (.int .i64 a0.Numbers), .v (.int .i64 a0.Pitch), .v (.int .i64 a0.Slack), .v (.int .i64 a0.Gap), .v (.int .i64 a0.Pause), .v (.int .i64 a0.Sparks), .sl .no 1 (a0.Times.map cI)])]) 1 hS (by decide) rfl rfl rfl rfl .no ty_es22 ty_el22 ty_ef22 hl9 rfl fun H hS => ?_
            refine o_assign (v := .sl (.id (g + 3 + 1)) 1 (l9.map cI)) (by decide) rfl ?_
            refine run_nil ?_
            replace hS := hS.keep (L' := [(g + 3 + 1, .row 3 l9.length), (g + 0, .cells [.v (.int .i64 a0.Letters), .v (.int .i64 a0.Numbers), .v (.int .i64 a0.Pitch), .v (.int .i64 a0.Slack), .v (.int .i64 a0.Gap), .v (.int .i64 a0.Pause), .v (.int .i64 a0.Sparks), .sl .no 1 (a0.Times.map cI)])]) [false, true, true] rfl
            refine w_next [(1, .sl .no 1 (a1.map cI)), (2, .ptr (g + 0) 0), (6, .sl (.id (g + 3 + 1)) 1 (l9.map cI)), (7, .v (.int .i64 v3)), (8, .v (.int .i64 r5)), (9, .v (.int .i64 v6))] (.cons (.refl _) (.cons (.refl _) (.cons (.refl _) (.cons (.refl _) (.cons (.refl _) (.cons (.refl _) .nil)))))) ?_
            refine r_seq ?_
            refine r_region (n := 6) rfl ?_
            refine o_move (v := .v (.int .i64 v3)) (by decide) rfl ?_
            refine o_move (v := .v (.int .i64 r5)) (by decide) rfl ?_
            refine o_move (v := .v (.int .i64 v6)) (by decide) rfl ?_
            refine o_int (v := .v (.int .i64 (w64 (r5 + v6)))) (by decide) rfl rfl rfl ?_
            refine o_int (v := .v (.int .i64 (w64 (v3 + (w64 (r5 + v6)))))) (by decide) rfl rfl rfl ?_
            refine o_assign (v := .v (.int .i64 (w64 (v3 + (w64 (r5 + v6)))))) (by decide) rfl ?_
            refine run_nil ?_
            refine w_next [(1, .sl .no 1 (a1.map cI)), (2, .ptr (g + 0) 0), (6, .sl (.id (g + 3 + 1)) 1 (l9.map cI)), (7, .v (.int .i64 (w64 (v3 + (w64 (r5 + v6))))))] (.cons (.refl _) (.cons (.refl _) (.cons (.refl _) (.cons (.refl _) .nil)))) ?_
            refine w_join (J := Bool) (fun j => [(1, .sl .no 1 (a1.map cI)), (2, .ptr (g + 0) 0), (6, .sl (.id (g + 3 + 1)) 1 (l9.map cI)), (7, .v (.int .i64 (w64 (v3 + (w64 (r5 + v6)))))), (93, .v (.bool j))]) (fun j H' g' => St (· < g) H0 [(g + 3 + 1, .row 3 l9.length), (g + 0, .cells [.v (.int .i64 a0.Letters), .v (.int .i64 a0.Numbers), .v (.int .i64 a0.Pitch), .v (.int .i64 a0.Slack), .v (.int .i64 a0.Gap), .v (.int .i64 a0.Pause), .v (.int .i64 a0.Sparks), .sl .no 1 (a0.Times.map cI)])] H' g' ∧ ref13_Clean_j4 (ref13_Clean_l1 n a0 a1 m2) v3 r5 v6 l9 j = some r) ?_ ?_
            · rintro v10 H g5 ⟨hS, hM⟩
              change wpA _ _ _ _ (Fr.of [(1, .sl .no 1 (a1.map cI)), (2, .ptr (g + 0) 0), (6, .sl (.id (g + 3 + 1)) 1 (l9.map cI)), (7, .v (.int .i64 (w64 (v3 + (w64 (r5 + v6)))))), (93, .v (.bool v10))]) _ _
              replace hS : St (· < g) H0 [(g + 3 + 1, .row 3 l9.length), (g + 0, .cells [.v (.int .i64 a0.Letters), .v (.int .i64 a0.Numbers), .v (.int .i64 a0.Pitch), .v (.int .i64 a0.Slack), .v (.int .i64 a0.Gap), .v (.int .i64 a0.Pause), .v (.int .i64 a0.Sparks), .sl .no 1 (a0.Times.map cI)])] H g5 := hS
              replace hM : ref13_Clean_j4 (ref13_Clean_l1 n a0 a1 m2) v3 r5 v6 l9 v10 = some r := hM
              rcases Bool.eq_false_or_eq_true v10 with hb11 | hb11
              · replace hM := ifT hM hb11
                refine w_condT (e := v10) rfl hb11 ?_
                refine r_seq ?_
                refine r_region (n := 2) rfl ?_
                refine o_assign (v := .sl .nil 0 []) (by decide) rfl ?_
                refine o_assign (v := .v (.bool false)) (by decide) rfl ?_
                refine run_nil ?_
                replace hS := hS.keep (L' := []) [false, false] rfl
                refine w_next [(4, .sl .nil 0 []), (5, .v (.bool false))] (.cons (.refl _) (.cons (.refl _) .nil)) ?_
                refine r_ret ?_
                refine r_blk_ret ?_
                refine w_round_ret ?_
                refine r_blk_ret ?_
                refine w_goto_ret ?_
                refine w_end (x := .tup [.sl .nil 0 [], .v (.bool false)]) (f := fun r => .tup [.sl .no 1 (r.1.map cI), .v (.bool r.2)]) (.inr rfl) ?_ (.tupL (.cons (.sl0 .nil 1 0) (.cons (.refl _) .nil))) (Option.some.inj hM) hS
                exact (res_two (res_tmp (x := .sl .nil 0 []) rfl) (res_tmp (x := .v (.bool false)) rfl))
              · replace hM := ifF hM hb11
                refine w_condF (e := v10) rfl hb11 ?_
                refine r_skip ?_
                refine r_blk_normal ?_
                exact w_round (l9, w64 (v3 + (w64 (r5 + v6)))) (Nat.lt_succ_self _) (.cons (.refl _) (.cons (.refl _) (.cons (.refl _) (.cons (.refl _) .nil)))) ⟨(hS.keep [true, true] rfl).up (by omega), hM⟩
            · have hS0 := hS
              refine r_draw (n := 19) rfl (by kernel_rfl) ?_
              refine o_move (v := .v (.int .i64 (w64 (v3 + (w64 (r5 + v6)))))) (by decide) rfl ?_
              refine o_move (v := .sl .no 1 (a1.map cI)) (by decide) rfl ?_
              refine o_len (n := a1.length) (by decide) rfl (List.length_map _) ty_isl22 ?_
              refine o_int (v := .v (.bool (decide ((w64 (v3 + (w64 (r5 + v6)))) < (a1.length : Int))))) (by decide) rfl rfl rfl ?_
              refine o_move (v := .v (.bool (decide ((w64 (v3 + (w64 (r5 + v6)))) < (a1.length : Int))))) (by decide) rfl ?_
              rcases Bool.eq_false_or_eq_true (decide ((w64 (v3 + (w64 (r5 + v6)))) < (a1.length : Int))) with hb12 | hb12
              · replace hM := ifT hM hb12
                refine o_guardY (j := 4) (e := (decide ((w64 (v3 + (w64 (r5 + v6)))) < (a1.length : Int)))) (want := true) rfl hb12 ?_
                refine o_move (v := .sl .no 1 (a1.map cI)) (by decide) rfl ?_
                refine o_guardY (j := 4) (e := (decide ((w64 (v3 + (w64 (r5 + v6)))) < (a1.length : Int)))) (want := true) rfl hb12 ?_
                refine o_move (v := .v (.int .i64 (w64 (v3 + (w64 (r5 + v6)))))) (by decide) rfl ?_
                refine o_guardY (j := 4) (e := (decide ((w64 (v3 + (w64 (r5 + v6)))) < (a1.length : Int)))) (want := true) rfl hb12 ?_
                obtain ⟨x13, hx13, hM⟩ := bindE hM
                refine o_index (xs := a1) (f := cI) (z := (w64 (v3 + (w64 (r5 + v6))))) (u := x13) (by decide) rfl rfl ty_es22 hx13 ?_
                refine o_guardY (j := 4) (e := (decide ((w64 (v3 + (w64 (r5 + v6)))) < (a1.length : Int)))) (want := true) rfl hb12 ?_
                refine o_loadE (v := .v (.int .i64 x13)) (by decide) rfl (part_one ty_agg3 ty_sc3 rfl) ?_
                refine o_guardY (j := 4) (e := (decide ((w64 (v3 + (w64 (r5 + v6)))) < (a1.length : Int)))) (want := true) rfl hb12 ?_
                refine o_move (v := .sl .no 1 (a1.map cI)) (by decide) rfl ?_
                refine o_guardY (j := 4) (e := (decide ((w64 (v3 + (w64 (r5 + v6)))) < (a1.length : Int)))) (want := true) rfl hb12 ?_
                refine o_move (v := .v (.int .i64 (w64 (v3 + (w64 (r5 + v6)))))) (by decide) rfl ?_
                refine o_guardY (j := 4) (e := (decide ((w64 (v3 + (w64 (r5 + v6)))) < (a1.length : Int)))) (want := true) rfl hb12 ?_
                refine o_int (v := .v (.int .i64 (w64 ((w64 (v3 + (w64 (r5 + v6)))) - 1)))) (by decide) rfl rfl rfl ?_
                refine o_guardY (j := 4) (e := (decide ((w64 (v3 + (w64 (r5 + v6)))) < (a1.length : Int)))) (want := true) rfl hb12 ?_
                obtain ⟨x14, hx14, hM⟩ := bindE hM
                refine o_index (xs := a1) (f := cI) (z := (w64 ((w64 (v3 + (w64 (r5 + v6)))) - 1))) (u := x14) (by decide) rfl rfl ty_es22 hx14 ?_
                refine o_guardY (j := 4) (e := (decide ((w64 (v3 + (w64 (r5 + v6)))) < (a1.length : Int)))) (want := true) rfl hb12 ?_
                refine o_loadE (v := .v (.int .i64 x14)) (by decide) rfl (part_one ty_agg3 ty_sc3 rfl) ?_
                refine o_guardY (j := 4) (e := (decide ((w64 (v3 + (w64 (r5 + v6)))) < (a1.length : Int)))) (want := true) rfl hb12 ?_
                refine o_int (v := .v (.int .i64 (w64 (x13 - x14)))) (by decide) rfl rfl rfl ?_
                refine o_guardY (j := 4) (e := (decide ((w64 (v3 + (w64 (r5 + v6)))) < (a1.length : Int)))) (want := true) rfl hb12 ?_
                refine o_fieldP (by decide) ty_fo24_5 rfl ?_
                refine o_guardY (j := 4) (e := (decide ((w64 (v3 + (w64 (r5 + v6)))) < (a1.length : Int)))) (want := true) rfl hb12 ?_
                refine o_load (v := .v (.int .i64 a0.Pause)) 1 hS (by decide) rfl rfl (.st hS0 1 rfl (by omega)) (part_one ty_agg3 ty_sc3 rfl) ?_
                refine o_guardY (j := 4) (e := (decide ((w64 (v3 + (w64 (r5 + v6)))) < (a1.length : Int)))) (want := true) rfl hb12 ?_
                refine o_int (v := .v (.bool (decide ((w64 (x13 - x14)) < a0.Pause)))) (by decide) rfl rfl rfl ?_
                refine o_pickT (v := .v (.bool (decide ((w64 (x13 - x14)) < a0.Pause)))) (e := (decide ((w64 (v3 + (w64 (r5 + v6)))) < (a1.length : Int)))) (by decide) rfl hb12 rfl ?_
                refine run_nil ?_
                exact w_goto (decide ((w64 (x13 - x14)) < a0.Pause)) (.cons (.refl _) (.cons (.refl _) (.cons (.refl _) (.cons (.refl _) (.cons (.refl _) .nil))))) ⟨(hS.keep [true, true] rfl).up (by omega), hM⟩
              · replace hM := ifF hM hb12
                refine o_guardN (j := 4) (e := (decide ((w64 (v3 + (w64 (r5 + v6)))) < (a1.length : Int)))) (want := true) (by decide) rfl hb12 ?_
                refine o_guardN (j := 4) (e := (decide ((w64 (v3 + (w64 (r5 + v6)))) < (a1.length : Int)))) (want := true) (by decide) rfl hb12 ?_
                refine o_guardN (j := 4) (e := (decide ((w64 (v3 + (w64 (r5 + v6)))) < (a1.length : Int)))) (want := true) (by decide) rfl hb12 ?_
                refine o_guardN (j := 4) (e := (decide ((w64 (v3 + (w64 (r5 + v6)))) < (a1.length : Int)))) (want := true) (by decide) rfl hb12 ?_
                refine o_guardN (j := 4) (e := (decide ((w64 (v3 + (w64 (r5 + v6)))) < (a1.length : Int)))) (want := true) (by decide) rfl hb12 ?_
                refine o_guardN (j := 4) (e := (decide ((w64 (v3 + (w64 (r5 + v6)))) < (a1.length : Int)))) (want := true) (by decide) rfl hb12 ?_
                refine o_guardN (j := 4) (e := (decide ((w64 (v3 + (w64 (r5 + v6)))) < (a1.length : Int)))) (want := true) (by decide) rfl hb12 ?_
                refine o_guardN (j := 4) (e := (decide ((w64 (v3 + (w64 (r5 + v6)))) < (a1.length : Int)))) (want := true) (by decide) rfl hb12 ?_
                refine o_guardN (j := 4) (e := (decide ((w64 (v3 + (w64 (r5 + v6)))) < (a1.length : Int)))) (want := true) (by decide) rfl hb12 ?_
                refine o_guardN (j := 4) (e := (decide ((w64 (v3 + (w64 (r5 + v6)))) < (a1.length : Int)))) (want := true) (by decide) rfl hb12 ?_
                refine o_guardN (j := 4) (e := (decide ((w64 (v3 + (w64 (r5 + v6)))) < (a1.length : Int)))) (want := true) (by decide) rfl hb12 ?_
                refine o_guardN (j := 4) (e := (decide ((w64 (v3 + (w64 (r5 + v6)))) < (a1.length : Int)))) (want := true) (by decide) rfl hb12 ?_
                refine o_guardN (j := 4) (e := (decide ((w64 (v3 + (w64 (r5 + v6)))) < (a1.length : Int)))) (want := true) (by decide) rfl hb12 ?_
                refine o_pickF (v := .v (.bool false)) (e := (decide ((w64 (v3 + (w64 (r5 + v6)))) < (a1.length : Int)))) (by decide) rfl hb12 rfl ?_
                refine run_nil ?_
                exact w_goto false (.cons (.refl _) (.cons (.refl _) (.cons (.refl _) (.cons (.refl _) (.cons (.refl _) .nil))))) ⟨(hS.keep [true, true] rfl).up (by omega), hM⟩
        · refine r_region (n := 11) rfl ?_
          refine o_move (v := .v (.int .i64 r5)) (by decide) rfl ?_
          refine o_fieldP (by decide) ty_fo24_0 rfl ?_
          refine o_load (v := .v (.int .i64 a0.Letters)) 1 hS (by decide) rfl rfl .no (part_one ty_agg3 ty_sc3 rfl) ?_
          refine o_int (v := .v (.bool (decide (r5 > a0.Letters)))) (by decide) rfl rfl rfl ?_
          refine o_move (v := .v (.bool (decide (r5 > a0.Letters)))) (by decide) rfl ?_
          rcases Bool.eq_false_or_eq_true (decide (r5 > a0.Letters)) with hb15 | hb15
          · replace hM := ifT hM hb15
            refine o_guardN (j := 4) (e := (decide (r5 > a0.Letters))) (want := false) (by decide) rfl hb15 ?_
            refine o_guardN (j := 4) (e := (decide (r5 > a0.Letters))) (want := false) (by decide) rfl hb15 ?_
            refine o_guardN (j := 4) (e := (decide (r5 > a0.Letters))) (want := false) (by decide) rfl hb15 ?_
            refine o_guardN (j := 4) (e := (decide (r5 > a0.Letters))) (want := false) (by decide) rfl hb15 ?_
            refine o_guardN (j := 4) (e := (decide (r5 > a0.Letters))) (want := false) (by decide) rfl hb15 ?_
            refine o_pickT (v := .v (.bool true)) (e := (decide (r5 > a0.Letters))) (by decide) rfl hb15 rfl ?_
            refine run_nil ?_
            exact w_goto true (.cons (.refl _) (.cons (.refl _) (.cons (.refl _) (.cons (.refl _) (.cons (.refl _) (.cons (.refl _) (.cons (.refl _) .nil))))))) ⟨(hS.keep [true, true] rfl).up (by omega), hM⟩
          · replace hM := ifF hM hb15
            refine o_guardY (j := 4) (e := (decide (r5 > a0.Letters))) (want := false) rfl hb15 ?_
            refine o_move (v := .v (.int .i64 v6)) (by decide) rfl ?_
            refine o_guardY (j := 4) (e := (decide (r5 > a0.Letters))) (want := false) rfl hb15 ?_
            refine o_fieldP (by decide) ty_fo24_1 rfl ?_
            refine o_guardY (j := 4) (e := (decide (r5 > a0.Letters))) (want := false) rfl hb15 ?_
            refine o_load (v := .v (.int .i64 a0.Numbers)) 1 hS (by decide) rfl rfl .no (part_one ty_agg3 ty_sc3 rfl) ?_
            refine o_guardY (j := 4) (e := (decide (r5 > a0.Letters))) (want := false) rfl hb15 ?_
            obtain ⟨r16, hr16, hM⟩ := bindE hM
            refine o_call (bs := [.v (.int .i64 v6), .v (.int .i64 1), .v (.int .i64 a0.Numbers)]) (by decide) rfl rfl ((W_ref13_within hr16).le (.cons (.refl _) (.cons (.refl _) (.cons (.refl _) .nil)))) ?_
            refine o_guardY (j := 4) (e := (decide (r5 > a0.Letters))) (want := false) rfl hb15 ?_
            refine o_not (e := r16) (by decide) rfl ?_
            refine o_pickF (v := .v (.bool (!r16))) (e := (decide (r5 > a0.Letters))) (by decide) rfl hb15 rfl ?_
            refine run_nil ?_
            exact w_goto (!r16) (.cons (.refl _) (.cons (.refl _) (.cons (.refl _) (.cons (.refl _) (.cons (.refl _) (.cons (.refl _) (.cons (.refl _) .nil))))))) ⟨(hS.keep [true, true] rfl).up (by omega), hM⟩
      · refine r_seq ?_
        refine r_region (n := 4) rfl ?_
        refine o_move (v := .v (.int .i64 v3)) (by decide) rfl ?_
        refine o_move (v := .v (.int .i64 r5)) (by decide) rfl ?_
        refine o_int (v := .v (.int .i64 (w64 (v3 + r5)))) (by decide) rfl rfl rfl ?_
        refine o_assign (v := .v (.int .i64 (w64 (v3 + r5)))) (by decide) rfl ?_
        refine run_nil ?_
        refine w_next [(1, .sl .no 1 (a1.map cI)), (2, .ptr (g + 0) 0), (6, .sl (.id (g + 3 + 1)) 1 (v2.map cI)), (7, .v (.int .i64 v3)), (8, .v (.int .i64 r5)), (9, .v (.int .i64 0)), (10, .v (.int .i64 (w64 (v3 + r5))))] (.cons (.refl _) (.cons (.refl _) (.cons (.refl _) (.cons (.refl _) (.cons (.refl _) (.cons (.refl _) (.cons (.refl _) .nil))))))) ?_
        refine w_join (J := Bool) (fun j => [(1, .sl .no 1 (a1.map cI)), (2, .ptr (g + 0) 0), (6, .sl (.id (g + 3 + 1)) 1 (v2.map cI)), (7, .v (.int .i64 v3)), (8, .v (.int .i64 r5)), (9, .v (.int .i64 0)), (10, .v (.int .i64 (w64 (v3 + r5)))), (43, .v (.bool j))]) (fun j H' g' => St (· < g) H0 [(g + 3 + 1, .row 3 v2.length), (g + 0, .cells [.v (.int .i64 a0.Letters), .v (.int .i64 a0.Numbers), .v (.int .i64 a0.Pitch), .v (.int .i64 a0.Slack), .v (.int .i64 a0.Gap), .v (.int .i64 a0.Pause), .v (.int .i64 a0.Sparks), .sl .no 1 (a0.Times.map cI)])] H' g' ∧ ref13_Clean_j5 n (ref13_Clean_l1 n a0 a1 m2) a0 a1 v2 v3 r5 j = some r) ?_ ?_
        · rintro v17 H g6 ⟨hS, hM⟩
          change wpA _ _ _ _ (Fr.of [(1, .sl .no 1 (a1.map cI)), (2, .ptr (g + 0) 0), (6, .sl (.id (g + 3 + 1)) 1 (v2.map cI)), (7, .v (.int .i64 v3)), (8, .v (.int .i64 r5)), (9, .v (.int .i64 0)), (10, .v (.int .i64 (w64 (v3 + r5)))), (43, .v (.bool v17))]) _ _
          replace hS : St (· < g) H0 [(g + 3 + 1, .row 3 v2.length), (g + 0, .cells [.v (.int .i64 a0.Letters), .v (.int .i64 a0.Numbers), .v (.int .i64 a0.Pitch), .v (.int .i64 a0.Slack), .v (.int .i64 a0.Gap), .v (.int .i64 a0.Pause), .v (.int .i64 a0.Sparks), .sl .no 1 (a0.Times.map cI)])] H g6 := hS
          replace hM : ref13_Clean_j5 n (ref13_Clean_l1 n a0 a1 m2) a0 a1 v2 v3 r5 v17 = some r := hM
          rcases Bool.eq_false_or_eq_true v17 with hb18 | hb18
          · replace hM := ifT hM hb18
            refine w_condT (e := v17) rfl hb18 ?_
            refine r_region (n := 5) rfl ?_
            refine o_load (v := .agg [.v (.int .i64 a0.Letters), .v (.int .i64 a0.Numbers), .v (.int .i64 a0.Pitch), .v (.int .i64 a0.Slack), .v (.int .i64 a0.Gap), .v (.int .i64 a0.Pause), .v (.int .i64 a0.Sparks), .sl .no 1 (a0.Times.map cI)]) 1 hS (by decide) rfl rfl .no (part_agg ty_agg24 (Nat.le_of_ble_eq_true rfl) rfl) ?_
            refine o_move (v := .sl .no 1 (a1.map cI)) (by decide) rfl ?_
            refine o_move (v := .v (.int .i64 (w64 (v3 + r5)))) (by decide) rfl ?_
            obtain ⟨r19, hr19, hM⟩ := bindE hM
            refine o_call (bs := [.agg [.v (.int .i64 a0.Letters), .v (.int .i64 a0.Numbers), .v (.int .i64 a0.Pitch), .v (.int .i64 a0.Slack), .v (.int .i64 a0.Gap), .v (.int .i64 a0.Pause), .v (.int .i64 a0.Sparks), .sl .no 1 (a0.Times.map cI)], .sl .no 1 (a1.map cI), .v (.int .i64 (w64 (v3 + r5)))]) (by decide) rfl rfl ((W_ref13_group hr19).le (.cons (.refl _) (.cons (.refl _) (.cons (.refl _) .nil)))) ?_
            refine o_assign (v := .v (.int .i64 r19)) (by decide) rfl ?_
            refine run_nil ?_
            exact w_goto r19 (.cons (.refl _) (.cons (.refl _) (.cons (.refl _) (.cons (.refl _) (.cons (.refl _) (.cons (.refl _) .nil)))))) ⟨(hS.keep [true, true] rfl).up (by omega), hM⟩
          · replace hM := ifF hM hb18
            refine w_condF (e := v17) rfl hb18 ?_
            refine r_skip ?_
            exact w_goto 0 (.cons (.refl _) (.cons (.refl _) (.cons (.refl _) (.cons (.refl _) (.cons (.refl _) (.cons (.refl _) .nil)))))) ⟨(hS.keep [true, true] rfl).up (by omega), hM⟩
        · have hS0 := hS
          refine r_draw (n := 22) rfl (by kernel_rfl) ?_
          refine o_move (v := .v (.int .i64 (w64 (v3 + r5)))) (by decide) rfl ?_
          refine o_move (v := .sl .no 1 (a1.map cI)) (by decide) rfl ?_
          refine o_len (n := a1.length) (by decide) rfl (List.length_map _) ty_isl22 ?_
          refine o_int (v := .v (.bool (decide ((w64 (v3 + r5)) < (a1.length : Int))))) (by decide) rfl rfl rfl ?_
          refine o_move (v := .v (.bool (decide ((w64 (v3 + r5)) < (a1.length : Int))))) (by decide) rfl ?_
          rcases Bool.eq_false_or_eq_true (decide ((w64 (v3 + r5)) < (a1.length : Int))) with hb20 | hb20
          · replace hM := ifT hM hb20
            refine o_guardY (j := 4) (e := (decide ((w64 (v3 + r5)) < (a1.length : Int)))) (want := true) rfl hb20 ?_
            refine o_move (v := .sl .no 1 (a1.map cI)) (by decide) rfl ?_
            refine o_guardY (j := 4) (e := (decide ((w64 (v3 + r5)) < (a1.length : Int)))) (want := true) rfl hb20 ?_
            refine o_move (v := .v (.int .i64 (w64 (v3 + r5)))) (by decide) rfl ?_
            refine o_guardY (j := 4) (e := (decide ((w64 (v3 + r5)) < (a1.length : Int)))) (want := true) rfl hb20 ?_
            obtain ⟨x21, hx21, hM⟩ := bindE hM
            refine o_index (xs := a1) (f := cI) (z := (w64 (v3 + r5))) (u := x21) (by decide) rfl rfl ty_es22 hx21 ?_
            refine o_guardY (j := 4) (e := (decide ((w64 (v3 + r5)) < (a1.length : Int)))) (want := true) rfl hb20 ?_
            refine o_loadE (v := .v (.int .i64 x21)) (by decide) rfl (part_one ty_agg3 ty_sc3 rfl) ?_
            refine o_guardY (j := 4) (e := (decide ((w64 (v3 + r5)) < (a1.length : Int)))) (want := true) rfl hb20 ?_
            refine o_move (v := .sl .no 1 (a1.map cI)) (by decide) rfl ?_
            refine o_guardY (j := 4) (e := (decide ((w64 (v3 + r5)) < (a1.length : Int)))) (want := true) rfl hb20 ?_
            refine o_move (v := .v (.int .i64 (w64 (v3 + r5)))) (by decide) rfl ?_
            refine o_guardY (j := 4) (e := (decide ((w64 (v3 + r5)) < (a1.length : Int)))) (want := true) rfl hb20 ?_
            refine o_int (v := .v (.int .i64 (w64 ((w64 (v3 + r5)) - 1)))) (by decide) rfl rfl rfl ?_
            refine o_guardY (j := 4) (e := (decide ((w64 (v3 + r5)) < (a1.length : Int)))) (want := true) rfl hb20 ?_
            obtain ⟨x22, hx22, hM⟩ := bindE hM
            refine o_index (xs := a1) (f := cI) (z := (w64 ((w64 (v3 + r5)) - 1))) (u := x22) (by decide) rfl rfl ty_es22 hx22 ?_
            refine o_guardY (j := 4) (e := (decide ((w64 (v3 + r5)) < (a1.length : Int)))) (want := true) rfl hb20 ?_
            refine o_loadE (v := .v (.int .i64 x22)) (by decide) rfl (part_one ty_agg3 ty_sc3 rfl) ?_
            refine o_guardY (j := 4) (e := (decide ((w64 (v3 + r5)) < (a1.length : Int)))) (want := true) rfl hb20 ?_
            refine o_int (v := .v (.int .i64 (w64 (x21 - x22)))) (by decide) rfl rfl rfl ?_
            refine o_guardY (j := 4) (e := (decide ((w64 (v3 + r5)) < (a1.length : Int)))) (want := true) rfl hb20 ?_
            refine o_fieldP (by decide) ty_fo24_4 rfl ?_
            refine o_guardY (j := 4) (e := (decide ((w64 (v3 + r5)) < (a1.length : Int)))) (want := true) rfl hb20 ?_
            refine o_load (v := .v (.int .i64 a0.Gap)) 1 hS (by decide) rfl rfl (.st hS0 1 rfl (by omega)) (part_one ty_agg3 ty_sc3 rfl) ?_
            refine o_guardY (j := 4) (e := (decide ((w64 (v3 + r5)) < (a1.length : Int)))) (want := true) rfl hb20 ?_
            refine o_fieldP (by decide) ty_fo24_5 rfl ?_
            refine o_guardY (j := 4) (e := (decide ((w64 (v3 + r5)) < (a1.length : Int)))) (want := true) rfl hb20 ?_
            refine o_load (v := .v (.int .i64 a0.Pause)) 1 hS (by decide) rfl rfl (.st hS0 1 rfl (by omega)) (part_one ty_agg3 ty_sc3 rfl) ?_
            refine o_guardY (j := 4) (e := (decide ((w64 (v3 + r5)) < (a1.length : Int)))) (want := true) rfl hb20 ?_
            refine o_int (v := .v (.int .i64 (w64 (a0.Pause - 1)))) (by decide) rfl rfl rfl ?_
            refine o_guardY (j := 4) (e := (decide ((w64 (v3 + r5)) < (a1.length : Int)))) (want := true) rfl hb20 ?_
            obtain ⟨r23, hr23, hM⟩ := bindE hM
            refine o_call (bs := [.v (.int .i64 (w64 (x21 - x22))), .v (.int .i64 a0.Gap), .v (.int .i64 (w64 (a0.Pause - 1)))]) (by decide) rfl rfl ((W_ref13_within hr23).le (.cons (.refl _) (.cons (.refl _) (.cons (.refl _) .nil)))) ?_
            refine o_pickT (v := .v (.bool r23)) (e := (decide ((w64 (v3 + r5)) < (a1.length : Int)))) (by decide) rfl hb20 rfl ?_
            refine run_nil ?_
            exact w_goto r23 (.cons (.refl _) (.cons (.refl _) (.cons (.refl _) (.cons (.refl _) (.cons (.refl _) (.cons (.refl _) (.cons (.refl _) (.cons (.refl _) .nil)))))))) ⟨(hS.keep [true, true] rfl).up (by omega), hM⟩
          · replace hM := ifF hM hb20
            refine o_guardN (j := 4) (e := (decide ((w64 (v3 + r5)) < (a1.length : Int)))) (want := true) (by decide) rfl hb20 ?_
            refine o_guardN (j := 4) (e := (decide ((w64 (v3 + r5)) < (a1.length : Int)))) (want := true) (by decide) rfl hb20 ?_
            refine o_guardN (j := 4) (e := (decide ((w64 (v3 + r5)) < (a1.length : Int)))) (want := true) (by decide) rfl hb20 ?_
            refine o_guardN (j := 4) (e := (decide ((w64 (v3 + r5)) < (a1.length : Int)))) (want := true) (by decide) rfl hb20 ?_
            refine o_guardN (j := 4) (e := (decide ((w64 (v3 + r5)) < (a1.length : Int)))) (want := true) (by decide) rfl hb20 ?_
            refine o_guardN (j := 4) (e := (decide ((w64 (v3 + r5)) < (a1.length : Int)))) (want := true) (by decide) rfl hb20 ?_
            refine o_guardN (j := 4) (e := (decide ((w64 (v3 + r5)) < (a1.length : Int)))) (want := true) (by decide) rfl hb20 ?_
            refine o_guardN (j := 4) (e := (decide ((w64 (v3 + r5)) < (a1.length : Int)))) (want := true) (by decide) rfl hb20 ?_
            refine o_guardN (j := 4) (e := (decide ((w64 (v3 + r5)) < (a1.length : Int)))) (want := true) (by decide) rfl hb20 ?_
            refine o_guardN (j := 4) (e := (decide ((w64 (v3 + r5)) < (a1.length : Int)))) (want := true) (by decide) rfl hb20 ?_
            refine o_guardN (j := 4) (e := (decide ((w64 (v3 + r5)) < (a1.length : Int)))) (want := true) (by decide) rfl hb20 ?_
            refine o_guardN (j := 4) (e := (decide ((w64 (v3 + r5)) < (a1.length : Int)))) (want := true) (by decide) rfl hb20 ?_
            refine o_guardN (j := 4) (e := (decide ((w64 (v3 + r5)) < (a1.length : Int)))) (want := true) (by decide) rfl hb20 ?_
            refine o_guardN (j := 4) (e := (decide ((w64 (v3 + r5)) < (a1.length : Int)))) (want := true) (by decide) rfl hb20 ?_
            refine o_guardN (j := 4) (e := (decide ((w64 (v3 + r5)) < (a1.length : Int)))) (want := true) (by decide) rfl hb20 ?_
            refine o_guardN (j := 4) (e := (decide ((w64 (v3 + r5)) < (a1.length : Int)))) (want := true) (by decide) rfl hb20 ?_
            refine o_pickF (v := .v (.bool false)) (e := (decide ((w64 (v3 + r5)) < (a1.length : Int)))) (by decide) rfl hb20 rfl ?_
            refine run_nil ?_
            exact w_goto false (.cons (.refl _) (.cons (.refl _) (.cons (.refl _) (.cons (.refl _) (.cons (.refl _) (.cons (.refl _) (.cons (.refl _) (.cons (.refl _) .nil)))))))) ⟨(hS.keep [true, true] rfl).up (by omega), hM⟩
    · replace hM := ifF hM hb4
      refine w_condF (e := (decide (v3 < (a1.length : Int)))) rfl hb4 ?_
      refine r_exit ?_
      refine r_then_exit ?_
      refine w_round_exit ?_
      refine r_blk_exit ?_
      exact w_goto v2 (.cons (.refl _) .nil) ⟨(hS.keep [true, false] rfl).up (by omega), hM⟩
theorem W_law13_ready {n : Nat} {a0 : Pulse} {r : Bool} (hM : law13_ready n a0 = some r) : PureSat Try.prog 31 [.agg [.v (.int .i64 a0.Letters), .v (.int .i64 a0.Numbers), .v (.int .i64 a0.Pitch), .v (.int .i64 a0.Slack), .v (.int .i64 a0.Gap), .v (.int .i64 a0.Pause), .v (.int .i64 a0.Sparks), .sl .no 1 (a0.Times.map cI)]] (.v (.bool r)) := by
  refine pure_of_wp mixed Try.func31 rfl (by decide) Try.ntmps31 (by simp) ?pure fun H0 g hf => ?_
  case pure => exact .v _
  rw [frame0_of]
  change wpA _ _ _ _ (Fr.of [(0, .agg [.v (.int .i64 a0.Letters), .v (.int .i64 a0.Numbers), .v (.int .i64 a0.Pitch), .v (.int .i64 a0.Slack), .v (.int .i64 a0.Gap), .v (.int .i64 a0.Pause), .v (.int .i64 a0.Sparks), .sl .no 1 (a0.Times.map cI)])]) H0 g
  have hS := St.start hf
  refine r_seq ?_
  refine r_region (n := 2) rfl ?_
  refine o_box (v := .agg [.v (.int .i64 a0.Letters), .v (.int .i64 a0.Numbers), .v (.int .i64 a0.Pitch), .v (.int .i64 a0.Slack), .v (.int .i64 a0.Gap), .v (.int .i64 a0.Pause), .v (.int .i64 a0.Sparks), .sl .no 1 (a0.Times.map cI)]) (cs := [.v (.int .i64 a0.Letters), .v (.int .i64 a0.Numbers), .v (.int .i64 a0.Pitch), .v (.int .i64 a0.Slack), .v (.int .i64 a0.Gap), .v (.int .i64 a0.Pause), .v (.int .i64 a0.Sparks), .sl .no 1 (a0.Times.map cI)]) hS (by decide) rfl rfl (by omega) fun H hS => ?_
  refine o_assign (v := .v (.bool false)) (by decide) rfl ?_
  refine run_nil ?_
  refine w_next [(1, .ptr (g + 0) 0)] (.cons (.refl _) .nil) ?_
  refine w_join (J := Bool) (fun j => [(2, .v (.bool j))]) (fun j H' g' => St (· < g) H0 [] H' g' ∧ law13_ready_j1 j = some r) ?_ ?_
  · rintro v1 H g1 ⟨hS, hM⟩
    change wpA _ _ _ _ (Fr.of [(2, .v (.bool v1))]) _ _
    replace hS : St (· < g) H0 [] H g1 := hS
    replace hM : law13_ready_j1 v1 = some r := hM
    refine r_ret ?_
    refine w_end (x := .v (.bool v1)) (f := fun r => .v (.bool r)) (.inr rfl) ?_ (.refl _) (Option.some.inj hM) hS
    exact (res_one (res_tmp (x := .v (.bool v1)) rfl))
  · refine r_region (n := 9) rfl ?_
    refine o_load (v := .agg [.v (.int .i64 a0.Letters), .v (.int .i64 a0.Numbers), .v (.int .i64 a0.Pitch), .v (.int .i64 a0.Slack), .v (.int .i64 a0.Gap), .v (.int .i64 a0.Pause), .v (.int .i64 a0.Sparks), .sl .no 1 (a0.Times.map cI)]) 0 hS (by decide) rfl rfl .no (part_agg ty_agg24 (Nat.le_of_ble_eq_true rfl) rfl) ?_
    obtain ⟨r2, hr2, hM⟩ := bindE hM
    refine o_call (bs := [.agg [.v (.int .i64 a0.Letters), .v (.int .i64 a0.Numbers), .v (.int .i64 a0.Pitch), .v (.int .i64 a0.Slack), .v (.int .i64 a0.Gap), .v (.int .i64 a0.Pause), .v (.int .i64 a0.Sparks), .sl .no 1 (a0.Times.map cI)]]) (by decide) rfl rfl ((W_law13_Far hr2).le (.cons (.refl _) .nil)) ?_
    refine o_not (e := r2) (by decide) rfl ?_
    refine o_move (v := .v (.bool (!r2))) (by decide) rfl ?_
    rcases Bool.eq_false_or_eq_true (!r2) with hb3 | hb3
    · replace hM := ifT hM hb3
      refine o_guardY (j := 3) (e := (!r2)) (want := true) rfl hb3 ?_
      refine o_load (v := .agg [.v (.int .i64 a0.Letters), .v (.int .i64 a0.Numbers), .v (.int .i64 a0.Pitch), .v (.int .i64 a0.Slack), .v (.int .i64 a0.Gap), .v (.int .i64 a0.Pause), .v (.int .i64 a0.Sparks), .sl .no 1 (a0.Times.map cI)]) 0 hS (by decide) rfl rfl .no (part_agg ty_agg24 (Nat.le_of_ble_eq_true rfl) rfl) ?_
      refine o_guardY (j := 3) (e := (!r2)) (want := true) rfl hb3 ?_
      obtain ⟨r4, hr4, hM⟩ := bindE hM
      refine o_call (bs := [.agg [.v (.int .i64 a0.Letters), .v (.int .i64 a0.Numbers), .v (.int .i64 a0.Pitch), .v (.int .i64 a0.Slack), .v (.int .i64 a0.Gap), .v (.int .i64 a0.Pause), .v (.int .i64 a0.Sparks), .sl .no 1 (a0.Times.map cI)]]) (by decide) rfl rfl ((W_ref13_Check hr4).le (.cons (.refl _) .nil)) ?_
      refine o_guardY (j := 3) (e := (!r2)) (want := true) rfl hb3 ?_
      refine o_int (v := .v (.bool (r4 == 0))) (by decide) rfl rfl rfl ?_
      refine o_pickT (v := .v (.bool (r4 == 0))) (e := (!r2)) (by decide) rfl hb3 rfl ?_
      refine o_assign (v := .v (.bool (r4 == 0))) (by decide) rfl ?_
      refine run_nil ?_
      exact w_goto (r4 == 0) (.cons (.refl _) .nil) ⟨(hS.keep [false] rfl).up (by omega), hM⟩
    · replace hM := ifF hM hb3
      refine o_guardN (j := 3) (e := (!r2)) (want := true) (by decide) rfl hb3 ?_
      refine o_guardN (j := 3) (e := (!r2)) (want := true) (by decide) rfl hb3 ?_
      refine o_guardN (j := 3) (e := (!r2)) (want := true) (by decide) rfl hb3 ?_
      refine o_pickF (v := .v (.bool false)) (e := (!r2)) (by decide) rfl hb3 rfl ?_
      refine o_assign (v := .v (.bool false)) (by decide) rfl ?_
      refine run_nil ?_
      exact w_goto false (.cons (.refl _) .nil) ⟨(hS.keep [false] rfl).up (by omega), hM⟩
theorem W_pulses_count_pulsesreading {S : Type} {Lo : S → BL} (hk : ∀ s s', KinL (Lo s) (Lo s')) (hnd : ∀ s, (ids (Lo s)).Nodup) (hin : ∀ s, InB In (Lo s)) {aF : Reading_ → S → Option (Bool × S)} {f0 : AV} (hF : ∀ s H, Has H (Lo s) → In H f0) (h0 : cellsOf f0 = some [f0]) (hf : ∀ {x0 : Reading_} {s : S} {r : Bool × S}, aF x0 s = some r → CSat Try.prog f0 [.agg [.v (.int .u64 x0.sparks), .sl .no 1 (x0.list.map cI)]] (Lo s) (.v (.bool r.1)) (Lo r.2)) {n : Nat} {a0 : List Reading_} {st : S} {r : Int × S} (hM : pulses_count_pulsesreading n aF a0 st = some r) : HSat Try.prog 93 [.sl .no 2 (a0.map Reading_.cells), f0] (Lo st) (.v (.int .i64 r.1)) (Lo r.2) := by
  have hnd0 : ∀ s, (ids (Lo s)).Nodup := fun s => hnd s
  refine hsat_of_wp mixed Try.func93 rfl (by decide) Try.ntmps93 (by simp) (hk _ _) (hnd st) ?pure ?cells fun H0 g hf_ hp => ?_
  case pure => exact fun H _ => (show Go.AM.Pure _ from .v _).inH
  case cells => exact hin _
  rw [frame0_of]
  change wpA _ _ _ _ (Fr.of [(0, .sl .no 2 (a0.map Reading_.cells)), (1, f0)]) H0 g
  have hS := St.startH (L := ([] ++ Lo st)) hf_ (hnd st) hp
  replace hS : St (fun i => i < g ∧ i ∉ ids (Lo st)) H0 ([] ++ Lo st) H0 g := hS
  refine r_seq ?_
  refine r_region (n := 1) rfl ?_
  refine o_assign (v := .v (.int .i64 0)) (by decide) rfl ?_
  refine run_nil ?_
  refine w_next [(0, .sl .no 2 (a0.map Reading_.cells)), (1, f0)] (.cons (.refl _) (.cons (.refl _) .nil)) ?_
  refine r_seq ?_
  refine r_region (n := 1) rfl ?_
  refine o_assign (v := .v (.int .i64 0)) (by decide) rfl ?_
  refine run_nil ?_
  refine w_next [(0, .sl .no 2 (a0.map Reading_.cells)), (1, f0), (5, .v (.int .i64 0))] (.cons (.refl _) (.cons (.refl _) (.cons (.refl _) .nil))) ?_
  refine w_join (J := Int × S) (fun j => [(5, .v (.int .i64 j.1))]) (fun j H' g' => St (fun i => i < g ∧ i ∉ ids (Lo st)) H0 ([] ++ Lo j.2) H' g' ∧ pulses_count_pulsesreading_j1 j.1 j.2 = some r) ?_ ?_
  · rintro ⟨v1, v2⟩ H g1 ⟨hS, hM⟩
    change wpA _ _ _ _ (Fr.of [(5, .v (.int .i64 v1))]) _ _
    replace hS : St (fun i => i < g ∧ i ∉ ids (Lo st)) H0 ([] ++ Lo v2) H g1 := hS
    replace hM : pulses_count_pulsesreading_j1 v1 v2 = some r := hM
    refine r_seq ?_
    refine r_region (n := 2) rfl ?_
    refine o_move (v := .v (.int .i64 v1)) (by decide) rfl ?_
    refine o_assign (v := .v (.int .i64 v1)) (by decide) rfl ?_
    refine run_nil ?_
    refine w_next [(4, .v (.int .i64 v1))] (.cons (.refl _) .nil) ?_
    refine r_ret ?_
    refine w_endS (x := .v (.int .i64 v1)) (f := fun r => .v (.int .i64 r.1)) (fd := fun r => (Lo r.2)) (.inr rfl) ?_ (.refl _) (Option.some.inj hM) hS 0 rfl
    exact (res_one (res_tmp (x := .v (.int .i64 v1)) rfl))
  · refine r_seq ?_
    refine r_region (n := 3) rfl ?_
    refine o_move (v := .sl .no 2 (a0.map Reading_.cells)) (by decide) rfl ?_
    refine o_len (n := a0.length) (by decide) rfl (List.length_map _) ty_isl72 ?_
    refine o_move (v := .v (.int .i64 0)) (by decide) rfl ?_
    refine run_nil ?_
    refine w_next [(1, f0), (5, .v (.int .i64 0)), (8, .sl .no 2 (a0.map Reading_.cells)), (9, .v (.int .i64 (a0.length : Int))), (10, .v (.int .i64 0))] (.cons (.refl _) (.cons (.refl _) (.cons (.refl _) (.cons (.refl _) (.cons (.refl _) .nil))))) ?_
    refine r_block ?_
    refine w_loop (V := Int × Int × S) (fun v => [(1, f0), (5, .v (.int .i64 v.1)), (8, .sl .no 2 (a0.map Reading_.cells)), (9, .v (.int .i64 (a0.length : Int))), (10, .v (.int .i64 v.2.1))]) (fun v m3 H' g' => St (fun i => i < g ∧ i ∉ ids (Lo st)) H0 ([] ++ Lo v.2.2) H' g' ∧ pulses_count_pulsesreading_l1 a0 aF m3 v.1 v.2.1 v.2.2 = some r) (n := n) (0, 0, st) (.cons (.refl _) (.cons (.refl _) (.cons (.refl _) (.cons (.refl _) (.cons (.refl _) .nil))))) ⟨(hS.keep [] rfl).up (by omega), hM⟩ ?_
    rintro ⟨v5, v6, v7⟩ m3 H g3 ⟨hS, hM⟩
    obtain _ | m3 := m3
    · exact nomatch (show none = some _ from hM)
    change wpA _ _ _ _ (Fr.of [(1, f0), (5, .v (.int .i64 v5)), (8, .sl .no 2 (a0.map Reading_.cells)), (9, .v (.int .i64 (a0.length : Int))), (10, .v (.int .i64 v6))]) _ _
    replace hS : St (fun i => i < g ∧ i ∉ ids (Lo st)) H0 ([] ++ Lo v7) H g3 := hS
    replace hM : pulses_count_pulsesreading_l1_b a0 aF (pulses_count_pulsesreading_l1 a0 aF m3) v5 v6 v7 = some r := hM
    refine r_seq ?_
    refine r_region (n := 1) rfl ?_
    refine o_int (v := .v (.bool (decide (v6 < (a0.length : Int))))) (by decide) rfl rfl rfl ?_
    refine run_nil ?_
    refine w_next [(1, f0), (5, .v (.int .i64 v5)), (8, .sl .no 2 (a0.map Reading_.cells)), (9, .v (.int .i64 (a0.length : Int))), (10, .v (.int .i64 v6)), (11, .v (.bool (decide (v6 < (a0.length : Int)))))] (.cons (.refl _) (.cons (.refl _) (.cons (.refl _) (.cons (.refl _) (.cons (.refl _) (.cons (.refl _) .nil)))))) ?_
    refine r_seq ?_
    rcases Bool.eq_false_or_eq_true (decide (v6 < (a0.length : Int))) with hb8 | hb8
    · replace hM := ifT hM hb8
      refine w_condT (e := (decide (v6 < (a0.length : Int)))) rfl hb8 ?_
      refine r_skip ?_
      refine w_next [(1, f0), (5, .v (.int .i64 v5)), (8, .sl .no 2 (a0.map Reading_.cells)), (9, .v (.int .i64 (a0.length : Int))), (10, .v (.int .i64 v6))] (.cons (.refl _) (.cons (.refl _) (.cons (.refl _) (.cons (.refl _) (.cons (.refl _) .nil))))) ?_
      refine w_join (J := Int × S) (fun j => [(1, f0), (5, .v (.int .i64 j.1)), (8, .sl .no 2 (a0.map Reading_.cells)), (9, .v (.int .i64 (a0.length : Int))), (10, .v (.int .i64 v6))]) (fun j H' g' => St (fun i => i < g ∧ i ∉ ids (Lo st)) H0 ([] ++ Lo j.2) H' g' ∧ pulses_count_pulsesreading_j2 (pulses_count_pulsesreading_l1 a0 aF m3) v6 j.1 j.2 = some r) ?_ ?_
      · rintro ⟨v9, v10⟩ H g4 ⟨hS, hM⟩
        change wpA _ _ _ _ (Fr.of [(1, f0), (5, .v (.int .i64 v9)), (8, .sl .no 2 (a0.map Reading_.cells)), (9, .v (.int .i64 (a0.length : Int))), (10, .v (.int .i64 v6))]) _ _
        replace hS : St (fun i => i < g ∧ i ∉ ids (Lo st)) H0 ([] ++ Lo v10) H g4 := hS
        replace hM : pulses_count_pulsesreading_j2 (pulses_count_pulsesreading_l1 a0 aF m3) v6 v9 v10 = some r := hM
        refine r_region (n := 2) rfl ?_
        refine o_int (v := .v (.int .i64 (w64 (v6 + 1)))) (by decide) rfl rfl rfl ?_
        refine o_move (v := .v (.int .i64 (w64 (v6 + 1)))) (by decide) rfl ?_
        refine run_nil ?_
        exact w_round (v9, w64 (v6 + 1), v10) (Nat.lt_succ_self _) (.cons (.refl _) (.cons (.refl _) (.cons (.refl _) (.cons (.refl _) (.cons (.refl _) .nil))))) ⟨(hS.keep [] rfl).up (by omega), hM⟩
      · refine r_block ?_
        refine r_seq ?_
        refine r_region (n := 4) rfl ?_
        obtain ⟨x11, hx11, hM⟩ := bindE hM
        refine o_index (xs := a0) (f := Reading_.cells) (z := v6) (u := x11) (by decide) rfl rfl ty_es72 hx11 ?_
        refine o_loadE (v := .agg [.v (.int .u64 x11.sparks), .sl .no 1 (x11.list.map cI)]) (by decide) rfl (part_agg ty_agg86 (Nat.le_of_ble_eq_true rfl) rfl) ?_
        refine o_alloc hS (by decide) ty_zero86 (by omega) fun H hS => ?_
        refine o_store (v := .agg [.v (.int .u64 x11.sparks), .sl .no 1 (x11.list.map cI)]) (ns := [.v (.int .u64 x11.sparks), .sl .no 1 (x11.list.map cI)]) (L' := ([(g3 + 1 + 2, .cells [.v (.int .u64 x11.sparks), .sl .no 1 (x11.list.map cI)])] ++ Lo v7)) 0 hS rfl rfl .no rfl rfl ty_var86 (Nat.le_of_ble_eq_true rfl) rfl fun H hS => ?_
        refine run_nil ?_
        refine w_next [(1, f0), (5, .v (.int .i64 v5)), (7, .ptr (g3 + 1 + 2) 0), (8, .sl .no 2 (a0.map Reading_.cells)), (9, .v (.int .i64 (a0.length : Int))), (10, .v (.int .i64 v6))] (.cons (.refl _) (.cons (.refl _) (.cons (.refl _) (.cons (.refl _) (.cons (.refl _) (.cons (.refl _) .nil)))))) ?_
        refine r_seq ?_
        refine r_region (n := 3) rfl ?_
        refine o_move (v := f0) (by decide) rfl ?_
        refine o_load (v := .agg [.v (.int .u64 x11.sparks), .sl .no 1 (x11.list.map cI)]) 0 hS (by decide) rfl rfl .no (part_agg ty_agg86 (Nat.le_of_ble_eq_true rfl) rfl) ?_
        obtain ⟨r12, hr12, hM⟩ := bindE hM
        replace hS : St (fun i => i < g ∧ i ∉ ids (Lo st)) H0 ([(g3 + 1 + 2, .cells [.v (.int .u64 x11.sparks), .sl .no 1 (x11.list.map cI)])] ++ Lo v7) _ _ := hS
        refine o_state (bs := [.agg [.v (.int .u64 x11.sparks), .sl .no 1 (x11.list.map cI)]]) (.inl rfl) hS (by decide) rfl rfl ((hf hr12).le (.cons (.refl _) .nil)) (hk _ _).ids (by omega) fun H hS => ?_
        refine run_nil ?_
        replace hS := hS.keep (L' := ([] ++ Lo r12.2)) [false] rfl
        refine w_next [(1, f0), (5, .v (.int .i64 v5)), (8, .sl .no 2 (a0.map Reading_.cells)), (9, .v (.int .i64 (a0.length : Int))), (10, .v (.int .i64 v6)), (16, .v (.bool r12.1))] (.cons (.refl _) (.cons (.refl _) (.cons (.refl _) (.cons (.refl _) (.cons (.refl _) (.cons (.refl _) .nil)))))) ?_
        rcases Bool.eq_false_or_eq_true r12.1 with hb13 | hb13
        · replace hM := ifT hM hb13
          refine w_condT (e := r12.1) rfl hb13 ?_
          refine r_region (n := 3) rfl ?_
          refine o_move (v := .v (.int .i64 v5)) (by decide) rfl ?_
          refine o_int (v := .v (.int .i64 (w64 (v5 + 1)))) (by decide) rfl rfl rfl ?_
          refine o_assign (v := .v (.int .i64 (w64 (v5 + 1)))) (by decide) rfl ?_
          refine run_nil ?_
          refine r_blk_normal ?_
          exact w_goto (w64 (v5 + 1), r12.2) (.cons (.refl _) (.cons (.refl _) (.cons (.refl _) (.cons (.refl _) (.cons (.refl _) .nil))))) ⟨(hS.keep [] rfl).up (by omega), hM⟩
        · replace hM := ifF hM hb13
          refine w_condF (e := r12.1) rfl hb13 ?_
          refine r_skip ?_
          refine r_blk_normal ?_
          exact w_goto (v5, r12.2) (.cons (.refl _) (.cons (.refl _) (.cons (.refl _) (.cons (.refl _) (.cons (.refl _) .nil))))) ⟨(hS.keep [] rfl).up (by omega), hM⟩
    · replace hM := ifF hM hb8
      refine w_condF (e := (decide (v6 < (a0.length : Int)))) rfl hb8 ?_
      refine r_exit ?_
      refine r_then_exit ?_
      refine w_round_exit ?_
      refine r_blk_exit ?_
      exact w_goto (v5, v7) (.cons (.refl _) .nil) ⟨(hS.keep [] rfl).up (by omega), hM⟩
theorem W_pulses_pulses_c1 {p1 : Nat} (hnd : [p1].Nodup) {a0 : Reading_} {a1 : Int} {r : Bool} (hM : pulses_pulses_c1 a0 a1 = some r) : HSat Try.prog 94 [.agg [.v (.int .u64 a0.sparks), .sl .no 1 (a0.list.map cI)], .ptr p1 0] [(p1, .cells [.v (.int .i64 a1)])] (.v (.bool r)) [(p1, .cells [.v (.int .i64 a1)])] := by
  refine hsat_of_wp mixed Try.func94 rfl (by decide) Try.ntmps94 (by simp) (kl_cells kl_nil) hnd ?pure ?cells fun H0 g hf_ hp => ?_
  case pure => exact fun H _ => (show Go.AM.Pure _ from .v _).inH
  case cells => exact (inb_st (ic_cells (ci_cons (.inl (.inl (.v _))) ci_nil) ic_nil) inb_nil)
  rw [frame0_of]
  change wpA _ _ _ _ (Fr.of [(0, .agg [.v (.int .u64 a0.sparks), .sl .no 1 (a0.list.map cI)]), (1, .ptr p1 0)]) H0 g
  have hS := St.startH (L := [(p1, .cells [.v (.int .i64 a1)])]) hf_ hnd hp
  replace hS : St (fun i => i < g ∧ i ∉ ids [(p1, .cells [.v (.int .i64 a1)])]) H0 [(p1, .cells [.v (.int .i64 a1)])] H0 g := hS
  refine r_seq ?_
  refine r_region (n := 2) rfl ?_
  refine o_box (v := .agg [.v (.int .u64 a0.sparks), .sl .no 1 (a0.list.map cI)]) (cs := [.v (.int .u64 a0.sparks), .sl .no 1 (a0.list.map cI)]) hS (by decide) rfl rfl (by omega) fun H hS => ?_
  refine o_assign (v := .v (.bool false)) (by decide) rfl ?_
  refine run_nil ?_
  refine w_next [(1, .ptr p1 0), (2, .ptr (g + 0) 0)] (.cons (.refl _) (.cons (.refl _) .nil)) ?_
  refine r_seq ?_
  refine r_region (n := 5) rfl ?_
  refine o_fieldP (by decide) ty_fo86_0 rfl ?_
  refine o_load (v := .v (.int .u64 a0.sparks)) 0 hS (by decide) rfl rfl .no (part_one ty_agg84 ty_sc84 rfl) ?_
  refine o_load (v := .v (.int .i64 a1)) 1 hS (by decide) rfl rfl .no (part_one ty_agg3 ty_sc3 rfl) ?_
  obtain ⟨r1, hr1, hM⟩ := bindE hM
  refine o_call (bs := [.v (.int .u64 a0.sparks), .v (.int .i64 a1)]) (by decide) rfl rfl ((W_pulses_set_has hr1).le (.cons (.refl _) (.cons (.refl _) .nil))) ?_
  refine o_assign (v := .v (.bool r1)) (by decide) rfl ?_
  refine run_nil ?_
  replace hS := hS.keep (L' := [(p1, .cells [.v (.int .i64 a1)])]) [false, true] rfl
  refine w_next [(3, .v (.bool r1))] (.cons (.refl _) .nil) ?_
  refine r_ret ?_
  refine w_endS (x := .v (.bool r1)) (f := fun r => .v (.bool r)) (fd := fun r => [(p1, .cells [.v (.int .i64 a1)])]) (.inr rfl) ?_ (.refl _) (Option.some.inj hM) hS 0 rfl
  exact (res_one (res_tmp (x := .v (.bool r1)) rfl))
theorem W_pulses_pulses {S : Type} {Lo : S → BL} (hk : ∀ s s', KinL (Lo s) (Lo s')) (hnd : ∀ s, (ids (Lo s)).Nodup) (hin : ∀ s, InB In (Lo s)) {aF : Int → Int → S → Option (Bool × S)} {f0 : AV} (hF : ∀ s H, Has H (Lo s) → In H f0) (h0 : cellsOf f0 = some [f0]) (hf : ∀ {x0 : Int} {x1 : Int} {s : S} {r : Bool × S}, aF x0 x1 s = some r → CSat Try.prog f0 [.v (.int .i64 x0), .v (.int .i64 x1)] (Lo s) (.v (.bool r.1)) (Lo r.2)) {n : Nat} {a0 : Pulse} {st : S} {r : ((List Int) × Int) × S} (hM : pulses_pulses n aF a0 st = some r) : HSat Try.prog 66 [.agg [.v (.int .i64 a0.Letters), .v (.int .i64 a0.Numbers), .v (.int .i64 a0.Pitch), .v (.int .i64 a0.Slack), .v (.int .i64 a0.Gap), .v (.int .i64 a0.Pause), .v (.int .i64 a0.Sparks), .sl .no 1 (a0.Times.map cI)], f0] (Lo st) (.tup [.sl .no 1 (r.1.1.map cI), .v (.int .i64 r.1.2)]) (Lo r.2) := by
  have hnd0 : ∀ s, (ids (Lo s)).Nodup := fun s => hnd s
  refine hsat_of_wp mixed Try.func66 rfl (by decide) Try.ntmps66 (by simp) (hk _ _) (hnd st) ?pure ?cells fun H0 g hf_ hp => ?_
  case pure => exact fun H _ => (show Go.AM.Pure _ from .tup _ (pl_cons (.sl _ _ (pures_map (fun x => (pl_cons (.v _) pl_nil)))) (pl_cons (.v _) pl_nil))).inH
  case cells => exact hin _
  rw [frame0_of]
  change wpA _ _ _ _ (Fr.of [(0, .agg [.v (.int .i64 a0.Letters), .v (.int .i64 a0.Numbers), .v (.int .i64 a0.Pitch), .v (.int .i64 a0.Slack), .v (.int .i64 a0.Gap), .v (.int .i64 a0.Pause), .v (.int .i64 a0.Sparks), .sl .no 1 (a0.Times.map cI)]), (1, f0)]) H0 g
  have hS := St.startH (L := ([] ++ Lo st)) hf_ (hnd st) hp
  replace hS : St (fun i => i < g ∧ i ∉ ids (Lo st)) H0 ([] ++ Lo st) H0 g := hS
  refine r_seq ?_
  refine r_region (n := 3) rfl ?_
  refine o_box (v := .agg [.v (.int .i64 a0.Letters), .v (.int .i64 a0.Numbers), .v (.int .i64 a0.Pitch), .v (.int .i64 a0.Slack), .v (.int .i64 a0.Gap), .v (.int .i64 a0.Pause), .v (.int .i64 a0.Sparks), .sl .no 1 (a0.Times.map cI)]) (cs := [.v (.int .i64 a0.Letters), .v (.int .i64 a0.Numbers), .v (.int .i64 a0.Pitch), .v (.int .i64 a0.Slack), .v (.int .i64 a0.Gap), .v (.int .i64 a0.Pause), .v (.int .i64 a0.Sparks), .sl .no 1 (a0.Times.map cI)]) hS (by decide) rfl rfl (by omega) fun H hS => ?_
  refine o_assign (v := .sl .nil 0 []) (by decide) rfl ?_
  refine o_assign (v := .v (.int .i64 0)) (by decide) rfl ?_
  refine run_nil ?_
  refine w_next [(1, f0), (2, .ptr (g + 0) 0)] (.cons (.refl _) (.cons (.refl _) .nil)) ?_
  refine r_seq ?_
  refine r_region (n := 7) rfl ?_
  refine o_load (v := .agg [.v (.int .i64 a0.Letters), .v (.int .i64 a0.Numbers), .v (.int .i64 a0.Pitch), .v (.int .i64 a0.Slack), .v (.int .i64 a0.Gap), .v (.int .i64 a0.Pause), .v (.int .i64 a0.Sparks), .sl .no 1 (a0.Times.map cI)]) 0 hS (by decide) rfl rfl .no (part_agg ty_agg24 (Nat.le_of_ble_eq_true rfl) rfl) ?_
  obtain ⟨r1, hr1, hM⟩ := bindE hM
  refine o_call (bs := [.agg [.v (.int .i64 a0.Letters), .v (.int .i64 a0.Numbers), .v (.int .i64 a0.Pitch), .v (.int .i64 a0.Slack), .v (.int .i64 a0.Gap), .v (.int .i64 a0.Pause), .v (.int .i64 a0.Sparks), .sl .no 1 (a0.Times.map cI)], .fn (.func 62) [] []]) (by decide) rfl rfl (pure_of_hsat ((W_pulses_open (Lo := (fun (_ : Unit) => []))  (fun _ _ => kl_nil) (fun _ => List.nodup_nil) (fun _ => inb_nil) (aF := (fun (x0 : Train_) (_ : Unit) => (pulses_anything x0).map fun y => (y, ()))) (fun _ _ _ => .fn _ _ _ ai_nil ai_nil) rfl (fun h => csat_pure (W_pulses_anything (pure_some h))) hr1).le (.cons (.refl _) (.cons (.refl _) .nil)))) ?_
  refine o_move (v := .tup [.sl .no 2 (r1.1.1.map Reading_.cells), .v (.int .i64 r1.1.2)]) (by decide) rfl ?_
  refine o_extract (v := .sl .no 2 (r1.1.1.map Reading_.cells)) (by decide) rfl rfl ?_
  refine o_extract (v := .v (.int .i64 r1.1.2)) (by decide) rfl rfl ?_
  refine o_assign (v := .sl .no 2 (r1.1.1.map Reading_.cells)) (by decide) rfl ?_
  refine o_assign (v := .v (.int .i64 r1.1.2)) (by decide) rfl ?_
  refine run_nil ?_
  refine w_next [(1, f0), (2, .ptr (g + 0) 0), (6, .sl .no 2 (r1.1.1.map Reading_.cells)), (7, .v (.int .i64 r1.1.2))] (.cons (.refl _) (.cons (.refl _) (.cons (.refl _) (.cons (.refl _) .nil)))) ?_
  refine r_seq ?_
  refine r_seq ?_
  refine r_region (n := 2) rfl ?_
  refine o_move (v := .v (.int .i64 r1.1.2)) (by decide) rfl ?_
  refine o_int (v := .v (.bool (r1.1.2 != 0))) (by decide) rfl rfl rfl ?_
  refine run_nil ?_
  refine w_next [(1, f0), (2, .ptr (g + 0) 0), (6, .sl .no 2 (r1.1.1.map Reading_.cells)), (7, .v (.int .i64 r1.1.2)), (16, .v (.bool (r1.1.2 != 0)))] (.cons (.refl _) (.cons (.refl _) (.cons (.refl _) (.cons (.refl _) (.cons (.refl _) .nil))))) ?_
  rcases Bool.eq_false_or_eq_true (r1.1.2 != 0) with hb2 | hb2
  · replace hM := ifT hM hb2
    refine w_condT (e := (r1.1.2 != 0)) rfl hb2 ?_
    refine r_seq ?_
    refine r_region (n := 3) rfl ?_
    refine o_move (v := .v (.int .i64 r1.1.2)) (by decide) rfl ?_
    refine o_assign (v := .sl .nil 0 []) (by decide) rfl ?_
    refine o_assign (v := .v (.int .i64 r1.1.2)) (by decide) rfl ?_
    refine run_nil ?_
    replace hS := hS.keep (L' := ([] ++ Lo st)) [false] rfl
    refine w_next [(4, .sl .nil 0 []), (5, .v (.int .i64 r1.1.2))] (.cons (.refl _) (.cons (.refl _) .nil)) ?_
    refine r_ret ?_
    refine r_then_ret ?_
    refine w_endS (x := .tup [.sl .nil 0 [], .v (.int .i64 r1.1.2)]) (f := fun r => .tup [.sl .no 1 (r.1.1.map cI), .v (.int .i64 r.1.2)]) (fd := fun r => (Lo r.2)) (.inr rfl) ?_ (.tupL (.cons (.sl0 .nil 1 0) (.cons (.refl _) .nil))) (Option.some.inj hM) hS 0 rfl
    exact (res_two (res_tmp (x := .sl .nil 0 []) rfl) (res_tmp (x := .v (.int .i64 r1.1.2)) rfl))
  · replace hM := ifF hM hb2
    refine w_condF (e := (r1.1.2 != 0)) rfl hb2 ?_
    refine r_skip ?_
    refine w_next [(1, f0), (2, .ptr (g + 0) 0), (6, .sl .no 2 (r1.1.1.map Reading_.cells))] (.cons (.refl _) (.cons (.refl _) (.cons (.refl _) .nil))) ?_
    refine r_seq ?_
    refine r_region (n := 1) rfl ?_
    refine o_assign (v := .sl .nil 0 []) (by decide) rfl ?_
    refine run_nil ?_
    refine w_own [(1, f0), (2, .ptr (g + 0) 0), (6, .sl .no 2 (r1.1.1.map Reading_.cells)), (8, .sl (.id (g + 3 + 7 + 2 + 1)) 1 (([] : List Int).map cI))] 8 1 3 hS (by omega) (by decide) rfl (.cons (.refl _) (.cons (.refl _) (.cons (.refl _) (.cons (.refl _) .nil)))) fun H hS => ?_
    refine w_join (J := (List Int) × S) (fun j => [(8, .sl (.id (g + 3 + 7 + 2 + 1)) 1 (j.1.map cI))]) (fun j H' g' => St (fun i => i < g ∧ i ∉ ids (Lo st)) H0 ([(g + 3 + 7 + 2 + 1, .row 3 j.1.length)] ++ Lo j.2) H' g' ∧ pulses_pulses_j1 j.1 j.2 = some r) ?_ ?_
    · rintro ⟨v3, v4⟩ H g1 ⟨hS, hM⟩
      change wpA _ _ _ _ (Fr.of [(8, .sl (.id (g + 3 + 7 + 2 + 1)) 1 (v3.map cI))]) _ _
      replace hS : St (fun i => i < g ∧ i ∉ ids (Lo st)) H0 ([(g + 3 + 7 + 2 + 1, .row 3 v3.length)] ++ Lo v4) H g1 := hS
      replace hM : pulses_pulses_j1 v3 v4 = some r := hM
      refine r_seq ?_
      refine r_region (n := 3) rfl ?_
      refine o_move (v := .sl (.id (g + 3 + 7 + 2 + 1)) 1 (v3.map cI)) (by decide) rfl ?_
      refine o_assign (v := .sl (.id (g + 3 + 7 + 2 + 1)) 1 (v3.map cI)) (by decide) rfl ?_
      refine o_assign (v := .v (.int .i64 0)) (by decide) rfl ?_
      refine run_nil ?_
      refine w_next [(4, .sl (.id (g + 3 + 7 + 2 + 1)) 1 (v3.map cI)), (5, .v (.int .i64 0))] (.cons (.refl _) (.cons (.refl _) .nil)) ?_
      refine r_ret ?_
      refine w_endS (x := .tup [.sl (.id (g + 3 + 7 + 2 + 1)) 1 (v3.map cI), .v (.int .i64 0)]) (f := fun r => .tup [.sl .no 1 (r.1.1.map cI), .v (.int .i64 r.1.2)]) (fd := fun r => (Lo r.2)) (.inr rfl) ?_ (.tupL (.cons (.sl _ _ _) (.cons (.refl _) .nil))) (Option.some.inj hM) hS 1 rfl
      exact (res_two (res_tmp (x := .sl (.id (g + 3 + 7 + 2 + 1)) 1 (v3.map cI)) rfl) (res_tmp (x := .v (.int .i64 0)) rfl))
    · refine r_seq ?_
      refine r_region (n := 4) rfl ?_
      refine o_fieldP (by decide) ty_fo24_7 rfl ?_
      refine o_load (v := .sl .no 1 (a0.Times.map cI)) 1 hS (by decide) rfl rfl .no (part_one ty_agg22 ty_sc22 rfl) ?_
      refine o_len (n := a0.Times.length) (by decide) rfl (List.length_map _) ty_isl22 ?_
      refine o_move (v := .v (.int .i64 0)) (by decide) rfl ?_
      refine run_nil ?_
      replace hS := hS.keep (L' := ([(g + 3 + 7 + 2 + 1, .row 3 0)] ++ Lo st)) [true, false] rfl
      refine w_next [(1, f0), (6, .sl .no 2 (r1.1.1.map Reading_.cells)), (8, .sl (.id (g + 3 + 7 + 2 + 1)) 1 (([] : List Int).map cI)), (20, .v (.int .i64 (a0.Times.length : Int))), (21, .v (.int .i64 0))] (.cons (.refl _) (.cons (.refl _) (.cons (.refl _) (.cons (.refl _) (.cons (.refl _) .nil))))) ?_
      refine r_block ?_
      refine w_loop (V := (List Int) × Int × S) (fun v => [(1, f0), (6, .sl .no 2 (r1.1.1.map Reading_.cells)), (8, .sl (.id (g + 3 + 7 + 2 + 1)) 1 (v.1.map cI)), (20, .v (.int .i64 (a0.Times.length : Int))), (21, .v (.int .i64 v.2.1))]) (fun v m3 H' g' => St (fun i => i < g ∧ i ∉ ids (Lo st)) H0 ([(g + 3 + 7 + 2 + 1, .row 3 v.1.length)] ++ Lo v.2.2) H' g' ∧ pulses_pulses_l1 n a0 aF r1 m3 v.1 v.2.1 v.2.2 = some r) (n := n) (([] : List Int), 0, st) (.cons (.refl _) (.cons (.refl _) (.cons (.refl _) (.cons (.refl _) (.cons (.refl _) .nil))))) ⟨(hS.keep [true] rfl).up (by omega), hM⟩ ?_
      rintro ⟨v7, v8, v9⟩ m3 H g3 ⟨hS, hM⟩
      obtain _ | m3 := m3
      · exact nomatch (show none = some _ from hM)
      change wpA _ _ _ _ (Fr.of [(1, f0), (6, .sl .no 2 (r1.1.1.map Reading_.cells)), (8, .sl (.id (g + 3 + 7 + 2 + 1)) 1 (v7.map cI)), (20, .v (.int .i64 (a0.Times.length : Int))), (21, .v (.int .i64 v8))]) _ _
      replace hS : St (fun i => i < g ∧ i ∉ ids (Lo st)) H0 ([(g + 3 + 7 + 2 + 1, .row 3 v7.length)] ++ Lo v9) H g3 := hS
      replace hM : pulses_pulses_l1_b n a0 aF r1 (pulses_pulses_l1 n a0 aF r1 m3) v7 v8 v9 = some r := hM
      refine r_seq ?_
      refine r_region (n := 1) rfl ?_
      refine o_int (v := .v (.bool (decide (v8 < (a0.Times.length : Int))))) (by decide) rfl rfl rfl ?_
      refine run_nil ?_
      refine w_next [(1, f0), (6, .sl .no 2 (r1.1.1.map Reading_.cells)), (8, .sl (.id (g + 3 + 7 + 2 + 1)) 1 (v7.map cI)), (20, .v (.int .i64 (a0.Times.length : Int))), (21, .v (.int .i64 v8)), (22, .v (.bool (decide (v8 < (a0.Times.length : Int)))))] (.cons (.refl _) (.cons (.refl _) (.cons (.refl _) (.cons (.refl _) (.cons (.refl _) (.cons (.refl _) .nil)))))) ?_
      refine r_seq ?_
      rcases Bool.eq_false_or_eq_true (decide (v8 < (a0.Times.length : Int))) with hb10 | hb10
      · replace hM := ifT hM hb10
        refine w_condT (e := (decide (v8 < (a0.Times.length : Int)))) rfl hb10 ?_
        refine r_skip ?_
        refine w_next [(1, f0), (6, .sl .no 2 (r1.1.1.map Reading_.cells)), (8, .sl (.id (g + 3 + 7 + 2 + 1)) 1 (v7.map cI)), (20, .v (.int .i64 (a0.Times.length : Int))), (21, .v (.int .i64 v8))] (.cons (.refl _) (.cons (.refl _) (.cons (.refl _) (.cons (.refl _) (.cons (.refl _) .nil))))) ?_
        refine w_join (J := (List Int) × S) (fun j => [(1, f0), (6, .sl .no 2 (r1.1.1.map Reading_.cells)), (8, .sl (.id (g + 3 + 7 + 2 + 1)) 1 (j.1.map cI)), (20, .v (.int .i64 (a0.Times.length : Int))), (21, .v (.int .i64 v8))]) (fun j H' g' => St (fun i => i < g ∧ i ∉ ids (Lo st)) H0 ([(g + 3 + 7 + 2 + 1, .row 3 j.1.length)] ++ Lo j.2) H' g' ∧ pulses_pulses_j2 (pulses_pulses_l1 n a0 aF r1 m3) v8 j.1 j.2 = some r) ?_ ?_
        · rintro ⟨v11, v12⟩ H g4 ⟨hS, hM⟩
          change wpA _ _ _ _ (Fr.of [(1, f0), (6, .sl .no 2 (r1.1.1.map Reading_.cells)), (8, .sl (.id (g + 3 + 7 + 2 + 1)) 1 (v11.map cI)), (20, .v (.int .i64 (a0.Times.length : Int))), (21, .v (.int .i64 v8))]) _ _
          replace hS : St (fun i => i < g ∧ i ∉ ids (Lo st)) H0 ([(g + 3 + 7 + 2 + 1, .row 3 v11.length)] ++ Lo v12) H g4 := hS
          replace hM : pulses_pulses_j2 (pulses_pulses_l1 n a0 aF r1 m3) v8 v11 v12 = some r := hM
          refine r_region (n := 2) rfl ?_
          refine o_int (v := .v (.int .i64 (w64 (v8 + 1)))) (by decide) rfl rfl rfl ?_
          refine o_move (v := .v (.int .i64 (w64 (v8 + 1)))) (by decide) rfl ?_
          refine run_nil ?_
          exact w_round (v11, w64 (v8 + 1), v12) (Nat.lt_succ_self _) (.cons (.refl _) (.cons (.refl _) (.cons (.refl _) (.cons (.refl _) (.cons (.refl _) .nil))))) ⟨(hS.keep [true] rfl).up (by omega), hM⟩
        · refine r_block ?_
          refine r_seq ?_
          refine r_region (n := 3) rfl ?_
          refine o_move (v := .v (.int .i64 v8)) (by decide) rfl ?_
          refine o_alloc hS (by decide) ty_zero3 (by omega) fun H hS => ?_
          refine o_store (v := .v (.int .i64 v8)) (ns := [.v (.int .i64 v8)]) (L' := ([(g3 + 1 + 1, .cells [.v (.int .i64 v8)]), (g + 3 + 7 + 2 + 1, .row 3 v7.length)] ++ Lo v9)) 0 hS rfl rfl .no rfl rfl ty_var3 (Nat.le_of_ble_eq_true rfl) rfl fun H hS => ?_
          refine run_nil ?_
          refine w_next [(1, f0), (6, .sl .no 2 (r1.1.1.map Reading_.cells)), (8, .sl (.id (g + 3 + 7 + 2 + 1)) 1 (v7.map cI)), (9, .ptr (g3 + 1 + 1) 0), (20, .v (.int .i64 (a0.Times.length : Int))), (21, .v (.int .i64 v8))] (.cons (.refl _) (.cons (.refl _) (.cons (.refl _) (.cons (.refl _) (.cons (.refl _) (.cons (.refl _) .nil)))))) ?_
          refine r_seq ?_
          refine r_region (n := 7) rfl ?_
          refine o_move (v := f0) (by decide) rfl ?_
          refine o_move (v := .sl .no 2 (r1.1.1.map Reading_.cells)) (by decide) rfl ?_
          refine o_makeFunc (first := []) (cap := [.ptr (g3 + 1 + 1) 0]) (by decide) rfl rfl ?_
          obtain ⟨r13, hr13, hM⟩ := bindE hM
          have hndr13 := hS.nd_at (ns := [0]) (M := [(g3 + 1 + 1, .cells [.v (.int .i64 v8)])]) (M' := [(g3 + 1 + 1, .cells [.v (.int .i64 v8)])]) (.cons rfl .nil) (by decide)
          have hncr13 := hS.nd_at (ns := [0]) (M := [(g3 + 1 + 1, .cells [.v (.int .i64 v8)])]) (M' := [(g3 + 1 + 1, .cells [.v (.int .i64 v8)])]) (.cons rfl .nil) (by decide)
          refine o_hsat (bs := [.sl .no 2 (r1.1.1.map Reading_.cells), .fn (.func 94) [] [.ptr (g3 + 1 + 1) 0]]) (M := [(g3 + 1 + 1, .cells [.v (.int .i64 v8)])]) (M' := [(g3 + 1 + 1, .cells [.v (.int .i64 v8)])]) (L' := ([(g3 + 1 + 1, .cells [.v (.int .i64 v8)]), (g + 3 + 7 + 2 + 1, .row 3 v7.length)] ++ Lo v9)) [0] (.inl rfl) hS (by decide) rfl rfl ((W_pulses_count_pulsesreading (Lo := (fun (_ : Unit) => [(g3 + 1 + 1, .cells [.v (.int .i64 v8)])]))  (fun _ _ => (kl_cells kl_nil)) (fun _ => hndr13) (fun s => (inb_st (ic_cells (ci_cons (.inl (.inl (.v _))) ci_nil) ic_nil) inb_nil)) (aF := (fun (x0 : Reading_) (_ : Unit) => (pulses_pulses_c1 x0 v8).map fun y => (y, ()))) (fun s H hH => .fn _ _ _ ai_nil (ai_cons (in_ptr hH 0 rfl) ai_nil)) rfl (fun h => csat_cap (W_pulses_pulses_c1 (p1 := g3 + 1 + 1)  hncr13 (pure_some h))) hr13).le (.cons (.refl _) (.cons (.refl _) .nil))) (.cons rfl .nil) rfl (by omega) fun H hS => ?_
          refine o_move (v := .sl .no 2 (r1.1.1.map Reading_.cells)) (by decide) rfl ?_
          refine o_len (n := r1.1.1.length) (by decide) rfl (List.length_map _) ty_isl72 ?_
          obtain ⟨r14, hr14, hM⟩ := bindE hM
          replace hS : St (fun i => i < g ∧ i ∉ ids (Lo st)) H0 ([(g3 + 1 + 1, .cells [.v (.int .i64 v8)]), (g + 3 + 7 + 2 + 1, .row 3 v7.length)] ++ Lo v9) _ _ := hS
          refine o_state (bs := [.v (.int .i64 r13.1), .v (.int .i64 (r1.1.1.length : Int))]) (.inl rfl) hS (by decide) rfl rfl ((hf hr14).le (.cons (.refl _) (.cons (.refl _) .nil))) (hk _ _).ids (by omega) fun H hS => ?_
          refine run_nil ?_
          refine w_next [(1, f0), (6, .sl .no 2 (r1.1.1.map Reading_.cells)), (8, .sl (.id (g + 3 + 7 + 2 + 1)) 1 (v7.map cI)), (9, .ptr (g3 + 1 + 1) 0), (20, .v (.int .i64 (a0.Times.length : Int))), (21, .v (.int .i64 v8)), (30, .v (.bool r14.1))] (.cons (.refl _) (.cons (.refl _) (.cons (.refl _) (.cons (.refl _) (.cons (.refl _) (.cons (.refl _) (.cons (.refl _) .nil))))))) ?_
          rcases Bool.eq_false_or_eq_true r14.1 with hb15 | hb15
          · replace hM := ifT hM hb15
            refine w_condT (e := r14.1) rfl hb15 ?_
            refine r_region (n := 5) rfl ?_
            refine o_move (v := .sl (.id (g + 3 + 7 + 2 + 1)) 1 (v7.map cI)) (by decide) rfl ?_
            refine o_load (v := .v (.int .i64 v8)) 0 hS (by decide) rfl rfl .no (part_one ty_agg3 ty_sc3 rfl) ?_
            refine o_buildSlice (es := [[.v (.int .i64 v8)]]) hS (by decide) ty_es22 ty_el22 rfl ty_ef22 rfl (by decide) (by omega) fun H hS => ?_
            obtain ⟨l16, hl16, hM⟩ := bindE hM
            refine o_append (xs := v7) (ys := ([v8] : List Int)) (zs := l16) (f := cI) (L' := ([(g3 + 1 + 3 + 7 + 2, .row 3 1), (g3 + 1 + 1, .cells [.v (.int .i64 v8)]), (g + 3 + 7 + 2 + 1, .row 3 l16.length)] ++ Lo r14.2)) 2 hS (by decide) rfl rfl rfl rfl .no ty_es22 ty_el22 ty_ef22 hl16 rfl fun H hS => ?_
            refine o_assign (v := .sl (.id (g + 3 + 7 + 2 + 1)) 1 (l16.map cI)) (by decide) rfl ?_
            refine run_nil ?_
            refine r_blk_normal ?_
            exact w_goto (l16, r14.2) (.cons (.refl _) (.cons (.refl _) (.cons (.refl _) (.cons (.refl _) (.cons (.refl _) .nil))))) ⟨(hS.keep [false, false, true] rfl).up (by omega), hM⟩
          · replace hM := ifF hM hb15
            refine w_condF (e := r14.1) rfl hb15 ?_
            refine r_skip ?_
            refine r_blk_normal ?_
            exact w_goto (v7, r14.2) (.cons (.refl _) (.cons (.refl _) (.cons (.refl _) (.cons (.refl _) (.cons (.refl _) .nil))))) ⟨(hS.keep [false, true] rfl).up (by omega), hM⟩
      · replace hM := ifF hM hb10
        refine w_condF (e := (decide (v8 < (a0.Times.length : Int)))) rfl hb10 ?_
        refine r_exit ?_
        refine r_then_exit ?_
        refine w_round_exit ?_
        refine r_blk_exit ?_
        exact w_goto (v7, v9) (.cons (.refl _) .nil) ⟨(hS.keep [true] rfl).up (by omega), hM⟩
theorem W_pulses_Real_c1 {a0 : Int} {a1 : Int} {r : Bool} (hM : pulses_Real_c1 a0 a1 = some r) : PureSat Try.prog 67 [.v (.int .i64 a0), .v (.int .i64 a1)] (.v (.bool r)) := by
  refine pure_of_wp mixed Try.func67 rfl (by decide) Try.ntmps67 (by simp) ?pure fun H0 g hf => ?_
  case pure => exact .v _
  rw [frame0_of]
  change wpA _ _ _ _ (Fr.of [(0, .v (.int .i64 a0)), (1, .v (.int .i64 a1))]) H0 g
  have hS := St.start hf
  refine r_seq ?_
  refine r_region (n := 1) rfl ?_
  refine o_assign (v := .v (.bool false)) (by decide) rfl ?_
  refine run_nil ?_
  refine w_next [(0, .v (.int .i64 a0))] (.cons (.refl _) .nil) ?_
  refine r_seq ?_
  refine r_region (n := 3) rfl ?_
  refine o_move (v := .v (.int .i64 a0)) (by decide) rfl ?_
  refine o_int (v := .v (.bool (a0 == 0))) (by decide) rfl rfl rfl ?_
  refine o_assign (v := .v (.bool (a0 == 0))) (by decide) rfl ?_
  refine run_nil ?_
  refine w_next [(4, .v (.bool (a0 == 0)))] (.cons (.refl _) .nil) ?_
  refine r_ret ?_
  refine w_end (x := .v (.bool (a0 == 0))) (f := fun r => .v (.bool r)) (.inr rfl) ?_ (.refl _) (Option.some.inj hM) hS
  exact (res_one (res_tmp (x := .v (.bool (a0 == 0))) rfl))
theorem W_pulses_Real {n : Nat} {a0 : Pulse} {r : (List Int) × Int} (hM : pulses_Real n a0 = some r) : PureSat Try.prog 36 [.agg [.v (.int .i64 a0.Letters), .v (.int .i64 a0.Numbers), .v (.int .i64 a0.Pitch), .v (.int .i64 a0.Slack), .v (.int .i64 a0.Gap), .v (.int .i64 a0.Pause), .v (.int .i64 a0.Sparks), .sl .no 1 (a0.Times.map cI)]] (.tup [.sl .no 1 (r.1.map cI), .v (.int .i64 r.2)]) := by
  refine pure_of_wp mixed Try.func36 rfl (by decide) Try.ntmps36 (by simp) ?pure fun H0 g hf => ?_
  case pure => exact .tup _ (pl_cons (.sl _ _ (pures_map (fun x => (pl_cons (.v _) pl_nil)))) (pl_cons (.v _) pl_nil))
  rw [frame0_of]
  change wpA _ _ _ _ (Fr.of [(0, .agg [.v (.int .i64 a0.Letters), .v (.int .i64 a0.Numbers), .v (.int .i64 a0.Pitch), .v (.int .i64 a0.Slack), .v (.int .i64 a0.Gap), .v (.int .i64 a0.Pause), .v (.int .i64 a0.Sparks), .sl .no 1 (a0.Times.map cI)])]) H0 g
  have hS := St.start hf
  refine r_seq ?_
  refine r_region (n := 3) rfl ?_
  refine o_box (v := .agg [.v (.int .i64 a0.Letters), .v (.int .i64 a0.Numbers), .v (.int .i64 a0.Pitch), .v (.int .i64 a0.Slack), .v (.int .i64 a0.Gap), .v (.int .i64 a0.Pause), .v (.int .i64 a0.Sparks), .sl .no 1 (a0.Times.map cI)]) (cs := [.v (.int .i64 a0.Letters), .v (.int .i64 a0.Numbers), .v (.int .i64 a0.Pitch), .v (.int .i64 a0.Slack), .v (.int .i64 a0.Gap), .v (.int .i64 a0.Pause), .v (.int .i64 a0.Sparks), .sl .no 1 (a0.Times.map cI)]) hS (by decide) rfl rfl (by omega) fun H hS => ?_
  refine o_assign (v := .sl .nil 0 []) (by decide) rfl ?_
  refine o_assign (v := .v (.int .i64 0)) (by decide) rfl ?_
  refine run_nil ?_
  refine w_next [(1, .ptr (g + 0) 0)] (.cons (.refl _) .nil) ?_
  refine r_seq ?_
  refine r_region (n := 6) rfl ?_
  refine o_load (v := .agg [.v (.int .i64 a0.Letters), .v (.int .i64 a0.Numbers), .v (.int .i64 a0.Pitch), .v (.int .i64 a0.Slack), .v (.int .i64 a0.Gap), .v (.int .i64 a0.Pause), .v (.int .i64 a0.Sparks), .sl .no 1 (a0.Times.map cI)]) 0 hS (by decide) rfl rfl .no (part_agg ty_agg24 (Nat.le_of_ble_eq_true rfl) rfl) ?_
  obtain ⟨r1, hr1, hM⟩ := bindE hM
  refine o_call (bs := [.agg [.v (.int .i64 a0.Letters), .v (.int .i64 a0.Numbers), .v (.int .i64 a0.Pitch), .v (.int .i64 a0.Slack), .v (.int .i64 a0.Gap), .v (.int .i64 a0.Pause), .v (.int .i64 a0.Sparks), .sl .no 1 (a0.Times.map cI)], .fn (.func 67) [] []]) (by decide) rfl rfl (pure_of_hsat ((W_pulses_pulses (Lo := (fun (_ : Unit) => []))  (fun _ _ => kl_nil) (fun _ => List.nodup_nil) (fun _ => inb_nil) (aF := (fun (x0 : Int) (x1 : Int) (_ : Unit) => (pulses_Real_c1 x0 x1).map fun y => (y, ()))) (fun _ _ _ => .fn _ _ _ ai_nil ai_nil) rfl (fun h => csat_pure (W_pulses_Real_c1 (pure_some h))) hr1).le (.cons (.refl _) (.cons (.refl _) .nil)))) ?_
  refine o_extract (v := .sl .no 1 (r1.1.1.map cI)) (by decide) rfl rfl ?_
  refine o_extract (v := .v (.int .i64 r1.1.2)) (by decide) rfl rfl ?_
  refine o_assign (v := .sl .no 1 (r1.1.1.map cI)) (by decide) rfl ?_
  refine o_assign (v := .v (.int .i64 r1.1.2)) (by decide) rfl ?_
  refine run_nil ?_
  replace hS := hS.keep (L' := []) [false] rfl
  refine w_next [(2, .sl .no 1 (r1.1.1.map cI)), (3, .v (.int .i64 r1.1.2))] (.cons (.refl _) (.cons (.refl _) .nil)) ?_
  refine r_ret ?_
  refine w_end (x := .tup [.sl .no 1 (r1.1.1.map cI), .v (.int .i64 r1.1.2)]) (f := fun r => .tup [.sl .no 1 (r.1.map cI), .v (.int .i64 r.2)]) (.inr rfl) ?_ (.refl _) (Option.some.inj hM) hS
  exact (res_two (res_tmp (x := .sl .no 1 (r1.1.1.map cI)) rfl) (res_tmp (x := .v (.int .i64 r1.1.2)) rfl))
theorem W_ref13_Count {n : Nat} {a0 : List Int} {a1 : Int} {r : Int} (hM : ref13_Count n a0 a1 = some r) : PureSat Try.prog 47 [.sl .no 1 (a0.map cI), .v (.int .i64 a1)] (.v (.int .i64 r)) := by
  refine pure_of_wp mixed Try.func47 rfl (by decide) Try.ntmps47 (by simp) ?pure fun H0 g hf => ?_
  case pure => exact .v _
  rw [frame0_of]
  change wpA _ _ _ _ (Fr.of [(0, .sl .no 1 (a0.map cI)), (1, .v (.int .i64 a1))]) H0 g
  have hS := St.start hf
  refine r_seq ?_
  refine r_region (n := 1) rfl ?_
  refine o_assign (v := .v (.int .i64 0)) (by decide) rfl ?_
  refine run_nil ?_
  refine w_next [(0, .sl .no 1 (a0.map cI)), (1, .v (.int .i64 a1))] (.cons (.refl _) (.cons (.refl _) .nil)) ?_
  refine r_seq ?_
  refine r_region (n := 1) rfl ?_
  refine o_assign (v := .v (.int .i64 0)) (by decide) rfl ?_
  refine run_nil ?_
  refine w_next [(0, .sl .no 1 (a0.map cI)), (1, .v (.int .i64 a1)), (5, .v (.int .i64 0))] (.cons (.refl _) (.cons (.refl _) (.cons (.refl _) .nil))) ?_
  refine w_join (J := Int) (fun j => [(5, .v (.int .i64 j))]) (fun j H' g' => St (· < g) H0 [] H' g' ∧ ref13_Count_j1 j = some r) ?_ ?_
  · rintro v1 H g1 ⟨hS, hM⟩
    change wpA _ _ _ _ (Fr.of [(5, .v (.int .i64 v1))]) _ _
    replace hS : St (· < g) H0 [] H g1 := hS
    replace hM : ref13_Count_j1 v1 = some r := hM
    refine r_seq ?_
    refine r_region (n := 2) rfl ?_
    refine o_move (v := .v (.int .i64 v1)) (by decide) rfl ?_
    refine o_assign (v := .v (.int .i64 v1)) (by decide) rfl ?_
    refine run_nil ?_
    refine w_next [(4, .v (.int .i64 v1))] (.cons (.refl _) .nil) ?_
    refine r_ret ?_
    refine w_end (x := .v (.int .i64 v1)) (f := fun r => .v (.int .i64 r)) (.inr rfl) ?_ (.refl _) (Option.some.inj hM) hS
    exact (res_one (res_tmp (x := .v (.int .i64 v1)) rfl))
  · refine r_seq ?_
    refine r_region (n := 1) rfl ?_
    refine o_assign (v := .v (.int .i64 0)) (by decide) rfl ?_
    refine run_nil ?_
    refine w_next [(0, .sl .no 1 (a0.map cI)), (1, .v (.int .i64 a1)), (5, .v (.int .i64 0)), (6, .v (.int .i64 0))] (.cons (.refl _) (.cons (.refl _) (.cons (.refl _) (.cons (.refl _) .nil)))) ?_
    refine r_block ?_
    refine w_loop (V := Int × Int) (fun v => [(0, .sl .no 1 (a0.map cI)), (1, .v (.int .i64 a1)), (5, .v (.int .i64 v.1)), (6, .v (.int .i64 v.2))]) (fun v m2 H' g' => St (· < g) H0 [] H' g' ∧ ref13_Count_l1 a0 a1 m2 v.1 v.2 = some r) (n := n) (0, 0) (.cons (.refl _) (.cons (.refl _) (.cons (.refl _) (.cons (.refl _) .nil)))) ⟨(hS.keep [] rfl).up (by omega), hM⟩ ?_
    rintro ⟨v2, v3⟩ m2 H g2 ⟨hS, hM⟩
    obtain _ | m2 := m2
    · exact nomatch (show none = some _ from hM)
    change wpA _ _ _ _ (Fr.of [(0, .sl .no 1 (a0.map cI)), (1, .v (.int .i64 a1)), (5, .v (.int .i64 v2)), (6, .v (.int .i64 v3))]) _ _
    replace hS : St (· < g) H0 [] H g2 := hS
    replace hM : ref13_Count_l1_b a0 a1 (ref13_Count_l1 a0 a1 m2) v2 v3 = some r := hM
    refine r_seq ?_
    refine r_seq ?_
    refine r_region (n := 4) rfl ?_
    refine o_move (v := .v (.int .i64 v3)) (by decide) rfl ?_
    refine o_move (v := .sl .no 1 (a0.map cI)) (by decide) rfl ?_
    refine o_len (n := a0.length) (by decide) rfl (List.length_map _) ty_isl22 ?_
    refine o_int (v := .v (.bool (decide (v3 < (a0.length : Int))))) (by decide) rfl rfl rfl ?_
    refine run_nil ?_
    refine w_next [(0, .sl .no 1 (a0.map cI)), (1, .v (.int .i64 a1)), (5, .v (.int .i64 v2)), (6, .v (.int .i64 v3)), (10, .v (.bool (decide (v3 < (a0.length : Int)))))] (.cons (.refl _) (.cons (.refl _) (.cons (.refl _) (.cons (.refl _) (.cons (.refl _) .nil))))) ?_
    rcases Bool.eq_false_or_eq_true (decide (v3 < (a0.length : Int))) with hb4 | hb4
    · replace hM := ifT hM hb4
      refine w_condT (e := (decide (v3 < (a0.length : Int)))) rfl hb4 ?_
      refine r_skip ?_
      refine w_next [(0, .sl .no 1 (a0.map cI)), (1, .v (.int .i64 a1)), (5, .v (.int .i64 v2)), (6, .v (.int .i64 v3))] (.cons (.refl _) (.cons (.refl _) (.cons (.refl _) (.cons (.refl _) .nil)))) ?_
      refine w_join (J := Int) (fun j => [(0, .sl .no 1 (a0.map cI)), (1, .v (.int .i64 a1)), (5, .v (.int .i64 j)), (6, .v (.int .i64 v3))]) (fun j H' g' => St (· < g) H0 [] H' g' ∧ ref13_Count_j2 (ref13_Count_l1 a0 a1 m2) v3 j = some r) ?_ ?_
      · rintro v5 H g3 ⟨hS, hM⟩
        change wpA _ _ _ _ (Fr.of [(0, .sl .no 1 (a0.map cI)), (1, .v (.int .i64 a1)), (5, .v (.int .i64 v5)), (6, .v (.int .i64 v3))]) _ _
        replace hS : St (· < g) H0 [] H g3 := hS
        replace hM : ref13_Count_j2 (ref13_Count_l1 a0 a1 m2) v3 v5 = some r := hM
        refine r_region (n := 3) rfl ?_
        refine o_move (v := .v (.int .i64 v3)) (by decide) rfl ?_
        refine o_int (v := .v (.int .i64 (w64 (v3 + 1)))) (by decide) rfl rfl rfl ?_
        refine o_assign (v := .v (.int .i64 (w64 (v3 + 1)))) (by decide) rfl ?_
        refine run_nil ?_
        exact w_round (v5, w64 (v3 + 1)) (Nat.lt_succ_self _) (.cons (.refl _) (.cons (.refl _) (.cons (.refl _) (.cons (.refl _) .nil)))) ⟨(hS.keep [] rfl).up (by omega), hM⟩
      · refine r_block ?_
        refine r_seq ?_
        refine r_region (n := 6) rfl ?_
        refine o_move (v := .sl .no 1 (a0.map cI)) (by decide) rfl ?_
        refine o_move (v := .v (.int .i64 v3)) (by decide) rfl ?_
        obtain ⟨x6, hx6, hM⟩ := bindE hM
        refine o_index (xs := a0) (f := cI) (z := v3) (u := x6) (by decide) rfl rfl ty_es22 hx6 ?_
        refine o_loadE (v := .v (.int .i64 x6)) (by decide) rfl (part_one ty_agg3 ty_sc3 rfl) ?_
        refine o_move (v := .v (.int .i64 a1)) (by decide) rfl ?_
        refine o_int (v := .v (.bool (x6 == a1))) (by decide) rfl rfl rfl ?_
        refine run_nil ?_
        refine w_next [(0, .sl .no 1 (a0.map cI)), (1, .v (.int .i64 a1)), (5, .v (.int .i64 v2)), (6, .v (.int .i64 v3)), (18, .v (.bool (x6 == a1)))] (.cons (.refl _) (.cons (.refl _) (.cons (.refl _) (.cons (.refl _) (.cons (.refl _) .nil))))) ?_
        rcases Bool.eq_false_or_eq_true (x6 == a1) with hb7 | hb7
        · replace hM := ifT hM hb7
          refine w_condT (e := (x6 == a1)) rfl hb7 ?_
          refine r_region (n := 3) rfl ?_
          refine o_move (v := .v (.int .i64 v2)) (by decide) rfl ?_
          refine o_int (v := .v (.int .i64 (w64 (v2 + 1)))) (by decide) rfl rfl rfl ?_
          refine o_assign (v := .v (.int .i64 (w64 (v2 + 1)))) (by decide) rfl ?_
          refine run_nil ?_
          refine r_blk_normal ?_
          exact w_goto (w64 (v2 + 1)) (.cons (.refl _) (.cons (.refl _) (.cons (.refl _) (.cons (.refl _) .nil)))) ⟨(hS.keep [] rfl).up (by omega), hM⟩
        · replace hM := ifF hM hb7
          refine w_condF (e := (x6 == a1)) rfl hb7 ?_
          refine r_skip ?_
          refine r_blk_normal ?_
          exact w_goto v2 (.cons (.refl _) (.cons (.refl _) (.cons (.refl _) (.cons (.refl _) .nil)))) ⟨(hS.keep [] rfl).up (by omega), hM⟩
    · replace hM := ifF hM hb4
      refine w_condF (e := (decide (v3 < (a0.length : Int)))) rfl hb4 ?_
      refine r_exit ?_
      refine r_then_exit ?_
      refine w_round_exit ?_
      refine r_blk_exit ?_
      exact w_goto v2 (.cons (.refl _) .nil) ⟨(hS.keep [] rfl).up (by omega), hM⟩
theorem W_pulses_Sparks_c1 {a0 : Int} {a1 : Int} {r : Bool} (hM : pulses_Sparks_c1 a0 a1 = some r) : PureSat Try.prog 73 [.v (.int .i64 a0), .v (.int .i64 a1)] (.v (.bool r)) := by
  refine pure_of_wp mixed Try.func73 rfl (by decide) Try.ntmps73 (by simp) ?pure fun H0 g hf => ?_
  case pure => exact .v _
  rw [frame0_of]
  change wpA _ _ _ _ (Fr.of [(0, .v (.int .i64 a0)), (1, .v (.int .i64 a1))]) H0 g
  have hS := St.start hf
  refine r_seq ?_
  refine r_region (n := 1) rfl ?_
  refine o_assign (v := .v (.bool false)) (by decide) rfl ?_
  refine run_nil ?_
  refine w_next [(0, .v (.int .i64 a0)), (1, .v (.int .i64 a1))] (.cons (.refl _) (.cons (.refl _) .nil)) ?_
  refine r_seq ?_
  refine r_region (n := 4) rfl ?_
  refine o_move (v := .v (.int .i64 a0)) (by decide) rfl ?_
  refine o_move (v := .v (.int .i64 a1)) (by decide) rfl ?_
  refine o_int (v := .v (.bool (a0 == a1))) (by decide) rfl rfl rfl ?_
  refine o_assign (v := .v (.bool (a0 == a1))) (by decide) rfl ?_
  refine run_nil ?_
  refine w_next [(4, .v (.bool (a0 == a1)))] (.cons (.refl _) .nil) ?_
  refine r_ret ?_
  refine w_end (x := .v (.bool (a0 == a1))) (f := fun r => .v (.bool r)) (.inr rfl) ?_ (.refl _) (Option.some.inj hM) hS
  exact (res_one (res_tmp (x := .v (.bool (a0 == a1))) rfl))
theorem W_pulses_Sparks {n : Nat} {a0 : Pulse} {r : (List Int) × Int} (hM : pulses_Sparks n a0 = some r) : PureSat Try.prog 40 [.agg [.v (.int .i64 a0.Letters), .v (.int .i64 a0.Numbers), .v (.int .i64 a0.Pitch), .v (.int .i64 a0.Slack), .v (.int .i64 a0.Gap), .v (.int .i64 a0.Pause), .v (.int .i64 a0.Sparks), .sl .no 1 (a0.Times.map cI)]] (.tup [.sl .no 1 (r.1.map cI), .v (.int .i64 r.2)]) := by
  refine pure_of_wp mixed Try.func40 rfl (by decide) Try.ntmps40 (by simp) ?pure fun H0 g hf => ?_
  case pure => exact .tup _ (pl_cons (.sl _ _ (pures_map (fun x => (pl_cons (.v _) pl_nil)))) (pl_cons (.v _) pl_nil))
  rw [frame0_of]
  change wpA _ _ _ _ (Fr.of [(0, .agg [.v (.int .i64 a0.Letters), .v (.int .i64 a0.Numbers), .v (.int .i64 a0.Pitch), .v (.int .i64 a0.Slack), .v (.int .i64 a0.Gap), .v (.int .i64 a0.Pause), .v (.int .i64 a0.Sparks), .sl .no 1 (a0.Times.map cI)])]) H0 g
  have hS := St.start hf
  refine r_seq ?_
  refine r_region (n := 3) rfl ?_
  refine o_box (v := .agg [.v (.int .i64 a0.Letters), .v (.int .i64 a0.Numbers), .v (.int .i64 a0.Pitch), .v (.int .i64 a0.Slack), .v (.int .i64 a0.Gap), .v (.int .i64 a0.Pause), .v (.int .i64 a0.Sparks), .sl .no 1 (a0.Times.map cI)]) (cs := [.v (.int .i64 a0.Letters), .v (.int .i64 a0.Numbers), .v (.int .i64 a0.Pitch), .v (.int .i64 a0.Slack), .v (.int .i64 a0.Gap), .v (.int .i64 a0.Pause), .v (.int .i64 a0.Sparks), .sl .no 1 (a0.Times.map cI)]) hS (by decide) rfl rfl (by omega) fun H hS => ?_
  refine o_assign (v := .sl .nil 0 []) (by decide) rfl ?_
  refine o_assign (v := .v (.int .i64 0)) (by decide) rfl ?_
  refine run_nil ?_
  refine w_next [(1, .ptr (g + 0) 0)] (.cons (.refl _) .nil) ?_
  refine r_seq ?_
  refine r_region (n := 6) rfl ?_
  refine o_load (v := .agg [.v (.int .i64 a0.Letters), .v (.int .i64 a0.Numbers), .v (.int .i64 a0.Pitch), .v (.int .i64 a0.Slack), .v (.int .i64 a0.Gap), .v (.int .i64 a0.Pause), .v (.int .i64 a0.Sparks), .sl .no 1 (a0.Times.map cI)]) 0 hS (by decide) rfl rfl .no (part_agg ty_agg24 (Nat.le_of_ble_eq_true rfl) rfl) ?_
  obtain ⟨r1, hr1, hM⟩ := bindE hM
  refine o_call (bs := [.agg [.v (.int .i64 a0.Letters), .v (.int .i64 a0.Numbers), .v (.int .i64 a0.Pitch), .v (.int .i64 a0.Slack), .v (.int .i64 a0.Gap), .v (.int .i64 a0.Pause), .v (.int .i64 a0.Sparks), .sl .no 1 (a0.Times.map cI)], .fn (.func 73) [] []]) (by decide) rfl rfl (pure_of_hsat ((W_pulses_pulses (Lo := (fun (_ : Unit) => []))  (fun _ _ => kl_nil) (fun _ => List.nodup_nil) (fun _ => inb_nil) (aF := (fun (x0 : Int) (x1 : Int) (_ : Unit) => (pulses_Sparks_c1 x0 x1).map fun y => (y, ()))) (fun _ _ _ => .fn _ _ _ ai_nil ai_nil) rfl (fun h => csat_pure (W_pulses_Sparks_c1 (pure_some h))) hr1).le (.cons (.refl _) (.cons (.refl _) .nil)))) ?_
  refine o_extract (v := .sl .no 1 (r1.1.1.map cI)) (by decide) rfl rfl ?_
  refine o_extract (v := .v (.int .i64 r1.1.2)) (by decide) rfl rfl ?_
  refine o_assign (v := .sl .no 1 (r1.1.1.map cI)) (by decide) rfl ?_
  refine o_assign (v := .v (.int .i64 r1.1.2)) (by decide) rfl ?_
  refine run_nil ?_
  replace hS := hS.keep (L' := []) [false] rfl
  refine w_next [(2, .sl .no 1 (r1.1.1.map cI)), (3, .v (.int .i64 r1.1.2))] (.cons (.refl _) (.cons (.refl _) .nil)) ?_
  refine r_ret ?_
  refine w_end (x := .tup [.sl .no 1 (r1.1.1.map cI), .v (.int .i64 r1.1.2)]) (f := fun r => .tup [.sl .no 1 (r.1.map cI), .v (.int .i64 r.2)]) (.inr rfl) ?_ (.refl _) (Option.some.inj hM) hS
  exact (res_two (res_tmp (x := .sl .no 1 (r1.1.1.map cI)) rfl) (res_tmp (x := .v (.int .i64 r1.1.2)) rfl))
theorem W_law13_isIn {n : Nat} {a0 : List Int} {a1 : List Int} {r : Bool} (hM : law13_isIn n a0 a1 = some r) : PureSat Try.prog 43 [.sl .no 1 (a0.map cI), .sl .no 1 (a1.map cI)] (.v (.bool r)) := by
  refine pure_of_wp mixed Try.func43 rfl (by decide) Try.ntmps43 (by simp) ?pure fun H0 g hf => ?_
  case pure => exact .v _
  rw [frame0_of]
  change wpA _ _ _ _ (Fr.of [(0, .sl .no 1 (a0.map cI)), (1, .sl .no 1 (a1.map cI))]) H0 g
  have hS := St.start hf
  refine r_seq ?_
  refine r_region (n := 1) rfl ?_
  refine o_assign (v := .v (.bool false)) (by decide) rfl ?_
  refine run_nil ?_
  refine w_next [(0, .sl .no 1 (a0.map cI)), (1, .sl .no 1 (a1.map cI))] (.cons (.refl _) (.cons (.refl _) .nil)) ?_
  refine r_seq ?_
  refine w_join (J := Bool) (fun j => [(0, .sl .no 1 (a0.map cI)), (1, .sl .no 1 (a1.map cI)), (13, .v (.bool j))]) (fun j H' g' => St (· < g) H0 [] H' g' ∧ law13_isIn_j1 n a0 a1 j = some r) ?_ ?_
  · rintro v1 H g1 ⟨hS, hM⟩
    change wpA _ _ _ _ (Fr.of [(0, .sl .no 1 (a0.map cI)), (1, .sl .no 1 (a1.map cI)), (13, .v (.bool v1))]) _ _
    replace hS : St (· < g) H0 [] H g1 := hS
    replace hM : law13_isIn_j1 n a0 a1 v1 = some r := hM
    rcases Bool.eq_false_or_eq_true v1 with hb2 | hb2
    · replace hM := ifT hM hb2
      refine w_condT (e := v1) rfl hb2 ?_
      refine r_seq ?_
      refine r_region (n := 1) rfl ?_
      refine o_assign (v := .v (.bool false)) (by decide) rfl ?_
      refine run_nil ?_
      refine w_next [(4, .v (.bool false))] (.cons (.refl _) .nil) ?_
      refine r_ret ?_
      refine r_then_ret ?_
      refine w_end (x := .v (.bool false)) (f := fun r => .v (.bool r)) (.inr rfl) ?_ (.refl _) (Option.some.inj hM) hS
      exact (res_one (res_tmp (x := .v (.bool false)) rfl))
    · replace hM := ifF hM hb2
      refine w_condF (e := v1) rfl hb2 ?_
      refine r_skip ?_
      refine w_next [(0, .sl .no 1 (a0.map cI)), (1, .sl .no 1 (a1.map cI))] (.cons (.refl _) (.cons (.refl _) .nil)) ?_
      refine w_join (J := Unit) (fun j => []) (fun j H' g' => St (· < g) H0 [] H' g' ∧ law13_isIn_j2 = some r) ?_ ?_
      · rintro _ H g2 ⟨hS, hM⟩
        change wpA _ _ _ _ (Fr.of []) _ _
        replace hS : St (· < g) H0 [] H g2 := hS
        replace hM : law13_isIn_j2 = some r := hM
        refine r_seq ?_
        refine r_region (n := 1) rfl ?_
        refine o_assign (v := .v (.bool true)) (by decide) rfl ?_
        refine run_nil ?_
        refine w_next [(4, .v (.bool true))] (.cons (.refl _) .nil) ?_
        refine r_ret ?_
        refine w_end (x := .v (.bool true)) (f := fun r => .v (.bool r)) (.inr rfl) ?_ (.refl _) (Option.some.inj hM) hS
        exact (res_one (res_tmp (x := .v (.bool true)) rfl))
      · refine r_seq ?_
        refine r_region (n := 1) rfl ?_
        refine o_assign (v := .v (.int .i64 0)) (by decide) rfl ?_
        refine run_nil ?_
        refine w_next [(0, .sl .no 1 (a0.map cI)), (1, .sl .no 1 (a1.map cI)), (5, .v (.int .i64 0))] (.cons (.refl _) (.cons (.refl _) (.cons (.refl _) .nil))) ?_
        refine r_block ?_
        refine w_loop (V := Int) (fun v => [(0, .sl .no 1 (a0.map cI)), (1, .sl .no 1 (a1.map cI)), (5, .v (.int .i64 v))]) (fun v m3 H' g' => St (· < g) H0 [] H' g' ∧ law13_isIn_l1 n a0 a1 m3 v = some r) (n := n) 0 (.cons (.refl _) (.cons (.refl _) (.cons (.refl _) .nil))) ⟨(hS.keep [] rfl).up (by omega), hM⟩ ?_
        rintro v3 m3 H g3 ⟨hS, hM⟩
        obtain _ | m3 := m3
        · exact nomatch (show none = some _ from hM)
        change wpA _ _ _ _ (Fr.of [(0, .sl .no 1 (a0.map cI)), (1, .sl .no 1 (a1.map cI)), (5, .v (.int .i64 v3))]) _ _
        replace hS : St (· < g) H0 [] H g3 := hS
        replace hM : law13_isIn_l1_b n a0 a1 (law13_isIn_l1 n a0 a1 m3) v3 = some r := hM
        refine r_seq ?_
        refine r_seq ?_
        refine r_region (n := 4) rfl ?_
        refine o_move (v := .v (.int .i64 v3)) (by decide) rfl ?_
        refine o_move (v := .sl .no 1 (a0.map cI)) (by decide) rfl ?_
        refine o_len (n := a0.length) (by decide) rfl (List.length_map _) ty_isl22 ?_
        refine o_int (v := .v (.bool (decide (v3 < (a0.length : Int))))) (by decide) rfl rfl rfl ?_
        refine run_nil ?_
        refine w_next [(0, .sl .no 1 (a0.map cI)), (1, .sl .no 1 (a1.map cI)), (5, .v (.int .i64 v3)), (17, .v (.bool (decide (v3 < (a0.length : Int)))))] (.cons (.refl _) (.cons (.refl _) (.cons (.refl _) (.cons (.refl _) .nil)))) ?_
        rcases Bool.eq_false_or_eq_true (decide (v3 < (a0.length : Int))) with hb4 | hb4
        · replace hM := ifT hM hb4
          refine w_condT (e := (decide (v3 < (a0.length : Int)))) rfl hb4 ?_
          refine r_skip ?_
          refine w_next [(0, .sl .no 1 (a0.map cI)), (1, .sl .no 1 (a1.map cI)), (5, .v (.int .i64 v3))] (.cons (.refl _) (.cons (.refl _) (.cons (.refl _) .nil))) ?_
          refine r_seq ?_
          refine r_block ?_
          refine r_seq ?_
          refine r_region (n := 7) rfl ?_
          refine o_move (v := .sl .no 1 (a1.map cI)) (by decide) rfl ?_
          refine o_move (v := .sl .no 1 (a0.map cI)) (by decide) rfl ?_
          refine o_move (v := .v (.int .i64 v3)) (by decide) rfl ?_
          obtain ⟨x5, hx5, hM⟩ := bindE hM
          refine o_index (xs := a0) (f := cI) (z := v3) (u := x5) (by decide) rfl rfl ty_es22 hx5 ?_
          refine o_loadE (v := .v (.int .i64 x5)) (by decide) rfl (part_one ty_agg3 ty_sc3 rfl) ?_
          obtain ⟨r6, hr6, hM⟩ := bindE hM
          refine o_call (bs := [.sl .no 1 (a1.map cI), .v (.int .i64 x5)]) (by decide) rfl rfl ((W_ref01_In hr6).le (.cons (.refl _) (.cons (.refl _) .nil))) ?_
          refine o_not (e := r6) (by decide) rfl ?_
          refine run_nil ?_
          refine w_next [(0, .sl .no 1 (a0.map cI)), (1, .sl .no 1 (a1.map cI)), (5, .v (.int .i64 v3)), (26, .v (.bool (!r6)))] (.cons (.refl _) (.cons (.refl _) (.cons (.refl _) (.cons (.refl _) .nil)))) ?_
          rcases Bool.eq_false_or_eq_true (!r6) with hb7 | hb7
          · replace hM := ifT hM hb7
            refine w_condT (e := (!r6)) rfl hb7 ?_
            refine r_seq ?_
            refine r_region (n := 1) rfl ?_
            refine o_assign (v := .v (.bool false)) (by decide) rfl ?_
            refine run_nil ?_
            refine w_next [(4, .v (.bool false))] (.cons (.refl _) .nil) ?_
            refine r_ret ?_
            refine r_blk_ret ?_
            refine r_then_ret ?_
            refine w_round_ret ?_
            refine r_blk_ret ?_
            refine w_goto_ret ?_
            refine w_end (x := .v (.bool false)) (f := fun r => .v (.bool r)) (.inr rfl) ?_ (.refl _) (Option.some.inj hM) hS
            exact (res_one (res_tmp (x := .v (.bool false)) rfl))
          · replace hM := ifF hM hb7
            refine w_condF (e := (!r6)) rfl hb7 ?_
            refine r_skip ?_
            refine r_blk_normal ?_
            refine w_next [(0, .sl .no 1 (a0.map cI)), (1, .sl .no 1 (a1.map cI)), (5, .v (.int .i64 v3))] (.cons (.refl _) (.cons (.refl _) (.cons (.refl _) .nil))) ?_
            refine r_region (n := 3) rfl ?_
            refine o_move (v := .v (.int .i64 v3)) (by decide) rfl ?_
            refine o_int (v := .v (.int .i64 (w64 (v3 + 1)))) (by decide) rfl rfl rfl ?_
            refine o_assign (v := .v (.int .i64 (w64 (v3 + 1)))) (by decide) rfl ?_
            refine run_nil ?_
            exact w_round (w64 (v3 + 1)) (Nat.lt_succ_self _) (.cons (.refl _) (.cons (.refl _) (.cons (.refl _) .nil))) ⟨(hS.keep [] rfl).up (by omega), hM⟩
        · replace hM := ifF hM hb4
          refine w_condF (e := (decide (v3 < (a0.length : Int)))) rfl hb4 ?_
          refine r_exit ?_
          refine r_then_exit ?_
          refine w_round_exit ?_
          refine r_blk_exit ?_
          exact w_goto () .nil ⟨(hS.keep [] rfl).up (by omega), hM⟩
  · refine r_region (n := 8) rfl ?_
    refine o_move (v := .sl .no 1 (a0.map cI)) (by decide) rfl ?_
    refine o_len (n := a0.length) (by decide) rfl (List.length_map _) ty_isl22 ?_
    refine o_int (v := .v (.bool (decide ((a0.length : Int) > 40)))) (by decide) rfl rfl rfl ?_
    refine o_move (v := .v (.bool (decide ((a0.length : Int) > 40)))) (by decide) rfl ?_
    rcases Bool.eq_false_or_eq_true (decide ((a0.length : Int) > 40)) with hb8 | hb8
    · replace hM := ifT hM hb8
      refine o_guardN (j := 3) (e := (decide ((a0.length : Int) > 40))) (want := false) (by decide) rfl hb8 ?_
      refine o_guardN (j := 3) (e := (decide ((a0.length : Int) > 40))) (want := false) (by decide) rfl hb8 ?_
      refine o_guardN (j := 3) (e := (decide ((a0.length : Int) > 40))) (want := false) (by decide) rfl hb8 ?_
      refine o_pickT (v := .v (.bool true)) (e := (decide ((a0.length : Int) > 40))) (by decide) rfl hb8 rfl ?_
      refine run_nil ?_
      exact w_goto true (.cons (.refl _) (.cons (.refl _) (.cons (.refl _) .nil))) ⟨(hS.keep [] rfl).up (by omega), hM⟩
    · replace hM := ifF hM hb8
      refine o_guardY (j := 3) (e := (decide ((a0.length : Int) > 40))) (want := false) rfl hb8 ?_
      refine o_move (v := .sl .no 1 (a1.map cI)) (by decide) rfl ?_
      refine o_guardY (j := 3) (e := (decide ((a0.length : Int) > 40))) (want := false) rfl hb8 ?_
      refine o_len (n := a1.length) (by decide) rfl (List.length_map _) ty_isl22 ?_
      refine o_guardY (j := 3) (e := (decide ((a0.length : Int) > 40))) (want := false) rfl hb8 ?_
      refine o_int (v := .v (.bool (decide ((a1.length : Int) > 40)))) (by decide) rfl rfl rfl ?_
      refine o_pickF (v := .v (.bool (decide ((a1.length : Int) > 40)))) (e := (decide ((a0.length : Int) > 40))) (by decide) rfl hb8 rfl ?_
      refine run_nil ?_
      exact w_goto (decide ((a1.length : Int) > 40)) (.cons (.refl _) (.cons (.refl _) (.cons (.refl _) .nil))) ⟨(hS.keep [] rfl).up (by omega), hM⟩
theorem W_ref13_IsReading {n : Nat} {a0 : Pulse} {a1 : List Int} {r : Bool} (hM : ref13_IsReading n a0 a1 = some r) : PureSat Try.prog 44 [.agg [.v (.int .i64 a0.Letters), .v (.int .i64 a0.Numbers), .v (.int .i64 a0.Pitch), .v (.int .i64 a0.Slack), .v (.int .i64 a0.Gap), .v (.int .i64 a0.Pause), .v (.int .i64 a0.Sparks), .sl .no 1 (a0.Times.map cI)], .sl .no 1 (a1.map cI)] (.v (.bool r)) := by
  refine pure_of_wp mixed Try.func44 rfl (by decide) Try.ntmps44 (by simp) ?pure fun H0 g hf => ?_
  case pure => exact .v _
  rw [frame0_of]
  change wpA _ _ _ _ (Fr.of [(0, .agg [.v (.int .i64 a0.Letters), .v (.int .i64 a0.Numbers), .v (.int .i64 a0.Pitch), .v (.int .i64 a0.Slack), .v (.int .i64 a0.Gap), .v (.int .i64 a0.Pause), .v (.int .i64 a0.Sparks), .sl .no 1 (a0.Times.map cI)]), (1, .sl .no 1 (a1.map cI))]) H0 g
  have hS := St.start hf
  refine r_seq ?_
  refine r_region (n := 2) rfl ?_
  refine o_box (v := .agg [.v (.int .i64 a0.Letters), .v (.int .i64 a0.Numbers), .v (.int .i64 a0.Pitch), .v (.int .i64 a0.Slack), .v (.int .i64 a0.Gap), .v (.int .i64 a0.Pause), .v (.int .i64 a0.Sparks), .sl .no 1 (a0.Times.map cI)]) (cs := [.v (.int .i64 a0.Letters), .v (.int .i64 a0.Numbers), .v (.int .i64 a0.Pitch), .v (.int .i64 a0.Slack), .v (.int .i64 a0.Gap), .v (.int .i64 a0.Pause), .v (.int .i64 a0.Sparks), .sl .no 1 (a0.Times.map cI)]) hS (by decide) rfl rfl (by omega) fun H hS => ?_
  refine o_assign (v := .v (.bool false)) (by decide) rfl ?_
  refine run_nil ?_
  refine w_next [(1, .sl .no 1 (a1.map cI)), (2, .ptr (g + 0) 0)] (.cons (.refl _) (.cons (.refl _) .nil)) ?_
  refine r_seq ?_
  refine w_join (J := Bool) (fun j => [(1, .sl .no 1 (a1.map cI)), (2, .ptr (g + 0) 0), (20, .v (.bool j))]) (fun j H' g' => St (· < g) H0 [(g + 0, .cells [.v (.int .i64 a0.Letters), .v (.int .i64 a0.Numbers), .v (.int .i64 a0.Pitch), .v (.int .i64 a0.Slack), .v (.int .i64 a0.Gap), .v (.int .i64 a0.Pause), .v (.int .i64 a0.Sparks), .sl .no 1 (a0.Times.map cI)])] H' g' ∧ ref13_IsReading_j1 n a0 a1 j = some r) ?_ ?_
  · rintro v1 H g1 ⟨hS, hM⟩
    change wpA _ _ _ _ (Fr.of [(1, .sl .no 1 (a1.map cI)), (2, .ptr (g + 0) 0), (20, .v (.bool v1))]) _ _
    replace hS : St (· < g) H0 [(g + 0, .cells [.v (.int .i64 a0.Letters), .v (.int .i64 a0.Numbers), .v (.int .i64 a0.Pitch), .v (.int .i64 a0.Slack), .v (.int .i64 a0.Gap), .v (.int .i64 a0.Pause), .v (.int .i64 a0.Sparks), .sl .no 1 (a0.Times.map cI)])] H g1 := hS
    replace hM : ref13_IsReading_j1 n a0 a1 v1 = some r := hM
    rcases Bool.eq_false_or_eq_true v1 with hb2 | hb2
    · replace hM := ifT hM hb2
      refine w_condT (e := v1) rfl hb2 ?_
      refine r_seq ?_
      refine r_region (n := 1) rfl ?_
      refine o_assign (v := .v (.bool false)) (by decide) rfl ?_
      refine run_nil ?_
      replace hS := hS.keep (L' := []) [false] rfl
      refine w_next [(4, .v (.bool false))] (.cons (.refl _) .nil) ?_
      refine r_ret ?_
      refine r_then_ret ?_
      refine w_end (x := .v (.bool false)) (f := fun r => .v (.bool r)) (.inr rfl) ?_ (.refl _) (Option.some.inj hM) hS
      exact (res_one (res_tmp (x := .v (.bool false)) rfl))
    · replace hM := ifF hM hb2
      refine w_condF (e := v1) rfl hb2 ?_
      refine r_skip ?_
      refine w_next [(1, .sl .no 1 (a1.map cI)), (2, .ptr (g + 0) 0)] (.cons (.refl _) (.cons (.refl _) .nil)) ?_
      refine r_seq ?_
      have hS0 := hS
      refine r_draw (n := 11) rfl (by kernel_rfl) ?_
      refine o_load (v := .agg [.v (.int .i64 a0.Letters), .v (.int .i64 a0.Numbers), .v (.int .i64 a0.Pitch), .v (.int .i64 a0.Slack), .v (.int .i64 a0.Gap), .v (.int .i64 a0.Pause), .v (.int .i64 a0.Sparks), .sl .no 1 (a0.Times.map cI)]) 0 hS (by decide) rfl rfl (.st hS0 0 rfl (by omega)) (part_agg ty_agg24 (Nat.le_of_ble_eq_true rfl) rfl) ?_
      refine o_fieldP (by decide) ty_fo24_7 rfl ?_
      refine o_load (v := .sl .no 1 (a0.Times.map cI)) 0 hS (by decide) rfl rfl (.st hS0 0 rfl (by omega)) (part_one ty_agg22 ty_sc22 rfl) ?_
      refine o_move (v := .sl .no 1 (a1.map cI)) (by decide) rfl ?_
      obtain ⟨r3, hr3, hM⟩ := bindE hM
      refine o_call (bs := [.sl .no 1 (a0.Times.map cI), .sl .no 1 (a1.map cI)]) (by decide) rfl rfl ((W_ref13_Less hr3).le (.cons (.refl _) (.cons (.refl _) .nil))) ?_
      obtain ⟨r4, hr4, hM⟩ := bindE hM
      refine o_call (bs := [.agg [.v (.int .i64 a0.Letters), .v (.int .i64 a0.Numbers), .v (.int .i64 a0.Pitch), .v (.int .i64 a0.Slack), .v (.int .i64 a0.Gap), .v (.int .i64 a0.Pause), .v (.int .i64 a0.Sparks), .sl .no 1 (a0.Times.map cI)], .sl .no 1 (r3.map cI)]) (by decide) rfl rfl ((W_ref13_Clean hr4).le (.cons (.refl _) (.cons (.refl _) .nil))) ?_
      refine o_move (v := .tup [.sl .no 1 (r4.1.map cI), .v (.bool r4.2)]) (by decide) rfl ?_
      refine o_extract (v := .sl .no 1 (r4.1.map cI)) (by decide) rfl rfl ?_
      refine o_extract (v := .v (.bool r4.2)) (by decide) rfl rfl ?_
      refine o_assign (v := .sl .no 1 (r4.1.map cI)) (by decide) rfl ?_
      refine o_assign (v := .v (.bool r4.2)) (by decide) rfl ?_
      refine run_nil ?_
      replace hS := hS.keep (L' := []) [false] rfl
      refine w_next [(6, .v (.bool r4.2))] (.cons (.refl _) .nil) ?_
      refine r_seq ?_
      refine r_region (n := 2) rfl ?_
      refine o_move (v := .v (.bool r4.2)) (by decide) rfl ?_
      refine o_assign (v := .v (.bool r4.2)) (by decide) rfl ?_
      refine run_nil ?_
      refine w_next [(4, .v (.bool r4.2))] (.cons (.refl _) .nil) ?_
      refine r_ret ?_
      refine w_end (x := .v (.bool r4.2)) (f := fun r => .v (.bool r)) (.inr rfl) ?_ (.refl _) (Option.some.inj hM) hS
      exact (res_one (res_tmp (x := .v (.bool r4.2)) rfl))
  · refine r_region (n := 14) rfl ?_
    refine o_move (v := .sl .no 1 (a1.map cI)) (by decide) rfl ?_
    refine o_fieldP (by decide) ty_fo24_7 rfl ?_
    refine o_load (v := .sl .no 1 (a0.Times.map cI)) 0 hS (by decide) rfl rfl .no (part_one ty_agg22 ty_sc22 rfl) ?_
    refine o_len (n := a0.Times.length) (by decide) rfl (List.length_map _) ty_isl22 ?_
    refine o_int (v := .v (.int .i64 (w64 ((a0.Times.length : Int) - 1)))) (by decide) rfl rfl rfl ?_
    obtain ⟨r5, hr5, hM⟩ := bindE hM
    refine o_call (bs := [.sl .no 1 (a1.map cI), .v (.int .i64 0), .v (.int .i64 (w64 ((a0.Times.length : Int) - 1)))]) (by decide) rfl rfl ((W_ref01_Rising hr5).le (.cons (.refl _) (.cons (.refl _) (.cons (.refl _) .nil)))) ?_
    refine o_not (e := r5) (by decide) rfl ?_
    refine o_move (v := .v (.bool (!r5))) (by decide) rfl ?_
    rcases Bool.eq_false_or_eq_true (!r5) with hb6 | hb6
    · replace hM := ifT hM hb6
      refine o_guardN (j := 7) (e := (!r5)) (want := false) (by decide) rfl hb6 ?_
      refine o_guardN (j := 7) (e := (!r5)) (want := false) (by decide) rfl hb6 ?_
      refine o_guardN (j := 7) (e := (!r5)) (want := false) (by decide) rfl hb6 ?_
      refine o_guardN (j := 7) (e := (!r5)) (want := false) (by decide) rfl hb6 ?_
      refine o_guardN (j := 7) (e := (!r5)) (want := false) (by decide) rfl hb6 ?_
      refine o_pickT (v := .v (.bool true)) (e := (!r5)) (by decide) rfl hb6 rfl ?_
      refine run_nil ?_
      exact w_goto true (.cons (.refl _) (.cons (.refl _) (.cons (.refl _) .nil))) ⟨(hS.keep [true] rfl).up (by omega), hM⟩
    · replace hM := ifF hM hb6
      refine o_guardY (j := 7) (e := (!r5)) (want := false) rfl hb6 ?_
      refine o_move (v := .sl .no 1 (a1.map cI)) (by decide) rfl ?_
      refine o_guardY (j := 7) (e := (!r5)) (want := false) rfl hb6 ?_
      refine o_len (n := a1.length) (by decide) rfl (List.length_map _) ty_isl22 ?_
      refine o_guardY (j := 7) (e := (!r5)) (want := false) rfl hb6 ?_
      refine o_fieldP (by decide) ty_fo24_6 rfl ?_
      refine o_guardY (j := 7) (e := (!r5)) (want := false) rfl hb6 ?_
      refine o_load (v := .v (.int .i64 a0.Sparks)) 0 hS (by decide) rfl rfl .no (part_one ty_agg3 ty_sc3 rfl) ?_
      refine o_guardY (j := 7) (e := (!r5)) (want := false) rfl hb6 ?_
      refine o_int (v := .v (.bool (decide ((a1.length : Int) > a0.Sparks)))) (by decide) rfl rfl rfl ?_
      refine o_pickF (v := .v (.bool (decide ((a1.length : Int) > a0.Sparks)))) (e := (!r5)) (by decide) rfl hb6 rfl ?_
      refine run_nil ?_
      exact w_goto (decide ((a1.length : Int) > a0.Sparks)) (.cons (.refl _) (.cons (.refl _) (.cons (.refl _) .nil))) ⟨(hS.keep [true] rfl).up (by omega), hM⟩
theorem W_law13_PulsesEach {n : Nat} {a0 : Pulse} {a1 : List Int} {a2 : Int} {r : Bool} (hM : law13_PulsesEach n a0 a1 a2 = some r) : PureSat Try.prog 12 [.agg [.v (.int .i64 a0.Letters), .v (.int .i64 a0.Numbers), .v (.int .i64 a0.Pitch), .v (.int .i64 a0.Slack), .v (.int .i64 a0.Gap), .v (.int .i64 a0.Pause), .v (.int .i64 a0.Sparks), .sl .no 1 (a0.Times.map cI)], .sl .no 1 (a1.map cI), .v (.int .i64 a2)] (.v (.bool r)) := by
  refine pure_of_wp mixed Try.func12 rfl (by decide) Try.ntmps12 (by simp) ?pure fun H0 g hf => ?_
  case pure => exact .v _
  rw [frame0_of]
  change wpA _ _ _ _ (Fr.of [(0, .agg [.v (.int .i64 a0.Letters), .v (.int .i64 a0.Numbers), .v (.int .i64 a0.Pitch), .v (.int .i64 a0.Slack), .v (.int .i64 a0.Gap), .v (.int .i64 a0.Pause), .v (.int .i64 a0.Sparks), .sl .no 1 (a0.Times.map cI)]), (1, .sl .no 1 (a1.map cI)), (2, .v (.int .i64 a2))]) H0 g
  have hS := St.start hf
  refine r_seq ?_
  refine r_region (n := 2) rfl ?_
  refine o_box (v := .agg [.v (.int .i64 a0.Letters), .v (.int .i64 a0.Numbers), .v (.int .i64 a0.Pitch), .v (.int .i64 a0.Slack), .v (.int .i64 a0.Gap), .v (.int .i64 a0.Pause), .v (.int .i64 a0.Sparks), .sl .no 1 (a0.Times.map cI)]) (cs := [.v (.int .i64 a0.Letters), .v (.int .i64 a0.Numbers), .v (.int .i64 a0.Pitch), .v (.int .i64 a0.Slack), .v (.int .i64 a0.Gap), .v (.int .i64 a0.Pause), .v (.int .i64 a0.Sparks), .sl .no 1 (a0.Times.map cI)]) hS (by decide) rfl rfl (by omega) fun H hS => ?_
  refine o_assign (v := .v (.bool false)) (by decide) rfl ?_
  refine run_nil ?_
  refine w_next [(1, .sl .no 1 (a1.map cI)), (2, .v (.int .i64 a2)), (3, .ptr (g + 0) 0)] (.cons (.refl _) (.cons (.refl _) (.cons (.refl _) .nil))) ?_
  refine r_seq ?_
  refine w_join (J := Bool) (fun j => [(1, .sl .no 1 (a1.map cI)), (2, .v (.int .i64 a2)), (3, .ptr (g + 0) 0), (40, .v (.bool j))]) (fun j H' g' => St (· < g) H0 [(g + 0, .cells [.v (.int .i64 a0.Letters), .v (.int .i64 a0.Numbers), .v (.int .i64 a0.Pitch), .v (.int .i64 a0.Slack), .v (.int .i64 a0.Gap), .v (.int .i64 a0.Pause), .v (.int .i64 a0.Sparks), .sl .no 1 (a0.Times.map cI)])] H' g' ∧ law13_PulsesEach_j1 n a0 a1 a2 j = some r) ?_ ?_
  · rintro v1 H g1 ⟨hS, hM⟩
    change wpA _ _ _ _ (Fr.of [(1, .sl .no 1 (a1.map cI)), (2, .v (.int .i64 a2)), (3, .ptr (g + 0) 0), (40, .v (.bool v1))]) _ _
    replace hS : St (· < g) H0 [(g + 0, .cells [.v (.int .i64 a0.Letters), .v (.int .i64 a0.Numbers), .v (.int .i64 a0.Pitch), .v (.int .i64 a0.Slack), .v (.int .i64 a0.Gap), .v (.int .i64 a0.Pause), .v (.int .i64 a0.Sparks), .sl .no 1 (a0.Times.map cI)])] H g1 := hS
    replace hM : law13_PulsesEach_j1 n a0 a1 a2 v1 = some r := hM
    rcases Bool.eq_false_or_eq_true v1 with hb2 | hb2
    · replace hM := ifT hM hb2
      refine w_condT (e := v1) rfl hb2 ?_
      refine r_seq ?_
      refine r_region (n := 2) rfl ?_
      obtain ⟨r3, hr3, hM⟩ := bindE hM
      refine o_call (bs := []) (by decide) rfl rfl ((W_law13_works hr3).le .nil) ?_
      refine o_assign (v := .v (.bool r3)) (by decide) rfl ?_
      refine run_nil ?_
      replace hS := hS.keep (L' := []) [false] rfl
      refine w_next [(6, .v (.bool r3))] (.cons (.refl _) .nil) ?_
      refine r_ret ?_
      refine r_then_ret ?_
      refine w_end (x := .v (.bool r3)) (f := fun r => .v (.bool r)) (.inr rfl) ?_ (.refl _) (Option.some.inj hM) hS
      exact (res_one (res_tmp (x := .v (.bool r3)) rfl))
    · replace hM := ifF hM hb2
      refine w_condF (e := v1) rfl hb2 ?_
      refine r_skip ?_
      refine w_next [(1, .sl .no 1 (a1.map cI)), (2, .v (.int .i64 a2)), (3, .ptr (g + 0) 0)] (.cons (.refl _) (.cons (.refl _) (.cons (.refl _) .nil))) ?_
      refine r_seq ?_
      refine r_region (n := 4) rfl ?_
      refine o_load (v := .agg [.v (.int .i64 a0.Letters), .v (.int .i64 a0.Numbers), .v (.int .i64 a0.Pitch), .v (.int .i64 a0.Slack), .v (.int .i64 a0.Gap), .v (.int .i64 a0.Pause), .v (.int .i64 a0.Sparks), .sl .no 1 (a0.Times.map cI)]) 0 hS (by decide) rfl rfl .no (part_agg ty_agg24 (Nat.le_of_ble_eq_true rfl) rfl) ?_
      obtain ⟨r4, hr4, hM⟩ := bindE hM
      refine o_call (bs := [.agg [.v (.int .i64 a0.Letters), .v (.int .i64 a0.Numbers), .v (.int .i64 a0.Pitch), .v (.int .i64 a0.Slack), .v (.int .i64 a0.Gap), .v (.int .i64 a0.Pause), .v (.int .i64 a0.Sparks), .sl .no 1 (a0.Times.map cI)]]) (by decide) rfl rfl ((W_ref13_Copy hr4).le (.cons (.refl _) .nil)) ?_
      refine o_alloc hS (by decide) ty_zero24 (by omega) fun H hS => ?_
      refine o_store (v := .agg [.v (.int .i64 r4.Letters), .v (.int .i64 r4.Numbers), .v (.int .i64 r4.Pitch), .v (.int .i64 r4.Slack), .v (.int .i64 r4.Gap), .v (.int .i64 r4.Pause), .v (.int .i64 r4.Sparks), .sl .no 1 (r4.Times.map cI)]) (ns := [.v (.int .i64 r4.Letters), .v (.int .i64 r4.Numbers), .v (.int .i64 r4.Pitch), .v (.int .i64 r4.Slack), .v (.int .i64 r4.Gap), .v (.int .i64 r4.Pause), .v (.int .i64 r4.Sparks), .sl .no 1 (r4.Times.map cI)]) (L' := [(g1 + 2, .cells [.v (.int .i64 r4.Letters), .v (.int .i64 r4.Numbers), .v (.int .i64 r4.Pitch), .v (.int .i64 r4.Slack), .v (.int .i64 r4.Gap), .v (.int .i64 r4.Pause), .v (.int .i64 r4.Sparks), .sl .no 1 (r4.Times.map cI)]), (g + 0, .cells [.v (.int .i64 a0.Letters), .v (.int .i64 a0.Numbers), .v (.int .i64 a0.Pitch), .v (.int .i64 a0.Slack), .v (.int .i64 a0.Gap), .v (.int .i64 a0.Pause), .v (.int .i64 a0.Sparks), .sl .no 1 (a0.Times.map cI)])]) 0 hS rfl rfl .no rfl rfl ty_var24 (Nat.le_of_ble_eq_true rfl) rfl fun H hS => ?_
      refine run_nil ?_
      refine w_next [(1, .sl .no 1 (a1.map cI)), (2, .v (.int .i64 a2)), (3, .ptr (g + 0) 0), (7, .ptr (g1 + 2) 0)] (.cons (.refl _) (.cons (.refl _) (.cons (.refl _) (.cons (.refl _) .nil)))) ?_
      refine r_seq ?_
      refine r_region (n := 8) rfl ?_
      refine o_fieldP (by decide) ty_fo24_7 rfl ?_
      refine o_load (v := .sl .no 1 (a0.Times.map cI)) 1 hS (by decide) rfl rfl .no (part_one ty_agg22 ty_sc22 rfl) ?_
      refine o_move (v := .sl .no 1 (a1.map cI)) (by decide) rfl ?_
      obtain ⟨r5, hr5, hM⟩ := bindE hM
      refine o_call (bs := [.sl .no 1 (a0.Times.map cI), .sl .no 1 (a1.map cI)]) (by decide) rfl rfl ((W_ref13_Less hr5).le (.cons (.refl _) (.cons (.refl _) .nil))) ?_
      refine o_fieldP (by decide) ty_fo24_6 rfl ?_
      refine o_store (v := .v (.int .i64 0)) (ns := [.v (.int .i64 0)]) (L' := [(g1 + 2, .cells [.v (.int .i64 r4.Letters), .v (.int .i64 r4.Numbers), .v (.int .i64 r4.Pitch), .v (.int .i64 r4.Slack), .v (.int .i64 r4.Gap), .v (.int .i64 r4.Pause), .v (.int .i64 0), .sl .no 1 (r4.Times.map cI)]), (g + 0, .cells [.v (.int .i64 a0.Letters), .v (.int .i64 a0.Numbers), .v (.int .i64 a0.Pitch), .v (.int .i64 a0.Slack), .v (.int .i64 a0.Gap), .v (.int .i64 a0.Pause), .v (.int .i64 a0.Sparks), .sl .no 1 (a0.Times.map cI)])]) 0 hS rfl rfl .no rfl rfl ty_var3 (Nat.le_of_ble_eq_true rfl) rfl fun H hS => ?_
      refine o_fieldP (by decide) ty_fo24_7 rfl ?_
      refine o_store (v := .sl .no 1 (r5.map cI)) (ns := [.sl .no 1 (r5.map cI)]) (L' := [(g1 + 2, .cells [.v (.int .i64 r4.Letters), .v (.int .i64 r4.Numbers), .v (.int .i64 r4.Pitch), .v (.int .i64 r4.Slack), .v (.int .i64 r4.Gap), .v (.int .i64 r4.Pause), .v (.int .i64 0), .sl .no 1 (r5.map cI)]), (g + 0, .cells [.v (.int .i64 a0.Letters), .v (.int .i64 a0.Numbers), .v (.int .i64 a0.Pitch), .v (.int .i64 a0.Slack), .v (.int .i64 a0.Gap), .v (.int .i64 a0.Pause), .v (.int .i64 a0.Sparks), .sl .no 1 (a0.Times.map cI)])]) 0 hS rfl rfl .no rfl rfl ty_var22 (Nat.le_of_ble_eq_true rfl) rfl fun H hS => ?_
      refine run_nil ?_
      refine w_next [(1, .sl .no 1 (a1.map cI)), (2, .v (.int .i64 a2)), (3, .ptr (g + 0) 0), (7, .ptr (g1 + 2) 0)] (.cons (.refl _) (.cons (.refl _) (.cons (.refl _) (.cons (.refl _) .nil)))) ?_
      refine r_seq ?_
      refine r_region (n := 7) rfl ?_
      refine o_load (v := .agg [.v (.int .i64 r4.Letters), .v (.int .i64 r4.Numbers), .v (.int .i64 r4.Pitch), .v (.int .i64 r4.Slack), .v (.int .i64 r4.Gap), .v (.int .i64 r4.Pause), .v (.int .i64 0), .sl .no 1 (r5.map cI)]) 0 hS (by decide) rfl rfl .no (part_agg ty_agg24 (Nat.le_of_ble_eq_true rfl) rfl) ?_
      obtain ⟨r6, hr6, hM⟩ := bindE hM
      refine o_call (bs := [.agg [.v (.int .i64 r4.Letters), .v (.int .i64 r4.Numbers), .v (.int .i64 r4.Pitch), .v (.int .i64 r4.Slack), .v (.int .i64 r4.Gap), .v (.int .i64 r4.Pause), .v (.int .i64 0), .sl .no 1 (r5.map cI)]]) (by decide) rfl rfl ((W_pulses_Read hr6).le (.cons (.refl _) .nil)) ?_
      refine o_move (v := .tup [.sl .no 1 (r6.1.map cI), .v (.int .i64 r6.2)]) (by decide) rfl ?_
      refine o_extract (v := .sl .no 1 (r6.1.map cI)) (by decide) rfl rfl ?_
      refine o_extract (v := .v (.int .i64 r6.2)) (by decide) rfl rfl ?_
      refine o_assign (v := .sl .no 1 (r6.1.map cI)) (by decide) rfl ?_
      refine o_assign (v := .v (.int .i64 r6.2)) (by decide) rfl ?_
      refine run_nil ?_
      refine w_next [(1, .sl .no 1 (a1.map cI)), (2, .v (.int .i64 a2)), (3, .ptr (g + 0) 0), (7, .ptr (g1 + 2) 0), (8, .sl .no 1 (r6.1.map cI)), (9, .v (.int .i64 r6.2))] (.cons (.refl _) (.cons (.refl _) (.cons (.refl _) (.cons (.refl _) (.cons (.refl _) (.cons (.refl _) .nil)))))) ?_
      refine r_seq ?_
      refine r_region (n := 9) rfl ?_
      refine o_load (v := .agg [.v (.int .i64 a0.Letters), .v (.int .i64 a0.Numbers), .v (.int .i64 a0.Pitch), .v (.int .i64 a0.Slack), .v (.int .i64 a0.Gap), .v (.int .i64 a0.Pause), .v (.int .i64 a0.Sparks), .sl .no 1 (a0.Times.map cI)]) 1 hS (by decide) rfl rfl .no (part_agg ty_agg24 (Nat.le_of_ble_eq_true rfl) rfl) ?_
      refine o_fieldP (by decide) ty_fo24_7 rfl ?_
      refine o_load (v := .sl .no 1 (r5.map cI)) 0 hS (by decide) rfl rfl .no (part_one ty_agg22 ty_sc22 rfl) ?_
      obtain ⟨r7, hr7, hM⟩ := bindE hM
      refine o_call (bs := [.agg [.v (.int .i64 a0.Letters), .v (.int .i64 a0.Numbers), .v (.int .i64 a0.Pitch), .v (.int .i64 a0.Slack), .v (.int .i64 a0.Gap), .v (.int .i64 a0.Pause), .v (.int .i64 a0.Sparks), .sl .no 1 (a0.Times.map cI)], .sl .no 1 (r5.map cI)]) (by decide) rfl rfl ((W_ref13_Clean hr7).le (.cons (.refl _) (.cons (.refl _) .nil))) ?_
      refine o_move (v := .tup [.sl .no 1 (r7.1.map cI), .v (.bool r7.2)]) (by decide) rfl ?_
      refine o_extract (v := .sl .no 1 (r7.1.map cI)) (by decide) rfl rfl ?_
      refine o_extract (v := .v (.bool r7.2)) (by decide) rfl rfl ?_
      refine o_assign (v := .sl .no 1 (r7.1.map cI)) (by decide) rfl ?_
      refine o_assign (v := .v (.bool r7.2)) (by decide) rfl ?_
      refine run_nil ?_
      replace hS := hS.keep (L' := [(g + 0, .cells [.v (.int .i64 a0.Letters), .v (.int .i64 a0.Numbers), .v (.int .i64 a0.Pitch), .v (.int .i64 a0.Slack), .v (.int .i64 a0.Gap), .v (.int .i64 a0.Pause), .v (.int .i64 a0.Sparks), .sl .no 1 (a0.Times.map cI)])]) [false, true] rfl
      refine w_next [(1, .sl .no 1 (a1.map cI)), (2, .v (.int .i64 a2)), (3, .ptr (g + 0) 0), (8, .sl .no 1 (r6.1.map cI)), (9, .v (.int .i64 r6.2)), (10, .sl .no 1 (r7.1.map cI))] (.cons (.refl _) (.cons (.refl _) (.cons (.refl _) (.cons (.refl _) (.cons (.refl _) (.cons (.refl _) .nil)))))) ?_
      refine r_seq ?_
      refine r_region (n := 9) rfl ?_
      refine o_load (v := .agg [.v (.int .i64 a0.Letters), .v (.int .i64 a0.Numbers), .v (.int .i64 a0.Pitch), .v (.int .i64 a0.Slack), .v (.int .i64 a0.Gap), .v (.int .i64 a0.Pause), .v (.int .i64 a0.Sparks), .sl .no 1 (a0.Times.map cI)]) 0 hS (by decide) rfl rfl .no (part_agg ty_agg24 (Nat.le_of_ble_eq_true rfl) rfl) ?_
      refine o_move (v := .v (.int .i64 a2)) (by decide) rfl ?_
      obtain ⟨r8, hr8, hM⟩ := bindE hM
      refine o_call (bs := [.agg [.v (.int .i64 a0.Letters), .v (.int .i64 a0.Numbers), .v (.int .i64 a0.Pitch), .v (.int .i64 a0.Slack), .v (.int .i64 a0.Gap), .v (.int .i64 a0.Pause), .v (.int .i64 a0.Sparks), .sl .no 1 (a0.Times.map cI)], .v (.int .i64 a2)]) (by decide) rfl rfl ((W_pulses_Asked hr8).le (.cons (.refl _) (.cons (.refl _) .nil))) ?_
      refine o_move (v := .tup [.agg [.v (.int .i64 r8.1.Low), .v (.int .i64 r8.1.High)], .v (.int .i64 r8.2)]) (by decide) rfl ?_
      refine o_extract (v := .agg [.v (.int .i64 r8.1.Low), .v (.int .i64 r8.1.High)]) (by decide) rfl rfl ?_
      refine o_extract (v := .v (.int .i64 r8.2)) (by decide) rfl rfl ?_
      refine o_alloc hS (by decide) ty_zero44 (by omega) fun H hS => ?_
      refine o_store (v := .agg [.v (.int .i64 r8.1.Low), .v (.int .i64 r8.1.High)]) (ns := [.v (.int .i64 r8.1.Low), .v (.int .i64 r8.1.High)]) (L' := [(g1 + 4 + 8 + 7 + 9 + 6, .cells [.v (.int .i64 r8.1.Low), .v (.int .i64 r8.1.High)]), (g + 0, .cells [.v (.int .i64 a0.Letters), .v (.int .i64 a0.Numbers), .v (.int .i64 a0.Pitch), .v (.int .i64 a0.Slack), .v (.int .i64 a0.Gap), .v (.int .i64 a0.Pause), .v (.int .i64 a0.Sparks), .sl .no 1 (a0.Times.map cI)])]) 0 hS rfl rfl .no rfl rfl ty_var44 (Nat.le_of_ble_eq_true rfl) rfl fun H hS => ?_
      refine o_assign (v := .v (.int .i64 r8.2)) (by decide) rfl ?_
      refine run_nil ?_
      refine w_next [(1, .sl .no 1 (a1.map cI)), (2, .v (.int .i64 a2)), (3, .ptr (g + 0) 0), (8, .sl .no 1 (r6.1.map cI)), (9, .v (.int .i64 r6.2)), (10, .sl .no 1 (r7.1.map cI)), (12, .ptr (g1 + 4 + 8 + 7 + 9 + 6) 0), (13, .v (.int .i64 r8.2))] (.cons (.refl _) (.cons (.refl _) (.cons (.refl _) (.cons (.refl _) (.cons (.refl _) (.cons (.refl _) (.cons (.refl _) (.cons (.refl _) .nil)))))))) ?_
      refine r_seq ?_
      refine r_region (n := 7) rfl ?_
      refine o_load (v := .agg [.v (.int .i64 a0.Letters), .v (.int .i64 a0.Numbers), .v (.int .i64 a0.Pitch), .v (.int .i64 a0.Slack), .v (.int .i64 a0.Gap), .v (.int .i64 a0.Pause), .v (.int .i64 a0.Sparks), .sl .no 1 (a0.Times.map cI)]) 1 hS (by decide) rfl rfl .no (part_agg ty_agg24 (Nat.le_of_ble_eq_true rfl) rfl) ?_
      obtain ⟨r9, hr9, hM⟩ := bindE hM
      refine o_call (bs := [.agg [.v (.int .i64 a0.Letters), .v (.int .i64 a0.Numbers), .v (.int .i64 a0.Pitch), .v (.int .i64 a0.Slack), .v (.int .i64 a0.Gap), .v (.int .i64 a0.Pause), .v (.int .i64 a0.Sparks), .sl .no 1 (a0.Times.map cI)]]) (by decide) rfl rfl ((W_pulses_Real hr9).le (.cons (.refl _) .nil)) ?_
      refine o_move (v := .tup [.sl .no 1 (r9.1.map cI), .v (.int .i64 r9.2)]) (by decide) rfl ?_
      refine o_extract (v := .sl .no 1 (r9.1.map cI)) (by decide) rfl rfl ?_
      refine o_extract (v := .v (.int .i64 r9.2)) (by decide) rfl rfl ?_
      refine o_assign (v := .sl .no 1 (r9.1.map cI)) (by decide) rfl ?_
      refine o_assign (v := .v (.int .i64 r9.2)) (by decide) rfl ?_
      refine run_nil ?_
      refine w_next [(1, .sl .no 1 (a1.map cI)), (2, .v (.int .i64 a2)), (3, .ptr (g + 0) 0), (8, .sl .no 1 (r6.1.map cI)), (9, .v (.int .i64 r6.2)), (10, .sl .no 1 (r7.1.map cI)), (12, .ptr (g1 + 4 + 8 + 7 + 9 + 6) 0), (13, .v (.int .i64 r8.2)), (14, .sl .no 1 (r9.1.map cI)), (15, .v (.int .i64 r9.2))] (.cons (.refl _) (.cons (.refl _) (.cons (.refl _) (.cons (.refl _) (.cons (.refl _) (.cons (.refl _) (.cons (.refl _) (.cons (.refl _) (.cons (.refl _) (.cons (.refl _) .nil)))))))))) ?_
      refine r_seq ?_
      refine r_region (n := 7) rfl ?_
      refine o_load (v := .agg [.v (.int .i64 a0.Letters), .v (.int .i64 a0.Numbers), .v (.int .i64 a0.Pitch), .v (.int .i64 a0.Slack), .v (.int .i64 a0.Gap), .v (.int .i64 a0.Pause), .v (.int .i64 a0.Sparks), .sl .no 1 (a0.Times.map cI)]) 1 hS (by decide) rfl rfl .no (part_agg ty_agg24 (Nat.le_of_ble_eq_true rfl) rfl) ?_
      obtain ⟨r10, hr10, hM⟩ := bindE hM
      refine o_call (bs := [.agg [.v (.int .i64 a0.Letters), .v (.int .i64 a0.Numbers), .v (.int .i64 a0.Pitch), .v (.int .i64 a0.Slack), .v (.int .i64 a0.Gap), .v (.int .i64 a0.Pause), .v (.int .i64 a0.Sparks), .sl .no 1 (a0.Times.map cI)]]) (by decide) rfl rfl ((W_pulses_Sparks hr10).le (.cons (.refl _) .nil)) ?_
      refine o_move (v := .tup [.sl .no 1 (r10.1.map cI), .v (.int .i64 r10.2)]) (by decide) rfl ?_
      refine o_extract (v := .sl .no 1 (r10.1.map cI)) (by decide) rfl rfl ?_
      refine o_extract (v := .v (.int .i64 r10.2)) (by decide) rfl rfl ?_
      refine o_assign (v := .sl .no 1 (r10.1.map cI)) (by decide) rfl ?_
      refine o_assign (v := .v (.int .i64 r10.2)) (by decide) rfl ?_
      refine run_nil ?_
      refine w_next [(1, .sl .no 1 (a1.map cI)), (2, .v (.int .i64 a2)), (3, .ptr (g + 0) 0), (8, .sl .no 1 (r6.1.map cI)), (9, .v (.int .i64 r6.2)), (10, .sl .no 1 (r7.1.map cI)), (12, .ptr (g1 + 4 + 8 + 7 + 9 + 6) 0), (13, .v (.int .i64 r8.2)), (14, .sl .no 1 (r9.1.map cI)), (15, .v (.int .i64 r9.2)), (16, .sl .no 1 (r10.1.map cI)), (17, .v (.int .i64 r10.2))] (.cons (.refl _) (.cons (.refl _) (.cons (.refl _) (.cons (.refl _) (.cons (.refl _) (.cons (.refl _) (.cons (.refl _) (.cons (.refl _) (.cons (.refl _) (.cons (.refl _) (.cons (.refl _) (.cons (.refl _) .nil)))))))))))) ?_
      refine r_seq ?_
      refine r_region (n := 7) rfl ?_
      refine o_load (v := .agg [.v (.int .i64 a0.Letters), .v (.int .i64 a0.Numbers), .v (.int .i64 a0.Pitch), .v (.int .i64 a0.Slack), .v (.int .i64 a0.Gap), .v (.int .i64 a0.Pause), .v (.int .i64 a0.Sparks), .sl .no 1 (a0.Times.map cI)]) 1 hS (by decide) rfl rfl .no (part_agg ty_agg24 (Nat.le_of_ble_eq_true rfl) rfl) ?_
      obtain ⟨r11, hr11, hM⟩ := bindE hM
      refine o_call (bs := [.agg [.v (.int .i64 a0.Letters), .v (.int .i64 a0.Numbers), .v (.int .i64 a0.Pitch), .v (.int .i64 a0.Slack), .v (.int .i64 a0.Gap), .v (.int .i64 a0.Pause), .v (.int .i64 a0.Sparks), .sl .no 1 (a0.Times.map cI)]]) (by decide) rfl rfl ((W_pulses_Fewest hr11).le (.cons (.refl _) .nil)) ?_
      refine o_move (v := .tup [.v (.int .i64 r11.1), .v (.int .i64 r11.2)]) (by decide) rfl ?_
      refine o_extract (v := .v (.int .i64 r11.1)) (by decide) rfl rfl ?_
      refine o_extract (v := .v (.int .i64 r11.2)) (by decide) rfl rfl ?_
      refine o_assign (v := .v (.int .i64 r11.1)) (by decide) rfl ?_
      refine o_assign (v := .v (.int .i64 r11.2)) (by decide) rfl ?_
      refine run_nil ?_
      replace hS := hS.keep (L' := [(g1 + 4 + 8 + 7 + 9 + 6, .cells [.v (.int .i64 r8.1.Low), .v (.int .i64 r8.1.High)])]) [true, false] rfl
      refine w_next [(1, .sl .no 1 (a1.map cI)), (2, .v (.int .i64 a2)), (8, .sl .no 1 (r6.1.map cI)), (9, .v (.int .i64 r6.2)), (10, .sl .no 1 (r7.1.map cI)), (12, .ptr (g1 + 4 + 8 + 7 + 9 + 6) 0), (13, .v (.int .i64 r8.2)), (14, .sl .no 1 (r9.1.map cI)), (15, .v (.int .i64 r9.2)), (16, .sl .no 1 (r10.1.map cI)), (17, .v (.int .i64 r10.2)), (18, .v (.int .i64 r11.1)), (19, .v (.int .i64 r11.2))] (.cons (.refl _) (.cons (.refl _) (.cons (.refl _) (.cons (.refl _) (.cons (.refl _) (.cons (.refl _) (.cons (.refl _) (.cons (.refl _) (.cons (.refl _) (.cons (.refl _) (.cons (.refl _) (.cons (.refl _) (.cons (.refl _) .nil))))))))))))) ?_
      refine r_seq ?_
      refine w_join (J := Bool) (fun j => [(1, .sl .no 1 (a1.map cI)), (2, .v (.int .i64 a2)), (10, .sl .no 1 (r7.1.map cI)), (12, .ptr (g1 + 4 + 8 + 7 + 9 + 6) 0), (14, .sl .no 1 (r9.1.map cI)), (127, .v (.bool j))]) (fun j H' g' => St (· < g) H0 [(g1 + 4 + 8 + 7 + 9 + 6, .cells [.v (.int .i64 r8.1.Low), .v (.int .i64 r8.1.High)])] H' g' ∧ law13_PulsesEach_j2 n a1 a2 r7 r8 r9 j = some r) ?_ ?_
      · rintro v12 H g2 ⟨hS, hM⟩
        change wpA _ _ _ _ (Fr.of [(1, .sl .no 1 (a1.map cI)), (2, .v (.int .i64 a2)), (10, .sl .no 1 (r7.1.map cI)), (12, .ptr (g1 + 4 + 8 + 7 + 9 + 6) 0), (14, .sl .no 1 (r9.1.map cI)), (127, .v (.bool v12))]) _ _
        replace hS : St (· < g) H0 [(g1 + 4 + 8 + 7 + 9 + 6, .cells [.v (.int .i64 r8.1.Low), .v (.int .i64 r8.1.High)])] H g2 := hS
        replace hM : law13_PulsesEach_j2 n a1 a2 r7 r8 r9 v12 = some r := hM
        rcases Bool.eq_false_or_eq_true v12 with hb13 | hb13
        · replace hM := ifT hM hb13
          refine w_condT (e := v12) rfl hb13 ?_
          refine r_seq ?_
          refine r_region (n := 1) rfl ?_
          refine o_assign (v := .v (.bool false)) (by decide) rfl ?_
          refine run_nil ?_
          replace hS := hS.keep (L' := []) [false] rfl
          refine w_next [(6, .v (.bool false))] (.cons (.refl _) .nil) ?_
          refine r_ret ?_
          refine r_then_ret ?_
          refine w_end (x := .v (.bool false)) (f := fun r => .v (.bool r)) (.inr rfl) ?_ (.refl _) (Option.some.inj hM) hS
          exact (res_one (res_tmp (x := .v (.bool false)) rfl))
        · replace hM := ifF hM hb13
          refine w_condF (e := v12) rfl hb13 ?_
          refine r_skip ?_
          refine w_next [(1, .sl .no 1 (a1.map cI)), (2, .v (.int .i64 a2)), (10, .sl .no 1 (r7.1.map cI)), (12, .ptr (g1 + 4 + 8 + 7 + 9 + 6) 0), (14, .sl .no 1 (r9.1.map cI))] (.cons (.refl _) (.cons (.refl _) (.cons (.refl _) (.cons (.refl _) (.cons (.refl _) .nil))))) ?_
          refine w_join (J := Unit) (fun j => [(2, .v (.int .i64 a2)), (10, .sl .no 1 (r7.1.map cI)), (12, .ptr (g1 + 4 + 8 + 7 + 9 + 6) 0)]) (fun j H' g' => St (· < g) H0 [(g1 + 4 + 8 + 7 + 9 + 6, .cells [.v (.int .i64 r8.1.Low), .v (.int .i64 r8.1.High)])] H' g' ∧ law13_PulsesEach_j3 n a2 r7 r8 = some r) ?_ ?_
          · rintro _ H g3 ⟨hS, hM⟩
            change wpA _ _ _ _ (Fr.of [(2, .v (.int .i64 a2)), (10, .sl .no 1 (r7.1.map cI)), (12, .ptr (g1 + 4 + 8 + 7 + 9 + 6) 0)]) _ _
            replace hS : St (· < g) H0 [(g1 + 4 + 8 + 7 + 9 + 6, .cells [.v (.int .i64 r8.1.Low), .v (.int .i64 r8.1.High)])] H g3 := hS
            replace hM : law13_PulsesEach_j3 n a2 r7 r8 = some r := hM
            refine w_join (J := Bool) (fun j => [(6, .v (.bool j))]) (fun j H' g' => St (· < g) H0 [] H' g' ∧ law13_PulsesEach_j4 j = some r) ?_ ?_
            · rintro v14 H g4 ⟨hS, hM⟩
              change wpA _ _ _ _ (Fr.of [(6, .v (.bool v14))]) _ _
              replace hS : St (· < g) H0 [] H g4 := hS
              replace hM : law13_PulsesEach_j4 v14 = some r := hM
              refine r_ret ?_
              refine w_end (x := .v (.bool v14)) (f := fun r => .v (.bool r)) (.inr rfl) ?_ (.refl _) (Option.some.inj hM) hS
              exact (res_one (res_tmp (x := .v (.bool v14)) rfl))
            · have hS0 := hS
              refine r_draw (n := 12) rfl (by kernel_rfl) ?_
              refine o_move (v := .sl .no 1 (r7.1.map cI)) (by decide) rfl ?_
              refine o_move (v := .v (.int .i64 a2)) (by decide) rfl ?_
              obtain ⟨r15, hr15, hM⟩ := bindE hM
              refine o_call (bs := [.sl .no 1 (r7.1.map cI), .v (.int .i64 a2)]) (by decide) rfl rfl ((W_ref13_Count hr15).le (.cons (.refl _) (.cons (.refl _) .nil))) ?_
              refine o_fieldP (by decide) ty_fo44_0 rfl ?_
              refine o_load (v := .v (.int .i64 r8.1.Low)) 0 hS (by decide) rfl rfl (.st hS0 0 rfl (by omega)) (part_one ty_agg3 ty_sc3 rfl) ?_
              refine o_fieldP (by decide) ty_fo44_1 rfl ?_
              refine o_load (v := .v (.int .i64 r8.1.High)) 0 hS (by decide) rfl rfl (.st hS0 0 rfl (by omega)) (part_one ty_agg3 ty_sc3 rfl) ?_
              obtain ⟨r16, hr16, hM⟩ := bindE hM
              refine o_call (bs := [.v (.int .i64 r15), .v (.int .i64 r8.1.Low), .v (.int .i64 r8.1.High)]) (by decide) rfl rfl ((W_ref01_Within hr16).le (.cons (.refl _) (.cons (.refl _) (.cons (.refl _) .nil)))) ?_
              refine o_move (v := .v (.bool r16)) (by decide) rfl ?_
              rcases Bool.eq_false_or_eq_true r16 with hb17 | hb17
              · replace hM := ifT hM hb17
                refine o_guardY (j := 8) (e := r16) (want := true) rfl hb17 ?_
                obtain ⟨r18, hr18, hM⟩ := bindE hM
                refine o_call (bs := []) (by decide) rfl rfl ((W_law13_works hr18).le .nil) ?_
                refine o_pickT (v := .v (.bool r18)) (e := r16) (by decide) rfl hb17 rfl ?_
                refine o_assign (v := .v (.bool r18)) (by decide) rfl ?_
                refine run_nil ?_
                exact w_goto r18 (.cons (.refl _) .nil) ⟨(hS.keep [false] rfl).up (by omega), hM⟩
              · replace hM := ifF hM hb17
                refine o_guardN (j := 8) (e := r16) (want := true) (by decide) rfl hb17 ?_
                refine o_pickF (v := .v (.bool false)) (e := r16) (by decide) rfl hb17 rfl ?_
                refine o_assign (v := .v (.bool false)) (by decide) rfl ?_
                refine run_nil ?_
                exact w_goto false (.cons (.refl _) .nil) ⟨(hS.keep [false] rfl).up (by omega), hM⟩
          · refine r_seq ?_
            refine r_region (n := 1) rfl ?_
            refine o_assign (v := .v (.int .i64 0)) (by decide) rfl ?_
            refine run_nil ?_
            refine w_next [(1, .sl .no 1 (a1.map cI)), (2, .v (.int .i64 a2)), (10, .sl .no 1 (r7.1.map cI)), (12, .ptr (g1 + 4 + 8 + 7 + 9 + 6) 0), (14, .sl .no 1 (r9.1.map cI)), (20, .v (.int .i64 0))] (.cons (.refl _) (.cons (.refl _) (.cons (.refl _) (.cons (.refl _) (.cons (.refl _) (.cons (.refl _) .nil)))))) ?_
            refine r_block ?_
            refine w_loop (V := Int) (fun v => [(1, .sl .no 1 (a1.map cI)), (2, .v (.int .i64 a2)), (10, .sl .no 1 (r7.1.map cI)), (12, .ptr (g1 + 4 + 8 + 7 + 9 + 6) 0), (14, .sl .no 1 (r9.1.map cI)), (20, .v (.int .i64 v))]) (fun v m5 H' g' => St (· < g) H0 [(g1 + 4 + 8 + 7 + 9 + 6, .cells [.v (.int .i64 r8.1.Low), .v (.int .i64 r8.1.High)])] H' g' ∧ law13_PulsesEach_l1 n a1 a2 r7 r8 r9 m5 v = some r) (n := n) 0 (.cons (.refl _) (.cons (.refl _) (.cons (.refl _) (.cons (.refl _) (.cons (.refl _) (.cons (.refl _) .nil)))))) ⟨(hS.keep [true] rfl).up (by omega), hM⟩ ?_
            rintro v19 m5 H g5 ⟨hS, hM⟩
            obtain _ | m5 := m5
            · exact nomatch (show none = some _ from hM)
            change wpA _ _ _ _ (Fr.of [(1, .sl .no 1 (a1.map cI)), (2, .v (.int .i64 a2)), (10, .sl .no 1 (r7.1.map cI)), (12, .ptr (g1 + 4 + 8 + 7 + 9 + 6) 0), (14, .sl .no 1 (r9.1.map cI)), (20, .v (.int .i64 v19))]) _ _
            replace hS : St (· < g) H0 [(g1 + 4 + 8 + 7 + 9 + 6, .cells [.v (.int .i64 r8.1.Low), .v (.int .i64 r8.1.High)])] H g5 := hS
            replace hM : law13_PulsesEach_l1_b n a1 a2 r7 r8 r9 (law13_PulsesEach_l1 n a1 a2 r7 r8 r9 m5) v19 = some r := hM
            refine r_seq ?_
            refine r_seq ?_
            refine r_region (n := 4) rfl ?_
            refine o_move (v := .v (.int .i64 v19)) (by decide) rfl ?_
            refine o_move (v := .sl .no 1 (a1.map cI)) (by decide) rfl ?_
            refine o_len (n := a1.length) (by decide) rfl (List.length_map _) ty_isl22 ?_
            refine o_int (v := .v (.bool (decide (v19 < (a1.length : Int))))) (by decide) rfl rfl rfl ?_
            refine run_nil ?_
            refine w_next [(1, .sl .no 1 (a1.map cI)), (2, .v (.int .i64 a2)), (10, .sl .no 1 (r7.1.map cI)), (12, .ptr (g1 + 4 + 8 + 7 + 9 + 6) 0), (14, .sl .no 1 (r9.1.map cI)), (20, .v (.int .i64 v19)), (131, .v (.bool (decide (v19 < (a1.length : Int)))))] (.cons (.refl _) (.cons (.refl _) (.cons (.refl _) (.cons (.refl _) (.cons (.refl _) (.cons (.refl _) (.cons (.refl _) .nil))))))) ?_
            rcases Bool.eq_false_or_eq_true (decide (v19 < (a1.length : Int))) with hb20 | hb20
            · replace hM := ifT hM hb20
              refine w_condT (e := (decide (v19 < (a1.length : Int)))) rfl hb20 ?_
              refine r_skip ?_
              refine w_next [(1, .sl .no 1 (a1.map cI)), (2, .v (.int .i64 a2)), (10, .sl .no 1 (r7.1.map cI)), (12, .ptr (g1 + 4 + 8 + 7 + 9 + 6) 0), (14, .sl .no 1 (r9.1.map cI)), (20, .v (.int .i64 v19))] (.cons (.refl _) (.cons (.refl _) (.cons (.refl _) (.cons (.refl _) (.cons (.refl _) (.cons (.refl _) .nil)))))) ?_
              refine r_seq ?_
              refine r_block ?_
              refine r_seq ?_
              refine r_region (n := 6) rfl ?_
              refine o_move (v := .sl .no 1 (r9.1.map cI)) (by decide) rfl ?_
              refine o_move (v := .sl .no 1 (a1.map cI)) (by decide) rfl ?_
              refine o_move (v := .v (.int .i64 v19)) (by decide) rfl ?_
              obtain ⟨x21, hx21, hM⟩ := bindE hM
              refine o_index (xs := a1) (f := cI) (z := v19) (u := x21) (by decide) rfl rfl ty_es22 hx21 ?_
              refine o_loadE (v := .v (.int .i64 x21)) (by decide) rfl (part_one ty_agg3 ty_sc3 rfl) ?_
              obtain ⟨r22, hr22, hM⟩ := bindE hM
              refine o_call (bs := [.sl .no 1 (r9.1.map cI), .v (.int .i64 x21)]) (by decide) rfl rfl ((W_ref01_In hr22).le (.cons (.refl _) (.cons (.refl _) .nil))) ?_
              refine run_nil ?_
              refine w_next [(1, .sl .no 1 (a1.map cI)), (2, .v (.int .i64 a2)), (10, .sl .no 1 (r7.1.map cI)), (12, .ptr (g1 + 4 + 8 + 7 + 9 + 6) 0), (14, .sl .no 1 (r9.1.map cI)), (20, .v (.int .i64 v19)), (139, .v (.bool r22))] (.cons (.refl _) (.cons (.refl _) (.cons (.refl _) (.cons (.refl _) (.cons (.refl _) (.cons (.refl _) (.cons (.refl _) .nil))))))) ?_
              rcases Bool.eq_false_or_eq_true r22 with hb23 | hb23
              · replace hM := ifT hM hb23
                refine w_condT (e := r22) rfl hb23 ?_
                refine r_seq ?_
                refine r_region (n := 1) rfl ?_
                refine o_assign (v := .v (.bool false)) (by decide) rfl ?_
                refine run_nil ?_
                replace hS := hS.keep (L' := []) [false] rfl
                refine w_next [(6, .v (.bool false))] (.cons (.refl _) .nil) ?_
                refine r_ret ?_
                refine r_blk_ret ?_
                refine r_then_ret ?_
                refine w_round_ret ?_
                refine r_blk_ret ?_
                refine w_goto_ret ?_
                refine w_end (x := .v (.bool false)) (f := fun r => .v (.bool r)) (.inr rfl) ?_ (.refl _) (Option.some.inj hM) hS
                exact (res_one (res_tmp (x := .v (.bool false)) rfl))
              · replace hM := ifF hM hb23
                refine w_condF (e := r22) rfl hb23 ?_
                refine r_skip ?_
                refine r_blk_normal ?_
                refine w_next [(1, .sl .no 1 (a1.map cI)), (2, .v (.int .i64 a2)), (10, .sl .no 1 (r7.1.map cI)), (12, .ptr (g1 + 4 + 8 + 7 + 9 + 6) 0), (14, .sl .no 1 (r9.1.map cI)), (20, .v (.int .i64 v19))] (.cons (.refl _) (.cons (.refl _) (.cons (.refl _) (.cons (.refl _) (.cons (.refl _) (.cons (.refl _) .nil)))))) ?_
                refine r_region (n := 3) rfl ?_
                refine o_move (v := .v (.int .i64 v19)) (by decide) rfl ?_
                refine o_int (v := .v (.int .i64 (w64 (v19 + 1)))) (by decide) rfl rfl rfl ?_
                refine o_assign (v := .v (.int .i64 (w64 (v19 + 1)))) (by decide) rfl ?_
                refine run_nil ?_
                exact w_round (w64 (v19 + 1)) (Nat.lt_succ_self _) (.cons (.refl _) (.cons (.refl _) (.cons (.refl _) (.cons (.refl _) (.cons (.refl _) (.cons (.refl _) .nil)))))) ⟨(hS.keep [true] rfl).up (by omega), hM⟩
            · replace hM := ifF hM hb20
              refine w_condF (e := (decide (v19 < (a1.length : Int)))) rfl hb20 ?_
              refine r_exit ?_
              refine r_then_exit ?_
              refine w_round_exit ?_
              refine r_blk_exit ?_
              exact w_goto () (.cons (.refl _) (.cons (.refl _) (.cons (.refl _) .nil))) ⟨(hS.keep [true] rfl).up (by omega), hM⟩
      · refine r_region (n := 45) rfl ?_
        refine o_move (v := .v (.int .i64 r6.2)) (by decide) rfl ?_
        refine o_int (v := .v (.bool (r6.2 != 0))) (by decide) rfl rfl rfl ?_
        refine o_move (v := .v (.bool (r6.2 != 0))) (by decide) rfl ?_
        rcases Bool.eq_false_or_eq_true (r6.2 != 0) with hb24 | hb24
        · replace hM := ifT hM hb24
          refine o_guardN (j := 2) (e := (r6.2 != 0)) (want := false) (by decide) rfl hb24 ?_
          refine o_guardN (j := 2) (e := (r6.2 != 0)) (want := false) (by decide) rfl hb24 ?_
          refine o_pickT (v := .v (.bool true)) (e := (r6.2 != 0)) (by decide) rfl hb24 rfl ?_
          refine o_move (v := .v (.bool true)) (by decide) rfl ?_
          refine o_guardN (j := 6) (e := true) (want := false) (by decide) rfl rfl ?_
          refine o_guardN (j := 6) (e := true) (want := false) (by decide) rfl rfl ?_
          refine o_pickT (v := .v (.bool true)) (e := true) (by decide) rfl rfl rfl ?_
          refine o_move (v := .v (.bool true)) (by decide) rfl ?_
          refine o_guardN (j := 10) (e := true) (want := false) (by decide) rfl rfl ?_
          refine o_guardN (j := 10) (e := true) (want := false) (by decide) rfl rfl ?_
          refine o_pickT (v := .v (.bool true)) (e := true) (by decide) rfl rfl rfl ?_
          refine o_move (v := .v (.bool true)) (by decide) rfl ?_
          refine o_guardN (j := 14) (e := true) (want := false) (by decide) rfl rfl ?_
          refine o_guardN (j := 14) (e := true) (want := false) (by decide) rfl rfl ?_
          refine o_pickT (v := .v (.bool true)) (e := true) (by decide) rfl rfl rfl ?_
          refine o_move (v := .v (.bool true)) (by decide) rfl ?_
          refine o_guardN (j := 18) (e := true) (want := false) (by decide) rfl rfl ?_
          refine o_guardN (j := 18) (e := true) (want := false) (by decide) rfl rfl ?_
          refine o_guardN (j := 18) (e := true) (want := false) (by decide) rfl rfl ?_
          refine o_guardN (j := 18) (e := true) (want := false) (by decide) rfl rfl ?_
          refine o_pickT (v := .v (.bool true)) (e := true) (by decide) rfl rfl rfl ?_
          refine o_move (v := .v (.bool true)) (by decide) rfl ?_
          refine o_guardN (j := 24) (e := true) (want := false) (by decide) rfl rfl ?_
          refine o_guardN (j := 24) (e := true) (want := false) (by decide) rfl rfl ?_
          refine o_guardN (j := 24) (e := true) (want := false) (by decide) rfl rfl ?_
          refine o_guardN (j := 24) (e := true) (want := false) (by decide) rfl rfl ?_
          refine o_pickT (v := .v (.bool true)) (e := true) (by decide) rfl rfl rfl ?_
          refine o_move (v := .v (.bool true)) (by decide) rfl ?_
          refine o_guardN (j := 30) (e := true) (want := false) (by decide) rfl rfl ?_
          refine o_guardN (j := 30) (e := true) (want := false) (by decide) rfl rfl ?_
          refine o_pickT (v := .v (.bool true)) (e := true) (by decide) rfl rfl rfl ?_
          refine o_move (v := .v (.bool true)) (by decide) rfl ?_
          refine o_guardN (j := 34) (e := true) (want := false) (by decide) rfl rfl ?_
          refine o_guardN (j := 34) (e := true) (want := false) (by decide) rfl rfl ?_
          refine o_guardN (j := 34) (e := true) (want := false) (by decide) rfl rfl ?_
          refine o_guardN (j := 34) (e := true) (want := false) (by decide) rfl rfl ?_
          refine o_pickT (v := .v (.bool true)) (e := true) (by decide) rfl rfl rfl ?_
          refine o_move (v := .v (.bool true)) (by decide) rfl ?_
          refine o_guardN (j := 40) (e := true) (want := false) (by decide) rfl rfl ?_
          refine o_guardN (j := 40) (e := true) (want := false) (by decide) rfl rfl ?_
          refine o_guardN (j := 40) (e := true) (want := false) (by decide) rfl rfl ?_
          refine o_pickT (v := .v (.bool true)) (e := true) (by decide) rfl rfl rfl ?_
          refine run_nil ?_
          exact w_goto true (.cons (.refl _) (.cons (.refl _) (.cons (.refl _) (.cons (.refl _) (.cons (.refl _) (.cons (.refl _) .nil)))))) ⟨(hS.keep [true] rfl).up (by omega), hM⟩
        · replace hM := ifF hM hb24
          refine o_guardY (j := 2) (e := (r6.2 != 0)) (want := false) rfl hb24 ?_
          refine o_move (v := .v (.int .i64 r8.2)) (by decide) rfl ?_
          refine o_guardY (j := 2) (e := (r6.2 != 0)) (want := false) rfl hb24 ?_
          refine o_int (v := .v (.bool (r8.2 != 0))) (by decide) rfl rfl rfl ?_
          refine o_pickF (v := .v (.bool (r8.2 != 0))) (e := (r6.2 != 0)) (by decide) rfl hb24 rfl ?_
          refine o_move (v := .v (.bool (r8.2 != 0))) (by decide) rfl ?_
          rcases Bool.eq_false_or_eq_true (r8.2 != 0) with hb25 | hb25
          · replace hM := ifT hM hb25
            refine o_guardN (j := 6) (e := (r8.2 != 0)) (want := false) (by decide) rfl hb25 ?_
            refine o_guardN (j := 6) (e := (r8.2 != 0)) (want := false) (by decide) rfl hb25 ?_
            refine o_pickT (v := .v (.bool true)) (e := (r8.2 != 0)) (by decide) rfl hb25 rfl ?_
            refine o_move (v := .v (.bool true)) (by decide) rfl ?_
            refine o_guardN (j := 10) (e := true) (want := false) (by decide) rfl rfl ?_
            refine o_guardN (j := 10) (e := true) (want := false) (by decide) rfl rfl ?_
            refine o_pickT (v := .v (.bool true)) (e := true) (by decide) rfl rfl rfl ?_
            refine o_move (v := .v (.bool true)) (by decide) rfl ?_
            refine o_guardN (j := 14) (e := true) (want := false) (by decide) rfl rfl ?_
            refine o_guardN (j := 14) (e := true) (want := false) (by decide) rfl rfl ?_
            refine o_pickT (v := .v (.bool true)) (e := true) (by decide) rfl rfl rfl ?_
            refine o_move (v := .v (.bool true)) (by decide) rfl ?_
            refine o_guardN (j := 18) (e := true) (want := false) (by decide) rfl rfl ?_
            refine o_guardN (j := 18) (e := true) (want := false) (by decide) rfl rfl ?_
            refine o_guardN (j := 18) (e := true) (want := false) (by decide) rfl rfl ?_
            refine o_guardN (j := 18) (e := true) (want := false) (by decide) rfl rfl ?_
            refine o_pickT (v := .v (.bool true)) (e := true) (by decide) rfl rfl rfl ?_
            refine o_move (v := .v (.bool true)) (by decide) rfl ?_
            refine o_guardN (j := 24) (e := true) (want := false) (by decide) rfl rfl ?_
            refine o_guardN (j := 24) (e := true) (want := false) (by decide) rfl rfl ?_
            refine o_guardN (j := 24) (e := true) (want := false) (by decide) rfl rfl ?_
            refine o_guardN (j := 24) (e := true) (want := false) (by decide) rfl rfl ?_
            refine o_pickT (v := .v (.bool true)) (e := true) (by decide) rfl rfl rfl ?_
            refine o_move (v := .v (.bool true)) (by decide) rfl ?_
            refine o_guardN (j := 30) (e := true) (want := false) (by decide) rfl rfl ?_
            refine o_guardN (j := 30) (e := true) (want := false) (by decide) rfl rfl ?_
            refine o_pickT (v := .v (.bool true)) (e := true) (by decide) rfl rfl rfl ?_
            refine o_move (v := .v (.bool true)) (by decide) rfl ?_
            refine o_guardN (j := 34) (e := true) (want := false) (by decide) rfl rfl ?_
            refine o_guardN (j := 34) (e := true) (want := false) (by decide) rfl rfl ?_
            refine o_guardN (j := 34) (e := true) (want := false) (by decide) rfl rfl ?_
            refine o_guardN (j := 34) (e := true) (want := false) (by decide) rfl rfl ?_
            refine o_pickT (v := .v (.bool true)) (e := true) (by decide) rfl rfl rfl ?_
            refine o_move (v := .v (.bool true)) (by decide) rfl ?_
            refine o_guardN (j := 40) (e := true) (want := false) (by decide) rfl rfl ?_
            refine o_guardN (j := 40) (e := true) (want := false) (by decide) rfl rfl ?_
            refine o_guardN (j := 40) (e := true) (want := false) (by decide) rfl rfl ?_
            refine o_pickT (v := .v (.bool true)) (e := true) (by decide) rfl rfl rfl ?_
            refine run_nil ?_
            exact w_goto true (.cons (.refl _) (.cons (.refl _) (.cons (.refl _) (.cons (.refl _) (.cons (.refl _) (.cons (.refl _) .nil)))))) ⟨(hS.keep [true] rfl).up (by omega), hM⟩
          · replace hM := ifF hM hb25
            refine o_guardY (j := 6) (e := (r8.2 != 0)) (want := false) rfl hb25 ?_
            refine o_move (v := .v (.int .i64 r9.2)) (by decide) rfl ?_
            refine o_guardY (j := 6) (e := (r8.2 != 0)) (want := false) rfl hb25 ?_
            refine o_int (v := .v (.bool (r9.2 != 0))) (by decide) rfl rfl rfl ?_
            refine o_pickF (v := .v (.bool (r9.2 != 0))) (e := (r8.2 != 0)) (by decide) rfl hb25 rfl ?_
            refine o_move (v := .v (.bool (r9.2 != 0))) (by decide) rfl ?_
            rcases Bool.eq_false_or_eq_true (r9.2 != 0) with hb26 | hb26
            · replace hM := ifT hM hb26
              refine o_guardN (j := 10) (e := (r9.2 != 0)) (want := false) (by decide) rfl hb26 ?_
              refine o_guardN (j := 10) (e := (r9.2 != 0)) (want := false) (by decide) rfl hb26 ?_
              refine o_pickT (v := .v (.bool true)) (e := (r9.2 != 0)) (by decide) rfl hb26 rfl ?_
              refine o_move (v := .v (.bool true)) (by decide) rfl ?_
              refine o_guardN (j := 14) (e := true) (want := false) (by decide) rfl rfl ?_
              refine o_guardN (j := 14) (e := true) (want := false) (by decide) rfl rfl ?_
              refine o_pickT (v := .v (.bool true)) (e := true) (by decide) rfl rfl rfl ?_
              refine o_move (v := .v (.bool true)) (by decide) rfl ?_
              refine o_guardN (j := 18) (e := true) (want := false) (by decide) rfl rfl ?_
              refine o_guardN (j := 18) (e := true) (want := false) (by decide) rfl rfl ?_
              refine o_guardN (j := 18) (e := true) (want := false) (by decide) rfl rfl ?_
              refine o_guardN (j := 18) (e := true) (want := false) (by decide) rfl rfl ?_
              refine o_pickT (v := .v (.bool true)) (e := true) (by decide) rfl rfl rfl ?_
              refine o_move (v := .v (.bool true)) (by decide) rfl ?_
              refine o_guardN (j := 24) (e := true) (want := false) (by decide) rfl rfl ?_
              refine o_guardN (j := 24) (e := true) (want := false) (by decide) rfl rfl ?_
              refine o_guardN (j := 24) (e := true) (want := false) (by decide) rfl rfl ?_
              refine o_guardN (j := 24) (e := true) (want := false) (by decide) rfl rfl ?_
              refine o_pickT (v := .v (.bool true)) (e := true) (by decide) rfl rfl rfl ?_
              refine o_move (v := .v (.bool true)) (by decide) rfl ?_
              refine o_guardN (j := 30) (e := true) (want := false) (by decide) rfl rfl ?_
              refine o_guardN (j := 30) (e := true) (want := false) (by decide) rfl rfl ?_
              refine o_pickT (v := .v (.bool true)) (e := true) (by decide) rfl rfl rfl ?_
              refine o_move (v := .v (.bool true)) (by decide) rfl ?_
              refine o_guardN (j := 34) (e := true) (want := false) (by decide) rfl rfl ?_
              refine o_guardN (j := 34) (e := true) (want := false) (by decide) rfl rfl ?_
              refine o_guardN (j := 34) (e := true) (want := false) (by decide) rfl rfl ?_
              refine o_guardN (j := 34) (e := true) (want := false) (by decide) rfl rfl ?_
              refine o_pickT (v := .v (.bool true)) (e := true) (by decide) rfl rfl rfl ?_
              refine o_move (v := .v (.bool true)) (by decide) rfl ?_
              refine o_guardN (j := 40) (e := true) (want := false) (by decide) rfl rfl ?_
              refine o_guardN (j := 40) (e := true) (want := false) (by decide) rfl rfl ?_
              refine o_guardN (j := 40) (e := true) (want := false) (by decide) rfl rfl ?_
              refine o_pickT (v := .v (.bool true)) (e := true) (by decide) rfl rfl rfl ?_
              refine run_nil ?_
              exact w_goto true (.cons (.refl _) (.cons (.refl _) (.cons (.refl _) (.cons (.refl _) (.cons (.refl _) (.cons (.refl _) .nil)))))) ⟨(hS.keep [true] rfl).up (by omega), hM⟩
            · replace hM := ifF hM hb26
              refine o_guardY (j := 10) (e := (r9.2 != 0)) (want := false) rfl hb26 ?_
              refine o_move (v := .v (.int .i64 r10.2)) (by decide) rfl ?_
              refine o_guardY (j := 10) (e := (r9.2 != 0)) (want := false) rfl hb26 ?_
              refine o_int (v := .v (.bool (r10.2 != 0))) (by decide) rfl rfl rfl ?_
              refine o_pickF (v := .v (.bool (r10.2 != 0))) (e := (r9.2 != 0)) (by decide) rfl hb26 rfl ?_
              refine o_move (v := .v (.bool (r10.2 != 0))) (by decide) rfl ?_
              rcases Bool.eq_false_or_eq_true (r10.2 != 0) with hb27 | hb27
              · replace hM := ifT hM hb27
                refine o_guardN (j := 14) (e := (r10.2 != 0)) (want := false) (by decide) rfl hb27 ?_
                refine o_guardN (j := 14) (e := (r10.2 != 0)) (want := false) (by decide) rfl hb27 ?_
                refine o_pickT (v := .v (.bool true)) (e := (r10.2 != 0)) (by decide) rfl hb27 rfl ?_
                refine o_move (v := .v (.bool true)) (by decide) rfl ?_
                refine o_guardN (j := 18) (e := true) (want := false) (by decide) rfl rfl ?_
                refine o_guardN (j := 18) (e := true) (want := false) (by decide) rfl rfl ?_
                refine o_guardN (j := 18) (e := true) (want := false) (by decide) rfl rfl ?_
                refine o_guardN (j := 18) (e := true) (want := false) (by decide) rfl rfl ?_
                refine o_pickT (v := .v (.bool true)) (e := true) (by decide) rfl rfl rfl ?_
                refine o_move (v := .v (.bool true)) (by decide) rfl ?_
                refine o_guardN (j := 24) (e := true) (want := false) (by decide) rfl rfl ?_
                refine o_guardN (j := 24) (e := true) (want := false) (by decide) rfl rfl ?_
                refine o_guardN (j := 24) (e := true) (want := false) (by decide) rfl rfl ?_
                refine o_guardN (j := 24) (e := true) (want := false) (by decide) rfl rfl ?_
                refine o_pickT (v := .v (.bool true)) (e := true) (by decide) rfl rfl rfl ?_
                refine o_move (v := .v (.bool true)) (by decide) rfl ?_
                refine o_guardN (j := 30) (e := true) (want := false) (by decide) rfl rfl ?_
                refine o_guardN (j := 30) (e := true) (want := false) (by decide) rfl rfl ?_
                refine o_pickT (v := .v (.bool true)) (e := true) (by decide) rfl rfl rfl ?_
                refine o_move (v := .v (.bool true)) (by decide) rfl ?_
                refine o_guardN (j := 34) (e := true) (want := false) (by decide) rfl rfl ?_
                refine o_guardN (j := 34) (e := true) (want := false) (by decide) rfl rfl ?_
                refine o_guardN (j := 34) (e := true) (want := false) (by decide) rfl rfl ?_
                refine o_guardN (j := 34) (e := true) (want := false) (by decide) rfl rfl ?_
                refine o_pickT (v := .v (.bool true)) (e := true) (by decide) rfl rfl rfl ?_
                refine o_move (v := .v (.bool true)) (by decide) rfl ?_
                refine o_guardN (j := 40) (e := true) (want := false) (by decide) rfl rfl ?_
                refine o_guardN (j := 40) (e := true) (want := false) (by decide) rfl rfl ?_
                refine o_guardN (j := 40) (e := true) (want := false) (by decide) rfl rfl ?_
                refine o_pickT (v := .v (.bool true)) (e := true) (by decide) rfl rfl rfl ?_
                refine run_nil ?_
                exact w_goto true (.cons (.refl _) (.cons (.refl _) (.cons (.refl _) (.cons (.refl _) (.cons (.refl _) (.cons (.refl _) .nil)))))) ⟨(hS.keep [true] rfl).up (by omega), hM⟩
              · replace hM := ifF hM hb27
                refine o_guardY (j := 14) (e := (r10.2 != 0)) (want := false) rfl hb27 ?_
                refine o_move (v := .v (.int .i64 r11.2)) (by decide) rfl ?_
                refine o_guardY (j := 14) (e := (r10.2 != 0)) (want := false) rfl hb27 ?_
                refine o_int (v := .v (.bool (r11.2 != 0))) (by decide) rfl rfl rfl ?_
                refine o_pickF (v := .v (.bool (r11.2 != 0))) (e := (r10.2 != 0)) (by decide) rfl hb27 rfl ?_
                refine o_move (v := .v (.bool (r11.2 != 0))) (by decide) rfl ?_
                rcases Bool.eq_false_or_eq_true (r11.2 != 0) with hb28 | hb28
                · replace hM := ifT hM hb28
                  refine o_guardN (j := 18) (e := (r11.2 != 0)) (want := false) (by decide) rfl hb28 ?_
                  refine o_guardN (j := 18) (e := (r11.2 != 0)) (want := false) (by decide) rfl hb28 ?_
                  refine o_guardN (j := 18) (e := (r11.2 != 0)) (want := false) (by decide) rfl hb28 ?_
                  refine o_guardN (j := 18) (e := (r11.2 != 0)) (want := false) (by decide) rfl hb28 ?_
                  refine o_pickT (v := .v (.bool true)) (e := (r11.2 != 0)) (by decide) rfl hb28 rfl ?_
                  refine o_move (v := .v (.bool true)) (by decide) rfl ?_
                  refine o_guardN (j := 24) (e := true) (want := false) (by decide) rfl rfl ?_
                  refine o_guardN (j := 24) (e := true) (want := false) (by decide) rfl rfl ?_
                  refine o_guardN (j := 24) (e := true) (want := false) (by decide) rfl rfl ?_
                  refine o_guardN (j := 24) (e := true) (want := false) (by decide) rfl rfl ?_
                  refine o_pickT (v := .v (.bool true)) (e := true) (by decide) rfl rfl rfl ?_
                  refine o_move (v := .v (.bool true)) (by decide) rfl ?_
                  refine o_guardN (j := 30) (e := true) (want := false) (by decide) rfl rfl ?_
                  refine o_guardN (j := 30) (e := true) (want := false) (by decide) rfl rfl ?_
                  refine o_pickT (v := .v (.bool true)) (e := true) (by decide) rfl rfl rfl ?_
                  refine o_move (v := .v (.bool true)) (by decide) rfl ?_
                  refine o_guardN (j := 34) (e := true) (want := false) (by decide) rfl rfl ?_
                  refine o_guardN (j := 34) (e := true) (want := false) (by decide) rfl rfl ?_
                  refine o_guardN (j := 34) (e := true) (want := false) (by decide) rfl rfl ?_
                  refine o_guardN (j := 34) (e := true) (want := false) (by decide) rfl rfl ?_
                  refine o_pickT (v := .v (.bool true)) (e := true) (by decide) rfl rfl rfl ?_
                  refine o_move (v := .v (.bool true)) (by decide) rfl ?_
                  refine o_guardN (j := 40) (e := true) (want := false) (by decide) rfl rfl ?_
                  refine o_guardN (j := 40) (e := true) (want := false) (by decide) rfl rfl ?_
                  refine o_guardN (j := 40) (e := true) (want := false) (by decide) rfl rfl ?_
                  refine o_pickT (v := .v (.bool true)) (e := true) (by decide) rfl rfl rfl ?_
                  refine run_nil ?_
                  exact w_goto true (.cons (.refl _) (.cons (.refl _) (.cons (.refl _) (.cons (.refl _) (.cons (.refl _) (.cons (.refl _) .nil)))))) ⟨(hS.keep [true] rfl).up (by omega), hM⟩
                · replace hM := ifF hM hb28
                  refine o_guardY (j := 18) (e := (r11.2 != 0)) (want := false) rfl hb28 ?_
                  refine o_move (v := .sl .no 1 (r6.1.map cI)) (by decide) rfl ?_
                  refine o_guardY (j := 18) (e := (r11.2 != 0)) (want := false) rfl hb28 ?_
                  refine o_move (v := .sl .no 1 (r7.1.map cI)) (by decide) rfl ?_
                  refine o_guardY (j := 18) (e := (r11.2 != 0)) (want := false) rfl hb28 ?_
                  obtain ⟨r29, hr29, hM⟩ := bindE hM
                  refine o_call (bs := [.sl .no 1 (r6.1.map cI), .sl .no 1 (r7.1.map cI)]) (by decide) rfl rfl ((W_ref01_SameInts hr29).le (.cons (.refl _) (.cons (.refl _) .nil))) ?_
                  refine o_guardY (j := 18) (e := (r11.2 != 0)) (want := false) rfl hb28 ?_
                  refine o_not (e := r29) (by decide) rfl ?_
                  refine o_pickF (v := .v (.bool (!r29))) (e := (r11.2 != 0)) (by decide) rfl hb28 rfl ?_
                  refine o_move (v := .v (.bool (!r29))) (by decide) rfl ?_
                  rcases Bool.eq_false_or_eq_true (!r29) with hb30 | hb30
                  · replace hM := ifT hM hb30
                    refine o_guardN (j := 24) (e := (!r29)) (want := false) (by decide) rfl hb30 ?_
                    refine o_guardN (j := 24) (e := (!r29)) (want := false) (by decide) rfl hb30 ?_
                    refine o_guardN (j := 24) (e := (!r29)) (want := false) (by decide) rfl hb30 ?_
                    refine o_guardN (j := 24) (e := (!r29)) (want := false) (by decide) rfl hb30 ?_
                    refine o_pickT (v := .v (.bool true)) (e := (!r29)) (by decide) rfl hb30 rfl ?_
                    refine o_move (v := .v (.bool true)) (by decide) rfl ?_
                    refine o_guardN (j := 30) (e := true) (want := false) (by decide) rfl rfl ?_
                    refine o_guardN (j := 30) (e := true) (want := false) (by decide) rfl rfl ?_
                    refine o_pickT (v := .v (.bool true)) (e := true) (by decide) rfl rfl rfl ?_
                    refine o_move (v := .v (.bool true)) (by decide) rfl ?_
                    refine o_guardN (j := 34) (e := true) (want := false) (by decide) rfl rfl ?_
                    refine o_guardN (j := 34) (e := true) (want := false) (by decide) rfl rfl ?_
                    refine o_guardN (j := 34) (e := true) (want := false) (by decide) rfl rfl ?_
                    refine o_guardN (j := 34) (e := true) (want := false) (by decide) rfl rfl ?_
                    refine o_pickT (v := .v (.bool true)) (e := true) (by decide) rfl rfl rfl ?_
                    refine o_move (v := .v (.bool true)) (by decide) rfl ?_
                    refine o_guardN (j := 40) (e := true) (want := false) (by decide) rfl rfl ?_
                    refine o_guardN (j := 40) (e := true) (want := false) (by decide) rfl rfl ?_
                    refine o_guardN (j := 40) (e := true) (want := false) (by decide) rfl rfl ?_
                    refine o_pickT (v := .v (.bool true)) (e := true) (by decide) rfl rfl rfl ?_
                    refine run_nil ?_
                    exact w_goto true (.cons (.refl _) (.cons (.refl _) (.cons (.refl _) (.cons (.refl _) (.cons (.refl _) (.cons (.refl _) .nil)))))) ⟨(hS.keep [true] rfl).up (by omega), hM⟩
                  · replace hM := ifF hM hb30
                    refine o_guardY (j := 24) (e := (!r29)) (want := false) rfl hb30 ?_
                    refine o_move (v := .sl .no 1 (r10.1.map cI)) (by decide) rfl ?_
                    refine o_guardY (j := 24) (e := (!r29)) (want := false) rfl hb30 ?_
                    refine o_move (v := .sl .no 1 (a1.map cI)) (by decide) rfl ?_
                    refine o_guardY (j := 24) (e := (!r29)) (want := false) rfl hb30 ?_
                    obtain ⟨r31, hr31, hM⟩ := bindE hM
                    refine o_call (bs := [.sl .no 1 (r10.1.map cI), .sl .no 1 (a1.map cI)]) (by decide) rfl rfl ((W_law13_isIn hr31).le (.cons (.refl _) (.cons (.refl _) .nil))) ?_
                    refine o_guardY (j := 24) (e := (!r29)) (want := false) rfl hb30 ?_
                    refine o_not (e := r31) (by decide) rfl ?_
                    refine o_pickF (v := .v (.bool (!r31))) (e := (!r29)) (by decide) rfl hb30 rfl ?_
                    refine o_move (v := .v (.bool (!r31))) (by decide) rfl ?_
                    rcases Bool.eq_false_or_eq_true (!r31) with hb32 | hb32
                    · replace hM := ifT hM hb32
                      refine o_guardN (j := 30) (e := (!r31)) (want := false) (by decide) rfl hb32 ?_
                      refine o_guardN (j := 30) (e := (!r31)) (want := false) (by decide) rfl hb32 ?_
                      refine o_pickT (v := .v (.bool true)) (e := (!r31)) (by decide) rfl hb32 rfl ?_
                      refine o_move (v := .v (.bool true)) (by decide) rfl ?_
                      refine o_guardN (j := 34) (e := true) (want := false) (by decide) rfl rfl ?_
                      refine o_guardN (j := 34) (e := true) (want := false) (by decide) rfl rfl ?_
                      refine o_guardN (j := 34) (e := true) (want := false) (by decide) rfl rfl ?_
                      refine o_guardN (j := 34) (e := true) (want := false) (by decide) rfl rfl ?_
                      refine o_pickT (v := .v (.bool true)) (e := true) (by decide) rfl rfl rfl ?_
                      refine o_move (v := .v (.bool true)) (by decide) rfl ?_
                      refine o_guardN (j := 40) (e := true) (want := false) (by decide) rfl rfl ?_
                      refine o_guardN (j := 40) (e := true) (want := false) (by decide) rfl rfl ?_
                      refine o_guardN (j := 40) (e := true) (want := false) (by decide) rfl rfl ?_
                      refine o_pickT (v := .v (.bool true)) (e := true) (by decide) rfl rfl rfl ?_
                      refine run_nil ?_
                      exact w_goto true (.cons (.refl _) (.cons (.refl _) (.cons (.refl _) (.cons (.refl _) (.cons (.refl _) (.cons (.refl _) .nil)))))) ⟨(hS.keep [true] rfl).up (by omega), hM⟩
                    · replace hM := ifF hM hb32
                      refine o_guardY (j := 30) (e := (!r31)) (want := false) rfl hb32 ?_
                      refine o_move (v := .v (.int .i64 r11.1)) (by decide) rfl ?_
                      refine o_guardY (j := 30) (e := (!r31)) (want := false) rfl hb32 ?_
                      refine o_int (v := .v (.bool (decide (r11.1 < 0)))) (by decide) rfl rfl rfl ?_
                      refine o_pickF (v := .v (.bool (decide (r11.1 < 0)))) (e := (!r31)) (by decide) rfl hb32 rfl ?_
                      refine o_move (v := .v (.bool (decide (r11.1 < 0)))) (by decide) rfl ?_
                      rcases Bool.eq_false_or_eq_true (decide (r11.1 < 0)) with hb33 | hb33
                      · replace hM := ifT hM hb33
                        refine o_guardN (j := 34) (e := (decide (r11.1 < 0))) (want := false) (by decide) rfl hb33 ?_
                        refine o_guardN (j := 34) (e := (decide (r11.1 < 0))) (want := false) (by decide) rfl hb33 ?_
                        refine o_guardN (j := 34) (e := (decide (r11.1 < 0))) (want := false) (by decide) rfl hb33 ?_
                        refine o_guardN (j := 34) (e := (decide (r11.1 < 0))) (want := false) (by decide) rfl hb33 ?_
                        refine o_pickT (v := .v (.bool true)) (e := (decide (r11.1 < 0))) (by decide) rfl hb33 rfl ?_
                        refine o_move (v := .v (.bool true)) (by decide) rfl ?_
                        refine o_guardN (j := 40) (e := true) (want := false) (by decide) rfl rfl ?_
                        refine o_guardN (j := 40) (e := true) (want := false) (by decide) rfl rfl ?_
                        refine o_guardN (j := 40) (e := true) (want := false) (by decide) rfl rfl ?_
                        refine o_pickT (v := .v (.bool true)) (e := true) (by decide) rfl rfl rfl ?_
                        refine run_nil ?_
                        exact w_goto true (.cons (.refl _) (.cons (.refl _) (.cons (.refl _) (.cons (.refl _) (.cons (.refl _) (.cons (.refl _) .nil)))))) ⟨(hS.keep [true] rfl).up (by omega), hM⟩
                      · replace hM := ifF hM hb33
                        refine o_guardY (j := 34) (e := (decide (r11.1 < 0))) (want := false) rfl hb33 ?_
                        refine o_move (v := .v (.int .i64 r11.1)) (by decide) rfl ?_
                        refine o_guardY (j := 34) (e := (decide (r11.1 < 0))) (want := false) rfl hb33 ?_
                        refine o_move (v := .sl .no 1 (a1.map cI)) (by decide) rfl ?_
                        refine o_guardY (j := 34) (e := (decide (r11.1 < 0))) (want := false) rfl hb33 ?_
                        refine o_len (n := a1.length) (by decide) rfl (List.length_map _) ty_isl22 ?_
                        refine o_guardY (j := 34) (e := (decide (r11.1 < 0))) (want := false) rfl hb33 ?_
                        refine o_int (v := .v (.bool (decide (r11.1 > (a1.length : Int))))) (by decide) rfl rfl rfl ?_
                        refine o_pickF (v := .v (.bool (decide (r11.1 > (a1.length : Int))))) (e := (decide (r11.1 < 0))) (by decide) rfl hb33 rfl ?_
                        refine o_move (v := .v (.bool (decide (r11.1 > (a1.length : Int))))) (by decide) rfl ?_
                        rcases Bool.eq_false_or_eq_true (decide (r11.1 > (a1.length : Int))) with hb34 | hb34
                        · replace hM := ifT hM hb34
                          refine o_guardN (j := 40) (e := (decide (r11.1 > (a1.length : Int)))) (want := false) (by decide) rfl hb34 ?_
                          refine o_guardN (j := 40) (e := (decide (r11.1 > (a1.length : Int)))) (want := false) (by decide) rfl hb34 ?_
                          refine o_guardN (j := 40) (e := (decide (r11.1 > (a1.length : Int)))) (want := false) (by decide) rfl hb34 ?_
                          refine o_pickT (v := .v (.bool true)) (e := (decide (r11.1 > (a1.length : Int)))) (by decide) rfl hb34 rfl ?_
                          refine run_nil ?_
                          exact w_goto true (.cons (.refl _) (.cons (.refl _) (.cons (.refl _) (.cons (.refl _) (.cons (.refl _) (.cons (.refl _) .nil)))))) ⟨(hS.keep [true] rfl).up (by omega), hM⟩
                        · replace hM := ifF hM hb34
                          refine o_guardY (j := 40) (e := (decide (r11.1 > (a1.length : Int)))) (want := false) rfl hb34 ?_
                          refine o_move (v := .sl .no 1 (r9.1.map cI)) (by decide) rfl ?_
                          refine o_guardY (j := 40) (e := (decide (r11.1 > (a1.length : Int)))) (want := false) rfl hb34 ?_
                          refine o_len (n := r9.1.length) (by decide) rfl (List.length_map _) ty_isl22 ?_
                          refine o_guardY (j := 40) (e := (decide (r11.1 > (a1.length : Int)))) (want := false) rfl hb34 ?_
                          refine o_int (v := .v (.bool (decide ((r9.1.length : Int) > 40)))) (by decide) rfl rfl rfl ?_
                          refine o_pickF (v := .v (.bool (decide ((r9.1.length : Int) > 40)))) (e := (decide (r11.1 > (a1.length : Int)))) (by decide) rfl hb34 rfl ?_
                          refine run_nil ?_
                          exact w_goto (decide ((r9.1.length : Int) > 40)) (.cons (.refl _) (.cons (.refl _) (.cons (.refl _) (.cons (.refl _) (.cons (.refl _) (.cons (.refl _) .nil)))))) ⟨(hS.keep [true] rfl).up (by omega), hM⟩
  · refine r_region (n := 20) rfl ?_
    refine o_load (v := .agg [.v (.int .i64 a0.Letters), .v (.int .i64 a0.Numbers), .v (.int .i64 a0.Pitch), .v (.int .i64 a0.Slack), .v (.int .i64 a0.Gap), .v (.int .i64 a0.Pause), .v (.int .i64 a0.Sparks), .sl .no 1 (a0.Times.map cI)]) 0 hS (by decide) rfl rfl .no (part_agg ty_agg24 (Nat.le_of_ble_eq_true rfl) rfl) ?_
    obtain ⟨r35, hr35, hM⟩ := bindE hM
    refine o_call (bs := [.agg [.v (.int .i64 a0.Letters), .v (.int .i64 a0.Numbers), .v (.int .i64 a0.Pitch), .v (.int .i64 a0.Slack), .v (.int .i64 a0.Gap), .v (.int .i64 a0.Pause), .v (.int .i64 a0.Sparks), .sl .no 1 (a0.Times.map cI)]]) (by decide) rfl rfl ((W_law13_ready hr35).le (.cons (.refl _) .nil)) ?_
    refine o_not (e := r35) (by decide) rfl ?_
    refine o_move (v := .v (.bool (!r35))) (by decide) rfl ?_
    rcases Bool.eq_false_or_eq_true (!r35) with hb36 | hb36
    · replace hM := ifT hM hb36
      refine o_guardN (j := 3) (e := (!r35)) (want := false) (by decide) rfl hb36 ?_
      refine o_guardN (j := 3) (e := (!r35)) (want := false) (by decide) rfl hb36 ?_
      refine o_guardN (j := 3) (e := (!r35)) (want := false) (by decide) rfl hb36 ?_
      refine o_pickT (v := .v (.bool true)) (e := (!r35)) (by decide) rfl hb36 rfl ?_
      refine o_move (v := .v (.bool true)) (by decide) rfl ?_
      refine o_guardN (j := 8) (e := true) (want := false) (by decide) rfl rfl ?_
      refine o_guardN (j := 8) (e := true) (want := false) (by decide) rfl rfl ?_
      refine o_guardN (j := 8) (e := true) (want := false) (by decide) rfl rfl ?_
      refine o_guardN (j := 8) (e := true) (want := false) (by decide) rfl rfl ?_
      refine o_pickT (v := .v (.bool true)) (e := true) (by decide) rfl rfl rfl ?_
      refine o_move (v := .v (.bool true)) (by decide) rfl ?_
      refine o_guardN (j := 14) (e := true) (want := false) (by decide) rfl rfl ?_
      refine o_guardN (j := 14) (e := true) (want := false) (by decide) rfl rfl ?_
      refine o_guardN (j := 14) (e := true) (want := false) (by decide) rfl rfl ?_
      refine o_guardN (j := 14) (e := true) (want := false) (by decide) rfl rfl ?_
      refine o_pickT (v := .v (.bool true)) (e := true) (by decide) rfl rfl rfl ?_
      refine run_nil ?_
      exact w_goto true (.cons (.refl _) (.cons (.refl _) (.cons (.refl _) (.cons (.refl _) .nil)))) ⟨(hS.keep [true] rfl).up (by omega), hM⟩
    · replace hM := ifF hM hb36
      refine o_guardY (j := 3) (e := (!r35)) (want := false) rfl hb36 ?_
      refine o_move (v := .sl .no 1 (a1.map cI)) (by decide) rfl ?_
      refine o_guardY (j := 3) (e := (!r35)) (want := false) rfl hb36 ?_
      refine o_len (n := a1.length) (by decide) rfl (List.length_map _) ty_isl22 ?_
      refine o_guardY (j := 3) (e := (!r35)) (want := false) rfl hb36 ?_
      refine o_int (v := .v (.bool (decide ((a1.length : Int) > 40)))) (by decide) rfl rfl rfl ?_
      refine o_pickF (v := .v (.bool (decide ((a1.length : Int) > 40)))) (e := (!r35)) (by decide) rfl hb36 rfl ?_
      refine o_move (v := .v (.bool (decide ((a1.length : Int) > 40)))) (by decide) rfl ?_
      rcases Bool.eq_false_or_eq_true (decide ((a1.length : Int) > 40)) with hb37 | hb37
      · replace hM := ifT hM hb37
        refine o_guardN (j := 8) (e := (decide ((a1.length : Int) > 40))) (want := false) (by decide) rfl hb37 ?_
        refine o_guardN (j := 8) (e := (decide ((a1.length : Int) > 40))) (want := false) (by decide) rfl hb37 ?_
        refine o_guardN (j := 8) (e := (decide ((a1.length : Int) > 40))) (want := false) (by decide) rfl hb37 ?_
        refine o_guardN (j := 8) (e := (decide ((a1.length : Int) > 40))) (want := false) (by decide) rfl hb37 ?_
        refine o_pickT (v := .v (.bool true)) (e := (decide ((a1.length : Int) > 40))) (by decide) rfl hb37 rfl ?_
        refine o_move (v := .v (.bool true)) (by decide) rfl ?_
        refine o_guardN (j := 14) (e := true) (want := false) (by decide) rfl rfl ?_
        refine o_guardN (j := 14) (e := true) (want := false) (by decide) rfl rfl ?_
        refine o_guardN (j := 14) (e := true) (want := false) (by decide) rfl rfl ?_
        refine o_guardN (j := 14) (e := true) (want := false) (by decide) rfl rfl ?_
        refine o_pickT (v := .v (.bool true)) (e := true) (by decide) rfl rfl rfl ?_
        refine run_nil ?_
        exact w_goto true (.cons (.refl _) (.cons (.refl _) (.cons (.refl _) (.cons (.refl _) .nil)))) ⟨(hS.keep [true] rfl).up (by omega), hM⟩
      · replace hM := ifF hM hb37
        refine o_guardY (j := 8) (e := (decide ((a1.length : Int) > 40))) (want := false) rfl hb37 ?_
        refine o_load (v := .agg [.v (.int .i64 a0.Letters), .v (.int .i64 a0.Numbers), .v (.int .i64 a0.Pitch), .v (.int .i64 a0.Slack), .v (.int .i64 a0.Gap), .v (.int .i64 a0.Pause), .v (.int .i64 a0.Sparks), .sl .no 1 (a0.Times.map cI)]) 0 hS (by decide) rfl rfl .no (part_agg ty_agg24 (Nat.le_of_ble_eq_true rfl) rfl) ?_
        refine o_guardY (j := 8) (e := (decide ((a1.length : Int) > 40))) (want := false) rfl hb37 ?_
        refine o_move (v := .sl .no 1 (a1.map cI)) (by decide) rfl ?_
        refine o_guardY (j := 8) (e := (decide ((a1.length : Int) > 40))) (want := false) rfl hb37 ?_
        obtain ⟨r38, hr38, hM⟩ := bindE hM
        refine o_call (bs := [.agg [.v (.int .i64 a0.Letters), .v (.int .i64 a0.Numbers), .v (.int .i64 a0.Pitch), .v (.int .i64 a0.Slack), .v (.int .i64 a0.Gap), .v (.int .i64 a0.Pause), .v (.int .i64 a0.Sparks), .sl .no 1 (a0.Times.map cI)], .sl .no 1 (a1.map cI)]) (by decide) rfl rfl ((W_ref13_IsReading hr38).le (.cons (.refl _) (.cons (.refl _) .nil))) ?_
        refine o_guardY (j := 8) (e := (decide ((a1.length : Int) > 40))) (want := false) rfl hb37 ?_
        refine o_not (e := r38) (by decide) rfl ?_
        refine o_pickF (v := .v (.bool (!r38))) (e := (decide ((a1.length : Int) > 40))) (by decide) rfl hb37 rfl ?_
        refine o_move (v := .v (.bool (!r38))) (by decide) rfl ?_
        rcases Bool.eq_false_or_eq_true (!r38) with hb39 | hb39
        · replace hM := ifT hM hb39
          refine o_guardN (j := 14) (e := (!r38)) (want := false) (by decide) rfl hb39 ?_
          refine o_guardN (j := 14) (e := (!r38)) (want := false) (by decide) rfl hb39 ?_
          refine o_guardN (j := 14) (e := (!r38)) (want := false) (by decide) rfl hb39 ?_
          refine o_guardN (j := 14) (e := (!r38)) (want := false) (by decide) rfl hb39 ?_
          refine o_pickT (v := .v (.bool true)) (e := (!r38)) (by decide) rfl hb39 rfl ?_
          refine run_nil ?_
          exact w_goto true (.cons (.refl _) (.cons (.refl _) (.cons (.refl _) (.cons (.refl _) .nil)))) ⟨(hS.keep [true] rfl).up (by omega), hM⟩
        · replace hM := ifF hM hb39
          refine o_guardY (j := 14) (e := (!r38)) (want := false) rfl hb39 ?_
          refine o_load (v := .agg [.v (.int .i64 a0.Letters), .v (.int .i64 a0.Numbers), .v (.int .i64 a0.Pitch), .v (.int .i64 a0.Slack), .v (.int .i64 a0.Gap), .v (.int .i64 a0.Pause), .v (.int .i64 a0.Sparks), .sl .no 1 (a0.Times.map cI)]) 0 hS (by decide) rfl rfl .no (part_agg ty_agg24 (Nat.le_of_ble_eq_true rfl) rfl) ?_
          refine o_guardY (j := 14) (e := (!r38)) (want := false) rfl hb39 ?_
          refine o_move (v := .v (.int .i64 a2)) (by decide) rfl ?_
          refine o_guardY (j := 14) (e := (!r38)) (want := false) rfl hb39 ?_
          obtain ⟨r40, hr40, hM⟩ := bindE hM
          refine o_call (bs := [.agg [.v (.int .i64 a0.Letters), .v (.int .i64 a0.Numbers), .v (.int .i64 a0.Pitch), .v (.int .i64 a0.Slack), .v (.int .i64 a0.Gap), .v (.int .i64 a0.Pause), .v (.int .i64 a0.Sparks), .sl .no 1 (a0.Times.map cI)], .v (.int .i64 a2)]) (by decide) rfl rfl ((W_ref13_IsSelection hr40).le (.cons (.refl _) (.cons (.refl _) .nil))) ?_
          refine o_guardY (j := 14) (e := (!r38)) (want := false) rfl hb39 ?_
          refine o_not (e := r40) (by decide) rfl ?_
          refine o_pickF (v := .v (.bool (!r40))) (e := (!r38)) (by decide) rfl hb39 rfl ?_
          refine run_nil ?_
          exact w_goto (!r40) (.cons (.refl _) (.cons (.refl _) (.cons (.refl _) (.cons (.refl _) .nil)))) ⟨(hS.keep [true] rfl).up (by omega), hM⟩
end Go.Proofs.Ytekplngjaddccaa
