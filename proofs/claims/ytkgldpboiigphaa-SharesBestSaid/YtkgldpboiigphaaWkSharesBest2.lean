/-
  The code returns what the functions say (printed by gen.py).
  Conditions: none.
-/
import Derived.Test.YtkgldpboiigphaaWkSharesBest1
set_option linter.all false
namespace Go.Proofs.Ytkgldpboiigphaa
open Go Go.AM Go.Law
set_option linter.unusedVariables false
set_option maxRecDepth 4000
set_option maxHeartbeats 4000000
theorem W_ref09_Orders_b {n : Nat} {rec : Int → (List Int) → Option ((List (List Int)))} (hrec : ∀ {a0 : Int} {a1 : List Int} {r : (List (List Int))}, rec a0 a1 = some r → PureSat Try.prog 54 [.v (.int .i64 a0), .sl .no 1 (a1.map cI)] (.sl .no 1 (r.map (cL 1 cI)))) {a0 : Int} {a1 : List Int} {r : (List (List Int))} (hM : ref09_Orders_b n rec a0 a1 = some r) : PureSat Try.prog 54 [.v (.int .i64 a0), .sl .no 1 (a1.map cI)] (.sl .no 1 (r.map (cL 1 cI))) := by
  refine pure_of_wp mixed Try.func54 rfl (by decide) Try.ntmps54 (by simp) ?pure fun H0 g hf => ?_
  case pure => exact .sl _ _ (pures_map (fun x => (pl_cons (.sl _ _ (pures_map (fun x => (pl_cons (.v _) pl_nil)))) pl_nil)))
  rw [frame0_of]
  change wpA _ _ _ _ (Fr.of [(0, .v (.int .i64 a0)), (1, .sl .no 1 (a1.map cI))]) H0 g
  have hS := St.start hf
  refine r_seq ?_
  refine r_region (n := 1) rfl ?_
  refine o_assign (v := .sl .nil 0 []) (by decide) rfl ?_
  refine run_nil ?_
  refine w_next [(0, .v (.int .i64 a0)), (1, .sl .no 1 (a1.map cI))] (.cons (.refl _) (.cons (.refl _) .nil)) ?_
  refine r_seq ?_
  refine r_seq ?_
  refine r_region (n := 4) rfl ?_
  refine o_move (v := .sl .no 1 (a1.map cI)) (by decide) rfl ?_
  refine o_len (n := a1.length) (by decide) rfl (List.length_map _) ty_isl28 ?_
  refine o_move (v := .v (.int .i64 a0)) (by decide) rfl ?_
  refine o_int (v := .v (.bool ((a1.length : Int) == a0))) (by decide) rfl rfl rfl ?_
  refine run_nil ?_
  refine w_next [(0, .v (.int .i64 a0)), (1, .sl .no 1 (a1.map cI)), (10, .v (.bool ((a1.length : Int) == a0)))] (.cons (.refl _) (.cons (.refl _) (.cons (.refl _) .nil))) ?_
  rcases Bool.eq_false_or_eq_true ((a1.length : Int) == a0) with hb1 | hb1
  · replace hM := ifT hM hb1
    refine w_condT (e := ((a1.length : Int) == a0)) rfl hb1 ?_
    refine r_seq ?_
    refine r_region (n := 3) rfl ?_
    refine o_move (v := .sl .no 1 (a1.map cI)) (by decide) rfl ?_
    refine o_buildSlice (es := [[.sl .no 1 (a1.map cI)]]) hS (by decide) ty_es71 ty_el71 rfl ty_ef71 rfl (by decide) (by omega) fun H hS => ?_
    refine o_assign (v := .sl (.id (g + 1 + 4 + 1)) 1 (([a1] : List (List Int)).map (cL 1 cI))) (by decide) rfl ?_
    refine run_nil ?_
    refine w_next [(4, .sl (.id (g + 1 + 4 + 1)) 1 (([a1] : List (List Int)).map (cL 1 cI)))] (.cons (.refl _) .nil) ?_
    refine r_ret ?_
    refine r_then_ret ?_
    refine w_end (x := .sl (.id (g + 1 + 4 + 1)) 1 (([a1] : List (List Int)).map (cL 1 cI))) (f := fun r => .sl .no 1 (r.map (cL 1 cI))) (.inr rfl) ?_ (.sl _ _ _) (Option.some.inj hM) hS
    exact (res_one (res_tmp (x := .sl (.id (g + 1 + 4 + 1)) 1 (([a1] : List (List Int)).map (cL 1 cI))) rfl))
  · replace hM := ifF hM hb1
    refine w_condF (e := ((a1.length : Int) == a0)) rfl hb1 ?_
    refine r_skip ?_
    refine w_next [(0, .v (.int .i64 a0)), (1, .sl .no 1 (a1.map cI))] (.cons (.refl _) (.cons (.refl _) .nil)) ?_
    refine r_seq ?_
    refine r_region (n := 1) rfl ?_
    refine o_assign (v := .sl .nil 0 []) (by decide) rfl ?_
    refine run_nil ?_
    refine w_own [(0, .v (.int .i64 a0)), (1, .sl .no 1 (a1.map cI)), (5, .sl (.id (g + 1 + 4 + 1)) 1 (([] : List (List Int)).map (cL 1 cI)))] 5 1 28 hS (by omega) (by decide) rfl (.cons (.refl _) (.cons (.refl _) (.cons (.refl _) .nil))) fun H hS => ?_
    refine w_join (J := (List (List Int))) (fun j => [(5, .sl (.id (g + 1 + 4 + 1)) 1 (j.map (cL 1 cI)))]) (fun j H' g' => St (· < g) H0 [(g + 1 + 4 + 1, .row 28 j.length)] H' g' ∧ ref09_Orders_j1 j = some r) ?_ ?_
    · rintro v2 H g1 ⟨hS, hM⟩
      change wpA _ _ _ _ (Fr.of [(5, .sl (.id (g + 1 + 4 + 1)) 1 (v2.map (cL 1 cI)))]) _ _
      replace hS : St (· < g) H0 [(g + 1 + 4 + 1, .row 28 v2.length)] H g1 := hS
      replace hM : ref09_Orders_j1 v2 = some r := hM
      refine r_seq ?_
      refine r_region (n := 2) rfl ?_
      refine o_move (v := .sl (.id (g + 1 + 4 + 1)) 1 (v2.map (cL 1 cI))) (by decide) rfl ?_
      refine o_assign (v := .sl (.id (g + 1 + 4 + 1)) 1 (v2.map (cL 1 cI))) (by decide) rfl ?_
      refine run_nil ?_
      refine w_next [(4, .sl (.id (g + 1 + 4 + 1)) 1 (v2.map (cL 1 cI)))] (.cons (.refl _) .nil) ?_
      refine r_ret ?_
      refine w_end (x := .sl (.id (g + 1 + 4 + 1)) 1 (v2.map (cL 1 cI))) (f := fun r => .sl .no 1 (r.map (cL 1 cI))) (.inr rfl) ?_ (.sl _ _ _) (Option.some.inj hM) hS
      exact (res_one (res_tmp (x := .sl (.id (g + 1 + 4 + 1)) 1 (v2.map (cL 1 cI))) rfl))
    · refine r_seq ?_
      refine r_region (n := 1) rfl ?_
      refine o_assign (v := .v (.int .i64 0)) (by decide) rfl ?_
      refine run_nil ?_
      refine w_next [(0, .v (.int .i64 a0)), (1, .sl .no 1 (a1.map cI)), (5, .sl (.id (g + 1 + 4 + 1)) 1 (([] : List (List Int)).map (cL 1 cI))), (6, .v (.int .i64 0))] (.cons (.refl _) (.cons (.refl _) (.cons (.refl _) (.cons (.refl _) .nil)))) ?_
      refine r_block ?_
      refine w_loop (V := (List (List Int)) × Int) (fun v => [(0, .v (.int .i64 a0)), (1, .sl .no 1 (a1.map cI)), (5, .sl (.id (g + 1 + 4 + 1)) 1 (v.1.map (cL 1 cI))), (6, .v (.int .i64 v.2))]) (fun v m H' g' => St (· < g) H0 [(g + 1 + 4 + 1, .row 28 v.1.length)] H' g' ∧ ref09_Orders_l1 n rec a0 a1 m v.1 v.2 = some r) (n := n) (([] : List (List Int)), 0) (.cons (.refl _) (.cons (.refl _) (.cons (.refl _) (.cons (.refl _) .nil)))) ⟨(hS.keep [true] rfl).up (by omega), hM⟩ ?_
      rintro ⟨v3, v4⟩ m H g2 ⟨hS, hM⟩
      obtain _ | m := m
      · exact nomatch (show none = some _ from hM)
      change wpA _ _ _ _ (Fr.of [(0, .v (.int .i64 a0)), (1, .sl .no 1 (a1.map cI)), (5, .sl (.id (g + 1 + 4 + 1)) 1 (v3.map (cL 1 cI))), (6, .v (.int .i64 v4))]) _ _
      replace hS : St (· < g) H0 [(g + 1 + 4 + 1, .row 28 v3.length)] H g2 := hS
      replace hM : ref09_Orders_l1_b n rec a0 a1 (ref09_Orders_l1 n rec a0 a1 m) v3 v4 = some r := hM
      refine r_seq ?_
      refine r_seq ?_
      refine r_region (n := 3) rfl ?_
      refine o_move (v := .v (.int .i64 v4)) (by decide) rfl ?_
      refine o_move (v := .v (.int .i64 a0)) (by decide) rfl ?_
      refine o_int (v := .v (.bool (decide (v4 < a0)))) (by decide) rfl rfl rfl ?_
      refine run_nil ?_
      refine w_next [(0, .v (.int .i64 a0)), (1, .sl .no 1 (a1.map cI)), (5, .sl (.id (g + 1 + 4 + 1)) 1 (v3.map (cL 1 cI))), (6, .v (.int .i64 v4)), (15, .v (.bool (decide (v4 < a0))))] (.cons (.refl _) (.cons (.refl _) (.cons (.refl _) (.cons (.refl _) (.cons (.refl _) .nil))))) ?_
      rcases Bool.eq_false_or_eq_true (decide (v4 < a0)) with hb5 | hb5
      · replace hM := ifT hM hb5
        refine w_condT (e := (decide (v4 < a0))) rfl hb5 ?_
        refine r_skip ?_
        refine w_next [(0, .v (.int .i64 a0)), (1, .sl .no 1 (a1.map cI)), (5, .sl (.id (g + 1 + 4 + 1)) 1 (v3.map (cL 1 cI))), (6, .v (.int .i64 v4))] (.cons (.refl _) (.cons (.refl _) (.cons (.refl _) (.cons (.refl _) .nil)))) ?_
        refine w_join (J := (List (List Int))) (fun j => [(0, .v (.int .i64 a0)), (1, .sl .no 1 (a1.map cI)), (5, .sl (.id (g + 1 + 4 + 1)) 1 (j.map (cL 1 cI))), (6, .v (.int .i64 v4))]) (fun j H' g' => St (· < g) H0 [(g + 1 + 4 + 1, .row 28 j.length)] H' g' ∧ ref09_Orders_j2 (ref09_Orders_l1 n rec a0 a1 m) v4 j = some r) ?_ ?_
        · rintro v6 H g3 ⟨hS, hM⟩
          change wpA _ _ _ _ (Fr.of [(0, .v (.int .i64 a0)), (1, .sl .no 1 (a1.map cI)), (5, .sl (.id (g + 1 + 4 + 1)) 1 (v6.map (cL 1 cI))), (6, .v (.int .i64 v4))]) _ _
          replace hS : St (· < g) H0 [(g + 1 + 4 + 1, .row 28 v6.length)] H g3 := hS
          replace hM : ref09_Orders_j2 (ref09_Orders_l1 n rec a0 a1 m) v4 v6 = some r := hM
          refine r_region (n := 3) rfl ?_
          refine o_move (v := .v (.int .i64 v4)) (by decide) rfl ?_
          refine o_int (v := .v (.int .i64 (w64 (v4 + 1)))) (by decide) rfl rfl rfl ?_
          refine o_assign (v := .v (.int .i64 (w64 (v4 + 1)))) (by decide) rfl ?_
          refine run_nil ?_
          exact w_round (v6, w64 (v4 + 1)) (Nat.lt_succ_self _) (.cons (.refl _) (.cons (.refl _) (.cons (.refl _) (.cons (.refl _) .nil)))) ⟨(hS.keep [true] rfl).up (by omega), hM⟩
        · refine r_block ?_
          refine r_seq ?_
          refine r_region (n := 4) rfl ?_
          refine o_move (v := .sl .no 1 (a1.map cI)) (by decide) rfl ?_
          refine o_move (v := .v (.int .i64 v4)) (by decide) rfl ?_
          obtain ⟨r7, hr7, hM⟩ := bindE hM
          refine o_call (bs := [.sl .no 1 (a1.map cI), .v (.int .i64 v4)]) (by decide) rfl rfl ((W_ref01_In hr7).le (.cons (.refl _) (.cons (.refl _) .nil))) ?_
          refine o_not (e := r7) (by decide) rfl ?_
          refine run_nil ?_
          refine w_next [(0, .v (.int .i64 a0)), (1, .sl .no 1 (a1.map cI)), (5, .sl (.id (g + 1 + 4 + 1)) 1 (v3.map (cL 1 cI))), (6, .v (.int .i64 v4)), (21, .v (.bool (!r7)))] (.cons (.refl _) (.cons (.refl _) (.cons (.refl _) (.cons (.refl _) (.cons (.refl _) .nil))))) ?_
          rcases Bool.eq_false_or_eq_true (!r7) with hb8 | hb8
          · replace hM := ifT hM hb8
            refine w_condT (e := (!r7)) rfl hb8 ?_
            refine r_region (n := 11) rfl ?_
            refine o_move (v := .sl (.id (g + 1 + 4 + 1)) 1 (v3.map (cL 1 cI))) (by decide) rfl ?_
            refine o_move (v := .v (.int .i64 a0)) (by decide) rfl ?_
            refine o_buildSlice (es := []) hS (by decide) ty_es28 ty_el28 rfl ty_ef28 rfl (by decide) (by omega) fun H hS => ?_
            refine o_move (v := .sl .no 1 (a1.map cI)) (by decide) rfl ?_
            obtain ⟨l9, hl9, hM⟩ := bindE hM
            refine o_append (xs := ([] : List Int)) (ys := a1) (zs := l9) (f := cI) (L' := [(g2 + 3 + 4 + 2, .row 3 l9.length), (g + 1 + 4 + 1, .row 28 v3.length)]) 0 hS (by decide) rfl rfl rfl rfl .no ty_es28 ty_el28 ty_ef28 hl9 rfl fun H hS => ?_
            refine o_move (v := .v (.int .i64 v4)) (by decide) rfl ?_
            refine o_buildSlice (es := [[.v (.int .i64 v4)]]) hS (by decide) ty_es28 ty_el28 rfl ty_ef28 rfl (by decide) (by omega) fun H hS => ?_
            obtain ⟨l10, hl10, hM⟩ := bindE hM
            refine o_append (xs := l9) (ys := ([v4] : List Int)) (zs := l10) (f := cI) (L' := [(g2 + 3 + 4 + 6, .row 3 1), (g2 + 3 + 4 + 2, .row 3 l10.length), (g + 1 + 4 + 1, .row 28 v3.length)]) 1 hS (by decide) rfl rfl rfl rfl .no ty_es28 ty_el28 ty_ef28 hl10 rfl fun H hS => ?_
            obtain ⟨r11, hr11, hM⟩ := bindE hM
            refine o_call (bs := [.v (.int .i64 a0), .sl (.id (g2 + 3 + 4 + 2)) 1 (l10.map cI)]) (by decide) rfl rfl ((hrec hr11).le (.cons (.refl _) (.cons (.sl _ _ _) .nil))) ?_
            obtain ⟨l12, hl12, hM⟩ := bindE hM
            refine o_append (xs := v3) (ys := r11) (zs := l12) (f := (cL 1 cI)) (L' := [(g2 + 3 + 4 + 6, .row 3 1), (g2 + 3 + 4 + 2, .row 3 l10.length), (g + 1 + 4 + 1, .row 28 l12.length)]) 2 hS (by decide) rfl rfl rfl rfl .no ty_es71 ty_el71 ty_ef71 hl12 rfl fun H hS => ?_
            refine o_assign (v := .sl (.id (g + 1 + 4 + 1)) 1 (l12.map (cL 1 cI))) (by decide) rfl ?_
            refine run_nil ?_
            refine r_blk_normal ?_
            exact w_goto l12 (.cons (.refl _) (.cons (.refl _) (.cons (.refl _) (.cons (.refl _) .nil)))) ⟨(hS.keep [false, false, true] rfl).up (by omega), hM⟩
          · replace hM := ifF hM hb8
            refine w_condF (e := (!r7)) rfl hb8 ?_
            refine r_skip ?_
            refine r_blk_normal ?_
            exact w_goto v3 (.cons (.refl _) (.cons (.refl _) (.cons (.refl _) (.cons (.refl _) .nil)))) ⟨(hS.keep [true] rfl).up (by omega), hM⟩
      · replace hM := ifF hM hb5
        refine w_condF (e := (decide (v4 < a0))) rfl hb5 ?_
        refine r_exit ?_
        refine r_then_exit ?_
        refine w_round_exit ?_
        refine r_blk_exit ?_
        exact w_goto v3 (.cons (.refl _) .nil) ⟨(hS.keep [true] rfl).up (by omega), hM⟩
theorem W_ref09_Orders : ∀ {n : Nat} {a0 : Int} {a1 : List Int} {r : (List (List Int))}, ref09_Orders n a0 a1 = some r → PureSat Try.prog 54 [.v (.int .i64 a0), .sl .no 1 (a1.map cI)] (.sl .no 1 (r.map (cL 1 cI)))
  | 0, _, _, _, h => nomatch (show none = some _ from h)
  | n + 1, _, _, _, h => W_ref09_Orders_b (n := n) (rec := ref09_Orders n) (fun h => W_ref09_Orders h) h
theorem W_ref09_IsOwners {a0 : Clause} {r : Bool} (hM : ref09_IsOwners a0 = some r) : PureSat Try.prog 31 [.agg [.v (.int .i64 a0.Kind), .v (.int .i64 a0.Cents), .v (.int .i64 a0.Part), .v (.int .i64 a0.More)]] (.v (.bool r)) := by
  refine pure_of_wp mixed Try.func31 rfl (by decide) Try.ntmps31 (by simp) ?pure fun H0 g hf => ?_
  case pure => exact .v _
  rw [frame0_of]
  change wpA _ _ _ _ (Fr.of [(0, .agg [.v (.int .i64 a0.Kind), .v (.int .i64 a0.Cents), .v (.int .i64 a0.Part), .v (.int .i64 a0.More)])]) H0 g
  have hS := St.start hf
  refine r_seq ?_
  refine r_region (n := 2) rfl ?_
  refine o_box (v := .agg [.v (.int .i64 a0.Kind), .v (.int .i64 a0.Cents), .v (.int .i64 a0.Part), .v (.int .i64 a0.More)]) (cs := [.v (.int .i64 a0.Kind), .v (.int .i64 a0.Cents), .v (.int .i64 a0.Part), .v (.int .i64 a0.More)]) hS (by decide) rfl rfl (by omega) fun H hS => ?_
  refine o_assign (v := .v (.bool false)) (by decide) rfl ?_
  refine run_nil ?_
  refine w_next [(1, .ptr (g + 0) 0)] (.cons (.refl _) .nil) ?_
  refine r_seq ?_
  refine r_region (n := 4) rfl ?_
  refine o_fieldP (by decide) ty_fo39_0 rfl ?_
  refine o_load (v := .v (.int .i64 a0.Kind)) 0 hS (by decide) rfl rfl .no (part_one ty_agg3 ty_sc3 rfl) ?_
  refine o_int (v := .v (.bool (decide (a0.Kind ≥ 3)))) (by decide) rfl rfl rfl ?_
  refine o_assign (v := .v (.bool (decide (a0.Kind ≥ 3)))) (by decide) rfl ?_
  refine run_nil ?_
  replace hS := hS.keep (L' := []) [false] rfl
  refine w_next [(2, .v (.bool (decide (a0.Kind ≥ 3))))] (.cons (.refl _) .nil) ?_
  refine r_ret ?_
  refine w_end (x := .v (.bool (decide (a0.Kind ≥ 3)))) (f := fun r => .v (.bool r)) (.inr rfl) ?_ (.refl _) (Option.some.inj hM) hS
  exact (res_one (res_tmp (x := .v (.bool (decide (a0.Kind ≥ 3)))) rfl))
theorem W_ref09_Given {a0 : Clause} {a1 : Int} {a2 : Int} {a3 : Int} {r : Int} (hM : ref09_Given a0 a1 a2 a3 = some r) : PureSat Try.prog 67 [.agg [.v (.int .i64 a0.Kind), .v (.int .i64 a0.Cents), .v (.int .i64 a0.Part), .v (.int .i64 a0.More)], .v (.int .i64 a1), .v (.int .i64 a2), .v (.int .i64 a3)] (.v (.int .i64 r)) := by
  refine pure_of_wp mixed Try.func67 rfl (by decide) Try.ntmps67 (by simp) ?pure fun H0 g hf => ?_
  case pure => exact .v _
  rw [frame0_of]
  change wpA _ _ _ _ (Fr.of [(0, .agg [.v (.int .i64 a0.Kind), .v (.int .i64 a0.Cents), .v (.int .i64 a0.Part), .v (.int .i64 a0.More)]), (1, .v (.int .i64 a1)), (2, .v (.int .i64 a2)), (3, .v (.int .i64 a3))]) H0 g
  have hS := St.start hf
  refine r_seq ?_
  refine r_region (n := 2) rfl ?_
  refine o_box (v := .agg [.v (.int .i64 a0.Kind), .v (.int .i64 a0.Cents), .v (.int .i64 a0.Part), .v (.int .i64 a0.More)]) (cs := [.v (.int .i64 a0.Kind), .v (.int .i64 a0.Cents), .v (.int .i64 a0.Part), .v (.int .i64 a0.More)]) hS (by decide) rfl rfl (by omega) fun H hS => ?_
  refine o_assign (v := .v (.int .i64 0)) (by decide) rfl ?_
  refine run_nil ?_
  refine w_next [(1, .v (.int .i64 a1)), (2, .v (.int .i64 a2)), (3, .v (.int .i64 a3)), (4, .ptr (g + 0) 0)] (.cons (.refl _) (.cons (.refl _) (.cons (.refl _) (.cons (.refl _) .nil)))) ?_
  refine r_seq ?_
  refine r_seq ?_
  refine r_region (n := 2) rfl ?_
  refine o_fieldP (by decide) ty_fo39_0 rfl ?_
  refine o_load (v := .v (.int .i64 a0.Kind)) 0 hS (by decide) rfl rfl .no (part_one ty_agg3 ty_sc3 rfl) ?_
  refine run_nil ?_
  refine w_next [(1, .v (.int .i64 a1)), (2, .v (.int .i64 a2)), (3, .v (.int .i64 a3)), (4, .ptr (g + 0) 0), (11, .v (.int .i64 a0.Kind))] (.cons (.refl _) (.cons (.refl _) (.cons (.refl _) (.cons (.refl _) (.cons (.refl _) .nil))))) ?_
  refine r_block ?_
  refine r_seq ?_
  refine r_region (n := 2) rfl ?_
  refine o_int (v := .v (.bool (a0.Kind == 1))) (by decide) rfl rfl rfl ?_
  refine o_assign (v := .v (.bool (a0.Kind == 1))) (by decide) rfl ?_
  refine run_nil ?_
  refine w_next [(1, .v (.int .i64 a1)), (2, .v (.int .i64 a2)), (3, .v (.int .i64 a3)), (4, .ptr (g + 0) 0), (11, .v (.int .i64 a0.Kind)), (12, .v (.bool (a0.Kind == 1)))] (.cons (.refl _) (.cons (.refl _) (.cons (.refl _) (.cons (.refl _) (.cons (.refl _) (.cons (.refl _) .nil)))))) ?_
  rcases Bool.eq_false_or_eq_true (a0.Kind == 1) with hb1 | hb1
  · replace hM := ifT hM hb1
    refine w_condT (e := (a0.Kind == 1)) rfl hb1 ?_
    refine r_seq ?_
    refine r_region (n := 5) rfl ?_
    refine o_move (v := .v (.int .i64 a1)) (by decide) rfl ?_
    refine o_fieldP (by decide) ty_fo39_1 rfl ?_
    refine o_load (v := .v (.int .i64 a0.Cents)) 0 hS (by decide) rfl rfl .no (part_one ty_agg3 ty_sc3 rfl) ?_
    refine o_min (v := .v (.int .i64 (min a1 a0.Cents))) (by decide) rfl ?_
    refine o_assign (v := .v (.int .i64 (min a1 a0.Cents))) (by decide) rfl ?_
    refine run_nil ?_
    replace hS := hS.keep (L' := []) [false] rfl
    refine w_next [(8, .v (.int .i64 (min a1 a0.Cents)))] (.cons (.refl _) .nil) ?_
    refine r_ret ?_
    refine r_blk_ret ?_
    refine r_then_ret ?_
    refine w_end (x := .v (.int .i64 (min a1 a0.Cents))) (f := fun r => .v (.int .i64 r)) (.inr rfl) ?_ (.refl _) (Option.some.inj hM) hS
    exact (res_one (res_tmp (x := .v (.int .i64 (min a1 a0.Cents))) rfl))
  · replace hM := ifF hM hb1
    refine w_condF (e := (a0.Kind == 1)) rfl hb1 ?_
    refine r_seq ?_
    refine r_region (n := 2) rfl ?_
    refine o_int (v := .v (.bool (a0.Kind == 2))) (by decide) rfl rfl rfl ?_
    refine o_assign (v := .v (.bool (a0.Kind == 2))) (by decide) rfl ?_
    refine run_nil ?_
    refine w_next [(1, .v (.int .i64 a1)), (2, .v (.int .i64 a2)), (3, .v (.int .i64 a3)), (4, .ptr (g + 0) 0), (11, .v (.int .i64 a0.Kind)), (18, .v (.bool (a0.Kind == 2)))] (.cons (.refl _) (.cons (.refl _) (.cons (.refl _) (.cons (.refl _) (.cons (.refl _) (.cons (.refl _) .nil)))))) ?_
    rcases Bool.eq_false_or_eq_true (a0.Kind == 2) with hb2 | hb2
    · replace hM := ifT hM hb2
      refine w_condT (e := (a0.Kind == 2)) rfl hb2 ?_
      refine r_seq ?_
      refine r_region (n := 6) rfl ?_
      refine o_move (v := .v (.int .i64 a1)) (by decide) rfl ?_
      refine o_fieldP (by decide) ty_fo39_1 rfl ?_
      refine o_load (v := .v (.int .i64 a0.Cents)) 0 hS (by decide) rfl rfl .no (part_one ty_agg3 ty_sc3 rfl) ?_
      refine o_move (v := .v (.int .i64 a3)) (by decide) rfl ?_
      refine o_min (v := .v (.int .i64 (min (min a1 a0.Cents) a3))) (by decide) rfl ?_
      refine o_assign (v := .v (.int .i64 (min (min a1 a0.Cents) a3))) (by decide) rfl ?_
      refine run_nil ?_
      replace hS := hS.keep (L' := []) [false] rfl
      refine w_next [(8, .v (.int .i64 (min (min a1 a0.Cents) a3)))] (.cons (.refl _) .nil) ?_
      refine r_ret ?_
      refine r_blk_ret ?_
      refine r_then_ret ?_
      refine w_end (x := .v (.int .i64 (min (min a1 a0.Cents) a3))) (f := fun r => .v (.int .i64 r)) (.inr rfl) ?_ (.refl _) (Option.some.inj hM) hS
      exact (res_one (res_tmp (x := .v (.int .i64 (min (min a1 a0.Cents) a3))) rfl))
    · replace hM := ifF hM hb2
      refine w_condF (e := (a0.Kind == 2)) rfl hb2 ?_
      refine r_seq ?_
      refine r_region (n := 2) rfl ?_
      refine o_int (v := .v (.bool (a0.Kind == 3))) (by decide) rfl rfl rfl ?_
      refine o_assign (v := .v (.bool (a0.Kind == 3))) (by decide) rfl ?_
      refine run_nil ?_
      refine w_next [(1, .v (.int .i64 a1)), (2, .v (.int .i64 a2)), (4, .ptr (g + 0) 0), (11, .v (.int .i64 a0.Kind)), (25, .v (.bool (a0.Kind == 3)))] (.cons (.refl _) (.cons (.refl _) (.cons (.refl _) (.cons (.refl _) (.cons (.refl _) .nil))))) ?_
      rcases Bool.eq_false_or_eq_true (a0.Kind == 3) with hb3 | hb3
      · replace hM := ifT hM hb3
        refine w_condT (e := (a0.Kind == 3)) rfl hb3 ?_
        refine r_seq ?_
        refine r_region (n := 7) rfl ?_
        refine o_fieldP (by decide) ty_fo39_2 rfl ?_
        refine o_load (v := .v (.int .i64 a0.Part)) 0 hS (by decide) rfl rfl .no (part_one ty_agg3 ty_sc3 rfl) ?_
        refine o_move (v := .v (.int .i64 a1)) (by decide) rfl ?_
        refine o_int (v := .v (.int .i64 (w64 (a0.Part * a1)))) (by decide) rfl rfl rfl ?_
        obtain ⟨q4, hq4, hM⟩ := bindE hM
        refine o_int (by decide) rfl rfl (quo_int hq4) ?_
        refine o_int (v := .v (.int .i64 (w64 (q4 * 5)))) (by decide) rfl rfl rfl ?_
        refine o_assign (v := .v (.int .i64 (w64 (q4 * 5)))) (by decide) rfl ?_
        refine run_nil ?_
        replace hS := hS.keep (L' := []) [false] rfl
        refine w_next [(8, .v (.int .i64 (w64 (q4 * 5))))] (.cons (.refl _) .nil) ?_
        refine r_ret ?_
        refine r_blk_ret ?_
        refine r_then_ret ?_
        refine w_end (x := .v (.int .i64 (w64 (q4 * 5)))) (f := fun r => .v (.int .i64 r)) (.inr rfl) ?_ (.refl _) (Option.some.inj hM) hS
        exact (res_one (res_tmp (x := .v (.int .i64 (w64 (q4 * 5)))) rfl))
      · replace hM := ifF hM hb3
        refine w_condF (e := (a0.Kind == 3)) rfl hb3 ?_
        refine r_seq ?_
        refine r_region (n := 2) rfl ?_
        refine o_int (v := .v (.bool (a0.Kind == 4))) (by decide) rfl rfl rfl ?_
        refine o_assign (v := .v (.bool (a0.Kind == 4))) (by decide) rfl ?_
        refine run_nil ?_
        refine w_next [(1, .v (.int .i64 a1)), (2, .v (.int .i64 a2)), (4, .ptr (g + 0) 0), (33, .v (.bool (a0.Kind == 4)))] (.cons (.refl _) (.cons (.refl _) (.cons (.refl _) (.cons (.refl _) .nil)))) ?_
        rcases Bool.eq_false_or_eq_true (a0.Kind == 4) with hb5 | hb5
        · replace hM := ifT hM hb5
          refine w_condT (e := (a0.Kind == 4)) rfl hb5 ?_
          refine r_seq ?_
          refine r_region (n := 5) rfl ?_
          refine o_move (v := .v (.int .i64 a1)) (by decide) rfl ?_
          refine o_fieldP (by decide) ty_fo39_1 rfl ?_
          refine o_load (v := .v (.int .i64 a0.Cents)) 0 hS (by decide) rfl rfl .no (part_one ty_agg3 ty_sc3 rfl) ?_
          refine o_min (v := .v (.int .i64 (min a1 a0.Cents))) (by decide) rfl ?_
          refine o_assign (v := .v (.int .i64 (min a1 a0.Cents))) (by decide) rfl ?_
          refine run_nil ?_
          refine w_next [(1, .v (.int .i64 a1)), (4, .ptr (g + 0) 0), (9, .v (.int .i64 (min a1 a0.Cents)))] (.cons (.refl _) (.cons (.refl _) (.cons (.refl _) .nil))) ?_
          refine r_seq ?_
          refine r_region (n := 14) rfl ?_
          refine o_fieldP (by decide) ty_fo39_2 rfl ?_
          refine o_load (v := .v (.int .i64 a0.Part)) 0 hS (by decide) rfl rfl .no (part_one ty_agg3 ty_sc3 rfl) ?_
          refine o_move (v := .v (.int .i64 (min a1 a0.Cents))) (by decide) rfl ?_
          refine o_int (v := .v (.int .i64 (w64 (a0.Part * (min a1 a0.Cents))))) (by decide) rfl rfl rfl ?_
          refine o_fieldP (by decide) ty_fo39_3 rfl ?_
          refine o_load (v := .v (.int .i64 a0.More)) 0 hS (by decide) rfl rfl .no (part_one ty_agg3 ty_sc3 rfl) ?_
          refine o_move (v := .v (.int .i64 a1)) (by decide) rfl ?_
          refine o_move (v := .v (.int .i64 (min a1 a0.Cents))) (by decide) rfl ?_
          refine o_int (v := .v (.int .i64 (w64 (a1 - (min a1 a0.Cents))))) (by decide) rfl rfl rfl ?_
          refine o_int (v := .v (.int .i64 (w64 (a0.More * (w64 (a1 - (min a1 a0.Cents))))))) (by decide) rfl rfl rfl ?_
          refine o_int (v := .v (.int .i64 (w64 ((w64 (a0.Part * (min a1 a0.Cents))) + (w64 (a0.More * (w64 (a1 - (min a1 a0.Cents))))))))) (by decide) rfl rfl rfl ?_
          obtain ⟨q6, hq6, hM⟩ := bindE hM
          refine o_int (by decide) rfl rfl (quo_int hq6) ?_
          refine o_int (v := .v (.int .i64 (w64 (q6 * 5)))) (by decide) rfl rfl rfl ?_
          refine o_assign (v := .v (.int .i64 (w64 (q6 * 5)))) (by decide) rfl ?_
          refine run_nil ?_
          replace hS := hS.keep (L' := []) [false] rfl
          refine w_next [(8, .v (.int .i64 (w64 (q6 * 5))))] (.cons (.refl _) .nil) ?_
          refine r_ret ?_
          refine r_blk_ret ?_
          refine r_then_ret ?_
          refine w_end (x := .v (.int .i64 (w64 (q6 * 5)))) (f := fun r => .v (.int .i64 r)) (.inr rfl) ?_ (.refl _) (Option.some.inj hM) hS
          exact (res_one (res_tmp (x := .v (.int .i64 (w64 (q6 * 5)))) rfl))
        · replace hM := ifF hM hb5
          refine w_condF (e := (a0.Kind == 4)) rfl hb5 ?_
          refine r_skip ?_
          refine r_blk_normal ?_
          refine w_next [(1, .v (.int .i64 a1)), (2, .v (.int .i64 a2)), (4, .ptr (g + 0) 0)] (.cons (.refl _) (.cons (.refl _) (.cons (.refl _) .nil))) ?_
          refine r_seq ?_
          refine r_region (n := 8) rfl ?_
          refine o_move (v := .v (.int .i64 a1)) (by decide) rfl ?_
          refine o_fieldP (by decide) ty_fo39_1 rfl ?_
          refine o_load (v := .v (.int .i64 a0.Cents)) 0 hS (by decide) rfl rfl .no (part_one ty_agg3 ty_sc3 rfl) ?_
          refine o_move (v := .v (.int .i64 a2)) (by decide) rfl ?_
          refine o_int (v := .v (.int .i64 (w64 (a0.Cents - a2)))) (by decide) rfl rfl rfl ?_
          refine o_max (v := .v (.int .i64 (max 0 (w64 (a0.Cents - a2))))) (by decide) rfl ?_
          refine o_min (v := .v (.int .i64 (min a1 (max 0 (w64 (a0.Cents - a2)))))) (by decide) rfl ?_
          refine o_assign (v := .v (.int .i64 (min a1 (max 0 (w64 (a0.Cents - a2)))))) (by decide) rfl ?_
          refine run_nil ?_
          replace hS := hS.keep (L' := []) [false] rfl
          refine w_next [(8, .v (.int .i64 (min a1 (max 0 (w64 (a0.Cents - a2))))))] (.cons (.refl _) .nil) ?_
          refine r_ret ?_
          refine w_end (x := .v (.int .i64 (min a1 (max 0 (w64 (a0.Cents - a2)))))) (f := fun r => .v (.int .i64 r)) (.inr rfl) ?_ (.refl _) (Option.some.inj hM) hS
          exact (res_one (res_tmp (x := .v (.int .i64 (min a1 (max 0 (w64 (a0.Cents - a2)))))) rfl))
theorem W_ref09_Gone {n : Nat} {a0 : Share} {a1 : Int} {a2 : Int} {r : (List Int) × Split} (hM : ref09_Gone n a0 a1 a2 = some r) : PureSat Try.prog 55 [.agg [.sl .no 4 (a0.Clauses.map Clause.cells), .v (.int .i64 a0.Loan)], .v (.int .i64 a1), .v (.int .i64 a2)] (.tup [.sl .no 1 (r.1.map cI), .agg [.v (.int .i64 r.2.Operator), .v (.int .i64 r.2.Owner), .v (.int .i64 r.2.Repaid)]]) := by
  refine pure_of_wp mixed Try.func55 rfl (by decide) Try.ntmps55 (by simp) ?pure fun H0 g hf => ?_
  case pure => exact .tup _ (pl_cons (.sl _ _ (pures_map (fun x => (pl_cons (.v _) pl_nil)))) (pl_cons (.agg _ (pl_cons (.v _) (pl_cons (.v _) (pl_cons (.v _) pl_nil)))) pl_nil))
  rw [frame0_of]
  change wpA _ _ _ _ (Fr.of [(0, .agg [.sl .no 4 (a0.Clauses.map Clause.cells), .v (.int .i64 a0.Loan)]), (1, .v (.int .i64 a1)), (2, .v (.int .i64 a2))]) H0 g
  have hS := St.start hf
  refine r_seq ?_
  refine r_region (n := 3) rfl ?_
  refine o_box (v := .agg [.sl .no 4 (a0.Clauses.map Clause.cells), .v (.int .i64 a0.Loan)]) (cs := [.sl .no 4 (a0.Clauses.map Clause.cells), .v (.int .i64 a0.Loan)]) hS (by decide) rfl rfl (by omega) fun H hS => ?_
  refine o_assign (v := .sl .nil 0 []) (by decide) rfl ?_
  refine o_alloc hS (by decide) ty_zero41 (by omega) fun H hS => ?_
  refine run_nil ?_
  refine w_next [(1, .v (.int .i64 a1)), (2, .v (.int .i64 a2)), (3, .ptr (g + 0) 0), (7, .ptr (g + 2) 0)] (.cons (.refl _) (.cons (.refl _) (.cons (.refl _) (.cons (.refl _) .nil)))) ?_
  refine r_seq ?_
  refine r_region (n := 6) rfl ?_
  refine o_move (v := .v (.int .i64 a2)) (by decide) rfl ?_
  refine o_move (v := .v (.int .i64 a1)) (by decide) rfl ?_
  refine o_min (v := .v (.int .i64 (min a2 a1))) (by decide) rfl ?_
  refine o_build (cs := [.v (.int .i64 0), .v (.int .i64 (min a2 a1)), .v (.int .i64 0)]) (by decide) ty_zero41 ty_pl41 rfl ?_
  refine o_alloc hS (by decide) ty_zero41 (by omega) fun H hS => ?_
  refine o_store (v := .agg [.v (.int .i64 0), .v (.int .i64 (min a2 a1)), .v (.int .i64 0)]) (ns := [.v (.int .i64 0), .v (.int .i64 (min a2 a1)), .v (.int .i64 0)]) (L' := [(g + 3 + 4, .cells [.v (.int .i64 0), .v (.int .i64 (min a2 a1)), .v (.int .i64 0)]), (g + 2, .cells [.v (.int .i64 0), .v (.int .i64 0), .v (.int .i64 0)]), (g + 0, .cells [.sl .no 4 (a0.Clauses.map Clause.cells), .v (.int .i64 a0.Loan)])]) 0 hS rfl rfl .no rfl rfl ty_var41 (Nat.le_of_ble_eq_true rfl) rfl fun H hS => ?_
  refine run_nil ?_
  refine w_next [(1, .v (.int .i64 a1)), (3, .ptr (g + 0) 0), (7, .ptr (g + 2) 0), (8, .ptr (g + 3 + 4) 0)] (.cons (.refl _) (.cons (.refl _) (.cons (.refl _) (.cons (.refl _) .nil)))) ?_
  refine r_seq ?_
  refine r_region (n := 5) rfl ?_
  refine o_move (v := .v (.int .i64 a1)) (by decide) rfl ?_
  refine o_fieldP (by decide) ty_fo41_1 rfl ?_
  refine o_load (v := .v (.int .i64 (min a2 a1))) 0 hS (by decide) rfl rfl .no (part_one ty_agg3 ty_sc3 rfl) ?_
  refine o_int (v := .v (.int .i64 (w64 (a1 - (min a2 a1))))) (by decide) rfl rfl rfl ?_
  refine o_assign (v := .v (.int .i64 (w64 (a1 - (min a2 a1))))) (by decide) rfl ?_
  refine run_nil ?_
  refine w_next [(1, .v (.int .i64 a1)), (3, .ptr (g + 0) 0), (7, .ptr (g + 2) 0), (8, .ptr (g + 3 + 4) 0), (9, .v (.int .i64 (w64 (a1 - (min a2 a1)))))] (.cons (.refl _) (.cons (.refl _) (.cons (.refl _) (.cons (.refl _) (.cons (.refl _) .nil))))) ?_
  refine r_seq ?_
  refine r_region (n := 1) rfl ?_
  refine o_assign (v := .sl .nil 0 []) (by decide) rfl ?_
  refine run_nil ?_
  refine w_own [(1, .v (.int .i64 a1)), (3, .ptr (g + 0) 0), (7, .ptr (g + 2) 0), (8, .ptr (g + 3 + 4) 0), (9, .v (.int .i64 (w64 (a1 - (min a2 a1))))), (10, .sl (.id (g + 3 + 6 + 5 + 1)) 1 (([] : List Int).map cI))] 10 1 3 hS (by omega) (by decide) rfl (.cons (.refl _) (.cons (.refl _) (.cons (.refl _) (.cons (.refl _) (.cons (.refl _) (.cons (.refl _) .nil)))))) fun H hS => ?_
  refine w_join (J := (List Int) × Int × Int) (fun j => [(1, .v (.int .i64 a1)), (7, .ptr (g + 2) 0), (8, .ptr (g + 3 + 4) 0), (10, .sl (.id (g + 3 + 6 + 5 + 1)) 1 (j.1.map cI))]) (fun j H' g' => St (· < g) H0 [(g + 3 + 6 + 5 + 1, .row 3 j.1.length), (g + 3 + 4, .cells [.v (.int .i64 0), .v (.int .i64 j.2.1), .v (.int .i64 j.2.2)]), (g + 2, .cells [.v (.int .i64 0), .v (.int .i64 0), .v (.int .i64 0)])] H' g' ∧ ref09_Gone_j1 a1 j.1 j.2.1 j.2.2 = some r) ?_ ?_
  · rintro ⟨v1, v2, v3⟩ H g1 ⟨hS, hM⟩
    change wpA _ _ _ _ (Fr.of [(1, .v (.int .i64 a1)), (7, .ptr (g + 2) 0), (8, .ptr (g + 3 + 4) 0), (10, .sl (.id (g + 3 + 6 + 5 + 1)) 1 (v1.map cI))]) _ _
    replace hS : St (· < g) H0 [(g + 3 + 6 + 5 + 1, .row 3 v1.length), (g + 3 + 4, .cells [.v (.int .i64 0), .v (.int .i64 v2), .v (.int .i64 v3)]), (g + 2, .cells [.v (.int .i64 0), .v (.int .i64 0), .v (.int .i64 0)])] H g1 := hS
    replace hM : ref09_Gone_j1 a1 v1 v2 v3 = some r := hM
    refine r_seq ?_
    refine r_region (n := 6) rfl ?_
    refine o_move (v := .v (.int .i64 a1)) (by decide) rfl ?_
    refine o_fieldP (by decide) ty_fo41_1 rfl ?_
    refine o_load (v := .v (.int .i64 v2)) 1 hS (by decide) rfl rfl .no (part_one ty_agg3 ty_sc3 rfl) ?_
    refine o_int (v := .v (.int .i64 (w64 (a1 - v2)))) (by decide) rfl rfl rfl ?_
    refine o_fieldP (by decide) ty_fo41_0 rfl ?_
    refine o_store (v := .v (.int .i64 (w64 (a1 - v2)))) (ns := [.v (.int .i64 (w64 (a1 - v2)))]) (L' := [(g + 3 + 6 + 5 + 1, .row 3 v1.length), (g + 3 + 4, .cells [.v (.int .i64 (w64 (a1 - v2))), .v (.int .i64 v2), .v (.int .i64 v3)]), (g + 2, .cells [.v (.int .i64 0), .v (.int .i64 0), .v (.int .i64 0)])]) 1 hS rfl rfl .no rfl rfl ty_var3 (Nat.le_of_ble_eq_true rfl) rfl fun H hS => ?_
    refine run_nil ?_
    refine w_next [(7, .ptr (g + 2) 0), (8, .ptr (g + 3 + 4) 0), (10, .sl (.id (g + 3 + 6 + 5 + 1)) 1 (v1.map cI))] (.cons (.refl _) (.cons (.refl _) (.cons (.refl _) .nil))) ?_
    refine r_seq ?_
    have hS0 := hS
    refine r_draw (n := 4) rfl (by kernel_rfl) ?_
    refine o_move (v := .sl (.id (g + 3 + 6 + 5 + 1)) 1 (v1.map cI)) (by decide) rfl ?_
    refine o_load (v := .agg [.v (.int .i64 (w64 (a1 - v2))), .v (.int .i64 v2), .v (.int .i64 v3)]) 1 hS (by decide) rfl rfl (.st hS0 1 rfl (by omega)) (part_agg ty_agg41 (Nat.le_of_ble_eq_true rfl) rfl) ?_
    refine o_assign (v := .sl (.id (g + 3 + 6 + 5 + 1)) 1 (v1.map cI)) (by decide) rfl ?_
    refine o_store (v := .agg [.v (.int .i64 (w64 (a1 - v2))), .v (.int .i64 v2), .v (.int .i64 v3)]) (ns := [.v (.int .i64 (w64 (a1 - v2))), .v (.int .i64 v2), .v (.int .i64 v3)]) (L' := [(g + 3 + 6 + 5 + 1, .row 3 v1.length), (g + 3 + 4, .cells [.v (.int .i64 (w64 (a1 - v2))), .v (.int .i64 v2), .v (.int .i64 v3)]), (g + 2, .cells [.v (.int .i64 (w64 (a1 - v2))), .v (.int .i64 v2), .v (.int .i64 v3)])]) 2 hS rfl rfl (.st hS0 2 rfl (by omega)) rfl rfl ty_var41 (Nat.le_of_ble_eq_true rfl) rfl fun H hS => ?_
    refine run_nil ?_
    replace hS := hS.keep (L' := [(g + 3 + 6 + 5 + 1, .row 3 v1.length), (g + 2, .cells [.v (.int .i64 (w64 (a1 - v2))), .v (.int .i64 v2), .v (.int .i64 v3)])]) [true, false, true] rfl
    refine w_next [(6, .sl (.id (g + 3 + 6 + 5 + 1)) 1 (v1.map cI)), (7, .ptr (g + 2) 0)] (.cons (.refl _) (.cons (.refl _) .nil)) ?_
    refine r_ret ?_
    refine w_end (x := .tup [.sl (.id (g + 3 + 6 + 5 + 1)) 1 (v1.map cI), .agg [.v (.int .i64 (w64 (a1 - v2))), .v (.int .i64 v2), .v (.int .i64 v3)]]) (f := fun r => .tup [.sl .no 1 (r.1.map cI), .agg [.v (.int .i64 r.2.Operator), .v (.int .i64 r.2.Owner), .v (.int .i64 r.2.Repaid)]]) (.inr rfl) ?_ (.tupL (.cons (.sl _ _ _) (.cons (.aggL (.cons (.refl _) (.cons (.refl _) (.cons (.refl _) .nil)))) .nil))) (Option.some.inj hM) hS
    exact (res_two (res_tmp (x := .sl (.id (g + 3 + 6 + 5 + 1)) 1 (v1.map cI)) rfl) (res_cell (x := .agg [.v (.int .i64 (w64 (a1 - v2))), .v (.int .i64 v2), .v (.int .i64 v3)]) 1 hS rfl rfl (part_agg ty_agg41 (Nat.le_of_ble_eq_true rfl) rfl)))
  · refine r_seq ?_
    refine r_region (n := 1) rfl ?_
    refine o_assign (v := .v (.int .i64 0)) (by decide) rfl ?_
    refine run_nil ?_
    refine w_next [(1, .v (.int .i64 a1)), (3, .ptr (g + 0) 0), (7, .ptr (g + 2) 0), (8, .ptr (g + 3 + 4) 0), (9, .v (.int .i64 (w64 (a1 - (min a2 a1))))), (10, .sl (.id (g + 3 + 6 + 5 + 1)) 1 (([] : List Int).map cI)), (11, .v (.int .i64 0))] (.cons (.refl _) (.cons (.refl _) (.cons (.refl _) (.cons (.refl _) (.cons (.refl _) (.cons (.refl _) (.cons (.refl _) .nil))))))) ?_
    refine r_block ?_
    refine w_loop (V := Int × (List Int) × Int × Int × Int) (fun v => [(1, .v (.int .i64 a1)), (3, .ptr (g + 0) 0), (7, .ptr (g + 2) 0), (8, .ptr (g + 3 + 4) 0), (9, .v (.int .i64 v.1)), (10, .sl (.id (g + 3 + 6 + 5 + 1)) 1 (v.2.1.map cI)), (11, .v (.int .i64 v.2.2.1))]) (fun v m H' g' => St (· < g) H0 [(g + 3 + 6 + 5 + 1, .row 3 v.2.1.length), (g + 3 + 4, .cells [.v (.int .i64 0), .v (.int .i64 v.2.2.2.1), .v (.int .i64 v.2.2.2.2)]), (g + 2, .cells [.v (.int .i64 0), .v (.int .i64 0), .v (.int .i64 0)]), (g + 0, .cells [.sl .no 4 (a0.Clauses.map Clause.cells), .v (.int .i64 a0.Loan)])] H' g' ∧ ref09_Gone_l1 a0 a1 m v.1 v.2.1 v.2.2.1 v.2.2.2.1 v.2.2.2.2 = some r) (n := n) (w64 (a1 - (min a2 a1)), ([] : List Int), 0, (min a2 a1), 0) (.cons (.refl _) (.cons (.refl _) (.cons (.refl _) (.cons (.refl _) (.cons (.refl _) (.cons (.refl _) (.cons (.refl _) .nil))))))) ⟨(hS.keep [true, true, true, true] rfl).up (by omega), hM⟩ ?_
    rintro ⟨v7, v8, v9, v10, v11⟩ m H g3 ⟨hS, hM⟩
    obtain _ | m := m
    · exact nomatch (show none = some _ from hM)
    change wpA _ _ _ _ (Fr.of [(1, .v (.int .i64 a1)), (3, .ptr (g + 0) 0), (7, .ptr (g + 2) 0), (8, .ptr (g + 3 + 4) 0), (9, .v (.int .i64 v7)), (10, .sl (.id (g + 3 + 6 + 5 + 1)) 1 (v8.map cI)), (11, .v (.int .i64 v9))]) _ _
    replace hS : St (· < g) H0 [(g + 3 + 6 + 5 + 1, .row 3 v8.length), (g + 3 + 4, .cells [.v (.int .i64 0), .v (.int .i64 v10), .v (.int .i64 v11)]), (g + 2, .cells [.v (.int .i64 0), .v (.int .i64 0), .v (.int .i64 0)]), (g + 0, .cells [.sl .no 4 (a0.Clauses.map Clause.cells), .v (.int .i64 a0.Loan)])] H g3 := hS
    replace hM : ref09_Gone_l1_b a0 a1 (ref09_Gone_l1 a0 a1 m) v7 v8 v9 v10 v11 = some r := hM
    refine r_seq ?_
    refine r_seq ?_
    refine r_region (n := 5) rfl ?_
    refine o_move (v := .v (.int .i64 v9)) (by decide) rfl ?_
    refine o_fieldP (by decide) ty_fo24_0 rfl ?_
    refine o_load (v := .sl .no 4 (a0.Clauses.map Clause.cells)) 3 hS (by decide) rfl rfl .no (part_one ty_agg22 ty_sc22 rfl) ?_
    refine o_len (n := a0.Clauses.length) (by decide) rfl (List.length_map _) ty_isl22 ?_
    refine o_int (v := .v (.bool (decide (v9 < (a0.Clauses.length : Int))))) (by decide) rfl rfl rfl ?_
    refine run_nil ?_
    refine w_next [(1, .v (.int .i64 a1)), (3, .ptr (g + 0) 0), (7, .ptr (g + 2) 0), (8, .ptr (g + 3 + 4) 0), (9, .v (.int .i64 v7)), (10, .sl (.id (g + 3 + 6 + 5 + 1)) 1 (v8.map cI)), (11, .v (.int .i64 v9)), (26, .v (.bool (decide (v9 < (a0.Clauses.length : Int)))))] (.cons (.refl _) (.cons (.refl _) (.cons (.refl _) (.cons (.refl _) (.cons (.refl _) (.cons (.refl _) (.cons (.refl _) (.cons (.refl _) .nil)))))))) ?_
    rcases Bool.eq_false_or_eq_true (decide (v9 < (a0.Clauses.length : Int))) with hb12 | hb12
    · replace hM := ifT hM hb12
      refine w_condT (e := (decide (v9 < (a0.Clauses.length : Int)))) rfl hb12 ?_
      refine r_skip ?_
      refine w_next [(1, .v (.int .i64 a1)), (3, .ptr (g + 0) 0), (7, .ptr (g + 2) 0), (8, .ptr (g + 3 + 4) 0), (9, .v (.int .i64 v7)), (10, .sl (.id (g + 3 + 6 + 5 + 1)) 1 (v8.map cI)), (11, .v (.int .i64 v9))] (.cons (.refl _) (.cons (.refl _) (.cons (.refl _) (.cons (.refl _) (.cons (.refl _) (.cons (.refl _) (.cons (.refl _) .nil))))))) ?_
      refine w_join (J := Int × (List Int) × Int × Int) (fun j => [(1, .v (.int .i64 a1)), (3, .ptr (g + 0) 0), (7, .ptr (g + 2) 0), (8, .ptr (g + 3 + 4) 0), (9, .v (.int .i64 j.1)), (10, .sl (.id (g + 3 + 6 + 5 + 1)) 1 (j.2.1.map cI)), (11, .v (.int .i64 v9))]) (fun j H' g' => St (· < g) H0 [(g + 3 + 6 + 5 + 1, .row 3 j.2.1.length), (g + 3 + 4, .cells [.v (.int .i64 0), .v (.int .i64 j.2.2.1), .v (.int .i64 j.2.2.2)]), (g + 2, .cells [.v (.int .i64 0), .v (.int .i64 0), .v (.int .i64 0)]), (g + 0, .cells [.sl .no 4 (a0.Clauses.map Clause.cells), .v (.int .i64 a0.Loan)])] H' g' ∧ ref09_Gone_j2 (ref09_Gone_l1 a0 a1 m) v9 j.1 j.2.1 j.2.2.1 j.2.2.2 = some r) ?_ ?_
      · rintro ⟨v13, v14, v15, v16⟩ H g4 ⟨hS, hM⟩
        change wpA _ _ _ _ (Fr.of [(1, .v (.int .i64 a1)), (3, .ptr (g + 0) 0), (7, .ptr (g + 2) 0), (8, .ptr (g + 3 + 4) 0), (9, .v (.int .i64 v13)), (10, .sl (.id (g + 3 + 6 + 5 + 1)) 1 (v14.map cI)), (11, .v (.int .i64 v9))]) _ _
        replace hS : St (· < g) H0 [(g + 3 + 6 + 5 + 1, .row 3 v14.length), (g + 3 + 4, .cells [.v (.int .i64 0), .v (.int .i64 v15), .v (.int .i64 v16)]), (g + 2, .cells [.v (.int .i64 0), .v (.int .i64 0), .v (.int .i64 0)]), (g + 0, .cells [.sl .no 4 (a0.Clauses.map Clause.cells), .v (.int .i64 a0.Loan)])] H g4 := hS
        replace hM : ref09_Gone_j2 (ref09_Gone_l1 a0 a1 m) v9 v13 v14 v15 v16 = some r := hM
        refine r_region (n := 3) rfl ?_
        refine o_move (v := .v (.int .i64 v9)) (by decide) rfl ?_
        refine o_int (v := .v (.int .i64 (w64 (v9 + 1)))) (by decide) rfl rfl rfl ?_
        refine o_assign (v := .v (.int .i64 (w64 (v9 + 1)))) (by decide) rfl ?_
        refine run_nil ?_
        exact w_round (v13, v14, w64 (v9 + 1), v15, v16) (Nat.lt_succ_self _) (.cons (.refl _) (.cons (.refl _) (.cons (.refl _) (.cons (.refl _) (.cons (.refl _) (.cons (.refl _) (.cons (.refl _) .nil))))))) ⟨(hS.keep [true, true, true, true] rfl).up (by omega), hM⟩
      · refine r_block ?_
        refine r_seq ?_
        refine r_region (n := 7) rfl ?_
        refine o_fieldP (by decide) ty_fo24_0 rfl ?_
        refine o_load (v := .sl .no 4 (a0.Clauses.map Clause.cells)) 3 hS (by decide) rfl rfl .no (part_one ty_agg22 ty_sc22 rfl) ?_
        refine o_move (v := .v (.int .i64 v9)) (by decide) rfl ?_
        obtain ⟨x17, hx17, hM⟩ := bindE hM
        refine o_index (xs := a0.Clauses) (f := Clause.cells) (z := v9) (u := x17) (by decide) rfl rfl ty_es22 hx17 ?_
        refine o_loadE (v := .agg [.v (.int .i64 x17.Kind), .v (.int .i64 x17.Cents), .v (.int .i64 x17.Part), .v (.int .i64 x17.More)]) (by decide) rfl (part_agg ty_agg39 (Nat.le_of_ble_eq_true rfl) rfl) ?_
        refine o_alloc hS (by decide) ty_zero39 (by omega) fun H hS => ?_
        refine o_store (v := .agg [.v (.int .i64 x17.Kind), .v (.int .i64 x17.Cents), .v (.int .i64 x17.Part), .v (.int .i64 x17.More)]) (ns := [.v (.int .i64 x17.Kind), .v (.int .i64 x17.Cents), .v (.int .i64 x17.Part), .v (.int .i64 x17.More)]) (L' := [(g3 + 5 + 5, .cells [.v (.int .i64 x17.Kind), .v (.int .i64 x17.Cents), .v (.int .i64 x17.Part), .v (.int .i64 x17.More)]), (g + 3 + 6 + 5 + 1, .row 3 v8.length), (g + 3 + 4, .cells [.v (.int .i64 0), .v (.int .i64 v10), .v (.int .i64 v11)]), (g + 2, .cells [.v (.int .i64 0), .v (.int .i64 0), .v (.int .i64 0)]), (g + 0, .cells [.sl .no 4 (a0.Clauses.map Clause.cells), .v (.int .i64 a0.Loan)])]) 0 hS rfl rfl .no rfl rfl ty_var39 (Nat.le_of_ble_eq_true rfl) rfl fun H hS => ?_
        refine run_nil ?_
        refine w_next [(1, .v (.int .i64 a1)), (3, .ptr (g + 0) 0), (7, .ptr (g + 2) 0), (8, .ptr (g + 3 + 4) 0), (9, .v (.int .i64 v7)), (10, .sl (.id (g + 3 + 6 + 5 + 1)) 1 (v8.map cI)), (11, .v (.int .i64 v9)), (12, .ptr (g3 + 5 + 5) 0)] (.cons (.refl _) (.cons (.refl _) (.cons (.refl _) (.cons (.refl _) (.cons (.refl _) (.cons (.refl _) (.cons (.refl _) (.cons (.refl _) .nil)))))))) ?_
        refine r_seq ?_
        refine r_region (n := 11) rfl ?_
        refine o_load (v := .agg [.v (.int .i64 x17.Kind), .v (.int .i64 x17.Cents), .v (.int .i64 x17.Part), .v (.int .i64 x17.More)]) 0 hS (by decide) rfl rfl .no (part_agg ty_agg39 (Nat.le_of_ble_eq_true rfl) rfl) ?_
        refine o_move (v := .v (.int .i64 v7)) (by decide) rfl ?_
        refine o_fieldP (by decide) ty_fo41_1 rfl ?_
        refine o_load (v := .v (.int .i64 v10)) 2 hS (by decide) rfl rfl .no (part_one ty_agg3 ty_sc3 rfl) ?_
        refine o_fieldP (by decide) ty_fo24_1 rfl ?_
        refine o_load (v := .v (.int .i64 a0.Loan)) 4 hS (by decide) rfl rfl .no (part_one ty_agg3 ty_sc3 rfl) ?_
        refine o_fieldP (by decide) ty_fo41_2 rfl ?_
        refine o_load (v := .v (.int .i64 v11)) 2 hS (by decide) rfl rfl .no (part_one ty_agg3 ty_sc3 rfl) ?_
        refine o_int (v := .v (.int .i64 (w64 (a0.Loan - v11)))) (by decide) rfl rfl rfl ?_
        obtain ⟨r18, hr18, hM⟩ := bindE hM
        refine o_call (bs := [.agg [.v (.int .i64 x17.Kind), .v (.int .i64 x17.Cents), .v (.int .i64 x17.Part), .v (.int .i64 x17.More)], .v (.int .i64 v7), .v (.int .i64 v10), .v (.int .i64 (w64 (a0.Loan - v11)))]) (by decide) rfl rfl ((W_ref09_Given hr18).le (.cons (.refl _) (.cons (.refl _) (.cons (.refl _) (.cons (.refl _) .nil))))) ?_
        refine o_assign (v := .v (.int .i64 r18)) (by decide) rfl ?_
        refine run_nil ?_
        refine w_next [(1, .v (.int .i64 a1)), (3, .ptr (g + 0) 0), (7, .ptr (g + 2) 0), (8, .ptr (g + 3 + 4) 0), (9, .v (.int .i64 v7)), (10, .sl (.id (g + 3 + 6 + 5 + 1)) 1 (v8.map cI)), (11, .v (.int .i64 v9)), (12, .ptr (g3 + 5 + 5) 0), (13, .v (.int .i64 r18))] (.cons (.refl _) (.cons (.refl _) (.cons (.refl _) (.cons (.refl _) (.cons (.refl _) (.cons (.refl _) (.cons (.refl _) (.cons (.refl _) (.cons (.refl _) .nil))))))))) ?_
        refine r_seq ?_
        refine r_region (n := 4) rfl ?_
        refine o_move (v := .v (.int .i64 v7)) (by decide) rfl ?_
        refine o_move (v := .v (.int .i64 r18)) (by decide) rfl ?_
        refine o_int (v := .v (.int .i64 (w64 (v7 - r18)))) (by decide) rfl rfl rfl ?_
        refine o_assign (v := .v (.int .i64 (w64 (v7 - r18)))) (by decide) rfl ?_
        refine run_nil ?_
        refine w_next [(1, .v (.int .i64 a1)), (3, .ptr (g + 0) 0), (7, .ptr (g + 2) 0), (8, .ptr (g + 3 + 4) 0), (9, .v (.int .i64 (w64 (v7 - r18)))), (10, .sl (.id (g + 3 + 6 + 5 + 1)) 1 (v8.map cI)), (11, .v (.int .i64 v9)), (12, .ptr (g3 + 5 + 5) 0), (13, .v (.int .i64 r18))] (.cons (.refl _) (.cons (.refl _) (.cons (.refl _) (.cons (.refl _) (.cons (.refl _) (.cons (.refl _) (.cons (.refl _) (.cons (.refl _) (.cons (.refl _) .nil))))))))) ?_
        refine r_seq ?_
        refine r_region (n := 5) rfl ?_
        refine o_move (v := .sl (.id (g + 3 + 6 + 5 + 1)) 1 (v8.map cI)) (by decide) rfl ?_
        refine o_move (v := .v (.int .i64 r18)) (by decide) rfl ?_
        refine o_buildSlice (es := [[.v (.int .i64 r18)]]) hS (by decide) ty_es28 ty_el28 rfl ty_ef28 rfl (by decide) (by omega) fun H hS => ?_
        obtain ⟨l19, hl19, hM⟩ := bindE hM
        refine o_append (xs := v8) (ys := ([r18] : List Int)) (zs := l19) (f := cI) (L' := [(g3 + 5 + 7 + 11 + 4 + 2, .row 3 1), (g3 + 5 + 5, .cells [.v (.int .i64 x17.Kind), .v (.int .i64 x17.Cents), .v (.int .i64 x17.Part), .v (.int .i64 x17.More)]), (g + 3 + 6 + 5 + 1, .row 3 l19.length), (g + 3 + 4, .cells [.v (.int .i64 0), .v (.int .i64 v10), .v (.int .i64 v11)]), (g + 2, .cells [.v (.int .i64 0), .v (.int .i64 0), .v (.int .i64 0)]), (g + 0, .cells [.sl .no 4 (a0.Clauses.map Clause.cells), .v (.int .i64 a0.Loan)])]) 2 hS (by decide) rfl rfl rfl rfl .no ty_es28 ty_el28 ty_ef28 hl19 rfl fun H hS => ?_
        refine o_assign (v := .sl (.id (g + 3 + 6 + 5 + 1)) 1 (l19.map cI)) (by decide) rfl ?_
        refine run_nil ?_
        replace hS := hS.keep (L' := [(g3 + 5 + 5, .cells [.v (.int .i64 x17.Kind), .v (.int .i64 x17.Cents), .v (.int .i64 x17.Part), .v (.int .i64 x17.More)]), (g + 3 + 6 + 5 + 1, .row 3 l19.length), (g + 3 + 4, .cells [.v (.int .i64 0), .v (.int .i64 v10), .v (.int .i64 v11)]), (g + 2, .cells [.v (.int .i64 0), .v (.int .i64 0), .v (.int .i64 0)]), (g + 0, .cells [.sl .no 4 (a0.Clauses.map Clause.cells), .v (.int .i64 a0.Loan)])]) [false, true, true, true, true, true] rfl
        refine w_next [(1, .v (.int .i64 a1)), (3, .ptr (g + 0) 0), (7, .ptr (g + 2) 0), (8, .ptr (g + 3 + 4) 0), (9, .v (.int .i64 (w64 (v7 - r18)))), (10, .sl (.id (g + 3 + 6 + 5 + 1)) 1 (l19.map cI)), (11, .v (.int .i64 v9)), (12, .ptr (g3 + 5 + 5) 0), (13, .v (.int .i64 r18))] (.cons (.refl _) (.cons (.refl _) (.cons (.refl _) (.cons (.refl _) (.cons (.refl _) (.cons (.refl _) (.cons (.refl _) (.cons (.refl _) (.cons (.refl _) .nil))))))))) ?_
        refine w_join (J := Int) (fun j => [(1, .v (.int .i64 a1)), (3, .ptr (g + 0) 0), (7, .ptr (g + 2) 0), (8, .ptr (g + 3 + 4) 0), (9, .v (.int .i64 (w64 (v7 - r18)))), (10, .sl (.id (g + 3 + 6 + 5 + 1)) 1 (l19.map cI)), (11, .v (.int .i64 v9)), (12, .ptr (g3 + 5 + 5) 0), (13, .v (.int .i64 r18))]) (fun j H' g' => St (· < g) H0 [(g3 + 5 + 5, .cells [.v (.int .i64 x17.Kind), .v (.int .i64 x17.Cents), .v (.int .i64 x17.Part), .v (.int .i64 x17.More)]), (g + 3 + 6 + 5 + 1, .row 3 l19.length), (g + 3 + 4, .cells [.v (.int .i64 0), .v (.int .i64 j), .v (.int .i64 v11)]), (g + 2, .cells [.v (.int .i64 0), .v (.int .i64 0), .v (.int .i64 0)]), (g + 0, .cells [.sl .no 4 (a0.Clauses.map Clause.cells), .v (.int .i64 a0.Loan)])] H' g' ∧ ref09_Gone_j3 (ref09_Gone_l1 a0 a1 m) v7 v9 v11 x17 r18 l19 j = some r) ?_ ?_
        · rintro v20 H g5 ⟨hS, hM⟩
          change wpA _ _ _ _ (Fr.of [(1, .v (.int .i64 a1)), (3, .ptr (g + 0) 0), (7, .ptr (g + 2) 0), (8, .ptr (g + 3 + 4) 0), (9, .v (.int .i64 (w64 (v7 - r18)))), (10, .sl (.id (g + 3 + 6 + 5 + 1)) 1 (l19.map cI)), (11, .v (.int .i64 v9)), (12, .ptr (g3 + 5 + 5) 0), (13, .v (.int .i64 r18))]) _ _
          replace hS : St (· < g) H0 [(g3 + 5 + 5, .cells [.v (.int .i64 x17.Kind), .v (.int .i64 x17.Cents), .v (.int .i64 x17.Part), .v (.int .i64 x17.More)]), (g + 3 + 6 + 5 + 1, .row 3 l19.length), (g + 3 + 4, .cells [.v (.int .i64 0), .v (.int .i64 v20), .v (.int .i64 v11)]), (g + 2, .cells [.v (.int .i64 0), .v (.int .i64 0), .v (.int .i64 0)]), (g + 0, .cells [.sl .no 4 (a0.Clauses.map Clause.cells), .v (.int .i64 a0.Loan)])] H g5 := hS
          replace hM : ref09_Gone_j3 (ref09_Gone_l1 a0 a1 m) v7 v9 v11 x17 r18 l19 v20 = some r := hM
          refine r_seq ?_
          refine r_region (n := 3) rfl ?_
          refine o_fieldP (by decide) ty_fo39_0 rfl ?_
          refine o_load (v := .v (.int .i64 x17.Kind)) 0 hS (by decide) rfl rfl .no (part_one ty_agg3 ty_sc3 rfl) ?_
          refine o_int (v := .v (.bool (x17.Kind == 2))) (by decide) rfl rfl rfl ?_
          refine run_nil ?_
          replace hS := hS.keep (L' := [(g + 3 + 6 + 5 + 1, .row 3 l19.length), (g + 3 + 4, .cells [.v (.int .i64 0), .v (.int .i64 v20), .v (.int .i64 v11)]), (g + 2, .cells [.v (.int .i64 0), .v (.int .i64 0), .v (.int .i64 0)]), (g + 0, .cells [.sl .no 4 (a0.Clauses.map Clause.cells), .v (.int .i64 a0.Loan)])]) [false, true, true, true, true] rfl
          refine w_next [(1, .v (.int .i64 a1)), (3, .ptr (g + 0) 0), (7, .ptr (g + 2) 0), (8, .ptr (g + 3 + 4) 0), (9, .v (.int .i64 (w64 (v7 - r18)))), (10, .sl (.id (g + 3 + 6 + 5 + 1)) 1 (l19.map cI)), (11, .v (.int .i64 v9)), (13, .v (.int .i64 r18)), (60, .v (.bool (x17.Kind == 2)))] (.cons (.refl _) (.cons (.refl _) (.cons (.refl _) (.cons (.refl _) (.cons (.refl _) (.cons (.refl _) (.cons (.refl _) (.cons (.refl _) (.cons (.refl _) .nil))))))))) ?_
          rcases Bool.eq_false_or_eq_true (x17.Kind == 2) with hb21 | hb21
          · replace hM := ifT hM hb21
            refine w_condT (e := (x17.Kind == 2)) rfl hb21 ?_
            refine r_region (n := 6) rfl ?_
            refine o_fieldP (by decide) ty_fo41_2 rfl ?_
            refine o_load (v := .v (.int .i64 v11)) 1 hS (by decide) rfl rfl .no (part_one ty_agg3 ty_sc3 rfl) ?_
            refine o_move (v := .v (.int .i64 r18)) (by decide) rfl ?_
            refine o_int (v := .v (.int .i64 (w64 (v11 + r18)))) (by decide) rfl rfl rfl ?_
            refine o_fieldP (by decide) ty_fo41_2 rfl ?_
            refine o_store (v := .v (.int .i64 (w64 (v11 + r18)))) (ns := [.v (.int .i64 (w64 (v11 + r18)))]) (L' := [(g + 3 + 6 + 5 + 1, .row 3 l19.length), (g + 3 + 4, .cells [.v (.int .i64 0), .v (.int .i64 v20), .v (.int .i64 (w64 (v11 + r18)))]), (g + 2, .cells [.v (.int .i64 0), .v (.int .i64 0), .v (.int .i64 0)]), (g + 0, .cells [.sl .no 4 (a0.Clauses.map Clause.cells), .v (.int .i64 a0.Loan)])]) 1 hS rfl rfl .no rfl rfl ty_var3 (Nat.le_of_ble_eq_true rfl) rfl fun H hS => ?_
            refine run_nil ?_
            refine r_blk_normal ?_
            exact w_goto (w64 (v7 - r18), l19, v20, w64 (v11 + r18)) (.cons (.refl _) (.cons (.refl _) (.cons (.refl _) (.cons (.refl _) (.cons (.refl _) (.cons (.refl _) (.cons (.refl _) .nil))))))) ⟨(hS.keep [true, true, true, true] rfl).up (by omega), hM⟩
          · replace hM := ifF hM hb21
            refine w_condF (e := (x17.Kind == 2)) rfl hb21 ?_
            refine r_skip ?_
            refine r_blk_normal ?_
            exact w_goto (w64 (v7 - r18), l19, v20, v11) (.cons (.refl _) (.cons (.refl _) (.cons (.refl _) (.cons (.refl _) (.cons (.refl _) (.cons (.refl _) (.cons (.refl _) .nil))))))) ⟨(hS.keep [true, true, true, true] rfl).up (by omega), hM⟩
        · refine r_seq ?_
          refine r_region (n := 2) rfl ?_
          refine o_load (v := .agg [.v (.int .i64 x17.Kind), .v (.int .i64 x17.Cents), .v (.int .i64 x17.Part), .v (.int .i64 x17.More)]) 0 hS (by decide) rfl rfl .no (part_agg ty_agg39 (Nat.le_of_ble_eq_true rfl) rfl) ?_
          obtain ⟨r22, hr22, hM⟩ := bindE hM
          refine o_call (bs := [.agg [.v (.int .i64 x17.Kind), .v (.int .i64 x17.Cents), .v (.int .i64 x17.Part), .v (.int .i64 x17.More)]]) (by decide) rfl rfl ((W_ref09_IsOwners hr22).le (.cons (.refl _) .nil)) ?_
          refine run_nil ?_
          refine w_next [(1, .v (.int .i64 a1)), (3, .ptr (g + 0) 0), (7, .ptr (g + 2) 0), (8, .ptr (g + 3 + 4) 0), (9, .v (.int .i64 (w64 (v7 - r18)))), (10, .sl (.id (g + 3 + 6 + 5 + 1)) 1 (l19.map cI)), (11, .v (.int .i64 v9)), (12, .ptr (g3 + 5 + 5) 0), (13, .v (.int .i64 r18)), (52, .v (.bool r22))] (.cons (.refl _) (.cons (.refl _) (.cons (.refl _) (.cons (.refl _) (.cons (.refl _) (.cons (.refl _) (.cons (.refl _) (.cons (.refl _) (.cons (.refl _) (.cons (.refl _) .nil)))))))))) ?_
          rcases Bool.eq_false_or_eq_true r22 with hb23 | hb23
          · replace hM := ifT hM hb23
            refine w_condT (e := r22) rfl hb23 ?_
            refine r_region (n := 6) rfl ?_
            refine o_fieldP (by decide) ty_fo41_1 rfl ?_
            refine o_load (v := .v (.int .i64 v10)) 2 hS (by decide) rfl rfl .no (part_one ty_agg3 ty_sc3 rfl) ?_
            refine o_move (v := .v (.int .i64 r18)) (by decide) rfl ?_
            refine o_int (v := .v (.int .i64 (w64 (v10 + r18)))) (by decide) rfl rfl rfl ?_
            refine o_fieldP (by decide) ty_fo41_1 rfl ?_
            refine o_store (v := .v (.int .i64 (w64 (v10 + r18)))) (ns := [.v (.int .i64 (w64 (v10 + r18)))]) (L' := [(g3 + 5 + 5, .cells [.v (.int .i64 x17.Kind), .v (.int .i64 x17.Cents), .v (.int .i64 x17.Part), .v (.int .i64 x17.More)]), (g + 3 + 6 + 5 + 1, .row 3 l19.length), (g + 3 + 4, .cells [.v (.int .i64 0), .v (.int .i64 (w64 (v10 + r18))), .v (.int .i64 v11)]), (g + 2, .cells [.v (.int .i64 0), .v (.int .i64 0), .v (.int .i64 0)]), (g + 0, .cells [.sl .no 4 (a0.Clauses.map Clause.cells), .v (.int .i64 a0.Loan)])]) 2 hS rfl rfl .no rfl rfl ty_var3 (Nat.le_of_ble_eq_true rfl) rfl fun H hS => ?_
            refine run_nil ?_
            exact w_goto (w64 (v10 + r18)) (.cons (.refl _) (.cons (.refl _) (.cons (.refl _) (.cons (.refl _) (.cons (.refl _) (.cons (.refl _) (.cons (.refl _) (.cons (.refl _) (.cons (.refl _) .nil))))))))) ⟨(hS.keep [true, true, true, true, true] rfl).up (by omega), hM⟩
          · replace hM := ifF hM hb23
            refine w_condF (e := r22) rfl hb23 ?_
            refine r_skip ?_
            exact w_goto v10 (.cons (.refl _) (.cons (.refl _) (.cons (.refl _) (.cons (.refl _) (.cons (.refl _) (.cons (.refl _) (.cons (.refl _) (.cons (.refl _) (.cons (.refl _) .nil))))))))) ⟨(hS.keep [true, true, true, true, true] rfl).up (by omega), hM⟩
    · replace hM := ifF hM hb12
      refine w_condF (e := (decide (v9 < (a0.Clauses.length : Int)))) rfl hb12 ?_
      refine r_exit ?_
      refine r_then_exit ?_
      refine w_round_exit ?_
      refine r_blk_exit ?_
      exact w_goto (v8, v10, v11) (.cons (.refl _) (.cons (.refl _) (.cons (.refl _) (.cons (.refl _) .nil)))) ⟨(hS.keep [true, true, true, false] rfl).up (by omega), hM⟩
theorem W_ref09_Best {n : Nat} {a0 : Share} {a1 : Int} {r : (List Int) × Int} (hM : ref09_Best n a0 a1 = some r) : PureSat Try.prog 18 [.agg [.sl .no 4 (a0.Clauses.map Clause.cells), .v (.int .i64 a0.Loan)], .v (.int .i64 a1)] (.tup [.sl .no 1 (r.1.map cI), .v (.int .i64 r.2)]) := by
  refine pure_of_wp mixed Try.func18 rfl (by decide) Try.ntmps18 (by simp) ?pure fun H0 g hf => ?_
  case pure => exact .tup _ (pl_cons (.sl _ _ (pures_map (fun x => (pl_cons (.v _) pl_nil)))) (pl_cons (.v _) pl_nil))
  rw [frame0_of]
  change wpA _ _ _ _ (Fr.of [(0, .agg [.sl .no 4 (a0.Clauses.map Clause.cells), .v (.int .i64 a0.Loan)]), (1, .v (.int .i64 a1))]) H0 g
  have hS := St.start hf
  refine r_seq ?_
  refine r_region (n := 3) rfl ?_
  refine o_box (v := .agg [.sl .no 4 (a0.Clauses.map Clause.cells), .v (.int .i64 a0.Loan)]) (cs := [.sl .no 4 (a0.Clauses.map Clause.cells), .v (.int .i64 a0.Loan)]) hS (by decide) rfl rfl (by omega) fun H hS => ?_
  refine o_assign (v := .sl .nil 0 []) (by decide) rfl ?_
  refine o_assign (v := .v (.int .i64 0)) (by decide) rfl ?_
  refine run_nil ?_
  refine w_next [(1, .v (.int .i64 a1)), (2, .ptr (g + 0) 0)] (.cons (.refl _) (.cons (.refl _) .nil)) ?_
  refine r_seq ?_
  refine r_seq ?_
  have hS0 := hS
  refine r_draw (n := 5) rfl (by kernel_rfl) ?_
  refine o_load (v := .agg [.sl .no 4 (a0.Clauses.map Clause.cells), .v (.int .i64 a0.Loan)]) 0 hS (by decide) rfl rfl (.st hS0 0 rfl (by omega)) (part_agg ty_agg24 (Nat.le_of_ble_eq_true rfl) rfl) ?_
  refine o_move (v := .v (.int .i64 a1)) (by decide) rfl ?_
  obtain ⟨r1, hr1, hM⟩ := bindE hM
  refine o_call (bs := [.v (.int .i64 a1)]) (by decide) rfl rfl ((W_ref09_IsCents hr1).le (.cons (.refl _) .nil)) ?_
  obtain ⟨r2, hr2, hM⟩ := bindE hM
  refine o_call (bs := [.agg [.sl .no 4 (a0.Clauses.map Clause.cells), .v (.int .i64 a0.Loan)], .v (.bool r1)]) (by decide) rfl rfl ((W_ref09_ask hr2).le (.cons (.refl _) (.cons (.refl _) .nil))) ?_
  refine o_assign (v := .v (.int .i64 r2)) (by decide) rfl ?_
  refine run_nil ?_
  refine w_next [(1, .v (.int .i64 a1)), (2, .ptr (g + 0) 0), (6, .v (.int .i64 r2))] (.cons (.refl _) (.cons (.refl _) (.cons (.refl _) .nil))) ?_
  refine r_seq ?_
  refine r_region (n := 2) rfl ?_
  refine o_move (v := .v (.int .i64 r2)) (by decide) rfl ?_
  refine o_int (v := .v (.bool (r2 != 0))) (by decide) rfl rfl rfl ?_
  refine run_nil ?_
  refine w_next [(1, .v (.int .i64 a1)), (2, .ptr (g + 0) 0), (6, .v (.int .i64 r2)), (18, .v (.bool (r2 != 0)))] (.cons (.refl _) (.cons (.refl _) (.cons (.refl _) (.cons (.refl _) .nil)))) ?_
  rcases Bool.eq_false_or_eq_true (r2 != 0) with hb3 | hb3
  · replace hM := ifT hM hb3
    refine w_condT (e := (r2 != 0)) rfl hb3 ?_
    refine r_seq ?_
    refine r_region (n := 3) rfl ?_
    refine o_move (v := .v (.int .i64 r2)) (by decide) rfl ?_
    refine o_assign (v := .sl .nil 0 []) (by decide) rfl ?_
    refine o_assign (v := .v (.int .i64 r2)) (by decide) rfl ?_
    refine run_nil ?_
    replace hS := hS.keep (L' := []) [false] rfl
    refine w_next [(4, .sl .nil 0 []), (5, .v (.int .i64 r2))] (.cons (.refl _) (.cons (.refl _) .nil)) ?_
    refine r_ret ?_
    refine r_then_ret ?_
    refine w_end (x := .tup [.sl .nil 0 [], .v (.int .i64 r2)]) (f := fun r => .tup [.sl .no 1 (r.1.map cI), .v (.int .i64 r.2)]) (.inr rfl) ?_ (.tupL (.cons (.sl0 .nil 1 0) (.cons (.refl _) .nil))) (Option.some.inj hM) hS
    exact (res_two (res_tmp (x := .sl .nil 0 []) rfl) (res_tmp (x := .v (.int .i64 r2)) rfl))
  · replace hM := ifF hM hb3
    refine w_condF (e := (r2 != 0)) rfl hb3 ?_
    refine r_skip ?_
    refine w_next [(1, .v (.int .i64 a1)), (2, .ptr (g + 0) 0)] (.cons (.refl _) (.cons (.refl _) .nil)) ?_
    refine r_seq ?_
    refine r_region (n := 5) rfl ?_
    refine o_fieldP (by decide) ty_fo24_0 rfl ?_
    refine o_load (v := .sl .no 4 (a0.Clauses.map Clause.cells)) 0 hS (by decide) rfl rfl .no (part_one ty_agg22 ty_sc22 rfl) ?_
    refine o_len (n := a0.Clauses.length) (by decide) rfl (List.length_map _) ty_isl22 ?_
    obtain ⟨r4, hr4, hM⟩ := bindE hM
    refine o_call (bs := [.v (.int .i64 (a0.Clauses.length : Int)), .sl .nil 0 []]) (by decide) rfl rfl ((W_ref09_Orders hr4).le (.cons (.refl _) (.cons (.sl0 .nil 1 0) .nil))) ?_
    refine o_assign (v := .sl .no 1 (r4.map (cL 1 cI))) (by decide) rfl ?_
    refine run_nil ?_
    refine w_next [(1, .v (.int .i64 a1)), (2, .ptr (g + 0) 0), (7, .sl .no 1 (r4.map (cL 1 cI)))] (.cons (.refl _) (.cons (.refl _) (.cons (.refl _) .nil))) ?_
    refine r_seq ?_
    refine r_region (n := 2) rfl ?_
    refine o_assign (v := .v (.int .i64 0)) (by decide) rfl ?_
    refine o_assign (v := .v (.int .i64 (-1))) (by decide) rfl ?_
    refine run_nil ?_
    refine w_next [(1, .v (.int .i64 a1)), (2, .ptr (g + 0) 0), (7, .sl .no 1 (r4.map (cL 1 cI))), (8, .v (.int .i64 0)), (9, .v (.int .i64 (-1)))] (.cons (.refl _) (.cons (.refl _) (.cons (.refl _) (.cons (.refl _) (.cons (.refl _) .nil))))) ?_
    refine w_join (J := Int) (fun j => [(7, .sl .no 1 (r4.map (cL 1 cI))), (8, .v (.int .i64 j))]) (fun j H' g' => St (· < g) H0 [] H' g' ∧ ref09_Best_j1 r4 j = some r) ?_ ?_
    · rintro v5 H g1 ⟨hS, hM⟩
      change wpA _ _ _ _ (Fr.of [(7, .sl .no 1 (r4.map (cL 1 cI))), (8, .v (.int .i64 v5))]) _ _
      replace hS : St (· < g) H0 [] H g1 := hS
      replace hM : ref09_Best_j1 r4 v5 = some r := hM
      refine r_seq ?_
      refine r_region (n := 6) rfl ?_
      refine o_move (v := .sl .no 1 (r4.map (cL 1 cI))) (by decide) rfl ?_
      refine o_move (v := .v (.int .i64 v5)) (by decide) rfl ?_
      obtain ⟨x6, hx6, hM⟩ := bindE hM
      refine o_index (xs := r4) (f := (cL 1 cI)) (z := v5) (u := x6) (by decide) rfl rfl ty_es71 hx6 ?_
      refine o_loadE (v := .sl .no 1 (x6.map cI)) (by decide) rfl (part_one ty_agg28 ty_sc28 rfl) ?_
      refine o_assign (v := .sl .no 1 (x6.map cI)) (by decide) rfl ?_
      refine o_assign (v := .v (.int .i64 0)) (by decide) rfl ?_
      refine run_nil ?_
      refine w_next [(4, .sl .no 1 (x6.map cI)), (5, .v (.int .i64 0))] (.cons (.refl _) (.cons (.refl _) .nil)) ?_
      refine r_ret ?_
      refine w_end (x := .tup [.sl .no 1 (x6.map cI), .v (.int .i64 0)]) (f := fun r => .tup [.sl .no 1 (r.1.map cI), .v (.int .i64 r.2)]) (.inr rfl) ?_ (.refl _) (Option.some.inj hM) hS
      exact (res_two (res_tmp (x := .sl .no 1 (x6.map cI)) rfl) (res_tmp (x := .v (.int .i64 0)) rfl))
    · refine r_seq ?_
      refine r_region (n := 1) rfl ?_
      refine o_assign (v := .v (.int .i64 0)) (by decide) rfl ?_
      refine run_nil ?_
      refine w_next [(1, .v (.int .i64 a1)), (2, .ptr (g + 0) 0), (7, .sl .no 1 (r4.map (cL 1 cI))), (8, .v (.int .i64 0)), (9, .v (.int .i64 (-1))), (10, .v (.int .i64 0))] (.cons (.refl _) (.cons (.refl _) (.cons (.refl _) (.cons (.refl _) (.cons (.refl _) (.cons (.refl _) .nil)))))) ?_
      refine r_block ?_
      refine w_loop (V := Int × Int × Int) (fun v => [(1, .v (.int .i64 a1)), (2, .ptr (g + 0) 0), (7, .sl .no 1 (r4.map (cL 1 cI))), (8, .v (.int .i64 v.1)), (9, .v (.int .i64 v.2.1)), (10, .v (.int .i64 v.2.2))]) (fun v m H' g' => St (· < g) H0 [(g + 0, .cells [.sl .no 4 (a0.Clauses.map Clause.cells), .v (.int .i64 a0.Loan)])] H' g' ∧ ref09_Best_l1 n a0 a1 r4 m v.1 v.2.1 v.2.2 = some r) (n := n) (0, (-1), 0) (.cons (.refl _) (.cons (.refl _) (.cons (.refl _) (.cons (.refl _) (.cons (.refl _) (.cons (.refl _) .nil)))))) ⟨(hS.keep [true] rfl).up (by omega), hM⟩ ?_
      rintro ⟨v7, v8, v9⟩ m H g2 ⟨hS, hM⟩
      obtain _ | m := m
      · exact nomatch (show none = some _ from hM)
      change wpA _ _ _ _ (Fr.of [(1, .v (.int .i64 a1)), (2, .ptr (g + 0) 0), (7, .sl .no 1 (r4.map (cL 1 cI))), (8, .v (.int .i64 v7)), (9, .v (.int .i64 v8)), (10, .v (.int .i64 v9))]) _ _
      replace hS : St (· < g) H0 [(g + 0, .cells [.sl .no 4 (a0.Clauses.map Clause.cells), .v (.int .i64 a0.Loan)])] H g2 := hS
      replace hM : ref09_Best_l1_b n a0 a1 r4 (ref09_Best_l1 n a0 a1 r4 m) v7 v8 v9 = some r := hM
      refine r_seq ?_
      refine r_seq ?_
      refine r_region (n := 4) rfl ?_
      refine o_move (v := .v (.int .i64 v9)) (by decide) rfl ?_
      refine o_move (v := .sl .no 1 (r4.map (cL 1 cI))) (by decide) rfl ?_
      refine o_len (n := r4.length) (by decide) rfl (List.length_map _) ty_isl71 ?_
      refine o_int (v := .v (.bool (decide (v9 < (r4.length : Int))))) (by decide) rfl rfl rfl ?_
      refine run_nil ?_
      refine w_next [(1, .v (.int .i64 a1)), (2, .ptr (g + 0) 0), (7, .sl .no 1 (r4.map (cL 1 cI))), (8, .v (.int .i64 v7)), (9, .v (.int .i64 v8)), (10, .v (.int .i64 v9)), (27, .v (.bool (decide (v9 < (r4.length : Int)))))] (.cons (.refl _) (.cons (.refl _) (.cons (.refl _) (.cons (.refl _) (.cons (.refl _) (.cons (.refl _) (.cons (.refl _) .nil))))))) ?_
      rcases Bool.eq_false_or_eq_true (decide (v9 < (r4.length : Int))) with hb10 | hb10
      · replace hM := ifT hM hb10
        refine w_condT (e := (decide (v9 < (r4.length : Int)))) rfl hb10 ?_
        refine r_skip ?_
        refine w_next [(1, .v (.int .i64 a1)), (2, .ptr (g + 0) 0), (7, .sl .no 1 (r4.map (cL 1 cI))), (8, .v (.int .i64 v7)), (9, .v (.int .i64 v8)), (10, .v (.int .i64 v9))] (.cons (.refl _) (.cons (.refl _) (.cons (.refl _) (.cons (.refl _) (.cons (.refl _) (.cons (.refl _) .nil)))))) ?_
        refine w_join (J := Int × Int) (fun j => [(1, .v (.int .i64 a1)), (2, .ptr (g + 0) 0), (7, .sl .no 1 (r4.map (cL 1 cI))), (8, .v (.int .i64 j.1)), (9, .v (.int .i64 j.2)), (10, .v (.int .i64 v9))]) (fun j H' g' => St (· < g) H0 [(g + 0, .cells [.sl .no 4 (a0.Clauses.map Clause.cells), .v (.int .i64 a0.Loan)])] H' g' ∧ ref09_Best_j2 (ref09_Best_l1 n a0 a1 r4 m) v9 j.1 j.2 = some r) ?_ ?_
        · rintro ⟨v11, v12⟩ H g3 ⟨hS, hM⟩
          change wpA _ _ _ _ (Fr.of [(1, .v (.int .i64 a1)), (2, .ptr (g + 0) 0), (7, .sl .no 1 (r4.map (cL 1 cI))), (8, .v (.int .i64 v11)), (9, .v (.int .i64 v12)), (10, .v (.int .i64 v9))]) _ _
          replace hS : St (· < g) H0 [(g + 0, .cells [.sl .no 4 (a0.Clauses.map Clause.cells), .v (.int .i64 a0.Loan)])] H g3 := hS
          replace hM : ref09_Best_j2 (ref09_Best_l1 n a0 a1 r4 m) v9 v11 v12 = some r := hM
          refine r_region (n := 3) rfl ?_
          refine o_move (v := .v (.int .i64 v9)) (by decide) rfl ?_
          refine o_int (v := .v (.int .i64 (w64 (v9 + 1)))) (by decide) rfl rfl rfl ?_
          refine o_assign (v := .v (.int .i64 (w64 (v9 + 1)))) (by decide) rfl ?_
          refine run_nil ?_
          exact w_round (v11, v12, w64 (v9 + 1)) (Nat.lt_succ_self _) (.cons (.refl _) (.cons (.refl _) (.cons (.refl _) (.cons (.refl _) (.cons (.refl _) (.cons (.refl _) .nil)))))) ⟨(hS.keep [true] rfl).up (by omega), hM⟩
        · refine r_block ?_
          refine r_seq ?_
          have hS0 := hS
          refine r_draw (n := 14) rfl (by kernel_rfl) ?_
          refine o_load (v := .agg [.sl .no 4 (a0.Clauses.map Clause.cells), .v (.int .i64 a0.Loan)]) 0 hS (by decide) rfl rfl (.st hS0 0 rfl (by omega)) (part_agg ty_agg24 (Nat.le_of_ble_eq_true rfl) rfl) ?_
          refine o_move (v := .sl .no 1 (r4.map (cL 1 cI))) (by decide) rfl ?_
          refine o_move (v := .v (.int .i64 v9)) (by decide) rfl ?_
          obtain ⟨x13, hx13, hM⟩ := bindE hM
          refine o_index (xs := r4) (f := (cL 1 cI)) (z := v9) (u := x13) (by decide) rfl rfl ty_es71 hx13 ?_
          refine o_loadE (v := .sl .no 1 (x13.map cI)) (by decide) rfl (part_one ty_agg28 ty_sc28 rfl) ?_
          obtain ⟨r14, hr14, hM⟩ := bindE hM
          refine o_call (bs := [.agg [.sl .no 4 (a0.Clauses.map Clause.cells), .v (.int .i64 a0.Loan)], .sl .no 1 (x13.map cI)]) (by decide) rfl rfl ((W_ref09_Ordered hr14).le (.cons (.refl _) (.cons (.refl _) .nil))) ?_
          refine o_move (v := .v (.int .i64 a1)) (by decide) rfl ?_
          obtain ⟨r15, hr15, hM⟩ := bindE hM
          refine o_call (bs := [.agg [.sl .no 4 (r14.Clauses.map Clause.cells), .v (.int .i64 r14.Loan)], .v (.int .i64 a1), .v (.int .i64 0)]) (by decide) rfl rfl ((W_ref09_Gone hr15).le (.cons (.refl _) (.cons (.refl _) (.cons (.refl _) .nil)))) ?_
          refine o_move (v := .tup [.sl .no 1 (r15.1.map cI), .agg [.v (.int .i64 r15.2.Operator), .v (.int .i64 r15.2.Owner), .v (.int .i64 r15.2.Repaid)]]) (by decide) rfl ?_
          refine o_extract (v := .sl .no 1 (r15.1.map cI)) (by decide) rfl rfl ?_
          refine o_extract (v := .agg [.v (.int .i64 r15.2.Operator), .v (.int .i64 r15.2.Owner), .v (.int .i64 r15.2.Repaid)]) (by decide) rfl rfl ?_
          refine o_alloc hS (by decide) ty_zero41 (by omega) fun H hS => ?_
          refine o_assign (v := .sl .no 1 (r15.1.map cI)) (by decide) rfl ?_
          refine o_store (v := .agg [.v (.int .i64 r15.2.Operator), .v (.int .i64 r15.2.Owner), .v (.int .i64 r15.2.Repaid)]) (ns := [.v (.int .i64 r15.2.Operator), .v (.int .i64 r15.2.Owner), .v (.int .i64 r15.2.Repaid)]) (L' := [(g2 + 4 + 11, .cells [.v (.int .i64 r15.2.Operator), .v (.int .i64 r15.2.Owner), .v (.int .i64 r15.2.Repaid)]), (g + 0, .cells [.sl .no 4 (a0.Clauses.map Clause.cells), .v (.int .i64 a0.Loan)])]) 0 hS rfl rfl (.behind (by kernel_rfl)) rfl rfl ty_var41 (Nat.le_of_ble_eq_true rfl) rfl fun H hS => ?_
          refine run_nil ?_
          refine w_next [(1, .v (.int .i64 a1)), (2, .ptr (g + 0) 0), (7, .sl .no 1 (r4.map (cL 1 cI))), (8, .v (.int .i64 v7)), (9, .v (.int .i64 v8)), (10, .v (.int .i64 v9)), (12, .ptr (g2 + 4 + 11) 0)] (.cons (.refl _) (.cons (.refl _) (.cons (.refl _) (.cons (.refl _) (.cons (.refl _) (.cons (.refl _) (.cons (.refl _) .nil))))))) ?_
          refine r_seq ?_
          refine r_region (n := 4) rfl ?_
          refine o_fieldP (by decide) ty_fo41_1 rfl ?_
          refine o_load (v := .v (.int .i64 r15.2.Owner)) 0 hS (by decide) rfl rfl .no (part_one ty_agg3 ty_sc3 rfl) ?_
          refine o_move (v := .v (.int .i64 v8)) (by decide) rfl ?_
          refine o_int (v := .v (.bool (decide (r15.2.Owner > v8)))) (by decide) rfl rfl rfl ?_
          refine run_nil ?_
          refine w_next [(1, .v (.int .i64 a1)), (2, .ptr (g + 0) 0), (7, .sl .no 1 (r4.map (cL 1 cI))), (8, .v (.int .i64 v7)), (9, .v (.int .i64 v8)), (10, .v (.int .i64 v9)), (12, .ptr (g2 + 4 + 11) 0), (44, .v (.bool (decide (r15.2.Owner > v8))))] (.cons (.refl _) (.cons (.refl _) (.cons (.refl _) (.cons (.refl _) (.cons (.refl _) (.cons (.refl _) (.cons (.refl _) (.cons (.refl _) .nil)))))))) ?_
          rcases Bool.eq_false_or_eq_true (decide (r15.2.Owner > v8)) with hb16 | hb16
          · replace hM := ifT hM hb16
            refine w_condT (e := (decide (r15.2.Owner > v8))) rfl hb16 ?_
            have hS0 := hS
            refine r_draw (n := 5) rfl (by kernel_rfl) ?_
            refine o_move (v := .v (.int .i64 v9)) (by decide) rfl ?_
            refine o_fieldP (by decide) ty_fo41_1 rfl ?_
            refine o_load (v := .v (.int .i64 r15.2.Owner)) 0 hS (by decide) rfl rfl (.st hS0 0 rfl (by omega)) (part_one ty_agg3 ty_sc3 rfl) ?_
            refine o_assign (v := .v (.int .i64 v9)) (by decide) rfl ?_
            refine o_assign (v := .v (.int .i64 r15.2.Owner)) (by decide) rfl ?_
            refine run_nil ?_
            refine r_blk_normal ?_
            exact w_goto (v9, r15.2.Owner) (.cons (.refl _) (.cons (.refl _) (.cons (.refl _) (.cons (.refl _) (.cons (.refl _) (.cons (.refl _) .nil)))))) ⟨(hS.keep [false, true] rfl).up (by omega), hM⟩
          · replace hM := ifF hM hb16
            refine w_condF (e := (decide (r15.2.Owner > v8))) rfl hb16 ?_
            refine r_skip ?_
            refine r_blk_normal ?_
            exact w_goto (v7, v8) (.cons (.refl _) (.cons (.refl _) (.cons (.refl _) (.cons (.refl _) (.cons (.refl _) (.cons (.refl _) .nil)))))) ⟨(hS.keep [false, true] rfl).up (by omega), hM⟩
      · replace hM := ifF hM hb10
        refine w_condF (e := (decide (v9 < (r4.length : Int)))) rfl hb10 ?_
        refine r_exit ?_
        refine r_then_exit ?_
        refine w_round_exit ?_
        refine r_blk_exit ?_
        exact w_goto v7 (.cons (.refl _) (.cons (.refl _) .nil)) ⟨(hS.keep [false] rfl).up (by omega), hM⟩
theorem W_ref09_Repaid {n : Nat} {a0 : Share} {a1 : Int} {r : Int × Int} (hM : ref09_Repaid n a0 a1 = some r) : PureSat Try.prog 20 [.agg [.sl .no 4 (a0.Clauses.map Clause.cells), .v (.int .i64 a0.Loan)], .v (.int .i64 a1)] (.tup [.v (.int .i64 r.1), .v (.int .i64 r.2)]) := by
  refine pure_of_wp mixed Try.func20 rfl (by decide) Try.ntmps20 (by simp) ?pure fun H0 g hf => ?_
  case pure => exact .tup _ (pl_cons (.v _) (pl_cons (.v _) pl_nil))
  rw [frame0_of]
  change wpA _ _ _ _ (Fr.of [(0, .agg [.sl .no 4 (a0.Clauses.map Clause.cells), .v (.int .i64 a0.Loan)]), (1, .v (.int .i64 a1))]) H0 g
  have hS := St.start hf
  refine r_seq ?_
  refine r_region (n := 3) rfl ?_
  refine o_box (v := .agg [.sl .no 4 (a0.Clauses.map Clause.cells), .v (.int .i64 a0.Loan)]) (cs := [.sl .no 4 (a0.Clauses.map Clause.cells), .v (.int .i64 a0.Loan)]) hS (by decide) rfl rfl (by omega) fun H hS => ?_
  refine o_assign (v := .v (.int .i64 0)) (by decide) rfl ?_
  refine o_assign (v := .v (.int .i64 0)) (by decide) rfl ?_
  refine run_nil ?_
  refine w_next [(1, .v (.int .i64 a1)), (2, .ptr (g + 0) 0)] (.cons (.refl _) (.cons (.refl _) .nil)) ?_
  refine r_seq ?_
  refine r_seq ?_
  have hS0 := hS
  refine r_draw (n := 5) rfl (by kernel_rfl) ?_
  refine o_load (v := .agg [.sl .no 4 (a0.Clauses.map Clause.cells), .v (.int .i64 a0.Loan)]) 0 hS (by decide) rfl rfl (.st hS0 0 rfl (by omega)) (part_agg ty_agg24 (Nat.le_of_ble_eq_true rfl) rfl) ?_
  refine o_move (v := .v (.int .i64 a1)) (by decide) rfl ?_
  obtain ⟨r1, hr1, hM⟩ := bindE hM
  refine o_call (bs := [.v (.int .i64 a1)]) (by decide) rfl rfl ((W_ref09_IsCents hr1).le (.cons (.refl _) .nil)) ?_
  obtain ⟨r2, hr2, hM⟩ := bindE hM
  refine o_call (bs := [.agg [.sl .no 4 (a0.Clauses.map Clause.cells), .v (.int .i64 a0.Loan)], .v (.bool r1)]) (by decide) rfl rfl ((W_ref09_ask hr2).le (.cons (.refl _) (.cons (.refl _) .nil))) ?_
  refine o_assign (v := .v (.int .i64 r2)) (by decide) rfl ?_
  refine run_nil ?_
  refine w_next [(1, .v (.int .i64 a1)), (2, .ptr (g + 0) 0), (6, .v (.int .i64 r2))] (.cons (.refl _) (.cons (.refl _) (.cons (.refl _) .nil))) ?_
  refine r_seq ?_
  refine r_region (n := 2) rfl ?_
  refine o_move (v := .v (.int .i64 r2)) (by decide) rfl ?_
  refine o_int (v := .v (.bool (r2 != 0))) (by decide) rfl rfl rfl ?_
  refine run_nil ?_
  refine w_next [(1, .v (.int .i64 a1)), (2, .ptr (g + 0) 0), (6, .v (.int .i64 r2)), (16, .v (.bool (r2 != 0)))] (.cons (.refl _) (.cons (.refl _) (.cons (.refl _) (.cons (.refl _) .nil)))) ?_
  rcases Bool.eq_false_or_eq_true (r2 != 0) with hb3 | hb3
  · replace hM := ifT hM hb3
    refine w_condT (e := (r2 != 0)) rfl hb3 ?_
    refine r_seq ?_
    refine r_region (n := 3) rfl ?_
    refine o_move (v := .v (.int .i64 r2)) (by decide) rfl ?_
    refine o_assign (v := .v (.int .i64 0)) (by decide) rfl ?_
    refine o_assign (v := .v (.int .i64 r2)) (by decide) rfl ?_
    refine run_nil ?_
    replace hS := hS.keep (L' := []) [false] rfl
    refine w_next [(4, .v (.int .i64 0)), (5, .v (.int .i64 r2))] (.cons (.refl _) (.cons (.refl _) .nil)) ?_
    refine r_ret ?_
    refine r_then_ret ?_
    refine w_end (x := .tup [.v (.int .i64 0), .v (.int .i64 r2)]) (f := fun r => .tup [.v (.int .i64 r.1), .v (.int .i64 r.2)]) (.inr rfl) ?_ (.refl _) (Option.some.inj hM) hS
    exact (res_two (res_tmp (x := .v (.int .i64 0)) rfl) (res_tmp (x := .v (.int .i64 r2)) rfl))
  · replace hM := ifF hM hb3
    refine w_condF (e := (r2 != 0)) rfl hb3 ?_
    refine r_skip ?_
    refine w_next [(1, .v (.int .i64 a1)), (2, .ptr (g + 0) 0)] (.cons (.refl _) (.cons (.refl _) .nil)) ?_
    refine r_seq ?_
    refine r_region (n := 4) rfl ?_
    refine o_load (v := .agg [.sl .no 4 (a0.Clauses.map Clause.cells), .v (.int .i64 a0.Loan)]) 0 hS (by decide) rfl rfl .no (part_agg ty_agg24 (Nat.le_of_ble_eq_true rfl) rfl) ?_
    obtain ⟨r4, hr4, hM⟩ := bindE hM
    refine o_call (bs := [.agg [.sl .no 4 (a0.Clauses.map Clause.cells), .v (.int .i64 a0.Loan)]]) (by decide) rfl rfl ((W_ref09_Copy hr4).le (.cons (.refl _) .nil)) ?_
    refine o_alloc hS (by decide) ty_zero24 (by omega) fun H hS => ?_
    refine o_store (v := .agg [.sl .no 4 (r4.Clauses.map Clause.cells), .v (.int .i64 r4.Loan)]) (ns := [.sl .no 4 (r4.Clauses.map Clause.cells), .v (.int .i64 r4.Loan)]) (L' := [(g + 3 + 5 + 2 + 2, .cells [.sl .no 4 (r4.Clauses.map Clause.cells), .v (.int .i64 r4.Loan)]), (g + 0, .cells [.sl .no 4 (a0.Clauses.map Clause.cells), .v (.int .i64 a0.Loan)])]) 0 hS rfl rfl .no rfl rfl ty_var24 (Nat.le_of_ble_eq_true rfl) rfl fun H hS => ?_
    refine run_nil ?_
    replace hS := hS.keep (L' := [(g + 3 + 5 + 2 + 2, .cells [.sl .no 4 (r4.Clauses.map Clause.cells), .v (.int .i64 r4.Loan)])]) [true, false] rfl
    refine w_next [(1, .v (.int .i64 a1)), (7, .ptr (g + 3 + 5 + 2 + 2) 0)] (.cons (.refl _) (.cons (.refl _) .nil)) ?_
    refine w_join (J := Unit) (fun j => []) (fun j H' g' => St (· < g) H0 [] H' g' ∧ ref09_Repaid_j1 = some r) ?_ ?_
    · rintro _ H g1 ⟨hS, hM⟩
      change wpA _ _ _ _ (Fr.of []) _ _
      replace hS : St (· < g) H0 [] H g1 := hS
      replace hM : ref09_Repaid_j1 = some r := hM
      refine r_seq ?_
      refine r_region (n := 2) rfl ?_
      refine o_assign (v := .v (.int .i64 0)) (by decide) rfl ?_
      refine o_assign (v := .v (.int .i64 3)) (by decide) rfl ?_
      refine run_nil ?_
      refine w_next [(4, .v (.int .i64 0)), (5, .v (.int .i64 3))] (.cons (.refl _) (.cons (.refl _) .nil)) ?_
      refine r_ret ?_
      refine w_end (x := .tup [.v (.int .i64 0), .v (.int .i64 3)]) (f := fun r => .tup [.v (.int .i64 r.1), .v (.int .i64 r.2)]) (.inr rfl) ?_ (.refl _) (Option.some.inj hM) hS
      exact (res_two (res_tmp (x := .v (.int .i64 0)) rfl) (res_tmp (x := .v (.int .i64 3)) rfl))
    · refine r_seq ?_
      refine r_region (n := 1) rfl ?_
      refine o_assign (v := .v (.int .i64 0)) (by decide) rfl ?_
      refine run_nil ?_
      refine w_next [(1, .v (.int .i64 a1)), (7, .ptr (g + 3 + 5 + 2 + 2) 0), (8, .v (.int .i64 0))] (.cons (.refl _) (.cons (.refl _) (.cons (.refl _) .nil))) ?_
      refine r_block ?_
      refine w_loop (V := Int × Int) (fun v => [(1, .v (.int .i64 a1)), (7, .ptr (g + 3 + 5 + 2 + 2) 0), (8, .v (.int .i64 v.1))]) (fun v m H' g' => St (· < g) H0 [(g + 3 + 5 + 2 + 2, .cells [.sl .no 4 (r4.Clauses.map Clause.cells), .v (.int .i64 v.2)])] H' g' ∧ ref09_Repaid_l1 n a1 r4 m v.1 v.2 = some r) (n := n) (0, r4.Loan) (.cons (.refl _) (.cons (.refl _) (.cons (.refl _) .nil))) ⟨(hS.keep [true] rfl).up (by omega), hM⟩ ?_
      rintro ⟨v6, v7⟩ m H g3 ⟨hS, hM⟩
      obtain _ | m := m
      · exact nomatch (show none = some _ from hM)
      change wpA _ _ _ _ (Fr.of [(1, .v (.int .i64 a1)), (7, .ptr (g + 3 + 5 + 2 + 2) 0), (8, .v (.int .i64 v6))]) _ _
      replace hS : St (· < g) H0 [(g + 3 + 5 + 2 + 2, .cells [.sl .no 4 (r4.Clauses.map Clause.cells), .v (.int .i64 v7)])] H g3 := hS
      replace hM : ref09_Repaid_l1_b n a1 r4 (ref09_Repaid_l1 n a1 r4 m) v6 v7 = some r := hM
      refine r_seq ?_
      refine r_seq ?_
      refine r_region (n := 2) rfl ?_
      refine o_move (v := .v (.int .i64 v6)) (by decide) rfl ?_
      refine o_int (v := .v (.bool (decide (v6 ≤ 1000)))) (by decide) rfl rfl rfl ?_
      refine run_nil ?_
      refine w_next [(1, .v (.int .i64 a1)), (7, .ptr (g + 3 + 5 + 2 + 2) 0), (8, .v (.int .i64 v6)), (21, .v (.bool (decide (v6 ≤ 1000))))] (.cons (.refl _) (.cons (.refl _) (.cons (.refl _) (.cons (.refl _) .nil)))) ?_
      rcases Bool.eq_false_or_eq_true (decide (v6 ≤ 1000)) with hb8 | hb8
      · replace hM := ifT hM hb8
        refine w_condT (e := (decide (v6 ≤ 1000))) rfl hb8 ?_
        refine r_skip ?_
        refine w_next [(1, .v (.int .i64 a1)), (7, .ptr (g + 3 + 5 + 2 + 2) 0), (8, .v (.int .i64 v6))] (.cons (.refl _) (.cons (.refl _) (.cons (.refl _) .nil))) ?_
        refine r_seq ?_
        refine r_block ?_
        refine r_seq ?_
        refine r_seq ?_
        refine r_region (n := 3) rfl ?_
        refine o_fieldP (by decide) ty_fo24_1 rfl ?_
        refine o_load (v := .v (.int .i64 v7)) 0 hS (by decide) rfl rfl .no (part_one ty_agg3 ty_sc3 rfl) ?_
        refine o_int (v := .v (.bool (v7 == 0))) (by decide) rfl rfl rfl ?_
        refine run_nil ?_
        refine w_next [(1, .v (.int .i64 a1)), (7, .ptr (g + 3 + 5 + 2 + 2) 0), (8, .v (.int .i64 v6)), (26, .v (.bool (v7 == 0)))] (.cons (.refl _) (.cons (.refl _) (.cons (.refl _) (.cons (.refl _) .nil)))) ?_
        rcases Bool.eq_false_or_eq_true (v7 == 0) with hb9 | hb9
        · replace hM := ifT hM hb9
          refine w_condT (e := (v7 == 0)) rfl hb9 ?_
          refine r_seq ?_
          refine r_region (n := 3) rfl ?_
          refine o_move (v := .v (.int .i64 v6)) (by decide) rfl ?_
          refine o_assign (v := .v (.int .i64 v6)) (by decide) rfl ?_
          refine o_assign (v := .v (.int .i64 0)) (by decide) rfl ?_
          refine run_nil ?_
          replace hS := hS.keep (L' := []) [false] rfl
          refine w_next [(4, .v (.int .i64 v6)), (5, .v (.int .i64 0))] (.cons (.refl _) (.cons (.refl _) .nil)) ?_
          refine r_ret ?_
          refine r_then_ret ?_
          refine r_blk_ret ?_
          refine r_then_ret ?_
          refine w_round_ret ?_
          refine r_blk_ret ?_
          refine w_goto_ret ?_
          refine w_end (x := .tup [.v (.int .i64 v6), .v (.int .i64 0)]) (f := fun r => .tup [.v (.int .i64 r.1), .v (.int .i64 r.2)]) (.inr rfl) ?_ (.refl _) (Option.some.inj hM) hS
          exact (res_two (res_tmp (x := .v (.int .i64 v6)) rfl) (res_tmp (x := .v (.int .i64 0)) rfl))
        · replace hM := ifF hM hb9
          refine w_condF (e := (v7 == 0)) rfl hb9 ?_
          refine r_skip ?_
          refine w_next [(1, .v (.int .i64 a1)), (7, .ptr (g + 3 + 5 + 2 + 2) 0), (8, .v (.int .i64 v6))] (.cons (.refl _) (.cons (.refl _) (.cons (.refl _) .nil))) ?_
          refine r_seq ?_
          refine r_region (n := 9) rfl ?_
          refine o_load (v := .agg [.sl .no 4 (r4.Clauses.map Clause.cells), .v (.int .i64 v7)]) 0 hS (by decide) rfl rfl .no (part_agg ty_agg24 (Nat.le_of_ble_eq_true rfl) rfl) ?_
          refine o_move (v := .v (.int .i64 a1)) (by decide) rfl ?_
          obtain ⟨r10, hr10, hM⟩ := bindE hM
          refine o_call (bs := [.agg [.sl .no 4 (r4.Clauses.map Clause.cells), .v (.int .i64 v7)], .v (.int .i64 a1), .v (.int .i64 0)]) (by decide) rfl rfl ((W_ref09_Gone hr10).le (.cons (.aggL (.cons (.sl _ _ _) (.cons (.refl _) .nil))) (.cons (.refl _) (.cons (.refl _) .nil)))) ?_
          refine o_move (v := .tup [.sl .no 1 (r10.1.map cI), .agg [.v (.int .i64 r10.2.Operator), .v (.int .i64 r10.2.Owner), .v (.int .i64 r10.2.Repaid)]]) (by decide) rfl ?_
          refine o_extract (v := .sl .no 1 (r10.1.map cI)) (by decide) rfl rfl ?_
          refine o_extract (v := .agg [.v (.int .i64 r10.2.Operator), .v (.int .i64 r10.2.Owner), .v (.int .i64 r10.2.Repaid)]) (by decide) rfl rfl ?_
          refine o_alloc hS (by decide) ty_zero41 (by omega) fun H hS => ?_
          refine o_assign (v := .sl .no 1 (r10.1.map cI)) (by decide) rfl ?_
          refine o_store (v := .agg [.v (.int .i64 r10.2.Operator), .v (.int .i64 r10.2.Owner), .v (.int .i64 r10.2.Repaid)]) (ns := [.v (.int .i64 r10.2.Operator), .v (.int .i64 r10.2.Owner), .v (.int .i64 r10.2.Repaid)]) (L' := [(g3 + 2 + 3 + 6, .cells [.v (.int .i64 r10.2.Operator), .v (.int .i64 r10.2.Owner), .v (.int .i64 r10.2.Repaid)]), (g + 3 + 5 + 2 + 2, .cells [.sl .no 4 (r4.Clauses.map Clause.cells), .v (.int .i64 v7)])]) 0 hS rfl rfl .no rfl rfl ty_var41 (Nat.le_of_ble_eq_true rfl) rfl fun H hS => ?_
          refine run_nil ?_
          refine w_next [(1, .v (.int .i64 a1)), (7, .ptr (g + 3 + 5 + 2 + 2) 0), (8, .v (.int .i64 v6)), (10, .ptr (g3 + 2 + 3 + 6) 0)] (.cons (.refl _) (.cons (.refl _) (.cons (.refl _) (.cons (.refl _) .nil)))) ?_
          refine r_region (n := 7) rfl ?_
          refine o_fieldP (by decide) ty_fo24_1 rfl ?_
          refine o_load (v := .v (.int .i64 v7)) 1 hS (by decide) rfl rfl .no (part_one ty_agg3 ty_sc3 rfl) ?_
          refine o_fieldP (by decide) ty_fo41_2 rfl ?_
          refine o_load (v := .v (.int .i64 r10.2.Repaid)) 0 hS (by decide) rfl rfl .no (part_one ty_agg3 ty_sc3 rfl) ?_
          refine o_int (v := .v (.int .i64 (w64 (v7 - r10.2.Repaid)))) (by decide) rfl rfl rfl ?_
          refine o_fieldP (by decide) ty_fo24_1 rfl ?_
          refine o_store (v := .v (.int .i64 (w64 (v7 - r10.2.Repaid)))) (ns := [.v (.int .i64 (w64 (v7 - r10.2.Repaid)))]) (L' := [(g3 + 2 + 3 + 6, .cells [.v (.int .i64 r10.2.Operator), .v (.int .i64 r10.2.Owner), .v (.int .i64 r10.2.Repaid)]), (g + 3 + 5 + 2 + 2, .cells [.sl .no 4 (r4.Clauses.map Clause.cells), .v (.int .i64 (w64 (v7 - r10.2.Repaid)))])]) 1 hS rfl rfl .no rfl rfl ty_var3 (Nat.le_of_ble_eq_true rfl) rfl fun H hS => ?_
          refine run_nil ?_
          refine r_blk_normal ?_
          replace hS := hS.keep (L' := [(g + 3 + 5 + 2 + 2, .cells [.sl .no 4 (r4.Clauses.map Clause.cells), .v (.int .i64 (w64 (v7 - r10.2.Repaid)))])]) [false, true] rfl
          refine w_next [(1, .v (.int .i64 a1)), (7, .ptr (g + 3 + 5 + 2 + 2) 0), (8, .v (.int .i64 v6))] (.cons (.refl _) (.cons (.refl _) (.cons (.refl _) .nil))) ?_
          refine r_region (n := 3) rfl ?_
          refine o_move (v := .v (.int .i64 v6)) (by decide) rfl ?_
          refine o_int (v := .v (.int .i64 (w64 (v6 + 1)))) (by decide) rfl rfl rfl ?_
          refine o_assign (v := .v (.int .i64 (w64 (v6 + 1)))) (by decide) rfl ?_
          refine run_nil ?_
          exact w_round (w64 (v6 + 1), w64 (v7 - r10.2.Repaid)) (Nat.lt_succ_self _) (.cons (.refl _) (.cons (.refl _) (.cons (.refl _) .nil))) ⟨(hS.keep [true] rfl).up (by omega), hM⟩
      · replace hM := ifF hM hb8
        refine w_condF (e := (decide (v6 ≤ 1000))) rfl hb8 ?_
        refine r_exit ?_
        refine r_then_exit ?_
        refine w_round_exit ?_
        refine r_blk_exit ?_
        exact w_goto () .nil ⟨(hS.keep [false] rfl).up (by omega), hM⟩
theorem W_law09_same {n : Nat} {a0 : Share} {a1 : Share} {r : Bool} (hM : law09_same n a0 a1 = some r) : PureSat Try.prog 22 [.agg [.sl .no 4 (a0.Clauses.map Clause.cells), .v (.int .i64 a0.Loan)], .agg [.sl .no 4 (a1.Clauses.map Clause.cells), .v (.int .i64 a1.Loan)]] (.v (.bool r)) := by
  refine pure_of_wp mixed Try.func22 rfl (by decide) Try.ntmps22 (by simp) ?pure fun H0 g hf => ?_
  case pure => exact .v _
  rw [frame0_of]
  change wpA _ _ _ _ (Fr.of [(0, .agg [.sl .no 4 (a0.Clauses.map Clause.cells), .v (.int .i64 a0.Loan)]), (1, .agg [.sl .no 4 (a1.Clauses.map Clause.cells), .v (.int .i64 a1.Loan)])]) H0 g
  have hS := St.start hf
  refine r_seq ?_
  refine r_region (n := 3) rfl ?_
  refine o_box (v := .agg [.sl .no 4 (a0.Clauses.map Clause.cells), .v (.int .i64 a0.Loan)]) (cs := [.sl .no 4 (a0.Clauses.map Clause.cells), .v (.int .i64 a0.Loan)]) hS (by decide) rfl rfl (by omega) fun H hS => ?_
  refine o_box (v := .agg [.sl .no 4 (a1.Clauses.map Clause.cells), .v (.int .i64 a1.Loan)]) (cs := [.sl .no 4 (a1.Clauses.map Clause.cells), .v (.int .i64 a1.Loan)]) hS (by decide) rfl rfl (by omega) fun H hS => ?_
  refine o_assign (v := .v (.bool false)) (by decide) rfl ?_
  refine run_nil ?_
  refine w_next [(2, .ptr (g + 0) 0), (3, .ptr (g + 1) 0)] (.cons (.refl _) (.cons (.refl _) .nil)) ?_
  refine r_seq ?_
  refine w_join (J := Bool) (fun j => [(2, .ptr (g + 0) 0), (3, .ptr (g + 1) 0), (19, .v (.bool j))]) (fun j H' g' => St (· < g) H0 [(g + 1, .cells [.sl .no 4 (a1.Clauses.map Clause.cells), .v (.int .i64 a1.Loan)]), (g + 0, .cells [.sl .no 4 (a0.Clauses.map Clause.cells), .v (.int .i64 a0.Loan)])] H' g' ∧ law09_same_j1 n a0 a1 j = some r) ?_ ?_
  · rintro v1 H g1 ⟨hS, hM⟩
    change wpA _ _ _ _ (Fr.of [(2, .ptr (g + 0) 0), (3, .ptr (g + 1) 0), (19, .v (.bool v1))]) _ _
    replace hS : St (· < g) H0 [(g + 1, .cells [.sl .no 4 (a1.Clauses.map Clause.cells), .v (.int .i64 a1.Loan)]), (g + 0, .cells [.sl .no 4 (a0.Clauses.map Clause.cells), .v (.int .i64 a0.Loan)])] H g1 := hS
    replace hM : law09_same_j1 n a0 a1 v1 = some r := hM
    rcases Bool.eq_false_or_eq_true v1 with hb2 | hb2
    · replace hM := ifT hM hb2
      refine w_condT (e := v1) rfl hb2 ?_
      refine r_seq ?_
      refine r_region (n := 1) rfl ?_
      refine o_assign (v := .v (.bool false)) (by decide) rfl ?_
      refine run_nil ?_
      replace hS := hS.keep (L' := []) [false, false] rfl
      refine w_next [(4, .v (.bool false))] (.cons (.refl _) .nil) ?_
      refine r_ret ?_
      refine r_then_ret ?_
      refine w_end (x := .v (.bool false)) (f := fun r => .v (.bool r)) (.inr rfl) ?_ (.refl _) (Option.some.inj hM) hS
      exact (res_one (res_tmp (x := .v (.bool false)) rfl))
    · replace hM := ifF hM hb2
      refine w_condF (e := v1) rfl hb2 ?_
      refine r_skip ?_
      refine w_next [(2, .ptr (g + 0) 0), (3, .ptr (g + 1) 0)] (.cons (.refl _) (.cons (.refl _) .nil)) ?_
      refine w_join (J := Unit) (fun j => []) (fun j H' g' => St (· < g) H0 [] H' g' ∧ law09_same_j2 = some r) ?_ ?_
      · rintro _ H g2 ⟨hS, hM⟩
        change wpA _ _ _ _ (Fr.of []) _ _
        replace hS : St (· < g) H0 [] H g2 := hS
        replace hM : law09_same_j2 = some r := hM
        refine r_seq ?_
        refine r_region (n := 1) rfl ?_
        refine o_assign (v := .v (.bool true)) (by decide) rfl ?_
        refine run_nil ?_
        refine w_next [(4, .v (.bool true))] (.cons (.refl _) .nil) ?_
        refine r_ret ?_
        refine w_end (x := .v (.bool true)) (f := fun r => .v (.bool r)) (.inr rfl) ?_ (.refl _) (Option.some.inj hM) hS
        exact (res_one (res_tmp (x := .v (.bool true)) rfl))
      · refine r_seq ?_
        refine r_region (n := 1) rfl ?_
        refine o_assign (v := .v (.int .i64 0)) (by decide) rfl ?_
        refine run_nil ?_
        refine w_next [(2, .ptr (g + 0) 0), (3, .ptr (g + 1) 0), (5, .v (.int .i64 0))] (.cons (.refl _) (.cons (.refl _) (.cons (.refl _) .nil))) ?_
        refine r_block ?_
        refine w_loop (V := Int) (fun v => [(2, .ptr (g + 0) 0), (3, .ptr (g + 1) 0), (5, .v (.int .i64 v))]) (fun v m H' g' => St (· < g) H0 [(g + 1, .cells [.sl .no 4 (a1.Clauses.map Clause.cells), .v (.int .i64 a1.Loan)]), (g + 0, .cells [.sl .no 4 (a0.Clauses.map Clause.cells), .v (.int .i64 a0.Loan)])] H' g' ∧ law09_same_l1 a0 a1 m v = some r) (n := n) 0 (.cons (.refl _) (.cons (.refl _) (.cons (.refl _) .nil))) ⟨(hS.keep [true, true] rfl).up (by omega), hM⟩ ?_
        rintro v3 m H g3 ⟨hS, hM⟩
        obtain _ | m := m
        · exact nomatch (show none = some _ from hM)
        change wpA _ _ _ _ (Fr.of [(2, .ptr (g + 0) 0), (3, .ptr (g + 1) 0), (5, .v (.int .i64 v3))]) _ _
        replace hS : St (· < g) H0 [(g + 1, .cells [.sl .no 4 (a1.Clauses.map Clause.cells), .v (.int .i64 a1.Loan)]), (g + 0, .cells [.sl .no 4 (a0.Clauses.map Clause.cells), .v (.int .i64 a0.Loan)])] H g3 := hS
        replace hM : law09_same_l1_b a0 a1 (law09_same_l1 a0 a1 m) v3 = some r := hM
        refine r_seq ?_
        refine r_seq ?_
        refine r_region (n := 5) rfl ?_
        refine o_move (v := .v (.int .i64 v3)) (by decide) rfl ?_
        refine o_fieldP (by decide) ty_fo24_0 rfl ?_
        refine o_load (v := .sl .no 4 (a0.Clauses.map Clause.cells)) 1 hS (by decide) rfl rfl .no (part_one ty_agg22 ty_sc22 rfl) ?_
        refine o_len (n := a0.Clauses.length) (by decide) rfl (List.length_map _) ty_isl22 ?_
        refine o_int (v := .v (.bool (decide (v3 < (a0.Clauses.length : Int))))) (by decide) rfl rfl rfl ?_
        refine run_nil ?_
        refine w_next [(2, .ptr (g + 0) 0), (3, .ptr (g + 1) 0), (5, .v (.int .i64 v3)), (24, .v (.bool (decide (v3 < (a0.Clauses.length : Int)))))] (.cons (.refl _) (.cons (.refl _) (.cons (.refl _) (.cons (.refl _) .nil)))) ?_
        rcases Bool.eq_false_or_eq_true (decide (v3 < (a0.Clauses.length : Int))) with hb4 | hb4
        · replace hM := ifT hM hb4
          refine w_condT (e := (decide (v3 < (a0.Clauses.length : Int)))) rfl hb4 ?_
          refine r_skip ?_
          refine w_next [(2, .ptr (g + 0) 0), (3, .ptr (g + 1) 0), (5, .v (.int .i64 v3))] (.cons (.refl _) (.cons (.refl _) (.cons (.refl _) .nil))) ?_
          refine r_seq ?_
          refine r_block ?_
          refine r_seq ?_
          have hS0 := hS
          refine r_draw (n := 11) rfl (by kernel_rfl) ?_
          refine o_fieldP (by decide) ty_fo24_0 rfl ?_
          refine o_load (v := .sl .no 4 (a0.Clauses.map Clause.cells)) 1 hS (by decide) rfl rfl (.st hS0 1 rfl (by omega)) (part_one ty_agg22 ty_sc22 rfl) ?_
          refine o_move (v := .v (.int .i64 v3)) (by decide) rfl ?_
          obtain ⟨x5, hx5, hM⟩ := bindE hM
          refine o_index (xs := a0.Clauses) (f := Clause.cells) (z := v3) (u := x5) (by decide) rfl rfl ty_es22 hx5 ?_
          refine o_loadE (v := .agg [.v (.int .i64 x5.Kind), .v (.int .i64 x5.Cents), .v (.int .i64 x5.Part), .v (.int .i64 x5.More)]) (by decide) rfl (part_agg ty_agg39 (Nat.le_of_ble_eq_true rfl) rfl) ?_
          refine o_fieldP (by decide) ty_fo24_0 rfl ?_
          refine o_load (v := .sl .no 4 (a1.Clauses.map Clause.cells)) 0 hS (by decide) rfl rfl (.st hS0 0 rfl (by omega)) (part_one ty_agg22 ty_sc22 rfl) ?_
          refine o_move (v := .v (.int .i64 v3)) (by decide) rfl ?_
          obtain ⟨x6, hx6, hM⟩ := bindE hM
          refine o_index (xs := a1.Clauses) (f := Clause.cells) (z := v3) (u := x6) (by decide) rfl rfl ty_es22 hx6 ?_
          refine o_loadE (v := .agg [.v (.int .i64 x6.Kind), .v (.int .i64 x6.Cents), .v (.int .i64 x6.Part), .v (.int .i64 x6.More)]) (by decide) rfl (part_agg ty_agg39 (Nat.le_of_ble_eq_true rfl) rfl) ?_
          refine o_neS (cs := [.v (.int .i64 x5.Kind), .v (.int .i64 x5.Cents), .v (.int .i64 x5.Part), .v (.int .i64 x5.More)]) (ds := [.v (.int .i64 x6.Kind), .v (.int .i64 x6.Cents), .v (.int .i64 x6.Part), .v (.int .i64 x6.More)]) (e := ((x5.Kind == x6.Kind) && ((x5.Cents == x6.Cents) && ((x5.Part == x6.Part) && ((x5.More == x6.More) && true))))) (by decide) rfl rfl ty_flat39 rfl ?_
          refine run_nil ?_
          refine w_next [(2, .ptr (g + 0) 0), (3, .ptr (g + 1) 0), (5, .v (.int .i64 v3)), (37, .v (.bool (!((x5.Kind == x6.Kind) && ((x5.Cents == x6.Cents) && ((x5.Part == x6.Part) && ((x5.More == x6.More) && true)))))))] (.cons (.refl _) (.cons (.refl _) (.cons (.refl _) (.cons (.refl _) .nil)))) ?_
          rcases Bool.eq_false_or_eq_true (!((x5.Kind == x6.Kind) && ((x5.Cents == x6.Cents) && ((x5.Part == x6.Part) && ((x5.More == x6.More) && true))))) with hb7 | hb7
          · replace hM := ifT hM hb7
            refine w_condT (e := (!((x5.Kind == x6.Kind) && ((x5.Cents == x6.Cents) && ((x5.Part == x6.Part) && ((x5.More == x6.More) && true)))))) rfl hb7 ?_
            refine r_seq ?_
            refine r_region (n := 1) rfl ?_
            refine o_assign (v := .v (.bool false)) (by decide) rfl ?_
            refine run_nil ?_
            replace hS := hS.keep (L' := []) [false, false] rfl
            refine w_next [(4, .v (.bool false))] (.cons (.refl _) .nil) ?_
            refine r_ret ?_
            refine r_blk_ret ?_
            refine r_then_ret ?_
            refine w_round_ret ?_
            refine r_blk_ret ?_
            refine w_goto_ret ?_
            refine w_end (x := .v (.bool false)) (f := fun r => .v (.bool r)) (.inr rfl) ?_ (.refl _) (Option.some.inj hM) hS
            exact (res_one (res_tmp (x := .v (.bool false)) rfl))
          · replace hM := ifF hM hb7
            refine w_condF (e := (!((x5.Kind == x6.Kind) && ((x5.Cents == x6.Cents) && ((x5.Part == x6.Part) && ((x5.More == x6.More) && true)))))) rfl hb7 ?_
            refine r_skip ?_
            refine r_blk_normal ?_
            refine w_next [(2, .ptr (g + 0) 0), (3, .ptr (g + 1) 0), (5, .v (.int .i64 v3))] (.cons (.refl _) (.cons (.refl _) (.cons (.refl _) .nil))) ?_
            refine r_region (n := 3) rfl ?_
            refine o_move (v := .v (.int .i64 v3)) (by decide) rfl ?_
            refine o_int (v := .v (.int .i64 (w64 (v3 + 1)))) (by decide) rfl rfl rfl ?_
            refine o_assign (v := .v (.int .i64 (w64 (v3 + 1)))) (by decide) rfl ?_
            refine run_nil ?_
            exact w_round (w64 (v3 + 1)) (Nat.lt_succ_self _) (.cons (.refl _) (.cons (.refl _) (.cons (.refl _) .nil))) ⟨(hS.keep [true, true] rfl).up (by omega), hM⟩
        · replace hM := ifF hM hb4
          refine w_condF (e := (decide (v3 < (a0.Clauses.length : Int)))) rfl hb4 ?_
          refine r_exit ?_
          refine r_then_exit ?_
          refine w_round_exit ?_
          refine r_blk_exit ?_
          exact w_goto () .nil ⟨(hS.keep [false, false] rfl).up (by omega), hM⟩
  · refine r_region (n := 14) rfl ?_
    refine o_fieldP (by decide) ty_fo24_1 rfl ?_
    refine o_load (v := .v (.int .i64 a0.Loan)) 1 hS (by decide) rfl rfl .no (part_one ty_agg3 ty_sc3 rfl) ?_
    refine o_fieldP (by decide) ty_fo24_1 rfl ?_
    refine o_load (v := .v (.int .i64 a1.Loan)) 0 hS (by decide) rfl rfl .no (part_one ty_agg3 ty_sc3 rfl) ?_
    refine o_int (v := .v (.bool (a0.Loan != a1.Loan))) (by decide) rfl rfl rfl ?_
    refine o_move (v := .v (.bool (a0.Loan != a1.Loan))) (by decide) rfl ?_
    rcases Bool.eq_false_or_eq_true (a0.Loan != a1.Loan) with hb8 | hb8
    · replace hM := ifT hM hb8
      refine o_guardN (j := 5) (e := (a0.Loan != a1.Loan)) (want := false) (by decide) rfl hb8 ?_
      refine o_guardN (j := 5) (e := (a0.Loan != a1.Loan)) (want := false) (by decide) rfl hb8 ?_
      refine o_guardN (j := 5) (e := (a0.Loan != a1.Loan)) (want := false) (by decide) rfl hb8 ?_
      refine o_guardN (j := 5) (e := (a0.Loan != a1.Loan)) (want := false) (by decide) rfl hb8 ?_
      refine o_guardN (j := 5) (e := (a0.Loan != a1.Loan)) (want := false) (by decide) rfl hb8 ?_
      refine o_guardN (j := 5) (e := (a0.Loan != a1.Loan)) (want := false) (by decide) rfl hb8 ?_
      refine o_guardN (j := 5) (e := (a0.Loan != a1.Loan)) (want := false) (by decide) rfl hb8 ?_
      refine o_pickT (v := .v (.bool true)) (e := (a0.Loan != a1.Loan)) (by decide) rfl hb8 rfl ?_
      refine run_nil ?_
      exact w_goto true (.cons (.refl _) (.cons (.refl _) (.cons (.refl _) .nil))) ⟨(hS.keep [true, true] rfl).up (by omega), hM⟩
    · replace hM := ifF hM hb8
      refine o_guardY (j := 5) (e := (a0.Loan != a1.Loan)) (want := false) rfl hb8 ?_
      refine o_fieldP (by decide) ty_fo24_0 rfl ?_
      refine o_guardY (j := 5) (e := (a0.Loan != a1.Loan)) (want := false) rfl hb8 ?_
      refine o_load (v := .sl .no 4 (a0.Clauses.map Clause.cells)) 1 hS (by decide) rfl rfl .no (part_one ty_agg22 ty_sc22 rfl) ?_
      refine o_guardY (j := 5) (e := (a0.Loan != a1.Loan)) (want := false) rfl hb8 ?_
      refine o_len (n := a0.Clauses.length) (by decide) rfl (List.length_map _) ty_isl22 ?_
      refine o_guardY (j := 5) (e := (a0.Loan != a1.Loan)) (want := false) rfl hb8 ?_
      refine o_fieldP (by decide) ty_fo24_0 rfl ?_
      refine o_guardY (j := 5) (e := (a0.Loan != a1.Loan)) (want := false) rfl hb8 ?_
      refine o_load (v := .sl .no 4 (a1.Clauses.map Clause.cells)) 0 hS (by decide) rfl rfl .no (part_one ty_agg22 ty_sc22 rfl) ?_
      refine o_guardY (j := 5) (e := (a0.Loan != a1.Loan)) (want := false) rfl hb8 ?_
      refine o_len (n := a1.Clauses.length) (by decide) rfl (List.length_map _) ty_isl22 ?_
      refine o_guardY (j := 5) (e := (a0.Loan != a1.Loan)) (want := false) rfl hb8 ?_
      refine o_int (v := .v (.bool ((a0.Clauses.length : Int) != (a1.Clauses.length : Int)))) (by decide) rfl rfl rfl ?_
      refine o_pickF (v := .v (.bool ((a0.Clauses.length : Int) != (a1.Clauses.length : Int)))) (e := (a0.Loan != a1.Loan)) (by decide) rfl hb8 rfl ?_
      refine run_nil ?_
      exact w_goto ((a0.Clauses.length : Int) != (a1.Clauses.length : Int)) (.cons (.refl _) (.cons (.refl _) (.cons (.refl _) .nil))) ⟨(hS.keep [true, true] rfl).up (by omega), hM⟩
theorem W_law09_SharesBest {n : Nat} {a0 : Share} {a1 : Int} {r : Bool} (hM : law09_SharesBest n a0 a1 = some r) : PureSat Try.prog 3 [.agg [.sl .no 4 (a0.Clauses.map Clause.cells), .v (.int .i64 a0.Loan)], .v (.int .i64 a1)] (.v (.bool r)) := by
  refine pure_of_wp mixed Try.func3 rfl (by decide) Try.ntmps3 (by simp) ?pure fun H0 g hf => ?_
  case pure => exact .v _
  rw [frame0_of]
  change wpA _ _ _ _ (Fr.of [(0, .agg [.sl .no 4 (a0.Clauses.map Clause.cells), .v (.int .i64 a0.Loan)]), (1, .v (.int .i64 a1))]) H0 g
  have hS := St.start hf
  refine r_seq ?_
  refine r_region (n := 2) rfl ?_
  refine o_box (v := .agg [.sl .no 4 (a0.Clauses.map Clause.cells), .v (.int .i64 a0.Loan)]) (cs := [.sl .no 4 (a0.Clauses.map Clause.cells), .v (.int .i64 a0.Loan)]) hS (by decide) rfl rfl (by omega) fun H hS => ?_
  refine o_assign (v := .v (.bool false)) (by decide) rfl ?_
  refine run_nil ?_
  refine w_next [(1, .v (.int .i64 a1)), (2, .ptr (g + 0) 0)] (.cons (.refl _) (.cons (.refl _) .nil)) ?_
  refine r_seq ?_
  refine r_seq ?_
  refine r_region (n := 2) rfl ?_
  refine o_load (v := .agg [.sl .no 4 (a0.Clauses.map Clause.cells), .v (.int .i64 a0.Loan)]) 0 hS (by decide) rfl rfl .no (part_agg ty_agg24 (Nat.le_of_ble_eq_true rfl) rfl) ?_
  obtain ⟨r1, hr1, hM⟩ := bindE hM
  refine o_call (bs := [.agg [.sl .no 4 (a0.Clauses.map Clause.cells), .v (.int .i64 a0.Loan)]]) (by decide) rfl rfl ((W_law09_far hr1).le (.cons (.refl _) .nil)) ?_
  refine run_nil ?_
  refine w_next [(1, .v (.int .i64 a1)), (2, .ptr (g + 0) 0), (15, .v (.bool r1))] (.cons (.refl _) (.cons (.refl _) (.cons (.refl _) .nil))) ?_
  rcases Bool.eq_false_or_eq_true r1 with hb2 | hb2
  · replace hM := ifT hM hb2
    refine w_condT (e := r1) rfl hb2 ?_
    refine r_seq ?_
    refine r_region (n := 2) rfl ?_
    obtain ⟨r3, hr3, hM⟩ := bindE hM
    refine o_call (bs := []) (by decide) rfl rfl ((W_law09_works hr3).le .nil) ?_
    refine o_assign (v := .v (.bool r3)) (by decide) rfl ?_
    refine run_nil ?_
    replace hS := hS.keep (L' := []) [false] rfl
    refine w_next [(4, .v (.bool r3))] (.cons (.refl _) .nil) ?_
    refine r_ret ?_
    refine r_then_ret ?_
    refine w_end (x := .v (.bool r3)) (f := fun r => .v (.bool r)) (.inr rfl) ?_ (.refl _) (Option.some.inj hM) hS
    exact (res_one (res_tmp (x := .v (.bool r3)) rfl))
  · replace hM := ifF hM hb2
    refine w_condF (e := r1) rfl hb2 ?_
    refine r_skip ?_
    refine w_next [(1, .v (.int .i64 a1)), (2, .ptr (g + 0) 0)] (.cons (.refl _) (.cons (.refl _) .nil)) ?_
    refine r_seq ?_
    refine r_region (n := 4) rfl ?_
    refine o_load (v := .agg [.sl .no 4 (a0.Clauses.map Clause.cells), .v (.int .i64 a0.Loan)]) 0 hS (by decide) rfl rfl .no (part_agg ty_agg24 (Nat.le_of_ble_eq_true rfl) rfl) ?_
    obtain ⟨r4, hr4, hM⟩ := bindE hM
    refine o_call (bs := [.agg [.sl .no 4 (a0.Clauses.map Clause.cells), .v (.int .i64 a0.Loan)]]) (by decide) rfl rfl ((W_ref09_Copy hr4).le (.cons (.refl _) .nil)) ?_
    refine o_alloc hS (by decide) ty_zero24 (by omega) fun H hS => ?_
    refine o_store (v := .agg [.sl .no 4 (r4.Clauses.map Clause.cells), .v (.int .i64 r4.Loan)]) (ns := [.sl .no 4 (r4.Clauses.map Clause.cells), .v (.int .i64 r4.Loan)]) (L' := [(g + 2 + 2 + 2, .cells [.sl .no 4 (r4.Clauses.map Clause.cells), .v (.int .i64 r4.Loan)]), (g + 0, .cells [.sl .no 4 (a0.Clauses.map Clause.cells), .v (.int .i64 a0.Loan)])]) 0 hS rfl rfl .no rfl rfl ty_var24 (Nat.le_of_ble_eq_true rfl) rfl fun H hS => ?_
    refine run_nil ?_
    refine w_next [(1, .v (.int .i64 a1)), (2, .ptr (g + 0) 0), (5, .ptr (g + 2 + 2 + 2) 0)] (.cons (.refl _) (.cons (.refl _) (.cons (.refl _) .nil))) ?_
    refine r_seq ?_
    refine r_region (n := 8) rfl ?_
    refine o_load (v := .agg [.sl .no 4 (r4.Clauses.map Clause.cells), .v (.int .i64 r4.Loan)]) 0 hS (by decide) rfl rfl .no (part_agg ty_agg24 (Nat.le_of_ble_eq_true rfl) rfl) ?_
    refine o_move (v := .v (.int .i64 a1)) (by decide) rfl ?_
    obtain ⟨r5, hr5, hM⟩ := bindE hM
    refine o_call (bs := [.agg [.sl .no 4 (r4.Clauses.map Clause.cells), .v (.int .i64 r4.Loan)], .v (.int .i64 a1)]) (by decide) rfl rfl ((W_shares_Best hr5).le (.cons (.refl _) (.cons (.refl _) .nil))) ?_
    refine o_move (v := .tup [.sl .no 1 (r5.1.map cI), .v (.int .i64 r5.2)]) (by decide) rfl ?_
    refine o_extract (v := .sl .no 1 (r5.1.map cI)) (by decide) rfl rfl ?_
    refine o_extract (v := .v (.int .i64 r5.2)) (by decide) rfl rfl ?_
    refine o_assign (v := .sl .no 1 (r5.1.map cI)) (by decide) rfl ?_
    refine o_assign (v := .v (.int .i64 r5.2)) (by decide) rfl ?_
    refine run_nil ?_
    refine w_next [(1, .v (.int .i64 a1)), (2, .ptr (g + 0) 0), (5, .ptr (g + 2 + 2 + 2) 0), (6, .sl .no 1 (r5.1.map cI)), (7, .v (.int .i64 r5.2))] (.cons (.refl _) (.cons (.refl _) (.cons (.refl _) (.cons (.refl _) (.cons (.refl _) .nil))))) ?_
    refine r_seq ?_
    refine r_region (n := 8) rfl ?_
    refine o_load (v := .agg [.sl .no 4 (a0.Clauses.map Clause.cells), .v (.int .i64 a0.Loan)]) 1 hS (by decide) rfl rfl .no (part_agg ty_agg24 (Nat.le_of_ble_eq_true rfl) rfl) ?_
    refine o_move (v := .v (.int .i64 a1)) (by decide) rfl ?_
    obtain ⟨r6, hr6, hM⟩ := bindE hM
    refine o_call (bs := [.agg [.sl .no 4 (a0.Clauses.map Clause.cells), .v (.int .i64 a0.Loan)], .v (.int .i64 a1)]) (by decide) rfl rfl ((W_ref09_Best hr6).le (.cons (.refl _) (.cons (.refl _) .nil))) ?_
    refine o_move (v := .tup [.sl .no 1 (r6.1.map cI), .v (.int .i64 r6.2)]) (by decide) rfl ?_
    refine o_extract (v := .sl .no 1 (r6.1.map cI)) (by decide) rfl rfl ?_
    refine o_extract (v := .v (.int .i64 r6.2)) (by decide) rfl rfl ?_
    refine o_assign (v := .sl .no 1 (r6.1.map cI)) (by decide) rfl ?_
    refine o_assign (v := .v (.int .i64 r6.2)) (by decide) rfl ?_
    refine run_nil ?_
    refine w_next [(1, .v (.int .i64 a1)), (2, .ptr (g + 0) 0), (5, .ptr (g + 2 + 2 + 2) 0), (6, .sl .no 1 (r5.1.map cI)), (7, .v (.int .i64 r5.2)), (8, .sl .no 1 (r6.1.map cI)), (9, .v (.int .i64 r6.2))] (.cons (.refl _) (.cons (.refl _) (.cons (.refl _) (.cons (.refl _) (.cons (.refl _) (.cons (.refl _) (.cons (.refl _) .nil))))))) ?_
    refine r_seq ?_
    refine r_region (n := 8) rfl ?_
    refine o_load (v := .agg [.sl .no 4 (r4.Clauses.map Clause.cells), .v (.int .i64 r4.Loan)]) 0 hS (by decide) rfl rfl .no (part_agg ty_agg24 (Nat.le_of_ble_eq_true rfl) rfl) ?_
    refine o_move (v := .v (.int .i64 a1)) (by decide) rfl ?_
    obtain ⟨r7, hr7, hM⟩ := bindE hM
    refine o_call (bs := [.agg [.sl .no 4 (r4.Clauses.map Clause.cells), .v (.int .i64 r4.Loan)], .v (.int .i64 a1)]) (by decide) rfl rfl ((W_shares_Repaid hr7).le (.cons (.refl _) (.cons (.refl _) .nil))) ?_
    refine o_move (v := .tup [.v (.int .i64 r7.1), .v (.int .i64 r7.2)]) (by decide) rfl ?_
    refine o_extract (v := .v (.int .i64 r7.1)) (by decide) rfl rfl ?_
    refine o_extract (v := .v (.int .i64 r7.2)) (by decide) rfl rfl ?_
    refine o_assign (v := .v (.int .i64 r7.1)) (by decide) rfl ?_
    refine o_assign (v := .v (.int .i64 r7.2)) (by decide) rfl ?_
    refine run_nil ?_
    refine w_next [(1, .v (.int .i64 a1)), (2, .ptr (g + 0) 0), (5, .ptr (g + 2 + 2 + 2) 0), (6, .sl .no 1 (r5.1.map cI)), (7, .v (.int .i64 r5.2)), (8, .sl .no 1 (r6.1.map cI)), (9, .v (.int .i64 r6.2)), (10, .v (.int .i64 r7.1)), (11, .v (.int .i64 r7.2))] (.cons (.refl _) (.cons (.refl _) (.cons (.refl _) (.cons (.refl _) (.cons (.refl _) (.cons (.refl _) (.cons (.refl _) (.cons (.refl _) (.cons (.refl _) .nil))))))))) ?_
    refine r_seq ?_
    refine r_region (n := 8) rfl ?_
    refine o_load (v := .agg [.sl .no 4 (a0.Clauses.map Clause.cells), .v (.int .i64 a0.Loan)]) 1 hS (by decide) rfl rfl .no (part_agg ty_agg24 (Nat.le_of_ble_eq_true rfl) rfl) ?_
    refine o_move (v := .v (.int .i64 a1)) (by decide) rfl ?_
    obtain ⟨r8, hr8, hM⟩ := bindE hM
    refine o_call (bs := [.agg [.sl .no 4 (a0.Clauses.map Clause.cells), .v (.int .i64 a0.Loan)], .v (.int .i64 a1)]) (by decide) rfl rfl ((W_ref09_Repaid hr8).le (.cons (.refl _) (.cons (.refl _) .nil))) ?_
    refine o_move (v := .tup [.v (.int .i64 r8.1), .v (.int .i64 r8.2)]) (by decide) rfl ?_
    refine o_extract (v := .v (.int .i64 r8.1)) (by decide) rfl rfl ?_
    refine o_extract (v := .v (.int .i64 r8.2)) (by decide) rfl rfl ?_
    refine o_assign (v := .v (.int .i64 r8.1)) (by decide) rfl ?_
    refine o_assign (v := .v (.int .i64 r8.2)) (by decide) rfl ?_
    refine run_nil ?_
    refine w_next [(2, .ptr (g + 0) 0), (5, .ptr (g + 2 + 2 + 2) 0), (6, .sl .no 1 (r5.1.map cI)), (7, .v (.int .i64 r5.2)), (8, .sl .no 1 (r6.1.map cI)), (9, .v (.int .i64 r6.2)), (10, .v (.int .i64 r7.1)), (11, .v (.int .i64 r7.2)), (12, .v (.int .i64 r8.1)), (13, .v (.int .i64 r8.2))] (.cons (.refl _) (.cons (.refl _) (.cons (.refl _) (.cons (.refl _) (.cons (.refl _) (.cons (.refl _) (.cons (.refl _) (.cons (.refl _) (.cons (.refl _) (.cons (.refl _) .nil)))))))))) ?_
    refine w_join (J := Bool) (fun j => [(4, .v (.bool j))]) (fun j H' g' => St (· < g) H0 [] H' g' ∧ law09_SharesBest_j1 j = some r) ?_ ?_
    · rintro v9 H g1 ⟨hS, hM⟩
      change wpA _ _ _ _ (Fr.of [(4, .v (.bool v9))]) _ _
      replace hS : St (· < g) H0 [] H g1 := hS
      replace hM : law09_SharesBest_j1 v9 = some r := hM
      refine r_ret ?_
      refine w_end (x := .v (.bool v9)) (f := fun r => .v (.bool r)) (.inr rfl) ?_ (.refl _) (Option.some.inj hM) hS
      exact (res_one (res_tmp (x := .v (.bool v9)) rfl))
    · refine r_region (n := 27) rfl ?_
      refine o_move (v := .sl .no 1 (r5.1.map cI)) (by decide) rfl ?_
      refine o_move (v := .sl .no 1 (r6.1.map cI)) (by decide) rfl ?_
      obtain ⟨r10, hr10, hM⟩ := bindE hM
      refine o_call (bs := [.sl .no 1 (r5.1.map cI), .sl .no 1 (r6.1.map cI)]) (by decide) rfl rfl ((W_ref01_SameInts hr10).le (.cons (.refl _) (.cons (.refl _) .nil))) ?_
      refine o_move (v := .v (.bool r10)) (by decide) rfl ?_
      rcases Bool.eq_false_or_eq_true r10 with hb11 | hb11
      · replace hM := ifT hM hb11
        refine o_guardY (j := 3) (e := r10) (want := true) rfl hb11 ?_
        refine o_move (v := .v (.int .i64 r5.2)) (by decide) rfl ?_
        refine o_guardY (j := 3) (e := r10) (want := true) rfl hb11 ?_
        refine o_move (v := .v (.int .i64 r6.2)) (by decide) rfl ?_
        refine o_guardY (j := 3) (e := r10) (want := true) rfl hb11 ?_
        refine o_int (v := .v (.bool (r5.2 == r6.2))) (by decide) rfl rfl rfl ?_
        refine o_pickT (v := .v (.bool (r5.2 == r6.2))) (e := r10) (by decide) rfl hb11 rfl ?_
        refine o_move (v := .v (.bool (r5.2 == r6.2))) (by decide) rfl ?_
        rcases Bool.eq_false_or_eq_true (r5.2 == r6.2) with hb12 | hb12
        · replace hM := ifT hM hb12
          refine o_guardY (j := 8) (e := (r5.2 == r6.2)) (want := true) rfl hb12 ?_
          refine o_move (v := .v (.int .i64 r7.1)) (by decide) rfl ?_
          refine o_guardY (j := 8) (e := (r5.2 == r6.2)) (want := true) rfl hb12 ?_
          refine o_move (v := .v (.int .i64 r8.1)) (by decide) rfl ?_
          refine o_guardY (j := 8) (e := (r5.2 == r6.2)) (want := true) rfl hb12 ?_
          refine o_int (v := .v (.bool (r7.1 == r8.1))) (by decide) rfl rfl rfl ?_
          refine o_pickT (v := .v (.bool (r7.1 == r8.1))) (e := (r5.2 == r6.2)) (by decide) rfl hb12 rfl ?_
          refine o_move (v := .v (.bool (r7.1 == r8.1))) (by decide) rfl ?_
          rcases Bool.eq_false_or_eq_true (r7.1 == r8.1) with hb13 | hb13
          · replace hM := ifT hM hb13
            refine o_guardY (j := 13) (e := (r7.1 == r8.1)) (want := true) rfl hb13 ?_
            refine o_move (v := .v (.int .i64 r7.2)) (by decide) rfl ?_
            refine o_guardY (j := 13) (e := (r7.1 == r8.1)) (want := true) rfl hb13 ?_
            refine o_move (v := .v (.int .i64 r8.2)) (by decide) rfl ?_
            refine o_guardY (j := 13) (e := (r7.1 == r8.1)) (want := true) rfl hb13 ?_
            refine o_int (v := .v (.bool (r7.2 == r8.2))) (by decide) rfl rfl rfl ?_
            refine o_pickT (v := .v (.bool (r7.2 == r8.2))) (e := (r7.1 == r8.1)) (by decide) rfl hb13 rfl ?_
            refine o_move (v := .v (.bool (r7.2 == r8.2))) (by decide) rfl ?_
            rcases Bool.eq_false_or_eq_true (r7.2 == r8.2) with hb14 | hb14
            · replace hM := ifT hM hb14
              refine o_guardY (j := 18) (e := (r7.2 == r8.2)) (want := true) rfl hb14 ?_
              refine o_load (v := .agg [.sl .no 4 (r4.Clauses.map Clause.cells), .v (.int .i64 r4.Loan)]) 0 hS (by decide) rfl rfl .no (part_agg ty_agg24 (Nat.le_of_ble_eq_true rfl) rfl) ?_
              refine o_guardY (j := 18) (e := (r7.2 == r8.2)) (want := true) rfl hb14 ?_
              refine o_load (v := .agg [.sl .no 4 (a0.Clauses.map Clause.cells), .v (.int .i64 a0.Loan)]) 1 hS (by decide) rfl rfl .no (part_agg ty_agg24 (Nat.le_of_ble_eq_true rfl) rfl) ?_
              refine o_guardY (j := 18) (e := (r7.2 == r8.2)) (want := true) rfl hb14 ?_
              obtain ⟨r15, hr15, hM⟩ := bindE hM
              refine o_call (bs := [.agg [.sl .no 4 (r4.Clauses.map Clause.cells), .v (.int .i64 r4.Loan)], .agg [.sl .no 4 (a0.Clauses.map Clause.cells), .v (.int .i64 a0.Loan)]]) (by decide) rfl rfl ((W_law09_same hr15).le (.cons (.refl _) (.cons (.refl _) .nil))) ?_
              refine o_pickT (v := .v (.bool r15)) (e := (r7.2 == r8.2)) (by decide) rfl hb14 rfl ?_
              refine o_move (v := .v (.bool r15)) (by decide) rfl ?_
              rcases Bool.eq_false_or_eq_true r15 with hb16 | hb16
              · replace hM := ifT hM hb16
                refine o_guardY (j := 23) (e := r15) (want := true) rfl hb16 ?_
                obtain ⟨r17, hr17, hM⟩ := bindE hM
                refine o_call (bs := []) (by decide) rfl rfl ((W_law09_works hr17).le .nil) ?_
                refine o_pickT (v := .v (.bool r17)) (e := r15) (by decide) rfl hb16 rfl ?_
                refine o_assign (v := .v (.bool r17)) (by decide) rfl ?_
                refine run_nil ?_
                exact w_goto r17 (.cons (.refl _) .nil) ⟨(hS.keep [false, false] rfl).up (by omega), hM⟩
              · replace hM := ifF hM hb16
                refine o_guardN (j := 23) (e := r15) (want := true) (by decide) rfl hb16 ?_
                refine o_pickF (v := .v (.bool false)) (e := r15) (by decide) rfl hb16 rfl ?_
                refine o_assign (v := .v (.bool false)) (by decide) rfl ?_
                refine run_nil ?_
                exact w_goto false (.cons (.refl _) .nil) ⟨(hS.keep [false, false] rfl).up (by omega), hM⟩
            · replace hM := ifF hM hb14
              refine o_guardN (j := 18) (e := (r7.2 == r8.2)) (want := true) (by decide) rfl hb14 ?_
              refine o_guardN (j := 18) (e := (r7.2 == r8.2)) (want := true) (by decide) rfl hb14 ?_
              refine o_guardN (j := 18) (e := (r7.2 == r8.2)) (want := true) (by decide) rfl hb14 ?_
              refine o_pickF (v := .v (.bool false)) (e := (r7.2 == r8.2)) (by decide) rfl hb14 rfl ?_
              refine o_move (v := .v (.bool false)) (by decide) rfl ?_
              refine o_guardN (j := 23) (e := false) (want := true) (by decide) rfl rfl ?_
              refine o_pickF (v := .v (.bool false)) (e := false) (by decide) rfl rfl rfl ?_
              refine o_assign (v := .v (.bool false)) (by decide) rfl ?_
              refine run_nil ?_
              exact w_goto false (.cons (.refl _) .nil) ⟨(hS.keep [false, false] rfl).up (by omega), hM⟩
          · replace hM := ifF hM hb13
            refine o_guardN (j := 13) (e := (r7.1 == r8.1)) (want := true) (by decide) rfl hb13 ?_
            refine o_guardN (j := 13) (e := (r7.1 == r8.1)) (want := true) (by decide) rfl hb13 ?_
            refine o_guardN (j := 13) (e := (r7.1 == r8.1)) (want := true) (by decide) rfl hb13 ?_
            refine o_pickF (v := .v (.bool false)) (e := (r7.1 == r8.1)) (by decide) rfl hb13 rfl ?_
            refine o_move (v := .v (.bool false)) (by decide) rfl ?_
            refine o_guardN (j := 18) (e := false) (want := true) (by decide) rfl rfl ?_
            refine o_guardN (j := 18) (e := false) (want := true) (by decide) rfl rfl ?_
            refine o_guardN (j := 18) (e := false) (want := true) (by decide) rfl rfl ?_
            refine o_pickF (v := .v (.bool false)) (e := false) (by decide) rfl rfl rfl ?_
            refine o_move (v := .v (.bool false)) (by decide) rfl ?_
            refine o_guardN (j := 23) (e := false) (want := true) (by decide) rfl rfl ?_
            refine o_pickF (v := .v (.bool false)) (e := false) (by decide) rfl rfl rfl ?_
            refine o_assign (v := .v (.bool false)) (by decide) rfl ?_
            refine run_nil ?_
            exact w_goto false (.cons (.refl _) .nil) ⟨(hS.keep [false, false] rfl).up (by omega), hM⟩
        · replace hM := ifF hM hb12
          refine o_guardN (j := 8) (e := (r5.2 == r6.2)) (want := true) (by decide) rfl hb12 ?_
          refine o_guardN (j := 8) (e := (r5.2 == r6.2)) (want := true) (by decide) rfl hb12 ?_
          refine o_guardN (j := 8) (e := (r5.2 == r6.2)) (want := true) (by decide) rfl hb12 ?_
          refine o_pickF (v := .v (.bool false)) (e := (r5.2 == r6.2)) (by decide) rfl hb12 rfl ?_
          refine o_move (v := .v (.bool false)) (by decide) rfl ?_
          refine o_guardN (j := 13) (e := false) (want := true) (by decide) rfl rfl ?_
          refine o_guardN (j := 13) (e := false) (want := true) (by decide) rfl rfl ?_
          refine o_guardN (j := 13) (e := false) (want := true) (by decide) rfl rfl ?_
          refine o_pickF (v := .v (.bool false)) (e := false) (by decide) rfl rfl rfl ?_
          refine o_move (v := .v (.bool false)) (by decide) rfl ?_
          refine o_guardN (j := 18) (e := false) (want := true) (by decide) rfl rfl ?_
          refine o_guardN (j := 18) (e := false) (want := true) (by decide) rfl rfl ?_
          refine o_guardN (j := 18) (e := false) (want := true) (by decide) rfl rfl ?_
          refine o_pickF (v := .v (.bool false)) (e := false) (by decide) rfl rfl rfl ?_
          refine o_move (v := .v (.bool false)) (by decide) rfl ?_
          refine o_guardN (j := 23) (e := false) (want := true) (by decide) rfl rfl ?_
          refine o_pickF (v := .v (.bool false)) (e := false) (by decide) rfl rfl rfl ?_
          refine o_assign (v := .v (.bool false)) (by decide) rfl ?_
          refine run_nil ?_
          exact w_goto false (.cons (.refl _) .nil) ⟨(hS.keep [false, false] rfl).up (by omega), hM⟩
      · replace hM := ifF hM hb11
        refine o_guardN (j := 3) (e := r10) (want := true) (by decide) rfl hb11 ?_
        refine o_guardN (j := 3) (e := r10) (want := true) (by decide) rfl hb11 ?_
        refine o_guardN (j := 3) (e := r10) (want := true) (by decide) rfl hb11 ?_
        refine o_pickF (v := .v (.bool false)) (e := r10) (by decide) rfl hb11 rfl ?_
        refine o_move (v := .v (.bool false)) (by decide) rfl ?_
        refine o_guardN (j := 8) (e := false) (want := true) (by decide) rfl rfl ?_
        refine o_guardN (j := 8) (e := false) (want := true) (by decide) rfl rfl ?_
        refine o_guardN (j := 8) (e := false) (want := true) (by decide) rfl rfl ?_
        refine o_pickF (v := .v (.bool false)) (e := false) (by decide) rfl rfl rfl ?_
        refine o_move (v := .v (.bool false)) (by decide) rfl ?_
        refine o_guardN (j := 13) (e := false) (want := true) (by decide) rfl rfl ?_
        refine o_guardN (j := 13) (e := false) (want := true) (by decide) rfl rfl ?_
        refine o_guardN (j := 13) (e := false) (want := true) (by decide) rfl rfl ?_
        refine o_pickF (v := .v (.bool false)) (e := false) (by decide) rfl rfl rfl ?_
        refine o_move (v := .v (.bool false)) (by decide) rfl ?_
        refine o_guardN (j := 18) (e := false) (want := true) (by decide) rfl rfl ?_
        refine o_guardN (j := 18) (e := false) (want := true) (by decide) rfl rfl ?_
        refine o_guardN (j := 18) (e := false) (want := true) (by decide) rfl rfl ?_
        refine o_pickF (v := .v (.bool false)) (e := false) (by decide) rfl rfl rfl ?_
        refine o_move (v := .v (.bool false)) (by decide) rfl ?_
        refine o_guardN (j := 23) (e := false) (want := true) (by decide) rfl rfl ?_
        refine o_pickF (v := .v (.bool false)) (e := false) (by decide) rfl rfl rfl ?_
        refine o_assign (v := .v (.bool false)) (by decide) rfl ?_
        refine run_nil ?_
        exact w_goto false (.cons (.refl _) .nil) ⟨(hS.keep [false, false] rfl).up (by omega), hM⟩
end Go.Proofs.Ytkgldpboiigphaa
