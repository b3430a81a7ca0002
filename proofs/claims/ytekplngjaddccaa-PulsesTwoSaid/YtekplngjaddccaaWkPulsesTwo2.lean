/-
  The code returns what the functions say (printed by gen.py).
  Conditions: none.
-/
import Derived.Test.YtekplngjaddccaaWkPulsesTwo1
set_option linter.all false
namespace Go.Proofs.Ytekplngjaddccaa
open Go Go.AM Go.Law
set_option linter.unusedVariables false
set_option maxRecDepth 4000
set_option maxHeartbeats 4000000
theorem W_slices_IndexFunc_Lint {S : Type} {Lo : S → BL} (hk : ∀ s s', KinL (Lo s) (Lo s')) (hnd : ∀ s, (ids (Lo s)).Nodup) (hin : ∀ s, InB In (Lo s)) {aF : (List Int) → S → Option (Bool × S)} {f0 : AV} (hF : ∀ s H, Has H (Lo s) → In H f0) (h0 : cellsOf f0 = some [f0]) (hf : ∀ {x0 : List Int} {s : S} {r : Bool × S}, aF x0 s = some r → CSat Try.prog f0 [.sl .no 1 (x0.map cI)] (Lo s) (.v (.bool r.1)) (Lo r.2)) {n : Nat} {a0 : List (List Int)} {st : S} {r : Int × S} (hM : slices_IndexFunc_Lint n aF a0 st = some r) : HSat Try.prog 109 [.sl .no 1 (a0.map (cL 1 cI)), f0] (Lo st) (.v (.int .i64 r.1)) (Lo r.2) := by
  have hnd0 : ∀ s, (ids (Lo s)).Nodup := fun s => hnd s
  refine hsat_of_wp mixed Try.func109 rfl (by decide) Try.ntmps109 (by simp) (hk _ _) (hnd st) ?pure ?cells fun H0 g hf_ hp => ?_
  case pure => exact fun H _ => (show Go.AM.Pure _ from .v _).inH
  case cells => exact hin _
  rw [frame0_of]
  change wpA _ _ _ _ (Fr.of [(0, .sl .no 1 (a0.map (cL 1 cI))), (1, f0)]) H0 g
  have hS := St.startH (L := ([] ++ Lo st)) hf_ (hnd st) hp
  replace hS : St (fun i => i < g ∧ i ∉ ids (Lo st)) H0 ([] ++ Lo st) H0 g := hS
  refine r_seq ?_
  refine r_region (n := 1) rfl ?_
  refine o_assign (v := .v (.int .i64 0)) (by decide) rfl ?_
  refine run_nil ?_
  refine w_next [(0, .sl .no 1 (a0.map (cL 1 cI))), (1, f0)] (.cons (.refl _) (.cons (.refl _) .nil)) ?_
  refine w_join (J := S) (fun j => []) (fun j H' g' => St (fun i => i < g ∧ i ∉ ids (Lo st)) H0 ([] ++ Lo j) H' g' ∧ slices_IndexFunc_Lint_j1 j = some r) ?_ ?_
  · rintro v1 H g1 ⟨hS, hM⟩
    change wpA _ _ _ _ (Fr.of []) _ _
    replace hS : St (fun i => i < g ∧ i ∉ ids (Lo st)) H0 ([] ++ Lo v1) H g1 := hS
    replace hM : slices_IndexFunc_Lint_j1 v1 = some r := hM
    refine r_seq ?_
    refine r_region (n := 1) rfl ?_
    refine o_assign (v := .v (.int .i64 (-1))) (by decide) rfl ?_
    refine run_nil ?_
    refine w_next [(4, .v (.int .i64 (-1)))] (.cons (.refl _) .nil) ?_
    refine r_ret ?_
    refine w_endS (x := .v (.int .i64 (-1))) (f := fun r => .v (.int .i64 r.1)) (fd := fun r => (Lo r.2)) (.inr rfl) ?_ (.refl _) (Option.some.inj hM) hS 0 rfl
    exact (res_one (res_tmp (x := .v (.int .i64 (-1))) rfl))
  · refine r_seq ?_
    refine r_region (n := 3) rfl ?_
    refine o_move (v := .sl .no 1 (a0.map (cL 1 cI))) (by decide) rfl ?_
    refine o_len (n := a0.length) (by decide) rfl (List.length_map _) ty_isl78 ?_
    refine o_move (v := .v (.int .i64 0)) (by decide) rfl ?_
    refine run_nil ?_
    refine w_next [(0, .sl .no 1 (a0.map (cL 1 cI))), (1, f0), (7, .v (.int .i64 (a0.length : Int))), (8, .v (.int .i64 0))] (.cons (.refl _) (.cons (.refl _) (.cons (.refl _) (.cons (.refl _) .nil)))) ?_
    refine r_block ?_
    refine w_loop (V := Int × S) (fun v => [(0, .sl .no 1 (a0.map (cL 1 cI))), (1, f0), (7, .v (.int .i64 (a0.length : Int))), (8, .v (.int .i64 v.1))]) (fun v m3 H' g' => St (fun i => i < g ∧ i ∉ ids (Lo st)) H0 ([] ++ Lo v.2) H' g' ∧ slices_IndexFunc_Lint_l1 a0 aF m3 v.1 v.2 = some r) (n := n) (0, st) (.cons (.refl _) (.cons (.refl _) (.cons (.refl _) (.cons (.refl _) .nil)))) ⟨(hS.keep [] rfl).up (by omega), hM⟩ ?_
    rintro ⟨v3, v4⟩ m3 H g3 ⟨hS, hM⟩
    obtain _ | m3 := m3
    · exact nomatch (show none = some _ from hM)
    change wpA _ _ _ _ (Fr.of [(0, .sl .no 1 (a0.map (cL 1 cI))), (1, f0), (7, .v (.int .i64 (a0.length : Int))), (8, .v (.int .i64 v3))]) _ _
    replace hS : St (fun i => i < g ∧ i ∉ ids (Lo st)) H0 ([] ++ Lo v4) H g3 := hS
    replace hM : slices_IndexFunc_Lint_l1_b a0 aF (slices_IndexFunc_Lint_l1 a0 aF m3) v3 v4 = some r := hM
    refine r_seq ?_
    refine r_region (n := 1) rfl ?_
    refine o_int (v := .v (.bool (decide (v3 < (a0.length : Int))))) (by decide) rfl rfl rfl ?_
    refine run_nil ?_
    refine w_next [(0, .sl .no 1 (a0.map (cL 1 cI))), (1, f0), (7, .v (.int .i64 (a0.length : Int))), (8, .v (.int .i64 v3)), (9, .v (.bool (decide (v3 < (a0.length : Int)))))] (.cons (.refl _) (.cons (.refl _) (.cons (.refl _) (.cons (.refl _) (.cons (.refl _) .nil))))) ?_
    refine r_seq ?_
    rcases Bool.eq_false_or_eq_true (decide (v3 < (a0.length : Int))) with hb5 | hb5
    · replace hM := ifT hM hb5
      refine w_condT (e := (decide (v3 < (a0.length : Int)))) rfl hb5 ?_
      refine r_skip ?_
      refine w_next [(0, .sl .no 1 (a0.map (cL 1 cI))), (1, f0), (7, .v (.int .i64 (a0.length : Int))), (8, .v (.int .i64 v3))] (.cons (.refl _) (.cons (.refl _) (.cons (.refl _) (.cons (.refl _) .nil)))) ?_
      refine r_seq ?_
      refine r_block ?_
      refine r_seq ?_
      refine r_region (n := 2) rfl ?_
      refine o_move (v := .v (.int .i64 v3)) (by decide) rfl ?_
      refine o_assign (v := .v (.int .i64 v3)) (by decide) rfl ?_
      refine run_nil ?_
      refine w_next [(0, .sl .no 1 (a0.map (cL 1 cI))), (1, f0), (5, .v (.int .i64 v3)), (7, .v (.int .i64 (a0.length : Int))), (8, .v (.int .i64 v3))] (.cons (.refl _) (.cons (.refl _) (.cons (.refl _) (.cons (.refl _) (.cons (.refl _) .nil))))) ?_
      refine r_seq ?_
      refine r_region (n := 6) rfl ?_
      refine o_move (v := f0) (by decide) rfl ?_
      refine o_move (v := .sl .no 1 (a0.map (cL 1 cI))) (by decide) rfl ?_
      refine o_move (v := .v (.int .i64 v3)) (by decide) rfl ?_
      obtain ⟨x6, hx6, hM⟩ := bindE hM
      refine o_index (xs := a0) (f := (cL 1 cI)) (z := v3) (u := x6) (by decide) rfl rfl ty_es78 hx6 ?_
      refine o_loadE (v := .sl .no 1 (x6.map cI)) (by decide) rfl (part_one ty_agg22 ty_sc22 rfl) ?_
      obtain ⟨r7, hr7, hM⟩ := bindE hM
      replace hS : St (fun i => i < g ∧ i ∉ ids (Lo st)) H0 ([] ++ Lo v4) _ _ := hS
      refine o_state (bs := [.sl .no 1 (x6.map cI)]) (.inl rfl) hS (by decide) rfl rfl ((hf hr7).le (.cons (.refl _) .nil)) (hk _ _).ids (by omega) fun H hS => ?_
      refine run_nil ?_
      refine w_next [(0, .sl .no 1 (a0.map (cL 1 cI))), (1, f0), (5, .v (.int .i64 v3)), (7, .v (.int .i64 (a0.length : Int))), (8, .v (.int .i64 v3)), (16, .v (.bool r7.1))] (.cons (.refl _) (.cons (.refl _) (.cons (.refl _) (.cons (.refl _) (.cons (.refl _) (.cons (.refl _) .nil)))))) ?_
      rcases Bool.eq_false_or_eq_true r7.1 with hb8 | hb8
      · replace hM := ifT hM hb8
        refine w_condT (e := r7.1) rfl hb8 ?_
        refine r_seq ?_
        refine r_region (n := 2) rfl ?_
        refine o_move (v := .v (.int .i64 v3)) (by decide) rfl ?_
        refine o_assign (v := .v (.int .i64 v3)) (by decide) rfl ?_
        refine run_nil ?_
        refine w_next [(4, .v (.int .i64 v3))] (.cons (.refl _) .nil) ?_
        refine r_ret ?_
        refine r_blk_ret ?_
        refine r_then_ret ?_
        refine w_round_ret ?_
        refine r_blk_ret ?_
        refine w_goto_ret ?_
        refine w_endS (x := .v (.int .i64 v3)) (f := fun r => .v (.int .i64 r.1)) (fd := fun r => (Lo r.2)) (.inr rfl) ?_ (.refl _) (Option.some.inj hM) hS 0 rfl
        exact (res_one (res_tmp (x := .v (.int .i64 v3)) rfl))
      · replace hM := ifF hM hb8
        refine w_condF (e := r7.1) rfl hb8 ?_
        refine r_skip ?_
        refine r_blk_normal ?_
        refine w_next [(0, .sl .no 1 (a0.map (cL 1 cI))), (1, f0), (7, .v (.int .i64 (a0.length : Int))), (8, .v (.int .i64 v3))] (.cons (.refl _) (.cons (.refl _) (.cons (.refl _) (.cons (.refl _) .nil)))) ?_
        refine r_region (n := 2) rfl ?_
        refine o_int (v := .v (.int .i64 (w64 (v3 + 1)))) (by decide) rfl rfl rfl ?_
        refine o_move (v := .v (.int .i64 (w64 (v3 + 1)))) (by decide) rfl ?_
        refine run_nil ?_
        exact w_round (w64 (v3 + 1), r7.2) (Nat.lt_succ_self _) (.cons (.refl _) (.cons (.refl _) (.cons (.refl _) (.cons (.refl _) .nil)))) ⟨(hS.keep [] rfl).up (by omega), hM⟩
    · replace hM := ifF hM hb5
      refine w_condF (e := (decide (v3 < (a0.length : Int)))) rfl hb5 ?_
      refine r_exit ?_
      refine r_then_exit ?_
      refine w_round_exit ?_
      refine r_blk_exit ?_
      exact w_goto v4 .nil ⟨(hS.keep [] rfl).up (by omega), hM⟩
theorem W_slices_ContainsFunc_Lint {S : Type} {Lo : S → BL} (hk : ∀ s s', KinL (Lo s) (Lo s')) (hnd : ∀ s, (ids (Lo s)).Nodup) (hin : ∀ s, InB In (Lo s)) {aF : (List Int) → S → Option (Bool × S)} {f0 : AV} (hF : ∀ s H, Has H (Lo s) → In H f0) (h0 : cellsOf f0 = some [f0]) (hf : ∀ {x0 : List Int} {s : S} {r : Bool × S}, aF x0 s = some r → CSat Try.prog f0 [.sl .no 1 (x0.map cI)] (Lo s) (.v (.bool r.1)) (Lo r.2)) {n : Nat} {a0 : List (List Int)} {st : S} {r : Bool × S} (hM : slices_ContainsFunc_Lint n aF a0 st = some r) : HSat Try.prog 90 [.sl .no 1 (a0.map (cL 1 cI)), f0] (Lo st) (.v (.bool r.1)) (Lo r.2) := by
  have hnd0 : ∀ s, (ids (Lo s)).Nodup := fun s => hnd s
  refine hsat_of_wp mixed Try.func90 rfl (by decide) Try.ntmps90 (by simp) (hk _ _) (hnd st) ?pure ?cells fun H0 g hf_ hp => ?_
  case pure => exact fun H _ => (show Go.AM.Pure _ from .v _).inH
  case cells => exact hin _
  rw [frame0_of]
  change wpA _ _ _ _ (Fr.of [(0, .sl .no 1 (a0.map (cL 1 cI))), (1, f0)]) H0 g
  have hS := St.startH (L := ([] ++ Lo st)) hf_ (hnd st) hp
  replace hS : St (fun i => i < g ∧ i ∉ ids (Lo st)) H0 ([] ++ Lo st) H0 g := hS
  refine r_seq ?_
  refine r_region (n := 1) rfl ?_
  refine o_assign (v := .v (.bool false)) (by decide) rfl ?_
  refine run_nil ?_
  refine w_next [(0, .sl .no 1 (a0.map (cL 1 cI))), (1, f0)] (.cons (.refl _) (.cons (.refl _) .nil)) ?_
  refine r_seq ?_
  refine r_region (n := 5) rfl ?_
  refine o_move (v := .sl .no 1 (a0.map (cL 1 cI))) (by decide) rfl ?_
  refine o_move (v := f0) (by decide) rfl ?_
  obtain ⟨r1, hr1, hM⟩ := bindE hM
  replace hS : St (fun i => i < g ∧ i ∉ ids (Lo st)) H0 ([] ++ Lo st) _ _ := hS
  refine o_stateH (bs := [.sl .no 1 (a0.map (cL 1 cI)), f0]) (.inl rfl) hS (by decide) rfl rfl ((W_slices_IndexFunc_Lint (Lo := Lo)  hk hnd0 hin (aF := aF) hF h0 hf hr1).le (.cons (.refl _) (.cons (.refl _) .nil))) (hk _ _).ids (by omega) fun H hS => ?_
  refine o_int (v := .v (.bool (decide (r1.1 ≥ 0)))) (by decide) rfl rfl rfl ?_
  refine o_assign (v := .v (.bool (decide (r1.1 ≥ 0)))) (by decide) rfl ?_
  refine run_nil ?_
  refine w_next [(4, .v (.bool (decide (r1.1 ≥ 0))))] (.cons (.refl _) .nil) ?_
  refine r_ret ?_
  refine w_endS (x := .v (.bool (decide (r1.1 ≥ 0)))) (f := fun r => .v (.bool r.1)) (fd := fun r => (Lo r.2)) (.inr rfl) ?_ (.refl _) (Option.some.inj hM) hS 0 rfl
  exact (res_one (res_tmp (x := .v (.bool (decide (r1.1 ≥ 0)))) rfl))
theorem W_slices_Equal_int {n : Nat} {a0 : List Int} {a1 : List Int} {r : Bool} (hM : slices_Equal_int n a0 a1 = some r) : PureSat Try.prog 92 [.sl .no 1 (a0.map cI), .sl .no 1 (a1.map cI)] (.v (.bool r)) := by
  refine pure_of_wp mixed Try.func92 rfl (by decide) Try.ntmps92 (by simp) ?pure fun H0 g hf => ?_
  case pure => exact .v _
  rw [frame0_of]
  change wpA _ _ _ _ (Fr.of [(0, .sl .no 1 (a0.map cI)), (1, .sl .no 1 (a1.map cI))]) H0 g
  have hS := St.start hf
  refine r_seq ?_
  refine r_region (n := 1) rfl ?_
  refine o_assign (v := .v (.bool false)) (by decide) rfl ?_
  refine run_nil ?_
  refine w_next [(0, .sl .no 1 (a0.map cI)), (1, .sl .no 1 (a1.map cI))] (.cons (.refl _) (.cons (.refl _) .nil)) ?_
  refine r_seq ?_
  refine r_seq ?_
  refine r_region (n := 5) rfl ?_
  refine o_move (v := .sl .no 1 (a0.map cI)) (by decide) rfl ?_
  refine o_len (n := a0.length) (by decide) rfl (List.length_map _) ty_isl22 ?_
  refine o_move (v := .sl .no 1 (a1.map cI)) (by decide) rfl ?_
  refine o_len (n := a1.length) (by decide) rfl (List.length_map _) ty_isl22 ?_
  refine o_int (v := .v (.bool ((a0.length : Int) != (a1.length : Int)))) (by decide) rfl rfl rfl ?_
  refine run_nil ?_
  refine w_next [(0, .sl .no 1 (a0.map cI)), (1, .sl .no 1 (a1.map cI)), (10, .v (.bool ((a0.length : Int) != (a1.length : Int))))] (.cons (.refl _) (.cons (.refl _) (.cons (.refl _) .nil))) ?_
  rcases Bool.eq_false_or_eq_true ((a0.length : Int) != (a1.length : Int)) with hb1 | hb1
  · replace hM := ifT hM hb1
    refine w_condT (e := ((a0.length : Int) != (a1.length : Int))) rfl hb1 ?_
    refine r_seq ?_
    refine r_region (n := 1) rfl ?_
    refine o_assign (v := .v (.bool false)) (by decide) rfl ?_
    refine run_nil ?_
    refine w_next [(4, .v (.bool false))] (.cons (.refl _) .nil) ?_
    refine r_ret ?_
    refine r_then_ret ?_
    refine w_end (x := .v (.bool false)) (f := fun r => .v (.bool r)) (.inr rfl) ?_ (.refl _) (Option.some.inj hM) hS
    exact (res_one (res_tmp (x := .v (.bool false)) rfl))
  · replace hM := ifF hM hb1
    refine w_condF (e := ((a0.length : Int) != (a1.length : Int))) rfl hb1 ?_
    refine r_skip ?_
    refine w_next [(0, .sl .no 1 (a0.map cI)), (1, .sl .no 1 (a1.map cI))] (.cons (.refl _) (.cons (.refl _) .nil)) ?_
    refine w_join (J := Unit) (fun j => []) (fun j H' g' => St (· < g) H0 [] H' g' ∧ slices_Equal_int_j1 = some r) ?_ ?_
    · rintro _ H g1 ⟨hS, hM⟩
      change wpA _ _ _ _ (Fr.of []) _ _
      replace hS : St (· < g) H0 [] H g1 := hS
      replace hM : slices_Equal_int_j1 = some r := hM
      refine r_seq ?_
      refine r_region (n := 1) rfl ?_
      refine o_assign (v := .v (.bool true)) (by decide) rfl ?_
      refine run_nil ?_
      refine w_next [(4, .v (.bool true))] (.cons (.refl _) .nil) ?_
      refine r_ret ?_
      refine w_end (x := .v (.bool true)) (f := fun r => .v (.bool r)) (.inr rfl) ?_ (.refl _) (Option.some.inj hM) hS
      exact (res_one (res_tmp (x := .v (.bool true)) rfl))
    · refine r_seq ?_
      refine r_region (n := 3) rfl ?_
      refine o_move (v := .sl .no 1 (a0.map cI)) (by decide) rfl ?_
      refine o_len (n := a0.length) (by decide) rfl (List.length_map _) ty_isl22 ?_
      refine o_move (v := .v (.int .i64 0)) (by decide) rfl ?_
      refine run_nil ?_
      refine w_next [(0, .sl .no 1 (a0.map cI)), (1, .sl .no 1 (a1.map cI)), (12, .v (.int .i64 (a0.length : Int))), (13, .v (.int .i64 0))] (.cons (.refl _) (.cons (.refl _) (.cons (.refl _) (.cons (.refl _) .nil)))) ?_
      refine r_block ?_
      refine w_loop (V := Int) (fun v => [(0, .sl .no 1 (a0.map cI)), (1, .sl .no 1 (a1.map cI)), (12, .v (.int .i64 (a0.length : Int))), (13, .v (.int .i64 v))]) (fun v m2 H' g' => St (· < g) H0 [] H' g' ∧ slices_Equal_int_l1 a0 a1 m2 v = some r) (n := n) 0 (.cons (.refl _) (.cons (.refl _) (.cons (.refl _) (.cons (.refl _) .nil)))) ⟨(hS.keep [] rfl).up (by omega), hM⟩ ?_
      rintro v2 m2 H g2 ⟨hS, hM⟩
      obtain _ | m2 := m2
      · exact nomatch (show none = some _ from hM)
      change wpA _ _ _ _ (Fr.of [(0, .sl .no 1 (a0.map cI)), (1, .sl .no 1 (a1.map cI)), (12, .v (.int .i64 (a0.length : Int))), (13, .v (.int .i64 v2))]) _ _
      replace hS : St (· < g) H0 [] H g2 := hS
      replace hM : slices_Equal_int_l1_b a0 a1 (slices_Equal_int_l1 a0 a1 m2) v2 = some r := hM
      refine r_seq ?_
      refine r_region (n := 1) rfl ?_
      refine o_int (v := .v (.bool (decide (v2 < (a0.length : Int))))) (by decide) rfl rfl rfl ?_
      refine run_nil ?_
      refine w_next [(0, .sl .no 1 (a0.map cI)), (1, .sl .no 1 (a1.map cI)), (12, .v (.int .i64 (a0.length : Int))), (13, .v (.int .i64 v2)), (14, .v (.bool (decide (v2 < (a0.length : Int)))))] (.cons (.refl _) (.cons (.refl _) (.cons (.refl _) (.cons (.refl _) (.cons (.refl _) .nil))))) ?_
      refine r_seq ?_
      rcases Bool.eq_false_or_eq_true (decide (v2 < (a0.length : Int))) with hb3 | hb3
      · replace hM := ifT hM hb3
        refine w_condT (e := (decide (v2 < (a0.length : Int)))) rfl hb3 ?_
        refine r_skip ?_
        refine w_next [(0, .sl .no 1 (a0.map cI)), (1, .sl .no 1 (a1.map cI)), (12, .v (.int .i64 (a0.length : Int))), (13, .v (.int .i64 v2))] (.cons (.refl _) (.cons (.refl _) (.cons (.refl _) (.cons (.refl _) .nil)))) ?_
        refine r_seq ?_
        refine r_block ?_
        refine r_seq ?_
        refine r_region (n := 2) rfl ?_
        refine o_move (v := .v (.int .i64 v2)) (by decide) rfl ?_
        refine o_assign (v := .v (.int .i64 v2)) (by decide) rfl ?_
        refine run_nil ?_
        refine w_next [(0, .sl .no 1 (a0.map cI)), (1, .sl .no 1 (a1.map cI)), (5, .v (.int .i64 v2)), (12, .v (.int .i64 (a0.length : Int))), (13, .v (.int .i64 v2))] (.cons (.refl _) (.cons (.refl _) (.cons (.refl _) (.cons (.refl _) (.cons (.refl _) .nil))))) ?_
        refine r_seq ?_
        have hS0 := hS
        refine r_draw (n := 9) rfl (by kernel_rfl) ?_
        refine o_move (v := .sl .no 1 (a0.map cI)) (by decide) rfl ?_
        refine o_move (v := .v (.int .i64 v2)) (by decide) rfl ?_
        obtain ⟨x4, hx4, hM⟩ := bindE hM
        refine o_index (xs := a0) (f := cI) (z := v2) (u := x4) (by decide) rfl rfl ty_es22 hx4 ?_
        refine o_loadE (v := .v (.int .i64 x4)) (by decide) rfl (part_one ty_agg3 ty_sc3 rfl) ?_
        refine o_move (v := .sl .no 1 (a1.map cI)) (by decide) rfl ?_
        refine o_move (v := .v (.int .i64 v2)) (by decide) rfl ?_
        obtain ⟨x5, hx5, hM⟩ := bindE hM
        refine o_index (xs := a1) (f := cI) (z := v2) (u := x5) (by decide) rfl rfl ty_es22 hx5 ?_
        refine o_loadE (v := .v (.int .i64 x5)) (by decide) rfl (part_one ty_agg3 ty_sc3 rfl) ?_
        refine o_int (v := .v (.bool (x4 != x5))) (by decide) rfl rfl rfl ?_
        refine run_nil ?_
        refine w_next [(0, .sl .no 1 (a0.map cI)), (1, .sl .no 1 (a1.map cI)), (12, .v (.int .i64 (a0.length : Int))), (13, .v (.int .i64 v2)), (24, .v (.bool (x4 != x5)))] (.cons (.refl _) (.cons (.refl _) (.cons (.refl _) (.cons (.refl _) (.cons (.refl _) .nil))))) ?_
        rcases Bool.eq_false_or_eq_true (x4 != x5) with hb6 | hb6
        · replace hM := ifT hM hb6
          refine w_condT (e := (x4 != x5)) rfl hb6 ?_
          refine r_seq ?_
          refine r_region (n := 1) rfl ?_
          refine o_assign (v := .v (.bool false)) (by decide) rfl ?_
          refine run_nil ?_
          refine w_next [(4, .v (.bool false))] (.cons (.refl _) .nil) ?_
          refine r_ret ?_
          refine r_blk_ret ?_
          refine r_then_ret ?_
          refine w_round_ret ?_
          refine r_blk_ret ?_
          refine w_goto_ret ?_
          refine w_end (x := .v (.bool false)) (f := fun r => .v (.bool r)) (.inr rfl) ?_ (.refl _) (Option.some.inj hM) hS
          exact (res_one (res_tmp (x := .v (.bool false)) rfl))
        · replace hM := ifF hM hb6
          refine w_condF (e := (x4 != x5)) rfl hb6 ?_
          refine r_skip ?_
          refine r_blk_normal ?_
          refine w_next [(0, .sl .no 1 (a0.map cI)), (1, .sl .no 1 (a1.map cI)), (12, .v (.int .i64 (a0.length : Int))), (13, .v (.int .i64 v2))] (.cons (.refl _) (.cons (.refl _) (.cons (.refl _) (.cons (.refl _) .nil)))) ?_
          refine r_region (n := 2) rfl ?_
          refine o_int (v := .v (.int .i64 (w64 (v2 + 1)))) (by decide) rfl rfl rfl ?_
          refine o_move (v := .v (.int .i64 (w64 (v2 + 1)))) (by decide) rfl ?_
          refine run_nil ?_
          exact w_round (w64 (v2 + 1)) (Nat.lt_succ_self _) (.cons (.refl _) (.cons (.refl _) (.cons (.refl _) (.cons (.refl _) .nil)))) ⟨(hS.keep [] rfl).up (by omega), hM⟩
      · replace hM := ifF hM hb3
        refine w_condF (e := (decide (v2 < (a0.length : Int)))) rfl hb3 ?_
        refine r_exit ?_
        refine r_then_exit ?_
        refine w_round_exit ?_
        refine r_blk_exit ?_
        exact w_goto () .nil ⟨(hS.keep [] rfl).up (by omega), hM⟩
theorem W_pulses_lists_c1 {p1 : Nat} (hnd : [p1].Nodup) {n : Nat} {a0 : List Int} {a1 : Reading_} {r : Bool} (hM : pulses_lists_c1 n a0 a1 = some r) : HSat Try.prog 91 [.sl .no 1 (a0.map cI), .ptr p1 0] [(p1, .cells [.v (.int .u64 a1.sparks), .sl .no 1 (a1.list.map cI)])] (.v (.bool r)) [(p1, .cells [.v (.int .u64 a1.sparks), .sl .no 1 (a1.list.map cI)])] := by
  refine hsat_of_wp mixed Try.func91 rfl (by decide) Try.ntmps91 (by simp) (kl_cells kl_nil) hnd ?pure ?cells fun H0 g hf_ hp => ?_
  case pure => exact fun H _ => (show Go.AM.Pure _ from .v _).inH
  case cells => exact (inb_st (ic_cells (ci_cons (.inl (.inl (.v _))) (ci_cons (.inl (.inl (.sl _ _ (pures_map (fun x => (pl_cons (.v _) pl_nil)))))) ci_nil)) ic_nil) inb_nil)
  rw [frame0_of]
  change wpA _ _ _ _ (Fr.of [(0, .sl .no 1 (a0.map cI)), (1, .ptr p1 0)]) H0 g
  have hS := St.startH (L := [(p1, .cells [.v (.int .u64 a1.sparks), .sl .no 1 (a1.list.map cI)])]) hf_ hnd hp
  replace hS : St (fun i => i < g ∧ i ∉ ids [(p1, .cells [.v (.int .u64 a1.sparks), .sl .no 1 (a1.list.map cI)])]) H0 [(p1, .cells [.v (.int .u64 a1.sparks), .sl .no 1 (a1.list.map cI)])] H0 g := hS
  refine r_seq ?_
  refine r_region (n := 1) rfl ?_
  refine o_assign (v := .v (.bool false)) (by decide) rfl ?_
  refine run_nil ?_
  refine w_next [(0, .sl .no 1 (a0.map cI)), (1, .ptr p1 0)] (.cons (.refl _) (.cons (.refl _) .nil)) ?_
  refine r_seq ?_
  refine r_region (n := 5) rfl ?_
  refine o_move (v := .sl .no 1 (a0.map cI)) (by decide) rfl ?_
  refine o_fieldP (by decide) ty_fo86_1 rfl ?_
  refine o_load (v := .sl .no 1 (a1.list.map cI)) 0 hS (by decide) rfl rfl .no (part_one ty_agg22 ty_sc22 rfl) ?_
  obtain ⟨r1, hr1, hM⟩ := bindE hM
  refine o_call (bs := [.sl .no 1 (a0.map cI), .sl .no 1 (a1.list.map cI)]) (by decide) rfl rfl ((W_slices_Equal_int hr1).le (.cons (.refl _) (.cons (.refl _) .nil))) ?_
  refine o_assign (v := .v (.bool r1)) (by decide) rfl ?_
  refine run_nil ?_
  refine w_next [(3, .v (.bool r1))] (.cons (.refl _) .nil) ?_
  refine r_ret ?_
  refine w_endS (x := .v (.bool r1)) (f := fun r => .v (.bool r)) (fd := fun r => [(p1, .cells [.v (.int .u64 a1.sparks), .sl .no 1 (a1.list.map cI)])]) (.inr rfl) ?_ (.refl _) (Option.some.inj hM) hS 0 rfl
  exact (res_one (res_tmp (x := .v (.bool r1)) rfl))
theorem W_pulses_lists {n : Nat} {a0 : List Reading_} {r : (List (List Int))} (hM : pulses_lists n a0 = some r) : PureSat Try.prog 64 [.sl .no 2 (a0.map Reading_.cells)] (.sl .no 1 (r.map (cL 1 cI))) := by
  refine pure_of_wp mixed Try.func64 rfl (by decide) Try.ntmps64 (by simp) ?pure fun H0 g hf => ?_
  case pure => exact .sl _ _ (pures_map (fun x => (pl_cons (.sl _ _ (pures_map (fun x => (pl_cons (.v _) pl_nil)))) pl_nil)))
  rw [frame0_of]
  change wpA _ _ _ _ (Fr.of [(0, .sl .no 2 (a0.map Reading_.cells))]) H0 g
  have hS := St.start hf
  refine r_seq ?_
  refine r_region (n := 1) rfl ?_
  refine o_assign (v := .sl .nil 0 []) (by decide) rfl ?_
  refine run_nil ?_
  refine w_next [(0, .sl .no 2 (a0.map Reading_.cells))] (.cons (.refl _) .nil) ?_
  refine r_seq ?_
  refine r_region (n := 1) rfl ?_
  refine o_assign (v := .sl .nil 0 []) (by decide) rfl ?_
  refine run_nil ?_
  refine w_own [(0, .sl .no 2 (a0.map Reading_.cells)), (3, .sl (.id (g + 1 + 1)) 1 (([] : List (List Int)).map (cL 1 cI)))] 3 1 22 hS (by omega) (by decide) rfl (.cons (.refl _) (.cons (.refl _) .nil)) fun H hS => ?_
  refine w_join (J := (List (List Int))) (fun j => [(3, .sl (.id (g + 1 + 1)) 1 (j.map (cL 1 cI)))]) (fun j H' g' => St (· < g) H0 [(g + 1 + 1, .row 22 j.length)] H' g' ∧ pulses_lists_j1 j = some r) ?_ ?_
  · rintro v1 H g1 ⟨hS, hM⟩
    change wpA _ _ _ _ (Fr.of [(3, .sl (.id (g + 1 + 1)) 1 (v1.map (cL 1 cI)))]) _ _
    replace hS : St (· < g) H0 [(g + 1 + 1, .row 22 v1.length)] H g1 := hS
    replace hM : pulses_lists_j1 v1 = some r := hM
    refine r_seq ?_
    refine r_region (n := 2) rfl ?_
    refine o_move (v := .sl (.id (g + 1 + 1)) 1 (v1.map (cL 1 cI))) (by decide) rfl ?_
    refine o_assign (v := .sl (.id (g + 1 + 1)) 1 (v1.map (cL 1 cI))) (by decide) rfl ?_
    refine run_nil ?_
    refine w_next [(2, .sl (.id (g + 1 + 1)) 1 (v1.map (cL 1 cI)))] (.cons (.refl _) .nil) ?_
    refine r_ret ?_
    refine w_end (x := .sl (.id (g + 1 + 1)) 1 (v1.map (cL 1 cI))) (f := fun r => .sl .no 1 (r.map (cL 1 cI))) (.inr rfl) ?_ (.sl _ _ _) (Option.some.inj hM) hS
    exact (res_one (res_tmp (x := .sl (.id (g + 1 + 1)) 1 (v1.map (cL 1 cI))) rfl))
  · refine r_seq ?_
    refine r_region (n := 3) rfl ?_
    refine o_move (v := .sl .no 2 (a0.map Reading_.cells)) (by decide) rfl ?_
    refine o_len (n := a0.length) (by decide) rfl (List.length_map _) ty_isl72 ?_
    refine o_move (v := .v (.int .i64 0)) (by decide) rfl ?_
    refine run_nil ?_
    refine w_next [(3, .sl (.id (g + 1 + 1)) 1 (([] : List (List Int)).map (cL 1 cI))), (6, .sl .no 2 (a0.map Reading_.cells)), (7, .v (.int .i64 (a0.length : Int))), (8, .v (.int .i64 0))] (.cons (.refl _) (.cons (.refl _) (.cons (.refl _) (.cons (.refl _) .nil)))) ?_
    refine r_block ?_
    refine w_loop (V := (List (List Int)) × Int) (fun v => [(3, .sl (.id (g + 1 + 1)) 1 (v.1.map (cL 1 cI))), (6, .sl .no 2 (a0.map Reading_.cells)), (7, .v (.int .i64 (a0.length : Int))), (8, .v (.int .i64 v.2))]) (fun v m2 H' g' => St (· < g) H0 [(g + 1 + 1, .row 22 v.1.length)] H' g' ∧ pulses_lists_l1 n a0 m2 v.1 v.2 = some r) (n := n) (([] : List (List Int)), 0) (.cons (.refl _) (.cons (.refl _) (.cons (.refl _) (.cons (.refl _) .nil)))) ⟨(hS.keep [true] rfl).up (by omega), hM⟩ ?_
    rintro ⟨v2, v3⟩ m2 H g2 ⟨hS, hM⟩
    obtain _ | m2 := m2
    · exact nomatch (show none = some _ from hM)
    change wpA _ _ _ _ (Fr.of [(3, .sl (.id (g + 1 + 1)) 1 (v2.map (cL 1 cI))), (6, .sl .no 2 (a0.map Reading_.cells)), (7, .v (.int .i64 (a0.length : Int))), (8, .v (.int .i64 v3))]) _ _
    replace hS : St (· < g) H0 [(g + 1 + 1, .row 22 v2.length)] H g2 := hS
    replace hM : pulses_lists_l1_b n a0 (pulses_lists_l1 n a0 m2) v2 v3 = some r := hM
    refine r_seq ?_
    refine r_region (n := 1) rfl ?_
    refine o_int (v := .v (.bool (decide (v3 < (a0.length : Int))))) (by decide) rfl rfl rfl ?_
    refine run_nil ?_
    refine w_next [(3, .sl (.id (g + 1 + 1)) 1 (v2.map (cL 1 cI))), (6, .sl .no 2 (a0.map Reading_.cells)), (7, .v (.int .i64 (a0.length : Int))), (8, .v (.int .i64 v3)), (9, .v (.bool (decide (v3 < (a0.length : Int)))))] (.cons (.refl _) (.cons (.refl _) (.cons (.refl _) (.cons (.refl _) (.cons (.refl _) .nil))))) ?_
    refine r_seq ?_
    rcases Bool.eq_false_or_eq_true (decide (v3 < (a0.length : Int))) with hb4 | hb4
    · replace hM := ifT hM hb4
      refine w_condT (e := (decide (v3 < (a0.length : Int)))) rfl hb4 ?_
      refine r_skip ?_
      refine w_next [(3, .sl (.id (g + 1 + 1)) 1 (v2.map (cL 1 cI))), (6, .sl .no 2 (a0.map Reading_.cells)), (7, .v (.int .i64 (a0.length : Int))), (8, .v (.int .i64 v3))] (.cons (.refl _) (.cons (.refl _) (.cons (.refl _) (.cons (.refl _) .nil)))) ?_
      refine w_join (J := (List (List Int))) (fun j => [(3, .sl (.id (g + 1 + 1)) 1 (j.map (cL 1 cI))), (6, .sl .no 2 (a0.map Reading_.cells)), (7, .v (.int .i64 (a0.length : Int))), (8, .v (.int .i64 v3))]) (fun j H' g' => St (· < g) H0 [(g + 1 + 1, .row 22 j.length)] H' g' ∧ pulses_lists_j2 (pulses_lists_l1 n a0 m2) v3 j = some r) ?_ ?_
      · rintro v5 H g3 ⟨hS, hM⟩
        change wpA _ _ _ _ (Fr.of [(3, .sl (.id (g + 1 + 1)) 1 (v5.map (cL 1 cI))), (6, .sl .no 2 (a0.map Reading_.cells)), (7, .v (.int .i64 (a0.length : Int))), (8, .v (.int .i64 v3))]) _ _
        replace hS : St (· < g) H0 [(g + 1 + 1, .row 22 v5.length)] H g3 := hS
        replace hM : pulses_lists_j2 (pulses_lists_l1 n a0 m2) v3 v5 = some r := hM
        refine r_region (n := 2) rfl ?_
        refine o_int (v := .v (.int .i64 (w64 (v3 + 1)))) (by decide) rfl rfl rfl ?_
        refine o_move (v := .v (.int .i64 (w64 (v3 + 1)))) (by decide) rfl ?_
        refine run_nil ?_
        exact w_round (v5, w64 (v3 + 1)) (Nat.lt_succ_self _) (.cons (.refl _) (.cons (.refl _) (.cons (.refl _) (.cons (.refl _) .nil)))) ⟨(hS.keep [true] rfl).up (by omega), hM⟩
      · refine r_block ?_
        refine r_seq ?_
        refine r_region (n := 4) rfl ?_
        obtain ⟨x6, hx6, hM⟩ := bindE hM
        refine o_index (xs := a0) (f := Reading_.cells) (z := v3) (u := x6) (by decide) rfl rfl ty_es72 hx6 ?_
        refine o_loadE (v := .agg [.v (.int .u64 x6.sparks), .sl .no 1 (x6.list.map cI)]) (by decide) rfl (part_agg ty_agg86 (Nat.le_of_ble_eq_true rfl) rfl) ?_
        refine o_alloc hS (by decide) ty_zero86 (by omega) fun H hS => ?_
        refine o_store (v := .agg [.v (.int .u64 x6.sparks), .sl .no 1 (x6.list.map cI)]) (ns := [.v (.int .u64 x6.sparks), .sl .no 1 (x6.list.map cI)]) (L' := [(g2 + 1 + 2, .cells [.v (.int .u64 x6.sparks), .sl .no 1 (x6.list.map cI)]), (g + 1 + 1, .row 22 v2.length)]) 0 hS rfl rfl .no rfl rfl ty_var86 (Nat.le_of_ble_eq_true rfl) rfl fun H hS => ?_
        refine run_nil ?_
        refine w_next [(3, .sl (.id (g + 1 + 1)) 1 (v2.map (cL 1 cI))), (5, .ptr (g2 + 1 + 2) 0), (6, .sl .no 2 (a0.map Reading_.cells)), (7, .v (.int .i64 (a0.length : Int))), (8, .v (.int .i64 v3))] (.cons (.refl _) (.cons (.refl _) (.cons (.refl _) (.cons (.refl _) (.cons (.refl _) .nil))))) ?_
        refine r_seq ?_
        refine r_region (n := 4) rfl ?_
        refine o_move (v := .sl (.id (g + 1 + 1)) 1 (v2.map (cL 1 cI))) (by decide) rfl ?_
        refine o_makeFunc (first := []) (cap := [.ptr (g2 + 1 + 2) 0]) (by decide) rfl rfl ?_
        obtain ⟨r7, hr7, hM⟩ := bindE hM
        have hndr7 := hS.nd_at (ns := [0]) (M := [(g2 + 1 + 2, .cells [.v (.int .u64 x6.sparks), .sl .no 1 (x6.list.map cI)])]) (M' := [(g2 + 1 + 2, .cells [.v (.int .u64 x6.sparks), .sl .no 1 (x6.list.map cI)])]) (.cons rfl .nil) (by decide)
        have hncr7 := hS.nd_at (ns := [0]) (M := [(g2 + 1 + 2, .cells [.v (.int .u64 x6.sparks), .sl .no 1 (x6.list.map cI)])]) (M' := [(g2 + 1 + 2, .cells [.v (.int .u64 x6.sparks), .sl .no 1 (x6.list.map cI)])]) (.cons rfl .nil) (by decide)
        refine o_hsat (bs := [.sl (.id (g + 1 + 1)) 1 (v2.map (cL 1 cI)), .fn (.func 91) [] [.ptr (g2 + 1 + 2) 0]]) (M := [(g2 + 1 + 2, .cells [.v (.int .u64 x6.sparks), .sl .no 1 (x6.list.map cI)])]) (M' := [(g2 + 1 + 2, .cells [.v (.int .u64 x6.sparks), .sl .no 1 (x6.list.map cI)])]) (L' := [(g2 + 1 + 2, .cells [.v (.int .u64 x6.sparks), .sl .no 1 (x6.list.map cI)]), (g + 1 + 1, .row 22 v2.length)]) [0] (.inl rfl) hS (by decide) rfl rfl ((W_slices_ContainsFunc_Lint (Lo := (fun (_ : Unit) => [(g2 + 1 + 2, .cells [.v (.int .u64 x6.sparks), .sl .no 1 (x6.list.map cI)])]))  (fun _ _ => (kl_cells kl_nil)) (fun _ => hndr7) (fun s => (inb_st (ic_cells (ci_cons (.inl (.inl (.v _))) (ci_cons (.inl (.inl (.sl _ _ (pures_map (fun x => (pl_cons (.v _) pl_nil)))))) ci_nil)) ic_nil) inb_nil)) (aF := (fun (x0 : List Int) (_ : Unit) => (pulses_lists_c1 n x0 x6).map fun y => (y, ()))) (fun s H hH => .fn _ _ _ ai_nil (ai_cons (in_ptr hH 0 rfl) ai_nil)) rfl (fun h => csat_cap (W_pulses_lists_c1 (p1 := g2 + 1 + 2)  hncr7 (pure_some h))) hr7).le (.cons (.sl _ _ _) (.cons (.refl _) .nil))) (.cons rfl .nil) rfl (by omega) fun H hS => ?_
        refine o_not (e := r7.1) (by decide) rfl ?_
        refine run_nil ?_
        refine w_next [(3, .sl (.id (g + 1 + 1)) 1 (v2.map (cL 1 cI))), (5, .ptr (g2 + 1 + 2) 0), (6, .sl .no 2 (a0.map Reading_.cells)), (7, .v (.int .i64 (a0.length : Int))), (8, .v (.int .i64 v3)), (15, .v (.bool (!r7.1)))] (.cons (.refl _) (.cons (.refl _) (.cons (.refl _) (.cons (.refl _) (.cons (.refl _) (.cons (.refl _) .nil)))))) ?_
        rcases Bool.eq_false_or_eq_true (!r7.1) with hb8 | hb8
        · replace hM := ifT hM hb8
          refine w_condT (e := (!r7.1)) rfl hb8 ?_
          refine r_region (n := 6) rfl ?_
          refine o_move (v := .sl (.id (g + 1 + 1)) 1 (v2.map (cL 1 cI))) (by decide) rfl ?_
          refine o_fieldP (by decide) ty_fo86_1 rfl ?_
          refine o_load (v := .sl .no 1 (x6.list.map cI)) 0 hS (by decide) rfl rfl .no (part_one ty_agg22 ty_sc22 rfl) ?_
          refine o_buildSlice (es := [[.sl .no 1 (x6.list.map cI)]]) hS (by decide) ty_es78 ty_el78 rfl ty_ef78 rfl (by decide) (by omega) fun H hS => ?_
          obtain ⟨l9, hl9, hM⟩ := bindE hM
          refine o_append (xs := v2) (ys := ([x6.list] : List (List Int))) (zs := l9) (f := (cL 1 cI)) (L' := [(g2 + 1 + 4 + 4 + 3, .row 22 1), (g2 + 1 + 2, .cells [.v (.int .u64 x6.sparks), .sl .no 1 (x6.list.map cI)]), (g + 1 + 1, .row 22 l9.length)]) 2 hS (by decide) rfl rfl rfl rfl .no ty_es78 ty_el78 ty_ef78 hl9 rfl fun H hS => ?_
          refine o_assign (v := .sl (.id (g + 1 + 1)) 1 (l9.map (cL 1 cI))) (by decide) rfl ?_
          refine run_nil ?_
          refine r_blk_normal ?_
          exact w_goto l9 (.cons (.refl _) (.cons (.refl _) (.cons (.refl _) (.cons (.refl _) .nil)))) ⟨(hS.keep [false, false, true] rfl).up (by omega), hM⟩
        · replace hM := ifF hM hb8
          refine w_condF (e := (!r7.1)) rfl hb8 ?_
          refine r_skip ?_
          refine r_blk_normal ?_
          exact w_goto v2 (.cons (.refl _) (.cons (.refl _) (.cons (.refl _) (.cons (.refl _) .nil)))) ⟨(hS.keep [false, true] rfl).up (by omega), hM⟩
    · replace hM := ifF hM hb4
      refine w_condF (e := (decide (v3 < (a0.length : Int)))) rfl hb4 ?_
      refine r_exit ?_
      refine r_then_exit ?_
      refine w_round_exit ?_
      refine r_blk_exit ?_
      exact w_goto v2 (.cons (.refl _) .nil) ⟨(hS.keep [true] rfl).up (by omega), hM⟩
theorem W_pulses_Lists {n : Nat} {a0 : Pulse} {r : Int × Int} (hM : pulses_Lists n a0 = some r) : PureSat Try.prog 27 [.agg [.v (.int .i64 a0.Letters), .v (.int .i64 a0.Numbers), .v (.int .i64 a0.Pitch), .v (.int .i64 a0.Slack), .v (.int .i64 a0.Gap), .v (.int .i64 a0.Pause), .v (.int .i64 a0.Sparks), .sl .no 1 (a0.Times.map cI)]] (.tup [.v (.int .i64 r.1), .v (.int .i64 r.2)]) := by
  refine pure_of_wp mixed Try.func27 rfl (by decide) Try.ntmps27 (by simp) ?pure fun H0 g hf => ?_
  case pure => exact .tup _ (pl_cons (.v _) (pl_cons (.v _) pl_nil))
  rw [frame0_of]
  change wpA _ _ _ _ (Fr.of [(0, .agg [.v (.int .i64 a0.Letters), .v (.int .i64 a0.Numbers), .v (.int .i64 a0.Pitch), .v (.int .i64 a0.Slack), .v (.int .i64 a0.Gap), .v (.int .i64 a0.Pause), .v (.int .i64 a0.Sparks), .sl .no 1 (a0.Times.map cI)])]) H0 g
  have hS := St.start hf
  refine r_seq ?_
  refine r_region (n := 3) rfl ?_
  refine o_box (v := .agg [.v (.int .i64 a0.Letters), .v (.int .i64 a0.Numbers), .v (.int .i64 a0.Pitch), .v (.int .i64 a0.Slack), .v (.int .i64 a0.Gap), .v (.int .i64 a0.Pause), .v (.int .i64 a0.Sparks), .sl .no 1 (a0.Times.map cI)]) (cs := [.v (.int .i64 a0.Letters), .v (.int .i64 a0.Numbers), .v (.int .i64 a0.Pitch), .v (.int .i64 a0.Slack), .v (.int .i64 a0.Gap), .v (.int .i64 a0.Pause), .v (.int .i64 a0.Sparks), .sl .no 1 (a0.Times.map cI)]) hS (by decide) rfl rfl (by omega) fun H hS => ?_
  refine o_assign (v := .v (.int .i64 0)) (by decide) rfl ?_
  refine o_assign (v := .v (.int .i64 0)) (by decide) rfl ?_
  refine run_nil ?_
  refine w_next [(1, .ptr (g + 0) 0)] (.cons (.refl _) .nil) ?_
  refine r_seq ?_
  refine r_region (n := 7) rfl ?_
  refine o_load (v := .agg [.v (.int .i64 a0.Letters), .v (.int .i64 a0.Numbers), .v (.int .i64 a0.Pitch), .v (.int .i64 a0.Slack), .v (.int .i64 a0.Gap), .v (.int .i64 a0.Pause), .v (.int .i64 a0.Sparks), .sl .no 1 (a0.Times.map cI)]) 0 hS (by decide) rfl rfl .no (part_agg ty_agg24 (Nat.le_of_ble_eq_true rfl) rfl) ?_
  obtain ⟨r1, hr1, hM⟩ := bindE hM
  refine o_call (bs := [.agg [.v (.int .i64 a0.Letters), .v (.int .i64 a0.Numbers), .v (.int .i64 a0.Pitch), .v (.int .i64 a0.Slack), .v (.int .i64 a0.Gap), .v (.int .i64 a0.Pause), .v (.int .i64 a0.Sparks), .sl .no 1 (a0.Times.map cI)], .fn (.func 62) [] []]) (by decide) rfl rfl (pure_of_hsat ((W_pulses_open (Lo := (fun (_ : Unit) => []))  (fun _ _ => kl_nil) (fun _ => List.nodup_nil) (fun _ => inb_nil) (aF := (fun (x0 : Train_) (_ : Unit) => (pulses_anything x0).map fun y => (y, ()))) (fun _ _ _ => .fn _ _ _ ai_nil ai_nil) rfl (fun h => csat_pure (W_pulses_anything (pure_some h))) hr1).le (.cons (.refl _) (.cons (.refl _) .nil)))) ?_
  refine o_move (v := .tup [.sl .no 2 (r1.1.1.map Reading_.cells), .v (.int .i64 r1.1.2)]) (by decide) rfl ?_
  refine o_extract (v := .sl .no 2 (r1.1.1.map Reading_.cells)) (by decide) rfl rfl ?_
  refine o_extract (v := .v (.int .i64 r1.1.2)) (by decide) rfl rfl ?_
  refine o_assign (v := .sl .no 2 (r1.1.1.map Reading_.cells)) (by decide) rfl ?_
  refine o_assign (v := .v (.int .i64 r1.1.2)) (by decide) rfl ?_
  refine run_nil ?_
  replace hS := hS.keep (L' := []) [false] rfl
  refine w_next [(4, .sl .no 2 (r1.1.1.map Reading_.cells)), (5, .v (.int .i64 r1.1.2))] (.cons (.refl _) (.cons (.refl _) .nil)) ?_
  refine r_seq ?_
  refine r_region (n := 6) rfl ?_
  refine o_move (v := .sl .no 2 (r1.1.1.map Reading_.cells)) (by decide) rfl ?_
  obtain ⟨r2, hr2, hM⟩ := bindE hM
  refine o_call (bs := [.sl .no 2 (r1.1.1.map Reading_.cells)]) (by decide) rfl rfl ((W_pulses_lists hr2).le (.cons (.refl _) .nil)) ?_
  refine o_len (n := r2.length) (by decide) rfl (List.length_map _) ty_isl78 ?_
  refine o_move (v := .v (.int .i64 r1.1.2)) (by decide) rfl ?_
  refine o_assign (v := .v (.int .i64 (r2.length : Int))) (by decide) rfl ?_
  refine o_assign (v := .v (.int .i64 r1.1.2)) (by decide) rfl ?_
  refine run_nil ?_
  refine w_next [(2, .v (.int .i64 (r2.length : Int))), (3, .v (.int .i64 r1.1.2))] (.cons (.refl _) (.cons (.refl _) .nil)) ?_
  refine r_ret ?_
  refine w_end (x := .tup [.v (.int .i64 (r2.length : Int)), .v (.int .i64 r1.1.2)]) (f := fun r => .tup [.v (.int .i64 r.1), .v (.int .i64 r.2)]) (.inr rfl) ?_ (.refl _) (Option.some.inj hM) hS
  exact (res_two (res_tmp (x := .v (.int .i64 (r2.length : Int))) rfl) (res_tmp (x := .v (.int .i64 r1.1.2)) rfl))
theorem W_pulses_one {n : Nat} {a0 : List Reading_} {r : (List Int) × Int} (hM : pulses_one n a0 = some r) : PureSat Try.prog 65 [.sl .no 2 (a0.map Reading_.cells)] (.tup [.sl .no 1 (r.1.map cI), .v (.int .i64 r.2)]) := by
  refine pure_of_wp mixed Try.func65 rfl (by decide) Try.ntmps65 (by simp) ?pure fun H0 g hf => ?_
  case pure => exact .tup _ (pl_cons (.sl _ _ (pures_map (fun x => (pl_cons (.v _) pl_nil)))) (pl_cons (.v _) pl_nil))
  rw [frame0_of]
  change wpA _ _ _ _ (Fr.of [(0, .sl .no 2 (a0.map Reading_.cells))]) H0 g
  have hS := St.start hf
  refine r_seq ?_
  refine r_region (n := 2) rfl ?_
  refine o_assign (v := .sl .nil 0 []) (by decide) rfl ?_
  refine o_assign (v := .v (.int .i64 0)) (by decide) rfl ?_
  refine run_nil ?_
  refine w_next [(0, .sl .no 2 (a0.map Reading_.cells))] (.cons (.refl _) .nil) ?_
  refine r_seq ?_
  refine r_region (n := 3) rfl ?_
  refine o_move (v := .sl .no 2 (a0.map Reading_.cells)) (by decide) rfl ?_
  obtain ⟨r1, hr1, hM⟩ := bindE hM
  refine o_call (bs := [.sl .no 2 (a0.map Reading_.cells)]) (by decide) rfl rfl ((W_pulses_lists hr1).le (.cons (.refl _) .nil)) ?_
  refine o_assign (v := .sl .no 1 (r1.map (cL 1 cI))) (by decide) rfl ?_
  refine run_nil ?_
  refine w_next [(4, .sl .no 1 (r1.map (cL 1 cI)))] (.cons (.refl _) .nil) ?_
  refine r_seq ?_
  refine r_seq ?_
  refine r_region (n := 3) rfl ?_
  refine o_move (v := .sl .no 1 (r1.map (cL 1 cI))) (by decide) rfl ?_
  refine o_len (n := r1.length) (by decide) rfl (List.length_map _) ty_isl78 ?_
  refine o_int (v := .v (.bool (decide ((r1.length : Int) > 1)))) (by decide) rfl rfl rfl ?_
  refine run_nil ?_
  refine w_next [(4, .sl .no 1 (r1.map (cL 1 cI))), (9, .v (.bool (decide ((r1.length : Int) > 1))))] (.cons (.refl _) (.cons (.refl _) .nil)) ?_
  rcases Bool.eq_false_or_eq_true (decide ((r1.length : Int) > 1)) with hb2 | hb2
  · replace hM := ifT hM hb2
    refine w_condT (e := (decide ((r1.length : Int) > 1))) rfl hb2 ?_
    refine r_seq ?_
    refine r_region (n := 2) rfl ?_
    refine o_assign (v := .sl .nil 0 []) (by decide) rfl ?_
    refine o_assign (v := .v (.int .i64 2)) (by decide) rfl ?_
    refine run_nil ?_
    refine w_next [(2, .sl .nil 0 []), (3, .v (.int .i64 2))] (.cons (.refl _) (.cons (.refl _) .nil)) ?_
    refine r_ret ?_
    refine r_then_ret ?_
    refine w_end (x := .tup [.sl .nil 0 [], .v (.int .i64 2)]) (f := fun r => .tup [.sl .no 1 (r.1.map cI), .v (.int .i64 r.2)]) (.inr rfl) ?_ (.tupL (.cons (.sl0 .nil 1 0) (.cons (.refl _) .nil))) (Option.some.inj hM) hS
    exact (res_two (res_tmp (x := .sl .nil 0 []) rfl) (res_tmp (x := .v (.int .i64 2)) rfl))
  · replace hM := ifF hM hb2
    refine w_condF (e := (decide ((r1.length : Int) > 1))) rfl hb2 ?_
    refine r_skip ?_
    refine w_next [(4, .sl .no 1 (r1.map (cL 1 cI)))] (.cons (.refl _) .nil) ?_
    refine r_seq ?_
    refine r_region (n := 5) rfl ?_
    refine o_move (v := .sl .no 1 (r1.map (cL 1 cI))) (by decide) rfl ?_
    obtain ⟨x3, hx3, hM⟩ := bindE hM
    refine o_index (xs := r1) (f := (cL 1 cI)) (z := 0) (u := x3) (by decide) rfl rfl ty_es78 hx3 ?_
    refine o_loadE (v := .sl .no 1 (x3.map cI)) (by decide) rfl (part_one ty_agg22 ty_sc22 rfl) ?_
    refine o_assign (v := .sl .no 1 (x3.map cI)) (by decide) rfl ?_
    refine o_assign (v := .v (.int .i64 0)) (by decide) rfl ?_
    refine run_nil ?_
    refine w_next [(2, .sl .no 1 (x3.map cI)), (3, .v (.int .i64 0))] (.cons (.refl _) (.cons (.refl _) .nil)) ?_
    refine r_ret ?_
    refine w_end (x := .tup [.sl .no 1 (x3.map cI), .v (.int .i64 0)]) (f := fun r => .tup [.sl .no 1 (r.1.map cI), .v (.int .i64 r.2)]) (.inr rfl) ?_ (.refl _) (Option.some.inj hM) hS
    exact (res_two (res_tmp (x := .sl .no 1 (x3.map cI)) rfl) (res_tmp (x := .v (.int .i64 0)) rfl))
theorem W_pulses_Read {n : Nat} {a0 : Pulse} {r : (List Int) × Int} (hM : pulses_Read n a0 = some r) : PureSat Try.prog 29 [.agg [.v (.int .i64 a0.Letters), .v (.int .i64 a0.Numbers), .v (.int .i64 a0.Pitch), .v (.int .i64 a0.Slack), .v (.int .i64 a0.Gap), .v (.int .i64 a0.Pause), .v (.int .i64 a0.Sparks), .sl .no 1 (a0.Times.map cI)]] (.tup [.sl .no 1 (r.1.map cI), .v (.int .i64 r.2)]) := by
  refine pure_of_wp mixed Try.func29 rfl (by decide) Try.ntmps29 (by simp) ?pure fun H0 g hf => ?_
  case pure => exact .tup _ (pl_cons (.sl _ _ (pures_map (fun x => (pl_cons (.v _) pl_nil)))) (pl_cons (.v _) pl_nil))
  rw [frame0_of]
  change wpA _ _ _ _ (Fr.of [(0, .agg [.v (.int .i64 a0.Letters), .v (.int .i64 a0.Numbers), .v (.int .i64 a0.Pitch), .v (.int .i64 a0.Slack), .v (.int .i64 a0.Gap), .v (.int .i64 a0.Pause), .v (.int .i64 a0.Sparks), .sl .no 1 (a0.Times.map cI)])]) H0 g
  have hS := St.start hf
  refine r_seq ?_
  refine r_region (n := 3) rfl ?_
  refine o_box (v := .agg [.v (.int .i64 a0.Letters), .v (.int .i64 a0.Numbers), .v (.int .i64 a0.Pitch), .v (.int .i64 a0.Slack), .v (.int .i64 a0.Gap), .v (.int .i64 a0.Pause), .v (.int .i64 a0.Sparks), .sl .no 1 (a0.Times.map cI)]) (cs := [.v (.int .i64 a0.Letters), .v (.int .i64 a0.Numbers), .v (.int .i64 a0.Pitch), .v (.int .i64 a0.Slack), .v (.int .i64 a0.Gap), .v (.int .i64 a0.Pause), .v (.int .i64 a0.Sparks), .sl .no 1 (a0.Times.map cI)]) hS (by decide) rfl rfl (by omega) fun H hS => ?_
  refine o_assign (v := .sl .nil 0 []) (by decide) rfl ?_
  refine o_assign (v := .v (.int .i64 0)) (by decide) rfl ?_
  refine run_nil ?_
  refine w_next [(1, .ptr (g + 0) 0)] (.cons (.refl _) .nil) ?_
  refine r_seq ?_
  refine r_region (n := 7) rfl ?_
  refine o_load (v := .agg [.v (.int .i64 a0.Letters), .v (.int .i64 a0.Numbers), .v (.int .i64 a0.Pitch), .v (.int .i64 a0.Slack), .v (.int .i64 a0.Gap), .v (.int .i64 a0.Pause), .v (.int .i64 a0.Sparks), .sl .no 1 (a0.Times.map cI)]) 0 hS (by decide) rfl rfl .no (part_agg ty_agg24 (Nat.le_of_ble_eq_true rfl) rfl) ?_
  obtain ⟨r1, hr1, hM⟩ := bindE hM
  refine o_call (bs := [.agg [.v (.int .i64 a0.Letters), .v (.int .i64 a0.Numbers), .v (.int .i64 a0.Pitch), .v (.int .i64 a0.Slack), .v (.int .i64 a0.Gap), .v (.int .i64 a0.Pause), .v (.int .i64 a0.Sparks), .sl .no 1 (a0.Times.map cI)], .fn (.func 62) [] []]) (by decide) rfl rfl (pure_of_hsat ((W_pulses_open (Lo := (fun (_ : Unit) => []))  (fun _ _ => kl_nil) (fun _ => List.nodup_nil) (fun _ => inb_nil) (aF := (fun (x0 : Train_) (_ : Unit) => (pulses_anything x0).map fun y => (y, ()))) (fun _ _ _ => .fn _ _ _ ai_nil ai_nil) rfl (fun h => csat_pure (W_pulses_anything (pure_some h))) hr1).le (.cons (.refl _) (.cons (.refl _) .nil)))) ?_
  refine o_move (v := .tup [.sl .no 2 (r1.1.1.map Reading_.cells), .v (.int .i64 r1.1.2)]) (by decide) rfl ?_
  refine o_extract (v := .sl .no 2 (r1.1.1.map Reading_.cells)) (by decide) rfl rfl ?_
  refine o_extract (v := .v (.int .i64 r1.1.2)) (by decide) rfl rfl ?_
  refine o_assign (v := .sl .no 2 (r1.1.1.map Reading_.cells)) (by decide) rfl ?_
  refine o_assign (v := .v (.int .i64 r1.1.2)) (by decide) rfl ?_
  refine run_nil ?_
  replace hS := hS.keep (L' := []) [false] rfl
  refine w_next [(4, .sl .no 2 (r1.1.1.map Reading_.cells)), (5, .v (.int .i64 r1.1.2))] (.cons (.refl _) (.cons (.refl _) .nil)) ?_
  refine r_seq ?_
  refine r_seq ?_
  refine r_region (n := 2) rfl ?_
  refine o_move (v := .v (.int .i64 r1.1.2)) (by decide) rfl ?_
  refine o_int (v := .v (.bool (r1.1.2 != 0))) (by decide) rfl rfl rfl ?_
  refine run_nil ?_
  refine w_next [(4, .sl .no 2 (r1.1.1.map Reading_.cells)), (5, .v (.int .i64 r1.1.2)), (12, .v (.bool (r1.1.2 != 0)))] (.cons (.refl _) (.cons (.refl _) (.cons (.refl _) .nil))) ?_
  rcases Bool.eq_false_or_eq_true (r1.1.2 != 0) with hb2 | hb2
  · replace hM := ifT hM hb2
    refine w_condT (e := (r1.1.2 != 0)) rfl hb2 ?_
    refine r_seq ?_
    refine r_region (n := 3) rfl ?_
    refine o_move (v := .v (.int .i64 r1.1.2)) (by decide) rfl ?_
    refine o_assign (v := .sl .nil 0 []) (by decide) rfl ?_
    refine o_assign (v := .v (.int .i64 r1.1.2)) (by decide) rfl ?_
    refine run_nil ?_
    refine w_next [(2, .sl .nil 0 []), (3, .v (.int .i64 r1.1.2))] (.cons (.refl _) (.cons (.refl _) .nil)) ?_
    refine r_ret ?_
    refine r_then_ret ?_
    refine w_end (x := .tup [.sl .nil 0 [], .v (.int .i64 r1.1.2)]) (f := fun r => .tup [.sl .no 1 (r.1.map cI), .v (.int .i64 r.2)]) (.inr rfl) ?_ (.tupL (.cons (.sl0 .nil 1 0) (.cons (.refl _) .nil))) (Option.some.inj hM) hS
    exact (res_two (res_tmp (x := .sl .nil 0 []) rfl) (res_tmp (x := .v (.int .i64 r1.1.2)) rfl))
  · replace hM := ifF hM hb2
    refine w_condF (e := (r1.1.2 != 0)) rfl hb2 ?_
    refine r_skip ?_
    refine w_next [(4, .sl .no 2 (r1.1.1.map Reading_.cells))] (.cons (.refl _) .nil) ?_
    refine r_seq ?_
    refine r_region (n := 6) rfl ?_
    refine o_move (v := .sl .no 2 (r1.1.1.map Reading_.cells)) (by decide) rfl ?_
    obtain ⟨r3, hr3, hM⟩ := bindE hM
    refine o_call (bs := [.sl .no 2 (r1.1.1.map Reading_.cells)]) (by decide) rfl rfl ((W_pulses_one hr3).le (.cons (.refl _) .nil)) ?_
    refine o_extract (v := .sl .no 1 (r3.1.map cI)) (by decide) rfl rfl ?_
    refine o_extract (v := .v (.int .i64 r3.2)) (by decide) rfl rfl ?_
    refine o_assign (v := .sl .no 1 (r3.1.map cI)) (by decide) rfl ?_
    refine o_assign (v := .v (.int .i64 r3.2)) (by decide) rfl ?_
    refine run_nil ?_
    refine w_next [(2, .sl .no 1 (r3.1.map cI)), (3, .v (.int .i64 r3.2))] (.cons (.refl _) (.cons (.refl _) .nil)) ?_
    refine r_ret ?_
    refine w_end (x := .tup [.sl .no 1 (r3.1.map cI), .v (.int .i64 r3.2)]) (f := fun r => .tup [.sl .no 1 (r.1.map cI), .v (.int .i64 r.2)]) (.inr rfl) ?_ (.refl _) (Option.some.inj hM) hS
    exact (res_two (res_tmp (x := .sl .no 1 (r3.1.map cI)) rfl) (res_tmp (x := .v (.int .i64 r3.2)) rfl))
theorem W_pulses_Asked_c1 {p1 : Nat} (hnd : [p1].Nodup) {a0 : Train_} {a1 : Int} {r : Bool} (hM : pulses_Asked_c1 a0 a1 = some r) : HSat Try.prog 68 [.agg [.v (.int .i64 a0.Pulse.Letters), .v (.int .i64 a0.Pulse.Numbers), .v (.int .i64 a0.Pulse.Pitch), .v (.int .i64 a0.Pulse.Slack), .v (.int .i64 a0.Pulse.Gap), .v (.int .i64 a0.Pulse.Pause), .v (.int .i64 a0.Pulse.Sparks), .sl .no 1 (a0.Pulse.Times.map cI)], .ptr p1 0] [(p1, .cells [.v (.int .i64 a1)])] (.v (.bool r)) [(p1, .cells [.v (.int .i64 a1)])] := by
  refine hsat_of_wp mixed Try.func68 rfl (by decide) Try.ntmps68 (by simp) (kl_cells kl_nil) hnd ?pure ?cells fun H0 g hf_ hp => ?_
  case pure => exact fun H _ => (show Go.AM.Pure _ from .v _).inH
  case cells => exact (inb_st (ic_cells (ci_cons (.inl (.inl (.v _))) ci_nil) ic_nil) inb_nil)
  rw [frame0_of]
  change wpA _ _ _ _ (Fr.of [(0, .agg [.v (.int .i64 a0.Pulse.Letters), .v (.int .i64 a0.Pulse.Numbers), .v (.int .i64 a0.Pulse.Pitch), .v (.int .i64 a0.Pulse.Slack), .v (.int .i64 a0.Pulse.Gap), .v (.int .i64 a0.Pulse.Pause), .v (.int .i64 a0.Pulse.Sparks), .sl .no 1 (a0.Pulse.Times.map cI)]), (1, .ptr p1 0)]) H0 g
  have hS := St.startH (L := [(p1, .cells [.v (.int .i64 a1)])]) hf_ hnd hp
  replace hS : St (fun i => i < g ∧ i ∉ ids [(p1, .cells [.v (.int .i64 a1)])]) H0 [(p1, .cells [.v (.int .i64 a1)])] H0 g := hS
  refine r_seq ?_
  refine r_region (n := 2) rfl ?_
  refine o_box (v := .agg [.v (.int .i64 a0.Pulse.Letters), .v (.int .i64 a0.Pulse.Numbers), .v (.int .i64 a0.Pulse.Pitch), .v (.int .i64 a0.Pulse.Slack), .v (.int .i64 a0.Pulse.Gap), .v (.int .i64 a0.Pulse.Pause), .v (.int .i64 a0.Pulse.Sparks), .sl .no 1 (a0.Pulse.Times.map cI)]) (cs := [.v (.int .i64 a0.Pulse.Letters), .v (.int .i64 a0.Pulse.Numbers), .v (.int .i64 a0.Pulse.Pitch), .v (.int .i64 a0.Pulse.Slack), .v (.int .i64 a0.Pulse.Gap), .v (.int .i64 a0.Pulse.Pause), .v (.int .i64 a0.Pulse.Sparks), .sl .no 1 (a0.Pulse.Times.map cI)]) hS (by decide) rfl rfl (by omega) fun H hS => ?_
  refine o_assign (v := .v (.bool false)) (by decide) rfl ?_
  refine run_nil ?_
  refine w_next [(1, .ptr p1 0), (2, .ptr (g + 0) 0)] (.cons (.refl _) (.cons (.refl _) .nil)) ?_
  refine r_seq ?_
  refine r_region (n := 4) rfl ?_
  refine o_load (v := .agg [.v (.int .i64 a0.Pulse.Letters), .v (.int .i64 a0.Pulse.Numbers), .v (.int .i64 a0.Pulse.Pitch), .v (.int .i64 a0.Pulse.Slack), .v (.int .i64 a0.Pulse.Gap), .v (.int .i64 a0.Pulse.Pause), .v (.int .i64 a0.Pulse.Sparks), .sl .no 1 (a0.Pulse.Times.map cI)]) 0 hS (by decide) rfl rfl .no (part_agg ty_agg62 (Nat.le_of_ble_eq_true rfl) rfl) ?_
  refine o_load (v := .v (.int .i64 a1)) 1 hS (by decide) rfl rfl .no (part_one ty_agg3 ty_sc3 rfl) ?_
  obtain ⟨r1, hr1, hM⟩ := bindE hM
  refine o_call (bs := [.agg [.v (.int .i64 a0.Pulse.Letters), .v (.int .i64 a0.Pulse.Numbers), .v (.int .i64 a0.Pulse.Pitch), .v (.int .i64 a0.Pulse.Slack), .v (.int .i64 a0.Pulse.Gap), .v (.int .i64 a0.Pulse.Pause), .v (.int .i64 a0.Pulse.Sparks), .sl .no 1 (a0.Pulse.Times.map cI)], .v (.int .i64 a1)]) (by decide) rfl rfl ((W_pulses_train_isSelection hr1).le (.cons (.refl _) (.cons (.refl _) .nil))) ?_
  refine o_assign (v := .v (.bool r1)) (by decide) rfl ?_
  refine run_nil ?_
  replace hS := hS.keep (L' := [(p1, .cells [.v (.int .i64 a1)])]) [false, true] rfl
  refine w_next [(3, .v (.bool r1))] (.cons (.refl _) .nil) ?_
  refine r_ret ?_
  refine w_endS (x := .v (.bool r1)) (f := fun r => .v (.bool r)) (fd := fun r => [(p1, .cells [.v (.int .i64 a1)])]) (.inr rfl) ?_ (.refl _) (Option.some.inj hM) hS 0 rfl
  exact (res_one (res_tmp (x := .v (.bool r1)) rfl))
theorem W_pulses_count_int {S : Type} {Lo : S → BL} (hk : ∀ s s', KinL (Lo s) (Lo s')) (hnd : ∀ s, (ids (Lo s)).Nodup) (hin : ∀ s, InB In (Lo s)) {aF : Int → S → Option (Bool × S)} {f0 : AV} (hF : ∀ s H, Has H (Lo s) → In H f0) (h0 : cellsOf f0 = some [f0]) (hf : ∀ {x0 : Int} {s : S} {r : Bool × S}, aF x0 s = some r → CSat Try.prog f0 [.v (.int .i64 x0)] (Lo s) (.v (.bool r.1)) (Lo r.2)) {n : Nat} {a0 : List Int} {st : S} {r : Int × S} (hM : pulses_count_int n aF a0 st = some r) : HSat Try.prog 69 [.sl .no 1 (a0.map cI), f0] (Lo st) (.v (.int .i64 r.1)) (Lo r.2) := by
  have hnd0 : ∀ s, (ids (Lo s)).Nodup := fun s => hnd s
  refine hsat_of_wp mixed Try.func69 rfl (by decide) Try.ntmps69 (by simp) (hk _ _) (hnd st) ?pure ?cells fun H0 g hf_ hp => ?_
  case pure => exact fun H _ => (show Go.AM.Pure _ from .v _).inH
  case cells => exact hin _
  rw [frame0_of]
  change wpA _ _ _ _ (Fr.of [(0, .sl .no 1 (a0.map cI)), (1, f0)]) H0 g
  have hS := St.startH (L := ([] ++ Lo st)) hf_ (hnd st) hp
  replace hS : St (fun i => i < g ∧ i ∉ ids (Lo st)) H0 ([] ++ Lo st) H0 g := hS
  refine r_seq ?_
  refine r_region (n := 1) rfl ?_
  refine o_assign (v := .v (.int .i64 0)) (by decide) rfl ?_
  refine run_nil ?_
  refine w_next [(0, .sl .no 1 (a0.map cI)), (1, f0)] (.cons (.refl _) (.cons (.refl _) .nil)) ?_
  refine r_seq ?_
  refine r_region (n := 1) rfl ?_
  refine o_assign (v := .v (.int .i64 0)) (by decide) rfl ?_
  refine run_nil ?_
  refine w_next [(0, .sl .no 1 (a0.map cI)), (1, f0), (5, .v (.int .i64 0))] (.cons (.refl _) (.cons (.refl _) (.cons (.refl _) .nil))) ?_
  refine w_join (J := Int × S) (fun j => [(5, .v (.int .i64 j.1))]) (fun j H' g' => St (fun i => i < g ∧ i ∉ ids (Lo st)) H0 ([] ++ Lo j.2) H' g' ∧ pulses_count_int_j1 j.1 j.2 = some r) ?_ ?_
  · rintro ⟨v1, v2⟩ H g1 ⟨hS, hM⟩
    change wpA _ _ _ _ (Fr.of [(5, .v (.int .i64 v1))]) _ _
    replace hS : St (fun i => i < g ∧ i ∉ ids (Lo st)) H0 ([] ++ Lo v2) H g1 := hS
    replace hM : pulses_count_int_j1 v1 v2 = some r := hM
    refine r_seq ?_
    refine r_region (n := 2) rfl ?_
    refine o_move (v := .v (.int .i64 v1)) (by decide) rfl ?_
    refine o_assign (v := .v (.int .i64 v1)) (by decide) rfl ?_
    refine run_nil ?_
    refine w_next [(4, .v (.int .i64 v1))] (.cons (.refl _) .nil) ?_
    refine r_ret ?_
    refine w_endS (x := .v (.int .i64 v1)) (f := fun r => .v (.int .i64 r.1)) (fd := fun r => (Lo r.2)) (.inr rfl) ?_ (.refl _) (Option.some.inj hM) hS 0 rfl
    exact (res_one (res_tmp (x := .v (.int .i64 v1)) rfl))
  · refine r_seq ?_
    refine r_region (n := 3) rfl ?_
    refine o_move (v := .sl .no 1 (a0.map cI)) (by decide) rfl ?_
    refine o_len (n := a0.length) (by decide) rfl (List.length_map _) ty_isl22 ?_
    refine o_move (v := .v (.int .i64 0)) (by decide) rfl ?_
    refine run_nil ?_
    refine w_next [(1, f0), (5, .v (.int .i64 0)), (8, .sl .no 1 (a0.map cI)), (9, .v (.int .i64 (a0.length : Int))), (10, .v (.int .i64 0))] (.cons (.refl _) (.cons (.refl _) (.cons (.refl _) (.cons (.refl _) (.cons (.refl _) .nil))))) ?_
    refine r_block ?_
    refine w_loop (V := Int × Int × S) (fun v => [(1, f0), (5, .v (.int .i64 v.1)), (8, .sl .no 1 (a0.map cI)), (9, .v (.int .i64 (a0.length : Int))), (10, .v (.int .i64 v.2.1))]) (fun v m3 H' g' => St (fun i => i < g ∧ i ∉ ids (Lo st)) H0 ([] ++ Lo v.2.2) H' g' ∧ pulses_count_int_l1 a0 aF m3 v.1 v.2.1 v.2.2 = some r) (n := n) (0, 0, st) (.cons (.refl _) (.cons (.refl _) (.cons (.refl _) (.cons (.refl _) (.cons (.refl _) .nil))))) ⟨(hS.keep [] rfl).up (by omega), hM⟩ ?_
    rintro ⟨v5, v6, v7⟩ m3 H g3 ⟨hS, hM⟩
    obtain _ | m3 := m3
    · exact nomatch (show none = some _ from hM)
    change wpA _ _ _ _ (Fr.of [(1, f0), (5, .v (.int .i64 v5)), (8, .sl .no 1 (a0.map cI)), (9, .v (.int .i64 (a0.length : Int))), (10, .v (.int .i64 v6))]) _ _
    replace hS : St (fun i => i < g ∧ i ∉ ids (Lo st)) H0 ([] ++ Lo v7) H g3 := hS
    replace hM : pulses_count_int_l1_b a0 aF (pulses_count_int_l1 a0 aF m3) v5 v6 v7 = some r := hM
    refine r_seq ?_
    refine r_region (n := 1) rfl ?_
    refine o_int (v := .v (.bool (decide (v6 < (a0.length : Int))))) (by decide) rfl rfl rfl ?_
    refine run_nil ?_
    refine w_next [(1, f0), (5, .v (.int .i64 v5)), (8, .sl .no 1 (a0.map cI)), (9, .v (.int .i64 (a0.length : Int))), (10, .v (.int .i64 v6)), (11, .v (.bool (decide (v6 < (a0.length : Int)))))] (.cons (.refl _) (.cons (.refl _) (.cons (.refl _) (.cons (.refl _) (.cons (.refl _) (.cons (.refl _) .nil)))))) ?_
    refine r_seq ?_
    rcases Bool.eq_false_or_eq_true (decide (v6 < (a0.length : Int))) with hb8 | hb8
    · replace hM := ifT hM hb8
      refine w_condT (e := (decide (v6 < (a0.length : Int)))) rfl hb8 ?_
      refine r_skip ?_
      refine w_next [(1, f0), (5, .v (.int .i64 v5)), (8, .sl .no 1 (a0.map cI)), (9, .v (.int .i64 (a0.length : Int))), (10, .v (.int .i64 v6))] (.cons (.refl _) (.cons (.refl _) (.cons (.refl _) (.cons (.refl _) (.cons (.refl _) .nil))))) ?_
      refine w_join (J := Int × S) (fun j => [(1, f0), (5, .v (.int .i64 j.1)), (8, .sl .no 1 (a0.map cI)), (9, .v (.int .i64 (a0.length : Int))), (10, .v (.int .i64 v6))]) (fun j H' g' => St (fun i => i < g ∧ i ∉ ids (Lo st)) H0 ([] ++ Lo j.2) H' g' ∧ pulses_count_int_j2 (pulses_count_int_l1 a0 aF m3) v6 j.1 j.2 = some r) ?_ ?_
      · rintro ⟨v9, v10⟩ H g4 ⟨hS, hM⟩
        change wpA _ _ _ _ (Fr.of [(1, f0), (5, .v (.int .i64 v9)), (8, .sl .no 1 (a0.map cI)), (9, .v (.int .i64 (a0.length : Int))), (10, .v (.int .i64 v6))]) _ _
        replace hS : St (fun i => i < g ∧ i ∉ ids (Lo st)) H0 ([] ++ Lo v10) H g4 := hS
        replace hM : pulses_count_int_j2 (pulses_count_int_l1 a0 aF m3) v6 v9 v10 = some r := hM
        refine r_region (n := 2) rfl ?_
        refine o_int (v := .v (.int .i64 (w64 (v6 + 1)))) (by decide) rfl rfl rfl ?_
        refine o_move (v := .v (.int .i64 (w64 (v6 + 1)))) (by decide) rfl ?_
        refine run_nil ?_
        exact w_round (v9, w64 (v6 + 1), v10) (Nat.lt_succ_self _) (.cons (.refl _) (.cons (.refl _) (.cons (.refl _) (.cons (.refl _) (.cons (.refl _) .nil))))) ⟨(hS.keep [] rfl).up (by omega), hM⟩
      · refine r_block ?_
        refine r_seq ?_
        refine r_region (n := 3) rfl ?_
        obtain ⟨x11, hx11, hM⟩ := bindE hM
        refine o_index (xs := a0) (f := cI) (z := v6) (u := x11) (by decide) rfl rfl ty_es22 hx11 ?_
        refine o_loadE (v := .v (.int .i64 x11)) (by decide) rfl (part_one ty_agg3 ty_sc3 rfl) ?_
        refine o_assign (v := .v (.int .i64 x11)) (by decide) rfl ?_
        refine run_nil ?_
        refine w_next [(1, f0), (5, .v (.int .i64 v5)), (7, .v (.int .i64 x11)), (8, .sl .no 1 (a0.map cI)), (9, .v (.int .i64 (a0.length : Int))), (10, .v (.int .i64 v6))] (.cons (.refl _) (.cons (.refl _) (.cons (.refl _) (.cons (.refl _) (.cons (.refl _) (.cons (.refl _) .nil)))))) ?_
        refine r_seq ?_
        refine r_region (n := 3) rfl ?_
        refine o_move (v := f0) (by decide) rfl ?_
        refine o_move (v := .v (.int .i64 x11)) (by decide) rfl ?_
        obtain ⟨r12, hr12, hM⟩ := bindE hM
        replace hS : St (fun i => i < g ∧ i ∉ ids (Lo st)) H0 ([] ++ Lo v7) _ _ := hS
        refine o_state (bs := [.v (.int .i64 x11)]) (.inl rfl) hS (by decide) rfl rfl ((hf hr12).le (.cons (.refl _) .nil)) (hk _ _).ids (by omega) fun H hS => ?_
        refine run_nil ?_
        refine w_next [(1, f0), (5, .v (.int .i64 v5)), (8, .sl .no 1 (a0.map cI)), (9, .v (.int .i64 (a0.length : Int))), (10, .v (.int .i64 v6)), (16, .v (.bool r12.1))] (.cons (.refl _) (.cons (.refl _) (.cons (.refl _) (.cons (.refl _) (.cons (.refl _) (.cons (.refl _) .nil)))))) ?_
        rcases Bool.eq_false_or_eq_true r12.1 with hb13 | hb13
        · replace hM := ifT hM hb13
          refine w_condT (e := r12.1) rfl hb13 ?_
          refine r_region (n := 3) rfl ?_
          refine o_move (v := .v (.int .i64 v5)) (by decide) rfl ?_
          refine o_int (v := .v (.int .i64 (w64 (v5 + 1)))) (by decide) rfl rfl rfl ?_
          refine o_assign (v := .v (.int .i64 (w64 (v5 + 1)))) (by decide) rfl ?_
          refine run_nil ?_
          refine r_blk_normal ?_
          exact w_goto (w64 (v5 + 1), r12.2) (.cons (.refl _) (.cons (.refl _) (.cons (.refl _) (.cons (.refl _) (.cons (.refl _) .nil))))) ⟨(hS.keep [] rfl).up (by omega), hM⟩
        · replace hM := ifF hM hb13
          refine w_condF (e := r12.1) rfl hb13 ?_
          refine r_skip ?_
          refine r_blk_normal ?_
          exact w_goto (v5, r12.2) (.cons (.refl _) (.cons (.refl _) (.cons (.refl _) (.cons (.refl _) (.cons (.refl _) .nil))))) ⟨(hS.keep [] rfl).up (by omega), hM⟩
    · replace hM := ifF hM hb8
      refine w_condF (e := (decide (v6 < (a0.length : Int)))) rfl hb8 ?_
      refine r_exit ?_
      refine r_then_exit ?_
      refine w_round_exit ?_
      refine r_blk_exit ?_
      exact w_goto (v5, v7) (.cons (.refl _) .nil) ⟨(hS.keep [] rfl).up (by omega), hM⟩
theorem W_pulses_Asked_c2 {p1 : Nat} (hnd : [p1].Nodup) {a0 : Int} {a1 : Int} {r : Bool} (hM : pulses_Asked_c2 a0 a1 = some r) : HSat Try.prog 70 [.v (.int .i64 a0), .ptr p1 0] [(p1, .cells [.v (.int .i64 a1)])] (.v (.bool r)) [(p1, .cells [.v (.int .i64 a1)])] := by
  refine hsat_of_wp mixed Try.func70 rfl (by decide) Try.ntmps70 (by simp) (kl_cells kl_nil) hnd ?pure ?cells fun H0 g hf_ hp => ?_
  case pure => exact fun H _ => (show Go.AM.Pure _ from .v _).inH
  case cells => exact (inb_st (ic_cells (ci_cons (.inl (.inl (.v _))) ci_nil) ic_nil) inb_nil)
  rw [frame0_of]
  change wpA _ _ _ _ (Fr.of [(0, .v (.int .i64 a0)), (1, .ptr p1 0)]) H0 g
  have hS := St.startH (L := [(p1, .cells [.v (.int .i64 a1)])]) hf_ hnd hp
  replace hS : St (fun i => i < g ∧ i ∉ ids [(p1, .cells [.v (.int .i64 a1)])]) H0 [(p1, .cells [.v (.int .i64 a1)])] H0 g := hS
  refine r_seq ?_
  refine r_region (n := 1) rfl ?_
  refine o_assign (v := .v (.bool false)) (by decide) rfl ?_
  refine run_nil ?_
  refine w_next [(0, .v (.int .i64 a0)), (1, .ptr p1 0)] (.cons (.refl _) (.cons (.refl _) .nil)) ?_
  refine r_seq ?_
  refine r_region (n := 4) rfl ?_
  refine o_move (v := .v (.int .i64 a0)) (by decide) rfl ?_
  refine o_load (v := .v (.int .i64 a1)) 0 hS (by decide) rfl rfl .no (part_one ty_agg3 ty_sc3 rfl) ?_
  refine o_int (v := .v (.bool (a0 == a1))) (by decide) rfl rfl rfl ?_
  refine o_assign (v := .v (.bool (a0 == a1))) (by decide) rfl ?_
  refine run_nil ?_
  refine w_next [(3, .v (.bool (a0 == a1)))] (.cons (.refl _) .nil) ?_
  refine r_ret ?_
  refine w_endS (x := .v (.bool (a0 == a1))) (f := fun r => .v (.bool r)) (fd := fun r => [(p1, .cells [.v (.int .i64 a1)])]) (.inr rfl) ?_ (.refl _) (Option.some.inj hM) hS 0 rfl
  exact (res_one (res_tmp (x := .v (.bool (a0 == a1))) rfl))
theorem W_pulses_Asked {n : Nat} {a0 : Pulse} {a1 : Int} {r : Span × Int} (hM : pulses_Asked n a0 a1 = some r) : PureSat Try.prog 37 [.agg [.v (.int .i64 a0.Letters), .v (.int .i64 a0.Numbers), .v (.int .i64 a0.Pitch), .v (.int .i64 a0.Slack), .v (.int .i64 a0.Gap), .v (.int .i64 a0.Pause), .v (.int .i64 a0.Sparks), .sl .no 1 (a0.Times.map cI)], .v (.int .i64 a1)] (.tup [.agg [.v (.int .i64 r.1.Low), .v (.int .i64 r.1.High)], .v (.int .i64 r.2)]) := by
  refine pure_of_wp mixed Try.func37 rfl (by decide) Try.ntmps37 (by simp) ?pure fun H0 g hf => ?_
  case pure => exact .tup _ (pl_cons (.agg _ (pl_cons (.v _) (pl_cons (.v _) pl_nil))) (pl_cons (.v _) pl_nil))
  rw [frame0_of]
  change wpA _ _ _ _ (Fr.of [(0, .agg [.v (.int .i64 a0.Letters), .v (.int .i64 a0.Numbers), .v (.int .i64 a0.Pitch), .v (.int .i64 a0.Slack), .v (.int .i64 a0.Gap), .v (.int .i64 a0.Pause), .v (.int .i64 a0.Sparks), .sl .no 1 (a0.Times.map cI)]), (1, .v (.int .i64 a1))]) H0 g
  have hS := St.start hf
  refine r_seq ?_
  refine r_region (n := 4) rfl ?_
  refine o_box (v := .agg [.v (.int .i64 a0.Letters), .v (.int .i64 a0.Numbers), .v (.int .i64 a0.Pitch), .v (.int .i64 a0.Slack), .v (.int .i64 a0.Gap), .v (.int .i64 a0.Pause), .v (.int .i64 a0.Sparks), .sl .no 1 (a0.Times.map cI)]) (cs := [.v (.int .i64 a0.Letters), .v (.int .i64 a0.Numbers), .v (.int .i64 a0.Pitch), .v (.int .i64 a0.Slack), .v (.int .i64 a0.Gap), .v (.int .i64 a0.Pause), .v (.int .i64 a0.Sparks), .sl .no 1 (a0.Times.map cI)]) hS (by decide) rfl rfl (by omega) fun H hS => ?_
  refine o_box (v := .v (.int .i64 a1)) (cs := [.v (.int .i64 a1)]) hS (by decide) rfl rfl (by omega) fun H hS => ?_
  refine o_alloc hS (by decide) ty_zero44 (by omega) fun H hS => ?_
  refine o_assign (v := .v (.int .i64 0)) (by decide) rfl ?_
  refine run_nil ?_
  refine w_next [(2, .ptr (g + 0) 0), (3, .ptr (g + 1) 0), (4, .ptr (g + 2) 0)] (.cons (.refl _) (.cons (.refl _) (.cons (.refl _) .nil))) ?_
  refine r_seq ?_
  refine r_region (n := 8) rfl ?_
  refine o_load (v := .agg [.v (.int .i64 a0.Letters), .v (.int .i64 a0.Numbers), .v (.int .i64 a0.Pitch), .v (.int .i64 a0.Slack), .v (.int .i64 a0.Gap), .v (.int .i64 a0.Pause), .v (.int .i64 a0.Sparks), .sl .no 1 (a0.Times.map cI)]) 2 hS (by decide) rfl rfl .no (part_agg ty_agg24 (Nat.le_of_ble_eq_true rfl) rfl) ?_
  refine o_makeFunc (first := []) (cap := [.ptr (g + 1) 0]) (by decide) rfl rfl ?_
  obtain ⟨r1, hr1, hM⟩ := bindE hM
  have hndr1 := hS.nd_at (ns := [1]) (M := [(g + 1, .cells [.v (.int .i64 a1)])]) (M' := [(g + 1, .cells [.v (.int .i64 a1)])]) (.cons rfl .nil) (by decide)
  have hncr1 := hS.nd_at (ns := [1]) (M := [(g + 1, .cells [.v (.int .i64 a1)])]) (M' := [(g + 1, .cells [.v (.int .i64 a1)])]) (.cons rfl .nil) (by decide)
  refine o_hsat (bs := [.agg [.v (.int .i64 a0.Letters), .v (.int .i64 a0.Numbers), .v (.int .i64 a0.Pitch), .v (.int .i64 a0.Slack), .v (.int .i64 a0.Gap), .v (.int .i64 a0.Pause), .v (.int .i64 a0.Sparks), .sl .no 1 (a0.Times.map cI)], .fn (.func 68) [] [.ptr (g + 1) 0]]) (M := [(g + 1, .cells [.v (.int .i64 a1)])]) (M' := [(g + 1, .cells [.v (.int .i64 a1)])]) (L' := [(g + 2, .cells [.v (.int .i64 0), .v (.int .i64 0)]), (g + 1, .cells [.v (.int .i64 a1)]), (g + 0, .cells [.v (.int .i64 a0.Letters), .v (.int .i64 a0.Numbers), .v (.int .i64 a0.Pitch), .v (.int .i64 a0.Slack), .v (.int .i64 a0.Gap), .v (.int .i64 a0.Pause), .v (.int .i64 a0.Sparks), .sl .no 1 (a0.Times.map cI)])]) [1] (.inl rfl) hS (by decide) rfl rfl ((W_pulses_open (Lo := (fun (_ : Unit) => [(g + 1, .cells [.v (.int .i64 a1)])]))  (fun _ _ => (kl_cells kl_nil)) (fun _ => hndr1) (fun s => (inb_st (ic_cells (ci_cons (.inl (.inl (.v _))) ci_nil) ic_nil) inb_nil)) (aF := (fun (x0 : Train_) (_ : Unit) => (pulses_Asked_c1 x0 a1).map fun y => (y, ()))) (fun s H hH => .fn _ _ _ ai_nil (ai_cons (in_ptr hH 0 rfl) ai_nil)) rfl (fun h => csat_cap (W_pulses_Asked_c1 (p1 := g + 1)  hncr1 (pure_some h))) hr1).le (.cons (.refl _) (.cons (.refl _) .nil))) (.cons rfl .nil) rfl (by omega) fun H hS => ?_
  refine o_move (v := .tup [.sl .no 2 (r1.1.1.map Reading_.cells), .v (.int .i64 r1.1.2)]) (by decide) rfl ?_
  refine o_extract (v := .sl .no 2 (r1.1.1.map Reading_.cells)) (by decide) rfl rfl ?_
  refine o_extract (v := .v (.int .i64 r1.1.2)) (by decide) rfl rfl ?_
  refine o_assign (v := .sl .no 2 (r1.1.1.map Reading_.cells)) (by decide) rfl ?_
  refine o_assign (v := .v (.int .i64 r1.1.2)) (by decide) rfl ?_
  refine run_nil ?_
  replace hS := hS.keep (L' := [(g + 2, .cells [.v (.int .i64 0), .v (.int .i64 0)]), (g + 1, .cells [.v (.int .i64 a1)])]) [true, true, false] rfl
  refine w_next [(3, .ptr (g + 1) 0), (4, .ptr (g + 2) 0), (6, .sl .no 2 (r1.1.1.map Reading_.cells)), (7, .v (.int .i64 r1.1.2))] (.cons (.refl _) (.cons (.refl _) (.cons (.refl _) (.cons (.refl _) .nil)))) ?_
  refine r_seq ?_
  refine r_seq ?_
  refine r_region (n := 2) rfl ?_
  refine o_move (v := .v (.int .i64 r1.1.2)) (by decide) rfl ?_
  refine o_int (v := .v (.bool (r1.1.2 != 0))) (by decide) rfl rfl rfl ?_
  refine run_nil ?_
  refine w_next [(3, .ptr (g + 1) 0), (4, .ptr (g + 2) 0), (6, .sl .no 2 (r1.1.1.map Reading_.cells)), (7, .v (.int .i64 r1.1.2)), (19, .v (.bool (r1.1.2 != 0)))] (.cons (.refl _) (.cons (.refl _) (.cons (.refl _) (.cons (.refl _) (.cons (.refl _) .nil))))) ?_
  rcases Bool.eq_false_or_eq_true (r1.1.2 != 0) with hb2 | hb2
  · replace hM := ifT hM hb2
    refine w_condT (e := (r1.1.2 != 0)) rfl hb2 ?_
    refine r_seq ?_
    refine r_region (n := 4) rfl ?_
    refine o_build (cs := [.v (.int .i64 0), .v (.int .i64 0)]) (by decide) ty_zero44 ty_pl44 rfl ?_
    refine o_move (v := .v (.int .i64 r1.1.2)) (by decide) rfl ?_
    refine o_store (v := .agg [.v (.int .i64 0), .v (.int .i64 0)]) (ns := [.v (.int .i64 0), .v (.int .i64 0)]) (L' := [(g + 2, .cells [.v (.int .i64 0), .v (.int .i64 0)]), (g + 1, .cells [.v (.int .i64 a1)])]) 0 hS rfl rfl .no rfl rfl ty_var44 (Nat.le_of_ble_eq_true rfl) rfl fun H hS => ?_
    refine o_assign (v := .v (.int .i64 r1.1.2)) (by decide) rfl ?_
    refine run_nil ?_
    replace hS := hS.keep (L' := [(g + 2, .cells [.v (.int .i64 0), .v (.int .i64 0)])]) [true, false] rfl
    refine w_next [(4, .ptr (g + 2) 0), (5, .v (.int .i64 r1.1.2))] (.cons (.refl _) (.cons (.refl _) .nil)) ?_
    refine r_ret ?_
    refine r_then_ret ?_
    refine w_end (x := .tup [.agg [.v (.int .i64 0), .v (.int .i64 0)], .v (.int .i64 r1.1.2)]) (f := fun r => .tup [.agg [.v (.int .i64 r.1.Low), .v (.int .i64 r.1.High)], .v (.int .i64 r.2)]) (.inr rfl) ?_ (.refl _) (Option.some.inj hM) hS
    exact (res_two (res_cell (x := .agg [.v (.int .i64 0), .v (.int .i64 0)]) 0 hS rfl rfl (part_agg ty_agg44 (Nat.le_of_ble_eq_true rfl) rfl)) (res_tmp (x := .v (.int .i64 r1.1.2)) rfl))
  · replace hM := ifF hM hb2
    refine w_condF (e := (r1.1.2 != 0)) rfl hb2 ?_
    refine r_skip ?_
    refine w_next [(3, .ptr (g + 1) 0), (4, .ptr (g + 2) 0), (6, .sl .no 2 (r1.1.1.map Reading_.cells))] (.cons (.refl _) (.cons (.refl _) (.cons (.refl _) .nil))) ?_
    refine r_seq ?_
    refine r_region (n := 3) rfl ?_
    refine o_build (cs := [.v (.int .i64 24), .v (.int .i64 0)]) (by decide) ty_zero44 ty_pl44 rfl ?_
    refine o_alloc hS (by decide) ty_zero44 (by omega) fun H hS => ?_
    refine o_store (v := .agg [.v (.int .i64 24), .v (.int .i64 0)]) (ns := [.v (.int .i64 24), .v (.int .i64 0)]) (L' := [(g + 4 + 8 + 2 + 1, .cells [.v (.int .i64 24), .v (.int .i64 0)]), (g + 2, .cells [.v (.int .i64 0), .v (.int .i64 0)]), (g + 1, .cells [.v (.int .i64 a1)])]) 0 hS rfl rfl .no rfl rfl ty_var44 (Nat.le_of_ble_eq_true rfl) rfl fun H hS => ?_
    refine run_nil ?_
    refine w_next [(3, .ptr (g + 1) 0), (4, .ptr (g + 2) 0), (6, .sl .no 2 (r1.1.1.map Reading_.cells)), (8, .ptr (g + 4 + 8 + 2 + 1) 0)] (.cons (.refl _) (.cons (.refl _) (.cons (.refl _) (.cons (.refl _) .nil)))) ?_
    refine w_join (J := Int × Int) (fun j => [(4, .ptr (g + 2) 0), (8, .ptr (g + 4 + 8 + 2 + 1) 0)]) (fun j H' g' => St (· < g) H0 [(g + 4 + 8 + 2 + 1, .cells [.v (.int .i64 j.1), .v (.int .i64 j.2)]), (g + 2, .cells [.v (.int .i64 0), .v (.int .i64 0)])] H' g' ∧ pulses_Asked_j1 j.1 j.2 = some r) ?_ ?_
    · rintro ⟨v3, v4⟩ H g1 ⟨hS, hM⟩
      change wpA _ _ _ _ (Fr.of [(4, .ptr (g + 2) 0), (8, .ptr (g + 4 + 8 + 2 + 1) 0)]) _ _
      replace hS : St (· < g) H0 [(g + 4 + 8 + 2 + 1, .cells [.v (.int .i64 v3), .v (.int .i64 v4)]), (g + 2, .cells [.v (.int .i64 0), .v (.int .i64 0)])] H g1 := hS
      replace hM : pulses_Asked_j1 v3 v4 = some r := hM
      refine r_seq ?_
      refine r_region (n := 3) rfl ?_
      refine o_load (v := .agg [.v (.int .i64 v3), .v (.int .i64 v4)]) 0 hS (by decide) rfl rfl .no (part_agg ty_agg44 (Nat.le_of_ble_eq_true rfl) rfl) ?_
      refine o_store (v := .agg [.v (.int .i64 v3), .v (.int .i64 v4)]) (ns := [.v (.int .i64 v3), .v (.int .i64 v4)]) (L' := [(g + 4 + 8 + 2 + 1, .cells [.v (.int .i64 v3), .v (.int .i64 v4)]), (g + 2, .cells [.v (.int .i64 v3), .v (.int .i64 v4)])]) 1 hS rfl rfl .no rfl rfl ty_var44 (Nat.le_of_ble_eq_true rfl) rfl fun H hS => ?_
      refine o_assign (v := .v (.int .i64 0)) (by decide) rfl ?_
      refine run_nil ?_
      replace hS := hS.keep (L' := [(g + 2, .cells [.v (.int .i64 v3), .v (.int .i64 v4)])]) [false, true] rfl
      refine w_next [(4, .ptr (g + 2) 0), (5, .v (.int .i64 0))] (.cons (.refl _) (.cons (.refl _) .nil)) ?_
      refine r_ret ?_
      refine w_end (x := .tup [.agg [.v (.int .i64 v3), .v (.int .i64 v4)], .v (.int .i64 0)]) (f := fun r => .tup [.agg [.v (.int .i64 r.1.Low), .v (.int .i64 r.1.High)], .v (.int .i64 r.2)]) (.inr rfl) ?_ (.refl _) (Option.some.inj hM) hS
      exact (res_two (res_cell (x := .agg [.v (.int .i64 v3), .v (.int .i64 v4)]) 0 hS rfl rfl (part_agg ty_agg44 (Nat.le_of_ble_eq_true rfl) rfl)) (res_tmp (x := .v (.int .i64 0)) rfl))
    · refine r_seq ?_
      refine r_region (n := 3) rfl ?_
      refine o_move (v := .sl .no 2 (r1.1.1.map Reading_.cells)) (by decide) rfl ?_
      refine o_len (n := r1.1.1.length) (by decide) rfl (List.length_map _) ty_isl72 ?_
      refine o_move (v := .v (.int .i64 0)) (by decide) rfl ?_
      refine run_nil ?_
      refine w_next [(3, .ptr (g + 1) 0), (4, .ptr (g + 2) 0), (8, .ptr (g + 4 + 8 + 2 + 1) 0), (23, .sl .no 2 (r1.1.1.map Reading_.cells)), (24, .v (.int .i64 (r1.1.1.length : Int))), (25, .v (.int .i64 0))] (.cons (.refl _) (.cons (.refl _) (.cons (.refl _) (.cons (.refl _) (.cons (.refl _) (.cons (.refl _) .nil)))))) ?_
      refine r_block ?_
      refine w_loop (V := Int × Int × Int) (fun v => [(3, .ptr (g + 1) 0), (4, .ptr (g + 2) 0), (8, .ptr (g + 4 + 8 + 2 + 1) 0), (23, .sl .no 2 (r1.1.1.map Reading_.cells)), (24, .v (.int .i64 (r1.1.1.length : Int))), (25, .v (.int .i64 v.1))]) (fun v m3 H' g' => St (· < g) H0 [(g + 4 + 8 + 2 + 1, .cells [.v (.int .i64 v.2.1), .v (.int .i64 v.2.2)]), (g + 2, .cells [.v (.int .i64 0), .v (.int .i64 0)]), (g + 1, .cells [.v (.int .i64 a1)])] H' g' ∧ pulses_Asked_l1 n a1 r1 m3 v.1 v.2.1 v.2.2 = some r) (n := n) (0, 24, 0) (.cons (.refl _) (.cons (.refl _) (.cons (.refl _) (.cons (.refl _) (.cons (.refl _) (.cons (.refl _) .nil)))))) ⟨(hS.keep [true, true, true] rfl).up (by omega), hM⟩ ?_
      rintro ⟨v6, v7, v8⟩ m3 H g3 ⟨hS, hM⟩
      obtain _ | m3 := m3
      · exact nomatch (show none = some _ from hM)
      change wpA _ _ _ _ (Fr.of [(3, .ptr (g + 1) 0), (4, .ptr (g + 2) 0), (8, .ptr (g + 4 + 8 + 2 + 1) 0), (23, .sl .no 2 (r1.1.1.map Reading_.cells)), (24, .v (.int .i64 (r1.1.1.length : Int))), (25, .v (.int .i64 v6))]) _ _
      replace hS : St (· < g) H0 [(g + 4 + 8 + 2 + 1, .cells [.v (.int .i64 v7), .v (.int .i64 v8)]), (g + 2, .cells [.v (.int .i64 0), .v (.int .i64 0)]), (g + 1, .cells [.v (.int .i64 a1)])] H g3 := hS
      replace hM : pulses_Asked_l1_b n a1 r1 (pulses_Asked_l1 n a1 r1 m3) v6 v7 v8 = some r := hM
      refine r_seq ?_
      refine r_region (n := 1) rfl ?_
      refine o_int (v := .v (.bool (decide (v6 < (r1.1.1.length : Int))))) (by decide) rfl rfl rfl ?_
      refine run_nil ?_
      refine w_next [(3, .ptr (g + 1) 0), (4, .ptr (g + 2) 0), (8, .ptr (g + 4 + 8 + 2 + 1) 0), (23, .sl .no 2 (r1.1.1.map Reading_.cells)), (24, .v (.int .i64 (r1.1.1.length : Int))), (25, .v (.int .i64 v6)), (26, .v (.bool (decide (v6 < (r1.1.1.length : Int)))))] (.cons (.refl _) (.cons (.refl _) (.cons (.refl _) (.cons (.refl _) (.cons (.refl _) (.cons (.refl _) (.cons (.refl _) .nil))))))) ?_
      refine r_seq ?_
      rcases Bool.eq_false_or_eq_true (decide (v6 < (r1.1.1.length : Int))) with hb9 | hb9
      · replace hM := ifT hM hb9
        refine w_condT (e := (decide (v6 < (r1.1.1.length : Int)))) rfl hb9 ?_
        refine r_skip ?_
        refine w_next [(3, .ptr (g + 1) 0), (4, .ptr (g + 2) 0), (8, .ptr (g + 4 + 8 + 2 + 1) 0), (23, .sl .no 2 (r1.1.1.map Reading_.cells)), (24, .v (.int .i64 (r1.1.1.length : Int))), (25, .v (.int .i64 v6))] (.cons (.refl _) (.cons (.refl _) (.cons (.refl _) (.cons (.refl _) (.cons (.refl _) (.cons (.refl _) .nil)))))) ?_
        refine r_seq ?_
        refine r_block ?_
        refine r_seq ?_
        refine r_region (n := 4) rfl ?_
        obtain ⟨x10, hx10, hM⟩ := bindE hM
        refine o_index (xs := r1.1.1) (f := Reading_.cells) (z := v6) (u := x10) (by decide) rfl rfl ty_es72 hx10 ?_
        refine o_loadE (v := .agg [.v (.int .u64 x10.sparks), .sl .no 1 (x10.list.map cI)]) (by decide) rfl (part_agg ty_agg86 (Nat.le_of_ble_eq_true rfl) rfl) ?_
        refine o_alloc hS (by decide) ty_zero86 (by omega) fun H hS => ?_
        refine o_store (v := .agg [.v (.int .u64 x10.sparks), .sl .no 1 (x10.list.map cI)]) (ns := [.v (.int .u64 x10.sparks), .sl .no 1 (x10.list.map cI)]) (L' := [(g3 + 1 + 2, .cells [.v (.int .u64 x10.sparks), .sl .no 1 (x10.list.map cI)]), (g + 4 + 8 + 2 + 1, .cells [.v (.int .i64 v7), .v (.int .i64 v8)]), (g + 2, .cells [.v (.int .i64 0), .v (.int .i64 0)]), (g + 1, .cells [.v (.int .i64 a1)])]) 0 hS rfl rfl .no rfl rfl ty_var86 (Nat.le_of_ble_eq_true rfl) rfl fun H hS => ?_
        refine run_nil ?_
        refine w_next [(3, .ptr (g + 1) 0), (4, .ptr (g + 2) 0), (8, .ptr (g + 4 + 8 + 2 + 1) 0), (10, .ptr (g3 + 1 + 2) 0), (23, .sl .no 2 (r1.1.1.map Reading_.cells)), (24, .v (.int .i64 (r1.1.1.length : Int))), (25, .v (.int .i64 v6))] (.cons (.refl _) (.cons (.refl _) (.cons (.refl _) (.cons (.refl _) (.cons (.refl _) (.cons (.refl _) (.cons (.refl _) .nil))))))) ?_
        refine r_seq ?_
        refine r_region (n := 5) rfl ?_
        refine o_fieldP (by decide) ty_fo86_1 rfl ?_
        refine o_load (v := .sl .no 1 (x10.list.map cI)) 0 hS (by decide) rfl rfl .no (part_one ty_agg22 ty_sc22 rfl) ?_
        refine o_makeFunc (first := []) (cap := [.ptr (g + 1) 0]) (by decide) rfl rfl ?_
        obtain ⟨r11, hr11, hM⟩ := bindE hM
        have hndr11 := hS.nd_at (ns := [3]) (M := [(g + 1, .cells [.v (.int .i64 a1)])]) (M' := [(g + 1, .cells [.v (.int .i64 a1)])]) (.cons rfl .nil) (by decide)
        have hncr11 := hS.nd_at (ns := [3]) (M := [(g + 1, .cells [.v (.int .i64 a1)])]) (M' := [(g + 1, .cells [.v (.int .i64 a1)])]) (.cons rfl .nil) (by decide)
        refine o_hsat (bs := [.sl .no 1 (x10.list.map cI), .fn (.func 70) [] [.ptr (g + 1) 0]]) (M := [(g + 1, .cells [.v (.int .i64 a1)])]) (M' := [(g + 1, .cells [.v (.int .i64 a1)])]) (L' := [(g3 + 1 + 2, .cells [.v (.int .u64 x10.sparks), .sl .no 1 (x10.list.map cI)]), (g + 4 + 8 + 2 + 1, .cells [.v (.int .i64 v7), .v (.int .i64 v8)]), (g + 2, .cells [.v (.int .i64 0), .v (.int .i64 0)]), (g + 1, .cells [.v (.int .i64 a1)])]) [3] (.inl rfl) hS (by decide) rfl rfl ((W_pulses_count_int (Lo := (fun (_ : Unit) => [(g + 1, .cells [.v (.int .i64 a1)])]))  (fun _ _ => (kl_cells kl_nil)) (fun _ => hndr11) (fun s => (inb_st (ic_cells (ci_cons (.inl (.inl (.v _))) ci_nil) ic_nil) inb_nil)) (aF := (fun (x0 : Int) (_ : Unit) => (pulses_Asked_c2 x0 a1).map fun y => (y, ()))) (fun s H hH => .fn _ _ _ ai_nil (ai_cons (in_ptr hH 0 rfl) ai_nil)) rfl (fun h => csat_cap (W_pulses_Asked_c2 (p1 := g + 1)  hncr11 (pure_some h))) hr11).le (.cons (.refl _) (.cons (.refl _) .nil))) (.cons rfl .nil) rfl (by omega) fun H hS => ?_
        refine o_assign (v := .v (.int .i64 r11.1)) (by decide) rfl ?_
        refine run_nil ?_
        replace hS := hS.keep (L' := [(g + 4 + 8 + 2 + 1, .cells [.v (.int .i64 v7), .v (.int .i64 v8)]), (g + 2, .cells [.v (.int .i64 0), .v (.int .i64 0)]), (g + 1, .cells [.v (.int .i64 a1)])]) [false, true, true, true] rfl
        refine w_next [(3, .ptr (g + 1) 0), (4, .ptr (g + 2) 0), (8, .ptr (g + 4 + 8 + 2 + 1) 0), (11, .v (.int .i64 r11.1)), (23, .sl .no 2 (r1.1.1.map Reading_.cells)), (24, .v (.int .i64 (r1.1.1.length : Int))), (25, .v (.int .i64 v6))] (.cons (.refl _) (.cons (.refl _) (.cons (.refl _) (.cons (.refl _) (.cons (.refl _) (.cons (.refl _) (.cons (.refl _) .nil))))))) ?_
        refine r_region (n := 10) rfl ?_
        refine o_fieldP (by decide) ty_fo44_0 rfl ?_
        refine o_load (v := .v (.int .i64 v7)) 0 hS (by decide) rfl rfl .no (part_one ty_agg3 ty_sc3 rfl) ?_
        refine o_move (v := .v (.int .i64 r11.1)) (by decide) rfl ?_
        refine o_min (v := .v (.int .i64 (min v7 r11.1))) (by decide) rfl ?_
        refine o_fieldP (by decide) ty_fo44_1 rfl ?_
        refine o_load (v := .v (.int .i64 v8)) 0 hS (by decide) rfl rfl .no (part_one ty_agg3 ty_sc3 rfl) ?_
        refine o_move (v := .v (.int .i64 r11.1)) (by decide) rfl ?_
        refine o_max (v := .v (.int .i64 (max v8 r11.1))) (by decide) rfl ?_
        refine o_build (cs := [.v (.int .i64 (min v7 r11.1)), .v (.int .i64 (max v8 r11.1))]) (by decide) ty_zero44 ty_pl44 rfl ?_
        refine o_store (v := .agg [.v (.int .i64 (min v7 r11.1)), .v (.int .i64 (max v8 r11.1))]) (ns := [.v (.int .i64 (min v7 r11.1)), .v (.int .i64 (max v8 r11.1))]) (L' := [(g + 4 + 8 + 2 + 1, .cells [.v (.int .i64 (min v7 r11.1)), .v (.int .i64 (max v8 r11.1))]), (g + 2, .cells [.v (.int .i64 0), .v (.int .i64 0)]), (g + 1, .cells [.v (.int .i64 a1)])]) 0 hS rfl rfl .no rfl rfl ty_var44 (Nat.le_of_ble_eq_true rfl) rfl fun H hS => ?_
        refine run_nil ?_
        refine r_blk_normal ?_
        refine w_next [(3, .ptr (g + 1) 0), (4, .ptr (g + 2) 0), (8, .ptr (g + 4 + 8 + 2 + 1) 0), (23, .sl .no 2 (r1.1.1.map Reading_.cells)), (24, .v (.int .i64 (r1.1.1.length : Int))), (25, .v (.int .i64 v6))] (.cons (.refl _) (.cons (.refl _) (.cons (.refl _) (.cons (.refl _) (.cons (.refl _) (.cons (.refl _) .nil)))))) ?_
        refine r_region (n := 2) rfl ?_
        refine o_int (v := .v (.int .i64 (w64 (v6 + 1)))) (by decide) rfl rfl rfl ?_
        refine o_move (v := .v (.int .i64 (w64 (v6 + 1)))) (by decide) rfl ?_
        refine run_nil ?_
        exact w_round (w64 (v6 + 1), (min v7 r11.1), (max v8 r11.1)) (Nat.lt_succ_self _) (.cons (.refl _) (.cons (.refl _) (.cons (.refl _) (.cons (.refl _) (.cons (.refl _) (.cons (.refl _) .nil)))))) ⟨(hS.keep [true, true, true] rfl).up (by omega), hM⟩
      · replace hM := ifF hM hb9
        refine w_condF (e := (decide (v6 < (r1.1.1.length : Int)))) rfl hb9 ?_
        refine r_exit ?_
        refine r_then_exit ?_
        refine w_round_exit ?_
        refine r_blk_exit ?_
        exact w_goto (v7, v8) (.cons (.refl _) (.cons (.refl _) .nil)) ⟨(hS.keep [true, true, false] rfl).up (by omega), hM⟩
theorem W_law13_Example {r : Pulse} (hM : law13_Example = some r) : PureSat Try.prog 50 [] (.agg [.v (.int .i64 r.Letters), .v (.int .i64 r.Numbers), .v (.int .i64 r.Pitch), .v (.int .i64 r.Slack), .v (.int .i64 r.Gap), .v (.int .i64 r.Pause), .v (.int .i64 r.Sparks), .sl .no 1 (r.Times.map cI)]) := by
  refine pure_of_wp mixed Try.func50 rfl (by decide) Try.ntmps50 (by simp) ?pure fun H0 g hf => ?_
  case pure => exact .agg _ (pl_cons (.v _) (pl_cons (.v _) (pl_cons (.v _) (pl_cons (.v _) (pl_cons (.v _) (pl_cons (.v _) (pl_cons (.v _) (pl_cons (.sl _ _ (pures_map (fun x => (pl_cons (.v _) pl_nil)))) pl_nil))))))))
  rw [frame0_of]
  change wpA _ _ _ _ (Fr.of []) H0 g
  have hS := St.start hf
  refine r_seq ?_
  refine r_region (n := 1) rfl ?_
  refine o_alloc hS (by decide) ty_zero24 (by omega) fun H hS => ?_
  refine run_nil ?_
  refine w_next [(0, .ptr (g + 0) 0)] (.cons (.refl _) .nil) ?_
  refine r_seq ?_
  refine r_region (n := 3) rfl ?_
  refine o_buildSlice (es := [[.v (.int .i64 0)], [.v (.int .i64 10)], [.v (.int .i64 40)], [.v (.int .i64 50)], [.v (.int .i64 60)]]) hS (by decide) ty_es22 ty_el22 rfl ty_ef22 rfl (by decide) (by omega) fun H hS => ?_
  refine o_build (cs := [.v (.int .i64 3), .v (.int .i64 4), .v (.int .i64 10), .v (.int .i64 2), .v (.int .i64 30), .v (.int .i64 100), .v (.int .i64 1), .sl (.id (g + 1 + 0)) 1 (([0, 10, 40, 50, 60] : List Int).map cI)]) (by decide) ty_zero24 ty_pl24 rfl ?_
  refine o_store (v := .agg [.v (.int .i64 3), .v (.int .i64 4), .v (.int .i64 10), .v (.int .i64 2), .v (.int .i64 30), .v (.int .i64 100), .v (.int .i64 1), .sl (.id (g + 1 + 0)) 1 (([0, 10, 40, 50, 60] : List Int).map cI)]) (ns := [.v (.int .i64 3), .v (.int .i64 4), .v (.int .i64 10), .v (.int .i64 2), .v (.int .i64 30), .v (.int .i64 100), .v (.int .i64 1), .sl (.id (g + 1 + 0)) 1 (([0, 10, 40, 50, 60] : List Int).map cI)]) (L' := [(g + 1 + 0, .row 3 5), (g + 0, .cells [.v (.int .i64 3), .v (.int .i64 4), .v (.int .i64 10), .v (.int .i64 2), .v (.int .i64 30), .v (.int .i64 100), .v (.int .i64 1), .sl (.id (g + 1 + 0)) 1 (([0, 10, 40, 50, 60] : List Int).map cI)])]) 1 hS rfl rfl .no rfl rfl ty_var24 (Nat.le_of_ble_eq_true rfl) rfl fun H hS => ?_
  refine run_nil ?_
  refine w_next [(0, .ptr (g + 0) 0)] (.cons (.refl _) .nil) ?_
  refine r_ret ?_
  refine w_end (x := .agg [.v (.int .i64 3), .v (.int .i64 4), .v (.int .i64 10), .v (.int .i64 2), .v (.int .i64 30), .v (.int .i64 100), .v (.int .i64 1), .sl (.id (g + 1 + 0)) 1 (([0, 10, 40, 50, 60] : List Int).map cI)]) (f := fun r => .agg [.v (.int .i64 r.Letters), .v (.int .i64 r.Numbers), .v (.int .i64 r.Pitch), .v (.int .i64 r.Slack), .v (.int .i64 r.Gap), .v (.int .i64 r.Pause), .v (.int .i64 r.Sparks), .sl .no 1 (r.Times.map cI)]) (.inr rfl) ?_ (.aggL (.cons (.refl _) (.cons (.refl _) (.cons (.refl _) (.cons (.refl _) (.cons (.refl _) (.cons (.refl _) (.cons (.refl _) (.cons (.sl _ _ _) .nil))))))))) (Option.some.inj hM) hS
  exact (res_one (res_cell (x := .agg [.v (.int .i64 3), .v (.int .i64 4), .v (.int .i64 10), .v (.int .i64 2), .v (.int .i64 30), .v (.int .i64 100), .v (.int .i64 1), .sl (.id (g + 1 + 0)) 1 (([0, 10, 40, 50, 60] : List Int).map cI)]) 1 hS rfl rfl (part_agg ty_agg24 (Nat.le_of_ble_eq_true rfl) rfl)))
theorem W_law13_works {n : Nat} {r : Bool} (hM : law13_works n = some r) : PureSat Try.prog 14 [] (.v (.bool r)) := by
  refine pure_of_wp mixed Try.func14 rfl (by decide) Try.ntmps14 (by simp) ?pure fun H0 g hf => ?_
  case pure => exact .v _
  rw [frame0_of]
  change wpA _ _ _ _ (Fr.of []) H0 g
  have hS := St.start hf
  refine r_seq ?_
  refine r_region (n := 1) rfl ?_
  refine o_assign (v := .v (.bool false)) (by decide) rfl ?_
  refine run_nil ?_
  refine w_next [] .nil ?_
  refine r_seq ?_
  refine r_region (n := 3) rfl ?_
  obtain ⟨r1, hr1, hM⟩ := bindE hM
  refine o_call (bs := []) (by decide) rfl rfl ((W_law13_Example hr1).le .nil) ?_
  refine o_alloc hS (by decide) ty_zero24 (by omega) fun H hS => ?_
  refine o_store (v := .agg [.v (.int .i64 r1.Letters), .v (.int .i64 r1.Numbers), .v (.int .i64 r1.Pitch), .v (.int .i64 r1.Slack), .v (.int .i64 r1.Gap), .v (.int .i64 r1.Pause), .v (.int .i64 r1.Sparks), .sl .no 1 (r1.Times.map cI)]) (ns := [.v (.int .i64 r1.Letters), .v (.int .i64 r1.Numbers), .v (.int .i64 r1.Pitch), .v (.int .i64 r1.Slack), .v (.int .i64 r1.Gap), .v (.int .i64 r1.Pause), .v (.int .i64 r1.Sparks), .sl .no 1 (r1.Times.map cI)]) (L' := [(g + 1 + 1, .cells [.v (.int .i64 r1.Letters), .v (.int .i64 r1.Numbers), .v (.int .i64 r1.Pitch), .v (.int .i64 r1.Slack), .v (.int .i64 r1.Gap), .v (.int .i64 r1.Pause), .v (.int .i64 r1.Sparks), .sl .no 1 (r1.Times.map cI)])]) 0 hS rfl rfl .no rfl rfl ty_var24 (Nat.le_of_ble_eq_true rfl) rfl fun H hS => ?_
  refine run_nil ?_
  refine w_next [(1, .ptr (g + 1 + 1) 0)] (.cons (.refl _) .nil) ?_
  refine r_seq ?_
  refine r_region (n := 7) rfl ?_
  refine o_load (v := .agg [.v (.int .i64 r1.Letters), .v (.int .i64 r1.Numbers), .v (.int .i64 r1.Pitch), .v (.int .i64 r1.Slack), .v (.int .i64 r1.Gap), .v (.int .i64 r1.Pause), .v (.int .i64 r1.Sparks), .sl .no 1 (r1.Times.map cI)]) 0 hS (by decide) rfl rfl .no (part_agg ty_agg24 (Nat.le_of_ble_eq_true rfl) rfl) ?_
  obtain ⟨r2, hr2, hM⟩ := bindE hM
  refine o_call (bs := [.agg [.v (.int .i64 r1.Letters), .v (.int .i64 r1.Numbers), .v (.int .i64 r1.Pitch), .v (.int .i64 r1.Slack), .v (.int .i64 r1.Gap), .v (.int .i64 r1.Pause), .v (.int .i64 r1.Sparks), .sl .no 1 (r1.Times.map cI)]]) (by decide) rfl rfl ((W_pulses_Many hr2).le (.cons (.refl _) .nil)) ?_
  refine o_move (v := .tup [.v (.int .i64 r2.1), .v (.int .i64 r2.2)]) (by decide) rfl ?_
  refine o_extract (v := .v (.int .i64 r2.1)) (by decide) rfl rfl ?_
  refine o_extract (v := .v (.int .i64 r2.2)) (by decide) rfl rfl ?_
  refine o_assign (v := .v (.int .i64 r2.1)) (by decide) rfl ?_
  refine o_assign (v := .v (.int .i64 r2.2)) (by decide) rfl ?_
  refine run_nil ?_
  refine w_next [(1, .ptr (g + 1 + 1) 0), (2, .v (.int .i64 r2.1)), (3, .v (.int .i64 r2.2))] (.cons (.refl _) (.cons (.refl _) (.cons (.refl _) .nil))) ?_
  refine r_seq ?_
  refine r_region (n := 7) rfl ?_
  refine o_load (v := .agg [.v (.int .i64 r1.Letters), .v (.int .i64 r1.Numbers), .v (.int .i64 r1.Pitch), .v (.int .i64 r1.Slack), .v (.int .i64 r1.Gap), .v (.int .i64 r1.Pause), .v (.int .i64 r1.Sparks), .sl .no 1 (r1.Times.map cI)]) 0 hS (by decide) rfl rfl .no (part_agg ty_agg24 (Nat.le_of_ble_eq_true rfl) rfl) ?_
  obtain ⟨r3, hr3, hM⟩ := bindE hM
  refine o_call (bs := [.agg [.v (.int .i64 r1.Letters), .v (.int .i64 r1.Numbers), .v (.int .i64 r1.Pitch), .v (.int .i64 r1.Slack), .v (.int .i64 r1.Gap), .v (.int .i64 r1.Pause), .v (.int .i64 r1.Sparks), .sl .no 1 (r1.Times.map cI)]]) (by decide) rfl rfl ((W_pulses_Lists hr3).le (.cons (.refl _) .nil)) ?_
  refine o_move (v := .tup [.v (.int .i64 r3.1), .v (.int .i64 r3.2)]) (by decide) rfl ?_
  refine o_extract (v := .v (.int .i64 r3.1)) (by decide) rfl rfl ?_
  refine o_extract (v := .v (.int .i64 r3.2)) (by decide) rfl rfl ?_
  refine o_assign (v := .v (.int .i64 r3.1)) (by decide) rfl ?_
  refine o_assign (v := .v (.int .i64 r3.2)) (by decide) rfl ?_
  refine run_nil ?_
  refine w_next [(1, .ptr (g + 1 + 1) 0), (2, .v (.int .i64 r2.1)), (3, .v (.int .i64 r2.2)), (4, .v (.int .i64 r3.1)), (5, .v (.int .i64 r3.2))] (.cons (.refl _) (.cons (.refl _) (.cons (.refl _) (.cons (.refl _) (.cons (.refl _) .nil))))) ?_
  refine r_seq ?_
  refine r_region (n := 8) rfl ?_
  refine o_load (v := .agg [.v (.int .i64 r1.Letters), .v (.int .i64 r1.Numbers), .v (.int .i64 r1.Pitch), .v (.int .i64 r1.Slack), .v (.int .i64 r1.Gap), .v (.int .i64 r1.Pause), .v (.int .i64 r1.Sparks), .sl .no 1 (r1.Times.map cI)]) 0 hS (by decide) rfl rfl .no (part_agg ty_agg24 (Nat.le_of_ble_eq_true rfl) rfl) ?_
  obtain ⟨r4, hr4, hM⟩ := bindE hM
  refine o_call (bs := [.agg [.v (.int .i64 r1.Letters), .v (.int .i64 r1.Numbers), .v (.int .i64 r1.Pitch), .v (.int .i64 r1.Slack), .v (.int .i64 r1.Gap), .v (.int .i64 r1.Pause), .v (.int .i64 r1.Sparks), .sl .no 1 (r1.Times.map cI)], .v (.int .i64 6)]) (by decide) rfl rfl ((W_pulses_Asked hr4).le (.cons (.refl _) (.cons (.refl _) .nil))) ?_
  refine o_move (v := .tup [.agg [.v (.int .i64 r4.1.Low), .v (.int .i64 r4.1.High)], .v (.int .i64 r4.2)]) (by decide) rfl ?_
  refine o_extract (v := .agg [.v (.int .i64 r4.1.Low), .v (.int .i64 r4.1.High)]) (by decide) rfl rfl ?_
  refine o_extract (v := .v (.int .i64 r4.2)) (by decide) rfl rfl ?_
  refine o_alloc hS (by decide) ty_zero44 (by omega) fun H hS => ?_
  refine o_store (v := .agg [.v (.int .i64 r4.1.Low), .v (.int .i64 r4.1.High)]) (ns := [.v (.int .i64 r4.1.Low), .v (.int .i64 r4.1.High)]) (L' := [(g + 1 + 3 + 7 + 7 + 5, .cells [.v (.int .i64 r4.1.Low), .v (.int .i64 r4.1.High)]), (g + 1 + 1, .cells [.v (.int .i64 r1.Letters), .v (.int .i64 r1.Numbers), .v (.int .i64 r1.Pitch), .v (.int .i64 r1.Slack), .v (.int .i64 r1.Gap), .v (.int .i64 r1.Pause), .v (.int .i64 r1.Sparks), .sl .no 1 (r1.Times.map cI)])]) 0 hS rfl rfl .no rfl rfl ty_var44 (Nat.le_of_ble_eq_true rfl) rfl fun H hS => ?_
  refine o_assign (v := .v (.int .i64 r4.2)) (by decide) rfl ?_
  refine run_nil ?_
  refine w_next [(1, .ptr (g + 1 + 1) 0), (2, .v (.int .i64 r2.1)), (3, .v (.int .i64 r2.2)), (4, .v (.int .i64 r3.1)), (5, .v (.int .i64 r3.2)), (6, .ptr (g + 1 + 3 + 7 + 7 + 5) 0), (7, .v (.int .i64 r4.2))] (.cons (.refl _) (.cons (.refl _) (.cons (.refl _) (.cons (.refl _) (.cons (.refl _) (.cons (.refl _) (.cons (.refl _) .nil))))))) ?_
  refine r_seq ?_
  refine r_region (n := 8) rfl ?_
  refine o_load (v := .agg [.v (.int .i64 r1.Letters), .v (.int .i64 r1.Numbers), .v (.int .i64 r1.Pitch), .v (.int .i64 r1.Slack), .v (.int .i64 r1.Gap), .v (.int .i64 r1.Pause), .v (.int .i64 r1.Sparks), .sl .no 1 (r1.Times.map cI)]) 1 hS (by decide) rfl rfl .no (part_agg ty_agg24 (Nat.le_of_ble_eq_true rfl) rfl) ?_
  refine o_buildSlice (es := [[.v (.int .i64 1)], [.v (.int .i64 4)]]) hS (by decide) ty_es22 ty_el22 rfl ty_ef22 rfl (by decide) (by omega) fun H hS => ?_
  obtain ⟨r5, hr5, hM⟩ := bindE hM
  refine o_call (bs := [.agg [.v (.int .i64 r1.Letters), .v (.int .i64 r1.Numbers), .v (.int .i64 r1.Pitch), .v (.int .i64 r1.Slack), .v (.int .i64 r1.Gap), .v (.int .i64 r1.Pause), .v (.int .i64 r1.Sparks), .sl .no 1 (r1.Times.map cI)], .sl (.id (g + 1 + 3 + 7 + 7 + 8 + 1)) 1 (([1, 4] : List Int).map cI), .v (.int .i64 7)]) (by decide) rfl rfl ((W_pulses_Write hr5).le (.cons (.refl _) (.cons (.sl _ _ _) (.cons (.refl _) .nil)))) ?_
  refine o_move (v := .tup [.sl .no 1 (r5.1.map cI), .v (.int .i64 r5.2)]) (by decide) rfl ?_
  refine o_extract (v := .sl .no 1 (r5.1.map cI)) (by decide) rfl rfl ?_
  refine o_extract (v := .v (.int .i64 r5.2)) (by decide) rfl rfl ?_
  refine o_assign (v := .sl .no 1 (r5.1.map cI)) (by decide) rfl ?_
  refine o_assign (v := .v (.int .i64 r5.2)) (by decide) rfl ?_
  refine run_nil ?_
  replace hS := hS.keep (L' := [(g + 1 + 3 + 7 + 7 + 5, .cells [.v (.int .i64 r4.1.Low), .v (.int .i64 r4.1.High)]), (g + 1 + 1, .cells [.v (.int .i64 r1.Letters), .v (.int .i64 r1.Numbers), .v (.int .i64 r1.Pitch), .v (.int .i64 r1.Slack), .v (.int .i64 r1.Gap), .v (.int .i64 r1.Pause), .v (.int .i64 r1.Sparks), .sl .no 1 (r1.Times.map cI)])]) [false, true, true] rfl
  refine w_next [(1, .ptr (g + 1 + 1) 0), (2, .v (.int .i64 r2.1)), (3, .v (.int .i64 r2.2)), (4, .v (.int .i64 r3.1)), (5, .v (.int .i64 r3.2)), (6, .ptr (g + 1 + 3 + 7 + 7 + 5) 0), (7, .v (.int .i64 r4.2)), (8, .sl .no 1 (r5.1.map cI)), (9, .v (.int .i64 r5.2))] (.cons (.refl _) (.cons (.refl _) (.cons (.refl _) (.cons (.refl _) (.cons (.refl _) (.cons (.refl _) (.cons (.refl _) (.cons (.refl _) (.cons (.refl _) .nil))))))))) ?_
  refine r_seq ?_
  refine r_region (n := 2) rfl ?_
  refine o_fieldP (by decide) ty_fo24_6 rfl ?_
  refine o_store (v := .v (.int .i64 0)) (ns := [.v (.int .i64 0)]) (L' := [(g + 1 + 3 + 7 + 7 + 5, .cells [.v (.int .i64 r4.1.Low), .v (.int .i64 r4.1.High)]), (g + 1 + 1, .cells [.v (.int .i64 r1.Letters), .v (.int .i64 r1.Numbers), .v (.int .i64 r1.Pitch), .v (.int .i64 r1.Slack), .v (.int .i64 r1.Gap), .v (.int .i64 r1.Pause), .v (.int .i64 0), .sl .no 1 (r1.Times.map cI)])]) 1 hS rfl rfl .no rfl rfl ty_var3 (Nat.le_of_ble_eq_true rfl) rfl fun H hS => ?_
  refine run_nil ?_
  refine w_next [(1, .ptr (g + 1 + 1) 0), (2, .v (.int .i64 r2.1)), (3, .v (.int .i64 r2.2)), (4, .v (.int .i64 r3.1)), (5, .v (.int .i64 r3.2)), (6, .ptr (g + 1 + 3 + 7 + 7 + 5) 0), (7, .v (.int .i64 r4.2)), (8, .sl .no 1 (r5.1.map cI)), (9, .v (.int .i64 r5.2))] (.cons (.refl _) (.cons (.refl _) (.cons (.refl _) (.cons (.refl _) (.cons (.refl _) (.cons (.refl _) (.cons (.refl _) (.cons (.refl _) (.cons (.refl _) .nil))))))))) ?_
  refine r_seq ?_
  refine r_region (n := 7) rfl ?_
  refine o_load (v := .agg [.v (.int .i64 r1.Letters), .v (.int .i64 r1.Numbers), .v (.int .i64 r1.Pitch), .v (.int .i64 r1.Slack), .v (.int .i64 r1.Gap), .v (.int .i64 r1.Pause), .v (.int .i64 0), .sl .no 1 (r1.Times.map cI)]) 1 hS (by decide) rfl rfl .no (part_agg ty_agg24 (Nat.le_of_ble_eq_true rfl) rfl) ?_
  obtain ⟨r6, hr6, hM⟩ := bindE hM
  refine o_call (bs := [.agg [.v (.int .i64 r1.Letters), .v (.int .i64 r1.Numbers), .v (.int .i64 r1.Pitch), .v (.int .i64 r1.Slack), .v (.int .i64 r1.Gap), .v (.int .i64 r1.Pause), .v (.int .i64 0), .sl .no 1 (r1.Times.map cI)]]) (by decide) rfl rfl ((W_pulses_Read hr6).le (.cons (.refl _) .nil)) ?_
  refine o_move (v := .tup [.sl .no 1 (r6.1.map cI), .v (.int .i64 r6.2)]) (by decide) rfl ?_
  refine o_extract (v := .sl .no 1 (r6.1.map cI)) (by decide) rfl rfl ?_
  refine o_extract (v := .v (.int .i64 r6.2)) (by decide) rfl rfl ?_
  refine o_assign (v := .sl .no 1 (r6.1.map cI)) (by decide) rfl ?_
  refine o_assign (v := .v (.int .i64 r6.2)) (by decide) rfl ?_
  refine run_nil ?_
  replace hS := hS.keep (L' := [(g + 1 + 3 + 7 + 7 + 5, .cells [.v (.int .i64 r4.1.Low), .v (.int .i64 r4.1.High)])]) [true, false] rfl
  refine w_next [(2, .v (.int .i64 r2.1)), (3, .v (.int .i64 r2.2)), (4, .v (.int .i64 r3.1)), (5, .v (.int .i64 r3.2)), (6, .ptr (g + 1 + 3 + 7 + 7 + 5) 0), (7, .v (.int .i64 r4.2)), (8, .sl .no 1 (r5.1.map cI)), (9, .v (.int .i64 r5.2)), (10, .sl .no 1 (r6.1.map cI)), (11, .v (.int .i64 r6.2))] (.cons (.refl _) (.cons (.refl _) (.cons (.refl _) (.cons (.refl _) (.cons (.refl _) (.cons (.refl _) (.cons (.refl _) (.cons (.refl _) (.cons (.refl _) (.cons (.refl _) .nil)))))))))) ?_
  refine w_join (J := Bool) (fun j => [(0, .v (.bool j))]) (fun j H' g' => St (· < g) H0 [] H' g' ∧ law13_works_j1 j = some r) ?_ ?_
  · rintro v7 H g1 ⟨hS, hM⟩
    change wpA _ _ _ _ (Fr.of [(0, .v (.bool v7))]) _ _
    replace hS : St (· < g) H0 [] H g1 := hS
    replace hM : law13_works_j1 v7 = some r := hM
    refine r_ret ?_
    refine w_end (x := .v (.bool v7)) (f := fun r => .v (.bool r)) (.inr rfl) ?_ (.refl _) (Option.some.inj hM) hS
    exact (res_one (res_tmp (x := .v (.bool v7)) rfl))
  · refine r_region (n := 42) rfl ?_
    refine o_move (v := .v (.int .i64 r2.2)) (by decide) rfl ?_
    refine o_int (v := .v (.bool (r2.2 == 0))) (by decide) rfl rfl rfl ?_
    refine o_move (v := .v (.bool (r2.2 == 0))) (by decide) rfl ?_
    rcases Bool.eq_false_or_eq_true (r2.2 == 0) with hb8 | hb8
    · replace hM := ifT hM hb8
      refine o_guardY (j := 2) (e := (r2.2 == 0)) (want := true) rfl hb8 ?_
      refine o_move (v := .v (.int .i64 r3.2)) (by decide) rfl ?_
      refine o_guardY (j := 2) (e := (r2.2 == 0)) (want := true) rfl hb8 ?_
      refine o_int (v := .v (.bool (r3.2 == 0))) (by decide) rfl rfl rfl ?_
      refine o_pickT (v := .v (.bool (r3.2 == 0))) (e := (r2.2 == 0)) (by decide) rfl hb8 rfl ?_
      refine o_move (v := .v (.bool (r3.2 == 0))) (by decide) rfl ?_
      rcases Bool.eq_false_or_eq_true (r3.2 == 0) with hb9 | hb9
      · replace hM := ifT hM hb9
        refine o_guardY (j := 6) (e := (r3.2 == 0)) (want := true) rfl hb9 ?_
        refine o_move (v := .v (.int .i64 r4.2)) (by decide) rfl ?_
        refine o_guardY (j := 6) (e := (r3.2 == 0)) (want := true) rfl hb9 ?_
        refine o_int (v := .v (.bool (r4.2 == 0))) (by decide) rfl rfl rfl ?_
        refine o_pickT (v := .v (.bool (r4.2 == 0))) (e := (r3.2 == 0)) (by decide) rfl hb9 rfl ?_
        refine o_move (v := .v (.bool (r4.2 == 0))) (by decide) rfl ?_
        rcases Bool.eq_false_or_eq_true (r4.2 == 0) with hb10 | hb10
        · replace hM := ifT hM hb10
          refine o_guardY (j := 10) (e := (r4.2 == 0)) (want := true) rfl hb10 ?_
          refine o_move (v := .v (.int .i64 r5.2)) (by decide) rfl ?_
          refine o_guardY (j := 10) (e := (r4.2 == 0)) (want := true) rfl hb10 ?_
          refine o_int (v := .v (.bool (r5.2 == 0))) (by decide) rfl rfl rfl ?_
          refine o_pickT (v := .v (.bool (r5.2 == 0))) (e := (r4.2 == 0)) (by decide) rfl hb10 rfl ?_
          refine o_move (v := .v (.bool (r5.2 == 0))) (by decide) rfl ?_
          rcases Bool.eq_false_or_eq_true (r5.2 == 0) with hb11 | hb11
          · replace hM := ifT hM hb11
            refine o_guardY (j := 14) (e := (r5.2 == 0)) (want := true) rfl hb11 ?_
            refine o_move (v := .v (.int .i64 r6.2)) (by decide) rfl ?_
            refine o_guardY (j := 14) (e := (r5.2 == 0)) (want := true) rfl hb11 ?_
            refine o_int (v := .v (.bool (r6.2 == 0))) (by decide) rfl rfl rfl ?_
            refine o_pickT (v := .v (.bool (r6.2 == 0))) (e := (r5.2 == 0)) (by decide) rfl hb11 rfl ?_
            refine o_move (v := .v (.bool (r6.2 == 0))) (by decide) rfl ?_
            rcases Bool.eq_false_or_eq_true (r6.2 == 0) with hb12 | hb12
            · replace hM := ifT hM hb12
              refine o_guardY (j := 18) (e := (r6.2 == 0)) (want := true) rfl hb12 ?_
              refine o_move (v := .v (.int .i64 r2.1)) (by decide) rfl ?_
              refine o_guardY (j := 18) (e := (r6.2 == 0)) (want := true) rfl hb12 ?_
              refine o_int (v := .v (.bool (r2.1 == 5))) (by decide) rfl rfl rfl ?_
              refine o_pickT (v := .v (.bool (r2.1 == 5))) (e := (r6.2 == 0)) (by decide) rfl hb12 rfl ?_
              refine o_move (v := .v (.bool (r2.1 == 5))) (by decide) rfl ?_
              rcases Bool.eq_false_or_eq_true (r2.1 == 5) with hb13 | hb13
              · replace hM := ifT hM hb13
                refine o_guardY (j := 22) (e := (r2.1 == 5)) (want := true) rfl hb13 ?_
                refine o_move (v := .v (.int .i64 r3.1)) (by decide) rfl ?_
                refine o_guardY (j := 22) (e := (r2.1 == 5)) (want := true) rfl hb13 ?_
                refine o_int (v := .v (.bool (r3.1 == 3))) (by decide) rfl rfl rfl ?_
                refine o_pickT (v := .v (.bool (r3.1 == 3))) (e := (r2.1 == 5)) (by decide) rfl hb13 rfl ?_
                refine o_move (v := .v (.bool (r3.1 == 3))) (by decide) rfl ?_
                rcases Bool.eq_false_or_eq_true (r3.1 == 3) with hb14 | hb14
                · replace hM := ifT hM hb14
                  refine o_guardY (j := 26) (e := (r3.1 == 3)) (want := true) rfl hb14 ?_
                  refine o_load (v := .agg [.v (.int .i64 r4.1.Low), .v (.int .i64 r4.1.High)]) 0 hS (by decide) rfl rfl .no (part_agg ty_agg44 (Nat.le_of_ble_eq_true rfl) rfl) ?_
                  refine o_guardY (j := 26) (e := (r3.1 == 3)) (want := true) rfl hb14 ?_
                  refine o_build (cs := [.v (.int .i64 0), .v (.int .i64 1)]) (by decide) ty_zero44 ty_pl44 rfl ?_
                  refine o_guardY (j := 26) (e := (r3.1 == 3)) (want := true) rfl hb14 ?_
                  refine o_eqS (cs := [.v (.int .i64 r4.1.Low), .v (.int .i64 r4.1.High)]) (ds := [.v (.int .i64 0), .v (.int .i64 1)]) (e := ((r4.1.Low == 0) && ((r4.1.High == 1) && true))) (by decide) rfl rfl ty_flat44 rfl ?_
                  refine o_pickT (v := .v (.bool ((r4.1.Low == 0) && ((r4.1.High == 1) && true)))) (e := (r3.1 == 3)) (by decide) rfl hb14 rfl ?_
                  refine o_move (v := .v (.bool ((r4.1.Low == 0) && ((r4.1.High == 1) && true)))) (by decide) rfl ?_
                  rcases Bool.eq_false_or_eq_true ((r4.1.Low == 0) && ((r4.1.High == 1) && true)) with hb15 | hb15
                  · replace hM := ifT hM hb15
                    refine o_guardY (j := 31) (e := ((r4.1.Low == 0) && ((r4.1.High == 1) && true))) (want := true) rfl hb15 ?_
                    refine o_move (v := .sl .no 1 (r5.1.map cI)) (by decide) rfl ?_
                    refine o_guardY (j := 31) (e := ((r4.1.Low == 0) && ((r4.1.High == 1) && true))) (want := true) rfl hb15 ?_
                    refine o_buildSlice (es := [[.v (.int .i64 7)], [.v (.int .i64 37)], [.v (.int .i64 47)], [.v (.int .i64 147)], [.v (.int .i64 157)], [.v (.int .i64 187)]]) hS (by decide) ty_es22 ty_el22 rfl ty_ef22 rfl (by decide) (by omega) fun H hS => ?_
                    refine o_guardY (j := 31) (e := ((r4.1.Low == 0) && ((r4.1.High == 1) && true))) (want := true) rfl hb15 ?_
                    obtain ⟨r16, hr16, hM⟩ := bindE hM
                    refine o_call (bs := [.sl .no 1 (r5.1.map cI), .sl (.id (g + 1 + 3 + 7 + 7 + 8 + 8 + 2 + 7 + 33)) 1 (([7, 37, 47, 147, 157, 187] : List Int).map cI)]) (by decide) rfl rfl ((W_ref01_SameInts hr16).le (.cons (.refl _) (.cons (.sl _ _ _) .nil))) ?_
                    refine o_pickT (v := .v (.bool r16)) (e := ((r4.1.Low == 0) && ((r4.1.High == 1) && true))) (by decide) rfl hb15 rfl ?_
                    refine o_move (v := .v (.bool r16)) (by decide) rfl ?_
                    rcases Bool.eq_false_or_eq_true r16 with hb17 | hb17
                    · replace hM := ifT hM hb17
                      refine o_guardY (j := 36) (e := r16) (want := true) rfl hb17 ?_
                      refine o_move (v := .sl .no 1 (r6.1.map cI)) (by decide) rfl ?_
                      refine o_guardY (j := 36) (e := r16) (want := true) rfl hb17 ?_
                      refine o_buildSlice (es := [[.v (.int .i64 6)]]) hS (by decide) ty_es22 ty_el22 rfl ty_ef22 rfl (by decide) (by omega) fun H hS => ?_
                      refine o_guardY (j := 36) (e := r16) (want := true) rfl hb17 ?_
                      obtain ⟨r18, hr18, hM⟩ := bindE hM
                      refine o_call (bs := [.sl .no 1 (r6.1.map cI), .sl (.id (g + 1 + 3 + 7 + 7 + 8 + 8 + 2 + 7 + 38)) 1 (([6] : List Int).map cI)]) (by decide) rfl rfl ((W_ref01_SameInts hr18).le (.cons (.refl _) (.cons (.sl _ _ _) .nil))) ?_
                      refine o_pickT (v := .v (.bool r18)) (e := r16) (by decide) rfl hb17 rfl ?_
                      refine o_assign (v := .v (.bool r18)) (by decide) rfl ?_
                      refine run_nil ?_
                      exact w_goto r18 (.cons (.refl _) .nil) ⟨(hS.keep [false, false, false] rfl).up (by omega), hM⟩
                    · replace hM := ifF hM hb17
                      refine o_guardN (j := 36) (e := r16) (want := true) (by decide) rfl hb17 ?_
                      refine o_guardN (j := 36) (e := r16) (want := true) (by decide) rfl hb17 ?_
                      refine o_guardN (j := 36) (e := r16) (want := true) (by decide) rfl hb17 ?_
                      refine o_pickF (v := .v (.bool false)) (e := r16) (by decide) rfl hb17 rfl ?_
                      refine o_assign (v := .v (.bool false)) (by decide) rfl ?_
                      refine run_nil ?_
                      exact w_goto false (.cons (.refl _) .nil) ⟨(hS.keep [false, false] rfl).up (by omega), hM⟩
                  · replace hM := ifF hM hb15
                    refine o_guardN (j := 31) (e := ((r4.1.Low == 0) && ((r4.1.High == 1) && true))) (want := true) (by decide) rfl hb15 ?_
                    refine o_guardN (j := 31) (e := ((r4.1.Low == 0) && ((r4.1.High == 1) && true))) (want := true) (by decide) rfl hb15 ?_
                    refine o_guardN (j := 31) (e := ((r4.1.Low == 0) && ((r4.1.High == 1) && true))) (want := true) (by decide) rfl hb15 ?_
                    refine o_pickF (v := .v (.bool false)) (e := ((r4.1.Low == 0) && ((r4.1.High == 1) && true))) (by decide) rfl hb15 rfl ?_
                    refine o_move (v := .v (.bool false)) (by decide) rfl ?_
                    refine o_guardN (j := 36) (e := false) (want := true) (by decide) rfl rfl ?_
                    refine o_guardN (j := 36) (e := false) (want := true) (by decide) rfl rfl ?_
                    refine o_guardN (j := 36) (e := false) (want := true) (by decide) rfl rfl ?_
                    refine o_pickF (v := .v (.bool false)) (e := false) (by decide) rfl rfl rfl ?_
                    refine o_assign (v := .v (.bool false)) (by decide) rfl ?_
                    refine run_nil ?_
                    exact w_goto false (.cons (.refl _) .nil) ⟨(hS.keep [false] rfl).up (by omega), hM⟩
                · replace hM := ifF hM hb14
                  refine o_guardN (j := 26) (e := (r3.1 == 3)) (want := true) (by decide) rfl hb14 ?_
                  refine o_guardN (j := 26) (e := (r3.1 == 3)) (want := true) (by decide) rfl hb14 ?_
                  refine o_guardN (j := 26) (e := (r3.1 == 3)) (want := true) (by decide) rfl hb14 ?_
                  refine o_pickF (v := .v (.bool false)) (e := (r3.1 == 3)) (by decide) rfl hb14 rfl ?_
                  refine o_move (v := .v (.bool false)) (by decide) rfl ?_
                  refine o_guardN (j := 31) (e := false) (want := true) (by decide) rfl rfl ?_
                  refine o_guardN (j := 31) (e := false) (want := true) (by decide) rfl rfl ?_
                  refine o_guardN (j := 31) (e := false) (want := true) (by decide) rfl rfl ?_
                  refine o_pickF (v := .v (.bool false)) (e := false) (by decide) rfl rfl rfl ?_
                  refine o_move (v := .v (.bool false)) (by decide) rfl ?_
                  refine o_guardN (j := 36) (e := false) (want := true) (by decide) rfl rfl ?_
                  refine o_guardN (j := 36) (e := false) (want := true) (by decide) rfl rfl ?_
                  refine o_guardN (j := 36) (e := false) (want := true) (by decide) rfl rfl ?_
                  refine o_pickF (v := .v (.bool false)) (e := false) (by decide) rfl rfl rfl ?_
                  refine o_assign (v := .v (.bool false)) (by decide) rfl ?_
                  refine run_nil ?_
                  exact w_goto false (.cons (.refl _) .nil) ⟨(hS.keep [false] rfl).up (by omega), hM⟩
              · replace hM := ifF hM hb13
                refine o_guardN (j := 22) (e := (r2.1 == 5)) (want := true) (by decide) rfl hb13 ?_
                refine o_guardN (j := 22) (e := (r2.1 == 5)) (want := true) (by decide) rfl hb13 ?_
                refine o_pickF (v := .v (.bool false)) (e := (r2.1 == 5)) (by decide) rfl hb13 rfl ?_
                refine o_move (v := .v (.bool false)) (by decide) rfl ?_
                refine o_guardN (j := 26) (e := false) (want := true) (by decide) rfl rfl ?_
                refine o_guardN (j := 26) (e := false) (want := true) (by decide) rfl rfl ?_
                refine o_guardN (j := 26) (e := false) (want := true) (by decide) rfl rfl ?_
                refine o_pickF (v := .v (.bool false)) (e := false) (by decide) rfl rfl rfl ?_
                refine o_move (v := .v (.bool false)) (by decide) rfl ?_
                refine o_guardN (j := 31) (e := false) (want := true) (by decide) rfl rfl ?_
                refine o_guardN (j := 31) (e := false) (want := true) (by decide) rfl rfl ?_
                refine o_guardN (j := 31) (e := false) (want := true) (by decide) rfl rfl ?_
                refine o_pickF (v := .v (.bool false)) (e := false) (by decide) rfl rfl rfl ?_
                refine o_move (v := .v (.bool false)) (by decide) rfl ?_
                refine o_guardN (j := 36) (e := false) (want := true) (by decide) rfl rfl ?_
                refine o_guardN (j := 36) (e := false) (want := true) (by decide) rfl rfl ?_
                refine o_guardN (j := 36) (e := false) (want := true) (by decide) rfl rfl ?_
                refine o_pickF (v := .v (.bool false)) (e := false) (by decide) rfl rfl rfl ?_
                refine o_assign (v := .v (.bool false)) (by decide) rfl ?_
                refine run_nil ?_
                exact w_goto false (.cons (.refl _) .nil) ⟨(hS.keep [false] rfl).up (by omega), hM⟩
            · replace hM := ifF hM hb12
              refine o_guardN (j := 18) (e := (r6.2 == 0)) (want := true) (by decide) rfl hb12 ?_
              refine o_guardN (j := 18) (e := (r6.2 == 0)) (want := true) (by decide) rfl hb12 ?_
              refine o_pickF (v := .v (.bool false)) (e := (r6.2 == 0)) (by decide) rfl hb12 rfl ?_
              refine o_move (v := .v (.bool false)) (by decide) rfl ?_
              refine o_guardN (j := 22) (e := false) (want := true) (by decide) rfl rfl ?_
              refine o_guardN (j := 22) (e := false) (want := true) (by decide) rfl rfl ?_
              refine o_pickF (v := .v (.bool false)) (e := false) (by decide) rfl rfl rfl ?_
              refine o_move (v := .v (.bool false)) (by decide) rfl ?_
              refine o_guardN (j := 26) (e := false) (want := true) (by decide) rfl rfl ?_
              refine o_guardN (j := 26) (e := false) (want := true) (by decide) rfl rfl ?_
              refine o_guardN (j := 26) (e := false) (want := true) (by decide) rfl rfl ?_
              refine o_pickF (v := .v (.bool false)) (e := false) (by decide) rfl rfl rfl ?_
              refine o_move (v := .v (.bool false)) (by decide) rfl ?_
              refine o_guardN (j := 31) (e := false) (want := true) (by decide) rfl rfl ?_
              refine o_guardN (j := 31) (e := false) (want := true) (by decide) rfl rfl ?_
              refine o_guardN (j := 31) (e := false) (want := true) (by decide) rfl rfl ?_
              refine o_pickF (v := .v (.bool false)) (e := false) (by decide) rfl rfl rfl ?_
              refine o_move (v := .v (.bool false)) (by decide) rfl ?_
              refine o_guardN (j := 36) (e := false) (want := true) (by decide) rfl rfl ?_
              refine o_guardN (j := 36) (e := false) (want := true) (by decide) rfl rfl ?_
              refine o_guardN (j := 36) (e := false) (want := true) (by decide) rfl rfl ?_
              refine o_pickF (v := .v (.bool false)) (e := false) (by decide) rfl rfl rfl ?_
              refine o_assign (v := .v (.bool false)) (by decide) rfl ?_
              refine run_nil ?_
              exact w_goto false (.cons (.refl _) .nil) ⟨(hS.keep [false] rfl).up (by omega), hM⟩
          · replace hM := ifF hM hb11
            refine o_guardN (j := 14) (e := (r5.2 == 0)) (want := true) (by decide) rfl hb11 ?_
            refine o_guardN (j := 14) (e := (r5.2 == 0)) (want := true) (by decide) rfl hb11 ?_
            refine o_pickF (v := .v (.bool false)) (e := (r5.2 == 0)) (by decide) rfl hb11 rfl ?_
            refine o_move (v := .v (.bool false)) (by decide) rfl ?_
            refine o_guardN (j := 18) (e := false) (want := true) (by decide) rfl rfl ?_
            refine o_guardN (j := 18) (e := false) (want := true) (by decide) rfl rfl ?_
            refine o_pickF (v := .v (.bool false)) (e := false) (by decide) rfl rfl rfl ?_
            refine o_move (v := .v (.bool false)) (by decide) rfl ?_
            refine o_guardN (j := 22) (e := false) (want := true) (by decide) rfl rfl ?_
            refine o_guardN (j := 22) (e := false) (want := true) (by decide) rfl rfl ?_
            refine o_pickF (v := .v (.bool false)) (e := false) (by decide) rfl rfl rfl ?_
            refine o_move (v := .v (.bool false)) (by decide) rfl ?_
            refine o_guardN (j := 26) (e := false) (want := true) (by decide) rfl rfl ?_
            refine o_guardN (j := 26) (e := false) (want := true) (by decide) rfl rfl ?_
            refine o_guardN (j := 26) (e := false) (want := true) (by decide) rfl rfl ?_
            refine o_pickF (v := .v (.bool false)) (e := false) (by decide) rfl rfl rfl ?_
            refine o_move (v := .v (.bool false)) (by decide) rfl ?_
            refine o_guardN (j := 31) (e := false) (want := true) (by decide) rfl rfl ?_
            refine o_guardN (j := 31) (e := false) (want := true) (by decide) rfl rfl ?_
            refine o_guardN (j := 31) (e := false) (want := true) (by decide) rfl rfl ?_
            refine o_pickF (v := .v (.bool false)) (e := false) (by decide) rfl rfl rfl ?_
            refine o_move (v := .v (.bool false)) (by decide) rfl ?_
            refine o_guardN (j := 36) (e := false) (want := true) (by decide) rfl rfl ?_
            refine o_guardN (j := 36) (e := false) (want := true) (by decide) rfl rfl ?_
            refine o_guardN (j := 36) (e := false) (want := true) (by decide) rfl rfl ?_
            refine o_pickF (v := .v (.bool false)) (e := false) (by decide) rfl rfl rfl ?_
            refine o_assign (v := .v (.bool false)) (by decide) rfl ?_
            refine run_nil ?_
            exact w_goto false (.cons (.refl _) .nil) ⟨(hS.keep [false] rfl).up (by omega), hM⟩
        · replace hM := ifF hM hb10
          refine o_guardN (j := 10) (e := (r4.2 == 0)) (want := true) (by decide) rfl hb10 ?_
          refine o_guardN (j := 10) (e := (r4.2 == 0)) (want := true) (by decide) rfl hb10 ?_
          refine o_pickF (v := .v (.bool false)) (e := (r4.2 == 0)) (by decide) rfl hb10 rfl ?_
          refine o_move (v := .v (.bool false)) (by decide) rfl ?_
          refine o_guardN (j := 14) (e := false) (want := true) (by decide) rfl rfl ?_
          refine o_guardN (j := 14) (e := false) (want := true) (by decide) rfl rfl ?_
          refine o_pickF (v := .v (.bool false)) (e := false) (by decide) rfl rfl rfl ?_
          refine o_move (v := .v (.bool false)) (by decide) rfl ?_
          refine o_guardN (j := 18) (e := false) (want := true) (by decide) rfl rfl ?_
          refine o_guardN (j := 18) (e := false) (want := true) (by decide) rfl rfl ?_
          refine o_pickF (v := .v (.bool false)) (e := false) (by decide) rfl rfl rfl ?_
          refine o_move (v := .v (.bool false)) (by decide) rfl ?_
          refine o_guardN (j := 22) (e := false) (want := true) (by decide) rfl rfl ?_
          refine o_guardN (j := 22) (e := false) (want := true) (by decide) rfl rfl ?_
          refine o_pickF (v := .v (.bool false)) (e := false) (by decide) rfl rfl rfl ?_
          refine o_move (v := .v (.bool false)) (by decide) rfl ?_
          refine o_guardN (j := 26) (e := false) (want := true) (by decide) rfl rfl ?_
          refine o_guardN (j := 26) (e := false) (want := true) (by decide) rfl rfl ?_
          refine o_guardN (j := 26) (e := false) (want := true) (by decide) rfl rfl ?_
          refine o_pickF (v := .v (.bool false)) (e := false) (by decide) rfl rfl rfl ?_
          refine o_move (v := .v (.bool false)) (by decide) rfl ?_
          refine o_guardN (j := 31) (e := false) (want := true) (by decide) rfl rfl ?_
          refine o_guardN (j := 31) (e := false) (want := true) (by decide) rfl rfl ?_
          refine o_guardN (j := 31) (e := false) (want := true) (by decide) rfl rfl ?_
          refine o_pickF (v := .v (.bool false)) (e := false) (by decide) rfl rfl rfl ?_
          refine o_move (v := .v (.bool false)) (by decide) rfl ?_
          refine o_guardN (j := 36) (e := false) (want := true) (by decide) rfl rfl ?_
          refine o_guardN (j := 36) (e := false) (want := true) (by decide) rfl rfl ?_
          refine o_guardN (j := 36) (e := false) (want := true) (by decide) rfl rfl ?_
          refine o_pickF (v := .v (.bool false)) (e := false) (by decide) rfl rfl rfl ?_
          refine o_assign (v := .v (.bool false)) (by decide) rfl ?_
          refine run_nil ?_
          exact w_goto false (.cons (.refl _) .nil) ⟨(hS.keep [false] rfl).up (by omega), hM⟩
      · replace hM := ifF hM hb9
        refine o_guardN (j := 6) (e := (r3.2 == 0)) (want := true) (by decide) rfl hb9 ?_
        refine o_guardN (j := 6) (e := (r3.2 == 0)) (want := true) (by decide) rfl hb9 ?_
        refine o_pickF (v := .v (.bool false)) (e := (r3.2 == 0)) (by decide) rfl hb9 rfl ?_
        refine o_move (v := .v (.bool false)) (by decide) rfl ?_
        refine o_guardN (j := 10) (e := false) (want := true) (by decide) rfl rfl ?_
        refine o_guardN (j := 10) (e := false) (want := true) (by decide) rfl rfl ?_
        refine o_pickF (v := .v (.bool false)) (e := false) (by decide) rfl rfl rfl ?_
        refine o_move (v := .v (.bool false)) (by decide) rfl ?_
        refine o_guardN (j := 14) (e := false) (want := true) (by decide) rfl rfl ?_
        refine o_guardN (j := 14) (e := false) (want := true) (by decide) rfl rfl ?_
        refine o_pickF (v := .v (.bool false)) (e := false) (by decide) rfl rfl rfl ?_
        refine o_move (v := .v (.bool false)) (by decide) rfl ?_
        refine o_guardN (j := 18) (e := false) (want := true) (by decide) rfl rfl ?_
        refine o_guardN (j := 18) (e := false) (want := true) (by decide) rfl rfl ?_
        refine o_pickF (v := .v (.bool false)) (e := false) (by decide) rfl rfl rfl ?_
        refine o_move (v := .v (.bool false)) (by decide) rfl ?_
        refine o_guardN (j := 22) (e := false) (want := true) (by decide) rfl rfl ?_
        refine o_guardN (j := 22) (e := false) (want := true) (by decide) rfl rfl ?_
        refine o_pickF (v := .v (.bool false)) (e := false) (by decide) rfl rfl rfl ?_
        refine o_move (v := .v (.bool false)) (by decide) rfl ?_
        refine o_guardN (j := 26) (e := false) (want := true) (by decide) rfl rfl ?_
        refine o_guardN (j := 26) (e := false) (want := true) (by decide) rfl rfl ?_
        refine o_guardN (j := 26) (e := false) (want := true) (by decide) rfl rfl ?_
        refine o_pickF (v := .v (.bool false)) (e := false) (by decide) rfl rfl rfl ?_
        refine o_move (v := .v (.bool false)) (by decide) rfl ?_
        refine o_guardN (j := 31) (e := false) (want := true) (by decide) rfl rfl ?_
        refine o_guardN (j := 31) (e := false) (want := true) (by decide) rfl rfl ?_
        refine o_guardN (j := 31) (e := false) (want := true) (by decide) rfl rfl ?_
        refine o_pickF (v := .v (.bool false)) (e := false) (by decide) rfl rfl rfl ?_
        refine o_move (v := .v (.bool false)) (by decide) rfl ?_
        refine o_guardN (j := 36) (e := false) (want := true) (by decide) rfl rfl ?_
        refine o_guardN (j := 36) (e := false) (want := true) (by decide) rfl rfl ?_
        refine o_guardN (j := 36) (e := false) (want := true) (by decide) rfl rfl ?_
        refine o_pickF (v := .v (.bool false)) (e := false) (by decide) rfl rfl rfl ?_
        refine o_assign (v := .v (.bool false)) (by decide) rfl ?_
        refine run_nil ?_
        exact w_goto false (.cons (.refl _) .nil) ⟨(hS.keep [false] rfl).up (by omega), hM⟩
    · replace hM := ifF hM hb8
      refine o_guardN (j := 2) (e := (r2.2 == 0)) (want := true) (by decide) rfl hb8 ?_
      refine o_guardN (j := 2) (e := (r2.2 == 0)) (want := true) (by decide) rfl hb8 ?_
      refine o_pickF (v := .v (.bool false)) (e := (r2.2 == 0)) (by decide) rfl hb8 rfl ?_
      refine o_move (v := .v (.bool false)) (by decide) rfl ?_
      refine o_guardN (j := 6) (e := false) (want := true) (by decide) rfl rfl ?_
      refine o_guardN (j := 6) (e := false) (want := true) (by decide) rfl rfl ?_
      refine o_pickF (v := .v (.bool false)) (e := false) (by decide) rfl rfl rfl ?_
      refine o_move (v := .v (.bool false)) (by decide) rfl ?_
      refine o_guardN (j := 10) (e := false) (want := true) (by decide) rfl rfl ?_
      refine o_guardN (j := 10) (e := false) (want := true) (by decide) rfl rfl ?_
      refine o_pickF (v := .v (.bool false)) (e := false) (by decide) rfl rfl rfl ?_
      refine o_move (v := .v (.bool false)) (by decide) rfl ?_
      refine o_guardN (j := 14) (e := false) (want := true) (by decide) rfl rfl ?_
      refine o_guardN (j := 14) (e := false) (want := true) (by decide) rfl rfl ?_
      refine o_pickF (v := .v (.bool false)) (e := false) (by decide) rfl rfl rfl ?_
      refine o_move (v := .v (.bool false)) (by decide) rfl ?_
      refine o_guardN (j := 18) (e := false) (want := true) (by decide) rfl rfl ?_
      refine o_guardN (j := 18) (e := false) (want := true) (by decide) rfl rfl ?_
      refine o_pickF (v := .v (.bool false)) (e := false) (by decide) rfl rfl rfl ?_
      refine o_move (v := .v (.bool false)) (by decide) rfl ?_
      refine o_guardN (j := 22) (e := false) (want := true) (by decide) rfl rfl ?_
      refine o_guardN (j := 22) (e := false) (want := true) (by decide) rfl rfl ?_
      refine o_pickF (v := .v (.bool false)) (e := false) (by decide) rfl rfl rfl ?_
      refine o_move (v := .v (.bool false)) (by decide) rfl ?_
      refine o_guardN (j := 26) (e := false) (want := true) (by decide) rfl rfl ?_
      refine o_guardN (j := 26) (e := false) (want := true) (by decide) rfl rfl ?_
      refine o_guardN (j := 26) (e := false) (want := true) (by decide) rfl rfl ?_
      refine o_pickF (v := .v (.bool false)) (e := false) (by decide) rfl rfl rfl ?_
      refine o_move (v := .v (.bool false)) (by decide) rfl ?_
      refine o_guardN (j := 31) (e := false) (want := true) (by decide) rfl rfl ?_
      refine o_guardN (j := 31) (e := false) (want := true) (by decide) rfl rfl ?_
      refine o_guardN (j := 31) (e := false) (want := true) (by decide) rfl rfl ?_
      refine o_pickF (v := .v (.bool false)) (e := false) (by decide) rfl rfl rfl ?_
      refine o_move (v := .v (.bool false)) (by decide) rfl ?_
      refine o_guardN (j := 36) (e := false) (want := true) (by decide) rfl rfl ?_
      refine o_guardN (j := 36) (e := false) (want := true) (by decide) rfl rfl ?_
      refine o_guardN (j := 36) (e := false) (want := true) (by decide) rfl rfl ?_
      refine o_pickF (v := .v (.bool false)) (e := false) (by decide) rfl rfl rfl ?_
      refine o_assign (v := .v (.bool false)) (by decide) rfl ?_
      refine run_nil ?_
      exact w_goto false (.cons (.refl _) .nil) ⟨(hS.keep [false] rfl).up (by omega), hM⟩
theorem WO_ref13_Copy {a0 : Pulse} {r : Pulse} (hM : ref13_Copy a0 = some r) : Own0 Try.prog 15 [.agg [.v (.int .i64 a0.Letters), .v (.int .i64 a0.Numbers), .v (.int .i64 a0.Pitch), .v (.int .i64 a0.Slack), .v (.int .i64 a0.Gap), .v (.int .i64 a0.Pause), .v (.int .i64 a0.Sparks), .sl .no 1 (a0.Times.map cI)]] (aggAt [.v (.int .i64 r.Letters), .v (.int .i64 r.Numbers), .v (.int .i64 r.Pitch), .v (.int .i64 r.Slack), .v (.int .i64 r.Gap), .v (.int .i64 r.Pause), .v (.int .i64 r.Sparks)] []) 3 1 (r.Times.map cI) := by
  refine own0_of_wp mixed Try.func15 rfl (by decide) Try.ntmps15 (by simp) aggAt_le (aggAt_in (fl_cons (fl_cons (fl_cons (fl_cons (fl_cons (fl_cons (fl_cons fl_nil))))))) fl_nil (fl_map (fun x => (fl_cons fl_nil)))) fun H0 g hf => ?_
  rw [frame0_of]
  change wpA _ _ _ _ (Fr.of [(0, .agg [.v (.int .i64 a0.Letters), .v (.int .i64 a0.Numbers), .v (.int .i64 a0.Pitch), .v (.int .i64 a0.Slack), .v (.int .i64 a0.Gap), .v (.int .i64 a0.Pause), .v (.int .i64 a0.Sparks), .sl .no 1 (a0.Times.map cI)])]) H0 g
  have hS := St.start hf
  refine r_seq ?_
  refine r_region (n := 2) rfl ?_
  refine o_box (v := .agg [.v (.int .i64 a0.Letters), .v (.int .i64 a0.Numbers), .v (.int .i64 a0.Pitch), .v (.int .i64 a0.Slack), .v (.int .i64 a0.Gap), .v (.int .i64 a0.Pause), .v (.int .i64 a0.Sparks), .sl .no 1 (a0.Times.map cI)]) (cs := [.v (.int .i64 a0.Letters), .v (.int .i64 a0.Numbers), .v (.int .i64 a0.Pitch), .v (.int .i64 a0.Slack), .v (.int .i64 a0.Gap), .v (.int .i64 a0.Pause), .v (.int .i64 a0.Sparks), .sl .no 1 (a0.Times.map cI)]) hS (by decide) rfl rfl (by omega) fun H hS => ?_
  refine o_alloc hS (by decide) ty_zero24 (by omega) fun H hS => ?_
  refine run_nil ?_
  refine w_next [(1, .ptr (g + 0) 0), (2, .ptr (g + 1) 0)] (.cons (.refl _) (.cons (.refl _) .nil)) ?_
  refine r_seq ?_
  refine r_region (n := 3) rfl ?_
  refine o_load (v := .agg [.v (.int .i64 a0.Letters), .v (.int .i64 a0.Numbers), .v (.int .i64 a0.Pitch), .v (.int .i64 a0.Slack), .v (.int .i64 a0.Gap), .v (.int .i64 a0.Pause), .v (.int .i64 a0.Sparks), .sl .no 1 (a0.Times.map cI)]) 1 hS (by decide) rfl rfl .no (part_agg ty_agg24 (Nat.le_of_ble_eq_true rfl) rfl) ?_
  refine o_alloc hS (by decide) ty_zero24 (by omega) fun H hS => ?_
  refine o_store (v := .agg [.v (.int .i64 a0.Letters), .v (.int .i64 a0.Numbers), .v (.int .i64 a0.Pitch), .v (.int .i64 a0.Slack), .v (.int .i64 a0.Gap), .v (.int .i64 a0.Pause), .v (.int .i64 a0.Sparks), .sl .no 1 (a0.Times.map cI)]) (ns := [.v (.int .i64 a0.Letters), .v (.int .i64 a0.Numbers), .v (.int .i64 a0.Pitch), .v (.int .i64 a0.Slack), .v (.int .i64 a0.Gap), .v (.int .i64 a0.Pause), .v (.int .i64 a0.Sparks), .sl .no 1 (a0.Times.map cI)]) (L' := [(g + 2 + 1, .cells [.v (.int .i64 a0.Letters), .v (.int .i64 a0.Numbers), .v (.int .i64 a0.Pitch), .v (.int .i64 a0.Slack), .v (.int .i64 a0.Gap), .v (.int .i64 a0.Pause), .v (.int .i64 a0.Sparks), .sl .no 1 (a0.Times.map cI)]), (g + 1, .cells [.v (.int .i64 0), .v (.int .i64 0), .v (.int .i64 0), .v (.int .i64 0), .v (.int .i64 0), .v (.int .i64 0), .v (.int .i64 0), .sl .nil 0 []]), (g + 0, .cells [.v (.int .i64 a0.Letters), .v (.int .i64 a0.Numbers), .v (.int .i64 a0.Pitch), .v (.int .i64 a0.Slack), .v (.int .i64 a0.Gap), .v (.int .i64 a0.Pause), .v (.int .i64 a0.Sparks), .sl .no 1 (a0.Times.map cI)])]) 0 hS rfl rfl .no rfl rfl ty_var24 (Nat.le_of_ble_eq_true rfl) rfl fun H hS => ?_
  refine run_nil ?_
  refine w_next [(1, .ptr (g + 0) 0), (2, .ptr (g + 1) 0), (3, .ptr (g + 2 + 1) 0)] (.cons (.refl _) (.cons (.refl _) (.cons (.refl _) .nil))) ?_
  refine r_seq ?_
  refine r_region (n := 6) rfl ?_
  refine o_buildSlice (es := []) hS (by decide) ty_es22 ty_el22 rfl ty_ef22 rfl (by decide) (by omega) fun H hS => ?_
  refine o_fieldP (by decide) ty_fo24_7 rfl ?_
  refine o_load (v := .sl .no 1 (a0.Times.map cI)) 3 hS (by decide) rfl rfl .no (part_one ty_agg22 ty_sc22 rfl) ?_
  obtain ⟨l1, hl1, hM⟩ := bindE hM
  refine o_append (xs := ([] : List Int)) (ys := a0.Times) (zs := l1) (f := cI) (L' := [(g + 2 + 3 + 0, .row 3 l1.length), (g + 2 + 1, .cells [.v (.int .i64 a0.Letters), .v (.int .i64 a0.Numbers), .v (.int .i64 a0.Pitch), .v (.int .i64 a0.Slack), .v (.int .i64 a0.Gap), .v (.int .i64 a0.Pause), .v (.int .i64 a0.Sparks), .sl .no 1 (a0.Times.map cI)]), (g + 1, .cells [.v (.int .i64 0), .v (.int .i64 0), .v (.int .i64 0), .v (.int .i64 0), .v (.int .i64 0), .v (.int .i64 0), .v (.int .i64 0), .sl .nil 0 []]), (g + 0, .cells [.v (.int .i64 a0.Letters), .v (.int .i64 a0.Numbers), .v (.int .i64 a0.Pitch), .v (.int .i64 a0.Slack), .v (.int .i64 a0.Gap), .v (.int .i64 a0.Pause), .v (.int .i64 a0.Sparks), .sl .no 1 (a0.Times.map cI)])]) 0 hS (by decide) rfl rfl rfl rfl .no ty_es22 ty_el22 ty_ef22 hl1 rfl fun H hS => ?_
  refine o_fieldP (by decide) ty_fo24_7 rfl ?_
  refine o_store (v := .sl (.id (g + 2 + 3 + 0)) 1 (l1.map cI)) (ns := [.sl (.id (g + 2 + 3 + 0)) 1 (l1.map cI)]) (L' := [(g + 2 + 3 + 0, .row 3 l1.length), (g + 2 + 1, .cells [.v (.int .i64 a0.Letters), .v (.int .i64 a0.Numbers), .v (.int .i64 a0.Pitch), .v (.int .i64 a0.Slack), .v (.int .i64 a0.Gap), .v (.int .i64 a0.Pause), .v (.int .i64 a0.Sparks), .sl (.id (g + 2 + 3 + 0)) 1 (l1.map cI)]), (g + 1, .cells [.v (.int .i64 0), .v (.int .i64 0), .v (.int .i64 0), .v (.int .i64 0), .v (.int .i64 0), .v (.int .i64 0), .v (.int .i64 0), .sl .nil 0 []]), (g + 0, .cells [.v (.int .i64 a0.Letters), .v (.int .i64 a0.Numbers), .v (.int .i64 a0.Pitch), .v (.int .i64 a0.Slack), .v (.int .i64 a0.Gap), .v (.int .i64 a0.Pause), .v (.int .i64 a0.Sparks), .sl .no 1 (a0.Times.map cI)])]) 1 hS rfl rfl .no rfl rfl ty_var22 (Nat.le_of_ble_eq_true rfl) rfl fun H hS => ?_
  refine run_nil ?_
  replace hS := hS.keep (L' := [(g + 2 + 3 + 0, .row 3 l1.length), (g + 2 + 1, .cells [.v (.int .i64 a0.Letters), .v (.int .i64 a0.Numbers), .v (.int .i64 a0.Pitch), .v (.int .i64 a0.Slack), .v (.int .i64 a0.Gap), .v (.int .i64 a0.Pause), .v (.int .i64 a0.Sparks), .sl (.id (g + 2 + 3 + 0)) 1 (l1.map cI)]), (g + 1, .cells [.v (.int .i64 0), .v (.int .i64 0), .v (.int .i64 0), .v (.int .i64 0), .v (.int .i64 0), .v (.int .i64 0), .v (.int .i64 0), .sl .nil 0 []])]) [true, true, true, false] rfl
  refine w_next [(2, .ptr (g + 1) 0), (3, .ptr (g + 2 + 1) 0)] (.cons (.refl _) (.cons (.refl _) .nil)) ?_
  refine r_seq ?_
  refine r_region (n := 2) rfl ?_
  refine o_load (v := .agg [.v (.int .i64 a0.Letters), .v (.int .i64 a0.Numbers), .v (.int .i64 a0.Pitch), .v (.int .i64 a0.Slack), .v (.int .i64 a0.Gap), .v (.int .i64 a0.Pause), .v (.int .i64 a0.Sparks), .sl (.id (g + 2 + 3 + 0)) 1 (l1.map cI)]) 1 hS (by decide) rfl rfl .no (part_agg ty_agg24 (Nat.le_of_ble_eq_true rfl) rfl) ?_
  refine o_store (v := .agg [.v (.int .i64 a0.Letters), .v (.int .i64 a0.Numbers), .v (.int .i64 a0.Pitch), .v (.int .i64 a0.Slack), .v (.int .i64 a0.Gap), .v (.int .i64 a0.Pause), .v (.int .i64 a0.Sparks), .sl (.id (g + 2 + 3 + 0)) 1 (l1.map cI)]) (ns := [.v (.int .i64 a0.Letters), .v (.int .i64 a0.Numbers), .v (.int .i64 a0.Pitch), .v (.int .i64 a0.Slack), .v (.int .i64 a0.Gap), .v (.int .i64 a0.Pause), .v (.int .i64 a0.Sparks), .sl (.id (g + 2 + 3 + 0)) 1 (l1.map cI)]) (L' := [(g + 2 + 3 + 0, .row 3 l1.length), (g + 2 + 1, .cells [.v (.int .i64 a0.Letters), .v (.int .i64 a0.Numbers), .v (.int .i64 a0.Pitch), .v (.int .i64 a0.Slack), .v (.int .i64 a0.Gap), .v (.int .i64 a0.Pause), .v (.int .i64 a0.Sparks), .sl (.id (g + 2 + 3 + 0)) 1 (l1.map cI)]), (g + 1, .cells [.v (.int .i64 a0.Letters), .v (.int .i64 a0.Numbers), .v (.int .i64 a0.Pitch), .v (.int .i64 a0.Slack), .v (.int .i64 a0.Gap), .v (.int .i64 a0.Pause), .v (.int .i64 a0.Sparks), .sl (.id (g + 2 + 3 + 0)) 1 (l1.map cI)])]) 2 hS rfl rfl .no rfl rfl ty_var24 (Nat.le_of_ble_eq_true rfl) rfl fun H hS => ?_
  refine run_nil ?_
  replace hS := hS.keep (L' := [(g + 2 + 3 + 0, .row 3 l1.length), (g + 1, .cells [.v (.int .i64 a0.Letters), .v (.int .i64 a0.Numbers), .v (.int .i64 a0.Pitch), .v (.int .i64 a0.Slack), .v (.int .i64 a0.Gap), .v (.int .i64 a0.Pause), .v (.int .i64 a0.Sparks), .sl (.id (g + 2 + 3 + 0)) 1 (l1.map cI)])]) [true, false, true] rfl
  refine w_next [(2, .ptr (g + 1) 0)] (.cons (.refl _) .nil) ?_
  refine r_ret ?_
  obtain rfl := Option.some.inj hM
  refine w_end0 (mk := aggAt [.v (.int .i64 a0.Letters), .v (.int .i64 a0.Numbers), .v (.int .i64 a0.Pitch), .v (.int .i64 a0.Slack), .v (.int .i64 a0.Gap), .v (.int .i64 a0.Pause), .v (.int .i64 a0.Sparks)] []) (j := g + 2 + 3 + 0) (x := .agg [.v (.int .i64 a0.Letters), .v (.int .i64 a0.Numbers), .v (.int .i64 a0.Pitch), .v (.int .i64 a0.Slack), .v (.int .i64 a0.Gap), .v (.int .i64 a0.Pause), .v (.int .i64 a0.Sparks), .sl (.id (g + 2 + 3 + 0)) 1 (l1.map cI)]) (es := l1.map cI) 0 (.inr rfl) ?_ (.refl _) hS rfl (List.length_map _).symm
  exact (res_one (res_cell (x := .agg [.v (.int .i64 a0.Letters), .v (.int .i64 a0.Numbers), .v (.int .i64 a0.Pitch), .v (.int .i64 a0.Slack), .v (.int .i64 a0.Gap), .v (.int .i64 a0.Pause), .v (.int .i64 a0.Sparks), .sl (.id (g + 2 + 3 + 0)) 1 (l1.map cI)]) 1 hS rfl rfl (part_agg ty_agg24 (Nat.le_of_ble_eq_true rfl) rfl)))
theorem W_ref01_Within {a0 : Int} {a1 : Int} {a2 : Int} {r : Bool} (hM : ref01_Within a0 a1 a2 = some r) : PureSat Try.prog 35 [.v (.int .i64 a0), .v (.int .i64 a1), .v (.int .i64 a2)] (.v (.bool r)) := by
  refine pure_of_wp mixed Try.func35 rfl (by decide) Try.ntmps35 (by simp) ?pure fun H0 g hf => ?_
  case pure => exact .v _
  rw [frame0_of]
  change wpA _ _ _ _ (Fr.of [(0, .v (.int .i64 a0)), (1, .v (.int .i64 a1)), (2, .v (.int .i64 a2))]) H0 g
  have hS := St.start hf
  refine r_seq ?_
  refine r_region (n := 1) rfl ?_
  refine o_assign (v := .v (.bool false)) (by decide) rfl ?_
  refine run_nil ?_
  refine w_next [(0, .v (.int .i64 a0)), (1, .v (.int .i64 a1)), (2, .v (.int .i64 a2))] (.cons (.refl _) (.cons (.refl _) (.cons (.refl _) .nil))) ?_
  refine w_join (J := Bool) (fun j => [(6, .v (.bool j))]) (fun j H' g' => St (· < g) H0 [] H' g' ∧ ref01_Within_j1 j = some r) ?_ ?_
  · rintro v1 H g1 ⟨hS, hM⟩
    change wpA _ _ _ _ (Fr.of [(6, .v (.bool v1))]) _ _
    replace hS : St (· < g) H0 [] H g1 := hS
    replace hM : ref01_Within_j1 v1 = some r := hM
    refine r_ret ?_
    refine w_end (x := .v (.bool v1)) (f := fun r => .v (.bool r)) (.inr rfl) ?_ (.refl _) (Option.some.inj hM) hS
    exact (res_one (res_tmp (x := .v (.bool v1)) rfl))
  · refine r_region (n := 9) rfl ?_
    refine o_move (v := .v (.int .i64 a0)) (by decide) rfl ?_
    refine o_move (v := .v (.int .i64 a1)) (by decide) rfl ?_
    refine o_int (v := .v (.bool (decide (a0 ≥ a1)))) (by decide) rfl rfl rfl ?_
    refine o_move (v := .v (.bool (decide (a0 ≥ a1)))) (by decide) rfl ?_
    rcases Bool.eq_false_or_eq_true (decide (a0 ≥ a1)) with hb2 | hb2
    · replace hM := ifT hM hb2
      refine o_guardY (j := 3) (e := (decide (a0 ≥ a1))) (want := true) rfl hb2 ?_
      refine o_move (v := .v (.int .i64 a0)) (by decide) rfl ?_
      refine o_guardY (j := 3) (e := (decide (a0 ≥ a1))) (want := true) rfl hb2 ?_
      refine o_move (v := .v (.int .i64 a2)) (by decide) rfl ?_
      refine o_guardY (j := 3) (e := (decide (a0 ≥ a1))) (want := true) rfl hb2 ?_
      refine o_int (v := .v (.bool (decide (a0 ≤ a2)))) (by decide) rfl rfl rfl ?_
      refine o_pickT (v := .v (.bool (decide (a0 ≤ a2)))) (e := (decide (a0 ≥ a1))) (by decide) rfl hb2 rfl ?_
      refine o_assign (v := .v (.bool (decide (a0 ≤ a2)))) (by decide) rfl ?_
      refine run_nil ?_
      exact w_goto (decide (a0 ≤ a2)) (.cons (.refl _) .nil) ⟨(hS.keep [] rfl).up (by omega), hM⟩
    · replace hM := ifF hM hb2
      refine o_guardN (j := 3) (e := (decide (a0 ≥ a1))) (want := true) (by decide) rfl hb2 ?_
      refine o_guardN (j := 3) (e := (decide (a0 ≥ a1))) (want := true) (by decide) rfl hb2 ?_
      refine o_guardN (j := 3) (e := (decide (a0 ≥ a1))) (want := true) (by decide) rfl hb2 ?_
      refine o_pickF (v := .v (.bool false)) (e := (decide (a0 ≥ a1))) (by decide) rfl hb2 rfl ?_
      refine o_assign (v := .v (.bool false)) (by decide) rfl ?_
      refine run_nil ?_
      exact w_goto false (.cons (.refl _) .nil) ⟨(hS.keep [] rfl).up (by omega), hM⟩
theorem W_ref13_within {a0 : Int} {a1 : Int} {a2 : Int} {r : Bool} (hM : ref13_within a0 a1 a2 = some r) : PureSat Try.prog 52 [.v (.int .i64 a0), .v (.int .i64 a1), .v (.int .i64 a2)] (.v (.bool r)) := by
  refine pure_of_wp mixed Try.func52 rfl (by decide) Try.ntmps52 (by simp) ?pure fun H0 g hf => ?_
  case pure => exact .v _
  rw [frame0_of]
  change wpA _ _ _ _ (Fr.of [(0, .v (.int .i64 a0)), (1, .v (.int .i64 a1)), (2, .v (.int .i64 a2))]) H0 g
  have hS := St.start hf
  refine r_seq ?_
  refine r_region (n := 1) rfl ?_
  refine o_assign (v := .v (.bool false)) (by decide) rfl ?_
  refine run_nil ?_
  refine w_next [(0, .v (.int .i64 a0)), (1, .v (.int .i64 a1)), (2, .v (.int .i64 a2))] (.cons (.refl _) (.cons (.refl _) (.cons (.refl _) .nil))) ?_
  refine r_seq ?_
  refine r_region (n := 5) rfl ?_
  refine o_move (v := .v (.int .i64 a0)) (by decide) rfl ?_
  refine o_move (v := .v (.int .i64 a1)) (by decide) rfl ?_
  refine o_move (v := .v (.int .i64 a2)) (by decide) rfl ?_
  obtain ⟨r1, hr1, hM⟩ := bindE hM
  refine o_call (bs := [.v (.int .i64 a0), .v (.int .i64 a1), .v (.int .i64 a2)]) (by decide) rfl rfl ((W_ref01_Within hr1).le (.cons (.refl _) (.cons (.refl _) (.cons (.refl _) .nil)))) ?_
  refine o_assign (v := .v (.bool r1)) (by decide) rfl ?_
  refine run_nil ?_
  refine w_next [(6, .v (.bool r1))] (.cons (.refl _) .nil) ?_
  refine r_ret ?_
  refine w_end (x := .v (.bool r1)) (f := fun r => .v (.bool r)) (.inr rfl) ?_ (.refl _) (Option.some.inj hM) hS
  exact (res_one (res_tmp (x := .v (.bool r1)) rfl))
theorem W_ref01_Rising {n : Nat} {a0 : List Int} {a1 : Int} {a2 : Int} {r : Bool} (hM : ref01_Rising n a0 a1 a2 = some r) : PureSat Try.prog 53 [.sl .no 1 (a0.map cI), .v (.int .i64 a1), .v (.int .i64 a2)] (.v (.bool r)) := by
  refine pure_of_wp mixed Try.func53 rfl (by decide) Try.ntmps53 (by simp) ?pure fun H0 g hf => ?_
  case pure => exact .v _
  rw [frame0_of]
  change wpA _ _ _ _ (Fr.of [(0, .sl .no 1 (a0.map cI)), (1, .v (.int .i64 a1)), (2, .v (.int .i64 a2))]) H0 g
  have hS := St.start hf
  refine r_seq ?_
  refine r_region (n := 1) rfl ?_
  refine o_assign (v := .v (.bool false)) (by decide) rfl ?_
  refine run_nil ?_
  refine w_next [(0, .sl .no 1 (a0.map cI)), (1, .v (.int .i64 a1)), (2, .v (.int .i64 a2))] (.cons (.refl _) (.cons (.refl _) (.cons (.refl _) .nil))) ?_
  refine w_join (J := Unit) (fun j => []) (fun j H' g' => St (· < g) H0 [] H' g' ∧ ref01_Rising_j1 = some r) ?_ ?_
  · rintro _ H g1 ⟨hS, hM⟩
    change wpA _ _ _ _ (Fr.of []) _ _
    replace hS : St (· < g) H0 [] H g1 := hS
    replace hM : ref01_Rising_j1 = some r := hM
    refine r_seq ?_
    refine r_region (n := 1) rfl ?_
    refine o_assign (v := .v (.bool true)) (by decide) rfl ?_
    refine run_nil ?_
    refine w_next [(6, .v (.bool true))] (.cons (.refl _) .nil) ?_
    refine r_ret ?_
    refine w_end (x := .v (.bool true)) (f := fun r => .v (.bool r)) (.inr rfl) ?_ (.refl _) (Option.some.inj hM) hS
    exact (res_one (res_tmp (x := .v (.bool true)) rfl))
  · refine r_seq ?_
    refine r_region (n := 1) rfl ?_
    refine o_assign (v := .v (.int .i64 0)) (by decide) rfl ?_
    refine run_nil ?_
    refine w_next [(0, .sl .no 1 (a0.map cI)), (1, .v (.int .i64 a1)), (2, .v (.int .i64 a2)), (7, .v (.int .i64 0))] (.cons (.refl _) (.cons (.refl _) (.cons (.refl _) (.cons (.refl _) .nil)))) ?_
    refine r_block ?_
    refine w_loop (V := Int) (fun v => [(0, .sl .no 1 (a0.map cI)), (1, .v (.int .i64 a1)), (2, .v (.int .i64 a2)), (7, .v (.int .i64 v))]) (fun v m2 H' g' => St (· < g) H0 [] H' g' ∧ ref01_Rising_l1 a0 a1 a2 m2 v = some r) (n := n) 0 (.cons (.refl _) (.cons (.refl _) (.cons (.refl _) (.cons (.refl _) .nil)))) ⟨(hS.keep [] rfl).up (by omega), hM⟩ ?_
    rintro v1 m2 H g2 ⟨hS, hM⟩
    obtain _ | m2 := m2
    · exact nomatch (show none = some _ from hM)
    change wpA _ _ _ _ (Fr.of [(0, .sl .no 1 (a0.map cI)), (1, .v (.int .i64 a1)), (2, .v (.int .i64 a2)), (7, .v (.int .i64 v1))]) _ _
    replace hS : St (· < g) H0 [] H g2 := hS
    replace hM : ref01_Rising_l1_b a0 a1 a2 (ref01_Rising_l1 a0 a1 a2 m2) v1 = some r := hM
    refine r_seq ?_
    refine r_seq ?_
    refine r_region (n := 4) rfl ?_
    refine o_move (v := .v (.int .i64 v1)) (by decide) rfl ?_
    refine o_move (v := .sl .no 1 (a0.map cI)) (by decide) rfl ?_
    refine o_len (n := a0.length) (by decide) rfl (List.length_map _) ty_isl22 ?_
    refine o_int (v := .v (.bool (decide (v1 < (a0.length : Int))))) (by decide) rfl rfl rfl ?_
    refine run_nil ?_
    refine w_next [(0, .sl .no 1 (a0.map cI)), (1, .v (.int .i64 a1)), (2, .v (.int .i64 a2)), (7, .v (.int .i64 v1)), (11, .v (.bool (decide (v1 < (a0.length : Int)))))] (.cons (.refl _) (.cons (.refl _) (.cons (.refl _) (.cons (.refl _) (.cons (.refl _) .nil))))) ?_
    rcases Bool.eq_false_or_eq_true (decide (v1 < (a0.length : Int))) with hb2 | hb2
    · replace hM := ifT hM hb2
      refine w_condT (e := (decide (v1 < (a0.length : Int)))) rfl hb2 ?_
      refine r_skip ?_
      refine w_next [(0, .sl .no 1 (a0.map cI)), (1, .v (.int .i64 a1)), (2, .v (.int .i64 a2)), (7, .v (.int .i64 v1))] (.cons (.refl _) (.cons (.refl _) (.cons (.refl _) (.cons (.refl _) .nil)))) ?_
      refine r_seq ?_
      refine r_block ?_
      refine w_join (J := Bool) (fun j => [(0, .sl .no 1 (a0.map cI)), (1, .v (.int .i64 a1)), (2, .v (.int .i64 a2)), (7, .v (.int .i64 v1)), (37, .v (.bool j))]) (fun j H' g' => St (· < g) H0 [] H' g' ∧ ref01_Rising_j2 (ref01_Rising_l1 a0 a1 a2 m2) v1 j = some r) ?_ ?_
      · rintro v3 H g3 ⟨hS, hM⟩
        change wpA _ _ _ _ (Fr.of [(0, .sl .no 1 (a0.map cI)), (1, .v (.int .i64 a1)), (2, .v (.int .i64 a2)), (7, .v (.int .i64 v1)), (37, .v (.bool v3))]) _ _
        replace hS : St (· < g) H0 [] H g3 := hS
        replace hM : ref01_Rising_j2 (ref01_Rising_l1 a0 a1 a2 m2) v1 v3 = some r := hM
        rcases Bool.eq_false_or_eq_true v3 with hb4 | hb4
        · replace hM := ifT hM hb4
          refine w_condT (e := v3) rfl hb4 ?_
          refine r_seq ?_
          refine r_region (n := 1) rfl ?_
          refine o_assign (v := .v (.bool false)) (by decide) rfl ?_
          refine run_nil ?_
          refine w_next [(6, .v (.bool false))] (.cons (.refl _) .nil) ?_
          refine r_ret ?_
          refine r_blk_ret ?_
          refine r_then_ret ?_
          refine w_round_ret ?_
          refine r_blk_ret ?_
          refine w_goto_ret ?_
          refine w_end (x := .v (.bool false)) (f := fun r => .v (.bool r)) (.inr rfl) ?_ (.refl _) (Option.some.inj hM) hS
          exact (res_one (res_tmp (x := .v (.bool false)) rfl))
        · replace hM := ifF hM hb4
          refine w_condF (e := v3) rfl hb4 ?_
          refine r_skip ?_
          refine r_blk_normal ?_
          refine w_next [(0, .sl .no 1 (a0.map cI)), (1, .v (.int .i64 a1)), (2, .v (.int .i64 a2)), (7, .v (.int .i64 v1))] (.cons (.refl _) (.cons (.refl _) (.cons (.refl _) (.cons (.refl _) .nil)))) ?_
          refine r_region (n := 3) rfl ?_
          refine o_move (v := .v (.int .i64 v1)) (by decide) rfl ?_
          refine o_int (v := .v (.int .i64 (w64 (v1 + 1)))) (by decide) rfl rfl rfl ?_
          refine o_assign (v := .v (.int .i64 (w64 (v1 + 1)))) (by decide) rfl ?_
          refine run_nil ?_
          exact w_round (w64 (v1 + 1)) (Nat.lt_succ_self _) (.cons (.refl _) (.cons (.refl _) (.cons (.refl _) (.cons (.refl _) .nil)))) ⟨(hS.keep [] rfl).up (by omega), hM⟩
      · have hS0 := hS
        refine r_draw (n := 24) rfl (by kernel_rfl) ?_
        refine o_move (v := .sl .no 1 (a0.map cI)) (by decide) rfl ?_
        refine o_move (v := .v (.int .i64 v1)) (by decide) rfl ?_
        obtain ⟨x5, hx5, hM⟩ := bindE hM
        refine o_index (xs := a0) (f := cI) (z := v1) (u := x5) (by decide) rfl rfl ty_es22 hx5 ?_
        refine o_loadE (v := .v (.int .i64 x5)) (by decide) rfl (part_one ty_agg3 ty_sc3 rfl) ?_
        refine o_move (v := .v (.int .i64 a1)) (by decide) rfl ?_
        refine o_move (v := .v (.int .i64 a2)) (by decide) rfl ?_
        obtain ⟨r6, hr6, hM⟩ := bindE hM
        refine o_call (bs := [.v (.int .i64 x5), .v (.int .i64 a1), .v (.int .i64 a2)]) (by decide) rfl rfl ((W_ref01_Within hr6).le (.cons (.refl _) (.cons (.refl _) (.cons (.refl _) .nil)))) ?_
        refine o_not (e := r6) (by decide) rfl ?_
        refine o_move (v := .v (.bool (!r6))) (by decide) rfl ?_
        rcases Bool.eq_false_or_eq_true (!r6) with hb7 | hb7
        · replace hM := ifT hM hb7
          refine o_guardN (j := 8) (e := (!r6)) (want := false) (by decide) rfl hb7 ?_
          refine o_guardN (j := 8) (e := (!r6)) (want := false) (by decide) rfl hb7 ?_
          refine o_guardN (j := 8) (e := (!r6)) (want := false) (by decide) rfl hb7 ?_
          refine o_guardU (j := 11) (by decide) rfl ?_
          refine o_guardU (j := 11) (by decide) rfl ?_
          refine o_guardU (j := 11) (by decide) rfl ?_
          refine o_guardU (j := 11) (by decide) rfl ?_
          refine o_guardU (j := 11) (by decide) rfl ?_
          refine o_guardU (j := 11) (by decide) rfl ?_
          refine o_guardU (j := 11) (by decide) rfl ?_
          refine o_guardU (j := 11) (by decide) rfl ?_
          refine o_guardU (j := 11) (by decide) rfl ?_
          refine o_guardU (j := 11) (by decide) rfl ?_
          refine o_guardN (j := 8) (e := (!r6)) (want := false) (by decide) rfl hb7 ?_
          refine o_pickT (v := .v (.bool true)) (e := (!r6)) (by decide) rfl hb7 rfl ?_
          refine run_nil ?_
          exact w_goto true (.cons (.refl _) (.cons (.refl _) (.cons (.refl _) (.cons (.refl _) (.cons (.refl _) .nil))))) ⟨(hS.keep [] rfl).up (by omega), hM⟩
        · replace hM := ifF hM hb7
          refine o_guardY (j := 8) (e := (!r6)) (want := false) rfl hb7 ?_
          refine o_move (v := .v (.int .i64 v1)) (by decide) rfl ?_
          refine o_guardY (j := 8) (e := (!r6)) (want := false) rfl hb7 ?_
          refine o_int (v := .v (.bool (decide (v1 > 0)))) (by decide) rfl rfl rfl ?_
          refine o_guardY (j := 8) (e := (!r6)) (want := false) rfl hb7 ?_
          refine o_move (v := .v (.bool (decide (v1 > 0)))) (by decide) rfl ?_
          rcases Bool.eq_false_or_eq_true (decide (v1 > 0)) with hb8 | hb8
          · replace hM := ifT hM hb8
            refine o_guardY (j := 11) (e := (decide (v1 > 0))) (want := true) rfl hb8 ?_
            refine o_move (v := .sl .no 1 (a0.map cI)) (by decide) rfl ?_
            refine o_guardY (j := 11) (e := (decide (v1 > 0))) (want := true) rfl hb8 ?_
            refine o_move (v := .v (.int .i64 v1)) (by decide) rfl ?_
            refine o_guardY (j := 11) (e := (decide (v1 > 0))) (want := true) rfl hb8 ?_
            obtain ⟨x9, hx9, hM⟩ := bindE hM
            refine o_index (xs := a0) (f := cI) (z := v1) (u := x9) (by decide) rfl rfl ty_es22 hx9 ?_
            refine o_guardY (j := 11) (e := (decide (v1 > 0))) (want := true) rfl hb8 ?_
            refine o_loadE (v := .v (.int .i64 x9)) (by decide) rfl (part_one ty_agg3 ty_sc3 rfl) ?_
            refine o_guardY (j := 11) (e := (decide (v1 > 0))) (want := true) rfl hb8 ?_
            refine o_move (v := .sl .no 1 (a0.map cI)) (by decide) rfl ?_
            refine o_guardY (j := 11) (e := (decide (v1 > 0))) (want := true) rfl hb8 ?_
            refine o_move (v := .v (.int .i64 v1)) (by decide) rfl ?_
            refine o_guardY (j := 11) (e := (decide (v1 > 0))) (want := true) rfl hb8 ?_
            refine o_int (v := .v (.int .i64 (w64 (v1 - 1)))) (by decide) rfl rfl rfl ?_
            refine o_guardY (j := 11) (e := (decide (v1 > 0))) (want := true) rfl hb8 ?_
            obtain ⟨x10, hx10, hM⟩ := bindE hM
            refine o_index (xs := a0) (f := cI) (z := (w64 (v1 - 1))) (u := x10) (by decide) rfl rfl ty_es22 hx10 ?_
            refine o_guardY (j := 11) (e := (decide (v1 > 0))) (want := true) rfl hb8 ?_
            refine o_loadE (v := .v (.int .i64 x10)) (by decide) rfl (part_one ty_agg3 ty_sc3 rfl) ?_
            refine o_guardY (j := 11) (e := (decide (v1 > 0))) (want := true) rfl hb8 ?_
            refine o_int (v := .v (.bool (decide (x9 ≤ x10)))) (by decide) rfl rfl rfl ?_
            refine o_guardY (j := 8) (e := (!r6)) (want := false) rfl hb7 ?_
            refine o_pickT (v := .v (.bool (decide (x9 ≤ x10)))) (e := (decide (v1 > 0))) (by decide) rfl hb8 rfl ?_
            refine o_pickF (v := .v (.bool (decide (x9 ≤ x10)))) (e := (!r6)) (by decide) rfl hb7 rfl ?_
            refine run_nil ?_
            exact w_goto (decide (x9 ≤ x10)) (.cons (.refl _) (.cons (.refl _) (.cons (.refl _) (.cons (.refl _) (.cons (.refl _) .nil))))) ⟨(hS.keep [] rfl).up (by omega), hM⟩
          · replace hM := ifF hM hb8
            refine o_guardN (j := 11) (e := (decide (v1 > 0))) (want := true) (by decide) rfl hb8 ?_
            refine o_guardN (j := 11) (e := (decide (v1 > 0))) (want := true) (by decide) rfl hb8 ?_
            refine o_guardN (j := 11) (e := (decide (v1 > 0))) (want := true) (by decide) rfl hb8 ?_
            refine o_guardN (j := 11) (e := (decide (v1 > 0))) (want := true) (by decide) rfl hb8 ?_
            refine o_guardN (j := 11) (e := (decide (v1 > 0))) (want := true) (by decide) rfl hb8 ?_
            refine o_guardN (j := 11) (e := (decide (v1 > 0))) (want := true) (by decide) rfl hb8 ?_
            refine o_guardN (j := 11) (e := (decide (v1 > 0))) (want := true) (by decide) rfl hb8 ?_
            refine o_guardN (j := 11) (e := (decide (v1 > 0))) (want := true) (by decide) rfl hb8 ?_
            refine o_guardN (j := 11) (e := (decide (v1 > 0))) (want := true) (by decide) rfl hb8 ?_
            refine o_guardN (j := 11) (e := (decide (v1 > 0))) (want := true) (by decide) rfl hb8 ?_
            refine o_guardY (j := 8) (e := (!r6)) (want := false) rfl hb7 ?_
            refine o_pickF (v := .v (.bool false)) (e := (decide (v1 > 0))) (by decide) rfl hb8 rfl ?_
            refine o_pickF (v := .v (.bool false)) (e := (!r6)) (by decide) rfl hb7 rfl ?_
            refine run_nil ?_
            exact w_goto false (.cons (.refl _) (.cons (.refl _) (.cons (.refl _) (.cons (.refl _) (.cons (.refl _) .nil))))) ⟨(hS.keep [] rfl).up (by omega), hM⟩
    · replace hM := ifF hM hb2
      refine w_condF (e := (decide (v1 < (a0.length : Int)))) rfl hb2 ?_
      refine r_exit ?_
      refine r_then_exit ?_
      refine w_round_exit ?_
      refine r_blk_exit ?_
      exact w_goto () .nil ⟨(hS.keep [] rfl).up (by omega), hM⟩
theorem W_ref13_Check {n : Nat} {a0 : Pulse} {r : Int} (hM : ref13_Check n a0 = some r) : PureSat Try.prog 17 [.agg [.v (.int .i64 a0.Letters), .v (.int .i64 a0.Numbers), .v (.int .i64 a0.Pitch), .v (.int .i64 a0.Slack), .v (.int .i64 a0.Gap), .v (.int .i64 a0.Pause), .v (.int .i64 a0.Sparks), .sl .no 1 (a0.Times.map cI)]] (.v (.int .i64 r)) := by
  refine pure_of_wp mixed Try.func17 rfl (by decide) Try.ntmps17 (by simp) ?pure fun H0 g hf => ?_
  case pure => exact .v _
  rw [frame0_of]
  change wpA _ _ _ _ (Fr.of [(0, .agg [.v (.int .i64 a0.Letters), .v (.int .i64 a0.Numbers), .v (.int .i64 a0.Pitch), .v (.int .i64 a0.Slack), .v (.int .i64 a0.Gap), .v (.int .i64 a0.Pause), .v (.int .i64 a0.Sparks), .sl .no 1 (a0.Times.map cI)])]) H0 g
  have hS := St.start hf
  refine r_seq ?_
  refine r_region (n := 2) rfl ?_
  refine o_box (v := .agg [.v (.int .i64 a0.Letters), .v (.int .i64 a0.Numbers), .v (.int .i64 a0.Pitch), .v (.int .i64 a0.Slack), .v (.int .i64 a0.Gap), .v (.int .i64 a0.Pause), .v (.int .i64 a0.Sparks), .sl .no 1 (a0.Times.map cI)]) (cs := [.v (.int .i64 a0.Letters), .v (.int .i64 a0.Numbers), .v (.int .i64 a0.Pitch), .v (.int .i64 a0.Slack), .v (.int .i64 a0.Gap), .v (.int .i64 a0.Pause), .v (.int .i64 a0.Sparks), .sl .no 1 (a0.Times.map cI)]) hS (by decide) rfl rfl (by omega) fun H hS => ?_
  refine o_assign (v := .v (.int .i64 0)) (by decide) rfl ?_
  refine run_nil ?_
  refine w_next [(1, .ptr (g + 0) 0)] (.cons (.refl _) .nil) ?_
  refine r_seq ?_
  refine w_join (J := Bool) (fun j => [(66, .v (.bool j))]) (fun j H' g' => St (· < g) H0 [] H' g' ∧ ref13_Check_j1 j = some r) ?_ ?_
  · rintro v1 H g1 ⟨hS, hM⟩
    change wpA _ _ _ _ (Fr.of [(66, .v (.bool v1))]) _ _
    replace hS : St (· < g) H0 [] H g1 := hS
    replace hM : ref13_Check_j1 v1 = some r := hM
    rcases Bool.eq_false_or_eq_true v1 with hb2 | hb2
    · replace hM := ifT hM hb2
      refine w_condT (e := v1) rfl hb2 ?_
      refine r_seq ?_
      refine r_region (n := 1) rfl ?_
      refine o_assign (v := .v (.int .i64 130)) (by decide) rfl ?_
      refine run_nil ?_
      refine w_next [(2, .v (.int .i64 130))] (.cons (.refl _) .nil) ?_
      refine r_ret ?_
      refine r_then_ret ?_
      refine w_end (x := .v (.int .i64 130)) (f := fun r => .v (.int .i64 r)) (.inr rfl) ?_ (.refl _) (Option.some.inj hM) hS
      exact (res_one (res_tmp (x := .v (.int .i64 130)) rfl))
    · replace hM := ifF hM hb2
      refine w_condF (e := v1) rfl hb2 ?_
      refine r_skip ?_
      refine w_next [] .nil ?_
      refine r_seq ?_
      refine r_region (n := 1) rfl ?_
      refine o_assign (v := .v (.int .i64 0)) (by decide) rfl ?_
      refine run_nil ?_
      refine w_next [(2, .v (.int .i64 0))] (.cons (.refl _) .nil) ?_
      refine r_ret ?_
      refine w_end (x := .v (.int .i64 0)) (f := fun r => .v (.int .i64 r)) (.inr rfl) ?_ (.refl _) (Option.some.inj hM) hS
      exact (res_one (res_tmp (x := .v (.int .i64 0)) rfl))
  · refine r_region (n := 64) rfl ?_
    refine o_fieldP (by decide) ty_fo24_0 rfl ?_
    refine o_load (v := .v (.int .i64 a0.Letters)) 0 hS (by decide) rfl rfl .no (part_one ty_agg3 ty_sc3 rfl) ?_
    obtain ⟨r3, hr3, hM⟩ := bindE hM
    refine o_call (bs := [.v (.int .i64 a0.Letters), .v (.int .i64 1), .v (.int .i64 5)]) (by decide) rfl rfl ((W_ref13_within hr3).le (.cons (.refl _) (.cons (.refl _) (.cons (.refl _) .nil)))) ?_
    refine o_not (e := r3) (by decide) rfl ?_
    refine o_move (v := .v (.bool (!r3))) (by decide) rfl ?_
    rcases Bool.eq_false_or_eq_true (!r3) with hb4 | hb4
    · replace hM := ifT hM hb4
      refine o_guardN (j := 4) (e := (!r3)) (want := false) (by decide) rfl hb4 ?_
      refine o_guardN (j := 4) (e := (!r3)) (want := false) (by decide) rfl hb4 ?_
      refine o_guardN (j := 4) (e := (!r3)) (want := false) (by decide) rfl hb4 ?_
      refine o_guardN (j := 4) (e := (!r3)) (want := false) (by decide) rfl hb4 ?_
      refine o_pickT (v := .v (.bool true)) (e := (!r3)) (by decide) rfl hb4 rfl ?_
      refine o_move (v := .v (.bool true)) (by decide) rfl ?_
      refine o_guardN (j := 10) (e := true) (want := false) (by decide) rfl rfl ?_
      refine o_guardN (j := 10) (e := true) (want := false) (by decide) rfl rfl ?_
      refine o_guardN (j := 10) (e := true) (want := false) (by decide) rfl rfl ?_
      refine o_guardN (j := 10) (e := true) (want := false) (by decide) rfl rfl ?_
      refine o_pickT (v := .v (.bool true)) (e := true) (by decide) rfl rfl rfl ?_
      refine o_move (v := .v (.bool true)) (by decide) rfl ?_
      refine o_guardN (j := 16) (e := true) (want := false) (by decide) rfl rfl ?_
      refine o_guardN (j := 16) (e := true) (want := false) (by decide) rfl rfl ?_
      refine o_guardN (j := 16) (e := true) (want := false) (by decide) rfl rfl ?_
      refine o_guardN (j := 16) (e := true) (want := false) (by decide) rfl rfl ?_
      refine o_guardN (j := 16) (e := true) (want := false) (by decide) rfl rfl ?_
      refine o_guardN (j := 16) (e := true) (want := false) (by decide) rfl rfl ?_
      refine o_guardN (j := 16) (e := true) (want := false) (by decide) rfl rfl ?_
      refine o_pickT (v := .v (.bool true)) (e := true) (by decide) rfl rfl rfl ?_
      refine o_move (v := .v (.bool true)) (by decide) rfl ?_
      refine o_guardN (j := 25) (e := true) (want := false) (by decide) rfl rfl ?_
      refine o_guardN (j := 25) (e := true) (want := false) (by decide) rfl rfl ?_
      refine o_guardN (j := 25) (e := true) (want := false) (by decide) rfl rfl ?_
      refine o_guardN (j := 25) (e := true) (want := false) (by decide) rfl rfl ?_
      refine o_pickT (v := .v (.bool true)) (e := true) (by decide) rfl rfl rfl ?_
      refine o_move (v := .v (.bool true)) (by decide) rfl ?_
      refine o_guardN (j := 31) (e := true) (want := false) (by decide) rfl rfl ?_
      refine o_guardN (j := 31) (e := true) (want := false) (by decide) rfl rfl ?_
      refine o_guardN (j := 31) (e := true) (want := false) (by decide) rfl rfl ?_
      refine o_guardN (j := 31) (e := true) (want := false) (by decide) rfl rfl ?_
      refine o_guardN (j := 31) (e := true) (want := false) (by decide) rfl rfl ?_
      refine o_guardN (j := 31) (e := true) (want := false) (by decide) rfl rfl ?_
      refine o_guardN (j := 31) (e := true) (want := false) (by decide) rfl rfl ?_
      refine o_guardN (j := 31) (e := true) (want := false) (by decide) rfl rfl ?_
      refine o_guardN (j := 31) (e := true) (want := false) (by decide) rfl rfl ?_
      refine o_guardN (j := 31) (e := true) (want := false) (by decide) rfl rfl ?_
      refine o_guardN (j := 31) (e := true) (want := false) (by decide) rfl rfl ?_
      refine o_guardN (j := 31) (e := true) (want := false) (by decide) rfl rfl ?_
      refine o_guardN (j := 31) (e := true) (want := false) (by decide) rfl rfl ?_
      refine o_pickT (v := .v (.bool true)) (e := true) (by decide) rfl rfl rfl ?_
      refine o_move (v := .v (.bool true)) (by decide) rfl ?_
      refine o_guardN (j := 46) (e := true) (want := false) (by decide) rfl rfl ?_
      refine o_guardN (j := 46) (e := true) (want := false) (by decide) rfl rfl ?_
      refine o_guardN (j := 46) (e := true) (want := false) (by decide) rfl rfl ?_
      refine o_guardN (j := 46) (e := true) (want := false) (by decide) rfl rfl ?_
      refine o_pickT (v := .v (.bool true)) (e := true) (by decide) rfl rfl rfl ?_
      refine o_move (v := .v (.bool true)) (by decide) rfl ?_
      refine o_guardN (j := 52) (e := true) (want := false) (by decide) rfl rfl ?_
      refine o_guardN (j := 52) (e := true) (want := false) (by decide) rfl rfl ?_
      refine o_guardN (j := 52) (e := true) (want := false) (by decide) rfl rfl ?_
      refine o_guardN (j := 52) (e := true) (want := false) (by decide) rfl rfl ?_
      refine o_pickT (v := .v (.bool true)) (e := true) (by decide) rfl rfl rfl ?_
      refine o_move (v := .v (.bool true)) (by decide) rfl ?_
      refine o_guardN (j := 58) (e := true) (want := false) (by decide) rfl rfl ?_
      refine o_guardN (j := 58) (e := true) (want := false) (by decide) rfl rfl ?_
      refine o_guardN (j := 58) (e := true) (want := false) (by decide) rfl rfl ?_
      refine o_guardN (j := 58) (e := true) (want := false) (by decide) rfl rfl ?_
      refine o_pickT (v := .v (.bool true)) (e := true) (by decide) rfl rfl rfl ?_
      refine run_nil ?_
      exact w_goto true (.cons (.refl _) .nil) ⟨(hS.keep [false] rfl).up (by omega), hM⟩
    · replace hM := ifF hM hb4
      refine o_guardY (j := 4) (e := (!r3)) (want := false) rfl hb4 ?_
      refine o_fieldP (by decide) ty_fo24_1 rfl ?_
      refine o_guardY (j := 4) (e := (!r3)) (want := false) rfl hb4 ?_
      refine o_load (v := .v (.int .i64 a0.Numbers)) 0 hS (by decide) rfl rfl .no (part_one ty_agg3 ty_sc3 rfl) ?_
      refine o_guardY (j := 4) (e := (!r3)) (want := false) rfl hb4 ?_
      obtain ⟨r5, hr5, hM⟩ := bindE hM
      refine o_call (bs := [.v (.int .i64 a0.Numbers), .v (.int .i64 1), .v (.int .i64 5)]) (by decide) rfl rfl ((W_ref13_within hr5).le (.cons (.refl _) (.cons (.refl _) (.cons (.refl _) .nil)))) ?_
      refine o_guardY (j := 4) (e := (!r3)) (want := false) rfl hb4 ?_
      refine o_not (e := r5) (by decide) rfl ?_
      refine o_pickF (v := .v (.bool (!r5))) (e := (!r3)) (by decide) rfl hb4 rfl ?_
      refine o_move (v := .v (.bool (!r5))) (by decide) rfl ?_
      rcases Bool.eq_false_or_eq_true (!r5) with hb6 | hb6
      · replace hM := ifT hM hb6
        refine o_guardN (j := 10) (e := (!r5)) (want := false) (by decide) rfl hb6 ?_
        refine o_guardN (j := 10) (e := (!r5)) (want := false) (by decide) rfl hb6 ?_
        refine o_guardN (j := 10) (e := (!r5)) (want := false) (by decide) rfl hb6 ?_
        refine o_guardN (j := 10) (e := (!r5)) (want := false) (by decide) rfl hb6 ?_
        refine o_pickT (v := .v (.bool true)) (e := (!r5)) (by decide) rfl hb6 rfl ?_
        refine o_move (v := .v (.bool true)) (by decide) rfl ?_
        refine o_guardN (j := 16) (e := true) (want := false) (by decide) rfl rfl ?_
        refine o_guardN (j := 16) (e := true) (want := false) (by decide) rfl rfl ?_
        refine o_guardN (j := 16) (e := true) (want := false) (by decide) rfl rfl ?_
        refine o_guardN (j := 16) (e := true) (want := false) (by decide) rfl rfl ?_
        refine o_guardN (j := 16) (e := true) (want := false) (by decide) rfl rfl ?_
        refine o_guardN (j := 16) (e := true) (want := false) (by decide) rfl rfl ?_
        refine o_guardN (j := 16) (e := true) (want := false) (by decide) rfl rfl ?_
        refine o_pickT (v := .v (.bool true)) (e := true) (by decide) rfl rfl rfl ?_
        refine o_move (v := .v (.bool true)) (by decide) rfl ?_
        refine o_guardN (j := 25) (e := true) (want := false) (by decide) rfl rfl ?_
        refine o_guardN (j := 25) (e := true) (want := false) (by decide) rfl rfl ?_
        refine o_guardN (j := 25) (e := true) (want := false) (by decide) rfl rfl ?_
        refine o_guardN (j := 25) (e := true) (want := false) (by decide) rfl rfl ?_
        refine o_pickT (v := .v (.bool true)) (e := true) (by decide) rfl rfl rfl ?_
        refine o_move (v := .v (.bool true)) (by decide) rfl ?_
        refine o_guardN (j := 31) (e := true) (want := false) (by decide) rfl rfl ?_
        refine o_guardN (j := 31) (e := true) (want := false) (by decide) rfl rfl ?_
        refine o_guardN (j := 31) (e := true) (want := false) (by decide) rfl rfl ?_
        refine o_guardN (j := 31) (e := true) (want := false) (by decide) rfl rfl ?_
        refine o_guardN (j := 31) (e := true) (want := false) (by decide) rfl rfl ?_
        refine o_guardN (j := 31) (e := true) (want := false) (by decide) rfl rfl ?_
        refine o_guardN (j := 31) (e := true) (want := false) (by decide) rfl rfl ?_
        refine o_guardN (j := 31) (e := true) (want := false) (by decide) rfl rfl ?_
        refine o_guardN (j := 31) (e := true) (want := false) (by decide) rfl rfl ?_
        refine o_guardN (j := 31) (e := true) (want := false) (by decide) rfl rfl ?_
        refine o_guardN (j := 31) (e := true) (want := false) (by decide) rfl rfl ?_
        refine o_guardN (j := 31) (e := true) (want := false) (by decide) rfl rfl ?_
        refine o_guardN (j := 31) (e := true) (want := false) (by decide) rfl rfl ?_
        refine o_pickT (v := .v (.bool true)) (e := true) (by decide) rfl rfl rfl ?_
        refine o_move (v := .v (.bool true)) (by decide) rfl ?_
        refine o_guardN (j := 46) (e := true) (want := false) (by decide) rfl rfl ?_
        refine o_guardN (j := 46) (e := true) (want := false) (by decide) rfl rfl ?_
        refine o_guardN (j := 46) (e := true) (want := false) (by decide) rfl rfl ?_
        refine o_guardN (j := 46) (e := true) (want := false) (by decide) rfl rfl ?_
        refine o_pickT (v := .v (.bool true)) (e := true) (by decide) rfl rfl rfl ?_
        refine o_move (v := .v (.bool true)) (by decide) rfl ?_
        refine o_guardN (j := 52) (e := true) (want := false) (by decide) rfl rfl ?_
        refine o_guardN (j := 52) (e := true) (want := false) (by decide) rfl rfl ?_
        refine o_guardN (j := 52) (e := true) (want := false) (by decide) rfl rfl ?_
        refine o_guardN (j := 52) (e := true) (want := false) (by decide) rfl rfl ?_
        refine o_pickT (v := .v (.bool true)) (e := true) (by decide) rfl rfl rfl ?_
        refine o_move (v := .v (.bool true)) (by decide) rfl ?_
        refine o_guardN (j := 58) (e := true) (want := false) (by decide) rfl rfl ?_
        refine o_guardN (j := 58) (e := true) (want := false) (by decide) rfl rfl ?_
        refine o_guardN (j := 58) (e := true) (want := false) (by decide) rfl rfl ?_
        refine o_guardN (j := 58) (e := true) (want := false) (by decide) rfl rfl ?_
        refine o_pickT (v := .v (.bool true)) (e := true) (by decide) rfl rfl rfl ?_
        refine run_nil ?_
        exact w_goto true (.cons (.refl _) .nil) ⟨(hS.keep [false] rfl).up (by omega), hM⟩
      · replace hM := ifF hM hb6
        refine o_guardY (j := 10) (e := (!r5)) (want := false) rfl hb6 ?_
        refine o_fieldP (by decide) ty_fo24_2 rfl ?_
        refine o_guardY (j := 10) (e := (!r5)) (want := false) rfl hb6 ?_
        refine o_load (v := .v (.int .i64 a0.Pitch)) 0 hS (by decide) rfl rfl .no (part_one ty_agg3 ty_sc3 rfl) ?_
        refine o_guardY (j := 10) (e := (!r5)) (want := false) rfl hb6 ?_
        obtain ⟨r7, hr7, hM⟩ := bindE hM
        refine o_call (bs := [.v (.int .i64 a0.Pitch), .v (.int .i64 1), .v (.int .i64 99)]) (by decide) rfl rfl ((W_ref13_within hr7).le (.cons (.refl _) (.cons (.refl _) (.cons (.refl _) .nil)))) ?_
        refine o_guardY (j := 10) (e := (!r5)) (want := false) rfl hb6 ?_
        refine o_not (e := r7) (by decide) rfl ?_
        refine o_pickF (v := .v (.bool (!r7))) (e := (!r5)) (by decide) rfl hb6 rfl ?_
        refine o_move (v := .v (.bool (!r7))) (by decide) rfl ?_
        rcases Bool.eq_false_or_eq_true (!r7) with hb8 | hb8
        · replace hM := ifT hM hb8
          refine o_guardN (j := 16) (e := (!r7)) (want := false) (by decide) rfl hb8 ?_
          refine o_guardN (j := 16) (e := (!r7)) (want := false) (by decide) rfl hb8 ?_
          refine o_guardN (j := 16) (e := (!r7)) (want := false) (by decide) rfl hb8 ?_
          refine o_guardN (j := 16) (e := (!r7)) (want := false) (by decide) rfl hb8 ?_
          refine o_guardN (j := 16) (e := (!r7)) (want := false) (by decide) rfl hb8 ?_
          refine o_guardN (j := 16) (e := (!r7)) (want := false) (by decide) rfl hb8 ?_
          refine o_guardN (j := 16) (e := (!r7)) (want := false) (by decide) rfl hb8 ?_
          refine o_pickT (v := .v (.bool true)) (e := (!r7)) (by decide) rfl hb8 rfl ?_
          refine o_move (v := .v (.bool true)) (by decide) rfl ?_
          refine o_guardN (j := 25) (e := true) (want := false) (by decide) rfl rfl ?_
          refine o_guardN (j := 25) (e := true) (want := false) (by decide) rfl rfl ?_
          refine o_guardN (j := 25) (e := true) (want := false) (by decide) rfl rfl ?_
          refine o_guardN (j := 25) (e := true) (want := false) (by decide) rfl rfl ?_
          refine o_pickT (v := .v (.bool true)) (e := true) (by decide) rfl rfl rfl ?_
          refine o_move (v := .v (.bool true)) (by decide) rfl ?_
          refine o_guardN (j := 31) (e := true) (want := false) (by decide) rfl rfl ?_
          refine o_guardN (j := 31) (e := true) (want := false) (by decide) rfl rfl ?_
          refine o_guardN (j := 31) (e := true) (want := false) (by decide) rfl rfl ?_
          refine o_guardN (j := 31) (e := true) (want := false) (by decide) rfl rfl ?_
          refine o_guardN (j := 31) (e := true) (want := false) (by decide) rfl rfl ?_
          refine o_guardN (j := 31) (e := true) (want := false) (by decide) rfl rfl ?_
          refine o_guardN (j := 31) (e := true) (want := false) (by decide) rfl rfl ?_
          refine o_guardN (j := 31) (e := true) (want := false) (by decide) rfl rfl ?_
          refine o_guardN (j := 31) (e := true) (want := false) (by decide) rfl rfl ?_
          refine o_guardN (j := 31) (e := true) (want := false) (by decide) rfl rfl ?_
          refine o_guardN (j := 31) (e := true) (want := false) (by decide) rfl rfl ?_
          refine o_guardN (j := 31) (e := true) (want := false) (by decide) rfl rfl ?_
          refine o_guardN (j := 31) (e := true) (want := false) (by decide) rfl rfl ?_
          refine o_pickT (v := .v (.bool true)) (e := true) (by decide) rfl rfl rfl ?_
          refine o_move (v := .v (.bool true)) (by decide) rfl ?_
          refine o_guardN (j := 46) (e := true) (want := false) (by decide) rfl rfl ?_
          refine o_guardN (j := 46) (e := true) (want := false) (by decide) rfl rfl ?_
          refine o_guardN (j := 46) (e := true) (want := false) (by decide) rfl rfl ?_
          refine o_guardN (j := 46) (e := true) (want := false) (by decide) rfl rfl ?_
          refine o_pickT (v := .v (.bool true)) (e := true) (by decide) rfl rfl rfl ?_
          refine o_move (v := .v (.bool true)) (by decide) rfl ?_
          refine o_guardN (j := 52) (e := true) (want := false) (by decide) rfl rfl ?_
          refine o_guardN (j := 52) (e := true) (want := false) (by decide) rfl rfl ?_
          refine o_guardN (j := 52) (e := true) (want := false) (by decide) rfl rfl ?_
          refine o_guardN (j := 52) (e := true) (want := false) (by decide) rfl rfl ?_
          refine o_pickT (v := .v (.bool true)) (e := true) (by decide) rfl rfl rfl ?_
          refine o_move (v := .v (.bool true)) (by decide) rfl ?_
          refine o_guardN (j := 58) (e := true) (want := false) (by decide) rfl rfl ?_
          refine o_guardN (j := 58) (e := true) (want := false) (by decide) rfl rfl ?_
          refine o_guardN (j := 58) (e := true) (want := false) (by decide) rfl rfl ?_
          refine o_guardN (j := 58) (e := true) (want := false) (by decide) rfl rfl ?_
          refine o_pickT (v := .v (.bool true)) (e := true) (by decide) rfl rfl rfl ?_
          refine run_nil ?_
          exact w_goto true (.cons (.refl _) .nil) ⟨(hS.keep [false] rfl).up (by omega), hM⟩
        · replace hM := ifF hM hb8
          refine o_guardY (j := 16) (e := (!r7)) (want := false) rfl hb8 ?_
          refine o_fieldP (by decide) ty_fo24_3 rfl ?_
          refine o_guardY (j := 16) (e := (!r7)) (want := false) rfl hb8 ?_
          refine o_load (v := .v (.int .i64 a0.Slack)) 0 hS (by decide) rfl rfl .no (part_one ty_agg3 ty_sc3 rfl) ?_
          refine o_guardY (j := 16) (e := (!r7)) (want := false) rfl hb8 ?_
          refine o_fieldP (by decide) ty_fo24_2 rfl ?_
          refine o_guardY (j := 16) (e := (!r7)) (want := false) rfl hb8 ?_
          refine o_load (v := .v (.int .i64 a0.Pitch)) 0 hS (by decide) rfl rfl .no (part_one ty_agg3 ty_sc3 rfl) ?_
          refine o_guardY (j := 16) (e := (!r7)) (want := false) rfl hb8 ?_
          refine o_int (v := .v (.int .i64 (w64 (a0.Pitch - 1)))) (by decide) rfl rfl rfl ?_
          refine o_guardY (j := 16) (e := (!r7)) (want := false) rfl hb8 ?_
          obtain ⟨r9, hr9, hM⟩ := bindE hM
          refine o_call (bs := [.v (.int .i64 a0.Slack), .v (.int .i64 0), .v (.int .i64 (w64 (a0.Pitch - 1)))]) (by decide) rfl rfl ((W_ref13_within hr9).le (.cons (.refl _) (.cons (.refl _) (.cons (.refl _) .nil)))) ?_
          refine o_guardY (j := 16) (e := (!r7)) (want := false) rfl hb8 ?_
          refine o_not (e := r9) (by decide) rfl ?_
          refine o_pickF (v := .v (.bool (!r9))) (e := (!r7)) (by decide) rfl hb8 rfl ?_
          refine o_move (v := .v (.bool (!r9))) (by decide) rfl ?_
          rcases Bool.eq_false_or_eq_true (!r9) with hb10 | hb10
          · replace hM := ifT hM hb10
            refine o_guardN (j := 25) (e := (!r9)) (want := false) (by decide) rfl hb10 ?_
            refine o_guardN (j := 25) (e := (!r9)) (want := false) (by decide) rfl hb10 ?_
            refine o_guardN (j := 25) (e := (!r9)) (want := false) (by decide) rfl hb10 ?_
            refine o_guardN (j := 25) (e := (!r9)) (want := false) (by decide) rfl hb10 ?_
            refine o_pickT (v := .v (.bool true)) (e := (!r9)) (by decide) rfl hb10 rfl ?_
            refine o_move (v := .v (.bool true)) (by decide) rfl ?_
            refine o_guardN (j := 31) (e := true) (want := false) (by decide) rfl rfl ?_
            refine o_guardN (j := 31) (e := true) (want := false) (by decide) rfl rfl ?_
            refine o_guardN (j := 31) (e := true) (want := false) (by decide) rfl rfl ?_
            refine o_guardN (j := 31) (e := true) (want := false) (by decide) rfl rfl ?_
            refine o_guardN (j := 31) (e := true) (want := false) (by decide) rfl rfl ?_
            refine o_guardN (j := 31) (e := true) (want := false) (by decide) rfl rfl ?_
            refine o_guardN (j := 31) (e := true) (want := false) (by decide) rfl rfl ?_
            refine o_guardN (j := 31) (e := true) (want := false) (by decide) rfl rfl ?_
            refine o_guardN (j := 31) (e := true) (want := false) (by decide) rfl rfl ?_
            refine o_guardN (j := 31) (e := true) (want := false) (by decide) rfl rfl ?_
            refine o_guardN (j := 31) (e := true) (want := false) (by decide) rfl rfl ?_
            refine o_guardN (j := 31) (e := true) (want := false) (by decide) rfl rfl ?_
            refine o_guardN (j := 31) (e := true) (want := false) (by decide) rfl rfl ?_
            refine o_pickT (v := .v (.bool true)) (e := true) (by decide) rfl rfl rfl ?_
            refine o_move (v := .v (.bool true)) (by decide) rfl ?_
            refine o_guardN (j := 46) (e := true) (want := false) (by decide) rfl rfl ?_
            refine o_guardN (j := 46) (e := true) (want := false) (by decide) rfl rfl ?_
            refine o_guardN (j := 46) (e := true) (want := false) (by decide) rfl rfl ?_
            refine o_guardN (j := 46) (e := true) (want := false) (by decide) rfl rfl ?_
            refine o_pickT (v := .v (.bool true)) (e := true) (by decide) rfl rfl rfl ?_
            refine o_move (v := .v (.bool true)) (by decide) rfl ?_
            refine o_guardN (j := 52) (e := true) (want := false) (by decide) rfl rfl ?_
            refine o_guardN (j := 52) (e := true) (want := false) (by decide) rfl rfl ?_
            refine o_guardN (j := 52) (e := true) (want := false) (by decide) rfl rfl ?_
            refine o_guardN (j := 52) (e := true) (want := false) (by decide) rfl rfl ?_
            refine o_pickT (v := .v (.bool true)) (e := true) (by decide) rfl rfl rfl ?_
            refine o_move (v := .v (.bool true)) (by decide) rfl ?_
            refine o_guardN (j := 58) (e := true) (want := false) (by decide) rfl rfl ?_
            refine o_guardN (j := 58) (e := true) (want := false) (by decide) rfl rfl ?_
            refine o_guardN (j := 58) (e := true) (want := false) (by decide) rfl rfl ?_
            refine o_guardN (j := 58) (e := true) (want := false) (by decide) rfl rfl ?_
            refine o_pickT (v := .v (.bool true)) (e := true) (by decide) rfl rfl rfl ?_
            refine run_nil ?_
            exact w_goto true (.cons (.refl _) .nil) ⟨(hS.keep [false] rfl).up (by omega), hM⟩
          · replace hM := ifF hM hb10
            refine o_guardY (j := 25) (e := (!r9)) (want := false) rfl hb10 ?_
            refine o_fieldP (by decide) ty_fo24_5 rfl ?_
            refine o_guardY (j := 25) (e := (!r9)) (want := false) rfl hb10 ?_
            refine o_load (v := .v (.int .i64 a0.Pause)) 0 hS (by decide) rfl rfl .no (part_one ty_agg3 ty_sc3 rfl) ?_
            refine o_guardY (j := 25) (e := (!r9)) (want := false) rfl hb10 ?_
            obtain ⟨r11, hr11, hM⟩ := bindE hM
            refine o_call (bs := [.v (.int .i64 a0.Pause), .v (.int .i64 1), .v (.int .i64 999)]) (by decide) rfl rfl ((W_ref13_within hr11).le (.cons (.refl _) (.cons (.refl _) (.cons (.refl _) .nil)))) ?_
            refine o_guardY (j := 25) (e := (!r9)) (want := false) rfl hb10 ?_
            refine o_not (e := r11) (by decide) rfl ?_
            refine o_pickF (v := .v (.bool (!r11))) (e := (!r9)) (by decide) rfl hb10 rfl ?_
            refine o_move (v := .v (.bool (!r11))) (by decide) rfl ?_
            rcases Bool.eq_false_or_eq_true (!r11) with hb12 | hb12
            · replace hM := ifT hM hb12
              refine o_guardN (j := 31) (e := (!r11)) (want := false) (by decide) rfl hb12 ?_
              refine o_guardN (j := 31) (e := (!r11)) (want := false) (by decide) rfl hb12 ?_
              refine o_guardN (j := 31) (e := (!r11)) (want := false) (by decide) rfl hb12 ?_
              refine o_guardN (j := 31) (e := (!r11)) (want := false) (by decide) rfl hb12 ?_
              refine o_guardN (j := 31) (e := (!r11)) (want := false) (by decide) rfl hb12 ?_
              refine o_guardN (j := 31) (e := (!r11)) (want := false) (by decide) rfl hb12 ?_
              refine o_guardN (j := 31) (e := (!r11)) (want := false) (by decide) rfl hb12 ?_
              refine o_guardN (j := 31) (e := (!r11)) (want := false) (by decide) rfl hb12 ?_
              refine o_guardN (j := 31) (e := (!r11)) (want := false) (by decide) rfl hb12 ?_
              refine o_guardN (j := 31) (e := (!r11)) (want := false) (by decide) rfl hb12 ?_
              refine o_guardN (j := 31) (e := (!r11)) (want := false) (by decide) rfl hb12 ?_
              refine o_guardN (j := 31) (e := (!r11)) (want := false) (by decide) rfl hb12 ?_
              refine o_guardN (j := 31) (e := (!r11)) (want := false) (by decide) rfl hb12 ?_
              refine o_pickT (v := .v (.bool true)) (e := (!r11)) (by decide) rfl hb12 rfl ?_
              refine o_move (v := .v (.bool true)) (by decide) rfl ?_
              refine o_guardN (j := 46) (e := true) (want := false) (by decide) rfl rfl ?_
              refine o_guardN (j := 46) (e := true) (want := false) (by decide) rfl rfl ?_
              refine o_guardN (j := 46) (e := true) (want := false) (by decide) rfl rfl ?_
              refine o_guardN (j := 46) (e := true) (want := false) (by decide) rfl rfl ?_
              refine o_pickT (v := .v (.bool true)) (e := true) (by decide) rfl rfl rfl ?_
              refine o_move (v := .v (.bool true)) (by decide) rfl ?_
              refine o_guardN (j := 52) (e := true) (want := false) (by decide) rfl rfl ?_
              refine o_guardN (j := 52) (e := true) (want := false) (by decide) rfl rfl ?_
              refine o_guardN (j := 52) (e := true) (want := false) (by decide) rfl rfl ?_
              refine o_guardN (j := 52) (e := true) (want := false) (by decide) rfl rfl ?_
              refine o_pickT (v := .v (.bool true)) (e := true) (by decide) rfl rfl rfl ?_
              refine o_move (v := .v (.bool true)) (by decide) rfl ?_
              refine o_guardN (j := 58) (e := true) (want := false) (by decide) rfl rfl ?_
              refine o_guardN (j := 58) (e := true) (want := false) (by decide) rfl rfl ?_
              refine o_guardN (j := 58) (e := true) (want := false) (by decide) rfl rfl ?_
              refine o_guardN (j := 58) (e := true) (want := false) (by decide) rfl rfl ?_
              refine o_pickT (v := .v (.bool true)) (e := true) (by decide) rfl rfl rfl ?_
              refine run_nil ?_
              exact w_goto true (.cons (.refl _) .nil) ⟨(hS.keep [false] rfl).up (by omega), hM⟩
            · replace hM := ifF hM hb12
              refine o_guardY (j := 31) (e := (!r11)) (want := false) rfl hb12 ?_
              refine o_fieldP (by decide) ty_fo24_4 rfl ?_
              refine o_guardY (j := 31) (e := (!r11)) (want := false) rfl hb12 ?_
              refine o_load (v := .v (.int .i64 a0.Gap)) 0 hS (by decide) rfl rfl .no (part_one ty_agg3 ty_sc3 rfl) ?_
              refine o_guardY (j := 31) (e := (!r11)) (want := false) rfl hb12 ?_
              refine o_fieldP (by decide) ty_fo24_2 rfl ?_
              refine o_guardY (j := 31) (e := (!r11)) (want := false) rfl hb12 ?_
              refine o_load (v := .v (.int .i64 a0.Pitch)) 0 hS (by decide) rfl rfl .no (part_one ty_agg3 ty_sc3 rfl) ?_
              refine o_guardY (j := 31) (e := (!r11)) (want := false) rfl hb12 ?_
              refine o_fieldP (by decide) ty_fo24_3 rfl ?_
              refine o_guardY (j := 31) (e := (!r11)) (want := false) rfl hb12 ?_
              refine o_load (v := .v (.int .i64 a0.Slack)) 0 hS (by decide) rfl rfl .no (part_one ty_agg3 ty_sc3 rfl) ?_
              refine o_guardY (j := 31) (e := (!r11)) (want := false) rfl hb12 ?_
              refine o_int (v := .v (.int .i64 (w64 (a0.Pitch + a0.Slack)))) (by decide) rfl rfl rfl ?_
              refine o_guardY (j := 31) (e := (!r11)) (want := false) rfl hb12 ?_
              refine o_int (v := .v (.int .i64 (w64 ((w64 (a0.Pitch + a0.Slack)) + 1)))) (by decide) rfl rfl rfl ?_
              refine o_guardY (j := 31) (e := (!r11)) (want := false) rfl hb12 ?_
              refine o_fieldP (by decide) ty_fo24_5 rfl ?_
              refine o_guardY (j := 31) (e := (!r11)) (want := false) rfl hb12 ?_
              refine o_load (v := .v (.int .i64 a0.Pause)) 0 hS (by decide) rfl rfl .no (part_one ty_agg3 ty_sc3 rfl) ?_
              refine o_guardY (j := 31) (e := (!r11)) (want := false) rfl hb12 ?_
              refine o_int (v := .v (.int .i64 (w64 (a0.Pause - 1)))) (by decide) rfl rfl rfl ?_
              refine o_guardY (j := 31) (e := (!r11)) (want := false) rfl hb12 ?_
              obtain ⟨r13, hr13, hM⟩ := bindE hM
              refine o_call (bs := [.v (.int .i64 a0.Gap), .v (.int .i64 (w64 ((w64 (a0.Pitch + a0.Slack)) + 1))), .v (.int .i64 (w64 (a0.Pause - 1)))]) (by decide) rfl rfl ((W_ref13_within hr13).le (.cons (.refl _) (.cons (.refl _) (.cons (.refl _) .nil)))) ?_
              refine o_guardY (j := 31) (e := (!r11)) (want := false) rfl hb12 ?_
              refine o_not (e := r13) (by decide) rfl ?_
              refine o_pickF (v := .v (.bool (!r13))) (e := (!r11)) (by decide) rfl hb12 rfl ?_
              refine o_move (v := .v (.bool (!r13))) (by decide) rfl ?_
              rcases Bool.eq_false_or_eq_true (!r13) with hb14 | hb14
              · replace hM := ifT hM hb14
                refine o_guardN (j := 46) (e := (!r13)) (want := false) (by decide) rfl hb14 ?_
                refine o_guardN (j := 46) (e := (!r13)) (want := false) (by decide) rfl hb14 ?_
                refine o_guardN (j := 46) (e := (!r13)) (want := false) (by decide) rfl hb14 ?_
                refine o_guardN (j := 46) (e := (!r13)) (want := false) (by decide) rfl hb14 ?_
                refine o_pickT (v := .v (.bool true)) (e := (!r13)) (by decide) rfl hb14 rfl ?_
                refine o_move (v := .v (.bool true)) (by decide) rfl ?_
                refine o_guardN (j := 52) (e := true) (want := false) (by decide) rfl rfl ?_
                refine o_guardN (j := 52) (e := true) (want := false) (by decide) rfl rfl ?_
                refine o_guardN (j := 52) (e := true) (want := false) (by decide) rfl rfl ?_
                refine o_guardN (j := 52) (e := true) (want := false) (by decide) rfl rfl ?_
                refine o_pickT (v := .v (.bool true)) (e := true) (by decide) rfl rfl rfl ?_
                refine o_move (v := .v (.bool true)) (by decide) rfl ?_
                refine o_guardN (j := 58) (e := true) (want := false) (by decide) rfl rfl ?_
                refine o_guardN (j := 58) (e := true) (want := false) (by decide) rfl rfl ?_
                refine o_guardN (j := 58) (e := true) (want := false) (by decide) rfl rfl ?_
                refine o_guardN (j := 58) (e := true) (want := false) (by decide) rfl rfl ?_
                refine o_pickT (v := .v (.bool true)) (e := true) (by decide) rfl rfl rfl ?_
                refine run_nil ?_
                exact w_goto true (.cons (.refl _) .nil) ⟨(hS.keep [false] rfl).up (by omega), hM⟩
              · replace hM := ifF hM hb14
                refine o_guardY (j := 46) (e := (!r13)) (want := false) rfl hb14 ?_
                refine o_fieldP (by decide) ty_fo24_6 rfl ?_
                refine o_guardY (j := 46) (e := (!r13)) (want := false) rfl hb14 ?_
                refine o_load (v := .v (.int .i64 a0.Sparks)) 0 hS (by decide) rfl rfl .no (part_one ty_agg3 ty_sc3 rfl) ?_
                refine o_guardY (j := 46) (e := (!r13)) (want := false) rfl hb14 ?_
                obtain ⟨r15, hr15, hM⟩ := bindE hM
                refine o_call (bs := [.v (.int .i64 a0.Sparks), .v (.int .i64 0), .v (.int .i64 3)]) (by decide) rfl rfl ((W_ref13_within hr15).le (.cons (.refl _) (.cons (.refl _) (.cons (.refl _) .nil)))) ?_
                refine o_guardY (j := 46) (e := (!r13)) (want := false) rfl hb14 ?_
                refine o_not (e := r15) (by decide) rfl ?_
                refine o_pickF (v := .v (.bool (!r15))) (e := (!r13)) (by decide) rfl hb14 rfl ?_
                refine o_move (v := .v (.bool (!r15))) (by decide) rfl ?_
                rcases Bool.eq_false_or_eq_true (!r15) with hb16 | hb16
                · replace hM := ifT hM hb16
                  refine o_guardN (j := 52) (e := (!r15)) (want := false) (by decide) rfl hb16 ?_
                  refine o_guardN (j := 52) (e := (!r15)) (want := false) (by decide) rfl hb16 ?_
                  refine o_guardN (j := 52) (e := (!r15)) (want := false) (by decide) rfl hb16 ?_
                  refine o_guardN (j := 52) (e := (!r15)) (want := false) (by decide) rfl hb16 ?_
                  refine o_pickT (v := .v (.bool true)) (e := (!r15)) (by decide) rfl hb16 rfl ?_
                  refine o_move (v := .v (.bool true)) (by decide) rfl ?_
                  refine o_guardN (j := 58) (e := true) (want := false) (by decide) rfl rfl ?_
                  refine o_guardN (j := 58) (e := true) (want := false) (by decide) rfl rfl ?_
                  refine o_guardN (j := 58) (e := true) (want := false) (by decide) rfl rfl ?_
                  refine o_guardN (j := 58) (e := true) (want := false) (by decide) rfl rfl ?_
                  refine o_pickT (v := .v (.bool true)) (e := true) (by decide) rfl rfl rfl ?_
                  refine run_nil ?_
                  exact w_goto true (.cons (.refl _) .nil) ⟨(hS.keep [false] rfl).up (by omega), hM⟩
                · replace hM := ifF hM hb16
                  refine o_guardY (j := 52) (e := (!r15)) (want := false) rfl hb16 ?_
                  refine o_fieldP (by decide) ty_fo24_7 rfl ?_
                  refine o_guardY (j := 52) (e := (!r15)) (want := false) rfl hb16 ?_
                  refine o_load (v := .sl .no 1 (a0.Times.map cI)) 0 hS (by decide) rfl rfl .no (part_one ty_agg22 ty_sc22 rfl) ?_
                  refine o_guardY (j := 52) (e := (!r15)) (want := false) rfl hb16 ?_
                  refine o_len (n := a0.Times.length) (by decide) rfl (List.length_map _) ty_isl22 ?_
                  refine o_guardY (j := 52) (e := (!r15)) (want := false) rfl hb16 ?_
                  refine o_int (v := .v (.bool (decide ((a0.Times.length : Int) > 24)))) (by decide) rfl rfl rfl ?_
                  refine o_pickF (v := .v (.bool (decide ((a0.Times.length : Int) > 24)))) (e := (!r15)) (by decide) rfl hb16 rfl ?_
                  refine o_move (v := .v (.bool (decide ((a0.Times.length : Int) > 24)))) (by decide) rfl ?_
                  rcases Bool.eq_false_or_eq_true (decide ((a0.Times.length : Int) > 24)) with hb17 | hb17
                  · replace hM := ifT hM hb17
                    refine o_guardN (j := 58) (e := (decide ((a0.Times.length : Int) > 24))) (want := false) (by decide) rfl hb17 ?_
                    refine o_guardN (j := 58) (e := (decide ((a0.Times.length : Int) > 24))) (want := false) (by decide) rfl hb17 ?_
                    refine o_guardN (j := 58) (e := (decide ((a0.Times.length : Int) > 24))) (want := false) (by decide) rfl hb17 ?_
                    refine o_guardN (j := 58) (e := (decide ((a0.Times.length : Int) > 24))) (want := false) (by decide) rfl hb17 ?_
                    refine o_pickT (v := .v (.bool true)) (e := (decide ((a0.Times.length : Int) > 24))) (by decide) rfl hb17 rfl ?_
                    refine run_nil ?_
                    exact w_goto true (.cons (.refl _) .nil) ⟨(hS.keep [false] rfl).up (by omega), hM⟩
                  · replace hM := ifF hM hb17
                    refine o_guardY (j := 58) (e := (decide ((a0.Times.length : Int) > 24))) (want := false) rfl hb17 ?_
                    refine o_fieldP (by decide) ty_fo24_7 rfl ?_
                    refine o_guardY (j := 58) (e := (decide ((a0.Times.length : Int) > 24))) (want := false) rfl hb17 ?_
                    refine o_load (v := .sl .no 1 (a0.Times.map cI)) 0 hS (by decide) rfl rfl .no (part_one ty_agg22 ty_sc22 rfl) ?_
                    refine o_guardY (j := 58) (e := (decide ((a0.Times.length : Int) > 24))) (want := false) rfl hb17 ?_
                    obtain ⟨r18, hr18, hM⟩ := bindE hM
                    refine o_call (bs := [.sl .no 1 (a0.Times.map cI), .v (.int .i64 0), .v (.int .i64 99999)]) (by decide) rfl rfl ((W_ref01_Rising hr18).le (.cons (.refl _) (.cons (.refl _) (.cons (.refl _) .nil)))) ?_
                    refine o_guardY (j := 58) (e := (decide ((a0.Times.length : Int) > 24))) (want := false) rfl hb17 ?_
                    refine o_not (e := r18) (by decide) rfl ?_
                    refine o_pickF (v := .v (.bool (!r18))) (e := (decide ((a0.Times.length : Int) > 24))) (by decide) rfl hb17 rfl ?_
                    refine run_nil ?_
                    exact w_goto (!r18) (.cons (.refl _) .nil) ⟨(hS.keep [false] rfl).up (by omega), hM⟩
theorem W_law13_Far {n : Nat} {a0 : Pulse} {r : Bool} (hM : law13_Far n a0 = some r) : PureSat Try.prog 22 [.agg [.v (.int .i64 a0.Letters), .v (.int .i64 a0.Numbers), .v (.int .i64 a0.Pitch), .v (.int .i64 a0.Slack), .v (.int .i64 a0.Gap), .v (.int .i64 a0.Pause), .v (.int .i64 a0.Sparks), .sl .no 1 (a0.Times.map cI)]] (.v (.bool r)) := by
  refine pure_of_wp mixed Try.func22 rfl (by decide) Try.ntmps22 (by simp) ?pure fun H0 g hf => ?_
  case pure => exact .v _
  rw [frame0_of]
  change wpA _ _ _ _ (Fr.of [(0, .agg [.v (.int .i64 a0.Letters), .v (.int .i64 a0.Numbers), .v (.int .i64 a0.Pitch), .v (.int .i64 a0.Slack), .v (.int .i64 a0.Gap), .v (.int .i64 a0.Pause), .v (.int .i64 a0.Sparks), .sl .no 1 (a0.Times.map cI)])]) H0 g
  have hS := St.start hf
  refine r_seq ?_
  refine r_region (n := 2) rfl ?_
  refine o_box (v := .agg [.v (.int .i64 a0.Letters), .v (.int .i64 a0.Numbers), .v (.int .i64 a0.Pitch), .v (.int .i64 a0.Slack), .v (.int .i64 a0.Gap), .v (.int .i64 a0.Pause), .v (.int .i64 a0.Sparks), .sl .no 1 (a0.Times.map cI)]) (cs := [.v (.int .i64 a0.Letters), .v (.int .i64 a0.Numbers), .v (.int .i64 a0.Pitch), .v (.int .i64 a0.Slack), .v (.int .i64 a0.Gap), .v (.int .i64 a0.Pause), .v (.int .i64 a0.Sparks), .sl .no 1 (a0.Times.map cI)]) hS (by decide) rfl rfl (by omega) fun H hS => ?_
  refine o_assign (v := .v (.bool false)) (by decide) rfl ?_
  refine run_nil ?_
  refine w_next [(1, .ptr (g + 0) 0)] (.cons (.refl _) .nil) ?_
  refine w_join (J := Bool) (fun j => [(2, .v (.bool j))]) (fun j H' g' => St (· < g) H0 [] H' g' ∧ law13_Far_j1 j = some r) ?_ ?_
  · rintro v1 H g1 ⟨hS, hM⟩
    change wpA _ _ _ _ (Fr.of [(2, .v (.bool v1))]) _ _
    replace hS : St (· < g) H0 [] H g1 := hS
    replace hM : law13_Far_j1 v1 = some r := hM
    refine r_ret ?_
    refine w_end (x := .v (.bool v1)) (f := fun r => .v (.bool r)) (.inr rfl) ?_ (.refl _) (Option.some.inj hM) hS
    exact (res_one (res_tmp (x := .v (.bool v1)) rfl))
  · refine r_region (n := 16) rfl ?_
    refine o_fieldP (by decide) ty_fo24_7 rfl ?_
    refine o_load (v := .sl .no 1 (a0.Times.map cI)) 0 hS (by decide) rfl rfl .no (part_one ty_agg22 ty_sc22 rfl) ?_
    refine o_len (n := a0.Times.length) (by decide) rfl (List.length_map _) ty_isl22 ?_
    refine o_int (v := .v (.bool (decide ((a0.Times.length : Int) > 40)))) (by decide) rfl rfl rfl ?_
    refine o_move (v := .v (.bool (decide ((a0.Times.length : Int) > 40)))) (by decide) rfl ?_
    rcases Bool.eq_false_or_eq_true (decide ((a0.Times.length : Int) > 40)) with hb2 | hb2
    · replace hM := ifT hM hb2
      refine o_guardN (j := 4) (e := (decide ((a0.Times.length : Int) > 40))) (want := false) (by decide) rfl hb2 ?_
      refine o_guardN (j := 4) (e := (decide ((a0.Times.length : Int) > 40))) (want := false) (by decide) rfl hb2 ?_
      refine o_guardN (j := 4) (e := (decide ((a0.Times.length : Int) > 40))) (want := false) (by decide) rfl hb2 ?_
      refine o_guardN (j := 4) (e := (decide ((a0.Times.length : Int) > 40))) (want := false) (by decide) rfl hb2 ?_
      refine o_guardU (j := 8) (by decide) rfl ?_
      refine o_guardU (j := 8) (by decide) rfl ?_
      refine o_guardU (j := 8) (by decide) rfl ?_
      refine o_guardU (j := 8) (by decide) rfl ?_
      refine o_guardN (j := 4) (e := (decide ((a0.Times.length : Int) > 40))) (want := false) (by decide) rfl hb2 ?_
      refine o_pickT (v := .v (.bool true)) (e := (decide ((a0.Times.length : Int) > 40))) (by decide) rfl hb2 rfl ?_
      refine o_assign (v := .v (.bool true)) (by decide) rfl ?_
      refine run_nil ?_
      exact w_goto true (.cons (.refl _) .nil) ⟨(hS.keep [false] rfl).up (by omega), hM⟩
    · replace hM := ifF hM hb2
      refine o_guardY (j := 4) (e := (decide ((a0.Times.length : Int) > 40))) (want := false) rfl hb2 ?_
      refine o_load (v := .agg [.v (.int .i64 a0.Letters), .v (.int .i64 a0.Numbers), .v (.int .i64 a0.Pitch), .v (.int .i64 a0.Slack), .v (.int .i64 a0.Gap), .v (.int .i64 a0.Pause), .v (.int .i64 a0.Sparks), .sl .no 1 (a0.Times.map cI)]) 0 hS (by decide) rfl rfl .no (part_agg ty_agg24 (Nat.le_of_ble_eq_true rfl) rfl) ?_
      refine o_guardY (j := 4) (e := (decide ((a0.Times.length : Int) > 40))) (want := false) rfl hb2 ?_
      obtain ⟨r3, hr3, hM⟩ := bindE hM
      refine o_call (bs := [.agg [.v (.int .i64 a0.Letters), .v (.int .i64 a0.Numbers), .v (.int .i64 a0.Pitch), .v (.int .i64 a0.Slack), .v (.int .i64 a0.Gap), .v (.int .i64 a0.Pause), .v (.int .i64 a0.Sparks), .sl .no 1 (a0.Times.map cI)]]) (by decide) rfl rfl ((W_ref13_Check hr3).le (.cons (.refl _) .nil)) ?_
      refine o_guardY (j := 4) (e := (decide ((a0.Times.length : Int) > 40))) (want := false) rfl hb2 ?_
      refine o_int (v := .v (.bool (r3 == 0))) (by decide) rfl rfl rfl ?_
      refine o_guardY (j := 4) (e := (decide ((a0.Times.length : Int) > 40))) (want := false) rfl hb2 ?_
      refine o_move (v := .v (.bool (r3 == 0))) (by decide) rfl ?_
      rcases Bool.eq_false_or_eq_true (r3 == 0) with hb4 | hb4
      · replace hM := ifT hM hb4
        refine o_guardY (j := 8) (e := (r3 == 0)) (want := true) rfl hb4 ?_
        refine o_fieldP (by decide) ty_fo24_7 rfl ?_
        refine o_guardY (j := 8) (e := (r3 == 0)) (want := true) rfl hb4 ?_
        refine o_load (v := .sl .no 1 (a0.Times.map cI)) 0 hS (by decide) rfl rfl .no (part_one ty_agg22 ty_sc22 rfl) ?_
        refine o_guardY (j := 8) (e := (r3 == 0)) (want := true) rfl hb4 ?_
        refine o_len (n := a0.Times.length) (by decide) rfl (List.length_map _) ty_isl22 ?_
        refine o_guardY (j := 8) (e := (r3 == 0)) (want := true) rfl hb4 ?_
        refine o_int (v := .v (.bool (decide ((a0.Times.length : Int) > 14)))) (by decide) rfl rfl rfl ?_
        refine o_guardY (j := 4) (e := (decide ((a0.Times.length : Int) > 40))) (want := false) rfl hb2 ?_
        refine o_pickT (v := .v (.bool (decide ((a0.Times.length : Int) > 14)))) (e := (r3 == 0)) (by decide) rfl hb4 rfl ?_
        refine o_pickF (v := .v (.bool (decide ((a0.Times.length : Int) > 14)))) (e := (decide ((a0.Times.length : Int) > 40))) (by decide) rfl hb2 rfl ?_
        refine o_assign (v := .v (.bool (decide ((a0.Times.length : Int) > 14)))) (by decide) rfl ?_
        refine run_nil ?_
        exact w_goto (decide ((a0.Times.length : Int) > 14)) (.cons (.refl _) .nil) ⟨(hS.keep [false] rfl).up (by omega), hM⟩
      · replace hM := ifF hM hb4
        refine o_guardN (j := 8) (e := (r3 == 0)) (want := true) (by decide) rfl hb4 ?_
        refine o_guardN (j := 8) (e := (r3 == 0)) (want := true) (by decide) rfl hb4 ?_
        refine o_guardN (j := 8) (e := (r3 == 0)) (want := true) (by decide) rfl hb4 ?_
        refine o_guardN (j := 8) (e := (r3 == 0)) (want := true) (by decide) rfl hb4 ?_
        refine o_guardY (j := 4) (e := (decide ((a0.Times.length : Int) > 40))) (want := false) rfl hb2 ?_
        refine o_pickF (v := .v (.bool false)) (e := (r3 == 0)) (by decide) rfl hb4 rfl ?_
        refine o_pickF (v := .v (.bool false)) (e := (decide ((a0.Times.length : Int) > 40))) (by decide) rfl hb2 rfl ?_
        refine o_assign (v := .v (.bool false)) (by decide) rfl ?_
        refine run_nil ?_
        exact w_goto false (.cons (.refl _) .nil) ⟨(hS.keep [false] rfl).up (by omega), hM⟩
theorem W_pulses_Fewest {n : Nat} {a0 : Pulse} {r : Int × Int} (hM : pulses_Fewest n a0 = some r) : PureSat Try.prog 23 [.agg [.v (.int .i64 a0.Letters), .v (.int .i64 a0.Numbers), .v (.int .i64 a0.Pitch), .v (.int .i64 a0.Slack), .v (.int .i64 a0.Gap), .v (.int .i64 a0.Pause), .v (.int .i64 a0.Sparks), .sl .no 1 (a0.Times.map cI)]] (.tup [.v (.int .i64 r.1), .v (.int .i64 r.2)]) := by
  refine pure_of_wp mixed Try.func23 rfl (by decide) Try.ntmps23 (by simp) ?pure fun H0 g hf => ?_
  case pure => exact .tup _ (pl_cons (.v _) (pl_cons (.v _) pl_nil))
  rw [frame0_of]
  change wpA _ _ _ _ (Fr.of [(0, .agg [.v (.int .i64 a0.Letters), .v (.int .i64 a0.Numbers), .v (.int .i64 a0.Pitch), .v (.int .i64 a0.Slack), .v (.int .i64 a0.Gap), .v (.int .i64 a0.Pause), .v (.int .i64 a0.Sparks), .sl .no 1 (a0.Times.map cI)])]) H0 g
  have hS := St.start hf
  refine r_seq ?_
  refine r_region (n := 3) rfl ?_
  refine o_box (v := .agg [.v (.int .i64 a0.Letters), .v (.int .i64 a0.Numbers), .v (.int .i64 a0.Pitch), .v (.int .i64 a0.Slack), .v (.int .i64 a0.Gap), .v (.int .i64 a0.Pause), .v (.int .i64 a0.Sparks), .sl .no 1 (a0.Times.map cI)]) (cs := [.v (.int .i64 a0.Letters), .v (.int .i64 a0.Numbers), .v (.int .i64 a0.Pitch), .v (.int .i64 a0.Slack), .v (.int .i64 a0.Gap), .v (.int .i64 a0.Pause), .v (.int .i64 a0.Sparks), .sl .no 1 (a0.Times.map cI)]) hS (by decide) rfl rfl (by omega) fun H hS => ?_
  refine o_alloc hS (by decide) ty_zero3 (by omega) fun H hS => ?_
  refine o_alloc hS (by decide) ty_zero27 (by omega) fun H hS => ?_
  refine run_nil ?_
  refine w_next [(1, .ptr (g + 0) 0), (2, .ptr (g + 1) 0), (3, .ptr (g + 2) 0)] (.cons (.refl _) (.cons (.refl _) (.cons (.refl _) .nil))) ?_
  refine r_seq ?_
  refine r_seq ?_
  refine r_region (n := 3) rfl ?_
  refine o_load (v := .agg [.v (.int .i64 a0.Letters), .v (.int .i64 a0.Numbers), .v (.int .i64 a0.Pitch), .v (.int .i64 a0.Slack), .v (.int .i64 a0.Gap), .v (.int .i64 a0.Pause), .v (.int .i64 a0.Sparks), .sl .no 1 (a0.Times.map cI)]) 2 hS (by decide) rfl rfl .no (part_agg ty_agg24 (Nat.le_of_ble_eq_true rfl) rfl) ?_
  obtain ⟨r1, hr1, hM⟩ := bindE hM
  refine o_call (bs := [.agg [.v (.int .i64 a0.Letters), .v (.int .i64 a0.Numbers), .v (.int .i64 a0.Pitch), .v (.int .i64 a0.Slack), .v (.int .i64 a0.Gap), .v (.int .i64 a0.Pause), .v (.int .i64 a0.Sparks), .sl .no 1 (a0.Times.map cI)]]) (by decide) rfl rfl ((W_pulses_Check hr1).le (.cons (.refl _) .nil)) ?_
  refine o_assign (v := .v (.int .i64 r1)) (by decide) rfl ?_
  refine run_nil ?_
  refine w_next [(1, .ptr (g + 0) 0), (2, .ptr (g + 1) 0), (3, .ptr (g + 2) 0), (4, .v (.int .i64 r1))] (.cons (.refl _) (.cons (.refl _) (.cons (.refl _) (.cons (.refl _) .nil)))) ?_
  refine r_seq ?_
  refine r_region (n := 2) rfl ?_
  refine o_move (v := .v (.int .i64 r1)) (by decide) rfl ?_
  refine o_int (v := .v (.bool (r1 != 0))) (by decide) rfl rfl rfl ?_
  refine run_nil ?_
  refine w_next [(1, .ptr (g + 0) 0), (2, .ptr (g + 1) 0), (3, .ptr (g + 2) 0), (4, .v (.int .i64 r1)), (9, .v (.bool (r1 != 0)))] (.cons (.refl _) (.cons (.refl _) (.cons (.refl _) (.cons (.refl _) (.cons (.refl _) .nil))))) ?_
  rcases Bool.eq_false_or_eq_true (r1 != 0) with hb2 | hb2
  · replace hM := ifT hM hb2
    refine w_condT (e := (r1 != 0)) rfl hb2 ?_
    refine r_seq ?_
    refine r_region (n := 3) rfl ?_
    refine o_move (v := .v (.int .i64 r1)) (by decide) rfl ?_
    refine o_store (v := .v (.int .i64 0)) (ns := [.v (.int .i64 0)]) (L' := [(g + 2, .cells [.v (.int .i64 0)]), (g + 1, .cells [.v (.int .i64 0)]), (g + 0, .cells [.v (.int .i64 a0.Letters), .v (.int .i64 a0.Numbers), .v (.int .i64 a0.Pitch), .v (.int .i64 a0.Slack), .v (.int .i64 a0.Gap), .v (.int .i64 a0.Pause), .v (.int .i64 a0.Sparks), .sl .no 1 (a0.Times.map cI)])]) 1 hS rfl rfl .no rfl rfl ty_var3 (Nat.le_of_ble_eq_true rfl) rfl fun H hS => ?_
    refine o_store (v := .v (.int .i64 r1)) (ns := [.v (.int .i64 r1)]) (L' := [(g + 2, .cells [.v (.int .i64 r1)]), (g + 1, .cells [.v (.int .i64 0)]), (g + 0, .cells [.v (.int .i64 a0.Letters), .v (.int .i64 a0.Numbers), .v (.int .i64 a0.Pitch), .v (.int .i64 a0.Slack), .v (.int .i64 a0.Gap), .v (.int .i64 a0.Pause), .v (.int .i64 a0.Sparks), .sl .no 1 (a0.Times.map cI)])]) 0 hS rfl rfl .no rfl rfl ty_var27 (Nat.le_of_ble_eq_true rfl) rfl fun H hS => ?_
    refine run_nil ?_
    replace hS := hS.keep (L' := [(g + 2, .cells [.v (.int .i64 r1)]), (g + 1, .cells [.v (.int .i64 0)])]) [true, true, false] rfl
    refine w_next [(2, .ptr (g + 1) 0), (3, .ptr (g + 2) 0)] (.cons (.refl _) (.cons (.refl _) .nil)) ?_
    refine r_ret ?_
    refine r_then_ret ?_
    refine w_end (x := .tup [.v (.int .i64 0), .v (.int .i64 r1)]) (f := fun r => .tup [.v (.int .i64 r.1), .v (.int .i64 r.2)]) (.inr rfl) ?_ (.refl _) (Option.some.inj hM) hS
    exact (res_two (res_cell (x := .v (.int .i64 0)) 1 hS rfl rfl (part_one ty_agg3 ty_sc3 rfl)) (res_cell (x := .v (.int .i64 r1)) 0 hS rfl rfl (part_one ty_agg27 ty_sc27 rfl)))
  · replace hM := ifF hM hb2
    refine w_condF (e := (r1 != 0)) rfl hb2 ?_
    refine r_skip ?_
    refine w_next [(1, .ptr (g + 0) 0), (2, .ptr (g + 1) 0), (3, .ptr (g + 2) 0)] (.cons (.refl _) (.cons (.refl _) (.cons (.refl _) .nil))) ?_
    refine w_join (J := Int) (fun j => [(2, .ptr (g + 1) 0), (3, .ptr (g + 2) 0)]) (fun j H' g' => St (· < g) H0 [(g + 2, .cells [.v (.int .i64 0)]), (g + 1, .cells [.v (.int .i64 j)])] H' g' ∧ pulses_Fewest_j1 j = some r) ?_ ?_
    · rintro v3 H g1 ⟨hS, hM⟩
      change wpA _ _ _ _ (Fr.of [(2, .ptr (g + 1) 0), (3, .ptr (g + 2) 0)]) _ _
      replace hS : St (· < g) H0 [(g + 2, .cells [.v (.int .i64 0)]), (g + 1, .cells [.v (.int .i64 v3)])] H g1 := hS
      replace hM : pulses_Fewest_j1 v3 = some r := hM
      refine r_seq ?_
      refine r_region (n := 2) rfl ?_
      refine o_store (v := .v (.int .i64 0)) (ns := [.v (.int .i64 0)]) (L' := [(g + 2, .cells [.v (.int .i64 0)]), (g + 1, .cells [.v (.int .i64 0)])]) 1 hS rfl rfl .no rfl rfl ty_var3 (Nat.le_of_ble_eq_true rfl) rfl fun H hS => ?_
      refine o_store (v := .v (.int .i64 3)) (ns := [.v (.int .i64 3)]) (L' := [(g + 2, .cells [.v (.int .i64 3)]), (g + 1, .cells [.v (.int .i64 0)])]) 0 hS rfl rfl .no rfl rfl ty_var27 (Nat.le_of_ble_eq_true rfl) rfl fun H hS => ?_
      refine run_nil ?_
      refine w_next [(2, .ptr (g + 1) 0), (3, .ptr (g + 2) 0)] (.cons (.refl _) (.cons (.refl _) .nil)) ?_
      refine r_ret ?_
      refine w_end (x := .tup [.v (.int .i64 0), .v (.int .i64 3)]) (f := fun r => .tup [.v (.int .i64 r.1), .v (.int .i64 r.2)]) (.inr rfl) ?_ (.refl _) (Option.some.inj hM) hS
      exact (res_two (res_cell (x := .v (.int .i64 0)) 1 hS rfl rfl (part_one ty_agg3 ty_sc3 rfl)) (res_cell (x := .v (.int .i64 3)) 0 hS rfl rfl (part_one ty_agg27 ty_sc27 rfl)))
    · refine r_seq ?_
      refine r_region (n := 1) rfl ?_
      refine o_move (v := .v (.int .i64 0)) (by decide) rfl ?_
      refine run_nil ?_
      refine w_next [(1, .ptr (g + 0) 0), (2, .ptr (g + 1) 0), (3, .ptr (g + 2) 0), (11, .v (.int .i64 0))] (.cons (.refl _) (.cons (.refl _) (.cons (.refl _) (.cons (.refl _) .nil)))) ?_
      refine r_block ?_
      refine w_loop (V := Int × Int) (fun v => [(1, .ptr (g + 0) 0), (2, .ptr (g + 1) 0), (3, .ptr (g + 2) 0), (11, .v (.int .i64 v.1))]) (fun v m3 H' g' => St (· < g) H0 [(g + 2, .cells [.v (.int .i64 0)]), (g + 1, .cells [.v (.int .i64 v.2)]), (g + 0, .cells [.v (.int .i64 a0.Letters), .v (.int .i64 a0.Numbers), .v (.int .i64 a0.Pitch), .v (.int .i64 a0.Slack), .v (.int .i64 a0.Gap), .v (.int .i64 a0.Pause), .v (.int .i64 a0.Sparks), .sl .no 1 (a0.Times.map cI)])] H' g' ∧ pulses_Fewest_l1 n a0 m3 v.1 v.2 = some r) (n := n) (0, 0) (.cons (.refl _) (.cons (.refl _) (.cons (.refl _) (.cons (.refl _) .nil)))) ⟨(hS.keep [true, true, true] rfl).up (by omega), hM⟩ ?_
      rintro ⟨v5, v6⟩ m3 H g3 ⟨hS, hM⟩
      obtain _ | m3 := m3
      · exact nomatch (show none = some _ from hM)
      change wpA _ _ _ _ (Fr.of [(1, .ptr (g + 0) 0), (2, .ptr (g + 1) 0), (3, .ptr (g + 2) 0), (11, .v (.int .i64 v5))]) _ _
      replace hS : St (· < g) H0 [(g + 2, .cells [.v (.int .i64 0)]), (g + 1, .cells [.v (.int .i64 v6)]), (g + 0, .cells [.v (.int .i64 a0.Letters), .v (.int .i64 a0.Numbers), .v (.int .i64 a0.Pitch), .v (.int .i64 a0.Slack), .v (.int .i64 a0.Gap), .v (.int .i64 a0.Pause), .v (.int .i64 a0.Sparks), .sl .no 1 (a0.Times.map cI)])] H g3 := hS
      replace hM : pulses_Fewest_l1_b n a0 (pulses_Fewest_l1 n a0 m3) v5 v6 = some r := hM
      refine r_seq ?_
      refine r_region (n := 1) rfl ?_
      refine o_int (v := .v (.bool (decide (v5 < 4)))) (by decide) rfl rfl rfl ?_
      refine run_nil ?_
      refine w_next [(1, .ptr (g + 0) 0), (2, .ptr (g + 1) 0), (3, .ptr (g + 2) 0), (11, .v (.int .i64 v5)), (12, .v (.bool (decide (v5 < 4))))] (.cons (.refl _) (.cons (.refl _) (.cons (.refl _) (.cons (.refl _) (.cons (.refl _) .nil))))) ?_
      refine r_seq ?_
      rcases Bool.eq_false_or_eq_true (decide (v5 < 4)) with hb7 | hb7
      · replace hM := ifT hM hb7
        refine w_condT (e := (decide (v5 < 4))) rfl hb7 ?_
        refine r_skip ?_
        refine w_next [(1, .ptr (g + 0) 0), (2, .ptr (g + 1) 0), (3, .ptr (g + 2) 0), (11, .v (.int .i64 v5))] (.cons (.refl _) (.cons (.refl _) (.cons (.refl _) (.cons (.refl _) .nil)))) ?_
        refine r_seq ?_
        refine r_block ?_
        refine r_seq ?_
        refine r_region (n := 3) rfl ?_
        refine o_move (v := .v (.int .i64 v5)) (by decide) rfl ?_
        refine o_alloc hS (by decide) ty_zero3 (by omega) fun H hS => ?_
        refine o_store (v := .v (.int .i64 v5)) (ns := [.v (.int .i64 v5)]) (L' := [(g3 + 1 + 1, .cells [.v (.int .i64 v5)]), (g + 2, .cells [.v (.int .i64 0)]), (g + 1, .cells [.v (.int .i64 v6)]), (g + 0, .cells [.v (.int .i64 a0.Letters), .v (.int .i64 a0.Numbers), .v (.int .i64 a0.Pitch), .v (.int .i64 a0.Slack), .v (.int .i64 a0.Gap), .v (.int .i64 a0.Pause), .v (.int .i64 a0.Sparks), .sl .no 1 (a0.Times.map cI)])]) 0 hS rfl rfl .no rfl rfl ty_var3 (Nat.le_of_ble_eq_true rfl) rfl fun H hS => ?_
        refine run_nil ?_
        refine w_next [(1, .ptr (g + 0) 0), (2, .ptr (g + 1) 0), (3, .ptr (g + 2) 0), (5, .ptr (g3 + 1 + 1) 0), (11, .v (.int .i64 v5))] (.cons (.refl _) (.cons (.refl _) (.cons (.refl _) (.cons (.refl _) (.cons (.refl _) .nil))))) ?_
        refine r_seq ?_
        refine r_region (n := 4) rfl ?_
        refine o_load (v := .agg [.v (.int .i64 a0.Letters), .v (.int .i64 a0.Numbers), .v (.int .i64 a0.Pitch), .v (.int .i64 a0.Slack), .v (.int .i64 a0.Gap), .v (.int .i64 a0.Pause), .v (.int .i64 a0.Sparks), .sl .no 1 (a0.Times.map cI)]) 3 hS (by decide) rfl rfl .no (part_agg ty_agg24 (Nat.le_of_ble_eq_true rfl) rfl) ?_
        refine o_build (cs := [.v (.int .i64 a0.Letters), .v (.int .i64 a0.Numbers), .v (.int .i64 a0.Pitch), .v (.int .i64 a0.Slack), .v (.int .i64 a0.Gap), .v (.int .i64 a0.Pause), .v (.int .i64 a0.Sparks), .sl .no 1 (a0.Times.map cI)]) (by decide) ty_zero62 ty_pl62 rfl ?_
        refine o_load (v := .v (.int .i64 v5)) 0 hS (by decide) rfl rfl .no (part_one ty_agg3 ty_sc3 rfl) ?_
        refine o_new (bs := [.agg [.v (.int .i64 a0.Letters), .v (.int .i64 a0.Numbers), .v (.int .i64 a0.Pitch), .v (.int .i64 a0.Slack), .v (.int .i64 a0.Gap), .v (.int .i64 a0.Pause), .v (.int .i64 a0.Sparks), .sl .no 1 (a0.Times.map cI)], .v (.int .i64 v5)]) (.inl rfl) hS (by decide) rfl rfl (W_pulses_train_readings.le (.cons (.refl _) (.cons (.refl _) .nil))) (by omega) fun H hS => ?_
        refine run_nil ?_
        refine w_next [(1, .ptr (g + 0) 0), (2, .ptr (g + 1) 0), (3, .ptr (g + 2) 0), (5, .ptr (g3 + 1 + 1) 0), (11, .v (.int .i64 v5)), (17, .fn (.func 83) [] [.ptr (g3 + 1 + 3 + 4) 0, .ptr (g3 + 1 + 3 + 4 + 1) 0])] (.cons (.refl _) (.cons (.refl _) (.cons (.refl _) (.cons (.refl _) (.cons (.refl _) (.cons (.refl _) .nil)))))) ?_
        refine r_block ?_
        obtain ⟨r9, hr9, hM⟩ := bindE hM
        refine w_rangeR (Lo := fun s : Int × Bool => [(g3 + 1 + 1, .cells [.v (.int .i64 v5)]), (g + 2, .cells [.v (.int .i64 0)]), (g + 1, .cells [.v (.int .i64 s.1)])]) (fl := (fun s => s.2)) (R := fun x s b s' => ∃ y, x = .agg [.v (.int .u64 y.sparks), .sl .no 1 (y.list.map cI)] ∧ pulses_Fewest_r2 v5 y s = some (b, s')) (s0 := (v6, false)) (sF := r9.2) (A := [(g3 + 1 + 3 + 4, .cells [.v (.int .i64 a0.Letters), .v (.int .i64 a0.Numbers), .v (.int .i64 a0.Pitch), .v (.int .i64 a0.Slack), .v (.int .i64 a0.Gap), .v (.int .i64 a0.Pause), .v (.int .i64 a0.Sparks), .sl .no 1 (a0.Times.map cI)]), (g3 + 1 + 3 + 4 + 1, .cells [.v (.int .i64 v5)])]) (A' := [(g3 + 1 + 3 + 4, .cells [.v (.int .i64 a0.Letters), .v (.int .i64 a0.Numbers), .v (.int .i64 a0.Pitch), .v (.int .i64 a0.Slack), .v (.int .i64 a0.Gap), .v (.int .i64 a0.Pause), .v (.int .i64 a0.Sparks), .sl .no 1 (a0.Times.map cI)]), (g3 + 1 + 3 + 4 + 1, .cells [.v (.int .i64 v5)])]) (L' := [(g3 + 1 + 3 + 4 + 1, .cells [.v (.int .i64 v5)]), (g3 + 1 + 3 + 4, .cells [.v (.int .i64 a0.Letters), .v (.int .i64 a0.Numbers), .v (.int .i64 a0.Pitch), .v (.int .i64 a0.Slack), .v (.int .i64 a0.Gap), .v (.int .i64 a0.Pause), .v (.int .i64 a0.Sparks), .sl .no 1 (a0.Times.map cI)]), (g3 + 1 + 1, .cells [.v (.int .i64 v5)]), (g + 2, .cells [.v (.int .i64 0)]), (g + 1, .cells [.v (.int .i64 r9.2.1)]), (g + 0, .cells [.v (.int .i64 a0.Letters), .v (.int .i64 a0.Numbers), .v (.int .i64 a0.Pitch), .v (.int .i64 a0.Slack), .v (.int .i64 a0.Gap), .v (.int .i64 a0.Pause), .v (.int .i64 a0.Sparks), .sl .no 1 (a0.Times.map cI)])]) [(2, .ptr (g + 1) 0), (3, .ptr (g + 2) 0), (5, .ptr (g3 + 1 + 1) 0)] [1, 0, 2, 3, 4] hS (by omega) rfl rfl rfl rfl (.cons rfl (.cons rfl (.cons rfl (.cons rfl (.cons rfl .nil))))) (by decide) rfl (kl_cells (kl_cells kl_nil)) (fun _ _ => (kl_cells (kl_cells (kl_cells kl_nil)))) (fun s => (inb_st (ic_cells (ci_cons (.inl (.inl (.v _))) ci_nil) (ic_cells (ci_cons (.inl (.inl (.v _))) ci_nil) (ic_cells (ci_cons (.inl (.inl (.v _))) ci_nil) ic_nil))) inb_nil)) (fun s H hH => (ai_cons (in_ptr hH 2 rfl) (ai_cons (in_ptr hH 1 rfl) (ai_cons (in_ptr hH 0 rfl) ai_nil)))) (.cons (.refl _) (.cons (.refl _) (.cons (.refl _) .nil))) rfl (by decide) rfl ?_ (fun F Lx hk1 hnd1 hin1 hF1 h01 hf1 => W_pulses_train_readings_c1 (Lo := Lx) (p1 := g3 + 1 + 3 + 4) (p2 := g3 + 1 + 3 + 4 + 1) hk1 hnd1 hin1 (aF := pulses_Fewest_r2 v5) hF1 h01 (fun h => hf1 _ _ _ _ ⟨_, rfl, h⟩) hr9) fun H hS => ?_
        · rintro x ⟨v8, fl⟩ b s' ⟨y4, rfl, hM⟩
          rcases Bool.eq_false_or_eq_true fl with hfl | hfl
          · subst hfl; exact nomatch (show none = some _ from hM)
          subst hfl
          replace hM := ifF hM rfl
          refine ⟨rfl, fun H' g4 hf' hh' => ?_⟩
          have hS := St.start hf'
          change wpA _ _ _ _ (Fr.of [(18, .agg [.v (.int .u64 y4.sparks), .sl .no 1 (y4.list.map cI)]), (2, .ptr (g + 1) 0), (3, .ptr (g + 2) 0), (5, .ptr (g3 + 1 + 1) 0)]) _ _
          refine r_skip ?_
          refine w_rasg (l3 := [(2, .ptr (g + 1) 0), (3, .ptr (g + 2) 0), (5, .ptr (g3 + 1 + 1) 0)]) (.cons (.refl _) (.cons (.refl _) (.cons (.refl _) .nil))) hS (by omega) fun Hb H hS => ?_
          replace hS : St (fun i => i < g4 ∧ i ∉ ids [(g3 + 1 + 1, .cells [.v (.int .i64 v5)]), (g + 2, .cells [.v (.int .i64 0)]), (g + 1, .cells [.v (.int .i64 v8)])]) Hb [(g3 + 1 + 1, .cells [.v (.int .i64 v5)]), (g + 2, .cells [.v (.int .i64 0)]), (g + 1, .cells [.v (.int .i64 v8)])] H _ := hS
          refine r_block ?_
          refine r_seq ?_
          refine r_region (n := 3) rfl ?_
          refine o_load (v := .v (.int .i64 v5)) 0 hS (by decide) rfl rfl .no (part_one ty_agg3 ty_sc3 rfl) ?_
          refine o_store (v := .v (.int .i64 v5)) (ns := [.v (.int .i64 v5)]) (L' := [(g3 + 1 + 1, .cells [.v (.int .i64 v5)]), (g + 2, .cells [.v (.int .i64 0)]), (g + 1, .cells [.v (.int .i64 v5)])]) 2 hS rfl rfl .no rfl rfl ty_var3 (Nat.le_of_ble_eq_true rfl) rfl fun H hS => ?_
          refine o_store (v := .v (.int .i64 0)) (ns := [.v (.int .i64 0)]) (L' := [(g3 + 1 + 1, .cells [.v (.int .i64 v5)]), (g + 2, .cells [.v (.int .i64 0)]), (g + 1, .cells [.v (.int .i64 v5)])]) 1 hS rfl rfl .no rfl rfl ty_var27 (Nat.le_of_ble_eq_true rfl) rfl fun H hS => ?_
          refine run_nil ?_
          refine w_next [(2, .ptr (g + 1) 0), (3, .ptr (g + 2) 0)] (.cons (.refl _) (.cons (.refl _) .nil)) ?_
          refine r_ret ?_
          refine r_blk_ret ?_
          injection hM with hM
          injection hM with hm1 hm2
          subst hm1 hm2
          exact w_rout (hS.keep [true, true, true] rfl)
        rcases Bool.eq_false_or_eq_true r9.2.2 with hb10 | hb10
        · replace hM := ifT hM hb10
          refine w_rret hb10 ?_
          refine r_blk_ret ?_
          refine r_blk_ret ?_
          refine r_then_ret ?_
          refine w_round_ret ?_
          refine r_blk_ret ?_
          refine w_goto_ret ?_
          refine w_end (x := .tup [.v (.int .i64 r9.2.1), .v (.int .i64 0)]) (f := fun r => .tup [.v (.int .i64 r.1), .v (.int .i64 r.2)]) (.inr rfl) ?_ (.refl _) (Option.some.inj hM) hS
          exact (res_two (res_cell (x := .v (.int .i64 r9.2.1)) 4 hS rfl rfl (part_one ty_agg3 ty_sc3 rfl)) (res_cell (x := .v (.int .i64 0)) 3 hS rfl rfl (part_one ty_agg27 ty_sc27 rfl)))
        · replace hM := ifF hM hb10
          refine w_rnormal hb10 ?_
          refine r_blk_normal ?_
          refine r_blk_normal ?_
          replace hS := hS.keep (L' := [(g + 2, .cells [.v (.int .i64 0)]), (g + 1, .cells [.v (.int .i64 r9.2.1)]), (g + 0, .cells [.v (.int .i64 a0.Letters), .v (.int .i64 a0.Numbers), .v (.int .i64 a0.Pitch), .v (.int .i64 a0.Slack), .v (.int .i64 a0.Gap), .v (.int .i64 a0.Pause), .v (.int .i64 a0.Sparks), .sl .no 1 (a0.Times.map cI)])]) [false, false, false, true, true, true] rfl
          refine w_next [(1, .ptr (g + 0) 0), (2, .ptr (g + 1) 0), (3, .ptr (g + 2) 0), (11, .v (.int .i64 v5))] (.cons (.refl _) (.cons (.refl _) (.cons (.refl _) (.cons (.refl _) .nil)))) ?_
          refine r_region (n := 2) rfl ?_
          refine o_int (v := .v (.int .i64 (w64 (v5 + 1)))) (by decide) rfl rfl rfl ?_
          refine o_move (v := .v (.int .i64 (w64 (v5 + 1)))) (by decide) rfl ?_
          refine run_nil ?_
          exact w_round (w64 (v5 + 1), r9.2.1) (Nat.lt_succ_self _) (.cons (.refl _) (.cons (.refl _) (.cons (.refl _) (.cons (.refl _) .nil)))) ⟨(hS.keep [true, true, true] rfl).up (by omega), hM⟩
      · replace hM := ifF hM hb7
        refine w_condF (e := (decide (v5 < 4))) rfl hb7 ?_
        refine r_exit ?_
        refine r_then_exit ?_
        refine w_round_exit ?_
        refine r_blk_exit ?_
        exact w_goto v6 (.cons (.refl _) (.cons (.refl _) .nil)) ⟨(hS.keep [true, true, false] rfl).up (by omega), hM⟩
theorem W_law13_ready {n : Nat} {a0 : Pulse} {r : Bool} (hM : law13_ready n a0 = some r) : PureSat Try.prog 31 [.agg [.v (.int .i64 a0.Letters), .v (.int .i64 a0.Numbers), .v (.int .i64 a0.Pitch), .v (.int .i64 a0.Slack), .v (.int .i64 a0.Gap), .v (.int .i64 a0.Pause), .v (.int .i64 a0.Sparks), .sl .no 1 (a0.Times.map cI)]] (.v (.bool r)) := by
  refine pure_of_wp mixed Try.func31 rfl (by decide) Try.ntmps31 (by simp) ?pure fun H0 g hf => ?_
  case pure => exact .v _
  rw [frame0_of]
  change wpA _ _ _ _ (Fr.of [(0, .agg [.v (.int .i64 a0.Letters), .v (.int .i64 a0.Numbers), .v (.int .i64 a0.Pitch), .v (.int .i64 a0.Slack), .v (.int .i64 a0.Gap), .v (.int .i64 a0.Pause), .v (.int .i64 a0.Sparks), .sl .no 1 (a0.Times.map cI)])]) H0 g
  have hS := St.start hf
  refine r_seq ?_
  refine r_region (n := 2) rfl ?_
  refine o_box (v := .agg [.v (.int .i64 a0.Letters), .v (.int .i64 a0.Numbers), .v (.int .i64 a0.Pitch), .v (.int .i64 a0.Slack), .v (.int .i64 a0.Gap), .v (.int .i64 a0.Pause), .v (.int .i64 a0.Sparks), .sl .no 1 (a0.Times.map cI)]) (cs := [.v (.int .i64 a0.Letters), .v (.int .i64 a0.Numbers), .v (.int .i64 a0.Pitch), .v (.int .i64 a0.Slack), .v (.int .i64 a0.Gap), .v (.int .i64 a0.Pause), .v (.int .i64 a0.Sparks), .sl .no 1 (a0.Times.map cI)]) hS (by decide) rfl rfl (by omega) fun H hS => ?_
  refine o_assign (v := .v (.bool false)) (by decide) rfl ?_
  refine run_nil ?_
  refine w_next [(1, .ptr (g + 0) 0)] (.cons (.refl _) .nil) ?_
  refine w_join (J := Bool) (fun j => [(2, .v (.bool j))]) (fun j H' g' => St (· < g) H0 [] H' g' ∧ law13_ready_j1 j = some r) ?_ ?_
  · rintro v1 H g1 ⟨hS, hM⟩
    change wpA _ _ _ _ (Fr.of [(2, .v (.bool v1))]) _ _
    replace hS : St (· < g) H0 [] H g1 := hS
    replace hM : law13_ready_j1 v1 = some r := hM
    refine r_ret ?_
    refine w_end (x := .v (.bool v1)) (f := fun r => .v (.bool r)) (.inr rfl) ?_ (.refl _) (Option.some.inj hM) hS
    exact (res_one (res_tmp (x := .v (.bool v1)) rfl))
  · refine r_region (n := 9) rfl ?_
    refine o_load (v := .agg [.v (.int .i64 a0.Letters), .v (.int .i64 a0.Numbers), .v (.int .i64 a0.Pitch), .v (.int .i64 a0.Slack), .v (.int .i64 a0.Gap), .v (.int .i64 a0.Pause), .v (.int .i64 a0.Sparks), .sl .no 1 (a0.Times.map cI)]) 0 hS (by decide) rfl rfl .no (part_agg ty_agg24 (Nat.le_of_ble_eq_true rfl) rfl) ?_
    obtain ⟨r2, hr2, hM⟩ := bindE hM
    refine o_call (bs := [.agg [.v (.int .i64 a0.Letters), .v (.int .i64 a0.Numbers), .v (.int .i64 a0.Pitch), .v (.int .i64 a0.Slack), .v (.int .i64 a0.Gap), .v (.int .i64 a0.Pause), .v (.int .i64 a0.Sparks), .sl .no 1 (a0.Times.map cI)]]) (by decide) rfl rfl ((W_law13_Far hr2).le (.cons (.refl _) .nil)) ?_
    refine o_not (e := r2) (by decide) rfl ?_
    refine o_move (v := .v (.bool (!r2))) (by decide) rfl ?_
    rcases Bool.eq_false_or_eq_true (!r2) with hb3 | hb3
    · replace hM := ifT hM hb3
      refine o_guardY (j := 3) (e := (!r2)) (want := true) rfl hb3 ?_
      refine o_load (v := .agg [.v (.int .i64 a0.Letters), .v (.int .i64 a0.Numbers), .v (.int .i64 a0.Pitch), .v (.int .i64 a0.Slack), .v (.int .i64 a0.Gap), .v (.int .i64 a0.Pause), .v (.int .i64 a0.Sparks), .sl .no 1 (a0.Times.map cI)]) 0 hS (by decide) rfl rfl .no (part_agg ty_agg24 (Nat.le_of_ble_eq_true rfl) rfl) ?_
      refine o_guardY (j := 3) (e := (!r2)) (want := true) rfl hb3 ?_
      obtain ⟨r4, hr4, hM⟩ := bindE hM
      refine o_call (bs := [.agg [.v (.int .i64 a0.Letters), .v (.int .i64 a0.Numbers), .v (.int .i64 a0.Pitch), .v (.int .i64 a0.Slack), .v (.int .i64 a0.Gap), .v (.int .i64 a0.Pause), .v (.int .i64 a0.Sparks), .sl .no 1 (a0.Times.map cI)]]) (by decide) rfl rfl ((W_ref13_Check hr4).le (.cons (.refl _) .nil)) ?_
      refine o_guardY (j := 3) (e := (!r2)) (want := true) rfl hb3 ?_
      refine o_int (v := .v (.bool (r4 == 0))) (by decide) rfl rfl rfl ?_
      refine o_pickT (v := .v (.bool (r4 == 0))) (e := (!r2)) (by decide) rfl hb3 rfl ?_
      refine o_assign (v := .v (.bool (r4 == 0))) (by decide) rfl ?_
      refine run_nil ?_
      exact w_goto (r4 == 0) (.cons (.refl _) .nil) ⟨(hS.keep [false] rfl).up (by omega), hM⟩
    · replace hM := ifF hM hb3
      refine o_guardN (j := 3) (e := (!r2)) (want := true) (by decide) rfl hb3 ?_
      refine o_guardN (j := 3) (e := (!r2)) (want := true) (by decide) rfl hb3 ?_
      refine o_guardN (j := 3) (e := (!r2)) (want := true) (by decide) rfl hb3 ?_
      refine o_pickF (v := .v (.bool false)) (e := (!r2)) (by decide) rfl hb3 rfl ?_
      refine o_assign (v := .v (.bool false)) (by decide) rfl ?_
      refine run_nil ?_
      exact w_goto false (.cons (.refl _) .nil) ⟨(hS.keep [false] rfl).up (by omega), hM⟩
theorem W_law13_isKnown {a0 : Int} {r : Bool} (hM : law13_isKnown a0 = some r) : PureSat Try.prog 33 [.v (.int .i64 a0)] (.v (.bool r)) := by
  refine pure_of_wp mixed Try.func33 rfl (by decide) Try.ntmps33 (by simp) ?pure fun H0 g hf => ?_
  case pure => exact .v _
  rw [frame0_of]
  change wpA _ _ _ _ (Fr.of [(0, .v (.int .i64 a0))]) H0 g
  have hS := St.start hf
  refine r_seq ?_
  refine r_region (n := 1) rfl ?_
  refine o_assign (v := .v (.bool false)) (by decide) rfl ?_
  refine run_nil ?_
  refine w_next [(0, .v (.int .i64 a0))] (.cons (.refl _) .nil) ?_
  refine w_join (J := Bool) (fun j => [(2, .v (.bool j))]) (fun j H' g' => St (· < g) H0 [] H' g' ∧ law13_isKnown_j1 j = some r) ?_ ?_
  · rintro v1 H g1 ⟨hS, hM⟩
    change wpA _ _ _ _ (Fr.of [(2, .v (.bool v1))]) _ _
    replace hS : St (· < g) H0 [] H g1 := hS
    replace hM : law13_isKnown_j1 v1 = some r := hM
    refine r_ret ?_
    refine w_end (x := .v (.bool v1)) (f := fun r => .v (.bool r)) (.inr rfl) ?_ (.refl _) (Option.some.inj hM) hS
    exact (res_one (res_tmp (x := .v (.bool v1)) rfl))
  · refine r_region (n := 7) rfl ?_
    refine o_move (v := .v (.int .i64 a0)) (by decide) rfl ?_
    refine o_int (v := .v (.bool (a0 == 0))) (by decide) rfl rfl rfl ?_
    refine o_move (v := .v (.bool (a0 == 0))) (by decide) rfl ?_
    rcases Bool.eq_false_or_eq_true (a0 == 0) with hb2 | hb2
    · replace hM := ifT hM hb2
      refine o_guardN (j := 2) (e := (a0 == 0)) (want := false) (by decide) rfl hb2 ?_
      refine o_guardN (j := 2) (e := (a0 == 0)) (want := false) (by decide) rfl hb2 ?_
      refine o_pickT (v := .v (.bool true)) (e := (a0 == 0)) (by decide) rfl hb2 rfl ?_
      refine o_assign (v := .v (.bool true)) (by decide) rfl ?_
      refine run_nil ?_
      exact w_goto true (.cons (.refl _) .nil) ⟨(hS.keep [] rfl).up (by omega), hM⟩
    · replace hM := ifF hM hb2
      refine o_guardY (j := 2) (e := (a0 == 0)) (want := false) rfl hb2 ?_
      refine o_move (v := .v (.int .i64 a0)) (by decide) rfl ?_
      refine o_guardY (j := 2) (e := (a0 == 0)) (want := false) rfl hb2 ?_
      refine o_int (v := .v (.bool (a0 == 3))) (by decide) rfl rfl rfl ?_
      refine o_pickF (v := .v (.bool (a0 == 3))) (e := (a0 == 0)) (by decide) rfl hb2 rfl ?_
      refine o_assign (v := .v (.bool (a0 == 3))) (by decide) rfl ?_
      refine run_nil ?_
      exact w_goto (a0 == 3) (.cons (.refl _) .nil) ⟨(hS.keep [] rfl).up (by omega), hM⟩
end Go.Proofs.Ytekplngjaddccaa
