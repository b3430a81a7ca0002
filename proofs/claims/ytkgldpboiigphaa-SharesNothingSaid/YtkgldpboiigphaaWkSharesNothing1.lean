/-
  The code returns what the functions say (printed by gen.py).
  Conditions: none.
-/
import Derived.Test.YtkgldpboiigphaaTy
import Derived.Test.YtkgldpboiigphaaMd
set_option linter.all false
namespace Go.Proofs.Ytkgldpboiigphaa
open Go Go.AM Go.Law
set_option linter.unusedVariables false
set_option maxRecDepth 4000
set_option maxHeartbeats 4000000
theorem W_law09_far {a0 : Share} {r : Bool} (hM : law09_far a0 = some r) : PureSat Try.prog 14 [.agg [.sl .no 4 (a0.Clauses.map Clause.cells), .v (.int .i64 a0.Loan)]] (.v (.bool r)) := by
  refine pure_of_wp mixed Try.func14 rfl (by decide) Try.ntmps14 (by simp) ?pure fun H0 g hf => ?_
  case pure => exact .v _
  rw [frame0_of]
  change wpA _ _ _ _ (Fr.of [(0, .agg [.sl .no 4 (a0.Clauses.map Clause.cells), .v (.int .i64 a0.Loan)])]) H0 g
  have hS := St.start hf
  refine r_seq ?_
  refine r_region (n := 2) rfl ?_
  refine o_box (v := .agg [.sl .no 4 (a0.Clauses.map Clause.cells), .v (.int .i64 a0.Loan)]) (cs := [.sl .no 4 (a0.Clauses.map Clause.cells), .v (.int .i64 a0.Loan)]) hS (by decide) rfl rfl (by omega) fun H hS => ?_
  refine o_assign (v := .v (.bool false)) (by decide) rfl ?_
  refine run_nil ?_
  refine w_next [(1, .ptr (g + 0) 0)] (.cons (.refl _) .nil) ?_
  refine r_seq ?_
  refine r_region (n := 5) rfl ?_
  refine o_fieldP (by decide) ty_fo24_0 rfl ?_
  refine o_load (v := .sl .no 4 (a0.Clauses.map Clause.cells)) 0 hS (by decide) rfl rfl .no (part_one ty_agg22 ty_sc22 rfl) ?_
  refine o_len (n := a0.Clauses.length) (by decide) rfl (List.length_map _) ty_isl22 ?_
  refine o_int (v := .v (.bool (decide ((a0.Clauses.length : Int) > 40)))) (by decide) rfl rfl rfl ?_
  refine o_assign (v := .v (.bool (decide ((a0.Clauses.length : Int) > 40)))) (by decide) rfl ?_
  refine run_nil ?_
  replace hS := hS.keep (L' := []) [false] rfl
  refine w_next [(2, .v (.bool (decide ((a0.Clauses.length : Int) > 40))))] (.cons (.refl _) .nil) ?_
  refine r_ret ?_
  refine w_end (x := .v (.bool (decide ((a0.Clauses.length : Int) > 40)))) (f := fun r => .v (.bool r)) (.inr rfl) ?_ (.refl _) (Option.some.inj hM) hS
  exact (res_one (res_tmp (x := .v (.bool (decide ((a0.Clauses.length : Int) > 40)))) rfl))
theorem W_shares_within {a0 : Int} {a1 : Int} {a2 : Int} {r : Bool} (hM : shares_within a0 a1 a2 = some r) : PureSat Try.prog 61 [.v (.int .i64 a0), .v (.int .i64 a1), .v (.int .i64 a2)] (.v (.bool r)) := by
  refine pure_of_wp mixed Try.func61 rfl (by decide) Try.ntmps61 (by simp) ?pure fun H0 g hf => ?_
  case pure => exact .v _
  rw [frame0_of]
  change wpA _ _ _ _ (Fr.of [(0, .v (.int .i64 a0)), (1, .v (.int .i64 a1)), (2, .v (.int .i64 a2))]) H0 g
  have hS := St.start hf
  refine r_seq ?_
  refine r_region (n := 1) rfl ?_
  refine o_assign (v := .v (.bool false)) (by decide) rfl ?_
  refine run_nil ?_
  refine w_next [(0, .v (.int .i64 a0)), (1, .v (.int .i64 a1)), (2, .v (.int .i64 a2))] (.cons (.refl _) (.cons (.refl _) (.cons (.refl _) .nil))) ?_
  refine w_join (J := Bool) (fun j => [(6, .v (.bool j))]) (fun j H' g' => St (· < g) H0 [] H' g' ∧ shares_within_j1 j = some r) ?_ ?_
  · rintro v1 H g1 ⟨hS, hM⟩
    change wpA _ _ _ _ (Fr.of [(6, .v (.bool v1))]) _ _
    replace hS : St (· < g) H0 [] H g1 := hS
    replace hM : shares_within_j1 v1 = some r := hM
    refine r_ret ?_
    refine w_end (x := .v (.bool v1)) (f := fun r => .v (.bool r)) (.inr rfl) ?_ (.refl _) (Option.some.inj hM) hS
    exact (res_one (res_tmp (x := .v (.bool v1)) rfl))
  · refine r_region (n := 9) rfl ?_
    refine o_move (v := .v (.int .i64 a1)) (by decide) rfl ?_
    refine o_move (v := .v (.int .i64 a0)) (by decide) rfl ?_
    refine o_int (v := .v (.bool (decide (a1 ≤ a0)))) (by decide) rfl rfl rfl ?_
    refine o_move (v := .v (.bool (decide (a1 ≤ a0)))) (by decide) rfl ?_
    rcases Bool.eq_false_or_eq_true (decide (a1 ≤ a0)) with hb2 | hb2
    · replace hM := ifT hM hb2
      refine o_guardY (j := 3) (e := (decide (a1 ≤ a0))) (want := true) rfl hb2 ?_
      refine o_move (v := .v (.int .i64 a0)) (by decide) rfl ?_
      refine o_guardY (j := 3) (e := (decide (a1 ≤ a0))) (want := true) rfl hb2 ?_
      refine o_move (v := .v (.int .i64 a2)) (by decide) rfl ?_
      refine o_guardY (j := 3) (e := (decide (a1 ≤ a0))) (want := true) rfl hb2 ?_
      refine o_int (v := .v (.bool (decide (a0 ≤ a2)))) (by decide) rfl rfl rfl ?_
      refine o_pickT (v := .v (.bool (decide (a0 ≤ a2)))) (e := (decide (a1 ≤ a0))) (by decide) rfl hb2 rfl ?_
      refine o_assign (v := .v (.bool (decide (a0 ≤ a2)))) (by decide) rfl ?_
      refine run_nil ?_
      exact w_goto (decide (a0 ≤ a2)) (.cons (.refl _) .nil) ⟨(hS.keep [] rfl).up (by omega), hM⟩
    · replace hM := ifF hM hb2
      refine o_guardN (j := 3) (e := (decide (a1 ≤ a0))) (want := true) (by decide) rfl hb2 ?_
      refine o_guardN (j := 3) (e := (decide (a1 ≤ a0))) (want := true) (by decide) rfl hb2 ?_
      refine o_guardN (j := 3) (e := (decide (a1 ≤ a0))) (want := true) (by decide) rfl hb2 ?_
      refine o_pickF (v := .v (.bool false)) (e := (decide (a1 ≤ a0))) (by decide) rfl hb2 rfl ?_
      refine o_assign (v := .v (.bool false)) (by decide) rfl ?_
      refine run_nil ?_
      exact w_goto false (.cons (.refl _) .nil) ⟨(hS.keep [] rfl).up (by omega), hM⟩
theorem W_shares_isCents {a0 : Int} {r : Bool} (hM : shares_isCents a0 = some r) : PureSat Try.prog 49 [.v (.int .i64 a0)] (.v (.bool r)) := by
  refine pure_of_wp mixed Try.func49 rfl (by decide) Try.ntmps49 (by simp) ?pure fun H0 g hf => ?_
  case pure => exact .v _
  rw [frame0_of]
  change wpA _ _ _ _ (Fr.of [(0, .v (.int .i64 a0))]) H0 g
  have hS := St.start hf
  refine r_seq ?_
  refine r_region (n := 1) rfl ?_
  refine o_assign (v := .v (.bool false)) (by decide) rfl ?_
  refine run_nil ?_
  refine w_next [(0, .v (.int .i64 a0))] (.cons (.refl _) .nil) ?_
  refine r_seq ?_
  refine r_region (n := 3) rfl ?_
  refine o_move (v := .v (.int .i64 a0)) (by decide) rfl ?_
  obtain ⟨r1, hr1, hM⟩ := bindE hM
  refine o_call (bs := [.v (.int .i64 a0), .v (.int .i64 0), .v (.int .i64 9999)]) (by decide) rfl rfl ((W_shares_within hr1).le (.cons (.refl _) (.cons (.refl _) (.cons (.refl _) .nil)))) ?_
  refine o_assign (v := .v (.bool r1)) (by decide) rfl ?_
  refine run_nil ?_
  refine w_next [(2, .v (.bool r1))] (.cons (.refl _) .nil) ?_
  refine r_ret ?_
  refine w_end (x := .v (.bool r1)) (f := fun r => .v (.bool r)) (.inr rfl) ?_ (.refl _) (Option.some.inj hM) hS
  exact (res_one (res_tmp (x := .v (.bool r1)) rfl))
theorem W_shares_Check_c1 {a0 : Clause} {r : Bool} (hM : shares_Check_c1 a0 = some r) : PureSat Try.prog 60 [.agg [.v (.int .i64 a0.Kind), .v (.int .i64 a0.Cents), .v (.int .i64 a0.Part), .v (.int .i64 a0.More)]] (.v (.bool r)) := by
  refine pure_of_wp mixed Try.func60 rfl (by decide) Try.ntmps60 (by simp) ?pure fun H0 g hf => ?_
  case pure => exact .v _
  rw [frame0_of]
  change wpA _ _ _ _ (Fr.of [(0, .agg [.v (.int .i64 a0.Kind), .v (.int .i64 a0.Cents), .v (.int .i64 a0.Part), .v (.int .i64 a0.More)])]) H0 g
  have hS := St.start hf
  refine r_seq ?_
  refine r_region (n := 2) rfl ?_
  refine o_box (v := .agg [.v (.int .i64 a0.Kind), .v (.int .i64 a0.Cents), .v (.int .i64 a0.Part), .v (.int .i64 a0.More)]) (cs := [.v (.int .i64 a0.Kind), .v (.int .i64 a0.Cents), .v (.int .i64 a0.Part), .v (.int .i64 a0.More)]) hS (by decide) rfl rfl (by omega) fun H hS => ?_
  refine o_assign (v := .v (.bool false)) (by decide) rfl ?_
  refine run_nil ?_
  refine w_next [(1, .ptr (g + 0) 0)] (.cons (.refl _) .nil) ?_
  refine w_join (J := Bool) (fun j => [(2, .v (.bool j))]) (fun j H' g' => St (· < g) H0 [] H' g' ∧ shares_Check_c1_j1 j = some r) ?_ ?_
  · rintro v1 H g1 ⟨hS, hM⟩
    change wpA _ _ _ _ (Fr.of [(2, .v (.bool v1))]) _ _
    replace hS : St (· < g) H0 [] H g1 := hS
    replace hM : shares_Check_c1_j1 v1 = some r := hM
    refine r_ret ?_
    refine w_end (x := .v (.bool v1)) (f := fun r => .v (.bool r)) (.inr rfl) ?_ (.refl _) (Option.some.inj hM) hS
    exact (res_one (res_tmp (x := .v (.bool v1)) rfl))
  · refine r_region (n := 23) rfl ?_
    refine o_fieldP (by decide) ty_fo39_0 rfl ?_
    refine o_load (v := .v (.int .i64 a0.Kind)) 0 hS (by decide) rfl rfl .no (part_one ty_agg3 ty_sc3 rfl) ?_
    obtain ⟨r2, hr2, hM⟩ := bindE hM
    refine o_call (bs := [.v (.int .i64 a0.Kind), .v (.int .i64 1), .v (.int .i64 5)]) (by decide) rfl rfl ((W_shares_within hr2).le (.cons (.refl _) (.cons (.refl _) (.cons (.refl _) .nil)))) ?_
    refine o_not (e := r2) (by decide) rfl ?_
    refine o_move (v := .v (.bool (!r2))) (by decide) rfl ?_
    rcases Bool.eq_false_or_eq_true (!r2) with hb3 | hb3
    · replace hM := ifT hM hb3
      refine o_guardN (j := 4) (e := (!r2)) (want := false) (by decide) rfl hb3 ?_
      refine o_guardN (j := 4) (e := (!r2)) (want := false) (by decide) rfl hb3 ?_
      refine o_guardN (j := 4) (e := (!r2)) (want := false) (by decide) rfl hb3 ?_
      refine o_guardN (j := 4) (e := (!r2)) (want := false) (by decide) rfl hb3 ?_
      refine o_pickT (v := .v (.bool true)) (e := (!r2)) (by decide) rfl hb3 rfl ?_
      refine o_move (v := .v (.bool true)) (by decide) rfl ?_
      refine o_guardN (j := 10) (e := true) (want := false) (by decide) rfl rfl ?_
      refine o_guardN (j := 10) (e := true) (want := false) (by decide) rfl rfl ?_
      refine o_guardN (j := 10) (e := true) (want := false) (by decide) rfl rfl ?_
      refine o_guardN (j := 10) (e := true) (want := false) (by decide) rfl rfl ?_
      refine o_pickT (v := .v (.bool true)) (e := true) (by decide) rfl rfl rfl ?_
      refine o_move (v := .v (.bool true)) (by decide) rfl ?_
      refine o_guardN (j := 16) (e := true) (want := false) (by decide) rfl rfl ?_
      refine o_guardN (j := 16) (e := true) (want := false) (by decide) rfl rfl ?_
      refine o_guardN (j := 16) (e := true) (want := false) (by decide) rfl rfl ?_
      refine o_guardN (j := 16) (e := true) (want := false) (by decide) rfl rfl ?_
      refine o_pickT (v := .v (.bool true)) (e := true) (by decide) rfl rfl rfl ?_
      refine o_assign (v := .v (.bool true)) (by decide) rfl ?_
      refine run_nil ?_
      exact w_goto true (.cons (.refl _) .nil) ⟨(hS.keep [false] rfl).up (by omega), hM⟩
    · replace hM := ifF hM hb3
      refine o_guardY (j := 4) (e := (!r2)) (want := false) rfl hb3 ?_
      refine o_fieldP (by decide) ty_fo39_1 rfl ?_
      refine o_guardY (j := 4) (e := (!r2)) (want := false) rfl hb3 ?_
      refine o_load (v := .v (.int .i64 a0.Cents)) 0 hS (by decide) rfl rfl .no (part_one ty_agg3 ty_sc3 rfl) ?_
      refine o_guardY (j := 4) (e := (!r2)) (want := false) rfl hb3 ?_
      obtain ⟨r4, hr4, hM⟩ := bindE hM
      refine o_call (bs := [.v (.int .i64 a0.Cents)]) (by decide) rfl rfl ((W_shares_isCents hr4).le (.cons (.refl _) .nil)) ?_
      refine o_guardY (j := 4) (e := (!r2)) (want := false) rfl hb3 ?_
      refine o_not (e := r4) (by decide) rfl ?_
      refine o_pickF (v := .v (.bool (!r4))) (e := (!r2)) (by decide) rfl hb3 rfl ?_
      refine o_move (v := .v (.bool (!r4))) (by decide) rfl ?_
      rcases Bool.eq_false_or_eq_true (!r4) with hb5 | hb5
      · replace hM := ifT hM hb5
        refine o_guardN (j := 10) (e := (!r4)) (want := false) (by decide) rfl hb5 ?_
        refine o_guardN (j := 10) (e := (!r4)) (want := false) (by decide) rfl hb5 ?_
        refine o_guardN (j := 10) (e := (!r4)) (want := false) (by decide) rfl hb5 ?_
        refine o_guardN (j := 10) (e := (!r4)) (want := false) (by decide) rfl hb5 ?_
        refine o_pickT (v := .v (.bool true)) (e := (!r4)) (by decide) rfl hb5 rfl ?_
        refine o_move (v := .v (.bool true)) (by decide) rfl ?_
        refine o_guardN (j := 16) (e := true) (want := false) (by decide) rfl rfl ?_
        refine o_guardN (j := 16) (e := true) (want := false) (by decide) rfl rfl ?_
        refine o_guardN (j := 16) (e := true) (want := false) (by decide) rfl rfl ?_
        refine o_guardN (j := 16) (e := true) (want := false) (by decide) rfl rfl ?_
        refine o_pickT (v := .v (.bool true)) (e := true) (by decide) rfl rfl rfl ?_
        refine o_assign (v := .v (.bool true)) (by decide) rfl ?_
        refine run_nil ?_
        exact w_goto true (.cons (.refl _) .nil) ⟨(hS.keep [false] rfl).up (by omega), hM⟩
      · replace hM := ifF hM hb5
        refine o_guardY (j := 10) (e := (!r4)) (want := false) rfl hb5 ?_
        refine o_fieldP (by decide) ty_fo39_2 rfl ?_
        refine o_guardY (j := 10) (e := (!r4)) (want := false) rfl hb5 ?_
        refine o_load (v := .v (.int .i64 a0.Part)) 0 hS (by decide) rfl rfl .no (part_one ty_agg3 ty_sc3 rfl) ?_
        refine o_guardY (j := 10) (e := (!r4)) (want := false) rfl hb5 ?_
        obtain ⟨r6, hr6, hM⟩ := bindE hM
        refine o_call (bs := [.v (.int .i64 a0.Part), .v (.int .i64 0), .v (.int .i64 100)]) (by decide) rfl rfl ((W_shares_within hr6).le (.cons (.refl _) (.cons (.refl _) (.cons (.refl _) .nil)))) ?_
        refine o_guardY (j := 10) (e := (!r4)) (want := false) rfl hb5 ?_
        refine o_not (e := r6) (by decide) rfl ?_
        refine o_pickF (v := .v (.bool (!r6))) (e := (!r4)) (by decide) rfl hb5 rfl ?_
        refine o_move (v := .v (.bool (!r6))) (by decide) rfl ?_
        rcases Bool.eq_false_or_eq_true (!r6) with hb7 | hb7
        · replace hM := ifT hM hb7
          refine o_guardN (j := 16) (e := (!r6)) (want := false) (by decide) rfl hb7 ?_
          refine o_guardN (j := 16) (e := (!r6)) (want := false) (by decide) rfl hb7 ?_
          refine o_guardN (j := 16) (e := (!r6)) (want := false) (by decide) rfl hb7 ?_
          refine o_guardN (j := 16) (e := (!r6)) (want := false) (by decide) rfl hb7 ?_
          refine o_pickT (v := .v (.bool true)) (e := (!r6)) (by decide) rfl hb7 rfl ?_
          refine o_assign (v := .v (.bool true)) (by decide) rfl ?_
          refine run_nil ?_
          exact w_goto true (.cons (.refl _) .nil) ⟨(hS.keep [false] rfl).up (by omega), hM⟩
        · replace hM := ifF hM hb7
          refine o_guardY (j := 16) (e := (!r6)) (want := false) rfl hb7 ?_
          refine o_fieldP (by decide) ty_fo39_3 rfl ?_
          refine o_guardY (j := 16) (e := (!r6)) (want := false) rfl hb7 ?_
          refine o_load (v := .v (.int .i64 a0.More)) 0 hS (by decide) rfl rfl .no (part_one ty_agg3 ty_sc3 rfl) ?_
          refine o_guardY (j := 16) (e := (!r6)) (want := false) rfl hb7 ?_
          obtain ⟨r8, hr8, hM⟩ := bindE hM
          refine o_call (bs := [.v (.int .i64 a0.More), .v (.int .i64 0), .v (.int .i64 100)]) (by decide) rfl rfl ((W_shares_within hr8).le (.cons (.refl _) (.cons (.refl _) (.cons (.refl _) .nil)))) ?_
          refine o_guardY (j := 16) (e := (!r6)) (want := false) rfl hb7 ?_
          refine o_not (e := r8) (by decide) rfl ?_
          refine o_pickF (v := .v (.bool (!r8))) (e := (!r6)) (by decide) rfl hb7 rfl ?_
          refine o_assign (v := .v (.bool (!r8))) (by decide) rfl ?_
          refine run_nil ?_
          exact w_goto (!r8) (.cons (.refl _) .nil) ⟨(hS.keep [false] rfl).up (by omega), hM⟩
theorem W_slices_IndexFunc_apiClause {S : Type} {Lo : S → BL} (hk : ∀ s s', KinL (Lo s) (Lo s')) (hnd : ∀ s, (ids (Lo s)).Nodup) (hin : ∀ s, InB In (Lo s)) {aF : Clause → S → Option (Bool × S)} {f0 : AV} (hF : ∀ s H, Has H (Lo s) → In H f0) (h0 : cellsOf f0 = some [f0]) (hf : ∀ {x0 : Clause} {s : S} {r : Bool × S}, aF x0 s = some r → CSat Try.prog f0 [.agg [.v (.int .i64 x0.Kind), .v (.int .i64 x0.Cents), .v (.int .i64 x0.Part), .v (.int .i64 x0.More)]] (Lo s) (.v (.bool r.1)) (Lo r.2)) {n : Nat} {a0 : List Clause} {st : S} {r : Int × S} (hM : slices_IndexFunc_apiClause n aF a0 st = some r) : HSat Try.prog 72 [.sl .no 4 (a0.map Clause.cells), f0] (Lo st) (.v (.int .i64 r.1)) (Lo r.2) := by
  have hnd0 : ∀ s, (ids (Lo s)).Nodup := fun s => hnd s
  refine hsat_of_wp mixed Try.func72 rfl (by decide) Try.ntmps72 (by simp) (hk _ _) (hnd st) ?pure ?cells fun H0 g hf_ hp => ?_
  case pure => exact fun H _ => (show Go.AM.Pure _ from .v _).inH
  case cells => exact hin _
  rw [frame0_of]
  change wpA _ _ _ _ (Fr.of [(0, .sl .no 4 (a0.map Clause.cells)), (1, f0)]) H0 g
  have hS := St.startH (L := ([] ++ Lo st)) hf_ (hnd st) hp
  replace hS : St (fun i => i < g ∧ i ∉ ids (Lo st)) H0 ([] ++ Lo st) H0 g := hS
  refine r_seq ?_
  refine r_region (n := 1) rfl ?_
  refine o_assign (v := .v (.int .i64 0)) (by decide) rfl ?_
  refine run_nil ?_
  refine w_next [(0, .sl .no 4 (a0.map Clause.cells)), (1, f0)] (.cons (.refl _) (.cons (.refl _) .nil)) ?_
  refine w_join (J := S) (fun j => []) (fun j H' g' => St (fun i => i < g ∧ i ∉ ids (Lo st)) H0 ([] ++ Lo j) H' g' ∧ slices_IndexFunc_apiClause_j1 j = some r) ?_ ?_
  · rintro v1 H g1 ⟨hS, hM⟩
    change wpA _ _ _ _ (Fr.of []) _ _
    replace hS : St (fun i => i < g ∧ i ∉ ids (Lo st)) H0 ([] ++ Lo v1) H g1 := hS
    replace hM : slices_IndexFunc_apiClause_j1 v1 = some r := hM
    refine r_seq ?_
    refine r_region (n := 1) rfl ?_
    refine o_assign (v := .v (.int .i64 (-1))) (by decide) rfl ?_
    refine run_nil ?_
    refine w_next [(4, .v (.int .i64 (-1)))] (.cons (.refl _) .nil) ?_
    refine r_ret ?_
    refine w_endS (x := .v (.int .i64 (-1))) (f := fun r => .v (.int .i64 r.1)) (fd := fun r => (Lo r.2)) (.inr rfl) ?_ (.refl _) (Option.some.inj hM) hS 0 rfl
    exact (res_one (res_tmp (x := .v (.int .i64 (-1))) rfl))
  · refine r_seq ?_
    refine r_region (n := 3) rfl ?_
    refine o_move (v := .sl .no 4 (a0.map Clause.cells)) (by decide) rfl ?_
    refine o_len (n := a0.length) (by decide) rfl (List.length_map _) ty_isl22 ?_
    refine o_move (v := .v (.int .i64 0)) (by decide) rfl ?_
    refine run_nil ?_
    refine w_next [(0, .sl .no 4 (a0.map Clause.cells)), (1, f0), (7, .v (.int .i64 (a0.length : Int))), (8, .v (.int .i64 0))] (.cons (.refl _) (.cons (.refl _) (.cons (.refl _) (.cons (.refl _) .nil)))) ?_
    refine r_block ?_
    refine w_loop (V := Int × S) (fun v => [(0, .sl .no 4 (a0.map Clause.cells)), (1, f0), (7, .v (.int .i64 (a0.length : Int))), (8, .v (.int .i64 v.1))]) (fun v m3 H' g' => St (fun i => i < g ∧ i ∉ ids (Lo st)) H0 ([] ++ Lo v.2) H' g' ∧ slices_IndexFunc_apiClause_l1 a0 aF m3 v.1 v.2 = some r) (n := n) (0, st) (.cons (.refl _) (.cons (.refl _) (.cons (.refl _) (.cons (.refl _) .nil)))) ⟨(hS.keep [] rfl).up (by omega), hM⟩ ?_
    rintro ⟨v3, v4⟩ m3 H g3 ⟨hS, hM⟩
    obtain _ | m3 := m3
    · exact nomatch (show none = some _ from hM)
    change wpA _ _ _ _ (Fr.of [(0, .sl .no 4 (a0.map Clause.cells)), (1, f0), (7, .v (.int .i64 (a0.length : Int))), (8, .v (.int .i64 v3))]) _ _
    replace hS : St (fun i => i < g ∧ i ∉ ids (Lo st)) H0 ([] ++ Lo v4) H g3 := hS
    replace hM : slices_IndexFunc_apiClause_l1_b a0 aF (slices_IndexFunc_apiClause_l1 a0 aF m3) v3 v4 = some r := hM
    refine r_seq ?_
    refine r_region (n := 1) rfl ?_
    refine o_int (v := .v (.bool (decide (v3 < (a0.length : Int))))) (by decide) rfl rfl rfl ?_
    refine run_nil ?_
    refine w_next [(0, .sl .no 4 (a0.map Clause.cells)), (1, f0), (7, .v (.int .i64 (a0.length : Int))), (8, .v (.int .i64 v3)), (9, .v (.bool (decide (v3 < (a0.length : Int)))))] (.cons (.refl _) (.cons (.refl _) (.cons (.refl _) (.cons (.refl _) (.cons (.refl _) .nil))))) ?_
    refine r_seq ?_
    rcases Bool.eq_false_or_eq_true (decide (v3 < (a0.length : Int))) with hb5 | hb5
    · replace hM := ifT hM hb5
      refine w_condT (e := (decide (v3 < (a0.length : Int)))) rfl hb5 ?_
      refine r_skip ?_
      refine w_next [(0, .sl .no 4 (a0.map Clause.cells)), (1, f0), (7, .v (.int .i64 (a0.length : Int))), (8, .v (.int .i64 v3))] (.cons (.refl _) (.cons (.refl _) (.cons (.refl _) (.cons (.refl _) .nil)))) ?_
      refine r_seq ?_
      refine r_block ?_
      refine r_seq ?_
      refine r_region (n := 2) rfl ?_
      refine o_move (v := .v (.int .i64 v3)) (by decide) rfl ?_
      refine o_assign (v := .v (.int .i64 v3)) (by decide) rfl ?_
      refine run_nil ?_
      refine w_next [(0, .sl .no 4 (a0.map Clause.cells)), (1, f0), (5, .v (.int .i64 v3)), (7, .v (.int .i64 (a0.length : Int))), (8, .v (.int .i64 v3))] (.cons (.refl _) (.cons (.refl _) (.cons (.refl _) (.cons (.refl _) (.cons (.refl _) .nil))))) ?_
      refine r_seq ?_
      refine r_region (n := 6) rfl ?_
      refine o_move (v := f0) (by decide) rfl ?_
      refine o_move (v := .sl .no 4 (a0.map Clause.cells)) (by decide) rfl ?_
      refine o_move (v := .v (.int .i64 v3)) (by decide) rfl ?_
      obtain ⟨x6, hx6, hM⟩ := bindE hM
      refine o_index (xs := a0) (f := Clause.cells) (z := v3) (u := x6) (by decide) rfl rfl ty_es22 hx6 ?_
      refine o_loadE (v := .agg [.v (.int .i64 x6.Kind), .v (.int .i64 x6.Cents), .v (.int .i64 x6.Part), .v (.int .i64 x6.More)]) (by decide) rfl (part_agg ty_agg39 (Nat.le_of_ble_eq_true rfl) rfl) ?_
      obtain ⟨r7, hr7, hM⟩ := bindE hM
      replace hS : St (fun i => i < g ∧ i ∉ ids (Lo st)) H0 ([] ++ Lo v4) _ _ := hS
      refine o_state (bs := [.agg [.v (.int .i64 x6.Kind), .v (.int .i64 x6.Cents), .v (.int .i64 x6.Part), .v (.int .i64 x6.More)]]) (.inl rfl) hS (by decide) rfl rfl ((hf hr7).le (.cons (.refl _) .nil)) (hk _ _).ids (by omega) fun H hS => ?_
      refine run_nil ?_
      refine w_next [(0, .sl .no 4 (a0.map Clause.cells)), (1, f0), (5, .v (.int .i64 v3)), (7, .v (.int .i64 (a0.length : Int))), (8, .v (.int .i64 v3)), (16, .v (.bool r7.1))] (.cons (.refl _) (.cons (.refl _) (.cons (.refl _) (.cons (.refl _) (.cons (.refl _) (.cons (.refl _) .nil)))))) ?_
      rcases Bool.eq_false_or_eq_true r7.1 with hb8 | hb8
      · replace hM := ifT hM hb8
        refine w_condT (e := r7.1) rfl hb8 ?_
        refine r_seq ?_
        refine r_region (n := 2) rfl ?_
        refine o_move (v := .v (.int .i64 v3)) (by decide) rfl ?_
        refine o_assign (v := .v (.int .i64 v3)) (by decide) rfl ?_
        refine run_nil ?_
        refine w_next [(4, .v (.int .i64 v3))] (.cons (.refl _) .nil) ?_
        refine r_ret ?_
        refine r_blk_ret ?_
        refine r_then_ret ?_
        refine w_round_ret ?_
        refine r_blk_ret ?_
        refine w_goto_ret ?_
        refine w_endS (x := .v (.int .i64 v3)) (f := fun r => .v (.int .i64 r.1)) (fd := fun r => (Lo r.2)) (.inr rfl) ?_ (.refl _) (Option.some.inj hM) hS 0 rfl
        exact (res_one (res_tmp (x := .v (.int .i64 v3)) rfl))
      · replace hM := ifF hM hb8
        refine w_condF (e := r7.1) rfl hb8 ?_
        refine r_skip ?_
        refine r_blk_normal ?_
        refine w_next [(0, .sl .no 4 (a0.map Clause.cells)), (1, f0), (7, .v (.int .i64 (a0.length : Int))), (8, .v (.int .i64 v3))] (.cons (.refl _) (.cons (.refl _) (.cons (.refl _) (.cons (.refl _) .nil)))) ?_
        refine r_region (n := 2) rfl ?_
        refine o_int (v := .v (.int .i64 (w64 (v3 + 1)))) (by decide) rfl rfl rfl ?_
        refine o_move (v := .v (.int .i64 (w64 (v3 + 1)))) (by decide) rfl ?_
        refine run_nil ?_
        exact w_round (w64 (v3 + 1), r7.2) (Nat.lt_succ_self _) (.cons (.refl _) (.cons (.refl _) (.cons (.refl _) (.cons (.refl _) .nil)))) ⟨(hS.keep [] rfl).up (by omega), hM⟩
    · replace hM := ifF hM hb5
      refine w_condF (e := (decide (v3 < (a0.length : Int)))) rfl hb5 ?_
      refine r_exit ?_
      refine r_then_exit ?_
      refine w_round_exit ?_
      refine r_blk_exit ?_
      exact w_goto v4 .nil ⟨(hS.keep [] rfl).up (by omega), hM⟩
theorem W_slices_ContainsFunc_apiClause {S : Type} {Lo : S → BL} (hk : ∀ s s', KinL (Lo s) (Lo s')) (hnd : ∀ s, (ids (Lo s)).Nodup) (hin : ∀ s, InB In (Lo s)) {aF : Clause → S → Option (Bool × S)} {f0 : AV} (hF : ∀ s H, Has H (Lo s) → In H f0) (h0 : cellsOf f0 = some [f0]) (hf : ∀ {x0 : Clause} {s : S} {r : Bool × S}, aF x0 s = some r → CSat Try.prog f0 [.agg [.v (.int .i64 x0.Kind), .v (.int .i64 x0.Cents), .v (.int .i64 x0.Part), .v (.int .i64 x0.More)]] (Lo s) (.v (.bool r.1)) (Lo r.2)) {n : Nat} {a0 : List Clause} {st : S} {r : Bool × S} (hM : slices_ContainsFunc_apiClause n aF a0 st = some r) : HSat Try.prog 62 [.sl .no 4 (a0.map Clause.cells), f0] (Lo st) (.v (.bool r.1)) (Lo r.2) := by
  have hnd0 : ∀ s, (ids (Lo s)).Nodup := fun s => hnd s
  refine hsat_of_wp mixed Try.func62 rfl (by decide) Try.ntmps62 (by simp) (hk _ _) (hnd st) ?pure ?cells fun H0 g hf_ hp => ?_
  case pure => exact fun H _ => (show Go.AM.Pure _ from .v _).inH
  case cells => exact hin _
  rw [frame0_of]
  change wpA _ _ _ _ (Fr.of [(0, .sl .no 4 (a0.map Clause.cells)), (1, f0)]) H0 g
  have hS := St.startH (L := ([] ++ Lo st)) hf_ (hnd st) hp
  replace hS : St (fun i => i < g ∧ i ∉ ids (Lo st)) H0 ([] ++ Lo st) H0 g := hS
  refine r_seq ?_
  refine r_region (n := 1) rfl ?_
  refine o_assign (v := .v (.bool false)) (by decide) rfl ?_
  refine run_nil ?_
  refine w_next [(0, .sl .no 4 (a0.map Clause.cells)), (1, f0)] (.cons (.refl _) (.cons (.refl _) .nil)) ?_
  refine r_seq ?_
  refine r_region (n := 5) rfl ?_
  refine o_move (v := .sl .no 4 (a0.map Clause.cells)) (by decide) rfl ?_
  refine o_move (v := f0) (by decide) rfl ?_
  obtain ⟨r1, hr1, hM⟩ := bindE hM
  replace hS : St (fun i => i < g ∧ i ∉ ids (Lo st)) H0 ([] ++ Lo st) _ _ := hS
  refine o_stateH (bs := [.sl .no 4 (a0.map Clause.cells), f0]) (.inl rfl) hS (by decide) rfl rfl ((W_slices_IndexFunc_apiClause (Lo := Lo)  hk hnd0 hin (aF := aF) hF h0 hf hr1).le (.cons (.refl _) (.cons (.refl _) .nil))) (hk _ _).ids (by omega) fun H hS => ?_
  refine o_int (v := .v (.bool (decide (r1.1 ≥ 0)))) (by decide) rfl rfl rfl ?_
  refine o_assign (v := .v (.bool (decide (r1.1 ≥ 0)))) (by decide) rfl ?_
  refine run_nil ?_
  refine w_next [(4, .v (.bool (decide (r1.1 ≥ 0))))] (.cons (.refl _) .nil) ?_
  refine r_ret ?_
  refine w_endS (x := .v (.bool (decide (r1.1 ≥ 0)))) (f := fun r => .v (.bool r.1)) (fd := fun r => (Lo r.2)) (.inr rfl) ?_ (.refl _) (Option.some.inj hM) hS 0 rfl
  exact (res_one (res_tmp (x := .v (.bool (decide (r1.1 ≥ 0)))) rfl))
theorem W_shares_Check {n : Nat} {a0 : Share} {r : Int} (hM : shares_Check n a0 = some r) : PureSat Try.prog 38 [.agg [.sl .no 4 (a0.Clauses.map Clause.cells), .v (.int .i64 a0.Loan)]] (.v (.int .i64 r)) := by
  refine pure_of_wp mixed Try.func38 rfl (by decide) Try.ntmps38 (by simp) ?pure fun H0 g hf => ?_
  case pure => exact .v _
  rw [frame0_of]
  change wpA _ _ _ _ (Fr.of [(0, .agg [.sl .no 4 (a0.Clauses.map Clause.cells), .v (.int .i64 a0.Loan)])]) H0 g
  have hS := St.start hf
  refine r_seq ?_
  refine r_region (n := 2) rfl ?_
  refine o_box (v := .agg [.sl .no 4 (a0.Clauses.map Clause.cells), .v (.int .i64 a0.Loan)]) (cs := [.sl .no 4 (a0.Clauses.map Clause.cells), .v (.int .i64 a0.Loan)]) hS (by decide) rfl rfl (by omega) fun H hS => ?_
  refine o_assign (v := .v (.int .i64 0)) (by decide) rfl ?_
  refine run_nil ?_
  refine w_next [(1, .ptr (g + 0) 0)] (.cons (.refl _) .nil) ?_
  refine r_seq ?_
  refine r_region (n := 1) rfl ?_
  refine o_assign (v := .fn (.func 60) [] []) (by decide) rfl ?_
  refine run_nil ?_
  refine w_next [(1, .ptr (g + 0) 0), (3, .fn (.func 60) [] [])] (.cons (.refl _) (.cons (.refl _) .nil)) ?_
  refine r_seq ?_
  refine w_join (J := Bool) (fun j => [(19, .v (.bool j))]) (fun j H' g' => St (· < g) H0 [] H' g' ∧ shares_Check_j1 j = some r) ?_ ?_
  · rintro v1 H g1 ⟨hS, hM⟩
    change wpA _ _ _ _ (Fr.of [(19, .v (.bool v1))]) _ _
    replace hS : St (· < g) H0 [] H g1 := hS
    replace hM : shares_Check_j1 v1 = some r := hM
    rcases Bool.eq_false_or_eq_true v1 with hb2 | hb2
    · replace hM := ifT hM hb2
      refine w_condT (e := v1) rfl hb2 ?_
      refine r_seq ?_
      refine r_region (n := 1) rfl ?_
      refine o_assign (v := .v (.int .i64 90)) (by decide) rfl ?_
      refine run_nil ?_
      refine w_next [(2, .v (.int .i64 90))] (.cons (.refl _) .nil) ?_
      refine r_ret ?_
      refine r_then_ret ?_
      refine w_end (x := .v (.int .i64 90)) (f := fun r => .v (.int .i64 r)) (.inr rfl) ?_ (.refl _) (Option.some.inj hM) hS
      exact (res_one (res_tmp (x := .v (.int .i64 90)) rfl))
    · replace hM := ifF hM hb2
      refine w_condF (e := v1) rfl hb2 ?_
      refine r_skip ?_
      refine w_next [] .nil ?_
      refine r_seq ?_
      refine r_region (n := 1) rfl ?_
      refine o_assign (v := .v (.int .i64 0)) (by decide) rfl ?_
      refine run_nil ?_
      refine w_next [(2, .v (.int .i64 0))] (.cons (.refl _) .nil) ?_
      refine r_ret ?_
      refine w_end (x := .v (.int .i64 0)) (f := fun r => .v (.int .i64 r)) (.inr rfl) ?_ (.refl _) (Option.some.inj hM) hS
      exact (res_one (res_tmp (x := .v (.int .i64 0)) rfl))
  · refine r_region (n := 16) rfl ?_
    refine o_fieldP (by decide) ty_fo24_0 rfl ?_
    refine o_load (v := .sl .no 4 (a0.Clauses.map Clause.cells)) 0 hS (by decide) rfl rfl .no (part_one ty_agg22 ty_sc22 rfl) ?_
    refine o_len (n := a0.Clauses.length) (by decide) rfl (List.length_map _) ty_isl22 ?_
    refine o_int (v := .v (.bool (decide ((a0.Clauses.length : Int) > 5)))) (by decide) rfl rfl rfl ?_
    refine o_move (v := .v (.bool (decide ((a0.Clauses.length : Int) > 5)))) (by decide) rfl ?_
    rcases Bool.eq_false_or_eq_true (decide ((a0.Clauses.length : Int) > 5)) with hb3 | hb3
    · replace hM := ifT hM hb3
      refine o_guardN (j := 4) (e := (decide ((a0.Clauses.length : Int) > 5))) (want := false) (by decide) rfl hb3 ?_
      refine o_guardN (j := 4) (e := (decide ((a0.Clauses.length : Int) > 5))) (want := false) (by decide) rfl hb3 ?_
      refine o_guardN (j := 4) (e := (decide ((a0.Clauses.length : Int) > 5))) (want := false) (by decide) rfl hb3 ?_
      refine o_guardN (j := 4) (e := (decide ((a0.Clauses.length : Int) > 5))) (want := false) (by decide) rfl hb3 ?_
      refine o_pickT (v := .v (.bool true)) (e := (decide ((a0.Clauses.length : Int) > 5))) (by decide) rfl hb3 rfl ?_
      refine o_move (v := .v (.bool true)) (by decide) rfl ?_
      refine o_guardN (j := 10) (e := true) (want := false) (by decide) rfl rfl ?_
      refine o_guardN (j := 10) (e := true) (want := false) (by decide) rfl rfl ?_
      refine o_guardN (j := 10) (e := true) (want := false) (by decide) rfl rfl ?_
      refine o_guardN (j := 10) (e := true) (want := false) (by decide) rfl rfl ?_
      refine o_pickT (v := .v (.bool true)) (e := true) (by decide) rfl rfl rfl ?_
      refine run_nil ?_
      exact w_goto true (.cons (.refl _) .nil) ⟨(hS.keep [false] rfl).up (by omega), hM⟩
    · replace hM := ifF hM hb3
      refine o_guardY (j := 4) (e := (decide ((a0.Clauses.length : Int) > 5))) (want := false) rfl hb3 ?_
      refine o_fieldP (by decide) ty_fo24_0 rfl ?_
      refine o_guardY (j := 4) (e := (decide ((a0.Clauses.length : Int) > 5))) (want := false) rfl hb3 ?_
      refine o_load (v := .sl .no 4 (a0.Clauses.map Clause.cells)) 0 hS (by decide) rfl rfl .no (part_one ty_agg22 ty_sc22 rfl) ?_
      refine o_guardY (j := 4) (e := (decide ((a0.Clauses.length : Int) > 5))) (want := false) rfl hb3 ?_
      refine o_move (v := .fn (.func 60) [] []) (by decide) rfl ?_
      refine o_guardY (j := 4) (e := (decide ((a0.Clauses.length : Int) > 5))) (want := false) rfl hb3 ?_
      obtain ⟨r4, hr4, hM⟩ := bindE hM
      refine o_call (bs := [.sl .no 4 (a0.Clauses.map Clause.cells), .fn (.func 60) [] []]) (by decide) rfl rfl (pure_of_hsat ((W_slices_ContainsFunc_apiClause (Lo := (fun (_ : Unit) => []))  (fun _ _ => kl_nil) (fun _ => List.nodup_nil) (fun _ => inb_nil) (aF := (fun (x0 : Clause) (_ : Unit) => (shares_Check_c1 x0).map fun y => (y, ()))) (fun _ _ _ => .fn _ _ _ ai_nil ai_nil) rfl (fun h => csat_pure (W_shares_Check_c1 (pure_some h))) hr4).le (.cons (.refl _) (.cons (.refl _) .nil)))) ?_
      refine o_pickF (v := .v (.bool r4.1)) (e := (decide ((a0.Clauses.length : Int) > 5))) (by decide) rfl hb3 rfl ?_
      refine o_move (v := .v (.bool r4.1)) (by decide) rfl ?_
      rcases Bool.eq_false_or_eq_true r4.1 with hb5 | hb5
      · replace hM := ifT hM hb5
        refine o_guardN (j := 10) (e := r4.1) (want := false) (by decide) rfl hb5 ?_
        refine o_guardN (j := 10) (e := r4.1) (want := false) (by decide) rfl hb5 ?_
        refine o_guardN (j := 10) (e := r4.1) (want := false) (by decide) rfl hb5 ?_
        refine o_guardN (j := 10) (e := r4.1) (want := false) (by decide) rfl hb5 ?_
        refine o_pickT (v := .v (.bool true)) (e := r4.1) (by decide) rfl hb5 rfl ?_
        refine run_nil ?_
        exact w_goto true (.cons (.refl _) .nil) ⟨(hS.keep [false] rfl).up (by omega), hM⟩
      · replace hM := ifF hM hb5
        refine o_guardY (j := 10) (e := r4.1) (want := false) rfl hb5 ?_
        refine o_fieldP (by decide) ty_fo24_1 rfl ?_
        refine o_guardY (j := 10) (e := r4.1) (want := false) rfl hb5 ?_
        refine o_load (v := .v (.int .i64 a0.Loan)) 0 hS (by decide) rfl rfl .no (part_one ty_agg3 ty_sc3 rfl) ?_
        refine o_guardY (j := 10) (e := r4.1) (want := false) rfl hb5 ?_
        obtain ⟨r6, hr6, hM⟩ := bindE hM
        refine o_call (bs := [.v (.int .i64 a0.Loan)]) (by decide) rfl rfl ((W_shares_isCents hr6).le (.cons (.refl _) .nil)) ?_
        refine o_guardY (j := 10) (e := r4.1) (want := false) rfl hb5 ?_
        refine o_not (e := r6) (by decide) rfl ?_
        refine o_pickF (v := .v (.bool (!r6))) (e := r4.1) (by decide) rfl hb5 rfl ?_
        refine run_nil ?_
        exact w_goto (!r6) (.cons (.refl _) .nil) ⟨(hS.keep [false] rfl).up (by omega), hM⟩
theorem W_shares_ask {n : Nat} {a0 : Share} {a1 : Bool} {r : Int} (hM : shares_ask n a0 a1 = some r) : PureSat Try.prog 48 [.agg [.sl .no 4 (a0.Clauses.map Clause.cells), .v (.int .i64 a0.Loan)], .v (.bool a1)] (.v (.int .i64 r)) := by
  refine pure_of_wp mixed Try.func48 rfl (by decide) Try.ntmps48 (by simp) ?pure fun H0 g hf => ?_
  case pure => exact .v _
  rw [frame0_of]
  change wpA _ _ _ _ (Fr.of [(0, .agg [.sl .no 4 (a0.Clauses.map Clause.cells), .v (.int .i64 a0.Loan)]), (1, .v (.bool a1))]) H0 g
  have hS := St.start hf
  refine r_seq ?_
  refine r_region (n := 2) rfl ?_
  refine o_box (v := .agg [.sl .no 4 (a0.Clauses.map Clause.cells), .v (.int .i64 a0.Loan)]) (cs := [.sl .no 4 (a0.Clauses.map Clause.cells), .v (.int .i64 a0.Loan)]) hS (by decide) rfl rfl (by omega) fun H hS => ?_
  refine o_assign (v := .v (.int .i64 0)) (by decide) rfl ?_
  refine run_nil ?_
  refine w_next [(1, .v (.bool a1)), (2, .ptr (g + 0) 0)] (.cons (.refl _) (.cons (.refl _) .nil)) ?_
  refine r_seq ?_
  refine r_seq ?_
  refine r_region (n := 3) rfl ?_
  refine o_load (v := .agg [.sl .no 4 (a0.Clauses.map Clause.cells), .v (.int .i64 a0.Loan)]) 0 hS (by decide) rfl rfl .no (part_agg ty_agg24 (Nat.le_of_ble_eq_true rfl) rfl) ?_
  obtain ⟨r1, hr1, hM⟩ := bindE hM
  refine o_call (bs := [.agg [.sl .no 4 (a0.Clauses.map Clause.cells), .v (.int .i64 a0.Loan)]]) (by decide) rfl rfl ((W_shares_Check hr1).le (.cons (.refl _) .nil)) ?_
  refine o_assign (v := .v (.int .i64 r1)) (by decide) rfl ?_
  refine run_nil ?_
  replace hS := hS.keep (L' := []) [false] rfl
  refine w_next [(1, .v (.bool a1)), (5, .v (.int .i64 r1))] (.cons (.refl _) (.cons (.refl _) .nil)) ?_
  refine r_seq ?_
  refine r_region (n := 2) rfl ?_
  refine o_move (v := .v (.int .i64 r1)) (by decide) rfl ?_
  refine o_int (v := .v (.bool (r1 != 0))) (by decide) rfl rfl rfl ?_
  refine run_nil ?_
  refine w_next [(1, .v (.bool a1)), (5, .v (.int .i64 r1)), (9, .v (.bool (r1 != 0)))] (.cons (.refl _) (.cons (.refl _) (.cons (.refl _) .nil))) ?_
  rcases Bool.eq_false_or_eq_true (r1 != 0) with hb2 | hb2
  · replace hM := ifT hM hb2
    refine w_condT (e := (r1 != 0)) rfl hb2 ?_
    refine r_seq ?_
    refine r_region (n := 2) rfl ?_
    refine o_move (v := .v (.int .i64 r1)) (by decide) rfl ?_
    refine o_assign (v := .v (.int .i64 r1)) (by decide) rfl ?_
    refine run_nil ?_
    refine w_next [(4, .v (.int .i64 r1))] (.cons (.refl _) .nil) ?_
    refine r_ret ?_
    refine r_then_ret ?_
    refine w_end (x := .v (.int .i64 r1)) (f := fun r => .v (.int .i64 r)) (.inr rfl) ?_ (.refl _) (Option.some.inj hM) hS
    exact (res_one (res_tmp (x := .v (.int .i64 r1)) rfl))
  · replace hM := ifF hM hb2
    refine w_condF (e := (r1 != 0)) rfl hb2 ?_
    refine r_skip ?_
    refine w_next [(1, .v (.bool a1))] (.cons (.refl _) .nil) ?_
    refine r_seq ?_
    refine r_seq ?_
    refine r_region (n := 2) rfl ?_
    refine o_move (v := .v (.bool a1)) (by decide) rfl ?_
    refine o_not (e := a1) (by decide) rfl ?_
    refine run_nil ?_
    refine w_next [(12, .v (.bool (!a1)))] (.cons (.refl _) .nil) ?_
    rcases Bool.eq_false_or_eq_true (!a1) with hb3 | hb3
    · replace hM := ifT hM hb3
      refine w_condT (e := (!a1)) rfl hb3 ?_
      refine r_seq ?_
      refine r_region (n := 1) rfl ?_
      refine o_assign (v := .v (.int .i64 1)) (by decide) rfl ?_
      refine run_nil ?_
      refine w_next [(4, .v (.int .i64 1))] (.cons (.refl _) .nil) ?_
      refine r_ret ?_
      refine r_then_ret ?_
      refine w_end (x := .v (.int .i64 1)) (f := fun r => .v (.int .i64 r)) (.inr rfl) ?_ (.refl _) (Option.some.inj hM) hS
      exact (res_one (res_tmp (x := .v (.int .i64 1)) rfl))
    · replace hM := ifF hM hb3
      refine w_condF (e := (!a1)) rfl hb3 ?_
      refine r_skip ?_
      refine w_next [] .nil ?_
      refine r_seq ?_
      refine r_region (n := 1) rfl ?_
      refine o_assign (v := .v (.int .i64 0)) (by decide) rfl ?_
      refine run_nil ?_
      refine w_next [(4, .v (.int .i64 0))] (.cons (.refl _) .nil) ?_
      refine r_ret ?_
      refine w_end (x := .v (.int .i64 0)) (f := fun r => .v (.int .i64 r)) (.inr rfl) ?_ (.refl _) (Option.some.inj hM) hS
      exact (res_one (res_tmp (x := .v (.int .i64 0)) rfl))
theorem W_slices_Index_int {n : Nat} {a0 : List Int} {a1 : Int} {r : Int} (hM : slices_Index_int n a0 a1 = some r) : PureSat Try.prog 73 [.sl .no 1 (a0.map cI), .v (.int .i64 a1)] (.v (.int .i64 r)) := by
  refine pure_of_wp mixed Try.func73 rfl (by decide) Try.ntmps73 (by simp) ?pure fun H0 g hf => ?_
  case pure => exact .v _
  rw [frame0_of]
  change wpA _ _ _ _ (Fr.of [(0, .sl .no 1 (a0.map cI)), (1, .v (.int .i64 a1))]) H0 g
  have hS := St.start hf
  refine r_seq ?_
  refine r_region (n := 1) rfl ?_
  refine o_assign (v := .v (.int .i64 0)) (by decide) rfl ?_
  refine run_nil ?_
  refine w_next [(0, .sl .no 1 (a0.map cI)), (1, .v (.int .i64 a1))] (.cons (.refl _) (.cons (.refl _) .nil)) ?_
  refine w_join (J := Unit) (fun j => []) (fun j H' g' => St (· < g) H0 [] H' g' ∧ slices_Index_int_j1 = some r) ?_ ?_
  · rintro _ H g1 ⟨hS, hM⟩
    change wpA _ _ _ _ (Fr.of []) _ _
    replace hS : St (· < g) H0 [] H g1 := hS
    replace hM : slices_Index_int_j1 = some r := hM
    refine r_seq ?_
    refine r_region (n := 1) rfl ?_
    refine o_assign (v := .v (.int .i64 (-1))) (by decide) rfl ?_
    refine run_nil ?_
    refine w_next [(4, .v (.int .i64 (-1)))] (.cons (.refl _) .nil) ?_
    refine r_ret ?_
    refine w_end (x := .v (.int .i64 (-1))) (f := fun r => .v (.int .i64 r)) (.inr rfl) ?_ (.refl _) (Option.some.inj hM) hS
    exact (res_one (res_tmp (x := .v (.int .i64 (-1))) rfl))
  · refine r_seq ?_
    refine r_region (n := 3) rfl ?_
    refine o_move (v := .sl .no 1 (a0.map cI)) (by decide) rfl ?_
    refine o_len (n := a0.length) (by decide) rfl (List.length_map _) ty_isl28 ?_
    refine o_move (v := .v (.int .i64 0)) (by decide) rfl ?_
    refine run_nil ?_
    refine w_next [(0, .sl .no 1 (a0.map cI)), (1, .v (.int .i64 a1)), (7, .v (.int .i64 (a0.length : Int))), (8, .v (.int .i64 0))] (.cons (.refl _) (.cons (.refl _) (.cons (.refl _) (.cons (.refl _) .nil)))) ?_
    refine r_block ?_
    refine w_loop (V := Int) (fun v => [(0, .sl .no 1 (a0.map cI)), (1, .v (.int .i64 a1)), (7, .v (.int .i64 (a0.length : Int))), (8, .v (.int .i64 v))]) (fun v m2 H' g' => St (· < g) H0 [] H' g' ∧ slices_Index_int_l1 a0 a1 m2 v = some r) (n := n) 0 (.cons (.refl _) (.cons (.refl _) (.cons (.refl _) (.cons (.refl _) .nil)))) ⟨(hS.keep [] rfl).up (by omega), hM⟩ ?_
    rintro v1 m2 H g2 ⟨hS, hM⟩
    obtain _ | m2 := m2
    · exact nomatch (show none = some _ from hM)
    change wpA _ _ _ _ (Fr.of [(0, .sl .no 1 (a0.map cI)), (1, .v (.int .i64 a1)), (7, .v (.int .i64 (a0.length : Int))), (8, .v (.int .i64 v1))]) _ _
    replace hS : St (· < g) H0 [] H g2 := hS
    replace hM : slices_Index_int_l1_b a0 a1 (slices_Index_int_l1 a0 a1 m2) v1 = some r := hM
    refine r_seq ?_
    refine r_region (n := 1) rfl ?_
    refine o_int (v := .v (.bool (decide (v1 < (a0.length : Int))))) (by decide) rfl rfl rfl ?_
    refine run_nil ?_
    refine w_next [(0, .sl .no 1 (a0.map cI)), (1, .v (.int .i64 a1)), (7, .v (.int .i64 (a0.length : Int))), (8, .v (.int .i64 v1)), (9, .v (.bool (decide (v1 < (a0.length : Int)))))] (.cons (.refl _) (.cons (.refl _) (.cons (.refl _) (.cons (.refl _) (.cons (.refl _) .nil))))) ?_
    refine r_seq ?_
    rcases Bool.eq_false_or_eq_true (decide (v1 < (a0.length : Int))) with hb2 | hb2
    · replace hM := ifT hM hb2
      refine w_condT (e := (decide (v1 < (a0.length : Int)))) rfl hb2 ?_
      refine r_skip ?_
      refine w_next [(0, .sl .no 1 (a0.map cI)), (1, .v (.int .i64 a1)), (7, .v (.int .i64 (a0.length : Int))), (8, .v (.int .i64 v1))] (.cons (.refl _) (.cons (.refl _) (.cons (.refl _) (.cons (.refl _) .nil)))) ?_
      refine r_seq ?_
      refine r_block ?_
      refine r_seq ?_
      refine r_region (n := 2) rfl ?_
      refine o_move (v := .v (.int .i64 v1)) (by decide) rfl ?_
      refine o_assign (v := .v (.int .i64 v1)) (by decide) rfl ?_
      refine run_nil ?_
      refine w_next [(0, .sl .no 1 (a0.map cI)), (1, .v (.int .i64 a1)), (5, .v (.int .i64 v1)), (7, .v (.int .i64 (a0.length : Int))), (8, .v (.int .i64 v1))] (.cons (.refl _) (.cons (.refl _) (.cons (.refl _) (.cons (.refl _) (.cons (.refl _) .nil))))) ?_
      refine r_seq ?_
      refine r_region (n := 6) rfl ?_
      refine o_move (v := .v (.int .i64 a1)) (by decide) rfl ?_
      refine o_move (v := .sl .no 1 (a0.map cI)) (by decide) rfl ?_
      refine o_move (v := .v (.int .i64 v1)) (by decide) rfl ?_
      obtain ⟨x3, hx3, hM⟩ := bindE hM
      refine o_index (xs := a0) (f := cI) (z := v1) (u := x3) (by decide) rfl rfl ty_es28 hx3 ?_
      refine o_loadE (v := .v (.int .i64 x3)) (by decide) rfl (part_one ty_agg3 ty_sc3 rfl) ?_
      refine o_int (v := .v (.bool (a1 == x3))) (by decide) rfl rfl rfl ?_
      refine run_nil ?_
      refine w_next [(0, .sl .no 1 (a0.map cI)), (1, .v (.int .i64 a1)), (5, .v (.int .i64 v1)), (7, .v (.int .i64 (a0.length : Int))), (8, .v (.int .i64 v1)), (16, .v (.bool (a1 == x3)))] (.cons (.refl _) (.cons (.refl _) (.cons (.refl _) (.cons (.refl _) (.cons (.refl _) (.cons (.refl _) .nil)))))) ?_
      rcases Bool.eq_false_or_eq_true (a1 == x3) with hb4 | hb4
      · replace hM := ifT hM hb4
        refine w_condT (e := (a1 == x3)) rfl hb4 ?_
        refine r_seq ?_
        refine r_region (n := 2) rfl ?_
        refine o_move (v := .v (.int .i64 v1)) (by decide) rfl ?_
        refine o_assign (v := .v (.int .i64 v1)) (by decide) rfl ?_
        refine run_nil ?_
        refine w_next [(4, .v (.int .i64 v1))] (.cons (.refl _) .nil) ?_
        refine r_ret ?_
        refine r_blk_ret ?_
        refine r_then_ret ?_
        refine w_round_ret ?_
        refine r_blk_ret ?_
        refine w_goto_ret ?_
        refine w_end (x := .v (.int .i64 v1)) (f := fun r => .v (.int .i64 r)) (.inr rfl) ?_ (.refl _) (Option.some.inj hM) hS
        exact (res_one (res_tmp (x := .v (.int .i64 v1)) rfl))
      · replace hM := ifF hM hb4
        refine w_condF (e := (a1 == x3)) rfl hb4 ?_
        refine r_skip ?_
        refine r_blk_normal ?_
        refine w_next [(0, .sl .no 1 (a0.map cI)), (1, .v (.int .i64 a1)), (7, .v (.int .i64 (a0.length : Int))), (8, .v (.int .i64 v1))] (.cons (.refl _) (.cons (.refl _) (.cons (.refl _) (.cons (.refl _) .nil)))) ?_
        refine r_region (n := 2) rfl ?_
        refine o_int (v := .v (.int .i64 (w64 (v1 + 1)))) (by decide) rfl rfl rfl ?_
        refine o_move (v := .v (.int .i64 (w64 (v1 + 1)))) (by decide) rfl ?_
        refine run_nil ?_
        exact w_round (w64 (v1 + 1)) (Nat.lt_succ_self _) (.cons (.refl _) (.cons (.refl _) (.cons (.refl _) (.cons (.refl _) .nil)))) ⟨(hS.keep [] rfl).up (by omega), hM⟩
    · replace hM := ifF hM hb2
      refine w_condF (e := (decide (v1 < (a0.length : Int)))) rfl hb2 ?_
      refine r_exit ?_
      refine r_then_exit ?_
      refine w_round_exit ?_
      refine r_blk_exit ?_
      exact w_goto () .nil ⟨(hS.keep [] rfl).up (by omega), hM⟩
theorem W_slices_Contains_int {n : Nat} {a0 : List Int} {a1 : Int} {r : Bool} (hM : slices_Contains_int n a0 a1 = some r) : PureSat Try.prog 65 [.sl .no 1 (a0.map cI), .v (.int .i64 a1)] (.v (.bool r)) := by
  refine pure_of_wp mixed Try.func65 rfl (by decide) Try.ntmps65 (by simp) ?pure fun H0 g hf => ?_
  case pure => exact .v _
  rw [frame0_of]
  change wpA _ _ _ _ (Fr.of [(0, .sl .no 1 (a0.map cI)), (1, .v (.int .i64 a1))]) H0 g
  have hS := St.start hf
  refine r_seq ?_
  refine r_region (n := 1) rfl ?_
  refine o_assign (v := .v (.bool false)) (by decide) rfl ?_
  refine run_nil ?_
  refine w_next [(0, .sl .no 1 (a0.map cI)), (1, .v (.int .i64 a1))] (.cons (.refl _) (.cons (.refl _) .nil)) ?_
  refine r_seq ?_
  refine r_region (n := 5) rfl ?_
  refine o_move (v := .sl .no 1 (a0.map cI)) (by decide) rfl ?_
  refine o_move (v := .v (.int .i64 a1)) (by decide) rfl ?_
  obtain ⟨r1, hr1, hM⟩ := bindE hM
  refine o_call (bs := [.sl .no 1 (a0.map cI), .v (.int .i64 a1)]) (by decide) rfl rfl ((W_slices_Index_int hr1).le (.cons (.refl _) (.cons (.refl _) .nil))) ?_
  refine o_int (v := .v (.bool (decide (r1 ≥ 0)))) (by decide) rfl rfl rfl ?_
  refine o_assign (v := .v (.bool (decide (r1 ≥ 0)))) (by decide) rfl ?_
  refine run_nil ?_
  refine w_next [(4, .v (.bool (decide (r1 ≥ 0))))] (.cons (.refl _) .nil) ?_
  refine r_ret ?_
  refine w_end (x := .v (.bool (decide (r1 ≥ 0)))) (f := fun r => .v (.bool r)) (.inr rfl) ?_ (.refl _) (Option.some.inj hM) hS
  exact (res_one (res_tmp (x := .v (.bool (decide (r1 ≥ 0)))) rfl))
theorem W_slices_Clone_int {a0 : List Int} {r : List Int} (hM : slices_Clone_int a0 = some r) : FreshSat Try.prog 66 [.sl .no 1 (a0.map cI)] 3 1 (r.map cI) := by
  have hr : r = a0 := by
    unfold slices_Clone_int app at hM
    split at hM
    · injection hM with hM; rw [← hM]; rfl
    · cases hM
  refine fresh_of_wp mixed Try.func66 rfl (by decide) Try.ntmps66 (by simp) ?pure fun H0 g hf => ?_
  case pure => exact pures_map (fun x => (pl_cons (.v _) pl_nil))
  rw [frame0_of]
  change wpA _ _ _ _ (Fr.of [(0, .sl .no 1 (a0.map cI))]) H0 g
  have hS := St.start hf
  refine r_seq ?_
  refine r_region (n := 1) rfl ?_
  refine o_assign (v := .sl .nil 0 []) (by decide) rfl ?_
  refine run_nil ?_
  refine w_next [(0, .sl .no 1 (a0.map cI))] (.cons (.refl _) .nil) ?_
  refine r_seq ?_
  refine r_seq ?_
  refine r_region (n := 2) rfl ?_
  refine o_move (v := .sl .no 1 (a0.map cI)) (by decide) rfl ?_
  refine o_nil (t := 28) (tg := .no) (k := 1) (es := a0.map cI) (e := true) (by decide) rfl rfl rfl rfl ty_isl28 (fun _ => ?_) (fun hnil => ?_)
  · refine run_nil ?_
    refine w_next [(0, .sl .no 1 (a0.map cI)), (4, .v (.bool (false == true)))] (.cons (.refl _) (.cons (.refl _) .nil)) ?_
    refine w_condF (e := false == true) rfl rfl ?_
    refine r_skip ?_
    refine w_next [(0, .sl .no 1 (a0.map cI))] (.cons (.refl _) .nil) ?_
    refine r_seq ?_
    refine r_region (n := 4) rfl ?_
    refine o_buildSlice (es := []) hS (by decide) ty_es28 ty_el28 rfl ty_ef28 rfl (by decide) (by omega) fun H hS => ?_
    refine o_move (v := .sl .no 1 (a0.map cI)) (by decide) rfl ?_
    refine o_append (xs := ([] : List Int)) (ys := a0) (zs := r) (f := cI) (L' := [(g + 1 + 2 + 0, .row 3 r.length)]) 0 hS (by decide) rfl rfl rfl rfl .no ty_es28 ty_el28 ty_ef28 hM rfl fun H hS => ?_
    refine o_assign (v := .sl (.id (g + 1 + 2 + 0)) 1 (r.map cI)) (by decide) rfl ?_
    refine run_nil ?_
    refine w_next [(2, .sl (.id (g + 1 + 2 + 0)) 1 (r.map cI))] (.cons (.refl _) .nil) ?_
    refine r_ret ?_
    refine w_endF (j := g + 1 + 2 + 0) 0 (.inr rfl) ?_ hS rfl (List.length_map _).symm
    exact res_one (res_tmp rfl)
  · refine run_nil ?_
    refine w_next [(0, .sl .no 1 (a0.map cI)), (4, .v (.bool (true == true)))] (.cons (.refl _) (.cons (.refl _) .nil)) ?_
    refine w_condT (e := true == true) rfl rfl ?_
    refine r_seq ?_
    refine r_region (n := 1) rfl ?_
    refine o_assign (v := .sl .nil 0 []) (by decide) rfl ?_
    refine run_nil ?_
    refine w_next [(2, .sl .nil 0 [])] (.cons (.refl _) .nil) ?_
    refine r_ret ?_
    refine r_then_ret ?_
    refine w_endN (k' := 0) (.inr rfl) ?_ hS (by decide) (by rw [hr]; exact hnil)
    exact res_one (res_tmp rfl)
theorem W_shares_orders_b {S : Type} {Lo : S → BL} (hk : ∀ s s', KinL (Lo s) (Lo s')) (hnd : ∀ s, (ids (Lo s)).Nodup) (hin : ∀ s, InB In (Lo s)) {aF : (List Int) → S → Option (Bool × S)} {f0 : AV} (hF : ∀ s H, Has H (Lo s) → In H f0) (h0 : cellsOf f0 = some [f0]) (hf : ∀ {x0 : List Int} {s : S} {r : Bool × S}, aF x0 s = some r → CSat Try.prog f0 [.sl .no 1 (x0.map cI)] (Lo s) (.v (.bool r.1)) (Lo r.2)) {n : Nat} {rec : Int → (List Int) → S → Option (Bool × S)} (hrec : ∀ {a0 : Int} {a1 : List Int} {st : S} {r : Bool × S}, rec a0 a1 st = some r → HSat Try.prog 50 [.v (.int .i64 a0), .sl .no 1 (a1.map cI), f0] (Lo st) (.v (.bool r.1)) (Lo r.2)) {a0 : Int} {a1 : List Int} {st : S} {r : Bool × S} (hM : shares_orders_b n rec aF a0 a1 st = some r) : HSat Try.prog 50 [.v (.int .i64 a0), .sl .no 1 (a1.map cI), f0] (Lo st) (.v (.bool r.1)) (Lo r.2) := by
  have hnd0 : ∀ s, (ids (Lo s)).Nodup := fun s => hnd s
  refine hsat_of_wp mixed Try.func50 rfl (by decide) Try.ntmps50 (by simp) (hk _ _) (hnd st) ?pure ?cells fun H0 g hf_ hp => ?_
  case pure => exact fun H _ => (show Go.AM.Pure _ from .v _).inH
  case cells => exact hin _
  rw [frame0_of]
  change wpA _ _ _ _ (Fr.of [(0, .v (.int .i64 a0)), (1, .sl .no 1 (a1.map cI)), (2, f0)]) H0 g
  have hS := St.startH (L := ([] ++ Lo st)) hf_ (hnd st) hp
  replace hS : St (fun i => i < g ∧ i ∉ ids (Lo st)) H0 ([] ++ Lo st) H0 g := hS
  refine r_seq ?_
  refine r_region (n := 1) rfl ?_
  refine o_assign (v := .v (.bool false)) (by decide) rfl ?_
  refine run_nil ?_
  refine w_next [(0, .v (.int .i64 a0)), (1, .sl .no 1 (a1.map cI)), (2, f0)] (.cons (.refl _) (.cons (.refl _) (.cons (.refl _) .nil))) ?_
  refine r_seq ?_
  refine r_seq ?_
  refine r_region (n := 4) rfl ?_
  refine o_move (v := .sl .no 1 (a1.map cI)) (by decide) rfl ?_
  refine o_len (n := a1.length) (by decide) rfl (List.length_map _) ty_isl28 ?_
  refine o_move (v := .v (.int .i64 a0)) (by decide) rfl ?_
  refine o_int (v := .v (.bool ((a1.length : Int) == a0))) (by decide) rfl rfl rfl ?_
  refine run_nil ?_
  refine w_next [(0, .v (.int .i64 a0)), (1, .sl .no 1 (a1.map cI)), (2, f0), (11, .v (.bool ((a1.length : Int) == a0)))] (.cons (.refl _) (.cons (.refl _) (.cons (.refl _) (.cons (.refl _) .nil)))) ?_
  rcases Bool.eq_false_or_eq_true ((a1.length : Int) == a0) with hb1 | hb1
  · replace hM := ifT hM hb1
    refine w_condT (e := ((a1.length : Int) == a0)) rfl hb1 ?_
    refine r_seq ?_
    refine r_region (n := 4) rfl ?_
    refine o_move (v := f0) (by decide) rfl ?_
    refine o_move (v := .sl .no 1 (a1.map cI)) (by decide) rfl ?_
    obtain ⟨r2, hr2, hM⟩ := bindE hM
    replace hS : St (fun i => i < g ∧ i ∉ ids (Lo st)) H0 ([] ++ Lo st) _ _ := hS
    refine o_state (bs := [.sl .no 1 (a1.map cI)]) (.inl rfl) hS (by decide) rfl rfl ((hf hr2).le (.cons (.refl _) .nil)) (hk _ _).ids (by omega) fun H hS => ?_
    refine o_assign (v := .v (.bool r2.1)) (by decide) rfl ?_
    refine run_nil ?_
    refine w_next [(6, .v (.bool r2.1))] (.cons (.refl _) .nil) ?_
    refine r_ret ?_
    refine r_then_ret ?_
    refine w_endS (x := .v (.bool r2.1)) (f := fun r => .v (.bool r.1)) (fd := fun r => (Lo r.2)) (.inr rfl) ?_ (.refl _) (Option.some.inj hM) hS 0 rfl
    exact (res_one (res_tmp (x := .v (.bool r2.1)) rfl))
  · replace hM := ifF hM hb1
    refine w_condF (e := ((a1.length : Int) == a0)) rfl hb1 ?_
    refine r_skip ?_
    refine w_next [(0, .v (.int .i64 a0)), (1, .sl .no 1 (a1.map cI)), (2, f0)] (.cons (.refl _) (.cons (.refl _) (.cons (.refl _) .nil))) ?_
    refine w_join (J := S) (fun j => []) (fun j H' g' => St (fun i => i < g ∧ i ∉ ids (Lo st)) H0 ([] ++ Lo j) H' g' ∧ shares_orders_j1 j = some r) ?_ ?_
    · rintro v3 H g1 ⟨hS, hM⟩
      change wpA _ _ _ _ (Fr.of []) _ _
      replace hS : St (fun i => i < g ∧ i ∉ ids (Lo st)) H0 ([] ++ Lo v3) H g1 := hS
      replace hM : shares_orders_j1 v3 = some r := hM
      refine r_seq ?_
      refine r_region (n := 1) rfl ?_
      refine o_assign (v := .v (.bool true)) (by decide) rfl ?_
      refine run_nil ?_
      refine w_next [(6, .v (.bool true))] (.cons (.refl _) .nil) ?_
      refine r_ret ?_
      refine w_endS (x := .v (.bool true)) (f := fun r => .v (.bool r.1)) (fd := fun r => (Lo r.2)) (.inr rfl) ?_ (.refl _) (Option.some.inj hM) hS 0 rfl
      exact (res_one (res_tmp (x := .v (.bool true)) rfl))
    · refine r_seq ?_
      refine r_region (n := 2) rfl ?_
      refine o_move (v := .v (.int .i64 a0)) (by decide) rfl ?_
      refine o_move (v := .v (.int .i64 0)) (by decide) rfl ?_
      refine run_nil ?_
      refine w_next [(0, .v (.int .i64 a0)), (1, .sl .no 1 (a1.map cI)), (2, f0), (15, .v (.int .i64 a0)), (16, .v (.int .i64 0))] (.cons (.refl _) (.cons (.refl _) (.cons (.refl _) (.cons (.refl _) (.cons (.refl _) .nil))))) ?_
      refine r_block ?_
      refine w_loop (V := Int × S) (fun v => [(0, .v (.int .i64 a0)), (1, .sl .no 1 (a1.map cI)), (2, f0), (15, .v (.int .i64 a0)), (16, .v (.int .i64 v.1))]) (fun v m3 H' g' => St (fun i => i < g ∧ i ∉ ids (Lo st)) H0 ([] ++ Lo v.2) H' g' ∧ shares_orders_l1 n rec a0 a1 m3 v.1 v.2 = some r) (n := n) (0, st) (.cons (.refl _) (.cons (.refl _) (.cons (.refl _) (.cons (.refl _) (.cons (.refl _) .nil))))) ⟨(hS.keep [] rfl).up (by omega), hM⟩ ?_
      rintro ⟨v5, v6⟩ m3 H g3 ⟨hS, hM⟩
      obtain _ | m3 := m3
      · exact nomatch (show none = some _ from hM)
      change wpA _ _ _ _ (Fr.of [(0, .v (.int .i64 a0)), (1, .sl .no 1 (a1.map cI)), (2, f0), (15, .v (.int .i64 a0)), (16, .v (.int .i64 v5))]) _ _
      replace hS : St (fun i => i < g ∧ i ∉ ids (Lo st)) H0 ([] ++ Lo v6) H g3 := hS
      replace hM : shares_orders_l1_b n rec a0 a1 (shares_orders_l1 n rec a0 a1 m3) v5 v6 = some r := hM
      refine r_seq ?_
      refine r_region (n := 1) rfl ?_
      refine o_int (v := .v (.bool (decide (v5 < a0)))) (by decide) rfl rfl rfl ?_
      refine run_nil ?_
      refine w_next [(0, .v (.int .i64 a0)), (1, .sl .no 1 (a1.map cI)), (2, f0), (15, .v (.int .i64 a0)), (16, .v (.int .i64 v5)), (17, .v (.bool (decide (v5 < a0))))] (.cons (.refl _) (.cons (.refl _) (.cons (.refl _) (.cons (.refl _) (.cons (.refl _) (.cons (.refl _) .nil)))))) ?_
      refine r_seq ?_
      rcases Bool.eq_false_or_eq_true (decide (v5 < a0)) with hb7 | hb7
      · replace hM := ifT hM hb7
        refine w_condT (e := (decide (v5 < a0))) rfl hb7 ?_
        refine r_skip ?_
        refine w_next [(0, .v (.int .i64 a0)), (1, .sl .no 1 (a1.map cI)), (2, f0), (15, .v (.int .i64 a0)), (16, .v (.int .i64 v5))] (.cons (.refl _) (.cons (.refl _) (.cons (.refl _) (.cons (.refl _) (.cons (.refl _) .nil))))) ?_
        refine r_seq ?_
        refine r_block ?_
        refine r_seq ?_
        refine r_region (n := 2) rfl ?_
        refine o_move (v := .v (.int .i64 v5)) (by decide) rfl ?_
        refine o_assign (v := .v (.int .i64 v5)) (by decide) rfl ?_
        refine run_nil ?_
        refine w_next [(0, .v (.int .i64 a0)), (1, .sl .no 1 (a1.map cI)), (2, f0), (7, .v (.int .i64 v5)), (15, .v (.int .i64 a0)), (16, .v (.int .i64 v5))] (.cons (.refl _) (.cons (.refl _) (.cons (.refl _) (.cons (.refl _) (.cons (.refl _) (.cons (.refl _) .nil)))))) ?_
        refine w_join (J := Bool × S) (fun j => [(0, .v (.int .i64 a0)), (1, .sl .no 1 (a1.map cI)), (2, f0), (15, .v (.int .i64 a0)), (16, .v (.int .i64 v5)), (33, .v (.bool j.1))]) (fun j H' g' => St (fun i => i < g ∧ i ∉ ids (Lo st)) H0 ([] ++ Lo j.2) H' g' ∧ shares_orders_j2 (shares_orders_l1 n rec a0 a1 m3) v5 j.1 j.2 = some r) ?_ ?_
        · rintro ⟨v8, v9⟩ H g4 ⟨hS, hM⟩
          change wpA _ _ _ _ (Fr.of [(0, .v (.int .i64 a0)), (1, .sl .no 1 (a1.map cI)), (2, f0), (15, .v (.int .i64 a0)), (16, .v (.int .i64 v5)), (33, .v (.bool v8))]) _ _
          replace hS : St (fun i => i < g ∧ i ∉ ids (Lo st)) H0 ([] ++ Lo v9) H g4 := hS
          replace hM : shares_orders_j2 (shares_orders_l1 n rec a0 a1 m3) v5 v8 v9 = some r := hM
          rcases Bool.eq_false_or_eq_true v8 with hb10 | hb10
          · replace hM := ifT hM hb10
            refine w_condT (e := v8) rfl hb10 ?_
            refine r_seq ?_
            refine r_region (n := 1) rfl ?_
            refine o_assign (v := .v (.bool false)) (by decide) rfl ?_
            refine run_nil ?_
            refine w_next [(6, .v (.bool false))] (.cons (.refl _) .nil) ?_
            refine r_ret ?_
            refine r_blk_ret ?_
            refine r_then_ret ?_
            refine w_round_ret ?_
            refine r_blk_ret ?_
            refine w_goto_ret ?_
            refine w_endS (x := .v (.bool false)) (f := fun r => .v (.bool r.1)) (fd := fun r => (Lo r.2)) (.inr rfl) ?_ (.refl _) (Option.some.inj hM) hS 0 rfl
            exact (res_one (res_tmp (x := .v (.bool false)) rfl))
          · replace hM := ifF hM hb10
            refine w_condF (e := v8) rfl hb10 ?_
            refine r_skip ?_
            refine r_blk_normal ?_
            refine w_next [(0, .v (.int .i64 a0)), (1, .sl .no 1 (a1.map cI)), (2, f0), (15, .v (.int .i64 a0)), (16, .v (.int .i64 v5))] (.cons (.refl _) (.cons (.refl _) (.cons (.refl _) (.cons (.refl _) (.cons (.refl _) .nil))))) ?_
            refine r_region (n := 2) rfl ?_
            refine o_int (v := .v (.int .i64 (w64 (v5 + 1)))) (by decide) rfl rfl rfl ?_
            refine o_move (v := .v (.int .i64 (w64 (v5 + 1)))) (by decide) rfl ?_
            refine run_nil ?_
            exact w_round (w64 (v5 + 1), v9) (Nat.lt_succ_self _) (.cons (.refl _) (.cons (.refl _) (.cons (.refl _) (.cons (.refl _) (.cons (.refl _) .nil))))) ⟨(hS.keep [] rfl).up (by omega), hM⟩
        · refine r_region (n := 15) rfl ?_
          refine o_move (v := .sl .no 1 (a1.map cI)) (by decide) rfl ?_
          refine o_move (v := .v (.int .i64 v5)) (by decide) rfl ?_
          obtain ⟨r11, hr11, hM⟩ := bindE hM
          refine o_call (bs := [.sl .no 1 (a1.map cI), .v (.int .i64 v5)]) (by decide) rfl rfl ((W_slices_Contains_int hr11).le (.cons (.refl _) (.cons (.refl _) .nil))) ?_
          refine o_not (e := r11) (by decide) rfl ?_
          refine o_move (v := .v (.bool (!r11))) (by decide) rfl ?_
          rcases Bool.eq_false_or_eq_true (!r11) with hb12 | hb12
          · replace hM := ifT hM hb12
            refine o_guardY (j := 4) (e := (!r11)) (want := true) rfl hb12 ?_
            refine o_move (v := .v (.int .i64 a0)) (by decide) rfl ?_
            refine o_guardY (j := 4) (e := (!r11)) (want := true) rfl hb12 ?_
            refine o_move (v := .sl .no 1 (a1.map cI)) (by decide) rfl ?_
            refine o_guardY (j := 4) (e := (!r11)) (want := true) rfl hb12 ?_
            obtain ⟨l13, hl13, hM⟩ := bindE hM
            refine o_fresh (bs := [.sl .no 1 (a1.map cI)]) hS (by decide) rfl rfl ((W_slices_Clone_int hl13).le (.cons (.refl _) .nil)) (by omega) fun H hS => ?_
            rw [List.length_map] at hS
            refine o_guardY (j := 4) (e := (!r11)) (want := true) rfl hb12 ?_
            refine o_move (v := .v (.int .i64 v5)) (by decide) rfl ?_
            refine o_guardY (j := 4) (e := (!r11)) (want := true) rfl hb12 ?_
            refine o_buildSlice (es := [[.v (.int .i64 v5)]]) hS (by decide) ty_es28 ty_el28 rfl ty_ef28 rfl (by decide) (by omega) fun H hS => ?_
            refine o_guardY (j := 4) (e := (!r11)) (want := true) rfl hb12 ?_
            obtain ⟨l14, hl14, hM⟩ := bindE hM
            refine o_append (xs := l13) (ys := ([v5] : List Int)) (zs := l14) (f := cI) (L' := ([(g3 + 1 + 2 + 9, .row 3 1), (g3 + 1 + 2 + 7, .row 3 l14.length)] ++ Lo v6)) 1 hS (by decide) rfl rfl rfl rfl .no ty_es28 ty_el28 ty_ef28 hl14 rfl fun H hS => ?_
            refine o_guardY (j := 4) (e := (!r11)) (want := true) rfl hb12 ?_
            refine o_move (v := f0) (by decide) rfl ?_
            refine o_guardY (j := 4) (e := (!r11)) (want := true) rfl hb12 ?_
            obtain ⟨r15, hr15, hM⟩ := bindE hM
            replace hS : St (fun i => i < g ∧ i ∉ ids (Lo st)) H0 ([(g3 + 1 + 2 + 9, .row 3 1), (g3 + 1 + 2 + 7, .row 3 l14.length)] ++ Lo v6) _ _ := hS
            refine o_stateH (bs := [.v (.int .i64 a0), .sl (.id (g3 + 1 + 2 + 7)) 1 (l14.map cI), f0]) (.inl rfl) hS (by decide) rfl rfl ((hrec hr15).le (.cons (.refl _) (.cons (.sl _ _ _) (.cons (.refl _) .nil)))) (hk _ _).ids (by omega) fun H hS => ?_
            refine o_guardY (j := 4) (e := (!r11)) (want := true) rfl hb12 ?_
            refine o_not (e := r15.1) (by decide) rfl ?_
            refine o_pickT (v := .v (.bool (!r15.1))) (e := (!r11)) (by decide) rfl hb12 rfl ?_
            refine run_nil ?_
            exact w_goto ((!r15.1), r15.2) (.cons (.refl _) (.cons (.refl _) (.cons (.refl _) (.cons (.refl _) (.cons (.refl _) (.cons (.refl _) .nil)))))) ⟨(hS.keep [false, false] rfl).up (by omega), hM⟩
          · replace hM := ifF hM hb12
            refine o_guardN (j := 4) (e := (!r11)) (want := true) (by decide) rfl hb12 ?_
            refine o_guardN (j := 4) (e := (!r11)) (want := true) (by decide) rfl hb12 ?_
            refine o_guardN (j := 4) (e := (!r11)) (want := true) (by decide) rfl hb12 ?_
            refine o_guardN (j := 4) (e := (!r11)) (want := true) (by decide) rfl hb12 ?_
            refine o_guardN (j := 4) (e := (!r11)) (want := true) (by decide) rfl hb12 ?_
            refine o_guardN (j := 4) (e := (!r11)) (want := true) (by decide) rfl hb12 ?_
            refine o_guardN (j := 4) (e := (!r11)) (want := true) (by decide) rfl hb12 ?_
            refine o_guardN (j := 4) (e := (!r11)) (want := true) (by decide) rfl hb12 ?_
            refine o_guardN (j := 4) (e := (!r11)) (want := true) (by decide) rfl hb12 ?_
            refine o_pickF (v := .v (.bool false)) (e := (!r11)) (by decide) rfl hb12 rfl ?_
            refine run_nil ?_
            exact w_goto (false, v6) (.cons (.refl _) (.cons (.refl _) (.cons (.refl _) (.cons (.refl _) (.cons (.refl _) (.cons (.refl _) .nil)))))) ⟨(hS.keep [] rfl).up (by omega), hM⟩
      · replace hM := ifF hM hb7
        refine w_condF (e := (decide (v5 < a0))) rfl hb7 ?_
        refine r_exit ?_
        refine r_then_exit ?_
        refine w_round_exit ?_
        refine r_blk_exit ?_
        exact w_goto v6 .nil ⟨(hS.keep [] rfl).up (by omega), hM⟩
theorem W_shares_orders {S : Type} {Lo : S → BL} (hk : ∀ s s', KinL (Lo s) (Lo s')) (hnd : ∀ s, (ids (Lo s)).Nodup) (hin : ∀ s, InB In (Lo s)) {aF : (List Int) → S → Option (Bool × S)} {f0 : AV} (hF : ∀ s H, Has H (Lo s) → In H f0) (h0 : cellsOf f0 = some [f0]) (hf : ∀ {x0 : List Int} {s : S} {r : Bool × S}, aF x0 s = some r → CSat Try.prog f0 [.sl .no 1 (x0.map cI)] (Lo s) (.v (.bool r.1)) (Lo r.2)) : ∀ {n : Nat} {a0 : Int} {a1 : List Int} {st : S} {r : Bool × S}, shares_orders n aF a0 a1 st = some r → HSat Try.prog 50 [.v (.int .i64 a0), .sl .no 1 (a1.map cI), f0] (Lo st) (.v (.bool r.1)) (Lo r.2)
  | 0, _, _, _, _, h => nomatch (show none = some _ from h)
  | n + 1, _, _, _, _, h => W_shares_orders_b hk hnd hin hF h0 hf (n := n) (rec := shares_orders n aF) (fun h => W_shares_orders hk hnd hin hF h0 hf h) h
theorem W_shares_week_owner {p : Nat} {a0 : Week_} {a1 : Int} {r : Week_ × Int} (hM : shares_week_owner a0 a1 = some r) : MutSat Try.prog 68 [.ptr p 0, .v (.int .i64 a1)] p [.v (.int .i64 a0.Split.Operator), .v (.int .i64 a0.Split.Owner), .v (.int .i64 a0.Split.Repaid), .v (.int .i64 a0.rest), .v (.int .i64 a0.owed)] (.v (.int .i64 r.2)) [.v (.int .i64 r.1.Split.Operator), .v (.int .i64 r.1.Split.Owner), .v (.int .i64 r.1.Split.Repaid), .v (.int .i64 r.1.rest), .v (.int .i64 r.1.owed)] := by
  refine mut_of_wp mixed Try.func68 rfl (by decide) Try.ntmps68 (by simp) ?pure ?cells fun H0 g hf hp => ?_
  case pure => exact .v _
  case cells => exact (pl_cons (.v _) (pl_cons (.v _) (pl_cons (.v _) (pl_cons (.v _) (pl_cons (.v _) pl_nil)))))
  rw [frame0_of]
  change wpA _ _ _ _ (Fr.of [(0, .ptr p 0), (1, .v (.int .i64 a1))]) H0 g
  have hS := St.startP hf hp
  refine r_seq ?_
  refine r_region (n := 1) rfl ?_
  refine o_assign (v := .v (.int .i64 0)) (by decide) rfl ?_
  refine run_nil ?_
  refine w_next [(0, .ptr p 0), (1, .v (.int .i64 a1))] (.cons (.refl _) (.cons (.refl _) .nil)) ?_
  refine r_seq ?_
  have hS0 := hS
  refine r_draw (n := 22) rfl (by kernel_rfl) ?_
  refine o_move (v := .ptr p 0) (by decide) rfl ?_
  refine o_move (v := .ptr p 0) (by decide) rfl ?_
  refine o_move (v := .ptr p 0) (by decide) rfl ?_
  refine o_nilP (by decide) rfl ?_
  refine o_fieldP (by decide) ty_fo76_0 rfl ?_
  refine o_fieldP (by decide) ty_fo41_1 rfl ?_
  refine o_load (v := .v (.int .i64 a0.Split.Owner)) 0 hS (by decide) rfl rfl (.st hS0 0 rfl (by omega)) (part_one ty_agg3 ty_sc3 rfl) ?_
  refine o_move (v := .v (.int .i64 a1)) (by decide) rfl ?_
  refine o_int (v := .v (.int .i64 (w64 (a0.Split.Owner + a1)))) (by decide) rfl rfl rfl ?_
  refine o_move (v := .ptr p 0) (by decide) rfl ?_
  refine o_nilP (by decide) rfl ?_
  refine o_fieldP (by decide) ty_fo76_1 rfl ?_
  refine o_load (v := .v (.int .i64 a0.rest)) 0 hS (by decide) rfl rfl (.st hS0 0 rfl (by omega)) (part_one ty_agg3 ty_sc3 rfl) ?_
  refine o_move (v := .v (.int .i64 a1)) (by decide) rfl ?_
  refine o_int (v := .v (.int .i64 (w64 (a0.rest - a1)))) (by decide) rfl rfl rfl ?_
  refine o_nilP (by decide) rfl ?_
  refine o_fieldP (by decide) ty_fo76_0 rfl ?_
  refine o_fieldP (by decide) ty_fo41_1 rfl ?_
  refine o_store (v := .v (.int .i64 (w64 (a0.Split.Owner + a1)))) (ns := [.v (.int .i64 (w64 (a0.Split.Owner + a1)))]) (L' := [(p, .cells [.v (.int .i64 a0.Split.Operator), .v (.int .i64 (w64 (a0.Split.Owner + a1))), .v (.int .i64 a0.Split.Repaid), .v (.int .i64 a0.rest), .v (.int .i64 a0.owed)])]) 0 hS rfl rfl (.st hS0 0 rfl (by omega)) rfl rfl ty_var3 (Nat.le_of_ble_eq_true rfl) rfl fun H hS => ?_
  refine o_nilP (by decide) rfl ?_
  refine o_fieldP (by decide) ty_fo76_1 rfl ?_
  refine o_store (v := .v (.int .i64 (w64 (a0.rest - a1)))) (ns := [.v (.int .i64 (w64 (a0.rest - a1)))]) (L' := [(p, .cells [.v (.int .i64 a0.Split.Operator), .v (.int .i64 (w64 (a0.Split.Owner + a1))), .v (.int .i64 a0.Split.Repaid), .v (.int .i64 (w64 (a0.rest - a1))), .v (.int .i64 a0.owed)])]) 0 hS rfl rfl (.st hS0 0 rfl (by omega)) rfl rfl ty_var3 (Nat.le_of_ble_eq_true rfl) rfl fun H hS => ?_
  refine run_nil ?_
  refine w_next [(1, .v (.int .i64 a1))] (.cons (.refl _) .nil) ?_
  refine r_seq ?_
  refine r_region (n := 2) rfl ?_
  refine o_move (v := .v (.int .i64 a1)) (by decide) rfl ?_
  refine o_assign (v := .v (.int .i64 a1)) (by decide) rfl ?_
  refine run_nil ?_
  refine w_next [(4, .v (.int .i64 a1))] (.cons (.refl _) .nil) ?_
  refine r_ret ?_
  refine w_endP (x := .v (.int .i64 a1)) (f := fun r => .v (.int .i64 r.2)) (fd := fun r => [.v (.int .i64 r.1.Split.Operator), .v (.int .i64 r.1.Split.Owner), .v (.int .i64 r.1.Split.Repaid), .v (.int .i64 r.1.rest), .v (.int .i64 r.1.owed)]) 0 (.inr rfl) ?_ (.refl _) (Option.some.inj hM) hS rfl
  exact (res_one (res_tmp (x := .v (.int .i64 a1)) rfl))
theorem W_shares_week_operator {p : Nat} {a0 : Week_} {a1 : Int} {r : Week_ × Int} (hM : shares_week_operator a0 a1 = some r) : MutSat Try.prog 70 [.ptr p 0, .v (.int .i64 a1)] p [.v (.int .i64 a0.Split.Operator), .v (.int .i64 a0.Split.Owner), .v (.int .i64 a0.Split.Repaid), .v (.int .i64 a0.rest), .v (.int .i64 a0.owed)] (.v (.int .i64 r.2)) [.v (.int .i64 r.1.Split.Operator), .v (.int .i64 r.1.Split.Owner), .v (.int .i64 r.1.Split.Repaid), .v (.int .i64 r.1.rest), .v (.int .i64 r.1.owed)] := by
  refine mut_of_wp mixed Try.func70 rfl (by decide) Try.ntmps70 (by simp) ?pure ?cells fun H0 g hf hp => ?_
  case pure => exact .v _
  case cells => exact (pl_cons (.v _) (pl_cons (.v _) (pl_cons (.v _) (pl_cons (.v _) (pl_cons (.v _) pl_nil)))))
  rw [frame0_of]
  change wpA _ _ _ _ (Fr.of [(0, .ptr p 0), (1, .v (.int .i64 a1))]) H0 g
  have hS := St.startP hf hp
  refine r_seq ?_
  refine r_region (n := 1) rfl ?_
  refine o_assign (v := .v (.int .i64 0)) (by decide) rfl ?_
  refine run_nil ?_
  refine w_next [(0, .ptr p 0), (1, .v (.int .i64 a1))] (.cons (.refl _) (.cons (.refl _) .nil)) ?_
  refine r_seq ?_
  have hS0 := hS
  refine r_draw (n := 22) rfl (by kernel_rfl) ?_
  refine o_move (v := .ptr p 0) (by decide) rfl ?_
  refine o_move (v := .ptr p 0) (by decide) rfl ?_
  refine o_move (v := .ptr p 0) (by decide) rfl ?_
  refine o_nilP (by decide) rfl ?_
  refine o_fieldP (by decide) ty_fo76_0 rfl ?_
  refine o_fieldP (by decide) ty_fo41_0 rfl ?_
  refine o_load (v := .v (.int .i64 a0.Split.Operator)) 0 hS (by decide) rfl rfl (.st hS0 0 rfl (by omega)) (part_one ty_agg3 ty_sc3 rfl) ?_
  refine o_move (v := .v (.int .i64 a1)) (by decide) rfl ?_
  refine o_int (v := .v (.int .i64 (w64 (a0.Split.Operator + a1)))) (by decide) rfl rfl rfl ?_
  refine o_move (v := .ptr p 0) (by decide) rfl ?_
  refine o_nilP (by decide) rfl ?_
  refine o_fieldP (by decide) ty_fo76_1 rfl ?_
  refine o_load (v := .v (.int .i64 a0.rest)) 0 hS (by decide) rfl rfl (.st hS0 0 rfl (by omega)) (part_one ty_agg3 ty_sc3 rfl) ?_
  refine o_move (v := .v (.int .i64 a1)) (by decide) rfl ?_
  refine o_int (v := .v (.int .i64 (w64 (a0.rest - a1)))) (by decide) rfl rfl rfl ?_
  refine o_nilP (by decide) rfl ?_
  refine o_fieldP (by decide) ty_fo76_0 rfl ?_
  refine o_fieldP (by decide) ty_fo41_0 rfl ?_
  refine o_store (v := .v (.int .i64 (w64 (a0.Split.Operator + a1)))) (ns := [.v (.int .i64 (w64 (a0.Split.Operator + a1)))]) (L' := [(p, .cells [.v (.int .i64 (w64 (a0.Split.Operator + a1))), .v (.int .i64 a0.Split.Owner), .v (.int .i64 a0.Split.Repaid), .v (.int .i64 a0.rest), .v (.int .i64 a0.owed)])]) 0 hS rfl rfl (.st hS0 0 rfl (by omega)) rfl rfl ty_var3 (Nat.le_of_ble_eq_true rfl) rfl fun H hS => ?_
  refine o_nilP (by decide) rfl ?_
  refine o_fieldP (by decide) ty_fo76_1 rfl ?_
  refine o_store (v := .v (.int .i64 (w64 (a0.rest - a1)))) (ns := [.v (.int .i64 (w64 (a0.rest - a1)))]) (L' := [(p, .cells [.v (.int .i64 (w64 (a0.Split.Operator + a1))), .v (.int .i64 a0.Split.Owner), .v (.int .i64 a0.Split.Repaid), .v (.int .i64 (w64 (a0.rest - a1))), .v (.int .i64 a0.owed)])]) 0 hS rfl rfl (.st hS0 0 rfl (by omega)) rfl rfl ty_var3 (Nat.le_of_ble_eq_true rfl) rfl fun H hS => ?_
  refine run_nil ?_
  refine w_next [(1, .v (.int .i64 a1))] (.cons (.refl _) .nil) ?_
  refine r_seq ?_
  refine r_region (n := 2) rfl ?_
  refine o_move (v := .v (.int .i64 a1)) (by decide) rfl ?_
  refine o_assign (v := .v (.int .i64 a1)) (by decide) rfl ?_
  refine run_nil ?_
  refine w_next [(4, .v (.int .i64 a1))] (.cons (.refl _) .nil) ?_
  refine r_ret ?_
  refine w_endP (x := .v (.int .i64 a1)) (f := fun r => .v (.int .i64 r.2)) (fd := fun r => [.v (.int .i64 r.1.Split.Operator), .v (.int .i64 r.1.Split.Owner), .v (.int .i64 r.1.Split.Repaid), .v (.int .i64 r.1.rest), .v (.int .i64 r.1.owed)]) 0 (.inr rfl) ?_ (.refl _) (Option.some.inj hM) hS rfl
  exact (res_one (res_tmp (x := .v (.int .i64 a1)) rfl))
theorem W_shares_rules_c1 {p : Nat} {a0 : Week_} {a1 : Clause} {r : Week_ × Int} (hM : shares_rules_c1 a0 a1 = some r) : MutSat Try.prog 74 [.ptr p 0, .agg [.v (.int .i64 a1.Kind), .v (.int .i64 a1.Cents), .v (.int .i64 a1.Part), .v (.int .i64 a1.More)]] p [.v (.int .i64 a0.Split.Operator), .v (.int .i64 a0.Split.Owner), .v (.int .i64 a0.Split.Repaid), .v (.int .i64 a0.rest), .v (.int .i64 a0.owed)] (.v (.int .i64 r.2)) [.v (.int .i64 r.1.Split.Operator), .v (.int .i64 r.1.Split.Owner), .v (.int .i64 r.1.Split.Repaid), .v (.int .i64 r.1.rest), .v (.int .i64 r.1.owed)] := by
  refine mut_of_wp mixed Try.func74 rfl (by decide) Try.ntmps74 (by simp) ?pure ?cells fun H0 g hf hp => ?_
  case pure => exact .v _
  case cells => exact (pl_cons (.v _) (pl_cons (.v _) (pl_cons (.v _) (pl_cons (.v _) (pl_cons (.v _) pl_nil)))))
  rw [frame0_of]
  change wpA _ _ _ _ (Fr.of [(0, .ptr p 0), (1, .agg [.v (.int .i64 a1.Kind), .v (.int .i64 a1.Cents), .v (.int .i64 a1.Part), .v (.int .i64 a1.More)])]) H0 g
  have hS := St.startP hf hp
  refine r_seq ?_
  refine r_region (n := 2) rfl ?_
  refine o_box (v := .agg [.v (.int .i64 a1.Kind), .v (.int .i64 a1.Cents), .v (.int .i64 a1.Part), .v (.int .i64 a1.More)]) (cs := [.v (.int .i64 a1.Kind), .v (.int .i64 a1.Cents), .v (.int .i64 a1.Part), .v (.int .i64 a1.More)]) hS (by decide) rfl rfl (by omega) fun H hS => ?_
  refine o_assign (v := .v (.int .i64 0)) (by decide) rfl ?_
  refine run_nil ?_
  refine w_next [(0, .ptr p 0), (3, .ptr (g + 0) 0)] (.cons (.refl _) (.cons (.refl _) .nil)) ?_
  refine r_seq ?_
  have hS0 := hS
  refine r_draw (n := 10) rfl (by kernel_rfl) ?_
  refine o_move (v := .ptr p 0) (by decide) rfl ?_
  refine o_move (v := .ptr p 0) (by decide) rfl ?_
  refine o_nilP (by decide) rfl ?_
  refine o_fieldP (by decide) ty_fo76_1 rfl ?_
  refine o_load (v := .v (.int .i64 a0.rest)) 1 hS (by decide) rfl rfl (.st hS0 1 rfl (by omega)) (part_one ty_agg3 ty_sc3 rfl) ?_
  refine o_fieldP (by decide) ty_fo39_1 rfl ?_
  refine o_load (v := .v (.int .i64 a1.Cents)) 0 hS (by decide) rfl rfl (.st hS0 0 rfl (by omega)) (part_one ty_agg3 ty_sc3 rfl) ?_
  refine o_min (v := .v (.int .i64 (min a0.rest a1.Cents))) (by decide) rfl ?_
  obtain ⟨r1, hr1, hM⟩ := bindE hM
  refine o_mut (bs := [.ptr p 0, .v (.int .i64 (min a0.rest a1.Cents))]) (L' := [(g + 0, .cells [.v (.int .i64 a1.Kind), .v (.int .i64 a1.Cents), .v (.int .i64 a1.Part), .v (.int .i64 a1.More)]), (p, .cells [.v (.int .i64 r1.1.Split.Operator), .v (.int .i64 r1.1.Split.Owner), .v (.int .i64 r1.1.Split.Repaid), .v (.int .i64 r1.1.rest), .v (.int .i64 r1.1.owed)])]) 1 hS (by decide) rfl rfl rfl (mok_st (by kernel_rfl) hS0 1 rfl (by omega)) ((W_shares_week_operator (p := p) hr1).le (.cons (.refl _) (.cons (.refl _) .nil))) rfl fun H hS => ?_
  refine o_assign (v := .v (.int .i64 r1.2)) (by decide) rfl ?_
  refine run_nil ?_
  replace hS := hS.keep (L' := [(p, .cells [.v (.int .i64 r1.1.Split.Operator), .v (.int .i64 r1.1.Split.Owner), .v (.int .i64 r1.1.Split.Repaid), .v (.int .i64 r1.1.rest), .v (.int .i64 r1.1.owed)])]) [false, true] rfl
  refine w_next [(4, .v (.int .i64 r1.2))] (.cons (.refl _) .nil) ?_
  refine r_ret ?_
  refine w_endP (x := .v (.int .i64 r1.2)) (f := fun r => .v (.int .i64 r.2)) (fd := fun r => [.v (.int .i64 r.1.Split.Operator), .v (.int .i64 r.1.Split.Owner), .v (.int .i64 r.1.Split.Repaid), .v (.int .i64 r.1.rest), .v (.int .i64 r.1.owed)]) 0 (.inr rfl) ?_ (.refl _) (Option.some.inj hM) hS rfl
  exact (res_one (res_tmp (x := .v (.int .i64 r1.2)) rfl))
theorem W_shares_week_repay {p : Nat} {a0 : Week_} {a1 : Clause} {r : Week_ × Int} (hM : shares_week_repay a0 a1 = some r) : MutSat Try.prog 75 [.ptr p 0, .agg [.v (.int .i64 a1.Kind), .v (.int .i64 a1.Cents), .v (.int .i64 a1.Part), .v (.int .i64 a1.More)]] p [.v (.int .i64 a0.Split.Operator), .v (.int .i64 a0.Split.Owner), .v (.int .i64 a0.Split.Repaid), .v (.int .i64 a0.rest), .v (.int .i64 a0.owed)] (.v (.int .i64 r.2)) [.v (.int .i64 r.1.Split.Operator), .v (.int .i64 r.1.Split.Owner), .v (.int .i64 r.1.Split.Repaid), .v (.int .i64 r.1.rest), .v (.int .i64 r.1.owed)] := by
  refine mut_of_wp mixed Try.func75 rfl (by decide) Try.ntmps75 (by simp) ?pure ?cells fun H0 g hf hp => ?_
  case pure => exact .v _
  case cells => exact (pl_cons (.v _) (pl_cons (.v _) (pl_cons (.v _) (pl_cons (.v _) (pl_cons (.v _) pl_nil)))))
  rw [frame0_of]
  change wpA _ _ _ _ (Fr.of [(0, .ptr p 0), (1, .agg [.v (.int .i64 a1.Kind), .v (.int .i64 a1.Cents), .v (.int .i64 a1.Part), .v (.int .i64 a1.More)])]) H0 g
  have hS := St.startP hf hp
  refine r_seq ?_
  refine r_region (n := 2) rfl ?_
  refine o_box (v := .agg [.v (.int .i64 a1.Kind), .v (.int .i64 a1.Cents), .v (.int .i64 a1.Part), .v (.int .i64 a1.More)]) (cs := [.v (.int .i64 a1.Kind), .v (.int .i64 a1.Cents), .v (.int .i64 a1.Part), .v (.int .i64 a1.More)]) hS (by decide) rfl rfl (by omega) fun H hS => ?_
  refine o_assign (v := .v (.int .i64 0)) (by decide) rfl ?_
  refine run_nil ?_
  refine w_next [(0, .ptr p 0), (3, .ptr (g + 0) 0)] (.cons (.refl _) (.cons (.refl _) .nil)) ?_
  refine r_seq ?_
  have hS0 := hS
  refine r_draw (n := 14) rfl (by kernel_rfl) ?_
  refine o_move (v := .ptr p 0) (by decide) rfl ?_
  refine o_move (v := .ptr p 0) (by decide) rfl ?_
  refine o_nilP (by decide) rfl ?_
  refine o_fieldP (by decide) ty_fo76_1 rfl ?_
  refine o_load (v := .v (.int .i64 a0.rest)) 1 hS (by decide) rfl rfl (.st hS0 1 rfl (by omega)) (part_one ty_agg3 ty_sc3 rfl) ?_
  refine o_fieldP (by decide) ty_fo39_1 rfl ?_
  refine o_load (v := .v (.int .i64 a1.Cents)) 0 hS (by decide) rfl rfl (.st hS0 0 rfl (by omega)) (part_one ty_agg3 ty_sc3 rfl) ?_
  refine o_move (v := .ptr p 0) (by decide) rfl ?_
  refine o_nilP (by decide) rfl ?_
  refine o_fieldP (by decide) ty_fo76_2 rfl ?_
  refine o_load (v := .v (.int .i64 a0.owed)) 1 hS (by decide) rfl rfl (.st hS0 1 rfl (by omega)) (part_one ty_agg3 ty_sc3 rfl) ?_
  refine o_min (v := .v (.int .i64 (min (min a0.rest a1.Cents) a0.owed))) (by decide) rfl ?_
  obtain ⟨r1, hr1, hM⟩ := bindE hM
  refine o_mut (bs := [.ptr p 0, .v (.int .i64 (min (min a0.rest a1.Cents) a0.owed))]) (L' := [(g + 0, .cells [.v (.int .i64 a1.Kind), .v (.int .i64 a1.Cents), .v (.int .i64 a1.Part), .v (.int .i64 a1.More)]), (p, .cells [.v (.int .i64 r1.1.Split.Operator), .v (.int .i64 r1.1.Split.Owner), .v (.int .i64 r1.1.Split.Repaid), .v (.int .i64 r1.1.rest), .v (.int .i64 r1.1.owed)])]) 1 hS (by decide) rfl rfl rfl (mok_st (by kernel_rfl) hS0 1 rfl (by omega)) ((W_shares_week_operator (p := p) hr1).le (.cons (.refl _) (.cons (.refl _) .nil))) rfl fun H hS => ?_
  refine o_assign (v := .v (.int .i64 r1.2)) (by decide) rfl ?_
  refine run_nil ?_
  replace hS := hS.keep (L' := [(p, .cells [.v (.int .i64 r1.1.Split.Operator), .v (.int .i64 r1.1.Split.Owner), .v (.int .i64 r1.1.Split.Repaid), .v (.int .i64 r1.1.rest), .v (.int .i64 r1.1.owed)])]) [false, true] rfl
  refine w_next [(0, .ptr p 0), (5, .v (.int .i64 r1.2))] (.cons (.refl _) (.cons (.refl _) .nil)) ?_
  refine r_seq ?_
  have hS0 := hS
  refine r_draw (n := 22) rfl (by kernel_rfl) ?_
  refine o_move (v := .ptr p 0) (by decide) rfl ?_
  refine o_move (v := .ptr p 0) (by decide) rfl ?_
  refine o_move (v := .ptr p 0) (by decide) rfl ?_
  refine o_nilP (by decide) rfl ?_
  refine o_fieldP (by decide) ty_fo76_0 rfl ?_
  refine o_fieldP (by decide) ty_fo41_2 rfl ?_
  refine o_load (v := .v (.int .i64 r1.1.Split.Repaid)) 0 hS (by decide) rfl rfl (.st hS0 0 rfl (by omega)) (part_one ty_agg3 ty_sc3 rfl) ?_
  refine o_move (v := .v (.int .i64 r1.2)) (by decide) rfl ?_
  refine o_int (v := .v (.int .i64 (w64 (r1.1.Split.Repaid + r1.2)))) (by decide) rfl rfl rfl ?_
  refine o_move (v := .ptr p 0) (by decide) rfl ?_
  refine o_nilP (by decide) rfl ?_
  refine o_fieldP (by decide) ty_fo76_2 rfl ?_
  refine o_load (v := .v (.int .i64 r1.1.owed)) 0 hS (by decide) rfl rfl (.st hS0 0 rfl (by omega)) (part_one ty_agg3 ty_sc3 rfl) ?_
  refine o_move (v := .v (.int .i64 r1.2)) (by decide) rfl ?_
  refine o_int (v := .v (.int .i64 (w64 (r1.1.owed - r1.2)))) (by decide) rfl rfl rfl ?_
  refine o_nilP (by decide) rfl ?_
  refine o_fieldP (by decide) ty_fo76_0 rfl ?_
  refine o_fieldP (by decide) ty_fo41_2 rfl ?_
  refine o_store (v := .v (.int .i64 (w64 (r1.1.Split.Repaid + r1.2)))) (ns := [.v (.int .i64 (w64 (r1.1.Split.Repaid + r1.2)))]) (L' := [(p, .cells [.v (.int .i64 r1.1.Split.Operator), .v (.int .i64 r1.1.Split.Owner), .v (.int .i64 (w64 (r1.1.Split.Repaid + r1.2))), .v (.int .i64 r1.1.rest), .v (.int .i64 r1.1.owed)])]) 0 hS rfl rfl (.st hS0 0 rfl (by omega)) rfl rfl ty_var3 (Nat.le_of_ble_eq_true rfl) rfl fun H hS => ?_
  refine o_nilP (by decide) rfl ?_
  refine o_fieldP (by decide) ty_fo76_2 rfl ?_
  refine o_store (v := .v (.int .i64 (w64 (r1.1.owed - r1.2)))) (ns := [.v (.int .i64 (w64 (r1.1.owed - r1.2)))]) (L' := [(p, .cells [.v (.int .i64 r1.1.Split.Operator), .v (.int .i64 r1.1.Split.Owner), .v (.int .i64 (w64 (r1.1.Split.Repaid + r1.2))), .v (.int .i64 r1.1.rest), .v (.int .i64 (w64 (r1.1.owed - r1.2)))])]) 0 hS rfl rfl (.st hS0 0 rfl (by omega)) rfl rfl ty_var3 (Nat.le_of_ble_eq_true rfl) rfl fun H hS => ?_
  refine run_nil ?_
  refine w_next [(5, .v (.int .i64 r1.2))] (.cons (.refl _) .nil) ?_
  refine r_seq ?_
  refine r_region (n := 2) rfl ?_
  refine o_move (v := .v (.int .i64 r1.2)) (by decide) rfl ?_
  refine o_assign (v := .v (.int .i64 r1.2)) (by decide) rfl ?_
  refine run_nil ?_
  refine w_next [(4, .v (.int .i64 r1.2))] (.cons (.refl _) .nil) ?_
  refine r_ret ?_
  refine w_endP (x := .v (.int .i64 r1.2)) (f := fun r => .v (.int .i64 r.2)) (fd := fun r => [.v (.int .i64 r.1.Split.Operator), .v (.int .i64 r.1.Split.Owner), .v (.int .i64 r.1.Split.Repaid), .v (.int .i64 r.1.rest), .v (.int .i64 r.1.owed)]) 0 (.inr rfl) ?_ (.refl _) (Option.some.inj hM) hS rfl
  exact (res_one (res_tmp (x := .v (.int .i64 r1.2)) rfl))
theorem W_shares_five {a0 : Int} {r : Int} (hM : shares_five a0 = some r) : PureSat Try.prog 77 [.v (.int .i64 a0)] (.v (.int .i64 r)) := by
  refine pure_of_wp mixed Try.func77 rfl (by decide) Try.ntmps77 (by simp) ?pure fun H0 g hf => ?_
  case pure => exact .v _
  rw [frame0_of]
  change wpA _ _ _ _ (Fr.of [(0, .v (.int .i64 a0))]) H0 g
  have hS := St.start hf
  refine r_seq ?_
  refine r_region (n := 1) rfl ?_
  refine o_assign (v := .v (.int .i64 0)) (by decide) rfl ?_
  refine run_nil ?_
  refine w_next [(0, .v (.int .i64 a0))] (.cons (.refl _) .nil) ?_
  refine r_seq ?_
  refine r_region (n := 4) rfl ?_
  refine o_move (v := .v (.int .i64 a0)) (by decide) rfl ?_
  obtain ⟨q1, hq1, hM⟩ := bindE hM
  refine o_int (by decide) rfl rfl (quo_int hq1) ?_
  refine o_int (v := .v (.int .i64 (w64 (q1 * 5)))) (by decide) rfl rfl rfl ?_
  refine o_assign (v := .v (.int .i64 (w64 (q1 * 5)))) (by decide) rfl ?_
  refine run_nil ?_
  refine w_next [(2, .v (.int .i64 (w64 (q1 * 5))))] (.cons (.refl _) .nil) ?_
  refine r_ret ?_
  refine w_end (x := .v (.int .i64 (w64 (q1 * 5)))) (f := fun r => .v (.int .i64 r)) (.inr rfl) ?_ (.refl _) (Option.some.inj hM) hS
  exact (res_one (res_tmp (x := .v (.int .i64 (w64 (q1 * 5)))) rfl))
theorem W_shares_rules_c2 {p : Nat} {a0 : Week_} {a1 : Clause} {r : Week_ × Int} (hM : shares_rules_c2 a0 a1 = some r) : MutSat Try.prog 76 [.ptr p 0, .agg [.v (.int .i64 a1.Kind), .v (.int .i64 a1.Cents), .v (.int .i64 a1.Part), .v (.int .i64 a1.More)]] p [.v (.int .i64 a0.Split.Operator), .v (.int .i64 a0.Split.Owner), .v (.int .i64 a0.Split.Repaid), .v (.int .i64 a0.rest), .v (.int .i64 a0.owed)] (.v (.int .i64 r.2)) [.v (.int .i64 r.1.Split.Operator), .v (.int .i64 r.1.Split.Owner), .v (.int .i64 r.1.Split.Repaid), .v (.int .i64 r.1.rest), .v (.int .i64 r.1.owed)] := by
  refine mut_of_wp mixed Try.func76 rfl (by decide) Try.ntmps76 (by simp) ?pure ?cells fun H0 g hf hp => ?_
  case pure => exact .v _
  case cells => exact (pl_cons (.v _) (pl_cons (.v _) (pl_cons (.v _) (pl_cons (.v _) (pl_cons (.v _) pl_nil)))))
  rw [frame0_of]
  change wpA _ _ _ _ (Fr.of [(0, .ptr p 0), (1, .agg [.v (.int .i64 a1.Kind), .v (.int .i64 a1.Cents), .v (.int .i64 a1.Part), .v (.int .i64 a1.More)])]) H0 g
  have hS := St.startP hf hp
  refine r_seq ?_
  refine r_region (n := 2) rfl ?_
  refine o_box (v := .agg [.v (.int .i64 a1.Kind), .v (.int .i64 a1.Cents), .v (.int .i64 a1.Part), .v (.int .i64 a1.More)]) (cs := [.v (.int .i64 a1.Kind), .v (.int .i64 a1.Cents), .v (.int .i64 a1.Part), .v (.int .i64 a1.More)]) hS (by decide) rfl rfl (by omega) fun H hS => ?_
  refine o_assign (v := .v (.int .i64 0)) (by decide) rfl ?_
  refine run_nil ?_
  refine w_next [(0, .ptr p 0), (3, .ptr (g + 0) 0)] (.cons (.refl _) (.cons (.refl _) .nil)) ?_
  refine r_seq ?_
  have hS0 := hS
  refine r_draw (n := 11) rfl (by kernel_rfl) ?_
  refine o_move (v := .ptr p 0) (by decide) rfl ?_
  refine o_fieldP (by decide) ty_fo39_2 rfl ?_
  refine o_load (v := .v (.int .i64 a1.Part)) 0 hS (by decide) rfl rfl (.st hS0 0 rfl (by omega)) (part_one ty_agg3 ty_sc3 rfl) ?_
  refine o_move (v := .ptr p 0) (by decide) rfl ?_
  refine o_nilP (by decide) rfl ?_
  refine o_fieldP (by decide) ty_fo76_1 rfl ?_
  refine o_load (v := .v (.int .i64 a0.rest)) 1 hS (by decide) rfl rfl (.st hS0 1 rfl (by omega)) (part_one ty_agg3 ty_sc3 rfl) ?_
  refine o_int (v := .v (.int .i64 (w64 (a1.Part * a0.rest)))) (by decide) rfl rfl rfl ?_
  obtain ⟨r1, hr1, hM⟩ := bindE hM
  refine o_call (bs := [.v (.int .i64 (w64 (a1.Part * a0.rest)))]) (by decide) rfl rfl ((W_shares_five hr1).le (.cons (.refl _) .nil)) ?_
  obtain ⟨r2, hr2, hM⟩ := bindE hM
  refine o_mut (bs := [.ptr p 0, .v (.int .i64 r1)]) (L' := [(g + 0, .cells [.v (.int .i64 a1.Kind), .v (.int .i64 a1.Cents), .v (.int .i64 a1.Part), .v (.int .i64 a1.More)]), (p, .cells [.v (.int .i64 r2.1.Split.Operator), .v (.int .i64 r2.1.Split.Owner), .v (.int .i64 r2.1.Split.Repaid), .v (.int .i64 r2.1.rest), .v (.int .i64 r2.1.owed)])]) 1 hS (by decide) rfl rfl rfl (mok_st (by kernel_rfl) hS0 1 rfl (by omega)) ((W_shares_week_owner (p := p) hr2).le (.cons (.refl _) (.cons (.refl _) .nil))) rfl fun H hS => ?_
  refine o_assign (v := .v (.int .i64 r2.2)) (by decide) rfl ?_
  refine run_nil ?_
  replace hS := hS.keep (L' := [(p, .cells [.v (.int .i64 r2.1.Split.Operator), .v (.int .i64 r2.1.Split.Owner), .v (.int .i64 r2.1.Split.Repaid), .v (.int .i64 r2.1.rest), .v (.int .i64 r2.1.owed)])]) [false, true] rfl
  refine w_next [(4, .v (.int .i64 r2.2))] (.cons (.refl _) .nil) ?_
  refine r_ret ?_
  refine w_endP (x := .v (.int .i64 r2.2)) (f := fun r => .v (.int .i64 r.2)) (fd := fun r => [.v (.int .i64 r.1.Split.Operator), .v (.int .i64 r.1.Split.Owner), .v (.int .i64 r.1.Split.Repaid), .v (.int .i64 r.1.rest), .v (.int .i64 r.1.owed)]) 0 (.inr rfl) ?_ (.refl _) (Option.some.inj hM) hS rfl
  exact (res_one (res_tmp (x := .v (.int .i64 r2.2)) rfl))
theorem W_shares_rules_c3 {p : Nat} {a0 : Week_} {a1 : Clause} {r : Week_ × Int} (hM : shares_rules_c3 a0 a1 = some r) : MutSat Try.prog 78 [.ptr p 0, .agg [.v (.int .i64 a1.Kind), .v (.int .i64 a1.Cents), .v (.int .i64 a1.Part), .v (.int .i64 a1.More)]] p [.v (.int .i64 a0.Split.Operator), .v (.int .i64 a0.Split.Owner), .v (.int .i64 a0.Split.Repaid), .v (.int .i64 a0.rest), .v (.int .i64 a0.owed)] (.v (.int .i64 r.2)) [.v (.int .i64 r.1.Split.Operator), .v (.int .i64 r.1.Split.Owner), .v (.int .i64 r.1.Split.Repaid), .v (.int .i64 r.1.rest), .v (.int .i64 r.1.owed)] := by
  refine mut_of_wp mixed Try.func78 rfl (by decide) Try.ntmps78 (by simp) ?pure ?cells fun H0 g hf hp => ?_
  case pure => exact .v _
  case cells => exact (pl_cons (.v _) (pl_cons (.v _) (pl_cons (.v _) (pl_cons (.v _) (pl_cons (.v _) pl_nil)))))
  rw [frame0_of]
  change wpA _ _ _ _ (Fr.of [(0, .ptr p 0), (1, .agg [.v (.int .i64 a1.Kind), .v (.int .i64 a1.Cents), .v (.int .i64 a1.Part), .v (.int .i64 a1.More)])]) H0 g
  have hS := St.startP hf hp
  refine r_seq ?_
  refine r_region (n := 2) rfl ?_
  refine o_box (v := .agg [.v (.int .i64 a1.Kind), .v (.int .i64 a1.Cents), .v (.int .i64 a1.Part), .v (.int .i64 a1.More)]) (cs := [.v (.int .i64 a1.Kind), .v (.int .i64 a1.Cents), .v (.int .i64 a1.Part), .v (.int .i64 a1.More)]) hS (by decide) rfl rfl (by omega) fun H hS => ?_
  refine o_assign (v := .v (.int .i64 0)) (by decide) rfl ?_
  refine run_nil ?_
  refine w_next [(0, .ptr p 0), (3, .ptr (g + 0) 0)] (.cons (.refl _) (.cons (.refl _) .nil)) ?_
  refine r_seq ?_
  have hS0 := hS
  refine r_draw (n := 8) rfl (by kernel_rfl) ?_
  refine o_move (v := .ptr p 0) (by decide) rfl ?_
  refine o_nilP (by decide) rfl ?_
  refine o_fieldP (by decide) ty_fo76_1 rfl ?_
  refine o_load (v := .v (.int .i64 a0.rest)) 1 hS (by decide) rfl rfl (.st hS0 1 rfl (by omega)) (part_one ty_agg3 ty_sc3 rfl) ?_
  refine o_fieldP (by decide) ty_fo39_1 rfl ?_
  refine o_load (v := .v (.int .i64 a1.Cents)) 0 hS (by decide) rfl rfl (.st hS0 0 rfl (by omega)) (part_one ty_agg3 ty_sc3 rfl) ?_
  refine o_min (v := .v (.int .i64 (min a0.rest a1.Cents))) (by decide) rfl ?_
  refine o_assign (v := .v (.int .i64 (min a0.rest a1.Cents))) (by decide) rfl ?_
  refine run_nil ?_
  refine w_next [(0, .ptr p 0), (3, .ptr (g + 0) 0), (5, .v (.int .i64 (min a0.rest a1.Cents)))] (.cons (.refl _) (.cons (.refl _) (.cons (.refl _) .nil))) ?_
  refine r_seq ?_
  have hS0 := hS
  refine r_draw (n := 18) rfl (by kernel_rfl) ?_
  refine o_move (v := .ptr p 0) (by decide) rfl ?_
  refine o_fieldP (by decide) ty_fo39_2 rfl ?_
  refine o_load (v := .v (.int .i64 a1.Part)) 0 hS (by decide) rfl rfl (.st hS0 0 rfl (by omega)) (part_one ty_agg3 ty_sc3 rfl) ?_
  refine o_move (v := .v (.int .i64 (min a0.rest a1.Cents))) (by decide) rfl ?_
  refine o_int (v := .v (.int .i64 (w64 (a1.Part * (min a0.rest a1.Cents))))) (by decide) rfl rfl rfl ?_
  refine o_fieldP (by decide) ty_fo39_3 rfl ?_
  refine o_load (v := .v (.int .i64 a1.More)) 0 hS (by decide) rfl rfl (.st hS0 0 rfl (by omega)) (part_one ty_agg3 ty_sc3 rfl) ?_
  refine o_move (v := .ptr p 0) (by decide) rfl ?_
  refine o_nilP (by decide) rfl ?_
  refine o_fieldP (by decide) ty_fo76_1 rfl ?_
  refine o_load (v := .v (.int .i64 a0.rest)) 1 hS (by decide) rfl rfl (.st hS0 1 rfl (by omega)) (part_one ty_agg3 ty_sc3 rfl) ?_
  refine o_move (v := .v (.int .i64 (min a0.rest a1.Cents))) (by decide) rfl ?_
  refine o_int (v := .v (.int .i64 (w64 (a0.rest - (min a0.rest a1.Cents))))) (by decide) rfl rfl rfl ?_
  refine o_int (v := .v (.int .i64 (w64 (a1.More * (w64 (a0.rest - (min a0.rest a1.Cents))))))) (by decide) rfl rfl rfl ?_
  refine o_int (v := .v (.int .i64 (w64 ((w64 (a1.Part * (min a0.rest a1.Cents))) + (w64 (a1.More * (w64 (a0.rest - (min a0.rest a1.Cents))))))))) (by decide) rfl rfl rfl ?_
  obtain ⟨r1, hr1, hM⟩ := bindE hM
  refine o_call (bs := [.v (.int .i64 (w64 ((w64 (a1.Part * (min a0.rest a1.Cents))) + (w64 (a1.More * (w64 (a0.rest - (min a0.rest a1.Cents))))))))]) (by decide) rfl rfl ((W_shares_five hr1).le (.cons (.refl _) .nil)) ?_
  obtain ⟨r2, hr2, hM⟩ := bindE hM
  refine o_mut (bs := [.ptr p 0, .v (.int .i64 r1)]) (L' := [(g + 0, .cells [.v (.int .i64 a1.Kind), .v (.int .i64 a1.Cents), .v (.int .i64 a1.Part), .v (.int .i64 a1.More)]), (p, .cells [.v (.int .i64 r2.1.Split.Operator), .v (.int .i64 r2.1.Split.Owner), .v (.int .i64 r2.1.Split.Repaid), .v (.int .i64 r2.1.rest), .v (.int .i64 r2.1.owed)])]) 1 hS (by decide) rfl rfl rfl (mok_st (by kernel_rfl) hS0 1 rfl (by omega)) ((W_shares_week_owner (p := p) hr2).le (.cons (.refl _) (.cons (.refl _) .nil))) rfl fun H hS => ?_
  refine o_assign (v := .v (.int .i64 r2.2)) (by decide) rfl ?_
  refine run_nil ?_
  replace hS := hS.keep (L' := [(p, .cells [.v (.int .i64 r2.1.Split.Operator), .v (.int .i64 r2.1.Split.Owner), .v (.int .i64 r2.1.Split.Repaid), .v (.int .i64 r2.1.rest), .v (.int .i64 r2.1.owed)])]) [false, true] rfl
  refine w_next [(4, .v (.int .i64 r2.2))] (.cons (.refl _) .nil) ?_
  refine r_ret ?_
  refine w_endP (x := .v (.int .i64 r2.2)) (f := fun r => .v (.int .i64 r.2)) (fd := fun r => [.v (.int .i64 r.1.Split.Operator), .v (.int .i64 r.1.Split.Owner), .v (.int .i64 r.1.Split.Repaid), .v (.int .i64 r.1.rest), .v (.int .i64 r.1.owed)]) 0 (.inr rfl) ?_ (.refl _) (Option.some.inj hM) hS rfl
  exact (res_one (res_tmp (x := .v (.int .i64 r2.2)) rfl))
theorem W_shares_rules_c4 {p : Nat} {a0 : Week_} {a1 : Clause} {r : Week_ × Int} (hM : shares_rules_c4 a0 a1 = some r) : MutSat Try.prog 79 [.ptr p 0, .agg [.v (.int .i64 a1.Kind), .v (.int .i64 a1.Cents), .v (.int .i64 a1.Part), .v (.int .i64 a1.More)]] p [.v (.int .i64 a0.Split.Operator), .v (.int .i64 a0.Split.Owner), .v (.int .i64 a0.Split.Repaid), .v (.int .i64 a0.rest), .v (.int .i64 a0.owed)] (.v (.int .i64 r.2)) [.v (.int .i64 r.1.Split.Operator), .v (.int .i64 r.1.Split.Owner), .v (.int .i64 r.1.Split.Repaid), .v (.int .i64 r.1.rest), .v (.int .i64 r.1.owed)] := by
  refine mut_of_wp mixed Try.func79 rfl (by decide) Try.ntmps79 (by simp) ?pure ?cells fun H0 g hf hp => ?_
  case pure => exact .v _
  case cells => exact (pl_cons (.v _) (pl_cons (.v _) (pl_cons (.v _) (pl_cons (.v _) (pl_cons (.v _) pl_nil)))))
  rw [frame0_of]
  change wpA _ _ _ _ (Fr.of [(0, .ptr p 0), (1, .agg [.v (.int .i64 a1.Kind), .v (.int .i64 a1.Cents), .v (.int .i64 a1.Part), .v (.int .i64 a1.More)])]) H0 g
  have hS := St.startP hf hp
  refine r_seq ?_
  refine r_region (n := 2) rfl ?_
  refine o_box (v := .agg [.v (.int .i64 a1.Kind), .v (.int .i64 a1.Cents), .v (.int .i64 a1.Part), .v (.int .i64 a1.More)]) (cs := [.v (.int .i64 a1.Kind), .v (.int .i64 a1.Cents), .v (.int .i64 a1.Part), .v (.int .i64 a1.More)]) hS (by decide) rfl rfl (by omega) fun H hS => ?_
  refine o_assign (v := .v (.int .i64 0)) (by decide) rfl ?_
  refine run_nil ?_
  refine w_next [(0, .ptr p 0), (3, .ptr (g + 0) 0)] (.cons (.refl _) (.cons (.refl _) .nil)) ?_
  refine r_seq ?_
  have hS0 := hS
  refine r_draw (n := 17) rfl (by kernel_rfl) ?_
  refine o_move (v := .ptr p 0) (by decide) rfl ?_
  refine o_move (v := .ptr p 0) (by decide) rfl ?_
  refine o_nilP (by decide) rfl ?_
  refine o_fieldP (by decide) ty_fo76_1 rfl ?_
  refine o_load (v := .v (.int .i64 a0.rest)) 1 hS (by decide) rfl rfl (.st hS0 1 rfl (by omega)) (part_one ty_agg3 ty_sc3 rfl) ?_
  refine o_fieldP (by decide) ty_fo39_1 rfl ?_
  refine o_load (v := .v (.int .i64 a1.Cents)) 0 hS (by decide) rfl rfl (.st hS0 0 rfl (by omega)) (part_one ty_agg3 ty_sc3 rfl) ?_
  refine o_move (v := .ptr p 0) (by decide) rfl ?_
  refine o_nilP (by decide) rfl ?_
  refine o_fieldP (by decide) ty_fo76_0 rfl ?_
  refine o_fieldP (by decide) ty_fo41_1 rfl ?_
  refine o_load (v := .v (.int .i64 a0.Split.Owner)) 1 hS (by decide) rfl rfl (.st hS0 1 rfl (by omega)) (part_one ty_agg3 ty_sc3 rfl) ?_
  refine o_int (v := .v (.int .i64 (w64 (a1.Cents - a0.Split.Owner)))) (by decide) rfl rfl rfl ?_
  refine o_max (v := .v (.int .i64 (max 0 (w64 (a1.Cents - a0.Split.Owner))))) (by decide) rfl ?_
  refine o_min (v := .v (.int .i64 (min a0.rest (max 0 (w64 (a1.Cents - a0.Split.Owner)))))) (by decide) rfl ?_
  obtain ⟨r1, hr1, hM⟩ := bindE hM
  refine o_mut (bs := [.ptr p 0, .v (.int .i64 (min a0.rest (max 0 (w64 (a1.Cents - a0.Split.Owner)))))]) (L' := [(g + 0, .cells [.v (.int .i64 a1.Kind), .v (.int .i64 a1.Cents), .v (.int .i64 a1.Part), .v (.int .i64 a1.More)]), (p, .cells [.v (.int .i64 r1.1.Split.Operator), .v (.int .i64 r1.1.Split.Owner), .v (.int .i64 r1.1.Split.Repaid), .v (.int .i64 r1.1.rest), .v (.int .i64 r1.1.owed)])]) 1 hS (by decide) rfl rfl rfl (mok_st (by kernel_rfl) hS0 1 rfl (by omega)) ((W_shares_week_owner (p := p) hr1).le (.cons (.refl _) (.cons (.refl _) .nil))) rfl fun H hS => ?_
  refine o_assign (v := .v (.int .i64 r1.2)) (by decide) rfl ?_
  refine run_nil ?_
  replace hS := hS.keep (L' := [(p, .cells [.v (.int .i64 r1.1.Split.Operator), .v (.int .i64 r1.1.Split.Owner), .v (.int .i64 r1.1.Split.Repaid), .v (.int .i64 r1.1.rest), .v (.int .i64 r1.1.owed)])]) [false, true] rfl
  refine w_next [(4, .v (.int .i64 r1.2))] (.cons (.refl _) .nil) ?_
  refine r_ret ?_
  refine w_endP (x := .v (.int .i64 r1.2)) (f := fun r => .v (.int .i64 r.2)) (fd := fun r => [.v (.int .i64 r.1.Split.Operator), .v (.int .i64 r.1.Split.Owner), .v (.int .i64 r.1.Split.Repaid), .v (.int .i64 r.1.rest), .v (.int .i64 r.1.owed)]) 0 (.inr rfl) ?_ (.refl _) (Option.some.inj hM) hS rfl
  exact (res_one (res_tmp (x := .v (.int .i64 r1.2)) rfl))
theorem W_shares_rules_1 : PureSat Try.prog 69 [.v (.int .i64 1)] (.fn (.func 74) [] []) := by
  refine pure_of_wp mixed Try.func69 rfl (by decide) Try.ntmps69 (by simp) (.fn _ [] [] (by simp) (by simp)) fun H0 g hf => ?_
  rw [frame0_of]
  change wpA _ _ _ _ (Fr.of [(0, .v (.int .i64 1))]) H0 g
  have hS := St.start hf
  refine r_seq ?_
  refine r_region (n := 1) rfl ?_
  refine o_assign (v := .v .nilFunc) (by decide) rfl ?_
  refine run_nil ?_
  refine w_next [(0, .v (.int .i64 1))] (.cons (.refl _) .nil) ?_
  refine r_seq ?_
  refine r_region (n := 4) rfl ?_
  refine o_build (cs := [.v .nilFunc, .fn (.func 74) [] [], .fn (.func 75) [] [], .fn (.func 76) [] [], .fn (.func 78) [] [], .fn (.func 79) [] []]) (by decide) ty_zero93 ty_pl93 rfl ?_
  refine o_move (v := .v (.int .i64 1)) (by decide) rfl ?_
  refine o_indexA (v := .fn (.func 74) [] []) (cs := [.v .nilFunc, .fn (.func 74) [] [], .fn (.func 75) [] [], .fn (.func 76) [] [], .fn (.func 78) [] [], .fn (.func 79) [] []]) (z := 1) (by decide) rfl rfl ty_arx93 (by decide) (by decide) (part_one ty_agg87 ty_sc87 rfl) ?_
  refine o_assign (v := .fn (.func 74) [] []) (by decide) rfl ?_
  refine run_nil ?_
  refine w_next [(2, .fn (.func 74) [] [])] (.cons (.refl _) .nil) ?_
  refine r_ret ?_
  refine w_end (x := .fn (.func 74) [] []) (f := fun (_ : Unit) => .fn (.func 74) [] []) (u := ()) (.inr rfl) ?_ (.refl _) rfl hS
  exact res_one (res_tmp rfl)
theorem W_shares_rules_2 : PureSat Try.prog 69 [.v (.int .i64 2)] (.fn (.func 75) [] []) := by
  refine pure_of_wp mixed Try.func69 rfl (by decide) Try.ntmps69 (by simp) (.fn _ [] [] (by simp) (by simp)) fun H0 g hf => ?_
  rw [frame0_of]
  change wpA _ _ _ _ (Fr.of [(0, .v (.int .i64 2))]) H0 g
  have hS := St.start hf
  refine r_seq ?_
  refine r_region (n := 1) rfl ?_
  refine o_assign (v := .v .nilFunc) (by decide) rfl ?_
  refine run_nil ?_
  refine w_next [(0, .v (.int .i64 2))] (.cons (.refl _) .nil) ?_
  refine r_seq ?_
  refine r_region (n := 4) rfl ?_
  refine o_build (cs := [.v .nilFunc, .fn (.func 74) [] [], .fn (.func 75) [] [], .fn (.func 76) [] [], .fn (.func 78) [] [], .fn (.func 79) [] []]) (by decide) ty_zero93 ty_pl93 rfl ?_
  refine o_move (v := .v (.int .i64 2)) (by decide) rfl ?_
  refine o_indexA (v := .fn (.func 75) [] []) (cs := [.v .nilFunc, .fn (.func 74) [] [], .fn (.func 75) [] [], .fn (.func 76) [] [], .fn (.func 78) [] [], .fn (.func 79) [] []]) (z := 2) (by decide) rfl rfl ty_arx93 (by decide) (by decide) (part_one ty_agg87 ty_sc87 rfl) ?_
  refine o_assign (v := .fn (.func 75) [] []) (by decide) rfl ?_
  refine run_nil ?_
  refine w_next [(2, .fn (.func 75) [] [])] (.cons (.refl _) .nil) ?_
  refine r_ret ?_
  refine w_end (x := .fn (.func 75) [] []) (f := fun (_ : Unit) => .fn (.func 75) [] []) (u := ()) (.inr rfl) ?_ (.refl _) rfl hS
  exact res_one (res_tmp rfl)
theorem W_shares_rules_3 : PureSat Try.prog 69 [.v (.int .i64 3)] (.fn (.func 76) [] []) := by
  refine pure_of_wp mixed Try.func69 rfl (by decide) Try.ntmps69 (by simp) (.fn _ [] [] (by simp) (by simp)) fun H0 g hf => ?_
  rw [frame0_of]
  change wpA _ _ _ _ (Fr.of [(0, .v (.int .i64 3))]) H0 g
  have hS := St.start hf
  refine r_seq ?_
  refine r_region (n := 1) rfl ?_
  refine o_assign (v := .v .nilFunc) (by decide) rfl ?_
  refine run_nil ?_
  refine w_next [(0, .v (.int .i64 3))] (.cons (.refl _) .nil) ?_
  refine r_seq ?_
  refine r_region (n := 4) rfl ?_
  refine o_build (cs := [.v .nilFunc, .fn (.func 74) [] [], .fn (.func 75) [] [], .fn (.func 76) [] [], .fn (.func 78) [] [], .fn (.func 79) [] []]) (by decide) ty_zero93 ty_pl93 rfl ?_
  refine o_move (v := .v (.int .i64 3)) (by decide) rfl ?_
  refine o_indexA (v := .fn (.func 76) [] []) (cs := [.v .nilFunc, .fn (.func 74) [] [], .fn (.func 75) [] [], .fn (.func 76) [] [], .fn (.func 78) [] [], .fn (.func 79) [] []]) (z := 3) (by decide) rfl rfl ty_arx93 (by decide) (by decide) (part_one ty_agg87 ty_sc87 rfl) ?_
  refine o_assign (v := .fn (.func 76) [] []) (by decide) rfl ?_
  refine run_nil ?_
  refine w_next [(2, .fn (.func 76) [] [])] (.cons (.refl _) .nil) ?_
  refine r_ret ?_
  refine w_end (x := .fn (.func 76) [] []) (f := fun (_ : Unit) => .fn (.func 76) [] []) (u := ()) (.inr rfl) ?_ (.refl _) rfl hS
  exact res_one (res_tmp rfl)
theorem W_shares_rules_4 : PureSat Try.prog 69 [.v (.int .i64 4)] (.fn (.func 78) [] []) := by
  refine pure_of_wp mixed Try.func69 rfl (by decide) Try.ntmps69 (by simp) (.fn _ [] [] (by simp) (by simp)) fun H0 g hf => ?_
  rw [frame0_of]
  change wpA _ _ _ _ (Fr.of [(0, .v (.int .i64 4))]) H0 g
  have hS := St.start hf
  refine r_seq ?_
  refine r_region (n := 1) rfl ?_
  refine o_assign (v := .v .nilFunc) (by decide) rfl ?_
  refine run_nil ?_
  refine w_next [(0, .v (.int .i64 4))] (.cons (.refl _) .nil) ?_
  refine r_seq ?_
  refine r_region (n := 4) rfl ?_
  refine o_build (cs := [.v .nilFunc, .fn (.func 74) [] [], .fn (.func 75) [] [], .fn (.func 76) [] [], .fn (.func 78) [] [], .fn (.func 79) [] []]) (by decide) ty_zero93 ty_pl93 rfl ?_
  refine o_move (v := .v (.int .i64 4)) (by decide) rfl ?_
  refine o_indexA (v := .fn (.func 78) [] []) (cs := [.v .nilFunc, .fn (.func 74) [] [], .fn (.func 75) [] [], .fn (.func 76) [] [], .fn (.func 78) [] [], .fn (.func 79) [] []]) (z := 4) (by decide) rfl rfl ty_arx93 (by decide) (by decide) (part_one ty_agg87 ty_sc87 rfl) ?_
  refine o_assign (v := .fn (.func 78) [] []) (by decide) rfl ?_
  refine run_nil ?_
  refine w_next [(2, .fn (.func 78) [] [])] (.cons (.refl _) .nil) ?_
  refine r_ret ?_
  refine w_end (x := .fn (.func 78) [] []) (f := fun (_ : Unit) => .fn (.func 78) [] []) (u := ()) (.inr rfl) ?_ (.refl _) rfl hS
  exact res_one (res_tmp rfl)
theorem W_shares_rules_5 : PureSat Try.prog 69 [.v (.int .i64 5)] (.fn (.func 79) [] []) := by
  refine pure_of_wp mixed Try.func69 rfl (by decide) Try.ntmps69 (by simp) (.fn _ [] [] (by simp) (by simp)) fun H0 g hf => ?_
  rw [frame0_of]
  change wpA _ _ _ _ (Fr.of [(0, .v (.int .i64 5))]) H0 g
  have hS := St.start hf
  refine r_seq ?_
  refine r_region (n := 1) rfl ?_
  refine o_assign (v := .v .nilFunc) (by decide) rfl ?_
  refine run_nil ?_
  refine w_next [(0, .v (.int .i64 5))] (.cons (.refl _) .nil) ?_
  refine r_seq ?_
  refine r_region (n := 4) rfl ?_
  refine o_build (cs := [.v .nilFunc, .fn (.func 74) [] [], .fn (.func 75) [] [], .fn (.func 76) [] [], .fn (.func 78) [] [], .fn (.func 79) [] []]) (by decide) ty_zero93 ty_pl93 rfl ?_
  refine o_move (v := .v (.int .i64 5)) (by decide) rfl ?_
  refine o_indexA (v := .fn (.func 79) [] []) (cs := [.v .nilFunc, .fn (.func 74) [] [], .fn (.func 75) [] [], .fn (.func 76) [] [], .fn (.func 78) [] [], .fn (.func 79) [] []]) (z := 5) (by decide) rfl rfl ty_arx93 (by decide) (by decide) (part_one ty_agg87 ty_sc87 rfl) ?_
  refine o_assign (v := .fn (.func 79) [] []) (by decide) rfl ?_
  refine run_nil ?_
  refine w_next [(2, .fn (.func 79) [] [])] (.cons (.refl _) .nil) ?_
  refine r_ret ?_
  refine w_end (x := .fn (.func 79) [] []) (f := fun (_ : Unit) => .fn (.func 79) [] []) (u := ()) (.inr rfl) ?_ (.refl _) rfl hS
  exact res_one (res_tmp rfl)
theorem W_shares_settle {n : Nat} {a0 : List Clause} {a1 : Int} {a2 : Int} {a3 : Int} {r : Week_ × (List Int)} (hM : shares_settle n a0 a1 a2 a3 = some r) : PureSat Try.prog 56 [.sl .no 4 (a0.map Clause.cells), .v (.int .i64 a1), .v (.int .i64 a2), .v (.int .i64 a3)] (.tup [.agg [.v (.int .i64 r.1.Split.Operator), .v (.int .i64 r.1.Split.Owner), .v (.int .i64 r.1.Split.Repaid), .v (.int .i64 r.1.rest), .v (.int .i64 r.1.owed)], .sl .no 1 (r.2.map cI)]) := by
  refine pure_of_wp mixed Try.func56 rfl (by decide) Try.ntmps56 (by simp) ?pure fun H0 g hf => ?_
  case pure => exact .tup _ (pl_cons (.agg _ (pl_cons (.v _) (pl_cons (.v _) (pl_cons (.v _) (pl_cons (.v _) (pl_cons (.v _) pl_nil)))))) (pl_cons (.sl _ _ (pures_map (fun x => (pl_cons (.v _) pl_nil)))) pl_nil))
  rw [frame0_of]
  change wpA _ _ _ _ (Fr.of [(0, .sl .no 4 (a0.map Clause.cells)), (1, .v (.int .i64 a1)), (2, .v (.int .i64 a2)), (3, .v (.int .i64 a3))]) H0 g
  have hS := St.start hf
  refine r_seq ?_
  refine r_region (n := 2) rfl ?_
  refine o_alloc hS (by decide) ty_zero76 (by omega) fun H hS => ?_
  refine o_assign (v := .sl .nil 0 []) (by decide) rfl ?_
  refine run_nil ?_
  refine w_own [(0, .sl .no 4 (a0.map Clause.cells)), (1, .v (.int .i64 a1)), (2, .v (.int .i64 a2)), (3, .v (.int .i64 a3)), (8, .ptr (g + 0) 0), (9, .sl (.id (g + 2)) 1 (([] : List Int).map cI))] 9 1 3 hS (by omega) (by decide) rfl (.cons (.refl _) (.cons (.refl _) (.cons (.refl _) (.cons (.refl _) (.cons (.refl _) (.cons (.refl _) .nil)))))) fun H hS => ?_
  refine r_seq ?_
  refine r_region (n := 4) rfl ?_
  refine o_move (v := .v (.int .i64 a2)) (by decide) rfl ?_
  refine o_move (v := .v (.int .i64 a1)) (by decide) rfl ?_
  refine o_build (cs := [.v (.int .i64 0), .v (.int .i64 0), .v (.int .i64 0), .v (.int .i64 a2), .v (.int .i64 a1)]) (by decide) ty_zero76 ty_pl76 rfl ?_
  refine o_store (v := .agg [.v (.int .i64 0), .v (.int .i64 0), .v (.int .i64 0), .v (.int .i64 a2), .v (.int .i64 a1)]) (ns := [.v (.int .i64 0), .v (.int .i64 0), .v (.int .i64 0), .v (.int .i64 a2), .v (.int .i64 a1)]) (L' := [(g + 2, .row 3 0), (g + 0, .cells [.v (.int .i64 0), .v (.int .i64 0), .v (.int .i64 0), .v (.int .i64 a2), .v (.int .i64 a1)])]) 1 hS rfl rfl .no rfl rfl ty_var76 (Nat.le_of_ble_eq_true rfl) rfl fun H hS => ?_
  refine run_nil ?_
  refine w_next [(0, .sl .no 4 (a0.map Clause.cells)), (2, .v (.int .i64 a2)), (3, .v (.int .i64 a3)), (8, .ptr (g + 0) 0), (9, .sl (.id (g + 2)) 1 (([] : List Int).map cI))] (.cons (.refl _) (.cons (.refl _) (.cons (.refl _) (.cons (.refl _) (.cons (.refl _) .nil))))) ?_
  refine r_seq ?_
  refine r_region (n := 4) rfl ?_
  refine o_move (v := .v (.int .i64 a3)) (by decide) rfl ?_
  refine o_move (v := .v (.int .i64 a2)) (by decide) rfl ?_
  refine o_min (v := .v (.int .i64 (min a3 a2))) (by decide) rfl ?_
  obtain ⟨r1, hr1, hM⟩ := bindE hM
  refine o_mut (bs := [.ptr (g + 0) 0, .v (.int .i64 (min a3 a2))]) (L' := [(g + 2, .row 3 0), (g + 0, .cells [.v (.int .i64 r1.1.Split.Operator), .v (.int .i64 r1.1.Split.Owner), .v (.int .i64 r1.1.Split.Repaid), .v (.int .i64 r1.1.rest), .v (.int .i64 r1.1.owed)])]) 1 hS (by decide) rfl rfl rfl mok_no ((W_shares_week_owner (p := g + 0) hr1).le (.cons (.refl _) (.cons (.refl _) .nil))) rfl fun H hS => ?_
  refine run_nil ?_
  refine w_next [(0, .sl .no 4 (a0.map Clause.cells)), (8, .ptr (g + 0) 0), (9, .sl (.id (g + 2)) 1 (([] : List Int).map cI))] (.cons (.refl _) (.cons (.refl _) (.cons (.refl _) .nil))) ?_
  refine w_join (J := (List Int) × Int × Int × Int × Int × Int) (fun j => [(8, .ptr (g + 0) 0), (9, .sl (.id (g + 2)) 1 (j.1.map cI))]) (fun j H' g' => St (· < g) H0 [(g + 2, .row 3 j.1.length), (g + 0, .cells [.v (.int .i64 j.2.1), .v (.int .i64 j.2.2.1), .v (.int .i64 j.2.2.2.1), .v (.int .i64 j.2.2.2.2.1), .v (.int .i64 j.2.2.2.2.2)])] H' g' ∧ shares_settle_j1 j.1 j.2.1 j.2.2.1 j.2.2.2.1 j.2.2.2.2.1 j.2.2.2.2.2 = some r) ?_ ?_
  · rintro ⟨v2, v3, v4, v5, v6, v7⟩ H g1 ⟨hS, hM⟩
    change wpA _ _ _ _ (Fr.of [(8, .ptr (g + 0) 0), (9, .sl (.id (g + 2)) 1 (v2.map cI))]) _ _
    replace hS : St (· < g) H0 [(g + 2, .row 3 v2.length), (g + 0, .cells [.v (.int .i64 v3), .v (.int .i64 v4), .v (.int .i64 v5), .v (.int .i64 v6), .v (.int .i64 v7)])] H g1 := hS
    replace hM : shares_settle_j1 v2 v3 v4 v5 v6 v7 = some r := hM
    refine r_seq ?_
    refine r_region (n := 3) rfl ?_
    refine o_fieldP (by decide) ty_fo76_1 rfl ?_
    refine o_load (v := .v (.int .i64 v6)) 1 hS (by decide) rfl rfl .no (part_one ty_agg3 ty_sc3 rfl) ?_
    obtain ⟨r8, hr8, hM⟩ := bindE hM
    refine o_mut (bs := [.ptr (g + 0) 0, .v (.int .i64 v6)]) (L' := [(g + 2, .row 3 v2.length), (g + 0, .cells [.v (.int .i64 r8.1.Split.Operator), .v (.int .i64 r8.1.Split.Owner), .v (.int .i64 r8.1.Split.Repaid), .v (.int .i64 r8.1.rest), .v (.int .i64 r8.1.owed)])]) 1 hS (by decide) rfl rfl rfl mok_no ((W_shares_week_operator (p := g + 0) hr8).le (.cons (.refl _) (.cons (.refl _) .nil))) rfl fun H hS => ?_
    refine run_nil ?_
    refine w_next [(8, .ptr (g + 0) 0), (9, .sl (.id (g + 2)) 1 (v2.map cI))] (.cons (.refl _) (.cons (.refl _) .nil)) ?_
    refine r_seq ?_
    refine r_region (n := 4) rfl ?_
    refine o_load (v := .agg [.v (.int .i64 r8.1.Split.Operator), .v (.int .i64 r8.1.Split.Owner), .v (.int .i64 r8.1.Split.Repaid), .v (.int .i64 r8.1.rest), .v (.int .i64 r8.1.owed)]) 1 hS (by decide) rfl rfl .no (part_agg ty_agg76 (Nat.le_of_ble_eq_true rfl) rfl) ?_
    refine o_move (v := .sl (.id (g + 2)) 1 (v2.map cI)) (by decide) rfl ?_
    refine o_store (v := .agg [.v (.int .i64 r8.1.Split.Operator), .v (.int .i64 r8.1.Split.Owner), .v (.int .i64 r8.1.Split.Repaid), .v (.int .i64 r8.1.rest), .v (.int .i64 r8.1.owed)]) (ns := [.v (.int .i64 r8.1.Split.Operator), .v (.int .i64 r8.1.Split.Owner), .v (.int .i64 r8.1.Split.Repaid), .v (.int .i64 r8.1.rest), .v (.int .i64 r8.1.owed)]) (L' := [(g + 2, .row 3 v2.length), (g + 0, .cells [.v (.int .i64 r8.1.Split.Operator), .v (.int .i64 r8.1.Split.Owner), .v (.int .i64 r8.1.Split.Repaid), .v (.int .i64 r8.1.rest), .v (.int .i64 r8.1.owed)])]) 1 hS rfl rfl .no rfl rfl ty_var76 (Nat.le_of_ble_eq_true rfl) rfl fun H hS => ?_
    refine o_assign (v := .sl (.id (g + 2)) 1 (v2.map cI)) (by decide) rfl ?_
    refine run_nil ?_
    refine w_next [(8, .ptr (g + 0) 0), (9, .sl (.id (g + 2)) 1 (v2.map cI))] (.cons (.refl _) (.cons (.refl _) .nil)) ?_
    refine r_ret ?_
    refine w_end (x := .tup [.agg [.v (.int .i64 r8.1.Split.Operator), .v (.int .i64 r8.1.Split.Owner), .v (.int .i64 r8.1.Split.Repaid), .v (.int .i64 r8.1.rest), .v (.int .i64 r8.1.owed)], .sl (.id (g + 2)) 1 (v2.map cI)]) (f := fun r => .tup [.agg [.v (.int .i64 r.1.Split.Operator), .v (.int .i64 r.1.Split.Owner), .v (.int .i64 r.1.Split.Repaid), .v (.int .i64 r.1.rest), .v (.int .i64 r.1.owed)], .sl .no 1 (r.2.map cI)]) (.inr rfl) ?_ (.tupL (.cons (.refl _) (.cons (.sl _ _ _) .nil))) (Option.some.inj hM) hS
    exact (res_two (res_cell (x := .agg [.v (.int .i64 r8.1.Split.Operator), .v (.int .i64 r8.1.Split.Owner), .v (.int .i64 r8.1.Split.Repaid), .v (.int .i64 r8.1.rest), .v (.int .i64 r8.1.owed)]) 1 hS rfl rfl (part_agg ty_agg76 (Nat.le_of_ble_eq_true rfl) rfl)) (res_tmp (x := .sl (.id (g + 2)) 1 (v2.map cI)) rfl))
  · refine r_seq ?_
    refine r_region (n := 3) rfl ?_
    refine o_move (v := .sl .no 4 (a0.map Clause.cells)) (by decide) rfl ?_
    refine o_len (n := a0.length) (by decide) rfl (List.length_map _) ty_isl22 ?_
    refine o_move (v := .v (.int .i64 0)) (by decide) rfl ?_
    refine run_nil ?_
    refine w_next [(8, .ptr (g + 0) 0), (9, .sl (.id (g + 2)) 1 (([] : List Int).map cI)), (19, .sl .no 4 (a0.map Clause.cells)), (20, .v (.int .i64 (a0.length : Int))), (21, .v (.int .i64 0))] (.cons (.refl _) (.cons (.refl _) (.cons (.refl _) (.cons (.refl _) (.cons (.refl _) .nil))))) ?_
    refine r_block ?_
    refine w_loop (V := (List Int) × Int × Int × Int × Int × Int × Int) (fun v => [(8, .ptr (g + 0) 0), (9, .sl (.id (g + 2)) 1 (v.1.map cI)), (19, .sl .no 4 (a0.map Clause.cells)), (20, .v (.int .i64 (a0.length : Int))), (21, .v (.int .i64 v.2.1))]) (fun v m3 H' g' => St (· < g) H0 [(g + 2, .row 3 v.1.length), (g + 0, .cells [.v (.int .i64 v.2.2.1), .v (.int .i64 v.2.2.2.1), .v (.int .i64 v.2.2.2.2.1), .v (.int .i64 v.2.2.2.2.2.1), .v (.int .i64 v.2.2.2.2.2.2)])] H' g' ∧ shares_settle_l1 a0 m3 v.1 v.2.1 v.2.2.1 v.2.2.2.1 v.2.2.2.2.1 v.2.2.2.2.2.1 v.2.2.2.2.2.2 = some r) (n := n) (([] : List Int), 0, r1.1.Split.Operator, r1.1.Split.Owner, r1.1.Split.Repaid, r1.1.rest, r1.1.owed) (.cons (.refl _) (.cons (.refl _) (.cons (.refl _) (.cons (.refl _) (.cons (.refl _) .nil))))) ⟨(hS.keep [true, true] rfl).up (by omega), hM⟩ ?_
    rintro ⟨v11, v12, v13, v14, v15, v16, v17⟩ m3 H g3 ⟨hS, hM⟩
    obtain _ | m3 := m3
    · exact nomatch (show none = some _ from hM)
    change wpA _ _ _ _ (Fr.of [(8, .ptr (g + 0) 0), (9, .sl (.id (g + 2)) 1 (v11.map cI)), (19, .sl .no 4 (a0.map Clause.cells)), (20, .v (.int .i64 (a0.length : Int))), (21, .v (.int .i64 v12))]) _ _
    replace hS : St (· < g) H0 [(g + 2, .row 3 v11.length), (g + 0, .cells [.v (.int .i64 v13), .v (.int .i64 v14), .v (.int .i64 v15), .v (.int .i64 v16), .v (.int .i64 v17)])] H g3 := hS
    replace hM : shares_settle_l1_b a0 (shares_settle_l1 a0 m3) v11 v12 v13 v14 v15 v16 v17 = some r := hM
    refine r_seq ?_
    refine r_region (n := 1) rfl ?_
    refine o_int (v := .v (.bool (decide (v12 < (a0.length : Int))))) (by decide) rfl rfl rfl ?_
    refine run_nil ?_
    refine w_next [(8, .ptr (g + 0) 0), (9, .sl (.id (g + 2)) 1 (v11.map cI)), (19, .sl .no 4 (a0.map Clause.cells)), (20, .v (.int .i64 (a0.length : Int))), (21, .v (.int .i64 v12)), (22, .v (.bool (decide (v12 < (a0.length : Int)))))] (.cons (.refl _) (.cons (.refl _) (.cons (.refl _) (.cons (.refl _) (.cons (.refl _) (.cons (.refl _) .nil)))))) ?_
    refine r_seq ?_
    rcases Bool.eq_false_or_eq_true (decide (v12 < (a0.length : Int))) with hb18 | hb18
    · replace hM := ifT hM hb18
      refine w_condT (e := (decide (v12 < (a0.length : Int)))) rfl hb18 ?_
      refine r_skip ?_
      refine w_next [(8, .ptr (g + 0) 0), (9, .sl (.id (g + 2)) 1 (v11.map cI)), (19, .sl .no 4 (a0.map Clause.cells)), (20, .v (.int .i64 (a0.length : Int))), (21, .v (.int .i64 v12))] (.cons (.refl _) (.cons (.refl _) (.cons (.refl _) (.cons (.refl _) (.cons (.refl _) .nil))))) ?_
      refine r_seq ?_
      refine r_block ?_
      refine r_seq ?_
      refine r_region (n := 4) rfl ?_
      obtain ⟨x19, hx19, hM⟩ := bindE hM
      refine o_index (xs := a0) (f := Clause.cells) (z := v12) (u := x19) (by decide) rfl rfl ty_es22 hx19 ?_
      refine o_loadE (v := .agg [.v (.int .i64 x19.Kind), .v (.int .i64 x19.Cents), .v (.int .i64 x19.Part), .v (.int .i64 x19.More)]) (by decide) rfl (part_agg ty_agg39 (Nat.le_of_ble_eq_true rfl) rfl) ?_
      refine o_alloc hS (by decide) ty_zero39 (by omega) fun H hS => ?_
      refine o_store (v := .agg [.v (.int .i64 x19.Kind), .v (.int .i64 x19.Cents), .v (.int .i64 x19.Part), .v (.int .i64 x19.More)]) (ns := [.v (.int .i64 x19.Kind), .v (.int .i64 x19.Cents), .v (.int .i64 x19.Part), .v (.int .i64 x19.More)]) (L' := [(g3 + 1 + 2, .cells [.v (.int .i64 x19.Kind), .v (.int .i64 x19.Cents), .v (.int .i64 x19.Part), .v (.int .i64 x19.More)]), (g + 2, .row 3 v11.length), (g + 0, .cells [.v (.int .i64 v13), .v (.int .i64 v14), .v (.int .i64 v15), .v (.int .i64 v16), .v (.int .i64 v17)])]) 0 hS rfl rfl .no rfl rfl ty_var39 (Nat.le_of_ble_eq_true rfl) rfl fun H hS => ?_
      refine run_nil ?_
      refine w_next [(8, .ptr (g + 0) 0), (9, .sl (.id (g + 2)) 1 (v11.map cI)), (11, .ptr (g3 + 1 + 2) 0), (19, .sl .no 4 (a0.map Clause.cells)), (20, .v (.int .i64 (a0.length : Int))), (21, .v (.int .i64 v12))] (.cons (.refl _) (.cons (.refl _) (.cons (.refl _) (.cons (.refl _) (.cons (.refl _) (.cons (.refl _) .nil)))))) ?_
      have hS0 := hS
      refine r_draw (n := 9) rfl (by kernel_rfl) ?_
      refine o_move (v := .sl (.id (g + 2)) 1 (v11.map cI)) (by decide) rfl ?_
      refine o_fieldP (by decide) ty_fo39_0 rfl ?_
      refine o_load (v := .v (.int .i64 x19.Kind)) 0 hS (by decide) rfl rfl (.st hS0 0 rfl (by omega)) (part_one ty_agg3 ty_sc3 rfl) ?_
      rcases Bool.eq_false_or_eq_true (x19.Kind == 1) with hb20 | hb20
      · replace hM := ifT hM hb20
        refine o_call (bs := [.v (.int .i64 x19.Kind)]) (v := .fn (.func 74) [] []) (by decide) rfl rfl (by rw [eq_of_beq hb20]; exact W_shares_rules_1) ?_
        refine o_load (v := .agg [.v (.int .i64 x19.Kind), .v (.int .i64 x19.Cents), .v (.int .i64 x19.Part), .v (.int .i64 x19.More)]) 0 hS (by decide) rfl rfl (.st hS0 0 rfl (by omega)) (part_agg ty_agg39 (Nat.le_of_ble_eq_true rfl) rfl) ?_
        obtain ⟨r21, hr21, hM⟩ := bindE hM
        refine o_mut (bs := [.ptr (g + 0) 0, .agg [.v (.int .i64 x19.Kind), .v (.int .i64 x19.Cents), .v (.int .i64 x19.Part), .v (.int .i64 x19.More)]]) (L' := [(g3 + 1 + 2, .cells [.v (.int .i64 x19.Kind), .v (.int .i64 x19.Cents), .v (.int .i64 x19.Part), .v (.int .i64 x19.More)]), (g + 2, .row 3 v11.length), (g + 0, .cells [.v (.int .i64 r21.1.Split.Operator), .v (.int .i64 r21.1.Split.Owner), .v (.int .i64 r21.1.Split.Repaid), .v (.int .i64 r21.1.rest), .v (.int .i64 r21.1.owed)])]) 2 hS (by decide) rfl rfl rfl (mok_st (by kernel_rfl) hS0 2 rfl (by omega)) ((W_shares_rules_c1 (p := g + 0) hr21).le (.cons (.refl _) (.cons (.refl _) .nil))) rfl fun H hS => ?_
        refine o_buildSlice (es := [[.v (.int .i64 r21.2)]]) hS (by decide) ty_es28 ty_el28 rfl ty_ef28 rfl (by decide) (by omega) fun H hS => ?_
        obtain ⟨l22, hl22, hM⟩ := bindE hM
        refine o_append (xs := v11) (ys := ([r21.2] : List Int)) (zs := l22) (f := cI) (L' := [(g3 + 1 + 4 + 6, .row 3 1), (g3 + 1 + 2, .cells [.v (.int .i64 x19.Kind), .v (.int .i64 x19.Cents), .v (.int .i64 x19.Part), .v (.int .i64 x19.More)]), (g + 2, .row 3 l22.length), (g + 0, .cells [.v (.int .i64 r21.1.Split.Operator), .v (.int .i64 r21.1.Split.Owner), .v (.int .i64 r21.1.Split.Repaid), .v (.int .i64 r21.1.rest), .v (.int .i64 r21.1.owed)])]) 2 hS (by decide) rfl rfl rfl rfl (.st hS0 1 rfl (by omega)) ty_es28 ty_el28 ty_ef28 hl22 rfl fun H hS => ?_
        refine o_assign (v := .sl (.id (g + 2)) 1 (l22.map cI)) (by decide) rfl ?_
        refine run_nil ?_
        refine r_blk_normal ?_
        replace hS := hS.keep (L' := [(g + 2, .row 3 l22.length), (g + 0, .cells [.v (.int .i64 r21.1.Split.Operator), .v (.int .i64 r21.1.Split.Owner), .v (.int .i64 r21.1.Split.Repaid), .v (.int .i64 r21.1.rest), .v (.int .i64 r21.1.owed)])]) [false, false, true, true] rfl
        refine w_next [(8, .ptr (g + 0) 0), (9, .sl (.id (g + 2)) 1 (l22.map cI)), (19, .sl .no 4 (a0.map Clause.cells)), (20, .v (.int .i64 (a0.length : Int))), (21, .v (.int .i64 v12))] (.cons (.refl _) (.cons (.refl _) (.cons (.refl _) (.cons (.refl _) (.cons (.refl _) .nil))))) ?_
        refine r_region (n := 2) rfl ?_
        refine o_int (v := .v (.int .i64 (w64 (v12 + 1)))) (by decide) rfl rfl rfl ?_
        refine o_move (v := .v (.int .i64 (w64 (v12 + 1)))) (by decide) rfl ?_
        refine run_nil ?_
        exact w_round (l22, w64 (v12 + 1), r21.1.Split.Operator, r21.1.Split.Owner, r21.1.Split.Repaid, r21.1.rest, r21.1.owed) (Nat.lt_succ_self _) (.cons (.refl _) (.cons (.refl _) (.cons (.refl _) (.cons (.refl _) (.cons (.refl _) .nil))))) ⟨(hS.keep [true, true] rfl).up (by omega), hM⟩
      · replace hM := ifF hM hb20
        rcases Bool.eq_false_or_eq_true (x19.Kind == 2) with hb23 | hb23
        · replace hM := ifT hM hb23
          refine o_call (bs := [.v (.int .i64 x19.Kind)]) (v := .fn (.func 75) [] []) (by decide) rfl rfl (by rw [eq_of_beq hb23]; exact W_shares_rules_2) ?_
          refine o_load (v := .agg [.v (.int .i64 x19.Kind), .v (.int .i64 x19.Cents), .v (.int .i64 x19.Part), .v (.int .i64 x19.More)]) 0 hS (by decide) rfl rfl (.st hS0 0 rfl (by omega)) (part_agg ty_agg39 (Nat.le_of_ble_eq_true rfl) rfl) ?_
          obtain ⟨r24, hr24, hM⟩ := bindE hM
          refine o_mut (bs := [.ptr (g + 0) 0, .agg [.v (.int .i64 x19.Kind), .v (.int .i64 x19.Cents), .v (.int .i64 x19.Part), .v (.int .i64 x19.More)]]) (L' := [(g3 + 1 + 2, .cells [.v (.int .i64 x19.Kind), .v (.int .i64 x19.Cents), .v (.int .i64 x19.Part), .v (.int .i64 x19.More)]), (g + 2, .row 3 v11.length), (g + 0, .cells [.v (.int .i64 r24.1.Split.Operator), .v (.int .i64 r24.1.Split.Owner), .v (.int .i64 r24.1.Split.Repaid), .v (.int .i64 r24.1.rest), .v (.int .i64 r24.1.owed)])]) 2 hS (by decide) rfl rfl rfl (mok_st (by kernel_rfl) hS0 2 rfl (by omega)) ((W_shares_week_repay (p := g + 0) hr24).le (.cons (.refl _) (.cons (.refl _) .nil))) rfl fun H hS => ?_
          refine o_buildSlice (es := [[.v (.int .i64 r24.2)]]) hS (by decide) ty_es28 ty_el28 rfl ty_ef28 rfl (by decide) (by omega) fun H hS => ?_
          obtain ⟨l25, hl25, hM⟩ := bindE hM
          refine o_append (xs := v11) (ys := ([r24.2] : List Int)) (zs := l25) (f := cI) (L' := [(g3 + 1 + 4 + 6, .row 3 1), (g3 + 1 + 2, .cells [.v (.int .i64 x19.Kind), .v (.int .i64 x19.Cents), .v (.int .i64 x19.Part), .v (.int .i64 x19.More)]), (g + 2, .row 3 l25.length), (g + 0, .cells [.v (.int .i64 r24.1.Split.Operator), .v (.int .i64 r24.1.Split.Owner), .v (.int .i64 r24.1.Split.Repaid), .v (.int .i64 r24.1.rest), .v (.int .i64 r24.1.owed)])]) 2 hS (by decide) rfl rfl rfl rfl (.st hS0 1 rfl (by omega)) ty_es28 ty_el28 ty_ef28 hl25 rfl fun H hS => ?_
          refine o_assign (v := .sl (.id (g + 2)) 1 (l25.map cI)) (by decide) rfl ?_
          refine run_nil ?_
          refine r_blk_normal ?_
          replace hS := hS.keep (L' := [(g + 2, .row 3 l25.length), (g + 0, .cells [.v (.int .i64 r24.1.Split.Operator), .v (.int .i64 r24.1.Split.Owner), .v (.int .i64 r24.1.Split.Repaid), .v (.int .i64 r24.1.rest), .v (.int .i64 r24.1.owed)])]) [false, false, true, true] rfl
          refine w_next [(8, .ptr (g + 0) 0), (9, .sl (.id (g + 2)) 1 (l25.map cI)), (19, .sl .no 4 (a0.map Clause.cells)), (20, .v (.int .i64 (a0.length : Int))), (21, .v (.int .i64 v12))] (.cons (.refl _) (.cons (.refl _) (.cons (.refl _) (.cons (.refl _) (.cons (.refl _) .nil))))) ?_
          refine r_region (n := 2) rfl ?_
          refine o_int (v := .v (.int .i64 (w64 (v12 + 1)))) (by decide) rfl rfl rfl ?_
          refine o_move (v := .v (.int .i64 (w64 (v12 + 1)))) (by decide) rfl ?_
          refine run_nil ?_
          exact w_round (l25, w64 (v12 + 1), r24.1.Split.Operator, r24.1.Split.Owner, r24.1.Split.Repaid, r24.1.rest, r24.1.owed) (Nat.lt_succ_self _) (.cons (.refl _) (.cons (.refl _) (.cons (.refl _) (.cons (.refl _) (.cons (.refl _) .nil))))) ⟨(hS.keep [true, true] rfl).up (by omega), hM⟩
        · replace hM := ifF hM hb23
          rcases Bool.eq_false_or_eq_true (x19.Kind == 3) with hb26 | hb26
          · replace hM := ifT hM hb26
            refine o_call (bs := [.v (.int .i64 x19.Kind)]) (v := .fn (.func 76) [] []) (by decide) rfl rfl (by rw [eq_of_beq hb26]; exact W_shares_rules_3) ?_
            refine o_load (v := .agg [.v (.int .i64 x19.Kind), .v (.int .i64 x19.Cents), .v (.int .i64 x19.Part), .v (.int .i64 x19.More)]) 0 hS (by decide) rfl rfl (.st hS0 0 rfl (by omega)) (part_agg ty_agg39 (Nat.le_of_ble_eq_true rfl) rfl) ?_
            obtain ⟨r27, hr27, hM⟩ := bindE hM
            refine o_mut (bs := [.ptr (g + 0) 0, .agg [.v (.int .i64 x19.Kind), .v (.int .i64 x19.Cents), .v (.int .i64 x19.Part), .v (.int .i64 x19.More)]]) (L' := [(g3 + 1 + 2, .cells [.v (.int .i64 x19.Kind), .v (.int .i64 x19.Cents), .v (.int .i64 x19.Part), .v (.int .i64 x19.More)]), (g + 2, .row 3 v11.length), (g + 0, .cells [.v (.int .i64 r27.1.Split.Operator), .v (.int .i64 r27.1.Split.Owner), .v (.int .i64 r27.1.Split.Repaid), .v (.int .i64 r27.1.rest), .v (.int .i64 r27.1.owed)])]) 2 hS (by decide) rfl rfl rfl (mok_st (by kernel_rfl) hS0 2 rfl (by omega)) ((W_shares_rules_c2 (p := g + 0) hr27).le (.cons (.refl _) (.cons (.refl _) .nil))) rfl fun H hS => ?_
            refine o_buildSlice (es := [[.v (.int .i64 r27.2)]]) hS (by decide) ty_es28 ty_el28 rfl ty_ef28 rfl (by decide) (by omega) fun H hS => ?_
            obtain ⟨l28, hl28, hM⟩ := bindE hM
            refine o_append (xs := v11) (ys := ([r27.2] : List Int)) (zs := l28) (f := cI) (L' := [(g3 + 1 + 4 + 6, .row 3 1), (g3 + 1 + 2, .cells [.v (.int .i64 x19.Kind), .v (.int .i64 x19.Cents), .v (.int .i64 x19.Part), .v (.int .i64 x19.More)]), (g + 2, .row 3 l28.length), (g + 0, .cells [.v (.int .i64 r27.1.Split.Operator), .v (.int .i64 r27.1.Split.Owner), .v (.int .i64 r27.1.Split.Repaid), .v (.int .i64 r27.1.rest), .v (.int .i64 r27.1.owed)])]) 2 hS (by decide) rfl rfl rfl rfl (.st hS0 1 rfl (by omega)) ty_es28 ty_el28 ty_ef28 hl28 rfl fun H hS => ?_
            refine o_assign (v := .sl (.id (g + 2)) 1 (l28.map cI)) (by decide) rfl ?_
            refine run_nil ?_
            refine r_blk_normal ?_
            replace hS := hS.keep (L' := [(g + 2, .row 3 l28.length), (g + 0, .cells [.v (.int .i64 r27.1.Split.Operator), .v (.int .i64 r27.1.Split.Owner), .v (.int .i64 r27.1.Split.Repaid), .v (.int .i64 r27.1.rest), .v (.int .i64 r27.1.owed)])]) [false, false, true, true] rfl
            refine w_next [(8, .ptr (g + 0) 0), (9, .sl (.id (g + 2)) 1 (l28.map cI)), (19, .sl .no 4 (a0.map Clause.cells)), (20, .v (.int .i64 (a0.length : Int))), (21, .v (.int .i64 v12))] (.cons (.refl _) (.cons (.refl _) (.cons (.refl _) (.cons (.refl _) (.cons (.refl _) .nil))))) ?_
            refine r_region (n := 2) rfl ?_
            refine o_int (v := .v (.int .i64 (w64 (v12 + 1)))) (by decide) rfl rfl rfl ?_
            refine o_move (v := .v (.int .i64 (w64 (v12 + 1)))) (by decide) rfl ?_
            refine run_nil ?_
            exact w_round (l28, w64 (v12 + 1), r27.1.Split.Operator, r27.1.Split.Owner, r27.1.Split.Repaid, r27.1.rest, r27.1.owed) (Nat.lt_succ_self _) (.cons (.refl _) (.cons (.refl _) (.cons (.refl _) (.cons (.refl _) (.cons (.refl _) .nil))))) ⟨(hS.keep [true, true] rfl).up (by omega), hM⟩
          · replace hM := ifF hM hb26
            rcases Bool.eq_false_or_eq_true (x19.Kind == 4) with hb29 | hb29
            · replace hM := ifT hM hb29
              refine o_call (bs := [.v (.int .i64 x19.Kind)]) (v := .fn (.func 78) [] []) (by decide) rfl rfl (by rw [eq_of_beq hb29]; exact W_shares_rules_4) ?_
              refine o_load (v := .agg [.v (.int .i64 x19.Kind), .v (.int .i64 x19.Cents), .v (.int .i64 x19.Part), .v (.int .i64 x19.More)]) 0 hS (by decide) rfl rfl (.st hS0 0 rfl (by omega)) (part_agg ty_agg39 (Nat.le_of_ble_eq_true rfl) rfl) ?_
              obtain ⟨r30, hr30, hM⟩ := bindE hM
              refine o_mut (bs := [.ptr (g + 0) 0, .agg [.v (.int .i64 x19.Kind), .v (.int .i64 x19.Cents), .v (.int .i64 x19.Part), .v (.int .i64 x19.More)]]) (L' := [(g3 + 1 + 2, .cells [.v (.int .i64 x19.Kind), .v (.int .i64 x19.Cents), .v (.int .i64 x19.Part), .v (.int .i64 x19.More)]), (g + 2, .row 3 v11.length), (g + 0, .cells [.v (.int .i64 r30.1.Split.Operator), .v (.int .i64 r30.1.Split.Owner), .v (.int .i64 r30.1.Split.Repaid), .v (.int .i64 r30.1.rest), .v (.int .i64 r30.1.owed)])]) 2 hS (by decide) rfl rfl rfl (mok_st (by kernel_rfl) hS0 2 rfl (by omega)) ((W_shares_rules_c3 (p := g + 0) hr30).le (.cons (.refl _) (.cons (.refl _) .nil))) rfl fun H hS => ?_
              refine o_buildSlice (es := [[.v (.int .i64 r30.2)]]) hS (by decide) ty_es28 ty_el28 rfl ty_ef28 rfl (by decide) (by omega) fun H hS => ?_
              obtain ⟨l31, hl31, hM⟩ := bindE hM
              refine o_append (xs := v11) (ys := ([r30.2] : List Int)) (zs := l31) (f := cI) (L' := [(g3 + 1 + 4 + 6, .row 3 1), (g3 + 1 + 2, .cells [.v (.int .i64 x19.Kind), .v (.int .i64 x19.Cents), .v (.int .i64 x19.Part), .v (.int .i64 x19.More)]), (g + 2, .row 3 l31.length), (g + 0, .cells [.v (.int .i64 r30.1.Split.Operator), .v (.int .i64 r30.1.Split.Owner), .v (.int .i64 r30.1.Split.Repaid), .v (.int .i64 r30.1.rest), .v (.int .i64 r30.1.owed)])]) 2 hS (by decide) rfl rfl rfl rfl (.st hS0 1 rfl (by omega)) ty_es28 ty_el28 ty_ef28 hl31 rfl fun H hS => ?_
              refine o_assign (v := .sl (.id (g + 2)) 1 (l31.map cI)) (by decide) rfl ?_
              refine run_nil ?_
              refine r_blk_normal ?_
              replace hS := hS.keep (L' := [(g + 2, .row 3 l31.length), (g + 0, .cells [.v (.int .i64 r30.1.Split.Operator), .v (.int .i64 r30.1.Split.Owner), .v (.int .i64 r30.1.Split.Repaid), .v (.int .i64 r30.1.rest), .v (.int .i64 r30.1.owed)])]) [false, false, true, true] rfl
              refine w_next [(8, .ptr (g + 0) 0), (9, .sl (.id (g + 2)) 1 (l31.map cI)), (19, .sl .no 4 (a0.map Clause.cells)), (20, .v (.int .i64 (a0.length : Int))), (21, .v (.int .i64 v12))] (.cons (.refl _) (.cons (.refl _) (.cons (.refl _) (.cons (.refl _) (.cons (.refl _) .nil))))) ?_
              refine r_region (n := 2) rfl ?_
              refine o_int (v := .v (.int .i64 (w64 (v12 + 1)))) (by decide) rfl rfl rfl ?_
              refine o_move (v := .v (.int .i64 (w64 (v12 + 1)))) (by decide) rfl ?_
              refine run_nil ?_
              exact w_round (l31, w64 (v12 + 1), r30.1.Split.Operator, r30.1.Split.Owner, r30.1.Split.Repaid, r30.1.rest, r30.1.owed) (Nat.lt_succ_self _) (.cons (.refl _) (.cons (.refl _) (.cons (.refl _) (.cons (.refl _) (.cons (.refl _) .nil))))) ⟨(hS.keep [true, true] rfl).up (by omega), hM⟩
            · replace hM := ifF hM hb29
              rcases Bool.eq_false_or_eq_true (x19.Kind == 5) with hb32 | hb32
              · replace hM := ifT hM hb32
                refine o_call (bs := [.v (.int .i64 x19.Kind)]) (v := .fn (.func 79) [] []) (by decide) rfl rfl (by rw [eq_of_beq hb32]; exact W_shares_rules_5) ?_
                refine o_load (v := .agg [.v (.int .i64 x19.Kind), .v (.int .i64 x19.Cents), .v (.int .i64 x19.Part), .v (.int .i64 x19.More)]) 0 hS (by decide) rfl rfl (.st hS0 0 rfl (by omega)) (part_agg ty_agg39 (Nat.le_of_ble_eq_true rfl) rfl) ?_
                obtain ⟨r33, hr33, hM⟩ := bindE hM
                refine o_mut (bs := [.ptr (g + 0) 0, .agg [.v (.int .i64 x19.Kind), .v (.int .i64 x19.Cents), .v (.int .i64 x19.Part), .v (.int .i64 x19.More)]]) (L' := [(g3 + 1 + 2, .cells [.v (.int .i64 x19.Kind), .v (.int .i64 x19.Cents), .v (.int .i64 x19.Part), .v (.int .i64 x19.More)]), (g + 2, .row 3 v11.length), (g + 0, .cells [.v (.int .i64 r33.1.Split.Operator), .v (.int .i64 r33.1.Split.Owner), .v (.int .i64 r33.1.Split.Repaid), .v (.int .i64 r33.1.rest), .v (.int .i64 r33.1.owed)])]) 2 hS (by decide) rfl rfl rfl (mok_st (by kernel_rfl) hS0 2 rfl (by omega)) ((W_shares_rules_c4 (p := g + 0) hr33).le (.cons (.refl _) (.cons (.refl _) .nil))) rfl fun H hS => ?_
                refine o_buildSlice (es := [[.v (.int .i64 r33.2)]]) hS (by decide) ty_es28 ty_el28 rfl ty_ef28 rfl (by decide) (by omega) fun H hS => ?_
                obtain ⟨l34, hl34, hM⟩ := bindE hM
                refine o_append (xs := v11) (ys := ([r33.2] : List Int)) (zs := l34) (f := cI) (L' := [(g3 + 1 + 4 + 6, .row 3 1), (g3 + 1 + 2, .cells [.v (.int .i64 x19.Kind), .v (.int .i64 x19.Cents), .v (.int .i64 x19.Part), .v (.int .i64 x19.More)]), (g + 2, .row 3 l34.length), (g + 0, .cells [.v (.int .i64 r33.1.Split.Operator), .v (.int .i64 r33.1.Split.Owner), .v (.int .i64 r33.1.Split.Repaid), .v (.int .i64 r33.1.rest), .v (.int .i64 r33.1.owed)])]) 2 hS (by decide) rfl rfl rfl rfl (.st hS0 1 rfl (by omega)) ty_es28 ty_el28 ty_ef28 hl34 rfl fun H hS => ?_
                refine o_assign (v := .sl (.id (g + 2)) 1 (l34.map cI)) (by decide) rfl ?_
                refine run_nil ?_
                refine r_blk_normal ?_
                replace hS := hS.keep (L' := [(g + 2, .row 3 l34.length), (g + 0, .cells [.v (.int .i64 r33.1.Split.Operator), .v (.int .i64 r33.1.Split.Owner), .v (.int .i64 r33.1.Split.Repaid), .v (.int .i64 r33.1.rest), .v (.int .i64 r33.1.owed)])]) [false, false, true, true] rfl
                refine w_next [(8, .ptr (g + 0) 0), (9, .sl (.id (g + 2)) 1 (l34.map cI)), (19, .sl .no 4 (a0.map Clause.cells)), (20, .v (.int .i64 (a0.length : Int))), (21, .v (.int .i64 v12))] (.cons (.refl _) (.cons (.refl _) (.cons (.refl _) (.cons (.refl _) (.cons (.refl _) .nil))))) ?_
                refine r_region (n := 2) rfl ?_
                refine o_int (v := .v (.int .i64 (w64 (v12 + 1)))) (by decide) rfl rfl rfl ?_
                refine o_move (v := .v (.int .i64 (w64 (v12 + 1)))) (by decide) rfl ?_
                refine run_nil ?_
                exact w_round (l34, w64 (v12 + 1), r33.1.Split.Operator, r33.1.Split.Owner, r33.1.Split.Repaid, r33.1.rest, r33.1.owed) (Nat.lt_succ_self _) (.cons (.refl _) (.cons (.refl _) (.cons (.refl _) (.cons (.refl _) (.cons (.refl _) .nil))))) ⟨(hS.keep [true, true] rfl).up (by omega), hM⟩
              · replace hM := ifF hM hb32
                exact nomatch (show none = some _ from hM)
    · replace hM := ifF hM hb18
      refine w_condF (e := (decide (v12 < (a0.length : Int)))) rfl hb18 ?_
      refine r_exit ?_
      refine r_then_exit ?_
      refine w_round_exit ?_
      refine r_blk_exit ?_
      exact w_goto (v11, v13, v14, v15, v16, v17) (.cons (.refl _) (.cons (.refl _) .nil)) ⟨(hS.keep [true, true] rfl).up (by omega), hM⟩
theorem W_shares_owners {n : Nat} {a0 : List Clause} {a1 : Int} {a2 : Int} {r : Int} (hM : shares_owners n a0 a1 a2 = some r) : PureSat Try.prog 52 [.sl .no 4 (a0.map Clause.cells), .v (.int .i64 a1), .v (.int .i64 a2)] (.v (.int .i64 r)) := by
  refine pure_of_wp mixed Try.func52 rfl (by decide) Try.ntmps52 (by simp) ?pure fun H0 g hf => ?_
  case pure => exact .v _
  rw [frame0_of]
  change wpA _ _ _ _ (Fr.of [(0, .sl .no 4 (a0.map Clause.cells)), (1, .v (.int .i64 a1)), (2, .v (.int .i64 a2))]) H0 g
  have hS := St.start hf
  refine r_seq ?_
  refine r_region (n := 1) rfl ?_
  refine o_assign (v := .v (.int .i64 0)) (by decide) rfl ?_
  refine run_nil ?_
  refine w_next [(0, .sl .no 4 (a0.map Clause.cells)), (1, .v (.int .i64 a1)), (2, .v (.int .i64 a2))] (.cons (.refl _) (.cons (.refl _) (.cons (.refl _) .nil))) ?_
  refine r_seq ?_
  refine r_region (n := 10) rfl ?_
  refine o_move (v := .sl .no 4 (a0.map Clause.cells)) (by decide) rfl ?_
  refine o_move (v := .v (.int .i64 a1)) (by decide) rfl ?_
  refine o_move (v := .v (.int .i64 a2)) (by decide) rfl ?_
  obtain ⟨r1, hr1, hM⟩ := bindE hM
  refine o_call (bs := [.sl .no 4 (a0.map Clause.cells), .v (.int .i64 a1), .v (.int .i64 a2), .v (.int .i64 0)]) (by decide) rfl rfl ((W_shares_settle hr1).le (.cons (.refl _) (.cons (.refl _) (.cons (.refl _) (.cons (.refl _) .nil))))) ?_
  refine o_move (v := .tup [.agg [.v (.int .i64 r1.1.Split.Operator), .v (.int .i64 r1.1.Split.Owner), .v (.int .i64 r1.1.Split.Repaid), .v (.int .i64 r1.1.rest), .v (.int .i64 r1.1.owed)], .sl .no 1 (r1.2.map cI)]) (by decide) rfl ?_
  refine o_extract (v := .agg [.v (.int .i64 r1.1.Split.Operator), .v (.int .i64 r1.1.Split.Owner), .v (.int .i64 r1.1.Split.Repaid), .v (.int .i64 r1.1.rest), .v (.int .i64 r1.1.owed)]) (by decide) rfl rfl ?_
  refine o_extract (v := .sl .no 1 (r1.2.map cI)) (by decide) rfl rfl ?_
  refine o_alloc hS (by decide) ty_zero76 (by omega) fun H hS => ?_
  refine o_store (v := .agg [.v (.int .i64 r1.1.Split.Operator), .v (.int .i64 r1.1.Split.Owner), .v (.int .i64 r1.1.Split.Repaid), .v (.int .i64 r1.1.rest), .v (.int .i64 r1.1.owed)]) (ns := [.v (.int .i64 r1.1.Split.Operator), .v (.int .i64 r1.1.Split.Owner), .v (.int .i64 r1.1.Split.Repaid), .v (.int .i64 r1.1.rest), .v (.int .i64 r1.1.owed)]) (L' := [(g + 1 + 7, .cells [.v (.int .i64 r1.1.Split.Operator), .v (.int .i64 r1.1.Split.Owner), .v (.int .i64 r1.1.Split.Repaid), .v (.int .i64 r1.1.rest), .v (.int .i64 r1.1.owed)])]) 0 hS rfl rfl .no rfl rfl ty_var76 (Nat.le_of_ble_eq_true rfl) rfl fun H hS => ?_
  refine o_assign (v := .sl .no 1 (r1.2.map cI)) (by decide) rfl ?_
  refine run_nil ?_
  refine w_next [(7, .ptr (g + 1 + 7) 0)] (.cons (.refl _) .nil) ?_
  refine r_seq ?_
  refine r_region (n := 4) rfl ?_
  refine o_fieldP (by decide) ty_fo76_0 rfl ?_
  refine o_fieldP (by decide) ty_fo41_1 rfl ?_
  refine o_load (v := .v (.int .i64 r1.1.Split.Owner)) 0 hS (by decide) rfl rfl .no (part_one ty_agg3 ty_sc3 rfl) ?_
  refine o_assign (v := .v (.int .i64 r1.1.Split.Owner)) (by decide) rfl ?_
  refine run_nil ?_
  replace hS := hS.keep (L' := []) [false] rfl
  refine w_next [(6, .v (.int .i64 r1.1.Split.Owner))] (.cons (.refl _) .nil) ?_
  refine r_ret ?_
  refine w_end (x := .v (.int .i64 r1.1.Split.Owner)) (f := fun r => .v (.int .i64 r)) (.inr rfl) ?_ (.refl _) (Option.some.inj hM) hS
  exact (res_one (res_tmp (x := .v (.int .i64 r1.1.Split.Owner)) rfl))
theorem W_shares_Best_c1 {p1 p2 p3 p4 : Nat} (hnd : [p1, p2, p3, p4].Nodup) {n : Nat} {a0 : List Int} {a1 : Share} {a2 : Int} {st : Int × (List Int)} {r : Bool × (Int × (List Int))} (hM : shares_Best_c1 n a0 a1 a2 st = some r) : HSat Try.prog 51 [.sl .no 1 (a0.map cI), .ptr p1 0, .ptr p2 0, .ptr p3 0, .ptr p4 0] [(p1, .cells [.sl .no 4 (a1.Clauses.map Clause.cells), .v (.int .i64 a1.Loan)]), (p2, .cells [.v (.int .i64 a2)]), (p3, .cells [.v (.int .i64 st.1)]), (p4, .cells [.sl .no 1 (st.2.map cI)])] (.v (.bool r.1)) [(p1, .cells [.sl .no 4 (a1.Clauses.map Clause.cells), .v (.int .i64 a1.Loan)]), (p2, .cells [.v (.int .i64 a2)]), (p3, .cells [.v (.int .i64 r.2.1)]), (p4, .cells [.sl .no 1 (r.2.2.map cI)])] := by
  refine hsat_of_wp mixed Try.func51 rfl (by decide) Try.ntmps51 (by simp) (kl_cells (kl_cells (kl_cells (kl_cells kl_nil)))) hnd ?pure ?cells fun H0 g hf_ hp => ?_
  case pure => exact fun H _ => (show Go.AM.Pure _ from .v _).inH
  case cells => exact (inb_st (ic_cells (ci_cons (.inl (.inl (.sl _ _ (pures_map (fun x => (pl_cons (.v _) (pl_cons (.v _) (pl_cons (.v _) (pl_cons (.v _) pl_nil))))))))) (ci_cons (.inl (.inl (.v _))) ci_nil)) (ic_cells (ci_cons (.inl (.inl (.v _))) ci_nil) (ic_cells (ci_cons (.inl (.inl (.v _))) ci_nil) (ic_cells (ci_cons (.inl (.inl (.sl _ _ (pures_map (fun x => (pl_cons (.v _) pl_nil)))))) ci_nil) ic_nil)))) inb_nil)
  rw [frame0_of]
  change wpA _ _ _ _ (Fr.of [(0, .sl .no 1 (a0.map cI)), (1, .ptr p1 0), (2, .ptr p2 0), (3, .ptr p3 0), (4, .ptr p4 0)]) H0 g
  have hS := St.startH (L := [(p1, .cells [.sl .no 4 (a1.Clauses.map Clause.cells), .v (.int .i64 a1.Loan)]), (p2, .cells [.v (.int .i64 a2)]), (p3, .cells [.v (.int .i64 st.1)]), (p4, .cells [.sl .no 1 (st.2.map cI)])]) hf_ hnd hp
  replace hS : St (fun i => i < g ∧ i ∉ ids [(p1, .cells [.sl .no 4 (a1.Clauses.map Clause.cells), .v (.int .i64 a1.Loan)]), (p2, .cells [.v (.int .i64 a2)]), (p3, .cells [.v (.int .i64 st.1)]), (p4, .cells [.sl .no 1 (st.2.map cI)])]) H0 [(p1, .cells [.sl .no 4 (a1.Clauses.map Clause.cells), .v (.int .i64 a1.Loan)]), (p2, .cells [.v (.int .i64 a2)]), (p3, .cells [.v (.int .i64 st.1)]), (p4, .cells [.sl .no 1 (st.2.map cI)])] H0 g := hS
  refine r_seq ?_
  refine r_region (n := 1) rfl ?_
  refine o_assign (v := .v (.bool false)) (by decide) rfl ?_
  refine run_nil ?_
  refine w_next [(0, .sl .no 1 (a0.map cI)), (1, .ptr p1 0), (2, .ptr p2 0), (3, .ptr p3 0), (4, .ptr p4 0)] (.cons (.refl _) (.cons (.refl _) (.cons (.refl _) (.cons (.refl _) (.cons (.refl _) .nil))))) ?_
  refine r_seq ?_
  refine r_region (n := 1) rfl ?_
  refine o_assign (v := .sl .nil 0 []) (by decide) rfl ?_
  refine run_nil ?_
  refine w_own [(0, .sl .no 1 (a0.map cI)), (1, .ptr p1 0), (2, .ptr p2 0), (3, .ptr p3 0), (4, .ptr p4 0), (7, .sl (.id (g + 1 + 1)) 4 (([] : List Clause).map Clause.cells))] 7 4 39 hS (by omega) (by decide) rfl (.cons (.refl _) (.cons (.refl _) (.cons (.refl _) (.cons (.refl _) (.cons (.refl _) (.cons (.refl _) .nil)))))) fun H hS => ?_
  refine w_join (J := (List Clause)) (fun j => [(0, .sl .no 1 (a0.map cI)), (1, .ptr p1 0), (2, .ptr p2 0), (3, .ptr p3 0), (4, .ptr p4 0), (7, .sl (.id (g + 1 + 1)) 4 (j.map Clause.cells))]) (fun j H' g' => St (fun i => i < g ∧ i ∉ ids [(p1, .cells [.sl .no 4 (a1.Clauses.map Clause.cells), .v (.int .i64 a1.Loan)]), (p2, .cells [.v (.int .i64 a2)]), (p3, .cells [.v (.int .i64 st.1)]), (p4, .cells [.sl .no 1 (st.2.map cI)])]) H0 [(g + 1 + 1, .row 39 j.length), (p1, .cells [.sl .no 4 (a1.Clauses.map Clause.cells), .v (.int .i64 a1.Loan)]), (p2, .cells [.v (.int .i64 a2)]), (p3, .cells [.v (.int .i64 st.1)]), (p4, .cells [.sl .no 1 (st.2.map cI)])] H' g' ∧ shares_Best_c1_j1 n a0 st a1 a2 j = some r) ?_ ?_
  · rintro v1 H g1 ⟨hS, hM⟩
    change wpA _ _ _ _ (Fr.of [(0, .sl .no 1 (a0.map cI)), (1, .ptr p1 0), (2, .ptr p2 0), (3, .ptr p3 0), (4, .ptr p4 0), (7, .sl (.id (g + 1 + 1)) 4 (v1.map Clause.cells))]) _ _
    replace hS : St (fun i => i < g ∧ i ∉ ids [(p1, .cells [.sl .no 4 (a1.Clauses.map Clause.cells), .v (.int .i64 a1.Loan)]), (p2, .cells [.v (.int .i64 a2)]), (p3, .cells [.v (.int .i64 st.1)]), (p4, .cells [.sl .no 1 (st.2.map cI)])]) H0 [(g + 1 + 1, .row 39 v1.length), (p1, .cells [.sl .no 4 (a1.Clauses.map Clause.cells), .v (.int .i64 a1.Loan)]), (p2, .cells [.v (.int .i64 a2)]), (p3, .cells [.v (.int .i64 st.1)]), (p4, .cells [.sl .no 1 (st.2.map cI)])] H g1 := hS
    replace hM : shares_Best_c1_j1 n a0 st a1 a2 v1 = some r := hM
    refine w_join (J := Int × (List Int)) (fun j => []) (fun j H' g' => St (fun i => i < g ∧ i ∉ ids [(p1, .cells [.sl .no 4 (a1.Clauses.map Clause.cells), .v (.int .i64 a1.Loan)]), (p2, .cells [.v (.int .i64 a2)]), (p3, .cells [.v (.int .i64 st.1)]), (p4, .cells [.sl .no 1 (st.2.map cI)])]) H0 [(p1, .cells [.sl .no 4 (a1.Clauses.map Clause.cells), .v (.int .i64 a1.Loan)]), (p2, .cells [.v (.int .i64 a2)]), (p3, .cells [.v (.int .i64 j.1)]), (p4, .cells [.sl .no 1 (j.2.map cI)])] H' g' ∧ shares_Best_c1_j2 j.1 j.2 = some r) ?_ ?_
    · rintro ⟨v2, v3⟩ H g2 ⟨hS, hM⟩
      change wpA _ _ _ _ (Fr.of []) _ _
      replace hS : St (fun i => i < g ∧ i ∉ ids [(p1, .cells [.sl .no 4 (a1.Clauses.map Clause.cells), .v (.int .i64 a1.Loan)]), (p2, .cells [.v (.int .i64 a2)]), (p3, .cells [.v (.int .i64 st.1)]), (p4, .cells [.sl .no 1 (st.2.map cI)])]) H0 [(p1, .cells [.sl .no 4 (a1.Clauses.map Clause.cells), .v (.int .i64 a1.Loan)]), (p2, .cells [.v (.int .i64 a2)]), (p3, .cells [.v (.int .i64 v2)]), (p4, .cells [.sl .no 1 (v3.map cI)])] H g2 := hS
      replace hM : shares_Best_c1_j2 v2 v3 = some r := hM
      refine r_seq ?_
      refine r_region (n := 1) rfl ?_
      refine o_assign (v := .v (.bool true)) (by decide) rfl ?_
      refine run_nil ?_
      refine w_next [(6, .v (.bool true))] (.cons (.refl _) .nil) ?_
      refine r_ret ?_
      refine w_endS (x := .v (.bool true)) (f := fun r => .v (.bool r.1)) (fd := fun r => [(p1, .cells [.sl .no 4 (a1.Clauses.map Clause.cells), .v (.int .i64 a1.Loan)]), (p2, .cells [.v (.int .i64 a2)]), (p3, .cells [.v (.int .i64 r.2.1)]), (p4, .cells [.sl .no 1 (r.2.2.map cI)])]) (.inr rfl) ?_ (.refl _) (Option.some.inj hM) hS 0 rfl
      exact (res_one (res_tmp (x := .v (.bool true)) rfl))
    · refine r_seq ?_
      refine r_region (n := 6) rfl ?_
      refine o_move (v := .sl (.id (g + 1 + 1)) 4 (v1.map Clause.cells)) (by decide) rfl ?_
      refine o_fieldP (by decide) ty_fo24_1 rfl ?_
      refine o_load (v := .v (.int .i64 a1.Loan)) 1 hS (by decide) rfl rfl .no (part_one ty_agg3 ty_sc3 rfl) ?_
      refine o_load (v := .v (.int .i64 a2)) 2 hS (by decide) rfl rfl .no (part_one ty_agg3 ty_sc3 rfl) ?_
      obtain ⟨r4, hr4, hM⟩ := bindE hM
      refine o_call (bs := [.sl (.id (g + 1 + 1)) 4 (v1.map Clause.cells), .v (.int .i64 a1.Loan), .v (.int .i64 a2)]) (by decide) rfl rfl ((W_shares_owners hr4).le (.cons (.sl _ _ _) (.cons (.refl _) (.cons (.refl _) .nil)))) ?_
      refine o_assign (v := .v (.int .i64 r4)) (by decide) rfl ?_
      refine run_nil ?_
      replace hS := hS.keep (L' := [(p1, .cells [.sl .no 4 (a1.Clauses.map Clause.cells), .v (.int .i64 a1.Loan)]), (p2, .cells [.v (.int .i64 a2)]), (p3, .cells [.v (.int .i64 st.1)]), (p4, .cells [.sl .no 1 (st.2.map cI)])]) [false, true, true, true, true] rfl
      refine w_next [(0, .sl .no 1 (a0.map cI)), (3, .ptr p3 0), (4, .ptr p4 0), (10, .v (.int .i64 r4))] (.cons (.refl _) (.cons (.refl _) (.cons (.refl _) (.cons (.refl _) .nil)))) ?_
      refine r_seq ?_
      refine r_region (n := 3) rfl ?_
      refine o_move (v := .v (.int .i64 r4)) (by decide) rfl ?_
      refine o_load (v := .v (.int .i64 st.1)) 2 hS (by decide) rfl rfl .no (part_one ty_agg3 ty_sc3 rfl) ?_
      refine o_int (v := .v (.bool (decide (r4 > st.1)))) (by decide) rfl rfl rfl ?_
      refine run_nil ?_
      refine w_next [(0, .sl .no 1 (a0.map cI)), (3, .ptr p3 0), (4, .ptr p4 0), (10, .v (.int .i64 r4)), (33, .v (.bool (decide (r4 > st.1))))] (.cons (.refl _) (.cons (.refl _) (.cons (.refl _) (.cons (.refl _) (.cons (.refl _) .nil))))) ?_
      rcases Bool.eq_false_or_eq_true (decide (r4 > st.1)) with hb5 | hb5
      · replace hM := ifT hM hb5
        refine w_condT (e := (decide (r4 > st.1))) rfl hb5 ?_
        refine r_region (n := 4) rfl ?_
        refine o_move (v := .sl .no 1 (a0.map cI)) (by decide) rfl ?_
        refine o_move (v := .v (.int .i64 r4)) (by decide) rfl ?_
        refine o_store (v := .sl .no 1 (a0.map cI)) (ns := [.sl .no 1 (a0.map cI)]) (L' := [(p1, .cells [.sl .no 4 (a1.Clauses.map Clause.cells), .v (.int .i64 a1.Loan)]), (p2, .cells [.v (.int .i64 a2)]), (p3, .cells [.v (.int .i64 st.1)]), (p4, .cells [.sl .no 1 (a0.map cI)])]) 3 hS rfl rfl .no rfl rfl ty_var28 (Nat.le_of_ble_eq_true rfl) rfl fun H hS => ?_
        refine o_store (v := .v (.int .i64 r4)) (ns := [.v (.int .i64 r4)]) (L' := [(p1, .cells [.sl .no 4 (a1.Clauses.map Clause.cells), .v (.int .i64 a1.Loan)]), (p2, .cells [.v (.int .i64 a2)]), (p3, .cells [.v (.int .i64 r4)]), (p4, .cells [.sl .no 1 (a0.map cI)])]) 2 hS rfl rfl .no rfl rfl ty_var3 (Nat.le_of_ble_eq_true rfl) rfl fun H hS => ?_
        refine run_nil ?_
        exact w_goto (r4, a0) .nil ⟨(hS.keep [true, true, true, true] rfl).up (by omega), hM⟩
      · replace hM := ifF hM hb5
        refine w_condF (e := (decide (r4 > st.1))) rfl hb5 ?_
        refine r_skip ?_
        exact w_goto (st.1, st.2) .nil ⟨(hS.keep [true, true, true, true] rfl).up (by omega), hM⟩
  · refine r_seq ?_
    refine r_region (n := 3) rfl ?_
    refine o_move (v := .sl .no 1 (a0.map cI)) (by decide) rfl ?_
    refine o_len (n := a0.length) (by decide) rfl (List.length_map _) ty_isl28 ?_
    refine o_move (v := .v (.int .i64 0)) (by decide) rfl ?_
    refine run_nil ?_
    refine w_next [(0, .sl .no 1 (a0.map cI)), (1, .ptr p1 0), (2, .ptr p2 0), (3, .ptr p3 0), (4, .ptr p4 0), (7, .sl (.id (g + 1 + 1)) 4 (([] : List Clause).map Clause.cells)), (11, .sl .no 1 (a0.map cI)), (12, .v (.int .i64 (a0.length : Int))), (13, .v (.int .i64 0))] (.cons (.refl _) (.cons (.refl _) (.cons (.refl _) (.cons (.refl _) (.cons (.refl _) (.cons (.refl _) (.cons (.refl _) (.cons (.refl _) (.cons (.refl _) .nil))))))))) ?_
    refine r_block ?_
    refine w_loop (V := (List Clause) × Int) (fun v => [(0, .sl .no 1 (a0.map cI)), (1, .ptr p1 0), (2, .ptr p2 0), (3, .ptr p3 0), (4, .ptr p4 0), (7, .sl (.id (g + 1 + 1)) 4 (v.1.map Clause.cells)), (11, .sl .no 1 (a0.map cI)), (12, .v (.int .i64 (a0.length : Int))), (13, .v (.int .i64 v.2))]) (fun v m3 H' g' => St (fun i => i < g ∧ i ∉ ids [(p1, .cells [.sl .no 4 (a1.Clauses.map Clause.cells), .v (.int .i64 a1.Loan)]), (p2, .cells [.v (.int .i64 a2)]), (p3, .cells [.v (.int .i64 st.1)]), (p4, .cells [.sl .no 1 (st.2.map cI)])]) H0 [(g + 1 + 1, .row 39 v.1.length), (p1, .cells [.sl .no 4 (a1.Clauses.map Clause.cells), .v (.int .i64 a1.Loan)]), (p2, .cells [.v (.int .i64 a2)]), (p3, .cells [.v (.int .i64 st.1)]), (p4, .cells [.sl .no 1 (st.2.map cI)])] H' g' ∧ shares_Best_c1_l1 n a0 st a1 a2 m3 v.1 v.2 = some r) (n := n) (([] : List Clause), 0) (.cons (.refl _) (.cons (.refl _) (.cons (.refl _) (.cons (.refl _) (.cons (.refl _) (.cons (.refl _) (.cons (.refl _) (.cons (.refl _) (.cons (.refl _) .nil))))))))) ⟨(hS.keep [true, true, true, true, true] rfl).up (by omega), hM⟩ ?_
    rintro ⟨v6, v7⟩ m3 H g3 ⟨hS, hM⟩
    obtain _ | m3 := m3
    · exact nomatch (show none = some _ from hM)
    change wpA _ _ _ _ (Fr.of [(0, .sl .no 1 (a0.map cI)), (1, .ptr p1 0), (2, .ptr p2 0), (3, .ptr p3 0), (4, .ptr p4 0), (7, .sl (.id (g + 1 + 1)) 4 (v6.map Clause.cells)), (11, .sl .no 1 (a0.map cI)), (12, .v (.int .i64 (a0.length : Int))), (13, .v (.int .i64 v7))]) _ _
    replace hS : St (fun i => i < g ∧ i ∉ ids [(p1, .cells [.sl .no 4 (a1.Clauses.map Clause.cells), .v (.int .i64 a1.Loan)]), (p2, .cells [.v (.int .i64 a2)]), (p3, .cells [.v (.int .i64 st.1)]), (p4, .cells [.sl .no 1 (st.2.map cI)])]) H0 [(g + 1 + 1, .row 39 v6.length), (p1, .cells [.sl .no 4 (a1.Clauses.map Clause.cells), .v (.int .i64 a1.Loan)]), (p2, .cells [.v (.int .i64 a2)]), (p3, .cells [.v (.int .i64 st.1)]), (p4, .cells [.sl .no 1 (st.2.map cI)])] H g3 := hS
    replace hM : shares_Best_c1_l1_b n a0 st a1 a2 (shares_Best_c1_l1 n a0 st a1 a2 m3) v6 v7 = some r := hM
    refine r_seq ?_
    refine r_region (n := 1) rfl ?_
    refine o_int (v := .v (.bool (decide (v7 < (a0.length : Int))))) (by decide) rfl rfl rfl ?_
    refine run_nil ?_
    refine w_next [(0, .sl .no 1 (a0.map cI)), (1, .ptr p1 0), (2, .ptr p2 0), (3, .ptr p3 0), (4, .ptr p4 0), (7, .sl (.id (g + 1 + 1)) 4 (v6.map Clause.cells)), (11, .sl .no 1 (a0.map cI)), (12, .v (.int .i64 (a0.length : Int))), (13, .v (.int .i64 v7)), (14, .v (.bool (decide (v7 < (a0.length : Int)))))] (.cons (.refl _) (.cons (.refl _) (.cons (.refl _) (.cons (.refl _) (.cons (.refl _) (.cons (.refl _) (.cons (.refl _) (.cons (.refl _) (.cons (.refl _) (.cons (.refl _) .nil)))))))))) ?_
    refine r_seq ?_
    rcases Bool.eq_false_or_eq_true (decide (v7 < (a0.length : Int))) with hb8 | hb8
    · replace hM := ifT hM hb8
      refine w_condT (e := (decide (v7 < (a0.length : Int)))) rfl hb8 ?_
      refine r_skip ?_
      refine w_next [(0, .sl .no 1 (a0.map cI)), (1, .ptr p1 0), (2, .ptr p2 0), (3, .ptr p3 0), (4, .ptr p4 0), (7, .sl (.id (g + 1 + 1)) 4 (v6.map Clause.cells)), (11, .sl .no 1 (a0.map cI)), (12, .v (.int .i64 (a0.length : Int))), (13, .v (.int .i64 v7))] (.cons (.refl _) (.cons (.refl _) (.cons (.refl _) (.cons (.refl _) (.cons (.refl _) (.cons (.refl _) (.cons (.refl _) (.cons (.refl _) (.cons (.refl _) .nil))))))))) ?_
      refine r_seq ?_
      refine r_block ?_
      refine r_seq ?_
      refine r_region (n := 3) rfl ?_
      obtain ⟨x9, hx9, hM⟩ := bindE hM
      refine o_index (xs := a0) (f := cI) (z := v7) (u := x9) (by decide) rfl rfl ty_es28 hx9 ?_
      refine o_loadE (v := .v (.int .i64 x9)) (by decide) rfl (part_one ty_agg3 ty_sc3 rfl) ?_
      refine o_assign (v := .v (.int .i64 x9)) (by decide) rfl ?_
      refine run_nil ?_
      refine w_next [(0, .sl .no 1 (a0.map cI)), (1, .ptr p1 0), (2, .ptr p2 0), (3, .ptr p3 0), (4, .ptr p4 0), (7, .sl (.id (g + 1 + 1)) 4 (v6.map Clause.cells)), (9, .v (.int .i64 x9)), (11, .sl .no 1 (a0.map cI)), (12, .v (.int .i64 (a0.length : Int))), (13, .v (.int .i64 v7))] (.cons (.refl _) (.cons (.refl _) (.cons (.refl _) (.cons (.refl _) (.cons (.refl _) (.cons (.refl _) (.cons (.refl _) (.cons (.refl _) (.cons (.refl _) (.cons (.refl _) .nil)))))))))) ?_
      refine r_region (n := 9) rfl ?_
      refine o_move (v := .sl (.id (g + 1 + 1)) 4 (v6.map Clause.cells)) (by decide) rfl ?_
      refine o_fieldP (by decide) ty_fo24_0 rfl ?_
      refine o_load (v := .sl .no 4 (a1.Clauses.map Clause.cells)) 1 hS (by decide) rfl rfl .no (part_one ty_agg22 ty_sc22 rfl) ?_
      refine o_move (v := .v (.int .i64 x9)) (by decide) rfl ?_
      obtain ⟨x10, hx10, hM⟩ := bindE hM
      refine o_index (xs := a1.Clauses) (f := Clause.cells) (z := x9) (u := x10) (by decide) rfl rfl ty_es22 hx10 ?_
      refine o_loadE (v := .agg [.v (.int .i64 x10.Kind), .v (.int .i64 x10.Cents), .v (.int .i64 x10.Part), .v (.int .i64 x10.More)]) (by decide) rfl (part_agg ty_agg39 (Nat.le_of_ble_eq_true rfl) rfl) ?_
      refine o_buildSlice (es := [[.v (.int .i64 x10.Kind), .v (.int .i64 x10.Cents), .v (.int .i64 x10.Part), .v (.int .i64 x10.More)]]) hS (by decide) ty_es22 ty_el22 rfl ty_ef22 rfl (by decide) (by omega) fun H hS => ?_
      obtain ⟨l11, hl11, hM⟩ := bindE hM
      refine o_append (xs := v6) (ys := ([x10] : List Clause)) (zs := l11) (f := Clause.cells) (L' := [(g3 + 1 + 3 + 6, .row 39 1), (g + 1 + 1, .row 39 l11.length), (p1, .cells [.sl .no 4 (a1.Clauses.map Clause.cells), .v (.int .i64 a1.Loan)]), (p2, .cells [.v (.int .i64 a2)]), (p3, .cells [.v (.int .i64 st.1)]), (p4, .cells [.sl .no 1 (st.2.map cI)])]) 1 hS (by decide) rfl rfl rfl rfl .no ty_es22 ty_el22 ty_ef22 hl11 rfl fun H hS => ?_
      refine o_assign (v := .sl (.id (g + 1 + 1)) 4 (l11.map Clause.cells)) (by decide) rfl ?_
      refine run_nil ?_
      refine r_blk_normal ?_
      replace hS := hS.keep (L' := [(g + 1 + 1, .row 39 l11.length), (p1, .cells [.sl .no 4 (a1.Clauses.map Clause.cells), .v (.int .i64 a1.Loan)]), (p2, .cells [.v (.int .i64 a2)]), (p3, .cells [.v (.int .i64 st.1)]), (p4, .cells [.sl .no 1 (st.2.map cI)])]) [false, true, true, true, true, true] rfl
      refine w_next [(0, .sl .no 1 (a0.map cI)), (1, .ptr p1 0), (2, .ptr p2 0), (3, .ptr p3 0), (4, .ptr p4 0), (7, .sl (.id (g + 1 + 1)) 4 (l11.map Clause.cells)), (11, .sl .no 1 (a0.map cI)), (12, .v (.int .i64 (a0.length : Int))), (13, .v (.int .i64 v7))] (.cons (.refl _) (.cons (.refl _) (.cons (.refl _) (.cons (.refl _) (.cons (.refl _) (.cons (.refl _) (.cons (.refl _) (.cons (.refl _) (.cons (.refl _) .nil))))))))) ?_
      refine r_region (n := 2) rfl ?_
      refine o_int (v := .v (.int .i64 (w64 (v7 + 1)))) (by decide) rfl rfl rfl ?_
      refine o_move (v := .v (.int .i64 (w64 (v7 + 1)))) (by decide) rfl ?_
      refine run_nil ?_
      exact w_round (l11, w64 (v7 + 1)) (Nat.lt_succ_self _) (.cons (.refl _) (.cons (.refl _) (.cons (.refl _) (.cons (.refl _) (.cons (.refl _) (.cons (.refl _) (.cons (.refl _) (.cons (.refl _) (.cons (.refl _) .nil))))))))) ⟨(hS.keep [true, true, true, true, true] rfl).up (by omega), hM⟩
    · replace hM := ifF hM hb8
      refine w_condF (e := (decide (v7 < (a0.length : Int)))) rfl hb8 ?_
      refine r_exit ?_
      refine r_then_exit ?_
      refine w_round_exit ?_
      refine r_blk_exit ?_
      exact w_goto v6 (.cons (.refl _) (.cons (.refl _) (.cons (.refl _) (.cons (.refl _) (.cons (.refl _) (.cons (.refl _) .nil)))))) ⟨(hS.keep [true, true, true, true, true] rfl).up (by omega), hM⟩
theorem W_shares_Best {n : Nat} {a0 : Share} {a1 : Int} {r : (List Int) × Int} (hM : shares_Best n a0 a1 = some r) : PureSat Try.prog 17 [.agg [.sl .no 4 (a0.Clauses.map Clause.cells), .v (.int .i64 a0.Loan)], .v (.int .i64 a1)] (.tup [.sl .no 1 (r.1.map cI), .v (.int .i64 r.2)]) := by
  refine pure_of_wp mixed Try.func17 rfl (by decide) Try.ntmps17 (by simp) ?pure fun H0 g hf => ?_
  case pure => exact .tup _ (pl_cons (.sl _ _ (pures_map (fun x => (pl_cons (.v _) pl_nil)))) (pl_cons (.v _) pl_nil))
  rw [frame0_of]
  change wpA _ _ _ _ (Fr.of [(0, .agg [.sl .no 4 (a0.Clauses.map Clause.cells), .v (.int .i64 a0.Loan)]), (1, .v (.int .i64 a1))]) H0 g
  have hS := St.start hf
  refine r_seq ?_
  refine r_region (n := 4) rfl ?_
  refine o_box (v := .agg [.sl .no 4 (a0.Clauses.map Clause.cells), .v (.int .i64 a0.Loan)]) (cs := [.sl .no 4 (a0.Clauses.map Clause.cells), .v (.int .i64 a0.Loan)]) hS (by decide) rfl rfl (by omega) fun H hS => ?_
  refine o_box (v := .v (.int .i64 a1)) (cs := [.v (.int .i64 a1)]) hS (by decide) rfl rfl (by omega) fun H hS => ?_
  refine o_assign (v := .sl .nil 0 []) (by decide) rfl ?_
  refine o_assign (v := .v (.int .i64 0)) (by decide) rfl ?_
  refine run_nil ?_
  refine w_next [(2, .ptr (g + 0) 0), (3, .ptr (g + 1) 0)] (.cons (.refl _) (.cons (.refl _) .nil)) ?_
  refine r_seq ?_
  refine r_seq ?_
  have hS0 := hS
  refine r_draw (n := 5) rfl (by kernel_rfl) ?_
  refine o_load (v := .agg [.sl .no 4 (a0.Clauses.map Clause.cells), .v (.int .i64 a0.Loan)]) 1 hS (by decide) rfl rfl (.st hS0 1 rfl (by omega)) (part_agg ty_agg24 (Nat.le_of_ble_eq_true rfl) rfl) ?_
  refine o_load (v := .v (.int .i64 a1)) 0 hS (by decide) rfl rfl (.st hS0 0 rfl (by omega)) (part_one ty_agg3 ty_sc3 rfl) ?_
  obtain ⟨r1, hr1, hM⟩ := bindE hM
  refine o_call (bs := [.v (.int .i64 a1)]) (by decide) rfl rfl ((W_shares_isCents hr1).le (.cons (.refl _) .nil)) ?_
  obtain ⟨r2, hr2, hM⟩ := bindE hM
  refine o_call (bs := [.agg [.sl .no 4 (a0.Clauses.map Clause.cells), .v (.int .i64 a0.Loan)], .v (.bool r1)]) (by decide) rfl rfl ((W_shares_ask hr2).le (.cons (.refl _) (.cons (.refl _) .nil))) ?_
  refine o_assign (v := .v (.int .i64 r2)) (by decide) rfl ?_
  refine run_nil ?_
  refine w_next [(2, .ptr (g + 0) 0), (3, .ptr (g + 1) 0), (6, .v (.int .i64 r2))] (.cons (.refl _) (.cons (.refl _) (.cons (.refl _) .nil))) ?_
  refine r_seq ?_
  refine r_region (n := 2) rfl ?_
  refine o_move (v := .v (.int .i64 r2)) (by decide) rfl ?_
  refine o_int (v := .v (.bool (r2 != 0))) (by decide) rfl rfl rfl ?_
  refine run_nil ?_
  refine w_next [(2, .ptr (g + 0) 0), (3, .ptr (g + 1) 0), (6, .v (.int .i64 r2)), (14, .v (.bool (r2 != 0)))] (.cons (.refl _) (.cons (.refl _) (.cons (.refl _) (.cons (.refl _) .nil)))) ?_
  rcases Bool.eq_false_or_eq_true (r2 != 0) with hb3 | hb3
  · replace hM := ifT hM hb3
    refine w_condT (e := (r2 != 0)) rfl hb3 ?_
    refine r_seq ?_
    refine r_region (n := 3) rfl ?_
    refine o_move (v := .v (.int .i64 r2)) (by decide) rfl ?_
    refine o_assign (v := .sl .nil 0 []) (by decide) rfl ?_
    refine o_assign (v := .v (.int .i64 r2)) (by decide) rfl ?_
    refine run_nil ?_
    replace hS := hS.keep (L' := []) [false, false] rfl
    refine w_next [(4, .sl .nil 0 []), (5, .v (.int .i64 r2))] (.cons (.refl _) (.cons (.refl _) .nil)) ?_
    refine r_ret ?_
    refine r_then_ret ?_
    refine w_end (x := .tup [.sl .nil 0 [], .v (.int .i64 r2)]) (f := fun r => .tup [.sl .no 1 (r.1.map cI), .v (.int .i64 r.2)]) (.inr rfl) ?_ (.tupL (.cons (.sl0 .nil 1 0) (.cons (.refl _) .nil))) (Option.some.inj hM) hS
    exact (res_two (res_tmp (x := .sl .nil 0 []) rfl) (res_tmp (x := .v (.int .i64 r2)) rfl))
  · replace hM := ifF hM hb3
    refine w_condF (e := (r2 != 0)) rfl hb3 ?_
    refine r_skip ?_
    refine w_next [(2, .ptr (g + 0) 0), (3, .ptr (g + 1) 0)] (.cons (.refl _) (.cons (.refl _) .nil)) ?_
    refine r_seq ?_
    refine r_region (n := 1) rfl ?_
    refine o_alloc hS (by decide) ty_zero28 (by omega) fun H hS => ?_
    refine run_nil ?_
    refine w_weakC (cs' := [.sl .no 1 (([] : List Int).map cI)]) (L' := [(g + 4 + 5 + 2 + 0, .cells [.sl .no 1 (([] : List Int).map cI)]), (g + 1, .cells [.v (.int .i64 a1)]), (g + 0, .cells [.sl .no 4 (a0.Clauses.map Clause.cells), .v (.int .i64 a0.Loan)])]) 0 hS rfl (.cons (.sl0 .nil 1 0) .nil) rfl fun H hS => ?_
    refine w_next [(2, .ptr (g + 0) 0), (3, .ptr (g + 1) 0), (7, .ptr (g + 4 + 5 + 2 + 0) 0)] (.cons (.refl _) (.cons (.refl _) (.cons (.refl _) .nil))) ?_
    refine r_seq ?_
    refine r_region (n := 2) rfl ?_
    refine o_alloc hS (by decide) ty_zero3 (by omega) fun H hS => ?_
    refine o_store (v := .v (.int .i64 (-1))) (ns := [.v (.int .i64 (-1))]) (L' := [(g + 4 + 5 + 2 + 1 + 0, .cells [.v (.int .i64 (-1))]), (g + 4 + 5 + 2 + 0, .cells [.sl .no 1 (([] : List Int).map cI)]), (g + 1, .cells [.v (.int .i64 a1)]), (g + 0, .cells [.sl .no 4 (a0.Clauses.map Clause.cells), .v (.int .i64 a0.Loan)])]) 0 hS rfl rfl .no rfl rfl ty_var3 (Nat.le_of_ble_eq_true rfl) rfl fun H hS => ?_
    refine run_nil ?_
    refine w_next [(2, .ptr (g + 0) 0), (3, .ptr (g + 1) 0), (7, .ptr (g + 4 + 5 + 2 + 0) 0), (8, .ptr (g + 4 + 5 + 2 + 1 + 0) 0)] (.cons (.refl _) (.cons (.refl _) (.cons (.refl _) (.cons (.refl _) .nil)))) ?_
    refine r_seq ?_
    refine r_region (n := 5) rfl ?_
    refine o_fieldP (by decide) ty_fo24_0 rfl ?_
    refine o_load (v := .sl .no 4 (a0.Clauses.map Clause.cells)) 3 hS (by decide) rfl rfl .no (part_one ty_agg22 ty_sc22 rfl) ?_
    refine o_len (n := a0.Clauses.length) (by decide) rfl (List.length_map _) ty_isl22 ?_
    refine o_makeFunc (first := []) (cap := [.ptr (g + 0) 0, .ptr (g + 1) 0, .ptr (g + 4 + 5 + 2 + 1 + 0) 0, .ptr (g + 4 + 5 + 2 + 0) 0]) (by decide) rfl rfl ?_
    obtain ⟨r4, hr4, hM⟩ := bindE hM
    have hndr4 := hS.nd_at (ns := [3, 2, 0, 1]) (M := [(g + 0, .cells [.sl .no 4 (a0.Clauses.map Clause.cells), .v (.int .i64 a0.Loan)]), (g + 1, .cells [.v (.int .i64 a1)]), (g + 4 + 5 + 2 + 1 + 0, .cells [.v (.int .i64 (-1))]), (g + 4 + 5 + 2 + 0, .cells [.sl .no 1 (([] : List Int).map cI)])]) (M' := [(g + 0, .cells [.sl .no 4 (a0.Clauses.map Clause.cells), .v (.int .i64 a0.Loan)]), (g + 1, .cells [.v (.int .i64 a1)]), (g + 4 + 5 + 2 + 1 + 0, .cells [.v (.int .i64 r4.2.1)]), (g + 4 + 5 + 2 + 0, .cells [.sl .no 1 (r4.2.2.map cI)])]) (.cons rfl (.cons rfl (.cons rfl (.cons rfl .nil)))) (by decide)
    have hncr4 := hS.nd_at (ns := [3, 2, 0, 1]) (M := [(g + 0, .cells [.sl .no 4 (a0.Clauses.map Clause.cells), .v (.int .i64 a0.Loan)]), (g + 1, .cells [.v (.int .i64 a1)]), (g + 4 + 5 + 2 + 1 + 0, .cells [.v (.int .i64 (-1))]), (g + 4 + 5 + 2 + 0, .cells [.sl .no 1 (([] : List Int).map cI)])]) (M' := [(g + 0, .cells [.sl .no 4 (a0.Clauses.map Clause.cells), .v (.int .i64 a0.Loan)]), (g + 1, .cells [.v (.int .i64 a1)]), (g + 4 + 5 + 2 + 1 + 0, .cells [.v (.int .i64 r4.2.1)]), (g + 4 + 5 + 2 + 0, .cells [.sl .no 1 (r4.2.2.map cI)])]) (.cons rfl (.cons rfl (.cons rfl (.cons rfl .nil)))) (by decide)
    refine o_hsat (bs := [.v (.int .i64 (a0.Clauses.length : Int)), .sl .nil 0 [], .fn (.func 51) [] [.ptr (g + 0) 0, .ptr (g + 1) 0, .ptr (g + 4 + 5 + 2 + 1 + 0) 0, .ptr (g + 4 + 5 + 2 + 0) 0]]) (M := [(g + 0, .cells [.sl .no 4 (a0.Clauses.map Clause.cells), .v (.int .i64 a0.Loan)]), (g + 1, .cells [.v (.int .i64 a1)]), (g + 4 + 5 + 2 + 1 + 0, .cells [.v (.int .i64 (-1))]), (g + 4 + 5 + 2 + 0, .cells [.sl .no 1 (([] : List Int).map cI)])]) (M' := [(g + 0, .cells [.sl .no 4 (a0.Clauses.map Clause.cells), .v (.int .i64 a0.Loan)]), (g + 1, .cells [.v (.int .i64 a1)]), (g + 4 + 5 + 2 + 1 + 0, .cells [.v (.int .i64 r4.2.1)]), (g + 4 + 5 + 2 + 0, .cells [.sl .no 1 (r4.2.2.map cI)])]) (L' := [(g + 4 + 5 + 2 + 1 + 0, .cells [.v (.int .i64 r4.2.1)]), (g + 4 + 5 + 2 + 0, .cells [.sl .no 1 (r4.2.2.map cI)]), (g + 1, .cells [.v (.int .i64 a1)]), (g + 0, .cells [.sl .no 4 (a0.Clauses.map Clause.cells), .v (.int .i64 a0.Loan)])]) [3, 2, 0, 1] (.inl rfl) hS (by decide) rfl rfl ((W_shares_orders (Lo := (fun (s : Int × (List Int)) => [(g + 0, .cells [.sl .no 4 (a0.Clauses.map Clause.cells), .v (.int .i64 a0.Loan)]), (g + 1, .cells [.v (.int .i64 a1)]), (g + 4 + 5 + 2 + 1 + 0, .cells [.v (.int .i64 s.1)]), (g + 4 + 5 + 2 + 0, .cells [.sl .no 1 (s.2.map cI)])]))  (fun _ _ => (kl_cells (kl_cells (kl_cells (kl_cells kl_nil))))) (fun _ => hndr4) (fun s => (inb_st (ic_cells (ci_cons (.inl (.inl (.sl _ _ (pures_map (fun x => (pl_cons (.v _) (pl_cons (.v _) (pl_cons (.v _) (pl_cons (.v _) pl_nil))))))))) (ci_cons (.inl (.inl (.v _))) ci_nil)) (ic_cells (ci_cons (.inl (.inl (.v _))) ci_nil) (ic_cells (ci_cons (.inl (.inl (.v _))) ci_nil) (ic_cells (ci_cons (.inl (.inl (.sl _ _ (pures_map (fun x => (pl_cons (.v _) pl_nil)))))) ci_nil) ic_nil)))) inb_nil)) (aF := (fun (x0 : List Int) s => shares_Best_c1 n x0 a0 a1 s)) (fun s H hH => .fn _ _ _ ai_nil (ai_cons (in_ptr hH 0 rfl) (ai_cons (in_ptr hH 1 rfl) (ai_cons (in_ptr hH 2 rfl) (ai_cons (in_ptr hH 3 rfl) ai_nil))))) rfl (fun h => csat_cap (W_shares_Best_c1 (p1 := g + 0)  (p2 := g + 1)  (p3 := g + 4 + 5 + 2 + 1 + 0)  (p4 := g + 4 + 5 + 2 + 0)  hncr4 h)) hr4).le (.cons (.refl _) (.cons (.sl0 .nil 1 0) (.cons (.refl _) .nil)))) (.cons rfl (.cons rfl (.cons rfl (.cons rfl .nil)))) rfl (by omega) fun H hS => ?_
    refine run_nil ?_
    replace hS := hS.keep (L' := [(g + 4 + 5 + 2 + 0, .cells [.sl .no 1 (r4.2.2.map cI)])]) [false, true, false, false] rfl
    refine w_next [(7, .ptr (g + 4 + 5 + 2 + 0) 0)] (.cons (.refl _) .nil) ?_
    refine r_seq ?_
    refine r_region (n := 3) rfl ?_
    refine o_load (v := .sl .no 1 (r4.2.2.map cI)) 0 hS (by decide) rfl rfl .no (part_one ty_agg28 ty_sc28 rfl) ?_
    refine o_assign (v := .sl .no 1 (r4.2.2.map cI)) (by decide) rfl ?_
    refine o_assign (v := .v (.int .i64 0)) (by decide) rfl ?_
    refine run_nil ?_
    replace hS := hS.keep (L' := []) [false] rfl
    refine w_next [(4, .sl .no 1 (r4.2.2.map cI)), (5, .v (.int .i64 0))] (.cons (.refl _) (.cons (.refl _) .nil)) ?_
    refine r_ret ?_
    refine w_end (x := .tup [.sl .no 1 (r4.2.2.map cI), .v (.int .i64 0)]) (f := fun r => .tup [.sl .no 1 (r.1.map cI), .v (.int .i64 r.2)]) (.inr rfl) ?_ (.refl _) (Option.some.inj hM) hS
    exact (res_two (res_tmp (x := .sl .no 1 (r4.2.2.map cI)) rfl) (res_tmp (x := .v (.int .i64 0)) rfl))
theorem W_shares_Repaid {n : Nat} {a0 : Share} {a1 : Int} {r : Int × Int} (hM : shares_Repaid n a0 a1 = some r) : PureSat Try.prog 19 [.agg [.sl .no 4 (a0.Clauses.map Clause.cells), .v (.int .i64 a0.Loan)], .v (.int .i64 a1)] (.tup [.v (.int .i64 r.1), .v (.int .i64 r.2)]) := by
  refine pure_of_wp mixed Try.func19 rfl (by decide) Try.ntmps19 (by simp) ?pure fun H0 g hf => ?_
  case pure => exact .tup _ (pl_cons (.v _) (pl_cons (.v _) pl_nil))
  rw [frame0_of]
  change wpA _ _ _ _ (Fr.of [(0, .agg [.sl .no 4 (a0.Clauses.map Clause.cells), .v (.int .i64 a0.Loan)]), (1, .v (.int .i64 a1))]) H0 g
  have hS := St.start hf
  refine r_seq ?_
  refine r_region (n := 3) rfl ?_
  refine o_box (v := .agg [.sl .no 4 (a0.Clauses.map Clause.cells), .v (.int .i64 a0.Loan)]) (cs := [.sl .no 4 (a0.Clauses.map Clause.cells), .v (.int .i64 a0.Loan)]) hS (by decide) rfl rfl (by omega) fun H hS => ?_
  refine o_assign (v := .v (.int .i64 0)) (by decide) rfl ?_
  refine o_assign (v := .v (.int .i64 0)) (by decide) rfl ?_
  refine run_nil ?_
  refine w_next [(1, .v (.int .i64 a1)), (2, .ptr (g + 0) 0)] (.cons (.refl _) (.cons (.refl _) .nil)) ?_
  refine r_seq ?_
  refine r_seq ?_
  have hS0 := hS
  refine r_draw (n := 5) rfl (by kernel_rfl) ?_
  refine o_load (v := .agg [.sl .no 4 (a0.Clauses.map Clause.cells), .v (.int .i64 a0.Loan)]) 0 hS (by decide) rfl rfl (.st hS0 0 rfl (by omega)) (part_agg ty_agg24 (Nat.le_of_ble_eq_true rfl) rfl) ?_
  refine o_move (v := .v (.int .i64 a1)) (by decide) rfl ?_
  obtain ⟨r1, hr1, hM⟩ := bindE hM
  refine o_call (bs := [.v (.int .i64 a1)]) (by decide) rfl rfl ((W_shares_isCents hr1).le (.cons (.refl _) .nil)) ?_
  obtain ⟨r2, hr2, hM⟩ := bindE hM
  refine o_call (bs := [.agg [.sl .no 4 (a0.Clauses.map Clause.cells), .v (.int .i64 a0.Loan)], .v (.bool r1)]) (by decide) rfl rfl ((W_shares_ask hr2).le (.cons (.refl _) (.cons (.refl _) .nil))) ?_
  refine o_assign (v := .v (.int .i64 r2)) (by decide) rfl ?_
  refine run_nil ?_
  refine w_next [(1, .v (.int .i64 a1)), (2, .ptr (g + 0) 0), (6, .v (.int .i64 r2))] (.cons (.refl _) (.cons (.refl _) (.cons (.refl _) .nil))) ?_
  refine r_seq ?_
  refine r_region (n := 2) rfl ?_
  refine o_move (v := .v (.int .i64 r2)) (by decide) rfl ?_
  refine o_int (v := .v (.bool (r2 != 0))) (by decide) rfl rfl rfl ?_
  refine run_nil ?_
  refine w_next [(1, .v (.int .i64 a1)), (2, .ptr (g + 0) 0), (6, .v (.int .i64 r2)), (16, .v (.bool (r2 != 0)))] (.cons (.refl _) (.cons (.refl _) (.cons (.refl _) (.cons (.refl _) .nil)))) ?_
  rcases Bool.eq_false_or_eq_true (r2 != 0) with hb3 | hb3
  · replace hM := ifT hM hb3
    refine w_condT (e := (r2 != 0)) rfl hb3 ?_
    refine r_seq ?_
    refine r_region (n := 3) rfl ?_
    refine o_move (v := .v (.int .i64 r2)) (by decide) rfl ?_
    refine o_assign (v := .v (.int .i64 0)) (by decide) rfl ?_
    refine o_assign (v := .v (.int .i64 r2)) (by decide) rfl ?_
    refine run_nil ?_
    replace hS := hS.keep (L' := []) [false] rfl
    refine w_next [(4, .v (.int .i64 0)), (5, .v (.int .i64 r2))] (.cons (.refl _) (.cons (.refl _) .nil)) ?_
    refine r_ret ?_
    refine r_then_ret ?_
    refine w_end (x := .tup [.v (.int .i64 0), .v (.int .i64 r2)]) (f := fun r => .tup [.v (.int .i64 r.1), .v (.int .i64 r.2)]) (.inr rfl) ?_ (.refl _) (Option.some.inj hM) hS
    exact (res_two (res_tmp (x := .v (.int .i64 0)) rfl) (res_tmp (x := .v (.int .i64 r2)) rfl))
  · replace hM := ifF hM hb3
    refine w_condF (e := (r2 != 0)) rfl hb3 ?_
    refine r_skip ?_
    refine w_next [(1, .v (.int .i64 a1)), (2, .ptr (g + 0) 0)] (.cons (.refl _) (.cons (.refl _) .nil)) ?_
    refine r_seq ?_
    refine r_region (n := 3) rfl ?_
    refine o_fieldP (by decide) ty_fo24_1 rfl ?_
    refine o_load (v := .v (.int .i64 a0.Loan)) 0 hS (by decide) rfl rfl .no (part_one ty_agg3 ty_sc3 rfl) ?_
    refine o_assign (v := .v (.int .i64 a0.Loan)) (by decide) rfl ?_
    refine run_nil ?_
    refine w_next [(1, .v (.int .i64 a1)), (2, .ptr (g + 0) 0), (7, .v (.int .i64 a0.Loan))] (.cons (.refl _) (.cons (.refl _) (.cons (.refl _) .nil))) ?_
    refine w_join (J := Unit) (fun j => []) (fun j H' g' => St (· < g) H0 [] H' g' ∧ shares_Repaid_j1 = some r) ?_ ?_
    · rintro _ H g1 ⟨hS, hM⟩
      change wpA _ _ _ _ (Fr.of []) _ _
      replace hS : St (· < g) H0 [] H g1 := hS
      replace hM : shares_Repaid_j1 = some r := hM
      refine r_seq ?_
      refine r_region (n := 2) rfl ?_
      refine o_assign (v := .v (.int .i64 0)) (by decide) rfl ?_
      refine o_assign (v := .v (.int .i64 3)) (by decide) rfl ?_
      refine run_nil ?_
      refine w_next [(4, .v (.int .i64 0)), (5, .v (.int .i64 3))] (.cons (.refl _) (.cons (.refl _) .nil)) ?_
      refine r_ret ?_
      refine w_end (x := .tup [.v (.int .i64 0), .v (.int .i64 3)]) (f := fun r => .tup [.v (.int .i64 r.1), .v (.int .i64 r.2)]) (.inr rfl) ?_ (.refl _) (Option.some.inj hM) hS
      exact (res_two (res_tmp (x := .v (.int .i64 0)) rfl) (res_tmp (x := .v (.int .i64 3)) rfl))
    · refine r_seq ?_
      refine r_region (n := 1) rfl ?_
      refine o_move (v := .v (.int .i64 0)) (by decide) rfl ?_
      refine run_nil ?_
      refine w_next [(1, .v (.int .i64 a1)), (2, .ptr (g + 0) 0), (7, .v (.int .i64 a0.Loan)), (20, .v (.int .i64 0))] (.cons (.refl _) (.cons (.refl _) (.cons (.refl _) (.cons (.refl _) .nil)))) ?_
      refine r_block ?_
      refine w_loop (V := Int × Int) (fun v => [(1, .v (.int .i64 a1)), (2, .ptr (g + 0) 0), (7, .v (.int .i64 v.1)), (20, .v (.int .i64 v.2))]) (fun v m2 H' g' => St (· < g) H0 [(g + 0, .cells [.sl .no 4 (a0.Clauses.map Clause.cells), .v (.int .i64 a0.Loan)])] H' g' ∧ shares_Repaid_l1 n a0 a1 m2 v.1 v.2 = some r) (n := n) (a0.Loan, 0) (.cons (.refl _) (.cons (.refl _) (.cons (.refl _) (.cons (.refl _) .nil)))) ⟨(hS.keep [true] rfl).up (by omega), hM⟩ ?_
      rintro ⟨v4, v5⟩ m2 H g2 ⟨hS, hM⟩
      obtain _ | m2 := m2
      · exact nomatch (show none = some _ from hM)
      change wpA _ _ _ _ (Fr.of [(1, .v (.int .i64 a1)), (2, .ptr (g + 0) 0), (7, .v (.int .i64 v4)), (20, .v (.int .i64 v5))]) _ _
      replace hS : St (· < g) H0 [(g + 0, .cells [.sl .no 4 (a0.Clauses.map Clause.cells), .v (.int .i64 a0.Loan)])] H g2 := hS
      replace hM : shares_Repaid_l1_b n a0 a1 (shares_Repaid_l1 n a0 a1 m2) v4 v5 = some r := hM
      refine r_seq ?_
      refine r_region (n := 1) rfl ?_
      refine o_int (v := .v (.bool (decide (v5 < 1001)))) (by decide) rfl rfl rfl ?_
      refine run_nil ?_
      refine w_next [(1, .v (.int .i64 a1)), (2, .ptr (g + 0) 0), (7, .v (.int .i64 v4)), (20, .v (.int .i64 v5)), (21, .v (.bool (decide (v5 < 1001))))] (.cons (.refl _) (.cons (.refl _) (.cons (.refl _) (.cons (.refl _) (.cons (.refl _) .nil))))) ?_
      refine r_seq ?_
      rcases Bool.eq_false_or_eq_true (decide (v5 < 1001)) with hb6 | hb6
      · replace hM := ifT hM hb6
        refine w_condT (e := (decide (v5 < 1001))) rfl hb6 ?_
        refine r_skip ?_
        refine w_next [(1, .v (.int .i64 a1)), (2, .ptr (g + 0) 0), (7, .v (.int .i64 v4)), (20, .v (.int .i64 v5))] (.cons (.refl _) (.cons (.refl _) (.cons (.refl _) (.cons (.refl _) .nil)))) ?_
        refine r_seq ?_
        refine r_block ?_
        refine r_seq ?_
        refine r_region (n := 2) rfl ?_
        refine o_move (v := .v (.int .i64 v5)) (by decide) rfl ?_
        refine o_assign (v := .v (.int .i64 v5)) (by decide) rfl ?_
        refine run_nil ?_
        refine w_next [(1, .v (.int .i64 a1)), (2, .ptr (g + 0) 0), (7, .v (.int .i64 v4)), (8, .v (.int .i64 v5)), (20, .v (.int .i64 v5))] (.cons (.refl _) (.cons (.refl _) (.cons (.refl _) (.cons (.refl _) (.cons (.refl _) .nil))))) ?_
        refine r_seq ?_
        refine r_seq ?_
        refine r_region (n := 2) rfl ?_
        refine o_move (v := .v (.int .i64 v4)) (by decide) rfl ?_
        refine o_int (v := .v (.bool (v4 == 0))) (by decide) rfl rfl rfl ?_
        refine run_nil ?_
        refine w_next [(1, .v (.int .i64 a1)), (2, .ptr (g + 0) 0), (7, .v (.int .i64 v4)), (8, .v (.int .i64 v5)), (20, .v (.int .i64 v5)), (24, .v (.bool (v4 == 0)))] (.cons (.refl _) (.cons (.refl _) (.cons (.refl _) (.cons (.refl _) (.cons (.refl _) (.cons (.refl _) .nil)))))) ?_
        rcases Bool.eq_false_or_eq_true (v4 == 0) with hb7 | hb7
        · replace hM := ifT hM hb7
          refine w_condT (e := (v4 == 0)) rfl hb7 ?_
          refine r_seq ?_
          refine r_region (n := 3) rfl ?_
          refine o_move (v := .v (.int .i64 v5)) (by decide) rfl ?_
          refine o_assign (v := .v (.int .i64 v5)) (by decide) rfl ?_
          refine o_assign (v := .v (.int .i64 0)) (by decide) rfl ?_
          refine run_nil ?_
          replace hS := hS.keep (L' := []) [false] rfl
          refine w_next [(4, .v (.int .i64 v5)), (5, .v (.int .i64 0))] (.cons (.refl _) (.cons (.refl _) .nil)) ?_
          refine r_ret ?_
          refine r_then_ret ?_
          refine r_blk_ret ?_
          refine r_then_ret ?_
          refine w_round_ret ?_
          refine r_blk_ret ?_
          refine w_goto_ret ?_
          refine w_end (x := .tup [.v (.int .i64 v5), .v (.int .i64 0)]) (f := fun r => .tup [.v (.int .i64 r.1), .v (.int .i64 r.2)]) (.inr rfl) ?_ (.refl _) (Option.some.inj hM) hS
          exact (res_two (res_tmp (x := .v (.int .i64 v5)) rfl) (res_tmp (x := .v (.int .i64 0)) rfl))
        · replace hM := ifF hM hb7
          refine w_condF (e := (v4 == 0)) rfl hb7 ?_
          refine r_skip ?_
          refine w_next [(1, .v (.int .i64 a1)), (2, .ptr (g + 0) 0), (7, .v (.int .i64 v4)), (20, .v (.int .i64 v5))] (.cons (.refl _) (.cons (.refl _) (.cons (.refl _) (.cons (.refl _) .nil)))) ?_
          refine r_seq ?_
          refine r_region (n := 11) rfl ?_
          refine o_fieldP (by decide) ty_fo24_0 rfl ?_
          refine o_load (v := .sl .no 4 (a0.Clauses.map Clause.cells)) 0 hS (by decide) rfl rfl .no (part_one ty_agg22 ty_sc22 rfl) ?_
          refine o_move (v := .v (.int .i64 v4)) (by decide) rfl ?_
          refine o_move (v := .v (.int .i64 a1)) (by decide) rfl ?_
          obtain ⟨r8, hr8, hM⟩ := bindE hM
          refine o_call (bs := [.sl .no 4 (a0.Clauses.map Clause.cells), .v (.int .i64 v4), .v (.int .i64 a1), .v (.int .i64 0)]) (by decide) rfl rfl ((W_shares_settle hr8).le (.cons (.refl _) (.cons (.refl _) (.cons (.refl _) (.cons (.refl _) .nil))))) ?_
          refine o_move (v := .tup [.agg [.v (.int .i64 r8.1.Split.Operator), .v (.int .i64 r8.1.Split.Owner), .v (.int .i64 r8.1.Split.Repaid), .v (.int .i64 r8.1.rest), .v (.int .i64 r8.1.owed)], .sl .no 1 (r8.2.map cI)]) (by decide) rfl ?_
          refine o_extract (v := .agg [.v (.int .i64 r8.1.Split.Operator), .v (.int .i64 r8.1.Split.Owner), .v (.int .i64 r8.1.Split.Repaid), .v (.int .i64 r8.1.rest), .v (.int .i64 r8.1.owed)]) (by decide) rfl rfl ?_
          refine o_extract (v := .sl .no 1 (r8.2.map cI)) (by decide) rfl rfl ?_
          refine o_alloc hS (by decide) ty_zero76 (by omega) fun H hS => ?_
          refine o_store (v := .agg [.v (.int .i64 r8.1.Split.Operator), .v (.int .i64 r8.1.Split.Owner), .v (.int .i64 r8.1.Split.Repaid), .v (.int .i64 r8.1.rest), .v (.int .i64 r8.1.owed)]) (ns := [.v (.int .i64 r8.1.Split.Operator), .v (.int .i64 r8.1.Split.Owner), .v (.int .i64 r8.1.Split.Repaid), .v (.int .i64 r8.1.rest), .v (.int .i64 r8.1.owed)]) (L' := [(g2 + 1 + 2 + 2 + 8, .cells [.v (.int .i64 r8.1.Split.Operator), .v (.int .i64 r8.1.Split.Owner), .v (.int .i64 r8.1.Split.Repaid), .v (.int .i64 r8.1.rest), .v (.int .i64 r8.1.owed)]), (g + 0, .cells [.sl .no 4 (a0.Clauses.map Clause.cells), .v (.int .i64 a0.Loan)])]) 0 hS rfl rfl .no rfl rfl ty_var76 (Nat.le_of_ble_eq_true rfl) rfl fun H hS => ?_
          refine o_assign (v := .sl .no 1 (r8.2.map cI)) (by decide) rfl ?_
          refine run_nil ?_
          refine w_next [(1, .v (.int .i64 a1)), (2, .ptr (g + 0) 0), (9, .ptr (g2 + 1 + 2 + 2 + 8) 0), (20, .v (.int .i64 v5))] (.cons (.refl _) (.cons (.refl _) (.cons (.refl _) (.cons (.refl _) .nil)))) ?_
          refine r_region (n := 3) rfl ?_
          refine o_fieldP (by decide) ty_fo76_2 rfl ?_
          refine o_load (v := .v (.int .i64 r8.1.owed)) 0 hS (by decide) rfl rfl .no (part_one ty_agg3 ty_sc3 rfl) ?_
          refine o_assign (v := .v (.int .i64 r8.1.owed)) (by decide) rfl ?_
          refine run_nil ?_
          refine r_blk_normal ?_
          replace hS := hS.keep (L' := [(g + 0, .cells [.sl .no 4 (a0.Clauses.map Clause.cells), .v (.int .i64 a0.Loan)])]) [false, true] rfl
          refine w_next [(1, .v (.int .i64 a1)), (2, .ptr (g + 0) 0), (7, .v (.int .i64 r8.1.owed)), (20, .v (.int .i64 v5))] (.cons (.refl _) (.cons (.refl _) (.cons (.refl _) (.cons (.refl _) .nil)))) ?_
          refine r_region (n := 2) rfl ?_
          refine o_int (v := .v (.int .i64 (w64 (v5 + 1)))) (by decide) rfl rfl rfl ?_
          refine o_move (v := .v (.int .i64 (w64 (v5 + 1)))) (by decide) rfl ?_
          refine run_nil ?_
          exact w_round (r8.1.owed, w64 (v5 + 1)) (Nat.lt_succ_self _) (.cons (.refl _) (.cons (.refl _) (.cons (.refl _) (.cons (.refl _) .nil)))) ⟨(hS.keep [true] rfl).up (by omega), hM⟩
      · replace hM := ifF hM hb6
        refine w_condF (e := (decide (v5 < 1001))) rfl hb6 ?_
        refine r_exit ?_
        refine r_then_exit ?_
        refine w_round_exit ?_
        refine r_blk_exit ?_
        exact w_goto () .nil ⟨(hS.keep [false] rfl).up (by omega), hM⟩
theorem W_ref01_SameInts {n : Nat} {a0 : List Int} {a1 : List Int} {r : Bool} (hM : ref01_SameInts n a0 a1 = some r) : PureSat Try.prog 21 [.sl .no 1 (a0.map cI), .sl .no 1 (a1.map cI)] (.v (.bool r)) := by
  refine pure_of_wp mixed Try.func21 rfl (by decide) Try.ntmps21 (by simp) ?pure fun H0 g hf => ?_
  case pure => exact .v _
  rw [frame0_of]
  change wpA _ _ _ _ (Fr.of [(0, .sl .no 1 (a0.map cI)), (1, .sl .no 1 (a1.map cI))]) H0 g
  have hS := St.start hf
  refine r_seq ?_
  refine r_region (n := 1) rfl ?_
  refine o_assign (v := .v (.bool false)) (by decide) rfl ?_
  refine run_nil ?_
  refine w_next [(0, .sl .no 1 (a0.map cI)), (1, .sl .no 1 (a1.map cI))] (.cons (.refl _) (.cons (.refl _) .nil)) ?_
  refine r_seq ?_
  refine r_seq ?_
  refine r_region (n := 5) rfl ?_
  refine o_move (v := .sl .no 1 (a0.map cI)) (by decide) rfl ?_
  refine o_len (n := a0.length) (by decide) rfl (List.length_map _) ty_isl28 ?_
  refine o_move (v := .sl .no 1 (a1.map cI)) (by decide) rfl ?_
  refine o_len (n := a1.length) (by decide) rfl (List.length_map _) ty_isl28 ?_
  refine o_int (v := .v (.bool ((a0.length : Int) != (a1.length : Int)))) (by decide) rfl rfl rfl ?_
  refine run_nil ?_
  refine w_next [(0, .sl .no 1 (a0.map cI)), (1, .sl .no 1 (a1.map cI)), (10, .v (.bool ((a0.length : Int) != (a1.length : Int))))] (.cons (.refl _) (.cons (.refl _) (.cons (.refl _) .nil))) ?_
  rcases Bool.eq_false_or_eq_true ((a0.length : Int) != (a1.length : Int)) with hb1 | hb1
  · replace hM := ifT hM hb1
    refine w_condT (e := ((a0.length : Int) != (a1.length : Int))) rfl hb1 ?_
    refine r_seq ?_
    refine r_region (n := 1) rfl ?_
    refine o_assign (v := .v (.bool false)) (by decide) rfl ?_
    refine run_nil ?_
    refine w_next [(4, .v (.bool false))] (.cons (.refl _) .nil) ?_
    refine r_ret ?_
    refine r_then_ret ?_
    refine w_end (x := .v (.bool false)) (f := fun r => .v (.bool r)) (.inr rfl) ?_ (.refl _) (Option.some.inj hM) hS
    exact (res_one (res_tmp (x := .v (.bool false)) rfl))
  · replace hM := ifF hM hb1
    refine w_condF (e := ((a0.length : Int) != (a1.length : Int))) rfl hb1 ?_
    refine r_skip ?_
    refine w_next [(0, .sl .no 1 (a0.map cI)), (1, .sl .no 1 (a1.map cI))] (.cons (.refl _) (.cons (.refl _) .nil)) ?_
    refine w_join (J := Unit) (fun j => []) (fun j H' g' => St (· < g) H0 [] H' g' ∧ ref01_SameInts_j1 = some r) ?_ ?_
    · rintro _ H g1 ⟨hS, hM⟩
      change wpA _ _ _ _ (Fr.of []) _ _
      replace hS : St (· < g) H0 [] H g1 := hS
      replace hM : ref01_SameInts_j1 = some r := hM
      refine r_seq ?_
      refine r_region (n := 1) rfl ?_
      refine o_assign (v := .v (.bool true)) (by decide) rfl ?_
      refine run_nil ?_
      refine w_next [(4, .v (.bool true))] (.cons (.refl _) .nil) ?_
      refine r_ret ?_
      refine w_end (x := .v (.bool true)) (f := fun r => .v (.bool r)) (.inr rfl) ?_ (.refl _) (Option.some.inj hM) hS
      exact (res_one (res_tmp (x := .v (.bool true)) rfl))
    · refine r_seq ?_
      refine r_region (n := 1) rfl ?_
      refine o_assign (v := .v (.int .i64 0)) (by decide) rfl ?_
      refine run_nil ?_
      refine w_next [(0, .sl .no 1 (a0.map cI)), (1, .sl .no 1 (a1.map cI)), (5, .v (.int .i64 0))] (.cons (.refl _) (.cons (.refl _) (.cons (.refl _) .nil))) ?_
      refine r_block ?_
      refine w_loop (V := Int) (fun v => [(0, .sl .no 1 (a0.map cI)), (1, .sl .no 1 (a1.map cI)), (5, .v (.int .i64 v))]) (fun v m2 H' g' => St (· < g) H0 [] H' g' ∧ ref01_SameInts_l1 a0 a1 m2 v = some r) (n := n) 0 (.cons (.refl _) (.cons (.refl _) (.cons (.refl _) .nil))) ⟨(hS.keep [] rfl).up (by omega), hM⟩ ?_
      rintro v2 m2 H g2 ⟨hS, hM⟩
      obtain _ | m2 := m2
      · exact nomatch (show none = some _ from hM)
      change wpA _ _ _ _ (Fr.of [(0, .sl .no 1 (a0.map cI)), (1, .sl .no 1 (a1.map cI)), (5, .v (.int .i64 v2))]) _ _
      replace hS : St (· < g) H0 [] H g2 := hS
      replace hM : ref01_SameInts_l1_b a0 a1 (ref01_SameInts_l1 a0 a1 m2) v2 = some r := hM
      refine r_seq ?_
      refine r_seq ?_
      refine r_region (n := 4) rfl ?_
      refine o_move (v := .v (.int .i64 v2)) (by decide) rfl ?_
      refine o_move (v := .sl .no 1 (a0.map cI)) (by decide) rfl ?_
      refine o_len (n := a0.length) (by decide) rfl (List.length_map _) ty_isl28 ?_
      refine o_int (v := .v (.bool (decide (v2 < (a0.length : Int))))) (by decide) rfl rfl rfl ?_
      refine run_nil ?_
      refine w_next [(0, .sl .no 1 (a0.map cI)), (1, .sl .no 1 (a1.map cI)), (5, .v (.int .i64 v2)), (14, .v (.bool (decide (v2 < (a0.length : Int)))))] (.cons (.refl _) (.cons (.refl _) (.cons (.refl _) (.cons (.refl _) .nil)))) ?_
      rcases Bool.eq_false_or_eq_true (decide (v2 < (a0.length : Int))) with hb3 | hb3
      · replace hM := ifT hM hb3
        refine w_condT (e := (decide (v2 < (a0.length : Int)))) rfl hb3 ?_
        refine r_skip ?_
        refine w_next [(0, .sl .no 1 (a0.map cI)), (1, .sl .no 1 (a1.map cI)), (5, .v (.int .i64 v2))] (.cons (.refl _) (.cons (.refl _) (.cons (.refl _) .nil))) ?_
        refine r_seq ?_
        refine r_block ?_
        refine r_seq ?_
        have hS0 := hS
        refine r_draw (n := 9) rfl (by kernel_rfl) ?_
        refine o_move (v := .sl .no 1 (a0.map cI)) (by decide) rfl ?_
        refine o_move (v := .v (.int .i64 v2)) (by decide) rfl ?_
        obtain ⟨x4, hx4, hM⟩ := bindE hM
        refine o_index (xs := a0) (f := cI) (z := v2) (u := x4) (by decide) rfl rfl ty_es28 hx4 ?_
        refine o_loadE (v := .v (.int .i64 x4)) (by decide) rfl (part_one ty_agg3 ty_sc3 rfl) ?_
        refine o_move (v := .sl .no 1 (a1.map cI)) (by decide) rfl ?_
        refine o_move (v := .v (.int .i64 v2)) (by decide) rfl ?_
        obtain ⟨x5, hx5, hM⟩ := bindE hM
        refine o_index (xs := a1) (f := cI) (z := v2) (u := x5) (by decide) rfl rfl ty_es28 hx5 ?_
        refine o_loadE (v := .v (.int .i64 x5)) (by decide) rfl (part_one ty_agg3 ty_sc3 rfl) ?_
        refine o_int (v := .v (.bool (x4 != x5))) (by decide) rfl rfl rfl ?_
        refine run_nil ?_
        refine w_next [(0, .sl .no 1 (a0.map cI)), (1, .sl .no 1 (a1.map cI)), (5, .v (.int .i64 v2)), (25, .v (.bool (x4 != x5)))] (.cons (.refl _) (.cons (.refl _) (.cons (.refl _) (.cons (.refl _) .nil)))) ?_
        rcases Bool.eq_false_or_eq_true (x4 != x5) with hb6 | hb6
        · replace hM := ifT hM hb6
          refine w_condT (e := (x4 != x5)) rfl hb6 ?_
          refine r_seq ?_
          refine r_region (n := 1) rfl ?_
          refine o_assign (v := .v (.bool false)) (by decide) rfl ?_
          refine run_nil ?_
          refine w_next [(4, .v (.bool false))] (.cons (.refl _) .nil) ?_
          refine r_ret ?_
          refine r_blk_ret ?_
          refine r_then_ret ?_
          refine w_round_ret ?_
          refine r_blk_ret ?_
          refine w_goto_ret ?_
          refine w_end (x := .v (.bool false)) (f := fun r => .v (.bool r)) (.inr rfl) ?_ (.refl _) (Option.some.inj hM) hS
          exact (res_one (res_tmp (x := .v (.bool false)) rfl))
        · replace hM := ifF hM hb6
          refine w_condF (e := (x4 != x5)) rfl hb6 ?_
          refine r_skip ?_
          refine r_blk_normal ?_
          refine w_next [(0, .sl .no 1 (a0.map cI)), (1, .sl .no 1 (a1.map cI)), (5, .v (.int .i64 v2))] (.cons (.refl _) (.cons (.refl _) (.cons (.refl _) .nil))) ?_
          refine r_region (n := 3) rfl ?_
          refine o_move (v := .v (.int .i64 v2)) (by decide) rfl ?_
          refine o_int (v := .v (.int .i64 (w64 (v2 + 1)))) (by decide) rfl rfl rfl ?_
          refine o_assign (v := .v (.int .i64 (w64 (v2 + 1)))) (by decide) rfl ?_
          refine run_nil ?_
          exact w_round (w64 (v2 + 1)) (Nat.lt_succ_self _) (.cons (.refl _) (.cons (.refl _) (.cons (.refl _) .nil))) ⟨(hS.keep [] rfl).up (by omega), hM⟩
      · replace hM := ifF hM hb3
        refine w_condF (e := (decide (v2 < (a0.length : Int)))) rfl hb3 ?_
        refine r_exit ?_
        refine r_then_exit ?_
        refine w_round_exit ?_
        refine r_blk_exit ?_
        exact w_goto () .nil ⟨(hS.keep [] rfl).up (by omega), hM⟩
theorem W_shares_Gift {n : Nat} {a0 : Share} {a1 : Int} {a2 : Int} {r : Split × Int} (hM : shares_Gift n a0 a1 a2 = some r) : PureSat Try.prog 29 [.agg [.sl .no 4 (a0.Clauses.map Clause.cells), .v (.int .i64 a0.Loan)], .v (.int .i64 a1), .v (.int .i64 a2)] (.tup [.agg [.v (.int .i64 r.1.Operator), .v (.int .i64 r.1.Owner), .v (.int .i64 r.1.Repaid)], .v (.int .i64 r.2)]) := by
  refine pure_of_wp mixed Try.func29 rfl (by decide) Try.ntmps29 (by simp) ?pure fun H0 g hf => ?_
  case pure => exact .tup _ (pl_cons (.agg _ (pl_cons (.v _) (pl_cons (.v _) (pl_cons (.v _) pl_nil)))) (pl_cons (.v _) pl_nil))
  rw [frame0_of]
  change wpA _ _ _ _ (Fr.of [(0, .agg [.sl .no 4 (a0.Clauses.map Clause.cells), .v (.int .i64 a0.Loan)]), (1, .v (.int .i64 a1)), (2, .v (.int .i64 a2))]) H0 g
  have hS := St.start hf
  refine r_seq ?_
  refine r_region (n := 3) rfl ?_
  refine o_box (v := .agg [.sl .no 4 (a0.Clauses.map Clause.cells), .v (.int .i64 a0.Loan)]) (cs := [.sl .no 4 (a0.Clauses.map Clause.cells), .v (.int .i64 a0.Loan)]) hS (by decide) rfl rfl (by omega) fun H hS => ?_
  refine o_alloc hS (by decide) ty_zero41 (by omega) fun H hS => ?_
  refine o_assign (v := .v (.int .i64 0)) (by decide) rfl ?_
  refine run_nil ?_
  refine w_next [(1, .v (.int .i64 a1)), (2, .v (.int .i64 a2)), (3, .ptr (g + 0) 0), (6, .ptr (g + 1) 0)] (.cons (.refl _) (.cons (.refl _) (.cons (.refl _) (.cons (.refl _) .nil)))) ?_
  refine r_seq ?_
  refine w_join (J := Int) (fun j => [(1, .v (.int .i64 a1)), (2, .v (.int .i64 a2)), (3, .ptr (g + 0) 0), (6, .ptr (g + 1) 0), (8, .v (.int .i64 j))]) (fun j H' g' => St (· < g) H0 [(g + 1, .cells [.v (.int .i64 0), .v (.int .i64 0), .v (.int .i64 0)]), (g + 0, .cells [.sl .no 4 (a0.Clauses.map Clause.cells), .v (.int .i64 a0.Loan)])] H' g' ∧ shares_Gift_j1 n a0 a1 a2 j = some r) ?_ ?_
  · rintro v1 H g1 ⟨hS, hM⟩
    change wpA _ _ _ _ (Fr.of [(1, .v (.int .i64 a1)), (2, .v (.int .i64 a2)), (3, .ptr (g + 0) 0), (6, .ptr (g + 1) 0), (8, .v (.int .i64 v1))]) _ _
    replace hS : St (· < g) H0 [(g + 1, .cells [.v (.int .i64 0), .v (.int .i64 0), .v (.int .i64 0)]), (g + 0, .cells [.sl .no 4 (a0.Clauses.map Clause.cells), .v (.int .i64 a0.Loan)])] H g1 := hS
    replace hM : shares_Gift_j1 n a0 a1 a2 v1 = some r := hM
    refine r_seq ?_
    refine r_region (n := 2) rfl ?_
    refine o_move (v := .v (.int .i64 v1)) (by decide) rfl ?_
    refine o_int (v := .v (.bool (v1 != 0))) (by decide) rfl rfl rfl ?_
    refine run_nil ?_
    refine w_next [(1, .v (.int .i64 a1)), (2, .v (.int .i64 a2)), (3, .ptr (g + 0) 0), (6, .ptr (g + 1) 0), (8, .v (.int .i64 v1)), (20, .v (.bool (v1 != 0)))] (.cons (.refl _) (.cons (.refl _) (.cons (.refl _) (.cons (.refl _) (.cons (.refl _) (.cons (.refl _) .nil)))))) ?_
    rcases Bool.eq_false_or_eq_true (v1 != 0) with hb2 | hb2
    · replace hM := ifT hM hb2
      refine w_condT (e := (v1 != 0)) rfl hb2 ?_
      refine r_seq ?_
      refine r_region (n := 4) rfl ?_
      refine o_build (cs := [.v (.int .i64 0), .v (.int .i64 0), .v (.int .i64 0)]) (by decide) ty_zero41 ty_pl41 rfl ?_
      refine o_move (v := .v (.int .i64 v1)) (by decide) rfl ?_
      refine o_store (v := .agg [.v (.int .i64 0), .v (.int .i64 0), .v (.int .i64 0)]) (ns := [.v (.int .i64 0), .v (.int .i64 0), .v (.int .i64 0)]) (L' := [(g + 1, .cells [.v (.int .i64 0), .v (.int .i64 0), .v (.int .i64 0)]), (g + 0, .cells [.sl .no 4 (a0.Clauses.map Clause.cells), .v (.int .i64 a0.Loan)])]) 0 hS rfl rfl .no rfl rfl ty_var41 (Nat.le_of_ble_eq_true rfl) rfl fun H hS => ?_
      refine o_assign (v := .v (.int .i64 v1)) (by decide) rfl ?_
      refine run_nil ?_
      replace hS := hS.keep (L' := [(g + 1, .cells [.v (.int .i64 0), .v (.int .i64 0), .v (.int .i64 0)])]) [true, false] rfl
      refine w_next [(6, .ptr (g + 1) 0), (7, .v (.int .i64 v1))] (.cons (.refl _) (.cons (.refl _) .nil)) ?_
      refine r_ret ?_
      refine r_then_ret ?_
      refine w_end (x := .tup [.agg [.v (.int .i64 0), .v (.int .i64 0), .v (.int .i64 0)], .v (.int .i64 v1)]) (f := fun r => .tup [.agg [.v (.int .i64 r.1.Operator), .v (.int .i64 r.1.Owner), .v (.int .i64 r.1.Repaid)], .v (.int .i64 r.2)]) (.inr rfl) ?_ (.refl _) (Option.some.inj hM) hS
      exact (res_two (res_cell (x := .agg [.v (.int .i64 0), .v (.int .i64 0), .v (.int .i64 0)]) 0 hS rfl rfl (part_agg ty_agg41 (Nat.le_of_ble_eq_true rfl) rfl)) (res_tmp (x := .v (.int .i64 v1)) rfl))
    · replace hM := ifF hM hb2
      refine w_condF (e := (v1 != 0)) rfl hb2 ?_
      refine r_skip ?_
      refine w_next [(1, .v (.int .i64 a1)), (2, .v (.int .i64 a2)), (3, .ptr (g + 0) 0), (6, .ptr (g + 1) 0)] (.cons (.refl _) (.cons (.refl _) (.cons (.refl _) (.cons (.refl _) .nil)))) ?_
      refine r_seq ?_
      refine r_region (n := 13) rfl ?_
      refine o_fieldP (by decide) ty_fo24_0 rfl ?_
      refine o_load (v := .sl .no 4 (a0.Clauses.map Clause.cells)) 1 hS (by decide) rfl rfl .no (part_one ty_agg22 ty_sc22 rfl) ?_
      refine o_fieldP (by decide) ty_fo24_1 rfl ?_
      refine o_load (v := .v (.int .i64 a0.Loan)) 1 hS (by decide) rfl rfl .no (part_one ty_agg3 ty_sc3 rfl) ?_
      refine o_move (v := .v (.int .i64 a1)) (by decide) rfl ?_
      refine o_move (v := .v (.int .i64 a2)) (by decide) rfl ?_
      obtain ⟨r3, hr3, hM⟩ := bindE hM
      refine o_call (bs := [.sl .no 4 (a0.Clauses.map Clause.cells), .v (.int .i64 a0.Loan), .v (.int .i64 a1), .v (.int .i64 a2)]) (by decide) rfl rfl ((W_shares_settle hr3).le (.cons (.refl _) (.cons (.refl _) (.cons (.refl _) (.cons (.refl _) .nil))))) ?_
      refine o_move (v := .tup [.agg [.v (.int .i64 r3.1.Split.Operator), .v (.int .i64 r3.1.Split.Owner), .v (.int .i64 r3.1.Split.Repaid), .v (.int .i64 r3.1.rest), .v (.int .i64 r3.1.owed)], .sl .no 1 (r3.2.map cI)]) (by decide) rfl ?_
      refine o_extract (v := .agg [.v (.int .i64 r3.1.Split.Operator), .v (.int .i64 r3.1.Split.Owner), .v (.int .i64 r3.1.Split.Repaid), .v (.int .i64 r3.1.rest), .v (.int .i64 r3.1.owed)]) (by decide) rfl rfl ?_
      refine o_extract (v := .sl .no 1 (r3.2.map cI)) (by decide) rfl rfl ?_
      refine o_alloc hS (by decide) ty_zero76 (by omega) fun H hS => ?_
      refine o_store (v := .agg [.v (.int .i64 r3.1.Split.Operator), .v (.int .i64 r3.1.Split.Owner), .v (.int .i64 r3.1.Split.Repaid), .v (.int .i64 r3.1.rest), .v (.int .i64 r3.1.owed)]) (ns := [.v (.int .i64 r3.1.Split.Operator), .v (.int .i64 r3.1.Split.Owner), .v (.int .i64 r3.1.Split.Repaid), .v (.int .i64 r3.1.rest), .v (.int .i64 r3.1.owed)]) (L' := [(g1 + 2 + 10, .cells [.v (.int .i64 r3.1.Split.Operator), .v (.int .i64 r3.1.Split.Owner), .v (.int .i64 r3.1.Split.Repaid), .v (.int .i64 r3.1.rest), .v (.int .i64 r3.1.owed)]), (g + 1, .cells [.v (.int .i64 0), .v (.int .i64 0), .v (.int .i64 0)]), (g + 0, .cells [.sl .no 4 (a0.Clauses.map Clause.cells), .v (.int .i64 a0.Loan)])]) 0 hS rfl rfl .no rfl rfl ty_var76 (Nat.le_of_ble_eq_true rfl) rfl fun H hS => ?_
      refine o_assign (v := .sl .no 1 (r3.2.map cI)) (by decide) rfl ?_
      refine run_nil ?_
      replace hS := hS.keep (L' := [(g1 + 2 + 10, .cells [.v (.int .i64 r3.1.Split.Operator), .v (.int .i64 r3.1.Split.Owner), .v (.int .i64 r3.1.Split.Repaid), .v (.int .i64 r3.1.rest), .v (.int .i64 r3.1.owed)]), (g + 1, .cells [.v (.int .i64 0), .v (.int .i64 0), .v (.int .i64 0)])]) [true, true, false] rfl
      refine w_next [(6, .ptr (g + 1) 0), (9, .ptr (g1 + 2 + 10) 0)] (.cons (.refl _) (.cons (.refl _) .nil)) ?_
      refine r_seq ?_
      refine r_region (n := 4) rfl ?_
      refine o_fieldP (by decide) ty_fo76_0 rfl ?_
      refine o_load (v := .agg [.v (.int .i64 r3.1.Split.Operator), .v (.int .i64 r3.1.Split.Owner), .v (.int .i64 r3.1.Split.Repaid)]) 0 hS (by decide) rfl rfl .no (part_agg ty_agg41 (Nat.le_of_ble_eq_true rfl) rfl) ?_
      refine o_store (v := .agg [.v (.int .i64 r3.1.Split.Operator), .v (.int .i64 r3.1.Split.Owner), .v (.int .i64 r3.1.Split.Repaid)]) (ns := [.v (.int .i64 r3.1.Split.Operator), .v (.int .i64 r3.1.Split.Owner), .v (.int .i64 r3.1.Split.Repaid)]) (L' := [(g1 + 2 + 10, .cells [.v (.int .i64 r3.1.Split.Operator), .v (.int .i64 r3.1.Split.Owner), .v (.int .i64 r3.1.Split.Repaid), .v (.int .i64 r3.1.rest), .v (.int .i64 r3.1.owed)]), (g + 1, .cells [.v (.int .i64 r3.1.Split.Operator), .v (.int .i64 r3.1.Split.Owner), .v (.int .i64 r3.1.Split.Repaid)])]) 1 hS rfl rfl .no rfl rfl ty_var41 (Nat.le_of_ble_eq_true rfl) rfl fun H hS => ?_
      refine o_assign (v := .v (.int .i64 0)) (by decide) rfl ?_
      refine run_nil ?_
      replace hS := hS.keep (L' := [(g + 1, .cells [.v (.int .i64 r3.1.Split.Operator), .v (.int .i64 r3.1.Split.Owner), .v (.int .i64 r3.1.Split.Repaid)])]) [false, true] rfl
      refine w_next [(6, .ptr (g + 1) 0), (7, .v (.int .i64 0))] (.cons (.refl _) (.cons (.refl _) .nil)) ?_
      refine r_ret ?_
      refine w_end (x := .tup [.agg [.v (.int .i64 r3.1.Split.Operator), .v (.int .i64 r3.1.Split.Owner), .v (.int .i64 r3.1.Split.Repaid)], .v (.int .i64 0)]) (f := fun r => .tup [.agg [.v (.int .i64 r.1.Operator), .v (.int .i64 r.1.Owner), .v (.int .i64 r.1.Repaid)], .v (.int .i64 r.2)]) (.inr rfl) ?_ (.refl _) (Option.some.inj hM) hS
      exact (res_two (res_cell (x := .agg [.v (.int .i64 r3.1.Split.Operator), .v (.int .i64 r3.1.Split.Owner), .v (.int .i64 r3.1.Split.Repaid)]) 0 hS rfl rfl (part_agg ty_agg41 (Nat.le_of_ble_eq_true rfl) rfl)) (res_tmp (x := .v (.int .i64 0)) rfl))
  · have hS0 := hS
    refine r_draw (n := 9) rfl (by kernel_rfl) ?_
    refine o_load (v := .agg [.sl .no 4 (a0.Clauses.map Clause.cells), .v (.int .i64 a0.Loan)]) 1 hS (by decide) rfl rfl (.st hS0 1 rfl (by omega)) (part_agg ty_agg24 (Nat.le_of_ble_eq_true rfl) rfl) ?_
    refine o_move (v := .v (.int .i64 a1)) (by decide) rfl ?_
    obtain ⟨r4, hr4, hM⟩ := bindE hM
    refine o_call (bs := [.v (.int .i64 a1)]) (by decide) rfl rfl ((W_shares_isCents hr4).le (.cons (.refl _) .nil)) ?_
    refine o_move (v := .v (.bool r4)) (by decide) rfl ?_
    rcases Bool.eq_false_or_eq_true r4 with hb5 | hb5
    · replace hM := ifT hM hb5
      refine o_guardY (j := 3) (e := r4) (want := true) rfl hb5 ?_
      refine o_move (v := .v (.int .i64 a2)) (by decide) rfl ?_
      refine o_guardY (j := 3) (e := r4) (want := true) rfl hb5 ?_
      obtain ⟨r6, hr6, hM⟩ := bindE hM
      refine o_call (bs := [.v (.int .i64 a2)]) (by decide) rfl rfl ((W_shares_isCents hr6).le (.cons (.refl _) .nil)) ?_
      refine o_pickT (v := .v (.bool r6)) (e := r4) (by decide) rfl hb5 rfl ?_
      obtain ⟨r7, hr7, hM⟩ := bindE hM
      refine o_call (bs := [.agg [.sl .no 4 (a0.Clauses.map Clause.cells), .v (.int .i64 a0.Loan)], .v (.bool r6)]) (by decide) rfl rfl ((W_shares_ask hr7).le (.cons (.refl _) (.cons (.refl _) .nil))) ?_
      refine o_assign (v := .v (.int .i64 r7)) (by decide) rfl ?_
      refine run_nil ?_
      exact w_goto r7 (.cons (.refl _) (.cons (.refl _) (.cons (.refl _) (.cons (.refl _) (.cons (.refl _) .nil))))) ⟨(hS.keep [true, true] rfl).up (by omega), hM⟩
    · replace hM := ifF hM hb5
      refine o_guardN (j := 3) (e := r4) (want := true) (by decide) rfl hb5 ?_
      refine o_guardN (j := 3) (e := r4) (want := true) (by decide) rfl hb5 ?_
      refine o_pickF (v := .v (.bool false)) (e := r4) (by decide) rfl hb5 rfl ?_
      obtain ⟨r8, hr8, hM⟩ := bindE hM
      refine o_call (bs := [.agg [.sl .no 4 (a0.Clauses.map Clause.cells), .v (.int .i64 a0.Loan)], .v (.bool false)]) (by decide) rfl rfl ((W_shares_ask hr8).le (.cons (.refl _) (.cons (.refl _) .nil))) ?_
      refine o_assign (v := .v (.int .i64 r8)) (by decide) rfl ?_
      refine run_nil ?_
      exact w_goto r8 (.cons (.refl _) (.cons (.refl _) (.cons (.refl _) (.cons (.refl _) (.cons (.refl _) .nil))))) ⟨(hS.keep [true, true] rfl).up (by omega), hM⟩
theorem W_shares_Week {n : Nat} {a0 : Share} {a1 : Int} {r : Split × Int} (hM : shares_Week n a0 a1 = some r) : PureSat Try.prog 25 [.agg [.sl .no 4 (a0.Clauses.map Clause.cells), .v (.int .i64 a0.Loan)], .v (.int .i64 a1)] (.tup [.agg [.v (.int .i64 r.1.Operator), .v (.int .i64 r.1.Owner), .v (.int .i64 r.1.Repaid)], .v (.int .i64 r.2)]) := by
  refine pure_of_wp mixed Try.func25 rfl (by decide) Try.ntmps25 (by simp) ?pure fun H0 g hf => ?_
  case pure => exact .tup _ (pl_cons (.agg _ (pl_cons (.v _) (pl_cons (.v _) (pl_cons (.v _) pl_nil)))) (pl_cons (.v _) pl_nil))
  rw [frame0_of]
  change wpA _ _ _ _ (Fr.of [(0, .agg [.sl .no 4 (a0.Clauses.map Clause.cells), .v (.int .i64 a0.Loan)]), (1, .v (.int .i64 a1))]) H0 g
  have hS := St.start hf
  refine r_seq ?_
  refine r_region (n := 3) rfl ?_
  refine o_box (v := .agg [.sl .no 4 (a0.Clauses.map Clause.cells), .v (.int .i64 a0.Loan)]) (cs := [.sl .no 4 (a0.Clauses.map Clause.cells), .v (.int .i64 a0.Loan)]) hS (by decide) rfl rfl (by omega) fun H hS => ?_
  refine o_alloc hS (by decide) ty_zero41 (by omega) fun H hS => ?_
  refine o_assign (v := .v (.int .i64 0)) (by decide) rfl ?_
  refine run_nil ?_
  refine w_next [(1, .v (.int .i64 a1)), (2, .ptr (g + 0) 0), (4, .ptr (g + 1) 0)] (.cons (.refl _) (.cons (.refl _) (.cons (.refl _) .nil))) ?_
  refine r_seq ?_
  refine r_region (n := 7) rfl ?_
  refine o_load (v := .agg [.sl .no 4 (a0.Clauses.map Clause.cells), .v (.int .i64 a0.Loan)]) 1 hS (by decide) rfl rfl .no (part_agg ty_agg24 (Nat.le_of_ble_eq_true rfl) rfl) ?_
  refine o_move (v := .v (.int .i64 a1)) (by decide) rfl ?_
  obtain ⟨r1, hr1, hM⟩ := bindE hM
  refine o_call (bs := [.agg [.sl .no 4 (a0.Clauses.map Clause.cells), .v (.int .i64 a0.Loan)], .v (.int .i64 a1), .v (.int .i64 0)]) (by decide) rfl rfl ((W_shares_Gift hr1).le (.cons (.refl _) (.cons (.refl _) (.cons (.refl _) .nil)))) ?_
  refine o_extract (v := .agg [.v (.int .i64 r1.1.Operator), .v (.int .i64 r1.1.Owner), .v (.int .i64 r1.1.Repaid)]) (by decide) rfl rfl ?_
  refine o_extract (v := .v (.int .i64 r1.2)) (by decide) rfl rfl ?_
  refine o_store (v := .agg [.v (.int .i64 r1.1.Operator), .v (.int .i64 r1.1.Owner), .v (.int .i64 r1.1.Repaid)]) (ns := [.v (.int .i64 r1.1.Operator), .v (.int .i64 r1.1.Owner), .v (.int .i64 r1.1.Repaid)]) (L' := [(g + 1, .cells [.v (.int .i64 r1.1.Operator), .v (.int .i64 r1.1.Owner), .v (.int .i64 r1.1.Repaid)]), (g + 0, .cells [.sl .no 4 (a0.Clauses.map Clause.cells), .v (.int .i64 a0.Loan)])]) 0 hS rfl rfl .no rfl rfl ty_var41 (Nat.le_of_ble_eq_true rfl) rfl fun H hS => ?_
  refine o_assign (v := .v (.int .i64 r1.2)) (by decide) rfl ?_
  refine run_nil ?_
  replace hS := hS.keep (L' := [(g + 1, .cells [.v (.int .i64 r1.1.Operator), .v (.int .i64 r1.1.Owner), .v (.int .i64 r1.1.Repaid)])]) [true, false] rfl
  refine w_next [(4, .ptr (g + 1) 0), (5, .v (.int .i64 r1.2))] (.cons (.refl _) (.cons (.refl _) .nil)) ?_
  refine r_ret ?_
  refine w_end (x := .tup [.agg [.v (.int .i64 r1.1.Operator), .v (.int .i64 r1.1.Owner), .v (.int .i64 r1.1.Repaid)], .v (.int .i64 r1.2)]) (f := fun r => .tup [.agg [.v (.int .i64 r.1.Operator), .v (.int .i64 r.1.Owner), .v (.int .i64 r.1.Repaid)], .v (.int .i64 r.2)]) (.inr rfl) ?_ (.refl _) (Option.some.inj hM) hS
  exact (res_two (res_cell (x := .agg [.v (.int .i64 r1.1.Operator), .v (.int .i64 r1.1.Owner), .v (.int .i64 r1.1.Repaid)]) 0 hS rfl rfl (part_agg ty_agg41 (Nat.le_of_ble_eq_true rfl) rfl)) (res_tmp (x := .v (.int .i64 r1.2)) rfl))
theorem W_law09_Example {r : Share} (hM : law09_Example = some r) : PureSat Try.prog 47 [] (.agg [.sl .no 4 (r.Clauses.map Clause.cells), .v (.int .i64 r.Loan)]) := by
  refine pure_of_wp mixed Try.func47 rfl (by decide) Try.ntmps47 (by simp) ?pure fun H0 g hf => ?_
  case pure => exact .agg _ (pl_cons (.sl _ _ (pures_map (fun x => (pl_cons (.v _) (pl_cons (.v _) (pl_cons (.v _) (pl_cons (.v _) pl_nil))))))) (pl_cons (.v _) pl_nil))
  rw [frame0_of]
  change wpA _ _ _ _ (Fr.of []) H0 g
  have hS := St.start hf
  refine r_seq ?_
  refine r_region (n := 1) rfl ?_
  refine o_alloc hS (by decide) ty_zero24 (by omega) fun H hS => ?_
  refine run_nil ?_
  refine w_next [(0, .ptr (g + 0) 0)] (.cons (.refl _) .nil) ?_
  refine r_seq ?_
  refine r_region (n := 7) rfl ?_
  refine o_build (cs := [.v (.int .i64 1), .v (.int .i64 500), .v (.int .i64 0), .v (.int .i64 0)]) (by decide) ty_zero39 ty_pl39 rfl ?_
  refine o_build (cs := [.v (.int .i64 2), .v (.int .i64 300), .v (.int .i64 0), .v (.int .i64 0)]) (by decide) ty_zero39 ty_pl39 rfl ?_
  refine o_build (cs := [.v (.int .i64 4), .v (.int .i64 1000), .v (.int .i64 40), .v (.int .i64 60)]) (by decide) ty_zero39 ty_pl39 rfl ?_
  refine o_build (cs := [.v (.int .i64 5), .v (.int .i64 450), .v (.int .i64 0), .v (.int .i64 0)]) (by decide) ty_zero39 ty_pl39 rfl ?_
  refine o_buildSlice (es := [[.v (.int .i64 1), .v (.int .i64 500), .v (.int .i64 0), .v (.int .i64 0)], [.v (.int .i64 2), .v (.int .i64 300), .v (.int .i64 0), .v (.int .i64 0)], [.v (.int .i64 4), .v (.int .i64 1000), .v (.int .i64 40), .v (.int .i64 60)], [.v (.int .i64 5), .v (.int .i64 450), .v (.int .i64 0), .v (.int .i64 0)]]) hS (by decide) ty_es22 ty_el22 rfl ty_ef22 rfl (by decide) (by omega) fun H hS => ?_
  refine o_build (cs := [.sl (.id (g + 1 + 4)) 4 (([(⟨1, 500, 0, 0⟩ : Clause), (⟨2, 300, 0, 0⟩ : Clause), (⟨4, 1000, 40, 60⟩ : Clause), (⟨5, 450, 0, 0⟩ : Clause)] : List Clause).map Clause.cells), .v (.int .i64 700)]) (by decide) ty_zero24 ty_pl24 rfl ?_
  refine o_store (v := .agg [.sl (.id (g + 1 + 4)) 4 (([(⟨1, 500, 0, 0⟩ : Clause), (⟨2, 300, 0, 0⟩ : Clause), (⟨4, 1000, 40, 60⟩ : Clause), (⟨5, 450, 0, 0⟩ : Clause)] : List Clause).map Clause.cells), .v (.int .i64 700)]) (ns := [.sl (.id (g + 1 + 4)) 4 (([(⟨1, 500, 0, 0⟩ : Clause), (⟨2, 300, 0, 0⟩ : Clause), (⟨4, 1000, 40, 60⟩ : Clause), (⟨5, 450, 0, 0⟩ : Clause)] : List Clause).map Clause.cells), .v (.int .i64 700)]) (L' := [(g + 1 + 4, .row 39 4), (g + 0, .cells [.sl (.id (g + 1 + 4)) 4 (([(⟨1, 500, 0, 0⟩ : Clause), (⟨2, 300, 0, 0⟩ : Clause), (⟨4, 1000, 40, 60⟩ : Clause), (⟨5, 450, 0, 0⟩ : Clause)] : List Clause).map Clause.cells), .v (.int .i64 700)])]) 1 hS rfl rfl .no rfl rfl ty_var24 (Nat.le_of_ble_eq_true rfl) rfl fun H hS => ?_
  refine run_nil ?_
  refine w_next [(0, .ptr (g + 0) 0)] (.cons (.refl _) .nil) ?_
  refine r_ret ?_
  refine w_end (x := .agg [.sl (.id (g + 1 + 4)) 4 (([(⟨1, 500, 0, 0⟩ : Clause), (⟨2, 300, 0, 0⟩ : Clause), (⟨4, 1000, 40, 60⟩ : Clause), (⟨5, 450, 0, 0⟩ : Clause)] : List Clause).map Clause.cells), .v (.int .i64 700)]) (f := fun r => .agg [.sl .no 4 (r.Clauses.map Clause.cells), .v (.int .i64 r.Loan)]) (.inr rfl) ?_ (.aggL (.cons (.sl _ _ _) (.cons (.refl _) .nil))) (Option.some.inj hM) hS
  exact (res_one (res_cell (x := .agg [.sl (.id (g + 1 + 4)) 4 (([(⟨1, 500, 0, 0⟩ : Clause), (⟨2, 300, 0, 0⟩ : Clause), (⟨4, 1000, 40, 60⟩ : Clause), (⟨5, 450, 0, 0⟩ : Clause)] : List Clause).map Clause.cells), .v (.int .i64 700)]) 1 hS rfl rfl (part_agg ty_agg24 (Nat.le_of_ble_eq_true rfl) rfl)))
theorem W_law09_works {n : Nat} {r : Bool} (hM : law09_works n = some r) : PureSat Try.prog 15 [] (.v (.bool r)) := by
  refine pure_of_wp mixed Try.func15 rfl (by decide) Try.ntmps15 (by simp) ?pure fun H0 g hf => ?_
  case pure => exact .v _
  rw [frame0_of]
  change wpA _ _ _ _ (Fr.of []) H0 g
  have hS := St.start hf
  refine r_seq ?_
  refine r_region (n := 1) rfl ?_
  refine o_assign (v := .v (.bool false)) (by decide) rfl ?_
  refine run_nil ?_
  refine w_next [] .nil ?_
  refine r_seq ?_
  refine r_region (n := 3) rfl ?_
  obtain ⟨r1, hr1, hM⟩ := bindE hM
  refine o_call (bs := []) (by decide) rfl rfl ((W_law09_Example hr1).le .nil) ?_
  refine o_alloc hS (by decide) ty_zero24 (by omega) fun H hS => ?_
  refine o_store (v := .agg [.sl .no 4 (r1.Clauses.map Clause.cells), .v (.int .i64 r1.Loan)]) (ns := [.sl .no 4 (r1.Clauses.map Clause.cells), .v (.int .i64 r1.Loan)]) (L' := [(g + 1 + 1, .cells [.sl .no 4 (r1.Clauses.map Clause.cells), .v (.int .i64 r1.Loan)])]) 0 hS rfl rfl .no rfl rfl ty_var24 (Nat.le_of_ble_eq_true rfl) rfl fun H hS => ?_
  refine run_nil ?_
  refine w_next [(1, .ptr (g + 1 + 1) 0)] (.cons (.refl _) .nil) ?_
  refine r_seq ?_
  refine r_region (n := 8) rfl ?_
  refine o_load (v := .agg [.sl .no 4 (r1.Clauses.map Clause.cells), .v (.int .i64 r1.Loan)]) 0 hS (by decide) rfl rfl .no (part_agg ty_agg24 (Nat.le_of_ble_eq_true rfl) rfl) ?_
  obtain ⟨r2, hr2, hM⟩ := bindE hM
  refine o_call (bs := [.agg [.sl .no 4 (r1.Clauses.map Clause.cells), .v (.int .i64 r1.Loan)], .v (.int .i64 2013)]) (by decide) rfl rfl ((W_shares_Week hr2).le (.cons (.refl _) (.cons (.refl _) .nil))) ?_
  refine o_move (v := .tup [.agg [.v (.int .i64 r2.1.Operator), .v (.int .i64 r2.1.Owner), .v (.int .i64 r2.1.Repaid)], .v (.int .i64 r2.2)]) (by decide) rfl ?_
  refine o_extract (v := .agg [.v (.int .i64 r2.1.Operator), .v (.int .i64 r2.1.Owner), .v (.int .i64 r2.1.Repaid)]) (by decide) rfl rfl ?_
  refine o_extract (v := .v (.int .i64 r2.2)) (by decide) rfl rfl ?_
  refine o_alloc hS (by decide) ty_zero41 (by omega) fun H hS => ?_
  refine o_store (v := .agg [.v (.int .i64 r2.1.Operator), .v (.int .i64 r2.1.Owner), .v (.int .i64 r2.1.Repaid)]) (ns := [.v (.int .i64 r2.1.Operator), .v (.int .i64 r2.1.Owner), .v (.int .i64 r2.1.Repaid)]) (L' := [(g + 1 + 3 + 5, .cells [.v (.int .i64 r2.1.Operator), .v (.int .i64 r2.1.Owner), .v (.int .i64 r2.1.Repaid)]), (g + 1 + 1, .cells [.sl .no 4 (r1.Clauses.map Clause.cells), .v (.int .i64 r1.Loan)])]) 0 hS rfl rfl .no rfl rfl ty_var41 (Nat.le_of_ble_eq_true rfl) rfl fun H hS => ?_
  refine o_assign (v := .v (.int .i64 r2.2)) (by decide) rfl ?_
  refine run_nil ?_
  refine w_next [(1, .ptr (g + 1 + 1) 0), (2, .ptr (g + 1 + 3 + 5) 0), (3, .v (.int .i64 r2.2))] (.cons (.refl _) (.cons (.refl _) (.cons (.refl _) .nil))) ?_
  refine r_seq ?_
  refine r_region (n := 7) rfl ?_
  refine o_load (v := .agg [.sl .no 4 (r1.Clauses.map Clause.cells), .v (.int .i64 r1.Loan)]) 1 hS (by decide) rfl rfl .no (part_agg ty_agg24 (Nat.le_of_ble_eq_true rfl) rfl) ?_
  obtain ⟨r3, hr3, hM⟩ := bindE hM
  refine o_call (bs := [.agg [.sl .no 4 (r1.Clauses.map Clause.cells), .v (.int .i64 r1.Loan)], .v (.int .i64 2013)]) (by decide) rfl rfl ((W_shares_Best hr3).le (.cons (.refl _) (.cons (.refl _) .nil))) ?_
  refine o_move (v := .tup [.sl .no 1 (r3.1.map cI), .v (.int .i64 r3.2)]) (by decide) rfl ?_
  refine o_extract (v := .sl .no 1 (r3.1.map cI)) (by decide) rfl rfl ?_
  refine o_extract (v := .v (.int .i64 r3.2)) (by decide) rfl rfl ?_
  refine o_assign (v := .sl .no 1 (r3.1.map cI)) (by decide) rfl ?_
  refine o_assign (v := .v (.int .i64 r3.2)) (by decide) rfl ?_
  refine run_nil ?_
  refine w_next [(1, .ptr (g + 1 + 1) 0), (2, .ptr (g + 1 + 3 + 5) 0), (3, .v (.int .i64 r2.2)), (4, .sl .no 1 (r3.1.map cI)), (5, .v (.int .i64 r3.2))] (.cons (.refl _) (.cons (.refl _) (.cons (.refl _) (.cons (.refl _) (.cons (.refl _) .nil))))) ?_
  refine r_seq ?_
  refine r_region (n := 7) rfl ?_
  refine o_load (v := .agg [.sl .no 4 (r1.Clauses.map Clause.cells), .v (.int .i64 r1.Loan)]) 1 hS (by decide) rfl rfl .no (part_agg ty_agg24 (Nat.le_of_ble_eq_true rfl) rfl) ?_
  obtain ⟨r4, hr4, hM⟩ := bindE hM
  refine o_call (bs := [.agg [.sl .no 4 (r1.Clauses.map Clause.cells), .v (.int .i64 r1.Loan)], .v (.int .i64 2013)]) (by decide) rfl rfl ((W_shares_Repaid hr4).le (.cons (.refl _) (.cons (.refl _) .nil))) ?_
  refine o_move (v := .tup [.v (.int .i64 r4.1), .v (.int .i64 r4.2)]) (by decide) rfl ?_
  refine o_extract (v := .v (.int .i64 r4.1)) (by decide) rfl rfl ?_
  refine o_extract (v := .v (.int .i64 r4.2)) (by decide) rfl rfl ?_
  refine o_assign (v := .v (.int .i64 r4.1)) (by decide) rfl ?_
  refine o_assign (v := .v (.int .i64 r4.2)) (by decide) rfl ?_
  refine run_nil ?_
  refine w_next [(1, .ptr (g + 1 + 1) 0), (2, .ptr (g + 1 + 3 + 5) 0), (3, .v (.int .i64 r2.2)), (4, .sl .no 1 (r3.1.map cI)), (5, .v (.int .i64 r3.2)), (6, .v (.int .i64 r4.1)), (7, .v (.int .i64 r4.2))] (.cons (.refl _) (.cons (.refl _) (.cons (.refl _) (.cons (.refl _) (.cons (.refl _) (.cons (.refl _) (.cons (.refl _) .nil))))))) ?_
  refine r_seq ?_
  refine r_region (n := 8) rfl ?_
  refine o_load (v := .agg [.sl .no 4 (r1.Clauses.map Clause.cells), .v (.int .i64 r1.Loan)]) 1 hS (by decide) rfl rfl .no (part_agg ty_agg24 (Nat.le_of_ble_eq_true rfl) rfl) ?_
  obtain ⟨r5, hr5, hM⟩ := bindE hM
  refine o_call (bs := [.agg [.sl .no 4 (r1.Clauses.map Clause.cells), .v (.int .i64 r1.Loan)], .v (.int .i64 2013), .v (.int .i64 100)]) (by decide) rfl rfl ((W_shares_Gift hr5).le (.cons (.refl _) (.cons (.refl _) (.cons (.refl _) .nil)))) ?_
  refine o_move (v := .tup [.agg [.v (.int .i64 r5.1.Operator), .v (.int .i64 r5.1.Owner), .v (.int .i64 r5.1.Repaid)], .v (.int .i64 r5.2)]) (by decide) rfl ?_
  refine o_extract (v := .agg [.v (.int .i64 r5.1.Operator), .v (.int .i64 r5.1.Owner), .v (.int .i64 r5.1.Repaid)]) (by decide) rfl rfl ?_
  refine o_extract (v := .v (.int .i64 r5.2)) (by decide) rfl rfl ?_
  refine o_alloc hS (by decide) ty_zero41 (by omega) fun H hS => ?_
  refine o_store (v := .agg [.v (.int .i64 r5.1.Operator), .v (.int .i64 r5.1.Owner), .v (.int .i64 r5.1.Repaid)]) (ns := [.v (.int .i64 r5.1.Operator), .v (.int .i64 r5.1.Owner), .v (.int .i64 r5.1.Repaid)]) (L' := [(g + 1 + 3 + 8 + 7 + 7 + 5, .cells [.v (.int .i64 r5.1.Operator), .v (.int .i64 r5.1.Owner), .v (.int .i64 r5.1.Repaid)]), (g + 1 + 3 + 5, .cells [.v (.int .i64 r2.1.Operator), .v (.int .i64 r2.1.Owner), .v (.int .i64 r2.1.Repaid)]), (g + 1 + 1, .cells [.sl .no 4 (r1.Clauses.map Clause.cells), .v (.int .i64 r1.Loan)])]) 0 hS rfl rfl .no rfl rfl ty_var41 (Nat.le_of_ble_eq_true rfl) rfl fun H hS => ?_
  refine o_assign (v := .v (.int .i64 r5.2)) (by decide) rfl ?_
  refine run_nil ?_
  replace hS := hS.keep (L' := [(g + 1 + 3 + 8 + 7 + 7 + 5, .cells [.v (.int .i64 r5.1.Operator), .v (.int .i64 r5.1.Owner), .v (.int .i64 r5.1.Repaid)]), (g + 1 + 3 + 5, .cells [.v (.int .i64 r2.1.Operator), .v (.int .i64 r2.1.Owner), .v (.int .i64 r2.1.Repaid)])]) [true, true, false] rfl
  refine w_next [(2, .ptr (g + 1 + 3 + 5) 0), (3, .v (.int .i64 r2.2)), (4, .sl .no 1 (r3.1.map cI)), (5, .v (.int .i64 r3.2)), (6, .v (.int .i64 r4.1)), (7, .v (.int .i64 r4.2)), (8, .ptr (g + 1 + 3 + 8 + 7 + 7 + 5) 0), (9, .v (.int .i64 r5.2))] (.cons (.refl _) (.cons (.refl _) (.cons (.refl _) (.cons (.refl _) (.cons (.refl _) (.cons (.refl _) (.cons (.refl _) (.cons (.refl _) .nil)))))))) ?_
  refine w_join (J := Bool) (fun j => [(0, .v (.bool j))]) (fun j H' g' => St (· < g) H0 [] H' g' ∧ law09_works_j1 j = some r) ?_ ?_
  · rintro v6 H g1 ⟨hS, hM⟩
    change wpA _ _ _ _ (Fr.of [(0, .v (.bool v6))]) _ _
    replace hS : St (· < g) H0 [] H g1 := hS
    replace hM : law09_works_j1 v6 = some r := hM
    refine r_ret ?_
    refine w_end (x := .v (.bool v6)) (f := fun r => .v (.bool r)) (.inr rfl) ?_ (.refl _) (Option.some.inj hM) hS
    exact (res_one (res_tmp (x := .v (.bool v6)) rfl))
  · refine r_region (n := 34) rfl ?_
    refine o_move (v := .v (.int .i64 r2.2)) (by decide) rfl ?_
    refine o_int (v := .v (.bool (r2.2 == 0))) (by decide) rfl rfl rfl ?_
    refine o_move (v := .v (.bool (r2.2 == 0))) (by decide) rfl ?_
    rcases Bool.eq_false_or_eq_true (r2.2 == 0) with hb7 | hb7
    · replace hM := ifT hM hb7
      refine o_guardY (j := 2) (e := (r2.2 == 0)) (want := true) rfl hb7 ?_
      refine o_move (v := .v (.int .i64 r3.2)) (by decide) rfl ?_
      refine o_guardY (j := 2) (e := (r2.2 == 0)) (want := true) rfl hb7 ?_
      refine o_int (v := .v (.bool (r3.2 == 0))) (by decide) rfl rfl rfl ?_
      refine o_pickT (v := .v (.bool (r3.2 == 0))) (e := (r2.2 == 0)) (by decide) rfl hb7 rfl ?_
      refine o_move (v := .v (.bool (r3.2 == 0))) (by decide) rfl ?_
      rcases Bool.eq_false_or_eq_true (r3.2 == 0) with hb8 | hb8
      · replace hM := ifT hM hb8
        refine o_guardY (j := 6) (e := (r3.2 == 0)) (want := true) rfl hb8 ?_
        refine o_move (v := .v (.int .i64 r4.2)) (by decide) rfl ?_
        refine o_guardY (j := 6) (e := (r3.2 == 0)) (want := true) rfl hb8 ?_
        refine o_int (v := .v (.bool (r4.2 == 0))) (by decide) rfl rfl rfl ?_
        refine o_pickT (v := .v (.bool (r4.2 == 0))) (e := (r3.2 == 0)) (by decide) rfl hb8 rfl ?_
        refine o_move (v := .v (.bool (r4.2 == 0))) (by decide) rfl ?_
        rcases Bool.eq_false_or_eq_true (r4.2 == 0) with hb9 | hb9
        · replace hM := ifT hM hb9
          refine o_guardY (j := 10) (e := (r4.2 == 0)) (want := true) rfl hb9 ?_
          refine o_move (v := .v (.int .i64 r5.2)) (by decide) rfl ?_
          refine o_guardY (j := 10) (e := (r4.2 == 0)) (want := true) rfl hb9 ?_
          refine o_int (v := .v (.bool (r5.2 == 0))) (by decide) rfl rfl rfl ?_
          refine o_pickT (v := .v (.bool (r5.2 == 0))) (e := (r4.2 == 0)) (by decide) rfl hb9 rfl ?_
          refine o_move (v := .v (.bool (r5.2 == 0))) (by decide) rfl ?_
          rcases Bool.eq_false_or_eq_true (r5.2 == 0) with hb10 | hb10
          · replace hM := ifT hM hb10
            refine o_guardY (j := 14) (e := (r5.2 == 0)) (want := true) rfl hb10 ?_
            refine o_load (v := .agg [.v (.int .i64 r2.1.Operator), .v (.int .i64 r2.1.Owner), .v (.int .i64 r2.1.Repaid)]) 1 hS (by decide) rfl rfl .no (part_agg ty_agg41 (Nat.le_of_ble_eq_true rfl) rfl) ?_
            refine o_guardY (j := 14) (e := (r5.2 == 0)) (want := true) rfl hb10 ?_
            refine o_build (cs := [.v (.int .i64 1488), .v (.int .i64 525), .v (.int .i64 300)]) (by decide) ty_zero41 ty_pl41 rfl ?_
            refine o_guardY (j := 14) (e := (r5.2 == 0)) (want := true) rfl hb10 ?_
            refine o_eqS (cs := [.v (.int .i64 r2.1.Operator), .v (.int .i64 r2.1.Owner), .v (.int .i64 r2.1.Repaid)]) (ds := [.v (.int .i64 1488), .v (.int .i64 525), .v (.int .i64 300)]) (e := ((r2.1.Operator == 1488) && ((r2.1.Owner == 525) && ((r2.1.Repaid == 300) && true)))) (by decide) rfl rfl ty_flat41 rfl ?_
            refine o_pickT (v := .v (.bool ((r2.1.Operator == 1488) && ((r2.1.Owner == 525) && ((r2.1.Repaid == 300) && true))))) (e := (r5.2 == 0)) (by decide) rfl hb10 rfl ?_
            refine o_move (v := .v (.bool ((r2.1.Operator == 1488) && ((r2.1.Owner == 525) && ((r2.1.Repaid == 300) && true))))) (by decide) rfl ?_
            rcases Bool.eq_false_or_eq_true ((r2.1.Operator == 1488) && ((r2.1.Owner == 525) && ((r2.1.Repaid == 300) && true))) with hb11 | hb11
            · replace hM := ifT hM hb11
              refine o_guardY (j := 19) (e := ((r2.1.Operator == 1488) && ((r2.1.Owner == 525) && ((r2.1.Repaid == 300) && true)))) (want := true) rfl hb11 ?_
              refine o_move (v := .sl .no 1 (r3.1.map cI)) (by decide) rfl ?_
              refine o_guardY (j := 19) (e := ((r2.1.Operator == 1488) && ((r2.1.Owner == 525) && ((r2.1.Repaid == 300) && true)))) (want := true) rfl hb11 ?_
              refine o_buildSlice (es := [[.v (.int .i64 3)], [.v (.int .i64 2)], [.v (.int .i64 0)], [.v (.int .i64 1)]]) hS (by decide) ty_es28 ty_el28 rfl ty_ef28 rfl (by decide) (by omega) fun H hS => ?_
              refine o_guardY (j := 19) (e := ((r2.1.Operator == 1488) && ((r2.1.Owner == 525) && ((r2.1.Repaid == 300) && true)))) (want := true) rfl hb11 ?_
              obtain ⟨r12, hr12, hM⟩ := bindE hM
              refine o_call (bs := [.sl .no 1 (r3.1.map cI), .sl (.id (g + 1 + 3 + 8 + 7 + 7 + 8 + 21)) 1 (([3, 2, 0, 1] : List Int).map cI)]) (by decide) rfl rfl ((W_ref01_SameInts hr12).le (.cons (.refl _) (.cons (.sl _ _ _) .nil))) ?_
              refine o_pickT (v := .v (.bool r12)) (e := ((r2.1.Operator == 1488) && ((r2.1.Owner == 525) && ((r2.1.Repaid == 300) && true)))) (by decide) rfl hb11 rfl ?_
              refine o_move (v := .v (.bool r12)) (by decide) rfl ?_
              rcases Bool.eq_false_or_eq_true r12 with hb13 | hb13
              · replace hM := ifT hM hb13
                refine o_guardY (j := 24) (e := r12) (want := true) rfl hb13 ?_
                refine o_move (v := .v (.int .i64 r4.1)) (by decide) rfl ?_
                refine o_guardY (j := 24) (e := r12) (want := true) rfl hb13 ?_
                refine o_int (v := .v (.bool (r4.1 == 3))) (by decide) rfl rfl rfl ?_
                refine o_pickT (v := .v (.bool (r4.1 == 3))) (e := r12) (by decide) rfl hb13 rfl ?_
                refine o_move (v := .v (.bool (r4.1 == 3))) (by decide) rfl ?_
                rcases Bool.eq_false_or_eq_true (r4.1 == 3) with hb14 | hb14
                · replace hM := ifT hM hb14
                  refine o_guardY (j := 28) (e := (r4.1 == 3)) (want := true) rfl hb14 ?_
                  refine o_load (v := .agg [.v (.int .i64 r5.1.Operator), .v (.int .i64 r5.1.Owner), .v (.int .i64 r5.1.Repaid)]) 1 hS (by decide) rfl rfl .no (part_agg ty_agg41 (Nat.le_of_ble_eq_true rfl) rfl) ?_
                  refine o_guardY (j := 28) (e := (r4.1 == 3)) (want := true) rfl hb14 ?_
                  refine o_build (cs := [.v (.int .i64 1448), .v (.int .i64 565), .v (.int .i64 300)]) (by decide) ty_zero41 ty_pl41 rfl ?_
                  refine o_guardY (j := 28) (e := (r4.1 == 3)) (want := true) rfl hb14 ?_
                  refine o_eqS (cs := [.v (.int .i64 r5.1.Operator), .v (.int .i64 r5.1.Owner), .v (.int .i64 r5.1.Repaid)]) (ds := [.v (.int .i64 1448), .v (.int .i64 565), .v (.int .i64 300)]) (e := ((r5.1.Operator == 1448) && ((r5.1.Owner == 565) && ((r5.1.Repaid == 300) && true)))) (by decide) rfl rfl ty_flat41 rfl ?_
                  refine o_pickT (v := .v (.bool ((r5.1.Operator == 1448) && ((r5.1.Owner == 565) && ((r5.1.Repaid == 300) && true))))) (e := (r4.1 == 3)) (by decide) rfl hb14 rfl ?_
                  refine o_assign (v := .v (.bool ((r5.1.Operator == 1448) && ((r5.1.Owner == 565) && ((r5.1.Repaid == 300) && true))))) (by decide) rfl ?_
                  refine run_nil ?_
                  exact w_goto ((r5.1.Operator == 1448) && ((r5.1.Owner == 565) && ((r5.1.Repaid == 300) && true))) (.cons (.refl _) .nil) ⟨(hS.keep [false, false, false] rfl).up (by omega), hM⟩
                · replace hM := ifF hM hb14
                  refine o_guardN (j := 28) (e := (r4.1 == 3)) (want := true) (by decide) rfl hb14 ?_
                  refine o_guardN (j := 28) (e := (r4.1 == 3)) (want := true) (by decide) rfl hb14 ?_
                  refine o_guardN (j := 28) (e := (r4.1 == 3)) (want := true) (by decide) rfl hb14 ?_
                  refine o_pickF (v := .v (.bool false)) (e := (r4.1 == 3)) (by decide) rfl hb14 rfl ?_
                  refine o_assign (v := .v (.bool false)) (by decide) rfl ?_
                  refine run_nil ?_
                  exact w_goto false (.cons (.refl _) .nil) ⟨(hS.keep [false, false, false] rfl).up (by omega), hM⟩
              · replace hM := ifF hM hb13
                refine o_guardN (j := 24) (e := r12) (want := true) (by decide) rfl hb13 ?_
                refine o_guardN (j := 24) (e := r12) (want := true) (by decide) rfl hb13 ?_
                refine o_pickF (v := .v (.bool false)) (e := r12) (by decide) rfl hb13 rfl ?_
                refine o_move (v := .v (.bool false)) (by decide) rfl ?_
                refine o_guardN (j := 28) (e := false) (want := true) (by decide) rfl rfl ?_
                refine o_guardN (j := 28) (e := false) (want := true) (by decide) rfl rfl ?_
                refine o_guardN (j := 28) (e := false) (want := true) (by decide) rfl rfl ?_
                refine o_pickF (v := .v (.bool false)) (e := false) (by decide) rfl rfl rfl ?_
                refine o_assign (v := .v (.bool false)) (by decide) rfl ?_
                refine run_nil ?_
                exact w_goto false (.cons (.refl _) .nil) ⟨(hS.keep [false, false, false] rfl).up (by omega), hM⟩
            · replace hM := ifF hM hb11
              refine o_guardN (j := 19) (e := ((r2.1.Operator == 1488) && ((r2.1.Owner == 525) && ((r2.1.Repaid == 300) && true)))) (want := true) (by decide) rfl hb11 ?_
              refine o_guardN (j := 19) (e := ((r2.1.Operator == 1488) && ((r2.1.Owner == 525) && ((r2.1.Repaid == 300) && true)))) (want := true) (by decide) rfl hb11 ?_
              refine o_guardN (j := 19) (e := ((r2.1.Operator == 1488) && ((r2.1.Owner == 525) && ((r2.1.Repaid == 300) && true)))) (want := true) (by decide) rfl hb11 ?_
              refine o_pickF (v := .v (.bool false)) (e := ((r2.1.Operator == 1488) && ((r2.1.Owner == 525) && ((r2.1.Repaid == 300) && true)))) (by decide) rfl hb11 rfl ?_
              refine o_move (v := .v (.bool false)) (by decide) rfl ?_
              refine o_guardN (j := 24) (e := false) (want := true) (by decide) rfl rfl ?_
              refine o_guardN (j := 24) (e := false) (want := true) (by decide) rfl rfl ?_
              refine o_pickF (v := .v (.bool false)) (e := false) (by decide) rfl rfl rfl ?_
              refine o_move (v := .v (.bool false)) (by decide) rfl ?_
              refine o_guardN (j := 28) (e := false) (want := true) (by decide) rfl rfl ?_
              refine o_guardN (j := 28) (e := false) (want := true) (by decide) rfl rfl ?_
              refine o_guardN (j := 28) (e := false) (want := true) (by decide) rfl rfl ?_
              refine o_pickF (v := .v (.bool false)) (e := false) (by decide) rfl rfl rfl ?_
              refine o_assign (v := .v (.bool false)) (by decide) rfl ?_
              refine run_nil ?_
              exact w_goto false (.cons (.refl _) .nil) ⟨(hS.keep [false, false] rfl).up (by omega), hM⟩
          · replace hM := ifF hM hb10
            refine o_guardN (j := 14) (e := (r5.2 == 0)) (want := true) (by decide) rfl hb10 ?_
            refine o_guardN (j := 14) (e := (r5.2 == 0)) (want := true) (by decide) rfl hb10 ?_
            refine o_guardN (j := 14) (e := (r5.2 == 0)) (want := true) (by decide) rfl hb10 ?_
            refine o_pickF (v := .v (.bool false)) (e := (r5.2 == 0)) (by decide) rfl hb10 rfl ?_
            refine o_move (v := .v (.bool false)) (by decide) rfl ?_
            refine o_guardN (j := 19) (e := false) (want := true) (by decide) rfl rfl ?_
            refine o_guardN (j := 19) (e := false) (want := true) (by decide) rfl rfl ?_
            refine o_guardN (j := 19) (e := false) (want := true) (by decide) rfl rfl ?_
            refine o_pickF (v := .v (.bool false)) (e := false) (by decide) rfl rfl rfl ?_
            refine o_move (v := .v (.bool false)) (by decide) rfl ?_
            refine o_guardN (j := 24) (e := false) (want := true) (by decide) rfl rfl ?_
            refine o_guardN (j := 24) (e := false) (want := true) (by decide) rfl rfl ?_
            refine o_pickF (v := .v (.bool false)) (e := false) (by decide) rfl rfl rfl ?_
            refine o_move (v := .v (.bool false)) (by decide) rfl ?_
            refine o_guardN (j := 28) (e := false) (want := true) (by decide) rfl rfl ?_
            refine o_guardN (j := 28) (e := false) (want := true) (by decide) rfl rfl ?_
            refine o_guardN (j := 28) (e := false) (want := true) (by decide) rfl rfl ?_
            refine o_pickF (v := .v (.bool false)) (e := false) (by decide) rfl rfl rfl ?_
            refine o_assign (v := .v (.bool false)) (by decide) rfl ?_
            refine run_nil ?_
            exact w_goto false (.cons (.refl _) .nil) ⟨(hS.keep [false, false] rfl).up (by omega), hM⟩
        · replace hM := ifF hM hb9
          refine o_guardN (j := 10) (e := (r4.2 == 0)) (want := true) (by decide) rfl hb9 ?_
          refine o_guardN (j := 10) (e := (r4.2 == 0)) (want := true) (by decide) rfl hb9 ?_
          refine o_pickF (v := .v (.bool false)) (e := (r4.2 == 0)) (by decide) rfl hb9 rfl ?_
          refine o_move (v := .v (.bool false)) (by decide) rfl ?_
          refine o_guardN (j := 14) (e := false) (want := true) (by decide) rfl rfl ?_
          refine o_guardN (j := 14) (e := false) (want := true) (by decide) rfl rfl ?_
          refine o_guardN (j := 14) (e := false) (want := true) (by decide) rfl rfl ?_
          refine o_pickF (v := .v (.bool false)) (e := false) (by decide) rfl rfl rfl ?_
          refine o_move (v := .v (.bool false)) (by decide) rfl ?_
          refine o_guardN (j := 19) (e := false) (want := true) (by decide) rfl rfl ?_
          refine o_guardN (j := 19) (e := false) (want := true) (by decide) rfl rfl ?_
          refine o_guardN (j := 19) (e := false) (want := true) (by decide) rfl rfl ?_
          refine o_pickF (v := .v (.bool false)) (e := false) (by decide) rfl rfl rfl ?_
          refine o_move (v := .v (.bool false)) (by decide) rfl ?_
          refine o_guardN (j := 24) (e := false) (want := true) (by decide) rfl rfl ?_
          refine o_guardN (j := 24) (e := false) (want := true) (by decide) rfl rfl ?_
          refine o_pickF (v := .v (.bool false)) (e := false) (by decide) rfl rfl rfl ?_
          refine o_move (v := .v (.bool false)) (by decide) rfl ?_
          refine o_guardN (j := 28) (e := false) (want := true) (by decide) rfl rfl ?_
          refine o_guardN (j := 28) (e := false) (want := true) (by decide) rfl rfl ?_
          refine o_guardN (j := 28) (e := false) (want := true) (by decide) rfl rfl ?_
          refine o_pickF (v := .v (.bool false)) (e := false) (by decide) rfl rfl rfl ?_
          refine o_assign (v := .v (.bool false)) (by decide) rfl ?_
          refine run_nil ?_
          exact w_goto false (.cons (.refl _) .nil) ⟨(hS.keep [false, false] rfl).up (by omega), hM⟩
      · replace hM := ifF hM hb8
        refine o_guardN (j := 6) (e := (r3.2 == 0)) (want := true) (by decide) rfl hb8 ?_
        refine o_guardN (j := 6) (e := (r3.2 == 0)) (want := true) (by decide) rfl hb8 ?_
        refine o_pickF (v := .v (.bool false)) (e := (r3.2 == 0)) (by decide) rfl hb8 rfl ?_
        refine o_move (v := .v (.bool false)) (by decide) rfl ?_
        refine o_guardN (j := 10) (e := false) (want := true) (by decide) rfl rfl ?_
        refine o_guardN (j := 10) (e := false) (want := true) (by decide) rfl rfl ?_
        refine o_pickF (v := .v (.bool false)) (e := false) (by decide) rfl rfl rfl ?_
        refine o_move (v := .v (.bool false)) (by decide) rfl ?_
        refine o_guardN (j := 14) (e := false) (want := true) (by decide) rfl rfl ?_
        refine o_guardN (j := 14) (e := false) (want := true) (by decide) rfl rfl ?_
        refine o_guardN (j := 14) (e := false) (want := true) (by decide) rfl rfl ?_
        refine o_pickF (v := .v (.bool false)) (e := false) (by decide) rfl rfl rfl ?_
        refine o_move (v := .v (.bool false)) (by decide) rfl ?_
        refine o_guardN (j := 19) (e := false) (want := true) (by decide) rfl rfl ?_
        refine o_guardN (j := 19) (e := false) (want := true) (by decide) rfl rfl ?_
        refine o_guardN (j := 19) (e := false) (want := true) (by decide) rfl rfl ?_
        refine o_pickF (v := .v (.bool false)) (e := false) (by decide) rfl rfl rfl ?_
        refine o_move (v := .v (.bool false)) (by decide) rfl ?_
        refine o_guardN (j := 24) (e := false) (want := true) (by decide) rfl rfl ?_
        refine o_guardN (j := 24) (e := false) (want := true) (by decide) rfl rfl ?_
        refine o_pickF (v := .v (.bool false)) (e := false) (by decide) rfl rfl rfl ?_
        refine o_move (v := .v (.bool false)) (by decide) rfl ?_
        refine o_guardN (j := 28) (e := false) (want := true) (by decide) rfl rfl ?_
        refine o_guardN (j := 28) (e := false) (want := true) (by decide) rfl rfl ?_
        refine o_guardN (j := 28) (e := false) (want := true) (by decide) rfl rfl ?_
        refine o_pickF (v := .v (.bool false)) (e := false) (by decide) rfl rfl rfl ?_
        refine o_assign (v := .v (.bool false)) (by decide) rfl ?_
        refine run_nil ?_
        exact w_goto false (.cons (.refl _) .nil) ⟨(hS.keep [false, false] rfl).up (by omega), hM⟩
    · replace hM := ifF hM hb7
      refine o_guardN (j := 2) (e := (r2.2 == 0)) (want := true) (by decide) rfl hb7 ?_
      refine o_guardN (j := 2) (e := (r2.2 == 0)) (want := true) (by decide) rfl hb7 ?_
      refine o_pickF (v := .v (.bool false)) (e := (r2.2 == 0)) (by decide) rfl hb7 rfl ?_
      refine o_move (v := .v (.bool false)) (by decide) rfl ?_
      refine o_guardN (j := 6) (e := false) (want := true) (by decide) rfl rfl ?_
      refine o_guardN (j := 6) (e := false) (want := true) (by decide) rfl rfl ?_
      refine o_pickF (v := .v (.bool false)) (e := false) (by decide) rfl rfl rfl ?_
      refine o_move (v := .v (.bool false)) (by decide) rfl ?_
      refine o_guardN (j := 10) (e := false) (want := true) (by decide) rfl rfl ?_
      refine o_guardN (j := 10) (e := false) (want := true) (by decide) rfl rfl ?_
      refine o_pickF (v := .v (.bool false)) (e := false) (by decide) rfl rfl rfl ?_
      refine o_move (v := .v (.bool false)) (by decide) rfl ?_
      refine o_guardN (j := 14) (e := false) (want := true) (by decide) rfl rfl ?_
      refine o_guardN (j := 14) (e := false) (want := true) (by decide) rfl rfl ?_
      refine o_guardN (j := 14) (e := false) (want := true) (by decide) rfl rfl ?_
      refine o_pickF (v := .v (.bool false)) (e := false) (by decide) rfl rfl rfl ?_
      refine o_move (v := .v (.bool false)) (by decide) rfl ?_
      refine o_guardN (j := 19) (e := false) (want := true) (by decide) rfl rfl ?_
      refine o_guardN (j := 19) (e := false) (want := true) (by decide) rfl rfl ?_
      refine o_guardN (j := 19) (e := false) (want := true) (by decide) rfl rfl ?_
      refine o_pickF (v := .v (.bool false)) (e := false) (by decide) rfl rfl rfl ?_
      refine o_move (v := .v (.bool false)) (by decide) rfl ?_
      refine o_guardN (j := 24) (e := false) (want := true) (by decide) rfl rfl ?_
      refine o_guardN (j := 24) (e := false) (want := true) (by decide) rfl rfl ?_
      refine o_pickF (v := .v (.bool false)) (e := false) (by decide) rfl rfl rfl ?_
      refine o_move (v := .v (.bool false)) (by decide) rfl ?_
      refine o_guardN (j := 28) (e := false) (want := true) (by decide) rfl rfl ?_
      refine o_guardN (j := 28) (e := false) (want := true) (by decide) rfl rfl ?_
      refine o_guardN (j := 28) (e := false) (want := true) (by decide) rfl rfl ?_
      refine o_pickF (v := .v (.bool false)) (e := false) (by decide) rfl rfl rfl ?_
      refine o_assign (v := .v (.bool false)) (by decide) rfl ?_
      refine run_nil ?_
      exact w_goto false (.cons (.refl _) .nil) ⟨(hS.keep [false, false] rfl).up (by omega), hM⟩
theorem W_ref01_Within {a0 : Int} {a1 : Int} {a2 : Int} {r : Bool} (hM : ref01_Within a0 a1 a2 = some r) : PureSat Try.prog 71 [.v (.int .i64 a0), .v (.int .i64 a1), .v (.int .i64 a2)] (.v (.bool r)) := by
  refine pure_of_wp mixed Try.func71 rfl (by decide) Try.ntmps71 (by simp) ?pure fun H0 g hf => ?_
  case pure => exact .v _
  rw [frame0_of]
  change wpA _ _ _ _ (Fr.of [(0, .v (.int .i64 a0)), (1, .v (.int .i64 a1)), (2, .v (.int .i64 a2))]) H0 g
  have hS := St.start hf
  refine r_seq ?_
  refine r_region (n := 1) rfl ?_
  refine o_assign (v := .v (.bool false)) (by decide) rfl ?_
  refine run_nil ?_
  refine w_next [(0, .v (.int .i64 a0)), (1, .v (.int .i64 a1)), (2, .v (.int .i64 a2))] (.cons (.refl _) (.cons (.refl _) (.cons (.refl _) .nil))) ?_
  refine w_join (J := Bool) (fun j => [(6, .v (.bool j))]) (fun j H' g' => St (· < g) H0 [] H' g' ∧ ref01_Within_j1 j = some r) ?_ ?_
  · rintro v1 H g1 ⟨hS, hM⟩
    change wpA _ _ _ _ (Fr.of [(6, .v (.bool v1))]) _ _
    replace hS : St (· < g) H0 [] H g1 := hS
    replace hM : ref01_Within_j1 v1 = some r := hM
    refine r_ret ?_
    refine w_end (x := .v (.bool v1)) (f := fun r => .v (.bool r)) (.inr rfl) ?_ (.refl _) (Option.some.inj hM) hS
    exact (res_one (res_tmp (x := .v (.bool v1)) rfl))
  · refine r_region (n := 9) rfl ?_
    refine o_move (v := .v (.int .i64 a0)) (by decide) rfl ?_
    refine o_move (v := .v (.int .i64 a1)) (by decide) rfl ?_
    refine o_int (v := .v (.bool (decide (a0 ≥ a1)))) (by decide) rfl rfl rfl ?_
    refine o_move (v := .v (.bool (decide (a0 ≥ a1)))) (by decide) rfl ?_
    rcases Bool.eq_false_or_eq_true (decide (a0 ≥ a1)) with hb2 | hb2
    · replace hM := ifT hM hb2
      refine o_guardY (j := 3) (e := (decide (a0 ≥ a1))) (want := true) rfl hb2 ?_
      refine o_move (v := .v (.int .i64 a0)) (by decide) rfl ?_
      refine o_guardY (j := 3) (e := (decide (a0 ≥ a1))) (want := true) rfl hb2 ?_
      refine o_move (v := .v (.int .i64 a2)) (by decide) rfl ?_
      refine o_guardY (j := 3) (e := (decide (a0 ≥ a1))) (want := true) rfl hb2 ?_
      refine o_int (v := .v (.bool (decide (a0 ≤ a2)))) (by decide) rfl rfl rfl ?_
      refine o_pickT (v := .v (.bool (decide (a0 ≤ a2)))) (e := (decide (a0 ≥ a1))) (by decide) rfl hb2 rfl ?_
      refine o_assign (v := .v (.bool (decide (a0 ≤ a2)))) (by decide) rfl ?_
      refine run_nil ?_
      exact w_goto (decide (a0 ≤ a2)) (.cons (.refl _) .nil) ⟨(hS.keep [] rfl).up (by omega), hM⟩
    · replace hM := ifF hM hb2
      refine o_guardN (j := 3) (e := (decide (a0 ≥ a1))) (want := true) (by decide) rfl hb2 ?_
      refine o_guardN (j := 3) (e := (decide (a0 ≥ a1))) (want := true) (by decide) rfl hb2 ?_
      refine o_guardN (j := 3) (e := (decide (a0 ≥ a1))) (want := true) (by decide) rfl hb2 ?_
      refine o_pickF (v := .v (.bool false)) (e := (decide (a0 ≥ a1))) (by decide) rfl hb2 rfl ?_
      refine o_assign (v := .v (.bool false)) (by decide) rfl ?_
      refine run_nil ?_
      exact w_goto false (.cons (.refl _) .nil) ⟨(hS.keep [] rfl).up (by omega), hM⟩
theorem W_ref09_within {a0 : Int} {a1 : Int} {a2 : Int} {r : Bool} (hM : ref09_within a0 a1 a2 = some r) : PureSat Try.prog 57 [.v (.int .i64 a0), .v (.int .i64 a1), .v (.int .i64 a2)] (.v (.bool r)) := by
  refine pure_of_wp mixed Try.func57 rfl (by decide) Try.ntmps57 (by simp) ?pure fun H0 g hf => ?_
  case pure => exact .v _
  rw [frame0_of]
  change wpA _ _ _ _ (Fr.of [(0, .v (.int .i64 a0)), (1, .v (.int .i64 a1)), (2, .v (.int .i64 a2))]) H0 g
  have hS := St.start hf
  refine r_seq ?_
  refine r_region (n := 1) rfl ?_
  refine o_assign (v := .v (.bool false)) (by decide) rfl ?_
  refine run_nil ?_
  refine w_next [(0, .v (.int .i64 a0)), (1, .v (.int .i64 a1)), (2, .v (.int .i64 a2))] (.cons (.refl _) (.cons (.refl _) (.cons (.refl _) .nil))) ?_
  refine r_seq ?_
  refine r_region (n := 5) rfl ?_
  refine o_move (v := .v (.int .i64 a0)) (by decide) rfl ?_
  refine o_move (v := .v (.int .i64 a1)) (by decide) rfl ?_
  refine o_move (v := .v (.int .i64 a2)) (by decide) rfl ?_
  obtain ⟨r1, hr1, hM⟩ := bindE hM
  refine o_call (bs := [.v (.int .i64 a0), .v (.int .i64 a1), .v (.int .i64 a2)]) (by decide) rfl rfl ((W_ref01_Within hr1).le (.cons (.refl _) (.cons (.refl _) (.cons (.refl _) .nil)))) ?_
  refine o_assign (v := .v (.bool r1)) (by decide) rfl ?_
  refine run_nil ?_
  refine w_next [(6, .v (.bool r1))] (.cons (.refl _) .nil) ?_
  refine r_ret ?_
  refine w_end (x := .v (.bool r1)) (f := fun r => .v (.bool r)) (.inr rfl) ?_ (.refl _) (Option.some.inj hM) hS
  exact (res_one (res_tmp (x := .v (.bool r1)) rfl))
theorem W_ref09_IsCents {a0 : Int} {r : Bool} (hM : ref09_IsCents a0 = some r) : PureSat Try.prog 24 [.v (.int .i64 a0)] (.v (.bool r)) := by
  refine pure_of_wp mixed Try.func24 rfl (by decide) Try.ntmps24 (by simp) ?pure fun H0 g hf => ?_
  case pure => exact .v _
  rw [frame0_of]
  change wpA _ _ _ _ (Fr.of [(0, .v (.int .i64 a0))]) H0 g
  have hS := St.start hf
  refine r_seq ?_
  refine r_region (n := 1) rfl ?_
  refine o_assign (v := .v (.bool false)) (by decide) rfl ?_
  refine run_nil ?_
  refine w_next [(0, .v (.int .i64 a0))] (.cons (.refl _) .nil) ?_
  refine r_seq ?_
  refine r_region (n := 3) rfl ?_
  refine o_move (v := .v (.int .i64 a0)) (by decide) rfl ?_
  obtain ⟨r1, hr1, hM⟩ := bindE hM
  refine o_call (bs := [.v (.int .i64 a0), .v (.int .i64 0), .v (.int .i64 9999)]) (by decide) rfl rfl ((W_ref09_within hr1).le (.cons (.refl _) (.cons (.refl _) (.cons (.refl _) .nil)))) ?_
  refine o_assign (v := .v (.bool r1)) (by decide) rfl ?_
  refine run_nil ?_
  refine w_next [(2, .v (.bool r1))] (.cons (.refl _) .nil) ?_
  refine r_ret ?_
  refine w_end (x := .v (.bool r1)) (f := fun r => .v (.bool r)) (.inr rfl) ?_ (.refl _) (Option.some.inj hM) hS
  exact (res_one (res_tmp (x := .v (.bool r1)) rfl))
theorem W_ref09_Check {n : Nat} {a0 : Share} {r : Int} (hM : ref09_Check n a0 = some r) : PureSat Try.prog 39 [.agg [.sl .no 4 (a0.Clauses.map Clause.cells), .v (.int .i64 a0.Loan)]] (.v (.int .i64 r)) := by
  refine pure_of_wp mixed Try.func39 rfl (by decide) Try.ntmps39 (by simp) ?pure fun H0 g hf => ?_
  case pure => exact .v _
  rw [frame0_of]
  change wpA _ _ _ _ (Fr.of [(0, .agg [.sl .no 4 (a0.Clauses.map Clause.cells), .v (.int .i64 a0.Loan)])]) H0 g
  have hS := St.start hf
  refine r_seq ?_
  refine r_region (n := 2) rfl ?_
  refine o_box (v := .agg [.sl .no 4 (a0.Clauses.map Clause.cells), .v (.int .i64 a0.Loan)]) (cs := [.sl .no 4 (a0.Clauses.map Clause.cells), .v (.int .i64 a0.Loan)]) hS (by decide) rfl rfl (by omega) fun H hS => ?_
  refine o_assign (v := .v (.int .i64 0)) (by decide) rfl ?_
  refine run_nil ?_
  refine w_next [(1, .ptr (g + 0) 0)] (.cons (.refl _) .nil) ?_
  refine r_seq ?_
  refine w_join (J := Bool) (fun j => [(1, .ptr (g + 0) 0), (14, .v (.bool j))]) (fun j H' g' => St (· < g) H0 [(g + 0, .cells [.sl .no 4 (a0.Clauses.map Clause.cells), .v (.int .i64 a0.Loan)])] H' g' ∧ ref09_Check_j1 n a0 j = some r) ?_ ?_
  · rintro v1 H g1 ⟨hS, hM⟩
    change wpA _ _ _ _ (Fr.of [(1, .ptr (g + 0) 0), (14, .v (.bool v1))]) _ _
    replace hS : St (· < g) H0 [(g + 0, .cells [.sl .no 4 (a0.Clauses.map Clause.cells), .v (.int .i64 a0.Loan)])] H g1 := hS
    replace hM : ref09_Check_j1 n a0 v1 = some r := hM
    rcases Bool.eq_false_or_eq_true v1 with hb2 | hb2
    · replace hM := ifT hM hb2
      refine w_condT (e := v1) rfl hb2 ?_
      refine r_seq ?_
      refine r_region (n := 1) rfl ?_
      refine o_assign (v := .v (.int .i64 90)) (by decide) rfl ?_
      refine run_nil ?_
      replace hS := hS.keep (L' := []) [false] rfl
      refine w_next [(2, .v (.int .i64 90))] (.cons (.refl _) .nil) ?_
      refine r_ret ?_
      refine r_then_ret ?_
      refine w_end (x := .v (.int .i64 90)) (f := fun r => .v (.int .i64 r)) (.inr rfl) ?_ (.refl _) (Option.some.inj hM) hS
      exact (res_one (res_tmp (x := .v (.int .i64 90)) rfl))
    · replace hM := ifF hM hb2
      refine w_condF (e := v1) rfl hb2 ?_
      refine r_skip ?_
      refine w_next [(1, .ptr (g + 0) 0)] (.cons (.refl _) .nil) ?_
      refine w_join (J := Unit) (fun j => []) (fun j H' g' => St (· < g) H0 [] H' g' ∧ ref09_Check_j2 = some r) ?_ ?_
      · rintro _ H g2 ⟨hS, hM⟩
        change wpA _ _ _ _ (Fr.of []) _ _
        replace hS : St (· < g) H0 [] H g2 := hS
        replace hM : ref09_Check_j2 = some r := hM
        refine r_seq ?_
        refine r_region (n := 1) rfl ?_
        refine o_assign (v := .v (.int .i64 0)) (by decide) rfl ?_
        refine run_nil ?_
        refine w_next [(2, .v (.int .i64 0))] (.cons (.refl _) .nil) ?_
        refine r_ret ?_
        refine w_end (x := .v (.int .i64 0)) (f := fun r => .v (.int .i64 r)) (.inr rfl) ?_ (.refl _) (Option.some.inj hM) hS
        exact (res_one (res_tmp (x := .v (.int .i64 0)) rfl))
      · refine r_seq ?_
        refine r_region (n := 1) rfl ?_
        refine o_assign (v := .v (.int .i64 0)) (by decide) rfl ?_
        refine run_nil ?_
        refine w_next [(1, .ptr (g + 0) 0), (3, .v (.int .i64 0))] (.cons (.refl _) (.cons (.refl _) .nil)) ?_
        refine r_block ?_
        refine w_loop (V := Int) (fun v => [(1, .ptr (g + 0) 0), (3, .v (.int .i64 v))]) (fun v m3 H' g' => St (· < g) H0 [(g + 0, .cells [.sl .no 4 (a0.Clauses.map Clause.cells), .v (.int .i64 a0.Loan)])] H' g' ∧ ref09_Check_l1 a0 m3 v = some r) (n := n) 0 (.cons (.refl _) (.cons (.refl _) .nil)) ⟨(hS.keep [true] rfl).up (by omega), hM⟩ ?_
        rintro v3 m3 H g3 ⟨hS, hM⟩
        obtain _ | m3 := m3
        · exact nomatch (show none = some _ from hM)
        change wpA _ _ _ _ (Fr.of [(1, .ptr (g + 0) 0), (3, .v (.int .i64 v3))]) _ _
        replace hS : St (· < g) H0 [(g + 0, .cells [.sl .no 4 (a0.Clauses.map Clause.cells), .v (.int .i64 a0.Loan)])] H g3 := hS
        replace hM : ref09_Check_l1_b a0 (ref09_Check_l1 a0 m3) v3 = some r := hM
        refine r_seq ?_
        refine r_seq ?_
        refine r_region (n := 5) rfl ?_
        refine o_move (v := .v (.int .i64 v3)) (by decide) rfl ?_
        refine o_fieldP (by decide) ty_fo24_0 rfl ?_
        refine o_load (v := .sl .no 4 (a0.Clauses.map Clause.cells)) 0 hS (by decide) rfl rfl .no (part_one ty_agg22 ty_sc22 rfl) ?_
        refine o_len (n := a0.Clauses.length) (by decide) rfl (List.length_map _) ty_isl22 ?_
        refine o_int (v := .v (.bool (decide (v3 < (a0.Clauses.length : Int))))) (by decide) rfl rfl rfl ?_
        refine run_nil ?_
        refine w_next [(1, .ptr (g + 0) 0), (3, .v (.int .i64 v3)), (19, .v (.bool (decide (v3 < (a0.Clauses.length : Int)))))] (.cons (.refl _) (.cons (.refl _) (.cons (.refl _) .nil))) ?_
        rcases Bool.eq_false_or_eq_true (decide (v3 < (a0.Clauses.length : Int))) with hb4 | hb4
        · replace hM := ifT hM hb4
          refine w_condT (e := (decide (v3 < (a0.Clauses.length : Int)))) rfl hb4 ?_
          refine r_skip ?_
          refine w_next [(1, .ptr (g + 0) 0), (3, .v (.int .i64 v3))] (.cons (.refl _) (.cons (.refl _) .nil)) ?_
          refine r_seq ?_
          refine r_block ?_
          refine r_seq ?_
          refine r_region (n := 7) rfl ?_
          refine o_fieldP (by decide) ty_fo24_0 rfl ?_
          refine o_load (v := .sl .no 4 (a0.Clauses.map Clause.cells)) 0 hS (by decide) rfl rfl .no (part_one ty_agg22 ty_sc22 rfl) ?_
          refine o_move (v := .v (.int .i64 v3)) (by decide) rfl ?_
          obtain ⟨x5, hx5, hM⟩ := bindE hM
          refine o_index (xs := a0.Clauses) (f := Clause.cells) (z := v3) (u := x5) (by decide) rfl rfl ty_es22 hx5 ?_
          refine o_loadE (v := .agg [.v (.int .i64 x5.Kind), .v (.int .i64 x5.Cents), .v (.int .i64 x5.Part), .v (.int .i64 x5.More)]) (by decide) rfl (part_agg ty_agg39 (Nat.le_of_ble_eq_true rfl) rfl) ?_
          refine o_alloc hS (by decide) ty_zero39 (by omega) fun H hS => ?_
          refine o_store (v := .agg [.v (.int .i64 x5.Kind), .v (.int .i64 x5.Cents), .v (.int .i64 x5.Part), .v (.int .i64 x5.More)]) (ns := [.v (.int .i64 x5.Kind), .v (.int .i64 x5.Cents), .v (.int .i64 x5.Part), .v (.int .i64 x5.More)]) (L' := [(g3 + 5 + 5, .cells [.v (.int .i64 x5.Kind), .v (.int .i64 x5.Cents), .v (.int .i64 x5.Part), .v (.int .i64 x5.More)]), (g + 0, .cells [.sl .no 4 (a0.Clauses.map Clause.cells), .v (.int .i64 a0.Loan)])]) 0 hS rfl rfl .no rfl rfl ty_var39 (Nat.le_of_ble_eq_true rfl) rfl fun H hS => ?_
          refine run_nil ?_
          refine w_next [(1, .ptr (g + 0) 0), (3, .v (.int .i64 v3)), (4, .ptr (g3 + 5 + 5) 0)] (.cons (.refl _) (.cons (.refl _) (.cons (.refl _) .nil))) ?_
          refine w_join (J := Bool) (fun j => [(1, .ptr (g + 0) 0), (3, .v (.int .i64 v3)), (48, .v (.bool j))]) (fun j H' g' => St (· < g) H0 [(g + 0, .cells [.sl .no 4 (a0.Clauses.map Clause.cells), .v (.int .i64 a0.Loan)])] H' g' ∧ ref09_Check_j3 (ref09_Check_l1 a0 m3) v3 j = some r) ?_ ?_
          · rintro v6 H g4 ⟨hS, hM⟩
            change wpA _ _ _ _ (Fr.of [(1, .ptr (g + 0) 0), (3, .v (.int .i64 v3)), (48, .v (.bool v6))]) _ _
            replace hS : St (· < g) H0 [(g + 0, .cells [.sl .no 4 (a0.Clauses.map Clause.cells), .v (.int .i64 a0.Loan)])] H g4 := hS
            replace hM : ref09_Check_j3 (ref09_Check_l1 a0 m3) v3 v6 = some r := hM
            rcases Bool.eq_false_or_eq_true v6 with hb7 | hb7
            · replace hM := ifT hM hb7
              refine w_condT (e := v6) rfl hb7 ?_
              refine r_seq ?_
              refine r_region (n := 1) rfl ?_
              refine o_assign (v := .v (.int .i64 90)) (by decide) rfl ?_
              refine run_nil ?_
              replace hS := hS.keep (L' := []) [false] rfl
              refine w_next [(2, .v (.int .i64 90))] (.cons (.refl _) .nil) ?_
              refine r_ret ?_
              refine r_blk_ret ?_
              refine r_then_ret ?_
              refine w_round_ret ?_
              refine r_blk_ret ?_
              refine w_goto_ret ?_
              refine w_end (x := .v (.int .i64 90)) (f := fun r => .v (.int .i64 r)) (.inr rfl) ?_ (.refl _) (Option.some.inj hM) hS
              exact (res_one (res_tmp (x := .v (.int .i64 90)) rfl))
            · replace hM := ifF hM hb7
              refine w_condF (e := v6) rfl hb7 ?_
              refine r_skip ?_
              refine r_blk_normal ?_
              refine w_next [(1, .ptr (g + 0) 0), (3, .v (.int .i64 v3))] (.cons (.refl _) (.cons (.refl _) .nil)) ?_
              refine r_region (n := 3) rfl ?_
              refine o_move (v := .v (.int .i64 v3)) (by decide) rfl ?_
              refine o_int (v := .v (.int .i64 (w64 (v3 + 1)))) (by decide) rfl rfl rfl ?_
              refine o_assign (v := .v (.int .i64 (w64 (v3 + 1)))) (by decide) rfl ?_
              refine run_nil ?_
              exact w_round (w64 (v3 + 1)) (Nat.lt_succ_self _) (.cons (.refl _) (.cons (.refl _) .nil)) ⟨(hS.keep [true] rfl).up (by omega), hM⟩
          · refine r_region (n := 22) rfl ?_
            refine o_fieldP (by decide) ty_fo39_0 rfl ?_
            refine o_load (v := .v (.int .i64 x5.Kind)) 0 hS (by decide) rfl rfl .no (part_one ty_agg3 ty_sc3 rfl) ?_
            obtain ⟨r8, hr8, hM⟩ := bindE hM
            refine o_call (bs := [.v (.int .i64 x5.Kind), .v (.int .i64 1), .v (.int .i64 5)]) (by decide) rfl rfl ((W_ref09_within hr8).le (.cons (.refl _) (.cons (.refl _) (.cons (.refl _) .nil)))) ?_
            refine o_not (e := r8) (by decide) rfl ?_
            refine o_move (v := .v (.bool (!r8))) (by decide) rfl ?_
            rcases Bool.eq_false_or_eq_true (!r8) with hb9 | hb9
            · replace hM := ifT hM hb9
              refine o_guardN (j := 4) (e := (!r8)) (want := false) (by decide) rfl hb9 ?_
              refine o_guardN (j := 4) (e := (!r8)) (want := false) (by decide) rfl hb9 ?_
              refine o_guardN (j := 4) (e := (!r8)) (want := false) (by decide) rfl hb9 ?_
              refine o_guardN (j := 4) (e := (!r8)) (want := false) (by decide) rfl hb9 ?_
              refine o_pickT (v := .v (.bool true)) (e := (!r8)) (by decide) rfl hb9 rfl ?_
              refine o_move (v := .v (.bool true)) (by decide) rfl ?_
              refine o_guardN (j := 10) (e := true) (want := false) (by decide) rfl rfl ?_
              refine o_guardN (j := 10) (e := true) (want := false) (by decide) rfl rfl ?_
              refine o_guardN (j := 10) (e := true) (want := false) (by decide) rfl rfl ?_
              refine o_guardN (j := 10) (e := true) (want := false) (by decide) rfl rfl ?_
              refine o_pickT (v := .v (.bool true)) (e := true) (by decide) rfl rfl rfl ?_
              refine o_move (v := .v (.bool true)) (by decide) rfl ?_
              refine o_guardN (j := 16) (e := true) (want := false) (by decide) rfl rfl ?_
              refine o_guardN (j := 16) (e := true) (want := false) (by decide) rfl rfl ?_
              refine o_guardN (j := 16) (e := true) (want := false) (by decide) rfl rfl ?_
              refine o_guardN (j := 16) (e := true) (want := false) (by decide) rfl rfl ?_
              refine o_pickT (v := .v (.bool true)) (e := true) (by decide) rfl rfl rfl ?_
              refine run_nil ?_
              exact w_goto true (.cons (.refl _) (.cons (.refl _) (.cons (.refl _) .nil))) ⟨(hS.keep [false, true] rfl).up (by omega), hM⟩
            · replace hM := ifF hM hb9
              refine o_guardY (j := 4) (e := (!r8)) (want := false) rfl hb9 ?_
              refine o_fieldP (by decide) ty_fo39_1 rfl ?_
              refine o_guardY (j := 4) (e := (!r8)) (want := false) rfl hb9 ?_
              refine o_load (v := .v (.int .i64 x5.Cents)) 0 hS (by decide) rfl rfl .no (part_one ty_agg3 ty_sc3 rfl) ?_
              refine o_guardY (j := 4) (e := (!r8)) (want := false) rfl hb9 ?_
              obtain ⟨r10, hr10, hM⟩ := bindE hM
              refine o_call (bs := [.v (.int .i64 x5.Cents)]) (by decide) rfl rfl ((W_ref09_IsCents hr10).le (.cons (.refl _) .nil)) ?_
              refine o_guardY (j := 4) (e := (!r8)) (want := false) rfl hb9 ?_
              refine o_not (e := r10) (by decide) rfl ?_
              refine o_pickF (v := .v (.bool (!r10))) (e := (!r8)) (by decide) rfl hb9 rfl ?_
              refine o_move (v := .v (.bool (!r10))) (by decide) rfl ?_
              rcases Bool.eq_false_or_eq_true (!r10) with hb11 | hb11
              · replace hM := ifT hM hb11
                refine o_guardN (j := 10) (e := (!r10)) (want := false) (by decide) rfl hb11 ?_
                refine o_guardN (j := 10) (e := (!r10)) (want := false) (by decide) rfl hb11 ?_
                refine o_guardN (j := 10) (e := (!r10)) (want := false) (by decide) rfl hb11 ?_
                refine o_guardN (j := 10) (e := (!r10)) (want := false) (by decide) rfl hb11 ?_
                refine o_pickT (v := .v (.bool true)) (e := (!r10)) (by decide) rfl hb11 rfl ?_
                refine o_move (v := .v (.bool true)) (by decide) rfl ?_
                refine o_guardN (j := 16) (e := true) (want := false) (by decide) rfl rfl ?_
                refine o_guardN (j := 16) (e := true) (want := false) (by decide) rfl rfl ?_
                refine o_guardN (j := 16) (e := true) (want := false) (by decide) rfl rfl ?_
                refine o_guardN (j := 16) (e := true) (want := false) (by decide) rfl rfl ?_
                refine o_pickT (v := .v (.bool true)) (e := true) (by decide) rfl rfl rfl ?_
                refine run_nil ?_
                exact w_goto true (.cons (.refl _) (.cons (.refl _) (.cons (.refl _) .nil))) ⟨(hS.keep [false, true] rfl).up (by omega), hM⟩
              · replace hM := ifF hM hb11
                refine o_guardY (j := 10) (e := (!r10)) (want := false) rfl hb11 ?_
                refine o_fieldP (by decide) ty_fo39_2 rfl ?_
                refine o_guardY (j := 10) (e := (!r10)) (want := false) rfl hb11 ?_
                refine o_load (v := .v (.int .i64 x5.Part)) 0 hS (by decide) rfl rfl .no (part_one ty_agg3 ty_sc3 rfl) ?_
                refine o_guardY (j := 10) (e := (!r10)) (want := false) rfl hb11 ?_
                obtain ⟨r12, hr12, hM⟩ := bindE hM
                refine o_call (bs := [.v (.int .i64 x5.Part), .v (.int .i64 0), .v (.int .i64 100)]) (by decide) rfl rfl ((W_ref09_within hr12).le (.cons (.refl _) (.cons (.refl _) (.cons (.refl _) .nil)))) ?_
                refine o_guardY (j := 10) (e := (!r10)) (want := false) rfl hb11 ?_
                refine o_not (e := r12) (by decide) rfl ?_
                refine o_pickF (v := .v (.bool (!r12))) (e := (!r10)) (by decide) rfl hb11 rfl ?_
                refine o_move (v := .v (.bool (!r12))) (by decide) rfl ?_
                rcases Bool.eq_false_or_eq_true (!r12) with hb13 | hb13
                · replace hM := ifT hM hb13
                  refine o_guardN (j := 16) (e := (!r12)) (want := false) (by decide) rfl hb13 ?_
                  refine o_guardN (j := 16) (e := (!r12)) (want := false) (by decide) rfl hb13 ?_
                  refine o_guardN (j := 16) (e := (!r12)) (want := false) (by decide) rfl hb13 ?_
                  refine o_guardN (j := 16) (e := (!r12)) (want := false) (by decide) rfl hb13 ?_
                  refine o_pickT (v := .v (.bool true)) (e := (!r12)) (by decide) rfl hb13 rfl ?_
                  refine run_nil ?_
                  exact w_goto true (.cons (.refl _) (.cons (.refl _) (.cons (.refl _) .nil))) ⟨(hS.keep [false, true] rfl).up (by omega), hM⟩
                · replace hM := ifF hM hb13
                  refine o_guardY (j := 16) (e := (!r12)) (want := false) rfl hb13 ?_
                  refine o_fieldP (by decide) ty_fo39_3 rfl ?_
                  refine o_guardY (j := 16) (e := (!r12)) (want := false) rfl hb13 ?_
                  refine o_load (v := .v (.int .i64 x5.More)) 0 hS (by decide) rfl rfl .no (part_one ty_agg3 ty_sc3 rfl) ?_
                  refine o_guardY (j := 16) (e := (!r12)) (want := false) rfl hb13 ?_
                  obtain ⟨r14, hr14, hM⟩ := bindE hM
                  refine o_call (bs := [.v (.int .i64 x5.More), .v (.int .i64 0), .v (.int .i64 100)]) (by decide) rfl rfl ((W_ref09_within hr14).le (.cons (.refl _) (.cons (.refl _) (.cons (.refl _) .nil)))) ?_
                  refine o_guardY (j := 16) (e := (!r12)) (want := false) rfl hb13 ?_
                  refine o_not (e := r14) (by decide) rfl ?_
                  refine o_pickF (v := .v (.bool (!r14))) (e := (!r12)) (by decide) rfl hb13 rfl ?_
                  refine run_nil ?_
                  exact w_goto (!r14) (.cons (.refl _) (.cons (.refl _) (.cons (.refl _) .nil))) ⟨(hS.keep [false, true] rfl).up (by omega), hM⟩
        · replace hM := ifF hM hb4
          refine w_condF (e := (decide (v3 < (a0.Clauses.length : Int)))) rfl hb4 ?_
          refine r_exit ?_
          refine r_then_exit ?_
          refine w_round_exit ?_
          refine r_blk_exit ?_
          exact w_goto () .nil ⟨(hS.keep [false] rfl).up (by omega), hM⟩
  · refine r_region (n := 10) rfl ?_
    refine o_fieldP (by decide) ty_fo24_0 rfl ?_
    refine o_load (v := .sl .no 4 (a0.Clauses.map Clause.cells)) 0 hS (by decide) rfl rfl .no (part_one ty_agg22 ty_sc22 rfl) ?_
    refine o_len (n := a0.Clauses.length) (by decide) rfl (List.length_map _) ty_isl22 ?_
    refine o_int (v := .v (.bool (decide ((a0.Clauses.length : Int) > 5)))) (by decide) rfl rfl rfl ?_
    refine o_move (v := .v (.bool (decide ((a0.Clauses.length : Int) > 5)))) (by decide) rfl ?_
    rcases Bool.eq_false_or_eq_true (decide ((a0.Clauses.length : Int) > 5)) with hb15 | hb15
    · replace hM := ifT hM hb15
      refine o_guardN (j := 4) (e := (decide ((a0.Clauses.length : Int) > 5))) (want := false) (by decide) rfl hb15 ?_
      refine o_guardN (j := 4) (e := (decide ((a0.Clauses.length : Int) > 5))) (want := false) (by decide) rfl hb15 ?_
      refine o_guardN (j := 4) (e := (decide ((a0.Clauses.length : Int) > 5))) (want := false) (by decide) rfl hb15 ?_
      refine o_guardN (j := 4) (e := (decide ((a0.Clauses.length : Int) > 5))) (want := false) (by decide) rfl hb15 ?_
      refine o_pickT (v := .v (.bool true)) (e := (decide ((a0.Clauses.length : Int) > 5))) (by decide) rfl hb15 rfl ?_
      refine run_nil ?_
      exact w_goto true (.cons (.refl _) (.cons (.refl _) .nil)) ⟨(hS.keep [true] rfl).up (by omega), hM⟩
    · replace hM := ifF hM hb15
      refine o_guardY (j := 4) (e := (decide ((a0.Clauses.length : Int) > 5))) (want := false) rfl hb15 ?_
      refine o_fieldP (by decide) ty_fo24_1 rfl ?_
      refine o_guardY (j := 4) (e := (decide ((a0.Clauses.length : Int) > 5))) (want := false) rfl hb15 ?_
      refine o_load (v := .v (.int .i64 a0.Loan)) 0 hS (by decide) rfl rfl .no (part_one ty_agg3 ty_sc3 rfl) ?_
      refine o_guardY (j := 4) (e := (decide ((a0.Clauses.length : Int) > 5))) (want := false) rfl hb15 ?_
      obtain ⟨r16, hr16, hM⟩ := bindE hM
      refine o_call (bs := [.v (.int .i64 a0.Loan)]) (by decide) rfl rfl ((W_ref09_IsCents hr16).le (.cons (.refl _) .nil)) ?_
      refine o_guardY (j := 4) (e := (decide ((a0.Clauses.length : Int) > 5))) (want := false) rfl hb15 ?_
      refine o_not (e := r16) (by decide) rfl ?_
      refine o_pickF (v := .v (.bool (!r16))) (e := (decide ((a0.Clauses.length : Int) > 5))) (by decide) rfl hb15 rfl ?_
      refine run_nil ?_
      exact w_goto (!r16) (.cons (.refl _) (.cons (.refl _) .nil)) ⟨(hS.keep [true] rfl).up (by omega), hM⟩
theorem W_law09_isShare {n : Nat} {a0 : Share} {r : Bool} (hM : law09_isShare n a0 = some r) : PureSat Try.prog 23 [.agg [.sl .no 4 (a0.Clauses.map Clause.cells), .v (.int .i64 a0.Loan)]] (.v (.bool r)) := by
  refine pure_of_wp mixed Try.func23 rfl (by decide) Try.ntmps23 (by simp) ?pure fun H0 g hf => ?_
  case pure => exact .v _
  rw [frame0_of]
  change wpA _ _ _ _ (Fr.of [(0, .agg [.sl .no 4 (a0.Clauses.map Clause.cells), .v (.int .i64 a0.Loan)])]) H0 g
  have hS := St.start hf
  refine r_seq ?_
  refine r_region (n := 2) rfl ?_
  refine o_box (v := .agg [.sl .no 4 (a0.Clauses.map Clause.cells), .v (.int .i64 a0.Loan)]) (cs := [.sl .no 4 (a0.Clauses.map Clause.cells), .v (.int .i64 a0.Loan)]) hS (by decide) rfl rfl (by omega) fun H hS => ?_
  refine o_assign (v := .v (.bool false)) (by decide) rfl ?_
  refine run_nil ?_
  refine w_next [(1, .ptr (g + 0) 0)] (.cons (.refl _) .nil) ?_
  refine w_join (J := Bool) (fun j => [(2, .v (.bool j))]) (fun j H' g' => St (· < g) H0 [] H' g' ∧ law09_isShare_j1 j = some r) ?_ ?_
  · rintro v1 H g1 ⟨hS, hM⟩
    change wpA _ _ _ _ (Fr.of [(2, .v (.bool v1))]) _ _
    replace hS : St (· < g) H0 [] H g1 := hS
    replace hM : law09_isShare_j1 v1 = some r := hM
    refine r_ret ?_
    refine w_end (x := .v (.bool v1)) (f := fun r => .v (.bool r)) (.inr rfl) ?_ (.refl _) (Option.some.inj hM) hS
    exact (res_one (res_tmp (x := .v (.bool v1)) rfl))
  · refine r_region (n := 9) rfl ?_
    refine o_load (v := .agg [.sl .no 4 (a0.Clauses.map Clause.cells), .v (.int .i64 a0.Loan)]) 0 hS (by decide) rfl rfl .no (part_agg ty_agg24 (Nat.le_of_ble_eq_true rfl) rfl) ?_
    obtain ⟨r2, hr2, hM⟩ := bindE hM
    refine o_call (bs := [.agg [.sl .no 4 (a0.Clauses.map Clause.cells), .v (.int .i64 a0.Loan)]]) (by decide) rfl rfl ((W_law09_far hr2).le (.cons (.refl _) .nil)) ?_
    refine o_not (e := r2) (by decide) rfl ?_
    refine o_move (v := .v (.bool (!r2))) (by decide) rfl ?_
    rcases Bool.eq_false_or_eq_true (!r2) with hb3 | hb3
    · replace hM := ifT hM hb3
      refine o_guardY (j := 3) (e := (!r2)) (want := true) rfl hb3 ?_
      refine o_load (v := .agg [.sl .no 4 (a0.Clauses.map Clause.cells), .v (.int .i64 a0.Loan)]) 0 hS (by decide) rfl rfl .no (part_agg ty_agg24 (Nat.le_of_ble_eq_true rfl) rfl) ?_
      refine o_guardY (j := 3) (e := (!r2)) (want := true) rfl hb3 ?_
      obtain ⟨r4, hr4, hM⟩ := bindE hM
      refine o_call (bs := [.agg [.sl .no 4 (a0.Clauses.map Clause.cells), .v (.int .i64 a0.Loan)]]) (by decide) rfl rfl ((W_ref09_Check hr4).le (.cons (.refl _) .nil)) ?_
      refine o_guardY (j := 3) (e := (!r2)) (want := true) rfl hb3 ?_
      refine o_int (v := .v (.bool (r4 == 0))) (by decide) rfl rfl rfl ?_
      refine o_pickT (v := .v (.bool (r4 == 0))) (e := (!r2)) (by decide) rfl hb3 rfl ?_
      refine o_assign (v := .v (.bool (r4 == 0))) (by decide) rfl ?_
      refine run_nil ?_
      exact w_goto (r4 == 0) (.cons (.refl _) .nil) ⟨(hS.keep [false] rfl).up (by omega), hM⟩
    · replace hM := ifF hM hb3
      refine o_guardN (j := 3) (e := (!r2)) (want := true) (by decide) rfl hb3 ?_
      refine o_guardN (j := 3) (e := (!r2)) (want := true) (by decide) rfl hb3 ?_
      refine o_guardN (j := 3) (e := (!r2)) (want := true) (by decide) rfl hb3 ?_
      refine o_pickF (v := .v (.bool false)) (e := (!r2)) (by decide) rfl hb3 rfl ?_
      refine o_assign (v := .v (.bool false)) (by decide) rfl ?_
      refine run_nil ?_
      exact w_goto false (.cons (.refl _) .nil) ⟨(hS.keep [false] rfl).up (by omega), hM⟩
theorem W_shares_isClause {a0 : Share} {a1 : Int} {r : Bool} (hM : shares_isClause a0 a1 = some r) : PureSat Try.prog 59 [.agg [.sl .no 4 (a0.Clauses.map Clause.cells), .v (.int .i64 a0.Loan)], .v (.int .i64 a1)] (.v (.bool r)) := by
  refine pure_of_wp mixed Try.func59 rfl (by decide) Try.ntmps59 (by simp) ?pure fun H0 g hf => ?_
  case pure => exact .v _
  rw [frame0_of]
  change wpA _ _ _ _ (Fr.of [(0, .agg [.sl .no 4 (a0.Clauses.map Clause.cells), .v (.int .i64 a0.Loan)]), (1, .v (.int .i64 a1))]) H0 g
  have hS := St.start hf
  refine r_seq ?_
  refine r_region (n := 2) rfl ?_
  refine o_box (v := .agg [.sl .no 4 (a0.Clauses.map Clause.cells), .v (.int .i64 a0.Loan)]) (cs := [.sl .no 4 (a0.Clauses.map Clause.cells), .v (.int .i64 a0.Loan)]) hS (by decide) rfl rfl (by omega) fun H hS => ?_
  refine o_assign (v := .v (.bool false)) (by decide) rfl ?_
  refine run_nil ?_
  refine w_next [(1, .v (.int .i64 a1)), (2, .ptr (g + 0) 0)] (.cons (.refl _) (.cons (.refl _) .nil)) ?_
  refine r_seq ?_
  refine r_region (n := 7) rfl ?_
  refine o_move (v := .v (.int .i64 a1)) (by decide) rfl ?_
  refine o_fieldP (by decide) ty_fo24_0 rfl ?_
  refine o_load (v := .sl .no 4 (a0.Clauses.map Clause.cells)) 0 hS (by decide) rfl rfl .no (part_one ty_agg22 ty_sc22 rfl) ?_
  refine o_len (n := a0.Clauses.length) (by decide) rfl (List.length_map _) ty_isl22 ?_
  refine o_int (v := .v (.int .i64 (w64 ((a0.Clauses.length : Int) - 1)))) (by decide) rfl rfl rfl ?_
  obtain ⟨r1, hr1, hM⟩ := bindE hM
  refine o_call (bs := [.v (.int .i64 a1), .v (.int .i64 0), .v (.int .i64 (w64 ((a0.Clauses.length : Int) - 1)))]) (by decide) rfl rfl ((W_shares_within hr1).le (.cons (.refl _) (.cons (.refl _) (.cons (.refl _) .nil)))) ?_
  refine o_assign (v := .v (.bool r1)) (by decide) rfl ?_
  refine run_nil ?_
  replace hS := hS.keep (L' := []) [false] rfl
  refine w_next [(4, .v (.bool r1))] (.cons (.refl _) .nil) ?_
  refine r_ret ?_
  refine w_end (x := .v (.bool r1)) (f := fun r => .v (.bool r)) (.inr rfl) ?_ (.refl _) (Option.some.inj hM) hS
  exact (res_one (res_tmp (x := .v (.bool r1)) rfl))
theorem W_shares_Gives {n : Nat} {a0 : Share} {a1 : Int} {a2 : Int} {r : Int × Int} (hM : shares_Gives n a0 a1 a2 = some r) : PureSat Try.prog 30 [.agg [.sl .no 4 (a0.Clauses.map Clause.cells), .v (.int .i64 a0.Loan)], .v (.int .i64 a1), .v (.int .i64 a2)] (.tup [.v (.int .i64 r.1), .v (.int .i64 r.2)]) := by
  refine pure_of_wp mixed Try.func30 rfl (by decide) Try.ntmps30 (by simp) ?pure fun H0 g hf => ?_
  case pure => exact .tup _ (pl_cons (.v _) (pl_cons (.v _) pl_nil))
  rw [frame0_of]
  change wpA _ _ _ _ (Fr.of [(0, .agg [.sl .no 4 (a0.Clauses.map Clause.cells), .v (.int .i64 a0.Loan)]), (1, .v (.int .i64 a1)), (2, .v (.int .i64 a2))]) H0 g
  have hS := St.start hf
  refine r_seq ?_
  refine r_region (n := 3) rfl ?_
  refine o_box (v := .agg [.sl .no 4 (a0.Clauses.map Clause.cells), .v (.int .i64 a0.Loan)]) (cs := [.sl .no 4 (a0.Clauses.map Clause.cells), .v (.int .i64 a0.Loan)]) hS (by decide) rfl rfl (by omega) fun H hS => ?_
  refine o_assign (v := .v (.int .i64 0)) (by decide) rfl ?_
  refine o_assign (v := .v (.int .i64 0)) (by decide) rfl ?_
  refine run_nil ?_
  refine w_next [(1, .v (.int .i64 a1)), (2, .v (.int .i64 a2)), (3, .ptr (g + 0) 0)] (.cons (.refl _) (.cons (.refl _) (.cons (.refl _) .nil))) ?_
  refine r_seq ?_
  refine w_join (J := Int) (fun j => [(1, .v (.int .i64 a1)), (2, .v (.int .i64 a2)), (3, .ptr (g + 0) 0), (8, .v (.int .i64 j))]) (fun j H' g' => St (· < g) H0 [(g + 0, .cells [.sl .no 4 (a0.Clauses.map Clause.cells), .v (.int .i64 a0.Loan)])] H' g' ∧ shares_Gives_j1 n a0 a1 a2 j = some r) ?_ ?_
  · rintro v1 H g1 ⟨hS, hM⟩
    change wpA _ _ _ _ (Fr.of [(1, .v (.int .i64 a1)), (2, .v (.int .i64 a2)), (3, .ptr (g + 0) 0), (8, .v (.int .i64 v1))]) _ _
    replace hS : St (· < g) H0 [(g + 0, .cells [.sl .no 4 (a0.Clauses.map Clause.cells), .v (.int .i64 a0.Loan)])] H g1 := hS
    replace hM : shares_Gives_j1 n a0 a1 a2 v1 = some r := hM
    refine r_seq ?_
    refine r_region (n := 2) rfl ?_
    refine o_move (v := .v (.int .i64 v1)) (by decide) rfl ?_
    refine o_int (v := .v (.bool (v1 != 0))) (by decide) rfl rfl rfl ?_
    refine run_nil ?_
    refine w_next [(1, .v (.int .i64 a1)), (2, .v (.int .i64 a2)), (3, .ptr (g + 0) 0), (8, .v (.int .i64 v1)), (21, .v (.bool (v1 != 0)))] (.cons (.refl _) (.cons (.refl _) (.cons (.refl _) (.cons (.refl _) (.cons (.refl _) .nil))))) ?_
    rcases Bool.eq_false_or_eq_true (v1 != 0) with hb2 | hb2
    · replace hM := ifT hM hb2
      refine w_condT (e := (v1 != 0)) rfl hb2 ?_
      refine r_seq ?_
      refine r_region (n := 3) rfl ?_
      refine o_move (v := .v (.int .i64 v1)) (by decide) rfl ?_
      refine o_assign (v := .v (.int .i64 0)) (by decide) rfl ?_
      refine o_assign (v := .v (.int .i64 v1)) (by decide) rfl ?_
      refine run_nil ?_
      replace hS := hS.keep (L' := []) [false] rfl
      refine w_next [(6, .v (.int .i64 0)), (7, .v (.int .i64 v1))] (.cons (.refl _) (.cons (.refl _) .nil)) ?_
      refine r_ret ?_
      refine r_then_ret ?_
      refine w_end (x := .tup [.v (.int .i64 0), .v (.int .i64 v1)]) (f := fun r => .tup [.v (.int .i64 r.1), .v (.int .i64 r.2)]) (.inr rfl) ?_ (.refl _) (Option.some.inj hM) hS
      exact (res_two (res_tmp (x := .v (.int .i64 0)) rfl) (res_tmp (x := .v (.int .i64 v1)) rfl))
    · replace hM := ifF hM hb2
      refine w_condF (e := (v1 != 0)) rfl hb2 ?_
      refine r_skip ?_
      refine w_next [(1, .v (.int .i64 a1)), (2, .v (.int .i64 a2)), (3, .ptr (g + 0) 0)] (.cons (.refl _) (.cons (.refl _) (.cons (.refl _) .nil))) ?_
      refine r_seq ?_
      refine r_region (n := 12) rfl ?_
      refine o_fieldP (by decide) ty_fo24_0 rfl ?_
      refine o_load (v := .sl .no 4 (a0.Clauses.map Clause.cells)) 0 hS (by decide) rfl rfl .no (part_one ty_agg22 ty_sc22 rfl) ?_
      refine o_fieldP (by decide) ty_fo24_1 rfl ?_
      refine o_load (v := .v (.int .i64 a0.Loan)) 0 hS (by decide) rfl rfl .no (part_one ty_agg3 ty_sc3 rfl) ?_
      refine o_move (v := .v (.int .i64 a1)) (by decide) rfl ?_
      obtain ⟨r3, hr3, hM⟩ := bindE hM
      refine o_call (bs := [.sl .no 4 (a0.Clauses.map Clause.cells), .v (.int .i64 a0.Loan), .v (.int .i64 a1), .v (.int .i64 0)]) (by decide) rfl rfl ((W_shares_settle hr3).le (.cons (.refl _) (.cons (.refl _) (.cons (.refl _) (.cons (.refl _) .nil))))) ?_
      refine o_move (v := .tup [.agg [.v (.int .i64 r3.1.Split.Operator), .v (.int .i64 r3.1.Split.Owner), .v (.int .i64 r3.1.Split.Repaid), .v (.int .i64 r3.1.rest), .v (.int .i64 r3.1.owed)], .sl .no 1 (r3.2.map cI)]) (by decide) rfl ?_
      refine o_extract (v := .agg [.v (.int .i64 r3.1.Split.Operator), .v (.int .i64 r3.1.Split.Owner), .v (.int .i64 r3.1.Split.Repaid), .v (.int .i64 r3.1.rest), .v (.int .i64 r3.1.owed)]) (by decide) rfl rfl ?_
      refine o_extract (v := .sl .no 1 (r3.2.map cI)) (by decide) rfl rfl ?_
      refine o_alloc hS (by decide) ty_zero76 (by omega) fun H hS => ?_
      refine o_store (v := .agg [.v (.int .i64 r3.1.Split.Operator), .v (.int .i64 r3.1.Split.Owner), .v (.int .i64 r3.1.Split.Repaid), .v (.int .i64 r3.1.rest), .v (.int .i64 r3.1.owed)]) (ns := [.v (.int .i64 r3.1.Split.Operator), .v (.int .i64 r3.1.Split.Owner), .v (.int .i64 r3.1.Split.Repaid), .v (.int .i64 r3.1.rest), .v (.int .i64 r3.1.owed)]) (L' := [(g1 + 2 + 9, .cells [.v (.int .i64 r3.1.Split.Operator), .v (.int .i64 r3.1.Split.Owner), .v (.int .i64 r3.1.Split.Repaid), .v (.int .i64 r3.1.rest), .v (.int .i64 r3.1.owed)]), (g + 0, .cells [.sl .no 4 (a0.Clauses.map Clause.cells), .v (.int .i64 a0.Loan)])]) 0 hS rfl rfl .no rfl rfl ty_var76 (Nat.le_of_ble_eq_true rfl) rfl fun H hS => ?_
      refine o_assign (v := .sl .no 1 (r3.2.map cI)) (by decide) rfl ?_
      refine run_nil ?_
      replace hS := hS.keep (L' := []) [false, false] rfl
      refine w_next [(2, .v (.int .i64 a2)), (10, .sl .no 1 (r3.2.map cI))] (.cons (.refl _) (.cons (.refl _) .nil)) ?_
      refine r_seq ?_
      refine r_region (n := 6) rfl ?_
      refine o_move (v := .sl .no 1 (r3.2.map cI)) (by decide) rfl ?_
      refine o_move (v := .v (.int .i64 a2)) (by decide) rfl ?_
      obtain ⟨x4, hx4, hM⟩ := bindE hM
      refine o_index (xs := r3.2) (f := cI) (z := a2) (u := x4) (by decide) rfl rfl ty_es28 hx4 ?_
      refine o_loadE (v := .v (.int .i64 x4)) (by decide) rfl (part_one ty_agg3 ty_sc3 rfl) ?_
      refine o_assign (v := .v (.int .i64 x4)) (by decide) rfl ?_
      refine o_assign (v := .v (.int .i64 0)) (by decide) rfl ?_
      refine run_nil ?_
      refine w_next [(6, .v (.int .i64 x4)), (7, .v (.int .i64 0))] (.cons (.refl _) (.cons (.refl _) .nil)) ?_
      refine r_ret ?_
      refine w_end (x := .tup [.v (.int .i64 x4), .v (.int .i64 0)]) (f := fun r => .tup [.v (.int .i64 r.1), .v (.int .i64 r.2)]) (.inr rfl) ?_ (.refl _) (Option.some.inj hM) hS
      exact (res_two (res_tmp (x := .v (.int .i64 x4)) rfl) (res_tmp (x := .v (.int .i64 0)) rfl))
  · have hS0 := hS
    refine r_draw (n := 10) rfl (by kernel_rfl) ?_
    refine o_load (v := .agg [.sl .no 4 (a0.Clauses.map Clause.cells), .v (.int .i64 a0.Loan)]) 0 hS (by decide) rfl rfl (.st hS0 0 rfl (by omega)) (part_agg ty_agg24 (Nat.le_of_ble_eq_true rfl) rfl) ?_
    refine o_move (v := .v (.int .i64 a1)) (by decide) rfl ?_
    obtain ⟨r5, hr5, hM⟩ := bindE hM
    refine o_call (bs := [.v (.int .i64 a1)]) (by decide) rfl rfl ((W_shares_isCents hr5).le (.cons (.refl _) .nil)) ?_
    refine o_move (v := .v (.bool r5)) (by decide) rfl ?_
    rcases Bool.eq_false_or_eq_true r5 with hb6 | hb6
    · replace hM := ifT hM hb6
      refine o_guardY (j := 3) (e := r5) (want := true) rfl hb6 ?_
      refine o_load (v := .agg [.sl .no 4 (a0.Clauses.map Clause.cells), .v (.int .i64 a0.Loan)]) 0 hS (by decide) rfl rfl (.st hS0 0 rfl (by omega)) (part_agg ty_agg24 (Nat.le_of_ble_eq_true rfl) rfl) ?_
      refine o_guardY (j := 3) (e := r5) (want := true) rfl hb6 ?_
      refine o_move (v := .v (.int .i64 a2)) (by decide) rfl ?_
      refine o_guardY (j := 3) (e := r5) (want := true) rfl hb6 ?_
      obtain ⟨r7, hr7, hM⟩ := bindE hM
      refine o_call (bs := [.agg [.sl .no 4 (a0.Clauses.map Clause.cells), .v (.int .i64 a0.Loan)], .v (.int .i64 a2)]) (by decide) rfl rfl ((W_shares_isClause hr7).le (.cons (.refl _) (.cons (.refl _) .nil))) ?_
      refine o_pickT (v := .v (.bool r7)) (e := r5) (by decide) rfl hb6 rfl ?_
      obtain ⟨r8, hr8, hM⟩ := bindE hM
      refine o_call (bs := [.agg [.sl .no 4 (a0.Clauses.map Clause.cells), .v (.int .i64 a0.Loan)], .v (.bool r7)]) (by decide) rfl rfl ((W_shares_ask hr8).le (.cons (.refl _) (.cons (.refl _) .nil))) ?_
      refine o_assign (v := .v (.int .i64 r8)) (by decide) rfl ?_
      refine run_nil ?_
      exact w_goto r8 (.cons (.refl _) (.cons (.refl _) (.cons (.refl _) (.cons (.refl _) .nil)))) ⟨(hS.keep [true] rfl).up (by omega), hM⟩
    · replace hM := ifF hM hb6
      refine o_guardN (j := 3) (e := r5) (want := true) (by decide) rfl hb6 ?_
      refine o_guardN (j := 3) (e := r5) (want := true) (by decide) rfl hb6 ?_
      refine o_guardN (j := 3) (e := r5) (want := true) (by decide) rfl hb6 ?_
      refine o_pickF (v := .v (.bool false)) (e := r5) (by decide) rfl hb6 rfl ?_
      obtain ⟨r9, hr9, hM⟩ := bindE hM
      refine o_call (bs := [.agg [.sl .no 4 (a0.Clauses.map Clause.cells), .v (.int .i64 a0.Loan)], .v (.bool false)]) (by decide) rfl rfl ((W_shares_ask hr9).le (.cons (.refl _) (.cons (.refl _) .nil))) ?_
      refine o_assign (v := .v (.int .i64 r9)) (by decide) rfl ?_
      refine run_nil ?_
      exact w_goto r9 (.cons (.refl _) (.cons (.refl _) (.cons (.refl _) (.cons (.refl _) .nil)))) ⟨(hS.keep [true] rfl).up (by omega), hM⟩
theorem W_ref09_IsClause {a0 : Share} {a1 : Int} {r : Bool} (hM : ref09_IsClause a0 a1 = some r) : PureSat Try.prog 45 [.agg [.sl .no 4 (a0.Clauses.map Clause.cells), .v (.int .i64 a0.Loan)], .v (.int .i64 a1)] (.v (.bool r)) := by
  refine pure_of_wp mixed Try.func45 rfl (by decide) Try.ntmps45 (by simp) ?pure fun H0 g hf => ?_
  case pure => exact .v _
  rw [frame0_of]
  change wpA _ _ _ _ (Fr.of [(0, .agg [.sl .no 4 (a0.Clauses.map Clause.cells), .v (.int .i64 a0.Loan)]), (1, .v (.int .i64 a1))]) H0 g
  have hS := St.start hf
  refine r_seq ?_
  refine r_region (n := 2) rfl ?_
  refine o_box (v := .agg [.sl .no 4 (a0.Clauses.map Clause.cells), .v (.int .i64 a0.Loan)]) (cs := [.sl .no 4 (a0.Clauses.map Clause.cells), .v (.int .i64 a0.Loan)]) hS (by decide) rfl rfl (by omega) fun H hS => ?_
  refine o_assign (v := .v (.bool false)) (by decide) rfl ?_
  refine run_nil ?_
  refine w_next [(1, .v (.int .i64 a1)), (2, .ptr (g + 0) 0)] (.cons (.refl _) (.cons (.refl _) .nil)) ?_
  refine r_seq ?_
  refine r_region (n := 7) rfl ?_
  refine o_move (v := .v (.int .i64 a1)) (by decide) rfl ?_
  refine o_fieldP (by decide) ty_fo24_0 rfl ?_
  refine o_load (v := .sl .no 4 (a0.Clauses.map Clause.cells)) 0 hS (by decide) rfl rfl .no (part_one ty_agg22 ty_sc22 rfl) ?_
  refine o_len (n := a0.Clauses.length) (by decide) rfl (List.length_map _) ty_isl22 ?_
  refine o_int (v := .v (.int .i64 (w64 ((a0.Clauses.length : Int) - 1)))) (by decide) rfl rfl rfl ?_
  obtain ⟨r1, hr1, hM⟩ := bindE hM
  refine o_call (bs := [.v (.int .i64 a1), .v (.int .i64 0), .v (.int .i64 (w64 ((a0.Clauses.length : Int) - 1)))]) (by decide) rfl rfl ((W_ref09_within hr1).le (.cons (.refl _) (.cons (.refl _) (.cons (.refl _) .nil)))) ?_
  refine o_assign (v := .v (.bool r1)) (by decide) rfl ?_
  refine run_nil ?_
  replace hS := hS.keep (L' := []) [false] rfl
  refine w_next [(4, .v (.bool r1))] (.cons (.refl _) .nil) ?_
  refine r_ret ?_
  refine w_end (x := .v (.bool r1)) (f := fun r => .v (.bool r)) (.inr rfl) ?_ (.refl _) (Option.some.inj hM) hS
  exact (res_one (res_tmp (x := .v (.bool r1)) rfl))
end Go.Proofs.Ytkgldpboiigphaa
