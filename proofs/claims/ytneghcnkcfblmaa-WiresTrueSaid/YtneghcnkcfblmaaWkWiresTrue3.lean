/-
  The code returns what the functions say (printed by gen.py).
  Conditions: none.
-/
import Derived.Test.YtneghcnkcfblmaaWkWiresTrue2
import Derived.Test.YtneghcnkcfblmaaSh
set_option linter.all false
namespace Go.Proofs.Ytneghcnkcfblmaa
open Go Go.AM Go.Law
set_option linter.unusedVariables false
set_option maxRecDepth 4000
set_option maxHeartbeats 4000000
theorem W_ref11_place {n : Nat} {a0 : List WireFault} {a1 : WireFault} {r : Int} (hM : ref11_place n a0 a1 = some r) : PureSat Try.prog 85 [.sl .no 3 (a0.map WireFault.cells), .agg (WireFault.cells a1)] (.i r) := by
 refine pure_of_wp mixed Try.func85 rfl (by decide) Try.ntmps85 (by simp) ?pure fun H0 g hf => ?_
 case pure => exact .v _
 rw [frame0_of]
 change wpA _ _ _ _ (Fr.of [(0, .sl .no 3 (a0.map WireFault.cells)), (1, .agg (WireFault.cells a1))]) H0 g
 have hS := St.start hf
 refine r_seq ?_
 refine r_region (n := 2) rfl ?_
 refine o_box (v := .agg (WireFault.cells a1)) (cs := (WireFault.cells a1)) hS (by decide) rfl rfl (by omega) fun H hS => ?_
 refine o_assign (v := .i 0) (by decide) rfl ?_
 refine run_nil ?_
 refine w_iceE (L' := []) 0 3 hS rfl rfl rfl fun H hS => ?_
 refine w_next [(0, .sl .no 3 (a0.map WireFault.cells)), (3, .ep (WireFault.cells a1))] (.k (.k .nil)) ?_
 refine w_join (J := Unit) (fun j => []) (fun j H' g' => St (· < g) H0 [] H' g' ∧ ref11_place_j1 = some r) ?_ ?_
 ·rintro _ H g1 ⟨hS, hM⟩
  change wpA _ _ _ _ (Fr.of []) _ _
  replace hS : St (· < g) H0 [] H g1 := hS
  replace hM : ref11_place_j1 = some r := hM
  refine r_seq ?_
  refine r_region (n := 1) rfl ?_
  refine o_assign (v := .i (-1)) (by decide) rfl ?_
  refine run_nil ?_
  refine w_next [(4, .i (-1))] (.k .nil) ?_
  refine r_ret ?_
  refine w_end (x := .i (-1)) (f := fun r => .i r) (.inr rfl) ?_ (.refl _) (Option.some.inj hM) hS
  exact (res_one (res_tmp (x := .i (-1)) rfl))
 ·refine r_seq ?_
  refine r_region (n := 1) rfl ?_
  refine o_assign (v := .i 0) (by decide) rfl ?_
  refine run_nil ?_
  refine w_next [(0, .sl .no 3 (a0.map WireFault.cells)), (3, .ep (WireFault.cells a1)), (5, .i 0)] (.k (.k (.k .nil))) ?_
  refine r_block ?_
  refine w_loop (V := Int) (fun v => [(0, .sl .no 3 (a0.map WireFault.cells)), (3, .ep (WireFault.cells a1)), (5, .i v)]) (fun v m2 H' g' => St (· < g) H0 [] H' g' ∧ ref11_place_l1 a0 a1 m2 v = some r) (n := n) 0 (.k (.k (.k .nil))) ⟨(hS.keep [] rfl).up (by omega), hM⟩ ?_
  rintro v1 m2 H g2 ⟨hS, hM⟩
  obtain _ | m2 := m2
  ·exact nomatch (show none = some _ from hM)
  change wpA _ _ _ _ (Fr.of [(0, .sl .no 3 (a0.map WireFault.cells)), (3, .ep (WireFault.cells a1)), (5, .i v1)]) _ _
  replace hS : St (· < g) H0 [] H g2 := hS
  replace hM : ref11_place_l1_b a0 a1 (ref11_place_l1 a0 a1 m2) v1 = some r := hM
  refine r_seq ?_
  refine r_seq ?_
  refine r_region (n := 4) rfl ?_
  refine o_move (v := .i v1) (by decide) rfl ?_
  refine o_move (v := .sl .no 3 (a0.map WireFault.cells)) (by decide) rfl ?_
  refine o_len (n := a0.length) (by decide) rfl (List.length_map _) ty_isl31 ?_
  refine o_int (v := .b (decide (v1 < (a0.length : Int)))) (by decide) rfl rfl rfl ?_
  refine run_nil ?_
  refine w_next [(0, .sl .no 3 (a0.map WireFault.cells)), (3, .ep (WireFault.cells a1)), (5, .i v1), (9, .b (decide (v1 < (a0.length : Int))))] (.k (.k (.k (.k .nil)))) ?_
  rcases Bool.eq_false_or_eq_true (decide (v1 < (a0.length : Int))) with hb2 | hb2
  ·replace hM := ifT hM hb2
   refine w_condT (e := (decide (v1 < (a0.length : Int)))) rfl hb2 ?_
   refine r_skip ?_
   refine w_next [(0, .sl .no 3 (a0.map WireFault.cells)), (3, .ep (WireFault.cells a1)), (5, .i v1)] (.k (.k (.k .nil))) ?_
   refine r_seq ?_
   refine r_block ?_
   refine r_seq ?_
   have hS0 := hS
   refine r_draw (n := 6) rfl (by kernel_rfl) ?_
   refine o_move (v := .sl .no 3 (a0.map WireFault.cells)) (by decide) rfl ?_
   refine o_move (v := .i v1) (by decide) rfl ?_
   obtain ⟨x3, hx3, hM⟩ := bindE hM
   refine o_index (xs := a0) (f := WireFault.cells) (z := v1) (u := x3) (by decide) rfl rfl ty_es31 hx3 ?_
   refine o_loadE (v := .agg (WireFault.cells x3)) (by decide) rfl (part_agg ty_agg63 (Nat.le_of_ble_eq_true rfl) rfl) ?_
   refine o_loadE (v := .agg (WireFault.cells a1)) (by decide) rfl (part_agg ty_agg63 (Nat.le_of_ble_eq_true rfl) rfl) ?_
   refine o_eqS (cs := (WireFault.cells x3)) (ds := (WireFault.cells a1)) (e := ((x3.Kind == a1.Kind) && ((x3.A == a1.A) && ((x3.B == a1.B) && true)))) (by decide) rfl rfl ty_flat63 rfl ?_
   refine run_nil ?_
   refine w_next [(0, .sl .no 3 (a0.map WireFault.cells)), (3, .ep (WireFault.cells a1)), (5, .i v1), (17, .b ((x3.Kind == a1.Kind) && ((x3.A == a1.A) && ((x3.B == a1.B) && true))))] (.k (.k (.k (.k .nil)))) ?_
   rcases Bool.eq_false_or_eq_true ((x3.Kind == a1.Kind) && ((x3.A == a1.A) && ((x3.B == a1.B) && true))) with hb4 | hb4
   ·replace hM := ifT hM hb4
    refine w_condT (e := ((x3.Kind == a1.Kind) && ((x3.A == a1.A) && ((x3.B == a1.B) && true)))) rfl hb4 ?_
    refine r_seq ?_
    refine r_region (n := 2) rfl ?_
    refine o_move (v := .i v1) (by decide) rfl ?_
    refine o_assign (v := .i v1) (by decide) rfl ?_
    refine run_nil ?_
    refine w_next [(4, .i v1)] (.k .nil) ?_
    refine r_ret ?_
    refine r_blk_ret ?_
    refine r_then_ret ?_
    refine w_round_ret ?_
    refine r_blk_ret ?_
    refine w_goto_ret ?_
    refine w_end (x := .i v1) (f := fun r => .i r) (.inr rfl) ?_ (.refl _) (Option.some.inj hM) hS
    exact (res_one (res_tmp (x := .i v1) rfl))
   ·replace hM := ifF hM hb4
    refine w_condF (e := ((x3.Kind == a1.Kind) && ((x3.A == a1.A) && ((x3.B == a1.B) && true)))) rfl hb4 ?_
    refine r_skip ?_
    refine r_blk_normal ?_
    refine w_next [(0, .sl .no 3 (a0.map WireFault.cells)), (3, .ep (WireFault.cells a1)), (5, .i v1)] (.k (.k (.k .nil))) ?_
    refine r_region (n := 3) rfl ?_
    refine o_move (v := .i v1) (by decide) rfl ?_
    refine o_int (v := .i (w64 (v1 + 1))) (by decide) rfl rfl rfl ?_
    refine o_assign (v := .i (w64 (v1 + 1))) (by decide) rfl ?_
    refine run_nil ?_
    exact w_round (w64 (v1 + 1)) (Nat.lt_succ_self _) (.k (.k (.k .nil))) ⟨(hS.keep [] rfl).up (by omega), hM⟩
  ·replace hM := ifF hM hb2
   refine w_condF (e := (decide (v1 < (a0.length : Int)))) rfl hb2 ?_
   refine r_exit ?_
   refine r_then_exit ?_
   refine w_round_exit ?_
   refine r_blk_exit ?_
   exact w_goto () .nil ⟨(hS.keep [] rfl).up (by omega), hM⟩
theorem W_ref11_Has {n : Nat} {a0 : List WireFault} {a1 : WireFault} {r : Bool} (hM : ref11_Has n a0 a1 = some r) : PureSat Try.prog 61 [.sl .no 3 (a0.map WireFault.cells), .agg (WireFault.cells a1)] (.b r) := by
 refine pure_of_wp mixed Try.func61 rfl (by decide) Try.ntmps61 (by simp) ?pure fun H0 g hf => ?_
 case pure => exact .v _
 rw [frame0_of]
 change wpA _ _ _ _ (Fr.of [(0, .sl .no 3 (a0.map WireFault.cells)), (1, .agg (WireFault.cells a1))]) H0 g
 have hS := St.start hf
 refine r_seq ?_
 refine r_region (n := 2) rfl ?_
 refine o_box (v := .agg (WireFault.cells a1)) (cs := (WireFault.cells a1)) hS (by decide) rfl rfl (by omega) fun H hS => ?_
 refine o_assign (v := .b false) (by decide) rfl ?_
 refine run_nil ?_
 refine w_iceE (L' := []) 0 3 hS rfl rfl rfl fun H hS => ?_
 refine w_next [(0, .sl .no 3 (a0.map WireFault.cells)), (3, .ep (WireFault.cells a1))] (.k (.k .nil)) ?_
 refine r_seq ?_
 refine r_region (n := 5) rfl ?_
 refine o_move (v := .sl .no 3 (a0.map WireFault.cells)) (by decide) rfl ?_
 refine o_loadE (v := .agg (WireFault.cells a1)) (by decide) rfl (part_agg ty_agg63 (Nat.le_of_ble_eq_true rfl) rfl) ?_
 obtain ⟨r1, hr1, hM⟩ := bindE hM
 refine o_call (bs := [.sl .no 3 (a0.map WireFault.cells), .agg (WireFault.cells a1)]) (by decide) rfl rfl ((W_ref11_place hr1).le (.k (.k .nil))) ?_
 refine o_int (v := .b (decide (r1 ≥ 0))) (by decide) rfl rfl rfl ?_
 refine o_assign (v := .b (decide (r1 ≥ 0))) (by decide) rfl ?_
 refine run_nil ?_
 refine w_next [(4, .b (decide (r1 ≥ 0)))] (.k .nil) ?_
 refine r_ret ?_
 refine w_end (x := .b (decide (r1 ≥ 0))) (f := fun r => .b r) (.inr rfl) ?_ (.refl _) (Option.some.inj hM) hS
 exact (res_one (res_tmp (x := .b (decide (r1 ≥ 0))) rfl))
theorem W_ref11_other {n : Nat} {a0 : List WireFault} {a1 : Int} {a2 : Int} {r : Int} (hM : ref11_other n a0 a1 a2 = some r) : PureSat Try.prog 80 [.sl .no 3 (a0.map WireFault.cells), .i a1, .i a2] (.i r) := by
 refine pure_of_wp mixed Try.func80 rfl (by decide) Try.ntmps80 (by simp) ?pure fun H0 g hf => ?_
 case pure => exact .v _
 rw [frame0_of]
 change wpA _ _ _ _ (Fr.of [(0, .sl .no 3 (a0.map WireFault.cells)), (1, .i a1), (2, .i a2)]) H0 g
 have hS := St.start hf
 refine r_seq ?_
 refine r_region (n := 1) rfl ?_
 refine o_assign (v := .i 0) (by decide) rfl ?_
 refine run_nil ?_
 refine w_next [(0, .sl .no 3 (a0.map WireFault.cells)), (1, .i a1), (2, .i a2)] (.k (.k (.k .nil))) ?_
 refine w_join (J := Unit) (fun j => [(2, .i a2)]) (fun j H' g' => St (· < g) H0 [] H' g' ∧ ref11_other_j1 a2 = some r) ?_ ?_
 ·rintro _ H g1 ⟨hS, hM⟩
  change wpA _ _ _ _ (Fr.of [(2, .i a2)]) _ _
  replace hS : St (· < g) H0 [] H g1 := hS
  replace hM : ref11_other_j1 a2 = some r := hM
  refine r_seq ?_
  refine r_region (n := 2) rfl ?_
  refine o_move (v := .i a2) (by decide) rfl ?_
  refine o_assign (v := .i a2) (by decide) rfl ?_
  refine run_nil ?_
  refine w_next [(6, .i a2)] (.k .nil) ?_
  refine r_ret ?_
  refine w_end (x := .i a2) (f := fun r => .i r) (.inr rfl) ?_ (.refl _) (Option.some.inj hM) hS
  exact (res_one (res_tmp (x := .i a2) rfl))
 ·refine r_seq ?_
  refine r_region (n := 1) rfl ?_
  refine o_assign (v := .i 0) (by decide) rfl ?_
  refine run_nil ?_
  refine w_next [(0, .sl .no 3 (a0.map WireFault.cells)), (1, .i a1), (2, .i a2), (7, .i 0)] (.k (.k (.k (.k .nil)))) ?_
  refine r_block ?_
  refine w_loop (V := Int) (fun v => [(0, .sl .no 3 (a0.map WireFault.cells)), (1, .i a1), (2, .i a2), (7, .i v)]) (fun v m2 H' g' => St (· < g) H0 [] H' g' ∧ ref11_other_l1 a0 a1 a2 m2 v = some r) (n := n) 0 (.k (.k (.k (.k .nil)))) ⟨(hS.keep [] rfl).up (by omega), hM⟩ ?_
  rintro v1 m2 H g2 ⟨hS, hM⟩
  obtain _ | m2 := m2
  ·exact nomatch (show none = some _ from hM)
  change wpA _ _ _ _ (Fr.of [(0, .sl .no 3 (a0.map WireFault.cells)), (1, .i a1), (2, .i a2), (7, .i v1)]) _ _
  replace hS : St (· < g) H0 [] H g2 := hS
  replace hM : ref11_other_l1_b a0 a1 a2 (ref11_other_l1 a0 a1 a2 m2) v1 = some r := hM
  refine r_seq ?_
  refine r_seq ?_
  refine r_region (n := 4) rfl ?_
  refine o_move (v := .i v1) (by decide) rfl ?_
  refine o_move (v := .sl .no 3 (a0.map WireFault.cells)) (by decide) rfl ?_
  refine o_len (n := a0.length) (by decide) rfl (List.length_map _) ty_isl31 ?_
  refine o_int (v := .b (decide (v1 < (a0.length : Int)))) (by decide) rfl rfl rfl ?_
  refine run_nil ?_
  refine w_next [(0, .sl .no 3 (a0.map WireFault.cells)), (1, .i a1), (2, .i a2), (7, .i v1), (12, .b (decide (v1 < (a0.length : Int))))] (.k (.k (.k (.k (.k .nil))))) ?_
  rcases Bool.eq_false_or_eq_true (decide (v1 < (a0.length : Int))) with hb2 | hb2
  ·replace hM := ifT hM hb2
   refine w_condT (e := (decide (v1 < (a0.length : Int)))) rfl hb2 ?_
   refine r_skip ?_
   refine w_next [(0, .sl .no 3 (a0.map WireFault.cells)), (1, .i a1), (2, .i a2), (7, .i v1)] (.k (.k (.k (.k .nil)))) ?_
   refine w_join (J := Unit) (fun j => [(0, .sl .no 3 (a0.map WireFault.cells)), (1, .i a1), (2, .i a2), (7, .i v1)]) (fun j H' g' => St (· < g) H0 [] H' g' ∧ ref11_other_j2 (ref11_other_l1 a0 a1 a2 m2) v1 = some r) ?_ ?_
   ·rintro _ H g3 ⟨hS, hM⟩
    change wpA _ _ _ _ (Fr.of [(0, .sl .no 3 (a0.map WireFault.cells)), (1, .i a1), (2, .i a2), (7, .i v1)]) _ _
    replace hS : St (· < g) H0 [] H g3 := hS
    replace hM : ref11_other_j2 (ref11_other_l1 a0 a1 a2 m2) v1 = some r := hM
    refine r_region (n := 3) rfl ?_
    refine o_move (v := .i v1) (by decide) rfl ?_
    refine o_int (v := .i (w64 (v1 + 1))) (by decide) rfl rfl rfl ?_
    refine o_assign (v := .i (w64 (v1 + 1))) (by decide) rfl ?_
    refine run_nil ?_
    exact w_round (w64 (v1 + 1)) (Nat.lt_succ_self _) (.k (.k (.k (.k .nil)))) ⟨(hS.keep [] rfl).up (by omega), hM⟩
   ·refine r_block ?_
    refine r_seq ?_
    refine r_region (n := 6) rfl ?_
    refine o_move (v := .sl .no 3 (a0.map WireFault.cells)) (by decide) rfl ?_
    refine o_move (v := .i v1) (by decide) rfl ?_
    obtain ⟨x3, hx3, hM⟩ := bindE hM
    refine o_index (xs := a0) (f := WireFault.cells) (z := v1) (u := x3) (by decide) rfl rfl ty_es31 hx3 ?_
    refine o_loadE (v := .agg (WireFault.cells x3)) (by decide) rfl (part_agg ty_agg63 (Nat.le_of_ble_eq_true rfl) rfl) ?_
    refine o_alloc hS (by decide) ty_zero63 (by omega) fun H hS => ?_
    refine o_store (v := .agg (WireFault.cells x3)) (ns := (WireFault.cells x3)) (L' := [(g2 + 4 + 4, .cells (WireFault.cells x3))]) 0 hS rfl rfl .no rfl rfl ty_var63 (Nat.le_of_ble_eq_true rfl) rfl fun H hS => ?_
    refine run_nil ?_
    refine w_iceE (L' := []) 0 8 hS rfl rfl rfl fun H hS => ?_
    refine w_next [(0, .sl .no 3 (a0.map WireFault.cells)), (1, .i a1), (2, .i a2), (7, .i v1), (8, .ep (WireFault.cells x3))] (.k (.k (.k (.k (.k .nil))))) ?_
    refine r_seq ?_
    refine r_region (n := 4) rfl ?_
    refine o_fieldE (cs := (WireFault.cells x3)) (by decide) ty_fo63_0 rfl ?_
    refine o_loadE (v := .i x3.Kind) (by decide) rfl (part_one ty_agg3 ty_sc3 rfl) ?_
    refine o_move (v := .i a1) (by decide) rfl ?_
    refine o_int (v := .b (x3.Kind == a1)) (by decide) rfl rfl rfl ?_
    refine run_nil ?_
    refine w_next [(0, .sl .no 3 (a0.map WireFault.cells)), (1, .i a1), (2, .i a2), (7, .i v1), (8, .ep (WireFault.cells x3)), (22, .b (x3.Kind == a1))] (.k (.k (.k (.k (.k (.k .nil)))))) ?_
    rcases Bool.eq_false_or_eq_true (x3.Kind == a1) with hb4 | hb4
    ·replace hM := ifT hM hb4
     refine w_condT (e := (x3.Kind == a1)) rfl hb4 ?_
     refine r_seq ?_
     refine r_seq ?_
     refine r_region (n := 4) rfl ?_
     refine o_fieldE (cs := (WireFault.cells x3)) (by decide) ty_fo63_1 rfl ?_
     refine o_loadE (v := .i x3.A) (by decide) rfl (part_one ty_agg3 ty_sc3 rfl) ?_
     refine o_move (v := .i a2) (by decide) rfl ?_
     refine o_int (v := .b (x3.A == a2)) (by decide) rfl rfl rfl ?_
     refine run_nil ?_
     refine w_next [(0, .sl .no 3 (a0.map WireFault.cells)), (1, .i a1), (2, .i a2), (7, .i v1), (8, .ep (WireFault.cells x3)), (26, .b (x3.A == a2))] (.k (.k (.k (.k (.k (.k .nil)))))) ?_
     rcases Bool.eq_false_or_eq_true (x3.A == a2) with hb5 | hb5
     ·replace hM := ifT hM hb5
      refine w_condT (e := (x3.A == a2)) rfl hb5 ?_
      refine r_seq ?_
      refine r_region (n := 3) rfl ?_
      refine o_fieldE (cs := (WireFault.cells x3)) (by decide) ty_fo63_2 rfl ?_
      refine o_loadE (v := .i x3.B) (by decide) rfl (part_one ty_agg3 ty_sc3 rfl) ?_
      refine o_assign (v := .i x3.B) (by decide) rfl ?_
      refine run_nil ?_
      refine w_next [(6, .i x3.B)] (.k .nil) ?_
      refine r_ret ?_
      refine r_then_ret ?_
      refine r_blk_ret ?_
      refine w_goto_ret ?_
      refine w_round_ret ?_
      refine r_blk_ret ?_
      refine w_goto_ret ?_
      refine w_end (x := .i x3.B) (f := fun r => .i r) (.inr rfl) ?_ (.refl _) (Option.some.inj hM) hS
      exact (res_one (res_tmp (x := .i x3.B) rfl))
     ·replace hM := ifF hM hb5
      refine w_condF (e := (x3.A == a2)) rfl hb5 ?_
      refine r_skip ?_
      refine w_next [(0, .sl .no 3 (a0.map WireFault.cells)), (1, .i a1), (2, .i a2), (7, .i v1), (8, .ep (WireFault.cells x3))] (.k (.k (.k (.k (.k .nil))))) ?_
      refine r_seq ?_
      refine r_region (n := 4) rfl ?_
      refine o_fieldE (cs := (WireFault.cells x3)) (by decide) ty_fo63_2 rfl ?_
      refine o_loadE (v := .i x3.B) (by decide) rfl (part_one ty_agg3 ty_sc3 rfl) ?_
      refine o_move (v := .i a2) (by decide) rfl ?_
      refine o_int (v := .b (x3.B == a2)) (by decide) rfl rfl rfl ?_
      refine run_nil ?_
      refine w_next [(0, .sl .no 3 (a0.map WireFault.cells)), (1, .i a1), (2, .i a2), (7, .i v1), (8, .ep (WireFault.cells x3)), (32, .b (x3.B == a2))] (.k (.k (.k (.k (.k (.k .nil)))))) ?_
      rcases Bool.eq_false_or_eq_true (x3.B == a2) with hb6 | hb6
      ·replace hM := ifT hM hb6
       refine w_condT (e := (x3.B == a2)) rfl hb6 ?_
       refine r_seq ?_
       refine r_region (n := 3) rfl ?_
       refine o_fieldE (cs := (WireFault.cells x3)) (by decide) ty_fo63_1 rfl ?_
       refine o_loadE (v := .i x3.A) (by decide) rfl (part_one ty_agg3 ty_sc3 rfl) ?_
       refine o_assign (v := .i x3.A) (by decide) rfl ?_
       refine run_nil ?_
       refine w_next [(6, .i x3.A)] (.k .nil) ?_
       refine r_ret ?_
       refine r_blk_ret ?_
       refine w_goto_ret ?_
       refine w_round_ret ?_
       refine r_blk_ret ?_
       refine w_goto_ret ?_
       refine w_end (x := .i x3.A) (f := fun r => .i r) (.inr rfl) ?_ (.refl _) (Option.some.inj hM) hS
       exact (res_one (res_tmp (x := .i x3.A) rfl))
      ·replace hM := ifF hM hb6
       refine w_condF (e := (x3.B == a2)) rfl hb6 ?_
       refine r_skip ?_
       refine r_blk_normal ?_
       exact w_goto () (.k (.k (.k (.k .nil)))) ⟨(hS.keep [] rfl).up (by omega), hM⟩
    ·replace hM := ifF hM hb4
     refine w_condF (e := (x3.Kind == a1)) rfl hb4 ?_
     refine r_skip ?_
     refine r_blk_normal ?_
     exact w_goto () (.k (.k (.k (.k .nil)))) ⟨(hS.keep [] rfl).up (by omega), hM⟩
  ·replace hM := ifF hM hb2
   refine w_condF (e := (decide (v1 < (a0.length : Int)))) rfl hb2 ?_
   refine r_exit ?_
   refine r_then_exit ?_
   refine w_round_exit ?_
   refine r_blk_exit ?_
   exact w_goto () (.k .nil) ⟨(hS.keep [] rfl).up (by omega), hM⟩
theorem W_ref11_PlaysOf {n : Nat} {a0 : Wire} {a1 : List WireFault} {a2 : Int} {a3 : Int} {r : Int} (hM : ref11_PlaysOf n a0 a1 a2 a3 = some r) : PureSat Try.prog 47 [.agg (Wire.cells a0), .sl .no 3 (a1.map WireFault.cells), .i a2, .i a3] (.i r) := by
 refine pure_of_wp mixed Try.func47 rfl (by decide) Try.ntmps47 (by simp) ?pure fun H0 g hf => ?_
 case pure => exact .v _
 rw [frame0_of]
 change wpA _ _ _ _ (Fr.of [(0, .agg (Wire.cells a0)), (1, .sl .no 3 (a1.map WireFault.cells)), (2, .i a2), (3, .i a3)]) H0 g
 have hS := St.start hf
 refine r_seq ?_
 refine r_region (n := 2) rfl ?_
 refine o_box (v := .agg (Wire.cells a0)) (cs := (Wire.cells a0)) hS (by decide) rfl rfl (by omega) fun H hS => ?_
 refine o_assign (v := .i 0) (by decide) rfl ?_
 refine run_nil ?_
 refine w_iceE (L' := []) 0 4 hS rfl rfl rfl fun H hS => ?_
 refine w_next [(1, .sl .no 3 (a1.map WireFault.cells)), (2, .i a2), (3, .i a3), (4, .ep (Wire.cells a0))] (.k (.k (.k (.k .nil)))) ?_
 refine r_seq ?_
 refine w_join (J := Bool) (fun j => [(1, .sl .no 3 (a1.map WireFault.cells)), (2, .i a2), (3, .i a3), (4, .ep (Wire.cells a0)), (18, .b j)]) (fun j H' g' => St (· < g) H0 [] H' g' ∧ ref11_PlaysOf_j1 n a0 a1 a2 a3 j = some r) ?_ ?_
 ·rintro v1 H g1 ⟨hS, hM⟩
  change wpA _ _ _ _ (Fr.of [(1, .sl .no 3 (a1.map WireFault.cells)), (2, .i a2), (3, .i a3), (4, .ep (Wire.cells a0)), (18, .b v1)]) _ _
  replace hS : St (· < g) H0 [] H g1 := hS
  replace hM : ref11_PlaysOf_j1 n a0 a1 a2 a3 v1 = some r := hM
  rcases Bool.eq_false_or_eq_true v1 with hb2 | hb2
  ·replace hM := ifT hM hb2
   refine w_condT (e := v1) rfl hb2 ?_
   refine r_seq ?_
   refine r_region (n := 1) rfl ?_
   refine o_assign (v := .i (-1)) (by decide) rfl ?_
   refine run_nil ?_
   refine w_next [(8, .i (-1))] (.k .nil) ?_
   refine r_ret ?_
   refine r_then_ret ?_
   refine w_end (x := .i (-1)) (f := fun r => .i r) (.inr rfl) ?_ (.refl _) (Option.some.inj hM) hS
   exact (res_one (res_tmp (x := .i (-1)) rfl))
  ·replace hM := ifF hM hb2
   refine w_condF (e := v1) rfl hb2 ?_
   refine r_skip ?_
   refine w_next [(1, .sl .no 3 (a1.map WireFault.cells)), (2, .i a2), (3, .i a3), (4, .ep (Wire.cells a0))] (.k (.k (.k (.k .nil)))) ?_
   refine r_seq ?_
   have hS0 := hS
   refine r_draw (n := 11) rfl (by kernel_rfl) ?_
   refine o_move (v := .sl .no 3 (a1.map WireFault.cells)) (by decide) rfl ?_
   refine o_move (v := .i a2) (by decide) rfl ?_
   obtain ⟨r3, hr3, hM⟩ := bindE hM
   refine o_call (bs := [.sl .no 3 (a1.map WireFault.cells), .i 3, .i a2]) (by decide) rfl rfl ((W_ref11_other hr3).le (.k (.k (.k .nil)))) ?_
   refine o_fieldE (cs := (Wire.cells a0)) (by decide) ty_fo24_1 rfl ?_
   refine o_loadE (v := .i a0.Numbers) (by decide) rfl (part_one ty_agg3 ty_sc3 rfl) ?_
   refine o_int (v := .i (w64 (r3 * a0.Numbers))) (by decide) rfl rfl rfl ?_
   refine o_move (v := .sl .no 3 (a1.map WireFault.cells)) (by decide) rfl ?_
   refine o_move (v := .i a3) (by decide) rfl ?_
   obtain ⟨r4, hr4, hM⟩ := bindE hM
   refine o_call (bs := [.sl .no 3 (a1.map WireFault.cells), .i 4, .i a3]) (by decide) rfl rfl ((W_ref11_other hr4).le (.k (.k (.k .nil)))) ?_
   refine o_int (v := .i (w64 ((w64 (r3 * a0.Numbers)) + r4))) (by decide) rfl rfl rfl ?_
   refine o_assign (v := .i (w64 ((w64 (r3 * a0.Numbers)) + r4))) (by decide) rfl ?_
   refine run_nil ?_
   refine w_next [(8, .i (w64 ((w64 (r3 * a0.Numbers)) + r4)))] (.k .nil) ?_
   refine r_ret ?_
   refine w_end (x := .i (w64 ((w64 (r3 * a0.Numbers)) + r4))) (f := fun r => .i r) (.inr rfl) ?_ (.refl _) (Option.some.inj hM) hS
   exact (res_one (res_tmp (x := .i (w64 ((w64 (r3 * a0.Numbers)) + r4))) rfl))
 ·refine r_region (n := 10) rfl ?_
  refine o_move (v := .sl .no 3 (a1.map WireFault.cells)) (by decide) rfl ?_
  refine o_move (v := .i a2) (by decide) rfl ?_
  refine o_build (cs := [.i 1, .i a2, .i 0]) (by decide) ty_zero63 ty_pl63 rfl ?_
  obtain ⟨r5, hr5, hM⟩ := bindE hM
  refine o_call (bs := [.sl .no 3 (a1.map WireFault.cells), .agg [.i 1, .i a2, .i 0]]) (by decide) rfl rfl ((W_ref11_Has hr5).le (.k (.k .nil))) ?_
  refine o_move (v := .b r5) (by decide) rfl ?_
  rcases Bool.eq_false_or_eq_true r5 with hb6 | hb6
  ·replace hM := ifT hM hb6
   refine o_guardN (j := 4) (e := r5) (want := false) (by decide) rfl hb6 ?_
   refine o_guardN (j := 4) (e := r5) (want := false) (by decide) rfl hb6 ?_
   refine o_guardN (j := 4) (e := r5) (want := false) (by decide) rfl hb6 ?_
   refine o_guardN (j := 4) (e := r5) (want := false) (by decide) rfl hb6 ?_
   refine o_pickT (v := .b true) (e := r5) (by decide) rfl hb6 rfl ?_
   refine run_nil ?_
   exact w_goto true (.k (.k (.k (.k (.k .nil))))) ⟨(hS.keep [] rfl).up (by omega), hM⟩
  ·replace hM := ifF hM hb6
   refine o_guardY (j := 4) (e := r5) (want := false) rfl hb6 ?_
   refine o_move (v := .sl .no 3 (a1.map WireFault.cells)) (by decide) rfl ?_
   refine o_guardY (j := 4) (e := r5) (want := false) rfl hb6 ?_
   refine o_move (v := .i a3) (by decide) rfl ?_
   refine o_guardY (j := 4) (e := r5) (want := false) rfl hb6 ?_
   refine o_build (cs := [.i 2, .i a3, .i 0]) (by decide) ty_zero63 ty_pl63 rfl ?_
   refine o_guardY (j := 4) (e := r5) (want := false) rfl hb6 ?_
   obtain ⟨r7, hr7, hM⟩ := bindE hM
   refine o_call (bs := [.sl .no 3 (a1.map WireFault.cells), .agg [.i 2, .i a3, .i 0]]) (by decide) rfl rfl ((W_ref11_Has hr7).le (.k (.k .nil))) ?_
   refine o_pickF (v := .b r7) (e := r5) (by decide) rfl hb6 rfl ?_
   refine run_nil ?_
   exact w_goto r7 (.k (.k (.k (.k (.k .nil))))) ⟨(hS.keep [] rfl).up (by omega), hM⟩
theorem W_ref11_IsExplained {n : Nat} {a0 : Wire} {a1 : List WireFault} {r : Bool} (hM : ref11_IsExplained n a0 a1 = some r) : PureSat Try.prog 78 [.agg (Wire.cells a0), .sl .no 3 (a1.map WireFault.cells)] (.b r) := by
 refine pure_of_wp mixed Try.func78 rfl (by decide) Try.ntmps78 (by simp) ?pure fun H0 g hf => ?_
 case pure => exact .v _
 rw [frame0_of]
 change wpA _ _ _ _ (Fr.of [(0, .agg (Wire.cells a0)), (1, .sl .no 3 (a1.map WireFault.cells))]) H0 g
 have hS := St.start hf
 refine r_seq ?_
 refine r_region (n := 2) rfl ?_
 refine o_box (v := .agg (Wire.cells a0)) (cs := (Wire.cells a0)) hS (by decide) rfl rfl (by omega) fun H hS => ?_
 refine o_assign (v := .b false) (by decide) rfl ?_
 refine run_nil ?_
 refine w_iceE (L' := []) 0 2 hS rfl rfl rfl fun H hS => ?_
 refine w_next [(1, .sl .no 3 (a1.map WireFault.cells)), (2, .ep (Wire.cells a0))] (.k (.k .nil)) ?_
 refine w_join (J := Unit) (fun j => []) (fun j H' g' => St (· < g) H0 [] H' g' ∧ ref11_IsExplained_j1 = some r) ?_ ?_
 ·rintro _ H g1 ⟨hS, hM⟩
  change wpA _ _ _ _ (Fr.of []) _ _
  replace hS : St (· < g) H0 [] H g1 := hS
  replace hM : ref11_IsExplained_j1 = some r := hM
  refine r_seq ?_
  refine r_region (n := 1) rfl ?_
  refine o_assign (v := .b true) (by decide) rfl ?_
  refine run_nil ?_
  refine w_next [(4, .b true)] (.k .nil) ?_
  refine r_ret ?_
  refine w_end (x := .b true) (f := fun r => .b r) (.inr rfl) ?_ (.refl _) (Option.some.inj hM) hS
  exact (res_one (res_tmp (x := .b true) rfl))
 ·refine r_seq ?_
  refine r_region (n := 1) rfl ?_
  refine o_assign (v := .i 0) (by decide) rfl ?_
  refine run_nil ?_
  refine w_next [(1, .sl .no 3 (a1.map WireFault.cells)), (2, .ep (Wire.cells a0)), (5, .i 0)] (.k (.k (.k .nil))) ?_
  refine r_block ?_
  refine w_loop (V := Int) (fun v => [(1, .sl .no 3 (a1.map WireFault.cells)), (2, .ep (Wire.cells a0)), (5, .i v)]) (fun v m2 H' g' => St (· < g) H0 [] H' g' ∧ ref11_IsExplained_l1 n a0 a1 m2 v = some r) (n := n) 0 (.k (.k (.k .nil))) ⟨(hS.keep [] rfl).up (by omega), hM⟩ ?_
  rintro v1 m2 H g2 ⟨hS, hM⟩
  obtain _ | m2 := m2
  ·exact nomatch (show none = some _ from hM)
  change wpA _ _ _ _ (Fr.of [(1, .sl .no 3 (a1.map WireFault.cells)), (2, .ep (Wire.cells a0)), (5, .i v1)]) _ _
  replace hS : St (· < g) H0 [] H g2 := hS
  replace hM : ref11_IsExplained_l1_b n a0 a1 (ref11_IsExplained_l1 n a0 a1 m2) v1 = some r := hM
  refine r_seq ?_
  refine r_seq ?_
  refine r_region (n := 5) rfl ?_
  refine o_move (v := .i v1) (by decide) rfl ?_
  refine o_fieldE (cs := (Wire.cells a0)) (by decide) ty_fo24_2 rfl ?_
  refine o_loadE (v := .sl .no 3 (a0.Presses.map WirePress.cells)) (by decide) rfl (part_one ty_agg22 ty_sc22 rfl) ?_
  refine o_len (n := a0.Presses.length) (by decide) rfl (List.length_map _) ty_isl22 ?_
  refine o_int (v := .b (decide (v1 < (a0.Presses.length : Int)))) (by decide) rfl rfl rfl ?_
  refine run_nil ?_
  refine w_next [(1, .sl .no 3 (a1.map WireFault.cells)), (2, .ep (Wire.cells a0)), (5, .i v1), (11, .b (decide (v1 < (a0.Presses.length : Int))))] (.k (.k (.k (.k .nil)))) ?_
  rcases Bool.eq_false_or_eq_true (decide (v1 < (a0.Presses.length : Int))) with hb2 | hb2
  ·replace hM := ifT hM hb2
   refine w_condT (e := (decide (v1 < (a0.Presses.length : Int)))) rfl hb2 ?_
   refine r_skip ?_
   refine w_next [(1, .sl .no 3 (a1.map WireFault.cells)), (2, .ep (Wire.cells a0)), (5, .i v1)] (.k (.k (.k .nil))) ?_
   refine r_seq ?_
   refine r_block ?_
   refine r_seq ?_
   refine r_region (n := 7) rfl ?_
   refine o_fieldE (cs := (Wire.cells a0)) (by decide) ty_fo24_2 rfl ?_
   refine o_loadE (v := .sl .no 3 (a0.Presses.map WirePress.cells)) (by decide) rfl (part_one ty_agg22 ty_sc22 rfl) ?_
   refine o_move (v := .i v1) (by decide) rfl ?_
   obtain ⟨x3, hx3, hM⟩ := bindE hM
   refine o_index (xs := a0.Presses) (f := WirePress.cells) (z := v1) (u := x3) (by decide) rfl rfl ty_es22 hx3 ?_
   refine o_loadE (v := .agg [.i x3.Letter, .i x3.Number, .i x3.Got]) (by decide) rfl (part_agg ty_agg50 (Nat.le_of_ble_eq_true rfl) rfl) ?_
   refine o_alloc hS (by decide) ty_zero50 (by omega) fun H hS => ?_
   refine o_store (v := .agg [.i x3.Letter, .i x3.Number, .i x3.Got]) (ns := [.i x3.Letter, .i x3.Number, .i x3.Got]) (L' := [(g2 + 5 + 5, .cells [.i x3.Letter, .i x3.Number, .i x3.Got])]) 0 hS rfl rfl .no rfl rfl ty_var50 (Nat.le_of_ble_eq_true rfl) rfl fun H hS => ?_
   refine run_nil ?_
   refine w_iceE (L' := []) 0 6 hS rfl rfl rfl fun H hS => ?_
   refine w_next [(1, .sl .no 3 (a1.map WireFault.cells)), (2, .ep (Wire.cells a0)), (5, .i v1), (6, .ep [.i x3.Letter, .i x3.Number, .i x3.Got])] (.k (.k (.k (.k .nil)))) ?_
   refine r_seq ?_
   have hS0 := hS
   refine r_draw (n := 10) rfl (by kernel_rfl) ?_
   refine o_loadE (v := .agg (Wire.cells a0)) (by decide) rfl (part_agg ty_agg24 (Nat.le_of_ble_eq_true rfl) rfl) ?_
   refine o_move (v := .sl .no 3 (a1.map WireFault.cells)) (by decide) rfl ?_
   refine o_fieldE (cs := [.i x3.Letter, .i x3.Number, .i x3.Got]) (by decide) ty_fo50_0 rfl ?_
   refine o_loadE (v := .i x3.Letter) (by decide) rfl (part_one ty_agg3 ty_sc3 rfl) ?_
   refine o_fieldE (cs := [.i x3.Letter, .i x3.Number, .i x3.Got]) (by decide) ty_fo50_1 rfl ?_
   refine o_loadE (v := .i x3.Number) (by decide) rfl (part_one ty_agg3 ty_sc3 rfl) ?_
   obtain ⟨r4, hr4, hM⟩ := bindE hM
   refine o_call (bs := [.agg (Wire.cells a0), .sl .no 3 (a1.map WireFault.cells), .i x3.Letter, .i x3.Number]) (by decide) rfl rfl ((W_ref11_PlaysOf hr4).le (.k (.k (.k (.k .nil))))) ?_
   refine o_fieldE (cs := [.i x3.Letter, .i x3.Number, .i x3.Got]) (by decide) ty_fo50_2 rfl ?_
   refine o_loadE (v := .i x3.Got) (by decide) rfl (part_one ty_agg3 ty_sc3 rfl) ?_
   refine o_int (v := .b (r4 != x3.Got)) (by decide) rfl rfl rfl ?_
   refine run_nil ?_
   refine w_next [(1, .sl .no 3 (a1.map WireFault.cells)), (2, .ep (Wire.cells a0)), (5, .i v1), (28, .b (r4 != x3.Got))] (.k (.k (.k (.k .nil)))) ?_
   rcases Bool.eq_false_or_eq_true (r4 != x3.Got) with hb5 | hb5
   ·replace hM := ifT hM hb5
    refine w_condT (e := (r4 != x3.Got)) rfl hb5 ?_
    refine r_seq ?_
    refine r_region (n := 1) rfl ?_
    refine o_assign (v := .b false) (by decide) rfl ?_
    refine run_nil ?_
    refine w_next [(4, .b false)] (.k .nil) ?_
    refine r_ret ?_
    refine r_blk_ret ?_
    refine r_then_ret ?_
    refine w_round_ret ?_
    refine r_blk_ret ?_
    refine w_goto_ret ?_
    refine w_end (x := .b false) (f := fun r => .b r) (.inr rfl) ?_ (.refl _) (Option.some.inj hM) hS
    exact (res_one (res_tmp (x := .b false) rfl))
   ·replace hM := ifF hM hb5
    refine w_condF (e := (r4 != x3.Got)) rfl hb5 ?_
    refine r_skip ?_
    refine r_blk_normal ?_
    refine w_next [(1, .sl .no 3 (a1.map WireFault.cells)), (2, .ep (Wire.cells a0)), (5, .i v1)] (.k (.k (.k .nil))) ?_
    refine r_region (n := 3) rfl ?_
    refine o_move (v := .i v1) (by decide) rfl ?_
    refine o_int (v := .i (w64 (v1 + 1))) (by decide) rfl rfl rfl ?_
    refine o_assign (v := .i (w64 (v1 + 1))) (by decide) rfl ?_
    refine run_nil ?_
    exact w_round (w64 (v1 + 1)) (Nat.lt_succ_self _) (.k (.k (.k .nil))) ⟨(hS.keep [] rfl).up (by omega), hM⟩
  ·replace hM := ifF hM hb2
   refine w_condF (e := (decide (v1 < (a0.Presses.length : Int)))) rfl hb2 ?_
   refine r_exit ?_
   refine r_then_exit ?_
   refine w_round_exit ?_
   refine r_blk_exit ?_
   exact w_goto () .nil ⟨(hS.keep [] rfl).up (by omega), hM⟩
theorem W_ref11_clash {a0 : WireFault} {a1 : WireFault} {r : Bool} (hM : ref11_clash a0 a1 = some r) : PureSat Try.prog 96 [.agg (WireFault.cells a0), .agg (WireFault.cells a1)] (.b r) := by
 refine pure_of_wp mixed Try.func96 rfl (by decide) Try.ntmps96 (by simp) ?pure fun H0 g hf => ?_
 case pure => exact .v _
 rw [frame0_of]
 change wpA _ _ _ _ (Fr.of [(0, .agg (WireFault.cells a0)), (1, .agg (WireFault.cells a1))]) H0 g
 have hS := St.start hf
 refine r_seq ?_
 refine r_region (n := 3) rfl ?_
 refine o_box (v := .agg (WireFault.cells a0)) (cs := (WireFault.cells a0)) hS (by decide) rfl rfl (by omega) fun H hS => ?_
 refine o_box (v := .agg (WireFault.cells a1)) (cs := (WireFault.cells a1)) hS (by decide) rfl rfl (by omega) fun H hS => ?_
 refine o_assign (v := .b false) (by decide) rfl ?_
 refine run_nil ?_
 refine w_iceE (L' := [(g + 1, .cells (WireFault.cells a1))]) 1 2 hS rfl rfl rfl fun H hS => ?_
 refine w_iceE (L' := []) 0 3 hS rfl rfl rfl fun H hS => ?_
 refine w_next [(2, .ep (WireFault.cells a0)), (3, .ep (WireFault.cells a1))] (.k (.k .nil)) ?_
 refine w_join (J := Bool) (fun j => [(4, .b j)]) (fun j H' g' => St (· < g) H0 [] H' g' ∧ ref11_clash_j1 j = some r) ?_ ?_
 ·rintro v1 H g1 ⟨hS, hM⟩
  change wpA _ _ _ _ (Fr.of [(4, .b v1)]) _ _
  replace hS : St (· < g) H0 [] H g1 := hS
  replace hM : ref11_clash_j1 v1 = some r := hM
  refine r_ret ?_
  refine w_end (x := .b v1) (f := fun r => .b r) (.inr rfl) ?_ (.refl _) (Option.some.inj hM) hS
  exact (res_one (res_tmp (x := .b v1) rfl))
 ·refine r_region (n := 39) rfl ?_
  refine o_fieldE (cs := (WireFault.cells a0)) (by decide) ty_fo63_0 rfl ?_
  refine o_loadE (v := .i a0.Kind) (by decide) rfl (part_one ty_agg3 ty_sc3 rfl) ?_
  refine o_fieldE (cs := (WireFault.cells a1)) (by decide) ty_fo63_0 rfl ?_
  refine o_loadE (v := .i a1.Kind) (by decide) rfl (part_one ty_agg3 ty_sc3 rfl) ?_
  refine o_int (v := .b (a0.Kind == a1.Kind)) (by decide) rfl rfl rfl ?_
  refine o_move (v := .b (a0.Kind == a1.Kind)) (by decide) rfl ?_
  rcases Bool.eq_false_or_eq_true (a0.Kind == a1.Kind) with hb2 | hb2
  ·replace hM := ifT hM hb2
   refine o_guardY (j := 5) (e := (a0.Kind == a1.Kind)) (want := true) rfl hb2 ?_
   refine o_fieldE (cs := (WireFault.cells a0)) (by decide) ty_fo63_0 rfl ?_
   refine o_guardY (j := 5) (e := (a0.Kind == a1.Kind)) (want := true) rfl hb2 ?_
   refine o_loadE (v := .i a0.Kind) (by decide) rfl (part_one ty_agg3 ty_sc3 rfl) ?_
   refine o_guardY (j := 5) (e := (a0.Kind == a1.Kind)) (want := true) rfl hb2 ?_
   refine o_int (v := .b (decide (a0.Kind ≥ 3))) (by decide) rfl rfl rfl ?_
   refine o_pickT (v := .b (decide (a0.Kind ≥ 3))) (e := (a0.Kind == a1.Kind)) (by decide) rfl hb2 rfl ?_
   refine o_move (v := .b (decide (a0.Kind ≥ 3))) (by decide) rfl ?_
   rcases Bool.eq_false_or_eq_true (decide (a0.Kind ≥ 3)) with hb3 | hb3
   ·replace hM := ifT hM hb3
    refine o_guardY (j := 10) (e := (decide (a0.Kind ≥ 3))) (want := true) rfl hb3 ?_
    refine o_fieldE (cs := (WireFault.cells a0)) (by decide) ty_fo63_1 rfl ?_
    refine o_guardY (j := 10) (e := (decide (a0.Kind ≥ 3))) (want := true) rfl hb3 ?_
    refine o_loadE (v := .i a0.A) (by decide) rfl (part_one ty_agg3 ty_sc3 rfl) ?_
    refine o_guardY (j := 10) (e := (decide (a0.Kind ≥ 3))) (want := true) rfl hb3 ?_
    refine o_fieldE (cs := (WireFault.cells a1)) (by decide) ty_fo63_1 rfl ?_
    refine o_guardY (j := 10) (e := (decide (a0.Kind ≥ 3))) (want := true) rfl hb3 ?_
    refine o_loadE (v := .i a1.A) (by decide) rfl (part_one ty_agg3 ty_sc3 rfl) ?_
    refine o_guardY (j := 10) (e := (decide (a0.Kind ≥ 3))) (want := true) rfl hb3 ?_
    refine o_int (v := .b (a0.A == a1.A)) (by decide) rfl rfl rfl ?_
    refine o_guardY (j := 10) (e := (decide (a0.Kind ≥ 3))) (want := true) rfl hb3 ?_
    refine o_move (v := .b (a0.A == a1.A)) (by decide) rfl ?_
    rcases Bool.eq_false_or_eq_true (a0.A == a1.A) with hb4 | hb4
    ·replace hM := ifT hM hb4
     refine o_guardN (j := 16) (e := (a0.A == a1.A)) (want := false) (by decide) rfl hb4 ?_
     refine o_guardN (j := 16) (e := (a0.A == a1.A)) (want := false) (by decide) rfl hb4 ?_
     refine o_guardN (j := 16) (e := (a0.A == a1.A)) (want := false) (by decide) rfl hb4 ?_
     refine o_guardN (j := 16) (e := (a0.A == a1.A)) (want := false) (by decide) rfl hb4 ?_
     refine o_guardN (j := 16) (e := (a0.A == a1.A)) (want := false) (by decide) rfl hb4 ?_
     refine o_guardY (j := 10) (e := (decide (a0.Kind ≥ 3))) (want := true) rfl hb3 ?_
     refine o_pickT (v := .b true) (e := (a0.A == a1.A)) (by decide) rfl hb4 rfl ?_
     refine o_guardY (j := 10) (e := (decide (a0.Kind ≥ 3))) (want := true) rfl hb3 ?_
     refine o_move (v := .b true) (by decide) rfl ?_
     refine o_guardN (j := 23) (e := true) (want := false) (by decide) rfl rfl ?_
     refine o_guardN (j := 23) (e := true) (want := false) (by decide) rfl rfl ?_
     refine o_guardN (j := 23) (e := true) (want := false) (by decide) rfl rfl ?_
     refine o_guardN (j := 23) (e := true) (want := false) (by decide) rfl rfl ?_
     refine o_guardN (j := 23) (e := true) (want := false) (by decide) rfl rfl ?_
     refine o_guardY (j := 10) (e := (decide (a0.Kind ≥ 3))) (want := true) rfl hb3 ?_
     refine o_pickT (v := .b true) (e := true) (by decide) rfl rfl rfl ?_
     refine o_guardY (j := 10) (e := (decide (a0.Kind ≥ 3))) (want := true) rfl hb3 ?_
     refine o_move (v := .b true) (by decide) rfl ?_
     refine o_guardN (j := 30) (e := true) (want := false) (by decide) rfl rfl ?_
     refine o_guardN (j := 30) (e := true) (want := false) (by decide) rfl rfl ?_
     refine o_guardN (j := 30) (e := true) (want := false) (by decide) rfl rfl ?_
     refine o_guardN (j := 30) (e := true) (want := false) (by decide) rfl rfl ?_
     refine o_guardN (j := 30) (e := true) (want := false) (by decide) rfl rfl ?_
     refine o_guardY (j := 10) (e := (decide (a0.Kind ≥ 3))) (want := true) rfl hb3 ?_
     refine o_pickT (v := .b true) (e := true) (by decide) rfl rfl rfl ?_
     refine o_pickT (v := .b true) (e := (decide (a0.Kind ≥ 3))) (by decide) rfl hb3 rfl ?_
     refine o_assign (v := .b true) (by decide) rfl ?_
     refine run_nil ?_
     exact w_goto true (.k .nil) ⟨(hS.keep [] rfl).up (by omega), hM⟩
    ·replace hM := ifF hM hb4
     refine o_guardY (j := 16) (e := (a0.A == a1.A)) (want := false) rfl hb4 ?_
     refine o_fieldE (cs := (WireFault.cells a0)) (by decide) ty_fo63_1 rfl ?_
     refine o_guardY (j := 16) (e := (a0.A == a1.A)) (want := false) rfl hb4 ?_
     refine o_loadE (v := .i a0.A) (by decide) rfl (part_one ty_agg3 ty_sc3 rfl) ?_
     refine o_guardY (j := 16) (e := (a0.A == a1.A)) (want := false) rfl hb4 ?_
     refine o_fieldE (cs := (WireFault.cells a1)) (by decide) ty_fo63_2 rfl ?_
     refine o_guardY (j := 16) (e := (a0.A == a1.A)) (want := false) rfl hb4 ?_
     refine o_loadE (v := .i a1.B) (by decide) rfl (part_one ty_agg3 ty_sc3 rfl) ?_
     refine o_guardY (j := 16) (e := (a0.A == a1.A)) (want := false) rfl hb4 ?_
     refine o_int (v := .b (a0.A == a1.B)) (by decide) rfl rfl rfl ?_
     refine o_guardY (j := 10) (e := (decide (a0.Kind ≥ 3))) (want := true) rfl hb3 ?_
     refine o_pickF (v := .b (a0.A == a1.B)) (e := (a0.A == a1.A)) (by decide) rfl hb4 rfl ?_
     refine o_guardY (j := 10) (e := (decide (a0.Kind ≥ 3))) (want := true) rfl hb3 ?_
     refine o_move (v := .b (a0.A == a1.B)) (by decide) rfl ?_
     rcases Bool.eq_false_or_eq_true (a0.A == a1.B) with hb5 | hb5
     ·replace hM := ifT hM hb5
      refine o_guardN (j := 23) (e := (a0.A == a1.B)) (want := false) (by decide) rfl hb5 ?_
      refine o_guardN (j := 23) (e := (a0.A == a1.B)) (want := false) (by decide) rfl hb5 ?_
      refine o_guardN (j := 23) (e := (a0.A == a1.B)) (want := false) (by decide) rfl hb5 ?_
      refine o_guardN (j := 23) (e := (a0.A == a1.B)) (want := false) (by decide) rfl hb5 ?_
      refine o_guardN (j := 23) (e := (a0.A == a1.B)) (want := false) (by decide) rfl hb5 ?_
      refine o_guardY (j := 10) (e := (decide (a0.Kind ≥ 3))) (want := true) rfl hb3 ?_
      refine o_pickT (v := .b true) (e := (a0.A == a1.B)) (by decide) rfl hb5 rfl ?_
      refine o_guardY (j := 10) (e := (decide (a0.Kind ≥ 3))) (want := true) rfl hb3 ?_
      refine o_move (v := .b true) (by decide) rfl ?_
      refine o_guardN (j := 30) (e := true) (want := false) (by decide) rfl rfl ?_
      refine o_guardN (j := 30) (e := true) (want := false) (by decide) rfl rfl ?_
      refine o_guardN (j := 30) (e := true) (want := false) (by decide) rfl rfl ?_
      refine o_guardN (j := 30) (e := true) (want := false) (by decide) rfl rfl ?_
      refine o_guardN (j := 30) (e := true) (want := false) (by decide) rfl rfl ?_
      refine o_guardY (j := 10) (e := (decide (a0.Kind ≥ 3))) (want := true) rfl hb3 ?_
      refine o_pickT (v := .b true) (e := true) (by decide) rfl rfl rfl ?_
      refine o_pickT (v := .b true) (e := (decide (a0.Kind ≥ 3))) (by decide) rfl hb3 rfl ?_
      refine o_assign (v := .b true) (by decide) rfl ?_
      refine run_nil ?_
      exact w_goto true (.k .nil) ⟨(hS.keep [] rfl).up (by omega), hM⟩
     ·replace hM := ifF hM hb5
      refine o_guardY (j := 23) (e := (a0.A == a1.B)) (want := false) rfl hb5 ?_
      refine o_fieldE (cs := (WireFault.cells a0)) (by decide) ty_fo63_2 rfl ?_
      refine o_guardY (j := 23) (e := (a0.A == a1.B)) (want := false) rfl hb5 ?_
      refine o_loadE (v := .i a0.B) (by decide) rfl (part_one ty_agg3 ty_sc3 rfl) ?_
      refine o_guardY (j := 23) (e := (a0.A == a1.B)) (want := false) rfl hb5 ?_
      refine o_fieldE (cs := (WireFault.cells a1)) (by decide) ty_fo63_1 rfl ?_
      refine o_guardY (j := 23) (e := (a0.A == a1.B)) (want := false) rfl hb5 ?_
      refine o_loadE (v := .i a1.A) (by decide) rfl (part_one ty_agg3 ty_sc3 rfl) ?_
      refine o_guardY (j := 23) (e := (a0.A == a1.B)) (want := false) rfl hb5 ?_
      refine o_int (v := .b (a0.B == a1.A)) (by decide) rfl rfl rfl ?_
      refine o_guardY (j := 10) (e := (decide (a0.Kind ≥ 3))) (want := true) rfl hb3 ?_
      refine o_pickF (v := .b (a0.B == a1.A)) (e := (a0.A == a1.B)) (by decide) rfl hb5 rfl ?_
      refine o_guardY (j := 10) (e := (decide (a0.Kind ≥ 3))) (want := true) rfl hb3 ?_
      refine o_move (v := .b (a0.B == a1.A)) (by decide) rfl ?_
      rcases Bool.eq_false_or_eq_true (a0.B == a1.A) with hb6 | hb6
      ·replace hM := ifT hM hb6
       refine o_guardN (j := 30) (e := (a0.B == a1.A)) (want := false) (by decide) rfl hb6 ?_
       refine o_guardN (j := 30) (e := (a0.B == a1.A)) (want := false) (by decide) rfl hb6 ?_
       refine o_guardN (j := 30) (e := (a0.B == a1.A)) (want := false) (by decide) rfl hb6 ?_
       refine o_guardN (j := 30) (e := (a0.B == a1.A)) (want := false) (by decide) rfl hb6 ?_
       refine o_guardN (j := 30) (e := (a0.B == a1.A)) (want := false) (by decide) rfl hb6 ?_
       refine o_guardY (j := 10) (e := (decide (a0.Kind ≥ 3))) (want := true) rfl hb3 ?_
       refine o_pickT (v := .b true) (e := (a0.B == a1.A)) (by decide) rfl hb6 rfl ?_
       refine o_pickT (v := .b true) (e := (decide (a0.Kind ≥ 3))) (by decide) rfl hb3 rfl ?_
       refine o_assign (v := .b true) (by decide) rfl ?_
       refine run_nil ?_
       exact w_goto true (.k .nil) ⟨(hS.keep [] rfl).up (by omega), hM⟩
      ·replace hM := ifF hM hb6
       refine o_guardY (j := 30) (e := (a0.B == a1.A)) (want := false) rfl hb6 ?_
       refine o_fieldE (cs := (WireFault.cells a0)) (by decide) ty_fo63_2 rfl ?_
       refine o_guardY (j := 30) (e := (a0.B == a1.A)) (want := false) rfl hb6 ?_
       refine o_loadE (v := .i a0.B) (by decide) rfl (part_one ty_agg3 ty_sc3 rfl) ?_
       refine o_guardY (j := 30) (e := (a0.B == a1.A)) (want := false) rfl hb6 ?_
       refine o_fieldE (cs := (WireFault.cells a1)) (by decide) ty_fo63_2 rfl ?_
       refine o_guardY (j := 30) (e := (a0.B == a1.A)) (want := false) rfl hb6 ?_
       refine o_loadE (v := .i a1.B) (by decide) rfl (part_one ty_agg3 ty_sc3 rfl) ?_
       refine o_guardY (j := 30) (e := (a0.B == a1.A)) (want := false) rfl hb6 ?_
       refine o_int (v := .b (a0.B == a1.B)) (by decide) rfl rfl rfl ?_
       refine o_guardY (j := 10) (e := (decide (a0.Kind ≥ 3))) (want := true) rfl hb3 ?_
       refine o_pickF (v := .b (a0.B == a1.B)) (e := (a0.B == a1.A)) (by decide) rfl hb6 rfl ?_
       refine o_pickT (v := .b (a0.B == a1.B)) (e := (decide (a0.Kind ≥ 3))) (by decide) rfl hb3 rfl ?_
       refine o_assign (v := .b (a0.B == a1.B)) (by decide) rfl ?_
       refine run_nil ?_
       exact w_goto (a0.B == a1.B) (.k .nil) ⟨(hS.keep [] rfl).up (by omega), hM⟩
   ·replace hM := ifF hM hb3
    refine o_guardN (j := 10) (e := (decide (a0.Kind ≥ 3))) (want := true) (by decide) rfl hb3 ?_
    refine o_guardN (j := 10) (e := (decide (a0.Kind ≥ 3))) (want := true) (by decide) rfl hb3 ?_
    refine o_guardN (j := 10) (e := (decide (a0.Kind ≥ 3))) (want := true) (by decide) rfl hb3 ?_
    refine o_guardN (j := 10) (e := (decide (a0.Kind ≥ 3))) (want := true) (by decide) rfl hb3 ?_
    refine o_guardN (j := 10) (e := (decide (a0.Kind ≥ 3))) (want := true) (by decide) rfl hb3 ?_
    refine o_guardN (j := 10) (e := (decide (a0.Kind ≥ 3))) (want := true) (by decide) rfl hb3 ?_
    refine o_guardU (j := 16) (by decide) rfl ?_
    refine o_guardU (j := 16) (by decide) rfl ?_
    refine o_guardU (j := 16) (by decide) rfl ?_
    refine o_guardU (j := 16) (by decide) rfl ?_
    refine o_guardU (j := 16) (by decide) rfl ?_
    refine o_guardN (j := 10) (e := (decide (a0.Kind ≥ 3))) (want := true) (by decide) rfl hb3 ?_
    refine o_guardN (j := 10) (e := (decide (a0.Kind ≥ 3))) (want := true) (by decide) rfl hb3 ?_
    refine o_guardU (j := 23) (by decide) rfl ?_
    refine o_guardU (j := 23) (by decide) rfl ?_
    refine o_guardU (j := 23) (by decide) rfl ?_
    refine o_guardU (j := 23) (by decide) rfl ?_
    refine o_guardU (j := 23) (by decide) rfl ?_
    refine o_guardN (j := 10) (e := (decide (a0.Kind ≥ 3))) (want := true) (by decide) rfl hb3 ?_
    refine o_guardN (j := 10) (e := (decide (a0.Kind ≥ 3))) (want := true) (by decide) rfl hb3 ?_
    refine o_guardU (j := 30) (by decide) rfl ?_
    refine o_guardU (j := 30) (by decide) rfl ?_
    refine o_guardU (j := 30) (by decide) rfl ?_
    refine o_guardU (j := 30) (by decide) rfl ?_
    refine o_guardU (j := 30) (by decide) rfl ?_
    refine o_guardN (j := 10) (e := (decide (a0.Kind ≥ 3))) (want := true) (by decide) rfl hb3 ?_
    refine o_pickF (v := .b false) (e := (decide (a0.Kind ≥ 3))) (by decide) rfl hb3 rfl ?_
    refine o_assign (v := .b false) (by decide) rfl ?_
    refine run_nil ?_
    exact w_goto false (.k .nil) ⟨(hS.keep [] rfl).up (by omega), hM⟩
  ·replace hM := ifF hM hb2
   refine o_guardN (j := 5) (e := (a0.Kind == a1.Kind)) (want := true) (by decide) rfl hb2 ?_
   refine o_guardN (j := 5) (e := (a0.Kind == a1.Kind)) (want := true) (by decide) rfl hb2 ?_
   refine o_guardN (j := 5) (e := (a0.Kind == a1.Kind)) (want := true) (by decide) rfl hb2 ?_
   refine o_pickF (v := .b false) (e := (a0.Kind == a1.Kind)) (by decide) rfl hb2 rfl ?_
   refine o_move (v := .b false) (by decide) rfl ?_
   refine o_guardN (j := 10) (e := false) (want := true) (by decide) rfl rfl ?_
   refine o_guardN (j := 10) (e := false) (want := true) (by decide) rfl rfl ?_
   refine o_guardN (j := 10) (e := false) (want := true) (by decide) rfl rfl ?_
   refine o_guardN (j := 10) (e := false) (want := true) (by decide) rfl rfl ?_
   refine o_guardN (j := 10) (e := false) (want := true) (by decide) rfl rfl ?_
   refine o_guardN (j := 10) (e := false) (want := true) (by decide) rfl rfl ?_
   refine o_guardU (j := 16) (by decide) rfl ?_
   refine o_guardU (j := 16) (by decide) rfl ?_
   refine o_guardU (j := 16) (by decide) rfl ?_
   refine o_guardU (j := 16) (by decide) rfl ?_
   refine o_guardU (j := 16) (by decide) rfl ?_
   refine o_guardN (j := 10) (e := false) (want := true) (by decide) rfl rfl ?_
   refine o_guardN (j := 10) (e := false) (want := true) (by decide) rfl rfl ?_
   refine o_guardU (j := 23) (by decide) rfl ?_
   refine o_guardU (j := 23) (by decide) rfl ?_
   refine o_guardU (j := 23) (by decide) rfl ?_
   refine o_guardU (j := 23) (by decide) rfl ?_
   refine o_guardU (j := 23) (by decide) rfl ?_
   refine o_guardN (j := 10) (e := false) (want := true) (by decide) rfl rfl ?_
   refine o_guardN (j := 10) (e := false) (want := true) (by decide) rfl rfl ?_
   refine o_guardU (j := 30) (by decide) rfl ?_
   refine o_guardU (j := 30) (by decide) rfl ?_
   refine o_guardU (j := 30) (by decide) rfl ?_
   refine o_guardU (j := 30) (by decide) rfl ?_
   refine o_guardU (j := 30) (by decide) rfl ?_
   refine o_guardN (j := 10) (e := false) (want := true) (by decide) rfl rfl ?_
   refine o_pickF (v := .b false) (e := false) (by decide) rfl rfl rfl ?_
   refine o_assign (v := .b false) (by decide) rfl ?_
   refine run_nil ?_
   exact w_goto false (.k .nil) ⟨(hS.keep [] rfl).up (by omega), hM⟩
theorem W_wires_Maybe_c1 {a0 : Int} {a1 : Int} {r : Bool} (hM : wires_Maybe_c1 a0 a1 = some r) : PureSat Try.prog 60 [.i a0, .i a1] (.b r) := by
 refine pure_of_wp mixed Try.func60 rfl (by decide) Try.ntmps60 (by simp) ?pure fun H0 g hf => ?_
 case pure => exact .v _
 rw [frame0_of]
 change wpA _ _ _ _ (Fr.of [(0, .i a0), (1, .i a1)]) H0 g
 have hS := St.start hf
 refine r_seq ?_
 refine r_region (n := 1) rfl ?_
 refine o_assign (v := .b false) (by decide) rfl ?_
 refine run_nil ?_
 refine w_next [(0, .i a0)] (.k .nil) ?_
 refine r_seq ?_
 refine r_region (n := 3) rfl ?_
 refine o_move (v := .i a0) (by decide) rfl ?_
 refine o_int (v := .b (decide (a0 > 0))) (by decide) rfl rfl rfl ?_
 refine o_assign (v := .b (decide (a0 > 0))) (by decide) rfl ?_
 refine run_nil ?_
 refine w_next [(4, .b (decide (a0 > 0)))] (.k .nil) ?_
 refine r_ret ?_
 refine w_end (x := .b (decide (a0 > 0))) (f := fun r => .b r) (.inr rfl) ?_ (.refl _) (Option.some.inj hM) hS
 exact (res_one (res_tmp (x := .b (decide (a0 > 0))) rfl))
theorem W_wires_Maybe {n : Nat} {a0 : Wire} {r : (List WireFault) × Int} (hM : wires_Maybe n a0 = some r) : PureSat Try.prog 21 [.agg (Wire.cells a0)] (.tup [.sl .no 3 (r.1.map WireFault.cells), .i r.2]) := by
 refine pure_of_wp mixed Try.func21 rfl (by decide) Try.ntmps21 (by simp) ?pure fun H0 g hf => ?_
 case pure => exact .tup _ (pl_cons (.sl _ _ (pures_map (fun x => (pl_cons (.v _) (pl_cons (.v _) (pl_cons (.v _) pl_nil)))))) (pl_cons (.v _) pl_nil))
 rw [frame0_of]
 change wpA _ _ _ _ (Fr.of [(0, .agg (Wire.cells a0))]) H0 g
 have hS := St.start hf
 refine r_seq ?_
 refine r_region (n := 3) rfl ?_
 refine o_box (v := .agg (Wire.cells a0)) (cs := (Wire.cells a0)) hS (by decide) rfl rfl (by omega) fun H hS => ?_
 refine o_assign (v := .sl .nil 0 []) (by decide) rfl ?_
 refine o_assign (v := .i 0) (by decide) rfl ?_
 refine run_nil ?_
 refine w_iceE (L' := []) 0 1 hS rfl rfl rfl fun H hS => ?_
 refine w_next [(1, .ep (Wire.cells a0))] (.k .nil) ?_
 refine r_seq ?_
 refine r_region (n := 6) rfl ?_
 refine o_loadE (v := .agg (Wire.cells a0)) (by decide) rfl (part_agg ty_agg24 (Nat.le_of_ble_eq_true rfl) rfl) ?_
 obtain ⟨r1, hr1, hM⟩ := bindE hM
 refine o_call (bs := [.agg (Wire.cells a0), .fn (.func 60) [] []]) (by decide) rfl rfl (pure_of_hsat ((W_wires_faults (Lo := (fun (_ : Unit) => []))  (fun _ _ => kl_nil) (fun _ => List.nodup_nil) (fun _ => inb_nil) (aF := (fun (x0 : Int) (x1 : Int) (_ : Unit) => (wires_Maybe_c1 x0 x1).map fun y => (y, ()))) (fun _ H hH => (.fn _ _ _ ai_nil ai_nil)) rfl (fun h => csat_val (W_wires_Maybe_c1 (pure_some h))) hr1).le (.k (.k .nil)))) ?_
 refine o_extract (v := .sl .no 3 (r1.1.1.map WireFault.cells)) (by decide) rfl rfl ?_
 refine o_extract (v := .i r1.1.2) (by decide) rfl rfl ?_
 refine o_assign (v := .sl .no 3 (r1.1.1.map WireFault.cells)) (by decide) rfl ?_
 refine o_assign (v := .i r1.1.2) (by decide) rfl ?_
 refine run_nil ?_
 refine w_next [(2, .sl .no 3 (r1.1.1.map WireFault.cells)), (3, .i r1.1.2)] (.k (.k .nil)) ?_
 refine r_ret ?_
 refine w_end (x := .tup [.sl .no 3 (r1.1.1.map WireFault.cells), .i r1.1.2]) (f := fun r => .tup [.sl .no 3 (r.1.map WireFault.cells), .i r.2]) (.inr rfl) ?_ (.refl _) (Option.some.inj hM) hS
 exact (res_two (res_tmp (x := .sl .no 3 (r1.1.1.map WireFault.cells)) rfl) (res_tmp (x := .i r1.1.2) rfl))
theorem W_law11_ready {n : Nat} {a0 : Wire} {r : Bool} (hM : law11_ready n a0 = some r) : PureSat Try.prog 25 [.agg (Wire.cells a0)] (.b r) := by
 refine pure_of_wp mixed Try.func25 rfl (by decide) Try.ntmps25 (by simp) ?pure fun H0 g hf => ?_
 case pure => exact .v _
 rw [frame0_of]
 change wpA _ _ _ _ (Fr.of [(0, .agg (Wire.cells a0))]) H0 g
 have hS := St.start hf
 refine r_seq ?_
 refine r_region (n := 2) rfl ?_
 refine o_box (v := .agg (Wire.cells a0)) (cs := (Wire.cells a0)) hS (by decide) rfl rfl (by omega) fun H hS => ?_
 refine o_assign (v := .b false) (by decide) rfl ?_
 refine run_nil ?_
 refine w_iceE (L' := []) 0 1 hS rfl rfl rfl fun H hS => ?_
 refine w_next [(1, .ep (Wire.cells a0))] (.k .nil) ?_
 refine w_join (J := Bool) (fun j => [(2, .b j)]) (fun j H' g' => St (· < g) H0 [] H' g' ∧ law11_ready_j1 j = some r) ?_ ?_
 ·rintro v1 H g1 ⟨hS, hM⟩
  change wpA _ _ _ _ (Fr.of [(2, .b v1)]) _ _
  replace hS : St (· < g) H0 [] H g1 := hS
  replace hM : law11_ready_j1 v1 = some r := hM
  refine r_ret ?_
  refine w_end (x := .b v1) (f := fun r => .b r) (.inr rfl) ?_ (.refl _) (Option.some.inj hM) hS
  exact (res_one (res_tmp (x := .b v1) rfl))
 ·refine r_region (n := 9) rfl ?_
  refine o_loadE (v := .agg (Wire.cells a0)) (by decide) rfl (part_agg ty_agg24 (Nat.le_of_ble_eq_true rfl) rfl) ?_
  obtain ⟨r2, hr2, hM⟩ := bindE hM
  refine o_call (bs := [.agg (Wire.cells a0)]) (by decide) rfl rfl ((W_law11_Far hr2).le (.k .nil)) ?_
  refine o_not (e := r2) (by decide) rfl ?_
  refine o_move (v := .b (!r2)) (by decide) rfl ?_
  rcases Bool.eq_false_or_eq_true (!r2) with hb3 | hb3
  ·replace hM := ifT hM hb3
   refine o_guardY (j := 3) (e := (!r2)) (want := true) rfl hb3 ?_
   refine o_loadE (v := .agg (Wire.cells a0)) (by decide) rfl (part_agg ty_agg24 (Nat.le_of_ble_eq_true rfl) rfl) ?_
   refine o_guardY (j := 3) (e := (!r2)) (want := true) rfl hb3 ?_
   obtain ⟨r4, hr4, hM⟩ := bindE hM
   refine o_call (bs := [.agg (Wire.cells a0)]) (by decide) rfl rfl ((W_ref11_Check hr4).le (.k .nil)) ?_
   refine o_guardY (j := 3) (e := (!r2)) (want := true) rfl hb3 ?_
   refine o_int (v := .b (r4 == 0)) (by decide) rfl rfl rfl ?_
   refine o_pickT (v := .b (r4 == 0)) (e := (!r2)) (by decide) rfl hb3 rfl ?_
   refine o_assign (v := .b (r4 == 0)) (by decide) rfl ?_
   refine run_nil ?_
   exact w_goto (r4 == 0) (.k .nil) ⟨(hS.keep [] rfl).up (by omega), hM⟩
  ·replace hM := ifF hM hb3
   refine o_guardN (j := 3) (e := (!r2)) (want := true) (by decide) rfl hb3 ?_
   refine o_guardN (j := 3) (e := (!r2)) (want := true) (by decide) rfl hb3 ?_
   refine o_guardN (j := 3) (e := (!r2)) (want := true) (by decide) rfl hb3 ?_
   refine o_pickF (v := .b false) (e := (!r2)) (by decide) rfl hb3 rfl ?_
   refine o_assign (v := .b false) (by decide) rfl ?_
   refine run_nil ?_
   exact w_goto false (.k .nil) ⟨(hS.keep [] rfl).up (by omega), hM⟩
theorem W_law11_areIn {n : Nat} {a0 : List WireFault} {a1 : List WireFault} {r : Bool} (hM : law11_areIn n a0 a1 = some r) : PureSat Try.prog 27 [.sl .no 3 (a0.map WireFault.cells), .sl .no 3 (a1.map WireFault.cells)] (.b r) := by
 refine pure_of_wp mixed Try.func27 rfl (by decide) Try.ntmps27 (by simp) ?pure fun H0 g hf => ?_
 case pure => exact .v _
 rw [frame0_of]
 change wpA _ _ _ _ (Fr.of [(0, .sl .no 3 (a0.map WireFault.cells)), (1, .sl .no 3 (a1.map WireFault.cells))]) H0 g
 have hS := St.start hf
 refine r_seq ?_
 refine r_region (n := 1) rfl ?_
 refine o_assign (v := .b false) (by decide) rfl ?_
 refine run_nil ?_
 refine w_next [(0, .sl .no 3 (a0.map WireFault.cells)), (1, .sl .no 3 (a1.map WireFault.cells))] (.k (.k .nil)) ?_
 refine r_seq ?_
 refine w_join (J := Bool) (fun j => [(0, .sl .no 3 (a0.map WireFault.cells)), (1, .sl .no 3 (a1.map WireFault.cells)), (13, .b j)]) (fun j H' g' => St (· < g) H0 [] H' g' ∧ law11_areIn_j1 n a0 a1 j = some r) ?_ ?_
 ·rintro v1 H g1 ⟨hS, hM⟩
  change wpA _ _ _ _ (Fr.of [(0, .sl .no 3 (a0.map WireFault.cells)), (1, .sl .no 3 (a1.map WireFault.cells)), (13, .b v1)]) _ _
  replace hS : St (· < g) H0 [] H g1 := hS
  replace hM : law11_areIn_j1 n a0 a1 v1 = some r := hM
  rcases Bool.eq_false_or_eq_true v1 with hb2 | hb2
  ·replace hM := ifT hM hb2
   refine w_condT (e := v1) rfl hb2 ?_
   refine r_seq ?_
   refine r_region (n := 1) rfl ?_
   refine o_assign (v := .b false) (by decide) rfl ?_
   refine run_nil ?_
   refine w_next [(4, .b false)] (.k .nil) ?_
   refine r_ret ?_
   refine r_then_ret ?_
   refine w_end (x := .b false) (f := fun r => .b r) (.inr rfl) ?_ (.refl _) (Option.some.inj hM) hS
   exact (res_one (res_tmp (x := .b false) rfl))
  ·replace hM := ifF hM hb2
   refine w_condF (e := v1) rfl hb2 ?_
   refine r_skip ?_
   refine w_next [(0, .sl .no 3 (a0.map WireFault.cells)), (1, .sl .no 3 (a1.map WireFault.cells))] (.k (.k .nil)) ?_
   refine w_join (J := Unit) (fun j => []) (fun j H' g' => St (· < g) H0 [] H' g' ∧ law11_areIn_j2 = some r) ?_ ?_
   ·rintro _ H g2 ⟨hS, hM⟩
    change wpA _ _ _ _ (Fr.of []) _ _
    replace hS : St (· < g) H0 [] H g2 := hS
    replace hM : law11_areIn_j2 = some r := hM
    refine r_seq ?_
    refine r_region (n := 1) rfl ?_
    refine o_assign (v := .b true) (by decide) rfl ?_
    refine run_nil ?_
    refine w_next [(4, .b true)] (.k .nil) ?_
    refine r_ret ?_
    refine w_end (x := .b true) (f := fun r => .b r) (.inr rfl) ?_ (.refl _) (Option.some.inj hM) hS
    exact (res_one (res_tmp (x := .b true) rfl))
   ·refine r_seq ?_
    refine r_region (n := 1) rfl ?_
    refine o_assign (v := .i 0) (by decide) rfl ?_
    refine run_nil ?_
    refine w_next [(0, .sl .no 3 (a0.map WireFault.cells)), (1, .sl .no 3 (a1.map WireFault.cells)), (5, .i 0)] (.k (.k (.k .nil))) ?_
    refine r_block ?_
    refine w_loop (V := Int) (fun v => [(0, .sl .no 3 (a0.map WireFault.cells)), (1, .sl .no 3 (a1.map WireFault.cells)), (5, .i v)]) (fun v m3 H' g' => St (· < g) H0 [] H' g' ∧ law11_areIn_l1 n a0 a1 m3 v = some r) (n := n) 0 (.k (.k (.k .nil))) ⟨(hS.keep [] rfl).up (by omega), hM⟩ ?_
    rintro v3 m3 H g3 ⟨hS, hM⟩
    obtain _ | m3 := m3
    ·exact nomatch (show none = some _ from hM)
    change wpA _ _ _ _ (Fr.of [(0, .sl .no 3 (a0.map WireFault.cells)), (1, .sl .no 3 (a1.map WireFault.cells)), (5, .i v3)]) _ _
    replace hS : St (· < g) H0 [] H g3 := hS
    replace hM : law11_areIn_l1_b n a0 a1 (law11_areIn_l1 n a0 a1 m3) v3 = some r := hM
    refine r_seq ?_
    refine r_seq ?_
    refine r_region (n := 4) rfl ?_
    refine o_move (v := .i v3) (by decide) rfl ?_
    refine o_move (v := .sl .no 3 (a0.map WireFault.cells)) (by decide) rfl ?_
    refine o_len (n := a0.length) (by decide) rfl (List.length_map _) ty_isl31 ?_
    refine o_int (v := .b (decide (v3 < (a0.length : Int)))) (by decide) rfl rfl rfl ?_
    refine run_nil ?_
    refine w_next [(0, .sl .no 3 (a0.map WireFault.cells)), (1, .sl .no 3 (a1.map WireFault.cells)), (5, .i v3), (17, .b (decide (v3 < (a0.length : Int))))] (.k (.k (.k (.k .nil)))) ?_
    rcases Bool.eq_false_or_eq_true (decide (v3 < (a0.length : Int))) with hb4 | hb4
    ·replace hM := ifT hM hb4
     refine w_condT (e := (decide (v3 < (a0.length : Int)))) rfl hb4 ?_
     refine r_skip ?_
     refine w_next [(0, .sl .no 3 (a0.map WireFault.cells)), (1, .sl .no 3 (a1.map WireFault.cells)), (5, .i v3)] (.k (.k (.k .nil))) ?_
     refine r_seq ?_
     refine r_block ?_
     refine r_seq ?_
     refine r_region (n := 7) rfl ?_
     refine o_move (v := .sl .no 3 (a1.map WireFault.cells)) (by decide) rfl ?_
     refine o_move (v := .sl .no 3 (a0.map WireFault.cells)) (by decide) rfl ?_
     refine o_move (v := .i v3) (by decide) rfl ?_
     obtain ⟨x5, hx5, hM⟩ := bindE hM
     refine o_index (xs := a0) (f := WireFault.cells) (z := v3) (u := x5) (by decide) rfl rfl ty_es31 hx5 ?_
     refine o_loadE (v := .agg (WireFault.cells x5)) (by decide) rfl (part_agg ty_agg63 (Nat.le_of_ble_eq_true rfl) rfl) ?_
     obtain ⟨r6, hr6, hM⟩ := bindE hM
     refine o_call (bs := [.sl .no 3 (a1.map WireFault.cells), .agg (WireFault.cells x5)]) (by decide) rfl rfl ((W_ref11_Has hr6).le (.k (.k .nil))) ?_
     refine o_not (e := r6) (by decide) rfl ?_
     refine run_nil ?_
     refine w_next [(0, .sl .no 3 (a0.map WireFault.cells)), (1, .sl .no 3 (a1.map WireFault.cells)), (5, .i v3), (26, .b (!r6))] (.k (.k (.k (.k .nil)))) ?_
     rcases Bool.eq_false_or_eq_true (!r6) with hb7 | hb7
     ·replace hM := ifT hM hb7
      refine w_condT (e := (!r6)) rfl hb7 ?_
      refine r_seq ?_
      refine r_region (n := 1) rfl ?_
      refine o_assign (v := .b false) (by decide) rfl ?_
      refine run_nil ?_
      refine w_next [(4, .b false)] (.k .nil) ?_
      refine r_ret ?_
      refine r_blk_ret ?_
      refine r_then_ret ?_
      refine w_round_ret ?_
      refine r_blk_ret ?_
      refine w_goto_ret ?_
      refine w_end (x := .b false) (f := fun r => .b r) (.inr rfl) ?_ (.refl _) (Option.some.inj hM) hS
      exact (res_one (res_tmp (x := .b false) rfl))
     ·replace hM := ifF hM hb7
      refine w_condF (e := (!r6)) rfl hb7 ?_
      refine r_skip ?_
      refine r_blk_normal ?_
      refine w_next [(0, .sl .no 3 (a0.map WireFault.cells)), (1, .sl .no 3 (a1.map WireFault.cells)), (5, .i v3)] (.k (.k (.k .nil))) ?_
      refine r_region (n := 3) rfl ?_
      refine o_move (v := .i v3) (by decide) rfl ?_
      refine o_int (v := .i (w64 (v3 + 1))) (by decide) rfl rfl rfl ?_
      refine o_assign (v := .i (w64 (v3 + 1))) (by decide) rfl ?_
      refine run_nil ?_
      exact w_round (w64 (v3 + 1)) (Nat.lt_succ_self _) (.k (.k (.k .nil))) ⟨(hS.keep [] rfl).up (by omega), hM⟩
    ·replace hM := ifF hM hb4
     refine w_condF (e := (decide (v3 < (a0.length : Int)))) rfl hb4 ?_
     refine r_exit ?_
     refine r_then_exit ?_
     refine w_round_exit ?_
     refine r_blk_exit ?_
     exact w_goto () .nil ⟨(hS.keep [] rfl).up (by omega), hM⟩
 ·refine r_region (n := 8) rfl ?_
  refine o_move (v := .sl .no 3 (a0.map WireFault.cells)) (by decide) rfl ?_
  refine o_len (n := a0.length) (by decide) rfl (List.length_map _) ty_isl31 ?_
  refine o_int (v := .b (decide ((a0.length : Int) > 40))) (by decide) rfl rfl rfl ?_
  refine o_move (v := .b (decide ((a0.length : Int) > 40))) (by decide) rfl ?_
  rcases Bool.eq_false_or_eq_true (decide ((a0.length : Int) > 40)) with hb8 | hb8
  ·replace hM := ifT hM hb8
   refine o_guardN (j := 3) (e := (decide ((a0.length : Int) > 40))) (want := false) (by decide) rfl hb8 ?_
   refine o_guardN (j := 3) (e := (decide ((a0.length : Int) > 40))) (want := false) (by decide) rfl hb8 ?_
   refine o_guardN (j := 3) (e := (decide ((a0.length : Int) > 40))) (want := false) (by decide) rfl hb8 ?_
   refine o_pickT (v := .b true) (e := (decide ((a0.length : Int) > 40))) (by decide) rfl hb8 rfl ?_
   refine run_nil ?_
   exact w_goto true (.k (.k (.k .nil))) ⟨(hS.keep [] rfl).up (by omega), hM⟩
  ·replace hM := ifF hM hb8
   refine o_guardY (j := 3) (e := (decide ((a0.length : Int) > 40))) (want := false) rfl hb8 ?_
   refine o_move (v := .sl .no 3 (a1.map WireFault.cells)) (by decide) rfl ?_
   refine o_guardY (j := 3) (e := (decide ((a0.length : Int) > 40))) (want := false) rfl hb8 ?_
   refine o_len (n := a1.length) (by decide) rfl (List.length_map _) ty_isl31 ?_
   refine o_guardY (j := 3) (e := (decide ((a0.length : Int) > 40))) (want := false) rfl hb8 ?_
   refine o_int (v := .b (decide ((a1.length : Int) > 40))) (by decide) rfl rfl rfl ?_
   refine o_pickF (v := .b (decide ((a1.length : Int) > 40))) (e := (decide ((a0.length : Int) > 40))) (by decide) rfl hb8 rfl ?_
   refine run_nil ?_
   exact w_goto (decide ((a1.length : Int) > 40)) (.k (.k (.k .nil))) ⟨(hS.keep [] rfl).up (by omega), hM⟩
theorem W_ref01_In {n : Nat} {a0 : List Int} {a1 : Int} {r : Bool} (hM : ref01_In n a0 a1 = some r) : PureSat Try.prog 37 [.sl .no 1 (a0.map cI), .i a1] (.b r) := by
 refine pure_of_wp mixed Try.func37 rfl (by decide) Try.ntmps37 (by simp) ?pure fun H0 g hf => ?_
 case pure => exact .v _
 rw [frame0_of]
 change wpA _ _ _ _ (Fr.of [(0, .sl .no 1 (a0.map cI)), (1, .i a1)]) H0 g
 have hS := St.start hf
 refine r_seq ?_
 refine r_region (n := 1) rfl ?_
 refine o_assign (v := .b false) (by decide) rfl ?_
 refine run_nil ?_
 refine w_next [(0, .sl .no 1 (a0.map cI)), (1, .i a1)] (.k (.k .nil)) ?_
 refine w_join (J := Unit) (fun j => []) (fun j H' g' => St (· < g) H0 [] H' g' ∧ ref01_In_j1 = some r) ?_ ?_
 ·rintro _ H g1 ⟨hS, hM⟩
  change wpA _ _ _ _ (Fr.of []) _ _
  replace hS : St (· < g) H0 [] H g1 := hS
  replace hM : ref01_In_j1 = some r := hM
  refine r_seq ?_
  refine r_region (n := 1) rfl ?_
  refine o_assign (v := .b false) (by decide) rfl ?_
  refine run_nil ?_
  refine w_next [(4, .b false)] (.k .nil) ?_
  refine r_ret ?_
  refine w_end (x := .b false) (f := fun r => .b r) (.inr rfl) ?_ (.refl _) (Option.some.inj hM) hS
  exact (res_one (res_tmp (x := .b false) rfl))
 ·refine r_seq ?_
  refine r_region (n := 1) rfl ?_
  refine o_assign (v := .i 0) (by decide) rfl ?_
  refine run_nil ?_
  refine w_next [(0, .sl .no 1 (a0.map cI)), (1, .i a1), (5, .i 0)] (.k (.k (.k .nil))) ?_
  refine r_block ?_
  refine w_loop (V := Int) (fun v => [(0, .sl .no 1 (a0.map cI)), (1, .i a1), (5, .i v)]) (fun v m2 H' g' => St (· < g) H0 [] H' g' ∧ ref01_In_l1 a0 a1 m2 v = some r) (n := n) 0 (.k (.k (.k .nil))) ⟨(hS.keep [] rfl).up (by omega), hM⟩ ?_
  rintro v1 m2 H g2 ⟨hS, hM⟩
  obtain _ | m2 := m2
  ·exact nomatch (show none = some _ from hM)
  change wpA _ _ _ _ (Fr.of [(0, .sl .no 1 (a0.map cI)), (1, .i a1), (5, .i v1)]) _ _
  replace hS : St (· < g) H0 [] H g2 := hS
  replace hM : ref01_In_l1_b a0 a1 (ref01_In_l1 a0 a1 m2) v1 = some r := hM
  refine r_seq ?_
  refine r_seq ?_
  refine r_region (n := 4) rfl ?_
  refine o_move (v := .i v1) (by decide) rfl ?_
  refine o_move (v := .sl .no 1 (a0.map cI)) (by decide) rfl ?_
  refine o_len (n := a0.length) (by decide) rfl (List.length_map _) ty_isl39 ?_
  refine o_int (v := .b (decide (v1 < (a0.length : Int)))) (by decide) rfl rfl rfl ?_
  refine run_nil ?_
  refine w_next [(0, .sl .no 1 (a0.map cI)), (1, .i a1), (5, .i v1), (9, .b (decide (v1 < (a0.length : Int))))] (.k (.k (.k (.k .nil)))) ?_
  rcases Bool.eq_false_or_eq_true (decide (v1 < (a0.length : Int))) with hb2 | hb2
  ·replace hM := ifT hM hb2
   refine w_condT (e := (decide (v1 < (a0.length : Int)))) rfl hb2 ?_
   refine r_skip ?_
   refine w_next [(0, .sl .no 1 (a0.map cI)), (1, .i a1), (5, .i v1)] (.k (.k (.k .nil))) ?_
   refine r_seq ?_
   refine r_block ?_
   refine r_seq ?_
   refine r_region (n := 6) rfl ?_
   refine o_move (v := .sl .no 1 (a0.map cI)) (by decide) rfl ?_
   refine o_move (v := .i v1) (by decide) rfl ?_
   obtain ⟨x3, hx3, hM⟩ := bindE hM
   refine o_index (xs := a0) (f := cI) (z := v1) (u := x3) (by decide) rfl rfl ty_es39 hx3 ?_
   refine o_loadE (v := .i x3) (by decide) rfl (part_one ty_agg3 ty_sc3 rfl) ?_
   refine o_move (v := .i a1) (by decide) rfl ?_
   refine o_int (v := .b (x3 == a1)) (by decide) rfl rfl rfl ?_
   refine run_nil ?_
   refine w_next [(0, .sl .no 1 (a0.map cI)), (1, .i a1), (5, .i v1), (17, .b (x3 == a1))] (.k (.k (.k (.k .nil)))) ?_
   rcases Bool.eq_false_or_eq_true (x3 == a1) with hb4 | hb4
   ·replace hM := ifT hM hb4
    refine w_condT (e := (x3 == a1)) rfl hb4 ?_
    refine r_seq ?_
    refine r_region (n := 1) rfl ?_
    refine o_assign (v := .b true) (by decide) rfl ?_
    refine run_nil ?_
    refine w_next [(4, .b true)] (.k .nil) ?_
    refine r_ret ?_
    refine r_blk_ret ?_
    refine r_then_ret ?_
    refine w_round_ret ?_
    refine r_blk_ret ?_
    refine w_goto_ret ?_
    refine w_end (x := .b true) (f := fun r => .b r) (.inr rfl) ?_ (.refl _) (Option.some.inj hM) hS
    exact (res_one (res_tmp (x := .b true) rfl))
   ·replace hM := ifF hM hb4
    refine w_condF (e := (x3 == a1)) rfl hb4 ?_
    refine r_skip ?_
    refine r_blk_normal ?_
    refine w_next [(0, .sl .no 1 (a0.map cI)), (1, .i a1), (5, .i v1)] (.k (.k (.k .nil))) ?_
    refine r_region (n := 3) rfl ?_
    refine o_move (v := .i v1) (by decide) rfl ?_
    refine o_int (v := .i (w64 (v1 + 1))) (by decide) rfl rfl rfl ?_
    refine o_assign (v := .i (w64 (v1 + 1))) (by decide) rfl ?_
    refine run_nil ?_
    exact w_round (w64 (v1 + 1)) (Nat.lt_succ_self _) (.k (.k (.k .nil))) ⟨(hS.keep [] rfl).up (by omega), hM⟩
  ·replace hM := ifF hM hb2
   refine w_condF (e := (decide (v1 < (a0.length : Int)))) rfl hb2 ?_
   refine r_exit ?_
   refine r_then_exit ?_
   refine w_round_exit ?_
   refine r_blk_exit ?_
   exact w_goto () .nil ⟨(hS.keep [] rfl).up (by omega), hM⟩
theorem W_ref11_IsSet {n : Nat} {a0 : Wire} {a1 : List WireFault} {r : Bool} (hM : ref11_IsSet n a0 a1 = some r) : PureSat Try.prog 76 [.agg (Wire.cells a0), .sl .no 3 (a1.map WireFault.cells)] (.b r) := by
 refine pure_of_wp mixed Try.func76 rfl (by decide) Try.ntmps76 (by simp) ?pure fun H0 g hf => ?_
 case pure => exact .v _
 rw [frame0_of]
 change wpA _ _ _ _ (Fr.of [(0, .agg (Wire.cells a0)), (1, .sl .no 3 (a1.map WireFault.cells))]) H0 g
 have hS := St.start hf
 refine r_seq ?_
 refine r_region (n := 2) rfl ?_
 refine o_box (v := .agg (Wire.cells a0)) (cs := (Wire.cells a0)) hS (by decide) rfl rfl (by omega) fun H hS => ?_
 refine o_assign (v := .b false) (by decide) rfl ?_
 refine run_nil ?_
 refine w_iceE (L' := []) 0 2 hS rfl rfl rfl fun H hS => ?_
 refine w_next [(1, .sl .no 3 (a1.map WireFault.cells)), (2, .ep (Wire.cells a0))] (.k (.k .nil)) ?_
 refine r_seq ?_
 refine r_region (n := 4) rfl ?_
 refine o_loadE (v := .agg (Wire.cells a0)) (by decide) rfl (part_agg ty_agg24 (Nat.le_of_ble_eq_true rfl) rfl) ?_
 obtain ⟨r1, hr1, hM⟩ := bindE hM
 refine o_call (bs := [.agg (Wire.cells a0)]) (by decide) rfl rfl ((W_ref11_AllFaults hr1).le (.k .nil)) ?_
 refine o_assign (v := .sl .no 3 (r1.map WireFault.cells)) (by decide) rfl ?_
 refine o_assign (v := .i (-1)) (by decide) rfl ?_
 refine run_nil ?_
 refine w_next [(1, .sl .no 3 (a1.map WireFault.cells)), (5, .sl .no 3 (r1.map WireFault.cells)), (6, .i (-1))] (.k (.k (.k .nil))) ?_
 refine w_join (J := Unit) (fun j => []) (fun j H' g' => St (· < g) H0 [] H' g' ∧ ref11_IsSet_j1 = some r) ?_ ?_
 ·rintro _ H g1 ⟨hS, hM⟩
  change wpA _ _ _ _ (Fr.of []) _ _
  replace hS : St (· < g) H0 [] H g1 := hS
  replace hM : ref11_IsSet_j1 = some r := hM
  refine r_seq ?_
  refine r_region (n := 1) rfl ?_
  refine o_assign (v := .b true) (by decide) rfl ?_
  refine run_nil ?_
  refine w_next [(4, .b true)] (.k .nil) ?_
  refine r_ret ?_
  refine w_end (x := .b true) (f := fun r => .b r) (.inr rfl) ?_ (.refl _) (Option.some.inj hM) hS
  exact (res_one (res_tmp (x := .b true) rfl))
 ·refine r_seq ?_
  refine r_region (n := 1) rfl ?_
  refine o_assign (v := .i 0) (by decide) rfl ?_
  refine run_nil ?_
  refine w_next [(1, .sl .no 3 (a1.map WireFault.cells)), (5, .sl .no 3 (r1.map WireFault.cells)), (6, .i (-1)), (7, .i 0)] (.k (.k (.k (.k .nil)))) ?_
  refine r_block ?_
  refine w_loop (V := Int × Int) (fun v => [(1, .sl .no 3 (a1.map WireFault.cells)), (5, .sl .no 3 (r1.map WireFault.cells)), (6, .i v.1), (7, .i v.2)]) (fun v m2 H' g' => St (· < g) H0 [] H' g' ∧ ref11_IsSet_l1 n a1 r1 m2 v.1 v.2 = some r) (n := n) ((-1), 0) (.k (.k (.k (.k .nil)))) ⟨(hS.keep [] rfl).up (by omega), hM⟩ ?_
  rintro ⟨v2, v3⟩ m2 H g2 ⟨hS, hM⟩
  obtain _ | m2 := m2
  ·exact nomatch (show none = some _ from hM)
  change wpA _ _ _ _ (Fr.of [(1, .sl .no 3 (a1.map WireFault.cells)), (5, .sl .no 3 (r1.map WireFault.cells)), (6, .i v2), (7, .i v3)]) _ _
  replace hS : St (· < g) H0 [] H g2 := hS
  replace hM : ref11_IsSet_l1_b n a1 r1 (ref11_IsSet_l1 n a1 r1 m2) v2 v3 = some r := hM
  refine r_seq ?_
  refine r_seq ?_
  refine r_region (n := 4) rfl ?_
  refine o_move (v := .i v3) (by decide) rfl ?_
  refine o_move (v := .sl .no 3 (a1.map WireFault.cells)) (by decide) rfl ?_
  refine o_len (n := a1.length) (by decide) rfl (List.length_map _) ty_isl31 ?_
  refine o_int (v := .b (decide (v3 < (a1.length : Int)))) (by decide) rfl rfl rfl ?_
  refine run_nil ?_
  refine w_next [(1, .sl .no 3 (a1.map WireFault.cells)), (5, .sl .no 3 (r1.map WireFault.cells)), (6, .i v2), (7, .i v3), (15, .b (decide (v3 < (a1.length : Int))))] (.k (.k (.k (.k (.k .nil))))) ?_
  rcases Bool.eq_false_or_eq_true (decide (v3 < (a1.length : Int))) with hb4 | hb4
  ·replace hM := ifT hM hb4
   refine w_condT (e := (decide (v3 < (a1.length : Int)))) rfl hb4 ?_
   refine r_skip ?_
   refine w_next [(1, .sl .no 3 (a1.map WireFault.cells)), (5, .sl .no 3 (r1.map WireFault.cells)), (6, .i v2), (7, .i v3)] (.k (.k (.k (.k .nil)))) ?_
   refine w_join (J := Int) (fun j => [(1, .sl .no 3 (a1.map WireFault.cells)), (5, .sl .no 3 (r1.map WireFault.cells)), (6, .i j), (7, .i v3)]) (fun j H' g' => St (· < g) H0 [] H' g' ∧ ref11_IsSet_j2 (ref11_IsSet_l1 n a1 r1 m2) v3 j = some r) ?_ ?_
   ·rintro v5 H g3 ⟨hS, hM⟩
    change wpA _ _ _ _ (Fr.of [(1, .sl .no 3 (a1.map WireFault.cells)), (5, .sl .no 3 (r1.map WireFault.cells)), (6, .i v5), (7, .i v3)]) _ _
    replace hS : St (· < g) H0 [] H g3 := hS
    replace hM : ref11_IsSet_j2 (ref11_IsSet_l1 n a1 r1 m2) v3 v5 = some r := hM
    refine r_region (n := 3) rfl ?_
    refine o_move (v := .i v3) (by decide) rfl ?_
    refine o_int (v := .i (w64 (v3 + 1))) (by decide) rfl rfl rfl ?_
    refine o_assign (v := .i (w64 (v3 + 1))) (by decide) rfl ?_
    refine run_nil ?_
    exact w_round (v5, w64 (v3 + 1)) (Nat.lt_succ_self _) (.k (.k (.k (.k .nil)))) ⟨(hS.keep [] rfl).up (by omega), hM⟩
   ·refine r_block ?_
    refine r_seq ?_
    refine r_region (n := 7) rfl ?_
    refine o_move (v := .sl .no 3 (r1.map WireFault.cells)) (by decide) rfl ?_
    refine o_move (v := .sl .no 3 (a1.map WireFault.cells)) (by decide) rfl ?_
    refine o_move (v := .i v3) (by decide) rfl ?_
    obtain ⟨x6, hx6, hM⟩ := bindE hM
    refine o_index (xs := a1) (f := WireFault.cells) (z := v3) (u := x6) (by decide) rfl rfl ty_es31 hx6 ?_
    refine o_loadE (v := .agg (WireFault.cells x6)) (by decide) rfl (part_agg ty_agg63 (Nat.le_of_ble_eq_true rfl) rfl) ?_
    obtain ⟨r7, hr7, hM⟩ := bindE hM
    refine o_call (bs := [.sl .no 3 (r1.map WireFault.cells), .agg (WireFault.cells x6)]) (by decide) rfl rfl ((W_ref11_place hr7).le (.k (.k .nil))) ?_
    refine o_assign (v := .i r7) (by decide) rfl ?_
    refine run_nil ?_
    refine w_next [(1, .sl .no 3 (a1.map WireFault.cells)), (5, .sl .no 3 (r1.map WireFault.cells)), (6, .i v2), (7, .i v3), (8, .i r7)] (.k (.k (.k (.k (.k .nil))))) ?_
    refine r_seq ?_
    refine r_seq ?_
    refine r_region (n := 3) rfl ?_
    refine o_move (v := .i r7) (by decide) rfl ?_
    refine o_move (v := .i v2) (by decide) rfl ?_
    refine o_int (v := .b (decide (r7 ≤ v2))) (by decide) rfl rfl rfl ?_
    refine run_nil ?_
    refine w_next [(1, .sl .no 3 (a1.map WireFault.cells)), (5, .sl .no 3 (r1.map WireFault.cells)), (7, .i v3), (8, .i r7), (26, .b (decide (r7 ≤ v2)))] (.k (.k (.k (.k (.k .nil))))) ?_
    rcases Bool.eq_false_or_eq_true (decide (r7 ≤ v2)) with hb8 | hb8
    ·replace hM := ifT hM hb8
     refine w_condT (e := (decide (r7 ≤ v2))) rfl hb8 ?_
     refine r_seq ?_
     refine r_region (n := 1) rfl ?_
     refine o_assign (v := .b false) (by decide) rfl ?_
     refine run_nil ?_
     refine w_next [(4, .b false)] (.k .nil) ?_
     refine r_ret ?_
     refine r_then_ret ?_
     refine r_blk_ret ?_
     refine w_goto_ret ?_
     refine w_round_ret ?_
     refine r_blk_ret ?_
     refine w_goto_ret ?_
     refine w_end (x := .b false) (f := fun r => .b r) (.inr rfl) ?_ (.refl _) (Option.some.inj hM) hS
     exact (res_one (res_tmp (x := .b false) rfl))
    ·replace hM := ifF hM hb8
     refine w_condF (e := (decide (r7 ≤ v2))) rfl hb8 ?_
     refine r_skip ?_
     refine w_next [(1, .sl .no 3 (a1.map WireFault.cells)), (5, .sl .no 3 (r1.map WireFault.cells)), (7, .i v3), (8, .i r7)] (.k (.k (.k (.k .nil)))) ?_
     refine r_seq ?_
     refine r_region (n := 2) rfl ?_
     refine o_move (v := .i r7) (by decide) rfl ?_
     refine o_assign (v := .i r7) (by decide) rfl ?_
     refine run_nil ?_
     refine w_next [(1, .sl .no 3 (a1.map WireFault.cells)), (5, .sl .no 3 (r1.map WireFault.cells)), (6, .i r7), (7, .i v3)] (.k (.k (.k (.k .nil)))) ?_
     refine r_seq ?_
     refine r_region (n := 1) rfl ?_
     refine o_assign (v := .i 0) (by decide) rfl ?_
     refine run_nil ?_
     refine w_next [(1, .sl .no 3 (a1.map WireFault.cells)), (5, .sl .no 3 (r1.map WireFault.cells)), (6, .i r7), (7, .i v3), (9, .i 0)] (.k (.k (.k (.k (.k .nil))))) ?_
     refine r_block ?_
     refine w_loop (V := Int) (fun v => [(1, .sl .no 3 (a1.map WireFault.cells)), (5, .sl .no 3 (r1.map WireFault.cells)), (6, .i r7), (7, .i v3), (9, .i v)]) (fun v m4 H' g' => St (· < g) H0 [] H' g' ∧ ref11_IsSet_l2 (ref11_IsSet_l1 n a1 r1 m2) a1 v3 r7 m4 v = some r) (n := n) 0 (.k (.k (.k (.k (.k .nil))))) ⟨(hS.keep [] rfl).up (by omega), hM⟩ ?_
     rintro v9 m4 H g4 ⟨hS, hM⟩
     obtain _ | m4 := m4
     ·exact nomatch (show none = some _ from hM)
     change wpA _ _ _ _ (Fr.of [(1, .sl .no 3 (a1.map WireFault.cells)), (5, .sl .no 3 (r1.map WireFault.cells)), (6, .i r7), (7, .i v3), (9, .i v9)]) _ _
     replace hS : St (· < g) H0 [] H g4 := hS
     replace hM : ref11_IsSet_l2_b (ref11_IsSet_l1 n a1 r1 m2) a1 v3 r7 (ref11_IsSet_l2 (ref11_IsSet_l1 n a1 r1 m2) a1 v3 r7 m4) v9 = some r := hM
     refine r_seq ?_
     refine r_seq ?_
     refine r_region (n := 3) rfl ?_
     refine o_move (v := .i v9) (by decide) rfl ?_
     refine o_move (v := .i v3) (by decide) rfl ?_
     refine o_int (v := .b (decide (v9 < v3))) (by decide) rfl rfl rfl ?_
     refine run_nil ?_
     refine w_next [(1, .sl .no 3 (a1.map WireFault.cells)), (5, .sl .no 3 (r1.map WireFault.cells)), (6, .i r7), (7, .i v3), (9, .i v9), (30, .b (decide (v9 < v3)))] (.k (.k (.k (.k (.k (.k .nil)))))) ?_
     rcases Bool.eq_false_or_eq_true (decide (v9 < v3)) with hb10 | hb10
     ·replace hM := ifT hM hb10
      refine w_condT (e := (decide (v9 < v3))) rfl hb10 ?_
      refine r_skip ?_
      refine w_next [(1, .sl .no 3 (a1.map WireFault.cells)), (5, .sl .no 3 (r1.map WireFault.cells)), (6, .i r7), (7, .i v3), (9, .i v9)] (.k (.k (.k (.k (.k .nil))))) ?_
      refine r_seq ?_
      refine r_block ?_
      refine r_seq ?_
      have hS0 := hS
      refine r_draw (n := 9) rfl (by kernel_rfl) ?_
      refine o_move (v := .sl .no 3 (a1.map WireFault.cells)) (by decide) rfl ?_
      refine o_move (v := .i v9) (by decide) rfl ?_
      obtain ⟨x11, hx11, hM⟩ := bindE hM
      refine o_index (xs := a1) (f := WireFault.cells) (z := v9) (u := x11) (by decide) rfl rfl ty_es31 hx11 ?_
      refine o_loadE (v := .agg (WireFault.cells x11)) (by decide) rfl (part_agg ty_agg63 (Nat.le_of_ble_eq_true rfl) rfl) ?_
      refine o_move (v := .sl .no 3 (a1.map WireFault.cells)) (by decide) rfl ?_
      refine o_move (v := .i v3) (by decide) rfl ?_
      obtain ⟨x12, hx12, hM⟩ := bindE hM
      refine o_index (xs := a1) (f := WireFault.cells) (z := v3) (u := x12) (by decide) rfl rfl ty_es31 hx12 ?_
      refine o_loadE (v := .agg (WireFault.cells x12)) (by decide) rfl (part_agg ty_agg63 (Nat.le_of_ble_eq_true rfl) rfl) ?_
      obtain ⟨r13, hr13, hM⟩ := bindE hM
      refine o_call (bs := [.agg (WireFault.cells x11), .agg (WireFault.cells x12)]) (by decide) rfl rfl ((W_ref11_clash hr13).le (.k (.k .nil))) ?_
      refine run_nil ?_
      refine w_next [(1, .sl .no 3 (a1.map WireFault.cells)), (5, .sl .no 3 (r1.map WireFault.cells)), (6, .i r7), (7, .i v3), (9, .i v9), (41, .b r13)] (.k (.k (.k (.k (.k (.k .nil)))))) ?_
      rcases Bool.eq_false_or_eq_true r13 with hb14 | hb14
      ·replace hM := ifT hM hb14
       refine w_condT (e := r13) rfl hb14 ?_
       refine r_seq ?_
       refine r_region (n := 1) rfl ?_
       refine o_assign (v := .b false) (by decide) rfl ?_
       refine run_nil ?_
       refine w_next [(4, .b false)] (.k .nil) ?_
       refine r_ret ?_
       refine r_blk_ret ?_
       refine r_then_ret ?_
       refine w_round_ret ?_
       refine r_blk_ret ?_
       refine r_blk_ret ?_
       refine w_goto_ret ?_
       refine w_round_ret ?_
       refine r_blk_ret ?_
       refine w_goto_ret ?_
       refine w_end (x := .b false) (f := fun r => .b r) (.inr rfl) ?_ (.refl _) (Option.some.inj hM) hS
       exact (res_one (res_tmp (x := .b false) rfl))
      ·replace hM := ifF hM hb14
       refine w_condF (e := r13) rfl hb14 ?_
       refine r_skip ?_
       refine r_blk_normal ?_
       refine w_next [(1, .sl .no 3 (a1.map WireFault.cells)), (5, .sl .no 3 (r1.map WireFault.cells)), (6, .i r7), (7, .i v3), (9, .i v9)] (.k (.k (.k (.k (.k .nil))))) ?_
       refine r_region (n := 3) rfl ?_
       refine o_move (v := .i v9) (by decide) rfl ?_
       refine o_int (v := .i (w64 (v9 + 1))) (by decide) rfl rfl rfl ?_
       refine o_assign (v := .i (w64 (v9 + 1))) (by decide) rfl ?_
       refine run_nil ?_
       exact w_round (w64 (v9 + 1)) (Nat.lt_succ_self _) (.k (.k (.k (.k (.k .nil))))) ⟨(hS.keep [] rfl).up (by omega), hM⟩
     ·replace hM := ifF hM hb10
      refine w_condF (e := (decide (v9 < v3))) rfl hb10 ?_
      refine r_exit ?_
      refine r_then_exit ?_
      refine w_round_exit ?_
      refine r_blk_exit ?_
      refine r_blk_normal ?_
      exact w_goto r7 (.k (.k (.k (.k .nil)))) ⟨(hS.keep [] rfl).up (by omega), hM⟩
  ·replace hM := ifF hM hb4
   refine w_condF (e := (decide (v3 < (a1.length : Int)))) rfl hb4 ?_
   refine r_exit ?_
   refine r_then_exit ?_
   refine w_round_exit ?_
   refine r_blk_exit ?_
   exact w_goto () .nil ⟨(hS.keep [] rfl).up (by omega), hM⟩
theorem W_wires_Explains {n : Nat} {a0 : Wire} {a1 : List WireFault} {r : Bool × Int} (hM : wires_Explains n a0 a1 = some r) : PureSat Try.prog 42 [.agg (Wire.cells a0), .sl .no 3 (a1.map WireFault.cells)] (.tup [.b r.1, .i r.2]) := by
 refine pure_of_wp mixed Try.func42 rfl (by decide) Try.ntmps42 (by simp) ?pure fun H0 g hf => ?_
 case pure => exact .tup _ (pl_cons (.v _) (pl_cons (.v _) pl_nil))
 rw [frame0_of]
 change wpA _ _ _ _ (Fr.of [(0, .agg (Wire.cells a0)), (1, .sl .no 3 (a1.map WireFault.cells))]) H0 g
 have hS := St.start hf
 refine r_seq ?_
 refine r_region (n := 3) rfl ?_
 refine o_box (v := .agg (Wire.cells a0)) (cs := (Wire.cells a0)) hS (by decide) rfl rfl (by omega) fun H hS => ?_
 refine o_assign (v := .b false) (by decide) rfl ?_
 refine o_assign (v := .i 0) (by decide) rfl ?_
 refine run_nil ?_
 refine w_iceE (L' := []) 0 2 hS rfl rfl rfl fun H hS => ?_
 refine w_next [(1, .sl .no 3 (a1.map WireFault.cells)), (2, .ep (Wire.cells a0))] (.k (.k .nil)) ?_
 refine r_seq ?_
 refine r_seq ?_
 refine r_region (n := 3) rfl ?_
 refine o_loadE (v := .agg (Wire.cells a0)) (by decide) rfl (part_agg ty_agg24 (Nat.le_of_ble_eq_true rfl) rfl) ?_
 obtain ⟨r1, hr1, hM⟩ := bindE hM
 refine o_call (bs := [.agg (Wire.cells a0)]) (by decide) rfl rfl ((W_wires_Check hr1).le (.k .nil)) ?_
 refine o_assign (v := .i r1) (by decide) rfl ?_
 refine run_nil ?_
 refine w_next [(1, .sl .no 3 (a1.map WireFault.cells)), (2, .ep (Wire.cells a0)), (6, .i r1)] (.k (.k (.k .nil))) ?_
 refine r_seq ?_
 refine r_region (n := 2) rfl ?_
 refine o_move (v := .i r1) (by decide) rfl ?_
 refine o_int (v := .b (r1 != 0)) (by decide) rfl rfl rfl ?_
 refine run_nil ?_
 refine w_next [(1, .sl .no 3 (a1.map WireFault.cells)), (2, .ep (Wire.cells a0)), (6, .i r1), (11, .b (r1 != 0))] (.k (.k (.k (.k .nil)))) ?_
 rcases Bool.eq_false_or_eq_true (r1 != 0) with hb2 | hb2
 ·replace hM := ifT hM hb2
  refine w_condT (e := (r1 != 0)) rfl hb2 ?_
  refine r_seq ?_
  refine r_region (n := 3) rfl ?_
  refine o_move (v := .i r1) (by decide) rfl ?_
  refine o_assign (v := .b false) (by decide) rfl ?_
  refine o_assign (v := .i r1) (by decide) rfl ?_
  refine run_nil ?_
  refine w_next [(4, .b false), (5, .i r1)] (.k (.k .nil)) ?_
  refine r_ret ?_
  refine r_then_ret ?_
  refine w_end (x := .tup [.b false, .i r1]) (f := fun r => .tup [.b r.1, .i r.2]) (.inr rfl) ?_ (.refl _) (Option.some.inj hM) hS
  exact (res_two (res_tmp (x := .b false) rfl) (res_tmp (x := .i r1) rfl))
 ·replace hM := ifF hM hb2
  refine w_condF (e := (r1 != 0)) rfl hb2 ?_
  refine r_skip ?_
  refine w_next [(1, .sl .no 3 (a1.map WireFault.cells)), (2, .ep (Wire.cells a0))] (.k (.k .nil)) ?_
  refine r_seq ?_
  refine r_region (n := 3) rfl ?_
  refine o_loadE (v := .agg (Wire.cells a0)) (by decide) rfl (part_agg ty_agg24 (Nat.le_of_ble_eq_true rfl) rfl) ?_
  obtain ⟨r3, hr3, hM⟩ := bindE hM
  refine o_call (bs := [.agg (Wire.cells a0)]) (by decide) rfl rfl ((W_wires_open hr3).le (.k .nil)) ?_
  refine o_assign (v := pA Wiring_.cells r3) (by decide) rfl ?_
  refine run_nil ?_
  refine w_next [(1, .sl .no 3 (a1.map WireFault.cells)), (2, .ep (Wire.cells a0)), (7, pA Wiring_.cells r3)] (.k (.k (.k .nil))) ?_
  refine r_seq ?_
  refine r_seq ?_
  refine r_region (n := 4) rfl ?_
  refine o_move (v := pA Wiring_.cells r3) (by decide) rfl ?_
  refine o_move (v := .sl .no 3 (a1.map WireFault.cells)) (by decide) rfl ?_
  obtain ⟨r4, hr4, hM⟩ := bindE hM
  refine o_call (bs := [pA Wiring_.cells r3, .sl .no 3 (a1.map WireFault.cells)]) (by decide) rfl rfl ((W_wires_wiring_isSet hr4).le (.k (.k .nil))) ?_
  refine o_not (e := r4) (by decide) rfl ?_
  refine run_nil ?_
  refine w_next [(1, .sl .no 3 (a1.map WireFault.cells)), (2, .ep (Wire.cells a0)), (7, pA Wiring_.cells r3), (18, .b (!r4))] (.k (.k (.k (.k .nil)))) ?_
  rcases Bool.eq_false_or_eq_true (!r4) with hb5 | hb5
  ·replace hM := ifT hM hb5
   refine w_condT (e := (!r4)) rfl hb5 ?_
   refine r_seq ?_
   refine r_region (n := 2) rfl ?_
   refine o_assign (v := .b false) (by decide) rfl ?_
   refine o_assign (v := .i 1) (by decide) rfl ?_
   refine run_nil ?_
   refine w_next [(4, .b false), (5, .i 1)] (.k (.k .nil)) ?_
   refine r_ret ?_
   refine r_then_ret ?_
   refine w_end (x := .tup [.b false, .i 1]) (f := fun r => .tup [.b r.1, .i r.2]) (.inr rfl) ?_ (.refl _) (Option.some.inj hM) hS
   exact (res_two (res_tmp (x := .b false) rfl) (res_tmp (x := .i 1) rfl))
  ·replace hM := ifF hM hb5
   refine w_condF (e := (!r4)) rfl hb5 ?_
   refine r_skip ?_
   refine w_next [(1, .sl .no 3 (a1.map WireFault.cells)), (2, .ep (Wire.cells a0)), (7, pA Wiring_.cells r3)] (.k (.k (.k .nil))) ?_
   refine r_seq ?_
   refine r_region (n := 7) rfl ?_
   refine o_move (v := pA Wiring_.cells r3) (by decide) rfl ?_
   refine o_move (v := .sl .no 3 (a1.map WireFault.cells)) (by decide) rfl ?_
   refine o_fieldE (cs := (Wire.cells a0)) (by decide) ty_fo24_2 rfl ?_
   refine o_loadE (v := .sl .no 3 (a0.Presses.map WirePress.cells)) (by decide) rfl (part_one ty_agg22 ty_sc22 rfl) ?_
   obtain ⟨r6, hr6, hM⟩ := bindE hM
   refine o_call (bs := [pA Wiring_.cells r3, .sl .no 3 (a1.map WireFault.cells), .sl .no 3 (a0.Presses.map WirePress.cells)]) (by decide) rfl rfl ((W_wires_wiring_explains hr6).le (.k (.k (.k .nil)))) ?_
   refine o_assign (v := .b r6) (by decide) rfl ?_
   refine o_assign (v := .i 0) (by decide) rfl ?_
   refine run_nil ?_
   refine w_next [(4, .b r6), (5, .i 0)] (.k (.k .nil)) ?_
   refine r_ret ?_
   refine w_end (x := .tup [.b r6, .i 0]) (f := fun r => .tup [.b r.1, .i r.2]) (.inr rfl) ?_ (.refl _) (Option.some.inj hM) hS
   exact (res_two (res_tmp (x := .b r6) rfl) (res_tmp (x := .i 0) rfl))
theorem W_wires_Fewest {n : Nat} {a0 : Wire} {r : Int × Int} (hM : wires_Fewest n a0 = some r) : PureSat Try.prog 45 [.agg (Wire.cells a0)] (.tup [.i r.1, .i r.2]) := by
 refine pure_of_wp mixed Try.func45 rfl (by decide) Try.ntmps45 (by simp) ?pure fun H0 g hf => ?_
 case pure => exact .tup _ (pl_cons (.v _) (pl_cons (.v _) pl_nil))
 rw [frame0_of]
 change wpA _ _ _ _ (Fr.of [(0, .agg (Wire.cells a0))]) H0 g
 have hS := St.start hf
 refine r_seq ?_
 refine r_region (n := 3) rfl ?_
 refine o_box (v := .agg (Wire.cells a0)) (cs := (Wire.cells a0)) hS (by decide) rfl rfl (by omega) fun H hS => ?_
 refine o_assign (v := .i 0) (by decide) rfl ?_
 refine o_assign (v := .i 0) (by decide) rfl ?_
 refine run_nil ?_
 refine w_iceE (L' := []) 0 1 hS rfl rfl rfl fun H hS => ?_
 refine w_next [(1, .ep (Wire.cells a0))] (.k .nil) ?_
 refine r_seq ?_
 refine r_seq ?_
 refine r_region (n := 3) rfl ?_
 refine o_loadE (v := .agg (Wire.cells a0)) (by decide) rfl (part_agg ty_agg24 (Nat.le_of_ble_eq_true rfl) rfl) ?_
 obtain ⟨r1, hr1, hM⟩ := bindE hM
 refine o_call (bs := [.agg (Wire.cells a0)]) (by decide) rfl rfl ((W_wires_Check hr1).le (.k .nil)) ?_
 refine o_assign (v := .i r1) (by decide) rfl ?_
 refine run_nil ?_
 refine w_next [(1, .ep (Wire.cells a0)), (4, .i r1)] (.k (.k .nil)) ?_
 refine r_seq ?_
 refine r_region (n := 2) rfl ?_
 refine o_move (v := .i r1) (by decide) rfl ?_
 refine o_int (v := .b (r1 != 0)) (by decide) rfl rfl rfl ?_
 refine run_nil ?_
 refine w_next [(1, .ep (Wire.cells a0)), (4, .i r1), (10, .b (r1 != 0))] (.k (.k (.k .nil))) ?_
 rcases Bool.eq_false_or_eq_true (r1 != 0) with hb2 | hb2
 ·replace hM := ifT hM hb2
  refine w_condT (e := (r1 != 0)) rfl hb2 ?_
  refine r_seq ?_
  refine r_region (n := 3) rfl ?_
  refine o_move (v := .i r1) (by decide) rfl ?_
  refine o_assign (v := .i 0) (by decide) rfl ?_
  refine o_assign (v := .i r1) (by decide) rfl ?_
  refine run_nil ?_
  refine w_next [(2, .i 0), (3, .i r1)] (.k (.k .nil)) ?_
  refine r_ret ?_
  refine r_then_ret ?_
  refine w_end (x := .tup [.i 0, .i r1]) (f := fun r => .tup [.i r.1, .i r.2]) (.inr rfl) ?_ (.refl _) (Option.some.inj hM) hS
  exact (res_two (res_tmp (x := .i 0) rfl) (res_tmp (x := .i r1) rfl))
 ·replace hM := ifF hM hb2
  refine w_condF (e := (r1 != 0)) rfl hb2 ?_
  refine r_skip ?_
  refine w_next [(1, .ep (Wire.cells a0))] (.k .nil) ?_
  refine r_seq ?_
  refine r_region (n := 2) rfl ?_
  refine o_alloc hS (by decide) ty_zero3 (by omega) fun H hS => ?_
  refine o_store (v := .i (-1)) (ns := [.i (-1)]) (L' := [(g + 3 + 3 + 2 + 0, .cells [.i (-1)])]) 0 hS rfl rfl .no rfl rfl ty_var3 (Nat.le_of_ble_eq_true rfl) rfl fun H hS => ?_
  refine run_nil ?_
  refine w_next [(1, .ep (Wire.cells a0)), (5, .ptr (g + 3 + 3 + 2 + 0) 0)] (.k (.k .nil)) ?_
  refine r_seq ?_
  refine r_seq ?_
  have hS0 := hS
  refine r_draw (n := 5) rfl (by kernel_rfl) ?_
  refine o_loadE (v := .agg (Wire.cells a0)) (by decide) rfl (part_agg ty_agg24 (Nat.le_of_ble_eq_true rfl) rfl) ?_
  obtain ⟨r3, hr3, hM⟩ := bindE hM
  refine o_call (bs := [.agg (Wire.cells a0)]) (by decide) rfl rfl ((W_wires_open hr3).le (.k .nil)) ?_
  refine o_fieldE (cs := (Wire.cells a0)) (by decide) ty_fo24_2 rfl ?_
  refine o_loadE (v := .sl .no 3 (a0.Presses.map WirePress.cells)) (by decide) rfl (part_one ty_agg22 ty_sc22 rfl) ?_
  obtain ⟨r4, hr4, hM⟩ := bindE hM
  refine o_call (bs := [pA Wiring_.cells r3, .sl .no 3 (a0.Presses.map WirePress.cells), .i 3]) (by decide) rfl rfl ((W_wires_wiring_explained hr4).le (.k (.k (.k .nil)))) ?_
  refine run_nil ?_
  refine w_next [(5, .ptr (g + 3 + 3 + 2 + 0) 0), (16, .fn (.func 98) [] [.ep [pA Wiring_.cells r4.1], .ep [.i r4.2.1], .ep [.sl .no 3 (r4.2.2.map WirePress.cells)]])] (.k (.k .nil)) ?_
  refine r_block ?_
  obtain ⟨r9, hr9, hM⟩ := bindE hM
  refine w_range0 (Lo := fun s : Int => [(g + 3 + 3 + 2 + 0, .cells [.i s])]) (R := fun x s b s' => ∃ y, x = .sl .no 3 (y.map WireFault.cells) ∧ wires_Fewest_r1 y s = some (b, s')) (s0 := (-1)) (sF := r9.2) (A := []) (A' := []) (L' := [(g + 3 + 3 + 2 + 0, .cells [.i r9.2])]) [(5, .ptr (g + 3 + 3 + 2 + 0) 0)] [0] hS (by omega) rfl rfl rfl (.cons rfl .nil) (by decide) rfl kl_nil (fun _ _ => (kl_cells kl_nil)) (fun s => (inb_st (ic_cells (ci_cons (.inl (.inl (.v _))) ci_nil) ic_nil) inb_nil)) (fun s H hH => (ai_cons (in_ptr hH 0 rfl) ai_nil)) (.k .nil) rfl (by decide) rfl ?_ (fun F Lx hk1 hnd1 hin1 hF1 h01 hf1 => W_wires_wiring_explained_c1 (Lo := Lx)  hk1 hnd1 hin1 (aF := wires_Fewest_r1) hF1 h01 (fun h => hf1 _ _ _ _ ⟨_, rfl, h⟩) hr9) fun H hS => ?_
  ·rintro x v5 b s' ⟨y1, rfl, hM⟩
   refine ⟨rfl, fun H' g1 hf' hh' => ?_⟩
   have hS := St.start hf'
   change wpA _ _ _ _ (Fr.of [(17, .sl .no 3 (y1.map WireFault.cells)), (5, .ptr (g + 3 + 3 + 2 + 0) 0)]) _ _
   refine r_region (n := 1) rfl ?_
   refine o_assign (v := .sl .no 3 (y1.map WireFault.cells)) (by decide) rfl ?_
   refine run_nil ?_
   refine w_rasg (l3 := [(5, .ptr (g + 3 + 3 + 2 + 0) 0), (6, .sl .no 3 (y1.map WireFault.cells))]) (.k (.k .nil)) hS (by omega) fun Hb H hS => ?_
   replace hS : St (fun i => i < g1 ∧ i ∉ ids [(g + 3 + 3 + 2 + 0, .cells [.i v5])]) Hb [(g + 3 + 3 + 2 + 0, .cells [.i v5])] H _ := hS
   refine r_block ?_
   refine w_join (J := Bool) (fun j => [(5, .ptr (g + 3 + 3 + 2 + 0) 0), (6, .sl .no 3 (y1.map WireFault.cells)), (25, .b j)]) (fun j H' g' => St (fun i => i < g1 ∧ i ∉ ids [(g + 3 + 3 + 2 + 0, .cells [.i v5])]) Hb [(g + 3 + 3 + 2 + 0, .cells [.i v5])] H' g' ∧ wires_Fewest_j1 v5 y1 j = some (b, s')) ?_ ?_
   ·rintro v6 H g2 ⟨hS, hM⟩
    change wpA _ _ _ _ (Fr.of [(5, .ptr (g + 3 + 3 + 2 + 0) 0), (6, .sl .no 3 (y1.map WireFault.cells)), (25, .b v6)]) _ _
    replace hS : St (fun i => i < g1 ∧ i ∉ ids [(g + 3 + 3 + 2 + 0, .cells [.i v5])]) Hb [(g + 3 + 3 + 2 + 0, .cells [.i v5])] H g2 := hS
    replace hM : wires_Fewest_j1 v5 y1 v6 = some (b, s') := hM
    rcases Bool.eq_false_or_eq_true v6 with hb7 | hb7
    ·replace hM := ifT hM hb7
     refine w_condT (e := v6) rfl hb7 ?_
     refine r_region (n := 3) rfl ?_
     refine o_move (v := .sl .no 3 (y1.map WireFault.cells)) (by decide) rfl ?_
     refine o_len (n := y1.length) (by decide) rfl (List.length_map _) ty_isl31 ?_
     refine o_store (v := .i (y1.length : Int)) (ns := [.i (y1.length : Int)]) (L' := [(g + 3 + 3 + 2 + 0, .cells [.i (y1.length : Int)])]) 0 hS rfl rfl .no rfl rfl ty_var3 (Nat.le_of_ble_eq_true rfl) rfl fun H hS => ?_
     refine run_nil ?_
     refine r_blk_normal ?_
     injection hM with hM
     injection hM with hm1 hm2
     subst hm1 hm2
     exact w_rend (hS.keep [true] rfl)
    ·replace hM := ifF hM hb7
     refine w_condF (e := v6) rfl hb7 ?_
     refine r_skip ?_
     refine r_blk_normal ?_
     injection hM with hM
     injection hM with hm1 hm2
     subst hm1 hm2
     exact w_rend (hS.keep [true] rfl)
   ·refine r_region (n := 8) rfl ?_
    refine o_load (v := .i v5) 0 hS (by decide) rfl rfl .no (part_one ty_agg3 ty_sc3 rfl) ?_
    refine o_int (v := .b (decide (v5 < 0))) (by decide) rfl rfl rfl ?_
    refine o_move (v := .b (decide (v5 < 0))) (by decide) rfl ?_
    rcases Bool.eq_false_or_eq_true (decide (v5 < 0)) with hb8 | hb8
    ·replace hM := ifT hM hb8
     refine o_guardN (j := 2) (e := (decide (v5 < 0))) (want := false) (by decide) rfl hb8 ?_
     refine o_guardN (j := 2) (e := (decide (v5 < 0))) (want := false) (by decide) rfl hb8 ?_
     refine o_guardN (j := 2) (e := (decide (v5 < 0))) (want := false) (by decide) rfl hb8 ?_
     refine o_guardN (j := 2) (e := (decide (v5 < 0))) (want := false) (by decide) rfl hb8 ?_
     refine o_pickT (v := .b true) (e := (decide (v5 < 0))) (by decide) rfl hb8 rfl ?_
     refine run_nil ?_
     exact w_goto true (.k (.k (.k .nil))) ⟨(hS.keep [true] rfl).up (by omega), hM⟩
    ·replace hM := ifF hM hb8
     refine o_guardY (j := 2) (e := (decide (v5 < 0))) (want := false) rfl hb8 ?_
     refine o_move (v := .sl .no 3 (y1.map WireFault.cells)) (by decide) rfl ?_
     refine o_guardY (j := 2) (e := (decide (v5 < 0))) (want := false) rfl hb8 ?_
     refine o_len (n := y1.length) (by decide) rfl (List.length_map _) ty_isl31 ?_
     refine o_guardY (j := 2) (e := (decide (v5 < 0))) (want := false) rfl hb8 ?_
     refine o_load (v := .i v5) 0 hS (by decide) rfl rfl .no (part_one ty_agg3 ty_sc3 rfl) ?_
     refine o_guardY (j := 2) (e := (decide (v5 < 0))) (want := false) rfl hb8 ?_
     refine o_int (v := .b (decide ((y1.length : Int) < v5))) (by decide) rfl rfl rfl ?_
     refine o_pickF (v := .b (decide ((y1.length : Int) < v5))) (e := (decide (v5 < 0))) (by decide) rfl hb8 rfl ?_
     refine run_nil ?_
     exact w_goto (decide ((y1.length : Int) < v5)) (.k (.k (.k .nil))) ⟨(hS.keep [true] rfl).up (by omega), hM⟩
  refine r_blk_normal ?_
  refine w_next [(5, .ptr (g + 3 + 3 + 2 + 0) 0)] (.k .nil) ?_
  refine r_seq ?_
  refine r_seq ?_
  refine r_region (n := 2) rfl ?_
  refine o_load (v := .i r9.2) 0 hS (by decide) rfl rfl .no (part_one ty_agg3 ty_sc3 rfl) ?_
  refine o_int (v := .b (decide (r9.2 < 0))) (by decide) rfl rfl rfl ?_
  refine run_nil ?_
  refine w_next [(5, .ptr (g + 3 + 3 + 2 + 0) 0), (29, .b (decide (r9.2 < 0)))] (.k (.k .nil)) ?_
  rcases Bool.eq_false_or_eq_true (decide (r9.2 < 0)) with hb10 | hb10
  ·replace hM := ifT hM hb10
   refine w_condT (e := (decide (r9.2 < 0))) rfl hb10 ?_
   refine r_seq ?_
   refine r_region (n := 2) rfl ?_
   refine o_assign (v := .i 0) (by decide) rfl ?_
   refine o_assign (v := .i 3) (by decide) rfl ?_
   refine run_nil ?_
   replace hS := hS.keep (L' := []) [false] rfl
   refine w_next [(2, .i 0), (3, .i 3)] (.k (.k .nil)) ?_
   refine r_ret ?_
   refine r_then_ret ?_
   refine w_end (x := .tup [.i 0, .i 3]) (f := fun r => .tup [.i r.1, .i r.2]) (.inr rfl) ?_ (.refl _) (Option.some.inj hM) hS
   exact (res_two (res_tmp (x := .i 0) rfl) (res_tmp (x := .i 3) rfl))
  ·replace hM := ifF hM hb10
   refine w_condF (e := (decide (r9.2 < 0))) rfl hb10 ?_
   refine r_skip ?_
   refine w_next [(5, .ptr (g + 3 + 3 + 2 + 0) 0)] (.k .nil) ?_
   refine r_seq ?_
   refine r_region (n := 3) rfl ?_
   refine o_load (v := .i r9.2) 0 hS (by decide) rfl rfl .no (part_one ty_agg3 ty_sc3 rfl) ?_
   refine o_assign (v := .i r9.2) (by decide) rfl ?_
   refine o_assign (v := .i 0) (by decide) rfl ?_
   refine run_nil ?_
   replace hS := hS.keep (L' := []) [false] rfl
   refine w_next [(2, .i r9.2), (3, .i 0)] (.k (.k .nil)) ?_
   refine r_ret ?_
   refine w_end (x := .tup [.i r9.2, .i 0]) (f := fun r => .tup [.i r.1, .i r.2]) (.inr rfl) ?_ (.refl _) (Option.some.inj hM) hS
   exact (res_two (res_tmp (x := .i r9.2) rfl) (res_tmp (x := .i 0) rfl))
theorem W_ref11_IsTruth {n : Nat} {a0 : Wire} {a1 : List WireFault} {r : Bool} (hM : ref11_IsTruth n a0 a1 = some r) : PureSat Try.prog 46 [.agg (Wire.cells a0), .sl .no 3 (a1.map WireFault.cells)] (.b r) := by
 refine pure_of_wp mixed Try.func46 rfl (by decide) Try.ntmps46 (by simp) ?pure fun H0 g hf => ?_
 case pure => exact .v _
 rw [frame0_of]
 change wpA _ _ _ _ (Fr.of [(0, .agg (Wire.cells a0)), (1, .sl .no 3 (a1.map WireFault.cells))]) H0 g
 have hS := St.start hf
 refine r_seq ?_
 refine r_region (n := 2) rfl ?_
 refine o_box (v := .agg (Wire.cells a0)) (cs := (Wire.cells a0)) hS (by decide) rfl rfl (by omega) fun H hS => ?_
 refine o_assign (v := .b false) (by decide) rfl ?_
 refine run_nil ?_
 refine w_iceE (L' := []) 0 2 hS rfl rfl rfl fun H hS => ?_
 refine w_next [(1, .sl .no 3 (a1.map WireFault.cells)), (2, .ep (Wire.cells a0))] (.k (.k .nil)) ?_
 refine w_join (J := Bool) (fun j => [(4, .b j)]) (fun j H' g' => St (· < g) H0 [] H' g' ∧ ref11_IsTruth_j1 j = some r) ?_ ?_
 ·rintro v1 H g1 ⟨hS, hM⟩
  change wpA _ _ _ _ (Fr.of [(4, .b v1)]) _ _
  replace hS : St (· < g) H0 [] H g1 := hS
  replace hM : ref11_IsTruth_j1 v1 = some r := hM
  refine r_ret ?_
  refine w_end (x := .b v1) (f := fun r => .b r) (.inr rfl) ?_ (.refl _) (Option.some.inj hM) hS
  exact (res_one (res_tmp (x := .b v1) rfl))
 ·refine r_region (n := 16) rfl ?_
  refine o_move (v := .sl .no 3 (a1.map WireFault.cells)) (by decide) rfl ?_
  refine o_len (n := a1.length) (by decide) rfl (List.length_map _) ty_isl31 ?_
  refine o_fieldE (cs := (Wire.cells a0)) (by decide) ty_fo24_3 rfl ?_
  refine o_loadE (v := .i a0.Faults) (by decide) rfl (part_one ty_agg3 ty_sc3 rfl) ?_
  refine o_int (v := .b (decide ((a1.length : Int) ≤ a0.Faults))) (by decide) rfl rfl rfl ?_
  refine o_move (v := .b (decide ((a1.length : Int) ≤ a0.Faults))) (by decide) rfl ?_
  rcases Bool.eq_false_or_eq_true (decide ((a1.length : Int) ≤ a0.Faults)) with hb2 | hb2
  ·replace hM := ifT hM hb2
   refine o_guardY (j := 5) (e := (decide ((a1.length : Int) ≤ a0.Faults))) (want := true) rfl hb2 ?_
   refine o_loadE (v := .agg (Wire.cells a0)) (by decide) rfl (part_agg ty_agg24 (Nat.le_of_ble_eq_true rfl) rfl) ?_
   refine o_guardY (j := 5) (e := (decide ((a1.length : Int) ≤ a0.Faults))) (want := true) rfl hb2 ?_
   refine o_move (v := .sl .no 3 (a1.map WireFault.cells)) (by decide) rfl ?_
   refine o_guardY (j := 5) (e := (decide ((a1.length : Int) ≤ a0.Faults))) (want := true) rfl hb2 ?_
   obtain ⟨r3, hr3, hM⟩ := bindE hM
   refine o_call (bs := [.agg (Wire.cells a0), .sl .no 3 (a1.map WireFault.cells)]) (by decide) rfl rfl ((W_ref11_IsSet hr3).le (.k (.k .nil))) ?_
   refine o_pickT (v := .b r3) (e := (decide ((a1.length : Int) ≤ a0.Faults))) (by decide) rfl hb2 rfl ?_
   refine o_move (v := .b r3) (by decide) rfl ?_
   rcases Bool.eq_false_or_eq_true r3 with hb4 | hb4
   ·replace hM := ifT hM hb4
    refine o_guardY (j := 10) (e := r3) (want := true) rfl hb4 ?_
    refine o_loadE (v := .agg (Wire.cells a0)) (by decide) rfl (part_agg ty_agg24 (Nat.le_of_ble_eq_true rfl) rfl) ?_
    refine o_guardY (j := 10) (e := r3) (want := true) rfl hb4 ?_
    refine o_move (v := .sl .no 3 (a1.map WireFault.cells)) (by decide) rfl ?_
    refine o_guardY (j := 10) (e := r3) (want := true) rfl hb4 ?_
    obtain ⟨r5, hr5, hM⟩ := bindE hM
    refine o_call (bs := [.agg (Wire.cells a0), .sl .no 3 (a1.map WireFault.cells)]) (by decide) rfl rfl ((W_ref11_IsExplained hr5).le (.k (.k .nil))) ?_
    refine o_pickT (v := .b r5) (e := r3) (by decide) rfl hb4 rfl ?_
    refine o_assign (v := .b r5) (by decide) rfl ?_
    refine run_nil ?_
    exact w_goto r5 (.k .nil) ⟨(hS.keep [] rfl).up (by omega), hM⟩
   ·replace hM := ifF hM hb4
    refine o_guardN (j := 10) (e := r3) (want := true) (by decide) rfl hb4 ?_
    refine o_guardN (j := 10) (e := r3) (want := true) (by decide) rfl hb4 ?_
    refine o_guardN (j := 10) (e := r3) (want := true) (by decide) rfl hb4 ?_
    refine o_pickF (v := .b false) (e := r3) (by decide) rfl hb4 rfl ?_
    refine o_assign (v := .b false) (by decide) rfl ?_
    refine run_nil ?_
    exact w_goto false (.k .nil) ⟨(hS.keep [] rfl).up (by omega), hM⟩
  ·replace hM := ifF hM hb2
   refine o_guardN (j := 5) (e := (decide ((a1.length : Int) ≤ a0.Faults))) (want := true) (by decide) rfl hb2 ?_
   refine o_guardN (j := 5) (e := (decide ((a1.length : Int) ≤ a0.Faults))) (want := true) (by decide) rfl hb2 ?_
   refine o_guardN (j := 5) (e := (decide ((a1.length : Int) ≤ a0.Faults))) (want := true) (by decide) rfl hb2 ?_
   refine o_pickF (v := .b false) (e := (decide ((a1.length : Int) ≤ a0.Faults))) (by decide) rfl hb2 rfl ?_
   refine o_move (v := .b false) (by decide) rfl ?_
   refine o_guardN (j := 10) (e := false) (want := true) (by decide) rfl rfl ?_
   refine o_guardN (j := 10) (e := false) (want := true) (by decide) rfl rfl ?_
   refine o_guardN (j := 10) (e := false) (want := true) (by decide) rfl rfl ?_
   refine o_pickF (v := .b false) (e := false) (by decide) rfl rfl rfl ?_
   refine o_assign (v := .b false) (by decide) rfl ?_
   refine run_nil ?_
   exact w_goto false (.k .nil) ⟨(hS.keep [] rfl).up (by omega), hM⟩
theorem W_law11_WiresTrue {n : Nat} {a0 : Wire} {a1 : List WireFault} {a2 : Ask_} {r : Bool} (hM : law11_WiresTrue n a0 a1 a2 = some r) : PureSat Try.prog 11 [.agg (Wire.cells a0), .sl .no 3 (a1.map WireFault.cells), .agg [.i a2.Letter, .i a2.Number]] (.b r) := by
 refine pure_of_wp mixed Try.func11 rfl (by decide) Try.ntmps11 (by simp) ?pure fun H0 g hf => ?_
 case pure => exact .v _
 rw [frame0_of]
 change wpA _ _ _ _ (Fr.of [(0, .agg (Wire.cells a0)), (1, .sl .no 3 (a1.map WireFault.cells)), (2, .agg [.i a2.Letter, .i a2.Number])]) H0 g
 have hS := St.start hf
 refine r_seq ?_
 refine r_region (n := 3) rfl ?_
 refine o_box (v := .agg (Wire.cells a0)) (cs := (Wire.cells a0)) hS (by decide) rfl rfl (by omega) fun H hS => ?_
 refine o_box (v := .agg [.i a2.Letter, .i a2.Number]) (cs := [.i a2.Letter, .i a2.Number]) hS (by decide) rfl rfl (by omega) fun H hS => ?_
 refine o_assign (v := .b false) (by decide) rfl ?_
 refine run_nil ?_
 refine w_iceE (L' := [(g + 1, .cells [.i a2.Letter, .i a2.Number])]) 1 3 hS rfl rfl rfl fun H hS => ?_
 refine w_iceE (L' := []) 0 5 hS rfl rfl rfl fun H hS => ?_
 refine w_next [(1, .sl .no 3 (a1.map WireFault.cells)), (3, .ep (Wire.cells a0)), (5, .ep [.i a2.Letter, .i a2.Number])] (.k (.k (.k .nil))) ?_
 refine r_seq ?_
 refine w_join (J := Bool) (fun j => [(1, .sl .no 3 (a1.map WireFault.cells)), (3, .ep (Wire.cells a0)), (5, .ep [.i a2.Letter, .i a2.Number]), (39, .b j)]) (fun j H' g' => St (· < g) H0 [] H' g' ∧ law11_WiresTrue_j1 n a0 a1 a2 j = some r) ?_ ?_
 ·rintro v1 H g1 ⟨hS, hM⟩
  change wpA _ _ _ _ (Fr.of [(1, .sl .no 3 (a1.map WireFault.cells)), (3, .ep (Wire.cells a0)), (5, .ep [.i a2.Letter, .i a2.Number]), (39, .b v1)]) _ _
  replace hS : St (· < g) H0 [] H g1 := hS
  replace hM : law11_WiresTrue_j1 n a0 a1 a2 v1 = some r := hM
  rcases Bool.eq_false_or_eq_true v1 with hb2 | hb2
  ·replace hM := ifT hM hb2
   refine w_condT (e := v1) rfl hb2 ?_
   refine r_seq ?_
   refine r_region (n := 2) rfl ?_
   obtain ⟨r3, hr3, hM⟩ := bindE hM
   refine o_call (bs := []) (by decide) rfl rfl ((W_law11_works hr3).le .nil) ?_
   refine o_assign (v := .b r3) (by decide) rfl ?_
   refine run_nil ?_
   refine w_next [(6, .b r3)] (.k .nil) ?_
   refine r_ret ?_
   refine r_then_ret ?_
   refine w_end (x := .b r3) (f := fun r => .b r) (.inr rfl) ?_ (.refl _) (Option.some.inj hM) hS
   exact (res_one (res_tmp (x := .b r3) rfl))
  ·replace hM := ifF hM hb2
   refine w_condF (e := v1) rfl hb2 ?_
   refine r_skip ?_
   refine w_next [(1, .sl .no 3 (a1.map WireFault.cells)), (3, .ep (Wire.cells a0)), (5, .ep [.i a2.Letter, .i a2.Number])] (.k (.k (.k .nil))) ?_
   refine r_seq ?_
   refine r_region (n := 11) rfl ?_
   refine o_loadE (v := .agg (Wire.cells a0)) (by decide) rfl (part_agg ty_agg24 (Nat.le_of_ble_eq_true rfl) rfl) ?_
   refine o_fieldE (cs := [.i a2.Letter, .i a2.Number]) (by decide) ty_fo38_0 rfl ?_
   refine o_loadE (v := .i a2.Letter) (by decide) rfl (part_one ty_agg3 ty_sc3 rfl) ?_
   refine o_fieldE (cs := [.i a2.Letter, .i a2.Number]) (by decide) ty_fo38_1 rfl ?_
   refine o_loadE (v := .i a2.Number) (by decide) rfl (part_one ty_agg3 ty_sc3 rfl) ?_
   obtain ⟨r4, hr4, hM⟩ := bindE hM
   refine o_call (bs := [.agg (Wire.cells a0), .i a2.Letter, .i a2.Number]) (by decide) rfl rfl ((W_wires_Shows hr4).le (.k (.k (.k .nil)))) ?_
   refine o_move (v := .tup [.sl .no 1 (r4.1.map cI), .i r4.2]) (by decide) rfl ?_
   refine o_extract (v := .sl .no 1 (r4.1.map cI)) (by decide) rfl rfl ?_
   refine o_extract (v := .i r4.2) (by decide) rfl rfl ?_
   refine o_assign (v := .sl .no 1 (r4.1.map cI)) (by decide) rfl ?_
   refine o_assign (v := .i r4.2) (by decide) rfl ?_
   refine run_nil ?_
   refine w_next [(1, .sl .no 3 (a1.map WireFault.cells)), (3, .ep (Wire.cells a0)), (5, .ep [.i a2.Letter, .i a2.Number]), (7, .sl .no 1 (r4.1.map cI)), (8, .i r4.2)] (.k (.k (.k (.k (.k .nil))))) ?_
   refine r_seq ?_
   refine r_region (n := 7) rfl ?_
   refine o_loadE (v := .agg (Wire.cells a0)) (by decide) rfl (part_agg ty_agg24 (Nat.le_of_ble_eq_true rfl) rfl) ?_
   obtain ⟨r5, hr5, hM⟩ := bindE hM
   refine o_call (bs := [.agg (Wire.cells a0)]) (by decide) rfl rfl ((W_wires_Sure hr5).le (.k .nil)) ?_
   refine o_move (v := .tup [.sl .no 3 (r5.1.map WireFault.cells), .i r5.2]) (by decide) rfl ?_
   refine o_extract (v := .sl .no 3 (r5.1.map WireFault.cells)) (by decide) rfl rfl ?_
   refine o_extract (v := .i r5.2) (by decide) rfl rfl ?_
   refine o_assign (v := .sl .no 3 (r5.1.map WireFault.cells)) (by decide) rfl ?_
   refine o_assign (v := .i r5.2) (by decide) rfl ?_
   refine run_nil ?_
   refine w_next [(1, .sl .no 3 (a1.map WireFault.cells)), (3, .ep (Wire.cells a0)), (5, .ep [.i a2.Letter, .i a2.Number]), (7, .sl .no 1 (r4.1.map cI)), (8, .i r4.2), (9, .sl .no 3 (r5.1.map WireFault.cells)), (10, .i r5.2)] (.k (.k (.k (.k (.k (.k (.k .nil))))))) ?_
   refine r_seq ?_
   refine r_region (n := 7) rfl ?_
   refine o_loadE (v := .agg (Wire.cells a0)) (by decide) rfl (part_agg ty_agg24 (Nat.le_of_ble_eq_true rfl) rfl) ?_
   obtain ⟨r6, hr6, hM⟩ := bindE hM
   refine o_call (bs := [.agg (Wire.cells a0)]) (by decide) rfl rfl ((W_wires_Maybe hr6).le (.k .nil)) ?_
   refine o_move (v := .tup [.sl .no 3 (r6.1.map WireFault.cells), .i r6.2]) (by decide) rfl ?_
   refine o_extract (v := .sl .no 3 (r6.1.map WireFault.cells)) (by decide) rfl rfl ?_
   refine o_extract (v := .i r6.2) (by decide) rfl rfl ?_
   refine o_assign (v := .sl .no 3 (r6.1.map WireFault.cells)) (by decide) rfl ?_
   refine o_assign (v := .i r6.2) (by decide) rfl ?_
   refine run_nil ?_
   refine w_next [(1, .sl .no 3 (a1.map WireFault.cells)), (3, .ep (Wire.cells a0)), (5, .ep [.i a2.Letter, .i a2.Number]), (7, .sl .no 1 (r4.1.map cI)), (8, .i r4.2), (9, .sl .no 3 (r5.1.map WireFault.cells)), (10, .i r5.2), (11, .sl .no 3 (r6.1.map WireFault.cells)), (12, .i r6.2)] (.k (.k (.k (.k (.k (.k (.k (.k (.k .nil))))))))) ?_
   refine r_seq ?_
   refine r_region (n := 7) rfl ?_
   refine o_loadE (v := .agg (Wire.cells a0)) (by decide) rfl (part_agg ty_agg24 (Nat.le_of_ble_eq_true rfl) rfl) ?_
   obtain ⟨r7, hr7, hM⟩ := bindE hM
   refine o_call (bs := [.agg (Wire.cells a0)]) (by decide) rfl rfl ((W_wires_Fewest hr7).le (.k .nil)) ?_
   refine o_move (v := .tup [.i r7.1, .i r7.2]) (by decide) rfl ?_
   refine o_extract (v := .i r7.1) (by decide) rfl rfl ?_
   refine o_extract (v := .i r7.2) (by decide) rfl rfl ?_
   refine o_assign (v := .i r7.1) (by decide) rfl ?_
   refine o_assign (v := .i r7.2) (by decide) rfl ?_
   refine run_nil ?_
   refine w_next [(1, .sl .no 3 (a1.map WireFault.cells)), (3, .ep (Wire.cells a0)), (5, .ep [.i a2.Letter, .i a2.Number]), (7, .sl .no 1 (r4.1.map cI)), (8, .i r4.2), (9, .sl .no 3 (r5.1.map WireFault.cells)), (10, .i r5.2), (11, .sl .no 3 (r6.1.map WireFault.cells)), (12, .i r6.2), (13, .i r7.1), (14, .i r7.2)] (.k (.k (.k (.k (.k (.k (.k (.k (.k (.k (.k .nil))))))))))) ?_
   refine r_seq ?_
   have hS0 := hS
   refine r_draw (n := 10) rfl (by kernel_rfl) ?_
   refine o_loadE (v := .agg (Wire.cells a0)) (by decide) rfl (part_agg ty_agg24 (Nat.le_of_ble_eq_true rfl) rfl) ?_
   refine o_buildSlice (es := []) hS (by decide) ty_es31 ty_el31 rfl ty_ef31 rfl (by decide) (by omega) fun H hS => ?_
   refine o_move (v := .sl .no 3 (a1.map WireFault.cells)) (by decide) rfl ?_
   obtain ⟨l8, hl8, hM⟩ := bindE hM
   refine o_append (xs := ([] : List WireFault)) (ys := a1) (zs := l8) (f := WireFault.cells) (L' := [(g1 + 11 + 7 + 7 + 7 + 1, .row 63 l8.length)]) 0 hS (by decide) rfl rfl rfl rfl (.behind (by kernel_rfl)) ty_es31 ty_el31 ty_ef31 hl8 rfl fun H hS => ?_
   obtain ⟨r9, hr9, hM⟩ := bindE hM
   refine o_call (bs := [.agg (Wire.cells a0), .sl (.id (g1 + 11 + 7 + 7 + 7 + 1)) 3 (l8.map WireFault.cells)]) (by decide) rfl rfl ((W_wires_Explains hr9).le (.k (.cons (.sl _ _ _) .nil))) ?_
   refine o_move (v := .tup [.b r9.1, .i r9.2]) (by decide) rfl ?_
   refine o_extract (v := .b r9.1) (by decide) rfl rfl ?_
   refine o_extract (v := .i r9.2) (by decide) rfl rfl ?_
   refine o_assign (v := .b r9.1) (by decide) rfl ?_
   refine o_assign (v := .i r9.2) (by decide) rfl ?_
   refine run_nil ?_
   replace hS := hS.keep (L' := []) [false] rfl
   refine w_next [(1, .sl .no 3 (a1.map WireFault.cells)), (3, .ep (Wire.cells a0)), (5, .ep [.i a2.Letter, .i a2.Number]), (7, .sl .no 1 (r4.1.map cI)), (8, .i r4.2), (9, .sl .no 3 (r5.1.map WireFault.cells)), (10, .i r5.2), (11, .sl .no 3 (r6.1.map WireFault.cells)), (12, .i r6.2), (13, .i r7.1), (14, .i r7.2), (15, .b r9.1), (16, .i r9.2)] (.k (.k (.k (.k (.k (.k (.k (.k (.k (.k (.k (.k (.k .nil))))))))))))) ?_
   refine w_join (J := Bool) (fun j => [(6, .b j)]) (fun j H' g' => St (· < g) H0 [] H' g' ∧ law11_WiresTrue_j2 j = some r) ?_ ?_
   ·rintro v10 H g2 ⟨hS, hM⟩
    change wpA _ _ _ _ (Fr.of [(6, .b v10)]) _ _
    replace hS : St (· < g) H0 [] H g2 := hS
    replace hM : law11_WiresTrue_j2 v10 = some r := hM
    refine r_ret ?_
    refine w_end (x := .b v10) (f := fun r => .b r) (.inr rfl) ?_ (.refl _) (Option.some.inj hM) hS
    exact (res_one (res_tmp (x := .b v10) rfl))
   ·refine r_region (n := 61) rfl ?_
    refine o_move (v := .i r4.2) (by decide) rfl ?_
    refine o_int (v := .b (r4.2 == 0)) (by decide) rfl rfl rfl ?_
    refine o_move (v := .b (r4.2 == 0)) (by decide) rfl ?_
    rcases Bool.eq_false_or_eq_true (r4.2 == 0) with hb11 | hb11
    ·replace hM := ifT hM hb11
     refine o_guardY (j := 2) (e := (r4.2 == 0)) (want := true) rfl hb11 ?_
     refine o_move (v := .i r5.2) (by decide) rfl ?_
     refine o_guardY (j := 2) (e := (r4.2 == 0)) (want := true) rfl hb11 ?_
     refine o_int (v := .b (r5.2 == 0)) (by decide) rfl rfl rfl ?_
     refine o_pickT (v := .b (r5.2 == 0)) (e := (r4.2 == 0)) (by decide) rfl hb11 rfl ?_
     refine o_move (v := .b (r5.2 == 0)) (by decide) rfl ?_
     rcases Bool.eq_false_or_eq_true (r5.2 == 0) with hb12 | hb12
     ·replace hM := ifT hM hb12
      refine o_guardY (j := 6) (e := (r5.2 == 0)) (want := true) rfl hb12 ?_
      refine o_move (v := .i r6.2) (by decide) rfl ?_
      refine o_guardY (j := 6) (e := (r5.2 == 0)) (want := true) rfl hb12 ?_
      refine o_int (v := .b (r6.2 == 0)) (by decide) rfl rfl rfl ?_
      refine o_pickT (v := .b (r6.2 == 0)) (e := (r5.2 == 0)) (by decide) rfl hb12 rfl ?_
      refine o_move (v := .b (r6.2 == 0)) (by decide) rfl ?_
      rcases Bool.eq_false_or_eq_true (r6.2 == 0) with hb13 | hb13
      ·replace hM := ifT hM hb13
       refine o_guardY (j := 10) (e := (r6.2 == 0)) (want := true) rfl hb13 ?_
       refine o_move (v := .i r7.2) (by decide) rfl ?_
       refine o_guardY (j := 10) (e := (r6.2 == 0)) (want := true) rfl hb13 ?_
       refine o_int (v := .b (r7.2 == 0)) (by decide) rfl rfl rfl ?_
       refine o_pickT (v := .b (r7.2 == 0)) (e := (r6.2 == 0)) (by decide) rfl hb13 rfl ?_
       refine o_move (v := .b (r7.2 == 0)) (by decide) rfl ?_
       rcases Bool.eq_false_or_eq_true (r7.2 == 0) with hb14 | hb14
       ·replace hM := ifT hM hb14
        refine o_guardY (j := 14) (e := (r7.2 == 0)) (want := true) rfl hb14 ?_
        refine o_move (v := .i r9.2) (by decide) rfl ?_
        refine o_guardY (j := 14) (e := (r7.2 == 0)) (want := true) rfl hb14 ?_
        refine o_int (v := .b (r9.2 == 0)) (by decide) rfl rfl rfl ?_
        refine o_pickT (v := .b (r9.2 == 0)) (e := (r7.2 == 0)) (by decide) rfl hb14 rfl ?_
        refine o_move (v := .b (r9.2 == 0)) (by decide) rfl ?_
        rcases Bool.eq_false_or_eq_true (r9.2 == 0) with hb15 | hb15
        ·replace hM := ifT hM hb15
         refine o_guardY (j := 18) (e := (r9.2 == 0)) (want := true) rfl hb15 ?_
         refine o_move (v := .b r9.1) (by decide) rfl ?_
         refine o_pickT (v := .b r9.1) (e := (r9.2 == 0)) (by decide) rfl hb15 rfl ?_
         refine o_move (v := .b r9.1) (by decide) rfl ?_
         rcases Bool.eq_false_or_eq_true r9.1 with hb16 | hb16
         ·replace hM := ifT hM hb16
          refine o_guardY (j := 21) (e := r9.1) (want := true) rfl hb16 ?_
          refine o_move (v := .sl .no 1 (r4.1.map cI)) (by decide) rfl ?_
          refine o_guardY (j := 21) (e := r9.1) (want := true) rfl hb16 ?_
          refine o_len (n := r4.1.length) (by decide) rfl (List.length_map _) ty_isl39 ?_
          refine o_guardY (j := 21) (e := r9.1) (want := true) rfl hb16 ?_
          refine o_int (v := .b (decide ((r4.1.length : Int) ≤ 40))) (by decide) rfl rfl rfl ?_
          refine o_pickT (v := .b (decide ((r4.1.length : Int) ≤ 40))) (e := r9.1) (by decide) rfl hb16 rfl ?_
          refine o_move (v := .b (decide ((r4.1.length : Int) ≤ 40))) (by decide) rfl ?_
          rcases Bool.eq_false_or_eq_true (decide ((r4.1.length : Int) ≤ 40)) with hb17 | hb17
          ·replace hM := ifT hM hb17
           refine o_guardY (j := 26) (e := (decide ((r4.1.length : Int) ≤ 40))) (want := true) rfl hb17 ?_
           refine o_move (v := .sl .no 1 (r4.1.map cI)) (by decide) rfl ?_
           refine o_guardY (j := 26) (e := (decide ((r4.1.length : Int) ≤ 40))) (want := true) rfl hb17 ?_
           refine o_loadE (v := .agg (Wire.cells a0)) (by decide) rfl (part_agg ty_agg24 (Nat.le_of_ble_eq_true rfl) rfl) ?_
           refine o_guardY (j := 26) (e := (decide ((r4.1.length : Int) ≤ 40))) (want := true) rfl hb17 ?_
           refine o_move (v := .sl .no 3 (a1.map WireFault.cells)) (by decide) rfl ?_
           refine o_guardY (j := 26) (e := (decide ((r4.1.length : Int) ≤ 40))) (want := true) rfl hb17 ?_
           refine o_fieldE (cs := [.i a2.Letter, .i a2.Number]) (by decide) ty_fo38_0 rfl ?_
           refine o_guardY (j := 26) (e := (decide ((r4.1.length : Int) ≤ 40))) (want := true) rfl hb17 ?_
           refine o_loadE (v := .i a2.Letter) (by decide) rfl (part_one ty_agg3 ty_sc3 rfl) ?_
           refine o_guardY (j := 26) (e := (decide ((r4.1.length : Int) ≤ 40))) (want := true) rfl hb17 ?_
           refine o_fieldE (cs := [.i a2.Letter, .i a2.Number]) (by decide) ty_fo38_1 rfl ?_
           refine o_guardY (j := 26) (e := (decide ((r4.1.length : Int) ≤ 40))) (want := true) rfl hb17 ?_
           refine o_loadE (v := .i a2.Number) (by decide) rfl (part_one ty_agg3 ty_sc3 rfl) ?_
           refine o_guardY (j := 26) (e := (decide ((r4.1.length : Int) ≤ 40))) (want := true) rfl hb17 ?_
           obtain ⟨r18, hr18, hM⟩ := bindE hM
           refine o_call (bs := [.agg (Wire.cells a0), .sl .no 3 (a1.map WireFault.cells), .i a2.Letter, .i a2.Number]) (by decide) rfl rfl ((W_ref11_PlaysOf hr18).le (.k (.k (.k (.k .nil))))) ?_
           refine o_guardY (j := 26) (e := (decide ((r4.1.length : Int) ≤ 40))) (want := true) rfl hb17 ?_
           obtain ⟨r19, hr19, hM⟩ := bindE hM
           refine o_call (bs := [.sl .no 1 (r4.1.map cI), .i r18]) (by decide) rfl rfl ((W_ref01_In hr19).le (.k (.k .nil))) ?_
           refine o_pickT (v := .b r19) (e := (decide ((r4.1.length : Int) ≤ 40))) (by decide) rfl hb17 rfl ?_
           refine o_move (v := .b r19) (by decide) rfl ?_
           rcases Bool.eq_false_or_eq_true r19 with hb20 | hb20
           ·replace hM := ifT hM hb20
            refine o_guardY (j := 37) (e := r19) (want := true) rfl hb20 ?_
            refine o_move (v := .sl .no 3 (r5.1.map WireFault.cells)) (by decide) rfl ?_
            refine o_guardY (j := 37) (e := r19) (want := true) rfl hb20 ?_
            refine o_move (v := .sl .no 3 (a1.map WireFault.cells)) (by decide) rfl ?_
            refine o_guardY (j := 37) (e := r19) (want := true) rfl hb20 ?_
            obtain ⟨r21, hr21, hM⟩ := bindE hM
            refine o_call (bs := [.sl .no 3 (r5.1.map WireFault.cells), .sl .no 3 (a1.map WireFault.cells)]) (by decide) rfl rfl ((W_law11_areIn hr21).le (.k (.k .nil))) ?_
            refine o_pickT (v := .b r21) (e := r19) (by decide) rfl hb20 rfl ?_
            refine o_move (v := .b r21) (by decide) rfl ?_
            rcases Bool.eq_false_or_eq_true r21 with hb22 | hb22
            ·replace hM := ifT hM hb22
             refine o_guardY (j := 42) (e := r21) (want := true) rfl hb22 ?_
             refine o_move (v := .sl .no 3 (a1.map WireFault.cells)) (by decide) rfl ?_
             refine o_guardY (j := 42) (e := r21) (want := true) rfl hb22 ?_
             refine o_move (v := .sl .no 3 (r6.1.map WireFault.cells)) (by decide) rfl ?_
             refine o_guardY (j := 42) (e := r21) (want := true) rfl hb22 ?_
             obtain ⟨r23, hr23, hM⟩ := bindE hM
             refine o_call (bs := [.sl .no 3 (a1.map WireFault.cells), .sl .no 3 (r6.1.map WireFault.cells)]) (by decide) rfl rfl ((W_law11_areIn hr23).le (.k (.k .nil))) ?_
             refine o_pickT (v := .b r23) (e := r21) (by decide) rfl hb22 rfl ?_
             refine o_move (v := .b r23) (by decide) rfl ?_
             rcases Bool.eq_false_or_eq_true r23 with hb24 | hb24
             ·replace hM := ifT hM hb24
              refine o_guardY (j := 47) (e := r23) (want := true) rfl hb24 ?_
              refine o_move (v := .i r7.1) (by decide) rfl ?_
              refine o_guardY (j := 47) (e := r23) (want := true) rfl hb24 ?_
              refine o_int (v := .b (decide (r7.1 ≥ 0))) (by decide) rfl rfl rfl ?_
              refine o_pickT (v := .b (decide (r7.1 ≥ 0))) (e := r23) (by decide) rfl hb24 rfl ?_
              refine o_move (v := .b (decide (r7.1 ≥ 0))) (by decide) rfl ?_
              rcases Bool.eq_false_or_eq_true (decide (r7.1 ≥ 0)) with hb25 | hb25
              ·replace hM := ifT hM hb25
               refine o_guardY (j := 51) (e := (decide (r7.1 ≥ 0))) (want := true) rfl hb25 ?_
               refine o_move (v := .i r7.1) (by decide) rfl ?_
               refine o_guardY (j := 51) (e := (decide (r7.1 ≥ 0))) (want := true) rfl hb25 ?_
               refine o_move (v := .sl .no 3 (a1.map WireFault.cells)) (by decide) rfl ?_
               refine o_guardY (j := 51) (e := (decide (r7.1 ≥ 0))) (want := true) rfl hb25 ?_
               refine o_len (n := a1.length) (by decide) rfl (List.length_map _) ty_isl31 ?_
               refine o_guardY (j := 51) (e := (decide (r7.1 ≥ 0))) (want := true) rfl hb25 ?_
               refine o_int (v := .b (decide (r7.1 ≤ (a1.length : Int)))) (by decide) rfl rfl rfl ?_
               refine o_pickT (v := .b (decide (r7.1 ≤ (a1.length : Int)))) (e := (decide (r7.1 ≥ 0))) (by decide) rfl hb25 rfl ?_
               refine o_move (v := .b (decide (r7.1 ≤ (a1.length : Int)))) (by decide) rfl ?_
               rcases Bool.eq_false_or_eq_true (decide (r7.1 ≤ (a1.length : Int))) with hb26 | hb26
               ·replace hM := ifT hM hb26
                refine o_guardY (j := 57) (e := (decide (r7.1 ≤ (a1.length : Int)))) (want := true) rfl hb26 ?_
                obtain ⟨r27, hr27, hM⟩ := bindE hM
                refine o_call (bs := []) (by decide) rfl rfl ((W_law11_works hr27).le .nil) ?_
                refine o_pickT (v := .b r27) (e := (decide (r7.1 ≤ (a1.length : Int)))) (by decide) rfl hb26 rfl ?_
                refine o_assign (v := .b r27) (by decide) rfl ?_
                refine run_nil ?_
                exact w_goto r27 (.k .nil) ⟨(hS.keep [] rfl).up (by omega), hM⟩
               ·replace hM := ifF hM hb26
                refine o_guardN (j := 57) (e := (decide (r7.1 ≤ (a1.length : Int)))) (want := true) (by decide) rfl hb26 ?_
                refine o_pickF (v := .b false) (e := (decide (r7.1 ≤ (a1.length : Int)))) (by decide) rfl hb26 rfl ?_
                refine o_assign (v := .b false) (by decide) rfl ?_
                refine run_nil ?_
                exact w_goto false (.k .nil) ⟨(hS.keep [] rfl).up (by omega), hM⟩
              ·replace hM := ifF hM hb25
               refine o_guardN (j := 51) (e := (decide (r7.1 ≥ 0))) (want := true) (by decide) rfl hb25 ?_
               refine o_guardN (j := 51) (e := (decide (r7.1 ≥ 0))) (want := true) (by decide) rfl hb25 ?_
               refine o_guardN (j := 51) (e := (decide (r7.1 ≥ 0))) (want := true) (by decide) rfl hb25 ?_
               refine o_guardN (j := 51) (e := (decide (r7.1 ≥ 0))) (want := true) (by decide) rfl hb25 ?_
               refine o_pickF (v := .b false) (e := (decide (r7.1 ≥ 0))) (by decide) rfl hb25 rfl ?_
               refine o_move (v := .b false) (by decide) rfl ?_
               refine o_guardN (j := 57) (e := false) (want := true) (by decide) rfl rfl ?_
               refine o_pickF (v := .b false) (e := false) (by decide) rfl rfl rfl ?_
               refine o_assign (v := .b false) (by decide) rfl ?_
               refine run_nil ?_
               exact w_goto false (.k .nil) ⟨(hS.keep [] rfl).up (by omega), hM⟩
             ·replace hM := ifF hM hb24
              refine o_guardN (j := 47) (e := r23) (want := true) (by decide) rfl hb24 ?_
              refine o_guardN (j := 47) (e := r23) (want := true) (by decide) rfl hb24 ?_
              refine o_pickF (v := .b false) (e := r23) (by decide) rfl hb24 rfl ?_
              refine o_move (v := .b false) (by decide) rfl ?_
              refine o_guardN (j := 51) (e := false) (want := true) (by decide) rfl rfl ?_
              refine o_guardN (j := 51) (e := false) (want := true) (by decide) rfl rfl ?_
              refine o_guardN (j := 51) (e := false) (want := true) (by decide) rfl rfl ?_
              refine o_guardN (j := 51) (e := false) (want := true) (by decide) rfl rfl ?_
              refine o_pickF (v := .b false) (e := false) (by decide) rfl rfl rfl ?_
              refine o_move (v := .b false) (by decide) rfl ?_
              refine o_guardN (j := 57) (e := false) (want := true) (by decide) rfl rfl ?_
              refine o_pickF (v := .b false) (e := false) (by decide) rfl rfl rfl ?_
              refine o_assign (v := .b false) (by decide) rfl ?_
              refine run_nil ?_
              exact w_goto false (.k .nil) ⟨(hS.keep [] rfl).up (by omega), hM⟩
            ·replace hM := ifF hM hb22
             refine o_guardN (j := 42) (e := r21) (want := true) (by decide) rfl hb22 ?_
             refine o_guardN (j := 42) (e := r21) (want := true) (by decide) rfl hb22 ?_
             refine o_guardN (j := 42) (e := r21) (want := true) (by decide) rfl hb22 ?_
             refine o_pickF (v := .b false) (e := r21) (by decide) rfl hb22 rfl ?_
             refine o_move (v := .b false) (by decide) rfl ?_
             refine o_guardN (j := 47) (e := false) (want := true) (by decide) rfl rfl ?_
             refine o_guardN (j := 47) (e := false) (want := true) (by decide) rfl rfl ?_
             refine o_pickF (v := .b false) (e := false) (by decide) rfl rfl rfl ?_
             refine o_move (v := .b false) (by decide) rfl ?_
             refine o_guardN (j := 51) (e := false) (want := true) (by decide) rfl rfl ?_
             refine o_guardN (j := 51) (e := false) (want := true) (by decide) rfl rfl ?_
             refine o_guardN (j := 51) (e := false) (want := true) (by decide) rfl rfl ?_
             refine o_guardN (j := 51) (e := false) (want := true) (by decide) rfl rfl ?_
             refine o_pickF (v := .b false) (e := false) (by decide) rfl rfl rfl ?_
             refine o_move (v := .b false) (by decide) rfl ?_
             refine o_guardN (j := 57) (e := false) (want := true) (by decide) rfl rfl ?_
             refine o_pickF (v := .b false) (e := false) (by decide) rfl rfl rfl ?_
             refine o_assign (v := .b false) (by decide) rfl ?_
             refine run_nil ?_
             exact w_goto false (.k .nil) ⟨(hS.keep [] rfl).up (by omega), hM⟩
           ·replace hM := ifF hM hb20
            refine o_guardN (j := 37) (e := r19) (want := true) (by decide) rfl hb20 ?_
            refine o_guardN (j := 37) (e := r19) (want := true) (by decide) rfl hb20 ?_
            refine o_guardN (j := 37) (e := r19) (want := true) (by decide) rfl hb20 ?_
            refine o_pickF (v := .b false) (e := r19) (by decide) rfl hb20 rfl ?_
            refine o_move (v := .b false) (by decide) rfl ?_
            refine o_guardN (j := 42) (e := false) (want := true) (by decide) rfl rfl ?_
            refine o_guardN (j := 42) (e := false) (want := true) (by decide) rfl rfl ?_
            refine o_guardN (j := 42) (e := false) (want := true) (by decide) rfl rfl ?_
            refine o_pickF (v := .b false) (e := false) (by decide) rfl rfl rfl ?_
            refine o_move (v := .b false) (by decide) rfl ?_
            refine o_guardN (j := 47) (e := false) (want := true) (by decide) rfl rfl ?_
            refine o_guardN (j := 47) (e := false) (want := true) (by decide) rfl rfl ?_
            refine o_pickF (v := .b false) (e := false) (by decide) rfl rfl rfl ?_
            refine o_move (v := .b false) (by decide) rfl ?_
            refine o_guardN (j := 51) (e := false) (want := true) (by decide) rfl rfl ?_
            refine o_guardN (j := 51) (e := false) (want := true) (by decide) rfl rfl ?_
            refine o_guardN (j := 51) (e := false) (want := true) (by decide) rfl rfl ?_
            refine o_guardN (j := 51) (e := false) (want := true) (by decide) rfl rfl ?_
            refine o_pickF (v := .b false) (e := false) (by decide) rfl rfl rfl ?_
            refine o_move (v := .b false) (by decide) rfl ?_
            refine o_guardN (j := 57) (e := false) (want := true) (by decide) rfl rfl ?_
            refine o_pickF (v := .b false) (e := false) (by decide) rfl rfl rfl ?_
            refine o_assign (v := .b false) (by decide) rfl ?_
            refine run_nil ?_
            exact w_goto false (.k .nil) ⟨(hS.keep [] rfl).up (by omega), hM⟩
          ·replace hM := ifF hM hb17
           refine o_guardN (j := 26) (e := (decide ((r4.1.length : Int) ≤ 40))) (want := true) (by decide) rfl hb17 ?_
           refine o_guardN (j := 26) (e := (decide ((r4.1.length : Int) ≤ 40))) (want := true) (by decide) rfl hb17 ?_
           refine o_guardN (j := 26) (e := (decide ((r4.1.length : Int) ≤ 40))) (want := true) (by decide) rfl hb17 ?_
           refine o_guardN (j := 26) (e := (decide ((r4.1.length : Int) ≤ 40))) (want := true) (by decide) rfl hb17 ?_
           refine o_guardN (j := 26) (e := (decide ((r4.1.length : Int) ≤ 40))) (want := true) (by decide) rfl hb17 ?_
           refine o_guardN (j := 26) (e := (decide ((r4.1.length : Int) ≤ 40))) (want := true) (by decide) rfl hb17 ?_
           refine o_guardN (j := 26) (e := (decide ((r4.1.length : Int) ≤ 40))) (want := true) (by decide) rfl hb17 ?_
           refine o_guardN (j := 26) (e := (decide ((r4.1.length : Int) ≤ 40))) (want := true) (by decide) rfl hb17 ?_
           refine o_guardN (j := 26) (e := (decide ((r4.1.length : Int) ≤ 40))) (want := true) (by decide) rfl hb17 ?_
           refine o_pickF (v := .b false) (e := (decide ((r4.1.length : Int) ≤ 40))) (by decide) rfl hb17 rfl ?_
           refine o_move (v := .b false) (by decide) rfl ?_
           refine o_guardN (j := 37) (e := false) (want := true) (by decide) rfl rfl ?_
           refine o_guardN (j := 37) (e := false) (want := true) (by decide) rfl rfl ?_
           refine o_guardN (j := 37) (e := false) (want := true) (by decide) rfl rfl ?_
           refine o_pickF (v := .b false) (e := false) (by decide) rfl rfl rfl ?_
           refine o_move (v := .b false) (by decide) rfl ?_
           refine o_guardN (j := 42) (e := false) (want := true) (by decide) rfl rfl ?_
           refine o_guardN (j := 42) (e := false) (want := true) (by decide) rfl rfl ?_
           refine o_guardN (j := 42) (e := false) (want := true) (by decide) rfl rfl ?_
           refine o_pickF (v := .b false) (e := false) (by decide) rfl rfl rfl ?_
           refine o_move (v := .b false) (by decide) rfl ?_
           refine o_guardN (j := 47) (e := false) (want := true) (by decide) rfl rfl ?_
           refine o_guardN (j := 47) (e := false) (want := true) (by decide) rfl rfl ?_
           refine o_pickF (v := .b false) (e := false) (by decide) rfl rfl rfl ?_
           refine o_move (v := .b false) (by decide) rfl ?_
           refine o_guardN (j := 51) (e := false) (want := true) (by decide) rfl rfl ?_
           refine o_guardN (j := 51) (e := false) (want := true) (by decide) rfl rfl ?_
           refine o_guardN (j := 51) (e := false) (want := true) (by decide) rfl rfl ?_
           refine o_guardN (j := 51) (e := false) (want := true) (by decide) rfl rfl ?_
           refine o_pickF (v := .b false) (e := false) (by decide) rfl rfl rfl ?_
           refine o_move (v := .b false) (by decide) rfl ?_
           refine o_guardN (j := 57) (e := false) (want := true) (by decide) rfl rfl ?_
           refine o_pickF (v := .b false) (e := false) (by decide) rfl rfl rfl ?_
           refine o_assign (v := .b false) (by decide) rfl ?_
           refine run_nil ?_
           exact w_goto false (.k .nil) ⟨(hS.keep [] rfl).up (by omega), hM⟩
         ·replace hM := ifF hM hb16
          refine o_guardN (j := 21) (e := r9.1) (want := true) (by decide) rfl hb16 ?_
          refine o_guardN (j := 21) (e := r9.1) (want := true) (by decide) rfl hb16 ?_
          refine o_guardN (j := 21) (e := r9.1) (want := true) (by decide) rfl hb16 ?_
          refine o_pickF (v := .b false) (e := r9.1) (by decide) rfl hb16 rfl ?_
          refine o_move (v := .b false) (by decide) rfl ?_
          refine o_guardN (j := 26) (e := false) (want := true) (by decide) rfl rfl ?_
          refine o_guardN (j := 26) (e := false) (want := true) (by decide) rfl rfl ?_
          refine o_guardN (j := 26) (e := false) (want := true) (by decide) rfl rfl ?_
          refine o_guardN (j := 26) (e := false) (want := true) (by decide) rfl rfl ?_
          refine o_guardN (j := 26) (e := false) (want := true) (by decide) rfl rfl ?_
          refine o_guardN (j := 26) (e := false) (want := true) (by decide) rfl rfl ?_
          refine o_guardN (j := 26) (e := false) (want := true) (by decide) rfl rfl ?_
          refine o_guardN (j := 26) (e := false) (want := true) (by decide) rfl rfl ?_
          refine o_guardN (j := 26) (e := false) (want := true) (by decide) rfl rfl ?_
          refine o_pickF (v := .b false) (e := false) (by decide) rfl rfl rfl ?_
          refine o_move (v := .b false) (by decide) rfl ?_
          refine o_guardN (j := 37) (e := false) (want := true) (by decide) rfl rfl ?_
          refine o_guardN (j := 37) (e := false) (want := true) (by decide) rfl rfl ?_
          refine o_guardN (j := 37) (e := false) (want := true) (by decide) rfl rfl ?_
          refine o_pickF (v := .b false) (e := false) (by decide) rfl rfl rfl ?_
          refine o_move (v := .b false) (by decide) rfl ?_
          refine o_guardN (j := 42) (e := false) (want := true) (by decide) rfl rfl ?_
          refine o_guardN (j := 42) (e := false) (want := true) (by decide) rfl rfl ?_
          refine o_guardN (j := 42) (e := false) (want := true) (by decide) rfl rfl ?_
          refine o_pickF (v := .b false) (e := false) (by decide) rfl rfl rfl ?_
          refine o_move (v := .b false) (by decide) rfl ?_
          refine o_guardN (j := 47) (e := false) (want := true) (by decide) rfl rfl ?_
          refine o_guardN (j := 47) (e := false) (want := true) (by decide) rfl rfl ?_
          refine o_pickF (v := .b false) (e := false) (by decide) rfl rfl rfl ?_
          refine o_move (v := .b false) (by decide) rfl ?_
          refine o_guardN (j := 51) (e := false) (want := true) (by decide) rfl rfl ?_
          refine o_guardN (j := 51) (e := false) (want := true) (by decide) rfl rfl ?_
          refine o_guardN (j := 51) (e := false) (want := true) (by decide) rfl rfl ?_
          refine o_guardN (j := 51) (e := false) (want := true) (by decide) rfl rfl ?_
          refine o_pickF (v := .b false) (e := false) (by decide) rfl rfl rfl ?_
          refine o_move (v := .b false) (by decide) rfl ?_
          refine o_guardN (j := 57) (e := false) (want := true) (by decide) rfl rfl ?_
          refine o_pickF (v := .b false) (e := false) (by decide) rfl rfl rfl ?_
          refine o_assign (v := .b false) (by decide) rfl ?_
          refine run_nil ?_
          exact w_goto false (.k .nil) ⟨(hS.keep [] rfl).up (by omega), hM⟩
        ·replace hM := ifF hM hb15
         refine o_guardN (j := 18) (e := (r9.2 == 0)) (want := true) (by decide) rfl hb15 ?_
         refine o_pickF (v := .b false) (e := (r9.2 == 0)) (by decide) rfl hb15 rfl ?_
         refine o_move (v := .b false) (by decide) rfl ?_
         refine o_guardN (j := 21) (e := false) (want := true) (by decide) rfl rfl ?_
         refine o_guardN (j := 21) (e := false) (want := true) (by decide) rfl rfl ?_
         refine o_guardN (j := 21) (e := false) (want := true) (by decide) rfl rfl ?_
         refine o_pickF (v := .b false) (e := false) (by decide) rfl rfl rfl ?_
         refine o_move (v := .b false) (by decide) rfl ?_
         refine o_guardN (j := 26) (e := false) (want := true) (by decide) rfl rfl ?_
         refine o_guardN (j := 26) (e := false) (want := true) (by decide) rfl rfl ?_
         refine o_guardN (j := 26) (e := false) (want := true) (by decide) rfl rfl ?_
         refine o_guardN (j := 26) (e := false) (want := true) (by decide) rfl rfl ?_
         refine o_guardN (j := 26) (e := false) (want := true) (by decide) rfl rfl ?_
         refine o_guardN (j := 26) (e := false) (want := true) (by decide) rfl rfl ?_
         refine o_guardN (j := 26) (e := false) (want := true) (by decide) rfl rfl ?_
         refine o_guardN (j := 26) (e := false) (want := true) (by decide) rfl rfl ?_
         refine o_guardN (j := 26) (e := false) (want := true) (by decide) rfl rfl ?_
         refine o_pickF (v := .b false) (e := false) (by decide) rfl rfl rfl ?_
         refine o_move (v := .b false) (by decide) rfl ?_
         refine o_guardN (j := 37) (e := false) (want := true) (by decide) rfl rfl ?_
         refine o_guardN (j := 37) (e := false) (want := true) (by decide) rfl rfl ?_
         refine o_guardN (j := 37) (e := false) (want := true) (by decide) rfl rfl ?_
         refine o_pickF (v := .b false) (e := false) (by decide) rfl rfl rfl ?_
         refine o_move (v := .b false) (by decide) rfl ?_
         refine o_guardN (j := 42) (e := false) (want := true) (by decide) rfl rfl ?_
         refine o_guardN (j := 42) (e := false) (want := true) (by decide) rfl rfl ?_
         refine o_guardN (j := 42) (e := false) (want := true) (by decide) rfl rfl ?_
         refine o_pickF (v := .b false) (e := false) (by decide) rfl rfl rfl ?_
         refine o_move (v := .b false) (by decide) rfl ?_
         refine o_guardN (j := 47) (e := false) (want := true) (by decide) rfl rfl ?_
         refine o_guardN (j := 47) (e := false) (want := true) (by decide) rfl rfl ?_
         refine o_pickF (v := .b false) (e := false) (by decide) rfl rfl rfl ?_
         refine o_move (v := .b false) (by decide) rfl ?_
         refine o_guardN (j := 51) (e := false) (want := true) (by decide) rfl rfl ?_
         refine o_guardN (j := 51) (e := false) (want := true) (by decide) rfl rfl ?_
         refine o_guardN (j := 51) (e := false) (want := true) (by decide) rfl rfl ?_
         refine o_guardN (j := 51) (e := false) (want := true) (by decide) rfl rfl ?_
         refine o_pickF (v := .b false) (e := false) (by decide) rfl rfl rfl ?_
         refine o_move (v := .b false) (by decide) rfl ?_
         refine o_guardN (j := 57) (e := false) (want := true) (by decide) rfl rfl ?_
         refine o_pickF (v := .b false) (e := false) (by decide) rfl rfl rfl ?_
         refine o_assign (v := .b false) (by decide) rfl ?_
         refine run_nil ?_
         exact w_goto false (.k .nil) ⟨(hS.keep [] rfl).up (by omega), hM⟩
       ·replace hM := ifF hM hb14
        refine o_guardN (j := 14) (e := (r7.2 == 0)) (want := true) (by decide) rfl hb14 ?_
        refine o_guardN (j := 14) (e := (r7.2 == 0)) (want := true) (by decide) rfl hb14 ?_
        refine o_pickF (v := .b false) (e := (r7.2 == 0)) (by decide) rfl hb14 rfl ?_
        refine o_move (v := .b false) (by decide) rfl ?_
        refine o_guardN (j := 18) (e := false) (want := true) (by decide) rfl rfl ?_
        refine o_pickF (v := .b false) (e := false) (by decide) rfl rfl rfl ?_
        refine o_move (v := .b false) (by decide) rfl ?_
        refine o_guardN (j := 21) (e := false) (want := true) (by decide) rfl rfl ?_
        refine o_guardN (j := 21) (e := false) (want := true) (by decide) rfl rfl ?_
        refine o_guardN (j := 21) (e := false) (want := true) (by decide) rfl rfl ?_
        refine o_pickF (v := .b false) (e := false) (by decide) rfl rfl rfl ?_
        refine o_move (v := .b false) (by decide) rfl ?_
        refine o_guardN (j := 26) (e := false) (want := true) (by decide) rfl rfl ?_
        refine o_guardN (j := 26) (e := false) (want := true) (by decide) rfl rfl ?_
        refine o_guardN (j := 26) (e := false) (want := true) (by decide) rfl rfl ?_
        refine o_guardN (j := 26) (e := false) (want := true) (by decide) rfl rfl ?_
        refine o_guardN (j := 26) (e := false) (want := true) (by decide) rfl rfl ?_
        refine o_guardN (j := 26) (e := false) (want := true) (by decide) rfl rfl ?_
        refine o_guardN (j := 26) (e := false) (want := true) (by decide) rfl rfl ?_
        refine o_guardN (j := 26) (e := false) (want := true) (by decide) rfl rfl ?_
        refine o_guardN (j := 26) (e := false) (want := true) (by decide) rfl rfl ?_
        refine o_pickF (v := .b false) (e := false) (by decide) rfl rfl rfl ?_
        refine o_move (v := .b false) (by decide) rfl ?_
        refine o_guardN (j := 37) (e := false) (want := true) (by decide) rfl rfl ?_
        refine o_guardN (j := 37) (e := false) (want := true) (by decide) rfl rfl ?_
        refine o_guardN (j := 37) (e := false) (want := true) (by decide) rfl rfl ?_
        refine o_pickF (v := .b false) (e := false) (by decide) rfl rfl rfl ?_
        refine o_move (v := .b false) (by decide) rfl ?_
        refine o_guardN (j := 42) (e := false) (want := true) (by decide) rfl rfl ?_
        refine o_guardN (j := 42) (e := false) (want := true) (by decide) rfl rfl ?_
        refine o_guardN (j := 42) (e := false) (want := true) (by decide) rfl rfl ?_
        refine o_pickF (v := .b false) (e := false) (by decide) rfl rfl rfl ?_
        refine o_move (v := .b false) (by decide) rfl ?_
        refine o_guardN (j := 47) (e := false) (want := true) (by decide) rfl rfl ?_
        refine o_guardN (j := 47) (e := false) (want := true) (by decide) rfl rfl ?_
        refine o_pickF (v := .b false) (e := false) (by decide) rfl rfl rfl ?_
        refine o_move (v := .b false) (by decide) rfl ?_
        refine o_guardN (j := 51) (e := false) (want := true) (by decide) rfl rfl ?_
        refine o_guardN (j := 51) (e := false) (want := true) (by decide) rfl rfl ?_
        refine o_guardN (j := 51) (e := false) (want := true) (by decide) rfl rfl ?_
        refine o_guardN (j := 51) (e := false) (want := true) (by decide) rfl rfl ?_
        refine o_pickF (v := .b false) (e := false) (by decide) rfl rfl rfl ?_
        refine o_move (v := .b false) (by decide) rfl ?_
        refine o_guardN (j := 57) (e := false) (want := true) (by decide) rfl rfl ?_
        refine o_pickF (v := .b false) (e := false) (by decide) rfl rfl rfl ?_
        refine o_assign (v := .b false) (by decide) rfl ?_
        refine run_nil ?_
        exact w_goto false (.k .nil) ⟨(hS.keep [] rfl).up (by omega), hM⟩
      ·replace hM := ifF hM hb13
       refine o_guardN (j := 10) (e := (r6.2 == 0)) (want := true) (by decide) rfl hb13 ?_
       refine o_guardN (j := 10) (e := (r6.2 == 0)) (want := true) (by decide) rfl hb13 ?_
       refine o_pickF (v := .b false) (e := (r6.2 == 0)) (by decide) rfl hb13 rfl ?_
       refine o_move (v := .b false) (by decide) rfl ?_
       refine o_guardN (j := 14) (e := false) (want := true) (by decide) rfl rfl ?_
       refine o_guardN (j := 14) (e := false) (want := true) (by decide) rfl rfl ?_
       refine o_pickF (v := .b false) (e := false) (by decide) rfl rfl rfl ?_
       refine o_move (v := .b false) (by decide) rfl ?_
       refine o_guardN (j := 18) (e := false) (want := true) (by decide) rfl rfl ?_
       refine o_pickF (v := .b false) (e := false) (by decide) rfl rfl rfl ?_
       refine o_move (v := .b false) (by decide) rfl ?_
       refine o_guardN (j := 21) (e := false) (want := true) (by decide) rfl rfl ?_
       refine o_guardN (j := 21) (e := false) (want := true) (by decide) rfl rfl ?_
       refine o_guardN (j := 21) (e := false) (want := true) (by decide) rfl rfl ?_
       refine o_pickF (v := .b false) (e := false) (by decide) rfl rfl rfl ?_
       refine o_move (v := .b false) (by decide) rfl ?_
       refine o_guardN (j := 26) (e := false) (want := true) (by decide) rfl rfl ?_
       refine o_guardN (j := 26) (e := false) (want := true) (by decide) rfl rfl ?_
       refine o_guardN (j := 26) (e := false) (want := true) (by decide) rfl rfl ?_
       refine o_guardN (j := 26) (e := false) (want := true) (by decide) rfl rfl ?_
       refine o_guardN (j := 26) (e := false) (want := true) (by decide) rfl rfl ?_
       refine o_guardN (j := 26) (e := false) (want := true) (by decide) rfl rfl ?_
       refine o_guardN (j := 26) (e := false) (want := true) (by decide) rfl rfl ?_
       refine o_guardN (j := 26) (e := false) (want := true) (by decide) rfl rfl ?_
       refine o_guardN (j := 26) (e := false) (want := true) (by decide) rfl rfl ?_
       refine o_pickF (v := .b false) (e := false) (by decide) rfl rfl rfl ?_
       refine o_move (v := .b false) (by decide) rfl ?_
       refine o_guardN (j := 37) (e := false) (want := true) (by decide) rfl rfl ?_
       refine o_guardN (j := 37) (e := false) (want := true) (by decide) rfl rfl ?_
       refine o_guardN (j := 37) (e := false) (want := true) (by decide) rfl rfl ?_
       refine o_pickF (v := .b false) (e := false) (by decide) rfl rfl rfl ?_
       refine o_move (v := .b false) (by decide) rfl ?_
       refine o_guardN (j := 42) (e := false) (want := true) (by decide) rfl rfl ?_
       refine o_guardN (j := 42) (e := false) (want := true) (by decide) rfl rfl ?_
       refine o_guardN (j := 42) (e := false) (want := true) (by decide) rfl rfl ?_
       refine o_pickF (v := .b false) (e := false) (by decide) rfl rfl rfl ?_
       refine o_move (v := .b false) (by decide) rfl ?_
       refine o_guardN (j := 47) (e := false) (want := true) (by decide) rfl rfl ?_
       refine o_guardN (j := 47) (e := false) (want := true) (by decide) rfl rfl ?_
       refine o_pickF (v := .b false) (e := false) (by decide) rfl rfl rfl ?_
       refine o_move (v := .b false) (by decide) rfl ?_
       refine o_guardN (j := 51) (e := false) (want := true) (by decide) rfl rfl ?_
       refine o_guardN (j := 51) (e := false) (want := true) (by decide) rfl rfl ?_
       refine o_guardN (j := 51) (e := false) (want := true) (by decide) rfl rfl ?_
       refine o_guardN (j := 51) (e := false) (want := true) (by decide) rfl rfl ?_
       refine o_pickF (v := .b false) (e := false) (by decide) rfl rfl rfl ?_
       refine o_move (v := .b false) (by decide) rfl ?_
       refine o_guardN (j := 57) (e := false) (want := true) (by decide) rfl rfl ?_
       refine o_pickF (v := .b false) (e := false) (by decide) rfl rfl rfl ?_
       refine o_assign (v := .b false) (by decide) rfl ?_
       refine run_nil ?_
       exact w_goto false (.k .nil) ⟨(hS.keep [] rfl).up (by omega), hM⟩
     ·replace hM := ifF hM hb12
      refine o_guardN (j := 6) (e := (r5.2 == 0)) (want := true) (by decide) rfl hb12 ?_
      refine o_guardN (j := 6) (e := (r5.2 == 0)) (want := true) (by decide) rfl hb12 ?_
      refine o_pickF (v := .b false) (e := (r5.2 == 0)) (by decide) rfl hb12 rfl ?_
      refine o_move (v := .b false) (by decide) rfl ?_
      refine o_guardN (j := 10) (e := false) (want := true) (by decide) rfl rfl ?_
      refine o_guardN (j := 10) (e := false) (want := true) (by decide) rfl rfl ?_
      refine o_pickF (v := .b false) (e := false) (by decide) rfl rfl rfl ?_
      refine o_move (v := .b false) (by decide) rfl ?_
      refine o_guardN (j := 14) (e := false) (want := true) (by decide) rfl rfl ?_
      refine o_guardN (j := 14) (e := false) (want := true) (by decide) rfl rfl ?_
      refine o_pickF (v := .b false) (e := false) (by decide) rfl rfl rfl ?_
      refine o_move (v := .b false) (by decide) rfl ?_
      refine o_guardN (j := 18) (e := false) (want := true) (by decide) rfl rfl ?_
      refine o_pickF (v := .b false) (e := false) (by decide) rfl rfl rfl ?_
      refine o_move (v := .b false) (by decide) rfl ?_
      refine o_guardN (j := 21) (e := false) (want := true) (by decide) rfl rfl ?_
      refine o_guardN (j := 21) (e := false) (want := true) (by decide) rfl rfl ?_
      refine o_guardN (j := 21) (e := false) (want := true) (by decide) rfl rfl ?_
      refine o_pickF (v := .b false) (e := false) (by decide) rfl rfl rfl ?_
      refine o_move (v := .b false) (by decide) rfl ?_
      refine o_guardN (j := 26) (e := false) (want := true) (by decide) rfl rfl ?_
      refine o_guardN (j := 26) (e := false) (want := true) (by decide) rfl rfl ?_
      refine o_guardN (j := 26) (e := false) (want := true) (by decide) rfl rfl ?_
      refine o_guardN (j := 26) (e := false) (want := true) (by decide) rfl rfl ?_
      refine o_guardN (j := 26) (e := false) (want := true) (by decide) rfl rfl ?_
      refine o_guardN (j := 26) (e := false) (want := true) (by decide) rfl rfl ?_
      refine o_guardN (j := 26) (e := false) (want := true) (by decide) rfl rfl ?_
      refine o_guardN (j := 26) (e := false) (want := true) (by decide) rfl rfl ?_
      refine o_guardN (j := 26) (e := false) (want := true) (by decide) rfl rfl ?_
      refine o_pickF (v := .b false) (e := false) (by decide) rfl rfl rfl ?_
      refine o_move (v := .b false) (by decide) rfl ?_
      refine o_guardN (j := 37) (e := false) (want := true) (by decide) rfl rfl ?_
      refine o_guardN (j := 37) (e := false) (want := true) (by decide) rfl rfl ?_
      refine o_guardN (j := 37) (e := false) (want := true) (by decide) rfl rfl ?_
      refine o_pickF (v := .b false) (e := false) (by decide) rfl rfl rfl ?_
      refine o_move (v := .b false) (by decide) rfl ?_
      refine o_guardN (j := 42) (e := false) (want := true) (by decide) rfl rfl ?_
      refine o_guardN (j := 42) (e := false) (want := true) (by decide) rfl rfl ?_
      refine o_guardN (j := 42) (e := false) (want := true) (by decide) rfl rfl ?_
      refine o_pickF (v := .b false) (e := false) (by decide) rfl rfl rfl ?_
      refine o_move (v := .b false) (by decide) rfl ?_
      refine o_guardN (j := 47) (e := false) (want := true) (by decide) rfl rfl ?_
      refine o_guardN (j := 47) (e := false) (want := true) (by decide) rfl rfl ?_
      refine o_pickF (v := .b false) (e := false) (by decide) rfl rfl rfl ?_
      refine o_move (v := .b false) (by decide) rfl ?_
      refine o_guardN (j := 51) (e := false) (want := true) (by decide) rfl rfl ?_
      refine o_guardN (j := 51) (e := false) (want := true) (by decide) rfl rfl ?_
      refine o_guardN (j := 51) (e := false) (want := true) (by decide) rfl rfl ?_
      refine o_guardN (j := 51) (e := false) (want := true) (by decide) rfl rfl ?_
      refine o_pickF (v := .b false) (e := false) (by decide) rfl rfl rfl ?_
      refine o_move (v := .b false) (by decide) rfl ?_
      refine o_guardN (j := 57) (e := false) (want := true) (by decide) rfl rfl ?_
      refine o_pickF (v := .b false) (e := false) (by decide) rfl rfl rfl ?_
      refine o_assign (v := .b false) (by decide) rfl ?_
      refine run_nil ?_
      exact w_goto false (.k .nil) ⟨(hS.keep [] rfl).up (by omega), hM⟩
    ·replace hM := ifF hM hb11
     refine o_guardN (j := 2) (e := (r4.2 == 0)) (want := true) (by decide) rfl hb11 ?_
     refine o_guardN (j := 2) (e := (r4.2 == 0)) (want := true) (by decide) rfl hb11 ?_
     refine o_pickF (v := .b false) (e := (r4.2 == 0)) (by decide) rfl hb11 rfl ?_
     refine o_move (v := .b false) (by decide) rfl ?_
     refine o_guardN (j := 6) (e := false) (want := true) (by decide) rfl rfl ?_
     refine o_guardN (j := 6) (e := false) (want := true) (by decide) rfl rfl ?_
     refine o_pickF (v := .b false) (e := false) (by decide) rfl rfl rfl ?_
     refine o_move (v := .b false) (by decide) rfl ?_
     refine o_guardN (j := 10) (e := false) (want := true) (by decide) rfl rfl ?_
     refine o_guardN (j := 10) (e := false) (want := true) (by decide) rfl rfl ?_
     refine o_pickF (v := .b false) (e := false) (by decide) rfl rfl rfl ?_
     refine o_move (v := .b false) (by decide) rfl ?_
     refine o_guardN (j := 14) (e := false) (want := true) (by decide) rfl rfl ?_
     refine o_guardN (j := 14) (e := false) (want := true) (by decide) rfl rfl ?_
     refine o_pickF (v := .b false) (e := false) (by decide) rfl rfl rfl ?_
     refine o_move (v := .b false) (by decide) rfl ?_
     refine o_guardN (j := 18) (e := false) (want := true) (by decide) rfl rfl ?_
     refine o_pickF (v := .b false) (e := false) (by decide) rfl rfl rfl ?_
     refine o_move (v := .b false) (by decide) rfl ?_
     refine o_guardN (j := 21) (e := false) (want := true) (by decide) rfl rfl ?_
     refine o_guardN (j := 21) (e := false) (want := true) (by decide) rfl rfl ?_
     refine o_guardN (j := 21) (e := false) (want := true) (by decide) rfl rfl ?_
     refine o_pickF (v := .b false) (e := false) (by decide) rfl rfl rfl ?_
     refine o_move (v := .b false) (by decide) rfl ?_
     refine o_guardN (j := 26) (e := false) (want := true) (by decide) rfl rfl ?_
     refine o_guardN (j := 26) (e := false) (want := true) (by decide) rfl rfl ?_
     refine o_guardN (j := 26) (e := false) (want := true) (by decide) rfl rfl ?_
     refine o_guardN (j := 26) (e := false) (want := true) (by decide) rfl rfl ?_
     refine o_guardN (j := 26) (e := false) (want := true) (by decide) rfl rfl ?_
     refine o_guardN (j := 26) (e := false) (want := true) (by decide) rfl rfl ?_
     refine o_guardN (j := 26) (e := false) (want := true) (by decide) rfl rfl ?_
     refine o_guardN (j := 26) (e := false) (want := true) (by decide) rfl rfl ?_
     refine o_guardN (j := 26) (e := false) (want := true) (by decide) rfl rfl ?_
     refine o_pickF (v := .b false) (e := false) (by decide) rfl rfl rfl ?_
     refine o_move (v := .b false) (by decide) rfl ?_
     refine o_guardN (j := 37) (e := false) (want := true) (by decide) rfl rfl ?_
     refine o_guardN (j := 37) (e := false) (want := true) (by decide) rfl rfl ?_
     refine o_guardN (j := 37) (e := false) (want := true) (by decide) rfl rfl ?_
     refine o_pickF (v := .b false) (e := false) (by decide) rfl rfl rfl ?_
     refine o_move (v := .b false) (by decide) rfl ?_
     refine o_guardN (j := 42) (e := false) (want := true) (by decide) rfl rfl ?_
     refine o_guardN (j := 42) (e := false) (want := true) (by decide) rfl rfl ?_
     refine o_guardN (j := 42) (e := false) (want := true) (by decide) rfl rfl ?_
     refine o_pickF (v := .b false) (e := false) (by decide) rfl rfl rfl ?_
     refine o_move (v := .b false) (by decide) rfl ?_
     refine o_guardN (j := 47) (e := false) (want := true) (by decide) rfl rfl ?_
     refine o_guardN (j := 47) (e := false) (want := true) (by decide) rfl rfl ?_
     refine o_pickF (v := .b false) (e := false) (by decide) rfl rfl rfl ?_
     refine o_move (v := .b false) (by decide) rfl ?_
     refine o_guardN (j := 51) (e := false) (want := true) (by decide) rfl rfl ?_
     refine o_guardN (j := 51) (e := false) (want := true) (by decide) rfl rfl ?_
     refine o_guardN (j := 51) (e := false) (want := true) (by decide) rfl rfl ?_
     refine o_guardN (j := 51) (e := false) (want := true) (by decide) rfl rfl ?_
     refine o_pickF (v := .b false) (e := false) (by decide) rfl rfl rfl ?_
     refine o_move (v := .b false) (by decide) rfl ?_
     refine o_guardN (j := 57) (e := false) (want := true) (by decide) rfl rfl ?_
     refine o_pickF (v := .b false) (e := false) (by decide) rfl rfl rfl ?_
     refine o_assign (v := .b false) (by decide) rfl ?_
     refine run_nil ?_
     exact w_goto false (.k .nil) ⟨(hS.keep [] rfl).up (by omega), hM⟩
 ·refine r_region (n := 23) rfl ?_
  refine o_loadE (v := .agg (Wire.cells a0)) (by decide) rfl (part_agg ty_agg24 (Nat.le_of_ble_eq_true rfl) rfl) ?_
  obtain ⟨r28, hr28, hM⟩ := bindE hM
  refine o_call (bs := [.agg (Wire.cells a0)]) (by decide) rfl rfl ((W_law11_ready hr28).le (.k .nil)) ?_
  refine o_not (e := r28) (by decide) rfl ?_
  refine o_move (v := .b (!r28)) (by decide) rfl ?_
  rcases Bool.eq_false_or_eq_true (!r28) with hb29 | hb29
  ·replace hM := ifT hM hb29
   refine o_guardN (j := 3) (e := (!r28)) (want := false) (by decide) rfl hb29 ?_
   refine o_guardN (j := 3) (e := (!r28)) (want := false) (by decide) rfl hb29 ?_
   refine o_guardN (j := 3) (e := (!r28)) (want := false) (by decide) rfl hb29 ?_
   refine o_pickT (v := .b true) (e := (!r28)) (by decide) rfl hb29 rfl ?_
   refine o_move (v := .b true) (by decide) rfl ?_
   refine o_guardN (j := 8) (e := true) (want := false) (by decide) rfl rfl ?_
   refine o_guardN (j := 8) (e := true) (want := false) (by decide) rfl rfl ?_
   refine o_guardN (j := 8) (e := true) (want := false) (by decide) rfl rfl ?_
   refine o_guardN (j := 8) (e := true) (want := false) (by decide) rfl rfl ?_
   refine o_pickT (v := .b true) (e := true) (by decide) rfl rfl rfl ?_
   refine o_move (v := .b true) (by decide) rfl ?_
   refine o_guardN (j := 14) (e := true) (want := false) (by decide) rfl rfl ?_
   refine o_guardN (j := 14) (e := true) (want := false) (by decide) rfl rfl ?_
   refine o_guardN (j := 14) (e := true) (want := false) (by decide) rfl rfl ?_
   refine o_guardN (j := 14) (e := true) (want := false) (by decide) rfl rfl ?_
   refine o_guardN (j := 14) (e := true) (want := false) (by decide) rfl rfl ?_
   refine o_guardN (j := 14) (e := true) (want := false) (by decide) rfl rfl ?_
   refine o_guardN (j := 14) (e := true) (want := false) (by decide) rfl rfl ?_
   refine o_pickT (v := .b true) (e := true) (by decide) rfl rfl rfl ?_
   refine run_nil ?_
   exact w_goto true (.k (.k (.k (.k .nil)))) ⟨(hS.keep [] rfl).up (by omega), hM⟩
  ·replace hM := ifF hM hb29
   refine o_guardY (j := 3) (e := (!r28)) (want := false) rfl hb29 ?_
   refine o_move (v := .sl .no 3 (a1.map WireFault.cells)) (by decide) rfl ?_
   refine o_guardY (j := 3) (e := (!r28)) (want := false) rfl hb29 ?_
   refine o_len (n := a1.length) (by decide) rfl (List.length_map _) ty_isl31 ?_
   refine o_guardY (j := 3) (e := (!r28)) (want := false) rfl hb29 ?_
   refine o_int (v := .b (decide ((a1.length : Int) > 40))) (by decide) rfl rfl rfl ?_
   refine o_pickF (v := .b (decide ((a1.length : Int) > 40))) (e := (!r28)) (by decide) rfl hb29 rfl ?_
   refine o_move (v := .b (decide ((a1.length : Int) > 40))) (by decide) rfl ?_
   rcases Bool.eq_false_or_eq_true (decide ((a1.length : Int) > 40)) with hb30 | hb30
   ·replace hM := ifT hM hb30
    refine o_guardN (j := 8) (e := (decide ((a1.length : Int) > 40))) (want := false) (by decide) rfl hb30 ?_
    refine o_guardN (j := 8) (e := (decide ((a1.length : Int) > 40))) (want := false) (by decide) rfl hb30 ?_
    refine o_guardN (j := 8) (e := (decide ((a1.length : Int) > 40))) (want := false) (by decide) rfl hb30 ?_
    refine o_guardN (j := 8) (e := (decide ((a1.length : Int) > 40))) (want := false) (by decide) rfl hb30 ?_
    refine o_pickT (v := .b true) (e := (decide ((a1.length : Int) > 40))) (by decide) rfl hb30 rfl ?_
    refine o_move (v := .b true) (by decide) rfl ?_
    refine o_guardN (j := 14) (e := true) (want := false) (by decide) rfl rfl ?_
    refine o_guardN (j := 14) (e := true) (want := false) (by decide) rfl rfl ?_
    refine o_guardN (j := 14) (e := true) (want := false) (by decide) rfl rfl ?_
    refine o_guardN (j := 14) (e := true) (want := false) (by decide) rfl rfl ?_
    refine o_guardN (j := 14) (e := true) (want := false) (by decide) rfl rfl ?_
    refine o_guardN (j := 14) (e := true) (want := false) (by decide) rfl rfl ?_
    refine o_guardN (j := 14) (e := true) (want := false) (by decide) rfl rfl ?_
    refine o_pickT (v := .b true) (e := true) (by decide) rfl rfl rfl ?_
    refine run_nil ?_
    exact w_goto true (.k (.k (.k (.k .nil)))) ⟨(hS.keep [] rfl).up (by omega), hM⟩
   ·replace hM := ifF hM hb30
    refine o_guardY (j := 8) (e := (decide ((a1.length : Int) > 40))) (want := false) rfl hb30 ?_
    refine o_loadE (v := .agg (Wire.cells a0)) (by decide) rfl (part_agg ty_agg24 (Nat.le_of_ble_eq_true rfl) rfl) ?_
    refine o_guardY (j := 8) (e := (decide ((a1.length : Int) > 40))) (want := false) rfl hb30 ?_
    refine o_move (v := .sl .no 3 (a1.map WireFault.cells)) (by decide) rfl ?_
    refine o_guardY (j := 8) (e := (decide ((a1.length : Int) > 40))) (want := false) rfl hb30 ?_
    obtain ⟨r31, hr31, hM⟩ := bindE hM
    refine o_call (bs := [.agg (Wire.cells a0), .sl .no 3 (a1.map WireFault.cells)]) (by decide) rfl rfl ((W_ref11_IsTruth hr31).le (.k (.k .nil))) ?_
    refine o_guardY (j := 8) (e := (decide ((a1.length : Int) > 40))) (want := false) rfl hb30 ?_
    refine o_not (e := r31) (by decide) rfl ?_
    refine o_pickF (v := .b (!r31)) (e := (decide ((a1.length : Int) > 40))) (by decide) rfl hb30 rfl ?_
    refine o_move (v := .b (!r31)) (by decide) rfl ?_
    rcases Bool.eq_false_or_eq_true (!r31) with hb32 | hb32
    ·replace hM := ifT hM hb32
     refine o_guardN (j := 14) (e := (!r31)) (want := false) (by decide) rfl hb32 ?_
     refine o_guardN (j := 14) (e := (!r31)) (want := false) (by decide) rfl hb32 ?_
     refine o_guardN (j := 14) (e := (!r31)) (want := false) (by decide) rfl hb32 ?_
     refine o_guardN (j := 14) (e := (!r31)) (want := false) (by decide) rfl hb32 ?_
     refine o_guardN (j := 14) (e := (!r31)) (want := false) (by decide) rfl hb32 ?_
     refine o_guardN (j := 14) (e := (!r31)) (want := false) (by decide) rfl hb32 ?_
     refine o_guardN (j := 14) (e := (!r31)) (want := false) (by decide) rfl hb32 ?_
     refine o_pickT (v := .b true) (e := (!r31)) (by decide) rfl hb32 rfl ?_
     refine run_nil ?_
     exact w_goto true (.k (.k (.k (.k .nil)))) ⟨(hS.keep [] rfl).up (by omega), hM⟩
    ·replace hM := ifF hM hb32
     refine o_guardY (j := 14) (e := (!r31)) (want := false) rfl hb32 ?_
     refine o_loadE (v := .agg (Wire.cells a0)) (by decide) rfl (part_agg ty_agg24 (Nat.le_of_ble_eq_true rfl) rfl) ?_
     refine o_guardY (j := 14) (e := (!r31)) (want := false) rfl hb32 ?_
     refine o_fieldE (cs := [.i a2.Letter, .i a2.Number]) (by decide) ty_fo38_0 rfl ?_
     refine o_guardY (j := 14) (e := (!r31)) (want := false) rfl hb32 ?_
     refine o_loadE (v := .i a2.Letter) (by decide) rfl (part_one ty_agg3 ty_sc3 rfl) ?_
     refine o_guardY (j := 14) (e := (!r31)) (want := false) rfl hb32 ?_
     refine o_fieldE (cs := [.i a2.Letter, .i a2.Number]) (by decide) ty_fo38_1 rfl ?_
     refine o_guardY (j := 14) (e := (!r31)) (want := false) rfl hb32 ?_
     refine o_loadE (v := .i a2.Number) (by decide) rfl (part_one ty_agg3 ty_sc3 rfl) ?_
     refine o_guardY (j := 14) (e := (!r31)) (want := false) rfl hb32 ?_
     obtain ⟨r33, hr33, hM⟩ := bindE hM
     refine o_call (bs := [.agg (Wire.cells a0), .i a2.Letter, .i a2.Number]) (by decide) rfl rfl ((W_ref11_IsButton hr33).le (.k (.k (.k .nil)))) ?_
     refine o_guardY (j := 14) (e := (!r31)) (want := false) rfl hb32 ?_
     refine o_not (e := r33) (by decide) rfl ?_
     refine o_pickF (v := .b (!r33)) (e := (!r31)) (by decide) rfl hb32 rfl ?_
     refine run_nil ?_
     exact w_goto (!r33) (.k (.k (.k (.k .nil)))) ⟨(hS.keep [] rfl).up (by omega), hM⟩
end Go.Proofs.Ytneghcnkcfblmaa
