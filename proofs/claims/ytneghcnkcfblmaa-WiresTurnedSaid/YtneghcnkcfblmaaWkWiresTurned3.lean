/-
  The code returns what the functions say (printed by gen.py).
  Conditions: none.
-/
import Derived.Test.YtneghcnkcfblmaaWkWiresTurned2
import Derived.Test.YtneghcnkcfblmaaSh
set_option linter.all false
namespace Go.Proofs.Ytneghcnkcfblmaa
open Go Go.AM Go.Law
set_option linter.unusedVariables false
set_option maxRecDepth 4000
set_option maxHeartbeats 4000000
theorem W_ref11_place {n : Nat} {a0 : List WireFault} {a1 : WireFault} {r : Int} (hM : ref11_place n a0 a1 = some r) : PureSat Try.prog 85 [.sl .no 3 (a0.map WireFault.cells), .agg (WireFault.cells a1)] (.i r) := by
 refine pure_of_wp mixed Try.func85 rfl (by decide) Try.ntmps85 (by simp) ?pure fun H0 g hf => ?_
 case pure => exact .v _
 rw [frame0_of]
 change wpA _ _ _ _ (Fr.of [(0, .sl .no 3 (a0.map WireFault.cells)), (1, .agg (WireFault.cells a1))]) H0 g
 have hS := St.start hf
 refine r_seq ?_
 refine r_region (n := 2) rfl ?_
 refine o_box (v := .agg (WireFault.cells a1)) (cs := (WireFault.cells a1)) hS (by decide) rfl rfl (by omega) fun H hS => ?_
 refine o_assign (v := .i 0) (by decide) rfl ?_
 refine run_nil ?_
 refine w_iceE (L' := []) 0 3 hS rfl rfl rfl fun H hS => ?_
 refine w_next [(0, .sl .no 3 (a0.map WireFault.cells)), (3, .ep (WireFault.cells a1))] (.k (.k .nil)) ?_
 refine w_join (J := Unit) (fun j => []) (fun j H' g' => St (· < g) H0 [] H' g' ∧ ref11_place_j1 = some r) ?_ ?_
 ·rintro _ H g1 ⟨hS, hM⟩
  change wpA _ _ _ _ (Fr.of []) _ _
  replace hS : St (· < g) H0 [] H g1 := hS
  replace hM : ref11_place_j1 = some r := hM
  refine r_seq ?_
  refine r_region (n := 1) rfl ?_
  refine o_assign (v := .i (-1)) (by decide) rfl ?_
  refine run_nil ?_
  refine w_next [(4, .i (-1))] (.k .nil) ?_
  refine r_ret ?_
  refine w_end (x := .i (-1)) (f := fun r => .i r) (.inr rfl) ?_ (.refl _) (Option.some.inj hM) hS
  exact (res_one (res_tmp (x := .i (-1)) rfl))
 ·refine r_seq ?_
  refine r_region (n := 1) rfl ?_
  refine o_assign (v := .i 0) (by decide) rfl ?_
  refine run_nil ?_
  refine w_next [(0, .sl .no 3 (a0.map WireFault.cells)), (3, .ep (WireFault.cells a1)), (5, .i 0)] (.k (.k (.k .nil))) ?_
  refine r_block ?_
  refine w_loop (V := Int) (fun v => [(0, .sl .no 3 (a0.map WireFault.cells)), (3, .ep (WireFault.cells a1)), (5, .i v)]) (fun v m2 H' g' => St (· < g) H0 [] H' g' ∧ ref11_place_l1 a0 a1 m2 v = some r) (n := n) 0 (.k (.k (.k .nil))) ⟨(hS.keep [] rfl).up (by omega), hM⟩ ?_
  rintro v1 m2 H g2 ⟨hS, hM⟩
  obtain _ | m2 := m2
  ·exact nomatch (show none = some _ from hM)
  change wpA _ _ _ _ (Fr.of [(0, .sl .no 3 (a0.map WireFault.cells)), (3, .ep (WireFault.cells a1)), (5, .i v1)]) _ _
  replace hS : St (· < g) H0 [] H g2 := hS
  replace hM : ref11_place_l1_b a0 a1 (ref11_place_l1 a0 a1 m2) v1 = some r := hM
  refine r_seq ?_
  refine r_seq ?_
  refine r_region (n := 4) rfl ?_
  refine o_move (v := .i v1) (by decide) rfl ?_
  refine o_move (v := .sl .no 3 (a0.map WireFault.cells)) (by decide) rfl ?_
  refine o_len (n := a0.length) (by decide) rfl (List.length_map _) ty_isl31 ?_
  refine o_int (v := .b (decide (v1 < (a0.length : Int)))) (by decide) rfl rfl rfl ?_
  refine run_nil ?_
  refine w_next [(0, .sl .no 3 (a0.map WireFault.cells)), (3, .ep (WireFault.cells a1)), (5, .i v1), (9, .b (decide (v1 < (a0.length : Int))))] (.k (.k (.k (.k .nil)))) ?_
  rcases Bool.eq_false_or_eq_true (decide (v1 < (a0.length : Int))) with hb2 | hb2
  ·replace hM := ifT hM hb2
   refine w_condT (e := (decide (v1 < (a0.length : Int)))) rfl hb2 ?_
   refine r_skip ?_
   refine w_next [(0, .sl .no 3 (a0.map WireFault.cells)), (3, .ep (WireFault.cells a1)), (5, .i v1)] (.k (.k (.k .nil))) ?_
   refine r_seq ?_
   refine r_block ?_
   refine r_seq ?_
   have hS0 := hS
   refine r_draw (n := 6) rfl (by kernel_rfl) ?_
   refine o_move (v := .sl .no 3 (a0.map WireFault.cells)) (by decide) rfl ?_
   refine o_move (v := .i v1) (by decide) rfl ?_
   obtain ⟨x3, hx3, hM⟩ := bindE hM
   refine o_index (xs := a0) (f := WireFault.cells) (z := v1) (u := x3) (by decide) rfl rfl ty_es31 hx3 ?_
   refine o_loadE (v := .agg (WireFault.cells x3)) (by decide) rfl (part_agg ty_agg63 (Nat.le_of_ble_eq_true rfl) rfl) ?_
   refine o_loadE (v := .agg (WireFault.cells a1)) (by decide) rfl (part_agg ty_agg63 (Nat.le_of_ble_eq_true rfl) rfl) ?_
   refine o_eqS (cs := (WireFault.cells x3)) (ds := (WireFault.cells a1)) (e := ((x3.Kind == a1.Kind) && ((x3.A == a1.A) && ((x3.B == a1.B) && true)))) (by decide) rfl rfl ty_flat63 rfl ?_
   refine run_nil ?_
   refine w_next [(0, .sl .no 3 (a0.map WireFault.cells)), (3, .ep (WireFault.cells a1)), (5, .i v1), (17, .b ((x3.Kind == a1.Kind) && ((x3.A == a1.A) && ((x3.B == a1.B) && true))))] (.k (.k (.k (.k .nil)))) ?_
   rcases Bool.eq_false_or_eq_true ((x3.Kind == a1.Kind) && ((x3.A == a1.A) && ((x3.B == a1.B) && true))) with hb4 | hb4
   ·replace hM := ifT hM hb4
    refine w_condT (e := ((x3.Kind == a1.Kind) && ((x3.A == a1.A) && ((x3.B == a1.B) && true)))) rfl hb4 ?_
    refine r_seq ?_
    refine r_region (n := 2) rfl ?_
    refine o_move (v := .i v1) (by decide) rfl ?_
    refine o_assign (v := .i v1) (by decide) rfl ?_
    refine run_nil ?_
    refine w_next [(4, .i v1)] (.k .nil) ?_
    refine r_ret ?_
    refine r_blk_ret ?_
    refine r_then_ret ?_
    refine w_round_ret ?_
    refine r_blk_ret ?_
    refine w_goto_ret ?_
    refine w_end (x := .i v1) (f := fun r => .i r) (.inr rfl) ?_ (.refl _) (Option.some.inj hM) hS
    exact (res_one (res_tmp (x := .i v1) rfl))
   ·replace hM := ifF hM hb4
    refine w_condF (e := ((x3.Kind == a1.Kind) && ((x3.A == a1.A) && ((x3.B == a1.B) && true)))) rfl hb4 ?_
    refine r_skip ?_
    refine r_blk_normal ?_
    refine w_next [(0, .sl .no 3 (a0.map WireFault.cells)), (3, .ep (WireFault.cells a1)), (5, .i v1)] (.k (.k (.k .nil))) ?_
    refine r_region (n := 3) rfl ?_
    refine o_move (v := .i v1) (by decide) rfl ?_
    refine o_int (v := .i (w64 (v1 + 1))) (by decide) rfl rfl rfl ?_
    refine o_assign (v := .i (w64 (v1 + 1))) (by decide) rfl ?_
    refine run_nil ?_
    exact w_round (w64 (v1 + 1)) (Nat.lt_succ_self _) (.k (.k (.k .nil))) ⟨(hS.keep [] rfl).up (by omega), hM⟩
  ·replace hM := ifF hM hb2
   refine w_condF (e := (decide (v1 < (a0.length : Int)))) rfl hb2 ?_
   refine r_exit ?_
   refine r_then_exit ?_
   refine w_round_exit ?_
   refine r_blk_exit ?_
   exact w_goto () .nil ⟨(hS.keep [] rfl).up (by omega), hM⟩
theorem W_ref11_Has {n : Nat} {a0 : List WireFault} {a1 : WireFault} {r : Bool} (hM : ref11_Has n a0 a1 = some r) : PureSat Try.prog 61 [.sl .no 3 (a0.map WireFault.cells), .agg (WireFault.cells a1)] (.b r) := by
 refine pure_of_wp mixed Try.func61 rfl (by decide) Try.ntmps61 (by simp) ?pure fun H0 g hf => ?_
 case pure => exact .v _
 rw [frame0_of]
 change wpA _ _ _ _ (Fr.of [(0, .sl .no 3 (a0.map WireFault.cells)), (1, .agg (WireFault.cells a1))]) H0 g
 have hS := St.start hf
 refine r_seq ?_
 refine r_region (n := 2) rfl ?_
 refine o_box (v := .agg (WireFault.cells a1)) (cs := (WireFault.cells a1)) hS (by decide) rfl rfl (by omega) fun H hS => ?_
 refine o_assign (v := .b false) (by decide) rfl ?_
 refine run_nil ?_
 refine w_iceE (L' := []) 0 3 hS rfl rfl rfl fun H hS => ?_
 refine w_next [(0, .sl .no 3 (a0.map WireFault.cells)), (3, .ep (WireFault.cells a1))] (.k (.k .nil)) ?_
 refine r_seq ?_
 refine r_region (n := 5) rfl ?_
 refine o_move (v := .sl .no 3 (a0.map WireFault.cells)) (by decide) rfl ?_
 refine o_loadE (v := .agg (WireFault.cells a1)) (by decide) rfl (part_agg ty_agg63 (Nat.le_of_ble_eq_true rfl) rfl) ?_
 obtain ⟨r1, hr1, hM⟩ := bindE hM
 refine o_call (bs := [.sl .no 3 (a0.map WireFault.cells), .agg (WireFault.cells a1)]) (by decide) rfl rfl ((W_ref11_place hr1).le (.k (.k .nil))) ?_
 refine o_int (v := .b (decide (r1 ≥ 0))) (by decide) rfl rfl rfl ?_
 refine o_assign (v := .b (decide (r1 ≥ 0))) (by decide) rfl ?_
 refine run_nil ?_
 refine w_next [(4, .b (decide (r1 ≥ 0)))] (.k .nil) ?_
 refine r_ret ?_
 refine w_end (x := .b (decide (r1 ≥ 0))) (f := fun r => .b r) (.inr rfl) ?_ (.refl _) (Option.some.inj hM) hS
 exact (res_one (res_tmp (x := .b (decide (r1 ≥ 0))) rfl))
theorem W_wires_Maybe_c1 {a0 : Int} {a1 : Int} {r : Bool} (hM : wires_Maybe_c1 a0 a1 = some r) : PureSat Try.prog 60 [.i a0, .i a1] (.b r) := by
 refine pure_of_wp mixed Try.func60 rfl (by decide) Try.ntmps60 (by simp) ?pure fun H0 g hf => ?_
 case pure => exact .v _
 rw [frame0_of]
 change wpA _ _ _ _ (Fr.of [(0, .i a0), (1, .i a1)]) H0 g
 have hS := St.start hf
 refine r_seq ?_
 refine r_region (n := 1) rfl ?_
 refine o_assign (v := .b false) (by decide) rfl ?_
 refine run_nil ?_
 refine w_next [(0, .i a0)] (.k .nil) ?_
 refine r_seq ?_
 refine r_region (n := 3) rfl ?_
 refine o_move (v := .i a0) (by decide) rfl ?_
 refine o_int (v := .b (decide (a0 > 0))) (by decide) rfl rfl rfl ?_
 refine o_assign (v := .b (decide (a0 > 0))) (by decide) rfl ?_
 refine run_nil ?_
 refine w_next [(4, .b (decide (a0 > 0)))] (.k .nil) ?_
 refine r_ret ?_
 refine w_end (x := .b (decide (a0 > 0))) (f := fun r => .b r) (.inr rfl) ?_ (.refl _) (Option.some.inj hM) hS
 exact (res_one (res_tmp (x := .b (decide (a0 > 0))) rfl))
theorem W_wires_Maybe {n : Nat} {a0 : Wire} {r : (List WireFault) × Int} (hM : wires_Maybe n a0 = some r) : PureSat Try.prog 21 [.agg (Wire.cells a0)] (.tup [.sl .no 3 (r.1.map WireFault.cells), .i r.2]) := by
 refine pure_of_wp mixed Try.func21 rfl (by decide) Try.ntmps21 (by simp) ?pure fun H0 g hf => ?_
 case pure => exact .tup _ (pl_cons (.sl _ _ (pures_map (fun x => (pl_cons (.v _) (pl_cons (.v _) (pl_cons (.v _) pl_nil)))))) (pl_cons (.v _) pl_nil))
 rw [frame0_of]
 change wpA _ _ _ _ (Fr.of [(0, .agg (Wire.cells a0))]) H0 g
 have hS := St.start hf
 refine r_seq ?_
 refine r_region (n := 3) rfl ?_
 refine o_box (v := .agg (Wire.cells a0)) (cs := (Wire.cells a0)) hS (by decide) rfl rfl (by omega) fun H hS => ?_
 refine o_assign (v := .sl .nil 0 []) (by decide) rfl ?_
 refine o_assign (v := .i 0) (by decide) rfl ?_
 refine run_nil ?_
 refine w_iceE (L' := []) 0 1 hS rfl rfl rfl fun H hS => ?_
 refine w_next [(1, .ep (Wire.cells a0))] (.k .nil) ?_
 refine r_seq ?_
 refine r_region (n := 6) rfl ?_
 refine o_loadE (v := .agg (Wire.cells a0)) (by decide) rfl (part_agg ty_agg24 (Nat.le_of_ble_eq_true rfl) rfl) ?_
 obtain ⟨r1, hr1, hM⟩ := bindE hM
 refine o_call (bs := [.agg (Wire.cells a0), .fn (.func 60) [] []]) (by decide) rfl rfl (pure_of_hsat ((W_wires_faults (Lo := (fun (_ : Unit) => []))  (fun _ _ => kl_nil) (fun _ => List.nodup_nil) (fun _ => inb_nil) (aF := (fun (x0 : Int) (x1 : Int) (_ : Unit) => (wires_Maybe_c1 x0 x1).map fun y => (y, ()))) (fun _ H hH => (.fn _ _ _ ai_nil ai_nil)) rfl (fun h => csat_val (W_wires_Maybe_c1 (pure_some h))) hr1).le (.k (.k .nil)))) ?_
 refine o_extract (v := .sl .no 3 (r1.1.1.map WireFault.cells)) (by decide) rfl rfl ?_
 refine o_extract (v := .i r1.1.2) (by decide) rfl rfl ?_
 refine o_assign (v := .sl .no 3 (r1.1.1.map WireFault.cells)) (by decide) rfl ?_
 refine o_assign (v := .i r1.1.2) (by decide) rfl ?_
 refine run_nil ?_
 refine w_next [(2, .sl .no 3 (r1.1.1.map WireFault.cells)), (3, .i r1.1.2)] (.k (.k .nil)) ?_
 refine r_ret ?_
 refine w_end (x := .tup [.sl .no 3 (r1.1.1.map WireFault.cells), .i r1.1.2]) (f := fun r => .tup [.sl .no 3 (r.1.map WireFault.cells), .i r.2]) (.inr rfl) ?_ (.refl _) (Option.some.inj hM) hS
 exact (res_two (res_tmp (x := .sl .no 3 (r1.1.1.map WireFault.cells)) rfl) (res_tmp (x := .i r1.1.2) rfl))
theorem W_law11_ready {n : Nat} {a0 : Wire} {r : Bool} (hM : law11_ready n a0 = some r) : PureSat Try.prog 25 [.agg (Wire.cells a0)] (.b r) := by
 refine pure_of_wp mixed Try.func25 rfl (by decide) Try.ntmps25 (by simp) ?pure fun H0 g hf => ?_
 case pure => exact .v _
 rw [frame0_of]
 change wpA _ _ _ _ (Fr.of [(0, .agg (Wire.cells a0))]) H0 g
 have hS := St.start hf
 refine r_seq ?_
 refine r_region (n := 2) rfl ?_
 refine o_box (v := .agg (Wire.cells a0)) (cs := (Wire.cells a0)) hS (by decide) rfl rfl (by omega) fun H hS => ?_
 refine o_assign (v := .b false) (by decide) rfl ?_
 refine run_nil ?_
 refine w_iceE (L' := []) 0 1 hS rfl rfl rfl fun H hS => ?_
 refine w_next [(1, .ep (Wire.cells a0))] (.k .nil) ?_
 refine w_join (J := Bool) (fun j => [(2, .b j)]) (fun j H' g' => St (· < g) H0 [] H' g' ∧ law11_ready_j1 j = some r) ?_ ?_
 ·rintro v1 H g1 ⟨hS, hM⟩
  change wpA _ _ _ _ (Fr.of [(2, .b v1)]) _ _
  replace hS : St (· < g) H0 [] H g1 := hS
  replace hM : law11_ready_j1 v1 = some r := hM
  refine r_ret ?_
  refine w_end (x := .b v1) (f := fun r => .b r) (.inr rfl) ?_ (.refl _) (Option.some.inj hM) hS
  exact (res_one (res_tmp (x := .b v1) rfl))
 ·refine r_region (n := 9) rfl ?_
  refine o_loadE (v := .agg (Wire.cells a0)) (by decide) rfl (part_agg ty_agg24 (Nat.le_of_ble_eq_true rfl) rfl) ?_
  obtain ⟨r2, hr2, hM⟩ := bindE hM
  refine o_call (bs := [.agg (Wire.cells a0)]) (by decide) rfl rfl ((W_law11_Far hr2).le (.k .nil)) ?_
  refine o_not (e := r2) (by decide) rfl ?_
  refine o_move (v := .b (!r2)) (by decide) rfl ?_
  rcases Bool.eq_false_or_eq_true (!r2) with hb3 | hb3
  ·replace hM := ifT hM hb3
   refine o_guardY (j := 3) (e := (!r2)) (want := true) rfl hb3 ?_
   refine o_loadE (v := .agg (Wire.cells a0)) (by decide) rfl (part_agg ty_agg24 (Nat.le_of_ble_eq_true rfl) rfl) ?_
   refine o_guardY (j := 3) (e := (!r2)) (want := true) rfl hb3 ?_
   obtain ⟨r4, hr4, hM⟩ := bindE hM
   refine o_call (bs := [.agg (Wire.cells a0)]) (by decide) rfl rfl ((W_ref11_Check hr4).le (.k .nil)) ?_
   refine o_guardY (j := 3) (e := (!r2)) (want := true) rfl hb3 ?_
   refine o_int (v := .b (r4 == 0)) (by decide) rfl rfl rfl ?_
   refine o_pickT (v := .b (r4 == 0)) (e := (!r2)) (by decide) rfl hb3 rfl ?_
   refine o_assign (v := .b (r4 == 0)) (by decide) rfl ?_
   refine run_nil ?_
   exact w_goto (r4 == 0) (.k .nil) ⟨(hS.keep [] rfl).up (by omega), hM⟩
  ·replace hM := ifF hM hb3
   refine o_guardN (j := 3) (e := (!r2)) (want := true) (by decide) rfl hb3 ?_
   refine o_guardN (j := 3) (e := (!r2)) (want := true) (by decide) rfl hb3 ?_
   refine o_guardN (j := 3) (e := (!r2)) (want := true) (by decide) rfl hb3 ?_
   refine o_pickF (v := .b false) (e := (!r2)) (by decide) rfl hb3 rfl ?_
   refine o_assign (v := .b false) (by decide) rfl ?_
   refine run_nil ?_
   exact w_goto false (.k .nil) ⟨(hS.keep [] rfl).up (by omega), hM⟩
theorem W_law11_areIn {n : Nat} {a0 : List WireFault} {a1 : List WireFault} {r : Bool} (hM : law11_areIn n a0 a1 = some r) : PureSat Try.prog 27 [.sl .no 3 (a0.map WireFault.cells), .sl .no 3 (a1.map WireFault.cells)] (.b r) := by
 refine pure_of_wp mixed Try.func27 rfl (by decide) Try.ntmps27 (by simp) ?pure fun H0 g hf => ?_
 case pure => exact .v _
 rw [frame0_of]
 change wpA _ _ _ _ (Fr.of [(0, .sl .no 3 (a0.map WireFault.cells)), (1, .sl .no 3 (a1.map WireFault.cells))]) H0 g
 have hS := St.start hf
 refine r_seq ?_
 refine r_region (n := 1) rfl ?_
 refine o_assign (v := .b false) (by decide) rfl ?_
 refine run_nil ?_
 refine w_next [(0, .sl .no 3 (a0.map WireFault.cells)), (1, .sl .no 3 (a1.map WireFault.cells))] (.k (.k .nil)) ?_
 refine r_seq ?_
 refine w_join (J := Bool) (fun j => [(0, .sl .no 3 (a0.map WireFault.cells)), (1, .sl .no 3 (a1.map WireFault.cells)), (13, .b j)]) (fun j H' g' => St (· < g) H0 [] H' g' ∧ law11_areIn_j1 n a0 a1 j = some r) ?_ ?_
 ·rintro v1 H g1 ⟨hS, hM⟩
  change wpA _ _ _ _ (Fr.of [(0, .sl .no 3 (a0.map WireFault.cells)), (1, .sl .no 3 (a1.map WireFault.cells)), (13, .b v1)]) _ _
  replace hS : St (· < g) H0 [] H g1 := hS
  replace hM : law11_areIn_j1 n a0 a1 v1 = some r := hM
  rcases Bool.eq_false_or_eq_true v1 with hb2 | hb2
  ·replace hM := ifT hM hb2
   refine w_condT (e := v1) rfl hb2 ?_
   refine r_seq ?_
   refine r_region (n := 1) rfl ?_
   refine o_assign (v := .b false) (by decide) rfl ?_
   refine run_nil ?_
   refine w_next [(4, .b false)] (.k .nil) ?_
   refine r_ret ?_
   refine r_then_ret ?_
   refine w_end (x := .b false) (f := fun r => .b r) (.inr rfl) ?_ (.refl _) (Option.some.inj hM) hS
   exact (res_one (res_tmp (x := .b false) rfl))
  ·replace hM := ifF hM hb2
   refine w_condF (e := v1) rfl hb2 ?_
   refine r_skip ?_
   refine w_next [(0, .sl .no 3 (a0.map WireFault.cells)), (1, .sl .no 3 (a1.map WireFault.cells))] (.k (.k .nil)) ?_
   refine w_join (J := Unit) (fun j => []) (fun j H' g' => St (· < g) H0 [] H' g' ∧ law11_areIn_j2 = some r) ?_ ?_
   ·rintro _ H g2 ⟨hS, hM⟩
    change wpA _ _ _ _ (Fr.of []) _ _
    replace hS : St (· < g) H0 [] H g2 := hS
    replace hM : law11_areIn_j2 = some r := hM
    refine r_seq ?_
    refine r_region (n := 1) rfl ?_
    refine o_assign (v := .b true) (by decide) rfl ?_
    refine run_nil ?_
    refine w_next [(4, .b true)] (.k .nil) ?_
    refine r_ret ?_
    refine w_end (x := .b true) (f := fun r => .b r) (.inr rfl) ?_ (.refl _) (Option.some.inj hM) hS
    exact (res_one (res_tmp (x := .b true) rfl))
   ·refine r_seq ?_
    refine r_region (n := 1) rfl ?_
    refine o_assign (v := .i 0) (by decide) rfl ?_
    refine run_nil ?_
    refine w_next [(0, .sl .no 3 (a0.map WireFault.cells)), (1, .sl .no 3 (a1.map WireFault.cells)), (5, .i 0)] (.k (.k (.k .nil))) ?_
    refine r_block ?_
    refine w_loop (V := Int) (fun v => [(0, .sl .no 3 (a0.map WireFault.cells)), (1, .sl .no 3 (a1.map WireFault.cells)), (5, .i v)]) (fun v m3 H' g' => St (· < g) H0 [] H' g' ∧ law11_areIn_l1 n a0 a1 m3 v = some r) (n := n) 0 (.k (.k (.k .nil))) ⟨(hS.keep [] rfl).up (by omega), hM⟩ ?_
    rintro v3 m3 H g3 ⟨hS, hM⟩
    obtain _ | m3 := m3
    ·exact nomatch (show none = some _ from hM)
    change wpA _ _ _ _ (Fr.of [(0, .sl .no 3 (a0.map WireFault.cells)), (1, .sl .no 3 (a1.map WireFault.cells)), (5, .i v3)]) _ _
    replace hS : St (· < g) H0 [] H g3 := hS
    replace hM : law11_areIn_l1_b n a0 a1 (law11_areIn_l1 n a0 a1 m3) v3 = some r := hM
    refine r_seq ?_
    refine r_seq ?_
    refine r_region (n := 4) rfl ?_
    refine o_move (v := .i v3) (by decide) rfl ?_
    refine o_move (v := .sl .no 3 (a0.map WireFault.cells)) (by decide) rfl ?_
    refine o_len (n := a0.length) (by decide) rfl (List.length_map _) ty_isl31 ?_
    refine o_int (v := .b (decide (v3 < (a0.length : Int)))) (by decide) rfl rfl rfl ?_
    refine run_nil ?_
    refine w_next [(0, .sl .no 3 (a0.map WireFault.cells)), (1, .sl .no 3 (a1.map WireFault.cells)), (5, .i v3), (17, .b (decide (v3 < (a0.length : Int))))] (.k (.k (.k (.k .nil)))) ?_
    rcases Bool.eq_false_or_eq_true (decide (v3 < (a0.length : Int))) with hb4 | hb4
    ·replace hM := ifT hM hb4
     refine w_condT (e := (decide (v3 < (a0.length : Int)))) rfl hb4 ?_
     refine r_skip ?_
     refine w_next [(0, .sl .no 3 (a0.map WireFault.cells)), (1, .sl .no 3 (a1.map WireFault.cells)), (5, .i v3)] (.k (.k (.k .nil))) ?_
     refine r_seq ?_
     refine r_block ?_
     refine r_seq ?_
     refine r_region (n := 7) rfl ?_
     refine o_move (v := .sl .no 3 (a1.map WireFault.cells)) (by decide) rfl ?_
     refine o_move (v := .sl .no 3 (a0.map WireFault.cells)) (by decide) rfl ?_
     refine o_move (v := .i v3) (by decide) rfl ?_
     obtain ⟨x5, hx5, hM⟩ := bindE hM
     refine o_index (xs := a0) (f := WireFault.cells) (z := v3) (u := x5) (by decide) rfl rfl ty_es31 hx5 ?_
     refine o_loadE (v := .agg (WireFault.cells x5)) (by decide) rfl (part_agg ty_agg63 (Nat.le_of_ble_eq_true rfl) rfl) ?_
     obtain ⟨r6, hr6, hM⟩ := bindE hM
     refine o_call (bs := [.sl .no 3 (a1.map WireFault.cells), .agg (WireFault.cells x5)]) (by decide) rfl rfl ((W_ref11_Has hr6).le (.k (.k .nil))) ?_
     refine o_not (e := r6) (by decide) rfl ?_
     refine run_nil ?_
     refine w_next [(0, .sl .no 3 (a0.map WireFault.cells)), (1, .sl .no 3 (a1.map WireFault.cells)), (5, .i v3), (26, .b (!r6))] (.k (.k (.k (.k .nil)))) ?_
     rcases Bool.eq_false_or_eq_true (!r6) with hb7 | hb7
     ·replace hM := ifT hM hb7
      refine w_condT (e := (!r6)) rfl hb7 ?_
      refine r_seq ?_
      refine r_region (n := 1) rfl ?_
      refine o_assign (v := .b false) (by decide) rfl ?_
      refine run_nil ?_
      refine w_next [(4, .b false)] (.k .nil) ?_
      refine r_ret ?_
      refine r_blk_ret ?_
      refine r_then_ret ?_
      refine w_round_ret ?_
      refine r_blk_ret ?_
      refine w_goto_ret ?_
      refine w_end (x := .b false) (f := fun r => .b r) (.inr rfl) ?_ (.refl _) (Option.some.inj hM) hS
      exact (res_one (res_tmp (x := .b false) rfl))
     ·replace hM := ifF hM hb7
      refine w_condF (e := (!r6)) rfl hb7 ?_
      refine r_skip ?_
      refine r_blk_normal ?_
      refine w_next [(0, .sl .no 3 (a0.map WireFault.cells)), (1, .sl .no 3 (a1.map WireFault.cells)), (5, .i v3)] (.k (.k (.k .nil))) ?_
      refine r_region (n := 3) rfl ?_
      refine o_move (v := .i v3) (by decide) rfl ?_
      refine o_int (v := .i (w64 (v3 + 1))) (by decide) rfl rfl rfl ?_
      refine o_assign (v := .i (w64 (v3 + 1))) (by decide) rfl ?_
      refine run_nil ?_
      exact w_round (w64 (v3 + 1)) (Nat.lt_succ_self _) (.k (.k (.k .nil))) ⟨(hS.keep [] rfl).up (by omega), hM⟩
    ·replace hM := ifF hM hb4
     refine w_condF (e := (decide (v3 < (a0.length : Int)))) rfl hb4 ?_
     refine r_exit ?_
     refine r_then_exit ?_
     refine w_round_exit ?_
     refine r_blk_exit ?_
     exact w_goto () .nil ⟨(hS.keep [] rfl).up (by omega), hM⟩
 ·refine r_region (n := 8) rfl ?_
  refine o_move (v := .sl .no 3 (a0.map WireFault.cells)) (by decide) rfl ?_
  refine o_len (n := a0.length) (by decide) rfl (List.length_map _) ty_isl31 ?_
  refine o_int (v := .b (decide ((a0.length : Int) > 40))) (by decide) rfl rfl rfl ?_
  refine o_move (v := .b (decide ((a0.length : Int) > 40))) (by decide) rfl ?_
  rcases Bool.eq_false_or_eq_true (decide ((a0.length : Int) > 40)) with hb8 | hb8
  ·replace hM := ifT hM hb8
   refine o_guardN (j := 3) (e := (decide ((a0.length : Int) > 40))) (want := false) (by decide) rfl hb8 ?_
   refine o_guardN (j := 3) (e := (decide ((a0.length : Int) > 40))) (want := false) (by decide) rfl hb8 ?_
   refine o_guardN (j := 3) (e := (decide ((a0.length : Int) > 40))) (want := false) (by decide) rfl hb8 ?_
   refine o_pickT (v := .b true) (e := (decide ((a0.length : Int) > 40))) (by decide) rfl hb8 rfl ?_
   refine run_nil ?_
   exact w_goto true (.k (.k (.k .nil))) ⟨(hS.keep [] rfl).up (by omega), hM⟩
  ·replace hM := ifF hM hb8
   refine o_guardY (j := 3) (e := (decide ((a0.length : Int) > 40))) (want := false) rfl hb8 ?_
   refine o_move (v := .sl .no 3 (a1.map WireFault.cells)) (by decide) rfl ?_
   refine o_guardY (j := 3) (e := (decide ((a0.length : Int) > 40))) (want := false) rfl hb8 ?_
   refine o_len (n := a1.length) (by decide) rfl (List.length_map _) ty_isl31 ?_
   refine o_guardY (j := 3) (e := (decide ((a0.length : Int) > 40))) (want := false) rfl hb8 ?_
   refine o_int (v := .b (decide ((a1.length : Int) > 40))) (by decide) rfl rfl rfl ?_
   refine o_pickF (v := .b (decide ((a1.length : Int) > 40))) (e := (decide ((a0.length : Int) > 40))) (by decide) rfl hb8 rfl ?_
   refine run_nil ?_
   exact w_goto (decide ((a1.length : Int) > 40)) (.k (.k (.k .nil))) ⟨(hS.keep [] rfl).up (by omega), hM⟩
theorem W_wires_Left {n : Nat} {a0 : Wire} {a1 : Int} {a2 : Int} {r : Int × Int} (hM : wires_Left n a0 a1 a2 = some r) : PureSat Try.prog 30 [.agg (Wire.cells a0), .i a1, .i a2] (.tup [.i r.1, .i r.2]) := by
 refine pure_of_wp mixed Try.func30 rfl (by decide) Try.ntmps30 (by simp) ?pure fun H0 g hf => ?_
 case pure => exact .tup _ (pl_cons (.v _) (pl_cons (.v _) pl_nil))
 rw [frame0_of]
 change wpA _ _ _ _ (Fr.of [(0, .agg (Wire.cells a0)), (1, .i a1), (2, .i a2)]) H0 g
 have hS := St.start hf
 refine r_seq ?_
 refine r_region (n := 3) rfl ?_
 refine o_box (v := .agg (Wire.cells a0)) (cs := (Wire.cells a0)) hS (by decide) rfl rfl (by omega) fun H hS => ?_
 refine o_assign (v := .i 0) (by decide) rfl ?_
 refine o_assign (v := .i 0) (by decide) rfl ?_
 refine run_nil ?_
 refine w_iceE (L' := []) 0 3 hS rfl rfl rfl fun H hS => ?_
 refine w_next [(1, .i a1), (2, .i a2), (3, .ep (Wire.cells a0))] (.k (.k (.k .nil))) ?_
 refine r_seq ?_
 have hS0 := hS
 refine r_draw (n := 11) rfl (by kernel_rfl) ?_
 refine o_loadE (v := .agg (Wire.cells a0)) (by decide) rfl (part_agg ty_agg24 (Nat.le_of_ble_eq_true rfl) rfl) ?_
 refine o_loadE (v := .agg (Wire.cells a0)) (by decide) rfl (part_agg ty_agg24 (Nat.le_of_ble_eq_true rfl) rfl) ?_
 refine o_move (v := .i a1) (by decide) rfl ?_
 refine o_move (v := .i a2) (by decide) rfl ?_
 obtain ⟨r1, hr1, hM⟩ := bindE hM
 refine o_call (bs := [.agg (Wire.cells a0), .i a1, .i a2]) (by decide) rfl rfl ((W_wires_isPress hr1).le (.k (.k (.k .nil)))) ?_
 obtain ⟨r2, hr2, hM⟩ := bindE hM
 refine o_call (bs := [.agg (Wire.cells a0), .b r1]) (by decide) rfl rfl ((W_wires_ask hr2).le (.k (.k .nil))) ?_
 refine o_move (v := .tup [pA Wiring_.cells r2.1, .i r2.2]) (by decide) rfl ?_
 refine o_extract (v := pA Wiring_.cells r2.1) (by decide) rfl rfl ?_
 refine o_extract (v := .i r2.2) (by decide) rfl rfl ?_
 refine o_assign (v := pA Wiring_.cells r2.1) (by decide) rfl ?_
 refine o_assign (v := .i r2.2) (by decide) rfl ?_
 refine run_nil ?_
 refine w_next [(1, .i a1), (2, .i a2), (8, pA Wiring_.cells r2.1), (9, .i r2.2)] (.k (.k (.k (.k .nil)))) ?_
 refine r_seq ?_
 refine r_seq ?_
 refine r_region (n := 2) rfl ?_
 refine o_move (v := .i r2.2) (by decide) rfl ?_
 refine o_int (v := .b (r2.2 != 0)) (by decide) rfl rfl rfl ?_
 refine run_nil ?_
 refine w_next [(1, .i a1), (2, .i a2), (8, pA Wiring_.cells r2.1), (9, .i r2.2), (20, .b (r2.2 != 0))] (.k (.k (.k (.k (.k .nil))))) ?_
 rcases Bool.eq_false_or_eq_true (r2.2 != 0) with hb3 | hb3
 ·replace hM := ifT hM hb3
  refine w_condT (e := (r2.2 != 0)) rfl hb3 ?_
  refine r_seq ?_
  refine r_region (n := 3) rfl ?_
  refine o_move (v := .i r2.2) (by decide) rfl ?_
  refine o_assign (v := .i 0) (by decide) rfl ?_
  refine o_assign (v := .i r2.2) (by decide) rfl ?_
  refine run_nil ?_
  refine w_next [(6, .i 0), (7, .i r2.2)] (.k (.k .nil)) ?_
  refine r_ret ?_
  refine r_then_ret ?_
  refine w_end (x := .tup [.i 0, .i r2.2]) (f := fun r => .tup [.i r.1, .i r.2]) (.inr rfl) ?_ (.refl _) (Option.some.inj hM) hS
  exact (res_two (res_tmp (x := .i 0) rfl) (res_tmp (x := .i r2.2) rfl))
 ·replace hM := ifF hM hb3
  refine w_condF (e := (r2.2 != 0)) rfl hb3 ?_
  refine r_skip ?_
  refine w_next [(1, .i a1), (2, .i a2), (8, pA Wiring_.cells r2.1)] (.k (.k (.k .nil))) ?_
  refine r_seq ?_
  refine r_region (n := 6) rfl ?_
  refine o_move (v := pA Wiring_.cells r2.1) (by decide) rfl ?_
  refine o_move (v := .i a1) (by decide) rfl ?_
  refine o_move (v := .i a2) (by decide) rfl ?_
  obtain ⟨r4, hr4, hM⟩ := bindE hM
  refine o_call (bs := [pA Wiring_.cells r2.1, .i a1, .i a2]) (by decide) rfl rfl ((W_wires_wiring_left hr4).le (.k (.k (.k .nil)))) ?_
  refine o_assign (v := .i r4) (by decide) rfl ?_
  refine o_assign (v := .i 0) (by decide) rfl ?_
  refine run_nil ?_
  refine w_next [(6, .i r4), (7, .i 0)] (.k (.k .nil)) ?_
  refine r_ret ?_
  refine w_end (x := .tup [.i r4, .i 0]) (f := fun r => .tup [.i r.1, .i r.2]) (.inr rfl) ?_ (.refl _) (Option.some.inj hM) hS
  exact (res_two (res_tmp (x := .i r4) rfl) (res_tmp (x := .i 0) rfl))
theorem W_wires_First {n : Nat} {a0 : Wire} {r : Int × Int} (hM : wires_First n a0 = some r) : PureSat Try.prog 44 [.agg (Wire.cells a0)] (.tup [.i r.1, .i r.2]) := by
 refine pure_of_wp mixed Try.func44 rfl (by decide) Try.ntmps44 (by simp) ?pure fun H0 g hf => ?_
 case pure => exact .tup _ (pl_cons (.v _) (pl_cons (.v _) pl_nil))
 rw [frame0_of]
 change wpA _ _ _ _ (Fr.of [(0, .agg (Wire.cells a0))]) H0 g
 have hS := St.start hf
 refine r_seq ?_
 refine r_region (n := 3) rfl ?_
 refine o_box (v := .agg (Wire.cells a0)) (cs := (Wire.cells a0)) hS (by decide) rfl rfl (by omega) fun H hS => ?_
 refine o_assign (v := .i 0) (by decide) rfl ?_
 refine o_assign (v := .i 0) (by decide) rfl ?_
 refine run_nil ?_
 refine w_iceE (L' := []) 0 1 hS rfl rfl rfl fun H hS => ?_
 refine w_next [(1, .ep (Wire.cells a0))] (.k .nil) ?_
 refine r_scope ?_
 refine r_seq ?_
 refine r_seq ?_
 refine r_region (n := 3) rfl ?_
 refine o_loadE (v := .agg (Wire.cells a0)) (by decide) rfl (part_agg ty_agg24 (Nat.le_of_ble_eq_true rfl) rfl) ?_
 obtain ⟨r1, hr1, hM⟩ := bindE hM
 refine o_call (bs := [.agg (Wire.cells a0)]) (by decide) rfl rfl ((W_wires_Check hr1).le (.k .nil)) ?_
 refine o_assign (v := .i r1) (by decide) rfl ?_
 refine run_nil ?_
 refine w_next [(1, .ep (Wire.cells a0)), (4, .i r1)] (.k (.k .nil)) ?_
 refine r_seq ?_
 refine r_region (n := 2) rfl ?_
 refine o_move (v := .i r1) (by decide) rfl ?_
 refine o_int (v := .b (r1 != 0)) (by decide) rfl rfl rfl ?_
 refine run_nil ?_
 refine w_next [(1, .ep (Wire.cells a0)), (4, .i r1), (10, .b (r1 != 0))] (.k (.k (.k .nil))) ?_
 rcases Bool.eq_false_or_eq_true (r1 != 0) with hb2 | hb2
 ·replace hM := ifT hM hb2
  refine w_condT (e := (r1 != 0)) rfl hb2 ?_
  refine r_seq ?_
  refine r_region (n := 3) rfl ?_
  refine o_move (v := .i r1) (by decide) rfl ?_
  refine o_assign (v := .i 0) (by decide) rfl ?_
  refine o_assign (v := .i r1) (by decide) rfl ?_
  refine run_nil ?_
  refine w_next [(2, .i 0), (3, .i r1)] (.k (.k .nil)) ?_
  refine r_ret ?_
  refine r_then_ret ?_
  refine r_scp_ret ?_
  refine w_end (x := .tup [.i 0, .i r1]) (f := fun r => .tup [.i r.1, .i r.2]) (.inr rfl) ?_ (.refl _) (Option.some.inj hM) hS
  exact (res_two (res_tmp (x := .i 0) rfl) (res_tmp (x := .i r1) rfl))
 ·replace hM := ifF hM hb2
  refine w_condF (e := (r1 != 0)) rfl hb2 ?_
  refine r_skip ?_
  refine w_next [(1, .ep (Wire.cells a0))] (.k .nil) ?_
  refine r_seq ?_
  refine r_region (n := 3) rfl ?_
  refine o_loadE (v := .agg (Wire.cells a0)) (by decide) rfl (part_agg ty_agg24 (Nat.le_of_ble_eq_true rfl) rfl) ?_
  obtain ⟨r3, hr3, hM⟩ := bindE hM
  refine o_call (bs := [.agg (Wire.cells a0)]) (by decide) rfl rfl ((W_wires_open hr3).le (.k .nil)) ?_
  refine o_assign (v := pA Wiring_.cells r3) (by decide) rfl ?_
  refine run_nil ?_
  refine w_next [(1, .ep (Wire.cells a0)), (5, pA Wiring_.cells r3)] (.k (.k .nil)) ?_
  refine r_seq ?_
  refine r_label ?_
  refine w_next [(1, .ep (Wire.cells a0)), (5, pA Wiring_.cells r3)] (.k (.k .nil)) ?_
  refine w_join (J := Unit) (fun j => []) (fun j H' g' => St (· < g) H0 [] H' g' ∧ wires_First_j1 = some r) ?_ ?_
  ·rintro _ H g1 ⟨hS, hM⟩
   change wpA _ _ _ _ (Fr.of []) _ _
   replace hS : St (· < g) H0 [] H g1 := hS
   replace hM : wires_First_j1 = some r := hM
   refine r_seq ?_
   refine r_region (n := 2) rfl ?_
   refine o_assign (v := .i 0) (by decide) rfl ?_
   refine o_assign (v := .i 3) (by decide) rfl ?_
   refine run_nil ?_
   refine w_next [(2, .i 0), (3, .i 3)] (.k (.k .nil)) ?_
   refine r_ret ?_
   refine r_scp_ret ?_
   refine w_end (x := .tup [.i 0, .i 3]) (f := fun r => .tup [.i r.1, .i r.2]) (.inr rfl) ?_ (.refl _) (Option.some.inj hM) hS
   exact (res_two (res_tmp (x := .i 0) rfl) (res_tmp (x := .i 3) rfl))
  ·refine r_seq ?_
   refine r_region (n := 4) rfl ?_
   refine o_fieldE (cs := (Wire.cells a0)) (by decide) ty_fo24_2 rfl ?_
   refine o_loadE (v := .sl .no 3 (a0.Presses.map WirePress.cells)) (by decide) rfl (part_one ty_agg22 ty_sc22 rfl) ?_
   refine o_len (n := a0.Presses.length) (by decide) rfl (List.length_map _) ty_isl22 ?_
   refine o_move (v := .i 0) (by decide) rfl ?_
   refine run_nil ?_
   refine w_next [(1, .ep (Wire.cells a0)), (5, pA Wiring_.cells r3), (16, .i (a0.Presses.length : Int)), (17, .i 0)] (.k (.k (.k (.k .nil)))) ?_
   refine r_block ?_
   refine w_loop (V := Int) (fun v => [(1, .ep (Wire.cells a0)), (5, pA Wiring_.cells r3), (16, .i (a0.Presses.length : Int)), (17, .i v)]) (fun v m2 H' g' => St (· < g) H0 [] H' g' ∧ wires_First_l1 n a0 r3 m2 v = some r) (n := n) 0 (.k (.k (.k (.k .nil)))) ⟨(hS.keep [] rfl).up (by omega), hM⟩ ?_
   rintro v4 m2 H g2 ⟨hS, hM⟩
   obtain _ | m2 := m2
   ·exact nomatch (show none = some _ from hM)
   change wpA _ _ _ _ (Fr.of [(1, .ep (Wire.cells a0)), (5, pA Wiring_.cells r3), (16, .i (a0.Presses.length : Int)), (17, .i v4)]) _ _
   replace hS : St (· < g) H0 [] H g2 := hS
   replace hM : wires_First_l1_b n a0 r3 (wires_First_l1 n a0 r3 m2) v4 = some r := hM
   refine r_seq ?_
   refine r_region (n := 1) rfl ?_
   refine o_int (v := .b (decide (v4 < (a0.Presses.length : Int)))) (by decide) rfl rfl rfl ?_
   refine run_nil ?_
   refine w_next [(1, .ep (Wire.cells a0)), (5, pA Wiring_.cells r3), (16, .i (a0.Presses.length : Int)), (17, .i v4), (18, .b (decide (v4 < (a0.Presses.length : Int))))] (.k (.k (.k (.k (.k .nil))))) ?_
   refine r_seq ?_
   rcases Bool.eq_false_or_eq_true (decide (v4 < (a0.Presses.length : Int))) with hb5 | hb5
   ·replace hM := ifT hM hb5
    refine w_condT (e := (decide (v4 < (a0.Presses.length : Int)))) rfl hb5 ?_
    refine r_skip ?_
    refine w_next [(1, .ep (Wire.cells a0)), (5, pA Wiring_.cells r3), (16, .i (a0.Presses.length : Int)), (17, .i v4)] (.k (.k (.k (.k .nil)))) ?_
    refine r_seq ?_
    refine r_block ?_
    refine r_seq ?_
    refine r_region (n := 2) rfl ?_
    refine o_move (v := .i v4) (by decide) rfl ?_
    refine o_assign (v := .i v4) (by decide) rfl ?_
    refine run_nil ?_
    refine w_next [(1, .ep (Wire.cells a0)), (5, pA Wiring_.cells r3), (6, .i v4), (16, .i (a0.Presses.length : Int)), (17, .i v4)] (.k (.k (.k (.k (.k .nil))))) ?_
    refine r_seq ?_
    refine r_seq ?_
    have hS0 := hS
    refine r_draw (n := 9) rfl (by kernel_rfl) ?_
    refine o_move (v := pA Wiring_.cells r3) (by decide) rfl ?_
    refine o_fieldE (cs := (Wire.cells a0)) (by decide) ty_fo24_2 rfl ?_
    refine o_loadE (v := .sl .no 3 (a0.Presses.map WirePress.cells)) (by decide) rfl (part_one ty_agg22 ty_sc22 rfl) ?_
    refine o_move (v := .i v4) (by decide) rfl ?_
    refine o_int (v := .i (w64 (v4 + 1))) (by decide) rfl rfl rfl ?_
    obtain ⟨c6, hc6, hM⟩ := bindE hM
    refine o_slice (xs := a0.Presses) (ys := c6) (f := WirePress.cells) (p := 0) (q := (w64 (v4 + 1))) (by decide) rfl ty_es22 (.inl ⟨rfl, rfl⟩) (.inr rfl) hc6 ?_
    refine o_fieldE (cs := (Wire.cells a0)) (by decide) ty_fo24_3 rfl ?_
    refine o_loadE (v := .i a0.Faults) (by decide) rfl (part_one ty_agg3 ty_sc3 rfl) ?_
    obtain ⟨r7, hr7, hM⟩ := bindE hM
    refine o_call (bs := [pA Wiring_.cells r3, .sl .no 3 (c6.map WirePress.cells), .i a0.Faults]) (by decide) rfl rfl ((W_wires_wiring_explained hr7).le (.k (.k (.k .nil)))) ?_
    refine run_nil ?_
    refine w_next [(1, .ep (Wire.cells a0)), (5, pA Wiring_.cells r3), (6, .i v4), (16, .i (a0.Presses.length : Int)), (17, .i v4), (28, .fn (.func 98) [] [.ep [pA Wiring_.cells r7.1], .ep [.i r7.2.1], .ep [.sl .no 3 (r7.2.2.map WirePress.cells)]])] (.k (.k (.k (.k (.k (.k .nil)))))) ?_
    refine r_block ?_
    obtain ⟨r8, hr8, hM⟩ := bindE hM
    refine w_rangeX (xid := 1) (Lo := fun s : Bool => []) (fl := (fun s => s)) (R := fun x s b s' => ∃ y, x = .sl .no 3 (y.map WireFault.cells) ∧ wires_First_r2 y s = some (b, s')) (s0 := false) (sF := r8.2) (A := []) (A' := []) (L' := []) [] [] hS (by omega) rfl rfl rfl rfl .nil (by decide) rfl kl_nil (fun _ _ => kl_nil) (fun s => (inb_st ic_nil inb_nil)) (fun s H hH => ai_nil) .nil rfl (by decide) rfl ?_ (fun F Lx hk1 hnd1 hin1 hF1 h01 hf1 => W_wires_wiring_explained_c1 (Lo := Lx)  hk1 hnd1 hin1 (aF := wires_First_r2) hF1 h01 (fun h => hf1 _ _ _ _ ⟨_, rfl, h⟩) hr8) fun H hS => ?_
    ·rintro x fl b s' ⟨y3, rfl, hM⟩
     rcases Bool.eq_false_or_eq_true fl with hfl | hfl
     ·subst hfl; exact nomatch (show none = some _ from hM)
     subst hfl
     replace hM := ifF hM rfl
     refine ⟨rfl, fun H' g3 hf' hh' => ?_⟩
     have hS := St.start hf'
     change wpA _ _ _ _ (Fr.of [(29, .sl .no 3 (y3.map WireFault.cells))]) _ _
     refine r_skip ?_
     refine w_rasg (l3 := []) .nil hS (by omega) fun Hb H hS => ?_
     replace hS : St (fun i => i < g3 ∧ i ∉ ids []) Hb [] H _ := hS
     refine r_block ?_
     refine r_exit ?_
     refine r_blk_other (by decide) ?_
     injection hM with hM
     injection hM with hm1 hm2
     subst hm1 hm2
     exact w_routX (hS.keep [] rfl)
    rcases Bool.eq_false_or_eq_true r8.2 with hb9 | hb9
    ·replace hM := ifT hM hb9
     refine w_rret hb9 ?_
     refine r_blk_other (by decide) ?_
     refine r_then_exit ?_
     refine r_blk_exit ?_
     refine w_next [(1, .ep (Wire.cells a0)), (5, pA Wiring_.cells r3), (16, .i (a0.Presses.length : Int)), (17, .i v4)] (.k (.k (.k (.k .nil)))) ?_
     refine r_region (n := 2) rfl ?_
     refine o_int (v := .i (w64 (v4 + 1))) (by decide) rfl rfl rfl ?_
     refine o_move (v := .i (w64 (v4 + 1))) (by decide) rfl ?_
     refine run_nil ?_
     exact w_round (w64 (v4 + 1)) (Nat.lt_succ_self _) (.k (.k (.k (.k .nil)))) ⟨(hS.keep [] rfl).up (by omega), hM⟩
    ·replace hM := ifF hM hb9
     refine w_rnormal hb9 ?_
     refine r_blk_normal ?_
     refine w_next [(6, .i v4)] (.k .nil) ?_
     refine r_seq ?_
     refine r_region (n := 3) rfl ?_
     refine o_move (v := .i v4) (by decide) rfl ?_
     refine o_assign (v := .i v4) (by decide) rfl ?_
     refine o_assign (v := .i 0) (by decide) rfl ?_
     refine run_nil ?_
     refine w_next [(2, .i v4), (3, .i 0)] (.k (.k .nil)) ?_
     refine r_ret ?_
     refine r_blk_ret ?_
     refine r_then_ret ?_
     refine w_round_ret ?_
     refine r_blk_ret ?_
     refine w_goto_ret ?_
     refine r_scp_ret ?_
     refine w_end (x := .tup [.i v4, .i 0]) (f := fun r => .tup [.i r.1, .i r.2]) (.inr rfl) ?_ (.refl _) (Option.some.inj hM) hS
     exact (res_two (res_tmp (x := .i v4) rfl) (res_tmp (x := .i 0) rfl))
   ·replace hM := ifF hM hb5
    refine w_condF (e := (decide (v4 < (a0.Presses.length : Int)))) rfl hb5 ?_
    refine r_exit ?_
    refine r_then_exit ?_
    refine w_round_exit ?_
    refine r_blk_exit ?_
    exact w_goto () .nil ⟨(hS.keep [] rfl).up (by omega), hM⟩
theorem W_wires_Fewest {n : Nat} {a0 : Wire} {r : Int × Int} (hM : wires_Fewest n a0 = some r) : PureSat Try.prog 45 [.agg (Wire.cells a0)] (.tup [.i r.1, .i r.2]) := by
 refine pure_of_wp mixed Try.func45 rfl (by decide) Try.ntmps45 (by simp) ?pure fun H0 g hf => ?_
 case pure => exact .tup _ (pl_cons (.v _) (pl_cons (.v _) pl_nil))
 rw [frame0_of]
 change wpA _ _ _ _ (Fr.of [(0, .agg (Wire.cells a0))]) H0 g
 have hS := St.start hf
 refine r_seq ?_
 refine r_region (n := 3) rfl ?_
 refine o_box (v := .agg (Wire.cells a0)) (cs := (Wire.cells a0)) hS (by decide) rfl rfl (by omega) fun H hS => ?_
 refine o_assign (v := .i 0) (by decide) rfl ?_
 refine o_assign (v := .i 0) (by decide) rfl ?_
 refine run_nil ?_
 refine w_iceE (L' := []) 0 1 hS rfl rfl rfl fun H hS => ?_
 refine w_next [(1, .ep (Wire.cells a0))] (.k .nil) ?_
 refine r_seq ?_
 refine r_seq ?_
 refine r_region (n := 3) rfl ?_
 refine o_loadE (v := .agg (Wire.cells a0)) (by decide) rfl (part_agg ty_agg24 (Nat.le_of_ble_eq_true rfl) rfl) ?_
 obtain ⟨r1, hr1, hM⟩ := bindE hM
 refine o_call (bs := [.agg (Wire.cells a0)]) (by decide) rfl rfl ((W_wires_Check hr1).le (.k .nil)) ?_
 refine o_assign (v := .i r1) (by decide) rfl ?_
 refine run_nil ?_
 refine w_next [(1, .ep (Wire.cells a0)), (4, .i r1)] (.k (.k .nil)) ?_
 refine r_seq ?_
 refine r_region (n := 2) rfl ?_
 refine o_move (v := .i r1) (by decide) rfl ?_
 refine o_int (v := .b (r1 != 0)) (by decide) rfl rfl rfl ?_
 refine run_nil ?_
 refine w_next [(1, .ep (Wire.cells a0)), (4, .i r1), (10, .b (r1 != 0))] (.k (.k (.k .nil))) ?_
 rcases Bool.eq_false_or_eq_true (r1 != 0) with hb2 | hb2
 ·replace hM := ifT hM hb2
  refine w_condT (e := (r1 != 0)) rfl hb2 ?_
  refine r_seq ?_
  refine r_region (n := 3) rfl ?_
  refine o_move (v := .i r1) (by decide) rfl ?_
  refine o_assign (v := .i 0) (by decide) rfl ?_
  refine o_assign (v := .i r1) (by decide) rfl ?_
  refine run_nil ?_
  refine w_next [(2, .i 0), (3, .i r1)] (.k (.k .nil)) ?_
  refine r_ret ?_
  refine r_then_ret ?_
  refine w_end (x := .tup [.i 0, .i r1]) (f := fun r => .tup [.i r.1, .i r.2]) (.inr rfl) ?_ (.refl _) (Option.some.inj hM) hS
  exact (res_two (res_tmp (x := .i 0) rfl) (res_tmp (x := .i r1) rfl))
 ·replace hM := ifF hM hb2
  refine w_condF (e := (r1 != 0)) rfl hb2 ?_
  refine r_skip ?_
  refine w_next [(1, .ep (Wire.cells a0))] (.k .nil) ?_
  refine r_seq ?_
  refine r_region (n := 2) rfl ?_
  refine o_alloc hS (by decide) ty_zero3 (by omega) fun H hS => ?_
  refine o_store (v := .i (-1)) (ns := [.i (-1)]) (L' := [(g + 3 + 3 + 2 + 0, .cells [.i (-1)])]) 0 hS rfl rfl .no rfl rfl ty_var3 (Nat.le_of_ble_eq_true rfl) rfl fun H hS => ?_
  refine run_nil ?_
  refine w_next [(1, .ep (Wire.cells a0)), (5, .ptr (g + 3 + 3 + 2 + 0) 0)] (.k (.k .nil)) ?_
  refine r_seq ?_
  refine r_seq ?_
  have hS0 := hS
  refine r_draw (n := 5) rfl (by kernel_rfl) ?_
  refine o_loadE (v := .agg (Wire.cells a0)) (by decide) rfl (part_agg ty_agg24 (Nat.le_of_ble_eq_true rfl) rfl) ?_
  obtain ⟨r3, hr3, hM⟩ := bindE hM
  refine o_call (bs := [.agg (Wire.cells a0)]) (by decide) rfl rfl ((W_wires_open hr3).le (.k .nil)) ?_
  refine o_fieldE (cs := (Wire.cells a0)) (by decide) ty_fo24_2 rfl ?_
  refine o_loadE (v := .sl .no 3 (a0.Presses.map WirePress.cells)) (by decide) rfl (part_one ty_agg22 ty_sc22 rfl) ?_
  obtain ⟨r4, hr4, hM⟩ := bindE hM
  refine o_call (bs := [pA Wiring_.cells r3, .sl .no 3 (a0.Presses.map WirePress.cells), .i 3]) (by decide) rfl rfl ((W_wires_wiring_explained hr4).le (.k (.k (.k .nil)))) ?_
  refine run_nil ?_
  refine w_next [(5, .ptr (g + 3 + 3 + 2 + 0) 0), (16, .fn (.func 98) [] [.ep [pA Wiring_.cells r4.1], .ep [.i r4.2.1], .ep [.sl .no 3 (r4.2.2.map WirePress.cells)]])] (.k (.k .nil)) ?_
  refine r_block ?_
  obtain ⟨r9, hr9, hM⟩ := bindE hM
  refine w_range0 (Lo := fun s : Int => [(g + 3 + 3 + 2 + 0, .cells [.i s])]) (R := fun x s b s' => ∃ y, x = .sl .no 3 (y.map WireFault.cells) ∧ wires_Fewest_r1 y s = some (b, s')) (s0 := (-1)) (sF := r9.2) (A := []) (A' := []) (L' := [(g + 3 + 3 + 2 + 0, .cells [.i r9.2])]) [(5, .ptr (g + 3 + 3 + 2 + 0) 0)] [0] hS (by omega) rfl rfl rfl (.cons rfl .nil) (by decide) rfl kl_nil (fun _ _ => (kl_cells kl_nil)) (fun s => (inb_st (ic_cells (ci_cons (.inl (.inl (.v _))) ci_nil) ic_nil) inb_nil)) (fun s H hH => (ai_cons (in_ptr hH 0 rfl) ai_nil)) (.k .nil) rfl (by decide) rfl ?_ (fun F Lx hk1 hnd1 hin1 hF1 h01 hf1 => W_wires_wiring_explained_c1 (Lo := Lx)  hk1 hnd1 hin1 (aF := wires_Fewest_r1) hF1 h01 (fun h => hf1 _ _ _ _ ⟨_, rfl, h⟩) hr9) fun H hS => ?_
  ·rintro x v5 b s' ⟨y1, rfl, hM⟩
   refine ⟨rfl, fun H' g1 hf' hh' => ?_⟩
   have hS := St.start hf'
   change wpA _ _ _ _ (Fr.of [(17, .sl .no 3 (y1.map WireFault.cells)), (5, .ptr (g + 3 + 3 + 2 + 0) 0)]) _ _
   refine r_region (n := 1) rfl ?_
   refine o_assign (v := .sl .no 3 (y1.map WireFault.cells)) (by decide) rfl ?_
   refine run_nil ?_
   refine w_rasg (l3 := [(5, .ptr (g + 3 + 3 + 2 + 0) 0), (6, .sl .no 3 (y1.map WireFault.cells))]) (.k (.k .nil)) hS (by omega) fun Hb H hS => ?_
   replace hS : St (fun i => i < g1 ∧ i ∉ ids [(g + 3 + 3 + 2 + 0, .cells [.i v5])]) Hb [(g + 3 + 3 + 2 + 0, .cells [.i v5])] H _ := hS
   refine r_block ?_
   refine w_join (J := Bool) (fun j => [(5, .ptr (g + 3 + 3 + 2 + 0) 0), (6, .sl .no 3 (y1.map WireFault.cells)), (25, .b j)]) (fun j H' g' => St (fun i => i < g1 ∧ i ∉ ids [(g + 3 + 3 + 2 + 0, .cells [.i v5])]) Hb [(g + 3 + 3 + 2 + 0, .cells [.i v5])] H' g' ∧ wires_Fewest_j1 v5 y1 j = some (b, s')) ?_ ?_
   ·rintro v6 H g2 ⟨hS, hM⟩
    change wpA _ _ _ _ (Fr.of [(5, .ptr (g + 3 + 3 + 2 + 0) 0), (6, .sl .no 3 (y1.map WireFault.cells)), (25, .b v6)]) _ _
    replace hS : St (fun i => i < g1 ∧ i ∉ ids [(g + 3 + 3 + 2 + 0, .cells [.i v5])]) Hb [(g + 3 + 3 + 2 + 0, .cells [.i v5])] H g2 := hS
    replace hM : wires_Fewest_j1 v5 y1 v6 = some (b, s') := hM
    rcases Bool.eq_false_or_eq_true v6 with hb7 | hb7
    ·replace hM := ifT hM hb7
     refine w_condT (e := v6) rfl hb7 ?_
     refine r_region (n := 3) rfl ?_
     refine o_move (v := .sl .no 3 (y1.map WireFault.cells)) (by decide) rfl ?_
     refine o_len (n := y1.length) (by decide) rfl (List.length_map _) ty_isl31 ?_
     refine o_store (v := .i (y1.length : Int)) (ns := [.i (y1.length : Int)]) (L' := [(g + 3 + 3 + 2 + 0, .cells [.i (y1.length : Int)])]) 0 hS rfl rfl .no rfl rfl ty_var3 (Nat.le_of_ble_eq_true rfl) rfl fun H hS => ?_
     refine run_nil ?_
     refine r_blk_normal ?_
     injection hM with hM
     injection hM with hm1 hm2
     subst hm1 hm2
     exact w_rend (hS.keep [true] rfl)
    ·replace hM := ifF hM hb7
     refine w_condF (e := v6) rfl hb7 ?_
     refine r_skip ?_
     refine r_blk_normal ?_
     injection hM with hM
     injection hM with hm1 hm2
     subst hm1 hm2
     exact w_rend (hS.keep [true] rfl)
   ·refine r_region (n := 8) rfl ?_
    refine o_load (v := .i v5) 0 hS (by decide) rfl rfl .no (part_one ty_agg3 ty_sc3 rfl) ?_
    refine o_int (v := .b (decide (v5 < 0))) (by decide) rfl rfl rfl ?_
    refine o_move (v := .b (decide (v5 < 0))) (by decide) rfl ?_
    rcases Bool.eq_false_or_eq_true (decide (v5 < 0)) with hb8 | hb8
    ·replace hM := ifT hM hb8
     refine o_guardN (j := 2) (e := (decide (v5 < 0))) (want := false) (by decide) rfl hb8 ?_
     refine o_guardN (j := 2) (e := (decide (v5 < 0))) (want := false) (by decide) rfl hb8 ?_
     refine o_guardN (j := 2) (e := (decide (v5 < 0))) (want := false) (by decide) rfl hb8 ?_
     refine o_guardN (j := 2) (e := (decide (v5 < 0))) (want := false) (by decide) rfl hb8 ?_
     refine o_pickT (v := .b true) (e := (decide (v5 < 0))) (by decide) rfl hb8 rfl ?_
     refine run_nil ?_
     exact w_goto true (.k (.k (.k .nil))) ⟨(hS.keep [true] rfl).up (by omega), hM⟩
    ·replace hM := ifF hM hb8
     refine o_guardY (j := 2) (e := (decide (v5 < 0))) (want := false) rfl hb8 ?_
     refine o_move (v := .sl .no 3 (y1.map WireFault.cells)) (by decide) rfl ?_
     refine o_guardY (j := 2) (e := (decide (v5 < 0))) (want := false) rfl hb8 ?_
     refine o_len (n := y1.length) (by decide) rfl (List.length_map _) ty_isl31 ?_
     refine o_guardY (j := 2) (e := (decide (v5 < 0))) (want := false) rfl hb8 ?_
     refine o_load (v := .i v5) 0 hS (by decide) rfl rfl .no (part_one ty_agg3 ty_sc3 rfl) ?_
     refine o_guardY (j := 2) (e := (decide (v5 < 0))) (want := false) rfl hb8 ?_
     refine o_int (v := .b (decide ((y1.length : Int) < v5))) (by decide) rfl rfl rfl ?_
     refine o_pickF (v := .b (decide ((y1.length : Int) < v5))) (e := (decide (v5 < 0))) (by decide) rfl hb8 rfl ?_
     refine run_nil ?_
     exact w_goto (decide ((y1.length : Int) < v5)) (.k (.k (.k .nil))) ⟨(hS.keep [true] rfl).up (by omega), hM⟩
  refine r_blk_normal ?_
  refine w_next [(5, .ptr (g + 3 + 3 + 2 + 0) 0)] (.k .nil) ?_
  refine r_seq ?_
  refine r_seq ?_
  refine r_region (n := 2) rfl ?_
  refine o_load (v := .i r9.2) 0 hS (by decide) rfl rfl .no (part_one ty_agg3 ty_sc3 rfl) ?_
  refine o_int (v := .b (decide (r9.2 < 0))) (by decide) rfl rfl rfl ?_
  refine run_nil ?_
  refine w_next [(5, .ptr (g + 3 + 3 + 2 + 0) 0), (29, .b (decide (r9.2 < 0)))] (.k (.k .nil)) ?_
  rcases Bool.eq_false_or_eq_true (decide (r9.2 < 0)) with hb10 | hb10
  ·replace hM := ifT hM hb10
   refine w_condT (e := (decide (r9.2 < 0))) rfl hb10 ?_
   refine r_seq ?_
   refine r_region (n := 2) rfl ?_
   refine o_assign (v := .i 0) (by decide) rfl ?_
   refine o_assign (v := .i 3) (by decide) rfl ?_
   refine run_nil ?_
   replace hS := hS.keep (L' := []) [false] rfl
   refine w_next [(2, .i 0), (3, .i 3)] (.k (.k .nil)) ?_
   refine r_ret ?_
   refine r_then_ret ?_
   refine w_end (x := .tup [.i 0, .i 3]) (f := fun r => .tup [.i r.1, .i r.2]) (.inr rfl) ?_ (.refl _) (Option.some.inj hM) hS
   exact (res_two (res_tmp (x := .i 0) rfl) (res_tmp (x := .i 3) rfl))
  ·replace hM := ifF hM hb10
   refine w_condF (e := (decide (r9.2 < 0))) rfl hb10 ?_
   refine r_skip ?_
   refine w_next [(5, .ptr (g + 3 + 3 + 2 + 0) 0)] (.k .nil) ?_
   refine r_seq ?_
   refine r_region (n := 3) rfl ?_
   refine o_load (v := .i r9.2) 0 hS (by decide) rfl rfl .no (part_one ty_agg3 ty_sc3 rfl) ?_
   refine o_assign (v := .i r9.2) (by decide) rfl ?_
   refine o_assign (v := .i 0) (by decide) rfl ?_
   refine run_nil ?_
   replace hS := hS.keep (L' := []) [false] rfl
   refine w_next [(2, .i r9.2), (3, .i 0)] (.k (.k .nil)) ?_
   refine r_ret ?_
   refine w_end (x := .tup [.i r9.2, .i 0]) (f := fun r => .tup [.i r.1, .i r.2]) (.inr rfl) ?_ (.refl _) (Option.some.inj hM) hS
   exact (res_two (res_tmp (x := .i r9.2) rfl) (res_tmp (x := .i 0) rfl))
theorem W_ref11_Selection {a0 : Wire} {a1 : Int} {r : Int} (hM : ref11_Selection a0 a1 = some r) : PureSat Try.prog 82 [.agg (Wire.cells a0), .i a1] (.i r) := by
 refine pure_of_wp mixed Try.func82 rfl (by decide) Try.ntmps82 (by simp) ?pure fun H0 g hf => ?_
 case pure => exact .v _
 rw [frame0_of]
 change wpA _ _ _ _ (Fr.of [(0, .agg (Wire.cells a0)), (1, .i a1)]) H0 g
 have hS := St.start hf
 refine r_seq ?_
 refine r_region (n := 2) rfl ?_
 refine o_box (v := .agg (Wire.cells a0)) (cs := (Wire.cells a0)) hS (by decide) rfl rfl (by omega) fun H hS => ?_
 refine o_assign (v := .i 0) (by decide) rfl ?_
 refine run_nil ?_
 refine w_iceE (L' := []) 0 2 hS rfl rfl rfl fun H hS => ?_
 refine w_next [(1, .i a1), (2, .ep (Wire.cells a0))] (.k (.k .nil)) ?_
 refine r_seq ?_
 refine r_seq ?_
 refine r_region (n := 2) rfl ?_
 refine o_move (v := .i a1) (by decide) rfl ?_
 refine o_int (v := .b (decide (a1 < 0))) (by decide) rfl rfl rfl ?_
 refine run_nil ?_
 refine w_next [(1, .i a1), (2, .ep (Wire.cells a0)), (6, .b (decide (a1 < 0)))] (.k (.k (.k .nil))) ?_
 rcases Bool.eq_false_or_eq_true (decide (a1 < 0)) with hb1 | hb1
 ·replace hM := ifT hM hb1
  refine w_condT (e := (decide (a1 < 0))) rfl hb1 ?_
  refine r_seq ?_
  refine r_region (n := 2) rfl ?_
  refine o_move (v := .i a1) (by decide) rfl ?_
  refine o_assign (v := .i a1) (by decide) rfl ?_
  refine run_nil ?_
  refine w_next [(4, .i a1)] (.k .nil) ?_
  refine r_ret ?_
  refine r_then_ret ?_
  refine w_end (x := .i a1) (f := fun r => .i r) (.inr rfl) ?_ (.refl _) (Option.some.inj hM) hS
  exact (res_one (res_tmp (x := .i a1) rfl))
 ·replace hM := ifF hM hb1
  refine w_condF (e := (decide (a1 < 0))) rfl hb1 ?_
  refine r_skip ?_
  refine w_next [(1, .i a1), (2, .ep (Wire.cells a0))] (.k (.k .nil)) ?_
  refine r_seq ?_
  have hS0 := hS
  refine r_draw (n := 13) rfl (by kernel_rfl) ?_
  refine o_move (v := .i a1) (by decide) rfl ?_
  refine o_fieldE (cs := (Wire.cells a0)) (by decide) ty_fo24_1 rfl ?_
  refine o_loadE (v := .i a0.Numbers) (by decide) rfl (part_one ty_agg3 ty_sc3 rfl) ?_
  obtain ⟨q2, hq2, hM⟩ := bindE hM
  refine o_int (by decide) rfl rfl (rem_int hq2) ?_
  refine o_fieldE (cs := (Wire.cells a0)) (by decide) ty_fo24_0 rfl ?_
  refine o_loadE (v := .i a0.Letters) (by decide) rfl (part_one ty_agg3 ty_sc3 rfl) ?_
  refine o_int (v := .i (w64 (q2 * a0.Letters))) (by decide) rfl rfl rfl ?_
  refine o_move (v := .i a1) (by decide) rfl ?_
  refine o_fieldE (cs := (Wire.cells a0)) (by decide) ty_fo24_1 rfl ?_
  refine o_loadE (v := .i a0.Numbers) (by decide) rfl (part_one ty_agg3 ty_sc3 rfl) ?_
  obtain ⟨q3, hq3, hM⟩ := bindE hM
  refine o_int (by decide) rfl rfl (quo_int hq3) ?_
  refine o_int (v := .i (w64 ((w64 (q2 * a0.Letters)) + q3))) (by decide) rfl rfl rfl ?_
  refine o_assign (v := .i (w64 ((w64 (q2 * a0.Letters)) + q3))) (by decide) rfl ?_
  refine run_nil ?_
  refine w_next [(4, .i (w64 ((w64 (q2 * a0.Letters)) + q3)))] (.k .nil) ?_
  refine r_ret ?_
  refine w_end (x := .i (w64 ((w64 (q2 * a0.Letters)) + q3))) (f := fun r => .i r) (.inr rfl) ?_ (.refl _) (Option.some.inj hM) hS
  exact (res_one (res_tmp (x := .i (w64 ((w64 (q2 * a0.Letters)) + q3))) rfl))
theorem W_ref11_Exchanged {n : Nat} {a0 : Wire} {r : Wire} (hM : ref11_Exchanged n a0 = some r) : PureSat Try.prog 50 [.agg (Wire.cells a0)] (.agg [.i r.Letters, .i r.Numbers, .sl .no 3 (r.Presses.map WirePress.cells), .i r.Faults]) := by
 refine pure_of_wp mixed Try.func50 rfl (by decide) Try.ntmps50 (by simp) ?pure fun H0 g hf => ?_
 case pure => exact .agg _ (pl_cons (.v _) (pl_cons (.v _) (pl_cons (.sl _ _ (pures_map (fun x => (pl_cons (.v _) (pl_cons (.v _) (pl_cons (.v _) pl_nil)))))) (pl_cons (.v _) pl_nil))))
 rw [frame0_of]
 change wpA _ _ _ _ (Fr.of [(0, .agg (Wire.cells a0))]) H0 g
 have hS := St.start hf
 refine r_seq ?_
 refine r_region (n := 2) rfl ?_
 refine o_box (v := .agg (Wire.cells a0)) (cs := (Wire.cells a0)) hS (by decide) rfl rfl (by omega) fun H hS => ?_
 refine o_alloc hS (by decide) ty_zero24 (by omega) fun H hS => ?_
 refine run_nil ?_
 refine w_iceE (L' := [(g + 1, .cells [.i 0, .i 0, .sl .nil 0 [], .i 0])]) 1 1 hS rfl rfl rfl fun H hS => ?_
 refine w_ownC (cs' := [.i 0, .i 0, .sl (.id (g + 2)) 3 (([] : List WirePress).map WirePress.cells), .i 0]) (L' := [(g + 1, .cells [.i 0, .i 0, .sl (.id (g + 2)) 3 (([] : List WirePress).map WirePress.cells), .i 0])]) 0 2 3 50 hS (by omega) (by decide) rfl rfl rfl rfl fun H hS => ?_
 refine w_next [(1, .ep (Wire.cells a0)), (2, .ptr (g + 1) 0)] (.k (.k .nil)) ?_
 refine r_seq ?_
 refine r_region (n := 9) rfl ?_
 refine o_fieldE (cs := (Wire.cells a0)) (by decide) ty_fo24_1 rfl ?_
 refine o_loadE (v := .i a0.Numbers) (by decide) rfl (part_one ty_agg3 ty_sc3 rfl) ?_
 refine o_fieldE (cs := (Wire.cells a0)) (by decide) ty_fo24_0 rfl ?_
 refine o_loadE (v := .i a0.Letters) (by decide) rfl (part_one ty_agg3 ty_sc3 rfl) ?_
 refine o_fieldE (cs := (Wire.cells a0)) (by decide) ty_fo24_3 rfl ?_
 refine o_loadE (v := .i a0.Faults) (by decide) rfl (part_one ty_agg3 ty_sc3 rfl) ?_
 refine o_build (cs := [.i a0.Numbers, .i a0.Letters, .sl .nil 0 [], .i a0.Faults]) (by decide) ty_zero24 ty_pl24 rfl ?_
 refine o_alloc hS (by decide) ty_zero24 (by omega) fun H hS => ?_
 refine o_store (v := .agg [.i a0.Numbers, .i a0.Letters, .sl .nil 0 [], .i a0.Faults]) (ns := [.i a0.Numbers, .i a0.Letters, .sl .nil 0 [], .i a0.Faults]) (L' := [(g + 2 + 1 + 7, .cells [.i a0.Numbers, .i a0.Letters, .sl .nil 0 [], .i a0.Faults]), (g + 2, .row 50 0), (g + 1, .cells [.i 0, .i 0, .sl (.id (g + 2)) 3 (([] : List WirePress).map WirePress.cells), .i 0])]) 0 hS rfl rfl .no rfl rfl ty_var24 (Nat.le_of_ble_eq_true rfl) rfl fun H hS => ?_
 refine run_nil ?_
 refine w_ownC (cs' := [.i a0.Numbers, .i a0.Letters, .sl (.id (g + 2 + 1 + 9)) 3 (([] : List WirePress).map WirePress.cells), .i a0.Faults]) (L' := [(g + 2 + 1 + 7, .cells [.i a0.Numbers, .i a0.Letters, .sl (.id (g + 2 + 1 + 9)) 3 (([] : List WirePress).map WirePress.cells), .i a0.Faults]), (g + 2, .row 50 0), (g + 1, .cells [.i 0, .i 0, .sl (.id (g + 2)) 3 (([] : List WirePress).map WirePress.cells), .i 0])]) 0 2 3 50 hS (by omega) (by decide) rfl rfl rfl rfl fun H hS => ?_
 refine w_next [(1, .ep (Wire.cells a0)), (2, .ptr (g + 1) 0), (3, .ptr (g + 2 + 1 + 7) 0)] (.k (.k (.k .nil))) ?_
 refine w_join (J := (List WirePress)) (fun j => [(2, .ptr (g + 1) 0), (3, .ptr (g + 2 + 1 + 7) 0)]) (fun j H' g' => St (· < g) H0 [(g + 2 + 1 + 9, .row 50 j.length), (g + 2 + 1 + 7, .cells [.i a0.Numbers, .i a0.Letters, .sl (.id (g + 2 + 1 + 9)) 3 (j.map WirePress.cells), .i a0.Faults]), (g + 2, .row 50 ([] : List WirePress).length), (g + 1, .cells [.i 0, .i 0, .sl (.id (g + 2)) 3 (([] : List WirePress).map WirePress.cells), .i 0])] H' g' ∧ ref11_Exchanged_j1 a0 j = some r) ?_ ?_
 ·rintro v1 H g1 ⟨hS, hM⟩
  change wpA _ _ _ _ (Fr.of [(2, .ptr (g + 1) 0), (3, .ptr (g + 2 + 1 + 7) 0)]) _ _
  replace hS : St (· < g) H0 [(g + 2 + 1 + 9, .row 50 v1.length), (g + 2 + 1 + 7, .cells [.i a0.Numbers, .i a0.Letters, .sl (.id (g + 2 + 1 + 9)) 3 (v1.map WirePress.cells), .i a0.Faults]), (g + 2, .row 50 ([] : List WirePress).length), (g + 1, .cells [.i 0, .i 0, .sl (.id (g + 2)) 3 (([] : List WirePress).map WirePress.cells), .i 0])] H g1 := hS
  replace hM : ref11_Exchanged_j1 a0 v1 = some r := hM
  refine r_seq ?_
  refine r_region (n := 2) rfl ?_
  refine o_load (v := .agg [.i a0.Numbers, .i a0.Letters, .sl (.id (g + 2 + 1 + 9)) 3 (v1.map WirePress.cells), .i a0.Faults]) 1 hS (by decide) rfl rfl .no (part_agg ty_agg24 (Nat.le_of_ble_eq_true rfl) rfl) ?_
  refine o_store (v := .agg [.i a0.Numbers, .i a0.Letters, .sl (.id (g + 2 + 1 + 9)) 3 (v1.map WirePress.cells), .i a0.Faults]) (ns := [.i a0.Numbers, .i a0.Letters, .sl (.id (g + 2 + 1 + 9)) 3 (v1.map WirePress.cells), .i a0.Faults]) (L' := [(g + 2 + 1 + 9, .row 50 v1.length), (g + 2 + 1 + 7, .cells [.i a0.Numbers, .i a0.Letters, .sl (.id (g + 2 + 1 + 9)) 3 (v1.map WirePress.cells), .i a0.Faults]), (g + 2, .row 50 ([] : List WirePress).length), (g + 1, .cells [.i a0.Numbers, .i a0.Letters, .sl (.id (g + 2 + 1 + 9)) 3 (v1.map WirePress.cells), .i a0.Faults])]) 3 hS rfl rfl .no rfl rfl ty_var24 (Nat.le_of_ble_eq_true rfl) rfl fun H hS => ?_
  refine run_nil ?_
  replace hS := hS.keep (L' := [(g + 2 + 1 + 9, .row 50 v1.length), (g + 1, .cells [.i a0.Numbers, .i a0.Letters, .sl (.id (g + 2 + 1 + 9)) 3 (v1.map WirePress.cells), .i a0.Faults])]) [true, false, false, true] rfl
  refine w_next [(2, .ptr (g + 1) 0)] (.k .nil) ?_
  refine r_ret ?_
  refine w_end (x := .agg [.i a0.Numbers, .i a0.Letters, .sl (.id (g + 2 + 1 + 9)) 3 (v1.map WirePress.cells), .i a0.Faults]) (f := fun r => .agg [.i r.Letters, .i r.Numbers, .sl .no 3 (r.Presses.map WirePress.cells), .i r.Faults]) (.inr rfl) ?_ (.aggL (.k (.k (.cons (.sl _ _ _) (.k .nil))))) (Option.some.inj hM) hS
  exact (res_one (res_cell (x := .agg [.i a0.Numbers, .i a0.Letters, .sl (.id (g + 2 + 1 + 9)) 3 (v1.map WirePress.cells), .i a0.Faults]) 1 hS rfl rfl (part_agg ty_agg24 (Nat.le_of_ble_eq_true rfl) rfl)))
 ·refine r_seq ?_
  refine r_region (n := 1) rfl ?_
  refine o_assign (v := .i 0) (by decide) rfl ?_
  refine run_nil ?_
  refine w_next [(1, .ep (Wire.cells a0)), (2, .ptr (g + 1) 0), (3, .ptr (g + 2 + 1 + 7) 0), (4, .i 0)] (.k (.k (.k (.k .nil)))) ?_
  refine r_block ?_
  refine w_loop (V := Int × (List WirePress)) (fun v => [(1, .ep (Wire.cells a0)), (2, .ptr (g + 1) 0), (3, .ptr (g + 2 + 1 + 7) 0), (4, .i v.1)]) (fun v m3 H' g' => St (· < g) H0 [(g + 2 + 1 + 9, .row 50 v.2.length), (g + 2 + 1 + 7, .cells [.i a0.Numbers, .i a0.Letters, .sl (.id (g + 2 + 1 + 9)) 3 (v.2.map WirePress.cells), .i a0.Faults]), (g + 2, .row 50 ([] : List WirePress).length), (g + 1, .cells [.i 0, .i 0, .sl (.id (g + 2)) 3 (([] : List WirePress).map WirePress.cells), .i 0])] H' g' ∧ ref11_Exchanged_l1 a0 m3 v.1 v.2 = some r) (n := n) (0, ([] : List WirePress)) (.k (.k (.k (.k .nil)))) ⟨(hS.keep [true, true, true, true] rfl).up (by omega), hM⟩ ?_
  rintro ⟨v3, v4⟩ m3 H g3 ⟨hS, hM⟩
  obtain _ | m3 := m3
  ·exact nomatch (show none = some _ from hM)
  change wpA _ _ _ _ (Fr.of [(1, .ep (Wire.cells a0)), (2, .ptr (g + 1) 0), (3, .ptr (g + 2 + 1 + 7) 0), (4, .i v3)]) _ _
  replace hS : St (· < g) H0 [(g + 2 + 1 + 9, .row 50 v4.length), (g + 2 + 1 + 7, .cells [.i a0.Numbers, .i a0.Letters, .sl (.id (g + 2 + 1 + 9)) 3 (v4.map WirePress.cells), .i a0.Faults]), (g + 2, .row 50 ([] : List WirePress).length), (g + 1, .cells [.i 0, .i 0, .sl (.id (g + 2)) 3 (([] : List WirePress).map WirePress.cells), .i 0])] H g3 := hS
  replace hM : ref11_Exchanged_l1_b a0 (ref11_Exchanged_l1 a0 m3) v3 v4 = some r := hM
  refine r_seq ?_
  refine r_seq ?_
  refine r_region (n := 5) rfl ?_
  refine o_move (v := .i v3) (by decide) rfl ?_
  refine o_fieldE (cs := (Wire.cells a0)) (by decide) ty_fo24_2 rfl ?_
  refine o_loadE (v := .sl .no 3 (a0.Presses.map WirePress.cells)) (by decide) rfl (part_one ty_agg22 ty_sc22 rfl) ?_
  refine o_len (n := a0.Presses.length) (by decide) rfl (List.length_map _) ty_isl22 ?_
  refine o_int (v := .b (decide (v3 < (a0.Presses.length : Int)))) (by decide) rfl rfl rfl ?_
  refine run_nil ?_
  refine w_next [(1, .ep (Wire.cells a0)), (2, .ptr (g + 1) 0), (3, .ptr (g + 2 + 1 + 7) 0), (4, .i v3), (17, .b (decide (v3 < (a0.Presses.length : Int))))] (.k (.k (.k (.k (.k .nil))))) ?_
  rcases Bool.eq_false_or_eq_true (decide (v3 < (a0.Presses.length : Int))) with hb5 | hb5
  ·replace hM := ifT hM hb5
   refine w_condT (e := (decide (v3 < (a0.Presses.length : Int)))) rfl hb5 ?_
   refine r_skip ?_
   refine w_next [(1, .ep (Wire.cells a0)), (2, .ptr (g + 1) 0), (3, .ptr (g + 2 + 1 + 7) 0), (4, .i v3)] (.k (.k (.k (.k .nil)))) ?_
   refine r_seq ?_
   refine r_block ?_
   refine r_seq ?_
   refine r_region (n := 7) rfl ?_
   refine o_fieldE (cs := (Wire.cells a0)) (by decide) ty_fo24_2 rfl ?_
   refine o_loadE (v := .sl .no 3 (a0.Presses.map WirePress.cells)) (by decide) rfl (part_one ty_agg22 ty_sc22 rfl) ?_
   refine o_move (v := .i v3) (by decide) rfl ?_
   obtain ⟨x6, hx6, hM⟩ := bindE hM
   refine o_index (xs := a0.Presses) (f := WirePress.cells) (z := v3) (u := x6) (by decide) rfl rfl ty_es22 hx6 ?_
   refine o_loadE (v := .agg [.i x6.Letter, .i x6.Number, .i x6.Got]) (by decide) rfl (part_agg ty_agg50 (Nat.le_of_ble_eq_true rfl) rfl) ?_
   refine o_alloc hS (by decide) ty_zero50 (by omega) fun H hS => ?_
   refine o_store (v := .agg [.i x6.Letter, .i x6.Number, .i x6.Got]) (ns := [.i x6.Letter, .i x6.Number, .i x6.Got]) (L' := [(g3 + 5 + 5, .cells [.i x6.Letter, .i x6.Number, .i x6.Got]), (g + 2 + 1 + 9, .row 50 v4.length), (g + 2 + 1 + 7, .cells [.i a0.Numbers, .i a0.Letters, .sl (.id (g + 2 + 1 + 9)) 3 (v4.map WirePress.cells), .i a0.Faults]), (g + 2, .row 50 ([] : List WirePress).length), (g + 1, .cells [.i 0, .i 0, .sl (.id (g + 2)) 3 (([] : List WirePress).map WirePress.cells), .i 0])]) 0 hS rfl rfl .no rfl rfl ty_var50 (Nat.le_of_ble_eq_true rfl) rfl fun H hS => ?_
   refine run_nil ?_
   refine w_iceE (L' := [(g + 2 + 1 + 9, .row 50 v4.length), (g + 2 + 1 + 7, .cells [.i a0.Numbers, .i a0.Letters, .sl (.id (g + 2 + 1 + 9)) 3 (v4.map WirePress.cells), .i a0.Faults]), (g + 2, .row 50 ([] : List WirePress).length), (g + 1, .cells [.i 0, .i 0, .sl (.id (g + 2)) 3 (([] : List WirePress).map WirePress.cells), .i 0])]) 0 5 hS rfl rfl rfl fun H hS => ?_
   refine w_next [(1, .ep (Wire.cells a0)), (2, .ptr (g + 1) 0), (3, .ptr (g + 2 + 1 + 7) 0), (4, .i v3), (5, .ep [.i x6.Letter, .i x6.Number, .i x6.Got])] (.k (.k (.k (.k (.k .nil))))) ?_
   have hS0 := hS
   refine r_draw (n := 15) rfl (by kernel_rfl) ?_
   refine o_fieldP (by decide) ty_fo24_2 rfl ?_
   refine o_load (v := .sl (.id (g + 2 + 1 + 9)) 3 (v4.map WirePress.cells)) 1 hS (by decide) rfl rfl (.st hS0 1 rfl (by omega)) (part_one ty_agg22 ty_sc22 rfl) ?_
   refine o_fieldE (cs := [.i x6.Letter, .i x6.Number, .i x6.Got]) (by decide) ty_fo50_1 rfl ?_
   refine o_loadE (v := .i x6.Number) (by decide) rfl (part_one ty_agg3 ty_sc3 rfl) ?_
   refine o_fieldE (cs := [.i x6.Letter, .i x6.Number, .i x6.Got]) (by decide) ty_fo50_0 rfl ?_
   refine o_loadE (v := .i x6.Letter) (by decide) rfl (part_one ty_agg3 ty_sc3 rfl) ?_
   refine o_loadE (v := .agg (Wire.cells a0)) (by decide) rfl (part_agg ty_agg24 (Nat.le_of_ble_eq_true rfl) rfl) ?_
   refine o_fieldE (cs := [.i x6.Letter, .i x6.Number, .i x6.Got]) (by decide) ty_fo50_2 rfl ?_
   refine o_loadE (v := .i x6.Got) (by decide) rfl (part_one ty_agg3 ty_sc3 rfl) ?_
   obtain ⟨r7, hr7, hM⟩ := bindE hM
   refine o_call (bs := [.agg (Wire.cells a0), .i x6.Got]) (by decide) rfl rfl ((W_ref11_Selection hr7).le (.k (.k .nil))) ?_
   refine o_build (cs := [.i x6.Number, .i x6.Letter, .i r7]) (by decide) ty_zero50 ty_pl50 rfl ?_
   refine o_buildSlice (es := [[.i x6.Number, .i x6.Letter, .i r7]]) hS (by decide) ty_es22 ty_el22 rfl ty_ef22 rfl (by decide) (by omega) fun H hS => ?_
   obtain ⟨l8, hl8, hM⟩ := bindE hM
   refine o_append (xs := v4) (ys := ([(⟨x6.Number, x6.Letter, r7⟩ : WirePress)] : List WirePress)) (zs := l8) (f := WirePress.cells) (L' := [(g3 + 5 + 7 + 11, .row 50 1), (g + 2 + 1 + 9, .row 50 l8.length), (g + 2 + 1 + 7, .cells [.i a0.Numbers, .i a0.Letters, .sl (.id (g + 2 + 1 + 9)) 3 (v4.map WirePress.cells), .i a0.Faults]), (g + 2, .row 50 ([] : List WirePress).length), (g + 1, .cells [.i 0, .i 0, .sl (.id (g + 2)) 3 (([] : List WirePress).map WirePress.cells), .i 0])]) 1 hS (by decide) rfl rfl rfl rfl (.st hS0 0 rfl (by omega)) ty_es22 ty_el22 ty_ef22 hl8 rfl fun H hS => ?_
   refine o_fieldP (by decide) ty_fo24_2 rfl ?_
   refine o_store (v := .sl (.id (g + 2 + 1 + 9)) 3 (l8.map WirePress.cells)) (ns := [.sl (.id (g + 2 + 1 + 9)) 3 (l8.map WirePress.cells)]) (L' := [(g3 + 5 + 7 + 11, .row 50 1), (g + 2 + 1 + 9, .row 50 l8.length), (g + 2 + 1 + 7, .cells [.i a0.Numbers, .i a0.Letters, .sl (.id (g + 2 + 1 + 9)) 3 (l8.map WirePress.cells), .i a0.Faults]), (g + 2, .row 50 ([] : List WirePress).length), (g + 1, .cells [.i 0, .i 0, .sl (.id (g + 2)) 3 (([] : List WirePress).map WirePress.cells), .i 0])]) 2 hS rfl rfl (.st hS0 1 rfl (by omega)) rfl rfl ty_var22 (Nat.le_of_ble_eq_true rfl) rfl fun H hS => ?_
   refine run_nil ?_
   refine r_blk_normal ?_
   replace hS := hS.keep (L' := [(g + 2 + 1 + 9, .row 50 l8.length), (g + 2 + 1 + 7, .cells [.i a0.Numbers, .i a0.Letters, .sl (.id (g + 2 + 1 + 9)) 3 (l8.map WirePress.cells), .i a0.Faults]), (g + 2, .row 50 ([] : List WirePress).length), (g + 1, .cells [.i 0, .i 0, .sl (.id (g + 2)) 3 (([] : List WirePress).map WirePress.cells), .i 0])]) [false, true, true, true, true] rfl
   refine w_next [(1, .ep (Wire.cells a0)), (2, .ptr (g + 1) 0), (3, .ptr (g + 2 + 1 + 7) 0), (4, .i v3)] (.k (.k (.k (.k .nil)))) ?_
   refine r_region (n := 3) rfl ?_
   refine o_move (v := .i v3) (by decide) rfl ?_
   refine o_int (v := .i (w64 (v3 + 1))) (by decide) rfl rfl rfl ?_
   refine o_assign (v := .i (w64 (v3 + 1))) (by decide) rfl ?_
   refine run_nil ?_
   exact w_round (w64 (v3 + 1), l8) (Nat.lt_succ_self _) (.k (.k (.k (.k .nil)))) ⟨(hS.keep [true, true, true, true] rfl).up (by omega), hM⟩
  ·replace hM := ifF hM hb5
   refine w_condF (e := (decide (v3 < (a0.Presses.length : Int)))) rfl hb5 ?_
   refine r_exit ?_
   refine r_then_exit ?_
   refine w_round_exit ?_
   refine r_blk_exit ?_
   exact w_goto v4 (.k (.k .nil)) ⟨(hS.keep [true, true, true, true] rfl).up (by omega), hM⟩
theorem W_ref11_turned {a0 : WireFault} {r : WireFault} (hM : ref11_turned a0 = some r) : PureSat Try.prog 83 [.agg (WireFault.cells a0)] (.agg [.i r.Kind, .i r.A, .i r.B]) := by
 refine pure_of_wp mixed Try.func83 rfl (by decide) Try.ntmps83 (by simp) ?pure fun H0 g hf => ?_
 case pure => exact .agg _ (pl_cons (.v _) (pl_cons (.v _) (pl_cons (.v _) pl_nil)))
 rw [frame0_of]
 change wpA _ _ _ _ (Fr.of [(0, .agg (WireFault.cells a0))]) H0 g
 have hS := St.start hf
 refine r_seq ?_
 refine r_region (n := 2) rfl ?_
 refine o_box (v := .agg (WireFault.cells a0)) (cs := (WireFault.cells a0)) hS (by decide) rfl rfl (by omega) fun H hS => ?_
 refine o_alloc hS (by decide) ty_zero63 (by omega) fun H hS => ?_
 refine run_nil ?_
 refine w_iceE (L' := [(g + 1, .cells [.i 0, .i 0, .i 0])]) 1 1 hS rfl rfl rfl fun H hS => ?_
 refine w_next [(1, .ep (WireFault.cells a0)), (2, .ptr (g + 1) 0)] (.k (.k .nil)) ?_
 refine r_seq ?_
 refine r_region (n := 2) rfl ?_
 refine o_buildSlice (es := [[.i 0], [.i 2], [.i 1], [.i 4], [.i 3]]) hS (by decide) ty_es39 ty_el39 rfl ty_ef39 rfl (by decide) (by omega) fun H hS => ?_
 refine o_assign (v := .sl (.id (g + 2 + 0)) 1 (([0, 2, 1, 4, 3] : List Int).map cI)) (by decide) rfl ?_
 refine run_nil ?_
 refine w_next [(1, .ep (WireFault.cells a0)), (2, .ptr (g + 1) 0), (3, .sl (.id (g + 2 + 0)) 1 (([0, 2, 1, 4, 3] : List Int).map cI))] (.k (.k (.k .nil))) ?_
 refine r_seq ?_
 have hS0 := hS
 refine r_draw (n := 11) rfl (by kernel_rfl) ?_
 refine o_move (v := .sl (.id (g + 2 + 0)) 1 (([0, 2, 1, 4, 3] : List Int).map cI)) (by decide) rfl ?_
 refine o_fieldE (cs := (WireFault.cells a0)) (by decide) ty_fo63_0 rfl ?_
 refine o_loadE (v := .i a0.Kind) (by decide) rfl (part_one ty_agg3 ty_sc3 rfl) ?_
 obtain ⟨x1, hx1, hM⟩ := bindE hM
 refine o_index (xs := ([0, 2, 1, 4, 3] : List Int)) (f := cI) (z := a0.Kind) (u := x1) (by decide) rfl rfl ty_es39 hx1 ?_
 refine o_loadE (v := .i x1) (by decide) rfl (part_one ty_agg3 ty_sc3 rfl) ?_
 refine o_fieldE (cs := (WireFault.cells a0)) (by decide) ty_fo63_1 rfl ?_
 refine o_loadE (v := .i a0.A) (by decide) rfl (part_one ty_agg3 ty_sc3 rfl) ?_
 refine o_fieldE (cs := (WireFault.cells a0)) (by decide) ty_fo63_2 rfl ?_
 refine o_loadE (v := .i a0.B) (by decide) rfl (part_one ty_agg3 ty_sc3 rfl) ?_
 refine o_build (cs := [.i x1, .i a0.A, .i a0.B]) (by decide) ty_zero63 ty_pl63 rfl ?_
 refine o_store (v := .agg [.i x1, .i a0.A, .i a0.B]) (ns := [.i x1, .i a0.A, .i a0.B]) (L' := [(g + 2 + 0, .row 3 5), (g + 1, .cells [.i x1, .i a0.A, .i a0.B])]) 1 hS rfl rfl (.st hS0 1 rfl (by omega)) rfl rfl ty_var63 (Nat.le_of_ble_eq_true rfl) rfl fun H hS => ?_
 refine run_nil ?_
 replace hS := hS.keep (L' := [(g + 1, .cells [.i x1, .i a0.A, .i a0.B])]) [false, true] rfl
 refine w_next [(2, .ptr (g + 1) 0)] (.k .nil) ?_
 refine r_ret ?_
 refine w_end (x := .agg [.i x1, .i a0.A, .i a0.B]) (f := fun r => .agg [.i r.Kind, .i r.A, .i r.B]) (.inr rfl) ?_ (.refl _) (Option.some.inj hM) hS
 exact (res_one (res_cell (x := .agg [.i x1, .i a0.A, .i a0.B]) 0 hS rfl rfl (part_agg ty_agg63 (Nat.le_of_ble_eq_true rfl) rfl)))
theorem W_ref11_Turned {n : Nat} {a0 : Wire} {a1 : List WireFault} {r : (List WireFault)} (hM : ref11_Turned n a0 a1 = some r) : PureSat Try.prog 52 [.agg (Wire.cells a0), .sl .no 3 (a1.map WireFault.cells)] (.sl .no 3 (r.map WireFault.cells)) := by
 refine pure_of_wp mixed Try.func52 rfl (by decide) Try.ntmps52 (by simp) ?pure fun H0 g hf => ?_
 case pure => exact .sl _ _ (pures_map (fun x => (pl_cons (.v _) (pl_cons (.v _) (pl_cons (.v _) pl_nil)))))
 rw [frame0_of]
 change wpA _ _ _ _ (Fr.of [(0, .agg (Wire.cells a0)), (1, .sl .no 3 (a1.map WireFault.cells))]) H0 g
 have hS := St.start hf
 refine r_seq ?_
 refine r_region (n := 2) rfl ?_
 refine o_box (v := .agg (Wire.cells a0)) (cs := (Wire.cells a0)) hS (by decide) rfl rfl (by omega) fun H hS => ?_
 refine o_assign (v := .sl .nil 0 []) (by decide) rfl ?_
 refine run_nil ?_
 refine w_iceE (L' := []) 0 2 hS rfl rfl rfl fun H hS => ?_
 refine w_next [(1, .sl .no 3 (a1.map WireFault.cells)), (2, .ep (Wire.cells a0))] (.k (.k .nil)) ?_
 refine r_seq ?_
 refine r_region (n := 1) rfl ?_
 refine o_assign (v := .sl .nil 0 []) (by decide) rfl ?_
 refine run_nil ?_
 refine w_own [(1, .sl .no 3 (a1.map WireFault.cells)), (2, .ep (Wire.cells a0)), (5, .sl (.id (g + 2 + 1)) 3 (([] : List WireFault).map WireFault.cells))] 5 3 63 hS (by omega) (by decide) rfl (.k (.k (.k .nil))) fun H hS => ?_
 refine r_seq ?_
 refine r_region (n := 4) rfl ?_
 refine o_loadE (v := .agg (Wire.cells a0)) (by decide) rfl (part_agg ty_agg24 (Nat.le_of_ble_eq_true rfl) rfl) ?_
 obtain ⟨r1, hr1, hM⟩ := bindE hM
 refine o_call (bs := [.agg (Wire.cells a0)]) (by decide) rfl rfl ((W_ref11_Exchanged hr1).le (.k .nil)) ?_
 obtain ⟨r2, hr2, hM⟩ := bindE hM
 refine o_call (bs := [.agg (Wire.cells r1)]) (by decide) rfl rfl ((W_ref11_AllFaults hr2).le (.k .nil)) ?_
 refine o_assign (v := .sl .no 3 (r2.map WireFault.cells)) (by decide) rfl ?_
 refine run_nil ?_
 refine w_next [(1, .sl .no 3 (a1.map WireFault.cells)), (5, .sl (.id (g + 2 + 1)) 3 (([] : List WireFault).map WireFault.cells)), (6, .sl .no 3 (r2.map WireFault.cells))] (.k (.k (.k .nil))) ?_
 refine w_join (J := (List WireFault)) (fun j => [(5, .sl (.id (g + 2 + 1)) 3 (j.map WireFault.cells))]) (fun j H' g' => St (· < g) H0 [(g + 2 + 1, .row 63 j.length)] H' g' ∧ ref11_Turned_j1 j = some r) ?_ ?_
 ·rintro v3 H g1 ⟨hS, hM⟩
  change wpA _ _ _ _ (Fr.of [(5, .sl (.id (g + 2 + 1)) 3 (v3.map WireFault.cells))]) _ _
  replace hS : St (· < g) H0 [(g + 2 + 1, .row 63 v3.length)] H g1 := hS
  replace hM : ref11_Turned_j1 v3 = some r := hM
  refine r_seq ?_
  refine r_region (n := 2) rfl ?_
  refine o_move (v := .sl (.id (g + 2 + 1)) 3 (v3.map WireFault.cells)) (by decide) rfl ?_
  refine o_assign (v := .sl (.id (g + 2 + 1)) 3 (v3.map WireFault.cells)) (by decide) rfl ?_
  refine run_nil ?_
  refine w_next [(4, .sl (.id (g + 2 + 1)) 3 (v3.map WireFault.cells))] (.k .nil) ?_
  refine r_ret ?_
  refine w_end (x := .sl (.id (g + 2 + 1)) 3 (v3.map WireFault.cells)) (f := fun r => .sl .no 3 (r.map WireFault.cells)) (.inr rfl) ?_ (.sl _ _ _) (Option.some.inj hM) hS
  exact (res_one (res_tmp (x := .sl (.id (g + 2 + 1)) 3 (v3.map WireFault.cells)) rfl))
 ·refine r_seq ?_
  refine r_region (n := 1) rfl ?_
  refine o_assign (v := .i 0) (by decide) rfl ?_
  refine run_nil ?_
  refine w_next [(1, .sl .no 3 (a1.map WireFault.cells)), (5, .sl (.id (g + 2 + 1)) 3 (([] : List WireFault).map WireFault.cells)), (6, .sl .no 3 (r2.map WireFault.cells)), (7, .i 0)] (.k (.k (.k (.k .nil)))) ?_
  refine r_block ?_
  refine w_loop (V := (List WireFault) × Int) (fun v => [(1, .sl .no 3 (a1.map WireFault.cells)), (5, .sl (.id (g + 2 + 1)) 3 (v.1.map WireFault.cells)), (6, .sl .no 3 (r2.map WireFault.cells)), (7, .i v.2)]) (fun v m2 H' g' => St (· < g) H0 [(g + 2 + 1, .row 63 v.1.length)] H' g' ∧ ref11_Turned_l1 n a1 r2 m2 v.1 v.2 = some r) (n := n) (([] : List WireFault), 0) (.k (.k (.k (.k .nil)))) ⟨(hS.keep [true] rfl).up (by omega), hM⟩ ?_
  rintro ⟨v4, v5⟩ m2 H g2 ⟨hS, hM⟩
  obtain _ | m2 := m2
  ·exact nomatch (show none = some _ from hM)
  change wpA _ _ _ _ (Fr.of [(1, .sl .no 3 (a1.map WireFault.cells)), (5, .sl (.id (g + 2 + 1)) 3 (v4.map WireFault.cells)), (6, .sl .no 3 (r2.map WireFault.cells)), (7, .i v5)]) _ _
  replace hS : St (· < g) H0 [(g + 2 + 1, .row 63 v4.length)] H g2 := hS
  replace hM : ref11_Turned_l1_b n a1 r2 (ref11_Turned_l1 n a1 r2 m2) v4 v5 = some r := hM
  refine r_seq ?_
  refine r_seq ?_
  refine r_region (n := 4) rfl ?_
  refine o_move (v := .i v5) (by decide) rfl ?_
  refine o_move (v := .sl .no 3 (r2.map WireFault.cells)) (by decide) rfl ?_
  refine o_len (n := r2.length) (by decide) rfl (List.length_map _) ty_isl31 ?_
  refine o_int (v := .b (decide (v5 < (r2.length : Int)))) (by decide) rfl rfl rfl ?_
  refine run_nil ?_
  refine w_next [(1, .sl .no 3 (a1.map WireFault.cells)), (5, .sl (.id (g + 2 + 1)) 3 (v4.map WireFault.cells)), (6, .sl .no 3 (r2.map WireFault.cells)), (7, .i v5), (14, .b (decide (v5 < (r2.length : Int))))] (.k (.k (.k (.k (.k .nil))))) ?_
  rcases Bool.eq_false_or_eq_true (decide (v5 < (r2.length : Int))) with hb6 | hb6
  ·replace hM := ifT hM hb6
   refine w_condT (e := (decide (v5 < (r2.length : Int)))) rfl hb6 ?_
   refine r_skip ?_
   refine w_next [(1, .sl .no 3 (a1.map WireFault.cells)), (5, .sl (.id (g + 2 + 1)) 3 (v4.map WireFault.cells)), (6, .sl .no 3 (r2.map WireFault.cells)), (7, .i v5)] (.k (.k (.k (.k .nil)))) ?_
   refine w_join (J := (List WireFault)) (fun j => [(1, .sl .no 3 (a1.map WireFault.cells)), (5, .sl (.id (g + 2 + 1)) 3 (j.map WireFault.cells)), (6, .sl .no 3 (r2.map WireFault.cells)), (7, .i v5)]) (fun j H' g' => St (· < g) H0 [(g + 2 + 1, .row 63 j.length)] H' g' ∧ ref11_Turned_j2 (ref11_Turned_l1 n a1 r2 m2) v5 j = some r) ?_ ?_
   ·rintro v7 H g3 ⟨hS, hM⟩
    change wpA _ _ _ _ (Fr.of [(1, .sl .no 3 (a1.map WireFault.cells)), (5, .sl (.id (g + 2 + 1)) 3 (v7.map WireFault.cells)), (6, .sl .no 3 (r2.map WireFault.cells)), (7, .i v5)]) _ _
    replace hS : St (· < g) H0 [(g + 2 + 1, .row 63 v7.length)] H g3 := hS
    replace hM : ref11_Turned_j2 (ref11_Turned_l1 n a1 r2 m2) v5 v7 = some r := hM
    refine r_region (n := 3) rfl ?_
    refine o_move (v := .i v5) (by decide) rfl ?_
    refine o_int (v := .i (w64 (v5 + 1))) (by decide) rfl rfl rfl ?_
    refine o_assign (v := .i (w64 (v5 + 1))) (by decide) rfl ?_
    refine run_nil ?_
    exact w_round (v7, w64 (v5 + 1)) (Nat.lt_succ_self _) (.k (.k (.k (.k .nil)))) ⟨(hS.keep [true] rfl).up (by omega), hM⟩
   ·refine r_block ?_
    refine r_seq ?_
    refine r_region (n := 7) rfl ?_
    refine o_move (v := .sl .no 3 (a1.map WireFault.cells)) (by decide) rfl ?_
    refine o_move (v := .sl .no 3 (r2.map WireFault.cells)) (by decide) rfl ?_
    refine o_move (v := .i v5) (by decide) rfl ?_
    obtain ⟨x8, hx8, hM⟩ := bindE hM
    refine o_index (xs := r2) (f := WireFault.cells) (z := v5) (u := x8) (by decide) rfl rfl ty_es31 hx8 ?_
    refine o_loadE (v := .agg (WireFault.cells x8)) (by decide) rfl (part_agg ty_agg63 (Nat.le_of_ble_eq_true rfl) rfl) ?_
    obtain ⟨r9, hr9, hM⟩ := bindE hM
    refine o_call (bs := [.agg (WireFault.cells x8)]) (by decide) rfl rfl ((W_ref11_turned hr9).le (.k .nil)) ?_
    obtain ⟨r10, hr10, hM⟩ := bindE hM
    refine o_call (bs := [.sl .no 3 (a1.map WireFault.cells), .agg (WireFault.cells r9)]) (by decide) rfl rfl ((W_ref11_Has hr10).le (.k (.k .nil))) ?_
    refine run_nil ?_
    refine w_next [(1, .sl .no 3 (a1.map WireFault.cells)), (5, .sl (.id (g + 2 + 1)) 3 (v4.map WireFault.cells)), (6, .sl .no 3 (r2.map WireFault.cells)), (7, .i v5), (23, .b r10)] (.k (.k (.k (.k (.k .nil))))) ?_
    rcases Bool.eq_false_or_eq_true r10 with hb11 | hb11
    ·replace hM := ifT hM hb11
     refine w_condT (e := r10) rfl hb11 ?_
     refine r_region (n := 8) rfl ?_
     refine o_move (v := .sl (.id (g + 2 + 1)) 3 (v4.map WireFault.cells)) (by decide) rfl ?_
     refine o_move (v := .sl .no 3 (r2.map WireFault.cells)) (by decide) rfl ?_
     refine o_move (v := .i v5) (by decide) rfl ?_
     obtain ⟨x12, hx12, hM⟩ := bindE hM
     refine o_index (xs := r2) (f := WireFault.cells) (z := v5) (u := x12) (by decide) rfl rfl ty_es31 hx12 ?_
     refine o_loadE (v := .agg (WireFault.cells x12)) (by decide) rfl (part_agg ty_agg63 (Nat.le_of_ble_eq_true rfl) rfl) ?_
     refine o_buildSlice (es := [(WireFault.cells x12)]) hS (by decide) ty_es31 ty_el31 rfl ty_ef31 rfl (by decide) (by omega) fun H hS => ?_
     obtain ⟨l13, hl13, hM⟩ := bindE hM
     refine o_append (xs := v4) (ys := ([x12] : List WireFault)) (zs := l13) (f := WireFault.cells) (L' := [(g2 + 4 + 7 + 5, .row 63 1), (g + 2 + 1, .row 63 l13.length)]) 1 hS (by decide) rfl rfl rfl rfl .no ty_es31 ty_el31 ty_ef31 hl13 rfl fun H hS => ?_
     refine o_assign (v := .sl (.id (g + 2 + 1)) 3 (l13.map WireFault.cells)) (by decide) rfl ?_
     refine run_nil ?_
     refine r_blk_normal ?_
     exact w_goto l13 (.k (.k (.k (.k .nil)))) ⟨(hS.keep [false, true] rfl).up (by omega), hM⟩
    ·replace hM := ifF hM hb11
     refine w_condF (e := r10) rfl hb11 ?_
     refine r_skip ?_
     refine r_blk_normal ?_
     exact w_goto v4 (.k (.k (.k (.k .nil)))) ⟨(hS.keep [true] rfl).up (by omega), hM⟩
  ·replace hM := ifF hM hb6
   refine w_condF (e := (decide (v5 < (r2.length : Int)))) rfl hb6 ?_
   refine r_exit ?_
   refine r_then_exit ?_
   refine w_round_exit ?_
   refine r_blk_exit ?_
   exact w_goto v4 (.k .nil) ⟨(hS.keep [true] rfl).up (by omega), hM⟩
theorem W_law11_WiresTurned {n : Nat} {a0 : Wire} {a1 : Ask_} {r : Bool} (hM : law11_WiresTurned n a0 a1 = some r) : PureSat Try.prog 13 [.agg (Wire.cells a0), .agg [.i a1.Letter, .i a1.Number]] (.b r) := by
 refine pure_of_wp mixed Try.func13 rfl (by decide) Try.ntmps13 (by simp) ?pure fun H0 g hf => ?_
 case pure => exact .v _
 rw [frame0_of]
 change wpA _ _ _ _ (Fr.of [(0, .agg (Wire.cells a0)), (1, .agg [.i a1.Letter, .i a1.Number])]) H0 g
 have hS := St.start hf
 refine r_seq ?_
 refine r_region (n := 3) rfl ?_
 refine o_box (v := .agg (Wire.cells a0)) (cs := (Wire.cells a0)) hS (by decide) rfl rfl (by omega) fun H hS => ?_
 refine o_box (v := .agg [.i a1.Letter, .i a1.Number]) (cs := [.i a1.Letter, .i a1.Number]) hS (by decide) rfl rfl (by omega) fun H hS => ?_
 refine o_assign (v := .b false) (by decide) rfl ?_
 refine run_nil ?_
 refine w_iceE (L' := [(g + 1, .cells [.i a1.Letter, .i a1.Number])]) 1 2 hS rfl rfl rfl fun H hS => ?_
 refine w_iceE (L' := []) 0 3 hS rfl rfl rfl fun H hS => ?_
 refine w_next [(2, .ep (Wire.cells a0)), (3, .ep [.i a1.Letter, .i a1.Number])] (.k (.k .nil)) ?_
 refine r_seq ?_
 refine w_join (J := Bool) (fun j => [(2, .ep (Wire.cells a0)), (3, .ep [.i a1.Letter, .i a1.Number]), (33, .b j)]) (fun j H' g' => St (· < g) H0 [] H' g' ∧ law11_WiresTurned_j1 n a0 a1 j = some r) ?_ ?_
 ·rintro v1 H g1 ⟨hS, hM⟩
  change wpA _ _ _ _ (Fr.of [(2, .ep (Wire.cells a0)), (3, .ep [.i a1.Letter, .i a1.Number]), (33, .b v1)]) _ _
  replace hS : St (· < g) H0 [] H g1 := hS
  replace hM : law11_WiresTurned_j1 n a0 a1 v1 = some r := hM
  rcases Bool.eq_false_or_eq_true v1 with hb2 | hb2
  ·replace hM := ifT hM hb2
   refine w_condT (e := v1) rfl hb2 ?_
   refine r_seq ?_
   refine r_region (n := 2) rfl ?_
   obtain ⟨r3, hr3, hM⟩ := bindE hM
   refine o_call (bs := []) (by decide) rfl rfl ((W_law11_works hr3).le .nil) ?_
   refine o_assign (v := .b r3) (by decide) rfl ?_
   refine run_nil ?_
   refine w_next [(4, .b r3)] (.k .nil) ?_
   refine r_ret ?_
   refine r_then_ret ?_
   refine w_end (x := .b r3) (f := fun r => .b r) (.inr rfl) ?_ (.refl _) (Option.some.inj hM) hS
   exact (res_one (res_tmp (x := .b r3) rfl))
  ·replace hM := ifF hM hb2
   refine w_condF (e := v1) rfl hb2 ?_
   refine r_skip ?_
   refine w_next [(2, .ep (Wire.cells a0)), (3, .ep [.i a1.Letter, .i a1.Number])] (.k (.k .nil)) ?_
   refine r_seq ?_
   refine r_region (n := 4) rfl ?_
   refine o_loadE (v := .agg (Wire.cells a0)) (by decide) rfl (part_agg ty_agg24 (Nat.le_of_ble_eq_true rfl) rfl) ?_
   obtain ⟨r4, hr4, hM⟩ := bindE hM
   refine o_call (bs := [.agg (Wire.cells a0)]) (by decide) rfl rfl ((W_ref11_Exchanged hr4).le (.k .nil)) ?_
   refine o_alloc hS (by decide) ty_zero24 (by omega) fun H hS => ?_
   refine o_store (v := .agg (Wire.cells r4)) (ns := (Wire.cells r4)) (L' := [(g1 + 2, .cells (Wire.cells r4))]) 0 hS rfl rfl .no rfl rfl ty_var24 (Nat.le_of_ble_eq_true rfl) rfl fun H hS => ?_
   refine run_nil ?_
   refine w_iceE (L' := []) 0 5 hS rfl rfl rfl fun H hS => ?_
   refine w_next [(2, .ep (Wire.cells a0)), (3, .ep [.i a1.Letter, .i a1.Number]), (5, .ep (Wire.cells r4))] (.k (.k (.k .nil))) ?_
   refine r_seq ?_
   refine r_region (n := 7) rfl ?_
   refine o_loadE (v := .agg (Wire.cells a0)) (by decide) rfl (part_agg ty_agg24 (Nat.le_of_ble_eq_true rfl) rfl) ?_
   obtain ⟨r5, hr5, hM⟩ := bindE hM
   refine o_call (bs := [.agg (Wire.cells a0)]) (by decide) rfl rfl ((W_wires_Many hr5).le (.k .nil)) ?_
   refine o_move (v := .tup [.i r5.1, .i r5.2]) (by decide) rfl ?_
   refine o_extract (v := .i r5.1) (by decide) rfl rfl ?_
   refine o_extract (v := .i r5.2) (by decide) rfl rfl ?_
   refine o_assign (v := .i r5.1) (by decide) rfl ?_
   refine o_assign (v := .i r5.2) (by decide) rfl ?_
   refine run_nil ?_
   refine w_next [(2, .ep (Wire.cells a0)), (3, .ep [.i a1.Letter, .i a1.Number]), (5, .ep (Wire.cells r4)), (6, .i r5.1), (7, .i r5.2)] (.k (.k (.k (.k (.k .nil))))) ?_
   refine r_seq ?_
   refine r_region (n := 7) rfl ?_
   refine o_loadE (v := .agg (Wire.cells r4)) (by decide) rfl (part_agg ty_agg24 (Nat.le_of_ble_eq_true rfl) rfl) ?_
   obtain ⟨r6, hr6, hM⟩ := bindE hM
   refine o_call (bs := [.agg (Wire.cells r4)]) (by decide) rfl rfl ((W_wires_Many hr6).le (.k .nil)) ?_
   refine o_move (v := .tup [.i r6.1, .i r6.2]) (by decide) rfl ?_
   refine o_extract (v := .i r6.1) (by decide) rfl rfl ?_
   refine o_extract (v := .i r6.2) (by decide) rfl rfl ?_
   refine o_assign (v := .i r6.1) (by decide) rfl ?_
   refine o_assign (v := .i r6.2) (by decide) rfl ?_
   refine run_nil ?_
   refine w_next [(2, .ep (Wire.cells a0)), (3, .ep [.i a1.Letter, .i a1.Number]), (5, .ep (Wire.cells r4)), (6, .i r5.1), (7, .i r5.2), (8, .i r6.1), (9, .i r6.2)] (.k (.k (.k (.k (.k (.k (.k .nil))))))) ?_
   refine r_seq ?_
   refine r_region (n := 7) rfl ?_
   refine o_loadE (v := .agg (Wire.cells a0)) (by decide) rfl (part_agg ty_agg24 (Nat.le_of_ble_eq_true rfl) rfl) ?_
   obtain ⟨r7, hr7, hM⟩ := bindE hM
   refine o_call (bs := [.agg (Wire.cells a0)]) (by decide) rfl rfl ((W_wires_Fewest hr7).le (.k .nil)) ?_
   refine o_move (v := .tup [.i r7.1, .i r7.2]) (by decide) rfl ?_
   refine o_extract (v := .i r7.1) (by decide) rfl rfl ?_
   refine o_extract (v := .i r7.2) (by decide) rfl rfl ?_
   refine o_assign (v := .i r7.1) (by decide) rfl ?_
   refine o_assign (v := .i r7.2) (by decide) rfl ?_
   refine run_nil ?_
   refine w_next [(2, .ep (Wire.cells a0)), (3, .ep [.i a1.Letter, .i a1.Number]), (5, .ep (Wire.cells r4)), (6, .i r5.1), (7, .i r5.2), (8, .i r6.1), (9, .i r6.2), (10, .i r7.1), (11, .i r7.2)] (.k (.k (.k (.k (.k (.k (.k (.k (.k .nil))))))))) ?_
   refine r_seq ?_
   refine r_region (n := 7) rfl ?_
   refine o_loadE (v := .agg (Wire.cells r4)) (by decide) rfl (part_agg ty_agg24 (Nat.le_of_ble_eq_true rfl) rfl) ?_
   obtain ⟨r8, hr8, hM⟩ := bindE hM
   refine o_call (bs := [.agg (Wire.cells r4)]) (by decide) rfl rfl ((W_wires_Fewest hr8).le (.k .nil)) ?_
   refine o_move (v := .tup [.i r8.1, .i r8.2]) (by decide) rfl ?_
   refine o_extract (v := .i r8.1) (by decide) rfl rfl ?_
   refine o_extract (v := .i r8.2) (by decide) rfl rfl ?_
   refine o_assign (v := .i r8.1) (by decide) rfl ?_
   refine o_assign (v := .i r8.2) (by decide) rfl ?_
   refine run_nil ?_
   refine w_next [(2, .ep (Wire.cells a0)), (3, .ep [.i a1.Letter, .i a1.Number]), (5, .ep (Wire.cells r4)), (6, .i r5.1), (7, .i r5.2), (8, .i r6.1), (9, .i r6.2), (10, .i r7.1), (11, .i r7.2), (12, .i r8.1), (13, .i r8.2)] (.k (.k (.k (.k (.k (.k (.k (.k (.k (.k (.k .nil))))))))))) ?_
   refine r_seq ?_
   refine w_join (J := Bool) (fun j => [(2, .ep (Wire.cells a0)), (3, .ep [.i a1.Letter, .i a1.Number]), (5, .ep (Wire.cells r4)), (74, .b j)]) (fun j H' g' => St (· < g) H0 [] H' g' ∧ law11_WiresTurned_j2 n a0 a1 r4 j = some r) ?_ ?_
   ·rintro v9 H g2 ⟨hS, hM⟩
    change wpA _ _ _ _ (Fr.of [(2, .ep (Wire.cells a0)), (3, .ep [.i a1.Letter, .i a1.Number]), (5, .ep (Wire.cells r4)), (74, .b v9)]) _ _
    replace hS : St (· < g) H0 [] H g2 := hS
    replace hM : law11_WiresTurned_j2 n a0 a1 r4 v9 = some r := hM
    rcases Bool.eq_false_or_eq_true v9 with hb10 | hb10
    ·replace hM := ifT hM hb10
     refine w_condT (e := v9) rfl hb10 ?_
     refine r_seq ?_
     refine r_region (n := 1) rfl ?_
     refine o_assign (v := .b false) (by decide) rfl ?_
     refine run_nil ?_
     refine w_next [(4, .b false)] (.k .nil) ?_
     refine r_ret ?_
     refine r_then_ret ?_
     refine w_end (x := .b false) (f := fun r => .b r) (.inr rfl) ?_ (.refl _) (Option.some.inj hM) hS
     exact (res_one (res_tmp (x := .b false) rfl))
    ·replace hM := ifF hM hb10
     refine w_condF (e := v9) rfl hb10 ?_
     refine r_skip ?_
     refine w_next [(2, .ep (Wire.cells a0)), (3, .ep [.i a1.Letter, .i a1.Number]), (5, .ep (Wire.cells r4))] (.k (.k (.k .nil))) ?_
     refine r_seq ?_
     refine r_region (n := 7) rfl ?_
     refine o_loadE (v := .agg (Wire.cells a0)) (by decide) rfl (part_agg ty_agg24 (Nat.le_of_ble_eq_true rfl) rfl) ?_
     obtain ⟨r11, hr11, hM⟩ := bindE hM
     refine o_call (bs := [.agg (Wire.cells a0)]) (by decide) rfl rfl ((W_wires_First hr11).le (.k .nil)) ?_
     refine o_move (v := .tup [.i r11.1, .i r11.2]) (by decide) rfl ?_
     refine o_extract (v := .i r11.1) (by decide) rfl rfl ?_
     refine o_extract (v := .i r11.2) (by decide) rfl rfl ?_
     refine o_assign (v := .i r11.1) (by decide) rfl ?_
     refine o_assign (v := .i r11.2) (by decide) rfl ?_
     refine run_nil ?_
     refine w_next [(2, .ep (Wire.cells a0)), (3, .ep [.i a1.Letter, .i a1.Number]), (5, .ep (Wire.cells r4)), (10, .i r11.1), (11, .i r11.2)] (.k (.k (.k (.k (.k .nil))))) ?_
     refine r_seq ?_
     refine r_region (n := 7) rfl ?_
     refine o_loadE (v := .agg (Wire.cells r4)) (by decide) rfl (part_agg ty_agg24 (Nat.le_of_ble_eq_true rfl) rfl) ?_
     obtain ⟨r12, hr12, hM⟩ := bindE hM
     refine o_call (bs := [.agg (Wire.cells r4)]) (by decide) rfl rfl ((W_wires_First hr12).le (.k .nil)) ?_
     refine o_move (v := .tup [.i r12.1, .i r12.2]) (by decide) rfl ?_
     refine o_extract (v := .i r12.1) (by decide) rfl rfl ?_
     refine o_extract (v := .i r12.2) (by decide) rfl rfl ?_
     refine o_assign (v := .i r12.1) (by decide) rfl ?_
     refine o_assign (v := .i r12.2) (by decide) rfl ?_
     refine run_nil ?_
     refine w_next [(2, .ep (Wire.cells a0)), (3, .ep [.i a1.Letter, .i a1.Number]), (5, .ep (Wire.cells r4)), (10, .i r11.1), (11, .i r11.2), (12, .i r12.1), (13, .i r12.2)] (.k (.k (.k (.k (.k (.k (.k .nil))))))) ?_
     refine r_seq ?_
     refine r_region (n := 11) rfl ?_
     refine o_loadE (v := .agg (Wire.cells a0)) (by decide) rfl (part_agg ty_agg24 (Nat.le_of_ble_eq_true rfl) rfl) ?_
     refine o_fieldE (cs := [.i a1.Letter, .i a1.Number]) (by decide) ty_fo38_0 rfl ?_
     refine o_loadE (v := .i a1.Letter) (by decide) rfl (part_one ty_agg3 ty_sc3 rfl) ?_
     refine o_fieldE (cs := [.i a1.Letter, .i a1.Number]) (by decide) ty_fo38_1 rfl ?_
     refine o_loadE (v := .i a1.Number) (by decide) rfl (part_one ty_agg3 ty_sc3 rfl) ?_
     obtain ⟨r13, hr13, hM⟩ := bindE hM
     refine o_call (bs := [.agg (Wire.cells a0), .i a1.Letter, .i a1.Number]) (by decide) rfl rfl ((W_wires_Left hr13).le (.k (.k (.k .nil)))) ?_
     refine o_move (v := .tup [.i r13.1, .i r13.2]) (by decide) rfl ?_
     refine o_extract (v := .i r13.1) (by decide) rfl rfl ?_
     refine o_extract (v := .i r13.2) (by decide) rfl rfl ?_
     refine o_assign (v := .i r13.1) (by decide) rfl ?_
     refine o_assign (v := .i r13.2) (by decide) rfl ?_
     refine run_nil ?_
     refine w_next [(2, .ep (Wire.cells a0)), (3, .ep [.i a1.Letter, .i a1.Number]), (5, .ep (Wire.cells r4)), (10, .i r11.1), (11, .i r11.2), (12, .i r12.1), (13, .i r12.2), (14, .i r13.1), (15, .i r13.2)] (.k (.k (.k (.k (.k (.k (.k (.k (.k .nil))))))))) ?_
     refine r_seq ?_
     refine r_region (n := 11) rfl ?_
     refine o_loadE (v := .agg (Wire.cells r4)) (by decide) rfl (part_agg ty_agg24 (Nat.le_of_ble_eq_true rfl) rfl) ?_
     refine o_fieldE (cs := [.i a1.Letter, .i a1.Number]) (by decide) ty_fo38_1 rfl ?_
     refine o_loadE (v := .i a1.Number) (by decide) rfl (part_one ty_agg3 ty_sc3 rfl) ?_
     refine o_fieldE (cs := [.i a1.Letter, .i a1.Number]) (by decide) ty_fo38_0 rfl ?_
     refine o_loadE (v := .i a1.Letter) (by decide) rfl (part_one ty_agg3 ty_sc3 rfl) ?_
     obtain ⟨r14, hr14, hM⟩ := bindE hM
     refine o_call (bs := [.agg (Wire.cells r4), .i a1.Number, .i a1.Letter]) (by decide) rfl rfl ((W_wires_Left hr14).le (.k (.k (.k .nil)))) ?_
     refine o_move (v := .tup [.i r14.1, .i r14.2]) (by decide) rfl ?_
     refine o_extract (v := .i r14.1) (by decide) rfl rfl ?_
     refine o_extract (v := .i r14.2) (by decide) rfl rfl ?_
     refine o_assign (v := .i r14.1) (by decide) rfl ?_
     refine o_assign (v := .i r14.2) (by decide) rfl ?_
     refine run_nil ?_
     refine w_next [(2, .ep (Wire.cells a0)), (5, .ep (Wire.cells r4)), (10, .i r11.1), (11, .i r11.2), (12, .i r12.1), (13, .i r12.2), (14, .i r13.1), (15, .i r13.2), (16, .i r14.1), (17, .i r14.2)] (.k (.k (.k (.k (.k (.k (.k (.k (.k (.k .nil)))))))))) ?_
     refine r_seq ?_
     refine w_join (J := Bool) (fun j => [(2, .ep (Wire.cells a0)), (5, .ep (Wire.cells r4)), (120, .b j)]) (fun j H' g' => St (· < g) H0 [] H' g' ∧ law11_WiresTurned_j3 n a0 r4 j = some r) ?_ ?_
     ·rintro v15 H g3 ⟨hS, hM⟩
      change wpA _ _ _ _ (Fr.of [(2, .ep (Wire.cells a0)), (5, .ep (Wire.cells r4)), (120, .b v15)]) _ _
      replace hS : St (· < g) H0 [] H g3 := hS
      replace hM : law11_WiresTurned_j3 n a0 r4 v15 = some r := hM
      rcases Bool.eq_false_or_eq_true v15 with hb16 | hb16
      ·replace hM := ifT hM hb16
       refine w_condT (e := v15) rfl hb16 ?_
       refine r_seq ?_
       refine r_region (n := 1) rfl ?_
       refine o_assign (v := .b false) (by decide) rfl ?_
       refine run_nil ?_
       refine w_next [(4, .b false)] (.k .nil) ?_
       refine r_ret ?_
       refine r_then_ret ?_
       refine w_end (x := .b false) (f := fun r => .b r) (.inr rfl) ?_ (.refl _) (Option.some.inj hM) hS
       exact (res_one (res_tmp (x := .b false) rfl))
      ·replace hM := ifF hM hb16
       refine w_condF (e := v15) rfl hb16 ?_
       refine r_skip ?_
       refine w_next [(2, .ep (Wire.cells a0)), (5, .ep (Wire.cells r4))] (.k (.k .nil)) ?_
       refine r_seq ?_
       refine r_region (n := 7) rfl ?_
       refine o_loadE (v := .agg (Wire.cells a0)) (by decide) rfl (part_agg ty_agg24 (Nat.le_of_ble_eq_true rfl) rfl) ?_
       obtain ⟨r17, hr17, hM⟩ := bindE hM
       refine o_call (bs := [.agg (Wire.cells a0)]) (by decide) rfl rfl ((W_wires_Sure hr17).le (.k .nil)) ?_
       refine o_move (v := .tup [.sl .no 3 (r17.1.map WireFault.cells), .i r17.2]) (by decide) rfl ?_
       refine o_extract (v := .sl .no 3 (r17.1.map WireFault.cells)) (by decide) rfl rfl ?_
       refine o_extract (v := .i r17.2) (by decide) rfl rfl ?_
       refine o_assign (v := .sl .no 3 (r17.1.map WireFault.cells)) (by decide) rfl ?_
       refine o_assign (v := .i r17.2) (by decide) rfl ?_
       refine run_nil ?_
       refine w_next [(2, .ep (Wire.cells a0)), (5, .ep (Wire.cells r4)), (11, .i r17.2), (18, .sl .no 3 (r17.1.map WireFault.cells))] (.k (.k (.k (.k .nil)))) ?_
       refine r_seq ?_
       refine r_region (n := 7) rfl ?_
       refine o_loadE (v := .agg (Wire.cells r4)) (by decide) rfl (part_agg ty_agg24 (Nat.le_of_ble_eq_true rfl) rfl) ?_
       obtain ⟨r18, hr18, hM⟩ := bindE hM
       refine o_call (bs := [.agg (Wire.cells r4)]) (by decide) rfl rfl ((W_wires_Sure hr18).le (.k .nil)) ?_
       refine o_move (v := .tup [.sl .no 3 (r18.1.map WireFault.cells), .i r18.2]) (by decide) rfl ?_
       refine o_extract (v := .sl .no 3 (r18.1.map WireFault.cells)) (by decide) rfl rfl ?_
       refine o_extract (v := .i r18.2) (by decide) rfl rfl ?_
       refine o_assign (v := .sl .no 3 (r18.1.map WireFault.cells)) (by decide) rfl ?_
       refine o_assign (v := .i r18.2) (by decide) rfl ?_
       refine run_nil ?_
       refine w_next [(2, .ep (Wire.cells a0)), (5, .ep (Wire.cells r4)), (11, .i r17.2), (13, .i r18.2), (18, .sl .no 3 (r17.1.map WireFault.cells)), (19, .sl .no 3 (r18.1.map WireFault.cells))] (.k (.k (.k (.k (.k (.k .nil)))))) ?_
       refine r_seq ?_
       refine r_region (n := 7) rfl ?_
       refine o_loadE (v := .agg (Wire.cells a0)) (by decide) rfl (part_agg ty_agg24 (Nat.le_of_ble_eq_true rfl) rfl) ?_
       obtain ⟨r19, hr19, hM⟩ := bindE hM
       refine o_call (bs := [.agg (Wire.cells a0)]) (by decide) rfl rfl ((W_wires_Maybe hr19).le (.k .nil)) ?_
       refine o_move (v := .tup [.sl .no 3 (r19.1.map WireFault.cells), .i r19.2]) (by decide) rfl ?_
       refine o_extract (v := .sl .no 3 (r19.1.map WireFault.cells)) (by decide) rfl rfl ?_
       refine o_extract (v := .i r19.2) (by decide) rfl rfl ?_
       refine o_assign (v := .sl .no 3 (r19.1.map WireFault.cells)) (by decide) rfl ?_
       refine o_assign (v := .i r19.2) (by decide) rfl ?_
       refine run_nil ?_
       refine w_next [(2, .ep (Wire.cells a0)), (5, .ep (Wire.cells r4)), (11, .i r17.2), (13, .i r18.2), (15, .i r19.2), (18, .sl .no 3 (r17.1.map WireFault.cells)), (19, .sl .no 3 (r18.1.map WireFault.cells)), (20, .sl .no 3 (r19.1.map WireFault.cells))] (.k (.k (.k (.k (.k (.k (.k (.k .nil)))))))) ?_
       refine r_seq ?_
       refine r_region (n := 7) rfl ?_
       refine o_loadE (v := .agg (Wire.cells r4)) (by decide) rfl (part_agg ty_agg24 (Nat.le_of_ble_eq_true rfl) rfl) ?_
       obtain ⟨r20, hr20, hM⟩ := bindE hM
       refine o_call (bs := [.agg (Wire.cells r4)]) (by decide) rfl rfl ((W_wires_Maybe hr20).le (.k .nil)) ?_
       refine o_move (v := .tup [.sl .no 3 (r20.1.map WireFault.cells), .i r20.2]) (by decide) rfl ?_
       refine o_extract (v := .sl .no 3 (r20.1.map WireFault.cells)) (by decide) rfl rfl ?_
       refine o_extract (v := .i r20.2) (by decide) rfl rfl ?_
       refine o_assign (v := .sl .no 3 (r20.1.map WireFault.cells)) (by decide) rfl ?_
       refine o_assign (v := .i r20.2) (by decide) rfl ?_
       refine run_nil ?_
       refine w_next [(2, .ep (Wire.cells a0)), (11, .i r17.2), (13, .i r18.2), (15, .i r19.2), (17, .i r20.2), (18, .sl .no 3 (r17.1.map WireFault.cells)), (19, .sl .no 3 (r18.1.map WireFault.cells)), (20, .sl .no 3 (r19.1.map WireFault.cells)), (21, .sl .no 3 (r20.1.map WireFault.cells))] (.k (.k (.k (.k (.k (.k (.k (.k (.k .nil))))))))) ?_
       refine r_seq ?_
       refine w_join (J := Bool) (fun j => [(2, .ep (Wire.cells a0)), (18, .sl .no 3 (r17.1.map WireFault.cells)), (19, .sl .no 3 (r18.1.map WireFault.cells)), (20, .sl .no 3 (r19.1.map WireFault.cells)), (21, .sl .no 3 (r20.1.map WireFault.cells)), (162, .b j)]) (fun j H' g' => St (· < g) H0 [] H' g' ∧ law11_WiresTurned_j4 n a0 r17 r18 r19 r20 j = some r) ?_ ?_
       ·rintro v21 H g4 ⟨hS, hM⟩
        change wpA _ _ _ _ (Fr.of [(2, .ep (Wire.cells a0)), (18, .sl .no 3 (r17.1.map WireFault.cells)), (19, .sl .no 3 (r18.1.map WireFault.cells)), (20, .sl .no 3 (r19.1.map WireFault.cells)), (21, .sl .no 3 (r20.1.map WireFault.cells)), (162, .b v21)]) _ _
        replace hS : St (· < g) H0 [] H g4 := hS
        replace hM : law11_WiresTurned_j4 n a0 r17 r18 r19 r20 v21 = some r := hM
        rcases Bool.eq_false_or_eq_true v21 with hb22 | hb22
        ·replace hM := ifT hM hb22
         refine w_condT (e := v21) rfl hb22 ?_
         refine r_seq ?_
         refine r_region (n := 1) rfl ?_
         refine o_assign (v := .b false) (by decide) rfl ?_
         refine run_nil ?_
         refine w_next [(4, .b false)] (.k .nil) ?_
         refine r_ret ?_
         refine r_then_ret ?_
         refine w_end (x := .b false) (f := fun r => .b r) (.inr rfl) ?_ (.refl _) (Option.some.inj hM) hS
         exact (res_one (res_tmp (x := .b false) rfl))
        ·replace hM := ifF hM hb22
         refine w_condF (e := v21) rfl hb22 ?_
         refine r_skip ?_
         refine w_next [(2, .ep (Wire.cells a0)), (18, .sl .no 3 (r17.1.map WireFault.cells)), (19, .sl .no 3 (r18.1.map WireFault.cells)), (20, .sl .no 3 (r19.1.map WireFault.cells)), (21, .sl .no 3 (r20.1.map WireFault.cells))] (.k (.k (.k (.k (.k .nil))))) ?_
         refine w_join (J := Bool) (fun j => [(4, .b j)]) (fun j H' g' => St (· < g) H0 [] H' g' ∧ law11_WiresTurned_j5 j = some r) ?_ ?_
         ·rintro v23 H g5 ⟨hS, hM⟩
          change wpA _ _ _ _ (Fr.of [(4, .b v23)]) _ _
          replace hS : St (· < g) H0 [] H g5 := hS
          replace hM : law11_WiresTurned_j5 v23 = some r := hM
          refine r_ret ?_
          refine w_end (x := .b v23) (f := fun r => .b r) (.inr rfl) ?_ (.refl _) (Option.some.inj hM) hS
          exact (res_one (res_tmp (x := .b v23) rfl))
         ·refine r_region (n := 16) rfl ?_
          refine o_loadE (v := .agg (Wire.cells a0)) (by decide) rfl (part_agg ty_agg24 (Nat.le_of_ble_eq_true rfl) rfl) ?_
          refine o_move (v := .sl .no 3 (r17.1.map WireFault.cells)) (by decide) rfl ?_
          obtain ⟨r24, hr24, hM⟩ := bindE hM
          refine o_call (bs := [.agg (Wire.cells a0), .sl .no 3 (r17.1.map WireFault.cells)]) (by decide) rfl rfl ((W_ref11_Turned hr24).le (.k (.k .nil))) ?_
          refine o_move (v := .sl .no 3 (r18.1.map WireFault.cells)) (by decide) rfl ?_
          obtain ⟨r25, hr25, hM⟩ := bindE hM
          refine o_call (bs := [.sl .no 3 (r24.map WireFault.cells), .sl .no 3 (r18.1.map WireFault.cells)]) (by decide) rfl rfl ((W_law11_SameFaults hr25).le (.k (.k .nil))) ?_
          refine o_move (v := .b r25) (by decide) rfl ?_
          rcases Bool.eq_false_or_eq_true r25 with hb26 | hb26
          ·replace hM := ifT hM hb26
           refine o_guardY (j := 5) (e := r25) (want := true) rfl hb26 ?_
           refine o_loadE (v := .agg (Wire.cells a0)) (by decide) rfl (part_agg ty_agg24 (Nat.le_of_ble_eq_true rfl) rfl) ?_
           refine o_guardY (j := 5) (e := r25) (want := true) rfl hb26 ?_
           refine o_move (v := .sl .no 3 (r19.1.map WireFault.cells)) (by decide) rfl ?_
           refine o_guardY (j := 5) (e := r25) (want := true) rfl hb26 ?_
           obtain ⟨r27, hr27, hM⟩ := bindE hM
           refine o_call (bs := [.agg (Wire.cells a0), .sl .no 3 (r19.1.map WireFault.cells)]) (by decide) rfl rfl ((W_ref11_Turned hr27).le (.k (.k .nil))) ?_
           refine o_guardY (j := 5) (e := r25) (want := true) rfl hb26 ?_
           refine o_move (v := .sl .no 3 (r20.1.map WireFault.cells)) (by decide) rfl ?_
           refine o_guardY (j := 5) (e := r25) (want := true) rfl hb26 ?_
           obtain ⟨r28, hr28, hM⟩ := bindE hM
           refine o_call (bs := [.sl .no 3 (r27.map WireFault.cells), .sl .no 3 (r20.1.map WireFault.cells)]) (by decide) rfl rfl ((W_law11_SameFaults hr28).le (.k (.k .nil))) ?_
           refine o_pickT (v := .b r28) (e := r25) (by decide) rfl hb26 rfl ?_
           refine o_move (v := .b r28) (by decide) rfl ?_
           rcases Bool.eq_false_or_eq_true r28 with hb29 | hb29
           ·replace hM := ifT hM hb29
            refine o_guardY (j := 12) (e := r28) (want := true) rfl hb29 ?_
            obtain ⟨r30, hr30, hM⟩ := bindE hM
            refine o_call (bs := []) (by decide) rfl rfl ((W_law11_works hr30).le .nil) ?_
            refine o_pickT (v := .b r30) (e := r28) (by decide) rfl hb29 rfl ?_
            refine o_assign (v := .b r30) (by decide) rfl ?_
            refine run_nil ?_
            exact w_goto r30 (.k .nil) ⟨(hS.keep [] rfl).up (by omega), hM⟩
           ·replace hM := ifF hM hb29
            refine o_guardN (j := 12) (e := r28) (want := true) (by decide) rfl hb29 ?_
            refine o_pickF (v := .b false) (e := r28) (by decide) rfl hb29 rfl ?_
            refine o_assign (v := .b false) (by decide) rfl ?_
            refine run_nil ?_
            exact w_goto false (.k .nil) ⟨(hS.keep [] rfl).up (by omega), hM⟩
          ·replace hM := ifF hM hb26
           refine o_guardN (j := 5) (e := r25) (want := true) (by decide) rfl hb26 ?_
           refine o_guardN (j := 5) (e := r25) (want := true) (by decide) rfl hb26 ?_
           refine o_guardN (j := 5) (e := r25) (want := true) (by decide) rfl hb26 ?_
           refine o_guardN (j := 5) (e := r25) (want := true) (by decide) rfl hb26 ?_
           refine o_guardN (j := 5) (e := r25) (want := true) (by decide) rfl hb26 ?_
           refine o_pickF (v := .b false) (e := r25) (by decide) rfl hb26 rfl ?_
           refine o_move (v := .b false) (by decide) rfl ?_
           refine o_guardN (j := 12) (e := false) (want := true) (by decide) rfl rfl ?_
           refine o_pickF (v := .b false) (e := false) (by decide) rfl rfl rfl ?_
           refine o_assign (v := .b false) (by decide) rfl ?_
           refine run_nil ?_
           exact w_goto false (.k .nil) ⟨(hS.keep [] rfl).up (by omega), hM⟩
       ·refine r_region (n := 22) rfl ?_
        refine o_move (v := .i r17.2) (by decide) rfl ?_
        refine o_move (v := .i r18.2) (by decide) rfl ?_
        refine o_int (v := .b (r17.2 != r18.2)) (by decide) rfl rfl rfl ?_
        refine o_move (v := .b (r17.2 != r18.2)) (by decide) rfl ?_
        rcases Bool.eq_false_or_eq_true (r17.2 != r18.2) with hb31 | hb31
        ·replace hM := ifT hM hb31
         refine o_guardN (j := 3) (e := (r17.2 != r18.2)) (want := false) (by decide) rfl hb31 ?_
         refine o_guardN (j := 3) (e := (r17.2 != r18.2)) (want := false) (by decide) rfl hb31 ?_
         refine o_guardN (j := 3) (e := (r17.2 != r18.2)) (want := false) (by decide) rfl hb31 ?_
         refine o_pickT (v := .b true) (e := (r17.2 != r18.2)) (by decide) rfl hb31 rfl ?_
         refine o_move (v := .b true) (by decide) rfl ?_
         refine o_guardN (j := 8) (e := true) (want := false) (by decide) rfl rfl ?_
         refine o_guardN (j := 8) (e := true) (want := false) (by decide) rfl rfl ?_
         refine o_guardN (j := 8) (e := true) (want := false) (by decide) rfl rfl ?_
         refine o_guardN (j := 8) (e := true) (want := false) (by decide) rfl rfl ?_
         refine o_guardN (j := 8) (e := true) (want := false) (by decide) rfl rfl ?_
         refine o_pickT (v := .b true) (e := true) (by decide) rfl rfl rfl ?_
         refine o_move (v := .b true) (by decide) rfl ?_
         refine o_guardN (j := 15) (e := true) (want := false) (by decide) rfl rfl ?_
         refine o_guardN (j := 15) (e := true) (want := false) (by decide) rfl rfl ?_
         refine o_guardN (j := 15) (e := true) (want := false) (by decide) rfl rfl ?_
         refine o_guardN (j := 15) (e := true) (want := false) (by decide) rfl rfl ?_
         refine o_guardN (j := 15) (e := true) (want := false) (by decide) rfl rfl ?_
         refine o_pickT (v := .b true) (e := true) (by decide) rfl rfl rfl ?_
         refine run_nil ?_
         exact w_goto true (.k (.k (.k (.k (.k (.k .nil)))))) ⟨(hS.keep [] rfl).up (by omega), hM⟩
        ·replace hM := ifF hM hb31
         refine o_guardY (j := 3) (e := (r17.2 != r18.2)) (want := false) rfl hb31 ?_
         refine o_move (v := .i r19.2) (by decide) rfl ?_
         refine o_guardY (j := 3) (e := (r17.2 != r18.2)) (want := false) rfl hb31 ?_
         refine o_move (v := .i r20.2) (by decide) rfl ?_
         refine o_guardY (j := 3) (e := (r17.2 != r18.2)) (want := false) rfl hb31 ?_
         refine o_int (v := .b (r19.2 != r20.2)) (by decide) rfl rfl rfl ?_
         refine o_pickF (v := .b (r19.2 != r20.2)) (e := (r17.2 != r18.2)) (by decide) rfl hb31 rfl ?_
         refine o_move (v := .b (r19.2 != r20.2)) (by decide) rfl ?_
         rcases Bool.eq_false_or_eq_true (r19.2 != r20.2) with hb32 | hb32
         ·replace hM := ifT hM hb32
          refine o_guardN (j := 8) (e := (r19.2 != r20.2)) (want := false) (by decide) rfl hb32 ?_
          refine o_guardN (j := 8) (e := (r19.2 != r20.2)) (want := false) (by decide) rfl hb32 ?_
          refine o_guardN (j := 8) (e := (r19.2 != r20.2)) (want := false) (by decide) rfl hb32 ?_
          refine o_guardN (j := 8) (e := (r19.2 != r20.2)) (want := false) (by decide) rfl hb32 ?_
          refine o_guardN (j := 8) (e := (r19.2 != r20.2)) (want := false) (by decide) rfl hb32 ?_
          refine o_pickT (v := .b true) (e := (r19.2 != r20.2)) (by decide) rfl hb32 rfl ?_
          refine o_move (v := .b true) (by decide) rfl ?_
          refine o_guardN (j := 15) (e := true) (want := false) (by decide) rfl rfl ?_
          refine o_guardN (j := 15) (e := true) (want := false) (by decide) rfl rfl ?_
          refine o_guardN (j := 15) (e := true) (want := false) (by decide) rfl rfl ?_
          refine o_guardN (j := 15) (e := true) (want := false) (by decide) rfl rfl ?_
          refine o_guardN (j := 15) (e := true) (want := false) (by decide) rfl rfl ?_
          refine o_pickT (v := .b true) (e := true) (by decide) rfl rfl rfl ?_
          refine run_nil ?_
          exact w_goto true (.k (.k (.k (.k (.k (.k .nil)))))) ⟨(hS.keep [] rfl).up (by omega), hM⟩
         ·replace hM := ifF hM hb32
          refine o_guardY (j := 8) (e := (r19.2 != r20.2)) (want := false) rfl hb32 ?_
          refine o_move (v := .sl .no 3 (r17.1.map WireFault.cells)) (by decide) rfl ?_
          refine o_guardY (j := 8) (e := (r19.2 != r20.2)) (want := false) rfl hb32 ?_
          refine o_loadE (v := .agg (Wire.cells a0)) (by decide) rfl (part_agg ty_agg24 (Nat.le_of_ble_eq_true rfl) rfl) ?_
          refine o_guardY (j := 8) (e := (r19.2 != r20.2)) (want := false) rfl hb32 ?_
          obtain ⟨r33, hr33, hM⟩ := bindE hM
          refine o_call (bs := [.agg (Wire.cells a0)]) (by decide) rfl rfl ((W_ref11_AllFaults hr33).le (.k .nil)) ?_
          refine o_guardY (j := 8) (e := (r19.2 != r20.2)) (want := false) rfl hb32 ?_
          obtain ⟨r34, hr34, hM⟩ := bindE hM
          refine o_call (bs := [.sl .no 3 (r17.1.map WireFault.cells), .sl .no 3 (r33.map WireFault.cells)]) (by decide) rfl rfl ((W_law11_areIn hr34).le (.k (.k .nil))) ?_
          refine o_guardY (j := 8) (e := (r19.2 != r20.2)) (want := false) rfl hb32 ?_
          refine o_not (e := r34) (by decide) rfl ?_
          refine o_pickF (v := .b (!r34)) (e := (r19.2 != r20.2)) (by decide) rfl hb32 rfl ?_
          refine o_move (v := .b (!r34)) (by decide) rfl ?_
          rcases Bool.eq_false_or_eq_true (!r34) with hb35 | hb35
          ·replace hM := ifT hM hb35
           refine o_guardN (j := 15) (e := (!r34)) (want := false) (by decide) rfl hb35 ?_
           refine o_guardN (j := 15) (e := (!r34)) (want := false) (by decide) rfl hb35 ?_
           refine o_guardN (j := 15) (e := (!r34)) (want := false) (by decide) rfl hb35 ?_
           refine o_guardN (j := 15) (e := (!r34)) (want := false) (by decide) rfl hb35 ?_
           refine o_guardN (j := 15) (e := (!r34)) (want := false) (by decide) rfl hb35 ?_
           refine o_pickT (v := .b true) (e := (!r34)) (by decide) rfl hb35 rfl ?_
           refine run_nil ?_
           exact w_goto true (.k (.k (.k (.k (.k (.k .nil)))))) ⟨(hS.keep [] rfl).up (by omega), hM⟩
          ·replace hM := ifF hM hb35
           refine o_guardY (j := 15) (e := (!r34)) (want := false) rfl hb35 ?_
           refine o_move (v := .sl .no 3 (r19.1.map WireFault.cells)) (by decide) rfl ?_
           refine o_guardY (j := 15) (e := (!r34)) (want := false) rfl hb35 ?_
           refine o_loadE (v := .agg (Wire.cells a0)) (by decide) rfl (part_agg ty_agg24 (Nat.le_of_ble_eq_true rfl) rfl) ?_
           refine o_guardY (j := 15) (e := (!r34)) (want := false) rfl hb35 ?_
           obtain ⟨r36, hr36, hM⟩ := bindE hM
           refine o_call (bs := [.agg (Wire.cells a0)]) (by decide) rfl rfl ((W_ref11_AllFaults hr36).le (.k .nil)) ?_
           refine o_guardY (j := 15) (e := (!r34)) (want := false) rfl hb35 ?_
           obtain ⟨r37, hr37, hM⟩ := bindE hM
           refine o_call (bs := [.sl .no 3 (r19.1.map WireFault.cells), .sl .no 3 (r36.map WireFault.cells)]) (by decide) rfl rfl ((W_law11_areIn hr37).le (.k (.k .nil))) ?_
           refine o_guardY (j := 15) (e := (!r34)) (want := false) rfl hb35 ?_
           refine o_not (e := r37) (by decide) rfl ?_
           refine o_pickF (v := .b (!r37)) (e := (!r34)) (by decide) rfl hb35 rfl ?_
           refine run_nil ?_
           exact w_goto (!r37) (.k (.k (.k (.k (.k (.k .nil)))))) ⟨(hS.keep [] rfl).up (by omega), hM⟩
     ·refine r_region (n := 18) rfl ?_
      refine o_move (v := .i r11.1) (by decide) rfl ?_
      refine o_move (v := .i r12.1) (by decide) rfl ?_
      refine o_int (v := .b (r11.1 != r12.1)) (by decide) rfl rfl rfl ?_
      refine o_move (v := .b (r11.1 != r12.1)) (by decide) rfl ?_
      rcases Bool.eq_false_or_eq_true (r11.1 != r12.1) with hb38 | hb38
      ·replace hM := ifT hM hb38
       refine o_guardN (j := 3) (e := (r11.1 != r12.1)) (want := false) (by decide) rfl hb38 ?_
       refine o_guardN (j := 3) (e := (r11.1 != r12.1)) (want := false) (by decide) rfl hb38 ?_
       refine o_guardN (j := 3) (e := (r11.1 != r12.1)) (want := false) (by decide) rfl hb38 ?_
       refine o_pickT (v := .b true) (e := (r11.1 != r12.1)) (by decide) rfl hb38 rfl ?_
       refine o_move (v := .b true) (by decide) rfl ?_
       refine o_guardN (j := 8) (e := true) (want := false) (by decide) rfl rfl ?_
       refine o_guardN (j := 8) (e := true) (want := false) (by decide) rfl rfl ?_
       refine o_guardN (j := 8) (e := true) (want := false) (by decide) rfl rfl ?_
       refine o_pickT (v := .b true) (e := true) (by decide) rfl rfl rfl ?_
       refine o_move (v := .b true) (by decide) rfl ?_
       refine o_guardN (j := 13) (e := true) (want := false) (by decide) rfl rfl ?_
       refine o_guardN (j := 13) (e := true) (want := false) (by decide) rfl rfl ?_
       refine o_guardN (j := 13) (e := true) (want := false) (by decide) rfl rfl ?_
       refine o_pickT (v := .b true) (e := true) (by decide) rfl rfl rfl ?_
       refine run_nil ?_
       exact w_goto true (.k (.k (.k .nil))) ⟨(hS.keep [] rfl).up (by omega), hM⟩
      ·replace hM := ifF hM hb38
       refine o_guardY (j := 3) (e := (r11.1 != r12.1)) (want := false) rfl hb38 ?_
       refine o_move (v := .i r11.2) (by decide) rfl ?_
       refine o_guardY (j := 3) (e := (r11.1 != r12.1)) (want := false) rfl hb38 ?_
       refine o_move (v := .i r12.2) (by decide) rfl ?_
       refine o_guardY (j := 3) (e := (r11.1 != r12.1)) (want := false) rfl hb38 ?_
       refine o_int (v := .b (r11.2 != r12.2)) (by decide) rfl rfl rfl ?_
       refine o_pickF (v := .b (r11.2 != r12.2)) (e := (r11.1 != r12.1)) (by decide) rfl hb38 rfl ?_
       refine o_move (v := .b (r11.2 != r12.2)) (by decide) rfl ?_
       rcases Bool.eq_false_or_eq_true (r11.2 != r12.2) with hb39 | hb39
       ·replace hM := ifT hM hb39
        refine o_guardN (j := 8) (e := (r11.2 != r12.2)) (want := false) (by decide) rfl hb39 ?_
        refine o_guardN (j := 8) (e := (r11.2 != r12.2)) (want := false) (by decide) rfl hb39 ?_
        refine o_guardN (j := 8) (e := (r11.2 != r12.2)) (want := false) (by decide) rfl hb39 ?_
        refine o_pickT (v := .b true) (e := (r11.2 != r12.2)) (by decide) rfl hb39 rfl ?_
        refine o_move (v := .b true) (by decide) rfl ?_
        refine o_guardN (j := 13) (e := true) (want := false) (by decide) rfl rfl ?_
        refine o_guardN (j := 13) (e := true) (want := false) (by decide) rfl rfl ?_
        refine o_guardN (j := 13) (e := true) (want := false) (by decide) rfl rfl ?_
        refine o_pickT (v := .b true) (e := true) (by decide) rfl rfl rfl ?_
        refine run_nil ?_
        exact w_goto true (.k (.k (.k .nil))) ⟨(hS.keep [] rfl).up (by omega), hM⟩
       ·replace hM := ifF hM hb39
        refine o_guardY (j := 8) (e := (r11.2 != r12.2)) (want := false) rfl hb39 ?_
        refine o_move (v := .i r13.1) (by decide) rfl ?_
        refine o_guardY (j := 8) (e := (r11.2 != r12.2)) (want := false) rfl hb39 ?_
        refine o_move (v := .i r14.1) (by decide) rfl ?_
        refine o_guardY (j := 8) (e := (r11.2 != r12.2)) (want := false) rfl hb39 ?_
        refine o_int (v := .b (r13.1 != r14.1)) (by decide) rfl rfl rfl ?_
        refine o_pickF (v := .b (r13.1 != r14.1)) (e := (r11.2 != r12.2)) (by decide) rfl hb39 rfl ?_
        refine o_move (v := .b (r13.1 != r14.1)) (by decide) rfl ?_
        rcases Bool.eq_false_or_eq_true (r13.1 != r14.1) with hb40 | hb40
        ·replace hM := ifT hM hb40
         refine o_guardN (j := 13) (e := (r13.1 != r14.1)) (want := false) (by decide) rfl hb40 ?_
         refine o_guardN (j := 13) (e := (r13.1 != r14.1)) (want := false) (by decide) rfl hb40 ?_
         refine o_guardN (j := 13) (e := (r13.1 != r14.1)) (want := false) (by decide) rfl hb40 ?_
         refine o_pickT (v := .b true) (e := (r13.1 != r14.1)) (by decide) rfl hb40 rfl ?_
         refine run_nil ?_
         exact w_goto true (.k (.k (.k .nil))) ⟨(hS.keep [] rfl).up (by omega), hM⟩
        ·replace hM := ifF hM hb40
         refine o_guardY (j := 13) (e := (r13.1 != r14.1)) (want := false) rfl hb40 ?_
         refine o_move (v := .i r13.2) (by decide) rfl ?_
         refine o_guardY (j := 13) (e := (r13.1 != r14.1)) (want := false) rfl hb40 ?_
         refine o_move (v := .i r14.2) (by decide) rfl ?_
         refine o_guardY (j := 13) (e := (r13.1 != r14.1)) (want := false) rfl hb40 ?_
         refine o_int (v := .b (r13.2 != r14.2)) (by decide) rfl rfl rfl ?_
         refine o_pickF (v := .b (r13.2 != r14.2)) (e := (r13.1 != r14.1)) (by decide) rfl hb40 rfl ?_
         refine run_nil ?_
         exact w_goto (r13.2 != r14.2) (.k (.k (.k .nil))) ⟨(hS.keep [] rfl).up (by omega), hM⟩
   ·refine r_region (n := 18) rfl ?_
    refine o_move (v := .i r5.1) (by decide) rfl ?_
    refine o_move (v := .i r6.1) (by decide) rfl ?_
    refine o_int (v := .b (r5.1 != r6.1)) (by decide) rfl rfl rfl ?_
    refine o_move (v := .b (r5.1 != r6.1)) (by decide) rfl ?_
    rcases Bool.eq_false_or_eq_true (r5.1 != r6.1) with hb41 | hb41
    ·replace hM := ifT hM hb41
     refine o_guardN (j := 3) (e := (r5.1 != r6.1)) (want := false) (by decide) rfl hb41 ?_
     refine o_guardN (j := 3) (e := (r5.1 != r6.1)) (want := false) (by decide) rfl hb41 ?_
     refine o_guardN (j := 3) (e := (r5.1 != r6.1)) (want := false) (by decide) rfl hb41 ?_
     refine o_pickT (v := .b true) (e := (r5.1 != r6.1)) (by decide) rfl hb41 rfl ?_
     refine o_move (v := .b true) (by decide) rfl ?_
     refine o_guardN (j := 8) (e := true) (want := false) (by decide) rfl rfl ?_
     refine o_guardN (j := 8) (e := true) (want := false) (by decide) rfl rfl ?_
     refine o_guardN (j := 8) (e := true) (want := false) (by decide) rfl rfl ?_
     refine o_pickT (v := .b true) (e := true) (by decide) rfl rfl rfl ?_
     refine o_move (v := .b true) (by decide) rfl ?_
     refine o_guardN (j := 13) (e := true) (want := false) (by decide) rfl rfl ?_
     refine o_guardN (j := 13) (e := true) (want := false) (by decide) rfl rfl ?_
     refine o_guardN (j := 13) (e := true) (want := false) (by decide) rfl rfl ?_
     refine o_pickT (v := .b true) (e := true) (by decide) rfl rfl rfl ?_
     refine run_nil ?_
     exact w_goto true (.k (.k (.k (.k .nil)))) ⟨(hS.keep [] rfl).up (by omega), hM⟩
    ·replace hM := ifF hM hb41
     refine o_guardY (j := 3) (e := (r5.1 != r6.1)) (want := false) rfl hb41 ?_
     refine o_move (v := .i r5.2) (by decide) rfl ?_
     refine o_guardY (j := 3) (e := (r5.1 != r6.1)) (want := false) rfl hb41 ?_
     refine o_move (v := .i r6.2) (by decide) rfl ?_
     refine o_guardY (j := 3) (e := (r5.1 != r6.1)) (want := false) rfl hb41 ?_
     refine o_int (v := .b (r5.2 != r6.2)) (by decide) rfl rfl rfl ?_
     refine o_pickF (v := .b (r5.2 != r6.2)) (e := (r5.1 != r6.1)) (by decide) rfl hb41 rfl ?_
     refine o_move (v := .b (r5.2 != r6.2)) (by decide) rfl ?_
     rcases Bool.eq_false_or_eq_true (r5.2 != r6.2) with hb42 | hb42
     ·replace hM := ifT hM hb42
      refine o_guardN (j := 8) (e := (r5.2 != r6.2)) (want := false) (by decide) rfl hb42 ?_
      refine o_guardN (j := 8) (e := (r5.2 != r6.2)) (want := false) (by decide) rfl hb42 ?_
      refine o_guardN (j := 8) (e := (r5.2 != r6.2)) (want := false) (by decide) rfl hb42 ?_
      refine o_pickT (v := .b true) (e := (r5.2 != r6.2)) (by decide) rfl hb42 rfl ?_
      refine o_move (v := .b true) (by decide) rfl ?_
      refine o_guardN (j := 13) (e := true) (want := false) (by decide) rfl rfl ?_
      refine o_guardN (j := 13) (e := true) (want := false) (by decide) rfl rfl ?_
      refine o_guardN (j := 13) (e := true) (want := false) (by decide) rfl rfl ?_
      refine o_pickT (v := .b true) (e := true) (by decide) rfl rfl rfl ?_
      refine run_nil ?_
      exact w_goto true (.k (.k (.k (.k .nil)))) ⟨(hS.keep [] rfl).up (by omega), hM⟩
     ·replace hM := ifF hM hb42
      refine o_guardY (j := 8) (e := (r5.2 != r6.2)) (want := false) rfl hb42 ?_
      refine o_move (v := .i r7.1) (by decide) rfl ?_
      refine o_guardY (j := 8) (e := (r5.2 != r6.2)) (want := false) rfl hb42 ?_
      refine o_move (v := .i r8.1) (by decide) rfl ?_
      refine o_guardY (j := 8) (e := (r5.2 != r6.2)) (want := false) rfl hb42 ?_
      refine o_int (v := .b (r7.1 != r8.1)) (by decide) rfl rfl rfl ?_
      refine o_pickF (v := .b (r7.1 != r8.1)) (e := (r5.2 != r6.2)) (by decide) rfl hb42 rfl ?_
      refine o_move (v := .b (r7.1 != r8.1)) (by decide) rfl ?_
      rcases Bool.eq_false_or_eq_true (r7.1 != r8.1) with hb43 | hb43
      ·replace hM := ifT hM hb43
       refine o_guardN (j := 13) (e := (r7.1 != r8.1)) (want := false) (by decide) rfl hb43 ?_
       refine o_guardN (j := 13) (e := (r7.1 != r8.1)) (want := false) (by decide) rfl hb43 ?_
       refine o_guardN (j := 13) (e := (r7.1 != r8.1)) (want := false) (by decide) rfl hb43 ?_
       refine o_pickT (v := .b true) (e := (r7.1 != r8.1)) (by decide) rfl hb43 rfl ?_
       refine run_nil ?_
       exact w_goto true (.k (.k (.k (.k .nil)))) ⟨(hS.keep [] rfl).up (by omega), hM⟩
      ·replace hM := ifF hM hb43
       refine o_guardY (j := 13) (e := (r7.1 != r8.1)) (want := false) rfl hb43 ?_
       refine o_move (v := .i r7.2) (by decide) rfl ?_
       refine o_guardY (j := 13) (e := (r7.1 != r8.1)) (want := false) rfl hb43 ?_
       refine o_move (v := .i r8.2) (by decide) rfl ?_
       refine o_guardY (j := 13) (e := (r7.1 != r8.1)) (want := false) rfl hb43 ?_
       refine o_int (v := .b (r7.2 != r8.2)) (by decide) rfl rfl rfl ?_
       refine o_pickF (v := .b (r7.2 != r8.2)) (e := (r7.1 != r8.1)) (by decide) rfl hb43 rfl ?_
       refine run_nil ?_
       exact w_goto (r7.2 != r8.2) (.k (.k (.k (.k .nil)))) ⟨(hS.keep [] rfl).up (by omega), hM⟩
 ·refine r_region (n := 12) rfl ?_
  refine o_loadE (v := .agg (Wire.cells a0)) (by decide) rfl (part_agg ty_agg24 (Nat.le_of_ble_eq_true rfl) rfl) ?_
  obtain ⟨r44, hr44, hM⟩ := bindE hM
  refine o_call (bs := [.agg (Wire.cells a0)]) (by decide) rfl rfl ((W_law11_ready hr44).le (.k .nil)) ?_
  refine o_not (e := r44) (by decide) rfl ?_
  refine o_move (v := .b (!r44)) (by decide) rfl ?_
  rcases Bool.eq_false_or_eq_true (!r44) with hb45 | hb45
  ·replace hM := ifT hM hb45
   refine o_guardN (j := 3) (e := (!r44)) (want := false) (by decide) rfl hb45 ?_
   refine o_guardN (j := 3) (e := (!r44)) (want := false) (by decide) rfl hb45 ?_
   refine o_guardN (j := 3) (e := (!r44)) (want := false) (by decide) rfl hb45 ?_
   refine o_guardN (j := 3) (e := (!r44)) (want := false) (by decide) rfl hb45 ?_
   refine o_guardN (j := 3) (e := (!r44)) (want := false) (by decide) rfl hb45 ?_
   refine o_guardN (j := 3) (e := (!r44)) (want := false) (by decide) rfl hb45 ?_
   refine o_guardN (j := 3) (e := (!r44)) (want := false) (by decide) rfl hb45 ?_
   refine o_pickT (v := .b true) (e := (!r44)) (by decide) rfl hb45 rfl ?_
   refine run_nil ?_
   exact w_goto true (.k (.k (.k .nil))) ⟨(hS.keep [] rfl).up (by omega), hM⟩
  ·replace hM := ifF hM hb45
   refine o_guardY (j := 3) (e := (!r44)) (want := false) rfl hb45 ?_
   refine o_loadE (v := .agg (Wire.cells a0)) (by decide) rfl (part_agg ty_agg24 (Nat.le_of_ble_eq_true rfl) rfl) ?_
   refine o_guardY (j := 3) (e := (!r44)) (want := false) rfl hb45 ?_
   refine o_fieldE (cs := [.i a1.Letter, .i a1.Number]) (by decide) ty_fo38_0 rfl ?_
   refine o_guardY (j := 3) (e := (!r44)) (want := false) rfl hb45 ?_
   refine o_loadE (v := .i a1.Letter) (by decide) rfl (part_one ty_agg3 ty_sc3 rfl) ?_
   refine o_guardY (j := 3) (e := (!r44)) (want := false) rfl hb45 ?_
   refine o_fieldE (cs := [.i a1.Letter, .i a1.Number]) (by decide) ty_fo38_1 rfl ?_
   refine o_guardY (j := 3) (e := (!r44)) (want := false) rfl hb45 ?_
   refine o_loadE (v := .i a1.Number) (by decide) rfl (part_one ty_agg3 ty_sc3 rfl) ?_
   refine o_guardY (j := 3) (e := (!r44)) (want := false) rfl hb45 ?_
   obtain ⟨r46, hr46, hM⟩ := bindE hM
   refine o_call (bs := [.agg (Wire.cells a0), .i a1.Letter, .i a1.Number]) (by decide) rfl rfl ((W_ref11_IsButton hr46).le (.k (.k (.k .nil)))) ?_
   refine o_guardY (j := 3) (e := (!r44)) (want := false) rfl hb45 ?_
   refine o_not (e := r46) (by decide) rfl ?_
   refine o_pickF (v := .b (!r46)) (e := (!r44)) (by decide) rfl hb45 rfl ?_
   refine run_nil ?_
   exact w_goto (!r46) (.k (.k (.k .nil))) ⟨(hS.keep [] rfl).up (by omega), hM⟩
end Go.Proofs.Ytneghcnkcfblmaa
