/-
  The code returns what the functions say (printed by gen.py).
  Conditions: none.
-/
import Derived.Test.YtneghcnkcfblmaaWkWiresPlays2
import Derived.Test.YtneghcnkcfblmaaSh
set_option linter.all false
namespace Go.Proofs.Ytneghcnkcfblmaa
open Go Go.AM Go.Law
set_option linter.unusedVariables false
set_option maxRecDepth 4000
set_option maxHeartbeats 4000000
theorem W_ref11_other {n : Nat} {a0 : List WireFault} {a1 : Int} {a2 : Int} {r : Int} (hM : ref11_other n a0 a1 a2 = some r) : PureSat Try.prog 80 [.sl .no 3 (a0.map WireFault.cells), .i a1, .i a2] (.i r) := by
 refine pure_of_wp mixed Try.func80 rfl (by decide) Try.ntmps80 (by simp) ?pure fun H0 g hf => ?_
 case pure => exact .v _
 rw [frame0_of]
 change wpA _ _ _ _ (Fr.of [(0, .sl .no 3 (a0.map WireFault.cells)), (1, .i a1), (2, .i a2)]) H0 g
 have hS := St.start hf
 refine r_seq ?_
 refine r_region (n := 1) rfl ?_
 refine o_assign (v := .i 0) (by decide) rfl ?_
 refine run_nil ?_
 refine w_next [(0, .sl .no 3 (a0.map WireFault.cells)), (1, .i a1), (2, .i a2)] (.k (.k (.k .nil))) ?_
 refine w_join (J := Unit) (fun j => [(2, .i a2)]) (fun j H' g' => St (· < g) H0 [] H' g' ∧ ref11_other_j1 a2 = some r) ?_ ?_
 ·rintro _ H g1 ⟨hS, hM⟩
  change wpA _ _ _ _ (Fr.of [(2, .i a2)]) _ _
  replace hS : St (· < g) H0 [] H g1 := hS
  replace hM : ref11_other_j1 a2 = some r := hM
  refine r_seq ?_
  refine r_region (n := 2) rfl ?_
  refine o_move (v := .i a2) (by decide) rfl ?_
  refine o_assign (v := .i a2) (by decide) rfl ?_
  refine run_nil ?_
  refine w_next [(6, .i a2)] (.k .nil) ?_
  refine r_ret ?_
  refine w_end (x := .i a2) (f := fun r => .i r) (.inr rfl) ?_ (.refl _) (Option.some.inj hM) hS
  exact (res_one (res_tmp (x := .i a2) rfl))
 ·refine r_seq ?_
  refine r_region (n := 1) rfl ?_
  refine o_assign (v := .i 0) (by decide) rfl ?_
  refine run_nil ?_
  refine w_next [(0, .sl .no 3 (a0.map WireFault.cells)), (1, .i a1), (2, .i a2), (7, .i 0)] (.k (.k (.k (.k .nil)))) ?_
  refine r_block ?_
  refine w_loop (V := Int) (fun v => [(0, .sl .no 3 (a0.map WireFault.cells)), (1, .i a1), (2, .i a2), (7, .i v)]) (fun v m2 H' g' => St (· < g) H0 [] H' g' ∧ ref11_other_l1 a0 a1 a2 m2 v = some r) (n := n) 0 (.k (.k (.k (.k .nil)))) ⟨(hS.keep [] rfl).up (by omega), hM⟩ ?_
  rintro v1 m2 H g2 ⟨hS, hM⟩
  obtain _ | m2 := m2
  ·exact nomatch (show none = some _ from hM)
  change wpA _ _ _ _ (Fr.of [(0, .sl .no 3 (a0.map WireFault.cells)), (1, .i a1), (2, .i a2), (7, .i v1)]) _ _
  replace hS : St (· < g) H0 [] H g2 := hS
  replace hM : ref11_other_l1_b a0 a1 a2 (ref11_other_l1 a0 a1 a2 m2) v1 = some r := hM
  refine r_seq ?_
  refine r_seq ?_
  refine r_region (n := 4) rfl ?_
  refine o_move (v := .i v1) (by decide) rfl ?_
  refine o_move (v := .sl .no 3 (a0.map WireFault.cells)) (by decide) rfl ?_
  refine o_len (n := a0.length) (by decide) rfl (List.length_map _) ty_isl31 ?_
  refine o_int (v := .b (decide (v1 < (a0.length : Int)))) (by decide) rfl rfl rfl ?_
  refine run_nil ?_
  refine w_next [(0, .sl .no 3 (a0.map WireFault.cells)), (1, .i a1), (2, .i a2), (7, .i v1), (12, .b (decide (v1 < (a0.length : Int))))] (.k (.k (.k (.k (.k .nil))))) ?_
  rcases Bool.eq_false_or_eq_true (decide (v1 < (a0.length : Int))) with hb2 | hb2
  ·replace hM := ifT hM hb2
   refine w_condT (e := (decide (v1 < (a0.length : Int)))) rfl hb2 ?_
   refine r_skip ?_
   refine w_next [(0, .sl .no 3 (a0.map WireFault.cells)), (1, .i a1), (2, .i a2), (7, .i v1)] (.k (.k (.k (.k .nil)))) ?_
   refine w_join (J := Unit) (fun j => [(0, .sl .no 3 (a0.map WireFault.cells)), (1, .i a1), (2, .i a2), (7, .i v1)]) (fun j H' g' => St (· < g) H0 [] H' g' ∧ ref11_other_j2 (ref11_other_l1 a0 a1 a2 m2) v1 = some r) ?_ ?_
   ·rintro _ H g3 ⟨hS, hM⟩
    change wpA _ _ _ _ (Fr.of [(0, .sl .no 3 (a0.map WireFault.cells)), (1, .i a1), (2, .i a2), (7, .i v1)]) _ _
    replace hS : St (· < g) H0 [] H g3 := hS
    replace hM : ref11_other_j2 (ref11_other_l1 a0 a1 a2 m2) v1 = some r := hM
    refine r_region (n := 3) rfl ?_
    refine o_move (v := .i v1) (by decide) rfl ?_
    refine o_int (v := .i (w64 (v1 + 1))) (by decide) rfl rfl rfl ?_
    refine o_assign (v := .i (w64 (v1 + 1))) (by decide) rfl ?_
    refine run_nil ?_
    exact w_round (w64 (v1 + 1)) (Nat.lt_succ_self _) (.k (.k (.k (.k .nil)))) ⟨(hS.keep [] rfl).up (by omega), hM⟩
   ·refine r_block ?_
    refine r_seq ?_
    refine r_region (n := 6) rfl ?_
    refine o_move (v := .sl .no 3 (a0.map WireFault.cells)) (by decide) rfl ?_
    refine o_move (v := .i v1) (by decide) rfl ?_
    obtain ⟨x3, hx3, hM⟩ := bindE hM
    refine o_index (xs := a0) (f := WireFault.cells) (z := v1) (u := x3) (by decide) rfl rfl ty_es31 hx3 ?_
    refine o_loadE (v := .agg (WireFault.cells x3)) (by decide) rfl (part_agg ty_agg63 (Nat.le_of_ble_eq_true rfl) rfl) ?_
    refine o_alloc hS (by decide) ty_zero63 (by omega) fun H hS => ?_
    refine o_store (v := .agg (WireFault.cells x3)) (ns := (WireFault.cells x3)) (L' := [(g2 + 4 + 4, .cells (WireFault.cells x3))]) 0 hS rfl rfl .no rfl rfl ty_var63 (Nat.le_of_ble_eq_true rfl) rfl fun H hS => ?_
    refine run_nil ?_
    refine w_iceE (L' := []) 0 8 hS rfl rfl rfl fun H hS => ?_
    refine w_next [(0, .sl .no 3 (a0.map WireFault.cells)), (1, .i a1), (2, .i a2), (7, .i v1), (8, .ep (WireFault.cells x3))] (.k (.k (.k (.k (.k .nil))))) ?_
    refine r_seq ?_
    refine r_region (n := 4) rfl ?_
    refine o_fieldE (cs := (WireFault.cells x3)) (by decide) ty_fo63_0 rfl ?_
    refine o_loadE (v := .i x3.Kind) (by decide) rfl (part_one ty_agg3 ty_sc3 rfl) ?_
    refine o_move (v := .i a1) (by decide) rfl ?_
    refine o_int (v := .b (x3.Kind == a1)) (by decide) rfl rfl rfl ?_
    refine run_nil ?_
    refine w_next [(0, .sl .no 3 (a0.map WireFault.cells)), (1, .i a1), (2, .i a2), (7, .i v1), (8, .ep (WireFault.cells x3)), (22, .b (x3.Kind == a1))] (.k (.k (.k (.k (.k (.k .nil)))))) ?_
    rcases Bool.eq_false_or_eq_true (x3.Kind == a1) with hb4 | hb4
    ·replace hM := ifT hM hb4
     refine w_condT (e := (x3.Kind == a1)) rfl hb4 ?_
     refine r_seq ?_
     refine r_seq ?_
     refine r_region (n := 4) rfl ?_
     refine o_fieldE (cs := (WireFault.cells x3)) (by decide) ty_fo63_1 rfl ?_
     refine o_loadE (v := .i x3.A) (by decide) rfl (part_one ty_agg3 ty_sc3 rfl) ?_
     refine o_move (v := .i a2) (by decide) rfl ?_
     refine o_int (v := .b (x3.A == a2)) (by decide) rfl rfl rfl ?_
     refine run_nil ?_
     refine w_next [(0, .sl .no 3 (a0.map WireFault.cells)), (1, .i a1), (2, .i a2), (7, .i v1), (8, .ep (WireFault.cells x3)), (26, .b (x3.A == a2))] (.k (.k (.k (.k (.k (.k .nil)))))) ?_
     rcases Bool.eq_false_or_eq_true (x3.A == a2) with hb5 | hb5
     ·replace hM := ifT hM hb5
      refine w_condT (e := (x3.A == a2)) rfl hb5 ?_
      refine r_seq ?_
      refine r_region (n := 3) rfl ?_
      refine o_fieldE (cs := (WireFault.cells x3)) (by decide) ty_fo63_2 rfl ?_
      refine o_loadE (v := .i x3.B) (by decide) rfl (part_one ty_agg3 ty_sc3 rfl) ?_
      refine o_assign (v := .i x3.B) (by decide) rfl ?_
      refine run_nil ?_
      refine w_next [(6, .i x3.B)] (.k .nil) ?_
      refine r_ret ?_
      refine r_then_ret ?_
      refine r_blk_ret ?_
      refine w_goto_ret ?_
      refine w_round_ret ?_
      refine r_blk_ret ?_
      refine w_goto_ret ?_
      refine w_end (x := .i x3.B) (f := fun r => .i r) (.inr rfl) ?_ (.refl _) (Option.some.inj hM) hS
      exact (res_one (res_tmp (x := .i x3.B) rfl))
     ·replace hM := ifF hM hb5
      refine w_condF (e := (x3.A == a2)) rfl hb5 ?_
      refine r_skip ?_
      refine w_next [(0, .sl .no 3 (a0.map WireFault.cells)), (1, .i a1), (2, .i a2), (7, .i v1), (8, .ep (WireFault.cells x3))] (.k (.k (.k (.k (.k .nil))))) ?_
      refine r_seq ?_
      refine r_region (n := 4) rfl ?_
      refine o_fieldE (cs := (WireFault.cells x3)) (by decide) ty_fo63_2 rfl ?_
      refine o_loadE (v := .i x3.B) (by decide) rfl (part_one ty_agg3 ty_sc3 rfl) ?_
      refine o_move (v := .i a2) (by decide) rfl ?_
      refine o_int (v := .b (x3.B == a2)) (by decide) rfl rfl rfl ?_
      refine run_nil ?_
      refine w_next [(0, .sl .no 3 (a0.map WireFault.cells)), (1, .i a1), (2, .i a2), (7, .i v1), (8, .ep (WireFault.cells x3)), (32, .b (x3.B == a2))] (.k (.k (.k (.k (.k (.k .nil)))))) ?_
      rcases Bool.eq_false_or_eq_true (x3.B == a2) with hb6 | hb6
      ·replace hM := ifT hM hb6
       refine w_condT (e := (x3.B == a2)) rfl hb6 ?_
       refine r_seq ?_
       refine r_region (n := 3) rfl ?_
       refine o_fieldE (cs := (WireFault.cells x3)) (by decide) ty_fo63_1 rfl ?_
       refine o_loadE (v := .i x3.A) (by decide) rfl (part_one ty_agg3 ty_sc3 rfl) ?_
       refine o_assign (v := .i x3.A) (by decide) rfl ?_
       refine run_nil ?_
       refine w_next [(6, .i x3.A)] (.k .nil) ?_
       refine r_ret ?_
       refine r_blk_ret ?_
       refine w_goto_ret ?_
       refine w_round_ret ?_
       refine r_blk_ret ?_
       refine w_goto_ret ?_
       refine w_end (x := .i x3.A) (f := fun r => .i r) (.inr rfl) ?_ (.refl _) (Option.some.inj hM) hS
       exact (res_one (res_tmp (x := .i x3.A) rfl))
      ·replace hM := ifF hM hb6
       refine w_condF (e := (x3.B == a2)) rfl hb6 ?_
       refine r_skip ?_
       refine r_blk_normal ?_
       exact w_goto () (.k (.k (.k (.k .nil)))) ⟨(hS.keep [] rfl).up (by omega), hM⟩
    ·replace hM := ifF hM hb4
     refine w_condF (e := (x3.Kind == a1)) rfl hb4 ?_
     refine r_skip ?_
     refine r_blk_normal ?_
     exact w_goto () (.k (.k (.k (.k .nil)))) ⟨(hS.keep [] rfl).up (by omega), hM⟩
  ·replace hM := ifF hM hb2
   refine w_condF (e := (decide (v1 < (a0.length : Int)))) rfl hb2 ?_
   refine r_exit ?_
   refine r_then_exit ?_
   refine w_round_exit ?_
   refine r_blk_exit ?_
   exact w_goto () (.k .nil) ⟨(hS.keep [] rfl).up (by omega), hM⟩
theorem W_ref11_PlaysOf {n : Nat} {a0 : Wire} {a1 : List WireFault} {a2 : Int} {a3 : Int} {r : Int} (hM : ref11_PlaysOf n a0 a1 a2 a3 = some r) : PureSat Try.prog 47 [.agg (Wire.cells a0), .sl .no 3 (a1.map WireFault.cells), .i a2, .i a3] (.i r) := by
 refine pure_of_wp mixed Try.func47 rfl (by decide) Try.ntmps47 (by simp) ?pure fun H0 g hf => ?_
 case pure => exact .v _
 rw [frame0_of]
 change wpA _ _ _ _ (Fr.of [(0, .agg (Wire.cells a0)), (1, .sl .no 3 (a1.map WireFault.cells)), (2, .i a2), (3, .i a3)]) H0 g
 have hS := St.start hf
 refine r_seq ?_
 refine r_region (n := 2) rfl ?_
 refine o_box (v := .agg (Wire.cells a0)) (cs := (Wire.cells a0)) hS (by decide) rfl rfl (by omega) fun H hS => ?_
 refine o_assign (v := .i 0) (by decide) rfl ?_
 refine run_nil ?_
 refine w_iceE (L' := []) 0 4 hS rfl rfl rfl fun H hS => ?_
 refine w_next [(1, .sl .no 3 (a1.map WireFault.cells)), (2, .i a2), (3, .i a3), (4, .ep (Wire.cells a0))] (.k (.k (.k (.k .nil)))) ?_
 refine r_seq ?_
 refine w_join (J := Bool) (fun j => [(1, .sl .no 3 (a1.map WireFault.cells)), (2, .i a2), (3, .i a3), (4, .ep (Wire.cells a0)), (18, .b j)]) (fun j H' g' => St (· < g) H0 [] H' g' ∧ ref11_PlaysOf_j1 n a0 a1 a2 a3 j = some r) ?_ ?_
 ·rintro v1 H g1 ⟨hS, hM⟩
  change wpA _ _ _ _ (Fr.of [(1, .sl .no 3 (a1.map WireFault.cells)), (2, .i a2), (3, .i a3), (4, .ep (Wire.cells a0)), (18, .b v1)]) _ _
  replace hS : St (· < g) H0 [] H g1 := hS
  replace hM : ref11_PlaysOf_j1 n a0 a1 a2 a3 v1 = some r := hM
  rcases Bool.eq_false_or_eq_true v1 with hb2 | hb2
  ·replace hM := ifT hM hb2
   refine w_condT (e := v1) rfl hb2 ?_
   refine r_seq ?_
   refine r_region (n := 1) rfl ?_
   refine o_assign (v := .i (-1)) (by decide) rfl ?_
   refine run_nil ?_
   refine w_next [(8, .i (-1))] (.k .nil) ?_
   refine r_ret ?_
   refine r_then_ret ?_
   refine w_end (x := .i (-1)) (f := fun r => .i r) (.inr rfl) ?_ (.refl _) (Option.some.inj hM) hS
   exact (res_one (res_tmp (x := .i (-1)) rfl))
  ·replace hM := ifF hM hb2
   refine w_condF (e := v1) rfl hb2 ?_
   refine r_skip ?_
   refine w_next [(1, .sl .no 3 (a1.map WireFault.cells)), (2, .i a2), (3, .i a3), (4, .ep (Wire.cells a0))] (.k (.k (.k (.k .nil)))) ?_
   refine r_seq ?_
   have hS0 := hS
   refine r_draw (n := 11) rfl (by kernel_rfl) ?_
   refine o_move (v := .sl .no 3 (a1.map WireFault.cells)) (by decide) rfl ?_
   refine o_move (v := .i a2) (by decide) rfl ?_
   obtain ⟨r3, hr3, hM⟩ := bindE hM
   refine o_call (bs := [.sl .no 3 (a1.map WireFault.cells), .i 3, .i a2]) (by decide) rfl rfl ((W_ref11_other hr3).le (.k (.k (.k .nil)))) ?_
   refine o_fieldE (cs := (Wire.cells a0)) (by decide) ty_fo24_1 rfl ?_
   refine o_loadE (v := .i a0.Numbers) (by decide) rfl (part_one ty_agg3 ty_sc3 rfl) ?_
   refine o_int (v := .i (w64 (r3 * a0.Numbers))) (by decide) rfl rfl rfl ?_
   refine o_move (v := .sl .no 3 (a1.map WireFault.cells)) (by decide) rfl ?_
   refine o_move (v := .i a3) (by decide) rfl ?_
   obtain ⟨r4, hr4, hM⟩ := bindE hM
   refine o_call (bs := [.sl .no 3 (a1.map WireFault.cells), .i 4, .i a3]) (by decide) rfl rfl ((W_ref11_other hr4).le (.k (.k (.k .nil)))) ?_
   refine o_int (v := .i (w64 ((w64 (r3 * a0.Numbers)) + r4))) (by decide) rfl rfl rfl ?_
   refine o_assign (v := .i (w64 ((w64 (r3 * a0.Numbers)) + r4))) (by decide) rfl ?_
   refine run_nil ?_
   refine w_next [(8, .i (w64 ((w64 (r3 * a0.Numbers)) + r4)))] (.k .nil) ?_
   refine r_ret ?_
   refine w_end (x := .i (w64 ((w64 (r3 * a0.Numbers)) + r4))) (f := fun r => .i r) (.inr rfl) ?_ (.refl _) (Option.some.inj hM) hS
   exact (res_one (res_tmp (x := .i (w64 ((w64 (r3 * a0.Numbers)) + r4))) rfl))
 ·refine r_region (n := 10) rfl ?_
  refine o_move (v := .sl .no 3 (a1.map WireFault.cells)) (by decide) rfl ?_
  refine o_move (v := .i a2) (by decide) rfl ?_
  refine o_build (cs := [.i 1, .i a2, .i 0]) (by decide) ty_zero63 ty_pl63 rfl ?_
  obtain ⟨r5, hr5, hM⟩ := bindE hM
  refine o_call (bs := [.sl .no 3 (a1.map WireFault.cells), .agg [.i 1, .i a2, .i 0]]) (by decide) rfl rfl ((W_ref11_Has hr5).le (.k (.k .nil))) ?_
  refine o_move (v := .b r5) (by decide) rfl ?_
  rcases Bool.eq_false_or_eq_true r5 with hb6 | hb6
  ·replace hM := ifT hM hb6
   refine o_guardN (j := 4) (e := r5) (want := false) (by decide) rfl hb6 ?_
   refine o_guardN (j := 4) (e := r5) (want := false) (by decide) rfl hb6 ?_
   refine o_guardN (j := 4) (e := r5) (want := false) (by decide) rfl hb6 ?_
   refine o_guardN (j := 4) (e := r5) (want := false) (by decide) rfl hb6 ?_
   refine o_pickT (v := .b true) (e := r5) (by decide) rfl hb6 rfl ?_
   refine run_nil ?_
   exact w_goto true (.k (.k (.k (.k (.k .nil))))) ⟨(hS.keep [] rfl).up (by omega), hM⟩
  ·replace hM := ifF hM hb6
   refine o_guardY (j := 4) (e := r5) (want := false) rfl hb6 ?_
   refine o_move (v := .sl .no 3 (a1.map WireFault.cells)) (by decide) rfl ?_
   refine o_guardY (j := 4) (e := r5) (want := false) rfl hb6 ?_
   refine o_move (v := .i a3) (by decide) rfl ?_
   refine o_guardY (j := 4) (e := r5) (want := false) rfl hb6 ?_
   refine o_build (cs := [.i 2, .i a3, .i 0]) (by decide) ty_zero63 ty_pl63 rfl ?_
   refine o_guardY (j := 4) (e := r5) (want := false) rfl hb6 ?_
   obtain ⟨r7, hr7, hM⟩ := bindE hM
   refine o_call (bs := [.sl .no 3 (a1.map WireFault.cells), .agg [.i 2, .i a3, .i 0]]) (by decide) rfl rfl ((W_ref11_Has hr7).le (.k (.k .nil))) ?_
   refine o_pickF (v := .b r7) (e := r5) (by decide) rfl hb6 rfl ?_
   refine run_nil ?_
   exact w_goto r7 (.k (.k (.k (.k (.k .nil))))) ⟨(hS.keep [] rfl).up (by omega), hM⟩
theorem W_ref11_IsExplained {n : Nat} {a0 : Wire} {a1 : List WireFault} {r : Bool} (hM : ref11_IsExplained n a0 a1 = some r) : PureSat Try.prog 78 [.agg (Wire.cells a0), .sl .no 3 (a1.map WireFault.cells)] (.b r) := by
 refine pure_of_wp mixed Try.func78 rfl (by decide) Try.ntmps78 (by simp) ?pure fun H0 g hf => ?_
 case pure => exact .v _
 rw [frame0_of]
 change wpA _ _ _ _ (Fr.of [(0, .agg (Wire.cells a0)), (1, .sl .no 3 (a1.map WireFault.cells))]) H0 g
 have hS := St.start hf
 refine r_seq ?_
 refine r_region (n := 2) rfl ?_
 refine o_box (v := .agg (Wire.cells a0)) (cs := (Wire.cells a0)) hS (by decide) rfl rfl (by omega) fun H hS => ?_
 refine o_assign (v := .b false) (by decide) rfl ?_
 refine run_nil ?_
 refine w_iceE (L' := []) 0 2 hS rfl rfl rfl fun H hS => ?_
 refine w_next [(1, .sl .no 3 (a1.map WireFault.cells)), (2, .ep (Wire.cells a0))] (.k (.k .nil)) ?_
 refine w_join (J := Unit) (fun j => []) (fun j H' g' => St (· < g) H0 [] H' g' ∧ ref11_IsExplained_j1 = some r) ?_ ?_
 ·rintro _ H g1 ⟨hS, hM⟩
  change wpA _ _ _ _ (Fr.of []) _ _
  replace hS : St (· < g) H0 [] H g1 := hS
  replace hM : ref11_IsExplained_j1 = some r := hM
  refine r_seq ?_
  refine r_region (n := 1) rfl ?_
  refine o_assign (v := .b true) (by decide) rfl ?_
  refine run_nil ?_
  refine w_next [(4, .b true)] (.k .nil) ?_
  refine r_ret ?_
  refine w_end (x := .b true) (f := fun r => .b r) (.inr rfl) ?_ (.refl _) (Option.some.inj hM) hS
  exact (res_one (res_tmp (x := .b true) rfl))
 ·refine r_seq ?_
  refine r_region (n := 1) rfl ?_
  refine o_assign (v := .i 0) (by decide) rfl ?_
  refine run_nil ?_
  refine w_next [(1, .sl .no 3 (a1.map WireFault.cells)), (2, .ep (Wire.cells a0)), (5, .i 0)] (.k (.k (.k .nil))) ?_
  refine r_block ?_
  refine w_loop (V := Int) (fun v => [(1, .sl .no 3 (a1.map WireFault.cells)), (2, .ep (Wire.cells a0)), (5, .i v)]) (fun v m2 H' g' => St (· < g) H0 [] H' g' ∧ ref11_IsExplained_l1 n a0 a1 m2 v = some r) (n := n) 0 (.k (.k (.k .nil))) ⟨(hS.keep [] rfl).up (by omega), hM⟩ ?_
  rintro v1 m2 H g2 ⟨hS, hM⟩
  obtain _ | m2 := m2
  ·exact nomatch (show none = some _ from hM)
  change wpA _ _ _ _ (Fr.of [(1, .sl .no 3 (a1.map WireFault.cells)), (2, .ep (Wire.cells a0)), (5, .i v1)]) _ _
  replace hS : St (· < g) H0 [] H g2 := hS
  replace hM : ref11_IsExplained_l1_b n a0 a1 (ref11_IsExplained_l1 n a0 a1 m2) v1 = some r := hM
  refine r_seq ?_
  refine r_seq ?_
  refine r_region (n := 5) rfl ?_
  refine o_move (v := .i v1) (by decide) rfl ?_
  refine o_fieldE (cs := (Wire.cells a0)) (by decide) ty_fo24_2 rfl ?_
  refine o_loadE (v := .sl .no 3 (a0.Presses.map WirePress.cells)) (by decide) rfl (part_one ty_agg22 ty_sc22 rfl) ?_
  refine o_len (n := a0.Presses.length) (by decide) rfl (List.length_map _) ty_isl22 ?_
  refine o_int (v := .b (decide (v1 < (a0.Presses.length : Int)))) (by decide) rfl rfl rfl ?_
  refine run_nil ?_
  refine w_next [(1, .sl .no 3 (a1.map WireFault.cells)), (2, .ep (Wire.cells a0)), (5, .i v1), (11, .b (decide (v1 < (a0.Presses.length : Int))))] (.k (.k (.k (.k .nil)))) ?_
  rcases Bool.eq_false_or_eq_true (decide (v1 < (a0.Presses.length : Int))) with hb2 | hb2
  ·replace hM := ifT hM hb2
   refine w_condT (e := (decide (v1 < (a0.Presses.length : Int)))) rfl hb2 ?_
   refine r_skip ?_
   refine w_next [(1, .sl .no 3 (a1.map WireFault.cells)), (2, .ep (Wire.cells a0)), (5, .i v1)] (.k (.k (.k .nil))) ?_
   refine r_seq ?_
   refine r_block ?_
   refine r_seq ?_
   refine r_region (n := 7) rfl ?_
   refine o_fieldE (cs := (Wire.cells a0)) (by decide) ty_fo24_2 rfl ?_
   refine o_loadE (v := .sl .no 3 (a0.Presses.map WirePress.cells)) (by decide) rfl (part_one ty_agg22 ty_sc22 rfl) ?_
   refine o_move (v := .i v1) (by decide) rfl ?_
   obtain ⟨x3, hx3, hM⟩ := bindE hM
   refine o_index (xs := a0.Presses) (f := WirePress.cells) (z := v1) (u := x3) (by decide) rfl rfl ty_es22 hx3 ?_
   refine o_loadE (v := .agg [.i x3.Letter, .i x3.Number, .i x3.Got]) (by decide) rfl (part_agg ty_agg50 (Nat.le_of_ble_eq_true rfl) rfl) ?_
   refine o_alloc hS (by decide) ty_zero50 (by omega) fun H hS => ?_
   refine o_store (v := .agg [.i x3.Letter, .i x3.Number, .i x3.Got]) (ns := [.i x3.Letter, .i x3.Number, .i x3.Got]) (L' := [(g2 + 5 + 5, .cells [.i x3.Letter, .i x3.Number, .i x3.Got])]) 0 hS rfl rfl .no rfl rfl ty_var50 (Nat.le_of_ble_eq_true rfl) rfl fun H hS => ?_
   refine run_nil ?_
   refine w_iceE (L' := []) 0 6 hS rfl rfl rfl fun H hS => ?_
   refine w_next [(1, .sl .no 3 (a1.map WireFault.cells)), (2, .ep (Wire.cells a0)), (5, .i v1), (6, .ep [.i x3.Letter, .i x3.Number, .i x3.Got])] (.k (.k (.k (.k .nil)))) ?_
   refine r_seq ?_
   have hS0 := hS
   refine r_draw (n := 10) rfl (by kernel_rfl) ?_
   refine o_loadE (v := .agg (Wire.cells a0)) (by decide) rfl (part_agg ty_agg24 (Nat.le_of_ble_eq_true rfl) rfl) ?_
   refine o_move (v := .sl .no 3 (a1.map WireFault.cells)) (by decide) rfl ?_
   refine o_fieldE (cs := [.i x3.Letter, .i x3.Number, .i x3.Got]) (by decide) ty_fo50_0 rfl ?_
   refine o_loadE (v := .i x3.Letter) (by decide) rfl (part_one ty_agg3 ty_sc3 rfl) ?_
   refine o_fieldE (cs := [.i x3.Letter, .i x3.Number, .i x3.Got]) (by decide) ty_fo50_1 rfl ?_
   refine o_loadE (v := .i x3.Number) (by decide) rfl (part_one ty_agg3 ty_sc3 rfl) ?_
   obtain ⟨r4, hr4, hM⟩ := bindE hM
   refine o_call (bs := [.agg (Wire.cells a0), .sl .no 3 (a1.map WireFault.cells), .i x3.Letter, .i x3.Number]) (by decide) rfl rfl ((W_ref11_PlaysOf hr4).le (.k (.k (.k (.k .nil))))) ?_
   refine o_fieldE (cs := [.i x3.Letter, .i x3.Number, .i x3.Got]) (by decide) ty_fo50_2 rfl ?_
   refine o_loadE (v := .i x3.Got) (by decide) rfl (part_one ty_agg3 ty_sc3 rfl) ?_
   refine o_int (v := .b (r4 != x3.Got)) (by decide) rfl rfl rfl ?_
   refine run_nil ?_
   refine w_next [(1, .sl .no 3 (a1.map WireFault.cells)), (2, .ep (Wire.cells a0)), (5, .i v1), (28, .b (r4 != x3.Got))] (.k (.k (.k (.k .nil)))) ?_
   rcases Bool.eq_false_or_eq_true (r4 != x3.Got) with hb5 | hb5
   ·replace hM := ifT hM hb5
    refine w_condT (e := (r4 != x3.Got)) rfl hb5 ?_
    refine r_seq ?_
    refine r_region (n := 1) rfl ?_
    refine o_assign (v := .b false) (by decide) rfl ?_
    refine run_nil ?_
    refine w_next [(4, .b false)] (.k .nil) ?_
    refine r_ret ?_
    refine r_blk_ret ?_
    refine r_then_ret ?_
    refine w_round_ret ?_
    refine r_blk_ret ?_
    refine w_goto_ret ?_
    refine w_end (x := .b false) (f := fun r => .b r) (.inr rfl) ?_ (.refl _) (Option.some.inj hM) hS
    exact (res_one (res_tmp (x := .b false) rfl))
   ·replace hM := ifF hM hb5
    refine w_condF (e := (r4 != x3.Got)) rfl hb5 ?_
    refine r_skip ?_
    refine r_blk_normal ?_
    refine w_next [(1, .sl .no 3 (a1.map WireFault.cells)), (2, .ep (Wire.cells a0)), (5, .i v1)] (.k (.k (.k .nil))) ?_
    refine r_region (n := 3) rfl ?_
    refine o_move (v := .i v1) (by decide) rfl ?_
    refine o_int (v := .i (w64 (v1 + 1))) (by decide) rfl rfl rfl ?_
    refine o_assign (v := .i (w64 (v1 + 1))) (by decide) rfl ?_
    refine run_nil ?_
    exact w_round (w64 (v1 + 1)) (Nat.lt_succ_self _) (.k (.k (.k .nil))) ⟨(hS.keep [] rfl).up (by omega), hM⟩
  ·replace hM := ifF hM hb2
   refine w_condF (e := (decide (v1 < (a0.Presses.length : Int)))) rfl hb2 ?_
   refine r_exit ?_
   refine r_then_exit ?_
   refine w_round_exit ?_
   refine r_blk_exit ?_
   exact w_goto () .nil ⟨(hS.keep [] rfl).up (by omega), hM⟩
theorem W_ref11_clash {a0 : WireFault} {a1 : WireFault} {r : Bool} (hM : ref11_clash a0 a1 = some r) : PureSat Try.prog 96 [.agg (WireFault.cells a0), .agg (WireFault.cells a1)] (.b r) := by
 refine pure_of_wp mixed Try.func96 rfl (by decide) Try.ntmps96 (by simp) ?pure fun H0 g hf => ?_
 case pure => exact .v _
 rw [frame0_of]
 change wpA _ _ _ _ (Fr.of [(0, .agg (WireFault.cells a0)), (1, .agg (WireFault.cells a1))]) H0 g
 have hS := St.start hf
 refine r_seq ?_
 refine r_region (n := 3) rfl ?_
 refine o_box (v := .agg (WireFault.cells a0)) (cs := (WireFault.cells a0)) hS (by decide) rfl rfl (by omega) fun H hS => ?_
 refine o_box (v := .agg (WireFault.cells a1)) (cs := (WireFault.cells a1)) hS (by decide) rfl rfl (by omega) fun H hS => ?_
 refine o_assign (v := .b false) (by decide) rfl ?_
 refine run_nil ?_
 refine w_iceE (L' := [(g + 1, .cells (WireFault.cells a1))]) 1 2 hS rfl rfl rfl fun H hS => ?_
 refine w_iceE (L' := []) 0 3 hS rfl rfl rfl fun H hS => ?_
 refine w_next [(2, .ep (WireFault.cells a0)), (3, .ep (WireFault.cells a1))] (.k (.k .nil)) ?_
 refine w_join (J := Bool) (fun j => [(4, .b j)]) (fun j H' g' => St (· < g) H0 [] H' g' ∧ ref11_clash_j1 j = some r) ?_ ?_
 ·rintro v1 H g1 ⟨hS, hM⟩
  change wpA _ _ _ _ (Fr.of [(4, .b v1)]) _ _
  replace hS : St (· < g) H0 [] H g1 := hS
  replace hM : ref11_clash_j1 v1 = some r := hM
  refine r_ret ?_
  refine w_end (x := .b v1) (f := fun r => .b r) (.inr rfl) ?_ (.refl _) (Option.some.inj hM) hS
  exact (res_one (res_tmp (x := .b v1) rfl))
 ·refine r_region (n := 39) rfl ?_
  refine o_fieldE (cs := (WireFault.cells a0)) (by decide) ty_fo63_0 rfl ?_
  refine o_loadE (v := .i a0.Kind) (by decide) rfl (part_one ty_agg3 ty_sc3 rfl) ?_
  refine o_fieldE (cs := (WireFault.cells a1)) (by decide) ty_fo63_0 rfl ?_
  refine o_loadE (v := .i a1.Kind) (by decide) rfl (part_one ty_agg3 ty_sc3 rfl) ?_
  refine o_int (v := .b (a0.Kind == a1.Kind)) (by decide) rfl rfl rfl ?_
  refine o_move (v := .b (a0.Kind == a1.Kind)) (by decide) rfl ?_
  rcases Bool.eq_false_or_eq_true (a0.Kind == a1.Kind) with hb2 | hb2
  ·replace hM := ifT hM hb2
   refine o_guardY (j := 5) (e := (a0.Kind == a1.Kind)) (want := true) rfl hb2 ?_
   refine o_fieldE (cs := (WireFault.cells a0)) (by decide) ty_fo63_0 rfl ?_
   refine o_guardY (j := 5) (e := (a0.Kind == a1.Kind)) (want := true) rfl hb2 ?_
   refine o_loadE (v := .i a0.Kind) (by decide) rfl (part_one ty_agg3 ty_sc3 rfl) ?_
   refine o_guardY (j := 5) (e := (a0.Kind == a1.Kind)) (want := true) rfl hb2 ?_
   refine o_int (v := .b (decide (a0.Kind ≥ 3))) (by decide) rfl rfl rfl ?_
   refine o_pickT (v := .b (decide (a0.Kind ≥ 3))) (e := (a0.Kind == a1.Kind)) (by decide) rfl hb2 rfl ?_
   refine o_move (v := .b (decide (a0.Kind ≥ 3))) (by decide) rfl ?_
   rcases Bool.eq_false_or_eq_true (decide (a0.Kind ≥ 3)) with hb3 | hb3
   ·replace hM := ifT hM hb3
    refine o_guardY (j := 10) (e := (decide (a0.Kind ≥ 3))) (want := true) rfl hb3 ?_
    refine o_fieldE (cs := (WireFault.cells a0)) (by decide) ty_fo63_1 rfl ?_
    refine o_guardY (j := 10) (e := (decide (a0.Kind ≥ 3))) (want := true) rfl hb3 ?_
    refine o_loadE (v := .i a0.A) (by decide) rfl (part_one ty_agg3 ty_sc3 rfl) ?_
    refine o_guardY (j := 10) (e := (decide (a0.Kind ≥ 3))) (want := true) rfl hb3 ?_
    refine o_fieldE (cs := (WireFault.cells a1)) (by decide) ty_fo63_1 rfl ?_
    refine o_guardY (j := 10) (e := (decide (a0.Kind ≥ 3))) (want := true) rfl hb3 ?_
    refine o_loadE (v := .i a1.A) (by decide) rfl (part_one ty_agg3 ty_sc3 rfl) ?_
    refine o_guardY (j := 10) (e := (decide (a0.Kind ≥ 3))) (want := true) rfl hb3 ?_
    refine o_int (v := .b (a0.A == a1.A)) (by decide) rfl rfl rfl ?_
    refine o_guardY (j := 10) (e := (decide (a0.Kind ≥ 3))) (want := true) rfl hb3 ?_
    refine o_move (v := .b (a0.A == a1.A)) (by decide) rfl ?_
    rcases Bool.eq_false_or_eq_true (a0.A == a1.A) with hb4 | hb4
    ·replace hM := ifT hM hb4
     refine o_guardN (j := 16) (e := (a0.A == a1.A)) (want := false) (by decide) rfl hb4 ?_
     refine o_guardN (j := 16) (e := (a0.A == a1.A)) (want := false) (by decide) rfl hb4 ?_
     refine o_guardN (j := 16) (e := (a0.A == a1.A)) (want := false) (by decide) rfl hb4 ?_
     refine o_guardN (j := 16) (e := (a0.A == a1.A)) (want := false) (by decide) rfl hb4 ?_
     refine o_guardN (j := 16) (e := (a0.A == a1.A)) (want := false) (by decide) rfl hb4 ?_
     refine o_guardY (j := 10) (e := (decide (a0.Kind ≥ 3))) (want := true) rfl hb3 ?_
     refine o_pickT (v := .b true) (e := (a0.A == a1.A)) (by decide) rfl hb4 rfl ?_
     refine o_guardY (j := 10) (e := (decide (a0.Kind ≥ 3))) (want := true) rfl hb3 ?_
     refine o_move (v := .b true) (by decide) rfl ?_
     refine o_guardN (j := 23) (e := true) (want := false) (by decide) rfl rfl ?_
     refine o_guardN (j := 23) (e := true) (want := false) (by decide) rfl rfl ?_
     refine o_guardN (j := 23) (e := true) (want := false) (by decide) rfl rfl ?_
     refine o_guardN (j := 23) (e := true) (want := false) (by decide) rfl rfl ?_
     refine o_guardN (j := 23) (e := true) (want := false) (by decide) rfl rfl ?_
     refine o_guardY (j := 10) (e := (decide (a0.Kind ≥ 3))) (want := true) rfl hb3 ?_
     refine o_pickT (v := .b true) (e := true) (by decide) rfl rfl rfl ?_
     refine o_guardY (j := 10) (e := (decide (a0.Kind ≥ 3))) (want := true) rfl hb3 ?_
     refine o_move (v := .b true) (by decide) rfl ?_
     refine o_guardN (j := 30) (e := true) (want := false) (by decide) rfl rfl ?_
     refine o_guardN (j := 30) (e := true) (want := false) (by decide) rfl rfl ?_
     refine o_guardN (j := 30) (e := true) (want := false) (by decide) rfl rfl ?_
     refine o_guardN (j := 30) (e := true) (want := false) (by decide) rfl rfl ?_
     refine o_guardN (j := 30) (e := true) (want := false) (by decide) rfl rfl ?_
     refine o_guardY (j := 10) (e := (decide (a0.Kind ≥ 3))) (want := true) rfl hb3 ?_
     refine o_pickT (v := .b true) (e := true) (by decide) rfl rfl rfl ?_
     refine o_pickT (v := .b true) (e := (decide (a0.Kind ≥ 3))) (by decide) rfl hb3 rfl ?_
     refine o_assign (v := .b true) (by decide) rfl ?_
     refine run_nil ?_
     exact w_goto true (.k .nil) ⟨(hS.keep [] rfl).up (by omega), hM⟩
    ·replace hM := ifF hM hb4
     refine o_guardY (j := 16) (e := (a0.A == a1.A)) (want := false) rfl hb4 ?_
     refine o_fieldE (cs := (WireFault.cells a0)) (by decide) ty_fo63_1 rfl ?_
     refine o_guardY (j := 16) (e := (a0.A == a1.A)) (want := false) rfl hb4 ?_
     refine o_loadE (v := .i a0.A) (by decide) rfl (part_one ty_agg3 ty_sc3 rfl) ?_
     refine o_guardY (j := 16) (e := (a0.A == a1.A)) (want := false) rfl hb4 ?_
     refine o_fieldE (cs := (WireFault.cells a1)) (by decide) ty_fo63_2 rfl ?_
     refine o_guardY (j := 16) (e := (a0.A == a1.A)) (want := false) rfl hb4 ?_
     refine o_loadE (v := .i a1.B) (by decide) rfl (part_one ty_agg3 ty_sc3 rfl) ?_
     refine o_guardY (j := 16) (e := (a0.A == a1.A)) (want := false) rfl hb4 ?_
     refine o_int (v := .b (a0.A == a1.B)) (by decide) rfl rfl rfl ?_
     refine o_guardY (j := 10) (e := (decide (a0.Kind ≥ 3))) (want := true) rfl hb3 ?_
     refine o_pickF (v := .b (a0.A == a1.B)) (e := (a0.A == a1.A)) (by decide) rfl hb4 rfl ?_
     refine o_guardY (j := 10) (e := (decide (a0.Kind ≥ 3))) (want := true) rfl hb3 ?_
     refine o_move (v := .b (a0.A == a1.B)) (by decide) rfl ?_
     rcases Bool.eq_false_or_eq_true (a0.A == a1.B) with hb5 | hb5
     ·replace hM := ifT hM hb5
      refine o_guardN (j := 23) (e := (a0.A == a1.B)) (want := false) (by decide) rfl hb5 ?_
      refine o_guardN (j := 23) (e := (a0.A == a1.B)) (want := false) (by decide) rfl hb5 ?_
      refine o_guardN (j := 23) (e := (a0.A == a1.B)) (want := false) (by decide) rfl hb5 ?_
      refine o_guardN (j := 23) (e := (a0.A == a1.B)) (want := false) (by decide) rfl hb5 ?_
      refine o_guardN (j := 23) (e := (a0.A == a1.B)) (want := false) (by decide) rfl hb5 ?_
      refine o_guardY (j := 10) (e := (decide (a0.Kind ≥ 3))) (want := true) rfl hb3 ?_
      refine o_pickT (v := .b true) (e := (a0.A == a1.B)) (by decide) rfl hb5 rfl ?_
      refine o_guardY (j := 10) (e := (decide (a0.Kind ≥ 3))) (want := true) rfl hb3 ?_
      refine o_move (v := .b true) (by decide) rfl ?_
      refine o_guardN (j := 30) (e := true) (want := false) (by decide) rfl rfl ?_
      refine o_guardN (j := 30) (e := true) (want := false) (by decide) rfl rfl ?_
      refine o_guardN (j := 30) (e := true) (want := false) (by decide) rfl rfl ?_
      refine o_guardN (j := 30) (e := true) (want := false) (by decide) rfl rfl ?_
      refine o_guardN (j := 30) (e := true) (want := false) (by decide) rfl rfl ?_
      refine o_guardY (j := 10) (e := (decide (a0.Kind ≥ 3))) (want := true) rfl hb3 ?_
      refine o_pickT (v := .b true) (e := true) (by decide) rfl rfl rfl ?_
      refine o_pickT (v := .b true) (e := (decide (a0.Kind ≥ 3))) (by decide) rfl hb3 rfl ?_
      refine o_assign (v := .b true) (by decide) rfl ?_
      refine run_nil ?_
      exact w_goto true (.k .nil) ⟨(hS.keep [] rfl).up (by omega), hM⟩
     ·replace hM := ifF hM hb5
      refine o_guardY (j := 23) (e := (a0.A == a1.B)) (want := false) rfl hb5 ?_
      refine o_fieldE (cs := (WireFault.cells a0)) (by decide) ty_fo63_2 rfl ?_
      refine o_guardY (j := 23) (e := (a0.A == a1.B)) (want := false) rfl hb5 ?_
      refine o_loadE (v := .i a0.B) (by decide) rfl (part_one ty_agg3 ty_sc3 rfl) ?_
      refine o_guardY (j := 23) (e := (a0.A == a1.B)) (want := false) rfl hb5 ?_
      refine o_fieldE (cs := (WireFault.cells a1)) (by decide) ty_fo63_1 rfl ?_
      refine o_guardY (j := 23) (e := (a0.A == a1.B)) (want := false) rfl hb5 ?_
      refine o_loadE (v := .i a1.A) (by decide) rfl (part_one ty_agg3 ty_sc3 rfl) ?_
      refine o_guardY (j := 23) (e := (a0.A == a1.B)) (want := false) rfl hb5 ?_
      refine o_int (v := .b (a0.B == a1.A)) (by decide) rfl rfl rfl ?_
      refine o_guardY (j := 10) (e := (decide (a0.Kind ≥ 3))) (want := true) rfl hb3 ?_
      refine o_pickF (v := .b (a0.B == a1.A)) (e := (a0.A == a1.B)) (by decide) rfl hb5 rfl ?_
      refine o_guardY (j := 10) (e := (decide (a0.Kind ≥ 3))) (want := true) rfl hb3 ?_
      refine o_move (v := .b (a0.B == a1.A)) (by decide) rfl ?_
      rcases Bool.eq_false_or_eq_true (a0.B == a1.A) with hb6 | hb6
      ·replace hM := ifT hM hb6
       refine o_guardN (j := 30) (e := (a0.B == a1.A)) (want := false) (by decide) rfl hb6 ?_
       refine o_guardN (j := 30) (e := (a0.B == a1.A)) (want := false) (by decide) rfl hb6 ?_
       refine o_guardN (j := 30) (e := (a0.B == a1.A)) (want := false) (by decide) rfl hb6 ?_
       refine o_guardN (j := 30) (e := (a0.B == a1.A)) (want := false) (by decide) rfl hb6 ?_
       refine o_guardN (j := 30) (e := (a0.B == a1.A)) (want := false) (by decide) rfl hb6 ?_
       refine o_guardY (j := 10) (e := (decide (a0.Kind ≥ 3))) (want := true) rfl hb3 ?_
       refine o_pickT (v := .b true) (e := (a0.B == a1.A)) (by decide) rfl hb6 rfl ?_
       refine o_pickT (v := .b true) (e := (decide (a0.Kind ≥ 3))) (by decide) rfl hb3 rfl ?_
       refine o_assign (v := .b true) (by decide) rfl ?_
       refine run_nil ?_
       exact w_goto true (.k .nil) ⟨(hS.keep [] rfl).up (by omega), hM⟩
      ·replace hM := ifF hM hb6
       refine o_guardY (j := 30) (e := (a0.B == a1.A)) (want := false) rfl hb6 ?_
       refine o_fieldE (cs := (WireFault.cells a0)) (by decide) ty_fo63_2 rfl ?_
       refine o_guardY (j := 30) (e := (a0.B == a1.A)) (want := false) rfl hb6 ?_
       refine o_loadE (v := .i a0.B) (by decide) rfl (part_one ty_agg3 ty_sc3 rfl) ?_
       refine o_guardY (j := 30) (e := (a0.B == a1.A)) (want := false) rfl hb6 ?_
       refine o_fieldE (cs := (WireFault.cells a1)) (by decide) ty_fo63_2 rfl ?_
       refine o_guardY (j := 30) (e := (a0.B == a1.A)) (want := false) rfl hb6 ?_
       refine o_loadE (v := .i a1.B) (by decide) rfl (part_one ty_agg3 ty_sc3 rfl) ?_
       refine o_guardY (j := 30) (e := (a0.B == a1.A)) (want := false) rfl hb6 ?_
       refine o_int (v := .b (a0.B == a1.B)) (by decide) rfl rfl rfl ?_
       refine o_guardY (j := 10) (e := (decide (a0.Kind ≥ 3))) (want := true) rfl hb3 ?_
       refine o_pickF (v := .b (a0.B == a1.B)) (e := (a0.B == a1.A)) (by decide) rfl hb6 rfl ?_
       refine o_pickT (v := .b (a0.B == a1.B)) (e := (decide (a0.Kind ≥ 3))) (by decide) rfl hb3 rfl ?_
       refine o_assign (v := .b (a0.B == a1.B)) (by decide) rfl ?_
       refine run_nil ?_
       exact w_goto (a0.B == a1.B) (.k .nil) ⟨(hS.keep [] rfl).up (by omega), hM⟩
   ·replace hM := ifF hM hb3
    refine o_guardN (j := 10) (e := (decide (a0.Kind ≥ 3))) (want := true) (by decide) rfl hb3 ?_
    refine o_guardN (j := 10) (e := (decide (a0.Kind ≥ 3))) (want := true) (by decide) rfl hb3 ?_
    refine o_guardN (j := 10) (e := (decide (a0.Kind ≥ 3))) (want := true) (by decide) rfl hb3 ?_
    refine o_guardN (j := 10) (e := (decide (a0.Kind ≥ 3))) (want := true) (by decide) rfl hb3 ?_
    refine o_guardN (j := 10) (e := (decide (a0.Kind ≥ 3))) (want := true) (by decide) rfl hb3 ?_
    refine o_guardN (j := 10) (e := (decide (a0.Kind ≥ 3))) (want := true) (by decide) rfl hb3 ?_
    refine o_guardU (j := 16) (by decide) rfl ?_
    refine o_guardU (j := 16) (by decide) rfl ?_
    refine o_guardU (j := 16) (by decide) rfl ?_
    refine o_guardU (j := 16) (by decide) rfl ?_
    refine o_guardU (j := 16) (by decide) rfl ?_
    refine o_guardN (j := 10) (e := (decide (a0.Kind ≥ 3))) (want := true) (by decide) rfl hb3 ?_
    refine o_guardN (j := 10) (e := (decide (a0.Kind ≥ 3))) (want := true) (by decide) rfl hb3 ?_
    refine o_guardU (j := 23) (by decide) rfl ?_
    refine o_guardU (j := 23) (by decide) rfl ?_
    refine o_guardU (j := 23) (by decide) rfl ?_
    refine o_guardU (j := 23) (by decide) rfl ?_
    refine o_guardU (j := 23) (by decide) rfl ?_
    refine o_guardN (j := 10) (e := (decide (a0.Kind ≥ 3))) (want := true) (by decide) rfl hb3 ?_
    refine o_guardN (j := 10) (e := (decide (a0.Kind ≥ 3))) (want := true) (by decide) rfl hb3 ?_
    refine o_guardU (j := 30) (by decide) rfl ?_
    refine o_guardU (j := 30) (by decide) rfl ?_
    refine o_guardU (j := 30) (by decide) rfl ?_
    refine o_guardU (j := 30) (by decide) rfl ?_
    refine o_guardU (j := 30) (by decide) rfl ?_
    refine o_guardN (j := 10) (e := (decide (a0.Kind ≥ 3))) (want := true) (by decide) rfl hb3 ?_
    refine o_pickF (v := .b false) (e := (decide (a0.Kind ≥ 3))) (by decide) rfl hb3 rfl ?_
    refine o_assign (v := .b false) (by decide) rfl ?_
    refine run_nil ?_
    exact w_goto false (.k .nil) ⟨(hS.keep [] rfl).up (by omega), hM⟩
  ·replace hM := ifF hM hb2
   refine o_guardN (j := 5) (e := (a0.Kind == a1.Kind)) (want := true) (by decide) rfl hb2 ?_
   refine o_guardN (j := 5) (e := (a0.Kind == a1.Kind)) (want := true) (by decide) rfl hb2 ?_
   refine o_guardN (j := 5) (e := (a0.Kind == a1.Kind)) (want := true) (by decide) rfl hb2 ?_
   refine o_pickF (v := .b false) (e := (a0.Kind == a1.Kind)) (by decide) rfl hb2 rfl ?_
   refine o_move (v := .b false) (by decide) rfl ?_
   refine o_guardN (j := 10) (e := false) (want := true) (by decide) rfl rfl ?_
   refine o_guardN (j := 10) (e := false) (want := true) (by decide) rfl rfl ?_
   refine o_guardN (j := 10) (e := false) (want := true) (by decide) rfl rfl ?_
   refine o_guardN (j := 10) (e := false) (want := true) (by decide) rfl rfl ?_
   refine o_guardN (j := 10) (e := false) (want := true) (by decide) rfl rfl ?_
   refine o_guardN (j := 10) (e := false) (want := true) (by decide) rfl rfl ?_
   refine o_guardU (j := 16) (by decide) rfl ?_
   refine o_guardU (j := 16) (by decide) rfl ?_
   refine o_guardU (j := 16) (by decide) rfl ?_
   refine o_guardU (j := 16) (by decide) rfl ?_
   refine o_guardU (j := 16) (by decide) rfl ?_
   refine o_guardN (j := 10) (e := false) (want := true) (by decide) rfl rfl ?_
   refine o_guardN (j := 10) (e := false) (want := true) (by decide) rfl rfl ?_
   refine o_guardU (j := 23) (by decide) rfl ?_
   refine o_guardU (j := 23) (by decide) rfl ?_
   refine o_guardU (j := 23) (by decide) rfl ?_
   refine o_guardU (j := 23) (by decide) rfl ?_
   refine o_guardU (j := 23) (by decide) rfl ?_
   refine o_guardN (j := 10) (e := false) (want := true) (by decide) rfl rfl ?_
   refine o_guardN (j := 10) (e := false) (want := true) (by decide) rfl rfl ?_
   refine o_guardU (j := 30) (by decide) rfl ?_
   refine o_guardU (j := 30) (by decide) rfl ?_
   refine o_guardU (j := 30) (by decide) rfl ?_
   refine o_guardU (j := 30) (by decide) rfl ?_
   refine o_guardU (j := 30) (by decide) rfl ?_
   refine o_guardN (j := 10) (e := false) (want := true) (by decide) rfl rfl ?_
   refine o_pickF (v := .b false) (e := false) (by decide) rfl rfl rfl ?_
   refine o_assign (v := .b false) (by decide) rfl ?_
   refine run_nil ?_
   exact w_goto false (.k .nil) ⟨(hS.keep [] rfl).up (by omega), hM⟩
theorem W_law11_same {n : Nat} {a0 : Wire} {a1 : Wire} {r : Bool} (hM : law11_same n a0 a1 = some r) : PureSat Try.prog 24 [.agg (Wire.cells a0), .agg (Wire.cells a1)] (.b r) := by
 refine pure_of_wp mixed Try.func24 rfl (by decide) Try.ntmps24 (by simp) ?pure fun H0 g hf => ?_
 case pure => exact .v _
 rw [frame0_of]
 change wpA _ _ _ _ (Fr.of [(0, .agg (Wire.cells a0)), (1, .agg (Wire.cells a1))]) H0 g
 have hS := St.start hf
 refine r_seq ?_
 refine r_region (n := 3) rfl ?_
 refine o_box (v := .agg (Wire.cells a0)) (cs := (Wire.cells a0)) hS (by decide) rfl rfl (by omega) fun H hS => ?_
 refine o_box (v := .agg (Wire.cells a1)) (cs := (Wire.cells a1)) hS (by decide) rfl rfl (by omega) fun H hS => ?_
 refine o_assign (v := .b false) (by decide) rfl ?_
 refine run_nil ?_
 refine w_iceE (L' := [(g + 1, .cells (Wire.cells a1))]) 1 2 hS rfl rfl rfl fun H hS => ?_
 refine w_iceE (L' := []) 0 3 hS rfl rfl rfl fun H hS => ?_
 refine w_next [(2, .ep (Wire.cells a0)), (3, .ep (Wire.cells a1))] (.k (.k .nil)) ?_
 refine r_seq ?_
 refine w_join (J := Bool) (fun j => [(2, .ep (Wire.cells a0)), (3, .ep (Wire.cells a1)), (33, .b j)]) (fun j H' g' => St (· < g) H0 [] H' g' ∧ law11_same_j1 n a0 a1 j = some r) ?_ ?_
 ·rintro v1 H g1 ⟨hS, hM⟩
  change wpA _ _ _ _ (Fr.of [(2, .ep (Wire.cells a0)), (3, .ep (Wire.cells a1)), (33, .b v1)]) _ _
  replace hS : St (· < g) H0 [] H g1 := hS
  replace hM : law11_same_j1 n a0 a1 v1 = some r := hM
  rcases Bool.eq_false_or_eq_true v1 with hb2 | hb2
  ·replace hM := ifT hM hb2
   refine w_condT (e := v1) rfl hb2 ?_
   refine r_seq ?_
   refine r_region (n := 1) rfl ?_
   refine o_assign (v := .b false) (by decide) rfl ?_
   refine run_nil ?_
   refine w_next [(4, .b false)] (.k .nil) ?_
   refine r_ret ?_
   refine r_then_ret ?_
   refine w_end (x := .b false) (f := fun r => .b r) (.inr rfl) ?_ (.refl _) (Option.some.inj hM) hS
   exact (res_one (res_tmp (x := .b false) rfl))
  ·replace hM := ifF hM hb2
   refine w_condF (e := v1) rfl hb2 ?_
   refine r_skip ?_
   refine w_next [(2, .ep (Wire.cells a0)), (3, .ep (Wire.cells a1))] (.k (.k .nil)) ?_
   refine w_join (J := Unit) (fun j => []) (fun j H' g' => St (· < g) H0 [] H' g' ∧ law11_same_j2 = some r) ?_ ?_
   ·rintro _ H g2 ⟨hS, hM⟩
    change wpA _ _ _ _ (Fr.of []) _ _
    replace hS : St (· < g) H0 [] H g2 := hS
    replace hM : law11_same_j2 = some r := hM
    refine r_seq ?_
    refine r_region (n := 1) rfl ?_
    refine o_assign (v := .b true) (by decide) rfl ?_
    refine run_nil ?_
    refine w_next [(4, .b true)] (.k .nil) ?_
    refine r_ret ?_
    refine w_end (x := .b true) (f := fun r => .b r) (.inr rfl) ?_ (.refl _) (Option.some.inj hM) hS
    exact (res_one (res_tmp (x := .b true) rfl))
   ·refine r_seq ?_
    refine r_region (n := 1) rfl ?_
    refine o_assign (v := .i 0) (by decide) rfl ?_
    refine run_nil ?_
    refine w_next [(2, .ep (Wire.cells a0)), (3, .ep (Wire.cells a1)), (5, .i 0)] (.k (.k (.k .nil))) ?_
    refine r_block ?_
    refine w_loop (V := Int) (fun v => [(2, .ep (Wire.cells a0)), (3, .ep (Wire.cells a1)), (5, .i v)]) (fun v m3 H' g' => St (· < g) H0 [] H' g' ∧ law11_same_l1 a0 a1 m3 v = some r) (n := n) 0 (.k (.k (.k .nil))) ⟨(hS.keep [] rfl).up (by omega), hM⟩ ?_
    rintro v3 m3 H g3 ⟨hS, hM⟩
    obtain _ | m3 := m3
    ·exact nomatch (show none = some _ from hM)
    change wpA _ _ _ _ (Fr.of [(2, .ep (Wire.cells a0)), (3, .ep (Wire.cells a1)), (5, .i v3)]) _ _
    replace hS : St (· < g) H0 [] H g3 := hS
    replace hM : law11_same_l1_b a0 a1 (law11_same_l1 a0 a1 m3) v3 = some r := hM
    refine r_seq ?_
    refine r_seq ?_
    refine r_region (n := 5) rfl ?_
    refine o_move (v := .i v3) (by decide) rfl ?_
    refine o_fieldE (cs := (Wire.cells a0)) (by decide) ty_fo24_2 rfl ?_
    refine o_loadE (v := .sl .no 3 (a0.Presses.map WirePress.cells)) (by decide) rfl (part_one ty_agg22 ty_sc22 rfl) ?_
    refine o_len (n := a0.Presses.length) (by decide) rfl (List.length_map _) ty_isl22 ?_
    refine o_int (v := .b (decide (v3 < (a0.Presses.length : Int)))) (by decide) rfl rfl rfl ?_
    refine run_nil ?_
    refine w_next [(2, .ep (Wire.cells a0)), (3, .ep (Wire.cells a1)), (5, .i v3), (38, .b (decide (v3 < (a0.Presses.length : Int))))] (.k (.k (.k (.k .nil)))) ?_
    rcases Bool.eq_false_or_eq_true (decide (v3 < (a0.Presses.length : Int))) with hb4 | hb4
    ·replace hM := ifT hM hb4
     refine w_condT (e := (decide (v3 < (a0.Presses.length : Int)))) rfl hb4 ?_
     refine r_skip ?_
     refine w_next [(2, .ep (Wire.cells a0)), (3, .ep (Wire.cells a1)), (5, .i v3)] (.k (.k (.k .nil))) ?_
     refine r_seq ?_
     refine r_block ?_
     refine r_seq ?_
     have hS0 := hS
     refine r_draw (n := 11) rfl (by kernel_rfl) ?_
     refine o_fieldE (cs := (Wire.cells a0)) (by decide) ty_fo24_2 rfl ?_
     refine o_loadE (v := .sl .no 3 (a0.Presses.map WirePress.cells)) (by decide) rfl (part_one ty_agg22 ty_sc22 rfl) ?_
     refine o_move (v := .i v3) (by decide) rfl ?_
     obtain ⟨x5, hx5, hM⟩ := bindE hM
     refine o_index (xs := a0.Presses) (f := WirePress.cells) (z := v3) (u := x5) (by decide) rfl rfl ty_es22 hx5 ?_
     refine o_loadE (v := .agg [.i x5.Letter, .i x5.Number, .i x5.Got]) (by decide) rfl (part_agg ty_agg50 (Nat.le_of_ble_eq_true rfl) rfl) ?_
     refine o_fieldE (cs := (Wire.cells a1)) (by decide) ty_fo24_2 rfl ?_
     refine o_loadE (v := .sl .no 3 (a1.Presses.map WirePress.cells)) (by decide) rfl (part_one ty_agg22 ty_sc22 rfl) ?_
     refine o_move (v := .i v3) (by decide) rfl ?_
     obtain ⟨x6, hx6, hM⟩ := bindE hM
     refine o_index (xs := a1.Presses) (f := WirePress.cells) (z := v3) (u := x6) (by decide) rfl rfl ty_es22 hx6 ?_
     refine o_loadE (v := .agg [.i x6.Letter, .i x6.Number, .i x6.Got]) (by decide) rfl (part_agg ty_agg50 (Nat.le_of_ble_eq_true rfl) rfl) ?_
     refine o_neS (cs := [.i x5.Letter, .i x5.Number, .i x5.Got]) (ds := [.i x6.Letter, .i x6.Number, .i x6.Got]) (e := ((x5.Letter == x6.Letter) && ((x5.Number == x6.Number) && ((x5.Got == x6.Got) && true)))) (by decide) rfl rfl ty_flat50 rfl ?_
     refine run_nil ?_
     refine w_next [(2, .ep (Wire.cells a0)), (3, .ep (Wire.cells a1)), (5, .i v3), (51, .b (!((x5.Letter == x6.Letter) && ((x5.Number == x6.Number) && ((x5.Got == x6.Got) && true)))))] (.k (.k (.k (.k .nil)))) ?_
     rcases Bool.eq_false_or_eq_true (!((x5.Letter == x6.Letter) && ((x5.Number == x6.Number) && ((x5.Got == x6.Got) && true)))) with hb7 | hb7
     ·replace hM := ifT hM hb7
      refine w_condT (e := (!((x5.Letter == x6.Letter) && ((x5.Number == x6.Number) && ((x5.Got == x6.Got) && true))))) rfl hb7 ?_
      refine r_seq ?_
      refine r_region (n := 1) rfl ?_
      refine o_assign (v := .b false) (by decide) rfl ?_
      refine run_nil ?_
      refine w_next [(4, .b false)] (.k .nil) ?_
      refine r_ret ?_
      refine r_blk_ret ?_
      refine r_then_ret ?_
      refine w_round_ret ?_
      refine r_blk_ret ?_
      refine w_goto_ret ?_
      refine w_end (x := .b false) (f := fun r => .b r) (.inr rfl) ?_ (.refl _) (Option.some.inj hM) hS
      exact (res_one (res_tmp (x := .b false) rfl))
     ·replace hM := ifF hM hb7
      refine w_condF (e := (!((x5.Letter == x6.Letter) && ((x5.Number == x6.Number) && ((x5.Got == x6.Got) && true))))) rfl hb7 ?_
      refine r_skip ?_
      refine r_blk_normal ?_
      refine w_next [(2, .ep (Wire.cells a0)), (3, .ep (Wire.cells a1)), (5, .i v3)] (.k (.k (.k .nil))) ?_
      refine r_region (n := 3) rfl ?_
      refine o_move (v := .i v3) (by decide) rfl ?_
      refine o_int (v := .i (w64 (v3 + 1))) (by decide) rfl rfl rfl ?_
      refine o_assign (v := .i (w64 (v3 + 1))) (by decide) rfl ?_
      refine run_nil ?_
      exact w_round (w64 (v3 + 1)) (Nat.lt_succ_self _) (.k (.k (.k .nil))) ⟨(hS.keep [] rfl).up (by omega), hM⟩
    ·replace hM := ifF hM hb4
     refine w_condF (e := (decide (v3 < (a0.Presses.length : Int)))) rfl hb4 ?_
     refine r_exit ?_
     refine r_then_exit ?_
     refine w_round_exit ?_
     refine r_blk_exit ?_
     exact w_goto () .nil ⟨(hS.keep [] rfl).up (by omega), hM⟩
 ·refine r_region (n := 28) rfl ?_
  refine o_fieldE (cs := (Wire.cells a0)) (by decide) ty_fo24_0 rfl ?_
  refine o_loadE (v := .i a0.Letters) (by decide) rfl (part_one ty_agg3 ty_sc3 rfl) ?_
  refine o_fieldE (cs := (Wire.cells a1)) (by decide) ty_fo24_0 rfl ?_
  refine o_loadE (v := .i a1.Letters) (by decide) rfl (part_one ty_agg3 ty_sc3 rfl) ?_
  refine o_int (v := .b (a0.Letters != a1.Letters)) (by decide) rfl rfl rfl ?_
  refine o_move (v := .b (a0.Letters != a1.Letters)) (by decide) rfl ?_
  rcases Bool.eq_false_or_eq_true (a0.Letters != a1.Letters) with hb8 | hb8
  ·replace hM := ifT hM hb8
   refine o_guardN (j := 5) (e := (a0.Letters != a1.Letters)) (want := false) (by decide) rfl hb8 ?_
   refine o_guardN (j := 5) (e := (a0.Letters != a1.Letters)) (want := false) (by decide) rfl hb8 ?_
   refine o_guardN (j := 5) (e := (a0.Letters != a1.Letters)) (want := false) (by decide) rfl hb8 ?_
   refine o_guardN (j := 5) (e := (a0.Letters != a1.Letters)) (want := false) (by decide) rfl hb8 ?_
   refine o_guardN (j := 5) (e := (a0.Letters != a1.Letters)) (want := false) (by decide) rfl hb8 ?_
   refine o_pickT (v := .b true) (e := (a0.Letters != a1.Letters)) (by decide) rfl hb8 rfl ?_
   refine o_move (v := .b true) (by decide) rfl ?_
   refine o_guardN (j := 12) (e := true) (want := false) (by decide) rfl rfl ?_
   refine o_guardN (j := 12) (e := true) (want := false) (by decide) rfl rfl ?_
   refine o_guardN (j := 12) (e := true) (want := false) (by decide) rfl rfl ?_
   refine o_guardN (j := 12) (e := true) (want := false) (by decide) rfl rfl ?_
   refine o_guardN (j := 12) (e := true) (want := false) (by decide) rfl rfl ?_
   refine o_pickT (v := .b true) (e := true) (by decide) rfl rfl rfl ?_
   refine o_move (v := .b true) (by decide) rfl ?_
   refine o_guardN (j := 19) (e := true) (want := false) (by decide) rfl rfl ?_
   refine o_guardN (j := 19) (e := true) (want := false) (by decide) rfl rfl ?_
   refine o_guardN (j := 19) (e := true) (want := false) (by decide) rfl rfl ?_
   refine o_guardN (j := 19) (e := true) (want := false) (by decide) rfl rfl ?_
   refine o_guardN (j := 19) (e := true) (want := false) (by decide) rfl rfl ?_
   refine o_guardN (j := 19) (e := true) (want := false) (by decide) rfl rfl ?_
   refine o_guardN (j := 19) (e := true) (want := false) (by decide) rfl rfl ?_
   refine o_pickT (v := .b true) (e := true) (by decide) rfl rfl rfl ?_
   refine run_nil ?_
   exact w_goto true (.k (.k (.k .nil))) ⟨(hS.keep [] rfl).up (by omega), hM⟩
  ·replace hM := ifF hM hb8
   refine o_guardY (j := 5) (e := (a0.Letters != a1.Letters)) (want := false) rfl hb8 ?_
   refine o_fieldE (cs := (Wire.cells a0)) (by decide) ty_fo24_1 rfl ?_
   refine o_guardY (j := 5) (e := (a0.Letters != a1.Letters)) (want := false) rfl hb8 ?_
   refine o_loadE (v := .i a0.Numbers) (by decide) rfl (part_one ty_agg3 ty_sc3 rfl) ?_
   refine o_guardY (j := 5) (e := (a0.Letters != a1.Letters)) (want := false) rfl hb8 ?_
   refine o_fieldE (cs := (Wire.cells a1)) (by decide) ty_fo24_1 rfl ?_
   refine o_guardY (j := 5) (e := (a0.Letters != a1.Letters)) (want := false) rfl hb8 ?_
   refine o_loadE (v := .i a1.Numbers) (by decide) rfl (part_one ty_agg3 ty_sc3 rfl) ?_
   refine o_guardY (j := 5) (e := (a0.Letters != a1.Letters)) (want := false) rfl hb8 ?_
   refine o_int (v := .b (a0.Numbers != a1.Numbers)) (by decide) rfl rfl rfl ?_
   refine o_pickF (v := .b (a0.Numbers != a1.Numbers)) (e := (a0.Letters != a1.Letters)) (by decide) rfl hb8 rfl ?_
   refine o_move (v := .b (a0.Numbers != a1.Numbers)) (by decide) rfl ?_
   rcases Bool.eq_false_or_eq_true (a0.Numbers != a1.Numbers) with hb9 | hb9
   ·replace hM := ifT hM hb9
    refine o_guardN (j := 12) (e := (a0.Numbers != a1.Numbers)) (want := false) (by decide) rfl hb9 ?_
    refine o_guardN (j := 12) (e := (a0.Numbers != a1.Numbers)) (want := false) (by decide) rfl hb9 ?_
    refine o_guardN (j := 12) (e := (a0.Numbers != a1.Numbers)) (want := false) (by decide) rfl hb9 ?_
    refine o_guardN (j := 12) (e := (a0.Numbers != a1.Numbers)) (want := false) (by decide) rfl hb9 ?_
    refine o_guardN (j := 12) (e := (a0.Numbers != a1.Numbers)) (want := false) (by decide) rfl hb9 ?_
    refine o_pickT (v := .b true) (e := (a0.Numbers != a1.Numbers)) (by decide) rfl hb9 rfl ?_
    refine o_move (v := .b true) (by decide) rfl ?_
    refine o_guardN (j := 19) (e := true) (want := false) (by decide) rfl rfl ?_
    refine o_guardN (j := 19) (e := true) (want := false) (by decide) rfl rfl ?_
    refine o_guardN (j := 19) (e := true) (want := false) (by decide) rfl rfl ?_
    refine o_guardN (j := 19) (e := true) (want := false) (by decide) rfl rfl ?_
    refine o_guardN (j := 19) (e := true) (want := false) (by decide) rfl rfl ?_
    refine o_guardN (j := 19) (e := true) (want := false) (by decide) rfl rfl ?_
    refine o_guardN (j := 19) (e := true) (want := false) (by decide) rfl rfl ?_
    refine o_pickT (v := .b true) (e := true) (by decide) rfl rfl rfl ?_
    refine run_nil ?_
    exact w_goto true (.k (.k (.k .nil))) ⟨(hS.keep [] rfl).up (by omega), hM⟩
   ·replace hM := ifF hM hb9
    refine o_guardY (j := 12) (e := (a0.Numbers != a1.Numbers)) (want := false) rfl hb9 ?_
    refine o_fieldE (cs := (Wire.cells a0)) (by decide) ty_fo24_3 rfl ?_
    refine o_guardY (j := 12) (e := (a0.Numbers != a1.Numbers)) (want := false) rfl hb9 ?_
    refine o_loadE (v := .i a0.Faults) (by decide) rfl (part_one ty_agg3 ty_sc3 rfl) ?_
    refine o_guardY (j := 12) (e := (a0.Numbers != a1.Numbers)) (want := false) rfl hb9 ?_
    refine o_fieldE (cs := (Wire.cells a1)) (by decide) ty_fo24_3 rfl ?_
    refine o_guardY (j := 12) (e := (a0.Numbers != a1.Numbers)) (want := false) rfl hb9 ?_
    refine o_loadE (v := .i a1.Faults) (by decide) rfl (part_one ty_agg3 ty_sc3 rfl) ?_
    refine o_guardY (j := 12) (e := (a0.Numbers != a1.Numbers)) (want := false) rfl hb9 ?_
    refine o_int (v := .b (a0.Faults != a1.Faults)) (by decide) rfl rfl rfl ?_
    refine o_pickF (v := .b (a0.Faults != a1.Faults)) (e := (a0.Numbers != a1.Numbers)) (by decide) rfl hb9 rfl ?_
    refine o_move (v := .b (a0.Faults != a1.Faults)) (by decide) rfl ?_
    rcases Bool.eq_false_or_eq_true (a0.Faults != a1.Faults) with hb10 | hb10
    ·replace hM := ifT hM hb10
     refine o_guardN (j := 19) (e := (a0.Faults != a1.Faults)) (want := false) (by decide) rfl hb10 ?_
     refine o_guardN (j := 19) (e := (a0.Faults != a1.Faults)) (want := false) (by decide) rfl hb10 ?_
     refine o_guardN (j := 19) (e := (a0.Faults != a1.Faults)) (want := false) (by decide) rfl hb10 ?_
     refine o_guardN (j := 19) (e := (a0.Faults != a1.Faults)) (want := false) (by decide) rfl hb10 ?_
     refine o_guardN (j := 19) (e := (a0.Faults != a1.Faults)) (want := false) (by decide) rfl hb10 ?_
     refine o_guardN (j := 19) (e := (a0.Faults != a1.Faults)) (want := false) (by decide) rfl hb10 ?_
     refine o_guardN (j := 19) (e := (a0.Faults != a1.Faults)) (want := false) (by decide) rfl hb10 ?_
     refine o_pickT (v := .b true) (e := (a0.Faults != a1.Faults)) (by decide) rfl hb10 rfl ?_
     refine run_nil ?_
     exact w_goto true (.k (.k (.k .nil))) ⟨(hS.keep [] rfl).up (by omega), hM⟩
    ·replace hM := ifF hM hb10
     refine o_guardY (j := 19) (e := (a0.Faults != a1.Faults)) (want := false) rfl hb10 ?_
     refine o_fieldE (cs := (Wire.cells a0)) (by decide) ty_fo24_2 rfl ?_
     refine o_guardY (j := 19) (e := (a0.Faults != a1.Faults)) (want := false) rfl hb10 ?_
     refine o_loadE (v := .sl .no 3 (a0.Presses.map WirePress.cells)) (by decide) rfl (part_one ty_agg22 ty_sc22 rfl) ?_
     refine o_guardY (j := 19) (e := (a0.Faults != a1.Faults)) (want := false) rfl hb10 ?_
     refine o_len (n := a0.Presses.length) (by decide) rfl (List.length_map _) ty_isl22 ?_
     refine o_guardY (j := 19) (e := (a0.Faults != a1.Faults)) (want := false) rfl hb10 ?_
     refine o_fieldE (cs := (Wire.cells a1)) (by decide) ty_fo24_2 rfl ?_
     refine o_guardY (j := 19) (e := (a0.Faults != a1.Faults)) (want := false) rfl hb10 ?_
     refine o_loadE (v := .sl .no 3 (a1.Presses.map WirePress.cells)) (by decide) rfl (part_one ty_agg22 ty_sc22 rfl) ?_
     refine o_guardY (j := 19) (e := (a0.Faults != a1.Faults)) (want := false) rfl hb10 ?_
     refine o_len (n := a1.Presses.length) (by decide) rfl (List.length_map _) ty_isl22 ?_
     refine o_guardY (j := 19) (e := (a0.Faults != a1.Faults)) (want := false) rfl hb10 ?_
     refine o_int (v := .b ((a0.Presses.length : Int) != (a1.Presses.length : Int))) (by decide) rfl rfl rfl ?_
     refine o_pickF (v := .b ((a0.Presses.length : Int) != (a1.Presses.length : Int))) (e := (a0.Faults != a1.Faults)) (by decide) rfl hb10 rfl ?_
     refine run_nil ?_
     exact w_goto ((a0.Presses.length : Int) != (a1.Presses.length : Int)) (.k (.k (.k .nil))) ⟨(hS.keep [] rfl).up (by omega), hM⟩
theorem W_ref11_IsSet {n : Nat} {a0 : Wire} {a1 : List WireFault} {r : Bool} (hM : ref11_IsSet n a0 a1 = some r) : PureSat Try.prog 76 [.agg (Wire.cells a0), .sl .no 3 (a1.map WireFault.cells)] (.b r) := by
 refine pure_of_wp mixed Try.func76 rfl (by decide) Try.ntmps76 (by simp) ?pure fun H0 g hf => ?_
 case pure => exact .v _
 rw [frame0_of]
 change wpA _ _ _ _ (Fr.of [(0, .agg (Wire.cells a0)), (1, .sl .no 3 (a1.map WireFault.cells))]) H0 g
 have hS := St.start hf
 refine r_seq ?_
 refine r_region (n := 2) rfl ?_
 refine o_box (v := .agg (Wire.cells a0)) (cs := (Wire.cells a0)) hS (by decide) rfl rfl (by omega) fun H hS => ?_
 refine o_assign (v := .b false) (by decide) rfl ?_
 refine run_nil ?_
 refine w_iceE (L' := []) 0 2 hS rfl rfl rfl fun H hS => ?_
 refine w_next [(1, .sl .no 3 (a1.map WireFault.cells)), (2, .ep (Wire.cells a0))] (.k (.k .nil)) ?_
 refine r_seq ?_
 refine r_region (n := 4) rfl ?_
 refine o_loadE (v := .agg (Wire.cells a0)) (by decide) rfl (part_agg ty_agg24 (Nat.le_of_ble_eq_true rfl) rfl) ?_
 obtain ⟨r1, hr1, hM⟩ := bindE hM
 refine o_call (bs := [.agg (Wire.cells a0)]) (by decide) rfl rfl ((W_ref11_AllFaults hr1).le (.k .nil)) ?_
 refine o_assign (v := .sl .no 3 (r1.map WireFault.cells)) (by decide) rfl ?_
 refine o_assign (v := .i (-1)) (by decide) rfl ?_
 refine run_nil ?_
 refine w_next [(1, .sl .no 3 (a1.map WireFault.cells)), (5, .sl .no 3 (r1.map WireFault.cells)), (6, .i (-1))] (.k (.k (.k .nil))) ?_
 refine w_join (J := Unit) (fun j => []) (fun j H' g' => St (· < g) H0 [] H' g' ∧ ref11_IsSet_j1 = some r) ?_ ?_
 ·rintro _ H g1 ⟨hS, hM⟩
  change wpA _ _ _ _ (Fr.of []) _ _
  replace hS : St (· < g) H0 [] H g1 := hS
  replace hM : ref11_IsSet_j1 = some r := hM
  refine r_seq ?_
  refine r_region (n := 1) rfl ?_
  refine o_assign (v := .b true) (by decide) rfl ?_
  refine run_nil ?_
  refine w_next [(4, .b true)] (.k .nil) ?_
  refine r_ret ?_
  refine w_end (x := .b true) (f := fun r => .b r) (.inr rfl) ?_ (.refl _) (Option.some.inj hM) hS
  exact (res_one (res_tmp (x := .b true) rfl))
 ·refine r_seq ?_
  refine r_region (n := 1) rfl ?_
  refine o_assign (v := .i 0) (by decide) rfl ?_
  refine run_nil ?_
  refine w_next [(1, .sl .no 3 (a1.map WireFault.cells)), (5, .sl .no 3 (r1.map WireFault.cells)), (6, .i (-1)), (7, .i 0)] (.k (.k (.k (.k .nil)))) ?_
  refine r_block ?_
  refine w_loop (V := Int × Int) (fun v => [(1, .sl .no 3 (a1.map WireFault.cells)), (5, .sl .no 3 (r1.map WireFault.cells)), (6, .i v.1), (7, .i v.2)]) (fun v m2 H' g' => St (· < g) H0 [] H' g' ∧ ref11_IsSet_l1 n a1 r1 m2 v.1 v.2 = some r) (n := n) ((-1), 0) (.k (.k (.k (.k .nil)))) ⟨(hS.keep [] rfl).up (by omega), hM⟩ ?_
  rintro ⟨v2, v3⟩ m2 H g2 ⟨hS, hM⟩
  obtain _ | m2 := m2
  ·exact nomatch (show none = some _ from hM)
  change wpA _ _ _ _ (Fr.of [(1, .sl .no 3 (a1.map WireFault.cells)), (5, .sl .no 3 (r1.map WireFault.cells)), (6, .i v2), (7, .i v3)]) _ _
  replace hS : St (· < g) H0 [] H g2 := hS
  replace hM : ref11_IsSet_l1_b n a1 r1 (ref11_IsSet_l1 n a1 r1 m2) v2 v3 = some r := hM
  refine r_seq ?_
  refine r_seq ?_
  refine r_region (n := 4) rfl ?_
  refine o_move (v := .i v3) (by decide) rfl ?_
  refine o_move (v := .sl .no 3 (a1.map WireFault.cells)) (by decide) rfl ?_
  refine o_len (n := a1.length) (by decide) rfl (List.length_map _) ty_isl31 ?_
  refine o_int (v := .b (decide (v3 < (a1.length : Int)))) (by decide) rfl rfl rfl ?_
  refine run_nil ?_
  refine w_next [(1, .sl .no 3 (a1.map WireFault.cells)), (5, .sl .no 3 (r1.map WireFault.cells)), (6, .i v2), (7, .i v3), (15, .b (decide (v3 < (a1.length : Int))))] (.k (.k (.k (.k (.k .nil))))) ?_
  rcases Bool.eq_false_or_eq_true (decide (v3 < (a1.length : Int))) with hb4 | hb4
  ·replace hM := ifT hM hb4
   refine w_condT (e := (decide (v3 < (a1.length : Int)))) rfl hb4 ?_
   refine r_skip ?_
   refine w_next [(1, .sl .no 3 (a1.map WireFault.cells)), (5, .sl .no 3 (r1.map WireFault.cells)), (6, .i v2), (7, .i v3)] (.k (.k (.k (.k .nil)))) ?_
   refine w_join (J := Int) (fun j => [(1, .sl .no 3 (a1.map WireFault.cells)), (5, .sl .no 3 (r1.map WireFault.cells)), (6, .i j), (7, .i v3)]) (fun j H' g' => St (· < g) H0 [] H' g' ∧ ref11_IsSet_j2 (ref11_IsSet_l1 n a1 r1 m2) v3 j = some r) ?_ ?_
   ·rintro v5 H g3 ⟨hS, hM⟩
    change wpA _ _ _ _ (Fr.of [(1, .sl .no 3 (a1.map WireFault.cells)), (5, .sl .no 3 (r1.map WireFault.cells)), (6, .i v5), (7, .i v3)]) _ _
    replace hS : St (· < g) H0 [] H g3 := hS
    replace hM : ref11_IsSet_j2 (ref11_IsSet_l1 n a1 r1 m2) v3 v5 = some r := hM
    refine r_region (n := 3) rfl ?_
    refine o_move (v := .i v3) (by decide) rfl ?_
    refine o_int (v := .i (w64 (v3 + 1))) (by decide) rfl rfl rfl ?_
    refine o_assign (v := .i (w64 (v3 + 1))) (by decide) rfl ?_
    refine run_nil ?_
    exact w_round (v5, w64 (v3 + 1)) (Nat.lt_succ_self _) (.k (.k (.k (.k .nil)))) ⟨(hS.keep [] rfl).up (by omega), hM⟩
   ·refine r_block ?_
    refine r_seq ?_
    refine r_region (n := 7) rfl ?_
    refine o_move (v := .sl .no 3 (r1.map WireFault.cells)) (by decide) rfl ?_
    refine o_move (v := .sl .no 3 (a1.map WireFault.cells)) (by decide) rfl ?_
    refine o_move (v := .i v3) (by decide) rfl ?_
    obtain ⟨x6, hx6, hM⟩ := bindE hM
    refine o_index (xs := a1) (f := WireFault.cells) (z := v3) (u := x6) (by decide) rfl rfl ty_es31 hx6 ?_
    refine o_loadE (v := .agg (WireFault.cells x6)) (by decide) rfl (part_agg ty_agg63 (Nat.le_of_ble_eq_true rfl) rfl) ?_
    obtain ⟨r7, hr7, hM⟩ := bindE hM
    refine o_call (bs := [.sl .no 3 (r1.map WireFault.cells), .agg (WireFault.cells x6)]) (by decide) rfl rfl ((W_ref11_place hr7).le (.k (.k .nil))) ?_
    refine o_assign (v := .i r7) (by decide) rfl ?_
    refine run_nil ?_
    refine w_next [(1, .sl .no 3 (a1.map WireFault.cells)), (5, .sl .no 3 (r1.map WireFault.cells)), (6, .i v2), (7, .i v3), (8, .i r7)] (.k (.k (.k (.k (.k .nil))))) ?_
    refine r_seq ?_
    refine r_seq ?_
    refine r_region (n := 3) rfl ?_
    refine o_move (v := .i r7) (by decide) rfl ?_
    refine o_move (v := .i v2) (by decide) rfl ?_
    refine o_int (v := .b (decide (r7 ≤ v2))) (by decide) rfl rfl rfl ?_
    refine run_nil ?_
    refine w_next [(1, .sl .no 3 (a1.map WireFault.cells)), (5, .sl .no 3 (r1.map WireFault.cells)), (7, .i v3), (8, .i r7), (26, .b (decide (r7 ≤ v2)))] (.k (.k (.k (.k (.k .nil))))) ?_
    rcases Bool.eq_false_or_eq_true (decide (r7 ≤ v2)) with hb8 | hb8
    ·replace hM := ifT hM hb8
     refine w_condT (e := (decide (r7 ≤ v2))) rfl hb8 ?_
     refine r_seq ?_
     refine r_region (n := 1) rfl ?_
     refine o_assign (v := .b false) (by decide) rfl ?_
     refine run_nil ?_
     refine w_next [(4, .b false)] (.k .nil) ?_
     refine r_ret ?_
     refine r_then_ret ?_
     refine r_blk_ret ?_
     refine w_goto_ret ?_
     refine w_round_ret ?_
     refine r_blk_ret ?_
     refine w_goto_ret ?_
     refine w_end (x := .b false) (f := fun r => .b r) (.inr rfl) ?_ (.refl _) (Option.some.inj hM) hS
     exact (res_one (res_tmp (x := .b false) rfl))
    ·replace hM := ifF hM hb8
     refine w_condF (e := (decide (r7 ≤ v2))) rfl hb8 ?_
     refine r_skip ?_
     refine w_next [(1, .sl .no 3 (a1.map WireFault.cells)), (5, .sl .no 3 (r1.map WireFault.cells)), (7, .i v3), (8, .i r7)] (.k (.k (.k (.k .nil)))) ?_
     refine r_seq ?_
     refine r_region (n := 2) rfl ?_
     refine o_move (v := .i r7) (by decide) rfl ?_
     refine o_assign (v := .i r7) (by decide) rfl ?_
     refine run_nil ?_
     refine w_next [(1, .sl .no 3 (a1.map WireFault.cells)), (5, .sl .no 3 (r1.map WireFault.cells)), (6, .i r7), (7, .i v3)] (.k (.k (.k (.k .nil)))) ?_
     refine r_seq ?_
     refine r_region (n := 1) rfl ?_
     refine o_assign (v := .i 0) (by decide) rfl ?_
     refine run_nil ?_
     refine w_next [(1, .sl .no 3 (a1.map WireFault.cells)), (5, .sl .no 3 (r1.map WireFault.cells)), (6, .i r7), (7, .i v3), (9, .i 0)] (.k (.k (.k (.k (.k .nil))))) ?_
     refine r_block ?_
     refine w_loop (V := Int) (fun v => [(1, .sl .no 3 (a1.map WireFault.cells)), (5, .sl .no 3 (r1.map WireFault.cells)), (6, .i r7), (7, .i v3), (9, .i v)]) (fun v m4 H' g' => St (· < g) H0 [] H' g' ∧ ref11_IsSet_l2 (ref11_IsSet_l1 n a1 r1 m2) a1 v3 r7 m4 v = some r) (n := n) 0 (.k (.k (.k (.k (.k .nil))))) ⟨(hS.keep [] rfl).up (by omega), hM⟩ ?_
     rintro v9 m4 H g4 ⟨hS, hM⟩
     obtain _ | m4 := m4
     ·exact nomatch (show none = some _ from hM)
     change wpA _ _ _ _ (Fr.of [(1, .sl .no 3 (a1.map WireFault.cells)), (5, .sl .no 3 (r1.map WireFault.cells)), (6, .i r7), (7, .i v3), (9, .i v9)]) _ _
     replace hS : St (· < g) H0 [] H g4 := hS
     replace hM : ref11_IsSet_l2_b (ref11_IsSet_l1 n a1 r1 m2) a1 v3 r7 (ref11_IsSet_l2 (ref11_IsSet_l1 n a1 r1 m2) a1 v3 r7 m4) v9 = some r := hM
     refine r_seq ?_
     refine r_seq ?_
     refine r_region (n := 3) rfl ?_
     refine o_move (v := .i v9) (by decide) rfl ?_
     refine o_move (v := .i v3) (by decide) rfl ?_
     refine o_int (v := .b (decide (v9 < v3))) (by decide) rfl rfl rfl ?_
     refine run_nil ?_
     refine w_next [(1, .sl .no 3 (a1.map WireFault.cells)), (5, .sl .no 3 (r1.map WireFault.cells)), (6, .i r7), (7, .i v3), (9, .i v9), (30, .b (decide (v9 < v3)))] (.k (.k (.k (.k (.k (.k .nil)))))) ?_
     rcases Bool.eq_false_or_eq_true (decide (v9 < v3)) with hb10 | hb10
     ·replace hM := ifT hM hb10
      refine w_condT (e := (decide (v9 < v3))) rfl hb10 ?_
      refine r_skip ?_
      refine w_next [(1, .sl .no 3 (a1.map WireFault.cells)), (5, .sl .no 3 (r1.map WireFault.cells)), (6, .i r7), (7, .i v3), (9, .i v9)] (.k (.k (.k (.k (.k .nil))))) ?_
      refine r_seq ?_
      refine r_block ?_
      refine r_seq ?_
      have hS0 := hS
      refine r_draw (n := 9) rfl (by kernel_rfl) ?_
      refine o_move (v := .sl .no 3 (a1.map WireFault.cells)) (by decide) rfl ?_
      refine o_move (v := .i v9) (by decide) rfl ?_
      obtain ⟨x11, hx11, hM⟩ := bindE hM
      refine o_index (xs := a1) (f := WireFault.cells) (z := v9) (u := x11) (by decide) rfl rfl ty_es31 hx11 ?_
      refine o_loadE (v := .agg (WireFault.cells x11)) (by decide) rfl (part_agg ty_agg63 (Nat.le_of_ble_eq_true rfl) rfl) ?_
      refine o_move (v := .sl .no 3 (a1.map WireFault.cells)) (by decide) rfl ?_
      refine o_move (v := .i v3) (by decide) rfl ?_
      obtain ⟨x12, hx12, hM⟩ := bindE hM
      refine o_index (xs := a1) (f := WireFault.cells) (z := v3) (u := x12) (by decide) rfl rfl ty_es31 hx12 ?_
      refine o_loadE (v := .agg (WireFault.cells x12)) (by decide) rfl (part_agg ty_agg63 (Nat.le_of_ble_eq_true rfl) rfl) ?_
      obtain ⟨r13, hr13, hM⟩ := bindE hM
      refine o_call (bs := [.agg (WireFault.cells x11), .agg (WireFault.cells x12)]) (by decide) rfl rfl ((W_ref11_clash hr13).le (.k (.k .nil))) ?_
      refine run_nil ?_
      refine w_next [(1, .sl .no 3 (a1.map WireFault.cells)), (5, .sl .no 3 (r1.map WireFault.cells)), (6, .i r7), (7, .i v3), (9, .i v9), (41, .b r13)] (.k (.k (.k (.k (.k (.k .nil)))))) ?_
      rcases Bool.eq_false_or_eq_true r13 with hb14 | hb14
      ·replace hM := ifT hM hb14
       refine w_condT (e := r13) rfl hb14 ?_
       refine r_seq ?_
       refine r_region (n := 1) rfl ?_
       refine o_assign (v := .b false) (by decide) rfl ?_
       refine run_nil ?_
       refine w_next [(4, .b false)] (.k .nil) ?_
       refine r_ret ?_
       refine r_blk_ret ?_
       refine r_then_ret ?_
       refine w_round_ret ?_
       refine r_blk_ret ?_
       refine r_blk_ret ?_
       refine w_goto_ret ?_
       refine w_round_ret ?_
       refine r_blk_ret ?_
       refine w_goto_ret ?_
       refine w_end (x := .b false) (f := fun r => .b r) (.inr rfl) ?_ (.refl _) (Option.some.inj hM) hS
       exact (res_one (res_tmp (x := .b false) rfl))
      ·replace hM := ifF hM hb14
       refine w_condF (e := r13) rfl hb14 ?_
       refine r_skip ?_
       refine r_blk_normal ?_
       refine w_next [(1, .sl .no 3 (a1.map WireFault.cells)), (5, .sl .no 3 (r1.map WireFault.cells)), (6, .i r7), (7, .i v3), (9, .i v9)] (.k (.k (.k (.k (.k .nil))))) ?_
       refine r_region (n := 3) rfl ?_
       refine o_move (v := .i v9) (by decide) rfl ?_
       refine o_int (v := .i (w64 (v9 + 1))) (by decide) rfl rfl rfl ?_
       refine o_assign (v := .i (w64 (v9 + 1))) (by decide) rfl ?_
       refine run_nil ?_
       exact w_round (w64 (v9 + 1)) (Nat.lt_succ_self _) (.k (.k (.k (.k (.k .nil))))) ⟨(hS.keep [] rfl).up (by omega), hM⟩
     ·replace hM := ifF hM hb10
      refine w_condF (e := (decide (v9 < v3))) rfl hb10 ?_
      refine r_exit ?_
      refine r_then_exit ?_
      refine w_round_exit ?_
      refine r_blk_exit ?_
      refine r_blk_normal ?_
      exact w_goto r7 (.k (.k (.k (.k .nil)))) ⟨(hS.keep [] rfl).up (by omega), hM⟩
  ·replace hM := ifF hM hb4
   refine w_condF (e := (decide (v3 < (a1.length : Int)))) rfl hb4 ?_
   refine r_exit ?_
   refine r_then_exit ?_
   refine w_round_exit ?_
   refine r_blk_exit ?_
   exact w_goto () .nil ⟨(hS.keep [] rfl).up (by omega), hM⟩
theorem W_ref11_Plays {n : Nat} {a0 : Wire} {a1 : List WireFault} {a2 : Int} {a3 : Int} {r : Int × Int} (hM : ref11_Plays n a0 a1 a2 a3 = some r) : PureSat Try.prog 41 [.agg (Wire.cells a0), .sl .no 3 (a1.map WireFault.cells), .i a2, .i a3] (.tup [.i r.1, .i r.2]) := by
 refine pure_of_wp mixed Try.func41 rfl (by decide) Try.ntmps41 (by simp) ?pure fun H0 g hf => ?_
 case pure => exact .tup _ (pl_cons (.v _) (pl_cons (.v _) pl_nil))
 rw [frame0_of]
 change wpA _ _ _ _ (Fr.of [(0, .agg (Wire.cells a0)), (1, .sl .no 3 (a1.map WireFault.cells)), (2, .i a2), (3, .i a3)]) H0 g
 have hS := St.start hf
 refine r_seq ?_
 refine r_region (n := 3) rfl ?_
 refine o_box (v := .agg (Wire.cells a0)) (cs := (Wire.cells a0)) hS (by decide) rfl rfl (by omega) fun H hS => ?_
 refine o_assign (v := .i 0) (by decide) rfl ?_
 refine o_assign (v := .i 0) (by decide) rfl ?_
 refine run_nil ?_
 refine w_iceE (L' := []) 0 4 hS rfl rfl rfl fun H hS => ?_
 refine w_next [(1, .sl .no 3 (a1.map WireFault.cells)), (2, .i a2), (3, .i a3), (4, .ep (Wire.cells a0))] (.k (.k (.k (.k .nil)))) ?_
 refine r_seq ?_
 refine r_seq ?_
 refine r_region (n := 3) rfl ?_
 refine o_loadE (v := .agg (Wire.cells a0)) (by decide) rfl (part_agg ty_agg24 (Nat.le_of_ble_eq_true rfl) rfl) ?_
 obtain ⟨r1, hr1, hM⟩ := bindE hM
 refine o_call (bs := [.agg (Wire.cells a0)]) (by decide) rfl rfl ((W_ref11_Check hr1).le (.k .nil)) ?_
 refine o_assign (v := .i r1) (by decide) rfl ?_
 refine run_nil ?_
 refine w_next [(1, .sl .no 3 (a1.map WireFault.cells)), (2, .i a2), (3, .i a3), (4, .ep (Wire.cells a0)), (10, .i r1)] (.k (.k (.k (.k (.k .nil))))) ?_
 refine r_seq ?_
 refine r_region (n := 2) rfl ?_
 refine o_move (v := .i r1) (by decide) rfl ?_
 refine o_int (v := .b (r1 != 0)) (by decide) rfl rfl rfl ?_
 refine run_nil ?_
 refine w_next [(1, .sl .no 3 (a1.map WireFault.cells)), (2, .i a2), (3, .i a3), (4, .ep (Wire.cells a0)), (10, .i r1), (14, .b (r1 != 0))] (.k (.k (.k (.k (.k (.k .nil)))))) ?_
 rcases Bool.eq_false_or_eq_true (r1 != 0) with hb2 | hb2
 ·replace hM := ifT hM hb2
  refine w_condT (e := (r1 != 0)) rfl hb2 ?_
  refine r_seq ?_
  refine r_region (n := 3) rfl ?_
  refine o_move (v := .i r1) (by decide) rfl ?_
  refine o_assign (v := .i 0) (by decide) rfl ?_
  refine o_assign (v := .i r1) (by decide) rfl ?_
  refine run_nil ?_
  refine w_next [(8, .i 0), (9, .i r1)] (.k (.k .nil)) ?_
  refine r_ret ?_
  refine r_then_ret ?_
  refine w_end (x := .tup [.i 0, .i r1]) (f := fun r => .tup [.i r.1, .i r.2]) (.inr rfl) ?_ (.refl _) (Option.some.inj hM) hS
  exact (res_two (res_tmp (x := .i 0) rfl) (res_tmp (x := .i r1) rfl))
 ·replace hM := ifF hM hb2
  refine w_condF (e := (r1 != 0)) rfl hb2 ?_
  refine r_skip ?_
  refine w_next [(1, .sl .no 3 (a1.map WireFault.cells)), (2, .i a2), (3, .i a3), (4, .ep (Wire.cells a0))] (.k (.k (.k (.k .nil)))) ?_
  refine r_seq ?_
  refine w_join (J := Bool) (fun j => [(1, .sl .no 3 (a1.map WireFault.cells)), (2, .i a2), (3, .i a3), (4, .ep (Wire.cells a0)), (26, .b j)]) (fun j H' g' => St (· < g) H0 [] H' g' ∧ ref11_Plays_j1 n a0 a1 a2 a3 j = some r) ?_ ?_
  ·rintro v3 H g1 ⟨hS, hM⟩
   change wpA _ _ _ _ (Fr.of [(1, .sl .no 3 (a1.map WireFault.cells)), (2, .i a2), (3, .i a3), (4, .ep (Wire.cells a0)), (26, .b v3)]) _ _
   replace hS : St (· < g) H0 [] H g1 := hS
   replace hM : ref11_Plays_j1 n a0 a1 a2 a3 v3 = some r := hM
   rcases Bool.eq_false_or_eq_true v3 with hb4 | hb4
   ·replace hM := ifT hM hb4
    refine w_condT (e := v3) rfl hb4 ?_
    refine r_seq ?_
    refine r_region (n := 2) rfl ?_
    refine o_assign (v := .i 0) (by decide) rfl ?_
    refine o_assign (v := .i 1) (by decide) rfl ?_
    refine run_nil ?_
    refine w_next [(8, .i 0), (9, .i 1)] (.k (.k .nil)) ?_
    refine r_ret ?_
    refine r_then_ret ?_
    refine w_end (x := .tup [.i 0, .i 1]) (f := fun r => .tup [.i r.1, .i r.2]) (.inr rfl) ?_ (.refl _) (Option.some.inj hM) hS
    exact (res_two (res_tmp (x := .i 0) rfl) (res_tmp (x := .i 1) rfl))
   ·replace hM := ifF hM hb4
    refine w_condF (e := v3) rfl hb4 ?_
    refine r_skip ?_
    refine w_next [(1, .sl .no 3 (a1.map WireFault.cells)), (2, .i a2), (3, .i a3), (4, .ep (Wire.cells a0))] (.k (.k (.k (.k .nil)))) ?_
    refine r_seq ?_
    refine r_region (n := 7) rfl ?_
    refine o_loadE (v := .agg (Wire.cells a0)) (by decide) rfl (part_agg ty_agg24 (Nat.le_of_ble_eq_true rfl) rfl) ?_
    refine o_move (v := .sl .no 3 (a1.map WireFault.cells)) (by decide) rfl ?_
    refine o_move (v := .i a2) (by decide) rfl ?_
    refine o_move (v := .i a3) (by decide) rfl ?_
    obtain ⟨r5, hr5, hM⟩ := bindE hM
    refine o_call (bs := [.agg (Wire.cells a0), .sl .no 3 (a1.map WireFault.cells), .i a2, .i a3]) (by decide) rfl rfl ((W_ref11_PlaysOf hr5).le (.k (.k (.k (.k .nil))))) ?_
    refine o_assign (v := .i r5) (by decide) rfl ?_
    refine o_assign (v := .i 0) (by decide) rfl ?_
    refine run_nil ?_
    refine w_next [(8, .i r5), (9, .i 0)] (.k (.k .nil)) ?_
    refine r_ret ?_
    refine w_end (x := .tup [.i r5, .i 0]) (f := fun r => .tup [.i r.1, .i r.2]) (.inr rfl) ?_ (.refl _) (Option.some.inj hM) hS
    exact (res_two (res_tmp (x := .i r5) rfl) (res_tmp (x := .i 0) rfl))
  ·refine r_region (n := 11) rfl ?_
   refine o_loadE (v := .agg (Wire.cells a0)) (by decide) rfl (part_agg ty_agg24 (Nat.le_of_ble_eq_true rfl) rfl) ?_
   refine o_move (v := .sl .no 3 (a1.map WireFault.cells)) (by decide) rfl ?_
   obtain ⟨r6, hr6, hM⟩ := bindE hM
   refine o_call (bs := [.agg (Wire.cells a0), .sl .no 3 (a1.map WireFault.cells)]) (by decide) rfl rfl ((W_ref11_IsSet hr6).le (.k (.k .nil))) ?_
   refine o_not (e := r6) (by decide) rfl ?_
   refine o_move (v := .b (!r6)) (by decide) rfl ?_
   rcases Bool.eq_false_or_eq_true (!r6) with hb7 | hb7
   ·replace hM := ifT hM hb7
    refine o_guardN (j := 4) (e := (!r6)) (want := false) (by decide) rfl hb7 ?_
    refine o_guardN (j := 4) (e := (!r6)) (want := false) (by decide) rfl hb7 ?_
    refine o_guardN (j := 4) (e := (!r6)) (want := false) (by decide) rfl hb7 ?_
    refine o_guardN (j := 4) (e := (!r6)) (want := false) (by decide) rfl hb7 ?_
    refine o_guardN (j := 4) (e := (!r6)) (want := false) (by decide) rfl hb7 ?_
    refine o_pickT (v := .b true) (e := (!r6)) (by decide) rfl hb7 rfl ?_
    refine run_nil ?_
    exact w_goto true (.k (.k (.k (.k (.k .nil))))) ⟨(hS.keep [] rfl).up (by omega), hM⟩
   ·replace hM := ifF hM hb7
    refine o_guardY (j := 4) (e := (!r6)) (want := false) rfl hb7 ?_
    refine o_loadE (v := .agg (Wire.cells a0)) (by decide) rfl (part_agg ty_agg24 (Nat.le_of_ble_eq_true rfl) rfl) ?_
    refine o_guardY (j := 4) (e := (!r6)) (want := false) rfl hb7 ?_
    refine o_move (v := .i a2) (by decide) rfl ?_
    refine o_guardY (j := 4) (e := (!r6)) (want := false) rfl hb7 ?_
    refine o_move (v := .i a3) (by decide) rfl ?_
    refine o_guardY (j := 4) (e := (!r6)) (want := false) rfl hb7 ?_
    obtain ⟨r8, hr8, hM⟩ := bindE hM
    refine o_call (bs := [.agg (Wire.cells a0), .i a2, .i a3]) (by decide) rfl rfl ((W_ref11_IsButton hr8).le (.k (.k (.k .nil)))) ?_
    refine o_guardY (j := 4) (e := (!r6)) (want := false) rfl hb7 ?_
    refine o_not (e := r8) (by decide) rfl ?_
    refine o_pickF (v := .b (!r8)) (e := (!r6)) (by decide) rfl hb7 rfl ?_
    refine run_nil ?_
    exact w_goto (!r8) (.k (.k (.k (.k (.k .nil))))) ⟨(hS.keep [] rfl).up (by omega), hM⟩
theorem W_wires_Explains {n : Nat} {a0 : Wire} {a1 : List WireFault} {r : Bool × Int} (hM : wires_Explains n a0 a1 = some r) : PureSat Try.prog 42 [.agg (Wire.cells a0), .sl .no 3 (a1.map WireFault.cells)] (.tup [.b r.1, .i r.2]) := by
 refine pure_of_wp mixed Try.func42 rfl (by decide) Try.ntmps42 (by simp) ?pure fun H0 g hf => ?_
 case pure => exact .tup _ (pl_cons (.v _) (pl_cons (.v _) pl_nil))
 rw [frame0_of]
 change wpA _ _ _ _ (Fr.of [(0, .agg (Wire.cells a0)), (1, .sl .no 3 (a1.map WireFault.cells))]) H0 g
 have hS := St.start hf
 refine r_seq ?_
 refine r_region (n := 3) rfl ?_
 refine o_box (v := .agg (Wire.cells a0)) (cs := (Wire.cells a0)) hS (by decide) rfl rfl (by omega) fun H hS => ?_
 refine o_assign (v := .b false) (by decide) rfl ?_
 refine o_assign (v := .i 0) (by decide) rfl ?_
 refine run_nil ?_
 refine w_iceE (L' := []) 0 2 hS rfl rfl rfl fun H hS => ?_
 refine w_next [(1, .sl .no 3 (a1.map WireFault.cells)), (2, .ep (Wire.cells a0))] (.k (.k .nil)) ?_
 refine r_seq ?_
 refine r_seq ?_
 refine r_region (n := 3) rfl ?_
 refine o_loadE (v := .agg (Wire.cells a0)) (by decide) rfl (part_agg ty_agg24 (Nat.le_of_ble_eq_true rfl) rfl) ?_
 obtain ⟨r1, hr1, hM⟩ := bindE hM
 refine o_call (bs := [.agg (Wire.cells a0)]) (by decide) rfl rfl ((W_wires_Check hr1).le (.k .nil)) ?_
 refine o_assign (v := .i r1) (by decide) rfl ?_
 refine run_nil ?_
 refine w_next [(1, .sl .no 3 (a1.map WireFault.cells)), (2, .ep (Wire.cells a0)), (6, .i r1)] (.k (.k (.k .nil))) ?_
 refine r_seq ?_
 refine r_region (n := 2) rfl ?_
 refine o_move (v := .i r1) (by decide) rfl ?_
 refine o_int (v := .b (r1 != 0)) (by decide) rfl rfl rfl ?_
 refine run_nil ?_
 refine w_next [(1, .sl .no 3 (a1.map WireFault.cells)), (2, .ep (Wire.cells a0)), (6, .i r1), (11, .b (r1 != 0))] (.k (.k (.k (.k .nil)))) ?_
 rcases Bool.eq_false_or_eq_true (r1 != 0) with hb2 | hb2
 ·replace hM := ifT hM hb2
  refine w_condT (e := (r1 != 0)) rfl hb2 ?_
  refine r_seq ?_
  refine r_region (n := 3) rfl ?_
  refine o_move (v := .i r1) (by decide) rfl ?_
  refine o_assign (v := .b false) (by decide) rfl ?_
  refine o_assign (v := .i r1) (by decide) rfl ?_
  refine run_nil ?_
  refine w_next [(4, .b false), (5, .i r1)] (.k (.k .nil)) ?_
  refine r_ret ?_
  refine r_then_ret ?_
  refine w_end (x := .tup [.b false, .i r1]) (f := fun r => .tup [.b r.1, .i r.2]) (.inr rfl) ?_ (.refl _) (Option.some.inj hM) hS
  exact (res_two (res_tmp (x := .b false) rfl) (res_tmp (x := .i r1) rfl))
 ·replace hM := ifF hM hb2
  refine w_condF (e := (r1 != 0)) rfl hb2 ?_
  refine r_skip ?_
  refine w_next [(1, .sl .no 3 (a1.map WireFault.cells)), (2, .ep (Wire.cells a0))] (.k (.k .nil)) ?_
  refine r_seq ?_
  refine r_region (n := 3) rfl ?_
  refine o_loadE (v := .agg (Wire.cells a0)) (by decide) rfl (part_agg ty_agg24 (Nat.le_of_ble_eq_true rfl) rfl) ?_
  obtain ⟨r3, hr3, hM⟩ := bindE hM
  refine o_call (bs := [.agg (Wire.cells a0)]) (by decide) rfl rfl ((W_wires_open hr3).le (.k .nil)) ?_
  refine o_assign (v := pA Wiring_.cells r3) (by decide) rfl ?_
  refine run_nil ?_
  refine w_next [(1, .sl .no 3 (a1.map WireFault.cells)), (2, .ep (Wire.cells a0)), (7, pA Wiring_.cells r3)] (.k (.k (.k .nil))) ?_
  refine r_seq ?_
  refine r_seq ?_
  refine r_region (n := 4) rfl ?_
  refine o_move (v := pA Wiring_.cells r3) (by decide) rfl ?_
  refine o_move (v := .sl .no 3 (a1.map WireFault.cells)) (by decide) rfl ?_
  obtain ⟨r4, hr4, hM⟩ := bindE hM
  refine o_call (bs := [pA Wiring_.cells r3, .sl .no 3 (a1.map WireFault.cells)]) (by decide) rfl rfl ((W_wires_wiring_isSet hr4).le (.k (.k .nil))) ?_
  refine o_not (e := r4) (by decide) rfl ?_
  refine run_nil ?_
  refine w_next [(1, .sl .no 3 (a1.map WireFault.cells)), (2, .ep (Wire.cells a0)), (7, pA Wiring_.cells r3), (18, .b (!r4))] (.k (.k (.k (.k .nil)))) ?_
  rcases Bool.eq_false_or_eq_true (!r4) with hb5 | hb5
  ·replace hM := ifT hM hb5
   refine w_condT (e := (!r4)) rfl hb5 ?_
   refine r_seq ?_
   refine r_region (n := 2) rfl ?_
   refine o_assign (v := .b false) (by decide) rfl ?_
   refine o_assign (v := .i 1) (by decide) rfl ?_
   refine run_nil ?_
   refine w_next [(4, .b false), (5, .i 1)] (.k (.k .nil)) ?_
   refine r_ret ?_
   refine r_then_ret ?_
   refine w_end (x := .tup [.b false, .i 1]) (f := fun r => .tup [.b r.1, .i r.2]) (.inr rfl) ?_ (.refl _) (Option.some.inj hM) hS
   exact (res_two (res_tmp (x := .b false) rfl) (res_tmp (x := .i 1) rfl))
  ·replace hM := ifF hM hb5
   refine w_condF (e := (!r4)) rfl hb5 ?_
   refine r_skip ?_
   refine w_next [(1, .sl .no 3 (a1.map WireFault.cells)), (2, .ep (Wire.cells a0)), (7, pA Wiring_.cells r3)] (.k (.k (.k .nil))) ?_
   refine r_seq ?_
   refine r_region (n := 7) rfl ?_
   refine o_move (v := pA Wiring_.cells r3) (by decide) rfl ?_
   refine o_move (v := .sl .no 3 (a1.map WireFault.cells)) (by decide) rfl ?_
   refine o_fieldE (cs := (Wire.cells a0)) (by decide) ty_fo24_2 rfl ?_
   refine o_loadE (v := .sl .no 3 (a0.Presses.map WirePress.cells)) (by decide) rfl (part_one ty_agg22 ty_sc22 rfl) ?_
   obtain ⟨r6, hr6, hM⟩ := bindE hM
   refine o_call (bs := [pA Wiring_.cells r3, .sl .no 3 (a1.map WireFault.cells), .sl .no 3 (a0.Presses.map WirePress.cells)]) (by decide) rfl rfl ((W_wires_wiring_explains hr6).le (.k (.k (.k .nil)))) ?_
   refine o_assign (v := .b r6) (by decide) rfl ?_
   refine o_assign (v := .i 0) (by decide) rfl ?_
   refine run_nil ?_
   refine w_next [(4, .b r6), (5, .i 0)] (.k (.k .nil)) ?_
   refine r_ret ?_
   refine w_end (x := .tup [.b r6, .i 0]) (f := fun r => .tup [.b r.1, .i r.2]) (.inr rfl) ?_ (.refl _) (Option.some.inj hM) hS
   exact (res_two (res_tmp (x := .b r6) rfl) (res_tmp (x := .i 0) rfl))
theorem W_ref11_Explains {n : Nat} {a0 : Wire} {a1 : List WireFault} {r : Bool × Int} (hM : ref11_Explains n a0 a1 = some r) : PureSat Try.prog 43 [.agg (Wire.cells a0), .sl .no 3 (a1.map WireFault.cells)] (.tup [.b r.1, .i r.2]) := by
 refine pure_of_wp mixed Try.func43 rfl (by decide) Try.ntmps43 (by simp) ?pure fun H0 g hf => ?_
 case pure => exact .tup _ (pl_cons (.v _) (pl_cons (.v _) pl_nil))
 rw [frame0_of]
 change wpA _ _ _ _ (Fr.of [(0, .agg (Wire.cells a0)), (1, .sl .no 3 (a1.map WireFault.cells))]) H0 g
 have hS := St.start hf
 refine r_seq ?_
 refine r_region (n := 3) rfl ?_
 refine o_box (v := .agg (Wire.cells a0)) (cs := (Wire.cells a0)) hS (by decide) rfl rfl (by omega) fun H hS => ?_
 refine o_assign (v := .b false) (by decide) rfl ?_
 refine o_assign (v := .i 0) (by decide) rfl ?_
 refine run_nil ?_
 refine w_iceE (L' := []) 0 2 hS rfl rfl rfl fun H hS => ?_
 refine w_next [(1, .sl .no 3 (a1.map WireFault.cells)), (2, .ep (Wire.cells a0))] (.k (.k .nil)) ?_
 refine r_seq ?_
 refine r_seq ?_
 refine r_region (n := 3) rfl ?_
 refine o_loadE (v := .agg (Wire.cells a0)) (by decide) rfl (part_agg ty_agg24 (Nat.le_of_ble_eq_true rfl) rfl) ?_
 obtain ⟨r1, hr1, hM⟩ := bindE hM
 refine o_call (bs := [.agg (Wire.cells a0)]) (by decide) rfl rfl ((W_ref11_Check hr1).le (.k .nil)) ?_
 refine o_assign (v := .i r1) (by decide) rfl ?_
 refine run_nil ?_
 refine w_next [(1, .sl .no 3 (a1.map WireFault.cells)), (2, .ep (Wire.cells a0)), (6, .i r1)] (.k (.k (.k .nil))) ?_
 refine r_seq ?_
 refine r_region (n := 2) rfl ?_
 refine o_move (v := .i r1) (by decide) rfl ?_
 refine o_int (v := .b (r1 != 0)) (by decide) rfl rfl rfl ?_
 refine run_nil ?_
 refine w_next [(1, .sl .no 3 (a1.map WireFault.cells)), (2, .ep (Wire.cells a0)), (6, .i r1), (10, .b (r1 != 0))] (.k (.k (.k (.k .nil)))) ?_
 rcases Bool.eq_false_or_eq_true (r1 != 0) with hb2 | hb2
 ·replace hM := ifT hM hb2
  refine w_condT (e := (r1 != 0)) rfl hb2 ?_
  refine r_seq ?_
  refine r_region (n := 3) rfl ?_
  refine o_move (v := .i r1) (by decide) rfl ?_
  refine o_assign (v := .b false) (by decide) rfl ?_
  refine o_assign (v := .i r1) (by decide) rfl ?_
  refine run_nil ?_
  refine w_next [(4, .b false), (5, .i r1)] (.k (.k .nil)) ?_
  refine r_ret ?_
  refine r_then_ret ?_
  refine w_end (x := .tup [.b false, .i r1]) (f := fun r => .tup [.b r.1, .i r.2]) (.inr rfl) ?_ (.refl _) (Option.some.inj hM) hS
  exact (res_two (res_tmp (x := .b false) rfl) (res_tmp (x := .i r1) rfl))
 ·replace hM := ifF hM hb2
  refine w_condF (e := (r1 != 0)) rfl hb2 ?_
  refine r_skip ?_
  refine w_next [(1, .sl .no 3 (a1.map WireFault.cells)), (2, .ep (Wire.cells a0))] (.k (.k .nil)) ?_
  refine r_seq ?_
  refine r_seq ?_
  refine r_region (n := 4) rfl ?_
  refine o_loadE (v := .agg (Wire.cells a0)) (by decide) rfl (part_agg ty_agg24 (Nat.le_of_ble_eq_true rfl) rfl) ?_
  refine o_move (v := .sl .no 3 (a1.map WireFault.cells)) (by decide) rfl ?_
  obtain ⟨r3, hr3, hM⟩ := bindE hM
  refine o_call (bs := [.agg (Wire.cells a0), .sl .no 3 (a1.map WireFault.cells)]) (by decide) rfl rfl ((W_ref11_IsSet hr3).le (.k (.k .nil))) ?_
  refine o_not (e := r3) (by decide) rfl ?_
  refine run_nil ?_
  refine w_next [(1, .sl .no 3 (a1.map WireFault.cells)), (2, .ep (Wire.cells a0)), (15, .b (!r3))] (.k (.k (.k .nil))) ?_
  rcases Bool.eq_false_or_eq_true (!r3) with hb4 | hb4
  ·replace hM := ifT hM hb4
   refine w_condT (e := (!r3)) rfl hb4 ?_
   refine r_seq ?_
   refine r_region (n := 2) rfl ?_
   refine o_assign (v := .b false) (by decide) rfl ?_
   refine o_assign (v := .i 1) (by decide) rfl ?_
   refine run_nil ?_
   refine w_next [(4, .b false), (5, .i 1)] (.k (.k .nil)) ?_
   refine r_ret ?_
   refine r_then_ret ?_
   refine w_end (x := .tup [.b false, .i 1]) (f := fun r => .tup [.b r.1, .i r.2]) (.inr rfl) ?_ (.refl _) (Option.some.inj hM) hS
   exact (res_two (res_tmp (x := .b false) rfl) (res_tmp (x := .i 1) rfl))
  ·replace hM := ifF hM hb4
   refine w_condF (e := (!r3)) rfl hb4 ?_
   refine r_skip ?_
   refine w_next [(1, .sl .no 3 (a1.map WireFault.cells)), (2, .ep (Wire.cells a0))] (.k (.k .nil)) ?_
   refine r_seq ?_
   refine r_region (n := 5) rfl ?_
   refine o_loadE (v := .agg (Wire.cells a0)) (by decide) rfl (part_agg ty_agg24 (Nat.le_of_ble_eq_true rfl) rfl) ?_
   refine o_move (v := .sl .no 3 (a1.map WireFault.cells)) (by decide) rfl ?_
   obtain ⟨r5, hr5, hM⟩ := bindE hM
   refine o_call (bs := [.agg (Wire.cells a0), .sl .no 3 (a1.map WireFault.cells)]) (by decide) rfl rfl ((W_ref11_IsExplained hr5).le (.k (.k .nil))) ?_
   refine o_assign (v := .b r5) (by decide) rfl ?_
   refine o_assign (v := .i 0) (by decide) rfl ?_
   refine run_nil ?_
   refine w_next [(4, .b r5), (5, .i 0)] (.k (.k .nil)) ?_
   refine r_ret ?_
   refine w_end (x := .tup [.b r5, .i 0]) (f := fun r => .tup [.b r.1, .i r.2]) (.inr rfl) ?_ (.refl _) (Option.some.inj hM) hS
   exact (res_two (res_tmp (x := .b r5) rfl) (res_tmp (x := .i 0) rfl))
theorem W_law11_WiresPlays {n : Nat} {a0 : Wire} {a1 : List WireFault} {a2 : Ask_} {r : Bool} (hM : law11_WiresPlays n a0 a1 a2 = some r) : PureSat Try.prog 8 [.agg (Wire.cells a0), .sl .no 3 (a1.map WireFault.cells), .agg [.i a2.Letter, .i a2.Number]] (.b r) := by
 refine pure_of_wp mixed Try.func8 rfl (by decide) Try.ntmps8 (by simp) ?pure fun H0 g hf => ?_
 case pure => exact .v _
 rw [frame0_of]
 change wpA _ _ _ _ (Fr.of [(0, .agg (Wire.cells a0)), (1, .sl .no 3 (a1.map WireFault.cells)), (2, .agg [.i a2.Letter, .i a2.Number])]) H0 g
 have hS := St.start hf
 refine r_seq ?_
 refine r_region (n := 3) rfl ?_
 refine o_box (v := .agg (Wire.cells a0)) (cs := (Wire.cells a0)) hS (by decide) rfl rfl (by omega) fun H hS => ?_
 refine o_box (v := .agg [.i a2.Letter, .i a2.Number]) (cs := [.i a2.Letter, .i a2.Number]) hS (by decide) rfl rfl (by omega) fun H hS => ?_
 refine o_assign (v := .b false) (by decide) rfl ?_
 refine run_nil ?_
 refine w_iceE (L' := [(g + 1, .cells [.i a2.Letter, .i a2.Number])]) 1 3 hS rfl rfl rfl fun H hS => ?_
 refine w_iceE (L' := []) 0 5 hS rfl rfl rfl fun H hS => ?_
 refine w_next [(1, .sl .no 3 (a1.map WireFault.cells)), (3, .ep (Wire.cells a0)), (5, .ep [.i a2.Letter, .i a2.Number])] (.k (.k (.k .nil))) ?_
 refine r_seq ?_
 refine w_join (J := Bool) (fun j => [(1, .sl .no 3 (a1.map WireFault.cells)), (3, .ep (Wire.cells a0)), (5, .ep [.i a2.Letter, .i a2.Number]), (25, .b j)]) (fun j H' g' => St (· < g) H0 [] H' g' ∧ law11_WiresPlays_j1 n a0 a1 a2 j = some r) ?_ ?_
 ·rintro v1 H g1 ⟨hS, hM⟩
  change wpA _ _ _ _ (Fr.of [(1, .sl .no 3 (a1.map WireFault.cells)), (3, .ep (Wire.cells a0)), (5, .ep [.i a2.Letter, .i a2.Number]), (25, .b v1)]) _ _
  replace hS : St (· < g) H0 [] H g1 := hS
  replace hM : law11_WiresPlays_j1 n a0 a1 a2 v1 = some r := hM
  rcases Bool.eq_false_or_eq_true v1 with hb2 | hb2
  ·replace hM := ifT hM hb2
   refine w_condT (e := v1) rfl hb2 ?_
   refine r_seq ?_
   refine r_region (n := 2) rfl ?_
   obtain ⟨r3, hr3, hM⟩ := bindE hM
   refine o_call (bs := []) (by decide) rfl rfl ((W_law11_works hr3).le .nil) ?_
   refine o_assign (v := .b r3) (by decide) rfl ?_
   refine run_nil ?_
   refine w_next [(6, .b r3)] (.k .nil) ?_
   refine r_ret ?_
   refine r_then_ret ?_
   refine w_end (x := .b r3) (f := fun r => .b r) (.inr rfl) ?_ (.refl _) (Option.some.inj hM) hS
   exact (res_one (res_tmp (x := .b r3) rfl))
  ·replace hM := ifF hM hb2
   refine w_condF (e := v1) rfl hb2 ?_
   refine r_skip ?_
   refine w_next [(1, .sl .no 3 (a1.map WireFault.cells)), (3, .ep (Wire.cells a0)), (5, .ep [.i a2.Letter, .i a2.Number])] (.k (.k (.k .nil))) ?_
   refine r_seq ?_
   refine r_region (n := 8) rfl ?_
   refine o_loadE (v := .agg (Wire.cells a0)) (by decide) rfl (part_agg ty_agg24 (Nat.le_of_ble_eq_true rfl) rfl) ?_
   obtain ⟨r4, hr4, hM⟩ := bindE hM
   refine o_call (bs := [.agg (Wire.cells a0)]) (by decide) rfl rfl ((W_ref11_Copy hr4).le (.k .nil)) ?_
   refine o_buildSlice (es := []) hS (by decide) ty_es31 ty_el31 rfl ty_ef31 rfl (by decide) (by omega) fun H hS => ?_
   refine o_move (v := .sl .no 3 (a1.map WireFault.cells)) (by decide) rfl ?_
   obtain ⟨l5, hl5, hM⟩ := bindE hM
   refine o_append (xs := ([] : List WireFault)) (ys := a1) (zs := l5) (f := WireFault.cells) (L' := [(g1 + 2, .row 63 l5.length)]) 0 hS (by decide) rfl rfl rfl rfl .no ty_es31 ty_el31 ty_ef31 hl5 rfl fun H hS => ?_
   refine o_alloc hS (by decide) ty_zero24 (by omega) fun H hS => ?_
   refine o_store (v := .agg (Wire.cells r4)) (ns := (Wire.cells r4)) (L' := [(g1 + 5, .cells (Wire.cells r4)), (g1 + 2, .row 63 l5.length)]) 0 hS rfl rfl .no rfl rfl ty_var24 (Nat.le_of_ble_eq_true rfl) rfl fun H hS => ?_
   refine o_assign (v := .sl (.id (g1 + 2)) 3 (l5.map WireFault.cells)) (by decide) rfl ?_
   refine run_nil ?_
   refine w_iceE (L' := [(g1 + 2, .row 63 l5.length)]) 0 7 hS rfl rfl rfl fun H hS => ?_
   refine w_next [(1, .sl .no 3 (a1.map WireFault.cells)), (3, .ep (Wire.cells a0)), (5, .ep [.i a2.Letter, .i a2.Number]), (7, .ep (Wire.cells r4)), (8, .sl (.id (g1 + 2)) 3 (l5.map WireFault.cells))] (.k (.k (.k (.k (.k .nil))))) ?_
   refine r_seq ?_
   refine r_seq ?_
   have hS0 := hS
   refine r_draw (n := 5) rfl (by kernel_rfl) ?_
   refine o_loadE (v := .agg (Wire.cells r4)) (by decide) rfl (part_agg ty_agg24 (Nat.le_of_ble_eq_true rfl) rfl) ?_
   obtain ⟨r6, hr6, hM⟩ := bindE hM
   refine o_call (bs := [.agg (Wire.cells r4)]) (by decide) rfl rfl ((W_wires_Check hr6).le (.k .nil)) ?_
   refine o_loadE (v := .agg (Wire.cells a0)) (by decide) rfl (part_agg ty_agg24 (Nat.le_of_ble_eq_true rfl) rfl) ?_
   obtain ⟨r7, hr7, hM⟩ := bindE hM
   refine o_call (bs := [.agg (Wire.cells a0)]) (by decide) rfl rfl ((W_ref11_Check hr7).le (.k .nil)) ?_
   refine o_int (v := .b (r6 != r7)) (by decide) rfl rfl rfl ?_
   refine run_nil ?_
   refine w_next [(1, .sl .no 3 (a1.map WireFault.cells)), (3, .ep (Wire.cells a0)), (5, .ep [.i a2.Letter, .i a2.Number]), (7, .ep (Wire.cells r4)), (8, .sl (.id (g1 + 2)) 3 (l5.map WireFault.cells)), (36, .b (r6 != r7))] (.k (.k (.k (.k (.k (.k .nil)))))) ?_
   rcases Bool.eq_false_or_eq_true (r6 != r7) with hb8 | hb8
   ·replace hM := ifT hM hb8
    refine w_condT (e := (r6 != r7)) rfl hb8 ?_
    refine r_seq ?_
    refine r_region (n := 1) rfl ?_
    refine o_assign (v := .b false) (by decide) rfl ?_
    refine run_nil ?_
    replace hS := hS.keep (L' := []) [false] rfl
    refine w_next [(6, .b false)] (.k .nil) ?_
    refine r_ret ?_
    refine r_then_ret ?_
    refine w_end (x := .b false) (f := fun r => .b r) (.inr rfl) ?_ (.refl _) (Option.some.inj hM) hS
    exact (res_one (res_tmp (x := .b false) rfl))
   ·replace hM := ifF hM hb8
    refine w_condF (e := (r6 != r7)) rfl hb8 ?_
    refine r_skip ?_
    refine w_next [(1, .sl .no 3 (a1.map WireFault.cells)), (3, .ep (Wire.cells a0)), (5, .ep [.i a2.Letter, .i a2.Number]), (7, .ep (Wire.cells r4)), (8, .sl (.id (g1 + 2)) 3 (l5.map WireFault.cells))] (.k (.k (.k (.k (.k .nil))))) ?_
    refine r_seq ?_
    refine r_region (n := 12) rfl ?_
    refine o_loadE (v := .agg (Wire.cells r4)) (by decide) rfl (part_agg ty_agg24 (Nat.le_of_ble_eq_true rfl) rfl) ?_
    refine o_move (v := .sl (.id (g1 + 2)) 3 (l5.map WireFault.cells)) (by decide) rfl ?_
    refine o_fieldE (cs := [.i a2.Letter, .i a2.Number]) (by decide) ty_fo38_0 rfl ?_
    refine o_loadE (v := .i a2.Letter) (by decide) rfl (part_one ty_agg3 ty_sc3 rfl) ?_
    refine o_fieldE (cs := [.i a2.Letter, .i a2.Number]) (by decide) ty_fo38_1 rfl ?_
    refine o_loadE (v := .i a2.Number) (by decide) rfl (part_one ty_agg3 ty_sc3 rfl) ?_
    obtain ⟨r9, hr9, hM⟩ := bindE hM
    refine o_call (bs := [.agg (Wire.cells r4), .sl (.id (g1 + 2)) 3 (l5.map WireFault.cells), .i a2.Letter, .i a2.Number]) (by decide) rfl rfl ((W_wires_Plays hr9).le (.k (.cons (.sl _ _ _) (.k (.k .nil))))) ?_
    refine o_move (v := .tup [.i r9.1, .i r9.2]) (by decide) rfl ?_
    refine o_extract (v := .i r9.1) (by decide) rfl rfl ?_
    refine o_extract (v := .i r9.2) (by decide) rfl rfl ?_
    refine o_assign (v := .i r9.1) (by decide) rfl ?_
    refine o_assign (v := .i r9.2) (by decide) rfl ?_
    refine run_nil ?_
    refine w_next [(1, .sl .no 3 (a1.map WireFault.cells)), (3, .ep (Wire.cells a0)), (5, .ep [.i a2.Letter, .i a2.Number]), (7, .ep (Wire.cells r4)), (8, .sl (.id (g1 + 2)) 3 (l5.map WireFault.cells)), (9, .i r9.1), (10, .i r9.2)] (.k (.k (.k (.k (.k (.k (.k .nil))))))) ?_
    refine r_seq ?_
    refine r_region (n := 12) rfl ?_
    refine o_loadE (v := .agg (Wire.cells a0)) (by decide) rfl (part_agg ty_agg24 (Nat.le_of_ble_eq_true rfl) rfl) ?_
    refine o_move (v := .sl .no 3 (a1.map WireFault.cells)) (by decide) rfl ?_
    refine o_fieldE (cs := [.i a2.Letter, .i a2.Number]) (by decide) ty_fo38_0 rfl ?_
    refine o_loadE (v := .i a2.Letter) (by decide) rfl (part_one ty_agg3 ty_sc3 rfl) ?_
    refine o_fieldE (cs := [.i a2.Letter, .i a2.Number]) (by decide) ty_fo38_1 rfl ?_
    refine o_loadE (v := .i a2.Number) (by decide) rfl (part_one ty_agg3 ty_sc3 rfl) ?_
    obtain ⟨r10, hr10, hM⟩ := bindE hM
    refine o_call (bs := [.agg (Wire.cells a0), .sl .no 3 (a1.map WireFault.cells), .i a2.Letter, .i a2.Number]) (by decide) rfl rfl ((W_ref11_Plays hr10).le (.k (.k (.k (.k .nil))))) ?_
    refine o_move (v := .tup [.i r10.1, .i r10.2]) (by decide) rfl ?_
    refine o_extract (v := .i r10.1) (by decide) rfl rfl ?_
    refine o_extract (v := .i r10.2) (by decide) rfl rfl ?_
    refine o_assign (v := .i r10.1) (by decide) rfl ?_
    refine o_assign (v := .i r10.2) (by decide) rfl ?_
    refine run_nil ?_
    refine w_next [(1, .sl .no 3 (a1.map WireFault.cells)), (3, .ep (Wire.cells a0)), (7, .ep (Wire.cells r4)), (8, .sl (.id (g1 + 2)) 3 (l5.map WireFault.cells)), (9, .i r9.1), (10, .i r9.2), (11, .i r10.1), (12, .i r10.2)] (.k (.k (.k (.k (.k (.k (.k (.k .nil)))))))) ?_
    refine r_seq ?_
    refine r_region (n := 8) rfl ?_
    refine o_loadE (v := .agg (Wire.cells r4)) (by decide) rfl (part_agg ty_agg24 (Nat.le_of_ble_eq_true rfl) rfl) ?_
    refine o_move (v := .sl (.id (g1 + 2)) 3 (l5.map WireFault.cells)) (by decide) rfl ?_
    obtain ⟨r11, hr11, hM⟩ := bindE hM
    refine o_call (bs := [.agg (Wire.cells r4), .sl (.id (g1 + 2)) 3 (l5.map WireFault.cells)]) (by decide) rfl rfl ((W_wires_Explains hr11).le (.k (.cons (.sl _ _ _) .nil))) ?_
    refine o_move (v := .tup [.b r11.1, .i r11.2]) (by decide) rfl ?_
    refine o_extract (v := .b r11.1) (by decide) rfl rfl ?_
    refine o_extract (v := .i r11.2) (by decide) rfl rfl ?_
    refine o_assign (v := .b r11.1) (by decide) rfl ?_
    refine o_assign (v := .i r11.2) (by decide) rfl ?_
    refine run_nil ?_
    refine w_next [(1, .sl .no 3 (a1.map WireFault.cells)), (3, .ep (Wire.cells a0)), (7, .ep (Wire.cells r4)), (8, .sl (.id (g1 + 2)) 3 (l5.map WireFault.cells)), (9, .i r9.1), (10, .i r9.2), (11, .i r10.1), (12, .i r10.2), (13, .b r11.1), (14, .i r11.2)] (.k (.k (.k (.k (.k (.k (.k (.k (.k (.k .nil)))))))))) ?_
    refine r_seq ?_
    refine r_region (n := 8) rfl ?_
    refine o_loadE (v := .agg (Wire.cells a0)) (by decide) rfl (part_agg ty_agg24 (Nat.le_of_ble_eq_true rfl) rfl) ?_
    refine o_move (v := .sl .no 3 (a1.map WireFault.cells)) (by decide) rfl ?_
    obtain ⟨r12, hr12, hM⟩ := bindE hM
    refine o_call (bs := [.agg (Wire.cells a0), .sl .no 3 (a1.map WireFault.cells)]) (by decide) rfl rfl ((W_ref11_Explains hr12).le (.k (.k .nil))) ?_
    refine o_move (v := .tup [.b r12.1, .i r12.2]) (by decide) rfl ?_
    refine o_extract (v := .b r12.1) (by decide) rfl rfl ?_
    refine o_extract (v := .i r12.2) (by decide) rfl rfl ?_
    refine o_assign (v := .b r12.1) (by decide) rfl ?_
    refine o_assign (v := .i r12.2) (by decide) rfl ?_
    refine run_nil ?_
    refine w_next [(1, .sl .no 3 (a1.map WireFault.cells)), (3, .ep (Wire.cells a0)), (7, .ep (Wire.cells r4)), (8, .sl (.id (g1 + 2)) 3 (l5.map WireFault.cells)), (9, .i r9.1), (10, .i r9.2), (11, .i r10.1), (12, .i r10.2), (13, .b r11.1), (14, .i r11.2), (15, .b r12.1), (16, .i r12.2)] (.k (.k (.k (.k (.k (.k (.k (.k (.k (.k (.k (.k .nil)))))))))))) ?_
    refine w_join (J := Bool) (fun j => [(6, .b j)]) (fun j H' g' => St (· < g) H0 [] H' g' ∧ law11_WiresPlays_j2 j = some r) ?_ ?_
    ·rintro v13 H g2 ⟨hS, hM⟩
     change wpA _ _ _ _ (Fr.of [(6, .b v13)]) _ _
     replace hS : St (· < g) H0 [] H g2 := hS
     replace hM : law11_WiresPlays_j2 v13 = some r := hM
     refine r_ret ?_
     refine w_end (x := .b v13) (f := fun r => .b r) (.inr rfl) ?_ (.refl _) (Option.some.inj hM) hS
     exact (res_one (res_tmp (x := .b v13) rfl))
    ·refine r_region (n := 32) rfl ?_
     refine o_move (v := .i r9.1) (by decide) rfl ?_
     refine o_move (v := .i r10.1) (by decide) rfl ?_
     refine o_int (v := .b (r9.1 == r10.1)) (by decide) rfl rfl rfl ?_
     refine o_move (v := .b (r9.1 == r10.1)) (by decide) rfl ?_
     rcases Bool.eq_false_or_eq_true (r9.1 == r10.1) with hb14 | hb14
     ·replace hM := ifT hM hb14
      refine o_guardY (j := 3) (e := (r9.1 == r10.1)) (want := true) rfl hb14 ?_
      refine o_move (v := .i r9.2) (by decide) rfl ?_
      refine o_guardY (j := 3) (e := (r9.1 == r10.1)) (want := true) rfl hb14 ?_
      refine o_move (v := .i r10.2) (by decide) rfl ?_
      refine o_guardY (j := 3) (e := (r9.1 == r10.1)) (want := true) rfl hb14 ?_
      refine o_int (v := .b (r9.2 == r10.2)) (by decide) rfl rfl rfl ?_
      refine o_pickT (v := .b (r9.2 == r10.2)) (e := (r9.1 == r10.1)) (by decide) rfl hb14 rfl ?_
      refine o_move (v := .b (r9.2 == r10.2)) (by decide) rfl ?_
      rcases Bool.eq_false_or_eq_true (r9.2 == r10.2) with hb15 | hb15
      ·replace hM := ifT hM hb15
       refine o_guardY (j := 8) (e := (r9.2 == r10.2)) (want := true) rfl hb15 ?_
       refine o_move (v := .b r11.1) (by decide) rfl ?_
       refine o_guardY (j := 8) (e := (r9.2 == r10.2)) (want := true) rfl hb15 ?_
       refine o_move (v := .b r12.1) (by decide) rfl ?_
       refine o_guardY (j := 8) (e := (r9.2 == r10.2)) (want := true) rfl hb15 ?_
       refine o_eqB (m := r11.1) (n := r12.1) (by decide) rfl rfl ty_bool4 ?_
       refine o_pickT (v := .b (r11.1 == r12.1)) (e := (r9.2 == r10.2)) (by decide) rfl hb15 rfl ?_
       refine o_move (v := .b (r11.1 == r12.1)) (by decide) rfl ?_
       rcases Bool.eq_false_or_eq_true (r11.1 == r12.1) with hb16 | hb16
       ·replace hM := ifT hM hb16
        refine o_guardY (j := 13) (e := (r11.1 == r12.1)) (want := true) rfl hb16 ?_
        refine o_move (v := .i r11.2) (by decide) rfl ?_
        refine o_guardY (j := 13) (e := (r11.1 == r12.1)) (want := true) rfl hb16 ?_
        refine o_move (v := .i r12.2) (by decide) rfl ?_
        refine o_guardY (j := 13) (e := (r11.1 == r12.1)) (want := true) rfl hb16 ?_
        refine o_int (v := .b (r11.2 == r12.2)) (by decide) rfl rfl rfl ?_
        refine o_pickT (v := .b (r11.2 == r12.2)) (e := (r11.1 == r12.1)) (by decide) rfl hb16 rfl ?_
        refine o_move (v := .b (r11.2 == r12.2)) (by decide) rfl ?_
        rcases Bool.eq_false_or_eq_true (r11.2 == r12.2) with hb17 | hb17
        ·replace hM := ifT hM hb17
         refine o_guardY (j := 18) (e := (r11.2 == r12.2)) (want := true) rfl hb17 ?_
         refine o_loadE (v := .agg (Wire.cells r4)) (by decide) rfl (part_agg ty_agg24 (Nat.le_of_ble_eq_true rfl) rfl) ?_
         refine o_guardY (j := 18) (e := (r11.2 == r12.2)) (want := true) rfl hb17 ?_
         refine o_loadE (v := .agg (Wire.cells a0)) (by decide) rfl (part_agg ty_agg24 (Nat.le_of_ble_eq_true rfl) rfl) ?_
         refine o_guardY (j := 18) (e := (r11.2 == r12.2)) (want := true) rfl hb17 ?_
         obtain ⟨r18, hr18, hM⟩ := bindE hM
         refine o_call (bs := [.agg (Wire.cells r4), .agg (Wire.cells a0)]) (by decide) rfl rfl ((W_law11_same hr18).le (.k (.k .nil))) ?_
         refine o_pickT (v := .b r18) (e := (r11.2 == r12.2)) (by decide) rfl hb17 rfl ?_
         refine o_move (v := .b r18) (by decide) rfl ?_
         rcases Bool.eq_false_or_eq_true r18 with hb19 | hb19
         ·replace hM := ifT hM hb19
          refine o_guardY (j := 23) (e := r18) (want := true) rfl hb19 ?_
          refine o_move (v := .sl (.id (g1 + 2)) 3 (l5.map WireFault.cells)) (by decide) rfl ?_
          refine o_guardY (j := 23) (e := r18) (want := true) rfl hb19 ?_
          refine o_move (v := .sl .no 3 (a1.map WireFault.cells)) (by decide) rfl ?_
          refine o_guardY (j := 23) (e := r18) (want := true) rfl hb19 ?_
          obtain ⟨r20, hr20, hM⟩ := bindE hM
          refine o_call (bs := [.sl (.id (g1 + 2)) 3 (l5.map WireFault.cells), .sl .no 3 (a1.map WireFault.cells)]) (by decide) rfl rfl ((W_law11_SameFaults hr20).le (.cons (.sl _ _ _) (.k .nil))) ?_
          refine o_pickT (v := .b r20) (e := r18) (by decide) rfl hb19 rfl ?_
          refine o_move (v := .b r20) (by decide) rfl ?_
          rcases Bool.eq_false_or_eq_true r20 with hb21 | hb21
          ·replace hM := ifT hM hb21
           refine o_guardY (j := 28) (e := r20) (want := true) rfl hb21 ?_
           obtain ⟨r22, hr22, hM⟩ := bindE hM
           refine o_call (bs := []) (by decide) rfl rfl ((W_law11_works hr22).le .nil) ?_
           refine o_pickT (v := .b r22) (e := r20) (by decide) rfl hb21 rfl ?_
           refine o_assign (v := .b r22) (by decide) rfl ?_
           refine run_nil ?_
           exact w_goto r22 (.k .nil) ⟨(hS.keep [false] rfl).up (by omega), hM⟩
          ·replace hM := ifF hM hb21
           refine o_guardN (j := 28) (e := r20) (want := true) (by decide) rfl hb21 ?_
           refine o_pickF (v := .b false) (e := r20) (by decide) rfl hb21 rfl ?_
           refine o_assign (v := .b false) (by decide) rfl ?_
           refine run_nil ?_
           exact w_goto false (.k .nil) ⟨(hS.keep [false] rfl).up (by omega), hM⟩
         ·replace hM := ifF hM hb19
          refine o_guardN (j := 23) (e := r18) (want := true) (by decide) rfl hb19 ?_
          refine o_guardN (j := 23) (e := r18) (want := true) (by decide) rfl hb19 ?_
          refine o_guardN (j := 23) (e := r18) (want := true) (by decide) rfl hb19 ?_
          refine o_pickF (v := .b false) (e := r18) (by decide) rfl hb19 rfl ?_
          refine o_move (v := .b false) (by decide) rfl ?_
          refine o_guardN (j := 28) (e := false) (want := true) (by decide) rfl rfl ?_
          refine o_pickF (v := .b false) (e := false) (by decide) rfl rfl rfl ?_
          refine o_assign (v := .b false) (by decide) rfl ?_
          refine run_nil ?_
          exact w_goto false (.k .nil) ⟨(hS.keep [false] rfl).up (by omega), hM⟩
        ·replace hM := ifF hM hb17
         refine o_guardN (j := 18) (e := (r11.2 == r12.2)) (want := true) (by decide) rfl hb17 ?_
         refine o_guardN (j := 18) (e := (r11.2 == r12.2)) (want := true) (by decide) rfl hb17 ?_
         refine o_guardN (j := 18) (e := (r11.2 == r12.2)) (want := true) (by decide) rfl hb17 ?_
         refine o_pickF (v := .b false) (e := (r11.2 == r12.2)) (by decide) rfl hb17 rfl ?_
         refine o_move (v := .b false) (by decide) rfl ?_
         refine o_guardN (j := 23) (e := false) (want := true) (by decide) rfl rfl ?_
         refine o_guardN (j := 23) (e := false) (want := true) (by decide) rfl rfl ?_
         refine o_guardN (j := 23) (e := false) (want := true) (by decide) rfl rfl ?_
         refine o_pickF (v := .b false) (e := false) (by decide) rfl rfl rfl ?_
         refine o_move (v := .b false) (by decide) rfl ?_
         refine o_guardN (j := 28) (e := false) (want := true) (by decide) rfl rfl ?_
         refine o_pickF (v := .b false) (e := false) (by decide) rfl rfl rfl ?_
         refine o_assign (v := .b false) (by decide) rfl ?_
         refine run_nil ?_
         exact w_goto false (.k .nil) ⟨(hS.keep [false] rfl).up (by omega), hM⟩
       ·replace hM := ifF hM hb16
        refine o_guardN (j := 13) (e := (r11.1 == r12.1)) (want := true) (by decide) rfl hb16 ?_
        refine o_guardN (j := 13) (e := (r11.1 == r12.1)) (want := true) (by decide) rfl hb16 ?_
        refine o_guardN (j := 13) (e := (r11.1 == r12.1)) (want := true) (by decide) rfl hb16 ?_
        refine o_pickF (v := .b false) (e := (r11.1 == r12.1)) (by decide) rfl hb16 rfl ?_
        refine o_move (v := .b false) (by decide) rfl ?_
        refine o_guardN (j := 18) (e := false) (want := true) (by decide) rfl rfl ?_
        refine o_guardN (j := 18) (e := false) (want := true) (by decide) rfl rfl ?_
        refine o_guardN (j := 18) (e := false) (want := true) (by decide) rfl rfl ?_
        refine o_pickF (v := .b false) (e := false) (by decide) rfl rfl rfl ?_
        refine o_move (v := .b false) (by decide) rfl ?_
        refine o_guardN (j := 23) (e := false) (want := true) (by decide) rfl rfl ?_
        refine o_guardN (j := 23) (e := false) (want := true) (by decide) rfl rfl ?_
        refine o_guardN (j := 23) (e := false) (want := true) (by decide) rfl rfl ?_
        refine o_pickF (v := .b false) (e := false) (by decide) rfl rfl rfl ?_
        refine o_move (v := .b false) (by decide) rfl ?_
        refine o_guardN (j := 28) (e := false) (want := true) (by decide) rfl rfl ?_
        refine o_pickF (v := .b false) (e := false) (by decide) rfl rfl rfl ?_
        refine o_assign (v := .b false) (by decide) rfl ?_
        refine run_nil ?_
        exact w_goto false (.k .nil) ⟨(hS.keep [false] rfl).up (by omega), hM⟩
      ·replace hM := ifF hM hb15
       refine o_guardN (j := 8) (e := (r9.2 == r10.2)) (want := true) (by decide) rfl hb15 ?_
       refine o_guardN (j := 8) (e := (r9.2 == r10.2)) (want := true) (by decide) rfl hb15 ?_
       refine o_guardN (j := 8) (e := (r9.2 == r10.2)) (want := true) (by decide) rfl hb15 ?_
       refine o_pickF (v := .b false) (e := (r9.2 == r10.2)) (by decide) rfl hb15 rfl ?_
       refine o_move (v := .b false) (by decide) rfl ?_
       refine o_guardN (j := 13) (e := false) (want := true) (by decide) rfl rfl ?_
       refine o_guardN (j := 13) (e := false) (want := true) (by decide) rfl rfl ?_
       refine o_guardN (j := 13) (e := false) (want := true) (by decide) rfl rfl ?_
       refine o_pickF (v := .b false) (e := false) (by decide) rfl rfl rfl ?_
       refine o_move (v := .b false) (by decide) rfl ?_
       refine o_guardN (j := 18) (e := false) (want := true) (by decide) rfl rfl ?_
       refine o_guardN (j := 18) (e := false) (want := true) (by decide) rfl rfl ?_
       refine o_guardN (j := 18) (e := false) (want := true) (by decide) rfl rfl ?_
       refine o_pickF (v := .b false) (e := false) (by decide) rfl rfl rfl ?_
       refine o_move (v := .b false) (by decide) rfl ?_
       refine o_guardN (j := 23) (e := false) (want := true) (by decide) rfl rfl ?_
       refine o_guardN (j := 23) (e := false) (want := true) (by decide) rfl rfl ?_
       refine o_guardN (j := 23) (e := false) (want := true) (by decide) rfl rfl ?_
       refine o_pickF (v := .b false) (e := false) (by decide) rfl rfl rfl ?_
       refine o_move (v := .b false) (by decide) rfl ?_
       refine o_guardN (j := 28) (e := false) (want := true) (by decide) rfl rfl ?_
       refine o_pickF (v := .b false) (e := false) (by decide) rfl rfl rfl ?_
       refine o_assign (v := .b false) (by decide) rfl ?_
       refine run_nil ?_
       exact w_goto false (.k .nil) ⟨(hS.keep [false] rfl).up (by omega), hM⟩
     ·replace hM := ifF hM hb14
      refine o_guardN (j := 3) (e := (r9.1 == r10.1)) (want := true) (by decide) rfl hb14 ?_
      refine o_guardN (j := 3) (e := (r9.1 == r10.1)) (want := true) (by decide) rfl hb14 ?_
      refine o_guardN (j := 3) (e := (r9.1 == r10.1)) (want := true) (by decide) rfl hb14 ?_
      refine o_pickF (v := .b false) (e := (r9.1 == r10.1)) (by decide) rfl hb14 rfl ?_
      refine o_move (v := .b false) (by decide) rfl ?_
      refine o_guardN (j := 8) (e := false) (want := true) (by decide) rfl rfl ?_
      refine o_guardN (j := 8) (e := false) (want := true) (by decide) rfl rfl ?_
      refine o_guardN (j := 8) (e := false) (want := true) (by decide) rfl rfl ?_
      refine o_pickF (v := .b false) (e := false) (by decide) rfl rfl rfl ?_
      refine o_move (v := .b false) (by decide) rfl ?_
      refine o_guardN (j := 13) (e := false) (want := true) (by decide) rfl rfl ?_
      refine o_guardN (j := 13) (e := false) (want := true) (by decide) rfl rfl ?_
      refine o_guardN (j := 13) (e := false) (want := true) (by decide) rfl rfl ?_
      refine o_pickF (v := .b false) (e := false) (by decide) rfl rfl rfl ?_
      refine o_move (v := .b false) (by decide) rfl ?_
      refine o_guardN (j := 18) (e := false) (want := true) (by decide) rfl rfl ?_
      refine o_guardN (j := 18) (e := false) (want := true) (by decide) rfl rfl ?_
      refine o_guardN (j := 18) (e := false) (want := true) (by decide) rfl rfl ?_
      refine o_pickF (v := .b false) (e := false) (by decide) rfl rfl rfl ?_
      refine o_move (v := .b false) (by decide) rfl ?_
      refine o_guardN (j := 23) (e := false) (want := true) (by decide) rfl rfl ?_
      refine o_guardN (j := 23) (e := false) (want := true) (by decide) rfl rfl ?_
      refine o_guardN (j := 23) (e := false) (want := true) (by decide) rfl rfl ?_
      refine o_pickF (v := .b false) (e := false) (by decide) rfl rfl rfl ?_
      refine o_move (v := .b false) (by decide) rfl ?_
      refine o_guardN (j := 28) (e := false) (want := true) (by decide) rfl rfl ?_
      refine o_pickF (v := .b false) (e := false) (by decide) rfl rfl rfl ?_
      refine o_assign (v := .b false) (by decide) rfl ?_
      refine run_nil ?_
      exact w_goto false (.k .nil) ⟨(hS.keep [false] rfl).up (by omega), hM⟩
 ·refine r_region (n := 9) rfl ?_
  refine o_fieldE (cs := (Wire.cells a0)) (by decide) ty_fo24_2 rfl ?_
  refine o_loadE (v := .sl .no 3 (a0.Presses.map WirePress.cells)) (by decide) rfl (part_one ty_agg22 ty_sc22 rfl) ?_
  refine o_len (n := a0.Presses.length) (by decide) rfl (List.length_map _) ty_isl22 ?_
  refine o_int (v := .b (decide ((a0.Presses.length : Int) > 40))) (by decide) rfl rfl rfl ?_
  refine o_move (v := .b (decide ((a0.Presses.length : Int) > 40))) (by decide) rfl ?_
  rcases Bool.eq_false_or_eq_true (decide ((a0.Presses.length : Int) > 40)) with hb23 | hb23
  ·replace hM := ifT hM hb23
   refine o_guardN (j := 4) (e := (decide ((a0.Presses.length : Int) > 40))) (want := false) (by decide) rfl hb23 ?_
   refine o_guardN (j := 4) (e := (decide ((a0.Presses.length : Int) > 40))) (want := false) (by decide) rfl hb23 ?_
   refine o_guardN (j := 4) (e := (decide ((a0.Presses.length : Int) > 40))) (want := false) (by decide) rfl hb23 ?_
   refine o_pickT (v := .b true) (e := (decide ((a0.Presses.length : Int) > 40))) (by decide) rfl hb23 rfl ?_
   refine run_nil ?_
   exact w_goto true (.k (.k (.k (.k .nil)))) ⟨(hS.keep [] rfl).up (by omega), hM⟩
  ·replace hM := ifF hM hb23
   refine o_guardY (j := 4) (e := (decide ((a0.Presses.length : Int) > 40))) (want := false) rfl hb23 ?_
   refine o_move (v := .sl .no 3 (a1.map WireFault.cells)) (by decide) rfl ?_
   refine o_guardY (j := 4) (e := (decide ((a0.Presses.length : Int) > 40))) (want := false) rfl hb23 ?_
   refine o_len (n := a1.length) (by decide) rfl (List.length_map _) ty_isl31 ?_
   refine o_guardY (j := 4) (e := (decide ((a0.Presses.length : Int) > 40))) (want := false) rfl hb23 ?_
   refine o_int (v := .b (decide ((a1.length : Int) > 40))) (by decide) rfl rfl rfl ?_
   refine o_pickF (v := .b (decide ((a1.length : Int) > 40))) (e := (decide ((a0.Presses.length : Int) > 40))) (by decide) rfl hb23 rfl ?_
   refine run_nil ?_
   exact w_goto (decide ((a1.length : Int) > 40)) (.k (.k (.k (.k .nil)))) ⟨(hS.keep [] rfl).up (by omega), hM⟩
end Go.Proofs.Ytneghcnkcfblmaa
