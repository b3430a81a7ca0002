/-
  The code returns what the functions say (printed by gen.py).
  Conditions: none.
-/
import Derived.Test.YtneghcnkcfblmaaTy
import Derived.Test.YtneghcnkcfblmaaMd
import Derived.Test.YtneghcnkcfblmaaSh
set_option linter.all false
namespace Go.Proofs.Ytneghcnkcfblmaa
open Go Go.AM Go.Law
set_option linter.unusedVariables false
set_option maxRecDepth 4000
set_option maxHeartbeats 4000000
abbrev _root_.Go.AM.AV.i (x : Int) : Go.AM.AV := .v (.int .i64 x)
abbrev _root_.Go.AM.AV.b (x : Bool) : Go.AM.AV := .v (.bool x)
theorem _root_.Go.AM.FLe.k {l l0 : List (Nat × AV)} {t : Nat} (r : FLe l l0) : FLe l ((t, lk l t) :: l0) := .cons (.refl _) r
theorem _root_.Go.AM.LeL.k {a : AV} {ps qs : List AV} (r : LeL ps qs) : LeL (a :: ps) (a :: qs) := .cons (.refl _) r
theorem keys63 : KeysAre Try.prog 63 okWireFault kvWireFault where
 keyed := Go.Maps.Keyed.of_law (deep_law_laid (show laidOutB Try.prog = true by kernel_rfl) (m := 6) (by omega) (of_decide_eq_true (by kernel_rfl)) (by kernel_rfl) (by kernel_rfl))
 inj := fun a b h => by
  obtain ⟨a1, a2, a3⟩ := a
  obtain ⟨b1, b2, b3⟩ := b
  have h := kvs_inj h
  simp only [List.cons.injEq, and_true] at h
  obtain ⟨rfl, rfl, rfl⟩ := h
  rfl
 key := fun x h => key_of_ints (by kernel_rfl) (by kernel_rfl) (by kernel_rfl) (show List.length _ = _ by kernel_rfl) h
theorem und3 : Try.prog.underlying 3 = some (.int .i64) := by kernel_rfl
theorem keys3 : KeysAre Try.prog 3 okI kvI := ⟨Go.Maps.int_keyed und3, fun a b h => by injection h, fun a h => ⟨_, Go.Maps.keyOf_int_mk und3 h⟩⟩
theorem W_ref01_Within {a0 : Int} {a1 : Int} {a2 : Int} {r : Bool} (hM : ref01_Within a0 a1 a2 = some r) : PureSat Try.prog 88 [.i a0, .i a1, .i a2] (.b r) := by
 refine pure_of_wp mixed Try.func88 rfl (by decide) Try.ntmps88 (by simp) ?pure fun H0 g hf => ?_
 case pure => exact .v _
 rw [frame0_of]
 change wpA _ _ _ _ (Fr.of [(0, .i a0), (1, .i a1), (2, .i a2)]) H0 g
 have hS := St.start hf
 refine r_seq ?_
 refine r_region (n := 1) rfl ?_
 refine o_assign (v := .b false) (by decide) rfl ?_
 refine run_nil ?_
 refine w_next [(0, .i a0), (1, .i a1), (2, .i a2)] (.k (.k (.k .nil))) ?_
 refine w_join (J := Bool) (fun j => [(6, .b j)]) (fun j H' g' => St (· < g) H0 [] H' g' ∧ ref01_Within_j1 j = some r) ?_ ?_
 ·rintro v1 H g1 ⟨hS, hM⟩
  change wpA _ _ _ _ (Fr.of [(6, .b v1)]) _ _
  replace hS : St (· < g) H0 [] H g1 := hS
  replace hM : ref01_Within_j1 v1 = some r := hM
  refine r_ret ?_
  refine w_end (x := .b v1) (f := fun r => .b r) (.inr rfl) ?_ (.refl _) (Option.some.inj hM) hS
  exact (res_one (res_tmp (x := .b v1) rfl))
 ·refine r_region (n := 9) rfl ?_
  refine o_move (v := .i a0) (by decide) rfl ?_
  refine o_move (v := .i a1) (by decide) rfl ?_
  refine o_int (v := .b (decide (a0 ≥ a1))) (by decide) rfl rfl rfl ?_
  refine o_move (v := .b (decide (a0 ≥ a1))) (by decide) rfl ?_
  rcases Bool.eq_false_or_eq_true (decide (a0 ≥ a1)) with hb2 | hb2
  ·replace hM := ifT hM hb2
   refine o_guardY (j := 3) (e := (decide (a0 ≥ a1))) (want := true) rfl hb2 ?_
   refine o_move (v := .i a0) (by decide) rfl ?_
   refine o_guardY (j := 3) (e := (decide (a0 ≥ a1))) (want := true) rfl hb2 ?_
   refine o_move (v := .i a2) (by decide) rfl ?_
   refine o_guardY (j := 3) (e := (decide (a0 ≥ a1))) (want := true) rfl hb2 ?_
   refine o_int (v := .b (decide (a0 ≤ a2))) (by decide) rfl rfl rfl ?_
   refine o_pickT (v := .b (decide (a0 ≤ a2))) (e := (decide (a0 ≥ a1))) (by decide) rfl hb2 rfl ?_
   refine o_assign (v := .b (decide (a0 ≤ a2))) (by decide) rfl ?_
   refine run_nil ?_
   exact w_goto (decide (a0 ≤ a2)) (.k .nil) ⟨(hS.keep [] rfl).up (by omega), hM⟩
  ·replace hM := ifF hM hb2
   refine o_guardN (j := 3) (e := (decide (a0 ≥ a1))) (want := true) (by decide) rfl hb2 ?_
   refine o_guardN (j := 3) (e := (decide (a0 ≥ a1))) (want := true) (by decide) rfl hb2 ?_
   refine o_guardN (j := 3) (e := (decide (a0 ≥ a1))) (want := true) (by decide) rfl hb2 ?_
   refine o_pickF (v := .b false) (e := (decide (a0 ≥ a1))) (by decide) rfl hb2 rfl ?_
   refine o_assign (v := .b false) (by decide) rfl ?_
   refine run_nil ?_
   exact w_goto false (.k .nil) ⟨(hS.keep [] rfl).up (by omega), hM⟩
theorem W_ref11_within {a0 : Int} {a1 : Int} {a2 : Int} {r : Bool} (hM : ref11_within a0 a1 a2 = some r) : PureSat Try.prog 68 [.i a0, .i a1, .i a2] (.b r) := by
 refine pure_of_wp mixed Try.func68 rfl (by decide) Try.ntmps68 (by simp) ?pure fun H0 g hf => ?_
 case pure => exact .v _
 rw [frame0_of]
 change wpA _ _ _ _ (Fr.of [(0, .i a0), (1, .i a1), (2, .i a2)]) H0 g
 have hS := St.start hf
 refine r_seq ?_
 refine r_region (n := 1) rfl ?_
 refine o_assign (v := .b false) (by decide) rfl ?_
 refine run_nil ?_
 refine w_next [(0, .i a0), (1, .i a1), (2, .i a2)] (.k (.k (.k .nil))) ?_
 refine r_seq ?_
 refine r_region (n := 5) rfl ?_
 refine o_move (v := .i a0) (by decide) rfl ?_
 refine o_move (v := .i a1) (by decide) rfl ?_
 refine o_move (v := .i a2) (by decide) rfl ?_
 obtain ⟨r1, hr1, hM⟩ := bindE hM
 refine o_call (bs := [.i a0, .i a1, .i a2]) (by decide) rfl rfl ((W_ref01_Within hr1).le (.k (.k (.k .nil)))) ?_
 refine o_assign (v := .b r1) (by decide) rfl ?_
 refine run_nil ?_
 refine w_next [(6, .b r1)] (.k .nil) ?_
 refine r_ret ?_
 refine w_end (x := .b r1) (f := fun r => .b r) (.inr rfl) ?_ (.refl _) (Option.some.inj hM) hS
 exact (res_one (res_tmp (x := .b r1) rfl))
theorem W_ref11_IsButton {a0 : Wire} {a1 : Int} {a2 : Int} {r : Bool} (hM : ref11_IsButton a0 a1 a2 = some r) : PureSat Try.prog 35 [.agg (Wire.cells a0), .i a1, .i a2] (.b r) := by
 refine pure_of_wp mixed Try.func35 rfl (by decide) Try.ntmps35 (by simp) ?pure fun H0 g hf => ?_
 case pure => exact .v _
 rw [frame0_of]
 change wpA _ _ _ _ (Fr.of [(0, .agg (Wire.cells a0)), (1, .i a1), (2, .i a2)]) H0 g
 have hS := St.start hf
 refine r_seq ?_
 refine r_region (n := 2) rfl ?_
 refine o_box (v := .agg (Wire.cells a0)) (cs := (Wire.cells a0)) hS (by decide) rfl rfl (by omega) fun H hS => ?_
 refine o_assign (v := .b false) (by decide) rfl ?_
 refine run_nil ?_
 refine w_iceE (L' := []) 0 3 hS rfl rfl rfl fun H hS => ?_
 refine w_next [(1, .i a1), (2, .i a2), (3, .ep (Wire.cells a0))] (.k (.k (.k .nil))) ?_
 refine w_join (J := Bool) (fun j => [(6, .b j)]) (fun j H' g' => St (· < g) H0 [] H' g' ∧ ref11_IsButton_j1 j = some r) ?_ ?_
 ·rintro v1 H g1 ⟨hS, hM⟩
  change wpA _ _ _ _ (Fr.of [(6, .b v1)]) _ _
  replace hS : St (· < g) H0 [] H g1 := hS
  replace hM : ref11_IsButton_j1 v1 = some r := hM
  refine r_ret ?_
  refine w_end (x := .b v1) (f := fun r => .b r) (.inr rfl) ?_ (.refl _) (Option.some.inj hM) hS
  exact (res_one (res_tmp (x := .b v1) rfl))
 ·refine r_region (n := 13) rfl ?_
  refine o_move (v := .i a1) (by decide) rfl ?_
  refine o_fieldE (cs := (Wire.cells a0)) (by decide) ty_fo24_0 rfl ?_
  refine o_loadE (v := .i a0.Letters) (by decide) rfl (part_one ty_agg3 ty_sc3 rfl) ?_
  refine o_int (v := .i (w64 (a0.Letters - 1))) (by decide) rfl rfl rfl ?_
  obtain ⟨r2, hr2, hM⟩ := bindE hM
  refine o_call (bs := [.i a1, .i 0, .i (w64 (a0.Letters - 1))]) (by decide) rfl rfl ((W_ref11_within hr2).le (.k (.k (.k .nil)))) ?_
  refine o_move (v := .b r2) (by decide) rfl ?_
  rcases Bool.eq_false_or_eq_true r2 with hb3 | hb3
  ·replace hM := ifT hM hb3
   refine o_guardY (j := 5) (e := r2) (want := true) rfl hb3 ?_
   refine o_move (v := .i a2) (by decide) rfl ?_
   refine o_guardY (j := 5) (e := r2) (want := true) rfl hb3 ?_
   refine o_fieldE (cs := (Wire.cells a0)) (by decide) ty_fo24_1 rfl ?_
   refine o_guardY (j := 5) (e := r2) (want := true) rfl hb3 ?_
   refine o_loadE (v := .i a0.Numbers) (by decide) rfl (part_one ty_agg3 ty_sc3 rfl) ?_
   refine o_guardY (j := 5) (e := r2) (want := true) rfl hb3 ?_
   refine o_int (v := .i (w64 (a0.Numbers - 1))) (by decide) rfl rfl rfl ?_
   refine o_guardY (j := 5) (e := r2) (want := true) rfl hb3 ?_
   obtain ⟨r4, hr4, hM⟩ := bindE hM
   refine o_call (bs := [.i a2, .i 0, .i (w64 (a0.Numbers - 1))]) (by decide) rfl rfl ((W_ref11_within hr4).le (.k (.k (.k .nil)))) ?_
   refine o_pickT (v := .b r4) (e := r2) (by decide) rfl hb3 rfl ?_
   refine o_assign (v := .b r4) (by decide) rfl ?_
   refine run_nil ?_
   exact w_goto r4 (.k .nil) ⟨(hS.keep [] rfl).up (by omega), hM⟩
  ·replace hM := ifF hM hb3
   refine o_guardN (j := 5) (e := r2) (want := true) (by decide) rfl hb3 ?_
   refine o_guardN (j := 5) (e := r2) (want := true) (by decide) rfl hb3 ?_
   refine o_guardN (j := 5) (e := r2) (want := true) (by decide) rfl hb3 ?_
   refine o_guardN (j := 5) (e := r2) (want := true) (by decide) rfl hb3 ?_
   refine o_guardN (j := 5) (e := r2) (want := true) (by decide) rfl hb3 ?_
   refine o_pickF (v := .b false) (e := r2) (by decide) rfl hb3 rfl ?_
   refine o_assign (v := .b false) (by decide) rfl ?_
   refine run_nil ?_
   exact w_goto false (.k .nil) ⟨(hS.keep [] rfl).up (by omega), hM⟩
theorem W_ref11_Check {n : Nat} {a0 : Wire} {r : Int} (hM : ref11_Check n a0 = some r) : PureSat Try.prog 39 [.agg (Wire.cells a0)] (.i r) := by
 refine pure_of_wp mixed Try.func39 rfl (by decide) Try.ntmps39 (by simp) ?pure fun H0 g hf => ?_
 case pure => exact .v _
 rw [frame0_of]
 change wpA _ _ _ _ (Fr.of [(0, .agg (Wire.cells a0))]) H0 g
 have hS := St.start hf
 refine r_seq ?_
 refine r_region (n := 2) rfl ?_
 refine o_box (v := .agg (Wire.cells a0)) (cs := (Wire.cells a0)) hS (by decide) rfl rfl (by omega) fun H hS => ?_
 refine o_assign (v := .i 0) (by decide) rfl ?_
 refine run_nil ?_
 refine w_iceE (L' := []) 0 1 hS rfl rfl rfl fun H hS => ?_
 refine w_next [(1, .ep (Wire.cells a0))] (.k .nil) ?_
 refine r_seq ?_
 refine w_join (J := Bool) (fun j => [(1, .ep (Wire.cells a0)), (26, .b j)]) (fun j H' g' => St (· < g) H0 [] H' g' ∧ ref11_Check_j1 n a0 j = some r) ?_ ?_
 ·rintro v1 H g1 ⟨hS, hM⟩
  change wpA _ _ _ _ (Fr.of [(1, .ep (Wire.cells a0)), (26, .b v1)]) _ _
  replace hS : St (· < g) H0 [] H g1 := hS
  replace hM : ref11_Check_j1 n a0 v1 = some r := hM
  rcases Bool.eq_false_or_eq_true v1 with hb2 | hb2
  ·replace hM := ifT hM hb2
   refine w_condT (e := v1) rfl hb2 ?_
   refine r_seq ?_
   refine r_region (n := 1) rfl ?_
   refine o_assign (v := .i 110) (by decide) rfl ?_
   refine run_nil ?_
   refine w_next [(2, .i 110)] (.k .nil) ?_
   refine r_ret ?_
   refine r_then_ret ?_
   refine w_end (x := .i 110) (f := fun r => .i r) (.inr rfl) ?_ (.refl _) (Option.some.inj hM) hS
   exact (res_one (res_tmp (x := .i 110) rfl))
  ·replace hM := ifF hM hb2
   refine w_condF (e := v1) rfl hb2 ?_
   refine r_skip ?_
   refine w_next [(1, .ep (Wire.cells a0))] (.k .nil) ?_
   refine w_join (J := Unit) (fun j => []) (fun j H' g' => St (· < g) H0 [] H' g' ∧ ref11_Check_j2 = some r) ?_ ?_
   ·rintro _ H g2 ⟨hS, hM⟩
    change wpA _ _ _ _ (Fr.of []) _ _
    replace hS : St (· < g) H0 [] H g2 := hS
    replace hM : ref11_Check_j2 = some r := hM
    refine r_seq ?_
    refine r_region (n := 1) rfl ?_
    refine o_assign (v := .i 0) (by decide) rfl ?_
    refine run_nil ?_
    refine w_next [(2, .i 0)] (.k .nil) ?_
    refine r_ret ?_
    refine w_end (x := .i 0) (f := fun r => .i r) (.inr rfl) ?_ (.refl _) (Option.some.inj hM) hS
    exact (res_one (res_tmp (x := .i 0) rfl))
   ·refine r_seq ?_
    refine r_region (n := 1) rfl ?_
    refine o_assign (v := .i 0) (by decide) rfl ?_
    refine run_nil ?_
    refine w_next [(1, .ep (Wire.cells a0)), (3, .i 0)] (.k (.k .nil)) ?_
    refine r_block ?_
    refine w_loop (V := Int) (fun v => [(1, .ep (Wire.cells a0)), (3, .i v)]) (fun v m3 H' g' => St (· < g) H0 [] H' g' ∧ ref11_Check_l1 a0 m3 v = some r) (n := n) 0 (.k (.k .nil)) ⟨(hS.keep [] rfl).up (by omega), hM⟩ ?_
    rintro v3 m3 H g3 ⟨hS, hM⟩
    obtain _ | m3 := m3
    ·exact nomatch (show none = some _ from hM)
    change wpA _ _ _ _ (Fr.of [(1, .ep (Wire.cells a0)), (3, .i v3)]) _ _
    replace hS : St (· < g) H0 [] H g3 := hS
    replace hM : ref11_Check_l1_b a0 (ref11_Check_l1 a0 m3) v3 = some r := hM
    refine r_seq ?_
    refine r_seq ?_
    refine r_region (n := 5) rfl ?_
    refine o_move (v := .i v3) (by decide) rfl ?_
    refine o_fieldE (cs := (Wire.cells a0)) (by decide) ty_fo24_2 rfl ?_
    refine o_loadE (v := .sl .no 3 (a0.Presses.map WirePress.cells)) (by decide) rfl (part_one ty_agg22 ty_sc22 rfl) ?_
    refine o_len (n := a0.Presses.length) (by decide) rfl (List.length_map _) ty_isl22 ?_
    refine o_int (v := .b (decide (v3 < (a0.Presses.length : Int)))) (by decide) rfl rfl rfl ?_
    refine run_nil ?_
    refine w_next [(1, .ep (Wire.cells a0)), (3, .i v3), (31, .b (decide (v3 < (a0.Presses.length : Int))))] (.k (.k (.k .nil))) ?_
    rcases Bool.eq_false_or_eq_true (decide (v3 < (a0.Presses.length : Int))) with hb4 | hb4
    ·replace hM := ifT hM hb4
     refine w_condT (e := (decide (v3 < (a0.Presses.length : Int)))) rfl hb4 ?_
     refine r_skip ?_
     refine w_next [(1, .ep (Wire.cells a0)), (3, .i v3)] (.k (.k .nil)) ?_
     refine r_seq ?_
     refine r_block ?_
     refine r_seq ?_
     refine r_region (n := 7) rfl ?_
     refine o_fieldE (cs := (Wire.cells a0)) (by decide) ty_fo24_2 rfl ?_
     refine o_loadE (v := .sl .no 3 (a0.Presses.map WirePress.cells)) (by decide) rfl (part_one ty_agg22 ty_sc22 rfl) ?_
     refine o_move (v := .i v3) (by decide) rfl ?_
     obtain ⟨x5, hx5, hM⟩ := bindE hM
     refine o_index (xs := a0.Presses) (f := WirePress.cells) (z := v3) (u := x5) (by decide) rfl rfl ty_es22 hx5 ?_
     refine o_loadE (v := .agg [.i x5.Letter, .i x5.Number, .i x5.Got]) (by decide) rfl (part_agg ty_agg50 (Nat.le_of_ble_eq_true rfl) rfl) ?_
     refine o_alloc hS (by decide) ty_zero50 (by omega) fun H hS => ?_
     refine o_store (v := .agg [.i x5.Letter, .i x5.Number, .i x5.Got]) (ns := [.i x5.Letter, .i x5.Number, .i x5.Got]) (L' := [(g3 + 5 + 5, .cells [.i x5.Letter, .i x5.Number, .i x5.Got])]) 0 hS rfl rfl .no rfl rfl ty_var50 (Nat.le_of_ble_eq_true rfl) rfl fun H hS => ?_
     refine run_nil ?_
     refine w_iceE (L' := []) 0 4 hS rfl rfl rfl fun H hS => ?_
     refine w_next [(1, .ep (Wire.cells a0)), (3, .i v3), (4, .ep [.i x5.Letter, .i x5.Number, .i x5.Got])] (.k (.k (.k .nil))) ?_
     refine w_join (J := Bool) (fun j => [(1, .ep (Wire.cells a0)), (3, .i v3), (57, .b j)]) (fun j H' g' => St (· < g) H0 [] H' g' ∧ ref11_Check_j3 (ref11_Check_l1 a0 m3) v3 j = some r) ?_ ?_
     ·rintro v6 H g4 ⟨hS, hM⟩
      change wpA _ _ _ _ (Fr.of [(1, .ep (Wire.cells a0)), (3, .i v3), (57, .b v6)]) _ _
      replace hS : St (· < g) H0 [] H g4 := hS
      replace hM : ref11_Check_j3 (ref11_Check_l1 a0 m3) v3 v6 = some r := hM
      rcases Bool.eq_false_or_eq_true v6 with hb7 | hb7
      ·replace hM := ifT hM hb7
       refine w_condT (e := v6) rfl hb7 ?_
       refine r_seq ?_
       refine r_region (n := 1) rfl ?_
       refine o_assign (v := .i 110) (by decide) rfl ?_
       refine run_nil ?_
       refine w_next [(2, .i 110)] (.k .nil) ?_
       refine r_ret ?_
       refine r_blk_ret ?_
       refine r_then_ret ?_
       refine w_round_ret ?_
       refine r_blk_ret ?_
       refine w_goto_ret ?_
       refine w_end (x := .i 110) (f := fun r => .i r) (.inr rfl) ?_ (.refl _) (Option.some.inj hM) hS
       exact (res_one (res_tmp (x := .i 110) rfl))
      ·replace hM := ifF hM hb7
       refine w_condF (e := v6) rfl hb7 ?_
       refine r_skip ?_
       refine r_blk_normal ?_
       refine w_next [(1, .ep (Wire.cells a0)), (3, .i v3)] (.k (.k .nil)) ?_
       refine r_region (n := 3) rfl ?_
       refine o_move (v := .i v3) (by decide) rfl ?_
       refine o_int (v := .i (w64 (v3 + 1))) (by decide) rfl rfl rfl ?_
       refine o_assign (v := .i (w64 (v3 + 1))) (by decide) rfl ?_
       refine run_nil ?_
       exact w_round (w64 (v3 + 1)) (Nat.lt_succ_self _) (.k (.k .nil)) ⟨(hS.keep [] rfl).up (by omega), hM⟩
     ·refine r_region (n := 19) rfl ?_
      refine o_loadE (v := .agg (Wire.cells a0)) (by decide) rfl (part_agg ty_agg24 (Nat.le_of_ble_eq_true rfl) rfl) ?_
      refine o_fieldE (cs := [.i x5.Letter, .i x5.Number, .i x5.Got]) (by decide) ty_fo50_0 rfl ?_
      refine o_loadE (v := .i x5.Letter) (by decide) rfl (part_one ty_agg3 ty_sc3 rfl) ?_
      refine o_fieldE (cs := [.i x5.Letter, .i x5.Number, .i x5.Got]) (by decide) ty_fo50_1 rfl ?_
      refine o_loadE (v := .i x5.Number) (by decide) rfl (part_one ty_agg3 ty_sc3 rfl) ?_
      obtain ⟨r8, hr8, hM⟩ := bindE hM
      refine o_call (bs := [.agg (Wire.cells a0), .i x5.Letter, .i x5.Number]) (by decide) rfl rfl ((W_ref11_IsButton hr8).le (.k (.k (.k .nil)))) ?_
      refine o_not (e := r8) (by decide) rfl ?_
      refine o_move (v := .b (!r8)) (by decide) rfl ?_
      rcases Bool.eq_false_or_eq_true (!r8) with hb9 | hb9
      ·replace hM := ifT hM hb9
       refine o_guardN (j := 7) (e := (!r8)) (want := false) (by decide) rfl hb9 ?_
       refine o_guardN (j := 7) (e := (!r8)) (want := false) (by decide) rfl hb9 ?_
       refine o_guardN (j := 7) (e := (!r8)) (want := false) (by decide) rfl hb9 ?_
       refine o_guardN (j := 7) (e := (!r8)) (want := false) (by decide) rfl hb9 ?_
       refine o_guardN (j := 7) (e := (!r8)) (want := false) (by decide) rfl hb9 ?_
       refine o_guardN (j := 7) (e := (!r8)) (want := false) (by decide) rfl hb9 ?_
       refine o_guardN (j := 7) (e := (!r8)) (want := false) (by decide) rfl hb9 ?_
       refine o_guardN (j := 7) (e := (!r8)) (want := false) (by decide) rfl hb9 ?_
       refine o_guardN (j := 7) (e := (!r8)) (want := false) (by decide) rfl hb9 ?_
       refine o_guardN (j := 7) (e := (!r8)) (want := false) (by decide) rfl hb9 ?_
       refine o_pickT (v := .b true) (e := (!r8)) (by decide) rfl hb9 rfl ?_
       refine run_nil ?_
       exact w_goto true (.k (.k (.k .nil))) ⟨(hS.keep [] rfl).up (by omega), hM⟩
      ·replace hM := ifF hM hb9
       refine o_guardY (j := 7) (e := (!r8)) (want := false) rfl hb9 ?_
       refine o_fieldE (cs := [.i x5.Letter, .i x5.Number, .i x5.Got]) (by decide) ty_fo50_2 rfl ?_
       refine o_guardY (j := 7) (e := (!r8)) (want := false) rfl hb9 ?_
       refine o_loadE (v := .i x5.Got) (by decide) rfl (part_one ty_agg3 ty_sc3 rfl) ?_
       refine o_guardY (j := 7) (e := (!r8)) (want := false) rfl hb9 ?_
       refine o_fieldE (cs := (Wire.cells a0)) (by decide) ty_fo24_0 rfl ?_
       refine o_guardY (j := 7) (e := (!r8)) (want := false) rfl hb9 ?_
       refine o_loadE (v := .i a0.Letters) (by decide) rfl (part_one ty_agg3 ty_sc3 rfl) ?_
       refine o_guardY (j := 7) (e := (!r8)) (want := false) rfl hb9 ?_
       refine o_fieldE (cs := (Wire.cells a0)) (by decide) ty_fo24_1 rfl ?_
       refine o_guardY (j := 7) (e := (!r8)) (want := false) rfl hb9 ?_
       refine o_loadE (v := .i a0.Numbers) (by decide) rfl (part_one ty_agg3 ty_sc3 rfl) ?_
       refine o_guardY (j := 7) (e := (!r8)) (want := false) rfl hb9 ?_
       refine o_int (v := .i (w64 (a0.Letters * a0.Numbers))) (by decide) rfl rfl rfl ?_
       refine o_guardY (j := 7) (e := (!r8)) (want := false) rfl hb9 ?_
       refine o_int (v := .i (w64 ((w64 (a0.Letters * a0.Numbers)) - 1))) (by decide) rfl rfl rfl ?_
       refine o_guardY (j := 7) (e := (!r8)) (want := false) rfl hb9 ?_
       obtain ⟨r10, hr10, hM⟩ := bindE hM
       refine o_call (bs := [.i x5.Got, .i (-1), .i (w64 ((w64 (a0.Letters * a0.Numbers)) - 1))]) (by decide) rfl rfl ((W_ref11_within hr10).le (.k (.k (.k .nil)))) ?_
       refine o_guardY (j := 7) (e := (!r8)) (want := false) rfl hb9 ?_
       refine o_not (e := r10) (by decide) rfl ?_
       refine o_pickF (v := .b (!r10)) (e := (!r8)) (by decide) rfl hb9 rfl ?_
       refine run_nil ?_
       exact w_goto (!r10) (.k (.k (.k .nil))) ⟨(hS.keep [] rfl).up (by omega), hM⟩
    ·replace hM := ifF hM hb4
     refine w_condF (e := (decide (v3 < (a0.Presses.length : Int)))) rfl hb4 ?_
     refine r_exit ?_
     refine r_then_exit ?_
     refine w_round_exit ?_
     refine r_blk_exit ?_
     exact w_goto () .nil ⟨(hS.keep [] rfl).up (by omega), hM⟩
 ·refine r_region (n := 22) rfl ?_
  refine o_fieldE (cs := (Wire.cells a0)) (by decide) ty_fo24_0 rfl ?_
  refine o_loadE (v := .i a0.Letters) (by decide) rfl (part_one ty_agg3 ty_sc3 rfl) ?_
  obtain ⟨r11, hr11, hM⟩ := bindE hM
  refine o_call (bs := [.i a0.Letters, .i 1, .i 5]) (by decide) rfl rfl ((W_ref11_within hr11).le (.k (.k (.k .nil)))) ?_
  refine o_not (e := r11) (by decide) rfl ?_
  refine o_move (v := .b (!r11)) (by decide) rfl ?_
  rcases Bool.eq_false_or_eq_true (!r11) with hb12 | hb12
  ·replace hM := ifT hM hb12
   refine o_guardN (j := 4) (e := (!r11)) (want := false) (by decide) rfl hb12 ?_
   refine o_guardN (j := 4) (e := (!r11)) (want := false) (by decide) rfl hb12 ?_
   refine o_guardN (j := 4) (e := (!r11)) (want := false) (by decide) rfl hb12 ?_
   refine o_guardN (j := 4) (e := (!r11)) (want := false) (by decide) rfl hb12 ?_
   refine o_pickT (v := .b true) (e := (!r11)) (by decide) rfl hb12 rfl ?_
   refine o_move (v := .b true) (by decide) rfl ?_
   refine o_guardN (j := 10) (e := true) (want := false) (by decide) rfl rfl ?_
   refine o_guardN (j := 10) (e := true) (want := false) (by decide) rfl rfl ?_
   refine o_guardN (j := 10) (e := true) (want := false) (by decide) rfl rfl ?_
   refine o_guardN (j := 10) (e := true) (want := false) (by decide) rfl rfl ?_
   refine o_pickT (v := .b true) (e := true) (by decide) rfl rfl rfl ?_
   refine o_move (v := .b true) (by decide) rfl ?_
   refine o_guardN (j := 16) (e := true) (want := false) (by decide) rfl rfl ?_
   refine o_guardN (j := 16) (e := true) (want := false) (by decide) rfl rfl ?_
   refine o_guardN (j := 16) (e := true) (want := false) (by decide) rfl rfl ?_
   refine o_guardN (j := 16) (e := true) (want := false) (by decide) rfl rfl ?_
   refine o_pickT (v := .b true) (e := true) (by decide) rfl rfl rfl ?_
   refine run_nil ?_
   exact w_goto true (.k (.k .nil)) ⟨(hS.keep [] rfl).up (by omega), hM⟩
  ·replace hM := ifF hM hb12
   refine o_guardY (j := 4) (e := (!r11)) (want := false) rfl hb12 ?_
   refine o_fieldE (cs := (Wire.cells a0)) (by decide) ty_fo24_1 rfl ?_
   refine o_guardY (j := 4) (e := (!r11)) (want := false) rfl hb12 ?_
   refine o_loadE (v := .i a0.Numbers) (by decide) rfl (part_one ty_agg3 ty_sc3 rfl) ?_
   refine o_guardY (j := 4) (e := (!r11)) (want := false) rfl hb12 ?_
   obtain ⟨r13, hr13, hM⟩ := bindE hM
   refine o_call (bs := [.i a0.Numbers, .i 1, .i 5]) (by decide) rfl rfl ((W_ref11_within hr13).le (.k (.k (.k .nil)))) ?_
   refine o_guardY (j := 4) (e := (!r11)) (want := false) rfl hb12 ?_
   refine o_not (e := r13) (by decide) rfl ?_
   refine o_pickF (v := .b (!r13)) (e := (!r11)) (by decide) rfl hb12 rfl ?_
   refine o_move (v := .b (!r13)) (by decide) rfl ?_
   rcases Bool.eq_false_or_eq_true (!r13) with hb14 | hb14
   ·replace hM := ifT hM hb14
    refine o_guardN (j := 10) (e := (!r13)) (want := false) (by decide) rfl hb14 ?_
    refine o_guardN (j := 10) (e := (!r13)) (want := false) (by decide) rfl hb14 ?_
    refine o_guardN (j := 10) (e := (!r13)) (want := false) (by decide) rfl hb14 ?_
    refine o_guardN (j := 10) (e := (!r13)) (want := false) (by decide) rfl hb14 ?_
    refine o_pickT (v := .b true) (e := (!r13)) (by decide) rfl hb14 rfl ?_
    refine o_move (v := .b true) (by decide) rfl ?_
    refine o_guardN (j := 16) (e := true) (want := false) (by decide) rfl rfl ?_
    refine o_guardN (j := 16) (e := true) (want := false) (by decide) rfl rfl ?_
    refine o_guardN (j := 16) (e := true) (want := false) (by decide) rfl rfl ?_
    refine o_guardN (j := 16) (e := true) (want := false) (by decide) rfl rfl ?_
    refine o_pickT (v := .b true) (e := true) (by decide) rfl rfl rfl ?_
    refine run_nil ?_
    exact w_goto true (.k (.k .nil)) ⟨(hS.keep [] rfl).up (by omega), hM⟩
   ·replace hM := ifF hM hb14
    refine o_guardY (j := 10) (e := (!r13)) (want := false) rfl hb14 ?_
    refine o_fieldE (cs := (Wire.cells a0)) (by decide) ty_fo24_2 rfl ?_
    refine o_guardY (j := 10) (e := (!r13)) (want := false) rfl hb14 ?_
    refine o_loadE (v := .sl .no 3 (a0.Presses.map WirePress.cells)) (by decide) rfl (part_one ty_agg22 ty_sc22 rfl) ?_
    refine o_guardY (j := 10) (e := (!r13)) (want := false) rfl hb14 ?_
    refine o_len (n := a0.Presses.length) (by decide) rfl (List.length_map _) ty_isl22 ?_
    refine o_guardY (j := 10) (e := (!r13)) (want := false) rfl hb14 ?_
    refine o_int (v := .b (decide ((a0.Presses.length : Int) > 8))) (by decide) rfl rfl rfl ?_
    refine o_pickF (v := .b (decide ((a0.Presses.length : Int) > 8))) (e := (!r13)) (by decide) rfl hb14 rfl ?_
    refine o_move (v := .b (decide ((a0.Presses.length : Int) > 8))) (by decide) rfl ?_
    rcases Bool.eq_false_or_eq_true (decide ((a0.Presses.length : Int) > 8)) with hb15 | hb15
    ·replace hM := ifT hM hb15
     refine o_guardN (j := 16) (e := (decide ((a0.Presses.length : Int) > 8))) (want := false) (by decide) rfl hb15 ?_
     refine o_guardN (j := 16) (e := (decide ((a0.Presses.length : Int) > 8))) (want := false) (by decide) rfl hb15 ?_
     refine o_guardN (j := 16) (e := (decide ((a0.Presses.length : Int) > 8))) (want := false) (by decide) rfl hb15 ?_
     refine o_guardN (j := 16) (e := (decide ((a0.Presses.length : Int) > 8))) (want := false) (by decide) rfl hb15 ?_
     refine o_pickT (v := .b true) (e := (decide ((a0.Presses.length : Int) > 8))) (by decide) rfl hb15 rfl ?_
     refine run_nil ?_
     exact w_goto true (.k (.k .nil)) ⟨(hS.keep [] rfl).up (by omega), hM⟩
    ·replace hM := ifF hM hb15
     refine o_guardY (j := 16) (e := (decide ((a0.Presses.length : Int) > 8))) (want := false) rfl hb15 ?_
     refine o_fieldE (cs := (Wire.cells a0)) (by decide) ty_fo24_3 rfl ?_
     refine o_guardY (j := 16) (e := (decide ((a0.Presses.length : Int) > 8))) (want := false) rfl hb15 ?_
     refine o_loadE (v := .i a0.Faults) (by decide) rfl (part_one ty_agg3 ty_sc3 rfl) ?_
     refine o_guardY (j := 16) (e := (decide ((a0.Presses.length : Int) > 8))) (want := false) rfl hb15 ?_
     obtain ⟨r16, hr16, hM⟩ := bindE hM
     refine o_call (bs := [.i a0.Faults, .i 0, .i 3]) (by decide) rfl rfl ((W_ref11_within hr16).le (.k (.k (.k .nil)))) ?_
     refine o_guardY (j := 16) (e := (decide ((a0.Presses.length : Int) > 8))) (want := false) rfl hb15 ?_
     refine o_not (e := r16) (by decide) rfl ?_
     refine o_pickF (v := .b (!r16)) (e := (decide ((a0.Presses.length : Int) > 8))) (by decide) rfl hb15 rfl ?_
     refine run_nil ?_
     exact w_goto (!r16) (.k (.k .nil)) ⟨(hS.keep [] rfl).up (by omega), hM⟩
theorem W_law11_Far {n : Nat} {a0 : Wire} {r : Bool} (hM : law11_Far n a0 = some r) : PureSat Try.prog 14 [.agg (Wire.cells a0)] (.b r) := by
 refine pure_of_wp mixed Try.func14 rfl (by decide) Try.ntmps14 (by simp) ?pure fun H0 g hf => ?_
 case pure => exact .v _
 rw [frame0_of]
 change wpA _ _ _ _ (Fr.of [(0, .agg (Wire.cells a0))]) H0 g
 have hS := St.start hf
 refine r_seq ?_
 refine r_region (n := 2) rfl ?_
 refine o_box (v := .agg (Wire.cells a0)) (cs := (Wire.cells a0)) hS (by decide) rfl rfl (by omega) fun H hS => ?_
 refine o_assign (v := .b false) (by decide) rfl ?_
 refine run_nil ?_
 refine w_iceE (L' := []) 0 1 hS rfl rfl rfl fun H hS => ?_
 refine w_next [(1, .ep (Wire.cells a0))] (.k .nil) ?_
 refine w_join (J := Bool) (fun j => [(2, .b j)]) (fun j H' g' => St (· < g) H0 [] H' g' ∧ law11_Far_j1 j = some r) ?_ ?_
 ·rintro v1 H g1 ⟨hS, hM⟩
  change wpA _ _ _ _ (Fr.of [(2, .b v1)]) _ _
  replace hS : St (· < g) H0 [] H g1 := hS
  replace hM : law11_Far_j1 v1 = some r := hM
  refine r_ret ?_
  refine w_end (x := .b v1) (f := fun r => .b r) (.inr rfl) ?_ (.refl _) (Option.some.inj hM) hS
  exact (res_one (res_tmp (x := .b v1) rfl))
 ·refine r_region (n := 23) rfl ?_
  refine o_fieldE (cs := (Wire.cells a0)) (by decide) ty_fo24_2 rfl ?_
  refine o_loadE (v := .sl .no 3 (a0.Presses.map WirePress.cells)) (by decide) rfl (part_one ty_agg22 ty_sc22 rfl) ?_
  refine o_len (n := a0.Presses.length) (by decide) rfl (List.length_map _) ty_isl22 ?_
  refine o_int (v := .b (decide ((a0.Presses.length : Int) > 40))) (by decide) rfl rfl rfl ?_
  refine o_move (v := .b (decide ((a0.Presses.length : Int) > 40))) (by decide) rfl ?_
  rcases Bool.eq_false_or_eq_true (decide ((a0.Presses.length : Int) > 40)) with hb2 | hb2
  ·replace hM := ifT hM hb2
   refine o_guardN (j := 4) (e := (decide ((a0.Presses.length : Int) > 40))) (want := false) (by decide) rfl hb2 ?_
   refine o_guardN (j := 4) (e := (decide ((a0.Presses.length : Int) > 40))) (want := false) (by decide) rfl hb2 ?_
   refine o_guardN (j := 4) (e := (decide ((a0.Presses.length : Int) > 40))) (want := false) (by decide) rfl hb2 ?_
   refine o_guardN (j := 4) (e := (decide ((a0.Presses.length : Int) > 40))) (want := false) (by decide) rfl hb2 ?_
   refine o_guardU (j := 8) (by decide) rfl ?_
   refine o_guardU (j := 8) (by decide) rfl ?_
   refine o_guardU (j := 8) (by decide) rfl ?_
   refine o_guardU (j := 8) (by decide) rfl ?_
   refine o_guardU (j := 8) (by decide) rfl ?_
   refine o_guardU (j := 8) (by decide) rfl ?_
   refine o_guardU (j := 8) (by decide) rfl ?_
   refine o_guardU (j := 15) (by decide) rfl ?_
   refine o_guardU (j := 15) (by decide) rfl ?_
   refine o_guardU (j := 15) (by decide) rfl ?_
   refine o_guardU (j := 8) (by decide) rfl ?_
   refine o_guardN (j := 4) (e := (decide ((a0.Presses.length : Int) > 40))) (want := false) (by decide) rfl hb2 ?_
   refine o_pickT (v := .b true) (e := (decide ((a0.Presses.length : Int) > 40))) (by decide) rfl hb2 rfl ?_
   refine o_assign (v := .b true) (by decide) rfl ?_
   refine run_nil ?_
   exact w_goto true (.k .nil) ⟨(hS.keep [] rfl).up (by omega), hM⟩
  ·replace hM := ifF hM hb2
   refine o_guardY (j := 4) (e := (decide ((a0.Presses.length : Int) > 40))) (want := false) rfl hb2 ?_
   refine o_loadE (v := .agg (Wire.cells a0)) (by decide) rfl (part_agg ty_agg24 (Nat.le_of_ble_eq_true rfl) rfl) ?_
   refine o_guardY (j := 4) (e := (decide ((a0.Presses.length : Int) > 40))) (want := false) rfl hb2 ?_
   obtain ⟨r3, hr3, hM⟩ := bindE hM
   refine o_call (bs := [.agg (Wire.cells a0)]) (by decide) rfl rfl ((W_ref11_Check hr3).le (.k .nil)) ?_
   refine o_guardY (j := 4) (e := (decide ((a0.Presses.length : Int) > 40))) (want := false) rfl hb2 ?_
   refine o_int (v := .b (r3 == 0)) (by decide) rfl rfl rfl ?_
   refine o_guardY (j := 4) (e := (decide ((a0.Presses.length : Int) > 40))) (want := false) rfl hb2 ?_
   refine o_move (v := .b (r3 == 0)) (by decide) rfl ?_
   rcases Bool.eq_false_or_eq_true (r3 == 0) with hb4 | hb4
   ·replace hM := ifT hM hb4
    refine o_guardY (j := 8) (e := (r3 == 0)) (want := true) rfl hb4 ?_
    refine o_fieldE (cs := (Wire.cells a0)) (by decide) ty_fo24_0 rfl ?_
    refine o_guardY (j := 8) (e := (r3 == 0)) (want := true) rfl hb4 ?_
    refine o_loadE (v := .i a0.Letters) (by decide) rfl (part_one ty_agg3 ty_sc3 rfl) ?_
    refine o_guardY (j := 8) (e := (r3 == 0)) (want := true) rfl hb4 ?_
    refine o_fieldE (cs := (Wire.cells a0)) (by decide) ty_fo24_1 rfl ?_
    refine o_guardY (j := 8) (e := (r3 == 0)) (want := true) rfl hb4 ?_
    refine o_loadE (v := .i a0.Numbers) (by decide) rfl (part_one ty_agg3 ty_sc3 rfl) ?_
    refine o_guardY (j := 8) (e := (r3 == 0)) (want := true) rfl hb4 ?_
    refine o_max (v := .i (max a0.Letters a0.Numbers)) (by decide) rfl ?_
    refine o_guardY (j := 8) (e := (r3 == 0)) (want := true) rfl hb4 ?_
    refine o_int (v := .b (decide ((max a0.Letters a0.Numbers) > 4))) (by decide) rfl rfl rfl ?_
    refine o_guardY (j := 8) (e := (r3 == 0)) (want := true) rfl hb4 ?_
    refine o_move (v := .b (decide ((max a0.Letters a0.Numbers) > 4))) (by decide) rfl ?_
    rcases Bool.eq_false_or_eq_true (decide ((max a0.Letters a0.Numbers) > 4)) with hb5 | hb5
    ·replace hM := ifT hM hb5
     refine o_guardN (j := 15) (e := (decide ((max a0.Letters a0.Numbers) > 4))) (want := false) (by decide) rfl hb5 ?_
     refine o_guardN (j := 15) (e := (decide ((max a0.Letters a0.Numbers) > 4))) (want := false) (by decide) rfl hb5 ?_
     refine o_guardN (j := 15) (e := (decide ((max a0.Letters a0.Numbers) > 4))) (want := false) (by decide) rfl hb5 ?_
     refine o_guardY (j := 8) (e := (r3 == 0)) (want := true) rfl hb4 ?_
     refine o_pickT (v := .b true) (e := (decide ((max a0.Letters a0.Numbers) > 4))) (by decide) rfl hb5 rfl ?_
     refine o_guardY (j := 4) (e := (decide ((a0.Presses.length : Int) > 40))) (want := false) rfl hb2 ?_
     refine o_pickT (v := .b true) (e := (r3 == 0)) (by decide) rfl hb4 rfl ?_
     refine o_pickF (v := .b true) (e := (decide ((a0.Presses.length : Int) > 40))) (by decide) rfl hb2 rfl ?_
     refine o_assign (v := .b true) (by decide) rfl ?_
     refine run_nil ?_
     exact w_goto true (.k .nil) ⟨(hS.keep [] rfl).up (by omega), hM⟩
    ·replace hM := ifF hM hb5
     refine o_guardY (j := 15) (e := (decide ((max a0.Letters a0.Numbers) > 4))) (want := false) rfl hb5 ?_
     refine o_fieldE (cs := (Wire.cells a0)) (by decide) ty_fo24_3 rfl ?_
     refine o_guardY (j := 15) (e := (decide ((max a0.Letters a0.Numbers) > 4))) (want := false) rfl hb5 ?_
     refine o_loadE (v := .i a0.Faults) (by decide) rfl (part_one ty_agg3 ty_sc3 rfl) ?_
     refine o_guardY (j := 15) (e := (decide ((max a0.Letters a0.Numbers) > 4))) (want := false) rfl hb5 ?_
     refine o_int (v := .b (decide (a0.Faults > 2))) (by decide) rfl rfl rfl ?_
     refine o_guardY (j := 8) (e := (r3 == 0)) (want := true) rfl hb4 ?_
     refine o_pickF (v := .b (decide (a0.Faults > 2))) (e := (decide ((max a0.Letters a0.Numbers) > 4))) (by decide) rfl hb5 rfl ?_
     refine o_guardY (j := 4) (e := (decide ((a0.Presses.length : Int) > 40))) (want := false) rfl hb2 ?_
     refine o_pickT (v := .b (decide (a0.Faults > 2))) (e := (r3 == 0)) (by decide) rfl hb4 rfl ?_
     refine o_pickF (v := .b (decide (a0.Faults > 2))) (e := (decide ((a0.Presses.length : Int) > 40))) (by decide) rfl hb2 rfl ?_
     refine o_assign (v := .b (decide (a0.Faults > 2))) (by decide) rfl ?_
     refine run_nil ?_
     exact w_goto (decide (a0.Faults > 2)) (.k .nil) ⟨(hS.keep [] rfl).up (by omega), hM⟩
   ·replace hM := ifF hM hb4
    refine o_guardN (j := 8) (e := (r3 == 0)) (want := true) (by decide) rfl hb4 ?_
    refine o_guardN (j := 8) (e := (r3 == 0)) (want := true) (by decide) rfl hb4 ?_
    refine o_guardN (j := 8) (e := (r3 == 0)) (want := true) (by decide) rfl hb4 ?_
    refine o_guardN (j := 8) (e := (r3 == 0)) (want := true) (by decide) rfl hb4 ?_
    refine o_guardN (j := 8) (e := (r3 == 0)) (want := true) (by decide) rfl hb4 ?_
    refine o_guardN (j := 8) (e := (r3 == 0)) (want := true) (by decide) rfl hb4 ?_
    refine o_guardN (j := 8) (e := (r3 == 0)) (want := true) (by decide) rfl hb4 ?_
    refine o_guardU (j := 15) (by decide) rfl ?_
    refine o_guardU (j := 15) (by decide) rfl ?_
    refine o_guardU (j := 15) (by decide) rfl ?_
    refine o_guardN (j := 8) (e := (r3 == 0)) (want := true) (by decide) rfl hb4 ?_
    refine o_guardY (j := 4) (e := (decide ((a0.Presses.length : Int) > 40))) (want := false) rfl hb2 ?_
    refine o_pickF (v := .b false) (e := (r3 == 0)) (by decide) rfl hb4 rfl ?_
    refine o_pickF (v := .b false) (e := (decide ((a0.Presses.length : Int) > 40))) (by decide) rfl hb2 rfl ?_
    refine o_assign (v := .b false) (by decide) rfl ?_
    refine run_nil ?_
    exact w_goto false (.k .nil) ⟨(hS.keep [] rfl).up (by omega), hM⟩
theorem W_wires_within {a0 : Int} {a1 : Int} {a2 : Int} {r : Bool} (hM : wires_within a0 a1 a2 = some r) : PureSat Try.prog 70 [.i a0, .i a1, .i a2] (.b r) := by
 refine pure_of_wp mixed Try.func70 rfl (by decide) Try.ntmps70 (by simp) ?pure fun H0 g hf => ?_
 case pure => exact .v _
 rw [frame0_of]
 change wpA _ _ _ _ (Fr.of [(0, .i a0), (1, .i a1), (2, .i a2)]) H0 g
 have hS := St.start hf
 refine r_seq ?_
 refine r_region (n := 1) rfl ?_
 refine o_assign (v := .b false) (by decide) rfl ?_
 refine run_nil ?_
 refine w_next [(0, .i a0), (1, .i a1), (2, .i a2)] (.k (.k (.k .nil))) ?_
 refine w_join (J := Bool) (fun j => [(6, .b j)]) (fun j H' g' => St (· < g) H0 [] H' g' ∧ wires_within_j1 j = some r) ?_ ?_
 ·rintro v1 H g1 ⟨hS, hM⟩
  change wpA _ _ _ _ (Fr.of [(6, .b v1)]) _ _
  replace hS : St (· < g) H0 [] H g1 := hS
  replace hM : wires_within_j1 v1 = some r := hM
  refine r_ret ?_
  refine w_end (x := .b v1) (f := fun r => .b r) (.inr rfl) ?_ (.refl _) (Option.some.inj hM) hS
  exact (res_one (res_tmp (x := .b v1) rfl))
 ·refine r_region (n := 9) rfl ?_
  refine o_move (v := .i a1) (by decide) rfl ?_
  refine o_move (v := .i a0) (by decide) rfl ?_
  refine o_int (v := .b (decide (a1 ≤ a0))) (by decide) rfl rfl rfl ?_
  refine o_move (v := .b (decide (a1 ≤ a0))) (by decide) rfl ?_
  rcases Bool.eq_false_or_eq_true (decide (a1 ≤ a0)) with hb2 | hb2
  ·replace hM := ifT hM hb2
   refine o_guardY (j := 3) (e := (decide (a1 ≤ a0))) (want := true) rfl hb2 ?_
   refine o_move (v := .i a0) (by decide) rfl ?_
   refine o_guardY (j := 3) (e := (decide (a1 ≤ a0))) (want := true) rfl hb2 ?_
   refine o_move (v := .i a2) (by decide) rfl ?_
   refine o_guardY (j := 3) (e := (decide (a1 ≤ a0))) (want := true) rfl hb2 ?_
   refine o_int (v := .b (decide (a0 ≤ a2))) (by decide) rfl rfl rfl ?_
   refine o_pickT (v := .b (decide (a0 ≤ a2))) (e := (decide (a1 ≤ a0))) (by decide) rfl hb2 rfl ?_
   refine o_assign (v := .b (decide (a0 ≤ a2))) (by decide) rfl ?_
   refine run_nil ?_
   exact w_goto (decide (a0 ≤ a2)) (.k .nil) ⟨(hS.keep [] rfl).up (by omega), hM⟩
  ·replace hM := ifF hM hb2
   refine o_guardN (j := 3) (e := (decide (a1 ≤ a0))) (want := true) (by decide) rfl hb2 ?_
   refine o_guardN (j := 3) (e := (decide (a1 ≤ a0))) (want := true) (by decide) rfl hb2 ?_
   refine o_guardN (j := 3) (e := (decide (a1 ≤ a0))) (want := true) (by decide) rfl hb2 ?_
   refine o_pickF (v := .b false) (e := (decide (a1 ≤ a0))) (by decide) rfl hb2 rfl ?_
   refine o_assign (v := .b false) (by decide) rfl ?_
   refine run_nil ?_
   exact w_goto false (.k .nil) ⟨(hS.keep [] rfl).up (by omega), hM⟩
theorem W_wires_isPress {a0 : Wire} {a1 : Int} {a2 : Int} {r : Bool} (hM : wires_isPress a0 a1 a2 = some r) : PureSat Try.prog 62 [.agg (Wire.cells a0), .i a1, .i a2] (.b r) := by
 refine pure_of_wp mixed Try.func62 rfl (by decide) Try.ntmps62 (by simp) ?pure fun H0 g hf => ?_
 case pure => exact .v _
 rw [frame0_of]
 change wpA _ _ _ _ (Fr.of [(0, .agg (Wire.cells a0)), (1, .i a1), (2, .i a2)]) H0 g
 have hS := St.start hf
 refine r_seq ?_
 refine r_region (n := 2) rfl ?_
 refine o_box (v := .agg (Wire.cells a0)) (cs := (Wire.cells a0)) hS (by decide) rfl rfl (by omega) fun H hS => ?_
 refine o_assign (v := .b false) (by decide) rfl ?_
 refine run_nil ?_
 refine w_iceE (L' := []) 0 3 hS rfl rfl rfl fun H hS => ?_
 refine w_next [(1, .i a1), (2, .i a2), (3, .ep (Wire.cells a0))] (.k (.k (.k .nil))) ?_
 refine w_join (J := Bool) (fun j => [(6, .b j)]) (fun j H' g' => St (· < g) H0 [] H' g' ∧ wires_isPress_j1 j = some r) ?_ ?_
 ·rintro v1 H g1 ⟨hS, hM⟩
  change wpA _ _ _ _ (Fr.of [(6, .b v1)]) _ _
  replace hS : St (· < g) H0 [] H g1 := hS
  replace hM : wires_isPress_j1 v1 = some r := hM
  refine r_ret ?_
  refine w_end (x := .b v1) (f := fun r => .b r) (.inr rfl) ?_ (.refl _) (Option.some.inj hM) hS
  exact (res_one (res_tmp (x := .b v1) rfl))
 ·refine r_region (n := 13) rfl ?_
  refine o_move (v := .i a1) (by decide) rfl ?_
  refine o_fieldE (cs := (Wire.cells a0)) (by decide) ty_fo24_0 rfl ?_
  refine o_loadE (v := .i a0.Letters) (by decide) rfl (part_one ty_agg3 ty_sc3 rfl) ?_
  refine o_int (v := .i (w64 (a0.Letters - 1))) (by decide) rfl rfl rfl ?_
  obtain ⟨r2, hr2, hM⟩ := bindE hM
  refine o_call (bs := [.i a1, .i 0, .i (w64 (a0.Letters - 1))]) (by decide) rfl rfl ((W_wires_within hr2).le (.k (.k (.k .nil)))) ?_
  refine o_move (v := .b r2) (by decide) rfl ?_
  rcases Bool.eq_false_or_eq_true r2 with hb3 | hb3
  ·replace hM := ifT hM hb3
   refine o_guardY (j := 5) (e := r2) (want := true) rfl hb3 ?_
   refine o_move (v := .i a2) (by decide) rfl ?_
   refine o_guardY (j := 5) (e := r2) (want := true) rfl hb3 ?_
   refine o_fieldE (cs := (Wire.cells a0)) (by decide) ty_fo24_1 rfl ?_
   refine o_guardY (j := 5) (e := r2) (want := true) rfl hb3 ?_
   refine o_loadE (v := .i a0.Numbers) (by decide) rfl (part_one ty_agg3 ty_sc3 rfl) ?_
   refine o_guardY (j := 5) (e := r2) (want := true) rfl hb3 ?_
   refine o_int (v := .i (w64 (a0.Numbers - 1))) (by decide) rfl rfl rfl ?_
   refine o_guardY (j := 5) (e := r2) (want := true) rfl hb3 ?_
   obtain ⟨r4, hr4, hM⟩ := bindE hM
   refine o_call (bs := [.i a2, .i 0, .i (w64 (a0.Numbers - 1))]) (by decide) rfl rfl ((W_wires_within hr4).le (.k (.k (.k .nil)))) ?_
   refine o_pickT (v := .b r4) (e := r2) (by decide) rfl hb3 rfl ?_
   refine o_assign (v := .b r4) (by decide) rfl ?_
   refine run_nil ?_
   exact w_goto r4 (.k .nil) ⟨(hS.keep [] rfl).up (by omega), hM⟩
  ·replace hM := ifF hM hb3
   refine o_guardN (j := 5) (e := r2) (want := true) (by decide) rfl hb3 ?_
   refine o_guardN (j := 5) (e := r2) (want := true) (by decide) rfl hb3 ?_
   refine o_guardN (j := 5) (e := r2) (want := true) (by decide) rfl hb3 ?_
   refine o_guardN (j := 5) (e := r2) (want := true) (by decide) rfl hb3 ?_
   refine o_guardN (j := 5) (e := r2) (want := true) (by decide) rfl hb3 ?_
   refine o_pickF (v := .b false) (e := r2) (by decide) rfl hb3 rfl ?_
   refine o_assign (v := .b false) (by decide) rfl ?_
   refine run_nil ?_
   exact w_goto false (.k .nil) ⟨(hS.keep [] rfl).up (by omega), hM⟩
theorem W_wires_Check_c1 {a0 : WirePress} {a1 : Wire} {r : Bool} (hM : wires_Check_c1 a0 a1 = some r) : PureSat Try.prog 69 [.agg [.i a0.Letter, .i a0.Number, .i a0.Got], .ep (Wire.cells a1)] (.b r) := by
 refine pure_of_wp mixed Try.func69 rfl (by decide) Try.ntmps69 (by simp) ?pure fun H0 g hf => ?_
 case pure => exact .v _
 rw [frame0_of]
 change wpA _ _ _ _ (Fr.of [(0, .agg [.i a0.Letter, .i a0.Number, .i a0.Got]), (1, .ep (Wire.cells a1))]) H0 g
 have hS := St.start hf
 refine r_seq ?_
 refine r_region (n := 2) rfl ?_
 refine o_box (v := .agg [.i a0.Letter, .i a0.Number, .i a0.Got]) (cs := [.i a0.Letter, .i a0.Number, .i a0.Got]) hS (by decide) rfl rfl (by omega) fun H hS => ?_
 refine o_assign (v := .b false) (by decide) rfl ?_
 refine run_nil ?_
 refine w_iceE (L' := []) 0 2 hS rfl rfl rfl fun H hS => ?_
 refine w_next [(1, .ep (Wire.cells a1)), (2, .ep [.i a0.Letter, .i a0.Number, .i a0.Got])] (.k (.k .nil)) ?_
 refine w_join (J := Bool) (fun j => [(3, .b j)]) (fun j H' g' => St (· < g) H0 [] H' g' ∧ wires_Check_c1_j1 j = some r) ?_ ?_
 ·rintro v1 H g1 ⟨hS, hM⟩
  change wpA _ _ _ _ (Fr.of [(3, .b v1)]) _ _
  replace hS : St (· < g) H0 [] H g1 := hS
  replace hM : wires_Check_c1_j1 v1 = some r := hM
  refine r_ret ?_
  refine w_end (x := .b v1) (f := fun r => .b r) (.inr rfl) ?_ (.refl _) (Option.some.inj hM) hS
  exact (res_one (res_tmp (x := .b v1) rfl))
 ·refine r_region (n := 20) rfl ?_
  refine o_loadE (v := .agg (Wire.cells a1)) (by decide) rfl (part_agg ty_agg24 (Nat.le_of_ble_eq_true rfl) rfl) ?_
  refine o_fieldE (cs := [.i a0.Letter, .i a0.Number, .i a0.Got]) (by decide) ty_fo50_0 rfl ?_
  refine o_loadE (v := .i a0.Letter) (by decide) rfl (part_one ty_agg3 ty_sc3 rfl) ?_
  refine o_fieldE (cs := [.i a0.Letter, .i a0.Number, .i a0.Got]) (by decide) ty_fo50_1 rfl ?_
  refine o_loadE (v := .i a0.Number) (by decide) rfl (part_one ty_agg3 ty_sc3 rfl) ?_
  obtain ⟨r2, hr2, hM⟩ := bindE hM
  refine o_call (bs := [.agg (Wire.cells a1), .i a0.Letter, .i a0.Number]) (by decide) rfl rfl ((W_wires_isPress hr2).le (.k (.k (.k .nil)))) ?_
  refine o_not (e := r2) (by decide) rfl ?_
  refine o_move (v := .b (!r2)) (by decide) rfl ?_
  rcases Bool.eq_false_or_eq_true (!r2) with hb3 | hb3
  ·replace hM := ifT hM hb3
   refine o_guardN (j := 7) (e := (!r2)) (want := false) (by decide) rfl hb3 ?_
   refine o_guardN (j := 7) (e := (!r2)) (want := false) (by decide) rfl hb3 ?_
   refine o_guardN (j := 7) (e := (!r2)) (want := false) (by decide) rfl hb3 ?_
   refine o_guardN (j := 7) (e := (!r2)) (want := false) (by decide) rfl hb3 ?_
   refine o_guardN (j := 7) (e := (!r2)) (want := false) (by decide) rfl hb3 ?_
   refine o_guardN (j := 7) (e := (!r2)) (want := false) (by decide) rfl hb3 ?_
   refine o_guardN (j := 7) (e := (!r2)) (want := false) (by decide) rfl hb3 ?_
   refine o_guardN (j := 7) (e := (!r2)) (want := false) (by decide) rfl hb3 ?_
   refine o_guardN (j := 7) (e := (!r2)) (want := false) (by decide) rfl hb3 ?_
   refine o_guardN (j := 7) (e := (!r2)) (want := false) (by decide) rfl hb3 ?_
   refine o_pickT (v := .b true) (e := (!r2)) (by decide) rfl hb3 rfl ?_
   refine o_assign (v := .b true) (by decide) rfl ?_
   refine run_nil ?_
   exact w_goto true (.k .nil) ⟨(hS.keep [] rfl).up (by omega), hM⟩
  ·replace hM := ifF hM hb3
   refine o_guardY (j := 7) (e := (!r2)) (want := false) rfl hb3 ?_
   refine o_fieldE (cs := [.i a0.Letter, .i a0.Number, .i a0.Got]) (by decide) ty_fo50_2 rfl ?_
   refine o_guardY (j := 7) (e := (!r2)) (want := false) rfl hb3 ?_
   refine o_loadE (v := .i a0.Got) (by decide) rfl (part_one ty_agg3 ty_sc3 rfl) ?_
   refine o_guardY (j := 7) (e := (!r2)) (want := false) rfl hb3 ?_
   refine o_fieldE (cs := (Wire.cells a1)) (by decide) ty_fo24_0 rfl ?_
   refine o_guardY (j := 7) (e := (!r2)) (want := false) rfl hb3 ?_
   refine o_loadE (v := .i a1.Letters) (by decide) rfl (part_one ty_agg3 ty_sc3 rfl) ?_
   refine o_guardY (j := 7) (e := (!r2)) (want := false) rfl hb3 ?_
   refine o_fieldE (cs := (Wire.cells a1)) (by decide) ty_fo24_1 rfl ?_
   refine o_guardY (j := 7) (e := (!r2)) (want := false) rfl hb3 ?_
   refine o_loadE (v := .i a1.Numbers) (by decide) rfl (part_one ty_agg3 ty_sc3 rfl) ?_
   refine o_guardY (j := 7) (e := (!r2)) (want := false) rfl hb3 ?_
   refine o_int (v := .i (w64 (a1.Letters * a1.Numbers))) (by decide) rfl rfl rfl ?_
   refine o_guardY (j := 7) (e := (!r2)) (want := false) rfl hb3 ?_
   refine o_int (v := .i (w64 ((w64 (a1.Letters * a1.Numbers)) - 1))) (by decide) rfl rfl rfl ?_
   refine o_guardY (j := 7) (e := (!r2)) (want := false) rfl hb3 ?_
   obtain ⟨r4, hr4, hM⟩ := bindE hM
   refine o_call (bs := [.i a0.Got, .i (-1), .i (w64 ((w64 (a1.Letters * a1.Numbers)) - 1))]) (by decide) rfl rfl ((W_wires_within hr4).le (.k (.k (.k .nil)))) ?_
   refine o_guardY (j := 7) (e := (!r2)) (want := false) rfl hb3 ?_
   refine o_not (e := r4) (by decide) rfl ?_
   refine o_pickF (v := .b (!r4)) (e := (!r2)) (by decide) rfl hb3 rfl ?_
   refine o_assign (v := .b (!r4)) (by decide) rfl ?_
   refine run_nil ?_
   exact w_goto (!r4) (.k .nil) ⟨(hS.keep [] rfl).up (by omega), hM⟩
theorem W_slices_IndexFunc_apiWirePress {S : Type} {Lo : S → BL} (hk : ∀ s s', KinL (Lo s) (Lo s')) (hnd : ∀ s, (ids (Lo s)).Nodup) (hin : ∀ s, InB In (Lo s)) {aF : WirePress → S → Option (Bool × S)} {f0 : AV} (hF : ∀ s H, Has H (Lo s) → In H f0) (h0 : cellsOf f0 = some [f0]) (hf : ∀ {x0 : WirePress} {s : S} {r : Bool × S}, aF x0 s = some r → CSat Try.prog f0 [.agg [.i x0.Letter, .i x0.Number, .i x0.Got]] (Lo s) (.b r.1) (Lo r.2)) {n : Nat} {a0 : List WirePress} {st : S} {r : Int × S} (hM : slices_IndexFunc_apiWirePress n aF a0 st = some r) : HSat Try.prog 89 [.sl .no 3 (a0.map WirePress.cells), f0] (Lo st) (.i r.1) (Lo r.2) := by
 have hnd0 : ∀ s, (ids (Lo s)).Nodup := fun s => hnd s
 refine hsat_of_wp mixed Try.func89 rfl (by decide) Try.ntmps89 (by simp) (hk _ _) (hnd st) ?pure ?cells fun H0 g hf_ hp => ?_
 case pure => exact fun H _ => (show Go.AM.Pure _ from .v _).inH
 case cells => exact hin _
 rw [frame0_of]
 change wpA _ _ _ _ (Fr.of [(0, .sl .no 3 (a0.map WirePress.cells)), (1, f0)]) H0 g
 have hS := St.startH (L := ([] ++ Lo st)) hf_ (hnd st) hp
 replace hS : St (fun i => i < g ∧ i ∉ ids (Lo st)) H0 ([] ++ Lo st) H0 g := hS
 refine r_seq ?_
 refine r_region (n := 1) rfl ?_
 refine o_assign (v := .i 0) (by decide) rfl ?_
 refine run_nil ?_
 refine w_next [(0, .sl .no 3 (a0.map WirePress.cells)), (1, f0)] (.k (.k .nil)) ?_
 refine w_join (J := S) (fun j => []) (fun j H' g' => St (fun i => i < g ∧ i ∉ ids (Lo st)) H0 ([] ++ Lo j) H' g' ∧ slices_IndexFunc_apiWirePress_j1 j = some r) ?_ ?_
 ·rintro v1 H g1 ⟨hS, hM⟩
  change wpA _ _ _ _ (Fr.of []) _ _
  replace hS : St (fun i => i < g ∧ i ∉ ids (Lo st)) H0 ([] ++ Lo v1) H g1 := hS
  replace hM : slices_IndexFunc_apiWirePress_j1 v1 = some r := hM
  refine r_seq ?_
  refine r_region (n := 1) rfl ?_
  refine o_assign (v := .i (-1)) (by decide) rfl ?_
  refine run_nil ?_
  refine w_next [(4, .i (-1))] (.k .nil) ?_
  refine r_ret ?_
  refine w_endS (x := .i (-1)) (f := fun r => .i r.1) (fd := fun r => (Lo r.2)) (.inr rfl) ?_ (.refl _) (Option.some.inj hM) hS 0 rfl
  exact (res_one (res_tmp (x := .i (-1)) rfl))
 ·refine r_seq ?_
  refine r_region (n := 3) rfl ?_
  refine o_move (v := .sl .no 3 (a0.map WirePress.cells)) (by decide) rfl ?_
  refine o_len (n := a0.length) (by decide) rfl (List.length_map _) ty_isl22 ?_
  refine o_move (v := .i 0) (by decide) rfl ?_
  refine run_nil ?_
  refine w_next [(0, .sl .no 3 (a0.map WirePress.cells)), (1, f0), (7, .i (a0.length : Int)), (8, .i 0)] (.k (.k (.k (.k .nil)))) ?_
  refine r_block ?_
  refine w_loop (V := Int × S) (fun v => [(0, .sl .no 3 (a0.map WirePress.cells)), (1, f0), (7, .i (a0.length : Int)), (8, .i v.1)]) (fun v m3 H' g' => St (fun i => i < g ∧ i ∉ ids (Lo st)) H0 ([] ++ Lo v.2) H' g' ∧ slices_IndexFunc_apiWirePress_l1 a0 aF m3 v.1 v.2 = some r) (n := n) (0, st) (.k (.k (.k (.k .nil)))) ⟨(hS.keep [] rfl).up (by omega), hM⟩ ?_
  rintro ⟨v3, v4⟩ m3 H g3 ⟨hS, hM⟩
  obtain _ | m3 := m3
  ·exact nomatch (show none = some _ from hM)
  change wpA _ _ _ _ (Fr.of [(0, .sl .no 3 (a0.map WirePress.cells)), (1, f0), (7, .i (a0.length : Int)), (8, .i v3)]) _ _
  replace hS : St (fun i => i < g ∧ i ∉ ids (Lo st)) H0 ([] ++ Lo v4) H g3 := hS
  replace hM : slices_IndexFunc_apiWirePress_l1_b a0 aF (slices_IndexFunc_apiWirePress_l1 a0 aF m3) v3 v4 = some r := hM
  refine r_seq ?_
  refine r_region (n := 1) rfl ?_
  refine o_int (v := .b (decide (v3 < (a0.length : Int)))) (by decide) rfl rfl rfl ?_
  refine run_nil ?_
  refine w_next [(0, .sl .no 3 (a0.map WirePress.cells)), (1, f0), (7, .i (a0.length : Int)), (8, .i v3), (9, .b (decide (v3 < (a0.length : Int))))] (.k (.k (.k (.k (.k .nil))))) ?_
  refine r_seq ?_
  rcases Bool.eq_false_or_eq_true (decide (v3 < (a0.length : Int))) with hb5 | hb5
  ·replace hM := ifT hM hb5
   refine w_condT (e := (decide (v3 < (a0.length : Int)))) rfl hb5 ?_
   refine r_skip ?_
   refine w_next [(0, .sl .no 3 (a0.map WirePress.cells)), (1, f0), (7, .i (a0.length : Int)), (8, .i v3)] (.k (.k (.k (.k .nil)))) ?_
   refine r_seq ?_
   refine r_block ?_
   refine r_seq ?_
   refine r_region (n := 2) rfl ?_
   refine o_move (v := .i v3) (by decide) rfl ?_
   refine o_assign (v := .i v3) (by decide) rfl ?_
   refine run_nil ?_
   refine w_next [(0, .sl .no 3 (a0.map WirePress.cells)), (1, f0), (5, .i v3), (7, .i (a0.length : Int)), (8, .i v3)] (.k (.k (.k (.k (.k .nil))))) ?_
   refine r_seq ?_
   refine r_region (n := 6) rfl ?_
   refine o_move (v := f0) (by decide) rfl ?_
   refine o_move (v := .sl .no 3 (a0.map WirePress.cells)) (by decide) rfl ?_
   refine o_move (v := .i v3) (by decide) rfl ?_
   obtain ⟨x6, hx6, hM⟩ := bindE hM
   refine o_index (xs := a0) (f := WirePress.cells) (z := v3) (u := x6) (by decide) rfl rfl ty_es22 hx6 ?_
   refine o_loadE (v := .agg [.i x6.Letter, .i x6.Number, .i x6.Got]) (by decide) rfl (part_agg ty_agg50 (Nat.le_of_ble_eq_true rfl) rfl) ?_
   obtain ⟨r7, hr7, hM⟩ := bindE hM
   replace hS : St (fun i => i < g ∧ i ∉ ids (Lo st)) H0 ([] ++ Lo v4) _ _ := hS
   refine o_state (bs := [.agg [.i x6.Letter, .i x6.Number, .i x6.Got]]) (.inl rfl) hS (by decide) rfl rfl ((hf hr7).le (.k .nil)) (hk _ _).ids (by omega) fun H hS => ?_
   refine run_nil ?_
   refine w_next [(0, .sl .no 3 (a0.map WirePress.cells)), (1, f0), (5, .i v3), (7, .i (a0.length : Int)), (8, .i v3), (16, .b r7.1)] (.k (.k (.k (.k (.k (.k .nil)))))) ?_
   rcases Bool.eq_false_or_eq_true r7.1 with hb8 | hb8
   ·replace hM := ifT hM hb8
    refine w_condT (e := r7.1) rfl hb8 ?_
    refine r_seq ?_
    refine r_region (n := 2) rfl ?_
    refine o_move (v := .i v3) (by decide) rfl ?_
    refine o_assign (v := .i v3) (by decide) rfl ?_
    refine run_nil ?_
    refine w_next [(4, .i v3)] (.k .nil) ?_
    refine r_ret ?_
    refine r_blk_ret ?_
    refine r_then_ret ?_
    refine w_round_ret ?_
    refine r_blk_ret ?_
    refine w_goto_ret ?_
    refine w_endS (x := .i v3) (f := fun r => .i r.1) (fd := fun r => (Lo r.2)) (.inr rfl) ?_ (.refl _) (Option.some.inj hM) hS 0 rfl
    exact (res_one (res_tmp (x := .i v3) rfl))
   ·replace hM := ifF hM hb8
    refine w_condF (e := r7.1) rfl hb8 ?_
    refine r_skip ?_
    refine r_blk_normal ?_
    refine w_next [(0, .sl .no 3 (a0.map WirePress.cells)), (1, f0), (7, .i (a0.length : Int)), (8, .i v3)] (.k (.k (.k (.k .nil)))) ?_
    refine r_region (n := 2) rfl ?_
    refine o_int (v := .i (w64 (v3 + 1))) (by decide) rfl rfl rfl ?_
    refine o_move (v := .i (w64 (v3 + 1))) (by decide) rfl ?_
    refine run_nil ?_
    exact w_round (w64 (v3 + 1), r7.2) (Nat.lt_succ_self _) (.k (.k (.k (.k .nil)))) ⟨(hS.keep [] rfl).up (by omega), hM⟩
  ·replace hM := ifF hM hb5
   refine w_condF (e := (decide (v3 < (a0.length : Int)))) rfl hb5 ?_
   refine r_exit ?_
   refine r_then_exit ?_
   refine w_round_exit ?_
   refine r_blk_exit ?_
   exact w_goto v4 .nil ⟨(hS.keep [] rfl).up (by omega), hM⟩
theorem W_slices_ContainsFunc_apiWirePress {S : Type} {Lo : S → BL} (hk : ∀ s s', KinL (Lo s) (Lo s')) (hnd : ∀ s, (ids (Lo s)).Nodup) (hin : ∀ s, InB In (Lo s)) {aF : WirePress → S → Option (Bool × S)} {f0 : AV} (hF : ∀ s H, Has H (Lo s) → In H f0) (h0 : cellsOf f0 = some [f0]) (hf : ∀ {x0 : WirePress} {s : S} {r : Bool × S}, aF x0 s = some r → CSat Try.prog f0 [.agg [.i x0.Letter, .i x0.Number, .i x0.Got]] (Lo s) (.b r.1) (Lo r.2)) {n : Nat} {a0 : List WirePress} {st : S} {r : Bool × S} (hM : slices_ContainsFunc_apiWirePress n aF a0 st = some r) : HSat Try.prog 71 [.sl .no 3 (a0.map WirePress.cells), f0] (Lo st) (.b r.1) (Lo r.2) := by
 have hnd0 : ∀ s, (ids (Lo s)).Nodup := fun s => hnd s
 refine hsat_of_wp mixed Try.func71 rfl (by decide) Try.ntmps71 (by simp) (hk _ _) (hnd st) ?pure ?cells fun H0 g hf_ hp => ?_
 case pure => exact fun H _ => (show Go.AM.Pure _ from .v _).inH
 case cells => exact hin _
 rw [frame0_of]
 change wpA _ _ _ _ (Fr.of [(0, .sl .no 3 (a0.map WirePress.cells)), (1, f0)]) H0 g
 have hS := St.startH (L := ([] ++ Lo st)) hf_ (hnd st) hp
 replace hS : St (fun i => i < g ∧ i ∉ ids (Lo st)) H0 ([] ++ Lo st) H0 g := hS
 refine r_seq ?_
 refine r_region (n := 1) rfl ?_
 refine o_assign (v := .b false) (by decide) rfl ?_
 refine run_nil ?_
 refine w_next [(0, .sl .no 3 (a0.map WirePress.cells)), (1, f0)] (.k (.k .nil)) ?_
 refine r_seq ?_
 refine r_region (n := 5) rfl ?_
 refine o_move (v := .sl .no 3 (a0.map WirePress.cells)) (by decide) rfl ?_
 refine o_move (v := f0) (by decide) rfl ?_
 obtain ⟨r1, hr1, hM⟩ := bindE hM
 replace hS : St (fun i => i < g ∧ i ∉ ids (Lo st)) H0 ([] ++ Lo st) _ _ := hS
 refine o_stateH (bs := [.sl .no 3 (a0.map WirePress.cells), f0]) (.inl rfl) hS (by decide) rfl rfl ((W_slices_IndexFunc_apiWirePress (Lo := Lo)  hk hnd0 hin (aF := aF) hF h0 hf hr1).le (.k (.k .nil))) (hk _ _).ids (by omega) fun H hS => ?_
 refine o_int (v := .b (decide (r1.1 ≥ 0))) (by decide) rfl rfl rfl ?_
 refine o_assign (v := .b (decide (r1.1 ≥ 0))) (by decide) rfl ?_
 refine run_nil ?_
 refine w_next [(4, .b (decide (r1.1 ≥ 0)))] (.k .nil) ?_
 refine r_ret ?_
 refine w_endS (x := .b (decide (r1.1 ≥ 0))) (f := fun r => .b r.1) (fd := fun r => (Lo r.2)) (.inr rfl) ?_ (.refl _) (Option.some.inj hM) hS 0 rfl
 exact (res_one (res_tmp (x := .b (decide (r1.1 ≥ 0))) rfl))
theorem W_wires_Check {n : Nat} {a0 : Wire} {r : Int} (hM : wires_Check n a0 = some r) : PureSat Try.prog 38 [.agg (Wire.cells a0)] (.i r) := by
 refine pure_of_wp mixed Try.func38 rfl (by decide) Try.ntmps38 (by simp) ?pure fun H0 g hf => ?_
 case pure => exact .v _
 rw [frame0_of]
 change wpA _ _ _ _ (Fr.of [(0, .agg (Wire.cells a0))]) H0 g
 have hS := St.start hf
 refine r_seq ?_
 refine r_region (n := 2) rfl ?_
 refine o_box (v := .agg (Wire.cells a0)) (cs := (Wire.cells a0)) hS (by decide) rfl rfl (by omega) fun H hS => ?_
 refine o_assign (v := .i 0) (by decide) rfl ?_
 refine run_nil ?_
 refine w_iceE (L' := []) 0 1 hS rfl rfl rfl fun H hS => ?_
 refine w_next [(1, .ep (Wire.cells a0))] (.k .nil) ?_
 refine r_seq ?_
 refine r_region (n := 2) rfl ?_
 refine o_makeFunc (first := []) (cap := [.ep (Wire.cells a0)]) (by decide) rfl rfl ?_
 refine o_assign (v := .fn (.func 69) [] [.ep (Wire.cells a0)]) (by decide) rfl ?_
 refine run_nil ?_
 refine w_next [(1, .ep (Wire.cells a0)), (3, .fn (.func 69) [] [.ep (Wire.cells a0)])] (.k (.k .nil)) ?_
 refine r_seq ?_
 refine w_join (J := Bool) (fun j => [(32, .b j)]) (fun j H' g' => St (· < g) H0 [] H' g' ∧ wires_Check_j1 j = some r) ?_ ?_
 ·rintro v1 H g1 ⟨hS, hM⟩
  change wpA _ _ _ _ (Fr.of [(32, .b v1)]) _ _
  replace hS : St (· < g) H0 [] H g1 := hS
  replace hM : wires_Check_j1 v1 = some r := hM
  rcases Bool.eq_false_or_eq_true v1 with hb2 | hb2
  ·replace hM := ifT hM hb2
   refine w_condT (e := v1) rfl hb2 ?_
   refine r_seq ?_
   refine r_region (n := 1) rfl ?_
   refine o_assign (v := .i 110) (by decide) rfl ?_
   refine run_nil ?_
   refine w_next [(2, .i 110)] (.k .nil) ?_
   refine r_ret ?_
   refine r_then_ret ?_
   refine w_end (x := .i 110) (f := fun r => .i r) (.inr rfl) ?_ (.refl _) (Option.some.inj hM) hS
   exact (res_one (res_tmp (x := .i 110) rfl))
  ·replace hM := ifF hM hb2
   refine w_condF (e := v1) rfl hb2 ?_
   refine r_skip ?_
   refine w_next [] .nil ?_
   refine r_seq ?_
   refine r_region (n := 1) rfl ?_
   refine o_assign (v := .i 0) (by decide) rfl ?_
   refine run_nil ?_
   refine w_next [(2, .i 0)] (.k .nil) ?_
   refine r_ret ?_
   refine w_end (x := .i 0) (f := fun r => .i r) (.inr rfl) ?_ (.refl _) (Option.some.inj hM) hS
   exact (res_one (res_tmp (x := .i 0) rfl))
 ·refine r_region (n := 28) rfl ?_
  refine o_fieldE (cs := (Wire.cells a0)) (by decide) ty_fo24_0 rfl ?_
  refine o_loadE (v := .i a0.Letters) (by decide) rfl (part_one ty_agg3 ty_sc3 rfl) ?_
  obtain ⟨r3, hr3, hM⟩ := bindE hM
  refine o_call (bs := [.i a0.Letters, .i 1, .i 5]) (by decide) rfl rfl ((W_wires_within hr3).le (.k (.k (.k .nil)))) ?_
  refine o_not (e := r3) (by decide) rfl ?_
  refine o_move (v := .b (!r3)) (by decide) rfl ?_
  rcases Bool.eq_false_or_eq_true (!r3) with hb4 | hb4
  ·replace hM := ifT hM hb4
   refine o_guardN (j := 4) (e := (!r3)) (want := false) (by decide) rfl hb4 ?_
   refine o_guardN (j := 4) (e := (!r3)) (want := false) (by decide) rfl hb4 ?_
   refine o_guardN (j := 4) (e := (!r3)) (want := false) (by decide) rfl hb4 ?_
   refine o_guardN (j := 4) (e := (!r3)) (want := false) (by decide) rfl hb4 ?_
   refine o_pickT (v := .b true) (e := (!r3)) (by decide) rfl hb4 rfl ?_
   refine o_move (v := .b true) (by decide) rfl ?_
   refine o_guardN (j := 10) (e := true) (want := false) (by decide) rfl rfl ?_
   refine o_guardN (j := 10) (e := true) (want := false) (by decide) rfl rfl ?_
   refine o_guardN (j := 10) (e := true) (want := false) (by decide) rfl rfl ?_
   refine o_guardN (j := 10) (e := true) (want := false) (by decide) rfl rfl ?_
   refine o_pickT (v := .b true) (e := true) (by decide) rfl rfl rfl ?_
   refine o_move (v := .b true) (by decide) rfl ?_
   refine o_guardN (j := 16) (e := true) (want := false) (by decide) rfl rfl ?_
   refine o_guardN (j := 16) (e := true) (want := false) (by decide) rfl rfl ?_
   refine o_guardN (j := 16) (e := true) (want := false) (by decide) rfl rfl ?_
   refine o_guardN (j := 16) (e := true) (want := false) (by decide) rfl rfl ?_
   refine o_pickT (v := .b true) (e := true) (by decide) rfl rfl rfl ?_
   refine o_move (v := .b true) (by decide) rfl ?_
   refine o_guardN (j := 22) (e := true) (want := false) (by decide) rfl rfl ?_
   refine o_guardN (j := 22) (e := true) (want := false) (by decide) rfl rfl ?_
   refine o_guardN (j := 22) (e := true) (want := false) (by decide) rfl rfl ?_
   refine o_guardN (j := 22) (e := true) (want := false) (by decide) rfl rfl ?_
   refine o_pickT (v := .b true) (e := true) (by decide) rfl rfl rfl ?_
   refine run_nil ?_
   exact w_goto true (.k .nil) ⟨(hS.keep [] rfl).up (by omega), hM⟩
  ·replace hM := ifF hM hb4
   refine o_guardY (j := 4) (e := (!r3)) (want := false) rfl hb4 ?_
   refine o_fieldE (cs := (Wire.cells a0)) (by decide) ty_fo24_1 rfl ?_
   refine o_guardY (j := 4) (e := (!r3)) (want := false) rfl hb4 ?_
   refine o_loadE (v := .i a0.Numbers) (by decide) rfl (part_one ty_agg3 ty_sc3 rfl) ?_
   refine o_guardY (j := 4) (e := (!r3)) (want := false) rfl hb4 ?_
   obtain ⟨r5, hr5, hM⟩ := bindE hM
   refine o_call (bs := [.i a0.Numbers, .i 1, .i 5]) (by decide) rfl rfl ((W_wires_within hr5).le (.k (.k (.k .nil)))) ?_
   refine o_guardY (j := 4) (e := (!r3)) (want := false) rfl hb4 ?_
   refine o_not (e := r5) (by decide) rfl ?_
   refine o_pickF (v := .b (!r5)) (e := (!r3)) (by decide) rfl hb4 rfl ?_
   refine o_move (v := .b (!r5)) (by decide) rfl ?_
   rcases Bool.eq_false_or_eq_true (!r5) with hb6 | hb6
   ·replace hM := ifT hM hb6
    refine o_guardN (j := 10) (e := (!r5)) (want := false) (by decide) rfl hb6 ?_
    refine o_guardN (j := 10) (e := (!r5)) (want := false) (by decide) rfl hb6 ?_
    refine o_guardN (j := 10) (e := (!r5)) (want := false) (by decide) rfl hb6 ?_
    refine o_guardN (j := 10) (e := (!r5)) (want := false) (by decide) rfl hb6 ?_
    refine o_pickT (v := .b true) (e := (!r5)) (by decide) rfl hb6 rfl ?_
    refine o_move (v := .b true) (by decide) rfl ?_
    refine o_guardN (j := 16) (e := true) (want := false) (by decide) rfl rfl ?_
    refine o_guardN (j := 16) (e := true) (want := false) (by decide) rfl rfl ?_
    refine o_guardN (j := 16) (e := true) (want := false) (by decide) rfl rfl ?_
    refine o_guardN (j := 16) (e := true) (want := false) (by decide) rfl rfl ?_
    refine o_pickT (v := .b true) (e := true) (by decide) rfl rfl rfl ?_
    refine o_move (v := .b true) (by decide) rfl ?_
    refine o_guardN (j := 22) (e := true) (want := false) (by decide) rfl rfl ?_
    refine o_guardN (j := 22) (e := true) (want := false) (by decide) rfl rfl ?_
    refine o_guardN (j := 22) (e := true) (want := false) (by decide) rfl rfl ?_
    refine o_guardN (j := 22) (e := true) (want := false) (by decide) rfl rfl ?_
    refine o_pickT (v := .b true) (e := true) (by decide) rfl rfl rfl ?_
    refine run_nil ?_
    exact w_goto true (.k .nil) ⟨(hS.keep [] rfl).up (by omega), hM⟩
   ·replace hM := ifF hM hb6
    refine o_guardY (j := 10) (e := (!r5)) (want := false) rfl hb6 ?_
    refine o_fieldE (cs := (Wire.cells a0)) (by decide) ty_fo24_3 rfl ?_
    refine o_guardY (j := 10) (e := (!r5)) (want := false) rfl hb6 ?_
    refine o_loadE (v := .i a0.Faults) (by decide) rfl (part_one ty_agg3 ty_sc3 rfl) ?_
    refine o_guardY (j := 10) (e := (!r5)) (want := false) rfl hb6 ?_
    obtain ⟨r7, hr7, hM⟩ := bindE hM
    refine o_call (bs := [.i a0.Faults, .i 0, .i 3]) (by decide) rfl rfl ((W_wires_within hr7).le (.k (.k (.k .nil)))) ?_
    refine o_guardY (j := 10) (e := (!r5)) (want := false) rfl hb6 ?_
    refine o_not (e := r7) (by decide) rfl ?_
    refine o_pickF (v := .b (!r7)) (e := (!r5)) (by decide) rfl hb6 rfl ?_
    refine o_move (v := .b (!r7)) (by decide) rfl ?_
    rcases Bool.eq_false_or_eq_true (!r7) with hb8 | hb8
    ·replace hM := ifT hM hb8
     refine o_guardN (j := 16) (e := (!r7)) (want := false) (by decide) rfl hb8 ?_
     refine o_guardN (j := 16) (e := (!r7)) (want := false) (by decide) rfl hb8 ?_
     refine o_guardN (j := 16) (e := (!r7)) (want := false) (by decide) rfl hb8 ?_
     refine o_guardN (j := 16) (e := (!r7)) (want := false) (by decide) rfl hb8 ?_
     refine o_pickT (v := .b true) (e := (!r7)) (by decide) rfl hb8 rfl ?_
     refine o_move (v := .b true) (by decide) rfl ?_
     refine o_guardN (j := 22) (e := true) (want := false) (by decide) rfl rfl ?_
     refine o_guardN (j := 22) (e := true) (want := false) (by decide) rfl rfl ?_
     refine o_guardN (j := 22) (e := true) (want := false) (by decide) rfl rfl ?_
     refine o_guardN (j := 22) (e := true) (want := false) (by decide) rfl rfl ?_
     refine o_pickT (v := .b true) (e := true) (by decide) rfl rfl rfl ?_
     refine run_nil ?_
     exact w_goto true (.k .nil) ⟨(hS.keep [] rfl).up (by omega), hM⟩
    ·replace hM := ifF hM hb8
     refine o_guardY (j := 16) (e := (!r7)) (want := false) rfl hb8 ?_
     refine o_fieldE (cs := (Wire.cells a0)) (by decide) ty_fo24_2 rfl ?_
     refine o_guardY (j := 16) (e := (!r7)) (want := false) rfl hb8 ?_
     refine o_loadE (v := .sl .no 3 (a0.Presses.map WirePress.cells)) (by decide) rfl (part_one ty_agg22 ty_sc22 rfl) ?_
     refine o_guardY (j := 16) (e := (!r7)) (want := false) rfl hb8 ?_
     refine o_len (n := a0.Presses.length) (by decide) rfl (List.length_map _) ty_isl22 ?_
     refine o_guardY (j := 16) (e := (!r7)) (want := false) rfl hb8 ?_
     refine o_int (v := .b (decide ((a0.Presses.length : Int) > 8))) (by decide) rfl rfl rfl ?_
     refine o_pickF (v := .b (decide ((a0.Presses.length : Int) > 8))) (e := (!r7)) (by decide) rfl hb8 rfl ?_
     refine o_move (v := .b (decide ((a0.Presses.length : Int) > 8))) (by decide) rfl ?_
     rcases Bool.eq_false_or_eq_true (decide ((a0.Presses.length : Int) > 8)) with hb9 | hb9
     ·replace hM := ifT hM hb9
      refine o_guardN (j := 22) (e := (decide ((a0.Presses.length : Int) > 8))) (want := false) (by decide) rfl hb9 ?_
      refine o_guardN (j := 22) (e := (decide ((a0.Presses.length : Int) > 8))) (want := false) (by decide) rfl hb9 ?_
      refine o_guardN (j := 22) (e := (decide ((a0.Presses.length : Int) > 8))) (want := false) (by decide) rfl hb9 ?_
      refine o_guardN (j := 22) (e := (decide ((a0.Presses.length : Int) > 8))) (want := false) (by decide) rfl hb9 ?_
      refine o_pickT (v := .b true) (e := (decide ((a0.Presses.length : Int) > 8))) (by decide) rfl hb9 rfl ?_
      refine run_nil ?_
      exact w_goto true (.k .nil) ⟨(hS.keep [] rfl).up (by omega), hM⟩
     ·replace hM := ifF hM hb9
      refine o_guardY (j := 22) (e := (decide ((a0.Presses.length : Int) > 8))) (want := false) rfl hb9 ?_
      refine o_fieldE (cs := (Wire.cells a0)) (by decide) ty_fo24_2 rfl ?_
      refine o_guardY (j := 22) (e := (decide ((a0.Presses.length : Int) > 8))) (want := false) rfl hb9 ?_
      refine o_loadE (v := .sl .no 3 (a0.Presses.map WirePress.cells)) (by decide) rfl (part_one ty_agg22 ty_sc22 rfl) ?_
      refine o_guardY (j := 22) (e := (decide ((a0.Presses.length : Int) > 8))) (want := false) rfl hb9 ?_
      refine o_move (v := .fn (.func 69) [] [.ep (Wire.cells a0)]) (by decide) rfl ?_
      refine o_guardY (j := 22) (e := (decide ((a0.Presses.length : Int) > 8))) (want := false) rfl hb9 ?_
      obtain ⟨r10, hr10, hM⟩ := bindE hM
      refine o_call (bs := [.sl .no 3 (a0.Presses.map WirePress.cells), .fn (.func 69) [] [.ep (Wire.cells a0)]]) (by decide) rfl rfl (pure_of_hsat ((W_slices_ContainsFunc_apiWirePress (Lo := (fun (_ : Unit) => []))  (fun _ _ => kl_nil) (fun _ => List.nodup_nil) (fun _ => inb_nil) (aF := (fun (x0 : WirePress) (_ : Unit) => (wires_Check_c1 x0 a0).map fun y => (y, ()))) (fun _ H hH => (.fn _ _ _ ai_nil (ai_cons (.ep _ (ai_cons (show Go.AM.Pure _ from .v _).inH (ai_cons (show Go.AM.Pure _ from .v _).inH (ai_cons (show Go.AM.Pure _ from .sl _ _ (pures_map (fun x => (pl_cons (.v _) (pl_cons (.v _) (pl_cons (.v _) pl_nil)))))).inH (ai_cons (show Go.AM.Pure _ from .v _).inH ai_nil))))) ai_nil))) rfl (fun h => csat_val (W_wires_Check_c1 (pure_some h))) hr10).le (.k (.k .nil)))) ?_
      refine o_pickF (v := .b r10.1) (e := (decide ((a0.Presses.length : Int) > 8))) (by decide) rfl hb9 rfl ?_
      refine run_nil ?_
      exact w_goto r10.1 (.k .nil) ⟨(hS.keep [] rfl).up (by omega), hM⟩
theorem W_wires_open {n : Nat} {a0 : Wire} {r : (Option Wiring_)} (hM : wires_open n a0 = some r) : PureSat Try.prog 72 [.agg (Wire.cells a0)] (pA Wiring_.cells r) := by
 refine pure_of_wp mixed Try.func72 rfl (by decide) Try.ntmps72 (by simp) ?pure fun H0 g hf => ?_
 case pure => exact pure_pA (fun x => (pl_cons (.v _) (pl_cons (.v _) (pl_cons (.sl _ _ (pures_map (fun x => (pl_cons (.v _) (pl_cons (.v _) (pl_cons (.v _) pl_nil)))))) (pl_cons (.v _) (pl_cons (.sl _ _ (pures_map (fun x => (pl_cons (.v _) (pl_cons (.v _) (pl_cons (.v _) pl_nil)))))) pl_nil)))))) _
 rw [frame0_of]
 change wpA _ _ _ _ (Fr.of [(0, .agg (Wire.cells a0))]) H0 g
 have hS := St.start hf
 refine r_seq ?_
 refine r_region (n := 2) rfl ?_
 refine o_box (v := .agg (Wire.cells a0)) (cs := (Wire.cells a0)) hS (by decide) rfl rfl (by omega) fun H hS => ?_
 refine o_assign (v := pA Wiring_.cells (none : Option Wiring_)) (by decide) rfl ?_
 refine run_nil ?_
 refine w_iceE (L' := []) 0 1 hS rfl rfl rfl fun H hS => ?_
 refine w_next [(1, .ep (Wire.cells a0))] (.k .nil) ?_
 refine r_seq ?_
 refine r_region (n := 4) rfl ?_
 refine o_loadE (v := .agg (Wire.cells a0)) (by decide) rfl (part_agg ty_agg24 (Nat.le_of_ble_eq_true rfl) rfl) ?_
 refine o_build (cs := [.i a0.Letters, .i a0.Numbers, .sl .no 3 (a0.Presses.map WirePress.cells), .i a0.Faults, .sl .nil 0 []]) (by decide) ty_zero101 ty_pl101 rfl ?_
 refine o_box (v := .agg [.i a0.Letters, .i a0.Numbers, .sl .no 3 (a0.Presses.map WirePress.cells), .i a0.Faults, .sl .nil 0 []]) (cs := [.i a0.Letters, .i a0.Numbers, .sl .no 3 (a0.Presses.map WirePress.cells), .i a0.Faults, .sl .nil 0 []]) hS (by decide) rfl rfl (by omega) fun H hS => ?_
 refine o_assign (v := .ptr (g + 2 + 2) 0) (by decide) rfl ?_
 refine run_nil ?_
 refine w_ownC (cs' := [.i a0.Letters, .i a0.Numbers, .sl .no 3 (a0.Presses.map WirePress.cells), .i a0.Faults, .sl (.id (g + 2 + 4)) 3 (([] : List WireFault).map WireFault.cells)]) (L' := [(g + 2 + 2, .cells [.i a0.Letters, .i a0.Numbers, .sl .no 3 (a0.Presses.map WirePress.cells), .i a0.Faults, .sl (.id (g + 2 + 4)) 3 (([] : List WireFault).map WireFault.cells)])]) 0 4 3 63 hS (by omega) (by decide) rfl rfl rfl rfl fun H hS => ?_
 refine w_next [(1, .ep (Wire.cells a0)), (3, .ptr (g + 2 + 2) 0)] (.k (.k .nil)) ?_
 refine w_join (J := (List WireFault)) (fun j => [(3, .ptr (g + 2 + 2) 0)]) (fun j H' g' => St (· < g) H0 [(g + 2 + 4, .row 63 j.length), (g + 2 + 2, .cells [.i a0.Letters, .i a0.Numbers, .sl .no 3 (a0.Presses.map WirePress.cells), .i a0.Faults, .sl (.id (g + 2 + 4)) 3 (j.map WireFault.cells)])] H' g' ∧ wires_open_j1 a0 j = some r) ?_ ?_
 ·rintro v1 H g1 ⟨hS, hM⟩
  change wpA _ _ _ _ (Fr.of [(3, .ptr (g + 2 + 2) 0)]) _ _
  replace hS : St (· < g) H0 [(g + 2 + 4, .row 63 v1.length), (g + 2 + 2, .cells [.i a0.Letters, .i a0.Numbers, .sl .no 3 (a0.Presses.map WirePress.cells), .i a0.Faults, .sl (.id (g + 2 + 4)) 3 (v1.map WireFault.cells)])] H g1 := hS
  replace hM : wires_open_j1 a0 v1 = some r := hM
  refine r_seq ?_
  refine r_region (n := 2) rfl ?_
  refine o_move (v := .ptr (g + 2 + 2) 0) (by decide) rfl ?_
  refine o_assign (v := .ptr (g + 2 + 2) 0) (by decide) rfl ?_
  refine run_nil ?_
  refine w_weakC (cs' := [.i a0.Letters, .i a0.Numbers, .sl .no 3 (a0.Presses.map WirePress.cells), .i a0.Faults, .sl .no 3 (v1.map WireFault.cells)]) (L' := [(g + 2 + 4, .row 63 v1.length), (g + 2 + 2, .cells [.i a0.Letters, .i a0.Numbers, .sl .no 3 (a0.Presses.map WirePress.cells), .i a0.Faults, .sl .no 3 (v1.map WireFault.cells)])]) 1 hS rfl (.k (.k (.k (.k (.cons (.sl _ _ _) .nil))))) rfl fun H hS => ?_
  refine w_iceE (L' := [(g + 2 + 4, .row 63 v1.length)]) 1 2 hS rfl rfl rfl fun H hS => ?_
  replace hS := hS.keep (L' := []) [false] rfl
  refine w_next [(2, .ep [.i a0.Letters, .i a0.Numbers, .sl .no 3 (a0.Presses.map WirePress.cells), .i a0.Faults, .sl .no 3 (v1.map WireFault.cells)])] (.k .nil) ?_
  refine r_ret ?_
  refine w_end (x := .ep [.i a0.Letters, .i a0.Numbers, .sl .no 3 (a0.Presses.map WirePress.cells), .i a0.Faults, .sl .no 3 (v1.map WireFault.cells)]) (f := fun r => pA Wiring_.cells r) (.inr rfl) ?_ (.refl _) (Option.some.inj hM) hS
  exact (res_one (res_tmp (x := .ep [.i a0.Letters, .i a0.Numbers, .sl .no 3 (a0.Presses.map WirePress.cells), .i a0.Faults, .sl .no 3 (v1.map WireFault.cells)]) rfl))
 ·refine r_seq ?_
  refine r_region (n := 2) rfl ?_
  refine o_build (cs := [.i 1, .i 2, .i 3, .i 4]) (by decide) ty_zero107 ty_pl107 rfl ?_
  refine o_move (v := .i 0) (by decide) rfl ?_
  refine run_nil ?_
  refine w_next [(1, .ep (Wire.cells a0)), (3, .ptr (g + 2 + 2) 0), (12, .agg [.i 1, .i 2, .i 3, .i 4]), (13, .i 0)] (.k (.k (.k (.k .nil)))) ?_
  refine r_block ?_
  refine w_loop (V := Int × (List WireFault)) (fun v => [(1, .ep (Wire.cells a0)), (3, .ptr (g + 2 + 2) 0), (12, .agg [.i 1, .i 2, .i 3, .i 4]), (13, .i v.1)]) (fun v m3 H' g' => St (· < g) H0 [(g + 2 + 4, .row 63 v.2.length), (g + 2 + 2, .cells [.i a0.Letters, .i a0.Numbers, .sl .no 3 (a0.Presses.map WirePress.cells), .i a0.Faults, .sl (.id (g + 2 + 4)) 3 (v.2.map WireFault.cells)])] H' g' ∧ wires_open_l1 n a0 m3 v.1 v.2 = some r) (n := n) (0, ([] : List WireFault)) (.k (.k (.k (.k .nil)))) ⟨(hS.keep [true, true] rfl).up (by omega), hM⟩ ?_
  rintro ⟨v3, v4⟩ m3 H g3 ⟨hS, hM⟩
  obtain _ | m3 := m3
  ·exact nomatch (show none = some _ from hM)
  change wpA _ _ _ _ (Fr.of [(1, .ep (Wire.cells a0)), (3, .ptr (g + 2 + 2) 0), (12, .agg [.i 1, .i 2, .i 3, .i 4]), (13, .i v3)]) _ _
  replace hS : St (· < g) H0 [(g + 2 + 4, .row 63 v4.length), (g + 2 + 2, .cells [.i a0.Letters, .i a0.Numbers, .sl .no 3 (a0.Presses.map WirePress.cells), .i a0.Faults, .sl (.id (g + 2 + 4)) 3 (v4.map WireFault.cells)])] H g3 := hS
  replace hM : wires_open_l1_b n a0 (wires_open_l1 n a0 m3) v3 v4 = some r := hM
  refine r_seq ?_
  refine r_region (n := 1) rfl ?_
  refine o_int (v := .b (decide (v3 < 4))) (by decide) rfl rfl rfl ?_
  refine run_nil ?_
  refine w_next [(1, .ep (Wire.cells a0)), (3, .ptr (g + 2 + 2) 0), (12, .agg [.i 1, .i 2, .i 3, .i 4]), (13, .i v3), (14, .b (decide (v3 < 4)))] (.k (.k (.k (.k (.k .nil))))) ?_
  refine r_seq ?_
  rcases Bool.eq_false_or_eq_true (decide (v3 < 4)) with hb5 | hb5
  ·replace hM := ifT hM hb5
   refine w_condT (e := (decide (v3 < 4))) rfl hb5 ?_
   refine r_skip ?_
   refine w_next [(1, .ep (Wire.cells a0)), (3, .ptr (g + 2 + 2) 0), (12, .agg [.i 1, .i 2, .i 3, .i 4]), (13, .i v3)] (.k (.k (.k (.k .nil)))) ?_
   refine w_join (J := (List WireFault)) (fun j => [(1, .ep (Wire.cells a0)), (3, .ptr (g + 2 + 2) 0), (12, .agg [.i 1, .i 2, .i 3, .i 4]), (13, .i v3)]) (fun j H' g' => St (· < g) H0 [(g + 2 + 4, .row 63 j.length), (g + 2 + 2, .cells [.i a0.Letters, .i a0.Numbers, .sl .no 3 (a0.Presses.map WirePress.cells), .i a0.Faults, .sl (.id (g + 2 + 4)) 3 (j.map WireFault.cells)])] H' g' ∧ wires_open_j2 (wires_open_l1 n a0 m3) v3 j = some r) ?_ ?_
   ·rintro v6 H g4 ⟨hS, hM⟩
    change wpA _ _ _ _ (Fr.of [(1, .ep (Wire.cells a0)), (3, .ptr (g + 2 + 2) 0), (12, .agg [.i 1, .i 2, .i 3, .i 4]), (13, .i v3)]) _ _
    replace hS : St (· < g) H0 [(g + 2 + 4, .row 63 v6.length), (g + 2 + 2, .cells [.i a0.Letters, .i a0.Numbers, .sl .no 3 (a0.Presses.map WirePress.cells), .i a0.Faults, .sl (.id (g + 2 + 4)) 3 (v6.map WireFault.cells)])] H g4 := hS
    replace hM : wires_open_j2 (wires_open_l1 n a0 m3) v3 v6 = some r := hM
    refine r_region (n := 2) rfl ?_
    refine o_int (v := .i (w64 (v3 + 1))) (by decide) rfl rfl rfl ?_
    refine o_move (v := .i (w64 (v3 + 1))) (by decide) rfl ?_
    refine run_nil ?_
    exact w_round (w64 (v3 + 1), v6) (Nat.lt_succ_self _) (.k (.k (.k (.k .nil)))) ⟨(hS.keep [true, true] rfl).up (by omega), hM⟩
   ·refine r_block ?_
    refine r_seq ?_
    refine r_region (n := 2) rfl ?_
    obtain ⟨x7, hx7, hM⟩ := bindE hM
    refine o_indexA (v := .i x7) (cs := [.i 1, .i 2, .i 3, .i 4]) (z := v3) (by decide) rfl rfl ty_arx107 (idx_lt hx7).1 (idx_ltn hx7) (part_ixA (xs := ([1, 2, 3, 4] : List Int)) ty_agg3 ty_sc3 rfl hx7) ?_
    refine o_assign (v := .i x7) (by decide) rfl ?_
    refine run_nil ?_
    refine w_next [(1, .ep (Wire.cells a0)), (3, .ptr (g + 2 + 2) 0), (5, .i x7), (12, .agg [.i 1, .i 2, .i 3, .i 4]), (13, .i v3)] (.k (.k (.k (.k (.k .nil))))) ?_
    refine r_seq ?_
    refine r_region (n := 3) rfl ?_
    refine o_fieldE (cs := (Wire.cells a0)) (by decide) ty_fo24_0 rfl ?_
    refine o_loadE (v := .i a0.Letters) (by decide) rfl (part_one ty_agg3 ty_sc3 rfl) ?_
    refine o_assign (v := .i a0.Letters) (by decide) rfl ?_
    refine run_nil ?_
    refine w_next [(1, .ep (Wire.cells a0)), (3, .ptr (g + 2 + 2) 0), (5, .i x7), (6, .i a0.Letters), (12, .agg [.i 1, .i 2, .i 3, .i 4]), (13, .i v3)] (.k (.k (.k (.k (.k (.k .nil)))))) ?_
    refine w_join (J := Int) (fun j => [(1, .ep (Wire.cells a0)), (3, .ptr (g + 2 + 2) 0), (5, .i x7), (6, .i j), (12, .agg [.i 1, .i 2, .i 3, .i 4]), (13, .i v3)]) (fun j H' g' => St (· < g) H0 [(g + 2 + 4, .row 63 v4.length), (g + 2 + 2, .cells [.i a0.Letters, .i a0.Numbers, .sl .no 3 (a0.Presses.map WirePress.cells), .i a0.Faults, .sl (.id (g + 2 + 4)) 3 (v4.map WireFault.cells)])] H' g' ∧ wires_open_j3 n (wires_open_l1 n a0 m3) v3 v4 x7 j = some r) ?_ ?_
    ·rintro v8 H g5 ⟨hS, hM⟩
     change wpA _ _ _ _ (Fr.of [(1, .ep (Wire.cells a0)), (3, .ptr (g + 2 + 2) 0), (5, .i x7), (6, .i v8), (12, .agg [.i 1, .i 2, .i 3, .i 4]), (13, .i v3)]) _ _
     replace hS : St (· < g) H0 [(g + 2 + 4, .row 63 v4.length), (g + 2 + 2, .cells [.i a0.Letters, .i a0.Numbers, .sl .no 3 (a0.Presses.map WirePress.cells), .i a0.Faults, .sl (.id (g + 2 + 4)) 3 (v4.map WireFault.cells)])] H g5 := hS
     replace hM : wires_open_j3 n (wires_open_l1 n a0 m3) v3 v4 x7 v8 = some r := hM
     refine r_seq ?_
     refine r_region (n := 2) rfl ?_
     refine o_move (v := .i v8) (by decide) rfl ?_
     refine o_move (v := .i 0) (by decide) rfl ?_
     refine run_nil ?_
     refine w_next [(1, .ep (Wire.cells a0)), (3, .ptr (g + 2 + 2) 0), (5, .i x7), (6, .i v8), (12, .agg [.i 1, .i 2, .i 3, .i 4]), (13, .i v3), (26, .i v8), (27, .i 0)] (.k (.k (.k (.k (.k (.k (.k (.k .nil)))))))) ?_
     refine r_block ?_
     refine w_loop (V := Int × (List WireFault)) (fun v => [(1, .ep (Wire.cells a0)), (3, .ptr (g + 2 + 2) 0), (5, .i x7), (6, .i v8), (12, .agg [.i 1, .i 2, .i 3, .i 4]), (13, .i v3), (26, .i v8), (27, .i v.1)]) (fun v m7 H' g' => St (· < g) H0 [(g + 2 + 4, .row 63 v.2.length), (g + 2 + 2, .cells [.i a0.Letters, .i a0.Numbers, .sl .no 3 (a0.Presses.map WirePress.cells), .i a0.Faults, .sl (.id (g + 2 + 4)) 3 (v.2.map WireFault.cells)])] H' g' ∧ wires_open_l2 n (wires_open_l1 n a0 m3) v3 x7 v8 m7 v.1 v.2 = some r) (n := n) (0, v4) (.k (.k (.k (.k (.k (.k (.k (.k .nil)))))))) ⟨(hS.keep [true, true] rfl).up (by omega), hM⟩ ?_
     rintro ⟨v10, v11⟩ m7 H g7 ⟨hS, hM⟩
     obtain _ | m7 := m7
     ·exact nomatch (show none = some _ from hM)
     change wpA _ _ _ _ (Fr.of [(1, .ep (Wire.cells a0)), (3, .ptr (g + 2 + 2) 0), (5, .i x7), (6, .i v8), (12, .agg [.i 1, .i 2, .i 3, .i 4]), (13, .i v3), (26, .i v8), (27, .i v10)]) _ _
     replace hS : St (· < g) H0 [(g + 2 + 4, .row 63 v11.length), (g + 2 + 2, .cells [.i a0.Letters, .i a0.Numbers, .sl .no 3 (a0.Presses.map WirePress.cells), .i a0.Faults, .sl (.id (g + 2 + 4)) 3 (v11.map WireFault.cells)])] H g7 := hS
     replace hM : wires_open_l2_b n (wires_open_l1 n a0 m3) v3 x7 v8 (wires_open_l2 n (wires_open_l1 n a0 m3) v3 x7 v8 m7) v10 v11 = some r := hM
     refine r_seq ?_
     refine r_region (n := 1) rfl ?_
     refine o_int (v := .b (decide (v10 < v8))) (by decide) rfl rfl rfl ?_
     refine run_nil ?_
     refine w_next [(1, .ep (Wire.cells a0)), (3, .ptr (g + 2 + 2) 0), (5, .i x7), (6, .i v8), (12, .agg [.i 1, .i 2, .i 3, .i 4]), (13, .i v3), (26, .i v8), (27, .i v10), (28, .b (decide (v10 < v8)))] (.k (.k (.k (.k (.k (.k (.k (.k (.k .nil))))))))) ?_
     refine r_seq ?_
     rcases Bool.eq_false_or_eq_true (decide (v10 < v8)) with hb12 | hb12
     ·replace hM := ifT hM hb12
      refine w_condT (e := (decide (v10 < v8))) rfl hb12 ?_
      refine r_skip ?_
      refine w_next [(1, .ep (Wire.cells a0)), (3, .ptr (g + 2 + 2) 0), (5, .i x7), (6, .i v8), (12, .agg [.i 1, .i 2, .i 3, .i 4]), (13, .i v3), (26, .i v8), (27, .i v10)] (.k (.k (.k (.k (.k (.k (.k (.k .nil)))))))) ?_
      refine w_join (J := (List WireFault)) (fun j => [(1, .ep (Wire.cells a0)), (3, .ptr (g + 2 + 2) 0), (5, .i x7), (6, .i v8), (12, .agg [.i 1, .i 2, .i 3, .i 4]), (13, .i v3), (26, .i v8), (27, .i v10)]) (fun j H' g' => St (· < g) H0 [(g + 2 + 4, .row 63 j.length), (g + 2 + 2, .cells [.i a0.Letters, .i a0.Numbers, .sl .no 3 (a0.Presses.map WirePress.cells), .i a0.Faults, .sl (.id (g + 2 + 4)) 3 (j.map WireFault.cells)])] H' g' ∧ wires_open_j4 (wires_open_l2 n (wires_open_l1 n a0 m3) v3 x7 v8 m7) v10 j = some r) ?_ ?_
      ·rintro v13 H g8 ⟨hS, hM⟩
       change wpA _ _ _ _ (Fr.of [(1, .ep (Wire.cells a0)), (3, .ptr (g + 2 + 2) 0), (5, .i x7), (6, .i v8), (12, .agg [.i 1, .i 2, .i 3, .i 4]), (13, .i v3), (26, .i v8), (27, .i v10)]) _ _
       replace hS : St (· < g) H0 [(g + 2 + 4, .row 63 v13.length), (g + 2 + 2, .cells [.i a0.Letters, .i a0.Numbers, .sl .no 3 (a0.Presses.map WirePress.cells), .i a0.Faults, .sl (.id (g + 2 + 4)) 3 (v13.map WireFault.cells)])] H g8 := hS
       replace hM : wires_open_j4 (wires_open_l2 n (wires_open_l1 n a0 m3) v3 x7 v8 m7) v10 v13 = some r := hM
       refine r_region (n := 2) rfl ?_
       refine o_int (v := .i (w64 (v10 + 1))) (by decide) rfl rfl rfl ?_
       refine o_move (v := .i (w64 (v10 + 1))) (by decide) rfl ?_
       refine run_nil ?_
       exact w_round (w64 (v10 + 1), v13) (Nat.lt_succ_self _) (.k (.k (.k (.k (.k (.k (.k (.k .nil)))))))) ⟨(hS.keep [true, true] rfl).up (by omega), hM⟩
      ·refine r_block ?_
       refine r_seq ?_
       refine r_region (n := 2) rfl ?_
       refine o_move (v := .i v10) (by decide) rfl ?_
       refine o_assign (v := .i v10) (by decide) rfl ?_
       refine run_nil ?_
       refine w_next [(1, .ep (Wire.cells a0)), (3, .ptr (g + 2 + 2) 0), (5, .i x7), (6, .i v8), (7, .i v10), (12, .agg [.i 1, .i 2, .i 3, .i 4]), (13, .i v3), (26, .i v8), (27, .i v10)] (.k (.k (.k (.k (.k (.k (.k (.k (.k .nil))))))))) ?_
       refine r_seq ?_
       refine w_join (J := Bool) (fun j => [(1, .ep (Wire.cells a0)), (3, .ptr (g + 2 + 2) 0), (5, .i x7), (6, .i v8), (7, .i v10), (12, .agg [.i 1, .i 2, .i 3, .i 4]), (13, .i v3), (26, .i v8), (27, .i v10), (35, .b j)]) (fun j H' g' => St (· < g) H0 [(g + 2 + 4, .row 63 v11.length), (g + 2 + 2, .cells [.i a0.Letters, .i a0.Numbers, .sl .no 3 (a0.Presses.map WirePress.cells), .i a0.Faults, .sl (.id (g + 2 + 4)) 3 (v11.map WireFault.cells)])] H' g' ∧ wires_open_j5 n (wires_open_l2 n (wires_open_l1 n a0 m3) v3 x7 v8 m7) x7 v8 v10 v11 j = some r) ?_ ?_
       ·rintro v14 H g9 ⟨hS, hM⟩
        change wpA _ _ _ _ (Fr.of [(1, .ep (Wire.cells a0)), (3, .ptr (g + 2 + 2) 0), (5, .i x7), (6, .i v8), (7, .i v10), (12, .agg [.i 1, .i 2, .i 3, .i 4]), (13, .i v3), (26, .i v8), (27, .i v10), (35, .b v14)]) _ _
        replace hS : St (· < g) H0 [(g + 2 + 4, .row 63 v11.length), (g + 2 + 2, .cells [.i a0.Letters, .i a0.Numbers, .sl .no 3 (a0.Presses.map WirePress.cells), .i a0.Faults, .sl (.id (g + 2 + 4)) 3 (v11.map WireFault.cells)])] H g9 := hS
        replace hM : wires_open_j5 n (wires_open_l2 n (wires_open_l1 n a0 m3) v3 x7 v8 m7) x7 v8 v10 v11 v14 = some r := hM
        rcases Bool.eq_false_or_eq_true v14 with hb15 | hb15
        ·replace hM := ifT hM hb15
         refine w_condT (e := v14) rfl hb15 ?_
         refine r_seq ?_
         refine r_region (n := 13) rfl ?_
         refine o_move (v := .ptr (g + 2 + 2) 0) (by decide) rfl ?_
         refine o_move (v := .ptr (g + 2 + 2) 0) (by decide) rfl ?_
         refine o_nilP (by decide) rfl ?_
         refine o_fieldP (by decide) ty_fo101_1 rfl ?_
         refine o_load (v := .sl (.id (g + 2 + 4)) 3 (v11.map WireFault.cells)) 1 hS (by decide) rfl rfl .no (part_one ty_agg31 ty_sc31 rfl) ?_
         refine o_move (v := .i x7) (by decide) rfl ?_
         refine o_move (v := .i v10) (by decide) rfl ?_
         refine o_build (cs := [.i x7, .i v10, .i 0]) (by decide) ty_zero63 ty_pl63 rfl ?_
         refine o_buildSlice (es := [[.i x7, .i v10, .i 0]]) hS (by decide) ty_es31 ty_el31 rfl ty_ef31 rfl (by decide) (by omega) fun H hS => ?_
         obtain ⟨l16, hl16, hM⟩ := bindE hM
         refine o_append (xs := v11) (ys := ([(⟨x7, v10, 0⟩ : WireFault)] : List WireFault)) (zs := l16) (f := WireFault.cells) (L' := [(g9 + 8, .row 63 1), (g + 2 + 4, .row 63 l16.length), (g + 2 + 2, .cells [.i a0.Letters, .i a0.Numbers, .sl .no 3 (a0.Presses.map WirePress.cells), .i a0.Faults, .sl (.id (g + 2 + 4)) 3 (v11.map WireFault.cells)])]) 1 hS (by decide) rfl rfl rfl rfl .no ty_es31 ty_el31 ty_ef31 hl16 rfl fun H hS => ?_
         refine o_nilP (by decide) rfl ?_
         refine o_fieldP (by decide) ty_fo101_1 rfl ?_
         refine o_store (v := .sl (.id (g + 2 + 4)) 3 (l16.map WireFault.cells)) (ns := [.sl (.id (g + 2 + 4)) 3 (l16.map WireFault.cells)]) (L' := [(g9 + 8, .row 63 1), (g + 2 + 4, .row 63 l16.length), (g + 2 + 2, .cells [.i a0.Letters, .i a0.Numbers, .sl .no 3 (a0.Presses.map WirePress.cells), .i a0.Faults, .sl (.id (g + 2 + 4)) 3 (l16.map WireFault.cells)])]) 2 hS rfl rfl .no rfl rfl ty_var31 (Nat.le_of_ble_eq_true rfl) rfl fun H hS => ?_
         refine run_nil ?_
         replace hS := hS.keep (L' := [(g + 2 + 4, .row 63 l16.length), (g + 2 + 2, .cells [.i a0.Letters, .i a0.Numbers, .sl .no 3 (a0.Presses.map WirePress.cells), .i a0.Faults, .sl (.id (g + 2 + 4)) 3 (l16.map WireFault.cells)])]) [false, true, true] rfl
         refine w_next [(1, .ep (Wire.cells a0)), (3, .ptr (g + 2 + 2) 0), (5, .i x7), (6, .i v8), (12, .agg [.i 1, .i 2, .i 3, .i 4]), (13, .i v3), (26, .i v8), (27, .i v10)] (.k (.k (.k (.k (.k (.k (.k (.k .nil)))))))) ?_
         refine r_exit ?_
         refine r_then_exit ?_
         refine r_blk_exit ?_
         exact w_goto l16 (.k (.k (.k (.k (.k (.k (.k (.k .nil)))))))) ⟨(hS.keep [true, true] rfl).up (by omega), hM⟩
        ·replace hM := ifF hM hb15
         refine w_condF (e := v14) rfl hb15 ?_
         refine r_skip ?_
         refine w_next [(1, .ep (Wire.cells a0)), (3, .ptr (g + 2 + 2) 0), (5, .i x7), (6, .i v8), (7, .i v10), (12, .agg [.i 1, .i 2, .i 3, .i 4]), (13, .i v3), (26, .i v8), (27, .i v10)] (.k (.k (.k (.k (.k (.k (.k (.k (.k .nil))))))))) ?_
         refine r_seq ?_
         refine r_region (n := 3) rfl ?_
         refine o_move (v := .i v10) (by decide) rfl ?_
         refine o_int (v := .i (w64 (v10 + 1))) (by decide) rfl rfl rfl ?_
         refine o_assign (v := .i (w64 (v10 + 1))) (by decide) rfl ?_
         refine run_nil ?_
         refine w_next [(1, .ep (Wire.cells a0)), (3, .ptr (g + 2 + 2) 0), (5, .i x7), (6, .i v8), (7, .i v10), (8, .i (w64 (v10 + 1))), (12, .agg [.i 1, .i 2, .i 3, .i 4]), (13, .i v3), (26, .i v8), (27, .i v10)] (.k (.k (.k (.k (.k (.k (.k (.k (.k (.k .nil)))))))))) ?_
         refine r_block ?_
         refine w_loop (V := Int × (List WireFault)) (fun v => [(1, .ep (Wire.cells a0)), (3, .ptr (g + 2 + 2) 0), (5, .i x7), (6, .i v8), (7, .i v10), (8, .i v.1), (12, .agg [.i 1, .i 2, .i 3, .i 4]), (13, .i v3), (26, .i v8), (27, .i v10)]) (fun v m11 H' g' => St (· < g) H0 [(g + 2 + 4, .row 63 v.2.length), (g + 2 + 2, .cells [.i a0.Letters, .i a0.Numbers, .sl .no 3 (a0.Presses.map WirePress.cells), .i a0.Faults, .sl (.id (g + 2 + 4)) 3 (v.2.map WireFault.cells)])] H' g' ∧ wires_open_l3 (wires_open_l2 n (wires_open_l1 n a0 m3) v3 x7 v8 m7) x7 v8 v10 m11 v.1 v.2 = some r) (n := n) (w64 (v10 + 1), v11) (.k (.k (.k (.k (.k (.k (.k (.k (.k (.k .nil)))))))))) ⟨(hS.keep [true, true] rfl).up (by omega), hM⟩ ?_
         rintro ⟨v18, v19⟩ m11 H g11 ⟨hS, hM⟩
         obtain _ | m11 := m11
         ·exact nomatch (show none = some _ from hM)
         change wpA _ _ _ _ (Fr.of [(1, .ep (Wire.cells a0)), (3, .ptr (g + 2 + 2) 0), (5, .i x7), (6, .i v8), (7, .i v10), (8, .i v18), (12, .agg [.i 1, .i 2, .i 3, .i 4]), (13, .i v3), (26, .i v8), (27, .i v10)]) _ _
         replace hS : St (· < g) H0 [(g + 2 + 4, .row 63 v19.length), (g + 2 + 2, .cells [.i a0.Letters, .i a0.Numbers, .sl .no 3 (a0.Presses.map WirePress.cells), .i a0.Faults, .sl (.id (g + 2 + 4)) 3 (v19.map WireFault.cells)])] H g11 := hS
         replace hM : wires_open_l3_b (wires_open_l2 n (wires_open_l1 n a0 m3) v3 x7 v8 m7) x7 v8 v10 (wires_open_l3 (wires_open_l2 n (wires_open_l1 n a0 m3) v3 x7 v8 m7) x7 v8 v10 m11) v18 v19 = some r := hM
         refine r_seq ?_
         refine r_seq ?_
         refine r_region (n := 3) rfl ?_
         refine o_move (v := .i v18) (by decide) rfl ?_
         refine o_move (v := .i v8) (by decide) rfl ?_
         refine o_int (v := .b (decide (v18 < v8))) (by decide) rfl rfl rfl ?_
         refine run_nil ?_
         refine w_next [(1, .ep (Wire.cells a0)), (3, .ptr (g + 2 + 2) 0), (5, .i x7), (6, .i v8), (7, .i v10), (8, .i v18), (12, .agg [.i 1, .i 2, .i 3, .i 4]), (13, .i v3), (26, .i v8), (27, .i v10), (52, .b (decide (v18 < v8)))] (.k (.k (.k (.k (.k (.k (.k (.k (.k (.k (.k .nil))))))))))) ?_
         rcases Bool.eq_false_or_eq_true (decide (v18 < v8)) with hb20 | hb20
         ·replace hM := ifT hM hb20
          refine w_condT (e := (decide (v18 < v8))) rfl hb20 ?_
          refine r_skip ?_
          refine w_next [(1, .ep (Wire.cells a0)), (3, .ptr (g + 2 + 2) 0), (5, .i x7), (6, .i v8), (7, .i v10), (8, .i v18), (12, .agg [.i 1, .i 2, .i 3, .i 4]), (13, .i v3), (26, .i v8), (27, .i v10)] (.k (.k (.k (.k (.k (.k (.k (.k (.k (.k .nil)))))))))) ?_
          refine r_seq ?_
          refine r_block ?_
          refine r_region (n := 14) rfl ?_
          refine o_move (v := .ptr (g + 2 + 2) 0) (by decide) rfl ?_
          refine o_move (v := .ptr (g + 2 + 2) 0) (by decide) rfl ?_
          refine o_nilP (by decide) rfl ?_
          refine o_fieldP (by decide) ty_fo101_1 rfl ?_
          refine o_load (v := .sl (.id (g + 2 + 4)) 3 (v19.map WireFault.cells)) 1 hS (by decide) rfl rfl .no (part_one ty_agg31 ty_sc31 rfl) ?_
          refine o_move (v := .i x7) (by decide) rfl ?_
          refine o_move (v := .i v10) (by decide) rfl ?_
          refine o_move (v := .i v18) (by decide) rfl ?_
          refine o_build (cs := [.i x7, .i v10, .i v18]) (by decide) ty_zero63 ty_pl63 rfl ?_
          refine o_buildSlice (es := [[.i x7, .i v10, .i v18]]) hS (by decide) ty_es31 ty_el31 rfl ty_ef31 rfl (by decide) (by omega) fun H hS => ?_
          obtain ⟨l21, hl21, hM⟩ := bindE hM
          refine o_append (xs := v19) (ys := ([(⟨x7, v10, v18⟩ : WireFault)] : List WireFault)) (zs := l21) (f := WireFault.cells) (L' := [(g11 + 3 + 9, .row 63 1), (g + 2 + 4, .row 63 l21.length), (g + 2 + 2, .cells [.i a0.Letters, .i a0.Numbers, .sl .no 3 (a0.Presses.map WirePress.cells), .i a0.Faults, .sl (.id (g + 2 + 4)) 3 (v19.map WireFault.cells)])]) 1 hS (by decide) rfl rfl rfl rfl .no ty_es31 ty_el31 ty_ef31 hl21 rfl fun H hS => ?_
          refine o_nilP (by decide) rfl ?_
          refine o_fieldP (by decide) ty_fo101_1 rfl ?_
          refine o_store (v := .sl (.id (g + 2 + 4)) 3 (l21.map WireFault.cells)) (ns := [.sl (.id (g + 2 + 4)) 3 (l21.map WireFault.cells)]) (L' := [(g11 + 3 + 9, .row 63 1), (g + 2 + 4, .row 63 l21.length), (g + 2 + 2, .cells [.i a0.Letters, .i a0.Numbers, .sl .no 3 (a0.Presses.map WirePress.cells), .i a0.Faults, .sl (.id (g + 2 + 4)) 3 (l21.map WireFault.cells)])]) 2 hS rfl rfl .no rfl rfl ty_var31 (Nat.le_of_ble_eq_true rfl) rfl fun H hS => ?_
          refine run_nil ?_
          refine r_blk_normal ?_
          replace hS := hS.keep (L' := [(g + 2 + 4, .row 63 l21.length), (g + 2 + 2, .cells [.i a0.Letters, .i a0.Numbers, .sl .no 3 (a0.Presses.map WirePress.cells), .i a0.Faults, .sl (.id (g + 2 + 4)) 3 (l21.map WireFault.cells)])]) [false, true, true] rfl
          refine w_next [(1, .ep (Wire.cells a0)), (3, .ptr (g + 2 + 2) 0), (5, .i x7), (6, .i v8), (7, .i v10), (8, .i v18), (12, .agg [.i 1, .i 2, .i 3, .i 4]), (13, .i v3), (26, .i v8), (27, .i v10)] (.k (.k (.k (.k (.k (.k (.k (.k (.k (.k .nil)))))))))) ?_
          refine r_region (n := 3) rfl ?_
          refine o_move (v := .i v18) (by decide) rfl ?_
          refine o_int (v := .i (w64 (v18 + 1))) (by decide) rfl rfl rfl ?_
          refine o_assign (v := .i (w64 (v18 + 1))) (by decide) rfl ?_
          refine run_nil ?_
          exact w_round (w64 (v18 + 1), l21) (Nat.lt_succ_self _) (.k (.k (.k (.k (.k (.k (.k (.k (.k (.k .nil)))))))))) ⟨(hS.keep [true, true] rfl).up (by omega), hM⟩
         ·replace hM := ifF hM hb20
          refine w_condF (e := (decide (v18 < v8))) rfl hb20 ?_
          refine r_exit ?_
          refine r_then_exit ?_
          refine w_round_exit ?_
          refine r_blk_exit ?_
          refine r_blk_normal ?_
          exact w_goto v19 (.k (.k (.k (.k (.k (.k (.k (.k .nil)))))))) ⟨(hS.keep [true, true] rfl).up (by omega), hM⟩
       ·refine r_region (n := 6) rfl ?_
        refine o_move (v := .i x7) (by decide) rfl ?_
        refine o_int (v := .b (x7 == 1)) (by decide) rfl rfl rfl ?_
        refine o_move (v := .b (x7 == 1)) (by decide) rfl ?_
        rcases Bool.eq_false_or_eq_true (x7 == 1) with hb22 | hb22
        ·replace hM := ifT hM hb22
         refine o_guardN (j := 2) (e := (x7 == 1)) (want := false) (by decide) rfl hb22 ?_
         refine o_guardN (j := 2) (e := (x7 == 1)) (want := false) (by decide) rfl hb22 ?_
         refine o_pickT (v := .b true) (e := (x7 == 1)) (by decide) rfl hb22 rfl ?_
         refine run_nil ?_
         exact w_goto true (.k (.k (.k (.k (.k (.k (.k (.k (.k (.k .nil)))))))))) ⟨(hS.keep [true, true] rfl).up (by omega), hM⟩
        ·replace hM := ifF hM hb22
         refine o_guardY (j := 2) (e := (x7 == 1)) (want := false) rfl hb22 ?_
         refine o_move (v := .i x7) (by decide) rfl ?_
         refine o_guardY (j := 2) (e := (x7 == 1)) (want := false) rfl hb22 ?_
         refine o_int (v := .b (x7 == 2)) (by decide) rfl rfl rfl ?_
         refine o_pickF (v := .b (x7 == 2)) (e := (x7 == 1)) (by decide) rfl hb22 rfl ?_
         refine run_nil ?_
         exact w_goto (x7 == 2) (.k (.k (.k (.k (.k (.k (.k (.k (.k (.k .nil)))))))))) ⟨(hS.keep [true, true] rfl).up (by omega), hM⟩
     ·replace hM := ifF hM hb12
      refine w_condF (e := (decide (v10 < v8))) rfl hb12 ?_
      refine r_exit ?_
      refine r_then_exit ?_
      refine w_round_exit ?_
      refine r_blk_exit ?_
      refine r_blk_normal ?_
      exact w_goto v11 (.k (.k (.k (.k .nil)))) ⟨(hS.keep [true, true] rfl).up (by omega), hM⟩
    ·refine w_join (J := Bool) (fun j => [(1, .ep (Wire.cells a0)), (3, .ptr (g + 2 + 2) 0), (5, .i x7), (6, .i a0.Letters), (12, .agg [.i 1, .i 2, .i 3, .i 4]), (13, .i v3), (23, .b j)]) (fun j H' g' => St (· < g) H0 [(g + 2 + 4, .row 63 v4.length), (g + 2 + 2, .cells [.i a0.Letters, .i a0.Numbers, .sl .no 3 (a0.Presses.map WirePress.cells), .i a0.Faults, .sl (.id (g + 2 + 4)) 3 (v4.map WireFault.cells)])] H' g' ∧ wires_open_j6 n (wires_open_l1 n a0 m3) a0 v3 v4 x7 j = some r) ?_ ?_
     ·rintro v23 H g12 ⟨hS, hM⟩
      change wpA _ _ _ _ (Fr.of [(1, .ep (Wire.cells a0)), (3, .ptr (g + 2 + 2) 0), (5, .i x7), (6, .i a0.Letters), (12, .agg [.i 1, .i 2, .i 3, .i 4]), (13, .i v3), (23, .b v23)]) _ _
      replace hS : St (· < g) H0 [(g + 2 + 4, .row 63 v4.length), (g + 2 + 2, .cells [.i a0.Letters, .i a0.Numbers, .sl .no 3 (a0.Presses.map WirePress.cells), .i a0.Faults, .sl (.id (g + 2 + 4)) 3 (v4.map WireFault.cells)])] H g12 := hS
      replace hM : wires_open_j6 n (wires_open_l1 n a0 m3) a0 v3 v4 x7 v23 = some r := hM
      rcases Bool.eq_false_or_eq_true v23 with hb24 | hb24
      ·replace hM := ifT hM hb24
       refine w_condT (e := v23) rfl hb24 ?_
       refine r_region (n := 3) rfl ?_
       refine o_fieldE (cs := (Wire.cells a0)) (by decide) ty_fo24_1 rfl ?_
       refine o_loadE (v := .i a0.Numbers) (by decide) rfl (part_one ty_agg3 ty_sc3 rfl) ?_
       refine o_assign (v := .i a0.Numbers) (by decide) rfl ?_
       refine run_nil ?_
       exact w_goto a0.Numbers (.k (.k (.k (.k (.k (.k .nil)))))) ⟨(hS.keep [true, true] rfl).up (by omega), hM⟩
      ·replace hM := ifF hM hb24
       refine w_condF (e := v23) rfl hb24 ?_
       refine r_skip ?_
       exact w_goto a0.Letters (.k (.k (.k (.k (.k (.k .nil)))))) ⟨(hS.keep [true, true] rfl).up (by omega), hM⟩
     ·refine r_region (n := 6) rfl ?_
      refine o_move (v := .i x7) (by decide) rfl ?_
      refine o_int (v := .b (x7 == 2)) (by decide) rfl rfl rfl ?_
      refine o_move (v := .b (x7 == 2)) (by decide) rfl ?_
      rcases Bool.eq_false_or_eq_true (x7 == 2) with hb25 | hb25
      ·replace hM := ifT hM hb25
       refine o_guardN (j := 2) (e := (x7 == 2)) (want := false) (by decide) rfl hb25 ?_
       refine o_guardN (j := 2) (e := (x7 == 2)) (want := false) (by decide) rfl hb25 ?_
       refine o_pickT (v := .b true) (e := (x7 == 2)) (by decide) rfl hb25 rfl ?_
       refine run_nil ?_
       exact w_goto true (.k (.k (.k (.k (.k (.k (.k .nil))))))) ⟨(hS.keep [true, true] rfl).up (by omega), hM⟩
      ·replace hM := ifF hM hb25
       refine o_guardY (j := 2) (e := (x7 == 2)) (want := false) rfl hb25 ?_
       refine o_move (v := .i x7) (by decide) rfl ?_
       refine o_guardY (j := 2) (e := (x7 == 2)) (want := false) rfl hb25 ?_
       refine o_int (v := .b (x7 == 4)) (by decide) rfl rfl rfl ?_
       refine o_pickF (v := .b (x7 == 4)) (e := (x7 == 2)) (by decide) rfl hb25 rfl ?_
       refine run_nil ?_
       exact w_goto (x7 == 4) (.k (.k (.k (.k (.k (.k (.k .nil))))))) ⟨(hS.keep [true, true] rfl).up (by omega), hM⟩
  ·replace hM := ifF hM hb5
   refine w_condF (e := (decide (v3 < 4))) rfl hb5 ?_
   refine r_exit ?_
   refine r_then_exit ?_
   refine w_round_exit ?_
   refine r_blk_exit ?_
   exact w_goto v4 (.k .nil) ⟨(hS.keep [true, true] rfl).up (by omega), hM⟩
theorem W_slices_IndexFunc_apiWireFault {S : Type} {Lo : S → BL} (hk : ∀ s s', KinL (Lo s) (Lo s')) (hnd : ∀ s, (ids (Lo s)).Nodup) (hin : ∀ s, InB In (Lo s)) {aF : WireFault → S → Option (Bool × S)} {f0 : AV} (hF : ∀ s H, Has H (Lo s) → In H f0) (h0 : cellsOf f0 = some [f0]) (hf : ∀ {x0 : WireFault} {s : S} {r : Bool × S}, aF x0 s = some r → CSat Try.prog f0 [.agg (WireFault.cells x0)] (Lo s) (.b r.1) (Lo r.2)) {n : Nat} {a0 : List WireFault} {st : S} {r : Int × S} (hM : slices_IndexFunc_apiWireFault n aF a0 st = some r) : HSat Try.prog 116 [.sl .no 3 (a0.map WireFault.cells), f0] (Lo st) (.i r.1) (Lo r.2) := by
 have hnd0 : ∀ s, (ids (Lo s)).Nodup := fun s => hnd s
 refine hsat_of_wp mixed Try.func116 rfl (by decide) Try.ntmps116 (by simp) (hk _ _) (hnd st) ?pure ?cells fun H0 g hf_ hp => ?_
 case pure => exact fun H _ => (show Go.AM.Pure _ from .v _).inH
 case cells => exact hin _
 rw [frame0_of]
 change wpA _ _ _ _ (Fr.of [(0, .sl .no 3 (a0.map WireFault.cells)), (1, f0)]) H0 g
 have hS := St.startH (L := ([] ++ Lo st)) hf_ (hnd st) hp
 replace hS : St (fun i => i < g ∧ i ∉ ids (Lo st)) H0 ([] ++ Lo st) H0 g := hS
 refine r_seq ?_
 refine r_region (n := 1) rfl ?_
 refine o_assign (v := .i 0) (by decide) rfl ?_
 refine run_nil ?_
 refine w_next [(0, .sl .no 3 (a0.map WireFault.cells)), (1, f0)] (.k (.k .nil)) ?_
 refine w_join (J := S) (fun j => []) (fun j H' g' => St (fun i => i < g ∧ i ∉ ids (Lo st)) H0 ([] ++ Lo j) H' g' ∧ slices_IndexFunc_apiWireFault_j1 j = some r) ?_ ?_
 ·rintro v1 H g1 ⟨hS, hM⟩
  change wpA _ _ _ _ (Fr.of []) _ _
  replace hS : St (fun i => i < g ∧ i ∉ ids (Lo st)) H0 ([] ++ Lo v1) H g1 := hS
  replace hM : slices_IndexFunc_apiWireFault_j1 v1 = some r := hM
  refine r_seq ?_
  refine r_region (n := 1) rfl ?_
  refine o_assign (v := .i (-1)) (by decide) rfl ?_
  refine run_nil ?_
  refine w_next [(4, .i (-1))] (.k .nil) ?_
  refine r_ret ?_
  refine w_endS (x := .i (-1)) (f := fun r => .i r.1) (fd := fun r => (Lo r.2)) (.inr rfl) ?_ (.refl _) (Option.some.inj hM) hS 0 rfl
  exact (res_one (res_tmp (x := .i (-1)) rfl))
 ·refine r_seq ?_
  refine r_region (n := 3) rfl ?_
  refine o_move (v := .sl .no 3 (a0.map WireFault.cells)) (by decide) rfl ?_
  refine o_len (n := a0.length) (by decide) rfl (List.length_map _) ty_isl31 ?_
  refine o_move (v := .i 0) (by decide) rfl ?_
  refine run_nil ?_
  refine w_next [(0, .sl .no 3 (a0.map WireFault.cells)), (1, f0), (7, .i (a0.length : Int)), (8, .i 0)] (.k (.k (.k (.k .nil)))) ?_
  refine r_block ?_
  refine w_loop (V := Int × S) (fun v => [(0, .sl .no 3 (a0.map WireFault.cells)), (1, f0), (7, .i (a0.length : Int)), (8, .i v.1)]) (fun v m3 H' g' => St (fun i => i < g ∧ i ∉ ids (Lo st)) H0 ([] ++ Lo v.2) H' g' ∧ slices_IndexFunc_apiWireFault_l1 a0 aF m3 v.1 v.2 = some r) (n := n) (0, st) (.k (.k (.k (.k .nil)))) ⟨(hS.keep [] rfl).up (by omega), hM⟩ ?_
  rintro ⟨v3, v4⟩ m3 H g3 ⟨hS, hM⟩
  obtain _ | m3 := m3
  ·exact nomatch (show none = some _ from hM)
  change wpA _ _ _ _ (Fr.of [(0, .sl .no 3 (a0.map WireFault.cells)), (1, f0), (7, .i (a0.length : Int)), (8, .i v3)]) _ _
  replace hS : St (fun i => i < g ∧ i ∉ ids (Lo st)) H0 ([] ++ Lo v4) H g3 := hS
  replace hM : slices_IndexFunc_apiWireFault_l1_b a0 aF (slices_IndexFunc_apiWireFault_l1 a0 aF m3) v3 v4 = some r := hM
  refine r_seq ?_
  refine r_region (n := 1) rfl ?_
  refine o_int (v := .b (decide (v3 < (a0.length : Int)))) (by decide) rfl rfl rfl ?_
  refine run_nil ?_
  refine w_next [(0, .sl .no 3 (a0.map WireFault.cells)), (1, f0), (7, .i (a0.length : Int)), (8, .i v3), (9, .b (decide (v3 < (a0.length : Int))))] (.k (.k (.k (.k (.k .nil))))) ?_
  refine r_seq ?_
  rcases Bool.eq_false_or_eq_true (decide (v3 < (a0.length : Int))) with hb5 | hb5
  ·replace hM := ifT hM hb5
   refine w_condT (e := (decide (v3 < (a0.length : Int)))) rfl hb5 ?_
   refine r_skip ?_
   refine w_next [(0, .sl .no 3 (a0.map WireFault.cells)), (1, f0), (7, .i (a0.length : Int)), (8, .i v3)] (.k (.k (.k (.k .nil)))) ?_
   refine r_seq ?_
   refine r_block ?_
   refine r_seq ?_
   refine r_region (n := 2) rfl ?_
   refine o_move (v := .i v3) (by decide) rfl ?_
   refine o_assign (v := .i v3) (by decide) rfl ?_
   refine run_nil ?_
   refine w_next [(0, .sl .no 3 (a0.map WireFault.cells)), (1, f0), (5, .i v3), (7, .i (a0.length : Int)), (8, .i v3)] (.k (.k (.k (.k (.k .nil))))) ?_
   refine r_seq ?_
   refine r_region (n := 6) rfl ?_
   refine o_move (v := f0) (by decide) rfl ?_
   refine o_move (v := .sl .no 3 (a0.map WireFault.cells)) (by decide) rfl ?_
   refine o_move (v := .i v3) (by decide) rfl ?_
   obtain ⟨x6, hx6, hM⟩ := bindE hM
   refine o_index (xs := a0) (f := WireFault.cells) (z := v3) (u := x6) (by decide) rfl rfl ty_es31 hx6 ?_
   refine o_loadE (v := .agg (WireFault.cells x6)) (by decide) rfl (part_agg ty_agg63 (Nat.le_of_ble_eq_true rfl) rfl) ?_
   obtain ⟨r7, hr7, hM⟩ := bindE hM
   replace hS : St (fun i => i < g ∧ i ∉ ids (Lo st)) H0 ([] ++ Lo v4) _ _ := hS
   refine o_state (bs := [.agg (WireFault.cells x6)]) (.inl rfl) hS (by decide) rfl rfl ((hf hr7).le (.k .nil)) (hk _ _).ids (by omega) fun H hS => ?_
   refine run_nil ?_
   refine w_next [(0, .sl .no 3 (a0.map WireFault.cells)), (1, f0), (5, .i v3), (7, .i (a0.length : Int)), (8, .i v3), (16, .b r7.1)] (.k (.k (.k (.k (.k (.k .nil)))))) ?_
   rcases Bool.eq_false_or_eq_true r7.1 with hb8 | hb8
   ·replace hM := ifT hM hb8
    refine w_condT (e := r7.1) rfl hb8 ?_
    refine r_seq ?_
    refine r_region (n := 2) rfl ?_
    refine o_move (v := .i v3) (by decide) rfl ?_
    refine o_assign (v := .i v3) (by decide) rfl ?_
    refine run_nil ?_
    refine w_next [(4, .i v3)] (.k .nil) ?_
    refine r_ret ?_
    refine r_blk_ret ?_
    refine r_then_ret ?_
    refine w_round_ret ?_
    refine r_blk_ret ?_
    refine w_goto_ret ?_
    refine w_endS (x := .i v3) (f := fun r => .i r.1) (fd := fun r => (Lo r.2)) (.inr rfl) ?_ (.refl _) (Option.some.inj hM) hS 0 rfl
    exact (res_one (res_tmp (x := .i v3) rfl))
   ·replace hM := ifF hM hb8
    refine w_condF (e := r7.1) rfl hb8 ?_
    refine r_skip ?_
    refine r_blk_normal ?_
    refine w_next [(0, .sl .no 3 (a0.map WireFault.cells)), (1, f0), (7, .i (a0.length : Int)), (8, .i v3)] (.k (.k (.k (.k .nil)))) ?_
    refine r_region (n := 2) rfl ?_
    refine o_int (v := .i (w64 (v3 + 1))) (by decide) rfl rfl rfl ?_
    refine o_move (v := .i (w64 (v3 + 1))) (by decide) rfl ?_
    refine run_nil ?_
    exact w_round (w64 (v3 + 1), r7.2) (Nat.lt_succ_self _) (.k (.k (.k (.k .nil)))) ⟨(hS.keep [] rfl).up (by omega), hM⟩
  ·replace hM := ifF hM hb5
   refine w_condF (e := (decide (v3 < (a0.length : Int)))) rfl hb5 ?_
   refine r_exit ?_
   refine r_then_exit ?_
   refine w_round_exit ?_
   refine r_blk_exit ?_
   exact w_goto v4 .nil ⟨(hS.keep [] rfl).up (by omega), hM⟩
theorem W_slices_ContainsFunc_apiWireFault {S : Type} {Lo : S → BL} (hk : ∀ s s', KinL (Lo s) (Lo s')) (hnd : ∀ s, (ids (Lo s)).Nodup) (hin : ∀ s, InB In (Lo s)) {aF : WireFault → S → Option (Bool × S)} {f0 : AV} (hF : ∀ s H, Has H (Lo s) → In H f0) (h0 : cellsOf f0 = some [f0]) (hf : ∀ {x0 : WireFault} {s : S} {r : Bool × S}, aF x0 s = some r → CSat Try.prog f0 [.agg (WireFault.cells x0)] (Lo s) (.b r.1) (Lo r.2)) {n : Nat} {a0 : List WireFault} {st : S} {r : Bool × S} (hM : slices_ContainsFunc_apiWireFault n aF a0 st = some r) : HSat Try.prog 92 [.sl .no 3 (a0.map WireFault.cells), f0] (Lo st) (.b r.1) (Lo r.2) := by
 have hnd0 : ∀ s, (ids (Lo s)).Nodup := fun s => hnd s
 refine hsat_of_wp mixed Try.func92 rfl (by decide) Try.ntmps92 (by simp) (hk _ _) (hnd st) ?pure ?cells fun H0 g hf_ hp => ?_
 case pure => exact fun H _ => (show Go.AM.Pure _ from .v _).inH
 case cells => exact hin _
 rw [frame0_of]
 change wpA _ _ _ _ (Fr.of [(0, .sl .no 3 (a0.map WireFault.cells)), (1, f0)]) H0 g
 have hS := St.startH (L := ([] ++ Lo st)) hf_ (hnd st) hp
 replace hS : St (fun i => i < g ∧ i ∉ ids (Lo st)) H0 ([] ++ Lo st) H0 g := hS
 refine r_seq ?_
 refine r_region (n := 1) rfl ?_
 refine o_assign (v := .b false) (by decide) rfl ?_
 refine run_nil ?_
 refine w_next [(0, .sl .no 3 (a0.map WireFault.cells)), (1, f0)] (.k (.k .nil)) ?_
 refine r_seq ?_
 refine r_region (n := 5) rfl ?_
 refine o_move (v := .sl .no 3 (a0.map WireFault.cells)) (by decide) rfl ?_
 refine o_move (v := f0) (by decide) rfl ?_
 obtain ⟨r1, hr1, hM⟩ := bindE hM
 replace hS : St (fun i => i < g ∧ i ∉ ids (Lo st)) H0 ([] ++ Lo st) _ _ := hS
 refine o_stateH (bs := [.sl .no 3 (a0.map WireFault.cells), f0]) (.inl rfl) hS (by decide) rfl rfl ((W_slices_IndexFunc_apiWireFault (Lo := Lo)  hk hnd0 hin (aF := aF) hF h0 hf hr1).le (.k (.k .nil))) (hk _ _).ids (by omega) fun H hS => ?_
 refine o_int (v := .b (decide (r1.1 ≥ 0))) (by decide) rfl rfl rfl ?_
 refine o_assign (v := .b (decide (r1.1 ≥ 0))) (by decide) rfl ?_
 refine run_nil ?_
 refine w_next [(4, .b (decide (r1.1 ≥ 0)))] (.k .nil) ?_
 refine r_ret ?_
 refine w_endS (x := .b (decide (r1.1 ≥ 0))) (f := fun r => .b r.1) (fd := fun r => (Lo r.2)) (.inr rfl) ?_ (.refl _) (Option.some.inj hM) hS 0 rfl
 exact (res_one (res_tmp (x := .b (decide (r1.1 ≥ 0))) rfl))
theorem W_wires_clash {a0 : WireFault} {a1 : WireFault} {r : Bool} (hM : wires_clash a0 a1 = some r) : PureSat Try.prog 94 [.agg (WireFault.cells a0), .agg (WireFault.cells a1)] (.b r) := by
 refine pure_of_wp mixed Try.func94 rfl (by decide) Try.ntmps94 (by simp) ?pure fun H0 g hf => ?_
 case pure => exact .v _
 rw [frame0_of]
 change wpA _ _ _ _ (Fr.of [(0, .agg (WireFault.cells a0)), (1, .agg (WireFault.cells a1))]) H0 g
 have hS := St.start hf
 refine r_seq ?_
 refine r_region (n := 3) rfl ?_
 refine o_box (v := .agg (WireFault.cells a0)) (cs := (WireFault.cells a0)) hS (by decide) rfl rfl (by omega) fun H hS => ?_
 refine o_box (v := .agg (WireFault.cells a1)) (cs := (WireFault.cells a1)) hS (by decide) rfl rfl (by omega) fun H hS => ?_
 refine o_assign (v := .b false) (by decide) rfl ?_
 refine run_nil ?_
 refine w_iceE (L' := [(g + 1, .cells (WireFault.cells a1))]) 1 2 hS rfl rfl rfl fun H hS => ?_
 refine w_iceE (L' := []) 0 3 hS rfl rfl rfl fun H hS => ?_
 refine w_next [(2, .ep (WireFault.cells a0)), (3, .ep (WireFault.cells a1))] (.k (.k .nil)) ?_
 refine w_join (J := Bool) (fun j => [(4, .b j)]) (fun j H' g' => St (· < g) H0 [] H' g' ∧ wires_clash_j1 j = some r) ?_ ?_
 ·rintro v1 H g1 ⟨hS, hM⟩
  change wpA _ _ _ _ (Fr.of [(4, .b v1)]) _ _
  replace hS : St (· < g) H0 [] H g1 := hS
  replace hM : wires_clash_j1 v1 = some r := hM
  refine r_ret ?_
  refine w_end (x := .b v1) (f := fun r => .b r) (.inr rfl) ?_ (.refl _) (Option.some.inj hM) hS
  exact (res_one (res_tmp (x := .b v1) rfl))
 ·refine r_region (n := 39) rfl ?_
  refine o_fieldE (cs := (WireFault.cells a0)) (by decide) ty_fo63_0 rfl ?_
  refine o_loadE (v := .i a0.Kind) (by decide) rfl (part_one ty_agg3 ty_sc3 rfl) ?_
  refine o_fieldE (cs := (WireFault.cells a1)) (by decide) ty_fo63_0 rfl ?_
  refine o_loadE (v := .i a1.Kind) (by decide) rfl (part_one ty_agg3 ty_sc3 rfl) ?_
  refine o_int (v := .b (a0.Kind == a1.Kind)) (by decide) rfl rfl rfl ?_
  refine o_move (v := .b (a0.Kind == a1.Kind)) (by decide) rfl ?_
  rcases Bool.eq_false_or_eq_true (a0.Kind == a1.Kind) with hb2 | hb2
  ·replace hM := ifT hM hb2
   refine o_guardY (j := 5) (e := (a0.Kind == a1.Kind)) (want := true) rfl hb2 ?_
   refine o_fieldE (cs := (WireFault.cells a0)) (by decide) ty_fo63_0 rfl ?_
   refine o_guardY (j := 5) (e := (a0.Kind == a1.Kind)) (want := true) rfl hb2 ?_
   refine o_loadE (v := .i a0.Kind) (by decide) rfl (part_one ty_agg3 ty_sc3 rfl) ?_
   refine o_guardY (j := 5) (e := (a0.Kind == a1.Kind)) (want := true) rfl hb2 ?_
   refine o_int (v := .b (decide (a0.Kind ≥ 3))) (by decide) rfl rfl rfl ?_
   refine o_pickT (v := .b (decide (a0.Kind ≥ 3))) (e := (a0.Kind == a1.Kind)) (by decide) rfl hb2 rfl ?_
   refine o_move (v := .b (decide (a0.Kind ≥ 3))) (by decide) rfl ?_
   rcases Bool.eq_false_or_eq_true (decide (a0.Kind ≥ 3)) with hb3 | hb3
   ·replace hM := ifT hM hb3
    refine o_guardY (j := 10) (e := (decide (a0.Kind ≥ 3))) (want := true) rfl hb3 ?_
    refine o_fieldE (cs := (WireFault.cells a0)) (by decide) ty_fo63_1 rfl ?_
    refine o_guardY (j := 10) (e := (decide (a0.Kind ≥ 3))) (want := true) rfl hb3 ?_
    refine o_loadE (v := .i a0.A) (by decide) rfl (part_one ty_agg3 ty_sc3 rfl) ?_
    refine o_guardY (j := 10) (e := (decide (a0.Kind ≥ 3))) (want := true) rfl hb3 ?_
    refine o_fieldE (cs := (WireFault.cells a1)) (by decide) ty_fo63_1 rfl ?_
    refine o_guardY (j := 10) (e := (decide (a0.Kind ≥ 3))) (want := true) rfl hb3 ?_
    refine o_loadE (v := .i a1.A) (by decide) rfl (part_one ty_agg3 ty_sc3 rfl) ?_
    refine o_guardY (j := 10) (e := (decide (a0.Kind ≥ 3))) (want := true) rfl hb3 ?_
    refine o_int (v := .b (a0.A == a1.A)) (by decide) rfl rfl rfl ?_
    refine o_guardY (j := 10) (e := (decide (a0.Kind ≥ 3))) (want := true) rfl hb3 ?_
    refine o_move (v := .b (a0.A == a1.A)) (by decide) rfl ?_
    rcases Bool.eq_false_or_eq_true (a0.A == a1.A) with hb4 | hb4
    ·replace hM := ifT hM hb4
     refine o_guardN (j := 16) (e := (a0.A == a1.A)) (want := false) (by decide) rfl hb4 ?_
     refine o_guardN (j := 16) (e := (a0.A == a1.A)) (want := false) (by decide) rfl hb4 ?_
     refine o_guardN (j := 16) (e := (a0.A == a1.A)) (want := false) (by decide) rfl hb4 ?_
     refine o_guardN (j := 16) (e := (a0.A == a1.A)) (want := false) (by decide) rfl hb4 ?_
     refine o_guardN (j := 16) (e := (a0.A == a1.A)) (want := false) (by decide) rfl hb4 ?_
     refine o_guardY (j := 10) (e := (decide (a0.Kind ≥ 3))) (want := true) rfl hb3 ?_
     refine o_pickT (v := .b true) (e := (a0.A == a1.A)) (by decide) rfl hb4 rfl ?_
     refine o_guardY (j := 10) (e := (decide (a0.Kind ≥ 3))) (want := true) rfl hb3 ?_
     refine o_move (v := .b true) (by decide) rfl ?_
     refine o_guardN (j := 23) (e := true) (want := false) (by decide) rfl rfl ?_
     refine o_guardN (j := 23) (e := true) (want := false) (by decide) rfl rfl ?_
     refine o_guardN (j := 23) (e := true) (want := false) (by decide) rfl rfl ?_
     refine o_guardN (j := 23) (e := true) (want := false) (by decide) rfl rfl ?_
     refine o_guardN (j := 23) (e := true) (want := false) (by decide) rfl rfl ?_
     refine o_guardY (j := 10) (e := (decide (a0.Kind ≥ 3))) (want := true) rfl hb3 ?_
     refine o_pickT (v := .b true) (e := true) (by decide) rfl rfl rfl ?_
     refine o_guardY (j := 10) (e := (decide (a0.Kind ≥ 3))) (want := true) rfl hb3 ?_
     refine o_move (v := .b true) (by decide) rfl ?_
     refine o_guardN (j := 30) (e := true) (want := false) (by decide) rfl rfl ?_
     refine o_guardN (j := 30) (e := true) (want := false) (by decide) rfl rfl ?_
     refine o_guardN (j := 30) (e := true) (want := false) (by decide) rfl rfl ?_
     refine o_guardN (j := 30) (e := true) (want := false) (by decide) rfl rfl ?_
     refine o_guardN (j := 30) (e := true) (want := false) (by decide) rfl rfl ?_
     refine o_guardY (j := 10) (e := (decide (a0.Kind ≥ 3))) (want := true) rfl hb3 ?_
     refine o_pickT (v := .b true) (e := true) (by decide) rfl rfl rfl ?_
     refine o_pickT (v := .b true) (e := (decide (a0.Kind ≥ 3))) (by decide) rfl hb3 rfl ?_
     refine o_assign (v := .b true) (by decide) rfl ?_
     refine run_nil ?_
     exact w_goto true (.k .nil) ⟨(hS.keep [] rfl).up (by omega), hM⟩
    ·replace hM := ifF hM hb4
     refine o_guardY (j := 16) (e := (a0.A == a1.A)) (want := false) rfl hb4 ?_
     refine o_fieldE (cs := (WireFault.cells a0)) (by decide) ty_fo63_1 rfl ?_
     refine o_guardY (j := 16) (e := (a0.A == a1.A)) (want := false) rfl hb4 ?_
     refine o_loadE (v := .i a0.A) (by decide) rfl (part_one ty_agg3 ty_sc3 rfl) ?_
     refine o_guardY (j := 16) (e := (a0.A == a1.A)) (want := false) rfl hb4 ?_
     refine o_fieldE (cs := (WireFault.cells a1)) (by decide) ty_fo63_2 rfl ?_
     refine o_guardY (j := 16) (e := (a0.A == a1.A)) (want := false) rfl hb4 ?_
     refine o_loadE (v := .i a1.B) (by decide) rfl (part_one ty_agg3 ty_sc3 rfl) ?_
     refine o_guardY (j := 16) (e := (a0.A == a1.A)) (want := false) rfl hb4 ?_
     refine o_int (v := .b (a0.A == a1.B)) (by decide) rfl rfl rfl ?_
     refine o_guardY (j := 10) (e := (decide (a0.Kind ≥ 3))) (want := true) rfl hb3 ?_
     refine o_pickF (v := .b (a0.A == a1.B)) (e := (a0.A == a1.A)) (by decide) rfl hb4 rfl ?_
     refine o_guardY (j := 10) (e := (decide (a0.Kind ≥ 3))) (want := true) rfl hb3 ?_
     refine o_move (v := .b (a0.A == a1.B)) (by decide) rfl ?_
     rcases Bool.eq_false_or_eq_true (a0.A == a1.B) with hb5 | hb5
     ·replace hM := ifT hM hb5
      refine o_guardN (j := 23) (e := (a0.A == a1.B)) (want := false) (by decide) rfl hb5 ?_
      refine o_guardN (j := 23) (e := (a0.A == a1.B)) (want := false) (by decide) rfl hb5 ?_
      refine o_guardN (j := 23) (e := (a0.A == a1.B)) (want := false) (by decide) rfl hb5 ?_
      refine o_guardN (j := 23) (e := (a0.A == a1.B)) (want := false) (by decide) rfl hb5 ?_
      refine o_guardN (j := 23) (e := (a0.A == a1.B)) (want := false) (by decide) rfl hb5 ?_
      refine o_guardY (j := 10) (e := (decide (a0.Kind ≥ 3))) (want := true) rfl hb3 ?_
      refine o_pickT (v := .b true) (e := (a0.A == a1.B)) (by decide) rfl hb5 rfl ?_
      refine o_guardY (j := 10) (e := (decide (a0.Kind ≥ 3))) (want := true) rfl hb3 ?_
      refine o_move (v := .b true) (by decide) rfl ?_
      refine o_guardN (j := 30) (e := true) (want := false) (by decide) rfl rfl ?_
      refine o_guardN (j := 30) (e := true) (want := false) (by decide) rfl rfl ?_
      refine o_guardN (j := 30) (e := true) (want := false) (by decide) rfl rfl ?_
      refine o_guardN (j := 30) (e := true) (want := false) (by decide) rfl rfl ?_
      refine o_guardN (j := 30) (e := true) (want := false) (by decide) rfl rfl ?_
      refine o_guardY (j := 10) (e := (decide (a0.Kind ≥ 3))) (want := true) rfl hb3 ?_
      refine o_pickT (v := .b true) (e := true) (by decide) rfl rfl rfl ?_
      refine o_pickT (v := .b true) (e := (decide (a0.Kind ≥ 3))) (by decide) rfl hb3 rfl ?_
      refine o_assign (v := .b true) (by decide) rfl ?_
      refine run_nil ?_
      exact w_goto true (.k .nil) ⟨(hS.keep [] rfl).up (by omega), hM⟩
     ·replace hM := ifF hM hb5
      refine o_guardY (j := 23) (e := (a0.A == a1.B)) (want := false) rfl hb5 ?_
      refine o_fieldE (cs := (WireFault.cells a0)) (by decide) ty_fo63_2 rfl ?_
      refine o_guardY (j := 23) (e := (a0.A == a1.B)) (want := false) rfl hb5 ?_
      refine o_loadE (v := .i a0.B) (by decide) rfl (part_one ty_agg3 ty_sc3 rfl) ?_
      refine o_guardY (j := 23) (e := (a0.A == a1.B)) (want := false) rfl hb5 ?_
      refine o_fieldE (cs := (WireFault.cells a1)) (by decide) ty_fo63_1 rfl ?_
      refine o_guardY (j := 23) (e := (a0.A == a1.B)) (want := false) rfl hb5 ?_
      refine o_loadE (v := .i a1.A) (by decide) rfl (part_one ty_agg3 ty_sc3 rfl) ?_
      refine o_guardY (j := 23) (e := (a0.A == a1.B)) (want := false) rfl hb5 ?_
      refine o_int (v := .b (a0.B == a1.A)) (by decide) rfl rfl rfl ?_
      refine o_guardY (j := 10) (e := (decide (a0.Kind ≥ 3))) (want := true) rfl hb3 ?_
      refine o_pickF (v := .b (a0.B == a1.A)) (e := (a0.A == a1.B)) (by decide) rfl hb5 rfl ?_
      refine o_guardY (j := 10) (e := (decide (a0.Kind ≥ 3))) (want := true) rfl hb3 ?_
      refine o_move (v := .b (a0.B == a1.A)) (by decide) rfl ?_
      rcases Bool.eq_false_or_eq_true (a0.B == a1.A) with hb6 | hb6
      ·replace hM := ifT hM hb6
       refine o_guardN (j := 30) (e := (a0.B == a1.A)) (want := false) (by decide) rfl hb6 ?_
       refine o_guardN (j := 30) (e := (a0.B == a1.A)) (want := false) (by decide) rfl hb6 ?_
       refine o_guardN (j := 30) (e := (a0.B == a1.A)) (want := false) (by decide) rfl hb6 ?_
       refine o_guardN (j := 30) (e := (a0.B == a1.A)) (want := false) (by decide) rfl hb6 ?_
       refine o_guardN (j := 30) (e := (a0.B == a1.A)) (want := false) (by decide) rfl hb6 ?_
       refine o_guardY (j := 10) (e := (decide (a0.Kind ≥ 3))) (want := true) rfl hb3 ?_
       refine o_pickT (v := .b true) (e := (a0.B == a1.A)) (by decide) rfl hb6 rfl ?_
       refine o_pickT (v := .b true) (e := (decide (a0.Kind ≥ 3))) (by decide) rfl hb3 rfl ?_
       refine o_assign (v := .b true) (by decide) rfl ?_
       refine run_nil ?_
       exact w_goto true (.k .nil) ⟨(hS.keep [] rfl).up (by omega), hM⟩
      ·replace hM := ifF hM hb6
       refine o_guardY (j := 30) (e := (a0.B == a1.A)) (want := false) rfl hb6 ?_
       refine o_fieldE (cs := (WireFault.cells a0)) (by decide) ty_fo63_2 rfl ?_
       refine o_guardY (j := 30) (e := (a0.B == a1.A)) (want := false) rfl hb6 ?_
       refine o_loadE (v := .i a0.B) (by decide) rfl (part_one ty_agg3 ty_sc3 rfl) ?_
       refine o_guardY (j := 30) (e := (a0.B == a1.A)) (want := false) rfl hb6 ?_
       refine o_fieldE (cs := (WireFault.cells a1)) (by decide) ty_fo63_2 rfl ?_
       refine o_guardY (j := 30) (e := (a0.B == a1.A)) (want := false) rfl hb6 ?_
       refine o_loadE (v := .i a1.B) (by decide) rfl (part_one ty_agg3 ty_sc3 rfl) ?_
       refine o_guardY (j := 30) (e := (a0.B == a1.A)) (want := false) rfl hb6 ?_
       refine o_int (v := .b (a0.B == a1.B)) (by decide) rfl rfl rfl ?_
       refine o_guardY (j := 10) (e := (decide (a0.Kind ≥ 3))) (want := true) rfl hb3 ?_
       refine o_pickF (v := .b (a0.B == a1.B)) (e := (a0.B == a1.A)) (by decide) rfl hb6 rfl ?_
       refine o_pickT (v := .b (a0.B == a1.B)) (e := (decide (a0.Kind ≥ 3))) (by decide) rfl hb3 rfl ?_
       refine o_assign (v := .b (a0.B == a1.B)) (by decide) rfl ?_
       refine run_nil ?_
       exact w_goto (a0.B == a1.B) (.k .nil) ⟨(hS.keep [] rfl).up (by omega), hM⟩
   ·replace hM := ifF hM hb3
    refine o_guardN (j := 10) (e := (decide (a0.Kind ≥ 3))) (want := true) (by decide) rfl hb3 ?_
    refine o_guardN (j := 10) (e := (decide (a0.Kind ≥ 3))) (want := true) (by decide) rfl hb3 ?_
    refine o_guardN (j := 10) (e := (decide (a0.Kind ≥ 3))) (want := true) (by decide) rfl hb3 ?_
    refine o_guardN (j := 10) (e := (decide (a0.Kind ≥ 3))) (want := true) (by decide) rfl hb3 ?_
    refine o_guardN (j := 10) (e := (decide (a0.Kind ≥ 3))) (want := true) (by decide) rfl hb3 ?_
    refine o_guardN (j := 10) (e := (decide (a0.Kind ≥ 3))) (want := true) (by decide) rfl hb3 ?_
    refine o_guardU (j := 16) (by decide) rfl ?_
    refine o_guardU (j := 16) (by decide) rfl ?_
    refine o_guardU (j := 16) (by decide) rfl ?_
    refine o_guardU (j := 16) (by decide) rfl ?_
    refine o_guardU (j := 16) (by decide) rfl ?_
    refine o_guardN (j := 10) (e := (decide (a0.Kind ≥ 3))) (want := true) (by decide) rfl hb3 ?_
    refine o_guardN (j := 10) (e := (decide (a0.Kind ≥ 3))) (want := true) (by decide) rfl hb3 ?_
    refine o_guardU (j := 23) (by decide) rfl ?_
    refine o_guardU (j := 23) (by decide) rfl ?_
    refine o_guardU (j := 23) (by decide) rfl ?_
    refine o_guardU (j := 23) (by decide) rfl ?_
    refine o_guardU (j := 23) (by decide) rfl ?_
    refine o_guardN (j := 10) (e := (decide (a0.Kind ≥ 3))) (want := true) (by decide) rfl hb3 ?_
    refine o_guardN (j := 10) (e := (decide (a0.Kind ≥ 3))) (want := true) (by decide) rfl hb3 ?_
    refine o_guardU (j := 30) (by decide) rfl ?_
    refine o_guardU (j := 30) (by decide) rfl ?_
    refine o_guardU (j := 30) (by decide) rfl ?_
    refine o_guardU (j := 30) (by decide) rfl ?_
    refine o_guardU (j := 30) (by decide) rfl ?_
    refine o_guardN (j := 10) (e := (decide (a0.Kind ≥ 3))) (want := true) (by decide) rfl hb3 ?_
    refine o_pickF (v := .b false) (e := (decide (a0.Kind ≥ 3))) (by decide) rfl hb3 rfl ?_
    refine o_assign (v := .b false) (by decide) rfl ?_
    refine run_nil ?_
    exact w_goto false (.k .nil) ⟨(hS.keep [] rfl).up (by omega), hM⟩
  ·replace hM := ifF hM hb2
   refine o_guardN (j := 5) (e := (a0.Kind == a1.Kind)) (want := true) (by decide) rfl hb2 ?_
   refine o_guardN (j := 5) (e := (a0.Kind == a1.Kind)) (want := true) (by decide) rfl hb2 ?_
   refine o_guardN (j := 5) (e := (a0.Kind == a1.Kind)) (want := true) (by decide) rfl hb2 ?_
   refine o_pickF (v := .b false) (e := (a0.Kind == a1.Kind)) (by decide) rfl hb2 rfl ?_
   refine o_move (v := .b false) (by decide) rfl ?_
   refine o_guardN (j := 10) (e := false) (want := true) (by decide) rfl rfl ?_
   refine o_guardN (j := 10) (e := false) (want := true) (by decide) rfl rfl ?_
   refine o_guardN (j := 10) (e := false) (want := true) (by decide) rfl rfl ?_
   refine o_guardN (j := 10) (e := false) (want := true) (by decide) rfl rfl ?_
   refine o_guardN (j := 10) (e := false) (want := true) (by decide) rfl rfl ?_
   refine o_guardN (j := 10) (e := false) (want := true) (by decide) rfl rfl ?_
   refine o_guardU (j := 16) (by decide) rfl ?_
   refine o_guardU (j := 16) (by decide) rfl ?_
   refine o_guardU (j := 16) (by decide) rfl ?_
   refine o_guardU (j := 16) (by decide) rfl ?_
   refine o_guardU (j := 16) (by decide) rfl ?_
   refine o_guardN (j := 10) (e := false) (want := true) (by decide) rfl rfl ?_
   refine o_guardN (j := 10) (e := false) (want := true) (by decide) rfl rfl ?_
   refine o_guardU (j := 23) (by decide) rfl ?_
   refine o_guardU (j := 23) (by decide) rfl ?_
   refine o_guardU (j := 23) (by decide) rfl ?_
   refine o_guardU (j := 23) (by decide) rfl ?_
   refine o_guardU (j := 23) (by decide) rfl ?_
   refine o_guardN (j := 10) (e := false) (want := true) (by decide) rfl rfl ?_
   refine o_guardN (j := 10) (e := false) (want := true) (by decide) rfl rfl ?_
   refine o_guardU (j := 30) (by decide) rfl ?_
   refine o_guardU (j := 30) (by decide) rfl ?_
   refine o_guardU (j := 30) (by decide) rfl ?_
   refine o_guardU (j := 30) (by decide) rfl ?_
   refine o_guardU (j := 30) (by decide) rfl ?_
   refine o_guardN (j := 10) (e := false) (want := true) (by decide) rfl rfl ?_
   refine o_pickF (v := .b false) (e := false) (by decide) rfl rfl rfl ?_
   refine o_assign (v := .b false) (by decide) rfl ?_
   refine run_nil ?_
   exact w_goto false (.k .nil) ⟨(hS.keep [] rfl).up (by omega), hM⟩
theorem W_wires_wiring_sets_c1 {a0 : WireFault} {a1 : WireFault} {r : Bool} (hM : wires_wiring_sets_c1 a0 a1 = some r) : PureSat Try.prog 117 [.agg (WireFault.cells a0), .ep (WireFault.cells a1)] (.b r) := by
 refine pure_of_wp mixed Try.func117 rfl (by decide) Try.ntmps117 (by simp) ?pure fun H0 g hf => ?_
 case pure => exact .v _
 rw [frame0_of]
 change wpA _ _ _ _ (Fr.of [(0, .agg (WireFault.cells a0)), (1, .ep (WireFault.cells a1))]) H0 g
 have hS := St.start hf
 refine r_seq ?_
 refine r_region (n := 2) rfl ?_
 refine o_box (v := .agg (WireFault.cells a0)) (cs := (WireFault.cells a0)) hS (by decide) rfl rfl (by omega) fun H hS => ?_
 refine o_assign (v := .b false) (by decide) rfl ?_
 refine run_nil ?_
 refine w_iceE (L' := []) 0 2 hS rfl rfl rfl fun H hS => ?_
 refine w_next [(1, .ep (WireFault.cells a1)), (2, .ep (WireFault.cells a0))] (.k (.k .nil)) ?_
 refine r_seq ?_
 refine r_region (n := 4) rfl ?_
 refine o_loadE (v := .agg (WireFault.cells a1)) (by decide) rfl (part_agg ty_agg63 (Nat.le_of_ble_eq_true rfl) rfl) ?_
 refine o_loadE (v := .agg (WireFault.cells a0)) (by decide) rfl (part_agg ty_agg63 (Nat.le_of_ble_eq_true rfl) rfl) ?_
 obtain ⟨r1, hr1, hM⟩ := bindE hM
 refine o_call (bs := [.agg (WireFault.cells a1), .agg (WireFault.cells a0)]) (by decide) rfl rfl ((W_wires_clash hr1).le (.k (.k .nil))) ?_
 refine o_assign (v := .b r1) (by decide) rfl ?_
 refine run_nil ?_
 refine w_next [(3, .b r1)] (.k .nil) ?_
 refine r_ret ?_
 refine w_end (x := .b r1) (f := fun r => .b r) (.inr rfl) ?_ (.refl _) (Option.some.inj hM) hS
 exact (res_one (res_tmp (x := .b r1) rfl))
theorem W_wires_wiring_sets_b {S : Type} {Lo : S → BL} (hk : ∀ s s', KinL (Lo s) (Lo s')) (hnd : ∀ s, (ids (Lo s)).Nodup) (hin : ∀ s, InB In (Lo s)) {aF : (List WireFault) → S → Option (Bool × S)} {f0 : AV} (hF : ∀ s H, Has H (Lo s) → In H f0) (h0 : cellsOf f0 = some [f0]) (hf : ∀ {x0 : List WireFault} {s : S} {r : Bool × S}, aF x0 s = some r → CSat Try.prog f0 [.sl .no 3 (x0.map WireFault.cells)] (Lo s) (.b r.1) (Lo r.2)) {n : Nat} {rec : (Option Wiring_) → (List WireFault) → Int → Int → S → Option (Bool × S)} (hrec : ∀ {a0 : Option Wiring_} {a1 : List WireFault} {a2 : Int} {a3 : Int} {st : S} {r : Bool × S}, rec a0 a1 a2 a3 st = some r → HSat Try.prog 99 [pA Wiring_.cells a0, .sl .no 3 (a1.map WireFault.cells), .i a2, .i a3, f0] (Lo st) (.b r.1) (Lo r.2)) {a0 : Option Wiring_} {a1 : List WireFault} {a2 : Int} {a3 : Int} {st : S} {r : Bool × S} (hM : wires_wiring_sets_b n rec aF a0 a1 a2 a3 st = some r) : HSat Try.prog 99 [pA Wiring_.cells a0, .sl .no 3 (a1.map WireFault.cells), .i a2, .i a3, f0] (Lo st) (.b r.1) (Lo r.2) := by
 have hnd0 : ∀ s, (ids (Lo s)).Nodup := fun s => hnd s
 refine hsat_of_wp mixed Try.func99 rfl (by decide) Try.ntmps99 (by simp) (hk _ _) (hnd st) ?pure ?cells fun H0 g hf_ hp => ?_
 case pure => exact fun H _ => (show Go.AM.Pure _ from .v _).inH
 case cells => exact hin _
 rw [frame0_of]
 change wpA _ _ _ _ (Fr.of [(0, pA Wiring_.cells a0), (1, .sl .no 3 (a1.map WireFault.cells)), (2, .i a2), (3, .i a3), (4, f0)]) H0 g
 have hS := St.startH (L := ([] ++ Lo st)) hf_ (hnd st) hp
 replace hS : St (fun i => i < g ∧ i ∉ ids (Lo st)) H0 ([] ++ Lo st) H0 g := hS
 refine r_seq ?_
 refine r_region (n := 1) rfl ?_
 refine o_assign (v := .b false) (by decide) rfl ?_
 refine run_nil ?_
 refine w_next [(0, pA Wiring_.cells a0), (1, .sl .no 3 (a1.map WireFault.cells)), (2, .i a2), (3, .i a3), (4, f0)] (.k (.k (.k (.k (.k .nil))))) ?_
 refine r_seq ?_
 refine r_seq ?_
 refine r_region (n := 4) rfl ?_
 refine o_move (v := f0) (by decide) rfl ?_
 refine o_move (v := .sl .no 3 (a1.map WireFault.cells)) (by decide) rfl ?_
 obtain ⟨r1, hr1, hM⟩ := bindE hM
 replace hS : St (fun i => i < g ∧ i ∉ ids (Lo st)) H0 ([] ++ Lo st) _ _ := hS
 refine o_state (bs := [.sl .no 3 (a1.map WireFault.cells)]) (.inl rfl) hS (by decide) rfl rfl ((hf hr1).le (.k .nil)) (hk _ _).ids (by omega) fun H hS => ?_
 refine o_not (e := r1.1) (by decide) rfl ?_
 refine run_nil ?_
 refine w_next [(0, pA Wiring_.cells a0), (1, .sl .no 3 (a1.map WireFault.cells)), (2, .i a2), (3, .i a3), (4, f0), (16, .b (!r1.1))] (.k (.k (.k (.k (.k (.k .nil)))))) ?_
 rcases Bool.eq_false_or_eq_true (!r1.1) with hb2 | hb2
 ·replace hM := ifT hM hb2
  refine w_condT (e := (!r1.1)) rfl hb2 ?_
  refine r_seq ?_
  refine r_region (n := 1) rfl ?_
  refine o_assign (v := .b false) (by decide) rfl ?_
  refine run_nil ?_
  refine w_next [(10, .b false)] (.k .nil) ?_
  refine r_ret ?_
  refine r_then_ret ?_
  refine w_endS (x := .b false) (f := fun r => .b r.1) (fd := fun r => (Lo r.2)) (.inr rfl) ?_ (.refl _) (Option.some.inj hM) hS 0 rfl
  exact (res_one (res_tmp (x := .b false) rfl))
 ·replace hM := ifF hM hb2
  refine w_condF (e := (!r1.1)) rfl hb2 ?_
  refine r_skip ?_
  refine w_next [(0, pA Wiring_.cells a0), (1, .sl .no 3 (a1.map WireFault.cells)), (2, .i a2), (3, .i a3), (4, f0)] (.k (.k (.k (.k (.k .nil))))) ?_
  refine r_seq ?_
  refine r_seq ?_
  refine r_region (n := 2) rfl ?_
  refine o_move (v := .i a3) (by decide) rfl ?_
  refine o_int (v := .b (a3 == 0)) (by decide) rfl rfl rfl ?_
  refine run_nil ?_
  refine w_next [(0, pA Wiring_.cells a0), (1, .sl .no 3 (a1.map WireFault.cells)), (2, .i a2), (3, .i a3), (4, f0), (18, .b (a3 == 0))] (.k (.k (.k (.k (.k (.k .nil)))))) ?_
  rcases Bool.eq_false_or_eq_true (a3 == 0) with hb3 | hb3
  ·replace hM := ifT hM hb3
   refine w_condT (e := (a3 == 0)) rfl hb3 ?_
   refine r_seq ?_
   refine r_region (n := 1) rfl ?_
   refine o_assign (v := .b true) (by decide) rfl ?_
   refine run_nil ?_
   refine w_next [(10, .b true)] (.k .nil) ?_
   refine r_ret ?_
   refine r_then_ret ?_
   refine w_endS (x := .b true) (f := fun r => .b r.1) (fd := fun r => (Lo r.2)) (.inr rfl) ?_ (.refl _) (Option.some.inj hM) hS 0 rfl
   exact (res_one (res_tmp (x := .b true) rfl))
  ·replace hM := ifF hM hb3
   refine w_condF (e := (a3 == 0)) rfl hb3 ?_
   refine r_skip ?_
   refine w_next [(0, pA Wiring_.cells a0), (1, .sl .no 3 (a1.map WireFault.cells)), (2, .i a2), (3, .i a3), (4, f0)] (.k (.k (.k (.k (.k .nil))))) ?_
   refine w_join (J := S) (fun j => []) (fun j H' g' => St (fun i => i < g ∧ i ∉ ids (Lo st)) H0 ([] ++ Lo j) H' g' ∧ wires_wiring_sets_j1 j = some r) ?_ ?_
   ·rintro v4 H g1 ⟨hS, hM⟩
    change wpA _ _ _ _ (Fr.of []) _ _
    replace hS : St (fun i => i < g ∧ i ∉ ids (Lo st)) H0 ([] ++ Lo v4) H g1 := hS
    replace hM : wires_wiring_sets_j1 v4 = some r := hM
    refine r_seq ?_
    refine r_region (n := 1) rfl ?_
    refine o_assign (v := .b true) (by decide) rfl ?_
    refine run_nil ?_
    refine w_next [(10, .b true)] (.k .nil) ?_
    refine r_ret ?_
    refine w_endS (x := .b true) (f := fun r => .b r.1) (fd := fun r => (Lo r.2)) (.inr rfl) ?_ (.refl _) (Option.some.inj hM) hS 0 rfl
    exact (res_one (res_tmp (x := .b true) rfl))
   ·refine r_seq ?_
    refine r_region (n := 2) rfl ?_
    refine o_move (v := .i a2) (by decide) rfl ?_
    refine o_assign (v := .i a2) (by decide) rfl ?_
    refine run_nil ?_
    refine w_next [(0, pA Wiring_.cells a0), (1, .sl .no 3 (a1.map WireFault.cells)), (3, .i a3), (4, f0), (11, .i a2)] (.k (.k (.k (.k (.k .nil))))) ?_
    refine r_block ?_
    refine w_loop (V := Int × S) (fun v => [(0, pA Wiring_.cells a0), (1, .sl .no 3 (a1.map WireFault.cells)), (3, .i a3), (4, f0), (11, .i v.1)]) (fun v m3 H' g' => St (fun i => i < g ∧ i ∉ ids (Lo st)) H0 ([] ++ Lo v.2) H' g' ∧ wires_wiring_sets_l1 n rec a0 a1 a3 m3 v.1 v.2 = some r) (n := n) (a2, r1.2) (.k (.k (.k (.k (.k .nil))))) ⟨(hS.keep [] rfl).up (by omega), hM⟩ ?_
    rintro ⟨v6, v7⟩ m3 H g3 ⟨hS, hM⟩
    obtain _ | m3 := m3
    ·exact nomatch (show none = some _ from hM)
    change wpA _ _ _ _ (Fr.of [(0, pA Wiring_.cells a0), (1, .sl .no 3 (a1.map WireFault.cells)), (3, .i a3), (4, f0), (11, .i v6)]) _ _
    replace hS : St (fun i => i < g ∧ i ∉ ids (Lo st)) H0 ([] ++ Lo v7) H g3 := hS
    replace hM : wires_wiring_sets_l1_b n rec a0 a1 a3 (wires_wiring_sets_l1 n rec a0 a1 a3 m3) v6 v7 = some r := hM
    refine r_seq ?_
    refine r_seq ?_
    refine r_region (n := 7) rfl ?_
    refine o_move (v := .i v6) (by decide) rfl ?_
    refine o_move (v := pA Wiring_.cells a0) (by decide) rfl ?_
    obtain ⟨x8, hx8, hM⟩ := bindE hM
    refine o_nilA (f := Wiring_.cells) (p := a0) (u := x8) (by decide) rfl hx8 ?_
    refine o_fieldE (cs := [.i x8.Wire.Letters, .i x8.Wire.Numbers, .sl .no 3 (x8.Wire.Presses.map WirePress.cells), .i x8.Wire.Faults, .sl .no 3 (x8.all.map WireFault.cells)]) (by decide) ty_fo101_1 rfl ?_
    refine o_loadE (v := .sl .no 3 (x8.all.map WireFault.cells)) (by decide) rfl (part_one ty_agg31 ty_sc31 rfl) ?_
    refine o_len (n := x8.all.length) (by decide) rfl (List.length_map _) ty_isl31 ?_
    refine o_int (v := .b (decide (v6 < (x8.all.length : Int)))) (by decide) rfl rfl rfl ?_
    refine run_nil ?_
    refine w_next [(0, pA Wiring_.cells a0), (1, .sl .no 3 (a1.map WireFault.cells)), (3, .i a3), (4, f0), (11, .i v6), (26, .b (decide (v6 < (x8.all.length : Int))))] (.k (.k (.k (.k (.k (.k .nil)))))) ?_
    rcases Bool.eq_false_or_eq_true (decide (v6 < (x8.all.length : Int))) with hb9 | hb9
    ·replace hM := ifT hM hb9
     refine w_condT (e := (decide (v6 < (x8.all.length : Int)))) rfl hb9 ?_
     refine r_skip ?_
     refine w_next [(0, pA Wiring_.cells a0), (1, .sl .no 3 (a1.map WireFault.cells)), (3, .i a3), (4, f0), (11, .i v6)] (.k (.k (.k (.k (.k .nil))))) ?_
     refine w_join (J := S) (fun j => [(0, pA Wiring_.cells a0), (1, .sl .no 3 (a1.map WireFault.cells)), (3, .i a3), (4, f0), (11, .i v6)]) (fun j H' g' => St (fun i => i < g ∧ i ∉ ids (Lo st)) H0 ([] ++ Lo j) H' g' ∧ wires_wiring_sets_j2 (wires_wiring_sets_l1 n rec a0 a1 a3 m3) v6 j = some r) ?_ ?_
     ·rintro v10 H g4 ⟨hS, hM⟩
      change wpA _ _ _ _ (Fr.of [(0, pA Wiring_.cells a0), (1, .sl .no 3 (a1.map WireFault.cells)), (3, .i a3), (4, f0), (11, .i v6)]) _ _
      replace hS : St (fun i => i < g ∧ i ∉ ids (Lo st)) H0 ([] ++ Lo v10) H g4 := hS
      replace hM : wires_wiring_sets_j2 (wires_wiring_sets_l1 n rec a0 a1 a3 m3) v6 v10 = some r := hM
      refine r_region (n := 3) rfl ?_
      refine o_move (v := .i v6) (by decide) rfl ?_
      refine o_int (v := .i (w64 (v6 + 1))) (by decide) rfl rfl rfl ?_
      refine o_assign (v := .i (w64 (v6 + 1))) (by decide) rfl ?_
      refine run_nil ?_
      exact w_round (w64 (v6 + 1), v10) (Nat.lt_succ_self _) (.k (.k (.k (.k (.k .nil))))) ⟨(hS.keep [] rfl).up (by omega), hM⟩
     ·refine r_block ?_
      refine r_seq ?_
      refine r_region (n := 9) rfl ?_
      refine o_move (v := pA Wiring_.cells a0) (by decide) rfl ?_
      obtain ⟨x11, hx11, hM⟩ := bindE hM
      refine o_nilA (f := Wiring_.cells) (p := a0) (u := x11) (by decide) rfl hx11 ?_
      refine o_fieldE (cs := [.i x11.Wire.Letters, .i x11.Wire.Numbers, .sl .no 3 (x11.Wire.Presses.map WirePress.cells), .i x11.Wire.Faults, .sl .no 3 (x11.all.map WireFault.cells)]) (by decide) ty_fo101_1 rfl ?_
      refine o_loadE (v := .sl .no 3 (x11.all.map WireFault.cells)) (by decide) rfl (part_one ty_agg31 ty_sc31 rfl) ?_
      refine o_move (v := .i v6) (by decide) rfl ?_
      obtain ⟨x12, hx12, hM⟩ := bindE hM
      refine o_index (xs := x11.all) (f := WireFault.cells) (z := v6) (u := x12) (by decide) rfl rfl ty_es31 hx12 ?_
      refine o_loadE (v := .agg (WireFault.cells x12)) (by decide) rfl (part_agg ty_agg63 (Nat.le_of_ble_eq_true rfl) rfl) ?_
      refine o_alloc hS (by decide) ty_zero63 (by omega) fun H hS => ?_
      refine o_store (v := .agg (WireFault.cells x12)) (ns := (WireFault.cells x12)) (L' := ([(g3 + 7 + 7, .cells (WireFault.cells x12))] ++ Lo v7)) 0 hS rfl rfl .no rfl rfl ty_var63 (Nat.le_of_ble_eq_true rfl) rfl fun H hS => ?_
      refine run_nil ?_
      refine w_iceE (L' := ([] ++ Lo v7)) 0 12 hS rfl rfl rfl fun H hS => ?_
      refine w_next [(0, pA Wiring_.cells a0), (1, .sl .no 3 (a1.map WireFault.cells)), (3, .i a3), (4, f0), (11, .i v6), (12, .ep (WireFault.cells x12))] (.k (.k (.k (.k (.k (.k .nil)))))) ?_
      refine r_seq ?_
      refine r_seq ?_
      refine r_region (n := 3) rfl ?_
      refine o_move (v := .sl .no 3 (a1.map WireFault.cells)) (by decide) rfl ?_
      refine o_makeFunc (first := []) (cap := [.ep (WireFault.cells x12)]) (by decide) rfl rfl ?_
      obtain ⟨r13, hr13, hM⟩ := bindE hM
      refine o_call (bs := [.sl .no 3 (a1.map WireFault.cells), .fn (.func 117) [] [.ep (WireFault.cells x12)]]) (by decide) rfl rfl (pure_of_hsat ((W_slices_ContainsFunc_apiWireFault (Lo := (fun (_ : Unit) => []))  (fun _ _ => kl_nil) (fun _ => List.nodup_nil) (fun _ => inb_nil) (aF := (fun (x0 : WireFault) (_ : Unit) => (wires_wiring_sets_c1 x0 x12).map fun y => (y, ()))) (fun _ H hH => (.fn _ _ _ ai_nil (ai_cons (.ep _ (ai_cons (show Go.AM.Pure _ from .v _).inH (ai_cons (show Go.AM.Pure _ from .v _).inH (ai_cons (show Go.AM.Pure _ from .v _).inH ai_nil)))) ai_nil))) rfl (fun h => csat_val (W_wires_wiring_sets_c1 (pure_some h))) hr13).le (.k (.k .nil)))) ?_
      refine run_nil ?_
      refine w_next [(0, pA Wiring_.cells a0), (1, .sl .no 3 (a1.map WireFault.cells)), (3, .i a3), (4, f0), (11, .i v6), (12, .ep (WireFault.cells x12)), (38, .b r13.1)] (.k (.k (.k (.k (.k (.k (.k .nil))))))) ?_
      rcases Bool.eq_false_or_eq_true r13.1 with hb14 | hb14
      ·replace hM := ifT hM hb14
       refine w_condT (e := r13.1) rfl hb14 ?_
       refine r_exit ?_
       refine r_then_exit ?_
       refine r_blk_exit ?_
       exact w_goto v7 (.k (.k (.k (.k (.k .nil))))) ⟨(hS.keep [] rfl).up (by omega), hM⟩
      ·replace hM := ifF hM hb14
       refine w_condF (e := r13.1) rfl hb14 ?_
       refine r_skip ?_
       refine w_next [(0, pA Wiring_.cells a0), (1, .sl .no 3 (a1.map WireFault.cells)), (3, .i a3), (4, f0), (11, .i v6), (12, .ep (WireFault.cells x12))] (.k (.k (.k (.k (.k (.k .nil)))))) ?_
       refine r_seq ?_
       have hS0 := hS
       refine r_draw (n := 17) rfl (by kernel_rfl) ?_
       refine o_move (v := pA Wiring_.cells a0) (by decide) rfl ?_
       refine o_move (v := .sl .no 3 (a1.map WireFault.cells)) (by decide) rfl ?_
       refine o_move (v := .sl .no 3 (a1.map WireFault.cells)) (by decide) rfl ?_
       refine o_len (n := a1.length) (by decide) rfl (List.length_map _) ty_isl31 ?_
       refine o_move (v := .sl .no 3 (a1.map WireFault.cells)) (by decide) rfl ?_
       refine o_len (n := a1.length) (by decide) rfl (List.length_map _) ty_isl31 ?_
       obtain ⟨c15, hc15, hM⟩ := bindE hM
       refine o_sliceC (xs := a1) (ys := c15) (f := WireFault.cells) (q := (a1.length : Int)) (by decide) rfl ty_es31 rfl rfl hc15 ?_
       refine o_loadE (v := .agg (WireFault.cells x12)) (by decide) rfl (part_agg ty_agg63 (Nat.le_of_ble_eq_true rfl) rfl) ?_
       refine o_buildSlice (es := [(WireFault.cells x12)]) hS (by decide) ty_es31 ty_el31 rfl ty_ef31 rfl (by decide) (by omega) fun H hS => ?_
       obtain ⟨l16, hl16, hM⟩ := bindE hM
       refine o_appendC (xs := c15) (ys := ([x12] : List WireFault)) (zs := l16) (f := WireFault.cells) hS (by decide) rfl rfl (List.cons_ne_nil _ _) ty_es31 ty_el31 ty_ef31 hl16 (by omega) fun H hS => ?_
       refine o_move (v := .i v6) (by decide) rfl ?_
       refine o_int (v := .i (w64 (v6 + 1))) (by decide) rfl rfl rfl ?_
       refine o_move (v := .i a3) (by decide) rfl ?_
       refine o_int (v := .i (w64 (a3 - 1))) (by decide) rfl rfl rfl ?_
       refine o_move (v := f0) (by decide) rfl ?_
       obtain ⟨r17, hr17, hM⟩ := bindE hM
       replace hS : St (fun i => i < g ∧ i ∉ ids (Lo st)) H0 ([(g3 + 7 + 9 + 3 + 9, .row 63 l16.length), (g3 + 7 + 9 + 3 + 8, .row 63 1)] ++ Lo v7) _ _ := hS
       refine o_stateH (bs := [pA Wiring_.cells a0, .sl (.id (g3 + 7 + 9 + 3 + 9)) 3 (l16.map WireFault.cells), .i (w64 (v6 + 1)), .i (w64 (a3 - 1)), f0]) (.inr (by kernel_rfl)) hS (by decide) rfl rfl ((hrec hr17).le (.k (.cons (.sl _ _ _) (.k (.k (.k .nil)))))) (hk _ _).ids (by omega) fun H hS => ?_
       refine o_not (e := r17.1) (by decide) rfl ?_
       refine run_nil ?_
       replace hS := hS.keep (L' := ([] ++ Lo r17.2)) [false, false] rfl
       refine w_next [(0, pA Wiring_.cells a0), (1, .sl .no 3 (a1.map WireFault.cells)), (3, .i a3), (4, f0), (11, .i v6), (55, .b (!r17.1))] (.k (.k (.k (.k (.k (.k .nil)))))) ?_
       rcases Bool.eq_false_or_eq_true (!r17.1) with hb18 | hb18
       ·replace hM := ifT hM hb18
        refine w_condT (e := (!r17.1)) rfl hb18 ?_
        refine r_seq ?_
        refine r_region (n := 1) rfl ?_
        refine o_assign (v := .b false) (by decide) rfl ?_
        refine run_nil ?_
        refine w_next [(10, .b false)] (.k .nil) ?_
        refine r_ret ?_
        refine r_blk_ret ?_
        refine w_goto_ret ?_
        refine w_round_ret ?_
        refine r_blk_ret ?_
        refine w_goto_ret ?_
        refine w_endS (x := .b false) (f := fun r => .b r.1) (fd := fun r => (Lo r.2)) (.inr rfl) ?_ (.refl _) (Option.some.inj hM) hS 0 rfl
        exact (res_one (res_tmp (x := .b false) rfl))
       ·replace hM := ifF hM hb18
        refine w_condF (e := (!r17.1)) rfl hb18 ?_
        refine r_skip ?_
        refine r_blk_normal ?_
        exact w_goto r17.2 (.k (.k (.k (.k (.k .nil))))) ⟨(hS.keep [] rfl).up (by omega), hM⟩
    ·replace hM := ifF hM hb9
     refine w_condF (e := (decide (v6 < (x8.all.length : Int)))) rfl hb9 ?_
     refine r_exit ?_
     refine r_then_exit ?_
     refine w_round_exit ?_
     refine r_blk_exit ?_
     exact w_goto v7 .nil ⟨(hS.keep [] rfl).up (by omega), hM⟩
theorem W_wires_wiring_sets {S : Type} {Lo : S → BL} (hk : ∀ s s', KinL (Lo s) (Lo s')) (hnd : ∀ s, (ids (Lo s)).Nodup) (hin : ∀ s, InB In (Lo s)) {aF : (List WireFault) → S → Option (Bool × S)} {f0 : AV} (hF : ∀ s H, Has H (Lo s) → In H f0) (h0 : cellsOf f0 = some [f0]) (hf : ∀ {x0 : List WireFault} {s : S} {r : Bool × S}, aF x0 s = some r → CSat Try.prog f0 [.sl .no 3 (x0.map WireFault.cells)] (Lo s) (.b r.1) (Lo r.2)) : ∀ {n : Nat} {a0 : Option Wiring_} {a1 : List WireFault} {a2 : Int} {a3 : Int} {st : S} {r : Bool × S}, wires_wiring_sets n aF a0 a1 a2 a3 st = some r → HSat Try.prog 99 [pA Wiring_.cells a0, .sl .no 3 (a1.map WireFault.cells), .i a2, .i a3, f0] (Lo st) (.b r.1) (Lo r.2)
 | 0, _, _, _, _, _, _, h => nomatch (show none = some _ from h)
 | n + 1, _, _, _, _, _, _, h => W_wires_wiring_sets_b hk hnd hin hF h0 hf (n := n) (rec := wires_wiring_sets n aF) (fun h => W_wires_wiring_sets hk hnd hin hF h0 hf h) h
theorem W_wires_wire_c1 {xs u : List Int} {off : Nat} {a1 : WireFault} {p : Nat} (hM : wires_wire_c1 xs off a1 = some u) : MutSat Try.prog 95 [.ptr p off, .agg a1.cells] p (xs.map vI) (.tup []) ((List.range xs.length).map fun q => vI (u.getD q 0)) := by
 unfold wires_wire_c1 at hM
 split at hM
 case isFalse => cases hM
 case isTrue hab =>
 obtain ⟨hA, hB, hx⟩ := hab
 injection hM with hM
 have hul : u.length = xs.length := by rw [← hM]; simp
 rw [← hul, map_range_getD]
 refine mut_of_wp mixed Try.func95 rfl (by decide) Try.ntmps95 (by simp) (.tup _ pl_nil) (fun c hc => by obtain ⟨x, _, rfl⟩ := List.mem_map.1 hc; exact .v _) fun H0 g hf hp => ?_
 rw [frame0_of]
 change wpA _ _ _ _ (Fr.of [(0, .ptr p off), (1, .agg a1.cells)]) H0 g
 have hS := St.startP hf hp
 refine r_seq ?_
 refine r_region (n := 1) rfl ?_
 refine o_box (v := .agg a1.cells) (cs := a1.cells) hS (by decide) rfl rfl (by omega) fun H hS => ?_
 refine run_nil ?_
 refine w_iceE (L' := [(p, .cells (xs.map vI))]) 0 3 hS rfl rfl rfl fun H hS => ?_
 refine w_next [(0, .ptr p off), (3, .ep a1.cells)] (.k (.k .nil)) ?_
 have hS0 := hS
 refine r_drawX (n := 16) [(15, 8), (15, 12)] rfl (by kernel_rfl) (by kernel_rfl) ?_
 refine o_move (v := .ptr p off) (by decide) rfl ?_
 refine o_fieldE (cs := a1.cells) (by decide) ty_fo63_1 rfl ?_
 refine o_loadE (v := .i a1.A) (by decide) rfl (part_one ty_agg3 ty_sc3 rfl) ?_
 refine o_move (v := .ptr p off) (by decide) rfl ?_
 refine o_fieldE (cs := a1.cells) (by decide) ty_fo63_2 rfl ?_
 refine o_loadE (v := .i a1.B) (by decide) rfl (part_one ty_agg3 ty_sc3 rfl) ?_
 refine o_fieldE (cs := a1.cells) (by decide) ty_fo63_2 rfl ?_
 refine o_loadE (v := .i a1.B) (by decide) rfl (part_one ty_agg3 ty_sc3 rfl) ?_
 refine o_fieldE (cs := a1.cells) (by decide) ty_fo63_1 rfl ?_
 refine o_loadE (v := .i a1.A) (by decide) rfl (part_one ty_agg3 ty_sc3 rfl) ?_
 refine o_nilP (by decide) rfl ?_
 refine o_indexP (z := a1.A) (by decide) rfl rfl ty_arr88 hA ?_
 refine o_store (v := .i a1.B) (ns := [.i a1.B]) (L' := [(p, .cells (splice (xs.map vI) (off + a1.A.toNat * 1) [.i a1.B]))]) 0 hS rfl rfl (.st hS0 0 rfl (by omega)) rfl rfl ty_var3 (by simp; omega) rfl fun H hS => ?_
 refine o_nilP (by decide) rfl ?_
 refine o_indexP (z := a1.B) (by decide) rfl rfl ty_arr88 hB ?_
 have e1 : splice (xs.map vI) (off + a1.A.toNat * 1) [.i a1.B] = (xs.set (off + a1.A.toNat) a1.B).map vI := by
  rw [splice_set (by simp; omega), List.map_set, Nat.mul_one]
  rfl
 rw [e1] at hS
 refine o_store (v := .i a1.A) (ns := [.i a1.A]) (L' := [(p, .cells (splice ((xs.set (off + a1.A.toNat) a1.B).map vI) (off + a1.B.toNat * 1) [.i a1.A]))]) 0 hS rfl rfl (.st hS0 0 rfl (by omega)) rfl rfl ty_var3 (by simp; omega) rfl fun H hS => ?_
 have e2 : splice ((xs.set (off + a1.A.toNat) a1.B).map vI) (off + a1.B.toNat * 1) [.i a1.A] = u.map vI := by
  rw [splice_set (by simp; omega), ← hM, Nat.mul_one]
  simp only [List.map_set]
  rfl
 rw [e2] at hS
 refine run_nil ?_
 refine ⟨(sep_cons trivial (sep_cons trivial sep_nil)), ?_⟩
 exact ⟨.inl rfl, ⟨_, rfl, .refl _⟩, fun i hi => (hS.old i hi).2, hS.get (n := 0) rfl⟩
theorem W_wires_wire {n : Nat} {a0 : List WireFault} {r : Panel_} (hM : wires_wire n a0 = some r) : PureSat Try.prog 75 [.sl .no 3 (a0.map WireFault.cells)] (.agg [.i r.letters.c0, .i r.letters.c1, .i r.letters.c2, .i r.letters.c3, .i r.letters.c4, .i r.numbers.c0, .i r.numbers.c1, .i r.numbers.c2, .i r.numbers.c3, .i r.numbers.c4]) := by
 refine pure_of_wp mixed Try.func75 rfl (by decide) Try.ntmps75 (by simp) ?pure fun H0 g hf => ?_
 case pure => exact .agg _ (pl_cons (.v _) (pl_cons (.v _) (pl_cons (.v _) (pl_cons (.v _) (pl_cons (.v _) (pl_cons (.v _) (pl_cons (.v _) (pl_cons (.v _) (pl_cons (.v _) (pl_cons (.v _) pl_nil))))))))))
 rw [frame0_of]
 change wpA _ _ _ _ (Fr.of [(0, .sl .no 3 (a0.map WireFault.cells))]) H0 g
 have hS := St.start hf
 refine r_seq ?_
 refine r_region (n := 1) rfl ?_
 refine o_alloc hS (by decide) ty_zero90 (by omega) fun H hS => ?_
 refine run_nil ?_
 refine w_next [(0, .sl .no 3 (a0.map WireFault.cells)), (2, .ptr (g + 0) 0)] (.k (.k .nil)) ?_
 refine r_seq ?_
 refine r_region (n := 1) rfl ?_
 refine o_alloc hS (by decide) ty_zero90 (by omega) fun H hS => ?_
 refine run_nil ?_
 refine w_next [(0, .sl .no 3 (a0.map WireFault.cells)), (2, .ptr (g + 0) 0), (3, .ptr (g + 1 + 0) 0)] (.k (.k (.k .nil))) ?_
 refine w_join (J := Int × Int × Int × Int × Int × Int × Int × Int × Int × Int) (fun j => [(0, .sl .no 3 (a0.map WireFault.cells)), (2, .ptr (g + 0) 0), (3, .ptr (g + 1 + 0) 0)]) (fun j H' g' => St (· < g) H0 [(g + 1 + 0, .cells [.i j.1, .i j.2.1, .i j.2.2.1, .i j.2.2.2.1, .i j.2.2.2.2.1, .i j.2.2.2.2.2.1, .i j.2.2.2.2.2.2.1, .i j.2.2.2.2.2.2.2.1, .i j.2.2.2.2.2.2.2.2.1, .i j.2.2.2.2.2.2.2.2.2]), (g + 0, .cells [.i 0, .i 0, .i 0, .i 0, .i 0, .i 0, .i 0, .i 0, .i 0, .i 0])] H' g' ∧ wires_wire_j1 n a0 j.1 j.2.1 j.2.2.1 j.2.2.2.1 j.2.2.2.2.1 j.2.2.2.2.2.1 j.2.2.2.2.2.2.1 j.2.2.2.2.2.2.2.1 j.2.2.2.2.2.2.2.2.1 j.2.2.2.2.2.2.2.2.2 = some r) ?_ ?_
 ·rintro ⟨v1, v2, v3, v4, v5, v6, v7, v8, v9, v10⟩ H g1 ⟨hS, hM⟩
  change wpA _ _ _ _ (Fr.of [(0, .sl .no 3 (a0.map WireFault.cells)), (2, .ptr (g + 0) 0), (3, .ptr (g + 1 + 0) 0)]) _ _
  replace hS : St (· < g) H0 [(g + 1 + 0, .cells [.i v1, .i v2, .i v3, .i v4, .i v5, .i v6, .i v7, .i v8, .i v9, .i v10]), (g + 0, .cells [.i 0, .i 0, .i 0, .i 0, .i 0, .i 0, .i 0, .i 0, .i 0, .i 0])] H g1 := hS
  replace hM : wires_wire_j1 n a0 v1 v2 v3 v4 v5 v6 v7 v8 v9 v10 = some r := hM
  refine r_seq ?_
  refine r_region (n := 1) rfl ?_
  refine o_assign (v := .fn (.func 95) [] []) (by decide) rfl ?_
  refine run_nil ?_
  refine w_next [(0, .sl .no 3 (a0.map WireFault.cells)), (2, .ptr (g + 0) 0), (3, .ptr (g + 1 + 0) 0), (5, .fn (.func 95) [] [])] (.k (.k (.k (.k .nil)))) ?_
  refine w_join (J := Int × Int × Int × Int × Int × Int × Int × Int × Int × Int) (fun j => [(0, .sl .no 3 (a0.map WireFault.cells)), (2, .ptr (g + 0) 0), (3, .ptr (g + 1 + 0) 0)]) (fun j H' g' => St (· < g) H0 [(g + 1 + 0, .cells [.i j.1, .i j.2.1, .i j.2.2.1, .i j.2.2.2.1, .i j.2.2.2.2.1, .i j.2.2.2.2.2.1, .i j.2.2.2.2.2.2.1, .i j.2.2.2.2.2.2.2.1, .i j.2.2.2.2.2.2.2.2.1, .i j.2.2.2.2.2.2.2.2.2]), (g + 0, .cells [.i 0, .i 0, .i 0, .i 0, .i 0, .i 0, .i 0, .i 0, .i 0, .i 0])] H' g' ∧ wires_wire_j2 n a0 j.1 j.2.1 j.2.2.1 j.2.2.2.1 j.2.2.2.2.1 j.2.2.2.2.2.1 j.2.2.2.2.2.2.1 j.2.2.2.2.2.2.2.1 j.2.2.2.2.2.2.2.2.1 j.2.2.2.2.2.2.2.2.2 = some r) ?_ ?_
  ·rintro ⟨v11, v12, v13, v14, v15, v16, v17, v18, v19, v20⟩ H g2 ⟨hS, hM⟩
   change wpA _ _ _ _ (Fr.of [(0, .sl .no 3 (a0.map WireFault.cells)), (2, .ptr (g + 0) 0), (3, .ptr (g + 1 + 0) 0)]) _ _
   replace hS : St (· < g) H0 [(g + 1 + 0, .cells [.i v11, .i v12, .i v13, .i v14, .i v15, .i v16, .i v17, .i v18, .i v19, .i v20]), (g + 0, .cells [.i 0, .i 0, .i 0, .i 0, .i 0, .i 0, .i 0, .i 0, .i 0, .i 0])] H g2 := hS
   replace hM : wires_wire_j2 n a0 v11 v12 v13 v14 v15 v16 v17 v18 v19 v20 = some r := hM
   refine w_join (J := Int × Int × Int × Int × Int × Int × Int × Int × Int × Int) (fun j => [(2, .ptr (g + 0) 0), (3, .ptr (g + 1 + 0) 0)]) (fun j H' g' => St (· < g) H0 [(g + 1 + 0, .cells [.i j.1, .i j.2.1, .i j.2.2.1, .i j.2.2.2.1, .i j.2.2.2.2.1, .i j.2.2.2.2.2.1, .i j.2.2.2.2.2.2.1, .i j.2.2.2.2.2.2.2.1, .i j.2.2.2.2.2.2.2.2.1, .i j.2.2.2.2.2.2.2.2.2]), (g + 0, .cells [.i 0, .i 0, .i 0, .i 0, .i 0, .i 0, .i 0, .i 0, .i 0, .i 0])] H' g' ∧ wires_wire_j3 j.1 j.2.1 j.2.2.1 j.2.2.2.1 j.2.2.2.2.1 j.2.2.2.2.2.1 j.2.2.2.2.2.2.1 j.2.2.2.2.2.2.2.1 j.2.2.2.2.2.2.2.2.1 j.2.2.2.2.2.2.2.2.2 = some r) ?_ ?_
   ·rintro ⟨v21, v22, v23, v24, v25, v26, v27, v28, v29, v30⟩ H g3 ⟨hS, hM⟩
    change wpA _ _ _ _ (Fr.of [(2, .ptr (g + 0) 0), (3, .ptr (g + 1 + 0) 0)]) _ _
    replace hS : St (· < g) H0 [(g + 1 + 0, .cells [.i v21, .i v22, .i v23, .i v24, .i v25, .i v26, .i v27, .i v28, .i v29, .i v30]), (g + 0, .cells [.i 0, .i 0, .i 0, .i 0, .i 0, .i 0, .i 0, .i 0, .i 0, .i 0])] H g3 := hS
    replace hM : wires_wire_j3 v21 v22 v23 v24 v25 v26 v27 v28 v29 v30 = some r := hM
    refine r_seq ?_
    refine r_region (n := 2) rfl ?_
    refine o_load (v := .agg [.i v21, .i v22, .i v23, .i v24, .i v25, .i v26, .i v27, .i v28, .i v29, .i v30]) 0 hS (by decide) rfl rfl .no (part_agg ty_agg90 (Nat.le_of_ble_eq_true rfl) rfl) ?_
    refine o_store (v := .agg [.i v21, .i v22, .i v23, .i v24, .i v25, .i v26, .i v27, .i v28, .i v29, .i v30]) (ns := [.i v21, .i v22, .i v23, .i v24, .i v25, .i v26, .i v27, .i v28, .i v29, .i v30]) (L' := [(g + 1 + 0, .cells [.i v21, .i v22, .i v23, .i v24, .i v25, .i v26, .i v27, .i v28, .i v29, .i v30]), (g + 0, .cells [.i v21, .i v22, .i v23, .i v24, .i v25, .i v26, .i v27, .i v28, .i v29, .i v30])]) 1 hS rfl rfl .no rfl rfl ty_var90 (Nat.le_of_ble_eq_true rfl) rfl fun H hS => ?_
    refine run_nil ?_
    replace hS := hS.keep (L' := [(g + 0, .cells [.i v21, .i v22, .i v23, .i v24, .i v25, .i v26, .i v27, .i v28, .i v29, .i v30])]) [false, true] rfl
    refine w_next [(2, .ptr (g + 0) 0)] (.k .nil) ?_
    refine r_ret ?_
    refine w_end (x := .agg [.i v21, .i v22, .i v23, .i v24, .i v25, .i v26, .i v27, .i v28, .i v29, .i v30]) (f := fun r => .agg [.i r.letters.c0, .i r.letters.c1, .i r.letters.c2, .i r.letters.c3, .i r.letters.c4, .i r.numbers.c0, .i r.numbers.c1, .i r.numbers.c2, .i r.numbers.c3, .i r.numbers.c4]) (.inr rfl) ?_ (.refl _) (Option.some.inj hM) hS
    exact (res_one (res_cell (x := .agg [.i v21, .i v22, .i v23, .i v24, .i v25, .i v26, .i v27, .i v28, .i v29, .i v30]) 0 hS rfl rfl (part_agg ty_agg90 (Nat.le_of_ble_eq_true rfl) rfl)))
   ·refine r_seq ?_
    refine r_region (n := 3) rfl ?_
    refine o_move (v := .sl .no 3 (a0.map WireFault.cells)) (by decide) rfl ?_
    refine o_len (n := a0.length) (by decide) rfl (List.length_map _) ty_isl31 ?_
    refine o_move (v := .i 0) (by decide) rfl ?_
    refine run_nil ?_
    refine w_next [(2, .ptr (g + 0) 0), (3, .ptr (g + 1 + 0) 0), (43, .sl .no 3 (a0.map WireFault.cells)), (44, .i (a0.length : Int)), (45, .i 0)] (.k (.k (.k (.k (.k .nil))))) ?_
    refine r_block ?_
    refine w_loop (V := Int × Int × Int × Int × Int × Int × Int × Int × Int × Int × Int) (fun v => [(2, .ptr (g + 0) 0), (3, .ptr (g + 1 + 0) 0), (43, .sl .no 3 (a0.map WireFault.cells)), (44, .i (a0.length : Int)), (45, .i v.1)]) (fun v m5 H' g' => St (· < g) H0 [(g + 1 + 0, .cells [.i v.2.1, .i v.2.2.1, .i v.2.2.2.1, .i v.2.2.2.2.1, .i v.2.2.2.2.2.1, .i v.2.2.2.2.2.2.1, .i v.2.2.2.2.2.2.2.1, .i v.2.2.2.2.2.2.2.2.1, .i v.2.2.2.2.2.2.2.2.2.1, .i v.2.2.2.2.2.2.2.2.2.2]), (g + 0, .cells [.i 0, .i 0, .i 0, .i 0, .i 0, .i 0, .i 0, .i 0, .i 0, .i 0])] H' g' ∧ wires_wire_l1 a0 m5 v.1 v.2.1 v.2.2.1 v.2.2.2.1 v.2.2.2.2.1 v.2.2.2.2.2.1 v.2.2.2.2.2.2.1 v.2.2.2.2.2.2.2.1 v.2.2.2.2.2.2.2.2.1 v.2.2.2.2.2.2.2.2.2.1 v.2.2.2.2.2.2.2.2.2.2 = some r) (n := n) (0, v11, v12, v13, v14, v15, v16, v17, v18, v19, v20) (.k (.k (.k (.k (.k .nil))))) ⟨(hS.keep [true, true] rfl).up (by omega), hM⟩ ?_
    rintro ⟨v32, v33, v34, v35, v36, v37, v38, v39, v40, v41, v42⟩ m5 H g5 ⟨hS, hM⟩
    obtain _ | m5 := m5
    ·exact nomatch (show none = some _ from hM)
    change wpA _ _ _ _ (Fr.of [(2, .ptr (g + 0) 0), (3, .ptr (g + 1 + 0) 0), (43, .sl .no 3 (a0.map WireFault.cells)), (44, .i (a0.length : Int)), (45, .i v32)]) _ _
    replace hS : St (· < g) H0 [(g + 1 + 0, .cells [.i v33, .i v34, .i v35, .i v36, .i v37, .i v38, .i v39, .i v40, .i v41, .i v42]), (g + 0, .cells [.i 0, .i 0, .i 0, .i 0, .i 0, .i 0, .i 0, .i 0, .i 0, .i 0])] H g5 := hS
    replace hM : wires_wire_l1_b a0 (wires_wire_l1 a0 m5) v32 v33 v34 v35 v36 v37 v38 v39 v40 v41 v42 = some r := hM
    refine r_seq ?_
    refine r_region (n := 1) rfl ?_
    refine o_int (v := .b (decide (v32 < (a0.length : Int)))) (by decide) rfl rfl rfl ?_
    refine run_nil ?_
    refine w_next [(2, .ptr (g + 0) 0), (3, .ptr (g + 1 + 0) 0), (43, .sl .no 3 (a0.map WireFault.cells)), (44, .i (a0.length : Int)), (45, .i v32), (46, .b (decide (v32 < (a0.length : Int))))] (.k (.k (.k (.k (.k (.k .nil)))))) ?_
    refine r_seq ?_
    rcases Bool.eq_false_or_eq_true (decide (v32 < (a0.length : Int))) with hb43 | hb43
    ·replace hM := ifT hM hb43
     refine w_condT (e := (decide (v32 < (a0.length : Int)))) rfl hb43 ?_
     refine r_skip ?_
     refine w_next [(2, .ptr (g + 0) 0), (3, .ptr (g + 1 + 0) 0), (43, .sl .no 3 (a0.map WireFault.cells)), (44, .i (a0.length : Int)), (45, .i v32)] (.k (.k (.k (.k (.k .nil))))) ?_
     refine w_join (J := Int × Int × Int × Int × Int × Int × Int × Int × Int × Int) (fun j => [(2, .ptr (g + 0) 0), (3, .ptr (g + 1 + 0) 0), (43, .sl .no 3 (a0.map WireFault.cells)), (44, .i (a0.length : Int)), (45, .i v32)]) (fun j H' g' => St (· < g) H0 [(g + 1 + 0, .cells [.i j.1, .i j.2.1, .i j.2.2.1, .i j.2.2.2.1, .i j.2.2.2.2.1, .i j.2.2.2.2.2.1, .i j.2.2.2.2.2.2.1, .i j.2.2.2.2.2.2.2.1, .i j.2.2.2.2.2.2.2.2.1, .i j.2.2.2.2.2.2.2.2.2]), (g + 0, .cells [.i 0, .i 0, .i 0, .i 0, .i 0, .i 0, .i 0, .i 0, .i 0, .i 0])] H' g' ∧ wires_wire_j4 (wires_wire_l1 a0 m5) v32 j.1 j.2.1 j.2.2.1 j.2.2.2.1 j.2.2.2.2.1 j.2.2.2.2.2.1 j.2.2.2.2.2.2.1 j.2.2.2.2.2.2.2.1 j.2.2.2.2.2.2.2.2.1 j.2.2.2.2.2.2.2.2.2 = some r) ?_ ?_
     ·rintro ⟨v44, v45, v46, v47, v48, v49, v50, v51, v52, v53⟩ H g6 ⟨hS, hM⟩
      change wpA _ _ _ _ (Fr.of [(2, .ptr (g + 0) 0), (3, .ptr (g + 1 + 0) 0), (43, .sl .no 3 (a0.map WireFault.cells)), (44, .i (a0.length : Int)), (45, .i v32)]) _ _
      replace hS : St (· < g) H0 [(g + 1 + 0, .cells [.i v44, .i v45, .i v46, .i v47, .i v48, .i v49, .i v50, .i v51, .i v52, .i v53]), (g + 0, .cells [.i 0, .i 0, .i 0, .i 0, .i 0, .i 0, .i 0, .i 0, .i 0, .i 0])] H g6 := hS
      replace hM : wires_wire_j4 (wires_wire_l1 a0 m5) v32 v44 v45 v46 v47 v48 v49 v50 v51 v52 v53 = some r := hM
      refine r_region (n := 2) rfl ?_
      refine o_int (v := .i (w64 (v32 + 1))) (by decide) rfl rfl rfl ?_
      refine o_move (v := .i (w64 (v32 + 1))) (by decide) rfl ?_
      refine run_nil ?_
      exact w_round (w64 (v32 + 1), v44, v45, v46, v47, v48, v49, v50, v51, v52, v53) (Nat.lt_succ_self _) (.k (.k (.k (.k (.k .nil))))) ⟨(hS.keep [true, true] rfl).up (by omega), hM⟩
     ·refine r_block ?_
      refine r_seq ?_
      refine r_region (n := 4) rfl ?_
      obtain ⟨x54, hx54, hM⟩ := bindE hM
      refine o_index (xs := a0) (f := WireFault.cells) (z := v32) (u := x54) (by decide) rfl rfl ty_es31 hx54 ?_
      refine o_loadE (v := .agg (WireFault.cells x54)) (by decide) rfl (part_agg ty_agg63 (Nat.le_of_ble_eq_true rfl) rfl) ?_
      refine o_alloc hS (by decide) ty_zero63 (by omega) fun H hS => ?_
      refine o_store (v := .agg (WireFault.cells x54)) (ns := (WireFault.cells x54)) (L' := [(g5 + 1 + 2, .cells (WireFault.cells x54)), (g + 1 + 0, .cells [.i v33, .i v34, .i v35, .i v36, .i v37, .i v38, .i v39, .i v40, .i v41, .i v42]), (g + 0, .cells [.i 0, .i 0, .i 0, .i 0, .i 0, .i 0, .i 0, .i 0, .i 0, .i 0])]) 0 hS rfl rfl .no rfl rfl ty_var63 (Nat.le_of_ble_eq_true rfl) rfl fun H hS => ?_
      refine run_nil ?_
      refine w_iceE (L' := [(g + 1 + 0, .cells [.i v33, .i v34, .i v35, .i v36, .i v37, .i v38, .i v39, .i v40, .i v41, .i v42]), (g + 0, .cells [.i 0, .i 0, .i 0, .i 0, .i 0, .i 0, .i 0, .i 0, .i 0, .i 0])]) 0 9 hS rfl rfl rfl fun H hS => ?_
      refine w_next [(2, .ptr (g + 0) 0), (3, .ptr (g + 1 + 0) 0), (9, .ep (WireFault.cells x54)), (43, .sl .no 3 (a0.map WireFault.cells)), (44, .i (a0.length : Int)), (45, .i v32)] (.k (.k (.k (.k (.k (.k .nil)))))) ?_
      refine r_seq ?_
      refine r_region (n := 2) rfl ?_
      refine o_fieldE (cs := (WireFault.cells x54)) (by decide) ty_fo63_0 rfl ?_
      refine o_loadE (v := .i x54.Kind) (by decide) rfl (part_one ty_agg3 ty_sc3 rfl) ?_
      refine run_nil ?_
      refine w_next [(2, .ptr (g + 0) 0), (3, .ptr (g + 1 + 0) 0), (9, .ep (WireFault.cells x54)), (43, .sl .no 3 (a0.map WireFault.cells)), (44, .i (a0.length : Int)), (45, .i v32), (50, .i x54.Kind)] (.k (.k (.k (.k (.k (.k (.k .nil))))))) ?_
      refine r_block ?_
      refine r_seq ?_
      refine r_region (n := 2) rfl ?_
      refine o_int (v := .b (x54.Kind == 1)) (by decide) rfl rfl rfl ?_
      refine o_assign (v := .b (x54.Kind == 1)) (by decide) rfl ?_
      refine run_nil ?_
      refine w_next [(2, .ptr (g + 0) 0), (3, .ptr (g + 1 + 0) 0), (9, .ep (WireFault.cells x54)), (43, .sl .no 3 (a0.map WireFault.cells)), (44, .i (a0.length : Int)), (45, .i v32), (50, .i x54.Kind), (51, .b (x54.Kind == 1))] (.k (.k (.k (.k (.k (.k (.k (.k .nil)))))))) ?_
      rcases Bool.eq_false_or_eq_true (x54.Kind == 1) with hb55 | hb55
      ·replace hM := ifT hM hb55
       refine w_condT (e := (x54.Kind == 1)) rfl hb55 ?_
       refine r_region (n := 5) rfl ?_
       refine o_fieldE (cs := (WireFault.cells x54)) (by decide) ty_fo63_1 rfl ?_
       refine o_loadE (v := .i x54.A) (by decide) rfl (part_one ty_agg3 ty_sc3 rfl) ?_
       refine o_fieldP (by decide) ty_fo90_0 rfl ?_
       obtain ⟨x56, hx56, hM⟩ := bindE hM
       refine o_indexP (z := x54.A) (by decide) rfl rfl ty_arr88 (idx_lt hx56) ?_
       obtain ⟨l57, hl57, hM⟩ := bindE hM
       refine o_storeX (xs := ([v33, v34, v35, v36, v37] : List Int)) (u := l57) (z := x54.A) (v := (-1)) (off := 0 + 0) (cs' := [.i (l57.getD 0 0), .i (l57.getD 1 0), .i (l57.getD 2 0), .i (l57.getD 3 0), .i (l57.getD 4 0), .i v38, .i v39, .i v40, .i v41, .i v42]) (L' := [(g + 1 + 0, .cells [.i (l57.getD 0 0), .i (l57.getD 1 0), .i (l57.getD 2 0), .i (l57.getD 3 0), .i (l57.getD 4 0), .i v38, .i v39, .i v40, .i v41, .i v42]), (g + 0, .cells [.i 0, .i 0, .i 0, .i 0, .i 0, .i 0, .i 0, .i 0, .i 0, .i 0])]) 0 hS rfl rfl .no rfl rfl hl57 ty_var3 rfl rfl fun H hS => ?_
       refine run_nil ?_
       refine r_blk_normal ?_
       refine r_blk_normal ?_
       exact w_goto ((l57.getD 0 0), (l57.getD 1 0), (l57.getD 2 0), (l57.getD 3 0), (l57.getD 4 0), v38, v39, v40, v41, v42) (.k (.k (.k (.k (.k .nil))))) ⟨(hS.keep [true, true] rfl).up (by omega), hM⟩
      ·replace hM := ifF hM hb55
       refine w_condF (e := (x54.Kind == 1)) rfl hb55 ?_
       refine r_seq ?_
       refine r_region (n := 2) rfl ?_
       refine o_int (v := .b (x54.Kind == 2)) (by decide) rfl rfl rfl ?_
       refine o_assign (v := .b (x54.Kind == 2)) (by decide) rfl ?_
       refine run_nil ?_
       refine w_next [(2, .ptr (g + 0) 0), (3, .ptr (g + 1 + 0) 0), (9, .ep (WireFault.cells x54)), (43, .sl .no 3 (a0.map WireFault.cells)), (44, .i (a0.length : Int)), (45, .i v32), (57, .b (x54.Kind == 2))] (.k (.k (.k (.k (.k (.k (.k .nil))))))) ?_
       rcases Bool.eq_false_or_eq_true (x54.Kind == 2) with hb58 | hb58
       ·replace hM := ifT hM hb58
        refine w_condT (e := (x54.Kind == 2)) rfl hb58 ?_
        refine r_region (n := 5) rfl ?_
        refine o_fieldE (cs := (WireFault.cells x54)) (by decide) ty_fo63_1 rfl ?_
        refine o_loadE (v := .i x54.A) (by decide) rfl (part_one ty_agg3 ty_sc3 rfl) ?_
        refine o_fieldP (by decide) ty_fo90_1 rfl ?_
        obtain ⟨x59, hx59, hM⟩ := bindE hM
        refine o_indexP (z := x54.A) (by decide) rfl rfl ty_arr88 (idx_lt hx59) ?_
        obtain ⟨l60, hl60, hM⟩ := bindE hM
        refine o_storeX (xs := ([v38, v39, v40, v41, v42] : List Int)) (u := l60) (z := x54.A) (v := (-1)) (off := 0 + 5) (cs' := [.i v33, .i v34, .i v35, .i v36, .i v37, .i (l60.getD 0 0), .i (l60.getD 1 0), .i (l60.getD 2 0), .i (l60.getD 3 0), .i (l60.getD 4 0)]) (L' := [(g + 1 + 0, .cells [.i v33, .i v34, .i v35, .i v36, .i v37, .i (l60.getD 0 0), .i (l60.getD 1 0), .i (l60.getD 2 0), .i (l60.getD 3 0), .i (l60.getD 4 0)]), (g + 0, .cells [.i 0, .i 0, .i 0, .i 0, .i 0, .i 0, .i 0, .i 0, .i 0, .i 0])]) 0 hS rfl rfl .no rfl rfl hl60 ty_var3 rfl rfl fun H hS => ?_
        refine run_nil ?_
        refine r_blk_normal ?_
        refine r_blk_normal ?_
        exact w_goto (v33, v34, v35, v36, v37, (l60.getD 0 0), (l60.getD 1 0), (l60.getD 2 0), (l60.getD 3 0), (l60.getD 4 0)) (.k (.k (.k (.k (.k .nil))))) ⟨(hS.keep [true, true] rfl).up (by omega), hM⟩
       ·replace hM := ifF hM hb58
        refine w_condF (e := (x54.Kind == 2)) rfl hb58 ?_
        refine r_skip ?_
        refine r_blk_normal ?_
        refine r_blk_normal ?_
        exact w_goto (v33, v34, v35, v36, v37, v38, v39, v40, v41, v42) (.k (.k (.k (.k (.k .nil))))) ⟨(hS.keep [true, true] rfl).up (by omega), hM⟩
    ·replace hM := ifF hM hb43
     refine w_condF (e := (decide (v32 < (a0.length : Int)))) rfl hb43 ?_
     refine r_exit ?_
     refine r_then_exit ?_
     refine w_round_exit ?_
     refine r_blk_exit ?_
     exact w_goto (v33, v34, v35, v36, v37, v38, v39, v40, v41, v42) (.k (.k .nil)) ⟨(hS.keep [true, true] rfl).up (by omega), hM⟩
  ·refine r_seq ?_
   refine r_region (n := 3) rfl ?_
   refine o_move (v := .sl .no 3 (a0.map WireFault.cells)) (by decide) rfl ?_
   refine o_len (n := a0.length) (by decide) rfl (List.length_map _) ty_isl31 ?_
   refine o_move (v := .i 0) (by decide) rfl ?_
   refine run_nil ?_
   refine w_next [(0, .sl .no 3 (a0.map WireFault.cells)), (2, .ptr (g + 0) 0), (3, .ptr (g + 1 + 0) 0), (5, .fn (.func 95) [] []), (22, .sl .no 3 (a0.map WireFault.cells)), (23, .i (a0.length : Int)), (24, .i 0)] (.k (.k (.k (.k (.k (.k (.k .nil))))))) ?_
   refine r_block ?_
   refine w_loop (V := Int × Int × Int × Int × Int × Int × Int × Int × Int × Int × Int) (fun v => [(0, .sl .no 3 (a0.map WireFault.cells)), (2, .ptr (g + 0) 0), (3, .ptr (g + 1 + 0) 0), (5, .fn (.func 95) [] []), (22, .sl .no 3 (a0.map WireFault.cells)), (23, .i (a0.length : Int)), (24, .i v.1)]) (fun v m8 H' g' => St (· < g) H0 [(g + 1 + 0, .cells [.i v.2.1, .i v.2.2.1, .i v.2.2.2.1, .i v.2.2.2.2.1, .i v.2.2.2.2.2.1, .i v.2.2.2.2.2.2.1, .i v.2.2.2.2.2.2.2.1, .i v.2.2.2.2.2.2.2.2.1, .i v.2.2.2.2.2.2.2.2.2.1, .i v.2.2.2.2.2.2.2.2.2.2]), (g + 0, .cells [.i 0, .i 0, .i 0, .i 0, .i 0, .i 0, .i 0, .i 0, .i 0, .i 0])] H' g' ∧ wires_wire_l2 n a0 m8 v.1 v.2.1 v.2.2.1 v.2.2.2.1 v.2.2.2.2.1 v.2.2.2.2.2.1 v.2.2.2.2.2.2.1 v.2.2.2.2.2.2.2.1 v.2.2.2.2.2.2.2.2.1 v.2.2.2.2.2.2.2.2.2.1 v.2.2.2.2.2.2.2.2.2.2 = some r) (n := n) (0, v1, v2, v3, v4, v5, v6, v7, v8, v9, v10) (.k (.k (.k (.k (.k (.k (.k .nil))))))) ⟨(hS.keep [true, true] rfl).up (by omega), hM⟩ ?_
   rintro ⟨v62, v63, v64, v65, v66, v67, v68, v69, v70, v71, v72⟩ m8 H g8 ⟨hS, hM⟩
   obtain _ | m8 := m8
   ·exact nomatch (show none = some _ from hM)
   change wpA _ _ _ _ (Fr.of [(0, .sl .no 3 (a0.map WireFault.cells)), (2, .ptr (g + 0) 0), (3, .ptr (g + 1 + 0) 0), (5, .fn (.func 95) [] []), (22, .sl .no 3 (a0.map WireFault.cells)), (23, .i (a0.length : Int)), (24, .i v62)]) _ _
   replace hS : St (· < g) H0 [(g + 1 + 0, .cells [.i v63, .i v64, .i v65, .i v66, .i v67, .i v68, .i v69, .i v70, .i v71, .i v72]), (g + 0, .cells [.i 0, .i 0, .i 0, .i 0, .i 0, .i 0, .i 0, .i 0, .i 0, .i 0])] H g8 := hS
   replace hM : wires_wire_l2_b n a0 (wires_wire_l2 n a0 m8) v62 v63 v64 v65 v66 v67 v68 v69 v70 v71 v72 = some r := hM
   refine r_seq ?_
   refine r_region (n := 1) rfl ?_
   refine o_int (v := .b (decide (v62 < (a0.length : Int)))) (by decide) rfl rfl rfl ?_
   refine run_nil ?_
   refine w_next [(0, .sl .no 3 (a0.map WireFault.cells)), (2, .ptr (g + 0) 0), (3, .ptr (g + 1 + 0) 0), (5, .fn (.func 95) [] []), (22, .sl .no 3 (a0.map WireFault.cells)), (23, .i (a0.length : Int)), (24, .i v62), (25, .b (decide (v62 < (a0.length : Int))))] (.k (.k (.k (.k (.k (.k (.k (.k .nil)))))))) ?_
   refine r_seq ?_
   rcases Bool.eq_false_or_eq_true (decide (v62 < (a0.length : Int))) with hb73 | hb73
   ·replace hM := ifT hM hb73
    refine w_condT (e := (decide (v62 < (a0.length : Int)))) rfl hb73 ?_
    refine r_skip ?_
    refine w_next [(0, .sl .no 3 (a0.map WireFault.cells)), (2, .ptr (g + 0) 0), (3, .ptr (g + 1 + 0) 0), (5, .fn (.func 95) [] []), (22, .sl .no 3 (a0.map WireFault.cells)), (23, .i (a0.length : Int)), (24, .i v62)] (.k (.k (.k (.k (.k (.k (.k .nil))))))) ?_
    refine w_join (J := Int × Int × Int × Int × Int × Int × Int × Int × Int × Int) (fun j => [(0, .sl .no 3 (a0.map WireFault.cells)), (2, .ptr (g + 0) 0), (3, .ptr (g + 1 + 0) 0), (5, .fn (.func 95) [] []), (22, .sl .no 3 (a0.map WireFault.cells)), (23, .i (a0.length : Int)), (24, .i v62)]) (fun j H' g' => St (· < g) H0 [(g + 1 + 0, .cells [.i j.1, .i j.2.1, .i j.2.2.1, .i j.2.2.2.1, .i j.2.2.2.2.1, .i j.2.2.2.2.2.1, .i j.2.2.2.2.2.2.1, .i j.2.2.2.2.2.2.2.1, .i j.2.2.2.2.2.2.2.2.1, .i j.2.2.2.2.2.2.2.2.2]), (g + 0, .cells [.i 0, .i 0, .i 0, .i 0, .i 0, .i 0, .i 0, .i 0, .i 0, .i 0])] H' g' ∧ wires_wire_j5 (wires_wire_l2 n a0 m8) v62 j.1 j.2.1 j.2.2.1 j.2.2.2.1 j.2.2.2.2.1 j.2.2.2.2.2.1 j.2.2.2.2.2.2.1 j.2.2.2.2.2.2.2.1 j.2.2.2.2.2.2.2.2.1 j.2.2.2.2.2.2.2.2.2 = some r) ?_ ?_
    ·rintro ⟨v74, v75, v76, v77, v78, v79, v80, v81, v82, v83⟩ H g9 ⟨hS, hM⟩
     change wpA _ _ _ _ (Fr.of [(0, .sl .no 3 (a0.map WireFault.cells)), (2, .ptr (g + 0) 0), (3, .ptr (g + 1 + 0) 0), (5, .fn (.func 95) [] []), (22, .sl .no 3 (a0.map WireFault.cells)), (23, .i (a0.length : Int)), (24, .i v62)]) _ _
     replace hS : St (· < g) H0 [(g + 1 + 0, .cells [.i v74, .i v75, .i v76, .i v77, .i v78, .i v79, .i v80, .i v81, .i v82, .i v83]), (g + 0, .cells [.i 0, .i 0, .i 0, .i 0, .i 0, .i 0, .i 0, .i 0, .i 0, .i 0])] H g9 := hS
     replace hM : wires_wire_j5 (wires_wire_l2 n a0 m8) v62 v74 v75 v76 v77 v78 v79 v80 v81 v82 v83 = some r := hM
     refine r_region (n := 2) rfl ?_
     refine o_int (v := .i (w64 (v62 + 1))) (by decide) rfl rfl rfl ?_
     refine o_move (v := .i (w64 (v62 + 1))) (by decide) rfl ?_
     refine run_nil ?_
     exact w_round (w64 (v62 + 1), v74, v75, v76, v77, v78, v79, v80, v81, v82, v83) (Nat.lt_succ_self _) (.k (.k (.k (.k (.k (.k (.k .nil))))))) ⟨(hS.keep [true, true] rfl).up (by omega), hM⟩
    ·refine r_block ?_
     refine r_seq ?_
     refine r_region (n := 4) rfl ?_
     obtain ⟨x84, hx84, hM⟩ := bindE hM
     refine o_index (xs := a0) (f := WireFault.cells) (z := v62) (u := x84) (by decide) rfl rfl ty_es31 hx84 ?_
     refine o_loadE (v := .agg (WireFault.cells x84)) (by decide) rfl (part_agg ty_agg63 (Nat.le_of_ble_eq_true rfl) rfl) ?_
     refine o_alloc hS (by decide) ty_zero63 (by omega) fun H hS => ?_
     refine o_store (v := .agg (WireFault.cells x84)) (ns := (WireFault.cells x84)) (L' := [(g8 + 1 + 2, .cells (WireFault.cells x84)), (g + 1 + 0, .cells [.i v63, .i v64, .i v65, .i v66, .i v67, .i v68, .i v69, .i v70, .i v71, .i v72]), (g + 0, .cells [.i 0, .i 0, .i 0, .i 0, .i 0, .i 0, .i 0, .i 0, .i 0, .i 0])]) 0 hS rfl rfl .no rfl rfl ty_var63 (Nat.le_of_ble_eq_true rfl) rfl fun H hS => ?_
     refine run_nil ?_
     refine w_iceE (L' := [(g + 1 + 0, .cells [.i v63, .i v64, .i v65, .i v66, .i v67, .i v68, .i v69, .i v70, .i v71, .i v72]), (g + 0, .cells [.i 0, .i 0, .i 0, .i 0, .i 0, .i 0, .i 0, .i 0, .i 0, .i 0])]) 0 7 hS rfl rfl rfl fun H hS => ?_
     refine w_next [(0, .sl .no 3 (a0.map WireFault.cells)), (2, .ptr (g + 0) 0), (3, .ptr (g + 1 + 0) 0), (5, .fn (.func 95) [] []), (7, .ep (WireFault.cells x84)), (22, .sl .no 3 (a0.map WireFault.cells)), (23, .i (a0.length : Int)), (24, .i v62)] (.k (.k (.k (.k (.k (.k (.k (.k .nil)))))))) ?_
     refine r_seq ?_
     refine r_region (n := 2) rfl ?_
     refine o_fieldE (cs := (WireFault.cells x84)) (by decide) ty_fo63_0 rfl ?_
     refine o_loadE (v := .i x84.Kind) (by decide) rfl (part_one ty_agg3 ty_sc3 rfl) ?_
     refine run_nil ?_
     refine w_next [(0, .sl .no 3 (a0.map WireFault.cells)), (2, .ptr (g + 0) 0), (3, .ptr (g + 1 + 0) 0), (5, .fn (.func 95) [] []), (7, .ep (WireFault.cells x84)), (22, .sl .no 3 (a0.map WireFault.cells)), (23, .i (a0.length : Int)), (24, .i v62), (29, .i x84.Kind)] (.k (.k (.k (.k (.k (.k (.k (.k (.k .nil))))))))) ?_
     refine r_block ?_
     refine r_seq ?_
     refine r_region (n := 2) rfl ?_
     refine o_int (v := .b (x84.Kind == 3)) (by decide) rfl rfl rfl ?_
     refine o_assign (v := .b (x84.Kind == 3)) (by decide) rfl ?_
     refine run_nil ?_
     refine w_next [(0, .sl .no 3 (a0.map WireFault.cells)), (2, .ptr (g + 0) 0), (3, .ptr (g + 1 + 0) 0), (5, .fn (.func 95) [] []), (7, .ep (WireFault.cells x84)), (22, .sl .no 3 (a0.map WireFault.cells)), (23, .i (a0.length : Int)), (24, .i v62), (29, .i x84.Kind), (30, .b (x84.Kind == 3))] (.k (.k (.k (.k (.k (.k (.k (.k (.k (.k .nil)))))))))) ?_
     rcases Bool.eq_false_or_eq_true (x84.Kind == 3) with hb85 | hb85
     ·replace hM := ifT hM hb85
      refine w_condT (e := (x84.Kind == 3)) rfl hb85 ?_
      refine r_region (n := 4) rfl ?_
      refine o_move (v := .fn (.func 95) [] []) (by decide) rfl ?_
      refine o_fieldP (by decide) ty_fo90_0 rfl ?_
      refine o_loadE (v := .agg (WireFault.cells x84)) (by decide) rfl (part_agg ty_agg63 (Nat.le_of_ble_eq_true rfl) rfl) ?_
      obtain ⟨l86, hl86, hM⟩ := bindE hM
      refine o_mut (bs := [.ptr (g + 1 + 0) (0 + 0), .agg (WireFault.cells x84)]) (L' := [(g + 1 + 0, .cells [.i (l86.getD 0 0), .i (l86.getD 1 0), .i (l86.getD 2 0), .i (l86.getD 3 0), .i (l86.getD 4 0), .i (l86.getD 5 0), .i (l86.getD 6 0), .i (l86.getD 7 0), .i (l86.getD 8 0), .i (l86.getD 9 0)]), (g + 0, .cells [.i 0, .i 0, .i 0, .i 0, .i 0, .i 0, .i 0, .i 0, .i 0, .i 0])]) 0 hS (by decide) rfl rfl rfl mok_no (W_wires_wire_c1 (p := g + 1 + 0) hl86) rfl fun H hS => ?_
      refine run_nil ?_
      refine r_blk_normal ?_
      refine r_blk_normal ?_
      exact w_goto ((l86.getD 0 0), (l86.getD 1 0), (l86.getD 2 0), (l86.getD 3 0), (l86.getD 4 0), (l86.getD 5 0), (l86.getD 6 0), (l86.getD 7 0), (l86.getD 8 0), (l86.getD 9 0)) (.k (.k (.k (.k (.k (.k (.k .nil))))))) ⟨(hS.keep [true, true] rfl).up (by omega), hM⟩
     ·replace hM := ifF hM hb85
      refine w_condF (e := (x84.Kind == 3)) rfl hb85 ?_
      refine r_seq ?_
      refine r_region (n := 2) rfl ?_
      refine o_int (v := .b (x84.Kind == 4)) (by decide) rfl rfl rfl ?_
      refine o_assign (v := .b (x84.Kind == 4)) (by decide) rfl ?_
      refine run_nil ?_
      refine w_next [(0, .sl .no 3 (a0.map WireFault.cells)), (2, .ptr (g + 0) 0), (3, .ptr (g + 1 + 0) 0), (5, .fn (.func 95) [] []), (7, .ep (WireFault.cells x84)), (22, .sl .no 3 (a0.map WireFault.cells)), (23, .i (a0.length : Int)), (24, .i v62), (36, .b (x84.Kind == 4))] (.k (.k (.k (.k (.k (.k (.k (.k (.k .nil))))))))) ?_
      rcases Bool.eq_false_or_eq_true (x84.Kind == 4) with hb87 | hb87
      ·replace hM := ifT hM hb87
       refine w_condT (e := (x84.Kind == 4)) rfl hb87 ?_
       refine r_region (n := 4) rfl ?_
       refine o_move (v := .fn (.func 95) [] []) (by decide) rfl ?_
       refine o_fieldP (by decide) ty_fo90_1 rfl ?_
       refine o_loadE (v := .agg (WireFault.cells x84)) (by decide) rfl (part_agg ty_agg63 (Nat.le_of_ble_eq_true rfl) rfl) ?_
       obtain ⟨l88, hl88, hM⟩ := bindE hM
       refine o_mut (bs := [.ptr (g + 1 + 0) (0 + 5), .agg (WireFault.cells x84)]) (L' := [(g + 1 + 0, .cells [.i (l88.getD 0 0), .i (l88.getD 1 0), .i (l88.getD 2 0), .i (l88.getD 3 0), .i (l88.getD 4 0), .i (l88.getD 5 0), .i (l88.getD 6 0), .i (l88.getD 7 0), .i (l88.getD 8 0), .i (l88.getD 9 0)]), (g + 0, .cells [.i 0, .i 0, .i 0, .i 0, .i 0, .i 0, .i 0, .i 0, .i 0, .i 0])]) 0 hS (by decide) rfl rfl rfl mok_no (W_wires_wire_c1 (p := g + 1 + 0) hl88) rfl fun H hS => ?_
       refine run_nil ?_
       refine r_blk_normal ?_
       refine r_blk_normal ?_
       exact w_goto ((l88.getD 0 0), (l88.getD 1 0), (l88.getD 2 0), (l88.getD 3 0), (l88.getD 4 0), (l88.getD 5 0), (l88.getD 6 0), (l88.getD 7 0), (l88.getD 8 0), (l88.getD 9 0)) (.k (.k (.k (.k (.k (.k (.k .nil))))))) ⟨(hS.keep [true, true] rfl).up (by omega), hM⟩
      ·replace hM := ifF hM hb87
       refine w_condF (e := (x84.Kind == 4)) rfl hb87 ?_
       refine r_skip ?_
       refine r_blk_normal ?_
       refine r_blk_normal ?_
       exact w_goto (v63, v64, v65, v66, v67, v68, v69, v70, v71, v72) (.k (.k (.k (.k (.k (.k (.k .nil))))))) ⟨(hS.keep [true, true] rfl).up (by omega), hM⟩
   ·replace hM := ifF hM hb73
    refine w_condF (e := (decide (v62 < (a0.length : Int)))) rfl hb73 ?_
    refine r_exit ?_
    refine r_then_exit ?_
    refine w_round_exit ?_
    refine r_blk_exit ?_
    exact w_goto (v63, v64, v65, v66, v67, v68, v69, v70, v71, v72) (.k (.k (.k .nil))) ⟨(hS.keep [true, true] rfl).up (by omega), hM⟩
 ·refine r_seq ?_
  refine r_region (n := 1) rfl ?_
  refine o_move (v := .i 0) (by decide) rfl ?_
  refine run_nil ?_
  refine w_next [(0, .sl .no 3 (a0.map WireFault.cells)), (2, .ptr (g + 0) 0), (3, .ptr (g + 1 + 0) 0), (10, .i 0)] (.k (.k (.k (.k .nil)))) ?_
  refine r_block ?_
  refine w_loop (V := Int × Int × Int × Int × Int × Int × Int × Int × Int × Int × Int) (fun v => [(0, .sl .no 3 (a0.map WireFault.cells)), (2, .ptr (g + 0) 0), (3, .ptr (g + 1 + 0) 0), (10, .i v.1)]) (fun v m11 H' g' => St (· < g) H0 [(g + 1 + 0, .cells [.i v.2.1, .i v.2.2.1, .i v.2.2.2.1, .i v.2.2.2.2.1, .i v.2.2.2.2.2.1, .i v.2.2.2.2.2.2.1, .i v.2.2.2.2.2.2.2.1, .i v.2.2.2.2.2.2.2.2.1, .i v.2.2.2.2.2.2.2.2.2.1, .i v.2.2.2.2.2.2.2.2.2.2]), (g + 0, .cells [.i 0, .i 0, .i 0, .i 0, .i 0, .i 0, .i 0, .i 0, .i 0, .i 0])] H' g' ∧ wires_wire_l3 n a0 m11 v.1 v.2.1 v.2.2.1 v.2.2.2.1 v.2.2.2.2.1 v.2.2.2.2.2.1 v.2.2.2.2.2.2.1 v.2.2.2.2.2.2.2.1 v.2.2.2.2.2.2.2.2.1 v.2.2.2.2.2.2.2.2.2.1 v.2.2.2.2.2.2.2.2.2.2 = some r) (n := n) (0, 0, 0, 0, 0, 0, 0, 0, 0, 0, 0) (.k (.k (.k (.k .nil)))) ⟨(hS.keep [true, true] rfl).up (by omega), hM⟩ ?_
  rintro ⟨v90, v91, v92, v93, v94, v95, v96, v97, v98, v99, v100⟩ m11 H g11 ⟨hS, hM⟩
  obtain _ | m11 := m11
  ·exact nomatch (show none = some _ from hM)
  change wpA _ _ _ _ (Fr.of [(0, .sl .no 3 (a0.map WireFault.cells)), (2, .ptr (g + 0) 0), (3, .ptr (g + 1 + 0) 0), (10, .i v90)]) _ _
  replace hS : St (· < g) H0 [(g + 1 + 0, .cells [.i v91, .i v92, .i v93, .i v94, .i v95, .i v96, .i v97, .i v98, .i v99, .i v100]), (g + 0, .cells [.i 0, .i 0, .i 0, .i 0, .i 0, .i 0, .i 0, .i 0, .i 0, .i 0])] H g11 := hS
  replace hM : wires_wire_l3_b n a0 (wires_wire_l3 n a0 m11) v90 v91 v92 v93 v94 v95 v96 v97 v98 v99 v100 = some r := hM
  refine r_seq ?_
  refine r_region (n := 1) rfl ?_
  refine o_int (v := .b (decide (v90 < 5))) (by decide) rfl rfl rfl ?_
  refine run_nil ?_
  refine w_next [(0, .sl .no 3 (a0.map WireFault.cells)), (2, .ptr (g + 0) 0), (3, .ptr (g + 1 + 0) 0), (10, .i v90), (11, .b (decide (v90 < 5)))] (.k (.k (.k (.k (.k .nil))))) ?_
  refine r_seq ?_
  rcases Bool.eq_false_or_eq_true (decide (v90 < 5)) with hb101 | hb101
  ·replace hM := ifT hM hb101
   refine w_condT (e := (decide (v90 < 5))) rfl hb101 ?_
   refine r_skip ?_
   refine w_next [(0, .sl .no 3 (a0.map WireFault.cells)), (2, .ptr (g + 0) 0), (3, .ptr (g + 1 + 0) 0), (10, .i v90)] (.k (.k (.k (.k .nil)))) ?_
   refine r_seq ?_
   refine r_block ?_
   refine r_seq ?_
   refine r_region (n := 2) rfl ?_
   refine o_move (v := .i v90) (by decide) rfl ?_
   refine o_assign (v := .i v90) (by decide) rfl ?_
   refine run_nil ?_
   refine w_next [(0, .sl .no 3 (a0.map WireFault.cells)), (2, .ptr (g + 0) 0), (3, .ptr (g + 1 + 0) 0), (4, .i v90), (10, .i v90)] (.k (.k (.k (.k (.k .nil))))) ?_
   refine r_region (n := 10) rfl ?_
   refine o_move (v := .i v90) (by decide) rfl ?_
   refine o_move (v := .i v90) (by decide) rfl ?_
   refine o_move (v := .i v90) (by decide) rfl ?_
   refine o_move (v := .i v90) (by decide) rfl ?_
   refine o_fieldP (by decide) ty_fo90_0 rfl ?_
   obtain ⟨x102, hx102, hM⟩ := bindE hM
   refine o_indexP (z := v90) (by decide) rfl rfl ty_arr88 (idx_lt hx102) ?_
   obtain ⟨l103, hl103, hM⟩ := bindE hM
   refine o_storeX (xs := ([v91, v92, v93, v94, v95] : List Int)) (u := l103) (z := v90) (v := v90) (off := 0 + 0) (cs' := [.i (l103.getD 0 0), .i (l103.getD 1 0), .i (l103.getD 2 0), .i (l103.getD 3 0), .i (l103.getD 4 0), .i v96, .i v97, .i v98, .i v99, .i v100]) (L' := [(g + 1 + 0, .cells [.i (l103.getD 0 0), .i (l103.getD 1 0), .i (l103.getD 2 0), .i (l103.getD 3 0), .i (l103.getD 4 0), .i v96, .i v97, .i v98, .i v99, .i v100]), (g + 0, .cells [.i 0, .i 0, .i 0, .i 0, .i 0, .i 0, .i 0, .i 0, .i 0, .i 0])]) 0 hS rfl rfl .no rfl rfl hl103 ty_var3 rfl rfl fun H hS => ?_
   refine o_fieldP (by decide) ty_fo90_1 rfl ?_
   obtain ⟨x104, hx104, hM⟩ := bindE hM
   refine o_indexP (z := v90) (by decide) rfl rfl ty_arr88 (idx_lt hx104) ?_
   obtain ⟨l105, hl105, hM⟩ := bindE hM
   refine o_storeX (xs := ([v96, v97, v98, v99, v100] : List Int)) (u := l105) (z := v90) (v := v90) (off := 0 + 5) (cs' := [.i (l103.getD 0 0), .i (l103.getD 1 0), .i (l103.getD 2 0), .i (l103.getD 3 0), .i (l103.getD 4 0), .i (l105.getD 0 0), .i (l105.getD 1 0), .i (l105.getD 2 0), .i (l105.getD 3 0), .i (l105.getD 4 0)]) (L' := [(g + 1 + 0, .cells [.i (l103.getD 0 0), .i (l103.getD 1 0), .i (l103.getD 2 0), .i (l103.getD 3 0), .i (l103.getD 4 0), .i (l105.getD 0 0), .i (l105.getD 1 0), .i (l105.getD 2 0), .i (l105.getD 3 0), .i (l105.getD 4 0)]), (g + 0, .cells [.i 0, .i 0, .i 0, .i 0, .i 0, .i 0, .i 0, .i 0, .i 0, .i 0])]) 0 hS rfl rfl .no rfl rfl hl105 ty_var3 rfl rfl fun H hS => ?_
   refine run_nil ?_
   refine r_blk_normal ?_
   refine w_next [(0, .sl .no 3 (a0.map WireFault.cells)), (2, .ptr (g + 0) 0), (3, .ptr (g + 1 + 0) 0), (10, .i v90)] (.k (.k (.k (.k .nil)))) ?_
   refine r_region (n := 2) rfl ?_
   refine o_int (v := .i (w64 (v90 + 1))) (by decide) rfl rfl rfl ?_
   refine o_move (v := .i (w64 (v90 + 1))) (by decide) rfl ?_
   refine run_nil ?_
   exact w_round (w64 (v90 + 1), (l103.getD 0 0), (l103.getD 1 0), (l103.getD 2 0), (l103.getD 3 0), (l103.getD 4 0), (l105.getD 0 0), (l105.getD 1 0), (l105.getD 2 0), (l105.getD 3 0), (l105.getD 4 0)) (Nat.lt_succ_self _) (.k (.k (.k (.k .nil)))) ⟨(hS.keep [true, true] rfl).up (by omega), hM⟩
  ·replace hM := ifF hM hb101
   refine w_condF (e := (decide (v90 < 5))) rfl hb101 ?_
   refine r_exit ?_
   refine r_then_exit ?_
   refine w_round_exit ?_
   refine r_blk_exit ?_
   exact w_goto (v91, v92, v93, v94, v95, v96, v97, v98, v99, v100) (.k (.k (.k .nil))) ⟨(hS.keep [true, true] rfl).up (by omega), hM⟩
theorem W_wires_wiring_plays {a0 : Option Wiring_} {a1 : Panel_} {a2 : Int} {a3 : Int} {r : Int} (hM : wires_wiring_plays a0 a1 a2 a3 = some r) : PureSat Try.prog 74 [pA Wiring_.cells a0, .agg [.i a1.letters.c0, .i a1.letters.c1, .i a1.letters.c2, .i a1.letters.c3, .i a1.letters.c4, .i a1.numbers.c0, .i a1.numbers.c1, .i a1.numbers.c2, .i a1.numbers.c3, .i a1.numbers.c4], .i a2, .i a3] (.i r) := by
 refine pure_of_wp mixed Try.func74 rfl (by decide) Try.ntmps74 (by simp) ?pure fun H0 g hf => ?_
 case pure => exact .v _
 rw [frame0_of]
 change wpA _ _ _ _ (Fr.of [(0, pA Wiring_.cells a0), (1, .agg [.i a1.letters.c0, .i a1.letters.c1, .i a1.letters.c2, .i a1.letters.c3, .i a1.letters.c4, .i a1.numbers.c0, .i a1.numbers.c1, .i a1.numbers.c2, .i a1.numbers.c3, .i a1.numbers.c4]), (2, .i a2), (3, .i a3)]) H0 g
 have hS := St.start hf
 refine r_seq ?_
 refine r_region (n := 2) rfl ?_
 refine o_box (v := .agg [.i a1.letters.c0, .i a1.letters.c1, .i a1.letters.c2, .i a1.letters.c3, .i a1.letters.c4, .i a1.numbers.c0, .i a1.numbers.c1, .i a1.numbers.c2, .i a1.numbers.c3, .i a1.numbers.c4]) (cs := [.i a1.letters.c0, .i a1.letters.c1, .i a1.letters.c2, .i a1.letters.c3, .i a1.letters.c4, .i a1.numbers.c0, .i a1.numbers.c1, .i a1.numbers.c2, .i a1.numbers.c3, .i a1.numbers.c4]) hS (by decide) rfl rfl (by omega) fun H hS => ?_
 refine o_assign (v := .i 0) (by decide) rfl ?_
 refine run_nil ?_
 refine w_iceE (L' := []) 0 5 hS rfl rfl rfl fun H hS => ?_
 refine w_next [(0, pA Wiring_.cells a0), (2, .i a2), (3, .i a3), (5, .ep [.i a1.letters.c0, .i a1.letters.c1, .i a1.letters.c2, .i a1.letters.c3, .i a1.letters.c4, .i a1.numbers.c0, .i a1.numbers.c1, .i a1.numbers.c2, .i a1.numbers.c3, .i a1.numbers.c4])] (.k (.k (.k (.k .nil)))) ?_
 refine r_seq ?_
 have hS0 := hS
 refine r_draw (n := 10) rfl (by kernel_rfl) ?_
 refine o_move (v := .i a2) (by decide) rfl ?_
 refine o_fieldE (cs := [.i a1.letters.c0, .i a1.letters.c1, .i a1.letters.c2, .i a1.letters.c3, .i a1.letters.c4, .i a1.numbers.c0, .i a1.numbers.c1, .i a1.numbers.c2, .i a1.numbers.c3, .i a1.numbers.c4]) (by decide) ty_fo90_0 rfl ?_
 obtain ⟨x1, hx1, hM⟩ := bindE hM
 refine o_indexEA (cs := [.i a1.letters.c0, .i a1.letters.c1, .i a1.letters.c2, .i a1.letters.c3, .i a1.letters.c4, .i a1.numbers.c0, .i a1.numbers.c1, .i a1.numbers.c2, .i a1.numbers.c3, .i a1.numbers.c4]) (z := a2) (by decide) rfl rfl ty_arr88 (idx_lt hx1) ?_
 refine o_loadE (v := .i x1) (by decide) rfl (part_ix (xs := ([a1.letters.c0, a1.letters.c1, a1.letters.c2, a1.letters.c3, a1.letters.c4] : List Int)) ty_agg3 ty_sc3 rfl hx1) ?_
 refine o_move (v := .i a3) (by decide) rfl ?_
 refine o_fieldE (cs := [.i a1.letters.c0, .i a1.letters.c1, .i a1.letters.c2, .i a1.letters.c3, .i a1.letters.c4, .i a1.numbers.c0, .i a1.numbers.c1, .i a1.numbers.c2, .i a1.numbers.c3, .i a1.numbers.c4]) (by decide) ty_fo90_1 rfl ?_
 obtain ⟨x2, hx2, hM⟩ := bindE hM
 refine o_indexEA (cs := [.i a1.numbers.c0, .i a1.numbers.c1, .i a1.numbers.c2, .i a1.numbers.c3, .i a1.numbers.c4]) (z := a3) (by decide) rfl rfl ty_arr88 (idx_lt hx2) ?_
 refine o_loadE (v := .i x2) (by decide) rfl (part_ix (xs := ([a1.numbers.c0, a1.numbers.c1, a1.numbers.c2, a1.numbers.c3, a1.numbers.c4] : List Int)) ty_agg3 ty_sc3 rfl hx2) ?_
 refine o_assign (v := .i x1) (by decide) rfl ?_
 refine o_assign (v := .i x2) (by decide) rfl ?_
 refine run_nil ?_
 refine w_next [(0, pA Wiring_.cells a0), (9, .i x1), (10, .i x2)] (.k (.k (.k .nil))) ?_
 refine r_seq ?_
 refine w_join (J := Bool) (fun j => [(0, pA Wiring_.cells a0), (9, .i x1), (10, .i x2), (24, .b j)]) (fun j H' g' => St (· < g) H0 [] H' g' ∧ wires_wiring_plays_j1 a0 x1 x2 j = some r) ?_ ?_
 ·rintro v3 H g1 ⟨hS, hM⟩
  change wpA _ _ _ _ (Fr.of [(0, pA Wiring_.cells a0), (9, .i x1), (10, .i x2), (24, .b v3)]) _ _
  replace hS : St (· < g) H0 [] H g1 := hS
  replace hM : wires_wiring_plays_j1 a0 x1 x2 v3 = some r := hM
  rcases Bool.eq_false_or_eq_true v3 with hb4 | hb4
  ·replace hM := ifT hM hb4
   refine w_condT (e := v3) rfl hb4 ?_
   refine r_seq ?_
   refine r_region (n := 1) rfl ?_
   refine o_assign (v := .i (-1)) (by decide) rfl ?_
   refine run_nil ?_
   refine w_next [(8, .i (-1))] (.k .nil) ?_
   refine r_ret ?_
   refine r_then_ret ?_
   refine w_end (x := .i (-1)) (f := fun r => .i r) (.inr rfl) ?_ (.refl _) (Option.some.inj hM) hS
   exact (res_one (res_tmp (x := .i (-1)) rfl))
  ·replace hM := ifF hM hb4
   refine w_condF (e := v3) rfl hb4 ?_
   refine r_skip ?_
   refine w_next [(0, pA Wiring_.cells a0), (9, .i x1), (10, .i x2)] (.k (.k (.k .nil))) ?_
   refine r_seq ?_
   refine r_region (n := 10) rfl ?_
   refine o_move (v := .i x1) (by decide) rfl ?_
   refine o_move (v := pA Wiring_.cells a0) (by decide) rfl ?_
   obtain ⟨x5, hx5, hM⟩ := bindE hM
   refine o_nilA (f := Wiring_.cells) (p := a0) (u := x5) (by decide) rfl hx5 ?_
   refine o_fieldE (cs := [.i x5.Wire.Letters, .i x5.Wire.Numbers, .sl .no 3 (x5.Wire.Presses.map WirePress.cells), .i x5.Wire.Faults, .sl .no 3 (x5.all.map WireFault.cells)]) (by decide) ty_fo101_0 rfl ?_
   refine o_fieldE (cs := [.i x5.Wire.Letters, .i x5.Wire.Numbers, .sl .no 3 (x5.Wire.Presses.map WirePress.cells), .i x5.Wire.Faults, .sl .no 3 (x5.all.map WireFault.cells)]) (by decide) ty_fo24_1 rfl ?_
   refine o_loadE (v := .i x5.Wire.Numbers) (by decide) rfl (part_one ty_agg3 ty_sc3 rfl) ?_
   refine o_int (v := .i (w64 (x1 * x5.Wire.Numbers))) (by decide) rfl rfl rfl ?_
   refine o_move (v := .i x2) (by decide) rfl ?_
   refine o_int (v := .i (w64 ((w64 (x1 * x5.Wire.Numbers)) + x2))) (by decide) rfl rfl rfl ?_
   refine o_assign (v := .i (w64 ((w64 (x1 * x5.Wire.Numbers)) + x2))) (by decide) rfl ?_
   refine run_nil ?_
   refine w_next [(8, .i (w64 ((w64 (x1 * x5.Wire.Numbers)) + x2)))] (.k .nil) ?_
   refine r_ret ?_
   refine w_end (x := .i (w64 ((w64 (x1 * x5.Wire.Numbers)) + x2))) (f := fun r => .i r) (.inr rfl) ?_ (.refl _) (Option.some.inj hM) hS
   exact (res_one (res_tmp (x := .i (w64 ((w64 (x1 * x5.Wire.Numbers)) + x2))) rfl))
 ·refine r_region (n := 6) rfl ?_
  refine o_move (v := .i x1) (by decide) rfl ?_
  refine o_int (v := .b (decide (x1 < 0))) (by decide) rfl rfl rfl ?_
  refine o_move (v := .b (decide (x1 < 0))) (by decide) rfl ?_
  rcases Bool.eq_false_or_eq_true (decide (x1 < 0)) with hb6 | hb6
  ·replace hM := ifT hM hb6
   refine o_guardN (j := 2) (e := (decide (x1 < 0))) (want := false) (by decide) rfl hb6 ?_
   refine o_guardN (j := 2) (e := (decide (x1 < 0))) (want := false) (by decide) rfl hb6 ?_
   refine o_pickT (v := .b true) (e := (decide (x1 < 0))) (by decide) rfl hb6 rfl ?_
   refine run_nil ?_
   exact w_goto true (.k (.k (.k (.k .nil)))) ⟨(hS.keep [] rfl).up (by omega), hM⟩
  ·replace hM := ifF hM hb6
   refine o_guardY (j := 2) (e := (decide (x1 < 0))) (want := false) rfl hb6 ?_
   refine o_move (v := .i x2) (by decide) rfl ?_
   refine o_guardY (j := 2) (e := (decide (x1 < 0))) (want := false) rfl hb6 ?_
   refine o_int (v := .b (decide (x2 < 0))) (by decide) rfl rfl rfl ?_
   refine o_pickF (v := .b (decide (x2 < 0))) (e := (decide (x1 < 0))) (by decide) rfl hb6 rfl ?_
   refine run_nil ?_
   exact w_goto (decide (x2 < 0)) (.k (.k (.k (.k .nil)))) ⟨(hS.keep [] rfl).up (by omega), hM⟩
theorem W_wires_wiring_explains_c1 {a0 : WirePress} {a1 : Option Wiring_} {a2 : Panel_} {r : Bool} (hM : wires_wiring_explains_c1 a0 a1 a2 = some r) : PureSat Try.prog 97 [.agg [.i a0.Letter, .i a0.Number, .i a0.Got], .ep [pA Wiring_.cells a1], .ep [.i a2.letters.c0, .i a2.letters.c1, .i a2.letters.c2, .i a2.letters.c3, .i a2.letters.c4, .i a2.numbers.c0, .i a2.numbers.c1, .i a2.numbers.c2, .i a2.numbers.c3, .i a2.numbers.c4]] (.b r) := by
 refine pure_of_wp mixed Try.func97 rfl (by decide) Try.ntmps97 (by simp) ?pure fun H0 g hf => ?_
 case pure => exact .v _
 rw [frame0_of]
 change wpA _ _ _ _ (Fr.of [(0, .agg [.i a0.Letter, .i a0.Number, .i a0.Got]), (1, .ep [pA Wiring_.cells a1]), (2, .ep [.i a2.letters.c0, .i a2.letters.c1, .i a2.letters.c2, .i a2.letters.c3, .i a2.letters.c4, .i a2.numbers.c0, .i a2.numbers.c1, .i a2.numbers.c2, .i a2.numbers.c3, .i a2.numbers.c4])]) H0 g
 have hS := St.start hf
 refine r_seq ?_
 refine r_region (n := 2) rfl ?_
 refine o_box (v := .agg [.i a0.Letter, .i a0.Number, .i a0.Got]) (cs := [.i a0.Letter, .i a0.Number, .i a0.Got]) hS (by decide) rfl rfl (by omega) fun H hS => ?_
 refine o_assign (v := .b false) (by decide) rfl ?_
 refine run_nil ?_
 refine w_iceE (L' := []) 0 3 hS rfl rfl rfl fun H hS => ?_
 refine w_next [(1, .ep [pA Wiring_.cells a1]), (2, .ep [.i a2.letters.c0, .i a2.letters.c1, .i a2.letters.c2, .i a2.letters.c3, .i a2.letters.c4, .i a2.numbers.c0, .i a2.numbers.c1, .i a2.numbers.c2, .i a2.numbers.c3, .i a2.numbers.c4]), (3, .ep [.i a0.Letter, .i a0.Number, .i a0.Got])] (.k (.k (.k .nil))) ?_
 refine r_seq ?_
 have hS0 := hS
 refine r_draw (n := 11) rfl (by kernel_rfl) ?_
 refine o_loadE (v := pA Wiring_.cells a1) (by decide) rfl (part_one ty_agg64 ty_sc64 rfl) ?_
 refine o_loadE (v := .agg [.i a2.letters.c0, .i a2.letters.c1, .i a2.letters.c2, .i a2.letters.c3, .i a2.letters.c4, .i a2.numbers.c0, .i a2.numbers.c1, .i a2.numbers.c2, .i a2.numbers.c3, .i a2.numbers.c4]) (by decide) rfl (part_agg ty_agg90 (Nat.le_of_ble_eq_true rfl) rfl) ?_
 refine o_fieldE (cs := [.i a0.Letter, .i a0.Number, .i a0.Got]) (by decide) ty_fo50_0 rfl ?_
 refine o_loadE (v := .i a0.Letter) (by decide) rfl (part_one ty_agg3 ty_sc3 rfl) ?_
 refine o_fieldE (cs := [.i a0.Letter, .i a0.Number, .i a0.Got]) (by decide) ty_fo50_1 rfl ?_
 refine o_loadE (v := .i a0.Number) (by decide) rfl (part_one ty_agg3 ty_sc3 rfl) ?_
 obtain ⟨r1, hr1, hM⟩ := bindE hM
 refine o_call (bs := [pA Wiring_.cells a1, .agg [.i a2.letters.c0, .i a2.letters.c1, .i a2.letters.c2, .i a2.letters.c3, .i a2.letters.c4, .i a2.numbers.c0, .i a2.numbers.c1, .i a2.numbers.c2, .i a2.numbers.c3, .i a2.numbers.c4], .i a0.Letter, .i a0.Number]) (by decide) rfl rfl ((W_wires_wiring_plays hr1).le (.k (.k (.k (.k .nil))))) ?_
 refine o_fieldE (cs := [.i a0.Letter, .i a0.Number, .i a0.Got]) (by decide) ty_fo50_2 rfl ?_
 refine o_loadE (v := .i a0.Got) (by decide) rfl (part_one ty_agg3 ty_sc3 rfl) ?_
 refine o_int (v := .b (r1 != a0.Got)) (by decide) rfl rfl rfl ?_
 refine o_assign (v := .b (r1 != a0.Got)) (by decide) rfl ?_
 refine run_nil ?_
 refine w_next [(4, .b (r1 != a0.Got))] (.k .nil) ?_
 refine r_ret ?_
 refine w_end (x := .b (r1 != a0.Got)) (f := fun r => .b r) (.inr rfl) ?_ (.refl _) (Option.some.inj hM) hS
 exact (res_one (res_tmp (x := .b (r1 != a0.Got)) rfl))
theorem W_wires_wiring_explains {n : Nat} {a0 : Option Wiring_} {a1 : List WireFault} {a2 : List WirePress} {r : Bool} (hM : wires_wiring_explains n a0 a1 a2 = some r) : PureSat Try.prog 77 [pA Wiring_.cells a0, .sl .no 3 (a1.map WireFault.cells), .sl .no 3 (a2.map WirePress.cells)] (.b r) := by
 refine pure_of_wp mixed Try.func77 rfl (by decide) Try.ntmps77 (by simp) ?pure fun H0 g hf => ?_
 case pure => exact .v _
 rw [frame0_of]
 change wpA _ _ _ _ (Fr.of [(0, pA Wiring_.cells a0), (1, .sl .no 3 (a1.map WireFault.cells)), (2, .sl .no 3 (a2.map WirePress.cells))]) H0 g
 have hS := St.start hf
 refine r_seq ?_
 refine r_region (n := 2) rfl ?_
 refine o_box (v := pA Wiring_.cells a0) (cs := [pA Wiring_.cells a0]) hS (by decide) rfl (cellsOf_pA _ _) (by omega) fun H hS => ?_
 refine o_assign (v := .b false) (by decide) rfl ?_
 refine run_nil ?_
 refine w_iceE (L' := []) 0 3 hS rfl rfl rfl fun H hS => ?_
 refine w_next [(1, .sl .no 3 (a1.map WireFault.cells)), (2, .sl .no 3 (a2.map WirePress.cells)), (3, .ep [pA Wiring_.cells a0])] (.k (.k (.k .nil))) ?_
 refine r_seq ?_
 refine r_region (n := 4) rfl ?_
 refine o_move (v := .sl .no 3 (a1.map WireFault.cells)) (by decide) rfl ?_
 obtain ⟨r1, hr1, hM⟩ := bindE hM
 refine o_call (bs := [.sl .no 3 (a1.map WireFault.cells)]) (by decide) rfl rfl ((W_wires_wire hr1).le (.k .nil)) ?_
 refine o_alloc hS (by decide) ty_zero90 (by omega) fun H hS => ?_
 refine o_store (v := .agg [.i r1.letters.c0, .i r1.letters.c1, .i r1.letters.c2, .i r1.letters.c3, .i r1.letters.c4, .i r1.numbers.c0, .i r1.numbers.c1, .i r1.numbers.c2, .i r1.numbers.c3, .i r1.numbers.c4]) (ns := [.i r1.letters.c0, .i r1.letters.c1, .i r1.letters.c2, .i r1.letters.c3, .i r1.letters.c4, .i r1.numbers.c0, .i r1.numbers.c1, .i r1.numbers.c2, .i r1.numbers.c3, .i r1.numbers.c4]) (L' := [(g + 2 + 2, .cells [.i r1.letters.c0, .i r1.letters.c1, .i r1.letters.c2, .i r1.letters.c3, .i r1.letters.c4, .i r1.numbers.c0, .i r1.numbers.c1, .i r1.numbers.c2, .i r1.numbers.c3, .i r1.numbers.c4])]) 0 hS rfl rfl .no rfl rfl ty_var90 (Nat.le_of_ble_eq_true rfl) rfl fun H hS => ?_
 refine run_nil ?_
 refine w_iceE (L' := []) 0 7 hS rfl rfl rfl fun H hS => ?_
 refine w_next [(2, .sl .no 3 (a2.map WirePress.cells)), (3, .ep [pA Wiring_.cells a0]), (7, .ep [.i r1.letters.c0, .i r1.letters.c1, .i r1.letters.c2, .i r1.letters.c3, .i r1.letters.c4, .i r1.numbers.c0, .i r1.numbers.c1, .i r1.numbers.c2, .i r1.numbers.c3, .i r1.numbers.c4])] (.k (.k (.k .nil))) ?_
 refine r_seq ?_
 refine r_region (n := 5) rfl ?_
 refine o_move (v := .sl .no 3 (a2.map WirePress.cells)) (by decide) rfl ?_
 refine o_makeFunc (first := []) (cap := [.ep [pA Wiring_.cells a0], .ep [.i r1.letters.c0, .i r1.letters.c1, .i r1.letters.c2, .i r1.letters.c3, .i r1.letters.c4, .i r1.numbers.c0, .i r1.numbers.c1, .i r1.numbers.c2, .i r1.numbers.c3, .i r1.numbers.c4]]) (by decide) rfl rfl ?_
 obtain ⟨r2, hr2, hM⟩ := bindE hM
 refine o_call (bs := [.sl .no 3 (a2.map WirePress.cells), .fn (.func 97) [] [.ep [pA Wiring_.cells a0], .ep [.i r1.letters.c0, .i r1.letters.c1, .i r1.letters.c2, .i r1.letters.c3, .i r1.letters.c4, .i r1.numbers.c0, .i r1.numbers.c1, .i r1.numbers.c2, .i r1.numbers.c3, .i r1.numbers.c4]]]) (by decide) rfl rfl (pure_of_hsat ((W_slices_ContainsFunc_apiWirePress (Lo := (fun (_ : Unit) => []))  (fun _ _ => kl_nil) (fun _ => List.nodup_nil) (fun _ => inb_nil) (aF := (fun (x0 : WirePress) (_ : Unit) => (wires_wiring_explains_c1 x0 a0 r1).map fun y => (y, ()))) (fun _ H hH => (.fn _ _ _ ai_nil (ai_cons (.ep _ (ai_cons (show Go.AM.Pure _ from pure_pA (fun x => (pl_cons (.v _) (pl_cons (.v _) (pl_cons (.sl _ _ (pures_map (fun x => (pl_cons (.v _) (pl_cons (.v _) (pl_cons (.v _) pl_nil)))))) (pl_cons (.v _) (pl_cons (.sl _ _ (pures_map (fun x => (pl_cons (.v _) (pl_cons (.v _) (pl_cons (.v _) pl_nil)))))) pl_nil)))))) _).inH ai_nil)) (ai_cons (.ep _ (ai_cons (show Go.AM.Pure _ from .v _).inH (ai_cons (show Go.AM.Pure _ from .v _).inH (ai_cons (show Go.AM.Pure _ from .v _).inH (ai_cons (show Go.AM.Pure _ from .v _).inH (ai_cons (show Go.AM.Pure _ from .v _).inH (ai_cons (show Go.AM.Pure _ from .v _).inH (ai_cons (show Go.AM.Pure _ from .v _).inH (ai_cons (show Go.AM.Pure _ from .v _).inH (ai_cons (show Go.AM.Pure _ from .v _).inH (ai_cons (show Go.AM.Pure _ from .v _).inH ai_nil))))))))))) ai_nil)))) rfl (fun h => csat_val (W_wires_wiring_explains_c1 (pure_some h))) hr2).le (.k (.k .nil)))) ?_
 refine o_not (e := r2.1) (by decide) rfl ?_
 refine o_assign (v := .b (!r2.1)) (by decide) rfl ?_
 refine run_nil ?_
 refine w_next [(6, .b (!r2.1))] (.k .nil) ?_
 refine r_ret ?_
 refine w_end (x := .b (!r2.1)) (f := fun r => .b r) (.inr rfl) ?_ (.refl _) (Option.some.inj hM) hS
 exact (res_one (res_tmp (x := .b (!r2.1)) rfl))
theorem W_wires_wiring_explained_c1_c1 {S : Type} {Lo : S → BL} (hk : ∀ s s', KinL (Lo s) (Lo s')) (hnd : ∀ s, (ids (Lo s)).Nodup) (hin : ∀ s, InB In (Lo s)) {aF : (List WireFault) → S → Option (Bool × S)} {f0 : AV} (hF : ∀ s H, Has H (Lo s) → In H f0) (h0 : cellsOf f0 = some [f0]) (hf : ∀ {x0 : List WireFault} {s : S} {r : Bool × S}, aF x0 s = some r → CSat Try.prog f0 [.sl .no 3 (x0.map WireFault.cells)] (Lo s) (.b r.1) (Lo r.2)) {n : Nat} {a0 : List WireFault} {a1 : Option Wiring_} {a2 : List WirePress} {st : S} {r : Bool × S} (hM : wires_wiring_explained_c1_c1 n aF a0 a1 a2 st = some r) : HSat Try.prog 100 [.sl .no 3 (a0.map WireFault.cells), .ep [pA Wiring_.cells a1], .ep [.sl .no 3 (a2.map WirePress.cells)], .ep [f0]] (Lo st) (.b r.1) (Lo r.2) := by
 have hnd0 : ∀ s, (ids (Lo s)).Nodup := fun s => hnd s
 refine hsat_of_wp mixed Try.func100 rfl (by decide) Try.ntmps100 (by simp) (hk _ _) (hnd st) ?pure ?cells fun H0 g hf_ hp => ?_
 case pure => exact fun H _ => (show Go.AM.Pure _ from .v _).inH
 case cells => exact hin _
 rw [frame0_of]
 change wpA _ _ _ _ (Fr.of [(0, .sl .no 3 (a0.map WireFault.cells)), (1, .ep [pA Wiring_.cells a1]), (2, .ep [.sl .no 3 (a2.map WirePress.cells)]), (3, .ep [f0])]) H0 g
 have hS := St.startH (L := ([] ++ Lo st)) hf_ (hnd st) hp
 replace hS : St (fun i => i < g ∧ i ∉ ids (Lo st)) H0 ([] ++ Lo st) H0 g := hS
 refine r_seq ?_
 refine r_region (n := 1) rfl ?_
 refine o_assign (v := .b false) (by decide) rfl ?_
 refine run_nil ?_
 refine w_next [(0, .sl .no 3 (a0.map WireFault.cells)), (1, .ep [pA Wiring_.cells a1]), (2, .ep [.sl .no 3 (a2.map WirePress.cells)]), (3, .ep [f0])] (.k (.k (.k (.k .nil)))) ?_
 refine w_join (J := Bool × S) (fun j => [(5, .b j.1)]) (fun j H' g' => St (fun i => i < g ∧ i ∉ ids (Lo st)) H0 ([] ++ Lo j.2) H' g' ∧ wires_wiring_explained_c1_c1_j1 j.1 j.2 = some r) ?_ ?_
 ·rintro ⟨v1, v2⟩ H g1 ⟨hS, hM⟩
  change wpA _ _ _ _ (Fr.of [(5, .b v1)]) _ _
  replace hS : St (fun i => i < g ∧ i ∉ ids (Lo st)) H0 ([] ++ Lo v2) H g1 := hS
  replace hM : wires_wiring_explained_c1_c1_j1 v1 v2 = some r := hM
  refine r_ret ?_
  refine w_endS (x := .b v1) (f := fun r => .b r.1) (fd := fun r => (Lo r.2)) (.inr rfl) ?_ (.refl _) (Option.some.inj hM) hS 0 rfl
  exact (res_one (res_tmp (x := .b v1) rfl))
 ·refine r_region (n := 11) rfl ?_
  refine o_loadE (v := pA Wiring_.cells a1) (by decide) rfl (part_one ty_agg64 ty_sc64 rfl) ?_
  refine o_move (v := .sl .no 3 (a0.map WireFault.cells)) (by decide) rfl ?_
  refine o_loadE (v := .sl .no 3 (a2.map WirePress.cells)) (by decide) rfl (part_one ty_agg22 ty_sc22 rfl) ?_
  obtain ⟨r3, hr3, hM⟩ := bindE hM
  refine o_call (bs := [pA Wiring_.cells a1, .sl .no 3 (a0.map WireFault.cells), .sl .no 3 (a2.map WirePress.cells)]) (by decide) rfl rfl ((W_wires_wiring_explains hr3).le (.k (.k (.k .nil)))) ?_
  refine o_not (e := r3) (by decide) rfl ?_
  refine o_move (v := .b (!r3)) (by decide) rfl ?_
  rcases Bool.eq_false_or_eq_true (!r3) with hb4 | hb4
  ·replace hM := ifT hM hb4
   refine o_guardN (j := 5) (e := (!r3)) (want := false) (by decide) rfl hb4 ?_
   refine o_guardN (j := 5) (e := (!r3)) (want := false) (by decide) rfl hb4 ?_
   refine o_guardN (j := 5) (e := (!r3)) (want := false) (by decide) rfl hb4 ?_
   refine o_pickT (v := .b true) (e := (!r3)) (by decide) rfl hb4 rfl ?_
   refine o_assign (v := .b true) (by decide) rfl ?_
   refine run_nil ?_
   exact w_goto (true, st) (.k .nil) ⟨(hS.keep [] rfl).up (by omega), hM⟩
  ·replace hM := ifF hM hb4
   refine o_guardY (j := 5) (e := (!r3)) (want := false) rfl hb4 ?_
   refine o_loadE (v := f0) (by decide) rfl (part_one ty_agg85 ty_sc85 rfl) ?_
   refine o_guardY (j := 5) (e := (!r3)) (want := false) rfl hb4 ?_
   refine o_move (v := .sl .no 3 (a0.map WireFault.cells)) (by decide) rfl ?_
   refine o_guardY (j := 5) (e := (!r3)) (want := false) rfl hb4 ?_
   obtain ⟨r5, hr5, hM⟩ := bindE hM
   replace hS : St (fun i => i < g ∧ i ∉ ids (Lo st)) H0 ([] ++ Lo st) _ _ := hS
   refine o_state (bs := [.sl .no 3 (a0.map WireFault.cells)]) (.inl rfl) hS (by decide) rfl rfl ((hf hr5).le (.k .nil)) (hk _ _).ids (by omega) fun H hS => ?_
   refine o_pickF (v := .b r5.1) (e := (!r3)) (by decide) rfl hb4 rfl ?_
   refine o_assign (v := .b r5.1) (by decide) rfl ?_
   refine run_nil ?_
   exact w_goto (r5.1, r5.2) (.k .nil) ⟨(hS.keep [] rfl).up (by omega), hM⟩
theorem W_wires_wiring_explained_c1 {S : Type} {Lo : S → BL} (hk : ∀ s s', KinL (Lo s) (Lo s')) (hnd : ∀ s, (ids (Lo s)).Nodup) (hin : ∀ s, InB In (Lo s)) {aF : (List WireFault) → S → Option (Bool × S)} {f0 : AV} (hF : ∀ s H, Has H (Lo s) → In H f0) (h0 : cellsOf f0 = some [f0]) (hf : ∀ {x0 : List WireFault} {s : S} {r : Bool × S}, aF x0 s = some r → CSat Try.prog f0 [.sl .no 3 (x0.map WireFault.cells)] (Lo s) (.b r.1) (Lo r.2)) {n : Nat} {a1 : Option Wiring_} {a2 : Int} {a3 : List WirePress} {st : S} {r : Unit × S} (hM : wires_wiring_explained_c1 n aF a1 a2 a3 st = some r) : HSat Try.prog 98 [f0, .ep [pA Wiring_.cells a1], .ep [.i a2], .ep [.sl .no 3 (a3.map WirePress.cells)]] (Lo st) (.tup []) (Lo r.2) := by
 have hnd0 : ∀ s, (ids (Lo s)).Nodup := fun s => hnd s
 refine hsat_of_wp mixed Try.func98 rfl (by decide) Try.ntmps98 (by simp) (hk _ _) (hnd st) ?pure ?cells fun H0 g hf_ hp => ?_
 case pure => exact fun H _ => (show Go.AM.Pure _ from .tup _ pl_nil).inH
 case cells => exact hin _
 rw [frame0_of]
 change wpA _ _ _ _ (Fr.of [(0, f0), (1, .ep [pA Wiring_.cells a1]), (2, .ep [.i a2]), (3, .ep [.sl .no 3 (a3.map WirePress.cells)])]) H0 g
 have hS := St.startH (L := ([] ++ Lo st)) hf_ (hnd st) hp
 replace hS : St (fun i => i < g ∧ i ∉ ids (Lo st)) H0 ([] ++ Lo st) H0 g := hS
 refine r_seq ?_
 refine r_region (n := 1) rfl ?_
 refine o_box (v := f0) (cs := [f0]) hS (by decide) rfl h0 (by omega) fun H hS => ?_
 refine run_nil ?_
 refine w_iceE (L' := ([] ++ Lo st)) 0 4 hS rfl rfl rfl fun H hS => ?_
 refine w_next [(1, .ep [pA Wiring_.cells a1]), (2, .ep [.i a2]), (3, .ep [.sl .no 3 (a3.map WirePress.cells)]), (4, .ep [f0])] (.k (.k (.k (.k .nil)))) ?_
 refine r_region (n := 4) rfl ?_
 refine o_loadE (v := pA Wiring_.cells a1) (by decide) rfl (part_one ty_agg64 ty_sc64 rfl) ?_
 refine o_loadE (v := .i a2) (by decide) rfl (part_one ty_agg3 ty_sc3 rfl) ?_
 refine o_makeFunc (first := []) (cap := [.ep [pA Wiring_.cells a1], .ep [.sl .no 3 (a3.map WirePress.cells)], .ep [f0]]) (by decide) rfl rfl ?_
 obtain ⟨r1, hr1, hM⟩ := bindE hM
 replace hS : St (fun i => i < g ∧ i ∉ ids (Lo st)) H0 ([] ++ Lo st) _ _ := hS
 refine o_stateH (bs := [pA Wiring_.cells a1, .sl .nil 0 [], .i 0, .i a2, .fn (.func 100) [] [.ep [pA Wiring_.cells a1], .ep [.sl .no 3 (a3.map WirePress.cells)], .ep [f0]]]) (.inl rfl) hS (by decide) rfl rfl ((W_wires_wiring_sets (Lo := Lo)  hk hnd0 hin (aF := (fun (x0 : List WireFault) s => wires_wiring_explained_c1_c1 n aF x0 a1 a3 s)) (fun s H hH => (.fn _ _ _ ai_nil (ai_cons (.ep _ (ai_cons (show Go.AM.Pure _ from pure_pA (fun x => (pl_cons (.v _) (pl_cons (.v _) (pl_cons (.sl _ _ (pures_map (fun x => (pl_cons (.v _) (pl_cons (.v _) (pl_cons (.v _) pl_nil)))))) (pl_cons (.v _) (pl_cons (.sl _ _ (pures_map (fun x => (pl_cons (.v _) (pl_cons (.v _) (pl_cons (.v _) pl_nil)))))) pl_nil)))))) _).inH ai_nil)) (ai_cons (.ep _ (ai_cons (show Go.AM.Pure _ from .sl _ _ (pures_map (fun x => (pl_cons (.v _) (pl_cons (.v _) (pl_cons (.v _) pl_nil)))))).inH ai_nil)) (ai_cons (.ep _ (ai_cons (hF _ H hH) ai_nil)) ai_nil))))) rfl (fun h => csat_hv (W_wires_wiring_explained_c1_c1 (Lo := Lo)  hk hnd0 hin hF h0 hf h)) hr1).le (.k (.cons (.sl0 .nil 3 0) (.k (.k (.k .nil)))))) (hk _ _).ids (by omega) fun H hS => ?_
 refine run_nil ?_
 refine w_endS (x := .tup []) (f := fun r => .tup []) (fd := fun r => (Lo r.2)) (.inl rfl) ?_ (.refl _) (Option.some.inj hM) hS 0 rfl
 exact rfl
theorem W_wires_wiring_explained {n : Nat} {a0 : Option Wiring_} {a1 : List WirePress} {a2 : Int} {r : ((Option Wiring_) × Int × (List WirePress))} (hM : wires_wiring_explained n a0 a1 a2 = some r) : PureSat Try.prog 79 [pA Wiring_.cells a0, .sl .no 3 (a1.map WirePress.cells), .i a2] (.fn (.func 98) [] [.ep [pA Wiring_.cells r.1], .ep [.i r.2.1], .ep [.sl .no 3 (r.2.2.map WirePress.cells)]]) := by
 refine pure_of_wp mixed Try.func79 rfl (by decide) Try.ntmps79 (by simp) ?pure fun H0 g hf => ?_
 case pure => exact .fn _ _ _ pl_nil (pl_cons (.ep _ (pl_cons (pure_pA (fun x => (pl_cons (.v _) (pl_cons (.v _) (pl_cons (.sl _ _ (pures_map (fun x => (pl_cons (.v _) (pl_cons (.v _) (pl_cons (.v _) pl_nil)))))) (pl_cons (.v _) (pl_cons (.sl _ _ (pures_map (fun x => (pl_cons (.v _) (pl_cons (.v _) (pl_cons (.v _) pl_nil)))))) pl_nil)))))) _) pl_nil)) (pl_cons (.ep _ (pl_cons (.v _) pl_nil)) (pl_cons (.ep _ (pl_cons (.sl _ _ (pures_map (fun x => (pl_cons (.v _) (pl_cons (.v _) (pl_cons (.v _) pl_nil)))))) pl_nil)) pl_nil)))
 rw [frame0_of]
 change wpA _ _ _ _ (Fr.of [(0, pA Wiring_.cells a0), (1, .sl .no 3 (a1.map WirePress.cells)), (2, .i a2)]) H0 g
 have hS := St.start hf
 refine r_seq ?_
 refine r_region (n := 4) rfl ?_
 refine o_box (v := pA Wiring_.cells a0) (cs := [pA Wiring_.cells a0]) hS (by decide) rfl (cellsOf_pA _ _) (by omega) fun H hS => ?_
 refine o_box (v := .sl .no 3 (a1.map WirePress.cells)) (cs := [.sl .no 3 (a1.map WirePress.cells)]) hS (by decide) rfl rfl (by omega) fun H hS => ?_
 refine o_box (v := .i a2) (cs := [.i a2]) hS (by decide) rfl rfl (by omega) fun H hS => ?_
 refine o_assign (v := .v .nilFunc) (by decide) rfl ?_
 refine run_nil ?_
 refine w_iceE (L' := [(g + 2, .cells [.i a2]), (g + 1, .cells [.sl .no 3 (a1.map WirePress.cells)])]) 2 3 hS rfl rfl rfl fun H hS => ?_
 refine w_iceE (L' := [(g + 2, .cells [.i a2])]) 1 4 hS rfl rfl rfl fun H hS => ?_
 refine w_iceE (L' := []) 0 5 hS rfl rfl rfl fun H hS => ?_
 refine w_next [(3, .ep [pA Wiring_.cells a0]), (4, .ep [.sl .no 3 (a1.map WirePress.cells)]), (5, .ep [.i a2])] (.k (.k (.k .nil))) ?_
 refine r_seq ?_
 refine r_region (n := 2) rfl ?_
 refine o_makeFunc (first := []) (cap := [.ep [pA Wiring_.cells a0], .ep [.i a2], .ep [.sl .no 3 (a1.map WirePress.cells)]]) (by decide) rfl rfl ?_
 refine o_assign (v := .fn (.func 98) [] [.ep [pA Wiring_.cells a0], .ep [.i a2], .ep [.sl .no 3 (a1.map WirePress.cells)]]) (by decide) rfl ?_
 refine run_nil ?_
 refine w_next [(6, .fn (.func 98) [] [.ep [pA Wiring_.cells a0], .ep [.i a2], .ep [.sl .no 3 (a1.map WirePress.cells)]])] (.k .nil) ?_
 refine r_ret ?_
 refine w_end (x := .fn (.func 98) [] [.ep [pA Wiring_.cells a0], .ep [.i a2], .ep [.sl .no 3 (a1.map WirePress.cells)]]) (f := fun r => .fn (.func 98) [] [.ep [pA Wiring_.cells r.1], .ep [.i r.2.1], .ep [.sl .no 3 (r.2.2.map WirePress.cells)]]) (.inr rfl) ?_ (.refl _) (Option.some.inj hM) hS
 exact (res_one (res_tmp (x := .fn (.func 98) [] [.ep [pA Wiring_.cells a0], .ep [.i a2], .ep [.sl .no 3 (a1.map WirePress.cells)]]) rfl))
theorem W_wires_wiring_truths {S : Type} {Lo : S → BL} (hk : ∀ s s', KinL (Lo s) (Lo s')) (hnd : ∀ s, (ids (Lo s)).Nodup) (hin : ∀ s, InB In (Lo s)) {aF : (List WireFault) → S → Option (Bool × S)} {f0 : AV} (hF : ∀ s H, Has H (Lo s) → In H f0) (h0 : cellsOf f0 = some [f0]) (hf : ∀ {x0 : List WireFault} {s : S} {r : Bool × S}, aF x0 s = some r → CSat Try.prog f0 [.sl .no 3 (x0.map WireFault.cells)] (Lo s) (.b r.1) (Lo r.2)) {n : Nat} {a0 : Option Wiring_} {st : S} {r : Unit × S} (hM : wires_wiring_truths n aF a0 st = some r) : HSat Try.prog 84 [pA Wiring_.cells a0, f0] (Lo st) (.tup []) (Lo r.2) := by
 have hnd0 : ∀ s, (ids (Lo s)).Nodup := fun s => hnd s
 refine hsat_of_wp mixed Try.func84 rfl (by decide) Try.ntmps84 (by simp) (hk _ _) (hnd st) ?pure ?cells fun H0 g hf_ hp => ?_
 case pure => exact fun H _ => (show Go.AM.Pure _ from .tup _ pl_nil).inH
 case cells => exact hin _
 rw [frame0_of]
 change wpA _ _ _ _ (Fr.of [(0, pA Wiring_.cells a0), (1, f0)]) H0 g
 have hS := St.startH (L := ([] ++ Lo st)) hf_ (hnd st) hp
 replace hS : St (fun i => i < g ∧ i ∉ ids (Lo st)) H0 ([] ++ Lo st) H0 g := hS
 have hS0 := hS
 refine r_draw (n := 14) rfl (by kernel_rfl) ?_
 refine o_move (v := pA Wiring_.cells a0) (by decide) rfl ?_
 refine o_move (v := pA Wiring_.cells a0) (by decide) rfl ?_
 obtain ⟨x1, hx1, hM⟩ := bindE hM
 refine o_nilA (f := Wiring_.cells) (p := a0) (u := x1) (by decide) rfl hx1 ?_
 refine o_fieldE (cs := [.i x1.Wire.Letters, .i x1.Wire.Numbers, .sl .no 3 (x1.Wire.Presses.map WirePress.cells), .i x1.Wire.Faults, .sl .no 3 (x1.all.map WireFault.cells)]) (by decide) ty_fo101_0 rfl ?_
 refine o_fieldE (cs := [.i x1.Wire.Letters, .i x1.Wire.Numbers, .sl .no 3 (x1.Wire.Presses.map WirePress.cells), .i x1.Wire.Faults, .sl .no 3 (x1.all.map WireFault.cells)]) (by decide) ty_fo24_2 rfl ?_
 refine o_loadE (v := .sl .no 3 (x1.Wire.Presses.map WirePress.cells)) (by decide) rfl (part_one ty_agg22 ty_sc22 rfl) ?_
 refine o_move (v := pA Wiring_.cells a0) (by decide) rfl ?_
 obtain ⟨x2, hx2, hM⟩ := bindE hM
 refine o_nilA (f := Wiring_.cells) (p := a0) (u := x2) (by decide) rfl hx2 ?_
 refine o_fieldE (cs := [.i x2.Wire.Letters, .i x2.Wire.Numbers, .sl .no 3 (x2.Wire.Presses.map WirePress.cells), .i x2.Wire.Faults, .sl .no 3 (x2.all.map WireFault.cells)]) (by decide) ty_fo101_0 rfl ?_
 refine o_fieldE (cs := [.i x2.Wire.Letters, .i x2.Wire.Numbers, .sl .no 3 (x2.Wire.Presses.map WirePress.cells), .i x2.Wire.Faults, .sl .no 3 (x2.all.map WireFault.cells)]) (by decide) ty_fo24_3 rfl ?_
 refine o_loadE (v := .i x2.Wire.Faults) (by decide) rfl (part_one ty_agg3 ty_sc3 rfl) ?_
 obtain ⟨r3, hr3, hM⟩ := bindE hM
 refine o_call (bs := [pA Wiring_.cells a0, .sl .no 3 (x1.Wire.Presses.map WirePress.cells), .i x2.Wire.Faults]) (by decide) rfl rfl ((W_wires_wiring_explained hr3).le (.k (.k (.k .nil)))) ?_
 refine o_move (v := f0) (by decide) rfl ?_
 obtain ⟨r4, hr4, hM⟩ := bindE hM
 replace hS : St (fun i => i < g ∧ i ∉ ids (Lo st)) H0 ([] ++ Lo st) _ _ := hS
 refine o_stateH (bs := [f0, .ep [pA Wiring_.cells r3.1], .ep [.i r3.2.1], .ep [.sl .no 3 (r3.2.2.map WirePress.cells)]]) (.inr (by kernel_rfl)) hS (by decide) rfl rfl ((W_wires_wiring_explained_c1 (Lo := Lo)  hk hnd0 hin (aF := aF) hF h0 hf hr4).le (.k (.k (.k (.k .nil))))) (hk _ _).ids (by omega) fun H hS => ?_
 refine run_nil ?_
 refine w_endS (x := .tup []) (f := fun r => .tup []) (fd := fun r => (Lo r.2)) (.inl rfl) ?_ (.refl _) (Option.some.inj hM) hS 0 rfl
 exact rfl
end Go.Proofs.Ytneghcnkcfblmaa
