/-
  The code returns what the functions say (printed by gen.py).
  Conditions: none.
-/
import Derived.Test.YtneghcnkcfblmaaWkWiresFine2
import Derived.Test.YtneghcnkcfblmaaSh
set_option linter.all false
namespace Go.Proofs.Ytneghcnkcfblmaa
open Go Go.AM Go.Law
set_option linter.unusedVariables false
set_option maxRecDepth 4000
set_option maxHeartbeats 4000000
theorem W_law11_WiresFine {n : Nat} {a0 : Wire} {r : Bool} (hM : law11_WiresFine n a0 = some r) : PureSat Try.prog 10 [.agg (Wire.cells a0)] (.b r) := by
 refine pure_of_wp mixed Try.func10 rfl (by decide) Try.ntmps10 (by simp) ?pure fun H0 g hf => ?_
 case pure => exact .v _
 rw [frame0_of]
 change wpA _ _ _ _ (Fr.of [(0, .agg (Wire.cells a0))]) H0 g
 have hS := St.start hf
 refine r_seq ?_
 refine r_region (n := 2) rfl ?_
 refine o_box (v := .agg (Wire.cells a0)) (cs := (Wire.cells a0)) hS (by decide) rfl rfl (by omega) fun H hS => ?_
 refine o_assign (v := .b false) (by decide) rfl ?_
 refine run_nil ?_
 refine w_iceE (L' := []) 0 1 hS rfl rfl rfl fun H hS => ?_
 refine w_next [(1, .ep (Wire.cells a0))] (.k .nil) ?_
 refine r_seq ?_
 refine r_seq ?_
 refine r_region (n := 3) rfl ?_
 refine o_loadE (v := .agg (Wire.cells a0)) (by decide) rfl (part_agg ty_agg24 (Nat.le_of_ble_eq_true rfl) rfl) ?_
 obtain ⟨r1, hr1, hM⟩ := bindE hM
 refine o_call (bs := [.agg (Wire.cells a0)]) (by decide) rfl rfl ((W_law11_ready hr1).le (.k .nil)) ?_
 refine o_not (e := r1) (by decide) rfl ?_
 refine run_nil ?_
 refine w_next [(1, .ep (Wire.cells a0)), (13, .b (!r1))] (.k (.k .nil)) ?_
 rcases Bool.eq_false_or_eq_true (!r1) with hb2 | hb2
 ·replace hM := ifT hM hb2
  refine w_condT (e := (!r1)) rfl hb2 ?_
  refine r_seq ?_
  refine r_region (n := 2) rfl ?_
  obtain ⟨r3, hr3, hM⟩ := bindE hM
  refine o_call (bs := []) (by decide) rfl rfl ((W_law11_works hr3).le .nil) ?_
  refine o_assign (v := .b r3) (by decide) rfl ?_
  refine run_nil ?_
  refine w_next [(2, .b r3)] (.k .nil) ?_
  refine r_ret ?_
  refine r_then_ret ?_
  refine w_end (x := .b r3) (f := fun r => .b r) (.inr rfl) ?_ (.refl _) (Option.some.inj hM) hS
  exact (res_one (res_tmp (x := .b r3) rfl))
 ·replace hM := ifF hM hb2
  refine w_condF (e := (!r1)) rfl hb2 ?_
  refine r_skip ?_
  refine w_next [(1, .ep (Wire.cells a0))] (.k .nil) ?_
  refine r_seq ?_
  refine r_region (n := 4) rfl ?_
  refine o_loadE (v := .agg (Wire.cells a0)) (by decide) rfl (part_agg ty_agg24 (Nat.le_of_ble_eq_true rfl) rfl) ?_
  obtain ⟨r4, hr4, hM⟩ := bindE hM
  refine o_thaw (mk := (aggAt [.i r4.Letters, .i r4.Numbers] [.i r4.Faults])) (k := 3) (e := 50) (es := (r4.Presses.map WirePress.cells)) (bs := [.agg (Wire.cells a0)]) hS (by decide) rfl rfl ((WO_ref11_Copy hr4).le (.k .nil)) (aggAt_ok (fl_cons (fl_cons fl_nil)) (fl_cons fl_nil)) (pl_cons (.agg _ (pl_cons (.v _) (pl_cons (.v _) (pl_cons (.sl _ _ (pures_map (fun x => (pl_cons (.v _) (pl_cons (.v _) (pl_cons (.v _) pl_nil)))))) (pl_cons (.v _) pl_nil))))) pl_nil) (fl_map (fun x => (fl_cons (fl_cons (fl_cons fl_nil))))) (List.length_map _) (by omega) fun H hS => ?_
  refine o_alloc hS (by decide) ty_zero24 (by omega) fun H hS => ?_
  refine o_store (v := .agg [.i r4.Letters, .i r4.Numbers, msn (g + 2 + 3 + 1) 3 r4.Presses.length, .i r4.Faults]) (ns := [.i r4.Letters, .i r4.Numbers, msn (g + 2 + 3 + 1) 3 r4.Presses.length, .i r4.Faults]) (L' := ([(g + 2 + 3 + 2, .cells [.i r4.Letters, .i r4.Numbers, msn (g + 2 + 3 + 1) 3 r4.Presses.length, .i r4.Faults])] ++ thawN (g + 2 + 3 + 1) r4.Presses.length (r4.Presses.map WirePress.cells))) 0 hS rfl rfl .no rfl rfl ty_var24 (Nat.le_of_ble_eq_true rfl) rfl fun H hS => ?_
  refine run_nil ?_
  refine w_next [(1, .ep (Wire.cells a0)), (3, .ptr (g + 2 + 3 + 2) 0)] (.k (.k .nil)) ?_
  refine w_joinD (J := (List WirePress)) (fun j => [(3, .ptr (g + 2 + 3 + 2) 0)]) (fun j H' g' => St (· < g) H0 [(g + 2 + 3 + 2, .cells [.i r4.Letters, .i r4.Numbers, .sl .no 3 (j.map WirePress.cells), .i r4.Faults])] H' g' ∧ law11_WiresFine_j1 n r4 j = some r) ?_ ?_
  ·rintro v5 H g1 ⟨hS, hM⟩
   change wpA _ _ _ _ (Fr.of [(3, .ptr (g + 2 + 3 + 2) 0)]) _ _
   replace hS : St (· < g) H0 [(g + 2 + 3 + 2, .cells [.i r4.Letters, .i r4.Numbers, .sl .no 3 (v5.map WirePress.cells), .i r4.Faults])] H g1 := hS
   replace hM : law11_WiresFine_j1 n r4 v5 = some r := hM
   refine r_seq ?_
   refine r_region (n := 7) rfl ?_
   refine o_load (v := .agg [.i r4.Letters, .i r4.Numbers, .sl .no 3 (v5.map WirePress.cells), .i r4.Faults]) 0 hS (by decide) rfl rfl .no (part_agg ty_agg24 (Nat.le_of_ble_eq_true rfl) rfl) ?_
   obtain ⟨r6, hr6, hM⟩ := bindE hM
   refine o_call (bs := [.agg [.i r4.Letters, .i r4.Numbers, .sl .no 3 (v5.map WirePress.cells), .i r4.Faults]]) (by decide) rfl rfl ((W_wires_Fewest hr6).le (.k .nil)) ?_
   refine o_move (v := .tup [.i r6.1, .i r6.2]) (by decide) rfl ?_
   refine o_extract (v := .i r6.1) (by decide) rfl rfl ?_
   refine o_extract (v := .i r6.2) (by decide) rfl rfl ?_
   refine o_assign (v := .i r6.1) (by decide) rfl ?_
   refine o_assign (v := .i r6.2) (by decide) rfl ?_
   refine run_nil ?_
   refine w_next [(3, .ptr (g + 2 + 3 + 2) 0), (7, .i r6.1), (8, .i r6.2)] (.k (.k (.k .nil))) ?_
   refine r_seq ?_
   refine r_region (n := 7) rfl ?_
   refine o_load (v := .agg [.i r4.Letters, .i r4.Numbers, .sl .no 3 (v5.map WirePress.cells), .i r4.Faults]) 0 hS (by decide) rfl rfl .no (part_agg ty_agg24 (Nat.le_of_ble_eq_true rfl) rfl) ?_
   obtain ⟨r7, hr7, hM⟩ := bindE hM
   refine o_call (bs := [.agg [.i r4.Letters, .i r4.Numbers, .sl .no 3 (v5.map WirePress.cells), .i r4.Faults]]) (by decide) rfl rfl ((W_wires_Sure hr7).le (.k .nil)) ?_
   refine o_move (v := .tup [.sl .no 3 (r7.1.map WireFault.cells), .i r7.2]) (by decide) rfl ?_
   refine o_extract (v := .sl .no 3 (r7.1.map WireFault.cells)) (by decide) rfl rfl ?_
   refine o_extract (v := .i r7.2) (by decide) rfl rfl ?_
   refine o_assign (v := .sl .no 3 (r7.1.map WireFault.cells)) (by decide) rfl ?_
   refine o_assign (v := .i r7.2) (by decide) rfl ?_
   refine run_nil ?_
   replace hS := hS.keep (L' := []) [false] rfl
   refine w_next [(7, .i r6.1), (8, .i r6.2), (9, .sl .no 3 (r7.1.map WireFault.cells)), (10, .i r7.2)] (.k (.k (.k (.k .nil)))) ?_
   refine w_join (J := Bool) (fun j => [(2, .b j)]) (fun j H' g' => St (· < g) H0 [] H' g' ∧ law11_WiresFine_j2 j = some r) ?_ ?_
   ·rintro v8 H g2 ⟨hS, hM⟩
    change wpA _ _ _ _ (Fr.of [(2, .b v8)]) _ _
    replace hS : St (· < g) H0 [] H g2 := hS
    replace hM : law11_WiresFine_j2 v8 = some r := hM
    refine r_ret ?_
    refine w_end (x := .b v8) (f := fun r => .b r) (.inr rfl) ?_ (.refl _) (Option.some.inj hM) hS
    exact (res_one (res_tmp (x := .b v8) rfl))
   ·refine r_region (n := 19) rfl ?_
    refine o_move (v := .i r6.2) (by decide) rfl ?_
    refine o_int (v := .b (r6.2 == 0)) (by decide) rfl rfl rfl ?_
    refine o_move (v := .b (r6.2 == 0)) (by decide) rfl ?_
    rcases Bool.eq_false_or_eq_true (r6.2 == 0) with hb9 | hb9
    ·replace hM := ifT hM hb9
     refine o_guardY (j := 2) (e := (r6.2 == 0)) (want := true) rfl hb9 ?_
     refine o_move (v := .i r7.2) (by decide) rfl ?_
     refine o_guardY (j := 2) (e := (r6.2 == 0)) (want := true) rfl hb9 ?_
     refine o_int (v := .b (r7.2 == 0)) (by decide) rfl rfl rfl ?_
     refine o_pickT (v := .b (r7.2 == 0)) (e := (r6.2 == 0)) (by decide) rfl hb9 rfl ?_
     refine o_move (v := .b (r7.2 == 0)) (by decide) rfl ?_
     rcases Bool.eq_false_or_eq_true (r7.2 == 0) with hb10 | hb10
     ·replace hM := ifT hM hb10
      refine o_guardY (j := 6) (e := (r7.2 == 0)) (want := true) rfl hb10 ?_
      refine o_move (v := .i r6.1) (by decide) rfl ?_
      refine o_guardY (j := 6) (e := (r7.2 == 0)) (want := true) rfl hb10 ?_
      refine o_int (v := .b (r6.1 == 0)) (by decide) rfl rfl rfl ?_
      refine o_pickT (v := .b (r6.1 == 0)) (e := (r7.2 == 0)) (by decide) rfl hb10 rfl ?_
      refine o_move (v := .b (r6.1 == 0)) (by decide) rfl ?_
      rcases Bool.eq_false_or_eq_true (r6.1 == 0) with hb11 | hb11
      ·replace hM := ifT hM hb11
       refine o_guardY (j := 10) (e := (r6.1 == 0)) (want := true) rfl hb11 ?_
       refine o_move (v := .sl .no 3 (r7.1.map WireFault.cells)) (by decide) rfl ?_
       refine o_guardY (j := 10) (e := (r6.1 == 0)) (want := true) rfl hb11 ?_
       refine o_len (n := r7.1.length) (by decide) rfl (List.length_map _) ty_isl31 ?_
       refine o_guardY (j := 10) (e := (r6.1 == 0)) (want := true) rfl hb11 ?_
       refine o_int (v := .b ((r7.1.length : Int) == 0)) (by decide) rfl rfl rfl ?_
       refine o_pickT (v := .b ((r7.1.length : Int) == 0)) (e := (r6.1 == 0)) (by decide) rfl hb11 rfl ?_
       refine o_move (v := .b ((r7.1.length : Int) == 0)) (by decide) rfl ?_
       rcases Bool.eq_false_or_eq_true ((r7.1.length : Int) == 0) with hb12 | hb12
       ·replace hM := ifT hM hb12
        refine o_guardY (j := 15) (e := ((r7.1.length : Int) == 0)) (want := true) rfl hb12 ?_
        obtain ⟨r13, hr13, hM⟩ := bindE hM
        refine o_call (bs := []) (by decide) rfl rfl ((W_law11_works hr13).le .nil) ?_
        refine o_pickT (v := .b r13) (e := ((r7.1.length : Int) == 0)) (by decide) rfl hb12 rfl ?_
        refine o_assign (v := .b r13) (by decide) rfl ?_
        refine run_nil ?_
        exact w_goto r13 (.k .nil) ⟨(hS.keep [] rfl).up (by omega), hM⟩
       ·replace hM := ifF hM hb12
        refine o_guardN (j := 15) (e := ((r7.1.length : Int) == 0)) (want := true) (by decide) rfl hb12 ?_
        refine o_pickF (v := .b false) (e := ((r7.1.length : Int) == 0)) (by decide) rfl hb12 rfl ?_
        refine o_assign (v := .b false) (by decide) rfl ?_
        refine run_nil ?_
        exact w_goto false (.k .nil) ⟨(hS.keep [] rfl).up (by omega), hM⟩
      ·replace hM := ifF hM hb11
       refine o_guardN (j := 10) (e := (r6.1 == 0)) (want := true) (by decide) rfl hb11 ?_
       refine o_guardN (j := 10) (e := (r6.1 == 0)) (want := true) (by decide) rfl hb11 ?_
       refine o_guardN (j := 10) (e := (r6.1 == 0)) (want := true) (by decide) rfl hb11 ?_
       refine o_pickF (v := .b false) (e := (r6.1 == 0)) (by decide) rfl hb11 rfl ?_
       refine o_move (v := .b false) (by decide) rfl ?_
       refine o_guardN (j := 15) (e := false) (want := true) (by decide) rfl rfl ?_
       refine o_pickF (v := .b false) (e := false) (by decide) rfl rfl rfl ?_
       refine o_assign (v := .b false) (by decide) rfl ?_
       refine run_nil ?_
       exact w_goto false (.k .nil) ⟨(hS.keep [] rfl).up (by omega), hM⟩
     ·replace hM := ifF hM hb10
      refine o_guardN (j := 6) (e := (r7.2 == 0)) (want := true) (by decide) rfl hb10 ?_
      refine o_guardN (j := 6) (e := (r7.2 == 0)) (want := true) (by decide) rfl hb10 ?_
      refine o_pickF (v := .b false) (e := (r7.2 == 0)) (by decide) rfl hb10 rfl ?_
      refine o_move (v := .b false) (by decide) rfl ?_
      refine o_guardN (j := 10) (e := false) (want := true) (by decide) rfl rfl ?_
      refine o_guardN (j := 10) (e := false) (want := true) (by decide) rfl rfl ?_
      refine o_guardN (j := 10) (e := false) (want := true) (by decide) rfl rfl ?_
      refine o_pickF (v := .b false) (e := false) (by decide) rfl rfl rfl ?_
      refine o_move (v := .b false) (by decide) rfl ?_
      refine o_guardN (j := 15) (e := false) (want := true) (by decide) rfl rfl ?_
      refine o_pickF (v := .b false) (e := false) (by decide) rfl rfl rfl ?_
      refine o_assign (v := .b false) (by decide) rfl ?_
      refine run_nil ?_
      exact w_goto false (.k .nil) ⟨(hS.keep [] rfl).up (by omega), hM⟩
    ·replace hM := ifF hM hb9
     refine o_guardN (j := 2) (e := (r6.2 == 0)) (want := true) (by decide) rfl hb9 ?_
     refine o_guardN (j := 2) (e := (r6.2 == 0)) (want := true) (by decide) rfl hb9 ?_
     refine o_pickF (v := .b false) (e := (r6.2 == 0)) (by decide) rfl hb9 rfl ?_
     refine o_move (v := .b false) (by decide) rfl ?_
     refine o_guardN (j := 6) (e := false) (want := true) (by decide) rfl rfl ?_
     refine o_guardN (j := 6) (e := false) (want := true) (by decide) rfl rfl ?_
     refine o_pickF (v := .b false) (e := false) (by decide) rfl rfl rfl ?_
     refine o_move (v := .b false) (by decide) rfl ?_
     refine o_guardN (j := 10) (e := false) (want := true) (by decide) rfl rfl ?_
     refine o_guardN (j := 10) (e := false) (want := true) (by decide) rfl rfl ?_
     refine o_guardN (j := 10) (e := false) (want := true) (by decide) rfl rfl ?_
     refine o_pickF (v := .b false) (e := false) (by decide) rfl rfl rfl ?_
     refine o_move (v := .b false) (by decide) rfl ?_
     refine o_guardN (j := 15) (e := false) (want := true) (by decide) rfl rfl ?_
     refine o_pickF (v := .b false) (e := false) (by decide) rfl rfl rfl ?_
     refine o_assign (v := .b false) (by decide) rfl ?_
     refine run_nil ?_
     exact w_goto false (.k .nil) ⟨(hS.keep [] rfl).up (by omega), hM⟩
  ·refine r_seq ?_
   refine r_region (n := 1) rfl ?_
   refine o_assign (v := .i 0) (by decide) rfl ?_
   refine run_nil ?_
   refine w_next [(1, .ep (Wire.cells a0)), (3, .ptr (g + 2 + 3 + 2) 0), (4, .i 0)] (.k (.k (.k .nil))) ?_
   refine r_block ?_
   refine w_loop (V := Int × (List WirePress)) (fun v => [(1, .ep (Wire.cells a0)), (3, .ptr (g + 2 + 3 + 2) 0), (4, .i v.1)]) (fun v m4 H' g' => St (· < g) H0 ([(g + 2 + 3 + 2, .cells [.i r4.Letters, .i r4.Numbers, msn (g + 2 + 3 + 1) 3 r4.Presses.length, .i r4.Faults])] ++ thawN (g + 2 + 3 + 1) r4.Presses.length (v.2.map WirePress.cells)) H' g' ∧ law11_WiresFine_l1 n a0 r4 m4 v.1 v.2 = some r) (n := n) (0, r4.Presses) (.k (.k (.k .nil))) ⟨(hS.keep [true] rfl).up (by omega), hM⟩ ?_
   rintro ⟨v15, v16⟩ m4 H g4 ⟨hS, hM⟩
   obtain _ | m4 := m4
   ·exact nomatch (show none = some _ from hM)
   change wpA _ _ _ _ (Fr.of [(1, .ep (Wire.cells a0)), (3, .ptr (g + 2 + 3 + 2) 0), (4, .i v15)]) _ _
   replace hS : St (· < g) H0 ([(g + 2 + 3 + 2, .cells [.i r4.Letters, .i r4.Numbers, msn (g + 2 + 3 + 1) 3 r4.Presses.length, .i r4.Faults])] ++ thawN (g + 2 + 3 + 1) r4.Presses.length (v16.map WirePress.cells)) H g4 := hS
   replace hM : law11_WiresFine_l1_b n a0 r4 (law11_WiresFine_l1 n a0 r4 m4) v15 v16 = some r := hM
   refine r_seq ?_
   refine r_seq ?_
   refine r_region (n := 5) rfl ?_
   refine o_move (v := .i v15) (by decide) rfl ?_
   refine o_fieldP (by decide) ty_fo24_2 rfl ?_
   refine o_load (v := msn (g + 2 + 3 + 1) 3 r4.Presses.length) 0 hS (by decide) rfl rfl .no (part_one ty_agg22 ty_sc22 rfl) ?_
   refine o_lenM (n := r4.Presses.length) (by decide) rfl ty_isl22 ?_
   refine o_int (v := .b (decide (v15 < (r4.Presses.length : Int)))) (by decide) rfl rfl rfl ?_
   refine run_nil ?_
   refine w_next [(1, .ep (Wire.cells a0)), (3, .ptr (g + 2 + 3 + 2) 0), (4, .i v15), (21, .b (decide (v15 < (r4.Presses.length : Int))))] (.k (.k (.k (.k .nil)))) ?_
   rcases Bool.eq_false_or_eq_true (decide (v15 < (r4.Presses.length : Int))) with hb17 | hb17
   ·replace hM := ifT hM hb17
    refine w_condT (e := (decide (v15 < (r4.Presses.length : Int)))) rfl hb17 ?_
    refine r_skip ?_
    refine w_next [(1, .ep (Wire.cells a0)), (3, .ptr (g + 2 + 3 + 2) 0), (4, .i v15)] (.k (.k (.k .nil))) ?_
    refine r_seq ?_
    refine r_block ?_
    refine r_seq ?_
    have hS0 := hS
    refine r_draw (n := 19) rfl (by kernel_rfl) ?_
    refine o_loadE (v := .agg (Wire.cells a0)) (by decide) rfl (part_agg ty_agg24 (Nat.le_of_ble_eq_true rfl) rfl) ?_
    refine o_fieldP (by decide) ty_fo24_2 rfl ?_
    refine o_load (v := msn (g + 2 + 3 + 1) 3 r4.Presses.length) 0 hS (by decide) rfl rfl (.st hS0 0 rfl (by omega)) (part_one ty_agg22 ty_sc22 rfl) ?_
    refine o_move (v := .i v15) (by decide) rfl ?_
    obtain ⟨x18, hx18, hM⟩ := bindE hM
    refine o_indexM (xs := v16) (f := WirePress.cells) (z := v15) (u := x18) hS (by decide) rfl rfl ty_es22 hx18 ?_
    refine o_fieldP (by decide) ty_fo50_0 rfl ?_
    refine o_loadMF (xs := v16) (z := v15) (u := x18) (f := WirePress.cells) (k := 3) (q := 0) (c := .i x18.Letter) hS (by decide) rfl hx18 (.tlf hS0 hx18 (by omega)) (fun _ => rfl) (by decide) rfl ty_agg3 ty_sc3 ?_
    refine o_fieldP (by decide) ty_fo24_2 rfl ?_
    refine o_load (v := msn (g + 2 + 3 + 1) 3 r4.Presses.length) 0 hS (by decide) rfl rfl (.st hS0 0 rfl (by omega)) (part_one ty_agg22 ty_sc22 rfl) ?_
    refine o_move (v := .i v15) (by decide) rfl ?_
    obtain ⟨x19, hx19, hM⟩ := bindE hM
    refine o_indexM (xs := v16) (f := WirePress.cells) (z := v15) (u := x19) hS (by decide) rfl rfl ty_es22 hx19 ?_
    refine o_fieldP (by decide) ty_fo50_1 rfl ?_
    refine o_loadMF (xs := v16) (z := v15) (u := x19) (f := WirePress.cells) (k := 3) (q := 1) (c := .i x19.Number) hS (by decide) rfl hx19 (.tlf hS0 hx19 (by omega)) (fun _ => rfl) (by decide) rfl ty_agg3 ty_sc3 ?_
    obtain ⟨r20, hr20, hM⟩ := bindE hM
    refine o_call (bs := [.agg (Wire.cells a0), .sl .nil 0 [], .i x18.Letter, .i x19.Number]) (by decide) rfl rfl ((W_wires_Plays hr20).le (.k (.cons (.sl0 .nil 3 0) (.k (.k .nil))))) ?_
    refine o_move (v := .tup [.i r20.1, .i r20.2]) (by decide) rfl ?_
    refine o_extract (v := .i r20.1) (by decide) rfl rfl ?_
    refine o_extract (v := .i r20.2) (by decide) rfl rfl ?_
    refine o_assign (v := .i r20.1) (by decide) rfl ?_
    refine o_assign (v := .i r20.2) (by decide) rfl ?_
    refine run_nil ?_
    refine w_next [(1, .ep (Wire.cells a0)), (3, .ptr (g + 2 + 3 + 2) 0), (4, .i v15), (5, .i r20.1), (6, .i r20.2)] (.k (.k (.k (.k (.k .nil))))) ?_
    refine r_seq ?_
    refine w_join (J := Bool) (fun j => [(1, .ep (Wire.cells a0)), (3, .ptr (g + 2 + 3 + 2) 0), (4, .i v15), (5, .i r20.1), (62, .b j)]) (fun j H' g' => St (· < g) H0 ([(g + 2 + 3 + 2, .cells [.i r4.Letters, .i r4.Numbers, msn (g + 2 + 3 + 1) 3 r4.Presses.length, .i r4.Faults])] ++ thawN (g + 2 + 3 + 1) r4.Presses.length (v16.map WirePress.cells)) H' g' ∧ law11_WiresFine_j3 (law11_WiresFine_l1 n a0 r4 m4) v15 v16 r20 j = some r) ?_ ?_
    ·rintro v21 H g5 ⟨hS, hM⟩
     change wpA _ _ _ _ (Fr.of [(1, .ep (Wire.cells a0)), (3, .ptr (g + 2 + 3 + 2) 0), (4, .i v15), (5, .i r20.1), (62, .b v21)]) _ _
     replace hS : St (· < g) H0 ([(g + 2 + 3 + 2, .cells [.i r4.Letters, .i r4.Numbers, msn (g + 2 + 3 + 1) 3 r4.Presses.length, .i r4.Faults])] ++ thawN (g + 2 + 3 + 1) r4.Presses.length (v16.map WirePress.cells)) H g5 := hS
     replace hM : law11_WiresFine_j3 (law11_WiresFine_l1 n a0 r4 m4) v15 v16 r20 v21 = some r := hM
     rcases Bool.eq_false_or_eq_true v21 with hb22 | hb22
     ·replace hM := ifT hM hb22
      refine w_condT (e := v21) rfl hb22 ?_
      refine r_seq ?_
      refine r_region (n := 1) rfl ?_
      refine o_assign (v := .b false) (by decide) rfl ?_
      refine run_nil ?_
      replace hS := hS.keep (L' := ([] ++ thawN (g + 2 + 3 + 1) r4.Presses.length (v16.map WirePress.cells))) [false] rfl
      refine w_next [(2, .b false)] (.k .nil) ?_
      refine r_ret ?_
      refine r_then_ret ?_
      refine r_blk_ret ?_
      refine r_then_ret ?_
      refine w_round_ret ?_
      refine r_blk_ret ?_
      refine w_gotoD_ret ?_
      refine w_end (x := .b false) (f := fun r => .b r) (.inr rfl) ?_ (.refl _) (Option.some.inj hM) hS
      exact (res_one (res_tmp (x := .b false) rfl))
     ·replace hM := ifF hM hb22
      refine w_condF (e := v21) rfl hb22 ?_
      refine r_skip ?_
      refine w_next [(1, .ep (Wire.cells a0)), (3, .ptr (g + 2 + 3 + 2) 0), (4, .i v15), (5, .i r20.1)] (.k (.k (.k (.k .nil)))) ?_
      refine r_region (n := 7) rfl ?_
      refine o_fieldP (by decide) ty_fo24_2 rfl ?_
      refine o_load (v := msn (g + 2 + 3 + 1) 3 r4.Presses.length) 0 hS (by decide) rfl rfl .no (part_one ty_agg22 ty_sc22 rfl) ?_
      refine o_move (v := .i v15) (by decide) rfl ?_
      refine o_move (v := .i r20.1) (by decide) rfl ?_
      obtain ⟨x23, hx23, hM⟩ := bindE hM
      refine o_indexM (xs := v16) (f := WirePress.cells) (z := v15) (u := x23) hS (by decide) rfl rfl ty_es22 hx23 ?_
      refine o_fieldP (by decide) ty_fo50_2 rfl ?_
      refine o_storeMF (xs := v16) (z := v15) (u := x23) (u' := (⟨x23.Letter, x23.Number, r20.1⟩ : WirePress)) (v := r20.1) (f := WirePress.cells) (k := 3) (q := 2) hS rfl hx23 .no (fun _ => rfl) (by decide) rfl rfl ty_var3 fun H hS => ?_
      refine run_nil ?_
      refine r_blk_normal ?_
      refine w_next [(1, .ep (Wire.cells a0)), (3, .ptr (g + 2 + 3 + 2) 0), (4, .i v15)] (.k (.k (.k .nil))) ?_
      refine r_region (n := 3) rfl ?_
      refine o_move (v := .i v15) (by decide) rfl ?_
      refine o_int (v := .i (w64 (v15 + 1))) (by decide) rfl rfl rfl ?_
      refine o_assign (v := .i (w64 (v15 + 1))) (by decide) rfl ?_
      refine run_nil ?_
      exact w_round (w64 (v15 + 1), (v16.set (Int.toNat v15) (⟨x23.Letter, x23.Number, r20.1⟩ : WirePress))) (Nat.lt_succ_self _) (.k (.k (.k .nil))) ⟨(hS.keep [true] rfl).up (by omega), hM⟩
    ·have hS0 := hS
     refine r_draw (n := 22) rfl (by kernel_rfl) ?_
     refine o_move (v := .i r20.2) (by decide) rfl ?_
     refine o_int (v := .b (r20.2 != 0)) (by decide) rfl rfl rfl ?_
     refine o_move (v := .b (r20.2 != 0)) (by decide) rfl ?_
     rcases Bool.eq_false_or_eq_true (r20.2 != 0) with hb24 | hb24
     ·replace hM := ifT hM hb24
      refine o_guardN (j := 2) (e := (r20.2 != 0)) (want := false) (by decide) rfl hb24 ?_
      refine o_guardN (j := 2) (e := (r20.2 != 0)) (want := false) (by decide) rfl hb24 ?_
      refine o_guardN (j := 2) (e := (r20.2 != 0)) (want := false) (by decide) rfl hb24 ?_
      refine o_guardN (j := 2) (e := (r20.2 != 0)) (want := false) (by decide) rfl hb24 ?_
      refine o_guardN (j := 2) (e := (r20.2 != 0)) (want := false) (by decide) rfl hb24 ?_
      refine o_guardN (j := 2) (e := (r20.2 != 0)) (want := false) (by decide) rfl hb24 ?_
      refine o_guardN (j := 2) (e := (r20.2 != 0)) (want := false) (by decide) rfl hb24 ?_
      refine o_guardN (j := 2) (e := (r20.2 != 0)) (want := false) (by decide) rfl hb24 ?_
      refine o_guardN (j := 2) (e := (r20.2 != 0)) (want := false) (by decide) rfl hb24 ?_
      refine o_guardN (j := 2) (e := (r20.2 != 0)) (want := false) (by decide) rfl hb24 ?_
      refine o_guardN (j := 2) (e := (r20.2 != 0)) (want := false) (by decide) rfl hb24 ?_
      refine o_guardN (j := 2) (e := (r20.2 != 0)) (want := false) (by decide) rfl hb24 ?_
      refine o_guardN (j := 2) (e := (r20.2 != 0)) (want := false) (by decide) rfl hb24 ?_
      refine o_guardN (j := 2) (e := (r20.2 != 0)) (want := false) (by decide) rfl hb24 ?_
      refine o_guardN (j := 2) (e := (r20.2 != 0)) (want := false) (by decide) rfl hb24 ?_
      refine o_guardN (j := 2) (e := (r20.2 != 0)) (want := false) (by decide) rfl hb24 ?_
      refine o_guardN (j := 2) (e := (r20.2 != 0)) (want := false) (by decide) rfl hb24 ?_
      refine o_guardN (j := 2) (e := (r20.2 != 0)) (want := false) (by decide) rfl hb24 ?_
      refine o_pickT (v := .b true) (e := (r20.2 != 0)) (by decide) rfl hb24 rfl ?_
      refine run_nil ?_
      exact w_goto true (.k (.k (.k (.k (.k .nil))))) ⟨(hS.keep [true] rfl).up (by omega), hM⟩
     ·replace hM := ifF hM hb24
      refine o_guardY (j := 2) (e := (r20.2 != 0)) (want := false) rfl hb24 ?_
      refine o_move (v := .i r20.1) (by decide) rfl ?_
      refine o_guardY (j := 2) (e := (r20.2 != 0)) (want := false) rfl hb24 ?_
      refine o_fieldP (by decide) ty_fo24_2 rfl ?_
      refine o_guardY (j := 2) (e := (r20.2 != 0)) (want := false) rfl hb24 ?_
      refine o_load (v := msn (g + 2 + 3 + 1) 3 r4.Presses.length) 0 hS (by decide) rfl rfl (.st hS0 0 rfl (by omega)) (part_one ty_agg22 ty_sc22 rfl) ?_
      refine o_guardY (j := 2) (e := (r20.2 != 0)) (want := false) rfl hb24 ?_
      refine o_move (v := .i v15) (by decide) rfl ?_
      refine o_guardY (j := 2) (e := (r20.2 != 0)) (want := false) rfl hb24 ?_
      obtain ⟨x25, hx25, hM⟩ := bindE hM
      refine o_indexM (xs := v16) (f := WirePress.cells) (z := v15) (u := x25) hS (by decide) rfl rfl ty_es22 hx25 ?_
      refine o_guardY (j := 2) (e := (r20.2 != 0)) (want := false) rfl hb24 ?_
      refine o_fieldP (by decide) ty_fo50_0 rfl ?_
      refine o_guardY (j := 2) (e := (r20.2 != 0)) (want := false) rfl hb24 ?_
      refine o_loadMF (xs := v16) (z := v15) (u := x25) (f := WirePress.cells) (k := 3) (q := 0) (c := .i x25.Letter) hS (by decide) rfl hx25 (.tlf hS0 hx25 (by omega)) (fun _ => rfl) (by decide) rfl ty_agg3 ty_sc3 ?_
      refine o_guardY (j := 2) (e := (r20.2 != 0)) (want := false) rfl hb24 ?_
      refine o_fieldE (cs := (Wire.cells a0)) (by decide) ty_fo24_1 rfl ?_
      refine o_guardY (j := 2) (e := (r20.2 != 0)) (want := false) rfl hb24 ?_
      refine o_loadE (v := .i a0.Numbers) (by decide) rfl (part_one ty_agg3 ty_sc3 rfl) ?_
      refine o_guardY (j := 2) (e := (r20.2 != 0)) (want := false) rfl hb24 ?_
      refine o_int (v := .i (w64 (x25.Letter * a0.Numbers))) (by decide) rfl rfl rfl ?_
      refine o_guardY (j := 2) (e := (r20.2 != 0)) (want := false) rfl hb24 ?_
      refine o_fieldP (by decide) ty_fo24_2 rfl ?_
      refine o_guardY (j := 2) (e := (r20.2 != 0)) (want := false) rfl hb24 ?_
      refine o_load (v := msn (g + 2 + 3 + 1) 3 r4.Presses.length) 0 hS (by decide) rfl rfl (.st hS0 0 rfl (by omega)) (part_one ty_agg22 ty_sc22 rfl) ?_
      refine o_guardY (j := 2) (e := (r20.2 != 0)) (want := false) rfl hb24 ?_
      refine o_move (v := .i v15) (by decide) rfl ?_
      refine o_guardY (j := 2) (e := (r20.2 != 0)) (want := false) rfl hb24 ?_
      obtain ⟨x26, hx26, hM⟩ := bindE hM
      refine o_indexM (xs := v16) (f := WirePress.cells) (z := v15) (u := x26) hS (by decide) rfl rfl ty_es22 hx26 ?_
      refine o_guardY (j := 2) (e := (r20.2 != 0)) (want := false) rfl hb24 ?_
      refine o_fieldP (by decide) ty_fo50_1 rfl ?_
      refine o_guardY (j := 2) (e := (r20.2 != 0)) (want := false) rfl hb24 ?_
      refine o_loadMF (xs := v16) (z := v15) (u := x26) (f := WirePress.cells) (k := 3) (q := 1) (c := .i x26.Number) hS (by decide) rfl hx26 (.tlf hS0 hx26 (by omega)) (fun _ => rfl) (by decide) rfl ty_agg3 ty_sc3 ?_
      refine o_guardY (j := 2) (e := (r20.2 != 0)) (want := false) rfl hb24 ?_
      refine o_int (v := .i (w64 ((w64 (x25.Letter * a0.Numbers)) + x26.Number))) (by decide) rfl rfl rfl ?_
      refine o_guardY (j := 2) (e := (r20.2 != 0)) (want := false) rfl hb24 ?_
      refine o_int (v := .b (r20.1 != (w64 ((w64 (x25.Letter * a0.Numbers)) + x26.Number)))) (by decide) rfl rfl rfl ?_
      refine o_pickF (v := .b (r20.1 != (w64 ((w64 (x25.Letter * a0.Numbers)) + x26.Number)))) (e := (r20.2 != 0)) (by decide) rfl hb24 rfl ?_
      refine run_nil ?_
      exact w_goto (r20.1 != (w64 ((w64 (x25.Letter * a0.Numbers)) + x26.Number))) (.k (.k (.k (.k (.k .nil))))) ⟨(hS.keep [true] rfl).up (by omega), hM⟩
   ·replace hM := ifF hM hb17
    refine w_condF (e := (decide (v15 < (r4.Presses.length : Int)))) rfl hb17 ?_
    refine r_exit ?_
    refine r_then_exit ?_
    refine w_round_exit ?_
    refine r_blk_exit ?_
    exact w_gotoC Try.prog 0 (p := 2) hS rfl rfl (by decide) (each_map (fun _ => rfl)) (fl_map (fun x => (fl_cons (fl_cons (fl_cons fl_nil))))) rfl rfl v16 (.k .nil) (fun H hS => ⟨(hS.keep [true] rfl).up (by omega), hM⟩)
end Go.Proofs.Ytneghcnkcfblmaa
