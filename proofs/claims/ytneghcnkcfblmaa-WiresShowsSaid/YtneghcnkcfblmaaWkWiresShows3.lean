/-
  The code returns what the functions say (printed by gen.py).
  Conditions: none.
-/
import Derived.Test.YtneghcnkcfblmaaWkWiresShows2
import Derived.Test.YtneghcnkcfblmaaSh
set_option linter.all false
namespace Go.Proofs.Ytneghcnkcfblmaa
open Go Go.AM Go.Law
set_option linter.unusedVariables false
set_option maxRecDepth 4000
set_option maxHeartbeats 4000000
theorem W_ref11_AllFaults {n : Nat} {a0 : Wire} {r : (List WireFault)} (hM : ref11_AllFaults n a0 = some r) : PureSat Try.prog 51 [.agg (Wire.cells a0)] (.sl .no 3 (r.map WireFault.cells)) := by
 refine pure_of_wp mixed Try.func51 rfl (by decide) Try.ntmps51 (by simp) ?pure fun H0 g hf => ?_
 case pure => exact .sl _ _ (pures_map (fun x => (pl_cons (.v _) (pl_cons (.v _) (pl_cons (.v _) pl_nil)))))
 rw [frame0_of]
 change wpA _ _ _ _ (Fr.of [(0, .agg (Wire.cells a0))]) H0 g
 have hS := St.start hf
 refine r_seq ?_
 refine r_region (n := 2) rfl ?_
 refine o_box (v := .agg (Wire.cells a0)) (cs := (Wire.cells a0)) hS (by decide) rfl rfl (by omega) fun H hS => ?_
 refine o_assign (v := .sl .nil 0 []) (by decide) rfl ?_
 refine run_nil ?_
 refine w_iceE (L' := []) 0 1 hS rfl rfl rfl fun H hS => ?_
 refine w_next [(1, .ep (Wire.cells a0))] (.k .nil) ?_
 refine r_seq ?_
 refine r_region (n := 1) rfl ?_
 refine o_assign (v := .sl .nil 0 []) (by decide) rfl ?_
 refine run_nil ?_
 refine w_own [(1, .ep (Wire.cells a0)), (3, .sl (.id (g + 2 + 1)) 3 (([] : List WireFault).map WireFault.cells))] 3 3 63 hS (by omega) (by decide) rfl (.k (.k .nil)) fun H hS => ?_
 refine w_join (J := (List WireFault)) (fun j => [(1, .ep (Wire.cells a0)), (3, .sl (.id (g + 2 + 1)) 3 (j.map WireFault.cells))]) (fun j H' g' => St (· < g) H0 [(g + 2 + 1, .row 63 j.length)] H' g' ∧ ref11_AllFaults_j1 n a0 j = some r) ?_ ?_
 ·rintro v1 H g1 ⟨hS, hM⟩
  change wpA _ _ _ _ (Fr.of [(1, .ep (Wire.cells a0)), (3, .sl (.id (g + 2 + 1)) 3 (v1.map WireFault.cells))]) _ _
  replace hS : St (· < g) H0 [(g + 2 + 1, .row 63 v1.length)] H g1 := hS
  replace hM : ref11_AllFaults_j1 n a0 v1 = some r := hM
  refine w_join (J := (List WireFault)) (fun j => [(1, .ep (Wire.cells a0)), (3, .sl (.id (g + 2 + 1)) 3 (j.map WireFault.cells))]) (fun j H' g' => St (· < g) H0 [(g + 2 + 1, .row 63 j.length)] H' g' ∧ ref11_AllFaults_j2 n a0 j = some r) ?_ ?_
  ·rintro v2 H g2 ⟨hS, hM⟩
   change wpA _ _ _ _ (Fr.of [(1, .ep (Wire.cells a0)), (3, .sl (.id (g + 2 + 1)) 3 (v2.map WireFault.cells))]) _ _
   replace hS : St (· < g) H0 [(g + 2 + 1, .row 63 v2.length)] H g2 := hS
   replace hM : ref11_AllFaults_j2 n a0 v2 = some r := hM
   refine w_join (J := (List WireFault)) (fun j => [(1, .ep (Wire.cells a0)), (3, .sl (.id (g + 2 + 1)) 3 (j.map WireFault.cells))]) (fun j H' g' => St (· < g) H0 [(g + 2 + 1, .row 63 j.length)] H' g' ∧ ref11_AllFaults_j3 n a0 j = some r) ?_ ?_
   ·rintro v3 H g3 ⟨hS, hM⟩
    change wpA _ _ _ _ (Fr.of [(1, .ep (Wire.cells a0)), (3, .sl (.id (g + 2 + 1)) 3 (v3.map WireFault.cells))]) _ _
    replace hS : St (· < g) H0 [(g + 2 + 1, .row 63 v3.length)] H g3 := hS
    replace hM : ref11_AllFaults_j3 n a0 v3 = some r := hM
    refine w_join (J := (List WireFault)) (fun j => [(3, .sl (.id (g + 2 + 1)) 3 (j.map WireFault.cells))]) (fun j H' g' => St (· < g) H0 [(g + 2 + 1, .row 63 j.length)] H' g' ∧ ref11_AllFaults_j4 j = some r) ?_ ?_
    ·rintro v4 H g4 ⟨hS, hM⟩
     change wpA _ _ _ _ (Fr.of [(3, .sl (.id (g + 2 + 1)) 3 (v4.map WireFault.cells))]) _ _
     replace hS : St (· < g) H0 [(g + 2 + 1, .row 63 v4.length)] H g4 := hS
     replace hM : ref11_AllFaults_j4 v4 = some r := hM
     refine r_seq ?_
     refine r_region (n := 2) rfl ?_
     refine o_move (v := .sl (.id (g + 2 + 1)) 3 (v4.map WireFault.cells)) (by decide) rfl ?_
     refine o_assign (v := .sl (.id (g + 2 + 1)) 3 (v4.map WireFault.cells)) (by decide) rfl ?_
     refine run_nil ?_
     refine w_next [(2, .sl (.id (g + 2 + 1)) 3 (v4.map WireFault.cells))] (.k .nil) ?_
     refine r_ret ?_
     refine w_end (x := .sl (.id (g + 2 + 1)) 3 (v4.map WireFault.cells)) (f := fun r => .sl .no 3 (r.map WireFault.cells)) (.inr rfl) ?_ (.sl _ _ _) (Option.some.inj hM) hS
     exact (res_one (res_tmp (x := .sl (.id (g + 2 + 1)) 3 (v4.map WireFault.cells)) rfl))
    ·refine r_seq ?_
     refine r_region (n := 1) rfl ?_
     refine o_assign (v := .i 0) (by decide) rfl ?_
     refine run_nil ?_
     refine w_next [(1, .ep (Wire.cells a0)), (3, .sl (.id (g + 2 + 1)) 3 (v3.map WireFault.cells)), (8, .i 0)] (.k (.k (.k .nil))) ?_
     refine r_block ?_
     refine w_loop (V := (List WireFault) × Int) (fun v => [(1, .ep (Wire.cells a0)), (3, .sl (.id (g + 2 + 1)) 3 (v.1.map WireFault.cells)), (8, .i v.2)]) (fun v m5 H' g' => St (· < g) H0 [(g + 2 + 1, .row 63 v.1.length)] H' g' ∧ ref11_AllFaults_l1 n a0 m5 v.1 v.2 = some r) (n := n) (v3, 0) (.k (.k (.k .nil))) ⟨(hS.keep [true] rfl).up (by omega), hM⟩ ?_
     rintro ⟨v5, v6⟩ m5 H g5 ⟨hS, hM⟩
     obtain _ | m5 := m5
     ·exact nomatch (show none = some _ from hM)
     change wpA _ _ _ _ (Fr.of [(1, .ep (Wire.cells a0)), (3, .sl (.id (g + 2 + 1)) 3 (v5.map WireFault.cells)), (8, .i v6)]) _ _
     replace hS : St (· < g) H0 [(g + 2 + 1, .row 63 v5.length)] H g5 := hS
     replace hM : ref11_AllFaults_l1_b n a0 (ref11_AllFaults_l1 n a0 m5) v5 v6 = some r := hM
     refine r_seq ?_
     refine r_seq ?_
     refine r_region (n := 4) rfl ?_
     refine o_move (v := .i v6) (by decide) rfl ?_
     refine o_fieldE (cs := (Wire.cells a0)) (by decide) ty_fo24_1 rfl ?_
     refine o_loadE (v := .i a0.Numbers) (by decide) rfl (part_one ty_agg3 ty_sc3 rfl) ?_
     refine o_int (v := .b (decide (v6 < a0.Numbers))) (by decide) rfl rfl rfl ?_
     refine run_nil ?_
     refine w_next [(1, .ep (Wire.cells a0)), (3, .sl (.id (g + 2 + 1)) 3 (v5.map WireFault.cells)), (8, .i v6), (55, .b (decide (v6 < a0.Numbers)))] (.k (.k (.k (.k .nil)))) ?_
     rcases Bool.eq_false_or_eq_true (decide (v6 < a0.Numbers)) with hb7 | hb7
     ·replace hM := ifT hM hb7
      refine w_condT (e := (decide (v6 < a0.Numbers))) rfl hb7 ?_
      refine r_skip ?_
      refine w_next [(1, .ep (Wire.cells a0)), (3, .sl (.id (g + 2 + 1)) 3 (v5.map WireFault.cells)), (8, .i v6)] (.k (.k (.k .nil))) ?_
      refine w_join (J := (List WireFault)) (fun j => [(1, .ep (Wire.cells a0)), (3, .sl (.id (g + 2 + 1)) 3 (j.map WireFault.cells)), (8, .i v6)]) (fun j H' g' => St (· < g) H0 [(g + 2 + 1, .row 63 j.length)] H' g' ∧ ref11_AllFaults_j5 (ref11_AllFaults_l1 n a0 m5) v6 j = some r) ?_ ?_
      ·rintro v8 H g6 ⟨hS, hM⟩
       change wpA _ _ _ _ (Fr.of [(1, .ep (Wire.cells a0)), (3, .sl (.id (g + 2 + 1)) 3 (v8.map WireFault.cells)), (8, .i v6)]) _ _
       replace hS : St (· < g) H0 [(g + 2 + 1, .row 63 v8.length)] H g6 := hS
       replace hM : ref11_AllFaults_j5 (ref11_AllFaults_l1 n a0 m5) v6 v8 = some r := hM
       refine r_region (n := 3) rfl ?_
       refine o_move (v := .i v6) (by decide) rfl ?_
       refine o_int (v := .i (w64 (v6 + 1))) (by decide) rfl rfl rfl ?_
       refine o_assign (v := .i (w64 (v6 + 1))) (by decide) rfl ?_
       refine run_nil ?_
       exact w_round (v8, w64 (v6 + 1)) (Nat.lt_succ_self _) (.k (.k (.k .nil))) ⟨(hS.keep [true] rfl).up (by omega), hM⟩
      ·refine r_block ?_
       refine r_seq ?_
       refine r_region (n := 3) rfl ?_
       refine o_move (v := .i v6) (by decide) rfl ?_
       refine o_int (v := .i (w64 (v6 + 1))) (by decide) rfl rfl rfl ?_
       refine o_assign (v := .i (w64 (v6 + 1))) (by decide) rfl ?_
       refine run_nil ?_
       refine w_next [(1, .ep (Wire.cells a0)), (3, .sl (.id (g + 2 + 1)) 3 (v5.map WireFault.cells)), (8, .i v6), (9, .i (w64 (v6 + 1)))] (.k (.k (.k (.k .nil)))) ?_
       refine r_block ?_
       refine w_loop (V := (List WireFault) × Int) (fun v => [(1, .ep (Wire.cells a0)), (3, .sl (.id (g + 2 + 1)) 3 (v.1.map WireFault.cells)), (8, .i v6), (9, .i v.2)]) (fun v m7 H' g' => St (· < g) H0 [(g + 2 + 1, .row 63 v.1.length)] H' g' ∧ ref11_AllFaults_l2 (ref11_AllFaults_l1 n a0 m5) a0 v6 m7 v.1 v.2 = some r) (n := n) (v5, w64 (v6 + 1)) (.k (.k (.k (.k .nil)))) ⟨(hS.keep [true] rfl).up (by omega), hM⟩ ?_
       rintro ⟨v9, v10⟩ m7 H g7 ⟨hS, hM⟩
       obtain _ | m7 := m7
       ·exact nomatch (show none = some _ from hM)
       change wpA _ _ _ _ (Fr.of [(1, .ep (Wire.cells a0)), (3, .sl (.id (g + 2 + 1)) 3 (v9.map WireFault.cells)), (8, .i v6), (9, .i v10)]) _ _
       replace hS : St (· < g) H0 [(g + 2 + 1, .row 63 v9.length)] H g7 := hS
       replace hM : ref11_AllFaults_l2_b (ref11_AllFaults_l1 n a0 m5) a0 v6 (ref11_AllFaults_l2 (ref11_AllFaults_l1 n a0 m5) a0 v6 m7) v9 v10 = some r := hM
       refine r_seq ?_
       refine r_seq ?_
       refine r_region (n := 4) rfl ?_
       refine o_move (v := .i v10) (by decide) rfl ?_
       refine o_fieldE (cs := (Wire.cells a0)) (by decide) ty_fo24_1 rfl ?_
       refine o_loadE (v := .i a0.Numbers) (by decide) rfl (part_one ty_agg3 ty_sc3 rfl) ?_
       refine o_int (v := .b (decide (v10 < a0.Numbers))) (by decide) rfl rfl rfl ?_
       refine run_nil ?_
       refine w_next [(1, .ep (Wire.cells a0)), (3, .sl (.id (g + 2 + 1)) 3 (v9.map WireFault.cells)), (8, .i v6), (9, .i v10), (63, .b (decide (v10 < a0.Numbers)))] (.k (.k (.k (.k (.k .nil))))) ?_
       rcases Bool.eq_false_or_eq_true (decide (v10 < a0.Numbers)) with hb11 | hb11
       ·replace hM := ifT hM hb11
        refine w_condT (e := (decide (v10 < a0.Numbers))) rfl hb11 ?_
        refine r_skip ?_
        refine w_next [(1, .ep (Wire.cells a0)), (3, .sl (.id (g + 2 + 1)) 3 (v9.map WireFault.cells)), (8, .i v6), (9, .i v10)] (.k (.k (.k (.k .nil)))) ?_
        refine r_seq ?_
        refine r_block ?_
        refine r_region (n := 7) rfl ?_
        refine o_move (v := .sl (.id (g + 2 + 1)) 3 (v9.map WireFault.cells)) (by decide) rfl ?_
        refine o_move (v := .i v6) (by decide) rfl ?_
        refine o_move (v := .i v10) (by decide) rfl ?_
        refine o_build (cs := [.i 4, .i v6, .i v10]) (by decide) ty_zero63 ty_pl63 rfl ?_
        refine o_buildSlice (es := [[.i 4, .i v6, .i v10]]) hS (by decide) ty_es31 ty_el31 rfl ty_ef31 rfl (by decide) (by omega) fun H hS => ?_
        obtain ⟨l12, hl12, hM⟩ := bindE hM
        refine o_append (xs := v9) (ys := ([(⟨4, v6, v10⟩ : WireFault)] : List WireFault)) (zs := l12) (f := WireFault.cells) (L' := [(g7 + 4 + 4, .row 63 1), (g + 2 + 1, .row 63 l12.length)]) 1 hS (by decide) rfl rfl rfl rfl .no ty_es31 ty_el31 ty_ef31 hl12 rfl fun H hS => ?_
        refine o_assign (v := .sl (.id (g + 2 + 1)) 3 (l12.map WireFault.cells)) (by decide) rfl ?_
        refine run_nil ?_
        refine r_blk_normal ?_
        replace hS := hS.keep (L' := [(g + 2 + 1, .row 63 l12.length)]) [false, true] rfl
        refine w_next [(1, .ep (Wire.cells a0)), (3, .sl (.id (g + 2 + 1)) 3 (l12.map WireFault.cells)), (8, .i v6), (9, .i v10)] (.k (.k (.k (.k .nil)))) ?_
        refine r_region (n := 3) rfl ?_
        refine o_move (v := .i v10) (by decide) rfl ?_
        refine o_int (v := .i (w64 (v10 + 1))) (by decide) rfl rfl rfl ?_
        refine o_assign (v := .i (w64 (v10 + 1))) (by decide) rfl ?_
        refine run_nil ?_
        exact w_round (l12, w64 (v10 + 1)) (Nat.lt_succ_self _) (.k (.k (.k (.k .nil)))) ⟨(hS.keep [true] rfl).up (by omega), hM⟩
       ·replace hM := ifF hM hb11
        refine w_condF (e := (decide (v10 < a0.Numbers))) rfl hb11 ?_
        refine r_exit ?_
        refine r_then_exit ?_
        refine w_round_exit ?_
        refine r_blk_exit ?_
        refine r_blk_normal ?_
        exact w_goto v9 (.k (.k (.k .nil))) ⟨(hS.keep [true] rfl).up (by omega), hM⟩
     ·replace hM := ifF hM hb7
      refine w_condF (e := (decide (v6 < a0.Numbers))) rfl hb7 ?_
      refine r_exit ?_
      refine r_then_exit ?_
      refine w_round_exit ?_
      refine r_blk_exit ?_
      exact w_goto v5 (.k .nil) ⟨(hS.keep [true] rfl).up (by omega), hM⟩
   ·refine r_seq ?_
    refine r_region (n := 1) rfl ?_
    refine o_assign (v := .i 0) (by decide) rfl ?_
    refine run_nil ?_
    refine w_next [(1, .ep (Wire.cells a0)), (3, .sl (.id (g + 2 + 1)) 3 (v2.map WireFault.cells)), (6, .i 0)] (.k (.k (.k .nil))) ?_
    refine r_block ?_
    refine w_loop (V := (List WireFault) × Int) (fun v => [(1, .ep (Wire.cells a0)), (3, .sl (.id (g + 2 + 1)) 3 (v.1.map WireFault.cells)), (6, .i v.2)]) (fun v m8 H' g' => St (· < g) H0 [(g + 2 + 1, .row 63 v.1.length)] H' g' ∧ ref11_AllFaults_l3 n a0 m8 v.1 v.2 = some r) (n := n) (v2, 0) (.k (.k (.k .nil))) ⟨(hS.keep [true] rfl).up (by omega), hM⟩ ?_
    rintro ⟨v13, v14⟩ m8 H g8 ⟨hS, hM⟩
    obtain _ | m8 := m8
    ·exact nomatch (show none = some _ from hM)
    change wpA _ _ _ _ (Fr.of [(1, .ep (Wire.cells a0)), (3, .sl (.id (g + 2 + 1)) 3 (v13.map WireFault.cells)), (6, .i v14)]) _ _
    replace hS : St (· < g) H0 [(g + 2 + 1, .row 63 v13.length)] H g8 := hS
    replace hM : ref11_AllFaults_l3_b n a0 (ref11_AllFaults_l3 n a0 m8) v13 v14 = some r := hM
    refine r_seq ?_
    refine r_seq ?_
    refine r_region (n := 4) rfl ?_
    refine o_move (v := .i v14) (by decide) rfl ?_
    refine o_fieldE (cs := (Wire.cells a0)) (by decide) ty_fo24_0 rfl ?_
    refine o_loadE (v := .i a0.Letters) (by decide) rfl (part_one ty_agg3 ty_sc3 rfl) ?_
    refine o_int (v := .b (decide (v14 < a0.Letters))) (by decide) rfl rfl rfl ?_
    refine run_nil ?_
    refine w_next [(1, .ep (Wire.cells a0)), (3, .sl (.id (g + 2 + 1)) 3 (v13.map WireFault.cells)), (6, .i v14), (35, .b (decide (v14 < a0.Letters)))] (.k (.k (.k (.k .nil)))) ?_
    rcases Bool.eq_false_or_eq_true (decide (v14 < a0.Letters)) with hb15 | hb15
    ·replace hM := ifT hM hb15
     refine w_condT (e := (decide (v14 < a0.Letters))) rfl hb15 ?_
     refine r_skip ?_
     refine w_next [(1, .ep (Wire.cells a0)), (3, .sl (.id (g + 2 + 1)) 3 (v13.map WireFault.cells)), (6, .i v14)] (.k (.k (.k .nil))) ?_
     refine w_join (J := (List WireFault)) (fun j => [(1, .ep (Wire.cells a0)), (3, .sl (.id (g + 2 + 1)) 3 (j.map WireFault.cells)), (6, .i v14)]) (fun j H' g' => St (· < g) H0 [(g + 2 + 1, .row 63 j.length)] H' g' ∧ ref11_AllFaults_j6 (ref11_AllFaults_l3 n a0 m8) v14 j = some r) ?_ ?_
     ·rintro v16 H g9 ⟨hS, hM⟩
      change wpA _ _ _ _ (Fr.of [(1, .ep (Wire.cells a0)), (3, .sl (.id (g + 2 + 1)) 3 (v16.map WireFault.cells)), (6, .i v14)]) _ _
      replace hS : St (· < g) H0 [(g + 2 + 1, .row 63 v16.length)] H g9 := hS
      replace hM : ref11_AllFaults_j6 (ref11_AllFaults_l3 n a0 m8) v14 v16 = some r := hM
      refine r_region (n := 3) rfl ?_
      refine o_move (v := .i v14) (by decide) rfl ?_
      refine o_int (v := .i (w64 (v14 + 1))) (by decide) rfl rfl rfl ?_
      refine o_assign (v := .i (w64 (v14 + 1))) (by decide) rfl ?_
      refine run_nil ?_
      exact w_round (v16, w64 (v14 + 1)) (Nat.lt_succ_self _) (.k (.k (.k .nil))) ⟨(hS.keep [true] rfl).up (by omega), hM⟩
     ·refine r_block ?_
      refine r_seq ?_
      refine r_region (n := 3) rfl ?_
      refine o_move (v := .i v14) (by decide) rfl ?_
      refine o_int (v := .i (w64 (v14 + 1))) (by decide) rfl rfl rfl ?_
      refine o_assign (v := .i (w64 (v14 + 1))) (by decide) rfl ?_
      refine run_nil ?_
      refine w_next [(1, .ep (Wire.cells a0)), (3, .sl (.id (g + 2 + 1)) 3 (v13.map WireFault.cells)), (6, .i v14), (7, .i (w64 (v14 + 1)))] (.k (.k (.k (.k .nil)))) ?_
      refine r_block ?_
      refine w_loop (V := (List WireFault) × Int) (fun v => [(1, .ep (Wire.cells a0)), (3, .sl (.id (g + 2 + 1)) 3 (v.1.map WireFault.cells)), (6, .i v14), (7, .i v.2)]) (fun v m10 H' g' => St (· < g) H0 [(g + 2 + 1, .row 63 v.1.length)] H' g' ∧ ref11_AllFaults_l4 (ref11_AllFaults_l3 n a0 m8) a0 v14 m10 v.1 v.2 = some r) (n := n) (v13, w64 (v14 + 1)) (.k (.k (.k (.k .nil)))) ⟨(hS.keep [true] rfl).up (by omega), hM⟩ ?_
      rintro ⟨v17, v18⟩ m10 H g10 ⟨hS, hM⟩
      obtain _ | m10 := m10
      ·exact nomatch (show none = some _ from hM)
      change wpA _ _ _ _ (Fr.of [(1, .ep (Wire.cells a0)), (3, .sl (.id (g + 2 + 1)) 3 (v17.map WireFault.cells)), (6, .i v14), (7, .i v18)]) _ _
      replace hS : St (· < g) H0 [(g + 2 + 1, .row 63 v17.length)] H g10 := hS
      replace hM : ref11_AllFaults_l4_b (ref11_AllFaults_l3 n a0 m8) a0 v14 (ref11_AllFaults_l4 (ref11_AllFaults_l3 n a0 m8) a0 v14 m10) v17 v18 = some r := hM
      refine r_seq ?_
      refine r_seq ?_
      refine r_region (n := 4) rfl ?_
      refine o_move (v := .i v18) (by decide) rfl ?_
      refine o_fieldE (cs := (Wire.cells a0)) (by decide) ty_fo24_0 rfl ?_
      refine o_loadE (v := .i a0.Letters) (by decide) rfl (part_one ty_agg3 ty_sc3 rfl) ?_
      refine o_int (v := .b (decide (v18 < a0.Letters))) (by decide) rfl rfl rfl ?_
      refine run_nil ?_
      refine w_next [(1, .ep (Wire.cells a0)), (3, .sl (.id (g + 2 + 1)) 3 (v17.map WireFault.cells)), (6, .i v14), (7, .i v18), (43, .b (decide (v18 < a0.Letters)))] (.k (.k (.k (.k (.k .nil))))) ?_
      rcases Bool.eq_false_or_eq_true (decide (v18 < a0.Letters)) with hb19 | hb19
      ·replace hM := ifT hM hb19
       refine w_condT (e := (decide (v18 < a0.Letters))) rfl hb19 ?_
       refine r_skip ?_
       refine w_next [(1, .ep (Wire.cells a0)), (3, .sl (.id (g + 2 + 1)) 3 (v17.map WireFault.cells)), (6, .i v14), (7, .i v18)] (.k (.k (.k (.k .nil)))) ?_
       refine r_seq ?_
       refine r_block ?_
       refine r_region (n := 7) rfl ?_
       refine o_move (v := .sl (.id (g + 2 + 1)) 3 (v17.map WireFault.cells)) (by decide) rfl ?_
       refine o_move (v := .i v14) (by decide) rfl ?_
       refine o_move (v := .i v18) (by decide) rfl ?_
       refine o_build (cs := [.i 3, .i v14, .i v18]) (by decide) ty_zero63 ty_pl63 rfl ?_
       refine o_buildSlice (es := [[.i 3, .i v14, .i v18]]) hS (by decide) ty_es31 ty_el31 rfl ty_ef31 rfl (by decide) (by omega) fun H hS => ?_
       obtain ⟨l20, hl20, hM⟩ := bindE hM
       refine o_append (xs := v17) (ys := ([(⟨3, v14, v18⟩ : WireFault)] : List WireFault)) (zs := l20) (f := WireFault.cells) (L' := [(g10 + 4 + 4, .row 63 1), (g + 2 + 1, .row 63 l20.length)]) 1 hS (by decide) rfl rfl rfl rfl .no ty_es31 ty_el31 ty_ef31 hl20 rfl fun H hS => ?_
       refine o_assign (v := .sl (.id (g + 2 + 1)) 3 (l20.map WireFault.cells)) (by decide) rfl ?_
       refine run_nil ?_
       refine r_blk_normal ?_
       replace hS := hS.keep (L' := [(g + 2 + 1, .row 63 l20.length)]) [false, true] rfl
       refine w_next [(1, .ep (Wire.cells a0)), (3, .sl (.id (g + 2 + 1)) 3 (l20.map WireFault.cells)), (6, .i v14), (7, .i v18)] (.k (.k (.k (.k .nil)))) ?_
       refine r_region (n := 3) rfl ?_
       refine o_move (v := .i v18) (by decide) rfl ?_
       refine o_int (v := .i (w64 (v18 + 1))) (by decide) rfl rfl rfl ?_
       refine o_assign (v := .i (w64 (v18 + 1))) (by decide) rfl ?_
       refine run_nil ?_
       exact w_round (l20, w64 (v18 + 1)) (Nat.lt_succ_self _) (.k (.k (.k (.k .nil)))) ⟨(hS.keep [true] rfl).up (by omega), hM⟩
      ·replace hM := ifF hM hb19
       refine w_condF (e := (decide (v18 < a0.Letters))) rfl hb19 ?_
       refine r_exit ?_
       refine r_then_exit ?_
       refine w_round_exit ?_
       refine r_blk_exit ?_
       refine r_blk_normal ?_
       exact w_goto v17 (.k (.k (.k .nil))) ⟨(hS.keep [true] rfl).up (by omega), hM⟩
    ·replace hM := ifF hM hb15
     refine w_condF (e := (decide (v14 < a0.Letters))) rfl hb15 ?_
     refine r_exit ?_
     refine r_then_exit ?_
     refine w_round_exit ?_
     refine r_blk_exit ?_
     exact w_goto v13 (.k (.k .nil)) ⟨(hS.keep [true] rfl).up (by omega), hM⟩
  ·refine r_seq ?_
   refine r_region (n := 1) rfl ?_
   refine o_assign (v := .i 0) (by decide) rfl ?_
   refine run_nil ?_
   refine w_next [(1, .ep (Wire.cells a0)), (3, .sl (.id (g + 2 + 1)) 3 (v1.map WireFault.cells)), (5, .i 0)] (.k (.k (.k .nil))) ?_
   refine r_block ?_
   refine w_loop (V := (List WireFault) × Int) (fun v => [(1, .ep (Wire.cells a0)), (3, .sl (.id (g + 2 + 1)) 3 (v.1.map WireFault.cells)), (5, .i v.2)]) (fun v m11 H' g' => St (· < g) H0 [(g + 2 + 1, .row 63 v.1.length)] H' g' ∧ ref11_AllFaults_l5 n a0 m11 v.1 v.2 = some r) (n := n) (v1, 0) (.k (.k (.k .nil))) ⟨(hS.keep [true] rfl).up (by omega), hM⟩ ?_
   rintro ⟨v21, v22⟩ m11 H g11 ⟨hS, hM⟩
   obtain _ | m11 := m11
   ·exact nomatch (show none = some _ from hM)
   change wpA _ _ _ _ (Fr.of [(1, .ep (Wire.cells a0)), (3, .sl (.id (g + 2 + 1)) 3 (v21.map WireFault.cells)), (5, .i v22)]) _ _
   replace hS : St (· < g) H0 [(g + 2 + 1, .row 63 v21.length)] H g11 := hS
   replace hM : ref11_AllFaults_l5_b n a0 (ref11_AllFaults_l5 n a0 m11) v21 v22 = some r := hM
   refine r_seq ?_
   refine r_seq ?_
   refine r_region (n := 4) rfl ?_
   refine o_move (v := .i v22) (by decide) rfl ?_
   refine o_fieldE (cs := (Wire.cells a0)) (by decide) ty_fo24_1 rfl ?_
   refine o_loadE (v := .i a0.Numbers) (by decide) rfl (part_one ty_agg3 ty_sc3 rfl) ?_
   refine o_int (v := .b (decide (v22 < a0.Numbers))) (by decide) rfl rfl rfl ?_
   refine run_nil ?_
   refine w_next [(1, .ep (Wire.cells a0)), (3, .sl (.id (g + 2 + 1)) 3 (v21.map WireFault.cells)), (5, .i v22), (24, .b (decide (v22 < a0.Numbers)))] (.k (.k (.k (.k .nil)))) ?_
   rcases Bool.eq_false_or_eq_true (decide (v22 < a0.Numbers)) with hb23 | hb23
   ·replace hM := ifT hM hb23
    refine w_condT (e := (decide (v22 < a0.Numbers))) rfl hb23 ?_
    refine r_skip ?_
    refine w_next [(1, .ep (Wire.cells a0)), (3, .sl (.id (g + 2 + 1)) 3 (v21.map WireFault.cells)), (5, .i v22)] (.k (.k (.k .nil))) ?_
    refine r_seq ?_
    refine r_block ?_
    refine r_region (n := 6) rfl ?_
    refine o_move (v := .sl (.id (g + 2 + 1)) 3 (v21.map WireFault.cells)) (by decide) rfl ?_
    refine o_move (v := .i v22) (by decide) rfl ?_
    refine o_build (cs := [.i 2, .i v22, .i 0]) (by decide) ty_zero63 ty_pl63 rfl ?_
    refine o_buildSlice (es := [[.i 2, .i v22, .i 0]]) hS (by decide) ty_es31 ty_el31 rfl ty_ef31 rfl (by decide) (by omega) fun H hS => ?_
    obtain ⟨l24, hl24, hM⟩ := bindE hM
    refine o_append (xs := v21) (ys := ([(⟨2, v22, 0⟩ : WireFault)] : List WireFault)) (zs := l24) (f := WireFault.cells) (L' := [(g11 + 4 + 3, .row 63 1), (g + 2 + 1, .row 63 l24.length)]) 1 hS (by decide) rfl rfl rfl rfl .no ty_es31 ty_el31 ty_ef31 hl24 rfl fun H hS => ?_
    refine o_assign (v := .sl (.id (g + 2 + 1)) 3 (l24.map WireFault.cells)) (by decide) rfl ?_
    refine run_nil ?_
    refine r_blk_normal ?_
    replace hS := hS.keep (L' := [(g + 2 + 1, .row 63 l24.length)]) [false, true] rfl
    refine w_next [(1, .ep (Wire.cells a0)), (3, .sl (.id (g + 2 + 1)) 3 (l24.map WireFault.cells)), (5, .i v22)] (.k (.k (.k .nil))) ?_
    refine r_region (n := 3) rfl ?_
    refine o_move (v := .i v22) (by decide) rfl ?_
    refine o_int (v := .i (w64 (v22 + 1))) (by decide) rfl rfl rfl ?_
    refine o_assign (v := .i (w64 (v22 + 1))) (by decide) rfl ?_
    refine run_nil ?_
    exact w_round (l24, w64 (v22 + 1)) (Nat.lt_succ_self _) (.k (.k (.k .nil))) ⟨(hS.keep [true] rfl).up (by omega), hM⟩
   ·replace hM := ifF hM hb23
    refine w_condF (e := (decide (v22 < a0.Numbers))) rfl hb23 ?_
    refine r_exit ?_
    refine r_then_exit ?_
    refine w_round_exit ?_
    refine r_blk_exit ?_
    exact w_goto v21 (.k (.k .nil)) ⟨(hS.keep [true] rfl).up (by omega), hM⟩
 ·refine r_seq ?_
  refine r_region (n := 1) rfl ?_
  refine o_assign (v := .i 0) (by decide) rfl ?_
  refine run_nil ?_
  refine w_next [(1, .ep (Wire.cells a0)), (3, .sl (.id (g + 2 + 1)) 3 (([] : List WireFault).map WireFault.cells)), (4, .i 0)] (.k (.k (.k .nil))) ?_
  refine r_block ?_
  refine w_loop (V := (List WireFault) × Int) (fun v => [(1, .ep (Wire.cells a0)), (3, .sl (.id (g + 2 + 1)) 3 (v.1.map WireFault.cells)), (4, .i v.2)]) (fun v m12 H' g' => St (· < g) H0 [(g + 2 + 1, .row 63 v.1.length)] H' g' ∧ ref11_AllFaults_l6 n a0 m12 v.1 v.2 = some r) (n := n) (([] : List WireFault), 0) (.k (.k (.k .nil))) ⟨(hS.keep [true] rfl).up (by omega), hM⟩ ?_
  rintro ⟨v25, v26⟩ m12 H g12 ⟨hS, hM⟩
  obtain _ | m12 := m12
  ·exact nomatch (show none = some _ from hM)
  change wpA _ _ _ _ (Fr.of [(1, .ep (Wire.cells a0)), (3, .sl (.id (g + 2 + 1)) 3 (v25.map WireFault.cells)), (4, .i v26)]) _ _
  replace hS : St (· < g) H0 [(g + 2 + 1, .row 63 v25.length)] H g12 := hS
  replace hM : ref11_AllFaults_l6_b n a0 (ref11_AllFaults_l6 n a0 m12) v25 v26 = some r := hM
  refine r_seq ?_
  refine r_seq ?_
  refine r_region (n := 4) rfl ?_
  refine o_move (v := .i v26) (by decide) rfl ?_
  refine o_fieldE (cs := (Wire.cells a0)) (by decide) ty_fo24_0 rfl ?_
  refine o_loadE (v := .i a0.Letters) (by decide) rfl (part_one ty_agg3 ty_sc3 rfl) ?_
  refine o_int (v := .b (decide (v26 < a0.Letters))) (by decide) rfl rfl rfl ?_
  refine run_nil ?_
  refine w_next [(1, .ep (Wire.cells a0)), (3, .sl (.id (g + 2 + 1)) 3 (v25.map WireFault.cells)), (4, .i v26), (13, .b (decide (v26 < a0.Letters)))] (.k (.k (.k (.k .nil)))) ?_
  rcases Bool.eq_false_or_eq_true (decide (v26 < a0.Letters)) with hb27 | hb27
  ·replace hM := ifT hM hb27
   refine w_condT (e := (decide (v26 < a0.Letters))) rfl hb27 ?_
   refine r_skip ?_
   refine w_next [(1, .ep (Wire.cells a0)), (3, .sl (.id (g + 2 + 1)) 3 (v25.map WireFault.cells)), (4, .i v26)] (.k (.k (.k .nil))) ?_
   refine r_seq ?_
   refine r_block ?_
   refine r_region (n := 6) rfl ?_
   refine o_move (v := .sl (.id (g + 2 + 1)) 3 (v25.map WireFault.cells)) (by decide) rfl ?_
   refine o_move (v := .i v26) (by decide) rfl ?_
   refine o_build (cs := [.i 1, .i v26, .i 0]) (by decide) ty_zero63 ty_pl63 rfl ?_
   refine o_buildSlice (es := [[.i 1, .i v26, .i 0]]) hS (by decide) ty_es31 ty_el31 rfl ty_ef31 rfl (by decide) (by omega) fun H hS => ?_
   obtain ⟨l28, hl28, hM⟩ := bindE hM
   refine o_append (xs := v25) (ys := ([(⟨1, v26, 0⟩ : WireFault)] : List WireFault)) (zs := l28) (f := WireFault.cells) (L' := [(g12 + 4 + 3, .row 63 1), (g + 2 + 1, .row 63 l28.length)]) 1 hS (by decide) rfl rfl rfl rfl .no ty_es31 ty_el31 ty_ef31 hl28 rfl fun H hS => ?_
   refine o_assign (v := .sl (.id (g + 2 + 1)) 3 (l28.map WireFault.cells)) (by decide) rfl ?_
   refine run_nil ?_
   refine r_blk_normal ?_
   replace hS := hS.keep (L' := [(g + 2 + 1, .row 63 l28.length)]) [false, true] rfl
   refine w_next [(1, .ep (Wire.cells a0)), (3, .sl (.id (g + 2 + 1)) 3 (l28.map WireFault.cells)), (4, .i v26)] (.k (.k (.k .nil))) ?_
   refine r_region (n := 3) rfl ?_
   refine o_move (v := .i v26) (by decide) rfl ?_
   refine o_int (v := .i (w64 (v26 + 1))) (by decide) rfl rfl rfl ?_
   refine o_assign (v := .i (w64 (v26 + 1))) (by decide) rfl ?_
   refine run_nil ?_
   exact w_round (l28, w64 (v26 + 1)) (Nat.lt_succ_self _) (.k (.k (.k .nil))) ⟨(hS.keep [true] rfl).up (by omega), hM⟩
  ·replace hM := ifF hM hb27
   refine w_condF (e := (decide (v26 < a0.Letters))) rfl hb27 ?_
   refine r_exit ?_
   refine r_then_exit ?_
   refine w_round_exit ?_
   refine r_blk_exit ?_
   exact w_goto v25 (.k (.k .nil)) ⟨(hS.keep [true] rfl).up (by omega), hM⟩
theorem W_ref11_place {n : Nat} {a0 : List WireFault} {a1 : WireFault} {r : Int} (hM : ref11_place n a0 a1 = some r) : PureSat Try.prog 85 [.sl .no 3 (a0.map WireFault.cells), .agg (WireFault.cells a1)] (.i r) := by
 refine pure_of_wp mixed Try.func85 rfl (by decide) Try.ntmps85 (by simp) ?pure fun H0 g hf => ?_
 case pure => exact .v _
 rw [frame0_of]
 change wpA _ _ _ _ (Fr.of [(0, .sl .no 3 (a0.map WireFault.cells)), (1, .agg (WireFault.cells a1))]) H0 g
 have hS := St.start hf
 refine r_seq ?_
 refine r_region (n := 2) rfl ?_
 refine o_box (v := .agg (WireFault.cells a1)) (cs := (WireFault.cells a1)) hS (by decide) rfl rfl (by omega) fun H hS => ?_
 refine o_assign (v := .i 0) (by decide) rfl ?_
 refine run_nil ?_
 refine w_iceE (L' := []) 0 3 hS rfl rfl rfl fun H hS => ?_
 refine w_next [(0, .sl .no 3 (a0.map WireFault.cells)), (3, .ep (WireFault.cells a1))] (.k (.k .nil)) ?_
 refine w_join (J := Unit) (fun j => []) (fun j H' g' => St (· < g) H0 [] H' g' ∧ ref11_place_j1 = some r) ?_ ?_
 ·rintro _ H g1 ⟨hS, hM⟩
  change wpA _ _ _ _ (Fr.of []) _ _
  replace hS : St (· < g) H0 [] H g1 := hS
  replace hM : ref11_place_j1 = some r := hM
  refine r_seq ?_
  refine r_region (n := 1) rfl ?_
  refine o_assign (v := .i (-1)) (by decide) rfl ?_
  refine run_nil ?_
  refine w_next [(4, .i (-1))] (.k .nil) ?_
  refine r_ret ?_
  refine w_end (x := .i (-1)) (f := fun r => .i r) (.inr rfl) ?_ (.refl _) (Option.some.inj hM) hS
  exact (res_one (res_tmp (x := .i (-1)) rfl))
 ·refine r_seq ?_
  refine r_region (n := 1) rfl ?_
  refine o_assign (v := .i 0) (by decide) rfl ?_
  refine run_nil ?_
  refine w_next [(0, .sl .no 3 (a0.map WireFault.cells)), (3, .ep (WireFault.cells a1)), (5, .i 0)] (.k (.k (.k .nil))) ?_
  refine r_block ?_
  refine w_loop (V := Int) (fun v => [(0, .sl .no 3 (a0.map WireFault.cells)), (3, .ep (WireFault.cells a1)), (5, .i v)]) (fun v m2 H' g' => St (· < g) H0 [] H' g' ∧ ref11_place_l1 a0 a1 m2 v = some r) (n := n) 0 (.k (.k (.k .nil))) ⟨(hS.keep [] rfl).up (by omega), hM⟩ ?_
  rintro v1 m2 H g2 ⟨hS, hM⟩
  obtain _ | m2 := m2
  ·exact nomatch (show none = some _ from hM)
  change wpA _ _ _ _ (Fr.of [(0, .sl .no 3 (a0.map WireFault.cells)), (3, .ep (WireFault.cells a1)), (5, .i v1)]) _ _
  replace hS : St (· < g) H0 [] H g2 := hS
  replace hM : ref11_place_l1_b a0 a1 (ref11_place_l1 a0 a1 m2) v1 = some r := hM
  refine r_seq ?_
  refine r_seq ?_
  refine r_region (n := 4) rfl ?_
  refine o_move (v := .i v1) (by decide) rfl ?_
  refine o_move (v := .sl .no 3 (a0.map WireFault.cells)) (by decide) rfl ?_
  refine o_len (n := a0.length) (by decide) rfl (List.length_map _) ty_isl31 ?_
  refine o_int (v := .b (decide (v1 < (a0.length : Int)))) (by decide) rfl rfl rfl ?_
  refine run_nil ?_
  refine w_next [(0, .sl .no 3 (a0.map WireFault.cells)), (3, .ep (WireFault.cells a1)), (5, .i v1), (9, .b (decide (v1 < (a0.length : Int))))] (.k (.k (.k (.k .nil)))) ?_
  rcases Bool.eq_false_or_eq_true (decide (v1 < (a0.length : Int))) with hb2 | hb2
  ·replace hM := ifT hM hb2
   refine w_condT (e := (decide (v1 < (a0.length : Int)))) rfl hb2 ?_
   refine r_skip ?_
   refine w_next [(0, .sl .no 3 (a0.map WireFault.cells)), (3, .ep (WireFault.cells a1)), (5, .i v1)] (.k (.k (.k .nil))) ?_
   refine r_seq ?_
   refine r_block ?_
   refine r_seq ?_
   have hS0 := hS
   refine r_draw (n := 6) rfl (by kernel_rfl) ?_
   refine o_move (v := .sl .no 3 (a0.map WireFault.cells)) (by decide) rfl ?_
   refine o_move (v := .i v1) (by decide) rfl ?_
   obtain ⟨x3, hx3, hM⟩ := bindE hM
   refine o_index (xs := a0) (f := WireFault.cells) (z := v1) (u := x3) (by decide) rfl rfl ty_es31 hx3 ?_
   refine o_loadE (v := .agg (WireFault.cells x3)) (by decide) rfl (part_agg ty_agg63 (Nat.le_of_ble_eq_true rfl) rfl) ?_
   refine o_loadE (v := .agg (WireFault.cells a1)) (by decide) rfl (part_agg ty_agg63 (Nat.le_of_ble_eq_true rfl) rfl) ?_
   refine o_eqS (cs := (WireFault.cells x3)) (ds := (WireFault.cells a1)) (e := ((x3.Kind == a1.Kind) && ((x3.A == a1.A) && ((x3.B == a1.B) && true)))) (by decide) rfl rfl ty_flat63 rfl ?_
   refine run_nil ?_
   refine w_next [(0, .sl .no 3 (a0.map WireFault.cells)), (3, .ep (WireFault.cells a1)), (5, .i v1), (17, .b ((x3.Kind == a1.Kind) && ((x3.A == a1.A) && ((x3.B == a1.B) && true))))] (.k (.k (.k (.k .nil)))) ?_
   rcases Bool.eq_false_or_eq_true ((x3.Kind == a1.Kind) && ((x3.A == a1.A) && ((x3.B == a1.B) && true))) with hb4 | hb4
   ·replace hM := ifT hM hb4
    refine w_condT (e := ((x3.Kind == a1.Kind) && ((x3.A == a1.A) && ((x3.B == a1.B) && true)))) rfl hb4 ?_
    refine r_seq ?_
    refine r_region (n := 2) rfl ?_
    refine o_move (v := .i v1) (by decide) rfl ?_
    refine o_assign (v := .i v1) (by decide) rfl ?_
    refine run_nil ?_
    refine w_next [(4, .i v1)] (.k .nil) ?_
    refine r_ret ?_
    refine r_blk_ret ?_
    refine r_then_ret ?_
    refine w_round_ret ?_
    refine r_blk_ret ?_
    refine w_goto_ret ?_
    refine w_end (x := .i v1) (f := fun r => .i r) (.inr rfl) ?_ (.refl _) (Option.some.inj hM) hS
    exact (res_one (res_tmp (x := .i v1) rfl))
   ·replace hM := ifF hM hb4
    refine w_condF (e := ((x3.Kind == a1.Kind) && ((x3.A == a1.A) && ((x3.B == a1.B) && true)))) rfl hb4 ?_
    refine r_skip ?_
    refine r_blk_normal ?_
    refine w_next [(0, .sl .no 3 (a0.map WireFault.cells)), (3, .ep (WireFault.cells a1)), (5, .i v1)] (.k (.k (.k .nil))) ?_
    refine r_region (n := 3) rfl ?_
    refine o_move (v := .i v1) (by decide) rfl ?_
    refine o_int (v := .i (w64 (v1 + 1))) (by decide) rfl rfl rfl ?_
    refine o_assign (v := .i (w64 (v1 + 1))) (by decide) rfl ?_
    refine run_nil ?_
    exact w_round (w64 (v1 + 1)) (Nat.lt_succ_self _) (.k (.k (.k .nil))) ⟨(hS.keep [] rfl).up (by omega), hM⟩
  ·replace hM := ifF hM hb2
   refine w_condF (e := (decide (v1 < (a0.length : Int)))) rfl hb2 ?_
   refine r_exit ?_
   refine r_then_exit ?_
   refine w_round_exit ?_
   refine r_blk_exit ?_
   exact w_goto () .nil ⟨(hS.keep [] rfl).up (by omega), hM⟩
theorem W_ref11_Has {n : Nat} {a0 : List WireFault} {a1 : WireFault} {r : Bool} (hM : ref11_Has n a0 a1 = some r) : PureSat Try.prog 61 [.sl .no 3 (a0.map WireFault.cells), .agg (WireFault.cells a1)] (.b r) := by
 refine pure_of_wp mixed Try.func61 rfl (by decide) Try.ntmps61 (by simp) ?pure fun H0 g hf => ?_
 case pure => exact .v _
 rw [frame0_of]
 change wpA _ _ _ _ (Fr.of [(0, .sl .no 3 (a0.map WireFault.cells)), (1, .agg (WireFault.cells a1))]) H0 g
 have hS := St.start hf
 refine r_seq ?_
 refine r_region (n := 2) rfl ?_
 refine o_box (v := .agg (WireFault.cells a1)) (cs := (WireFault.cells a1)) hS (by decide) rfl rfl (by omega) fun H hS => ?_
 refine o_assign (v := .b false) (by decide) rfl ?_
 refine run_nil ?_
 refine w_iceE (L' := []) 0 3 hS rfl rfl rfl fun H hS => ?_
 refine w_next [(0, .sl .no 3 (a0.map WireFault.cells)), (3, .ep (WireFault.cells a1))] (.k (.k .nil)) ?_
 refine r_seq ?_
 refine r_region (n := 5) rfl ?_
 refine o_move (v := .sl .no 3 (a0.map WireFault.cells)) (by decide) rfl ?_
 refine o_loadE (v := .agg (WireFault.cells a1)) (by decide) rfl (part_agg ty_agg63 (Nat.le_of_ble_eq_true rfl) rfl) ?_
 obtain ⟨r1, hr1, hM⟩ := bindE hM
 refine o_call (bs := [.sl .no 3 (a0.map WireFault.cells), .agg (WireFault.cells a1)]) (by decide) rfl rfl ((W_ref11_place hr1).le (.k (.k .nil))) ?_
 refine o_int (v := .b (decide (r1 ≥ 0))) (by decide) rfl rfl rfl ?_
 refine o_assign (v := .b (decide (r1 ≥ 0))) (by decide) rfl ?_
 refine run_nil ?_
 refine w_next [(4, .b (decide (r1 ≥ 0)))] (.k .nil) ?_
 refine r_ret ?_
 refine w_end (x := .b (decide (r1 ≥ 0))) (f := fun r => .b r) (.inr rfl) ?_ (.refl _) (Option.some.inj hM) hS
 exact (res_one (res_tmp (x := .b (decide (r1 ≥ 0))) rfl))
theorem W_ref11_other {n : Nat} {a0 : List WireFault} {a1 : Int} {a2 : Int} {r : Int} (hM : ref11_other n a0 a1 a2 = some r) : PureSat Try.prog 80 [.sl .no 3 (a0.map WireFault.cells), .i a1, .i a2] (.i r) := by
 refine pure_of_wp mixed Try.func80 rfl (by decide) Try.ntmps80 (by simp) ?pure fun H0 g hf => ?_
 case pure => exact .v _
 rw [frame0_of]
 change wpA _ _ _ _ (Fr.of [(0, .sl .no 3 (a0.map WireFault.cells)), (1, .i a1), (2, .i a2)]) H0 g
 have hS := St.start hf
 refine r_seq ?_
 refine r_region (n := 1) rfl ?_
 refine o_assign (v := .i 0) (by decide) rfl ?_
 refine run_nil ?_
 refine w_next [(0, .sl .no 3 (a0.map WireFault.cells)), (1, .i a1), (2, .i a2)] (.k (.k (.k .nil))) ?_
 refine w_join (J := Unit) (fun j => [(2, .i a2)]) (fun j H' g' => St (· < g) H0 [] H' g' ∧ ref11_other_j1 a2 = some r) ?_ ?_
 ·rintro _ H g1 ⟨hS, hM⟩
  change wpA _ _ _ _ (Fr.of [(2, .i a2)]) _ _
  replace hS : St (· < g) H0 [] H g1 := hS
  replace hM : ref11_other_j1 a2 = some r := hM
  refine r_seq ?_
  refine r_region (n := 2) rfl ?_
  refine o_move (v := .i a2) (by decide) rfl ?_
  refine o_assign (v := .i a2) (by decide) rfl ?_
  refine run_nil ?_
  refine w_next [(6, .i a2)] (.k .nil) ?_
  refine r_ret ?_
  refine w_end (x := .i a2) (f := fun r => .i r) (.inr rfl) ?_ (.refl _) (Option.some.inj hM) hS
  exact (res_one (res_tmp (x := .i a2) rfl))
 ·refine r_seq ?_
  refine r_region (n := 1) rfl ?_
  refine o_assign (v := .i 0) (by decide) rfl ?_
  refine run_nil ?_
  refine w_next [(0, .sl .no 3 (a0.map WireFault.cells)), (1, .i a1), (2, .i a2), (7, .i 0)] (.k (.k (.k (.k .nil)))) ?_
  refine r_block ?_
  refine w_loop (V := Int) (fun v => [(0, .sl .no 3 (a0.map WireFault.cells)), (1, .i a1), (2, .i a2), (7, .i v)]) (fun v m2 H' g' => St (· < g) H0 [] H' g' ∧ ref11_other_l1 a0 a1 a2 m2 v = some r) (n := n) 0 (.k (.k (.k (.k .nil)))) ⟨(hS.keep [] rfl).up (by omega), hM⟩ ?_
  rintro v1 m2 H g2 ⟨hS, hM⟩
  obtain _ | m2 := m2
  ·exact nomatch (show none = some _ from hM)
  change wpA _ _ _ _ (Fr.of [(0, .sl .no 3 (a0.map WireFault.cells)), (1, .i a1), (2, .i a2), (7, .i v1)]) _ _
  replace hS : St (· < g) H0 [] H g2 := hS
  replace hM : ref11_other_l1_b a0 a1 a2 (ref11_other_l1 a0 a1 a2 m2) v1 = some r := hM
  refine r_seq ?_
  refine r_seq ?_
  refine r_region (n := 4) rfl ?_
  refine o_move (v := .i v1) (by decide) rfl ?_
  refine o_move (v := .sl .no 3 (a0.map WireFault.cells)) (by decide) rfl ?_
  refine o_len (n := a0.length) (by decide) rfl (List.length_map _) ty_isl31 ?_
  refine o_int (v := .b (decide (v1 < (a0.length : Int)))) (by decide) rfl rfl rfl ?_
  refine run_nil ?_
  refine w_next [(0, .sl .no 3 (a0.map WireFault.cells)), (1, .i a1), (2, .i a2), (7, .i v1), (12, .b (decide (v1 < (a0.length : Int))))] (.k (.k (.k (.k (.k .nil))))) ?_
  rcases Bool.eq_false_or_eq_true (decide (v1 < (a0.length : Int))) with hb2 | hb2
  ·replace hM := ifT hM hb2
   refine w_condT (e := (decide (v1 < (a0.length : Int)))) rfl hb2 ?_
   refine r_skip ?_
   refine w_next [(0, .sl .no 3 (a0.map WireFault.cells)), (1, .i a1), (2, .i a2), (7, .i v1)] (.k (.k (.k (.k .nil)))) ?_
   refine w_join (J := Unit) (fun j => [(0, .sl .no 3 (a0.map WireFault.cells)), (1, .i a1), (2, .i a2), (7, .i v1)]) (fun j H' g' => St (· < g) H0 [] H' g' ∧ ref11_other_j2 (ref11_other_l1 a0 a1 a2 m2) v1 = some r) ?_ ?_
   ·rintro _ H g3 ⟨hS, hM⟩
    change wpA _ _ _ _ (Fr.of [(0, .sl .no 3 (a0.map WireFault.cells)), (1, .i a1), (2, .i a2), (7, .i v1)]) _ _
    replace hS : St (· < g) H0 [] H g3 := hS
    replace hM : ref11_other_j2 (ref11_other_l1 a0 a1 a2 m2) v1 = some r := hM
    refine r_region (n := 3) rfl ?_
    refine o_move (v := .i v1) (by decide) rfl ?_
    refine o_int (v := .i (w64 (v1 + 1))) (by decide) rfl rfl rfl ?_
    refine o_assign (v := .i (w64 (v1 + 1))) (by decide) rfl ?_
    refine run_nil ?_
    exact w_round (w64 (v1 + 1)) (Nat.lt_succ_self _) (.k (.k (.k (.k .nil)))) ⟨(hS.keep [] rfl).up (by omega), hM⟩
   ·refine r_block ?_
    refine r_seq ?_
    refine r_region (n := 6) rfl ?_
    refine o_move (v := .sl .no 3 (a0.map WireFault.cells)) (by decide) rfl ?_
    refine o_move (v := .i v1) (by decide) rfl ?_
    obtain ⟨x3, hx3, hM⟩ := bindE hM
    refine o_index (xs := a0) (f := WireFault.cells) (z := v1) (u := x3) (by decide) rfl rfl ty_es31 hx3 ?_
    refine o_loadE (v := .agg (WireFault.cells x3)) (by decide) rfl (part_agg ty_agg63 (Nat.le_of_ble_eq_true rfl) rfl) ?_
    refine o_alloc hS (by decide) ty_zero63 (by omega) fun H hS => ?_
    refine o_store (v := .agg (WireFault.cells x3)) (ns := (WireFault.cells x3)) (L' := [(g2 + 4 + 4, .cells (WireFault.cells x3))]) 0 hS rfl rfl .no rfl rfl ty_var63 (Nat.le_of_ble_eq_true rfl) rfl fun H hS => ?_
    refine run_nil ?_
    refine w_iceE (L' := []) 0 8 hS rfl rfl rfl fun H hS => ?_
    refine w_next [(0, .sl .no 3 (a0.map WireFault.cells)), (1, .i a1), (2, .i a2), (7, .i v1), (8, .ep (WireFault.cells x3))] (.k (.k (.k (.k (.k .nil))))) ?_
    refine r_seq ?_
    refine r_region (n := 4) rfl ?_
    refine o_fieldE (cs := (WireFault.cells x3)) (by decide) ty_fo63_0 rfl ?_
    refine o_loadE (v := .i x3.Kind) (by decide) rfl (part_one ty_agg3 ty_sc3 rfl) ?_
    refine o_move (v := .i a1) (by decide) rfl ?_
    refine o_int (v := .b (x3.Kind == a1)) (by decide) rfl rfl rfl ?_
    refine run_nil ?_
    refine w_next [(0, .sl .no 3 (a0.map WireFault.cells)), (1, .i a1), (2, .i a2), (7, .i v1), (8, .ep (WireFault.cells x3)), (22, .b (x3.Kind == a1))] (.k (.k (.k (.k (.k (.k .nil)))))) ?_
    rcases Bool.eq_false_or_eq_true (x3.Kind == a1) with hb4 | hb4
    ·replace hM := ifT hM hb4
     refine w_condT (e := (x3.Kind == a1)) rfl hb4 ?_
     refine r_seq ?_
     refine r_seq ?_
     refine r_region (n := 4) rfl ?_
     refine o_fieldE (cs := (WireFault.cells x3)) (by decide) ty_fo63_1 rfl ?_
     refine o_loadE (v := .i x3.A) (by decide) rfl (part_one ty_agg3 ty_sc3 rfl) ?_
     refine o_move (v := .i a2) (by decide) rfl ?_
     refine o_int (v := .b (x3.A == a2)) (by decide) rfl rfl rfl ?_
     refine run_nil ?_
     refine w_next [(0, .sl .no 3 (a0.map WireFault.cells)), (1, .i a1), (2, .i a2), (7, .i v1), (8, .ep (WireFault.cells x3)), (26, .b (x3.A == a2))] (.k (.k (.k (.k (.k (.k .nil)))))) ?_
     rcases Bool.eq_false_or_eq_true (x3.A == a2) with hb5 | hb5
     ·replace hM := ifT hM hb5
      refine w_condT (e := (x3.A == a2)) rfl hb5 ?_
      refine r_seq ?_
      refine r_region (n := 3) rfl ?_
      refine o_fieldE (cs := (WireFault.cells x3)) (by decide) ty_fo63_2 rfl ?_
      refine o_loadE (v := .i x3.B) (by decide) rfl (part_one ty_agg3 ty_sc3 rfl) ?_
      refine o_assign (v := .i x3.B) (by decide) rfl ?_
      refine run_nil ?_
      refine w_next [(6, .i x3.B)] (.k .nil) ?_
      refine r_ret ?_
      refine r_then_ret ?_
      refine r_blk_ret ?_
      refine w_goto_ret ?_
      refine w_round_ret ?_
      refine r_blk_ret ?_
      refine w_goto_ret ?_
      refine w_end (x := .i x3.B) (f := fun r => .i r) (.inr rfl) ?_ (.refl _) (Option.some.inj hM) hS
      exact (res_one (res_tmp (x := .i x3.B) rfl))
     ·replace hM := ifF hM hb5
      refine w_condF (e := (x3.A == a2)) rfl hb5 ?_
      refine r_skip ?_
      refine w_next [(0, .sl .no 3 (a0.map WireFault.cells)), (1, .i a1), (2, .i a2), (7, .i v1), (8, .ep (WireFault.cells x3))] (.k (.k (.k (.k (.k .nil))))) ?_
      refine r_seq ?_
      refine r_region (n := 4) rfl ?_
      refine o_fieldE (cs := (WireFault.cells x3)) (by decide) ty_fo63_2 rfl ?_
      refine o_loadE (v := .i x3.B) (by decide) rfl (part_one ty_agg3 ty_sc3 rfl) ?_
      refine o_move (v := .i a2) (by decide) rfl ?_
      refine o_int (v := .b (x3.B == a2)) (by decide) rfl rfl rfl ?_
      refine run_nil ?_
      refine w_next [(0, .sl .no 3 (a0.map WireFault.cells)), (1, .i a1), (2, .i a2), (7, .i v1), (8, .ep (WireFault.cells x3)), (32, .b (x3.B == a2))] (.k (.k (.k (.k (.k (.k .nil)))))) ?_
      rcases Bool.eq_false_or_eq_true (x3.B == a2) with hb6 | hb6
      ·replace hM := ifT hM hb6
       refine w_condT (e := (x3.B == a2)) rfl hb6 ?_
       refine r_seq ?_
       refine r_region (n := 3) rfl ?_
       refine o_fieldE (cs := (WireFault.cells x3)) (by decide) ty_fo63_1 rfl ?_
       refine o_loadE (v := .i x3.A) (by decide) rfl (part_one ty_agg3 ty_sc3 rfl) ?_
       refine o_assign (v := .i x3.A) (by decide) rfl ?_
       refine run_nil ?_
       refine w_next [(6, .i x3.A)] (.k .nil) ?_
       refine r_ret ?_
       refine r_blk_ret ?_
       refine w_goto_ret ?_
       refine w_round_ret ?_
       refine r_blk_ret ?_
       refine w_goto_ret ?_
       refine w_end (x := .i x3.A) (f := fun r => .i r) (.inr rfl) ?_ (.refl _) (Option.some.inj hM) hS
       exact (res_one (res_tmp (x := .i x3.A) rfl))
      ·replace hM := ifF hM hb6
       refine w_condF (e := (x3.B == a2)) rfl hb6 ?_
       refine r_skip ?_
       refine r_blk_normal ?_
       exact w_goto () (.k (.k (.k (.k .nil)))) ⟨(hS.keep [] rfl).up (by omega), hM⟩
    ·replace hM := ifF hM hb4
     refine w_condF (e := (x3.Kind == a1)) rfl hb4 ?_
     refine r_skip ?_
     refine r_blk_normal ?_
     exact w_goto () (.k (.k (.k (.k .nil)))) ⟨(hS.keep [] rfl).up (by omega), hM⟩
  ·replace hM := ifF hM hb2
   refine w_condF (e := (decide (v1 < (a0.length : Int)))) rfl hb2 ?_
   refine r_exit ?_
   refine r_then_exit ?_
   refine w_round_exit ?_
   refine r_blk_exit ?_
   exact w_goto () (.k .nil) ⟨(hS.keep [] rfl).up (by omega), hM⟩
theorem W_ref11_PlaysOf {n : Nat} {a0 : Wire} {a1 : List WireFault} {a2 : Int} {a3 : Int} {r : Int} (hM : ref11_PlaysOf n a0 a1 a2 a3 = some r) : PureSat Try.prog 47 [.agg (Wire.cells a0), .sl .no 3 (a1.map WireFault.cells), .i a2, .i a3] (.i r) := by
 refine pure_of_wp mixed Try.func47 rfl (by decide) Try.ntmps47 (by simp) ?pure fun H0 g hf => ?_
 case pure => exact .v _
 rw [frame0_of]
 change wpA _ _ _ _ (Fr.of [(0, .agg (Wire.cells a0)), (1, .sl .no 3 (a1.map WireFault.cells)), (2, .i a2), (3, .i a3)]) H0 g
 have hS := St.start hf
 refine r_seq ?_
 refine r_region (n := 2) rfl ?_
 refine o_box (v := .agg (Wire.cells a0)) (cs := (Wire.cells a0)) hS (by decide) rfl rfl (by omega) fun H hS => ?_
 refine o_assign (v := .i 0) (by decide) rfl ?_
 refine run_nil ?_
 refine w_iceE (L' := []) 0 4 hS rfl rfl rfl fun H hS => ?_
 refine w_next [(1, .sl .no 3 (a1.map WireFault.cells)), (2, .i a2), (3, .i a3), (4, .ep (Wire.cells a0))] (.k (.k (.k (.k .nil)))) ?_
 refine r_seq ?_
 refine w_join (J := Bool) (fun j => [(1, .sl .no 3 (a1.map WireFault.cells)), (2, .i a2), (3, .i a3), (4, .ep (Wire.cells a0)), (18, .b j)]) (fun j H' g' => St (· < g) H0 [] H' g' ∧ ref11_PlaysOf_j1 n a0 a1 a2 a3 j = some r) ?_ ?_
 ·rintro v1 H g1 ⟨hS, hM⟩
  change wpA _ _ _ _ (Fr.of [(1, .sl .no 3 (a1.map WireFault.cells)), (2, .i a2), (3, .i a3), (4, .ep (Wire.cells a0)), (18, .b v1)]) _ _
  replace hS : St (· < g) H0 [] H g1 := hS
  replace hM : ref11_PlaysOf_j1 n a0 a1 a2 a3 v1 = some r := hM
  rcases Bool.eq_false_or_eq_true v1 with hb2 | hb2
  ·replace hM := ifT hM hb2
   refine w_condT (e := v1) rfl hb2 ?_
   refine r_seq ?_
   refine r_region (n := 1) rfl ?_
   refine o_assign (v := .i (-1)) (by decide) rfl ?_
   refine run_nil ?_
   refine w_next [(8, .i (-1))] (.k .nil) ?_
   refine r_ret ?_
   refine r_then_ret ?_
   refine w_end (x := .i (-1)) (f := fun r => .i r) (.inr rfl) ?_ (.refl _) (Option.some.inj hM) hS
   exact (res_one (res_tmp (x := .i (-1)) rfl))
  ·replace hM := ifF hM hb2
   refine w_condF (e := v1) rfl hb2 ?_
   refine r_skip ?_
   refine w_next [(1, .sl .no 3 (a1.map WireFault.cells)), (2, .i a2), (3, .i a3), (4, .ep (Wire.cells a0))] (.k (.k (.k (.k .nil)))) ?_
   refine r_seq ?_
   have hS0 := hS
   refine r_draw (n := 11) rfl (by kernel_rfl) ?_
   refine o_move (v := .sl .no 3 (a1.map WireFault.cells)) (by decide) rfl ?_
   refine o_move (v := .i a2) (by decide) rfl ?_
   obtain ⟨r3, hr3, hM⟩ := bindE hM
   refine o_call (bs := [.sl .no 3 (a1.map WireFault.cells), .i 3, .i a2]) (by decide) rfl rfl ((W_ref11_other hr3).le (.k (.k (.k .nil)))) ?_
   refine o_fieldE (cs := (Wire.cells a0)) (by decide) ty_fo24_1 rfl ?_
   refine o_loadE (v := .i a0.Numbers) (by decide) rfl (part_one ty_agg3 ty_sc3 rfl) ?_
   refine o_int (v := .i (w64 (r3 * a0.Numbers))) (by decide) rfl rfl rfl ?_
   refine o_move (v := .sl .no 3 (a1.map WireFault.cells)) (by decide) rfl ?_
   refine o_move (v := .i a3) (by decide) rfl ?_
   obtain ⟨r4, hr4, hM⟩ := bindE hM
   refine o_call (bs := [.sl .no 3 (a1.map WireFault.cells), .i 4, .i a3]) (by decide) rfl rfl ((W_ref11_other hr4).le (.k (.k (.k .nil)))) ?_
   refine o_int (v := .i (w64 ((w64 (r3 * a0.Numbers)) + r4))) (by decide) rfl rfl rfl ?_
   refine o_assign (v := .i (w64 ((w64 (r3 * a0.Numbers)) + r4))) (by decide) rfl ?_
   refine run_nil ?_
   refine w_next [(8, .i (w64 ((w64 (r3 * a0.Numbers)) + r4)))] (.k .nil) ?_
   refine r_ret ?_
   refine w_end (x := .i (w64 ((w64 (r3 * a0.Numbers)) + r4))) (f := fun r => .i r) (.inr rfl) ?_ (.refl _) (Option.some.inj hM) hS
   exact (res_one (res_tmp (x := .i (w64 ((w64 (r3 * a0.Numbers)) + r4))) rfl))
 ·refine r_region (n := 10) rfl ?_
  refine o_move (v := .sl .no 3 (a1.map WireFault.cells)) (by decide) rfl ?_
  refine o_move (v := .i a2) (by decide) rfl ?_
  refine o_build (cs := [.i 1, .i a2, .i 0]) (by decide) ty_zero63 ty_pl63 rfl ?_
  obtain ⟨r5, hr5, hM⟩ := bindE hM
  refine o_call (bs := [.sl .no 3 (a1.map WireFault.cells), .agg [.i 1, .i a2, .i 0]]) (by decide) rfl rfl ((W_ref11_Has hr5).le (.k (.k .nil))) ?_
  refine o_move (v := .b r5) (by decide) rfl ?_
  rcases Bool.eq_false_or_eq_true r5 with hb6 | hb6
  ·replace hM := ifT hM hb6
   refine o_guardN (j := 4) (e := r5) (want := false) (by decide) rfl hb6 ?_
   refine o_guardN (j := 4) (e := r5) (want := false) (by decide) rfl hb6 ?_
   refine o_guardN (j := 4) (e := r5) (want := false) (by decide) rfl hb6 ?_
   refine o_guardN (j := 4) (e := r5) (want := false) (by decide) rfl hb6 ?_
   refine o_pickT (v := .b true) (e := r5) (by decide) rfl hb6 rfl ?_
   refine run_nil ?_
   exact w_goto true (.k (.k (.k (.k (.k .nil))))) ⟨(hS.keep [] rfl).up (by omega), hM⟩
  ·replace hM := ifF hM hb6
   refine o_guardY (j := 4) (e := r5) (want := false) rfl hb6 ?_
   refine o_move (v := .sl .no 3 (a1.map WireFault.cells)) (by decide) rfl ?_
   refine o_guardY (j := 4) (e := r5) (want := false) rfl hb6 ?_
   refine o_move (v := .i a3) (by decide) rfl ?_
   refine o_guardY (j := 4) (e := r5) (want := false) rfl hb6 ?_
   refine o_build (cs := [.i 2, .i a3, .i 0]) (by decide) ty_zero63 ty_pl63 rfl ?_
   refine o_guardY (j := 4) (e := r5) (want := false) rfl hb6 ?_
   obtain ⟨r7, hr7, hM⟩ := bindE hM
   refine o_call (bs := [.sl .no 3 (a1.map WireFault.cells), .agg [.i 2, .i a3, .i 0]]) (by decide) rfl rfl ((W_ref11_Has hr7).le (.k (.k .nil))) ?_
   refine o_pickF (v := .b r7) (e := r5) (by decide) rfl hb6 rfl ?_
   refine run_nil ?_
   exact w_goto r7 (.k (.k (.k (.k (.k .nil))))) ⟨(hS.keep [] rfl).up (by omega), hM⟩
theorem W_ref11_IsExplained {n : Nat} {a0 : Wire} {a1 : List WireFault} {r : Bool} (hM : ref11_IsExplained n a0 a1 = some r) : PureSat Try.prog 78 [.agg (Wire.cells a0), .sl .no 3 (a1.map WireFault.cells)] (.b r) := by
 refine pure_of_wp mixed Try.func78 rfl (by decide) Try.ntmps78 (by simp) ?pure fun H0 g hf => ?_
 case pure => exact .v _
 rw [frame0_of]
 change wpA _ _ _ _ (Fr.of [(0, .agg (Wire.cells a0)), (1, .sl .no 3 (a1.map WireFault.cells))]) H0 g
 have hS := St.start hf
 refine r_seq ?_
 refine r_region (n := 2) rfl ?_
 refine o_box (v := .agg (Wire.cells a0)) (cs := (Wire.cells a0)) hS (by decide) rfl rfl (by omega) fun H hS => ?_
 refine o_assign (v := .b false) (by decide) rfl ?_
 refine run_nil ?_
 refine w_iceE (L' := []) 0 2 hS rfl rfl rfl fun H hS => ?_
 refine w_next [(1, .sl .no 3 (a1.map WireFault.cells)), (2, .ep (Wire.cells a0))] (.k (.k .nil)) ?_
 refine w_join (J := Unit) (fun j => []) (fun j H' g' => St (· < g) H0 [] H' g' ∧ ref11_IsExplained_j1 = some r) ?_ ?_
 ·rintro _ H g1 ⟨hS, hM⟩
  change wpA _ _ _ _ (Fr.of []) _ _
  replace hS : St (· < g) H0 [] H g1 := hS
  replace hM : ref11_IsExplained_j1 = some r := hM
  refine r_seq ?_
  refine r_region (n := 1) rfl ?_
  refine o_assign (v := .b true) (by decide) rfl ?_
  refine run_nil ?_
  refine w_next [(4, .b true)] (.k .nil) ?_
  refine r_ret ?_
  refine w_end (x := .b true) (f := fun r => .b r) (.inr rfl) ?_ (.refl _) (Option.some.inj hM) hS
  exact (res_one (res_tmp (x := .b true) rfl))
 ·refine r_seq ?_
  refine r_region (n := 1) rfl ?_
  refine o_assign (v := .i 0) (by decide) rfl ?_
  refine run_nil ?_
  refine w_next [(1, .sl .no 3 (a1.map WireFault.cells)), (2, .ep (Wire.cells a0)), (5, .i 0)] (.k (.k (.k .nil))) ?_
  refine r_block ?_
  refine w_loop (V := Int) (fun v => [(1, .sl .no 3 (a1.map WireFault.cells)), (2, .ep (Wire.cells a0)), (5, .i v)]) (fun v m2 H' g' => St (· < g) H0 [] H' g' ∧ ref11_IsExplained_l1 n a0 a1 m2 v = some r) (n := n) 0 (.k (.k (.k .nil))) ⟨(hS.keep [] rfl).up (by omega), hM⟩ ?_
  rintro v1 m2 H g2 ⟨hS, hM⟩
  obtain _ | m2 := m2
  ·exact nomatch (show none = some _ from hM)
  change wpA _ _ _ _ (Fr.of [(1, .sl .no 3 (a1.map WireFault.cells)), (2, .ep (Wire.cells a0)), (5, .i v1)]) _ _
  replace hS : St (· < g) H0 [] H g2 := hS
  replace hM : ref11_IsExplained_l1_b n a0 a1 (ref11_IsExplained_l1 n a0 a1 m2) v1 = some r := hM
  refine r_seq ?_
  refine r_seq ?_
  refine r_region (n := 5) rfl ?_
  refine o_move (v := .i v1) (by decide) rfl ?_
  refine o_fieldE (cs := (Wire.cells a0)) (by decide) ty_fo24_2 rfl ?_
  refine o_loadE (v := .sl .no 3 (a0.Presses.map WirePress.cells)) (by decide) rfl (part_one ty_agg22 ty_sc22 rfl) ?_
  refine o_len (n := a0.Presses.length) (by decide) rfl (List.length_map _) ty_isl22 ?_
  refine o_int (v := .b (decide (v1 < (a0.Presses.length : Int)))) (by decide) rfl rfl rfl ?_
  refine run_nil ?_
  refine w_next [(1, .sl .no 3 (a1.map WireFault.cells)), (2, .ep (Wire.cells a0)), (5, .i v1), (11, .b (decide (v1 < (a0.Presses.length : Int))))] (.k (.k (.k (.k .nil)))) ?_
  rcases Bool.eq_false_or_eq_true (decide (v1 < (a0.Presses.length : Int))) with hb2 | hb2
  ·replace hM := ifT hM hb2
   refine w_condT (e := (decide (v1 < (a0.Presses.length : Int)))) rfl hb2 ?_
   refine r_skip ?_
   refine w_next [(1, .sl .no 3 (a1.map WireFault.cells)), (2, .ep (Wire.cells a0)), (5, .i v1)] (.k (.k (.k .nil))) ?_
   refine r_seq ?_
   refine r_block ?_
   refine r_seq ?_
   refine r_region (n := 7) rfl ?_
   refine o_fieldE (cs := (Wire.cells a0)) (by decide) ty_fo24_2 rfl ?_
   refine o_loadE (v := .sl .no 3 (a0.Presses.map WirePress.cells)) (by decide) rfl (part_one ty_agg22 ty_sc22 rfl) ?_
   refine o_move (v := .i v1) (by decide) rfl ?_
   obtain ⟨x3, hx3, hM⟩ := bindE hM
   refine o_index (xs := a0.Presses) (f := WirePress.cells) (z := v1) (u := x3) (by decide) rfl rfl ty_es22 hx3 ?_
   refine o_loadE (v := .agg [.i x3.Letter, .i x3.Number, .i x3.Got]) (by decide) rfl (part_agg ty_agg50 (Nat.le_of_ble_eq_true rfl) rfl) ?_
   refine o_alloc hS (by decide) ty_zero50 (by omega) fun H hS => ?_
   refine o_store (v := .agg [.i x3.Letter, .i x3.Number, .i x3.Got]) (ns := [.i x3.Letter, .i x3.Number, .i x3.Got]) (L' := [(g2 + 5 + 5, .cells [.i x3.Letter, .i x3.Number, .i x3.Got])]) 0 hS rfl rfl .no rfl rfl ty_var50 (Nat.le_of_ble_eq_true rfl) rfl fun H hS => ?_
   refine run_nil ?_
   refine w_iceE (L' := []) 0 6 hS rfl rfl rfl fun H hS => ?_
   refine w_next [(1, .sl .no 3 (a1.map WireFault.cells)), (2, .ep (Wire.cells a0)), (5, .i v1), (6, .ep [.i x3.Letter, .i x3.Number, .i x3.Got])] (.k (.k (.k (.k .nil)))) ?_
   refine r_seq ?_
   have hS0 := hS
   refine r_draw (n := 10) rfl (by kernel_rfl) ?_
   refine o_loadE (v := .agg (Wire.cells a0)) (by decide) rfl (part_agg ty_agg24 (Nat.le_of_ble_eq_true rfl) rfl) ?_
   refine o_move (v := .sl .no 3 (a1.map WireFault.cells)) (by decide) rfl ?_
   refine o_fieldE (cs := [.i x3.Letter, .i x3.Number, .i x3.Got]) (by decide) ty_fo50_0 rfl ?_
   refine o_loadE (v := .i x3.Letter) (by decide) rfl (part_one ty_agg3 ty_sc3 rfl) ?_
   refine o_fieldE (cs := [.i x3.Letter, .i x3.Number, .i x3.Got]) (by decide) ty_fo50_1 rfl ?_
   refine o_loadE (v := .i x3.Number) (by decide) rfl (part_one ty_agg3 ty_sc3 rfl) ?_
   obtain ⟨r4, hr4, hM⟩ := bindE hM
   refine o_call (bs := [.agg (Wire.cells a0), .sl .no 3 (a1.map WireFault.cells), .i x3.Letter, .i x3.Number]) (by decide) rfl rfl ((W_ref11_PlaysOf hr4).le (.k (.k (.k (.k .nil))))) ?_
   refine o_fieldE (cs := [.i x3.Letter, .i x3.Number, .i x3.Got]) (by decide) ty_fo50_2 rfl ?_
   refine o_loadE (v := .i x3.Got) (by decide) rfl (part_one ty_agg3 ty_sc3 rfl) ?_
   refine o_int (v := .b (r4 != x3.Got)) (by decide) rfl rfl rfl ?_
   refine run_nil ?_
   refine w_next [(1, .sl .no 3 (a1.map WireFault.cells)), (2, .ep (Wire.cells a0)), (5, .i v1), (28, .b (r4 != x3.Got))] (.k (.k (.k (.k .nil)))) ?_
   rcases Bool.eq_false_or_eq_true (r4 != x3.Got) with hb5 | hb5
   ·replace hM := ifT hM hb5
    refine w_condT (e := (r4 != x3.Got)) rfl hb5 ?_
    refine r_seq ?_
    refine r_region (n := 1) rfl ?_
    refine o_assign (v := .b false) (by decide) rfl ?_
    refine run_nil ?_
    refine w_next [(4, .b false)] (.k .nil) ?_
    refine r_ret ?_
    refine r_blk_ret ?_
    refine r_then_ret ?_
    refine w_round_ret ?_
    refine r_blk_ret ?_
    refine w_goto_ret ?_
    refine w_end (x := .b false) (f := fun r => .b r) (.inr rfl) ?_ (.refl _) (Option.some.inj hM) hS
    exact (res_one (res_tmp (x := .b false) rfl))
   ·replace hM := ifF hM hb5
    refine w_condF (e := (r4 != x3.Got)) rfl hb5 ?_
    refine r_skip ?_
    refine r_blk_normal ?_
    refine w_next [(1, .sl .no 3 (a1.map WireFault.cells)), (2, .ep (Wire.cells a0)), (5, .i v1)] (.k (.k (.k .nil))) ?_
    refine r_region (n := 3) rfl ?_
    refine o_move (v := .i v1) (by decide) rfl ?_
    refine o_int (v := .i (w64 (v1 + 1))) (by decide) rfl rfl rfl ?_
    refine o_assign (v := .i (w64 (v1 + 1))) (by decide) rfl ?_
    refine run_nil ?_
    exact w_round (w64 (v1 + 1)) (Nat.lt_succ_self _) (.k (.k (.k .nil))) ⟨(hS.keep [] rfl).up (by omega), hM⟩
  ·replace hM := ifF hM hb2
   refine w_condF (e := (decide (v1 < (a0.Presses.length : Int)))) rfl hb2 ?_
   refine r_exit ?_
   refine r_then_exit ?_
   refine w_round_exit ?_
   refine r_blk_exit ?_
   exact w_goto () .nil ⟨(hS.keep [] rfl).up (by omega), hM⟩
theorem W_ref11_clash {a0 : WireFault} {a1 : WireFault} {r : Bool} (hM : ref11_clash a0 a1 = some r) : PureSat Try.prog 96 [.agg (WireFault.cells a0), .agg (WireFault.cells a1)] (.b r) := by
 refine pure_of_wp mixed Try.func96 rfl (by decide) Try.ntmps96 (by simp) ?pure fun H0 g hf => ?_
 case pure => exact .v _
 rw [frame0_of]
 change wpA _ _ _ _ (Fr.of [(0, .agg (WireFault.cells a0)), (1, .agg (WireFault.cells a1))]) H0 g
 have hS := St.start hf
 refine r_seq ?_
 refine r_region (n := 3) rfl ?_
 refine o_box (v := .agg (WireFault.cells a0)) (cs := (WireFault.cells a0)) hS (by decide) rfl rfl (by omega) fun H hS => ?_
 refine o_box (v := .agg (WireFault.cells a1)) (cs := (WireFault.cells a1)) hS (by decide) rfl rfl (by omega) fun H hS => ?_
 refine o_assign (v := .b false) (by decide) rfl ?_
 refine run_nil ?_
 refine w_iceE (L' := [(g + 1, .cells (WireFault.cells a1))]) 1 2 hS rfl rfl rfl fun H hS => ?_
 refine w_iceE (L' := []) 0 3 hS rfl rfl rfl fun H hS => ?_
 refine w_next [(2, .ep (WireFault.cells a0)), (3, .ep (WireFault.cells a1))] (.k (.k .nil)) ?_
 refine w_join (J := Bool) (fun j => [(4, .b j)]) (fun j H' g' => St (· < g) H0 [] H' g' ∧ ref11_clash_j1 j = some r) ?_ ?_
 ·rintro v1 H g1 ⟨hS, hM⟩
  change wpA _ _ _ _ (Fr.of [(4, .b v1)]) _ _
  replace hS : St (· < g) H0 [] H g1 := hS
  replace hM : ref11_clash_j1 v1 = some r := hM
  refine r_ret ?_
  refine w_end (x := .b v1) (f := fun r => .b r) (.inr rfl) ?_ (.refl _) (Option.some.inj hM) hS
  exact (res_one (res_tmp (x := .b v1) rfl))
 ·refine r_region (n := 39) rfl ?_
  refine o_fieldE (cs := (WireFault.cells a0)) (by decide) ty_fo63_0 rfl ?_
  refine o_loadE (v := .i a0.Kind) (by decide) rfl (part_one ty_agg3 ty_sc3 rfl) ?_
  refine o_fieldE (cs := (WireFault.cells a1)) (by decide) ty_fo63_0 rfl ?_
  refine o_loadE (v := .i a1.Kind) (by decide) rfl (part_one ty_agg3 ty_sc3 rfl) ?_
  refine o_int (v := .b (a0.Kind == a1.Kind)) (by decide) rfl rfl rfl ?_
  refine o_move (v := .b (a0.Kind == a1.Kind)) (by decide) rfl ?_
  rcases Bool.eq_false_or_eq_true (a0.Kind == a1.Kind) with hb2 | hb2
  ·replace hM := ifT hM hb2
   refine o_guardY (j := 5) (e := (a0.Kind == a1.Kind)) (want := true) rfl hb2 ?_
   refine o_fieldE (cs := (WireFault.cells a0)) (by decide) ty_fo63_0 rfl ?_
   refine o_guardY (j := 5) (e := (a0.Kind == a1.Kind)) (want := true) rfl hb2 ?_
   refine o_loadE (v := .i a0.Kind) (by decide) rfl (part_one ty_agg3 ty_sc3 rfl) ?_
   refine o_guardY (j := 5) (e := (a0.Kind == a1.Kind)) (want := true) rfl hb2 ?_
   refine o_int (v := .b (decide (a0.Kind ≥ 3))) (by decide) rfl rfl rfl ?_
   refine o_pickT (v := .b (decide (a0.Kind ≥ 3))) (e := (a0.Kind == a1.Kind)) (by decide) rfl hb2 rfl ?_
   refine o_move (v := .b (decide (a0.Kind ≥ 3))) (by decide) rfl ?_
   rcases Bool.eq_false_or_eq_true (decide (a0.Kind ≥ 3)) with hb3 | hb3
   ·replace hM := ifT hM hb3
    refine o_guardY (j := 10) (e := (decide (a0.Kind ≥ 3))) (want := true) rfl hb3 ?_
    refine o_fieldE (cs := (WireFault.cells a0)) (by decide) ty_fo63_1 rfl ?_
    refine o_guardY (j := 10) (e := (decide (a0.Kind ≥ 3))) (want := true) rfl hb3 ?_
    refine o_loadE (v := .i a0.A) (by decide) rfl (part_one ty_agg3 ty_sc3 rfl) ?_
    refine o_guardY (j := 10) (e := (decide (a0.Kind ≥ 3))) (want := true) rfl hb3 ?_
    refine o_fieldE (cs := (WireFault.cells a1)) (by decide) ty_fo63_1 rfl ?_
    refine o_guardY (j := 10) (e := (decide (a0.Kind ≥ 3))) (want := true) rfl hb3 ?_
    refine o_loadE (v := .i a1.A) (by decide) rfl (part_one ty_agg3 ty_sc3 rfl) ?_
    refine o_guardY (j := 10) (e := (decide (a0.Kind ≥ 3))) (want := true) rfl hb3 ?_
    refine o_int (v := .b (a0.A == a1.A)) (by decide) rfl rfl rfl ?_
    refine o_guardY (j := 10) (e := (decide (a0.Kind ≥ 3))) (want := true) rfl hb3 ?_
    refine o_move (v := .b (a0.A == a1.A)) (by decide) rfl ?_
    rcases Bool.eq_false_or_eq_true (a0.A == a1.A) with hb4 | hb4
    ·replace hM := ifT hM hb4
     refine o_guardN (j := 16) (e := (a0.A == a1.A)) (want := false) (by decide) rfl hb4 ?_
     refine o_guardN (j := 16) (e := (a0.A == a1.A)) (want := false) (by decide) rfl hb4 ?_
     refine o_guardN (j := 16) (e := (a0.A == a1.A)) (want := false) (by decide) rfl hb4 ?_
     refine o_guardN (j := 16) (e := (a0.A == a1.A)) (want := false) (by decide) rfl hb4 ?_
     refine o_guardN (j := 16) (e := (a0.A == a1.A)) (want := false) (by decide) rfl hb4 ?_
     refine o_guardY (j := 10) (e := (decide (a0.Kind ≥ 3))) (want := true) rfl hb3 ?_
     refine o_pickT (v := .b true) (e := (a0.A == a1.A)) (by decide) rfl hb4 rfl ?_
     refine o_guardY (j := 10) (e := (decide (a0.Kind ≥ 3))) (want := true) rfl hb3 ?_
     refine o_move (v := .b true) (by decide) rfl ?_
     refine o_guardN (j := 23) (e := true) (want := false) (by decide) rfl rfl ?_
     refine o_guardN (j := 23) (e := true) (want := false) (by decide) rfl rfl ?_
     refine o_guardN (j := 23) (e := true) (want := false) (by decide) rfl rfl ?_
     refine o_guardN (j := 23) (e := true) (want := false) (by decide) rfl rfl ?_
     refine o_guardN (j := 23) (e := true) (want := false) (by decide) rfl rfl ?_
     refine o_guardY (j := 10) (e := (decide (a0.Kind ≥ 3))) (want := true) rfl hb3 ?_
     refine o_pickT (v := .b true) (e := true) (by decide) rfl rfl rfl ?_
     refine o_guardY (j := 10) (e := (decide (a0.Kind ≥ 3))) (want := true) rfl hb3 ?_
     refine o_move (v := .b true) (by decide) rfl ?_
     refine o_guardN (j := 30) (e := true) (want := false) (by decide) rfl rfl ?_
     refine o_guardN (j := 30) (e := true) (want := false) (by decide) rfl rfl ?_
     refine o_guardN (j := 30) (e := true) (want := false) (by decide) rfl rfl ?_
     refine o_guardN (j := 30) (e := true) (want := false) (by decide) rfl rfl ?_
     refine o_guardN (j := 30) (e := true) (want := false) (by decide) rfl rfl ?_
     refine o_guardY (j := 10) (e := (decide (a0.Kind ≥ 3))) (want := true) rfl hb3 ?_
     refine o_pickT (v := .b true) (e := true) (by decide) rfl rfl rfl ?_
     refine o_pickT (v := .b true) (e := (decide (a0.Kind ≥ 3))) (by decide) rfl hb3 rfl ?_
     refine o_assign (v := .b true) (by decide) rfl ?_
     refine run_nil ?_
     exact w_goto true (.k .nil) ⟨(hS.keep [] rfl).up (by omega), hM⟩
    ·replace hM := ifF hM hb4
     refine o_guardY (j := 16) (e := (a0.A == a1.A)) (want := false) rfl hb4 ?_
     refine o_fieldE (cs := (WireFault.cells a0)) (by decide) ty_fo63_1 rfl ?_
     refine o_guardY (j := 16) (e := (a0.A == a1.A)) (want := false) rfl hb4 ?_
     refine o_loadE (v := .i a0.A) (by decide) rfl (part_one ty_agg3 ty_sc3 rfl) ?_
     refine o_guardY (j := 16) (e := (a0.A == a1.A)) (want := false) rfl hb4 ?_
     refine o_fieldE (cs := (WireFault.cells a1)) (by decide) ty_fo63_2 rfl ?_
     refine o_guardY (j := 16) (e := (a0.A == a1.A)) (want := false) rfl hb4 ?_
     refine o_loadE (v := .i a1.B) (by decide) rfl (part_one ty_agg3 ty_sc3 rfl) ?_
     refine o_guardY (j := 16) (e := (a0.A == a1.A)) (want := false) rfl hb4 ?_
     refine o_int (v := .b (a0.A == a1.B)) (by decide) rfl rfl rfl ?_
     refine o_guardY (j := 10) (e := (decide (a0.Kind ≥ 3))) (want := true) rfl hb3 ?_
     refine o_pickF (v := .b (a0.A == a1.B)) (e := (a0.A == a1.A)) (by decide) rfl hb4 rfl ?_
     refine o_guardY (j := 10) (e := (decide (a0.Kind ≥ 3))) (want := true) rfl hb3 ?_
     refine o_move (v := .b (a0.A == a1.B)) (by decide) rfl ?_
     rcases Bool.eq_false_or_eq_true (a0.A == a1.B) with hb5 | hb5
     ·replace hM := ifT hM hb5
      refine o_guardN (j := 23) (e := (a0.A == a1.B)) (want := false) (by decide) rfl hb5 ?_
      refine o_guardN (j := 23) (e := (a0.A == a1.B)) (want := false) (by decide) rfl hb5 ?_
      refine o_guardN (j := 23) (e := (a0.A == a1.B)) (want := false) (by decide) rfl hb5 ?_
      refine o_guardN (j := 23) (e := (a0.A == a1.B)) (want := false) (by decide) rfl hb5 ?_
      refine o_guardN (j := 23) (e := (a0.A == a1.B)) (want := false) (by decide) rfl hb5 ?_
      refine o_guardY (j := 10) (e := (decide (a0.Kind ≥ 3))) (want := true) rfl hb3 ?_
      refine o_pickT (v := .b true) (e := (a0.A == a1.B)) (by decide) rfl hb5 rfl ?_
      refine o_guardY (j := 10) (e := (decide (a0.Kind ≥ 3))) (want := true) rfl hb3 ?_
      refine o_move (v := .b true) (by decide) rfl ?_
      refine o_guardN (j := 30) (e := true) (want := false) (by decide) rfl rfl ?_
      refine o_guardN (j := 30) (e := true) (want := false) (by decide) rfl rfl ?_
      refine o_guardN (j := 30) (e := true) (want := false) (by decide) rfl rfl ?_
      refine o_guardN (j := 30) (e := true) (want := false) (by decide) rfl rfl ?_
      refine o_guardN (j := 30) (e := true) (want := false) (by decide) rfl rfl ?_
      refine o_guardY (j := 10) (e := (decide (a0.Kind ≥ 3))) (want := true) rfl hb3 ?_
      refine o_pickT (v := .b true) (e := true) (by decide) rfl rfl rfl ?_
      refine o_pickT (v := .b true) (e := (decide (a0.Kind ≥ 3))) (by decide) rfl hb3 rfl ?_
      refine o_assign (v := .b true) (by decide) rfl ?_
      refine run_nil ?_
      exact w_goto true (.k .nil) ⟨(hS.keep [] rfl).up (by omega), hM⟩
     ·replace hM := ifF hM hb5
      refine o_guardY (j := 23) (e := (a0.A == a1.B)) (want := false) rfl hb5 ?_
      refine o_fieldE (cs := (WireFault.cells a0)) (by decide) ty_fo63_2 rfl ?_
      refine o_guardY (j := 23) (e := (a0.A == a1.B)) (want := false) rfl hb5 ?_
      refine o_loadE (v := .i a0.B) (by decide) rfl (part_one ty_agg3 ty_sc3 rfl) ?_
      refine o_guardY (j := 23) (e := (a0.A == a1.B)) (want := false) rfl hb5 ?_
      refine o_fieldE (cs := (WireFault.cells a1)) (by decide) ty_fo63_1 rfl ?_
      refine o_guardY (j := 23) (e := (a0.A == a1.B)) (want := false) rfl hb5 ?_
      refine o_loadE (v := .i a1.A) (by decide) rfl (part_one ty_agg3 ty_sc3 rfl) ?_
      refine o_guardY (j := 23) (e := (a0.A == a1.B)) (want := false) rfl hb5 ?_
      refine o_int (v := .b (a0.B == a1.A)) (by decide) rfl rfl rfl ?_
      refine o_guardY (j := 10) (e := (decide (a0.Kind ≥ 3))) (want := true) rfl hb3 ?_
      refine o_pickF (v := .b (a0.B == a1.A)) (e := (a0.A == a1.B)) (by decide) rfl hb5 rfl ?_
      refine o_guardY (j := 10) (e := (decide (a0.Kind ≥ 3))) (want := true) rfl hb3 ?_
      refine o_move (v := .b (a0.B == a1.A)) (by decide) rfl ?_
      rcases Bool.eq_false_or_eq_true (a0.B == a1.A) with hb6 | hb6
      ·replace hM := ifT hM hb6
       refine o_guardN (j := 30) (e := (a0.B == a1.A)) (want := false) (by decide) rfl hb6 ?_
       refine o_guardN (j := 30) (e := (a0.B == a1.A)) (want := false) (by decide) rfl hb6 ?_
       refine o_guardN (j := 30) (e := (a0.B == a1.A)) (want := false) (by decide) rfl hb6 ?_
       refine o_guardN (j := 30) (e := (a0.B == a1.A)) (want := false) (by decide) rfl hb6 ?_
       refine o_guardN (j := 30) (e := (a0.B == a1.A)) (want := false) (by decide) rfl hb6 ?_
       refine o_guardY (j := 10) (e := (decide (a0.Kind ≥ 3))) (want := true) rfl hb3 ?_
       refine o_pickT (v := .b true) (e := (a0.B == a1.A)) (by decide) rfl hb6 rfl ?_
       refine o_pickT (v := .b true) (e := (decide (a0.Kind ≥ 3))) (by decide) rfl hb3 rfl ?_
       refine o_assign (v := .b true) (by decide) rfl ?_
       refine run_nil ?_
       exact w_goto true (.k .nil) ⟨(hS.keep [] rfl).up (by omega), hM⟩
      ·replace hM := ifF hM hb6
       refine o_guardY (j := 30) (e := (a0.B == a1.A)) (want := false) rfl hb6 ?_
       refine o_fieldE (cs := (WireFault.cells a0)) (by decide) ty_fo63_2 rfl ?_
       refine o_guardY (j := 30) (e := (a0.B == a1.A)) (want := false) rfl hb6 ?_
       refine o_loadE (v := .i a0.B) (by decide) rfl (part_one ty_agg3 ty_sc3 rfl) ?_
       refine o_guardY (j := 30) (e := (a0.B == a1.A)) (want := false) rfl hb6 ?_
       refine o_fieldE (cs := (WireFault.cells a1)) (by decide) ty_fo63_2 rfl ?_
       refine o_guardY (j := 30) (e := (a0.B == a1.A)) (want := false) rfl hb6 ?_
       refine o_loadE (v := .i a1.B) (by decide) rfl (part_one ty_agg3 ty_sc3 rfl) ?_
       refine o_guardY (j := 30) (e := (a0.B == a1.A)) (want := false) rfl hb6 ?_
       refine o_int (v := .b (a0.B == a1.B)) (by decide) rfl rfl rfl ?_
       refine o_guardY (j := 10) (e := (decide (a0.Kind ≥ 3))) (want := true) rfl hb3 ?_
       refine o_pickF (v := .b (a0.B == a1.B)) (e := (a0.B == a1.A)) (by decide) rfl hb6 rfl ?_
       refine o_pickT (v := .b (a0.B == a1.B)) (e := (decide (a0.Kind ≥ 3))) (by decide) rfl hb3 rfl ?_
       refine o_assign (v := .b (a0.B == a1.B)) (by decide) rfl ?_
       refine run_nil ?_
       exact w_goto (a0.B == a1.B) (.k .nil) ⟨(hS.keep [] rfl).up (by omega), hM⟩
   ·replace hM := ifF hM hb3
    refine o_guardN (j := 10) (e := (decide (a0.Kind ≥ 3))) (want := true) (by decide) rfl hb3 ?_
    refine o_guardN (j := 10) (e := (decide (a0.Kind ≥ 3))) (want := true) (by decide) rfl hb3 ?_
    refine o_guardN (j := 10) (e := (decide (a0.Kind ≥ 3))) (want := true) (by decide) rfl hb3 ?_
    refine o_guardN (j := 10) (e := (decide (a0.Kind ≥ 3))) (want := true) (by decide) rfl hb3 ?_
    refine o_guardN (j := 10) (e := (decide (a0.Kind ≥ 3))) (want := true) (by decide) rfl hb3 ?_
    refine o_guardN (j := 10) (e := (decide (a0.Kind ≥ 3))) (want := true) (by decide) rfl hb3 ?_
    refine o_guardU (j := 16) (by decide) rfl ?_
    refine o_guardU (j := 16) (by decide) rfl ?_
    refine o_guardU (j := 16) (by decide) rfl ?_
    refine o_guardU (j := 16) (by decide) rfl ?_
    refine o_guardU (j := 16) (by decide) rfl ?_
    refine o_guardN (j := 10) (e := (decide (a0.Kind ≥ 3))) (want := true) (by decide) rfl hb3 ?_
    refine o_guardN (j := 10) (e := (decide (a0.Kind ≥ 3))) (want := true) (by decide) rfl hb3 ?_
    refine o_guardU (j := 23) (by decide) rfl ?_
    refine o_guardU (j := 23) (by decide) rfl ?_
    refine o_guardU (j := 23) (by decide) rfl ?_
    refine o_guardU (j := 23) (by decide) rfl ?_
    refine o_guardU (j := 23) (by decide) rfl ?_
    refine o_guardN (j := 10) (e := (decide (a0.Kind ≥ 3))) (want := true) (by decide) rfl hb3 ?_
    refine o_guardN (j := 10) (e := (decide (a0.Kind ≥ 3))) (want := true) (by decide) rfl hb3 ?_
    refine o_guardU (j := 30) (by decide) rfl ?_
    refine o_guardU (j := 30) (by decide) rfl ?_
    refine o_guardU (j := 30) (by decide) rfl ?_
    refine o_guardU (j := 30) (by decide) rfl ?_
    refine o_guardU (j := 30) (by decide) rfl ?_
    refine o_guardN (j := 10) (e := (decide (a0.Kind ≥ 3))) (want := true) (by decide) rfl hb3 ?_
    refine o_pickF (v := .b false) (e := (decide (a0.Kind ≥ 3))) (by decide) rfl hb3 rfl ?_
    refine o_assign (v := .b false) (by decide) rfl ?_
    refine run_nil ?_
    exact w_goto false (.k .nil) ⟨(hS.keep [] rfl).up (by omega), hM⟩
  ·replace hM := ifF hM hb2
   refine o_guardN (j := 5) (e := (a0.Kind == a1.Kind)) (want := true) (by decide) rfl hb2 ?_
   refine o_guardN (j := 5) (e := (a0.Kind == a1.Kind)) (want := true) (by decide) rfl hb2 ?_
   refine o_guardN (j := 5) (e := (a0.Kind == a1.Kind)) (want := true) (by decide) rfl hb2 ?_
   refine o_pickF (v := .b false) (e := (a0.Kind == a1.Kind)) (by decide) rfl hb2 rfl ?_
   refine o_move (v := .b false) (by decide) rfl ?_
   refine o_guardN (j := 10) (e := false) (want := true) (by decide) rfl rfl ?_
   refine o_guardN (j := 10) (e := false) (want := true) (by decide) rfl rfl ?_
   refine o_guardN (j := 10) (e := false) (want := true) (by decide) rfl rfl ?_
   refine o_guardN (j := 10) (e := false) (want := true) (by decide) rfl rfl ?_
   refine o_guardN (j := 10) (e := false) (want := true) (by decide) rfl rfl ?_
   refine o_guardN (j := 10) (e := false) (want := true) (by decide) rfl rfl ?_
   refine o_guardU (j := 16) (by decide) rfl ?_
   refine o_guardU (j := 16) (by decide) rfl ?_
   refine o_guardU (j := 16) (by decide) rfl ?_
   refine o_guardU (j := 16) (by decide) rfl ?_
   refine o_guardU (j := 16) (by decide) rfl ?_
   refine o_guardN (j := 10) (e := false) (want := true) (by decide) rfl rfl ?_
   refine o_guardN (j := 10) (e := false) (want := true) (by decide) rfl rfl ?_
   refine o_guardU (j := 23) (by decide) rfl ?_
   refine o_guardU (j := 23) (by decide) rfl ?_
   refine o_guardU (j := 23) (by decide) rfl ?_
   refine o_guardU (j := 23) (by decide) rfl ?_
   refine o_guardU (j := 23) (by decide) rfl ?_
   refine o_guardN (j := 10) (e := false) (want := true) (by decide) rfl rfl ?_
   refine o_guardN (j := 10) (e := false) (want := true) (by decide) rfl rfl ?_
   refine o_guardU (j := 30) (by decide) rfl ?_
   refine o_guardU (j := 30) (by decide) rfl ?_
   refine o_guardU (j := 30) (by decide) rfl ?_
   refine o_guardU (j := 30) (by decide) rfl ?_
   refine o_guardU (j := 30) (by decide) rfl ?_
   refine o_guardN (j := 10) (e := false) (want := true) (by decide) rfl rfl ?_
   refine o_pickF (v := .b false) (e := false) (by decide) rfl rfl rfl ?_
   refine o_assign (v := .b false) (by decide) rfl ?_
   refine run_nil ?_
   exact w_goto false (.k .nil) ⟨(hS.keep [] rfl).up (by omega), hM⟩
theorem W_ref11_sets_b {n : Nat} {rec : (List WireFault) → (List WireFault) → Int → Int → Option ((List (List WireFault)))} (hrec : ∀ {a0 : List WireFault} {a1 : List WireFault} {a2 : Int} {a3 : Int} {r : (List (List WireFault))}, rec a0 a1 a2 a3 = some r → PureSat Try.prog 101 [.sl .no 3 (a0.map WireFault.cells), .sl .no 3 (a1.map WireFault.cells), .i a2, .i a3] (.sl .no 1 (r.map (cL 3 WireFault.cells)))) {a0 : List WireFault} {a1 : List WireFault} {a2 : Int} {a3 : Int} {r : (List (List WireFault))} (hM : ref11_sets_b n rec a0 a1 a2 a3 = some r) : PureSat Try.prog 101 [.sl .no 3 (a0.map WireFault.cells), .sl .no 3 (a1.map WireFault.cells), .i a2, .i a3] (.sl .no 1 (r.map (cL 3 WireFault.cells))) := by
 refine pure_of_wp mixed Try.func101 rfl (by decide) Try.ntmps101 (by simp) ?pure fun H0 g hf => ?_
 case pure => exact .sl _ _ (pures_map (fun x => (pl_cons (.sl _ _ (pures_map (fun x => (pl_cons (.v _) (pl_cons (.v _) (pl_cons (.v _) pl_nil)))))) pl_nil)))
 rw [frame0_of]
 change wpA _ _ _ _ (Fr.of [(0, .sl .no 3 (a0.map WireFault.cells)), (1, .sl .no 3 (a1.map WireFault.cells)), (2, .i a2), (3, .i a3)]) H0 g
 have hS := St.start hf
 refine r_seq ?_
 refine r_region (n := 1) rfl ?_
 refine o_assign (v := .sl .nil 0 []) (by decide) rfl ?_
 refine run_nil ?_
 refine w_next [(0, .sl .no 3 (a0.map WireFault.cells)), (1, .sl .no 3 (a1.map WireFault.cells)), (2, .i a2), (3, .i a3)] (.k (.k (.k (.k .nil)))) ?_
 refine r_seq ?_
 refine r_region (n := 3) rfl ?_
 refine o_move (v := .sl .no 3 (a1.map WireFault.cells)) (by decide) rfl ?_
 refine o_buildSlice (es := [[.sl .no 3 (a1.map WireFault.cells)]]) hS (by decide) ty_es68 ty_el68 rfl ty_ef68 rfl (by decide) (by omega) fun H hS => ?_
 refine o_assign (v := .sl (.id (g + 1 + 1)) 1 (([a1] : List (List WireFault)).map (cL 3 WireFault.cells))) (by decide) rfl ?_
 refine run_nil ?_
 refine w_next [(0, .sl .no 3 (a0.map WireFault.cells)), (1, .sl .no 3 (a1.map WireFault.cells)), (2, .i a2), (3, .i a3), (9, .sl (.id (g + 1 + 1)) 1 (([a1] : List (List WireFault)).map (cL 3 WireFault.cells)))] (.k (.k (.k (.k (.k .nil))))) ?_
 refine w_join (J := (List (List WireFault))) (fun j => [(9, .sl (.id (g + 1 + 1)) 1 (j.map (cL 3 WireFault.cells)))]) (fun j H' g' => St (· < g) H0 [(g + 1 + 1, .row 31 j.length)] H' g' ∧ ref11_sets_j1 j = some r) ?_ ?_
 ·rintro v1 H g1 ⟨hS, hM⟩
  change wpA _ _ _ _ (Fr.of [(9, .sl (.id (g + 1 + 1)) 1 (v1.map (cL 3 WireFault.cells)))]) _ _
  replace hS : St (· < g) H0 [(g + 1 + 1, .row 31 v1.length)] H g1 := hS
  replace hM : ref11_sets_j1 v1 = some r := hM
  refine r_seq ?_
  refine r_region (n := 2) rfl ?_
  refine o_move (v := .sl (.id (g + 1 + 1)) 1 (v1.map (cL 3 WireFault.cells))) (by decide) rfl ?_
  refine o_assign (v := .sl (.id (g + 1 + 1)) 1 (v1.map (cL 3 WireFault.cells))) (by decide) rfl ?_
  refine run_nil ?_
  refine w_next [(8, .sl (.id (g + 1 + 1)) 1 (v1.map (cL 3 WireFault.cells)))] (.k .nil) ?_
  refine r_ret ?_
  refine w_end (x := .sl (.id (g + 1 + 1)) 1 (v1.map (cL 3 WireFault.cells))) (f := fun r => .sl .no 1 (r.map (cL 3 WireFault.cells))) (.inr rfl) ?_ (.sl _ _ _) (Option.some.inj hM) hS
  exact (res_one (res_tmp (x := .sl (.id (g + 1 + 1)) 1 (v1.map (cL 3 WireFault.cells))) rfl))
 ·refine r_seq ?_
  refine r_region (n := 2) rfl ?_
  refine o_move (v := .i a2) (by decide) rfl ?_
  refine o_assign (v := .i a2) (by decide) rfl ?_
  refine run_nil ?_
  refine w_next [(0, .sl .no 3 (a0.map WireFault.cells)), (1, .sl .no 3 (a1.map WireFault.cells)), (3, .i a3), (9, .sl (.id (g + 1 + 1)) 1 (([a1] : List (List WireFault)).map (cL 3 WireFault.cells))), (10, .i a2)] (.k (.k (.k (.k (.k .nil))))) ?_
  refine r_block ?_
  refine w_loop (V := (List (List WireFault)) × Int) (fun v => [(0, .sl .no 3 (a0.map WireFault.cells)), (1, .sl .no 3 (a1.map WireFault.cells)), (3, .i a3), (9, .sl (.id (g + 1 + 1)) 1 (v.1.map (cL 3 WireFault.cells))), (10, .i v.2)]) (fun v m2 H' g' => St (· < g) H0 [(g + 1 + 1, .row 31 v.1.length)] H' g' ∧ ref11_sets_l1 n rec a0 a1 a3 m2 v.1 v.2 = some r) (n := n) (([a1] : List (List WireFault)), a2) (.k (.k (.k (.k (.k .nil))))) ⟨(hS.keep [true] rfl).up (by omega), hM⟩ ?_
  rintro ⟨v2, v3⟩ m2 H g2 ⟨hS, hM⟩
  obtain _ | m2 := m2
  ·exact nomatch (show none = some _ from hM)
  change wpA _ _ _ _ (Fr.of [(0, .sl .no 3 (a0.map WireFault.cells)), (1, .sl .no 3 (a1.map WireFault.cells)), (3, .i a3), (9, .sl (.id (g + 1 + 1)) 1 (v2.map (cL 3 WireFault.cells))), (10, .i v3)]) _ _
  replace hS : St (· < g) H0 [(g + 1 + 1, .row 31 v2.length)] H g2 := hS
  replace hM : ref11_sets_l1_b n rec a0 a1 a3 (ref11_sets_l1 n rec a0 a1 a3 m2) v2 v3 = some r := hM
  refine r_seq ?_
  refine w_join (J := Bool) (fun j => [(0, .sl .no 3 (a0.map WireFault.cells)), (1, .sl .no 3 (a1.map WireFault.cells)), (3, .i a3), (9, .sl (.id (g + 1 + 1)) 1 (v2.map (cL 3 WireFault.cells))), (10, .i v3), (23, .b j)]) (fun j H' g' => St (· < g) H0 [(g + 1 + 1, .row 31 v2.length)] H' g' ∧ ref11_sets_j2 n rec (ref11_sets_l1 n rec a0 a1 a3 m2) a0 a1 a3 v2 v3 j = some r) ?_ ?_
  ·rintro v4 H g3 ⟨hS, hM⟩
   change wpA _ _ _ _ (Fr.of [(0, .sl .no 3 (a0.map WireFault.cells)), (1, .sl .no 3 (a1.map WireFault.cells)), (3, .i a3), (9, .sl (.id (g + 1 + 1)) 1 (v2.map (cL 3 WireFault.cells))), (10, .i v3), (23, .b v4)]) _ _
   replace hS : St (· < g) H0 [(g + 1 + 1, .row 31 v2.length)] H g3 := hS
   replace hM : ref11_sets_j2 n rec (ref11_sets_l1 n rec a0 a1 a3 m2) a0 a1 a3 v2 v3 v4 = some r := hM
   rcases Bool.eq_false_or_eq_true v4 with hb5 | hb5
   ·replace hM := ifT hM hb5
    refine w_condT (e := v4) rfl hb5 ?_
    refine r_skip ?_
    refine w_next [(0, .sl .no 3 (a0.map WireFault.cells)), (1, .sl .no 3 (a1.map WireFault.cells)), (3, .i a3), (9, .sl (.id (g + 1 + 1)) 1 (v2.map (cL 3 WireFault.cells))), (10, .i v3)] (.k (.k (.k (.k (.k .nil))))) ?_
    refine w_join (J := (List (List WireFault))) (fun j => [(0, .sl .no 3 (a0.map WireFault.cells)), (1, .sl .no 3 (a1.map WireFault.cells)), (3, .i a3), (9, .sl (.id (g + 1 + 1)) 1 (j.map (cL 3 WireFault.cells))), (10, .i v3)]) (fun j H' g' => St (· < g) H0 [(g + 1 + 1, .row 31 j.length)] H' g' ∧ ref11_sets_j3 (ref11_sets_l1 n rec a0 a1 a3 m2) v3 j = some r) ?_ ?_
    ·rintro v6 H g4 ⟨hS, hM⟩
     change wpA _ _ _ _ (Fr.of [(0, .sl .no 3 (a0.map WireFault.cells)), (1, .sl .no 3 (a1.map WireFault.cells)), (3, .i a3), (9, .sl (.id (g + 1 + 1)) 1 (v6.map (cL 3 WireFault.cells))), (10, .i v3)]) _ _
     replace hS : St (· < g) H0 [(g + 1 + 1, .row 31 v6.length)] H g4 := hS
     replace hM : ref11_sets_j3 (ref11_sets_l1 n rec a0 a1 a3 m2) v3 v6 = some r := hM
     refine r_region (n := 3) rfl ?_
     refine o_move (v := .i v3) (by decide) rfl ?_
     refine o_int (v := .i (w64 (v3 + 1))) (by decide) rfl rfl rfl ?_
     refine o_assign (v := .i (w64 (v3 + 1))) (by decide) rfl ?_
     refine run_nil ?_
     exact w_round (v6, w64 (v3 + 1)) (Nat.lt_succ_self _) (.k (.k (.k (.k (.k .nil))))) ⟨(hS.keep [true] rfl).up (by omega), hM⟩
    ·refine r_block ?_
     refine r_seq ?_
     refine r_region (n := 1) rfl ?_
     refine o_assign (v := .b true) (by decide) rfl ?_
     refine run_nil ?_
     refine w_next [(0, .sl .no 3 (a0.map WireFault.cells)), (1, .sl .no 3 (a1.map WireFault.cells)), (3, .i a3), (9, .sl (.id (g + 1 + 1)) 1 (v2.map (cL 3 WireFault.cells))), (10, .i v3), (11, .b true)] (.k (.k (.k (.k (.k (.k .nil)))))) ?_
     refine w_join (J := Bool) (fun j => [(0, .sl .no 3 (a0.map WireFault.cells)), (1, .sl .no 3 (a1.map WireFault.cells)), (3, .i a3), (9, .sl (.id (g + 1 + 1)) 1 (v2.map (cL 3 WireFault.cells))), (10, .i v3), (11, .b j)]) (fun j H' g' => St (· < g) H0 [(g + 1 + 1, .row 31 v2.length)] H' g' ∧ ref11_sets_j4 rec (ref11_sets_l1 n rec a0 a1 a3 m2) a0 a1 a3 v2 v3 j = some r) ?_ ?_
     ·rintro v7 H g5 ⟨hS, hM⟩
      change wpA _ _ _ _ (Fr.of [(0, .sl .no 3 (a0.map WireFault.cells)), (1, .sl .no 3 (a1.map WireFault.cells)), (3, .i a3), (9, .sl (.id (g + 1 + 1)) 1 (v2.map (cL 3 WireFault.cells))), (10, .i v3), (11, .b v7)]) _ _
      replace hS : St (· < g) H0 [(g + 1 + 1, .row 31 v2.length)] H g5 := hS
      replace hM : ref11_sets_j4 rec (ref11_sets_l1 n rec a0 a1 a3 m2) a0 a1 a3 v2 v3 v7 = some r := hM
      refine r_seq ?_
      refine r_region (n := 1) rfl ?_
      refine o_move (v := .b v7) (by decide) rfl ?_
      refine run_nil ?_
      refine w_next [(0, .sl .no 3 (a0.map WireFault.cells)), (1, .sl .no 3 (a1.map WireFault.cells)), (3, .i a3), (9, .sl (.id (g + 1 + 1)) 1 (v2.map (cL 3 WireFault.cells))), (10, .i v3), (45, .b v7)] (.k (.k (.k (.k (.k (.k .nil)))))) ?_
      rcases Bool.eq_false_or_eq_true v7 with hb8 | hb8
      ·replace hM := ifT hM hb8
       refine w_condT (e := v7) rfl hb8 ?_
       have hS0 := hS
       refine r_draw (n := 18) rfl (by kernel_rfl) ?_
       refine o_move (v := .sl (.id (g + 1 + 1)) 1 (v2.map (cL 3 WireFault.cells))) (by decide) rfl ?_
       refine o_move (v := .sl .no 3 (a0.map WireFault.cells)) (by decide) rfl ?_
       refine o_buildSlice (es := []) hS (by decide) ty_es31 ty_el31 rfl ty_ef31 rfl (by decide) (by omega) fun H hS => ?_
       refine o_move (v := .sl .no 3 (a1.map WireFault.cells)) (by decide) rfl ?_
       obtain ⟨l9, hl9, hM⟩ := bindE hM
       refine o_append (xs := ([] : List WireFault)) (ys := a1) (zs := l9) (f := WireFault.cells) (L' := [(g5 + 1 + 2, .row 63 l9.length), (g + 1 + 1, .row 31 v2.length)]) 0 hS (by decide) rfl rfl rfl rfl (.behind (by kernel_rfl)) ty_es31 ty_el31 ty_ef31 hl9 rfl fun H hS => ?_
       refine o_move (v := .sl .no 3 (a0.map WireFault.cells)) (by decide) rfl ?_
       refine o_move (v := .i v3) (by decide) rfl ?_
       obtain ⟨x10, hx10, hM⟩ := bindE hM
       refine o_index (xs := a0) (f := WireFault.cells) (z := v3) (u := x10) (by decide) rfl rfl ty_es31 hx10 ?_
       refine o_loadE (v := .agg (WireFault.cells x10)) (by decide) rfl (part_agg ty_agg63 (Nat.le_of_ble_eq_true rfl) rfl) ?_
       refine o_buildSlice (es := [(WireFault.cells x10)]) hS (by decide) ty_es31 ty_el31 rfl ty_ef31 rfl (by decide) (by omega) fun H hS => ?_
       obtain ⟨l11, hl11, hM⟩ := bindE hM
       refine o_append (xs := l9) (ys := ([x10] : List WireFault)) (zs := l11) (f := WireFault.cells) (L' := [(g5 + 1 + 9, .row 63 1), (g5 + 1 + 2, .row 63 l11.length), (g + 1 + 1, .row 31 v2.length)]) 1 hS (by decide) rfl rfl rfl rfl (.behind (by kernel_rfl)) ty_es31 ty_el31 ty_ef31 hl11 rfl fun H hS => ?_
       refine o_move (v := .i v3) (by decide) rfl ?_
       refine o_int (v := .i (w64 (v3 + 1))) (by decide) rfl rfl rfl ?_
       refine o_move (v := .i a3) (by decide) rfl ?_
       refine o_int (v := .i (w64 (a3 - 1))) (by decide) rfl rfl rfl ?_
       obtain ⟨r12, hr12, hM⟩ := bindE hM
       refine o_call (bs := [.sl .no 3 (a0.map WireFault.cells), .sl (.id (g5 + 1 + 2)) 3 (l11.map WireFault.cells), .i (w64 (v3 + 1)), .i (w64 (a3 - 1))]) (by decide) rfl rfl ((hrec hr12).le (.k (.cons (.sl _ _ _) (.k (.k .nil))))) ?_
       obtain ⟨l13, hl13, hM⟩ := bindE hM
       refine o_append (xs := v2) (ys := r12) (zs := l13) (f := (cL 3 WireFault.cells)) (L' := [(g5 + 1 + 9, .row 63 1), (g5 + 1 + 2, .row 63 l11.length), (g + 1 + 1, .row 31 l13.length)]) 2 hS (by decide) rfl rfl rfl rfl (.st hS0 0 rfl (by omega)) ty_es68 ty_el68 ty_ef68 hl13 rfl fun H hS => ?_
       refine o_assign (v := .sl (.id (g + 1 + 1)) 1 (l13.map (cL 3 WireFault.cells))) (by decide) rfl ?_
       refine run_nil ?_
       refine r_blk_normal ?_
       exact w_goto l13 (.k (.k (.k (.k (.k .nil))))) ⟨(hS.keep [false, false, true] rfl).up (by omega), hM⟩
      ·replace hM := ifF hM hb8
       refine w_condF (e := v7) rfl hb8 ?_
       refine r_skip ?_
       refine r_blk_normal ?_
       exact w_goto v2 (.k (.k (.k (.k (.k .nil))))) ⟨(hS.keep [true] rfl).up (by omega), hM⟩
     ·refine r_seq ?_
      refine r_region (n := 1) rfl ?_
      refine o_assign (v := .i 0) (by decide) rfl ?_
      refine run_nil ?_
      refine w_next [(0, .sl .no 3 (a0.map WireFault.cells)), (1, .sl .no 3 (a1.map WireFault.cells)), (3, .i a3), (9, .sl (.id (g + 1 + 1)) 1 (v2.map (cL 3 WireFault.cells))), (10, .i v3), (11, .b true), (12, .i 0)] (.k (.k (.k (.k (.k (.k (.k .nil))))))) ?_
      refine r_block ?_
      refine w_loop (V := Bool × Int) (fun v => [(0, .sl .no 3 (a0.map WireFault.cells)), (1, .sl .no 3 (a1.map WireFault.cells)), (3, .i a3), (9, .sl (.id (g + 1 + 1)) 1 (v2.map (cL 3 WireFault.cells))), (10, .i v3), (11, .b v.1), (12, .i v.2)]) (fun v m6 H' g' => St (· < g) H0 [(g + 1 + 1, .row 31 v2.length)] H' g' ∧ ref11_sets_l2 rec (ref11_sets_l1 n rec a0 a1 a3 m2) a0 a1 a3 v2 v3 m6 v.1 v.2 = some r) (n := n) (true, 0) (.k (.k (.k (.k (.k (.k (.k .nil))))))) ⟨(hS.keep [true] rfl).up (by omega), hM⟩ ?_
      rintro ⟨v14, v15⟩ m6 H g6 ⟨hS, hM⟩
      obtain _ | m6 := m6
      ·exact nomatch (show none = some _ from hM)
      change wpA _ _ _ _ (Fr.of [(0, .sl .no 3 (a0.map WireFault.cells)), (1, .sl .no 3 (a1.map WireFault.cells)), (3, .i a3), (9, .sl (.id (g + 1 + 1)) 1 (v2.map (cL 3 WireFault.cells))), (10, .i v3), (11, .b v14), (12, .i v15)]) _ _
      replace hS : St (· < g) H0 [(g + 1 + 1, .row 31 v2.length)] H g6 := hS
      replace hM : ref11_sets_l2_b rec (ref11_sets_l1 n rec a0 a1 a3 m2) a0 a1 a3 v2 v3 (ref11_sets_l2 rec (ref11_sets_l1 n rec a0 a1 a3 m2) a0 a1 a3 v2 v3 m6) v14 v15 = some r := hM
      refine r_seq ?_
      refine r_seq ?_
      refine r_region (n := 4) rfl ?_
      refine o_move (v := .i v15) (by decide) rfl ?_
      refine o_move (v := .sl .no 3 (a1.map WireFault.cells)) (by decide) rfl ?_
      refine o_len (n := a1.length) (by decide) rfl (List.length_map _) ty_isl31 ?_
      refine o_int (v := .b (decide (v15 < (a1.length : Int)))) (by decide) rfl rfl rfl ?_
      refine run_nil ?_
      refine w_next [(0, .sl .no 3 (a0.map WireFault.cells)), (1, .sl .no 3 (a1.map WireFault.cells)), (3, .i a3), (9, .sl (.id (g + 1 + 1)) 1 (v2.map (cL 3 WireFault.cells))), (10, .i v3), (11, .b v14), (12, .i v15), (29, .b (decide (v15 < (a1.length : Int))))] (.k (.k (.k (.k (.k (.k (.k (.k .nil)))))))) ?_
      rcases Bool.eq_false_or_eq_true (decide (v15 < (a1.length : Int))) with hb16 | hb16
      ·replace hM := ifT hM hb16
       refine w_condT (e := (decide (v15 < (a1.length : Int)))) rfl hb16 ?_
       refine r_skip ?_
       refine w_next [(0, .sl .no 3 (a0.map WireFault.cells)), (1, .sl .no 3 (a1.map WireFault.cells)), (3, .i a3), (9, .sl (.id (g + 1 + 1)) 1 (v2.map (cL 3 WireFault.cells))), (10, .i v3), (11, .b v14), (12, .i v15)] (.k (.k (.k (.k (.k (.k (.k .nil))))))) ?_
       refine w_join (J := Bool) (fun j => [(0, .sl .no 3 (a0.map WireFault.cells)), (1, .sl .no 3 (a1.map WireFault.cells)), (3, .i a3), (9, .sl (.id (g + 1 + 1)) 1 (v2.map (cL 3 WireFault.cells))), (10, .i v3), (11, .b j), (12, .i v15)]) (fun j H' g' => St (· < g) H0 [(g + 1 + 1, .row 31 v2.length)] H' g' ∧ ref11_sets_j5 (ref11_sets_l2 rec (ref11_sets_l1 n rec a0 a1 a3 m2) a0 a1 a3 v2 v3 m6) v15 j = some r) ?_ ?_
       ·rintro v17 H g7 ⟨hS, hM⟩
        change wpA _ _ _ _ (Fr.of [(0, .sl .no 3 (a0.map WireFault.cells)), (1, .sl .no 3 (a1.map WireFault.cells)), (3, .i a3), (9, .sl (.id (g + 1 + 1)) 1 (v2.map (cL 3 WireFault.cells))), (10, .i v3), (11, .b v17), (12, .i v15)]) _ _
        replace hS : St (· < g) H0 [(g + 1 + 1, .row 31 v2.length)] H g7 := hS
        replace hM : ref11_sets_j5 (ref11_sets_l2 rec (ref11_sets_l1 n rec a0 a1 a3 m2) a0 a1 a3 v2 v3 m6) v15 v17 = some r := hM
        refine r_region (n := 3) rfl ?_
        refine o_move (v := .i v15) (by decide) rfl ?_
        refine o_int (v := .i (w64 (v15 + 1))) (by decide) rfl rfl rfl ?_
        refine o_assign (v := .i (w64 (v15 + 1))) (by decide) rfl ?_
        refine run_nil ?_
        exact w_round (v17, w64 (v15 + 1)) (Nat.lt_succ_self _) (.k (.k (.k (.k (.k (.k (.k .nil))))))) ⟨(hS.keep [true] rfl).up (by omega), hM⟩
       ·refine r_block ?_
        have hS0 := hS
        refine r_draw (n := 14) rfl (by kernel_rfl) ?_
        refine o_move (v := .b v14) (by decide) rfl ?_
        refine o_move (v := .b v14) (by decide) rfl ?_
        rcases Bool.eq_false_or_eq_true v14 with hb18 | hb18
        ·replace hM := ifT hM hb18
         refine o_guardY (j := 1) (e := v14) (want := true) rfl hb18 ?_
         refine o_move (v := .sl .no 3 (a1.map WireFault.cells)) (by decide) rfl ?_
         refine o_guardY (j := 1) (e := v14) (want := true) rfl hb18 ?_
         refine o_move (v := .i v15) (by decide) rfl ?_
         refine o_guardY (j := 1) (e := v14) (want := true) rfl hb18 ?_
         obtain ⟨x19, hx19, hM⟩ := bindE hM
         refine o_index (xs := a1) (f := WireFault.cells) (z := v15) (u := x19) (by decide) rfl rfl ty_es31 hx19 ?_
         refine o_guardY (j := 1) (e := v14) (want := true) rfl hb18 ?_
         refine o_loadE (v := .agg (WireFault.cells x19)) (by decide) rfl (part_agg ty_agg63 (Nat.le_of_ble_eq_true rfl) rfl) ?_
         refine o_guardY (j := 1) (e := v14) (want := true) rfl hb18 ?_
         refine o_move (v := .sl .no 3 (a0.map WireFault.cells)) (by decide) rfl ?_
         refine o_guardY (j := 1) (e := v14) (want := true) rfl hb18 ?_
         refine o_move (v := .i v3) (by decide) rfl ?_
         refine o_guardY (j := 1) (e := v14) (want := true) rfl hb18 ?_
         obtain ⟨x20, hx20, hM⟩ := bindE hM
         refine o_index (xs := a0) (f := WireFault.cells) (z := v3) (u := x20) (by decide) rfl rfl ty_es31 hx20 ?_
         refine o_guardY (j := 1) (e := v14) (want := true) rfl hb18 ?_
         refine o_loadE (v := .agg (WireFault.cells x20)) (by decide) rfl (part_agg ty_agg63 (Nat.le_of_ble_eq_true rfl) rfl) ?_
         refine o_guardY (j := 1) (e := v14) (want := true) rfl hb18 ?_
         obtain ⟨r21, hr21, hM⟩ := bindE hM
         refine o_call (bs := [.agg (WireFault.cells x19), .agg (WireFault.cells x20)]) (by decide) rfl rfl ((W_ref11_clash hr21).le (.k (.k .nil))) ?_
         refine o_guardY (j := 1) (e := v14) (want := true) rfl hb18 ?_
         refine o_not (e := r21) (by decide) rfl ?_
         refine o_pickT (v := .b (!r21)) (e := v14) (by decide) rfl hb18 rfl ?_
         refine o_assign (v := .b (!r21)) (by decide) rfl ?_
         refine run_nil ?_
         refine r_blk_normal ?_
         exact w_goto (!r21) (.k (.k (.k (.k (.k (.k (.k .nil))))))) ⟨(hS.keep [true] rfl).up (by omega), hM⟩
        ·replace hM := ifF hM hb18
         refine o_guardN (j := 1) (e := v14) (want := true) (by decide) rfl hb18 ?_
         refine o_guardN (j := 1) (e := v14) (want := true) (by decide) rfl hb18 ?_
         refine o_guardN (j := 1) (e := v14) (want := true) (by decide) rfl hb18 ?_
         refine o_guardN (j := 1) (e := v14) (want := true) (by decide) rfl hb18 ?_
         refine o_guardN (j := 1) (e := v14) (want := true) (by decide) rfl hb18 ?_
         refine o_guardN (j := 1) (e := v14) (want := true) (by decide) rfl hb18 ?_
         refine o_guardN (j := 1) (e := v14) (want := true) (by decide) rfl hb18 ?_
         refine o_guardN (j := 1) (e := v14) (want := true) (by decide) rfl hb18 ?_
         refine o_guardN (j := 1) (e := v14) (want := true) (by decide) rfl hb18 ?_
         refine o_guardN (j := 1) (e := v14) (want := true) (by decide) rfl hb18 ?_
         refine o_pickF (v := .b false) (e := v14) (by decide) rfl hb18 rfl ?_
         refine o_assign (v := .b false) (by decide) rfl ?_
         refine run_nil ?_
         refine r_blk_normal ?_
         exact w_goto false (.k (.k (.k (.k (.k (.k (.k .nil))))))) ⟨(hS.keep [true] rfl).up (by omega), hM⟩
      ·replace hM := ifF hM hb16
       refine w_condF (e := (decide (v15 < (a1.length : Int)))) rfl hb16 ?_
       refine r_exit ?_
       refine r_then_exit ?_
       refine w_round_exit ?_
       refine r_blk_exit ?_
       exact w_goto v14 (.k (.k (.k (.k (.k (.k .nil)))))) ⟨(hS.keep [true] rfl).up (by omega), hM⟩
   ·replace hM := ifF hM hb5
    refine w_condF (e := v4) rfl hb5 ?_
    refine r_exit ?_
    refine r_then_exit ?_
    refine w_round_exit ?_
    refine r_blk_exit ?_
    exact w_goto v2 (.k .nil) ⟨(hS.keep [true] rfl).up (by omega), hM⟩
  ·refine r_region (n := 8) rfl ?_
   refine o_move (v := .i v3) (by decide) rfl ?_
   refine o_move (v := .sl .no 3 (a0.map WireFault.cells)) (by decide) rfl ?_
   refine o_len (n := a0.length) (by decide) rfl (List.length_map _) ty_isl31 ?_
   refine o_int (v := .b (decide (v3 < (a0.length : Int)))) (by decide) rfl rfl rfl ?_
   refine o_move (v := .b (decide (v3 < (a0.length : Int)))) (by decide) rfl ?_
   rcases Bool.eq_false_or_eq_true (decide (v3 < (a0.length : Int))) with hb22 | hb22
   ·replace hM := ifT hM hb22
    refine o_guardY (j := 4) (e := (decide (v3 < (a0.length : Int)))) (want := true) rfl hb22 ?_
    refine o_move (v := .i a3) (by decide) rfl ?_
    refine o_guardY (j := 4) (e := (decide (v3 < (a0.length : Int)))) (want := true) rfl hb22 ?_
    refine o_int (v := .b (decide (a3 > 0))) (by decide) rfl rfl rfl ?_
    refine o_pickT (v := .b (decide (a3 > 0))) (e := (decide (v3 < (a0.length : Int)))) (by decide) rfl hb22 rfl ?_
    refine run_nil ?_
    exact w_goto (decide (a3 > 0)) (.k (.k (.k (.k (.k (.k .nil)))))) ⟨(hS.keep [true] rfl).up (by omega), hM⟩
   ·replace hM := ifF hM hb22
    refine o_guardN (j := 4) (e := (decide (v3 < (a0.length : Int)))) (want := true) (by decide) rfl hb22 ?_
    refine o_guardN (j := 4) (e := (decide (v3 < (a0.length : Int)))) (want := true) (by decide) rfl hb22 ?_
    refine o_pickF (v := .b false) (e := (decide (v3 < (a0.length : Int)))) (by decide) rfl hb22 rfl ?_
    refine run_nil ?_
    exact w_goto false (.k (.k (.k (.k (.k (.k .nil)))))) ⟨(hS.keep [true] rfl).up (by omega), hM⟩
theorem W_ref11_sets : ∀ {n : Nat} {a0 : List WireFault} {a1 : List WireFault} {a2 : Int} {a3 : Int} {r : (List (List WireFault))}, ref11_sets n a0 a1 a2 a3 = some r → PureSat Try.prog 101 [.sl .no 3 (a0.map WireFault.cells), .sl .no 3 (a1.map WireFault.cells), .i a2, .i a3] (.sl .no 1 (r.map (cL 3 WireFault.cells)))
 | 0, _, _, _, _, _, h => nomatch (show none = some _ from h)
 | n + 1, _, _, _, _, _, h => W_ref11_sets_b (n := n) (rec := ref11_sets n) (fun h => W_ref11_sets h) h
theorem W_ref11_explained {n : Nat} {a0 : Wire} {a1 : Int} {r : (List (List WireFault))} (hM : ref11_explained n a0 a1 = some r) : PureSat Try.prog 81 [.agg (Wire.cells a0), .i a1] (.sl .no 1 (r.map (cL 3 WireFault.cells))) := by
 refine pure_of_wp mixed Try.func81 rfl (by decide) Try.ntmps81 (by simp) ?pure fun H0 g hf => ?_
 case pure => exact .sl _ _ (pures_map (fun x => (pl_cons (.sl _ _ (pures_map (fun x => (pl_cons (.v _) (pl_cons (.v _) (pl_cons (.v _) pl_nil)))))) pl_nil)))
 rw [frame0_of]
 change wpA _ _ _ _ (Fr.of [(0, .agg (Wire.cells a0)), (1, .i a1)]) H0 g
 have hS := St.start hf
 refine r_seq ?_
 refine r_region (n := 2) rfl ?_
 refine o_box (v := .agg (Wire.cells a0)) (cs := (Wire.cells a0)) hS (by decide) rfl rfl (by omega) fun H hS => ?_
 refine o_assign (v := .sl .nil 0 []) (by decide) rfl ?_
 refine run_nil ?_
 refine w_iceE (L' := []) 0 2 hS rfl rfl rfl fun H hS => ?_
 refine w_next [(1, .i a1), (2, .ep (Wire.cells a0))] (.k (.k .nil)) ?_
 refine r_seq ?_
 refine r_region (n := 1) rfl ?_
 refine o_assign (v := .sl .nil 0 []) (by decide) rfl ?_
 refine run_nil ?_
 refine w_own [(1, .i a1), (2, .ep (Wire.cells a0)), (5, .sl (.id (g + 2 + 1)) 1 (([] : List (List WireFault)).map (cL 3 WireFault.cells)))] 5 1 31 hS (by omega) (by decide) rfl (.k (.k (.k .nil))) fun H hS => ?_
 refine r_seq ?_
 refine r_region (n := 5) rfl ?_
 refine o_loadE (v := .agg (Wire.cells a0)) (by decide) rfl (part_agg ty_agg24 (Nat.le_of_ble_eq_true rfl) rfl) ?_
 obtain ⟨r1, hr1, hM⟩ := bindE hM
 refine o_call (bs := [.agg (Wire.cells a0)]) (by decide) rfl rfl ((W_ref11_AllFaults hr1).le (.k .nil)) ?_
 refine o_move (v := .i a1) (by decide) rfl ?_
 obtain ⟨r2, hr2, hM⟩ := bindE hM
 refine o_call (bs := [.sl .no 3 (r1.map WireFault.cells), .sl .nil 0 [], .i 0, .i a1]) (by decide) rfl rfl ((W_ref11_sets hr2).le (.k (.cons (.sl0 .nil 3 0) (.k (.k .nil))))) ?_
 refine o_assign (v := .sl .no 1 (r2.map (cL 3 WireFault.cells))) (by decide) rfl ?_
 refine run_nil ?_
 refine w_next [(2, .ep (Wire.cells a0)), (5, .sl (.id (g + 2 + 1)) 1 (([] : List (List WireFault)).map (cL 3 WireFault.cells))), (6, .sl .no 1 (r2.map (cL 3 WireFault.cells)))] (.k (.k (.k .nil))) ?_
 refine w_join (J := (List (List WireFault))) (fun j => [(5, .sl (.id (g + 2 + 1)) 1 (j.map (cL 3 WireFault.cells)))]) (fun j H' g' => St (· < g) H0 [(g + 2 + 1, .row 31 j.length)] H' g' ∧ ref11_explained_j1 j = some r) ?_ ?_
 ·rintro v3 H g1 ⟨hS, hM⟩
  change wpA _ _ _ _ (Fr.of [(5, .sl (.id (g + 2 + 1)) 1 (v3.map (cL 3 WireFault.cells)))]) _ _
  replace hS : St (· < g) H0 [(g + 2 + 1, .row 31 v3.length)] H g1 := hS
  replace hM : ref11_explained_j1 v3 = some r := hM
  refine r_seq ?_
  refine r_region (n := 2) rfl ?_
  refine o_move (v := .sl (.id (g + 2 + 1)) 1 (v3.map (cL 3 WireFault.cells))) (by decide) rfl ?_
  refine o_assign (v := .sl (.id (g + 2 + 1)) 1 (v3.map (cL 3 WireFault.cells))) (by decide) rfl ?_
  refine run_nil ?_
  refine w_next [(4, .sl (.id (g + 2 + 1)) 1 (v3.map (cL 3 WireFault.cells)))] (.k .nil) ?_
  refine r_ret ?_
  refine w_end (x := .sl (.id (g + 2 + 1)) 1 (v3.map (cL 3 WireFault.cells))) (f := fun r => .sl .no 1 (r.map (cL 3 WireFault.cells))) (.inr rfl) ?_ (.sl _ _ _) (Option.some.inj hM) hS
  exact (res_one (res_tmp (x := .sl (.id (g + 2 + 1)) 1 (v3.map (cL 3 WireFault.cells))) rfl))
 ·refine r_seq ?_
  refine r_region (n := 1) rfl ?_
  refine o_assign (v := .i 0) (by decide) rfl ?_
  refine run_nil ?_
  refine w_next [(2, .ep (Wire.cells a0)), (5, .sl (.id (g + 2 + 1)) 1 (([] : List (List WireFault)).map (cL 3 WireFault.cells))), (6, .sl .no 1 (r2.map (cL 3 WireFault.cells))), (7, .i 0)] (.k (.k (.k (.k .nil)))) ?_
  refine r_block ?_
  refine w_loop (V := (List (List WireFault)) × Int) (fun v => [(2, .ep (Wire.cells a0)), (5, .sl (.id (g + 2 + 1)) 1 (v.1.map (cL 3 WireFault.cells))), (6, .sl .no 1 (r2.map (cL 3 WireFault.cells))), (7, .i v.2)]) (fun v m2 H' g' => St (· < g) H0 [(g + 2 + 1, .row 31 v.1.length)] H' g' ∧ ref11_explained_l1 n a0 r2 m2 v.1 v.2 = some r) (n := n) (([] : List (List WireFault)), 0) (.k (.k (.k (.k .nil)))) ⟨(hS.keep [true] rfl).up (by omega), hM⟩ ?_
  rintro ⟨v4, v5⟩ m2 H g2 ⟨hS, hM⟩
  obtain _ | m2 := m2
  ·exact nomatch (show none = some _ from hM)
  change wpA _ _ _ _ (Fr.of [(2, .ep (Wire.cells a0)), (5, .sl (.id (g + 2 + 1)) 1 (v4.map (cL 3 WireFault.cells))), (6, .sl .no 1 (r2.map (cL 3 WireFault.cells))), (7, .i v5)]) _ _
  replace hS : St (· < g) H0 [(g + 2 + 1, .row 31 v4.length)] H g2 := hS
  replace hM : ref11_explained_l1_b n a0 r2 (ref11_explained_l1 n a0 r2 m2) v4 v5 = some r := hM
  refine r_seq ?_
  refine r_seq ?_
  refine r_region (n := 4) rfl ?_
  refine o_move (v := .i v5) (by decide) rfl ?_
  refine o_move (v := .sl .no 1 (r2.map (cL 3 WireFault.cells))) (by decide) rfl ?_
  refine o_len (n := r2.length) (by decide) rfl (List.length_map _) ty_isl68 ?_
  refine o_int (v := .b (decide (v5 < (r2.length : Int)))) (by decide) rfl rfl rfl ?_
  refine run_nil ?_
  refine w_next [(2, .ep (Wire.cells a0)), (5, .sl (.id (g + 2 + 1)) 1 (v4.map (cL 3 WireFault.cells))), (6, .sl .no 1 (r2.map (cL 3 WireFault.cells))), (7, .i v5), (15, .b (decide (v5 < (r2.length : Int))))] (.k (.k (.k (.k (.k .nil))))) ?_
  rcases Bool.eq_false_or_eq_true (decide (v5 < (r2.length : Int))) with hb6 | hb6
  ·replace hM := ifT hM hb6
   refine w_condT (e := (decide (v5 < (r2.length : Int)))) rfl hb6 ?_
   refine r_skip ?_
   refine w_next [(2, .ep (Wire.cells a0)), (5, .sl (.id (g + 2 + 1)) 1 (v4.map (cL 3 WireFault.cells))), (6, .sl .no 1 (r2.map (cL 3 WireFault.cells))), (7, .i v5)] (.k (.k (.k (.k .nil)))) ?_
   refine w_join (J := (List (List WireFault))) (fun j => [(2, .ep (Wire.cells a0)), (5, .sl (.id (g + 2 + 1)) 1 (j.map (cL 3 WireFault.cells))), (6, .sl .no 1 (r2.map (cL 3 WireFault.cells))), (7, .i v5)]) (fun j H' g' => St (· < g) H0 [(g + 2 + 1, .row 31 j.length)] H' g' ∧ ref11_explained_j2 (ref11_explained_l1 n a0 r2 m2) v5 j = some r) ?_ ?_
   ·rintro v7 H g3 ⟨hS, hM⟩
    change wpA _ _ _ _ (Fr.of [(2, .ep (Wire.cells a0)), (5, .sl (.id (g + 2 + 1)) 1 (v7.map (cL 3 WireFault.cells))), (6, .sl .no 1 (r2.map (cL 3 WireFault.cells))), (7, .i v5)]) _ _
    replace hS : St (· < g) H0 [(g + 2 + 1, .row 31 v7.length)] H g3 := hS
    replace hM : ref11_explained_j2 (ref11_explained_l1 n a0 r2 m2) v5 v7 = some r := hM
    refine r_region (n := 3) rfl ?_
    refine o_move (v := .i v5) (by decide) rfl ?_
    refine o_int (v := .i (w64 (v5 + 1))) (by decide) rfl rfl rfl ?_
    refine o_assign (v := .i (w64 (v5 + 1))) (by decide) rfl ?_
    refine run_nil ?_
    exact w_round (v7, w64 (v5 + 1)) (Nat.lt_succ_self _) (.k (.k (.k (.k .nil)))) ⟨(hS.keep [true] rfl).up (by omega), hM⟩
   ·refine r_block ?_
    refine r_seq ?_
    have hS0 := hS
    refine r_draw (n := 6) rfl (by kernel_rfl) ?_
    refine o_loadE (v := .agg (Wire.cells a0)) (by decide) rfl (part_agg ty_agg24 (Nat.le_of_ble_eq_true rfl) rfl) ?_
    refine o_move (v := .sl .no 1 (r2.map (cL 3 WireFault.cells))) (by decide) rfl ?_
    refine o_move (v := .i v5) (by decide) rfl ?_
    obtain ⟨x8, hx8, hM⟩ := bindE hM
    refine o_index (xs := r2) (f := (cL 3 WireFault.cells)) (z := v5) (u := x8) (by decide) rfl rfl ty_es68 hx8 ?_
    refine o_loadE (v := .sl .no 3 (x8.map WireFault.cells)) (by decide) rfl (part_one ty_agg31 ty_sc31 rfl) ?_
    obtain ⟨r9, hr9, hM⟩ := bindE hM
    refine o_call (bs := [.agg (Wire.cells a0), .sl .no 3 (x8.map WireFault.cells)]) (by decide) rfl rfl ((W_ref11_IsExplained hr9).le (.k (.k .nil))) ?_
    refine run_nil ?_
    refine w_next [(2, .ep (Wire.cells a0)), (5, .sl (.id (g + 2 + 1)) 1 (v4.map (cL 3 WireFault.cells))), (6, .sl .no 1 (r2.map (cL 3 WireFault.cells))), (7, .i v5), (23, .b r9)] (.k (.k (.k (.k (.k .nil))))) ?_
    rcases Bool.eq_false_or_eq_true r9 with hb10 | hb10
    ·replace hM := ifT hM hb10
     refine w_condT (e := r9) rfl hb10 ?_
     refine r_region (n := 8) rfl ?_
     refine o_move (v := .sl (.id (g + 2 + 1)) 1 (v4.map (cL 3 WireFault.cells))) (by decide) rfl ?_
     refine o_move (v := .sl .no 1 (r2.map (cL 3 WireFault.cells))) (by decide) rfl ?_
     refine o_move (v := .i v5) (by decide) rfl ?_
     obtain ⟨x11, hx11, hM⟩ := bindE hM
     refine o_index (xs := r2) (f := (cL 3 WireFault.cells)) (z := v5) (u := x11) (by decide) rfl rfl ty_es68 hx11 ?_
     refine o_loadE (v := .sl .no 3 (x11.map WireFault.cells)) (by decide) rfl (part_one ty_agg31 ty_sc31 rfl) ?_
     refine o_buildSlice (es := [[.sl .no 3 (x11.map WireFault.cells)]]) hS (by decide) ty_es68 ty_el68 rfl ty_ef68 rfl (by decide) (by omega) fun H hS => ?_
     obtain ⟨l12, hl12, hM⟩ := bindE hM
     refine o_append (xs := v4) (ys := ([x11] : List (List WireFault))) (zs := l12) (f := (cL 3 WireFault.cells)) (L' := [(g2 + 4 + 6 + 5, .row 31 1), (g + 2 + 1, .row 31 l12.length)]) 1 hS (by decide) rfl rfl rfl rfl .no ty_es68 ty_el68 ty_ef68 hl12 rfl fun H hS => ?_
     refine o_assign (v := .sl (.id (g + 2 + 1)) 1 (l12.map (cL 3 WireFault.cells))) (by decide) rfl ?_
     refine run_nil ?_
     refine r_blk_normal ?_
     exact w_goto l12 (.k (.k (.k (.k .nil)))) ⟨(hS.keep [false, true] rfl).up (by omega), hM⟩
    ·replace hM := ifF hM hb10
     refine w_condF (e := r9) rfl hb10 ?_
     refine r_skip ?_
     refine r_blk_normal ?_
     exact w_goto v4 (.k (.k (.k (.k .nil)))) ⟨(hS.keep [true] rfl).up (by omega), hM⟩
  ·replace hM := ifF hM hb6
   refine w_condF (e := (decide (v5 < (r2.length : Int)))) rfl hb6 ?_
   refine r_exit ?_
   refine r_then_exit ?_
   refine w_round_exit ?_
   refine r_blk_exit ?_
   exact w_goto v4 (.k .nil) ⟨(hS.keep [true] rfl).up (by omega), hM⟩
theorem W_ref11_truths {n : Nat} {a0 : Wire} {a1 : Bool} {r : (List (List WireFault)) × Int} (hM : ref11_truths n a0 a1 = some r) : PureSat Try.prog 56 [.agg (Wire.cells a0), .b a1] (.tup [.sl .no 1 (r.1.map (cL 3 WireFault.cells)), .i r.2]) := by
 refine pure_of_wp mixed Try.func56 rfl (by decide) Try.ntmps56 (by simp) ?pure fun H0 g hf => ?_
 case pure => exact .tup _ (pl_cons (.sl _ _ (pures_map (fun x => (pl_cons (.sl _ _ (pures_map (fun x => (pl_cons (.v _) (pl_cons (.v _) (pl_cons (.v _) pl_nil)))))) pl_nil)))) (pl_cons (.v _) pl_nil))
 rw [frame0_of]
 change wpA _ _ _ _ (Fr.of [(0, .agg (Wire.cells a0)), (1, .b a1)]) H0 g
 have hS := St.start hf
 refine r_seq ?_
 refine r_region (n := 3) rfl ?_
 refine o_box (v := .agg (Wire.cells a0)) (cs := (Wire.cells a0)) hS (by decide) rfl rfl (by omega) fun H hS => ?_
 refine o_assign (v := .sl .nil 0 []) (by decide) rfl ?_
 refine o_assign (v := .i 0) (by decide) rfl ?_
 refine run_nil ?_
 refine w_iceE (L' := []) 0 2 hS rfl rfl rfl fun H hS => ?_
 refine w_next [(1, .b a1), (2, .ep (Wire.cells a0))] (.k (.k .nil)) ?_
 refine r_seq ?_
 refine r_seq ?_
 refine r_region (n := 3) rfl ?_
 refine o_loadE (v := .agg (Wire.cells a0)) (by decide) rfl (part_agg ty_agg24 (Nat.le_of_ble_eq_true rfl) rfl) ?_
 obtain ⟨r1, hr1, hM⟩ := bindE hM
 refine o_call (bs := [.agg (Wire.cells a0)]) (by decide) rfl rfl ((W_ref11_Check hr1).le (.k .nil)) ?_
 refine o_assign (v := .i r1) (by decide) rfl ?_
 refine run_nil ?_
 refine w_next [(1, .b a1), (2, .ep (Wire.cells a0)), (6, .i r1)] (.k (.k (.k .nil))) ?_
 refine r_seq ?_
 refine r_region (n := 2) rfl ?_
 refine o_move (v := .i r1) (by decide) rfl ?_
 refine o_int (v := .b (r1 != 0)) (by decide) rfl rfl rfl ?_
 refine run_nil ?_
 refine w_next [(1, .b a1), (2, .ep (Wire.cells a0)), (6, .i r1), (11, .b (r1 != 0))] (.k (.k (.k (.k .nil)))) ?_
 rcases Bool.eq_false_or_eq_true (r1 != 0) with hb2 | hb2
 ·replace hM := ifT hM hb2
  refine w_condT (e := (r1 != 0)) rfl hb2 ?_
  refine r_seq ?_
  refine r_region (n := 3) rfl ?_
  refine o_move (v := .i r1) (by decide) rfl ?_
  refine o_assign (v := .sl .nil 0 []) (by decide) rfl ?_
  refine o_assign (v := .i r1) (by decide) rfl ?_
  refine run_nil ?_
  refine w_next [(4, .sl .nil 0 []), (5, .i r1)] (.k (.k .nil)) ?_
  refine r_ret ?_
  refine r_then_ret ?_
  refine w_end (x := .tup [.sl .nil 0 [], .i r1]) (f := fun r => .tup [.sl .no 1 (r.1.map (cL 3 WireFault.cells)), .i r.2]) (.inr rfl) ?_ (.tupL (.cons (.sl0 .nil 1 0) (.k .nil))) (Option.some.inj hM) hS
  exact (res_two (res_tmp (x := .sl .nil 0 []) rfl) (res_tmp (x := .i r1) rfl))
 ·replace hM := ifF hM hb2
  refine w_condF (e := (r1 != 0)) rfl hb2 ?_
  refine r_skip ?_
  refine w_next [(1, .b a1), (2, .ep (Wire.cells a0))] (.k (.k .nil)) ?_
  refine r_seq ?_
  refine r_seq ?_
  refine r_region (n := 2) rfl ?_
  refine o_move (v := .b a1) (by decide) rfl ?_
  refine o_not (e := a1) (by decide) rfl ?_
  refine run_nil ?_
  refine w_next [(2, .ep (Wire.cells a0)), (14, .b (!a1))] (.k (.k .nil)) ?_
  rcases Bool.eq_false_or_eq_true (!a1) with hb3 | hb3
  ·replace hM := ifT hM hb3
   refine w_condT (e := (!a1)) rfl hb3 ?_
   refine r_seq ?_
   refine r_region (n := 2) rfl ?_
   refine o_assign (v := .sl .nil 0 []) (by decide) rfl ?_
   refine o_assign (v := .i 1) (by decide) rfl ?_
   refine run_nil ?_
   refine w_next [(4, .sl .nil 0 []), (5, .i 1)] (.k (.k .nil)) ?_
   refine r_ret ?_
   refine r_then_ret ?_
   refine w_end (x := .tup [.sl .nil 0 [], .i 1]) (f := fun r => .tup [.sl .no 1 (r.1.map (cL 3 WireFault.cells)), .i r.2]) (.inr rfl) ?_ (.tupL (.cons (.sl0 .nil 1 0) (.k .nil))) (Option.some.inj hM) hS
   exact (res_two (res_tmp (x := .sl .nil 0 []) rfl) (res_tmp (x := .i 1) rfl))
  ·replace hM := ifF hM hb3
   refine w_condF (e := (!a1)) rfl hb3 ?_
   refine r_skip ?_
   refine w_next [(2, .ep (Wire.cells a0))] (.k .nil) ?_
   refine r_seq ?_
   refine r_region (n := 5) rfl ?_
   refine o_loadE (v := .agg (Wire.cells a0)) (by decide) rfl (part_agg ty_agg24 (Nat.le_of_ble_eq_true rfl) rfl) ?_
   refine o_fieldE (cs := (Wire.cells a0)) (by decide) ty_fo24_3 rfl ?_
   refine o_loadE (v := .i a0.Faults) (by decide) rfl (part_one ty_agg3 ty_sc3 rfl) ?_
   obtain ⟨r4, hr4, hM⟩ := bindE hM
   refine o_call (bs := [.agg (Wire.cells a0), .i a0.Faults]) (by decide) rfl rfl ((W_ref11_explained hr4).le (.k (.k .nil))) ?_
   refine o_assign (v := .sl .no 1 (r4.map (cL 3 WireFault.cells))) (by decide) rfl ?_
   refine run_nil ?_
   refine w_next [(7, .sl .no 1 (r4.map (cL 3 WireFault.cells)))] (.k .nil) ?_
   refine r_seq ?_
   refine r_seq ?_
   refine r_region (n := 3) rfl ?_
   refine o_move (v := .sl .no 1 (r4.map (cL 3 WireFault.cells))) (by decide) rfl ?_
   refine o_len (n := r4.length) (by decide) rfl (List.length_map _) ty_isl68 ?_
   refine o_int (v := .b ((r4.length : Int) == 0)) (by decide) rfl rfl rfl ?_
   refine run_nil ?_
   refine w_next [(7, .sl .no 1 (r4.map (cL 3 WireFault.cells))), (21, .b ((r4.length : Int) == 0))] (.k (.k .nil)) ?_
   rcases Bool.eq_false_or_eq_true ((r4.length : Int) == 0) with hb5 | hb5
   ·replace hM := ifT hM hb5
    refine w_condT (e := ((r4.length : Int) == 0)) rfl hb5 ?_
    refine r_seq ?_
    refine r_region (n := 2) rfl ?_
    refine o_assign (v := .sl .nil 0 []) (by decide) rfl ?_
    refine o_assign (v := .i 3) (by decide) rfl ?_
    refine run_nil ?_
    refine w_next [(4, .sl .nil 0 []), (5, .i 3)] (.k (.k .nil)) ?_
    refine r_ret ?_
    refine r_then_ret ?_
    refine w_end (x := .tup [.sl .nil 0 [], .i 3]) (f := fun r => .tup [.sl .no 1 (r.1.map (cL 3 WireFault.cells)), .i r.2]) (.inr rfl) ?_ (.tupL (.cons (.sl0 .nil 1 0) (.k .nil))) (Option.some.inj hM) hS
    exact (res_two (res_tmp (x := .sl .nil 0 []) rfl) (res_tmp (x := .i 3) rfl))
   ·replace hM := ifF hM hb5
    refine w_condF (e := ((r4.length : Int) == 0)) rfl hb5 ?_
    refine r_skip ?_
    refine w_next [(7, .sl .no 1 (r4.map (cL 3 WireFault.cells)))] (.k .nil) ?_
    refine r_seq ?_
    refine r_region (n := 3) rfl ?_
    refine o_move (v := .sl .no 1 (r4.map (cL 3 WireFault.cells))) (by decide) rfl ?_
    refine o_assign (v := .sl .no 1 (r4.map (cL 3 WireFault.cells))) (by decide) rfl ?_
    refine o_assign (v := .i 0) (by decide) rfl ?_
    refine run_nil ?_
    refine w_next [(4, .sl .no 1 (r4.map (cL 3 WireFault.cells))), (5, .i 0)] (.k (.k .nil)) ?_
    refine r_ret ?_
    refine w_end (x := .tup [.sl .no 1 (r4.map (cL 3 WireFault.cells)), .i 0]) (f := fun r => .tup [.sl .no 1 (r.1.map (cL 3 WireFault.cells)), .i r.2]) (.inr rfl) ?_ (.refl _) (Option.some.inj hM) hS
    exact (res_two (res_tmp (x := .sl .no 1 (r4.map (cL 3 WireFault.cells))) rfl) (res_tmp (x := .i 0) rfl))
theorem W_law11_same {n : Nat} {a0 : Wire} {a1 : Wire} {r : Bool} (hM : law11_same n a0 a1 = some r) : PureSat Try.prog 24 [.agg (Wire.cells a0), .agg (Wire.cells a1)] (.b r) := by
 refine pure_of_wp mixed Try.func24 rfl (by decide) Try.ntmps24 (by simp) ?pure fun H0 g hf => ?_
 case pure => exact .v _
 rw [frame0_of]
 change wpA _ _ _ _ (Fr.of [(0, .agg (Wire.cells a0)), (1, .agg (Wire.cells a1))]) H0 g
 have hS := St.start hf
 refine r_seq ?_
 refine r_region (n := 3) rfl ?_
 refine o_box (v := .agg (Wire.cells a0)) (cs := (Wire.cells a0)) hS (by decide) rfl rfl (by omega) fun H hS => ?_
 refine o_box (v := .agg (Wire.cells a1)) (cs := (Wire.cells a1)) hS (by decide) rfl rfl (by omega) fun H hS => ?_
 refine o_assign (v := .b false) (by decide) rfl ?_
 refine run_nil ?_
 refine w_iceE (L' := [(g + 1, .cells (Wire.cells a1))]) 1 2 hS rfl rfl rfl fun H hS => ?_
 refine w_iceE (L' := []) 0 3 hS rfl rfl rfl fun H hS => ?_
 refine w_next [(2, .ep (Wire.cells a0)), (3, .ep (Wire.cells a1))] (.k (.k .nil)) ?_
 refine r_seq ?_
 refine w_join (J := Bool) (fun j => [(2, .ep (Wire.cells a0)), (3, .ep (Wire.cells a1)), (33, .b j)]) (fun j H' g' => St (· < g) H0 [] H' g' ∧ law11_same_j1 n a0 a1 j = some r) ?_ ?_
 ·rintro v1 H g1 ⟨hS, hM⟩
  change wpA _ _ _ _ (Fr.of [(2, .ep (Wire.cells a0)), (3, .ep (Wire.cells a1)), (33, .b v1)]) _ _
  replace hS : St (· < g) H0 [] H g1 := hS
  replace hM : law11_same_j1 n a0 a1 v1 = some r := hM
  rcases Bool.eq_false_or_eq_true v1 with hb2 | hb2
  ·replace hM := ifT hM hb2
   refine w_condT (e := v1) rfl hb2 ?_
   refine r_seq ?_
   refine r_region (n := 1) rfl ?_
   refine o_assign (v := .b false) (by decide) rfl ?_
   refine run_nil ?_
   refine w_next [(4, .b false)] (.k .nil) ?_
   refine r_ret ?_
   refine r_then_ret ?_
   refine w_end (x := .b false) (f := fun r => .b r) (.inr rfl) ?_ (.refl _) (Option.some.inj hM) hS
   exact (res_one (res_tmp (x := .b false) rfl))
  ·replace hM := ifF hM hb2
   refine w_condF (e := v1) rfl hb2 ?_
   refine r_skip ?_
   refine w_next [(2, .ep (Wire.cells a0)), (3, .ep (Wire.cells a1))] (.k (.k .nil)) ?_
   refine w_join (J := Unit) (fun j => []) (fun j H' g' => St (· < g) H0 [] H' g' ∧ law11_same_j2 = some r) ?_ ?_
   ·rintro _ H g2 ⟨hS, hM⟩
    change wpA _ _ _ _ (Fr.of []) _ _
    replace hS : St (· < g) H0 [] H g2 := hS
    replace hM : law11_same_j2 = some r := hM
    refine r_seq ?_
    refine r_region (n := 1) rfl ?_
    refine o_assign (v := .b true) (by decide) rfl ?_
    refine run_nil ?_
    refine w_next [(4, .b true)] (.k .nil) ?_
    refine r_ret ?_
    refine w_end (x := .b true) (f := fun r => .b r) (.inr rfl) ?_ (.refl _) (Option.some.inj hM) hS
    exact (res_one (res_tmp (x := .b true) rfl))
   ·refine r_seq ?_
    refine r_region (n := 1) rfl ?_
    refine o_assign (v := .i 0) (by decide) rfl ?_
    refine run_nil ?_
    refine w_next [(2, .ep (Wire.cells a0)), (3, .ep (Wire.cells a1)), (5, .i 0)] (.k (.k (.k .nil))) ?_
    refine r_block ?_
    refine w_loop (V := Int) (fun v => [(2, .ep (Wire.cells a0)), (3, .ep (Wire.cells a1)), (5, .i v)]) (fun v m3 H' g' => St (· < g) H0 [] H' g' ∧ law11_same_l1 a0 a1 m3 v = some r) (n := n) 0 (.k (.k (.k .nil))) ⟨(hS.keep [] rfl).up (by omega), hM⟩ ?_
    rintro v3 m3 H g3 ⟨hS, hM⟩
    obtain _ | m3 := m3
    ·exact nomatch (show none = some _ from hM)
    change wpA _ _ _ _ (Fr.of [(2, .ep (Wire.cells a0)), (3, .ep (Wire.cells a1)), (5, .i v3)]) _ _
    replace hS : St (· < g) H0 [] H g3 := hS
    replace hM : law11_same_l1_b a0 a1 (law11_same_l1 a0 a1 m3) v3 = some r := hM
    refine r_seq ?_
    refine r_seq ?_
    refine r_region (n := 5) rfl ?_
    refine o_move (v := .i v3) (by decide) rfl ?_
    refine o_fieldE (cs := (Wire.cells a0)) (by decide) ty_fo24_2 rfl ?_
    refine o_loadE (v := .sl .no 3 (a0.Presses.map WirePress.cells)) (by decide) rfl (part_one ty_agg22 ty_sc22 rfl) ?_
    refine o_len (n := a0.Presses.length) (by decide) rfl (List.length_map _) ty_isl22 ?_
    refine o_int (v := .b (decide (v3 < (a0.Presses.length : Int)))) (by decide) rfl rfl rfl ?_
    refine run_nil ?_
    refine w_next [(2, .ep (Wire.cells a0)), (3, .ep (Wire.cells a1)), (5, .i v3), (38, .b (decide (v3 < (a0.Presses.length : Int))))] (.k (.k (.k (.k .nil)))) ?_
    rcases Bool.eq_false_or_eq_true (decide (v3 < (a0.Presses.length : Int))) with hb4 | hb4
    ·replace hM := ifT hM hb4
     refine w_condT (e := (decide (v3 < (a0.Presses.length : Int)))) rfl hb4 ?_
     refine r_skip ?_
     refine w_next [(2, .ep (Wire.cells a0)), (3, .ep (Wire.cells a1)), (5, .i v3)] (.k (.k (.k .nil))) ?_
     refine r_seq ?_
     refine r_block ?_
     refine r_seq ?_
     have hS0 := hS
     refine r_draw (n := 11) rfl (by kernel_rfl) ?_
     refine o_fieldE (cs := (Wire.cells a0)) (by decide) ty_fo24_2 rfl ?_
     refine o_loadE (v := .sl .no 3 (a0.Presses.map WirePress.cells)) (by decide) rfl (part_one ty_agg22 ty_sc22 rfl) ?_
     refine o_move (v := .i v3) (by decide) rfl ?_
     obtain ⟨x5, hx5, hM⟩ := bindE hM
     refine o_index (xs := a0.Presses) (f := WirePress.cells) (z := v3) (u := x5) (by decide) rfl rfl ty_es22 hx5 ?_
     refine o_loadE (v := .agg [.i x5.Letter, .i x5.Number, .i x5.Got]) (by decide) rfl (part_agg ty_agg50 (Nat.le_of_ble_eq_true rfl) rfl) ?_
     refine o_fieldE (cs := (Wire.cells a1)) (by decide) ty_fo24_2 rfl ?_
     refine o_loadE (v := .sl .no 3 (a1.Presses.map WirePress.cells)) (by decide) rfl (part_one ty_agg22 ty_sc22 rfl) ?_
     refine o_move (v := .i v3) (by decide) rfl ?_
     obtain ⟨x6, hx6, hM⟩ := bindE hM
     refine o_index (xs := a1.Presses) (f := WirePress.cells) (z := v3) (u := x6) (by decide) rfl rfl ty_es22 hx6 ?_
     refine o_loadE (v := .agg [.i x6.Letter, .i x6.Number, .i x6.Got]) (by decide) rfl (part_agg ty_agg50 (Nat.le_of_ble_eq_true rfl) rfl) ?_
     refine o_neS (cs := [.i x5.Letter, .i x5.Number, .i x5.Got]) (ds := [.i x6.Letter, .i x6.Number, .i x6.Got]) (e := ((x5.Letter == x6.Letter) && ((x5.Number == x6.Number) && ((x5.Got == x6.Got) && true)))) (by decide) rfl rfl ty_flat50 rfl ?_
     refine run_nil ?_
     refine w_next [(2, .ep (Wire.cells a0)), (3, .ep (Wire.cells a1)), (5, .i v3), (51, .b (!((x5.Letter == x6.Letter) && ((x5.Number == x6.Number) && ((x5.Got == x6.Got) && true)))))] (.k (.k (.k (.k .nil)))) ?_
     rcases Bool.eq_false_or_eq_true (!((x5.Letter == x6.Letter) && ((x5.Number == x6.Number) && ((x5.Got == x6.Got) && true)))) with hb7 | hb7
     ·replace hM := ifT hM hb7
      refine w_condT (e := (!((x5.Letter == x6.Letter) && ((x5.Number == x6.Number) && ((x5.Got == x6.Got) && true))))) rfl hb7 ?_
      refine r_seq ?_
      refine r_region (n := 1) rfl ?_
      refine o_assign (v := .b false) (by decide) rfl ?_
      refine run_nil ?_
      refine w_next [(4, .b false)] (.k .nil) ?_
      refine r_ret ?_
      refine r_blk_ret ?_
      refine r_then_ret ?_
      refine w_round_ret ?_
      refine r_blk_ret ?_
      refine w_goto_ret ?_
      refine w_end (x := .b false) (f := fun r => .b r) (.inr rfl) ?_ (.refl _) (Option.some.inj hM) hS
      exact (res_one (res_tmp (x := .b false) rfl))
     ·replace hM := ifF hM hb7
      refine w_condF (e := (!((x5.Letter == x6.Letter) && ((x5.Number == x6.Number) && ((x5.Got == x6.Got) && true))))) rfl hb7 ?_
      refine r_skip ?_
      refine r_blk_normal ?_
      refine w_next [(2, .ep (Wire.cells a0)), (3, .ep (Wire.cells a1)), (5, .i v3)] (.k (.k (.k .nil))) ?_
      refine r_region (n := 3) rfl ?_
      refine o_move (v := .i v3) (by decide) rfl ?_
      refine o_int (v := .i (w64 (v3 + 1))) (by decide) rfl rfl rfl ?_
      refine o_assign (v := .i (w64 (v3 + 1))) (by decide) rfl ?_
      refine run_nil ?_
      exact w_round (w64 (v3 + 1)) (Nat.lt_succ_self _) (.k (.k (.k .nil))) ⟨(hS.keep [] rfl).up (by omega), hM⟩
    ·replace hM := ifF hM hb4
     refine w_condF (e := (decide (v3 < (a0.Presses.length : Int)))) rfl hb4 ?_
     refine r_exit ?_
     refine r_then_exit ?_
     refine w_round_exit ?_
     refine r_blk_exit ?_
     exact w_goto () .nil ⟨(hS.keep [] rfl).up (by omega), hM⟩
 ·refine r_region (n := 28) rfl ?_
  refine o_fieldE (cs := (Wire.cells a0)) (by decide) ty_fo24_0 rfl ?_
  refine o_loadE (v := .i a0.Letters) (by decide) rfl (part_one ty_agg3 ty_sc3 rfl) ?_
  refine o_fieldE (cs := (Wire.cells a1)) (by decide) ty_fo24_0 rfl ?_
  refine o_loadE (v := .i a1.Letters) (by decide) rfl (part_one ty_agg3 ty_sc3 rfl) ?_
  refine o_int (v := .b (a0.Letters != a1.Letters)) (by decide) rfl rfl rfl ?_
  refine o_move (v := .b (a0.Letters != a1.Letters)) (by decide) rfl ?_
  rcases Bool.eq_false_or_eq_true (a0.Letters != a1.Letters) with hb8 | hb8
  ·replace hM := ifT hM hb8
   refine o_guardN (j := 5) (e := (a0.Letters != a1.Letters)) (want := false) (by decide) rfl hb8 ?_
   refine o_guardN (j := 5) (e := (a0.Letters != a1.Letters)) (want := false) (by decide) rfl hb8 ?_
   refine o_guardN (j := 5) (e := (a0.Letters != a1.Letters)) (want := false) (by decide) rfl hb8 ?_
   refine o_guardN (j := 5) (e := (a0.Letters != a1.Letters)) (want := false) (by decide) rfl hb8 ?_
   refine o_guardN (j := 5) (e := (a0.Letters != a1.Letters)) (want := false) (by decide) rfl hb8 ?_
   refine o_pickT (v := .b true) (e := (a0.Letters != a1.Letters)) (by decide) rfl hb8 rfl ?_
   refine o_move (v := .b true) (by decide) rfl ?_
   refine o_guardN (j := 12) (e := true) (want := false) (by decide) rfl rfl ?_
   refine o_guardN (j := 12) (e := true) (want := false) (by decide) rfl rfl ?_
   refine o_guardN (j := 12) (e := true) (want := false) (by decide) rfl rfl ?_
   refine o_guardN (j := 12) (e := true) (want := false) (by decide) rfl rfl ?_
   refine o_guardN (j := 12) (e := true) (want := false) (by decide) rfl rfl ?_
   refine o_pickT (v := .b true) (e := true) (by decide) rfl rfl rfl ?_
   refine o_move (v := .b true) (by decide) rfl ?_
   refine o_guardN (j := 19) (e := true) (want := false) (by decide) rfl rfl ?_
   refine o_guardN (j := 19) (e := true) (want := false) (by decide) rfl rfl ?_
   refine o_guardN (j := 19) (e := true) (want := false) (by decide) rfl rfl ?_
   refine o_guardN (j := 19) (e := true) (want := false) (by decide) rfl rfl ?_
   refine o_guardN (j := 19) (e := true) (want := false) (by decide) rfl rfl ?_
   refine o_guardN (j := 19) (e := true) (want := false) (by decide) rfl rfl ?_
   refine o_guardN (j := 19) (e := true) (want := false) (by decide) rfl rfl ?_
   refine o_pickT (v := .b true) (e := true) (by decide) rfl rfl rfl ?_
   refine run_nil ?_
   exact w_goto true (.k (.k (.k .nil))) ⟨(hS.keep [] rfl).up (by omega), hM⟩
  ·replace hM := ifF hM hb8
   refine o_guardY (j := 5) (e := (a0.Letters != a1.Letters)) (want := false) rfl hb8 ?_
   refine o_fieldE (cs := (Wire.cells a0)) (by decide) ty_fo24_1 rfl ?_
   refine o_guardY (j := 5) (e := (a0.Letters != a1.Letters)) (want := false) rfl hb8 ?_
   refine o_loadE (v := .i a0.Numbers) (by decide) rfl (part_one ty_agg3 ty_sc3 rfl) ?_
   refine o_guardY (j := 5) (e := (a0.Letters != a1.Letters)) (want := false) rfl hb8 ?_
   refine o_fieldE (cs := (Wire.cells a1)) (by decide) ty_fo24_1 rfl ?_
   refine o_guardY (j := 5) (e := (a0.Letters != a1.Letters)) (want := false) rfl hb8 ?_
   refine o_loadE (v := .i a1.Numbers) (by decide) rfl (part_one ty_agg3 ty_sc3 rfl) ?_
   refine o_guardY (j := 5) (e := (a0.Letters != a1.Letters)) (want := false) rfl hb8 ?_
   refine o_int (v := .b (a0.Numbers != a1.Numbers)) (by decide) rfl rfl rfl ?_
   refine o_pickF (v := .b (a0.Numbers != a1.Numbers)) (e := (a0.Letters != a1.Letters)) (by decide) rfl hb8 rfl ?_
   refine o_move (v := .b (a0.Numbers != a1.Numbers)) (by decide) rfl ?_
   rcases Bool.eq_false_or_eq_true (a0.Numbers != a1.Numbers) with hb9 | hb9
   ·replace hM := ifT hM hb9
    refine o_guardN (j := 12) (e := (a0.Numbers != a1.Numbers)) (want := false) (by decide) rfl hb9 ?_
    refine o_guardN (j := 12) (e := (a0.Numbers != a1.Numbers)) (want := false) (by decide) rfl hb9 ?_
    refine o_guardN (j := 12) (e := (a0.Numbers != a1.Numbers)) (want := false) (by decide) rfl hb9 ?_
    refine o_guardN (j := 12) (e := (a0.Numbers != a1.Numbers)) (want := false) (by decide) rfl hb9 ?_
    refine o_guardN (j := 12) (e := (a0.Numbers != a1.Numbers)) (want := false) (by decide) rfl hb9 ?_
    refine o_pickT (v := .b true) (e := (a0.Numbers != a1.Numbers)) (by decide) rfl hb9 rfl ?_
    refine o_move (v := .b true) (by decide) rfl ?_
    refine o_guardN (j := 19) (e := true) (want := false) (by decide) rfl rfl ?_
    refine o_guardN (j := 19) (e := true) (want := false) (by decide) rfl rfl ?_
    refine o_guardN (j := 19) (e := true) (want := false) (by decide) rfl rfl ?_
    refine o_guardN (j := 19) (e := true) (want := false) (by decide) rfl rfl ?_
    refine o_guardN (j := 19) (e := true) (want := false) (by decide) rfl rfl ?_
    refine o_guardN (j := 19) (e := true) (want := false) (by decide) rfl rfl ?_
    refine o_guardN (j := 19) (e := true) (want := false) (by decide) rfl rfl ?_
    refine o_pickT (v := .b true) (e := true) (by decide) rfl rfl rfl ?_
    refine run_nil ?_
    exact w_goto true (.k (.k (.k .nil))) ⟨(hS.keep [] rfl).up (by omega), hM⟩
   ·replace hM := ifF hM hb9
    refine o_guardY (j := 12) (e := (a0.Numbers != a1.Numbers)) (want := false) rfl hb9 ?_
    refine o_fieldE (cs := (Wire.cells a0)) (by decide) ty_fo24_3 rfl ?_
    refine o_guardY (j := 12) (e := (a0.Numbers != a1.Numbers)) (want := false) rfl hb9 ?_
    refine o_loadE (v := .i a0.Faults) (by decide) rfl (part_one ty_agg3 ty_sc3 rfl) ?_
    refine o_guardY (j := 12) (e := (a0.Numbers != a1.Numbers)) (want := false) rfl hb9 ?_
    refine o_fieldE (cs := (Wire.cells a1)) (by decide) ty_fo24_3 rfl ?_
    refine o_guardY (j := 12) (e := (a0.Numbers != a1.Numbers)) (want := false) rfl hb9 ?_
    refine o_loadE (v := .i a1.Faults) (by decide) rfl (part_one ty_agg3 ty_sc3 rfl) ?_
    refine o_guardY (j := 12) (e := (a0.Numbers != a1.Numbers)) (want := false) rfl hb9 ?_
    refine o_int (v := .b (a0.Faults != a1.Faults)) (by decide) rfl rfl rfl ?_
    refine o_pickF (v := .b (a0.Faults != a1.Faults)) (e := (a0.Numbers != a1.Numbers)) (by decide) rfl hb9 rfl ?_
    refine o_move (v := .b (a0.Faults != a1.Faults)) (by decide) rfl ?_
    rcases Bool.eq_false_or_eq_true (a0.Faults != a1.Faults) with hb10 | hb10
    ·replace hM := ifT hM hb10
     refine o_guardN (j := 19) (e := (a0.Faults != a1.Faults)) (want := false) (by decide) rfl hb10 ?_
     refine o_guardN (j := 19) (e := (a0.Faults != a1.Faults)) (want := false) (by decide) rfl hb10 ?_
     refine o_guardN (j := 19) (e := (a0.Faults != a1.Faults)) (want := false) (by decide) rfl hb10 ?_
     refine o_guardN (j := 19) (e := (a0.Faults != a1.Faults)) (want := false) (by decide) rfl hb10 ?_
     refine o_guardN (j := 19) (e := (a0.Faults != a1.Faults)) (want := false) (by decide) rfl hb10 ?_
     refine o_guardN (j := 19) (e := (a0.Faults != a1.Faults)) (want := false) (by decide) rfl hb10 ?_
     refine o_guardN (j := 19) (e := (a0.Faults != a1.Faults)) (want := false) (by decide) rfl hb10 ?_
     refine o_pickT (v := .b true) (e := (a0.Faults != a1.Faults)) (by decide) rfl hb10 rfl ?_
     refine run_nil ?_
     exact w_goto true (.k (.k (.k .nil))) ⟨(hS.keep [] rfl).up (by omega), hM⟩
    ·replace hM := ifF hM hb10
     refine o_guardY (j := 19) (e := (a0.Faults != a1.Faults)) (want := false) rfl hb10 ?_
     refine o_fieldE (cs := (Wire.cells a0)) (by decide) ty_fo24_2 rfl ?_
     refine o_guardY (j := 19) (e := (a0.Faults != a1.Faults)) (want := false) rfl hb10 ?_
     refine o_loadE (v := .sl .no 3 (a0.Presses.map WirePress.cells)) (by decide) rfl (part_one ty_agg22 ty_sc22 rfl) ?_
     refine o_guardY (j := 19) (e := (a0.Faults != a1.Faults)) (want := false) rfl hb10 ?_
     refine o_len (n := a0.Presses.length) (by decide) rfl (List.length_map _) ty_isl22 ?_
     refine o_guardY (j := 19) (e := (a0.Faults != a1.Faults)) (want := false) rfl hb10 ?_
     refine o_fieldE (cs := (Wire.cells a1)) (by decide) ty_fo24_2 rfl ?_
     refine o_guardY (j := 19) (e := (a0.Faults != a1.Faults)) (want := false) rfl hb10 ?_
     refine o_loadE (v := .sl .no 3 (a1.Presses.map WirePress.cells)) (by decide) rfl (part_one ty_agg22 ty_sc22 rfl) ?_
     refine o_guardY (j := 19) (e := (a0.Faults != a1.Faults)) (want := false) rfl hb10 ?_
     refine o_len (n := a1.Presses.length) (by decide) rfl (List.length_map _) ty_isl22 ?_
     refine o_guardY (j := 19) (e := (a0.Faults != a1.Faults)) (want := false) rfl hb10 ?_
     refine o_int (v := .b ((a0.Presses.length : Int) != (a1.Presses.length : Int))) (by decide) rfl rfl rfl ?_
     refine o_pickF (v := .b ((a0.Presses.length : Int) != (a1.Presses.length : Int))) (e := (a0.Faults != a1.Faults)) (by decide) rfl hb10 rfl ?_
     refine run_nil ?_
     exact w_goto ((a0.Presses.length : Int) != (a1.Presses.length : Int)) (.k (.k (.k .nil))) ⟨(hS.keep [] rfl).up (by omega), hM⟩
theorem W_ref11_tally {n : Nat} {a0 : Wire} {a1 : List (List WireFault)} {a2 : Int} {a3 : Int} {r : (List Int)} (hM : ref11_tally n a0 a1 a2 a3 = some r) : PureSat Try.prog 65 [.agg (Wire.cells a0), .sl .no 1 (a1.map (cL 3 WireFault.cells)), .i a2, .i a3] (.sl .no 1 (r.map cI)) := by
 refine pure_of_wp mixed Try.func65 rfl (by decide) Try.ntmps65 (by simp) ?pure fun H0 g hf => ?_
 case pure => exact .sl _ _ (pures_map (fun x => (pl_cons (.v _) pl_nil)))
 rw [frame0_of]
 change wpA _ _ _ _ (Fr.of [(0, .agg (Wire.cells a0)), (1, .sl .no 1 (a1.map (cL 3 WireFault.cells))), (2, .i a2), (3, .i a3)]) H0 g
 have hS := St.start hf
 refine r_seq ?_
 refine r_region (n := 2) rfl ?_
 refine o_box (v := .agg (Wire.cells a0)) (cs := (Wire.cells a0)) hS (by decide) rfl rfl (by omega) fun H hS => ?_
 refine o_assign (v := .sl .nil 0 []) (by decide) rfl ?_
 refine run_nil ?_
 refine w_iceE (L' := []) 0 4 hS rfl rfl rfl fun H hS => ?_
 refine w_next [(1, .sl .no 1 (a1.map (cL 3 WireFault.cells))), (2, .i a2), (3, .i a3), (4, .ep (Wire.cells a0))] (.k (.k (.k (.k .nil)))) ?_
 refine r_seq ?_
 refine r_region (n := 8) rfl ?_
 refine o_fieldE (cs := (Wire.cells a0)) (by decide) ty_fo24_0 rfl ?_
 refine o_loadE (v := .i a0.Letters) (by decide) rfl (part_one ty_agg3 ty_sc3 rfl) ?_
 refine o_fieldE (cs := (Wire.cells a0)) (by decide) ty_fo24_1 rfl ?_
 refine o_loadE (v := .i a0.Numbers) (by decide) rfl (part_one ty_agg3 ty_sc3 rfl) ?_
 refine o_int (v := .i (w64 (a0.Letters * a0.Numbers))) (by decide) rfl rfl rfl ?_
 refine o_int (v := .i (w64 ((w64 (a0.Letters * a0.Numbers)) + 1))) (by decide) rfl rfl rfl ?_
 obtain ⟨l1, hl1, hM⟩ := bindE hM
 refine o_makeM (z := (w64 ((w64 (a0.Letters * a0.Numbers)) + 1))) (us := l1) hS (by decide) rfl rfl hl1 ty_es39 ty_el39 ty_zero3 ty_ef39 (by omega) fun H hS => ?_
 refine o_assign (v := msn (g + 2 + 6) 1 l1.length) (by decide) rfl ?_
 refine run_nil ?_
 refine w_next [(1, .sl .no 1 (a1.map (cL 3 WireFault.cells))), (2, .i a2), (3, .i a3), (4, .ep (Wire.cells a0)), (9, msn (g + 2 + 6) 1 l1.length)] (.k (.k (.k (.k (.k .nil))))) ?_
 refine w_joinD (J := (List Int)) (fun j => [(9, .sl .no 1 (j.map cI))]) (fun j H' g' => St (· < g) H0 [] H' g' ∧ ref11_tally_j1 j = some r) ?_ ?_
 ·rintro v2 H g1 ⟨hS, hM⟩
  change wpA _ _ _ _ (Fr.of [(9, .sl .no 1 (v2.map cI))]) _ _
  replace hS : St (· < g) H0 [] H g1 := hS
  replace hM : ref11_tally_j1 v2 = some r := hM
  refine r_seq ?_
  refine r_region (n := 2) rfl ?_
  refine o_move (v := .sl .no 1 (v2.map cI)) (by decide) rfl ?_
  refine o_assign (v := .sl .no 1 (v2.map cI)) (by decide) rfl ?_
  refine run_nil ?_
  refine w_next [(8, .sl .no 1 (v2.map cI))] (.k .nil) ?_
  refine r_ret ?_
  refine w_end (x := .sl .no 1 (v2.map cI)) (f := fun r => .sl .no 1 (r.map cI)) (.inr rfl) ?_ (.refl _) (Option.some.inj hM) hS
  exact (res_one (res_tmp (x := .sl .no 1 (v2.map cI)) rfl))
 ·refine r_seq ?_
  refine r_region (n := 1) rfl ?_
  refine o_assign (v := .i 0) (by decide) rfl ?_
  refine run_nil ?_
  refine w_next [(1, .sl .no 1 (a1.map (cL 3 WireFault.cells))), (2, .i a2), (3, .i a3), (4, .ep (Wire.cells a0)), (9, msn (g + 2 + 6) 1 l1.length), (10, .i 0)] (.k (.k (.k (.k (.k (.k .nil)))))) ?_
  refine r_block ?_
  refine w_loop (V := Int × (List Int)) (fun v => [(1, .sl .no 1 (a1.map (cL 3 WireFault.cells))), (2, .i a2), (3, .i a3), (4, .ep (Wire.cells a0)), (9, msn (g + 2 + 6) 1 l1.length), (10, .i v.1)]) (fun v m3 H' g' => St (· < g) H0 ([] ++ thawN (g + 2 + 6) l1.length (v.2.map cI)) H' g' ∧ ref11_tally_l1 n a0 a1 a2 a3 m3 v.1 v.2 = some r) (n := n) (0, l1) (.k (.k (.k (.k (.k (.k .nil)))))) ⟨(hS.keep [] rfl).up (by omega), hM⟩ ?_
  rintro ⟨v4, v5⟩ m3 H g3 ⟨hS, hM⟩
  obtain _ | m3 := m3
  ·exact nomatch (show none = some _ from hM)
  change wpA _ _ _ _ (Fr.of [(1, .sl .no 1 (a1.map (cL 3 WireFault.cells))), (2, .i a2), (3, .i a3), (4, .ep (Wire.cells a0)), (9, msn (g + 2 + 6) 1 l1.length), (10, .i v4)]) _ _
  replace hS : St (· < g) H0 ([] ++ thawN (g + 2 + 6) l1.length (v5.map cI)) H g3 := hS
  replace hM : ref11_tally_l1_b n a0 a1 a2 a3 (ref11_tally_l1 n a0 a1 a2 a3 m3) v4 v5 = some r := hM
  refine r_seq ?_
  refine r_seq ?_
  refine r_region (n := 4) rfl ?_
  refine o_move (v := .i v4) (by decide) rfl ?_
  refine o_move (v := .sl .no 1 (a1.map (cL 3 WireFault.cells))) (by decide) rfl ?_
  refine o_len (n := a1.length) (by decide) rfl (List.length_map _) ty_isl68 ?_
  refine o_int (v := .b (decide (v4 < (a1.length : Int)))) (by decide) rfl rfl rfl ?_
  refine run_nil ?_
  refine w_next [(1, .sl .no 1 (a1.map (cL 3 WireFault.cells))), (2, .i a2), (3, .i a3), (4, .ep (Wire.cells a0)), (9, msn (g + 2 + 6) 1 l1.length), (10, .i v4), (21, .b (decide (v4 < (a1.length : Int))))] (.k (.k (.k (.k (.k (.k (.k .nil))))))) ?_
  rcases Bool.eq_false_or_eq_true (decide (v4 < (a1.length : Int))) with hb6 | hb6
  ·replace hM := ifT hM hb6
   refine w_condT (e := (decide (v4 < (a1.length : Int)))) rfl hb6 ?_
   refine r_skip ?_
   refine w_next [(1, .sl .no 1 (a1.map (cL 3 WireFault.cells))), (2, .i a2), (3, .i a3), (4, .ep (Wire.cells a0)), (9, msn (g + 2 + 6) 1 l1.length), (10, .i v4)] (.k (.k (.k (.k (.k (.k .nil)))))) ?_
   refine r_seq ?_
   refine r_block ?_
   have hS0 := hS
   refine r_draw (n := 15) rfl (by kernel_rfl) ?_
   refine o_move (v := msn (g + 2 + 6) 1 l1.length) (by decide) rfl ?_
   refine o_loadE (v := .agg (Wire.cells a0)) (by decide) rfl (part_agg ty_agg24 (Nat.le_of_ble_eq_true rfl) rfl) ?_
   refine o_move (v := .sl .no 1 (a1.map (cL 3 WireFault.cells))) (by decide) rfl ?_
   refine o_move (v := .i v4) (by decide) rfl ?_
   obtain ⟨x7, hx7, hM⟩ := bindE hM
   refine o_index (xs := a1) (f := (cL 3 WireFault.cells)) (z := v4) (u := x7) (by decide) rfl rfl ty_es68 hx7 ?_
   refine o_loadE (v := .sl .no 3 (x7.map WireFault.cells)) (by decide) rfl (part_one ty_agg31 ty_sc31 rfl) ?_
   refine o_move (v := .i a2) (by decide) rfl ?_
   refine o_move (v := .i a3) (by decide) rfl ?_
   obtain ⟨r8, hr8, hM⟩ := bindE hM
   refine o_call (bs := [.agg (Wire.cells a0), .sl .no 3 (x7.map WireFault.cells), .i a2, .i a3]) (by decide) rfl rfl ((W_ref11_PlaysOf hr8).le (.k (.k (.k (.k .nil))))) ?_
   refine o_int (v := .i (w64 (r8 + 1))) (by decide) rfl rfl rfl ?_
   obtain ⟨x9, hx9, hM⟩ := bindE hM
   refine o_indexM (xs := v5) (f := cI) (z := (w64 (r8 + 1))) (u := x9) hS (by decide) rfl rfl ty_es39 hx9 ?_
   refine o_loadM (xs := v5) (z := (w64 (r8 + 1))) (u := x9) hS (by decide) rfl hx9 (.tl hS0 hx9 (by omega)) ty_agg3 ty_sc3 ?_
   refine o_int (v := .i (w64 (x9 + 1))) (by decide) rfl rfl rfl ?_
   obtain ⟨x10, hx10, hM⟩ := bindE hM
   refine o_indexM (xs := v5) (f := cI) (z := (w64 (r8 + 1))) (u := x10) hS (by decide) rfl rfl ty_es39 hx10 ?_
   refine o_storeM (xs := v5) (z := (w64 (r8 + 1))) (u := x10) (v := (w64 (x9 + 1))) hS rfl hx10 (.tl hS0 hx10 (by omega)) rfl ty_var3 fun H hS => ?_
   refine run_nil ?_
   refine r_blk_normal ?_
   refine w_next [(1, .sl .no 1 (a1.map (cL 3 WireFault.cells))), (2, .i a2), (3, .i a3), (4, .ep (Wire.cells a0)), (9, msn (g + 2 + 6) 1 l1.length), (10, .i v4)] (.k (.k (.k (.k (.k (.k .nil)))))) ?_
   refine r_region (n := 3) rfl ?_
   refine o_move (v := .i v4) (by decide) rfl ?_
   refine o_int (v := .i (w64 (v4 + 1))) (by decide) rfl rfl rfl ?_
   refine o_assign (v := .i (w64 (v4 + 1))) (by decide) rfl ?_
   refine run_nil ?_
   exact w_round (w64 (v4 + 1), (v5.set (Int.toNat (w64 (r8 + 1))) (w64 (x9 + 1)))) (Nat.lt_succ_self _) (.k (.k (.k (.k (.k (.k .nil)))))) ⟨(hS.keep [] rfl).up (by omega), hM⟩
  ·replace hM := ifF hM hb6
   refine w_condF (e := (decide (v4 < (a1.length : Int)))) rfl hb6 ?_
   refine r_exit ?_
   refine r_then_exit ?_
   refine w_round_exit ?_
   refine r_blk_exit ?_
   exact w_gotoT Try.prog (t := 9) hS rfl (by decide) (each_map (fun _ => rfl)) (fl_map (fun x => (fl_cons fl_nil))) v5 (.k .nil) (fun H hS => ⟨(hS.keep [] rfl).up (by omega), hM⟩)
theorem W_ref11_Shows {n : Nat} {a0 : Wire} {a1 : Int} {a2 : Int} {r : (List Int) × Int} (hM : ref11_Shows n a0 a1 a2 = some r) : PureSat Try.prog 29 [.agg (Wire.cells a0), .i a1, .i a2] (.tup [.sl .no 1 (r.1.map cI), .i r.2]) := by
 refine pure_of_wp mixed Try.func29 rfl (by decide) Try.ntmps29 (by simp) ?pure fun H0 g hf => ?_
 case pure => exact .tup _ (pl_cons (.sl _ _ (pures_map (fun x => (pl_cons (.v _) pl_nil)))) (pl_cons (.v _) pl_nil))
 rw [frame0_of]
 change wpA _ _ _ _ (Fr.of [(0, .agg (Wire.cells a0)), (1, .i a1), (2, .i a2)]) H0 g
 have hS := St.start hf
 refine r_seq ?_
 refine r_region (n := 3) rfl ?_
 refine o_box (v := .agg (Wire.cells a0)) (cs := (Wire.cells a0)) hS (by decide) rfl rfl (by omega) fun H hS => ?_
 refine o_assign (v := .sl .nil 0 []) (by decide) rfl ?_
 refine o_assign (v := .i 0) (by decide) rfl ?_
 refine run_nil ?_
 refine w_iceE (L' := []) 0 3 hS rfl rfl rfl fun H hS => ?_
 refine w_next [(1, .i a1), (2, .i a2), (3, .ep (Wire.cells a0))] (.k (.k (.k .nil))) ?_
 refine r_seq ?_
 have hS0 := hS
 refine r_draw (n := 11) rfl (by kernel_rfl) ?_
 refine o_loadE (v := .agg (Wire.cells a0)) (by decide) rfl (part_agg ty_agg24 (Nat.le_of_ble_eq_true rfl) rfl) ?_
 refine o_loadE (v := .agg (Wire.cells a0)) (by decide) rfl (part_agg ty_agg24 (Nat.le_of_ble_eq_true rfl) rfl) ?_
 refine o_move (v := .i a1) (by decide) rfl ?_
 refine o_move (v := .i a2) (by decide) rfl ?_
 obtain ⟨r1, hr1, hM⟩ := bindE hM
 refine o_call (bs := [.agg (Wire.cells a0), .i a1, .i a2]) (by decide) rfl rfl ((W_ref11_IsButton hr1).le (.k (.k (.k .nil)))) ?_
 obtain ⟨r2, hr2, hM⟩ := bindE hM
 refine o_call (bs := [.agg (Wire.cells a0), .b r1]) (by decide) rfl rfl ((W_ref11_truths hr2).le (.k (.k .nil))) ?_
 refine o_move (v := .tup [.sl .no 1 (r2.1.map (cL 3 WireFault.cells)), .i r2.2]) (by decide) rfl ?_
 refine o_extract (v := .sl .no 1 (r2.1.map (cL 3 WireFault.cells))) (by decide) rfl rfl ?_
 refine o_extract (v := .i r2.2) (by decide) rfl rfl ?_
 refine o_assign (v := .sl .no 1 (r2.1.map (cL 3 WireFault.cells))) (by decide) rfl ?_
 refine o_assign (v := .i r2.2) (by decide) rfl ?_
 refine run_nil ?_
 refine w_next [(1, .i a1), (2, .i a2), (3, .ep (Wire.cells a0)), (8, .sl .no 1 (r2.1.map (cL 3 WireFault.cells))), (9, .i r2.2)] (.k (.k (.k (.k (.k .nil))))) ?_
 refine r_seq ?_
 refine r_seq ?_
 refine r_region (n := 2) rfl ?_
 refine o_move (v := .i r2.2) (by decide) rfl ?_
 refine o_int (v := .b (r2.2 != 0)) (by decide) rfl rfl rfl ?_
 refine run_nil ?_
 refine w_next [(1, .i a1), (2, .i a2), (3, .ep (Wire.cells a0)), (8, .sl .no 1 (r2.1.map (cL 3 WireFault.cells))), (9, .i r2.2), (23, .b (r2.2 != 0))] (.k (.k (.k (.k (.k (.k .nil)))))) ?_
 rcases Bool.eq_false_or_eq_true (r2.2 != 0) with hb3 | hb3
 ·replace hM := ifT hM hb3
  refine w_condT (e := (r2.2 != 0)) rfl hb3 ?_
  refine r_seq ?_
  refine r_region (n := 3) rfl ?_
  refine o_move (v := .i r2.2) (by decide) rfl ?_
  refine o_assign (v := .sl .nil 0 []) (by decide) rfl ?_
  refine o_assign (v := .i r2.2) (by decide) rfl ?_
  refine run_nil ?_
  refine w_next [(6, .sl .nil 0 []), (7, .i r2.2)] (.k (.k .nil)) ?_
  refine r_ret ?_
  refine r_then_ret ?_
  refine w_end (x := .tup [.sl .nil 0 [], .i r2.2]) (f := fun r => .tup [.sl .no 1 (r.1.map cI), .i r.2]) (.inr rfl) ?_ (.tupL (.cons (.sl0 .nil 1 0) (.k .nil))) (Option.some.inj hM) hS
  exact (res_two (res_tmp (x := .sl .nil 0 []) rfl) (res_tmp (x := .i r2.2) rfl))
 ·replace hM := ifF hM hb3
  refine w_condF (e := (r2.2 != 0)) rfl hb3 ?_
  refine r_skip ?_
  refine w_next [(1, .i a1), (2, .i a2), (3, .ep (Wire.cells a0)), (8, .sl .no 1 (r2.1.map (cL 3 WireFault.cells)))] (.k (.k (.k (.k .nil)))) ?_
  refine r_seq ?_
  refine r_region (n := 1) rfl ?_
  refine o_assign (v := .sl .nil 0 []) (by decide) rfl ?_
  refine run_nil ?_
  refine w_own [(1, .i a1), (2, .i a2), (3, .ep (Wire.cells a0)), (8, .sl .no 1 (r2.1.map (cL 3 WireFault.cells))), (10, .sl (.id (g + 3 + 11 + 2 + 1)) 1 (([] : List Int).map cI))] 10 1 3 hS (by omega) (by decide) rfl (.k (.k (.k (.k (.k .nil))))) fun H hS => ?_
  refine r_seq ?_
  refine r_region (n := 6) rfl ?_
  refine o_loadE (v := .agg (Wire.cells a0)) (by decide) rfl (part_agg ty_agg24 (Nat.le_of_ble_eq_true rfl) rfl) ?_
  refine o_move (v := .sl .no 1 (r2.1.map (cL 3 WireFault.cells))) (by decide) rfl ?_
  refine o_move (v := .i a1) (by decide) rfl ?_
  refine o_move (v := .i a2) (by decide) rfl ?_
  obtain ⟨r4, hr4, hM⟩ := bindE hM
  refine o_call (bs := [.agg (Wire.cells a0), .sl .no 1 (r2.1.map (cL 3 WireFault.cells)), .i a1, .i a2]) (by decide) rfl rfl ((W_ref11_tally hr4).le (.k (.k (.k (.k .nil))))) ?_
  refine o_assign (v := .sl .no 1 (r4.map cI)) (by decide) rfl ?_
  refine run_nil ?_
  refine w_next [(10, .sl (.id (g + 3 + 11 + 2 + 1)) 1 (([] : List Int).map cI)), (11, .sl .no 1 (r4.map cI))] (.k (.k .nil)) ?_
  refine w_join (J := (List Int)) (fun j => [(10, .sl (.id (g + 3 + 11 + 2 + 1)) 1 (j.map cI))]) (fun j H' g' => St (· < g) H0 [(g + 3 + 11 + 2 + 1, .row 3 j.length)] H' g' ∧ ref11_Shows_j1 j = some r) ?_ ?_
  ·rintro v5 H g1 ⟨hS, hM⟩
   change wpA _ _ _ _ (Fr.of [(10, .sl (.id (g + 3 + 11 + 2 + 1)) 1 (v5.map cI))]) _ _
   replace hS : St (· < g) H0 [(g + 3 + 11 + 2 + 1, .row 3 v5.length)] H g1 := hS
   replace hM : ref11_Shows_j1 v5 = some r := hM
   refine r_seq ?_
   refine r_region (n := 3) rfl ?_
   refine o_move (v := .sl (.id (g + 3 + 11 + 2 + 1)) 1 (v5.map cI)) (by decide) rfl ?_
   refine o_assign (v := .sl (.id (g + 3 + 11 + 2 + 1)) 1 (v5.map cI)) (by decide) rfl ?_
   refine o_assign (v := .i 0) (by decide) rfl ?_
   refine run_nil ?_
   refine w_next [(6, .sl (.id (g + 3 + 11 + 2 + 1)) 1 (v5.map cI)), (7, .i 0)] (.k (.k .nil)) ?_
   refine r_ret ?_
   refine w_end (x := .tup [.sl (.id (g + 3 + 11 + 2 + 1)) 1 (v5.map cI), .i 0]) (f := fun r => .tup [.sl .no 1 (r.1.map cI), .i r.2]) (.inr rfl) ?_ (.tupL (.cons (.sl _ _ _) (.k .nil))) (Option.some.inj hM) hS
   exact (res_two (res_tmp (x := .sl (.id (g + 3 + 11 + 2 + 1)) 1 (v5.map cI)) rfl) (res_tmp (x := .i 0) rfl))
  ·refine r_seq ?_
   refine r_region (n := 1) rfl ?_
   refine o_assign (v := .i 0) (by decide) rfl ?_
   refine run_nil ?_
   refine w_next [(10, .sl (.id (g + 3 + 11 + 2 + 1)) 1 (([] : List Int).map cI)), (11, .sl .no 1 (r4.map cI)), (12, .i 0)] (.k (.k (.k .nil))) ?_
   refine r_block ?_
   refine w_loop (V := (List Int) × Int) (fun v => [(10, .sl (.id (g + 3 + 11 + 2 + 1)) 1 (v.1.map cI)), (11, .sl .no 1 (r4.map cI)), (12, .i v.2)]) (fun v m2 H' g' => St (· < g) H0 [(g + 3 + 11 + 2 + 1, .row 3 v.1.length)] H' g' ∧ ref11_Shows_l1 r4 m2 v.1 v.2 = some r) (n := n) (([] : List Int), 0) (.k (.k (.k .nil))) ⟨(hS.keep [true] rfl).up (by omega), hM⟩ ?_
   rintro ⟨v6, v7⟩ m2 H g2 ⟨hS, hM⟩
   obtain _ | m2 := m2
   ·exact nomatch (show none = some _ from hM)
   change wpA _ _ _ _ (Fr.of [(10, .sl (.id (g + 3 + 11 + 2 + 1)) 1 (v6.map cI)), (11, .sl .no 1 (r4.map cI)), (12, .i v7)]) _ _
   replace hS : St (· < g) H0 [(g + 3 + 11 + 2 + 1, .row 3 v6.length)] H g2 := hS
   replace hM : ref11_Shows_l1_b r4 (ref11_Shows_l1 r4 m2) v6 v7 = some r := hM
   refine r_seq ?_
   refine r_seq ?_
   refine r_region (n := 4) rfl ?_
   refine o_move (v := .i v7) (by decide) rfl ?_
   refine o_move (v := .sl .no 1 (r4.map cI)) (by decide) rfl ?_
   refine o_len (n := r4.length) (by decide) rfl (List.length_map _) ty_isl39 ?_
   refine o_int (v := .b (decide (v7 < (r4.length : Int)))) (by decide) rfl rfl rfl ?_
   refine run_nil ?_
   refine w_next [(10, .sl (.id (g + 3 + 11 + 2 + 1)) 1 (v6.map cI)), (11, .sl .no 1 (r4.map cI)), (12, .i v7), (33, .b (decide (v7 < (r4.length : Int))))] (.k (.k (.k (.k .nil)))) ?_
   rcases Bool.eq_false_or_eq_true (decide (v7 < (r4.length : Int))) with hb8 | hb8
   ·replace hM := ifT hM hb8
    refine w_condT (e := (decide (v7 < (r4.length : Int)))) rfl hb8 ?_
    refine r_skip ?_
    refine w_next [(10, .sl (.id (g + 3 + 11 + 2 + 1)) 1 (v6.map cI)), (11, .sl .no 1 (r4.map cI)), (12, .i v7)] (.k (.k (.k .nil))) ?_
    refine w_join (J := (List Int)) (fun j => [(10, .sl (.id (g + 3 + 11 + 2 + 1)) 1 (j.map cI)), (11, .sl .no 1 (r4.map cI)), (12, .i v7)]) (fun j H' g' => St (· < g) H0 [(g + 3 + 11 + 2 + 1, .row 3 j.length)] H' g' ∧ ref11_Shows_j2 (ref11_Shows_l1 r4 m2) v7 j = some r) ?_ ?_
    ·rintro v9 H g3 ⟨hS, hM⟩
     change wpA _ _ _ _ (Fr.of [(10, .sl (.id (g + 3 + 11 + 2 + 1)) 1 (v9.map cI)), (11, .sl .no 1 (r4.map cI)), (12, .i v7)]) _ _
     replace hS : St (· < g) H0 [(g + 3 + 11 + 2 + 1, .row 3 v9.length)] H g3 := hS
     replace hM : ref11_Shows_j2 (ref11_Shows_l1 r4 m2) v7 v9 = some r := hM
     refine r_region (n := 3) rfl ?_
     refine o_move (v := .i v7) (by decide) rfl ?_
     refine o_int (v := .i (w64 (v7 + 1))) (by decide) rfl rfl rfl ?_
     refine o_assign (v := .i (w64 (v7 + 1))) (by decide) rfl ?_
     refine run_nil ?_
     exact w_round (v9, w64 (v7 + 1)) (Nat.lt_succ_self _) (.k (.k (.k .nil))) ⟨(hS.keep [true] rfl).up (by omega), hM⟩
    ·refine r_block ?_
     refine r_seq ?_
     refine r_region (n := 5) rfl ?_
     refine o_move (v := .sl .no 1 (r4.map cI)) (by decide) rfl ?_
     refine o_move (v := .i v7) (by decide) rfl ?_
     obtain ⟨x10, hx10, hM⟩ := bindE hM
     refine o_index (xs := r4) (f := cI) (z := v7) (u := x10) (by decide) rfl rfl ty_es39 hx10 ?_
     refine o_loadE (v := .i x10) (by decide) rfl (part_one ty_agg3 ty_sc3 rfl) ?_
     refine o_int (v := .b (decide (x10 > 0))) (by decide) rfl rfl rfl ?_
     refine run_nil ?_
     refine w_next [(10, .sl (.id (g + 3 + 11 + 2 + 1)) 1 (v6.map cI)), (11, .sl .no 1 (r4.map cI)), (12, .i v7), (40, .b (decide (x10 > 0)))] (.k (.k (.k (.k .nil)))) ?_
     rcases Bool.eq_false_or_eq_true (decide (x10 > 0)) with hb11 | hb11
     ·replace hM := ifT hM hb11
      refine w_condT (e := (decide (x10 > 0))) rfl hb11 ?_
      refine r_region (n := 6) rfl ?_
      refine o_move (v := .sl (.id (g + 3 + 11 + 2 + 1)) 1 (v6.map cI)) (by decide) rfl ?_
      refine o_move (v := .i v7) (by decide) rfl ?_
      refine o_int (v := .i (w64 (v7 - 1))) (by decide) rfl rfl rfl ?_
      refine o_buildSlice (es := [[.i (w64 (v7 - 1))]]) hS (by decide) ty_es39 ty_el39 rfl ty_ef39 rfl (by decide) (by omega) fun H hS => ?_
      obtain ⟨l12, hl12, hM⟩ := bindE hM
      refine o_append (xs := v6) (ys := ([w64 (v7 - 1)] : List Int)) (zs := l12) (f := cI) (L' := [(g2 + 4 + 5 + 3, .row 3 1), (g + 3 + 11 + 2 + 1, .row 3 l12.length)]) 1 hS (by decide) rfl rfl rfl rfl .no ty_es39 ty_el39 ty_ef39 hl12 rfl fun H hS => ?_
      refine o_assign (v := .sl (.id (g + 3 + 11 + 2 + 1)) 1 (l12.map cI)) (by decide) rfl ?_
      refine run_nil ?_
      refine r_blk_normal ?_
      exact w_goto l12 (.k (.k (.k .nil))) ⟨(hS.keep [false, true] rfl).up (by omega), hM⟩
     ·replace hM := ifF hM hb11
      refine w_condF (e := (decide (x10 > 0))) rfl hb11 ?_
      refine r_skip ?_
      refine r_blk_normal ?_
      exact w_goto v6 (.k (.k (.k .nil))) ⟨(hS.keep [true] rfl).up (by omega), hM⟩
   ·replace hM := ifF hM hb8
    refine w_condF (e := (decide (v7 < (r4.length : Int)))) rfl hb8 ?_
    refine r_exit ?_
    refine r_then_exit ?_
    refine w_round_exit ?_
    refine r_blk_exit ?_
    exact w_goto v6 (.k .nil) ⟨(hS.keep [true] rfl).up (by omega), hM⟩
theorem W_wires_Left {n : Nat} {a0 : Wire} {a1 : Int} {a2 : Int} {r : Int × Int} (hM : wires_Left n a0 a1 a2 = some r) : PureSat Try.prog 30 [.agg (Wire.cells a0), .i a1, .i a2] (.tup [.i r.1, .i r.2]) := by
 refine pure_of_wp mixed Try.func30 rfl (by decide) Try.ntmps30 (by simp) ?pure fun H0 g hf => ?_
 case pure => exact .tup _ (pl_cons (.v _) (pl_cons (.v _) pl_nil))
 rw [frame0_of]
 change wpA _ _ _ _ (Fr.of [(0, .agg (Wire.cells a0)), (1, .i a1), (2, .i a2)]) H0 g
 have hS := St.start hf
 refine r_seq ?_
 refine r_region (n := 3) rfl ?_
 refine o_box (v := .agg (Wire.cells a0)) (cs := (Wire.cells a0)) hS (by decide) rfl rfl (by omega) fun H hS => ?_
 refine o_assign (v := .i 0) (by decide) rfl ?_
 refine o_assign (v := .i 0) (by decide) rfl ?_
 refine run_nil ?_
 refine w_iceE (L' := []) 0 3 hS rfl rfl rfl fun H hS => ?_
 refine w_next [(1, .i a1), (2, .i a2), (3, .ep (Wire.cells a0))] (.k (.k (.k .nil))) ?_
 refine r_seq ?_
 have hS0 := hS
 refine r_draw (n := 11) rfl (by kernel_rfl) ?_
 refine o_loadE (v := .agg (Wire.cells a0)) (by decide) rfl (part_agg ty_agg24 (Nat.le_of_ble_eq_true rfl) rfl) ?_
 refine o_loadE (v := .agg (Wire.cells a0)) (by decide) rfl (part_agg ty_agg24 (Nat.le_of_ble_eq_true rfl) rfl) ?_
 refine o_move (v := .i a1) (by decide) rfl ?_
 refine o_move (v := .i a2) (by decide) rfl ?_
 obtain ⟨r1, hr1, hM⟩ := bindE hM
 refine o_call (bs := [.agg (Wire.cells a0), .i a1, .i a2]) (by decide) rfl rfl ((W_wires_isPress hr1).le (.k (.k (.k .nil)))) ?_
 obtain ⟨r2, hr2, hM⟩ := bindE hM
 refine o_call (bs := [.agg (Wire.cells a0), .b r1]) (by decide) rfl rfl ((W_wires_ask hr2).le (.k (.k .nil))) ?_
 refine o_move (v := .tup [pA Wiring_.cells r2.1, .i r2.2]) (by decide) rfl ?_
 refine o_extract (v := pA Wiring_.cells r2.1) (by decide) rfl rfl ?_
 refine o_extract (v := .i r2.2) (by decide) rfl rfl ?_
 refine o_assign (v := pA Wiring_.cells r2.1) (by decide) rfl ?_
 refine o_assign (v := .i r2.2) (by decide) rfl ?_
 refine run_nil ?_
 refine w_next [(1, .i a1), (2, .i a2), (8, pA Wiring_.cells r2.1), (9, .i r2.2)] (.k (.k (.k (.k .nil)))) ?_
 refine r_seq ?_
 refine r_seq ?_
 refine r_region (n := 2) rfl ?_
 refine o_move (v := .i r2.2) (by decide) rfl ?_
 refine o_int (v := .b (r2.2 != 0)) (by decide) rfl rfl rfl ?_
 refine run_nil ?_
 refine w_next [(1, .i a1), (2, .i a2), (8, pA Wiring_.cells r2.1), (9, .i r2.2), (20, .b (r2.2 != 0))] (.k (.k (.k (.k (.k .nil))))) ?_
 rcases Bool.eq_false_or_eq_true (r2.2 != 0) with hb3 | hb3
 ·replace hM := ifT hM hb3
  refine w_condT (e := (r2.2 != 0)) rfl hb3 ?_
  refine r_seq ?_
  refine r_region (n := 3) rfl ?_
  refine o_move (v := .i r2.2) (by decide) rfl ?_
  refine o_assign (v := .i 0) (by decide) rfl ?_
  refine o_assign (v := .i r2.2) (by decide) rfl ?_
  refine run_nil ?_
  refine w_next [(6, .i 0), (7, .i r2.2)] (.k (.k .nil)) ?_
  refine r_ret ?_
  refine r_then_ret ?_
  refine w_end (x := .tup [.i 0, .i r2.2]) (f := fun r => .tup [.i r.1, .i r.2]) (.inr rfl) ?_ (.refl _) (Option.some.inj hM) hS
  exact (res_two (res_tmp (x := .i 0) rfl) (res_tmp (x := .i r2.2) rfl))
 ·replace hM := ifF hM hb3
  refine w_condF (e := (r2.2 != 0)) rfl hb3 ?_
  refine r_skip ?_
  refine w_next [(1, .i a1), (2, .i a2), (8, pA Wiring_.cells r2.1)] (.k (.k (.k .nil))) ?_
  refine r_seq ?_
  refine r_region (n := 6) rfl ?_
  refine o_move (v := pA Wiring_.cells r2.1) (by decide) rfl ?_
  refine o_move (v := .i a1) (by decide) rfl ?_
  refine o_move (v := .i a2) (by decide) rfl ?_
  obtain ⟨r4, hr4, hM⟩ := bindE hM
  refine o_call (bs := [pA Wiring_.cells r2.1, .i a1, .i a2]) (by decide) rfl rfl ((W_wires_wiring_left hr4).le (.k (.k (.k .nil)))) ?_
  refine o_assign (v := .i r4) (by decide) rfl ?_
  refine o_assign (v := .i 0) (by decide) rfl ?_
  refine run_nil ?_
  refine w_next [(6, .i r4), (7, .i 0)] (.k (.k .nil)) ?_
  refine r_ret ?_
  refine w_end (x := .tup [.i r4, .i 0]) (f := fun r => .tup [.i r.1, .i r.2]) (.inr rfl) ?_ (.refl _) (Option.some.inj hM) hS
  exact (res_two (res_tmp (x := .i r4) rfl) (res_tmp (x := .i 0) rfl))
theorem W_ref11_most {n : Nat} {a0 : List Int} {r : Int} (hM : ref11_most n a0 = some r) : PureSat Try.prog 67 [.sl .no 1 (a0.map cI)] (.i r) := by
 refine pure_of_wp mixed Try.func67 rfl (by decide) Try.ntmps67 (by simp) ?pure fun H0 g hf => ?_
 case pure => exact .v _
 rw [frame0_of]
 change wpA _ _ _ _ (Fr.of [(0, .sl .no 1 (a0.map cI))]) H0 g
 have hS := St.start hf
 refine r_seq ?_
 refine r_region (n := 1) rfl ?_
 refine o_assign (v := .i 0) (by decide) rfl ?_
 refine run_nil ?_
 refine w_next [(0, .sl .no 1 (a0.map cI))] (.k .nil) ?_
 refine r_seq ?_
 refine r_region (n := 1) rfl ?_
 refine o_assign (v := .i 0) (by decide) rfl ?_
 refine run_nil ?_
 refine w_next [(0, .sl .no 1 (a0.map cI)), (3, .i 0)] (.k (.k .nil)) ?_
 refine w_join (J := Int) (fun j => [(3, .i j)]) (fun j H' g' => St (· < g) H0 [] H' g' ∧ ref11_most_j1 j = some r) ?_ ?_
 ·rintro v1 H g1 ⟨hS, hM⟩
  change wpA _ _ _ _ (Fr.of [(3, .i v1)]) _ _
  replace hS : St (· < g) H0 [] H g1 := hS
  replace hM : ref11_most_j1 v1 = some r := hM
  refine r_seq ?_
  refine r_region (n := 2) rfl ?_
  refine o_move (v := .i v1) (by decide) rfl ?_
  refine o_assign (v := .i v1) (by decide) rfl ?_
  refine run_nil ?_
  refine w_next [(2, .i v1)] (.k .nil) ?_
  refine r_ret ?_
  refine w_end (x := .i v1) (f := fun r => .i r) (.inr rfl) ?_ (.refl _) (Option.some.inj hM) hS
  exact (res_one (res_tmp (x := .i v1) rfl))
 ·refine r_seq ?_
  refine r_region (n := 1) rfl ?_
  refine o_assign (v := .i 0) (by decide) rfl ?_
  refine run_nil ?_
  refine w_next [(0, .sl .no 1 (a0.map cI)), (3, .i 0), (4, .i 0)] (.k (.k (.k .nil))) ?_
  refine r_block ?_
  refine w_loop (V := Int × Int) (fun v => [(0, .sl .no 1 (a0.map cI)), (3, .i v.1), (4, .i v.2)]) (fun v m2 H' g' => St (· < g) H0 [] H' g' ∧ ref11_most_l1 a0 m2 v.1 v.2 = some r) (n := n) (0, 0) (.k (.k (.k .nil))) ⟨(hS.keep [] rfl).up (by omega), hM⟩ ?_
  rintro ⟨v2, v3⟩ m2 H g2 ⟨hS, hM⟩
  obtain _ | m2 := m2
  ·exact nomatch (show none = some _ from hM)
  change wpA _ _ _ _ (Fr.of [(0, .sl .no 1 (a0.map cI)), (3, .i v2), (4, .i v3)]) _ _
  replace hS : St (· < g) H0 [] H g2 := hS
  replace hM : ref11_most_l1_b a0 (ref11_most_l1 a0 m2) v2 v3 = some r := hM
  refine r_seq ?_
  refine r_seq ?_
  refine r_region (n := 4) rfl ?_
  refine o_move (v := .i v3) (by decide) rfl ?_
  refine o_move (v := .sl .no 1 (a0.map cI)) (by decide) rfl ?_
  refine o_len (n := a0.length) (by decide) rfl (List.length_map _) ty_isl39 ?_
  refine o_int (v := .b (decide (v3 < (a0.length : Int)))) (by decide) rfl rfl rfl ?_
  refine run_nil ?_
  refine w_next [(0, .sl .no 1 (a0.map cI)), (3, .i v2), (4, .i v3), (8, .b (decide (v3 < (a0.length : Int))))] (.k (.k (.k (.k .nil)))) ?_
  rcases Bool.eq_false_or_eq_true (decide (v3 < (a0.length : Int))) with hb4 | hb4
  ·replace hM := ifT hM hb4
   refine w_condT (e := (decide (v3 < (a0.length : Int)))) rfl hb4 ?_
   refine r_skip ?_
   refine w_next [(0, .sl .no 1 (a0.map cI)), (3, .i v2), (4, .i v3)] (.k (.k (.k .nil))) ?_
   refine r_seq ?_
   refine r_block ?_
   refine r_region (n := 7) rfl ?_
   refine o_move (v := .i v2) (by decide) rfl ?_
   refine o_move (v := .sl .no 1 (a0.map cI)) (by decide) rfl ?_
   refine o_move (v := .i v3) (by decide) rfl ?_
   obtain ⟨x5, hx5, hM⟩ := bindE hM
   refine o_index (xs := a0) (f := cI) (z := v3) (u := x5) (by decide) rfl rfl ty_es39 hx5 ?_
   refine o_loadE (v := .i x5) (by decide) rfl (part_one ty_agg3 ty_sc3 rfl) ?_
   refine o_max (v := .i (max v2 x5)) (by decide) rfl ?_
   refine o_assign (v := .i (max v2 x5)) (by decide) rfl ?_
   refine run_nil ?_
   refine r_blk_normal ?_
   refine w_next [(0, .sl .no 1 (a0.map cI)), (3, .i (max v2 x5)), (4, .i v3)] (.k (.k (.k .nil))) ?_
   refine r_region (n := 3) rfl ?_
   refine o_move (v := .i v3) (by decide) rfl ?_
   refine o_int (v := .i (w64 (v3 + 1))) (by decide) rfl rfl rfl ?_
   refine o_assign (v := .i (w64 (v3 + 1))) (by decide) rfl ?_
   refine run_nil ?_
   exact w_round ((max v2 x5), w64 (v3 + 1)) (Nat.lt_succ_self _) (.k (.k (.k .nil))) ⟨(hS.keep [] rfl).up (by omega), hM⟩
  ·replace hM := ifF hM hb4
   refine w_condF (e := (decide (v3 < (a0.length : Int)))) rfl hb4 ?_
   refine r_exit ?_
   refine r_then_exit ?_
   refine w_round_exit ?_
   refine r_blk_exit ?_
   exact w_goto v2 (.k .nil) ⟨(hS.keep [] rfl).up (by omega), hM⟩
theorem W_ref11_Left {n : Nat} {a0 : Wire} {a1 : Int} {a2 : Int} {r : Int × Int} (hM : ref11_Left n a0 a1 a2 = some r) : PureSat Try.prog 31 [.agg (Wire.cells a0), .i a1, .i a2] (.tup [.i r.1, .i r.2]) := by
 refine pure_of_wp mixed Try.func31 rfl (by decide) Try.ntmps31 (by simp) ?pure fun H0 g hf => ?_
 case pure => exact .tup _ (pl_cons (.v _) (pl_cons (.v _) pl_nil))
 rw [frame0_of]
 change wpA _ _ _ _ (Fr.of [(0, .agg (Wire.cells a0)), (1, .i a1), (2, .i a2)]) H0 g
 have hS := St.start hf
 refine r_seq ?_
 refine r_region (n := 3) rfl ?_
 refine o_box (v := .agg (Wire.cells a0)) (cs := (Wire.cells a0)) hS (by decide) rfl rfl (by omega) fun H hS => ?_
 refine o_assign (v := .i 0) (by decide) rfl ?_
 refine o_assign (v := .i 0) (by decide) rfl ?_
 refine run_nil ?_
 refine w_iceE (L' := []) 0 3 hS rfl rfl rfl fun H hS => ?_
 refine w_next [(1, .i a1), (2, .i a2), (3, .ep (Wire.cells a0))] (.k (.k (.k .nil))) ?_
 refine r_seq ?_
 have hS0 := hS
 refine r_draw (n := 11) rfl (by kernel_rfl) ?_
 refine o_loadE (v := .agg (Wire.cells a0)) (by decide) rfl (part_agg ty_agg24 (Nat.le_of_ble_eq_true rfl) rfl) ?_
 refine o_loadE (v := .agg (Wire.cells a0)) (by decide) rfl (part_agg ty_agg24 (Nat.le_of_ble_eq_true rfl) rfl) ?_
 refine o_move (v := .i a1) (by decide) rfl ?_
 refine o_move (v := .i a2) (by decide) rfl ?_
 obtain ⟨r1, hr1, hM⟩ := bindE hM
 refine o_call (bs := [.agg (Wire.cells a0), .i a1, .i a2]) (by decide) rfl rfl ((W_ref11_IsButton hr1).le (.k (.k (.k .nil)))) ?_
 obtain ⟨r2, hr2, hM⟩ := bindE hM
 refine o_call (bs := [.agg (Wire.cells a0), .b r1]) (by decide) rfl rfl ((W_ref11_truths hr2).le (.k (.k .nil))) ?_
 refine o_move (v := .tup [.sl .no 1 (r2.1.map (cL 3 WireFault.cells)), .i r2.2]) (by decide) rfl ?_
 refine o_extract (v := .sl .no 1 (r2.1.map (cL 3 WireFault.cells))) (by decide) rfl rfl ?_
 refine o_extract (v := .i r2.2) (by decide) rfl rfl ?_
 refine o_assign (v := .sl .no 1 (r2.1.map (cL 3 WireFault.cells))) (by decide) rfl ?_
 refine o_assign (v := .i r2.2) (by decide) rfl ?_
 refine run_nil ?_
 refine w_next [(1, .i a1), (2, .i a2), (3, .ep (Wire.cells a0)), (8, .sl .no 1 (r2.1.map (cL 3 WireFault.cells))), (9, .i r2.2)] (.k (.k (.k (.k (.k .nil))))) ?_
 refine r_seq ?_
 refine r_seq ?_
 refine r_region (n := 2) rfl ?_
 refine o_move (v := .i r2.2) (by decide) rfl ?_
 refine o_int (v := .b (r2.2 != 0)) (by decide) rfl rfl rfl ?_
 refine run_nil ?_
 refine w_next [(1, .i a1), (2, .i a2), (3, .ep (Wire.cells a0)), (8, .sl .no 1 (r2.1.map (cL 3 WireFault.cells))), (9, .i r2.2), (20, .b (r2.2 != 0))] (.k (.k (.k (.k (.k (.k .nil)))))) ?_
 rcases Bool.eq_false_or_eq_true (r2.2 != 0) with hb3 | hb3
 ·replace hM := ifT hM hb3
  refine w_condT (e := (r2.2 != 0)) rfl hb3 ?_
  refine r_seq ?_
  refine r_region (n := 3) rfl ?_
  refine o_move (v := .i r2.2) (by decide) rfl ?_
  refine o_assign (v := .i 0) (by decide) rfl ?_
  refine o_assign (v := .i r2.2) (by decide) rfl ?_
  refine run_nil ?_
  refine w_next [(6, .i 0), (7, .i r2.2)] (.k (.k .nil)) ?_
  refine r_ret ?_
  refine r_then_ret ?_
  refine w_end (x := .tup [.i 0, .i r2.2]) (f := fun r => .tup [.i r.1, .i r.2]) (.inr rfl) ?_ (.refl _) (Option.some.inj hM) hS
  exact (res_two (res_tmp (x := .i 0) rfl) (res_tmp (x := .i r2.2) rfl))
 ·replace hM := ifF hM hb3
  refine w_condF (e := (r2.2 != 0)) rfl hb3 ?_
  refine r_skip ?_
  refine w_next [(1, .i a1), (2, .i a2), (3, .ep (Wire.cells a0)), (8, .sl .no 1 (r2.1.map (cL 3 WireFault.cells)))] (.k (.k (.k (.k .nil)))) ?_
  refine r_seq ?_
  refine r_region (n := 8) rfl ?_
  refine o_loadE (v := .agg (Wire.cells a0)) (by decide) rfl (part_agg ty_agg24 (Nat.le_of_ble_eq_true rfl) rfl) ?_
  refine o_move (v := .sl .no 1 (r2.1.map (cL 3 WireFault.cells))) (by decide) rfl ?_
  refine o_move (v := .i a1) (by decide) rfl ?_
  refine o_move (v := .i a2) (by decide) rfl ?_
  obtain ⟨r4, hr4, hM⟩ := bindE hM
  refine o_call (bs := [.agg (Wire.cells a0), .sl .no 1 (r2.1.map (cL 3 WireFault.cells)), .i a1, .i a2]) (by decide) rfl rfl ((W_ref11_tally hr4).le (.k (.k (.k (.k .nil))))) ?_
  obtain ⟨r5, hr5, hM⟩ := bindE hM
  refine o_call (bs := [.sl .no 1 (r4.map cI)]) (by decide) rfl rfl ((W_ref11_most hr5).le (.k .nil)) ?_
  refine o_assign (v := .i r5) (by decide) rfl ?_
  refine o_assign (v := .i 0) (by decide) rfl ?_
  refine run_nil ?_
  refine w_next [(6, .i r5), (7, .i 0)] (.k (.k .nil)) ?_
  refine r_ret ?_
  refine w_end (x := .tup [.i r5, .i 0]) (f := fun r => .tup [.i r.1, .i r.2]) (.inr rfl) ?_ (.refl _) (Option.some.inj hM) hS
  exact (res_two (res_tmp (x := .i r5) rfl) (res_tmp (x := .i 0) rfl))
theorem W_ref11_Next {n : Nat} {a0 : Wire} {r : Int × Int × Int} (hM : ref11_Next n a0 = some r) : PureSat Try.prog 33 [.agg (Wire.cells a0)] (.tup [.i r.1, .i r.2.1, .i r.2.2]) := by
 refine pure_of_wp mixed Try.func33 rfl (by decide) Try.ntmps33 (by simp) ?pure fun H0 g hf => ?_
 case pure => exact .tup _ (pl_cons (.v _) (pl_cons (.v _) (pl_cons (.v _) pl_nil)))
 rw [frame0_of]
 change wpA _ _ _ _ (Fr.of [(0, .agg (Wire.cells a0))]) H0 g
 have hS := St.start hf
 refine r_seq ?_
 refine r_region (n := 4) rfl ?_
 refine o_box (v := .agg (Wire.cells a0)) (cs := (Wire.cells a0)) hS (by decide) rfl rfl (by omega) fun H hS => ?_
 refine o_assign (v := .i 0) (by decide) rfl ?_
 refine o_assign (v := .i 0) (by decide) rfl ?_
 refine o_assign (v := .i 0) (by decide) rfl ?_
 refine run_nil ?_
 refine w_iceE (L' := []) 0 1 hS rfl rfl rfl fun H hS => ?_
 refine w_next [(1, .ep (Wire.cells a0)), (2, .i 0), (3, .i 0)] (.k (.k (.k .nil))) ?_
 refine r_seq ?_
 refine r_region (n := 7) rfl ?_
 refine o_loadE (v := .agg (Wire.cells a0)) (by decide) rfl (part_agg ty_agg24 (Nat.le_of_ble_eq_true rfl) rfl) ?_
 obtain ⟨r1, hr1, hM⟩ := bindE hM
 refine o_call (bs := [.agg (Wire.cells a0), .b true]) (by decide) rfl rfl ((W_ref11_truths hr1).le (.k (.k .nil))) ?_
 refine o_move (v := .tup [.sl .no 1 (r1.1.map (cL 3 WireFault.cells)), .i r1.2]) (by decide) rfl ?_
 refine o_extract (v := .sl .no 1 (r1.1.map (cL 3 WireFault.cells))) (by decide) rfl rfl ?_
 refine o_extract (v := .i r1.2) (by decide) rfl rfl ?_
 refine o_assign (v := .sl .no 1 (r1.1.map (cL 3 WireFault.cells))) (by decide) rfl ?_
 refine o_assign (v := .i r1.2) (by decide) rfl ?_
 refine run_nil ?_
 refine w_next [(1, .ep (Wire.cells a0)), (2, .i 0), (3, .i 0), (4, .i r1.2), (5, .sl .no 1 (r1.1.map (cL 3 WireFault.cells)))] (.k (.k (.k (.k (.k .nil))))) ?_
 refine r_seq ?_
 refine r_seq ?_
 refine r_region (n := 2) rfl ?_
 refine o_move (v := .i r1.2) (by decide) rfl ?_
 refine o_int (v := .b (r1.2 != 0)) (by decide) rfl rfl rfl ?_
 refine run_nil ?_
 refine w_next [(1, .ep (Wire.cells a0)), (2, .i 0), (3, .i 0), (4, .i r1.2), (5, .sl .no 1 (r1.1.map (cL 3 WireFault.cells))), (16, .b (r1.2 != 0))] (.k (.k (.k (.k (.k (.k .nil)))))) ?_
 rcases Bool.eq_false_or_eq_true (r1.2 != 0) with hb2 | hb2
 ·replace hM := ifT hM hb2
  refine w_condT (e := (r1.2 != 0)) rfl hb2 ?_
  refine r_seq ?_
  refine r_region (n := 4) rfl ?_
  refine o_move (v := .i r1.2) (by decide) rfl ?_
  refine o_assign (v := .i 0) (by decide) rfl ?_
  refine o_assign (v := .i 0) (by decide) rfl ?_
  refine o_assign (v := .i r1.2) (by decide) rfl ?_
  refine run_nil ?_
  refine w_next [(2, .i 0), (3, .i 0), (4, .i r1.2)] (.k (.k (.k .nil))) ?_
  refine r_ret ?_
  refine r_then_ret ?_
  refine w_end (x := .tup [.i 0, .i 0, .i r1.2]) (f := fun r => .tup [.i r.1, .i r.2.1, .i r.2.2]) (.inr rfl) ?_ (.refl _) (Option.some.inj hM) hS
  exact (res_three (res_tmp (x := .i 0) rfl) (res_tmp (x := .i 0) rfl) (res_tmp (x := .i r1.2) rfl))
 ·replace hM := ifF hM hb2
  refine w_condF (e := (r1.2 != 0)) rfl hb2 ?_
  refine r_skip ?_
  refine w_next [(1, .ep (Wire.cells a0)), (2, .i 0), (3, .i 0), (5, .sl .no 1 (r1.1.map (cL 3 WireFault.cells)))] (.k (.k (.k (.k .nil)))) ?_
  refine r_seq ?_
  refine r_region (n := 3) rfl ?_
  refine o_move (v := .sl .no 1 (r1.1.map (cL 3 WireFault.cells))) (by decide) rfl ?_
  refine o_len (n := r1.1.length) (by decide) rfl (List.length_map _) ty_isl68 ?_
  refine o_assign (v := .i (r1.1.length : Int)) (by decide) rfl ?_
  refine run_nil ?_
  refine w_next [(1, .ep (Wire.cells a0)), (2, .i 0), (3, .i 0), (5, .sl .no 1 (r1.1.map (cL 3 WireFault.cells))), (6, .i (r1.1.length : Int))] (.k (.k (.k (.k (.k .nil))))) ?_
  refine w_join (J := Int × Int × Int) (fun j => [(2, .i j.1), (3, .i j.2.1), (5, .sl .no 1 (r1.1.map (cL 3 WireFault.cells))), (6, .i j.2.2)]) (fun j H' g' => St (· < g) H0 [] H' g' ∧ ref11_Next_j1 r1 j.1 j.2.1 j.2.2 = some r) ?_ ?_
  ·rintro ⟨v3, v4, v5⟩ H g1 ⟨hS, hM⟩
   change wpA _ _ _ _ (Fr.of [(2, .i v3), (3, .i v4), (5, .sl .no 1 (r1.1.map (cL 3 WireFault.cells))), (6, .i v5)]) _ _
   replace hS : St (· < g) H0 [] H g1 := hS
   replace hM : ref11_Next_j1 r1 v3 v4 v5 = some r := hM
   refine r_seq ?_
   refine r_seq ?_
   refine r_region (n := 4) rfl ?_
   refine o_move (v := .i v5) (by decide) rfl ?_
   refine o_move (v := .sl .no 1 (r1.1.map (cL 3 WireFault.cells))) (by decide) rfl ?_
   refine o_len (n := r1.1.length) (by decide) rfl (List.length_map _) ty_isl68 ?_
   refine o_int (v := .b (v5 == (r1.1.length : Int))) (by decide) rfl rfl rfl ?_
   refine run_nil ?_
   refine w_next [(2, .i v3), (3, .i v4), (47, .b (v5 == (r1.1.length : Int)))] (.k (.k (.k .nil))) ?_
   rcases Bool.eq_false_or_eq_true (v5 == (r1.1.length : Int)) with hb6 | hb6
   ·replace hM := ifT hM hb6
    refine w_condT (e := (v5 == (r1.1.length : Int))) rfl hb6 ?_
    refine r_seq ?_
    refine r_region (n := 3) rfl ?_
    refine o_assign (v := .i 0) (by decide) rfl ?_
    refine o_assign (v := .i 0) (by decide) rfl ?_
    refine o_assign (v := .i 3) (by decide) rfl ?_
    refine run_nil ?_
    refine w_next [(2, .i 0), (3, .i 0), (4, .i 3)] (.k (.k (.k .nil))) ?_
    refine r_ret ?_
    refine r_then_ret ?_
    refine w_end (x := .tup [.i 0, .i 0, .i 3]) (f := fun r => .tup [.i r.1, .i r.2.1, .i r.2.2]) (.inr rfl) ?_ (.refl _) (Option.some.inj hM) hS
    exact (res_three (res_tmp (x := .i 0) rfl) (res_tmp (x := .i 0) rfl) (res_tmp (x := .i 3) rfl))
   ·replace hM := ifF hM hb6
    refine w_condF (e := (v5 == (r1.1.length : Int))) rfl hb6 ?_
    refine r_skip ?_
    refine w_next [(2, .i v3), (3, .i v4)] (.k (.k .nil)) ?_
    refine r_seq ?_
    refine r_region (n := 5) rfl ?_
    refine o_move (v := .i v3) (by decide) rfl ?_
    refine o_move (v := .i v4) (by decide) rfl ?_
    refine o_assign (v := .i v3) (by decide) rfl ?_
    refine o_assign (v := .i v4) (by decide) rfl ?_
    refine o_assign (v := .i 0) (by decide) rfl ?_
    refine run_nil ?_
    refine w_next [(2, .i v3), (3, .i v4), (4, .i 0)] (.k (.k (.k .nil))) ?_
    refine r_ret ?_
    refine w_end (x := .tup [.i v3, .i v4, .i 0]) (f := fun r => .tup [.i r.1, .i r.2.1, .i r.2.2]) (.inr rfl) ?_ (.refl _) (Option.some.inj hM) hS
    exact (res_three (res_tmp (x := .i v3) rfl) (res_tmp (x := .i v4) rfl) (res_tmp (x := .i 0) rfl))
  ·refine r_seq ?_
   refine r_region (n := 1) rfl ?_
   refine o_assign (v := .i 0) (by decide) rfl ?_
   refine run_nil ?_
   refine w_next [(1, .ep (Wire.cells a0)), (2, .i 0), (3, .i 0), (5, .sl .no 1 (r1.1.map (cL 3 WireFault.cells))), (6, .i (r1.1.length : Int)), (7, .i 0)] (.k (.k (.k (.k (.k (.k .nil)))))) ?_
   refine r_block ?_
   refine w_loop (V := Int × Int × Int × Int) (fun v => [(1, .ep (Wire.cells a0)), (2, .i v.1), (3, .i v.2.1), (5, .sl .no 1 (r1.1.map (cL 3 WireFault.cells))), (6, .i v.2.2.1), (7, .i v.2.2.2)]) (fun v m2 H' g' => St (· < g) H0 [] H' g' ∧ ref11_Next_l1 n a0 r1 m2 v.1 v.2.1 v.2.2.1 v.2.2.2 = some r) (n := n) (0, 0, (r1.1.length : Int), 0) (.k (.k (.k (.k (.k (.k .nil)))))) ⟨(hS.keep [] rfl).up (by omega), hM⟩ ?_
   rintro ⟨v7, v8, v9, v10⟩ m2 H g2 ⟨hS, hM⟩
   obtain _ | m2 := m2
   ·exact nomatch (show none = some _ from hM)
   change wpA _ _ _ _ (Fr.of [(1, .ep (Wire.cells a0)), (2, .i v7), (3, .i v8), (5, .sl .no 1 (r1.1.map (cL 3 WireFault.cells))), (6, .i v9), (7, .i v10)]) _ _
   replace hS : St (· < g) H0 [] H g2 := hS
   replace hM : ref11_Next_l1_b n a0 r1 (ref11_Next_l1 n a0 r1 m2) v7 v8 v9 v10 = some r := hM
   refine r_seq ?_
   refine r_seq ?_
   refine r_region (n := 4) rfl ?_
   refine o_move (v := .i v10) (by decide) rfl ?_
   refine o_fieldE (cs := (Wire.cells a0)) (by decide) ty_fo24_0 rfl ?_
   refine o_loadE (v := .i a0.Letters) (by decide) rfl (part_one ty_agg3 ty_sc3 rfl) ?_
   refine o_int (v := .b (decide (v10 < a0.Letters))) (by decide) rfl rfl rfl ?_
   refine run_nil ?_
   refine w_next [(1, .ep (Wire.cells a0)), (2, .i v7), (3, .i v8), (5, .sl .no 1 (r1.1.map (cL 3 WireFault.cells))), (6, .i v9), (7, .i v10), (23, .b (decide (v10 < a0.Letters)))] (.k (.k (.k (.k (.k (.k (.k .nil))))))) ?_
   rcases Bool.eq_false_or_eq_true (decide (v10 < a0.Letters)) with hb11 | hb11
   ·replace hM := ifT hM hb11
    refine w_condT (e := (decide (v10 < a0.Letters))) rfl hb11 ?_
    refine r_skip ?_
    refine w_next [(1, .ep (Wire.cells a0)), (2, .i v7), (3, .i v8), (5, .sl .no 1 (r1.1.map (cL 3 WireFault.cells))), (6, .i v9), (7, .i v10)] (.k (.k (.k (.k (.k (.k .nil)))))) ?_
    refine w_join (J := Int × Int × Int) (fun j => [(1, .ep (Wire.cells a0)), (2, .i j.1), (3, .i j.2.1), (5, .sl .no 1 (r1.1.map (cL 3 WireFault.cells))), (6, .i j.2.2), (7, .i v10)]) (fun j H' g' => St (· < g) H0 [] H' g' ∧ ref11_Next_j2 (ref11_Next_l1 n a0 r1 m2) v10 j.1 j.2.1 j.2.2 = some r) ?_ ?_
    ·rintro ⟨v12, v13, v14⟩ H g3 ⟨hS, hM⟩
     change wpA _ _ _ _ (Fr.of [(1, .ep (Wire.cells a0)), (2, .i v12), (3, .i v13), (5, .sl .no 1 (r1.1.map (cL 3 WireFault.cells))), (6, .i v14), (7, .i v10)]) _ _
     replace hS : St (· < g) H0 [] H g3 := hS
     replace hM : ref11_Next_j2 (ref11_Next_l1 n a0 r1 m2) v10 v12 v13 v14 = some r := hM
     refine r_region (n := 3) rfl ?_
     refine o_move (v := .i v10) (by decide) rfl ?_
     refine o_int (v := .i (w64 (v10 + 1))) (by decide) rfl rfl rfl ?_
     refine o_assign (v := .i (w64 (v10 + 1))) (by decide) rfl ?_
     refine run_nil ?_
     exact w_round (v12, v13, v14, w64 (v10 + 1)) (Nat.lt_succ_self _) (.k (.k (.k (.k (.k (.k .nil)))))) ⟨(hS.keep [] rfl).up (by omega), hM⟩
    ·refine r_block ?_
     refine r_seq ?_
     refine r_region (n := 1) rfl ?_
     refine o_assign (v := .i 0) (by decide) rfl ?_
     refine run_nil ?_
     refine w_next [(1, .ep (Wire.cells a0)), (2, .i v7), (3, .i v8), (5, .sl .no 1 (r1.1.map (cL 3 WireFault.cells))), (6, .i v9), (7, .i v10), (8, .i 0)] (.k (.k (.k (.k (.k (.k (.k .nil))))))) ?_
     refine r_block ?_
     refine w_loop (V := Int × Int × Int × Int) (fun v => [(1, .ep (Wire.cells a0)), (2, .i v.1), (3, .i v.2.1), (5, .sl .no 1 (r1.1.map (cL 3 WireFault.cells))), (6, .i v.2.2.1), (7, .i v10), (8, .i v.2.2.2)]) (fun v m4 H' g' => St (· < g) H0 [] H' g' ∧ ref11_Next_l2 n (ref11_Next_l1 n a0 r1 m2) a0 r1 v10 m4 v.1 v.2.1 v.2.2.1 v.2.2.2 = some r) (n := n) (v7, v8, v9, 0) (.k (.k (.k (.k (.k (.k (.k .nil))))))) ⟨(hS.keep [] rfl).up (by omega), hM⟩ ?_
     rintro ⟨v15, v16, v17, v18⟩ m4 H g4 ⟨hS, hM⟩
     obtain _ | m4 := m4
     ·exact nomatch (show none = some _ from hM)
     change wpA _ _ _ _ (Fr.of [(1, .ep (Wire.cells a0)), (2, .i v15), (3, .i v16), (5, .sl .no 1 (r1.1.map (cL 3 WireFault.cells))), (6, .i v17), (7, .i v10), (8, .i v18)]) _ _
     replace hS : St (· < g) H0 [] H g4 := hS
     replace hM : ref11_Next_l2_b n (ref11_Next_l1 n a0 r1 m2) a0 r1 v10 (ref11_Next_l2 n (ref11_Next_l1 n a0 r1 m2) a0 r1 v10 m4) v15 v16 v17 v18 = some r := hM
     refine r_seq ?_
     refine r_seq ?_
     refine r_region (n := 4) rfl ?_
     refine o_move (v := .i v18) (by decide) rfl ?_
     refine o_fieldE (cs := (Wire.cells a0)) (by decide) ty_fo24_1 rfl ?_
     refine o_loadE (v := .i a0.Numbers) (by decide) rfl (part_one ty_agg3 ty_sc3 rfl) ?_
     refine o_int (v := .b (decide (v18 < a0.Numbers))) (by decide) rfl rfl rfl ?_
     refine run_nil ?_
     refine w_next [(1, .ep (Wire.cells a0)), (2, .i v15), (3, .i v16), (5, .sl .no 1 (r1.1.map (cL 3 WireFault.cells))), (6, .i v17), (7, .i v10), (8, .i v18), (29, .b (decide (v18 < a0.Numbers)))] (.k (.k (.k (.k (.k (.k (.k (.k .nil)))))))) ?_
     rcases Bool.eq_false_or_eq_true (decide (v18 < a0.Numbers)) with hb19 | hb19
     ·replace hM := ifT hM hb19
      refine w_condT (e := (decide (v18 < a0.Numbers))) rfl hb19 ?_
      refine r_skip ?_
      refine w_next [(1, .ep (Wire.cells a0)), (2, .i v15), (3, .i v16), (5, .sl .no 1 (r1.1.map (cL 3 WireFault.cells))), (6, .i v17), (7, .i v10), (8, .i v18)] (.k (.k (.k (.k (.k (.k (.k .nil))))))) ?_
      refine w_join (J := Int × Int × Int) (fun j => [(1, .ep (Wire.cells a0)), (2, .i j.1), (3, .i j.2.1), (5, .sl .no 1 (r1.1.map (cL 3 WireFault.cells))), (6, .i j.2.2), (7, .i v10), (8, .i v18)]) (fun j H' g' => St (· < g) H0 [] H' g' ∧ ref11_Next_j3 (ref11_Next_l2 n (ref11_Next_l1 n a0 r1 m2) a0 r1 v10 m4) v18 j.1 j.2.1 j.2.2 = some r) ?_ ?_
      ·rintro ⟨v20, v21, v22⟩ H g5 ⟨hS, hM⟩
       change wpA _ _ _ _ (Fr.of [(1, .ep (Wire.cells a0)), (2, .i v20), (3, .i v21), (5, .sl .no 1 (r1.1.map (cL 3 WireFault.cells))), (6, .i v22), (7, .i v10), (8, .i v18)]) _ _
       replace hS : St (· < g) H0 [] H g5 := hS
       replace hM : ref11_Next_j3 (ref11_Next_l2 n (ref11_Next_l1 n a0 r1 m2) a0 r1 v10 m4) v18 v20 v21 v22 = some r := hM
       refine r_region (n := 3) rfl ?_
       refine o_move (v := .i v18) (by decide) rfl ?_
       refine o_int (v := .i (w64 (v18 + 1))) (by decide) rfl rfl rfl ?_
       refine o_assign (v := .i (w64 (v18 + 1))) (by decide) rfl ?_
       refine run_nil ?_
       exact w_round (v20, v21, v22, w64 (v18 + 1)) (Nat.lt_succ_self _) (.k (.k (.k (.k (.k (.k (.k .nil))))))) ⟨(hS.keep [] rfl).up (by omega), hM⟩
      ·refine r_block ?_
       refine r_seq ?_
       refine r_region (n := 7) rfl ?_
       refine o_loadE (v := .agg (Wire.cells a0)) (by decide) rfl (part_agg ty_agg24 (Nat.le_of_ble_eq_true rfl) rfl) ?_
       refine o_move (v := .sl .no 1 (r1.1.map (cL 3 WireFault.cells))) (by decide) rfl ?_
       refine o_move (v := .i v10) (by decide) rfl ?_
       refine o_move (v := .i v18) (by decide) rfl ?_
       obtain ⟨r23, hr23, hM⟩ := bindE hM
       refine o_call (bs := [.agg (Wire.cells a0), .sl .no 1 (r1.1.map (cL 3 WireFault.cells)), .i v10, .i v18]) (by decide) rfl rfl ((W_ref11_tally hr23).le (.k (.k (.k (.k .nil))))) ?_
       obtain ⟨r24, hr24, hM⟩ := bindE hM
       refine o_call (bs := [.sl .no 1 (r23.map cI)]) (by decide) rfl rfl ((W_ref11_most hr24).le (.k .nil)) ?_
       refine o_assign (v := .i r24) (by decide) rfl ?_
       refine run_nil ?_
       refine w_next [(1, .ep (Wire.cells a0)), (2, .i v15), (3, .i v16), (5, .sl .no 1 (r1.1.map (cL 3 WireFault.cells))), (6, .i v17), (7, .i v10), (8, .i v18), (9, .i r24)] (.k (.k (.k (.k (.k (.k (.k (.k .nil)))))))) ?_
       refine r_seq ?_
       refine r_region (n := 3) rfl ?_
       refine o_move (v := .i r24) (by decide) rfl ?_
       refine o_move (v := .i v17) (by decide) rfl ?_
       refine o_int (v := .b (decide (r24 < v17))) (by decide) rfl rfl rfl ?_
       refine run_nil ?_
       refine w_next [(1, .ep (Wire.cells a0)), (2, .i v15), (3, .i v16), (5, .sl .no 1 (r1.1.map (cL 3 WireFault.cells))), (6, .i v17), (7, .i v10), (8, .i v18), (9, .i r24), (40, .b (decide (r24 < v17)))] (.k (.k (.k (.k (.k (.k (.k (.k (.k .nil))))))))) ?_
       rcases Bool.eq_false_or_eq_true (decide (r24 < v17)) with hb25 | hb25
       ·replace hM := ifT hM hb25
        refine w_condT (e := (decide (r24 < v17))) rfl hb25 ?_
        refine r_region (n := 6) rfl ?_
        refine o_move (v := .i r24) (by decide) rfl ?_
        refine o_move (v := .i v10) (by decide) rfl ?_
        refine o_move (v := .i v18) (by decide) rfl ?_
        refine o_assign (v := .i r24) (by decide) rfl ?_
        refine o_assign (v := .i v10) (by decide) rfl ?_
        refine o_assign (v := .i v18) (by decide) rfl ?_
        refine run_nil ?_
        refine r_blk_normal ?_
        exact w_goto (v10, v18, r24) (.k (.k (.k (.k (.k (.k (.k .nil))))))) ⟨(hS.keep [] rfl).up (by omega), hM⟩
       ·replace hM := ifF hM hb25
        refine w_condF (e := (decide (r24 < v17))) rfl hb25 ?_
        refine r_skip ?_
        refine r_blk_normal ?_
        exact w_goto (v15, v16, v17) (.k (.k (.k (.k (.k (.k (.k .nil))))))) ⟨(hS.keep [] rfl).up (by omega), hM⟩
     ·replace hM := ifF hM hb19
      refine w_condF (e := (decide (v18 < a0.Numbers))) rfl hb19 ?_
      refine r_exit ?_
      refine r_then_exit ?_
      refine w_round_exit ?_
      refine r_blk_exit ?_
      refine r_blk_normal ?_
      exact w_goto (v15, v16, v17) (.k (.k (.k (.k (.k (.k .nil)))))) ⟨(hS.keep [] rfl).up (by omega), hM⟩
   ·replace hM := ifF hM hb11
    refine w_condF (e := (decide (v10 < a0.Letters))) rfl hb11 ?_
    refine r_exit ?_
    refine r_then_exit ?_
    refine w_round_exit ?_
    refine r_blk_exit ?_
    exact w_goto (v7, v8, v9) (.k (.k (.k (.k .nil)))) ⟨(hS.keep [] rfl).up (by omega), hM⟩
end Go.Proofs.Ytneghcnkcfblmaa
