/-
  The code returns what the functions say (printed by gen.py).
  Conditions: none.
-/
import Derived.Test.YtneghcnkcfblmaaWkWiresMore1
import Derived.Test.YtneghcnkcfblmaaSh
set_option linter.all false
namespace Go.Proofs.Ytneghcnkcfblmaa
open Go Go.AM Go.Law
set_option linter.unusedVariables false
set_option maxRecDepth 4000
set_option maxHeartbeats 4000000
theorem W_wires_ask {n : Nat} {a0 : Wire} {a1 : Bool} {r : (Option Wiring_) × Int} (hM : wires_ask n a0 a1 = some r) : PureSat Try.prog 54 [.agg (Wire.cells a0), .b a1] (.tup [pA Wiring_.cells r.1, .i r.2]) := by
 refine pure_of_wp mixed Try.func54 rfl (by decide) Try.ntmps54 (by simp) ?pure fun H0 g hf => ?_
 case pure => exact .tup _ (pl_cons (pure_pA (fun x => (pl_cons (.v _) (pl_cons (.v _) (pl_cons (.sl _ _ (pures_map (fun x => (pl_cons (.v _) (pl_cons (.v _) (pl_cons (.v _) pl_nil)))))) (pl_cons (.v _) (pl_cons (.sl _ _ (pures_map (fun x => (pl_cons (.v _) (pl_cons (.v _) (pl_cons (.v _) pl_nil)))))) pl_nil)))))) _) (pl_cons (.v _) pl_nil))
 rw [frame0_of]
 change wpA _ _ _ _ (Fr.of [(0, .agg (Wire.cells a0)), (1, .b a1)]) H0 g
 have hS := St.start hf
 refine r_seq ?_
 refine r_region (n := 3) rfl ?_
 refine o_box (v := .agg (Wire.cells a0)) (cs := (Wire.cells a0)) hS (by decide) rfl rfl (by omega) fun H hS => ?_
 refine o_alloc hS (by decide) ty_zero64 (by omega) fun H hS => ?_
 refine o_alloc hS (by decide) ty_zero28 (by omega) fun H hS => ?_
 refine run_nil ?_
 refine w_iceE (L' := [(g + 2, .cells [.i 0]), (g + 1, .cells [pA Wiring_.cells (none : Option Wiring_)])]) 2 2 hS rfl rfl rfl fun H hS => ?_
 refine w_next [(1, .b a1), (2, .ep (Wire.cells a0)), (4, .ptr (g + 1) 0), (5, .ptr (g + 2) 0)] (.k (.k (.k (.k .nil)))) ?_
 refine r_seq ?_
 refine r_seq ?_
 refine r_region (n := 3) rfl ?_
 refine o_loadE (v := .agg (Wire.cells a0)) (by decide) rfl (part_agg ty_agg24 (Nat.le_of_ble_eq_true rfl) rfl) ?_
 obtain ⟨r1, hr1, hM⟩ := bindE hM
 refine o_call (bs := [.agg (Wire.cells a0)]) (by decide) rfl rfl ((W_wires_Check hr1).le (.k .nil)) ?_
 refine o_assign (v := .i r1) (by decide) rfl ?_
 refine run_nil ?_
 refine w_next [(1, .b a1), (2, .ep (Wire.cells a0)), (4, .ptr (g + 1) 0), (5, .ptr (g + 2) 0), (6, .i r1)] (.k (.k (.k (.k (.k .nil))))) ?_
 refine r_seq ?_
 refine r_region (n := 2) rfl ?_
 refine o_move (v := .i r1) (by decide) rfl ?_
 refine o_int (v := .b (r1 != 0)) (by decide) rfl rfl rfl ?_
 refine run_nil ?_
 refine w_next [(1, .b a1), (2, .ep (Wire.cells a0)), (4, .ptr (g + 1) 0), (5, .ptr (g + 2) 0), (6, .i r1), (11, .b (r1 != 0))] (.k (.k (.k (.k (.k (.k .nil)))))) ?_
 rcases Bool.eq_false_or_eq_true (r1 != 0) with hb2 | hb2
 ·replace hM := ifT hM hb2
  refine w_condT (e := (r1 != 0)) rfl hb2 ?_
  refine r_seq ?_
  refine r_region (n := 3) rfl ?_
  refine o_move (v := .i r1) (by decide) rfl ?_
  refine o_store (v := pA Wiring_.cells (none : Option Wiring_)) (ns := [pA Wiring_.cells (none : Option Wiring_)]) (L' := [(g + 2, .cells [.i 0]), (g + 1, .cells [pA Wiring_.cells (none : Option Wiring_)])]) 1 hS rfl rfl .no rfl (cellsOf_pA _ _) ty_var64 (Nat.le_of_ble_eq_true rfl) rfl fun H hS => ?_
  refine o_store (v := .i r1) (ns := [.i r1]) (L' := [(g + 2, .cells [.i r1]), (g + 1, .cells [pA Wiring_.cells (none : Option Wiring_)])]) 0 hS rfl rfl .no rfl rfl ty_var28 (Nat.le_of_ble_eq_true rfl) rfl fun H hS => ?_
  refine run_nil ?_
  refine w_next [(4, .ptr (g + 1) 0), (5, .ptr (g + 2) 0)] (.k (.k .nil)) ?_
  refine r_ret ?_
  refine r_then_ret ?_
  refine w_end (x := .tup [pA Wiring_.cells (none : Option Wiring_), .i r1]) (f := fun r => .tup [pA Wiring_.cells r.1, .i r.2]) (.inr rfl) ?_ (.refl _) (Option.some.inj hM) hS
  exact (res_two (res_cell (x := pA Wiring_.cells (none : Option Wiring_)) 1 hS rfl rfl (part_one ty_agg64 ty_sc64 rfl)) (res_cell (x := .i r1) 0 hS rfl rfl (part_one ty_agg28 ty_sc28 rfl)))
 ·replace hM := ifF hM hb2
  refine w_condF (e := (r1 != 0)) rfl hb2 ?_
  refine r_skip ?_
  refine w_next [(1, .b a1), (2, .ep (Wire.cells a0)), (4, .ptr (g + 1) 0), (5, .ptr (g + 2) 0)] (.k (.k (.k (.k .nil)))) ?_
  refine r_seq ?_
  refine r_seq ?_
  refine r_region (n := 2) rfl ?_
  refine o_move (v := .b a1) (by decide) rfl ?_
  refine o_not (e := a1) (by decide) rfl ?_
  refine run_nil ?_
  refine w_next [(2, .ep (Wire.cells a0)), (4, .ptr (g + 1) 0), (5, .ptr (g + 2) 0), (14, .b (!a1))] (.k (.k (.k (.k .nil)))) ?_
  rcases Bool.eq_false_or_eq_true (!a1) with hb3 | hb3
  ·replace hM := ifT hM hb3
   refine w_condT (e := (!a1)) rfl hb3 ?_
   refine r_seq ?_
   refine r_region (n := 2) rfl ?_
   refine o_store (v := pA Wiring_.cells (none : Option Wiring_)) (ns := [pA Wiring_.cells (none : Option Wiring_)]) (L' := [(g + 2, .cells [.i 0]), (g + 1, .cells [pA Wiring_.cells (none : Option Wiring_)])]) 1 hS rfl rfl .no rfl (cellsOf_pA _ _) ty_var64 (Nat.le_of_ble_eq_true rfl) rfl fun H hS => ?_
   refine o_store (v := .i 1) (ns := [.i 1]) (L' := [(g + 2, .cells [.i 1]), (g + 1, .cells [pA Wiring_.cells (none : Option Wiring_)])]) 0 hS rfl rfl .no rfl rfl ty_var28 (Nat.le_of_ble_eq_true rfl) rfl fun H hS => ?_
   refine run_nil ?_
   refine w_next [(4, .ptr (g + 1) 0), (5, .ptr (g + 2) 0)] (.k (.k .nil)) ?_
   refine r_ret ?_
   refine r_then_ret ?_
   refine w_end (x := .tup [pA Wiring_.cells (none : Option Wiring_), .i 1]) (f := fun r => .tup [pA Wiring_.cells r.1, .i r.2]) (.inr rfl) ?_ (.refl _) (Option.some.inj hM) hS
   exact (res_two (res_cell (x := pA Wiring_.cells (none : Option Wiring_)) 1 hS rfl rfl (part_one ty_agg64 ty_sc64 rfl)) (res_cell (x := .i 1) 0 hS rfl rfl (part_one ty_agg28 ty_sc28 rfl)))
  ·replace hM := ifF hM hb3
   refine w_condF (e := (!a1)) rfl hb3 ?_
   refine r_skip ?_
   refine w_next [(2, .ep (Wire.cells a0)), (4, .ptr (g + 1) 0), (5, .ptr (g + 2) 0)] (.k (.k (.k .nil))) ?_
   refine r_seq ?_
   refine r_region (n := 4) rfl ?_
   refine o_loadE (v := .agg (Wire.cells a0)) (by decide) rfl (part_agg ty_agg24 (Nat.le_of_ble_eq_true rfl) rfl) ?_
   obtain ⟨r4, hr4, hM⟩ := bindE hM
   refine o_call (bs := [.agg (Wire.cells a0)]) (by decide) rfl rfl ((W_wires_open hr4).le (.k .nil)) ?_
   refine o_alloc hS (by decide) ty_zero64 (by omega) fun H hS => ?_
   refine o_store (v := pA Wiring_.cells r4) (ns := [pA Wiring_.cells r4]) (L' := [(g + 3 + 3 + 2 + 2 + 2, .cells [pA Wiring_.cells r4]), (g + 2, .cells [.i 0]), (g + 1, .cells [pA Wiring_.cells (none : Option Wiring_)])]) 0 hS rfl rfl .no rfl (cellsOf_pA _ _) ty_var64 (Nat.le_of_ble_eq_true rfl) rfl fun H hS => ?_
   refine run_nil ?_
   refine w_iceE (L' := [(g + 2, .cells [.i 0]), (g + 1, .cells [pA Wiring_.cells (none : Option Wiring_)])]) 0 7 hS rfl rfl rfl fun H hS => ?_
   refine w_next [(4, .ptr (g + 1) 0), (5, .ptr (g + 2) 0), (7, .ep [pA Wiring_.cells r4])] (.k (.k (.k .nil))) ?_
   refine r_seq ?_
   refine r_seq ?_
   refine r_region (n := 2) rfl ?_
   refine o_loadE (v := pA Wiring_.cells r4) (by decide) rfl (part_one ty_agg64 ty_sc64 rfl) ?_
   refine o_makeFunc (first := [pA Wiring_.cells r4]) (cap := []) (by decide) rfl rfl ?_
   refine run_nil ?_
   refine w_next [(4, .ptr (g + 1) 0), (5, .ptr (g + 2) 0), (7, .ep [pA Wiring_.cells r4]), (18, .fn (.func 84) [pA Wiring_.cells r4] [])] (.k (.k (.k (.k .nil)))) ?_
   refine r_block ?_
   obtain ⟨r6, hr6, hM⟩ := bindE hM
   refine w_rangeR (Lo := fun s : (Option Wiring_) × Bool => [(g + 2, .cells [.i 0]), (g + 1, .cells [pA Wiring_.cells s.1])]) (fl := (fun s => s.2)) (R := fun x s b s' => ∃ y, x = .sl .no 3 (y.map WireFault.cells) ∧ wires_ask_r1 r4 y s = some (b, s')) (s0 := ((none : Option Wiring_), false)) (sF := r6.2) (A := []) (A' := []) (L' := [(g + 2, .cells [.i 0]), (g + 1, .cells [pA Wiring_.cells r6.2.1])]) [(4, .ptr (g + 1) 0), (5, .ptr (g + 2) 0), (7, .ep [pA Wiring_.cells r4])] [0, 1] hS (by omega) rfl rfl rfl rfl (.cons rfl (.cons rfl .nil)) (by decide) rfl kl_nil (fun _ _ => (kl_cells (kl_cells kl_nil))) (fun s => (inb_st (ic_cells (ci_cons (.inl (.inl (.v _))) ci_nil) (ic_cells (ci_cons (.inl (.inl (pure_pA (fun x => (pl_cons (.v _) (pl_cons (.v _) (pl_cons (.sl _ _ (pures_map (fun x => (pl_cons (.v _) (pl_cons (.v _) (pl_cons (.v _) pl_nil)))))) (pl_cons (.v _) (pl_cons (.sl _ _ (pures_map (fun x => (pl_cons (.v _) (pl_cons (.v _) (pl_cons (.v _) pl_nil)))))) pl_nil)))))) _))) ci_nil) ic_nil)) inb_nil)) (fun s H hH => (ai_cons (in_ptr hH 1 rfl) (ai_cons (in_ptr hH 0 rfl) (ai_cons (.ep _ (ai_cons (show Go.AM.Pure _ from pure_pA (fun x => (pl_cons (.v _) (pl_cons (.v _) (pl_cons (.sl _ _ (pures_map (fun x => (pl_cons (.v _) (pl_cons (.v _) (pl_cons (.v _) pl_nil)))))) (pl_cons (.v _) (pl_cons (.sl _ _ (pures_map (fun x => (pl_cons (.v _) (pl_cons (.v _) (pl_cons (.v _) pl_nil)))))) pl_nil)))))) _).inH ai_nil)) ai_nil)))) (.k (.k (.k .nil))) rfl (by decide) rfl ?_ (fun F Lx hk1 hnd1 hin1 hF1 h01 hf1 => W_wires_wiring_truths (Lo := Lx)  hk1 hnd1 hin1 (aF := wires_ask_r1 r4) hF1 h01 (fun h => hf1 _ _ _ _ ⟨_, rfl, h⟩) hr6) fun H hS => ?_
   ·rintro x ⟨v5, fl⟩ b s' ⟨y1, rfl, hM⟩
    rcases Bool.eq_false_or_eq_true fl with hfl | hfl
    ·subst hfl; exact nomatch (show none = some _ from hM)
    subst hfl
    replace hM := ifF hM rfl
    refine ⟨rfl, fun H' g1 hf' hh' => ?_⟩
    have hS := St.start hf'
    change wpA _ _ _ _ (Fr.of [(19, .sl .no 3 (y1.map WireFault.cells)), (4, .ptr (g + 1) 0), (5, .ptr (g + 2) 0), (7, .ep [pA Wiring_.cells r4])]) _ _
    refine r_skip ?_
    refine w_rasg (l3 := [(4, .ptr (g + 1) 0), (5, .ptr (g + 2) 0), (7, .ep [pA Wiring_.cells r4])]) (.k (.k (.k .nil))) hS (by omega) fun Hb H hS => ?_
    replace hS : St (fun i => i < g1 ∧ i ∉ ids [(g + 2, .cells [.i 0]), (g + 1, .cells [pA Wiring_.cells v5])]) Hb [(g + 2, .cells [.i 0]), (g + 1, .cells [pA Wiring_.cells v5])] H _ := hS
    refine r_block ?_
    refine r_seq ?_
    refine r_region (n := 3) rfl ?_
    refine o_loadE (v := pA Wiring_.cells r4) (by decide) rfl (part_one ty_agg64 ty_sc64 rfl) ?_
    refine o_store (v := pA Wiring_.cells r4) (ns := [pA Wiring_.cells r4]) (L' := [(g + 2, .cells [.i 0]), (g + 1, .cells [pA Wiring_.cells r4])]) 1 hS rfl rfl .no rfl (cellsOf_pA _ _) ty_var64 (Nat.le_of_ble_eq_true rfl) rfl fun H hS => ?_
    refine o_store (v := .i 0) (ns := [.i 0]) (L' := [(g + 2, .cells [.i 0]), (g + 1, .cells [pA Wiring_.cells r4])]) 0 hS rfl rfl .no rfl rfl ty_var28 (Nat.le_of_ble_eq_true rfl) rfl fun H hS => ?_
    refine run_nil ?_
    refine w_next [(4, .ptr (g + 1) 0), (5, .ptr (g + 2) 0)] (.k (.k .nil)) ?_
    refine r_ret ?_
    refine r_blk_ret ?_
    injection hM with hM
    injection hM with hm1 hm2
    subst hm1 hm2
    exact w_rout (hS.keep [true, true] rfl)
   rcases Bool.eq_false_or_eq_true r6.2.2 with hb7 | hb7
   ·replace hM := ifT hM hb7
    refine w_rret hb7 ?_
    refine r_blk_ret ?_
    refine r_then_ret ?_
    refine w_end (x := .tup [pA Wiring_.cells r6.2.1, .i 0]) (f := fun r => .tup [pA Wiring_.cells r.1, .i r.2]) (.inr rfl) ?_ (.refl _) (Option.some.inj hM) hS
    exact (res_two (res_cell (x := pA Wiring_.cells r6.2.1) 1 hS rfl rfl (part_one ty_agg64 ty_sc64 rfl)) (res_cell (x := .i 0) 0 hS rfl rfl (part_one ty_agg28 ty_sc28 rfl)))
   ·replace hM := ifF hM hb7
    refine w_rnormal hb7 ?_
    refine r_blk_normal ?_
    refine w_next [(4, .ptr (g + 1) 0), (5, .ptr (g + 2) 0)] (.k (.k .nil)) ?_
    refine r_seq ?_
    refine r_region (n := 2) rfl ?_
    refine o_store (v := pA Wiring_.cells (none : Option Wiring_)) (ns := [pA Wiring_.cells (none : Option Wiring_)]) (L' := [(g + 2, .cells [.i 0]), (g + 1, .cells [pA Wiring_.cells (none : Option Wiring_)])]) 1 hS rfl rfl .no rfl (cellsOf_pA _ _) ty_var64 (Nat.le_of_ble_eq_true rfl) rfl fun H hS => ?_
    refine o_store (v := .i 3) (ns := [.i 3]) (L' := [(g + 2, .cells [.i 3]), (g + 1, .cells [pA Wiring_.cells (none : Option Wiring_)])]) 0 hS rfl rfl .no rfl rfl ty_var28 (Nat.le_of_ble_eq_true rfl) rfl fun H hS => ?_
    refine run_nil ?_
    refine w_next [(4, .ptr (g + 1) 0), (5, .ptr (g + 2) 0)] (.k (.k .nil)) ?_
    refine r_ret ?_
    refine w_end (x := .tup [pA Wiring_.cells (none : Option Wiring_), .i 3]) (f := fun r => .tup [pA Wiring_.cells r.1, .i r.2]) (.inr rfl) ?_ (.refl _) (Option.some.inj hM) hS
    exact (res_two (res_cell (x := pA Wiring_.cells (none : Option Wiring_)) 1 hS rfl rfl (part_one ty_agg64 ty_sc64 rfl)) (res_cell (x := .i 3) 0 hS rfl rfl (part_one ty_agg28 ty_sc28 rfl)))
theorem W_wires_wiring_many {n : Nat} {a0 : Option Wiring_} {r : Int} (hM : wires_wiring_many n a0 = some r) : PureSat Try.prog 55 [pA Wiring_.cells a0] (.i r) := by
 refine pure_of_wp mixed Try.func55 rfl (by decide) Try.ntmps55 (by simp) ?pure fun H0 g hf => ?_
 case pure => exact .v _
 rw [frame0_of]
 change wpA _ _ _ _ (Fr.of [(0, pA Wiring_.cells a0)]) H0 g
 have hS := St.start hf
 refine r_seq ?_
 refine r_region (n := 1) rfl ?_
 refine o_alloc hS (by decide) ty_zero3 (by omega) fun H hS => ?_
 refine run_nil ?_
 refine w_next [(0, pA Wiring_.cells a0), (2, .ptr (g + 0) 0)] (.k (.k .nil)) ?_
 refine r_seq ?_
 refine r_seq ?_
 refine r_region (n := 2) rfl ?_
 refine o_move (v := pA Wiring_.cells a0) (by decide) rfl ?_
 refine o_makeFunc (first := [pA Wiring_.cells a0]) (cap := []) (by decide) rfl rfl ?_
 refine run_nil ?_
 refine w_next [(2, .ptr (g + 0) 0), (4, .fn (.func 84) [pA Wiring_.cells a0] [])] (.k (.k .nil)) ?_
 refine r_block ?_
 obtain ⟨r2, hr2, hM⟩ := bindE hM
 refine w_range0 (Lo := fun s : Int => [(g + 0, .cells [.i s])]) (R := fun x s b s' => ∃ y, x = .sl .no 3 (y.map WireFault.cells) ∧ wires_wiring_many_r1 y s = some (b, s')) (s0 := 0) (sF := r2.2) (A := []) (A' := []) (L' := [(g + 0, .cells [.i r2.2])]) [(2, .ptr (g + 0) 0)] [0] hS (by omega) rfl rfl rfl (.cons rfl .nil) (by decide) rfl kl_nil (fun _ _ => (kl_cells kl_nil)) (fun s => (inb_st (ic_cells (ci_cons (.inl (.inl (.v _))) ci_nil) ic_nil) inb_nil)) (fun s H hH => (ai_cons (in_ptr hH 0 rfl) ai_nil)) (.k .nil) rfl (by decide) rfl ?_ (fun F Lx hk1 hnd1 hin1 hF1 h01 hf1 => W_wires_wiring_truths (Lo := Lx)  hk1 hnd1 hin1 (aF := wires_wiring_many_r1) hF1 h01 (fun h => hf1 _ _ _ _ ⟨_, rfl, h⟩) hr2) fun H hS => ?_
 ·rintro x v1 b s' ⟨y1, rfl, hM⟩
  refine ⟨rfl, fun H' g1 hf' hh' => ?_⟩
  have hS := St.start hf'
  change wpA _ _ _ _ (Fr.of [(5, .sl .no 3 (y1.map WireFault.cells)), (2, .ptr (g + 0) 0)]) _ _
  refine r_skip ?_
  refine w_rasg (l3 := [(2, .ptr (g + 0) 0)]) (.k .nil) hS (by omega) fun Hb H hS => ?_
  replace hS : St (fun i => i < g1 ∧ i ∉ ids [(g + 0, .cells [.i v1])]) Hb [(g + 0, .cells [.i v1])] H _ := hS
  refine r_block ?_
  refine r_region (n := 3) rfl ?_
  refine o_load (v := .i v1) 0 hS (by decide) rfl rfl .no (part_one ty_agg3 ty_sc3 rfl) ?_
  refine o_int (v := .i (w64 (v1 + 1))) (by decide) rfl rfl rfl ?_
  refine o_store (v := .i (w64 (v1 + 1))) (ns := [.i (w64 (v1 + 1))]) (L' := [(g + 0, .cells [.i (w64 (v1 + 1))])]) 0 hS rfl rfl .no rfl rfl ty_var3 (Nat.le_of_ble_eq_true rfl) rfl fun H hS => ?_
  refine run_nil ?_
  refine r_blk_normal ?_
  injection hM with hM
  injection hM with hm1 hm2
  subst hm1 hm2
  exact w_rend (hS.keep [true] rfl)
 refine r_blk_normal ?_
 refine w_next [(2, .ptr (g + 0) 0)] (.k .nil) ?_
 refine r_seq ?_
 refine r_region (n := 2) rfl ?_
 refine o_load (v := .i r2.2) 0 hS (by decide) rfl rfl .no (part_one ty_agg3 ty_sc3 rfl) ?_
 refine o_store (v := .i r2.2) (ns := [.i r2.2]) (L' := [(g + 0, .cells [.i r2.2])]) 0 hS rfl rfl .no rfl rfl ty_var3 (Nat.le_of_ble_eq_true rfl) rfl fun H hS => ?_
 refine run_nil ?_
 refine w_next [(2, .ptr (g + 0) 0)] (.k .nil) ?_
 refine r_ret ?_
 refine w_end (x := .i r2.2) (f := fun r => .i r) (.inr rfl) ?_ (.refl _) (Option.some.inj hM) hS
 exact (res_one (res_cell (x := .i r2.2) 0 hS rfl rfl (part_one ty_agg3 ty_sc3 rfl)))
theorem W_wires_Many {n : Nat} {a0 : Wire} {r : Int × Int} (hM : wires_Many n a0 = some r) : PureSat Try.prog 17 [.agg (Wire.cells a0)] (.tup [.i r.1, .i r.2]) := by
 refine pure_of_wp mixed Try.func17 rfl (by decide) Try.ntmps17 (by simp) ?pure fun H0 g hf => ?_
 case pure => exact .tup _ (pl_cons (.v _) (pl_cons (.v _) pl_nil))
 rw [frame0_of]
 change wpA _ _ _ _ (Fr.of [(0, .agg (Wire.cells a0))]) H0 g
 have hS := St.start hf
 refine r_seq ?_
 refine r_region (n := 3) rfl ?_
 refine o_box (v := .agg (Wire.cells a0)) (cs := (Wire.cells a0)) hS (by decide) rfl rfl (by omega) fun H hS => ?_
 refine o_assign (v := .i 0) (by decide) rfl ?_
 refine o_assign (v := .i 0) (by decide) rfl ?_
 refine run_nil ?_
 refine w_iceE (L' := []) 0 1 hS rfl rfl rfl fun H hS => ?_
 refine w_next [(1, .ep (Wire.cells a0))] (.k .nil) ?_
 refine r_seq ?_
 refine r_region (n := 7) rfl ?_
 refine o_loadE (v := .agg (Wire.cells a0)) (by decide) rfl (part_agg ty_agg24 (Nat.le_of_ble_eq_true rfl) rfl) ?_
 obtain ⟨r1, hr1, hM⟩ := bindE hM
 refine o_call (bs := [.agg (Wire.cells a0), .b true]) (by decide) rfl rfl ((W_wires_ask hr1).le (.k (.k .nil))) ?_
 refine o_move (v := .tup [pA Wiring_.cells r1.1, .i r1.2]) (by decide) rfl ?_
 refine o_extract (v := pA Wiring_.cells r1.1) (by decide) rfl rfl ?_
 refine o_extract (v := .i r1.2) (by decide) rfl rfl ?_
 refine o_assign (v := pA Wiring_.cells r1.1) (by decide) rfl ?_
 refine o_assign (v := .i r1.2) (by decide) rfl ?_
 refine run_nil ?_
 refine w_next [(3, .i r1.2), (4, pA Wiring_.cells r1.1)] (.k (.k .nil)) ?_
 refine r_seq ?_
 refine r_seq ?_
 refine r_region (n := 2) rfl ?_
 refine o_move (v := .i r1.2) (by decide) rfl ?_
 refine o_int (v := .b (r1.2 != 0)) (by decide) rfl rfl rfl ?_
 refine run_nil ?_
 refine w_next [(3, .i r1.2), (4, pA Wiring_.cells r1.1), (11, .b (r1.2 != 0))] (.k (.k (.k .nil))) ?_
 rcases Bool.eq_false_or_eq_true (r1.2 != 0) with hb2 | hb2
 ·replace hM := ifT hM hb2
  refine w_condT (e := (r1.2 != 0)) rfl hb2 ?_
  refine r_seq ?_
  refine r_region (n := 3) rfl ?_
  refine o_move (v := .i r1.2) (by decide) rfl ?_
  refine o_assign (v := .i 0) (by decide) rfl ?_
  refine o_assign (v := .i r1.2) (by decide) rfl ?_
  refine run_nil ?_
  refine w_next [(2, .i 0), (3, .i r1.2)] (.k (.k .nil)) ?_
  refine r_ret ?_
  refine r_then_ret ?_
  refine w_end (x := .tup [.i 0, .i r1.2]) (f := fun r => .tup [.i r.1, .i r.2]) (.inr rfl) ?_ (.refl _) (Option.some.inj hM) hS
  exact (res_two (res_tmp (x := .i 0) rfl) (res_tmp (x := .i r1.2) rfl))
 ·replace hM := ifF hM hb2
  refine w_condF (e := (r1.2 != 0)) rfl hb2 ?_
  refine r_skip ?_
  refine w_next [(4, pA Wiring_.cells r1.1)] (.k .nil) ?_
  refine r_seq ?_
  refine r_region (n := 4) rfl ?_
  refine o_move (v := pA Wiring_.cells r1.1) (by decide) rfl ?_
  obtain ⟨r3, hr3, hM⟩ := bindE hM
  refine o_call (bs := [pA Wiring_.cells r1.1]) (by decide) rfl rfl ((W_wires_wiring_many hr3).le (.k .nil)) ?_
  refine o_assign (v := .i r3) (by decide) rfl ?_
  refine o_assign (v := .i 0) (by decide) rfl ?_
  refine run_nil ?_
  refine w_next [(2, .i r3), (3, .i 0)] (.k (.k .nil)) ?_
  refine r_ret ?_
  refine w_end (x := .tup [.i r3, .i 0]) (f := fun r => .tup [.i r.1, .i r.2]) (.inr rfl) ?_ (.refl _) (Option.some.inj hM) hS
  exact (res_two (res_tmp (x := .i r3) rfl) (res_tmp (x := .i 0) rfl))
theorem W_wires_faults {S : Type} {Lo : S → BL} (hk : ∀ s s', KinL (Lo s) (Lo s')) (hnd : ∀ s, (ids (Lo s)).Nodup) (hin : ∀ s, InB In (Lo s)) {aF : Int → Int → S → Option (Bool × S)} {f0 : AV} (hF : ∀ s H, Has H (Lo s) → In H f0) (h0 : cellsOf f0 = some [f0]) (hf : ∀ {x0 : Int} {x1 : Int} {s : S} {r : Bool × S}, aF x0 x1 s = some r → CSat Try.prog f0 [.i x0, .i x1] (Lo s) (.b r.1) (Lo r.2)) {n : Nat} {a0 : Wire} {st : S} {r : ((List WireFault) × Int) × S} (hM : wires_faults n aF a0 st = some r) : HSat Try.prog 57 [.agg (Wire.cells a0), f0] (Lo st) (.tup [.sl .no 3 (r.1.1.map WireFault.cells), .i r.1.2]) (Lo r.2) := by
 have hnd0 : ∀ s, (ids (Lo s)).Nodup := fun s => hnd s
 refine hsat_of_wp mixed Try.func57 rfl (by decide) Try.ntmps57 (by simp) (hk _ _) (hnd st) ?pure ?cells fun H0 g hf_ hp => ?_
 case pure => exact fun H _ => (show Go.AM.Pure _ from .tup _ (pl_cons (.sl _ _ (pures_map (fun x => (pl_cons (.v _) (pl_cons (.v _) (pl_cons (.v _) pl_nil)))))) (pl_cons (.v _) pl_nil))).inH
 case cells => exact hin _
 rw [frame0_of]
 change wpA _ _ _ _ (Fr.of [(0, .agg (Wire.cells a0)), (1, f0)]) H0 g
 have hS := St.startH (L := ([] ++ Lo st)) hf_ (hnd st) hp
 replace hS : St (fun i => i < g ∧ i ∉ ids (Lo st)) H0 ([] ++ Lo st) H0 g := hS
 refine r_seq ?_
 refine r_region (n := 3) rfl ?_
 refine o_box (v := .agg (Wire.cells a0)) (cs := (Wire.cells a0)) hS (by decide) rfl rfl (by omega) fun H hS => ?_
 refine o_assign (v := .sl .nil 0 []) (by decide) rfl ?_
 refine o_assign (v := .i 0) (by decide) rfl ?_
 refine run_nil ?_
 refine w_iceE (L' := ([] ++ Lo st)) 0 2 hS rfl rfl rfl fun H hS => ?_
 refine w_next [(1, f0), (2, .ep (Wire.cells a0))] (.k (.k .nil)) ?_
 refine r_seq ?_
 refine r_region (n := 7) rfl ?_
 refine o_loadE (v := .agg (Wire.cells a0)) (by decide) rfl (part_agg ty_agg24 (Nat.le_of_ble_eq_true rfl) rfl) ?_
 obtain ⟨r1, hr1, hM⟩ := bindE hM
 refine o_call (bs := [.agg (Wire.cells a0), .b true]) (by decide) rfl rfl ((W_wires_ask hr1).le (.k (.k .nil))) ?_
 refine o_move (v := .tup [pA Wiring_.cells r1.1, .i r1.2]) (by decide) rfl ?_
 refine o_extract (v := pA Wiring_.cells r1.1) (by decide) rfl rfl ?_
 refine o_extract (v := .i r1.2) (by decide) rfl rfl ?_
 refine o_assign (v := pA Wiring_.cells r1.1) (by decide) rfl ?_
 refine o_assign (v := .i r1.2) (by decide) rfl ?_
 refine run_nil ?_
 refine w_next [(1, f0), (6, pA Wiring_.cells r1.1), (7, .i r1.2)] (.k (.k (.k .nil))) ?_
 refine r_seq ?_
 refine r_seq ?_
 refine r_region (n := 2) rfl ?_
 refine o_move (v := .i r1.2) (by decide) rfl ?_
 refine o_int (v := .b (r1.2 != 0)) (by decide) rfl rfl rfl ?_
 refine run_nil ?_
 refine w_next [(1, f0), (6, pA Wiring_.cells r1.1), (7, .i r1.2), (21, .b (r1.2 != 0))] (.k (.k (.k (.k .nil)))) ?_
 rcases Bool.eq_false_or_eq_true (r1.2 != 0) with hb2 | hb2
 ·replace hM := ifT hM hb2
  refine w_condT (e := (r1.2 != 0)) rfl hb2 ?_
  refine r_seq ?_
  refine r_region (n := 3) rfl ?_
  refine o_move (v := .i r1.2) (by decide) rfl ?_
  refine o_assign (v := .sl .nil 0 []) (by decide) rfl ?_
  refine o_assign (v := .i r1.2) (by decide) rfl ?_
  refine run_nil ?_
  refine w_next [(4, .sl .nil 0 []), (5, .i r1.2)] (.k (.k .nil)) ?_
  refine r_ret ?_
  refine r_then_ret ?_
  refine w_endS (x := .tup [.sl .nil 0 [], .i r1.2]) (f := fun r => .tup [.sl .no 3 (r.1.1.map WireFault.cells), .i r.1.2]) (fd := fun r => (Lo r.2)) (.inr rfl) ?_ (.tupL (.cons (.sl0 .nil 3 0) (.k .nil))) (Option.some.inj hM) hS 0 rfl
  exact (res_two (res_tmp (x := .sl .nil 0 []) rfl) (res_tmp (x := .i r1.2) rfl))
 ·replace hM := ifF hM hb2
  refine w_condF (e := (r1.2 != 0)) rfl hb2 ?_
  refine r_skip ?_
  refine w_next [(1, f0), (6, pA Wiring_.cells r1.1)] (.k (.k .nil)) ?_
  refine r_seq ?_
  refine r_region (n := 3) rfl ?_
  refine o_makeMap (kv := kvWireFault) hS (by decide) ty_map99 (by omega) fun H hS => ?_
  refine o_alloc hS (by decide) ty_zero99 (by omega) fun H hS => ?_
  refine o_store (v := .mp (g + 3 + 7 + 2 + 0)) (ns := [.mp (g + 3 + 7 + 2 + 0)]) (L' := ([(g + 3 + 7 + 2 + 1, .cells [.mp (g + 3 + 7 + 2 + 0)]), (g + 3 + 7 + 2 + 0, .obj none (mapIs (mpv kvWireFault ([] : List (WireFault × Int)))))] ++ Lo st)) 0 hS rfl rfl .no rfl rfl ty_var99 (Nat.le_of_ble_eq_true rfl) rfl fun H hS => ?_
  refine run_nil ?_
  refine w_iceE (L' := ([(g + 3 + 7 + 2 + 0, .obj none (mapIs (mpv kvWireFault ([] : List (WireFault × Int)))))] ++ Lo st)) 0 8 hS rfl rfl rfl fun H hS => ?_
  refine w_next [(1, f0), (6, pA Wiring_.cells r1.1), (8, .ep [.mp (g + 3 + 7 + 2 + 0)])] (.k (.k (.k .nil))) ?_
  refine r_seq ?_
  refine r_seq ?_
  refine r_region (n := 2) rfl ?_
  refine o_move (v := pA Wiring_.cells r1.1) (by decide) rfl ?_
  refine o_makeFunc (first := [pA Wiring_.cells r1.1]) (cap := []) (by decide) rfl rfl ?_
  refine run_nil ?_
  refine w_next [(1, f0), (6, pA Wiring_.cells r1.1), (8, .ep [.mp (g + 3 + 7 + 2 + 0)]), (25, .fn (.func 84) [pA Wiring_.cells r1.1] [])] (.k (.k (.k (.k .nil)))) ?_
  refine r_block ?_
  obtain ⟨r11, hr11, hM⟩ := bindE hM
  refine w_range0 (Lo := fun s : (List (WireFault × Int)) => [(g + 3 + 7 + 2 + 0, .obj none (mapIs (mpv kvWireFault s)))]) (R := fun x s b s' => ∃ y, x = .sl .no 3 (y.map WireFault.cells) ∧ wires_faults_r1 n y s = some (b, s')) (s0 := ([] : List (WireFault × Int))) (sF := r11.2) (A := []) (A' := []) (L' := ([(g + 3 + 7 + 2 + 0, .obj none (mapIs (mpv kvWireFault r11.2)))] ++ Lo st)) [(8, .ep [.mp (g + 3 + 7 + 2 + 0)])] [0] hS (by omega) rfl rfl rfl (.cons rfl .nil) (by decide) rfl kl_nil (fun _ _ => (kl_obj kl_nil)) (fun s => (inb_st (ic_obj ic_nil) inb_nil)) (fun s H hH => (ai_cons (.ep _ (ai_cons (in_mp hH 0 rfl) ai_nil)) ai_nil)) (.k .nil) rfl (by decide) rfl ?_ (fun F Lx hk1 hnd1 hin1 hF1 h01 hf1 => W_wires_wiring_truths (Lo := Lx)  hk1 hnd1 hin1 (aF := wires_faults_r1 n) hF1 h01 (fun h => hf1 _ _ _ _ ⟨_, rfl, h⟩) hr11) fun H hS => ?_
  ·rintro x v3 b s' ⟨y1, rfl, hM⟩
   refine ⟨rfl, fun H' g1 hf' hh' => ?_⟩
   have hS := St.start hf'
   change wpA _ _ _ _ (Fr.of [(26, .sl .no 3 (y1.map WireFault.cells)), (8, .ep [.mp (g + 3 + 7 + 2 + 0)])]) _ _
   refine r_region (n := 1) rfl ?_
   refine o_assign (v := .sl .no 3 (y1.map WireFault.cells)) (by decide) rfl ?_
   refine run_nil ?_
   refine w_rasg (l3 := [(8, .ep [.mp (g + 3 + 7 + 2 + 0)]), (9, .sl .no 3 (y1.map WireFault.cells))]) (.k (.k .nil)) hS (by omega) fun Hb H hS => ?_
   replace hS : St (fun i => i < g1 ∧ i ∉ ids [(g + 3 + 7 + 2 + 0, .obj none (mapIs (mpv kvWireFault v3)))]) Hb [(g + 3 + 7 + 2 + 0, .obj none (mapIs (mpv kvWireFault v3)))] H _ := hS
   refine r_block ?_
   refine r_seq ?_
   refine r_region (n := 3) rfl ?_
   refine o_move (v := .sl .no 3 (y1.map WireFault.cells)) (by decide) rfl ?_
   refine o_len (n := y1.length) (by decide) rfl (List.length_map _) ty_isl31 ?_
   refine o_move (v := .i 0) (by decide) rfl ?_
   refine run_nil ?_
   refine w_next [(8, .ep [.mp (g + 3 + 7 + 2 + 0)]), (27, .sl .no 3 (y1.map WireFault.cells)), (28, .i (y1.length : Int)), (29, .i 0)] (.k (.k (.k (.k .nil)))) ?_
   refine r_block ?_
   refine w_loop (V := Int × (List (WireFault × Int))) (fun v => [(8, .ep [.mp (g + 3 + 7 + 2 + 0)]), (27, .sl .no 3 (y1.map WireFault.cells)), (28, .i (y1.length : Int)), (29, .i v.1)]) (fun v m3 H' g' => St (fun i => i < g1 ∧ i ∉ ids [(g + 3 + 7 + 2 + 0, .obj none (mapIs (mpv kvWireFault v3)))]) Hb [(g + 3 + 7 + 2 + 0, .obj none (mapIs (mpv kvWireFault v.2)))] H' g' ∧ wires_faults_l2 y1 m3 v.1 v.2 = some (b, s')) (n := n) (0, v3) (.k (.k (.k (.k .nil)))) ⟨(hS.keep [true] rfl).up (by omega), hM⟩ ?_
   rintro ⟨v5, v6⟩ m3 H g3 ⟨hS, hM⟩
   obtain _ | m3 := m3
   ·exact nomatch (show none = some _ from hM)
   change wpA _ _ _ _ (Fr.of [(8, .ep [.mp (g + 3 + 7 + 2 + 0)]), (27, .sl .no 3 (y1.map WireFault.cells)), (28, .i (y1.length : Int)), (29, .i v5)]) _ _
   replace hS : St (fun i => i < g1 ∧ i ∉ ids [(g + 3 + 7 + 2 + 0, .obj none (mapIs (mpv kvWireFault v3)))]) Hb [(g + 3 + 7 + 2 + 0, .obj none (mapIs (mpv kvWireFault v6)))] H g3 := hS
   replace hM : wires_faults_l2_b y1 (wires_faults_l2 y1 m3) v5 v6 = some (b, s') := hM
   refine r_seq ?_
   refine r_region (n := 1) rfl ?_
   refine o_int (v := .b (decide (v5 < (y1.length : Int)))) (by decide) rfl rfl rfl ?_
   refine run_nil ?_
   refine w_next [(8, .ep [.mp (g + 3 + 7 + 2 + 0)]), (27, .sl .no 3 (y1.map WireFault.cells)), (28, .i (y1.length : Int)), (29, .i v5), (30, .b (decide (v5 < (y1.length : Int))))] (.k (.k (.k (.k (.k .nil))))) ?_
   refine r_seq ?_
   rcases Bool.eq_false_or_eq_true (decide (v5 < (y1.length : Int))) with hb7 | hb7
   ·replace hM := ifT hM hb7
    refine w_condT (e := (decide (v5 < (y1.length : Int)))) rfl hb7 ?_
    refine r_skip ?_
    refine w_next [(8, .ep [.mp (g + 3 + 7 + 2 + 0)]), (27, .sl .no 3 (y1.map WireFault.cells)), (28, .i (y1.length : Int)), (29, .i v5)] (.k (.k (.k (.k .nil)))) ?_
    refine r_seq ?_
    refine r_block ?_
    refine r_seq ?_
    refine r_region (n := 4) rfl ?_
    obtain ⟨x8, hx8, hM⟩ := bindE hM
    refine o_index (xs := y1) (f := WireFault.cells) (z := v5) (u := x8) (by decide) rfl rfl ty_es31 hx8 ?_
    refine o_loadE (v := .agg (WireFault.cells x8)) (by decide) rfl (part_agg ty_agg63 (Nat.le_of_ble_eq_true rfl) rfl) ?_
    refine o_alloc hS (by decide) ty_zero63 (by omega) fun H hS => ?_
    refine o_store (v := .agg (WireFault.cells x8)) (ns := (WireFault.cells x8)) (L' := [(g3 + 1 + 2, .cells (WireFault.cells x8)), (g + 3 + 7 + 2 + 0, .obj none (mapIs (mpv kvWireFault v6)))]) 0 hS rfl rfl .no rfl rfl ty_var63 (Nat.le_of_ble_eq_true rfl) rfl fun H hS => ?_
    refine run_nil ?_
    refine w_iceE (L' := [(g + 3 + 7 + 2 + 0, .obj none (mapIs (mpv kvWireFault v6)))]) 0 11 hS rfl rfl rfl fun H hS => ?_
    refine w_next [(8, .ep [.mp (g + 3 + 7 + 2 + 0)]), (11, .ep (WireFault.cells x8)), (27, .sl .no 3 (y1.map WireFault.cells)), (28, .i (y1.length : Int)), (29, .i v5)] (.k (.k (.k (.k (.k .nil))))) ?_
    have hS0 := hS
    refine r_draw (n := 7) rfl (by kernel_rfl) ?_
    refine o_loadE (v := .mp (g + 3 + 7 + 2 + 0)) (by decide) rfl (part_one ty_agg99 ty_sc99 rfl) ?_
    refine o_loadE (v := .agg (WireFault.cells x8)) (by decide) rfl (part_agg ty_agg63 (Nat.le_of_ble_eq_true rfl) rfl) ?_
    obtain ⟨x9, hx9, hM⟩ := bindE hM
    refine o_lookup (kv := kvWireFault) (ok := okWireFault) (M := v6) (k := x8) (u := x9) 0 keys63 hS (by decide) rfl rfl rfl (.st hS0 0 rfl (by omega)) ty_map99 ty_mz99 hx9 ?_
    refine o_int (v := .i (w64 (x9 + 1))) (by decide) rfl rfl rfl ?_
    obtain ⟨x10, hx10, hM⟩ := bindE hM
    refine o_mapEntry (kv := kvWireFault) (ok := okWireFault) (M := v6) (k := x8) (u := x10) (L' := [(g + 3 + 7 + 2 + 0, .obj none (mapIs (mpv kvWireFault (mtouch v6 x8))))]) 0 keys63 hS (by decide) rfl rfl rfl (.st hS0 0 rfl (by omega)) ty_map99 ty_mz99 hx10 rfl fun H hS => ?_
    refine o_extract (v := .i ((midx v6 x8 : Nat) : Int)) (by decide) rfl rfl ?_
    refine o_entryStore (kv := kvWireFault) (M := v6) (k := x8) (v := (w64 (x9 + 1))) (L' := [(g + 3 + 7 + 2 + 0, .obj none (mapIs (mpv kvWireFault (mset v6 x8 (w64 (x9 + 1))))))]) 0 (.inr (by kernel_rfl)) hS rfl rfl rfl rfl rfl fun H hS => ?_
    refine run_nil ?_
    refine r_blk_normal ?_
    refine w_next [(8, .ep [.mp (g + 3 + 7 + 2 + 0)]), (27, .sl .no 3 (y1.map WireFault.cells)), (28, .i (y1.length : Int)), (29, .i v5)] (.k (.k (.k (.k .nil)))) ?_
    refine r_region (n := 2) rfl ?_
    refine o_int (v := .i (w64 (v5 + 1))) (by decide) rfl rfl rfl ?_
    refine o_move (v := .i (w64 (v5 + 1))) (by decide) rfl ?_
    refine run_nil ?_
    exact w_round (w64 (v5 + 1), (mset v6 x8 (w64 (x9 + 1)))) (Nat.lt_succ_self _) (.k (.k (.k (.k .nil)))) ⟨(hS.keep [true] rfl).up (by omega), hM⟩
   ·replace hM := ifF hM hb7
    refine w_condF (e := (decide (v5 < (y1.length : Int)))) rfl hb7 ?_
    refine r_exit ?_
    refine r_then_exit ?_
    refine w_round_exit ?_
    refine r_blk_exit ?_
    refine r_blk_normal ?_
    injection hM with hM
    injection hM with hm1 hm2
    subst hm1 hm2
    exact w_rend (hS.keep [true] rfl)
  refine r_blk_normal ?_
  refine w_next [(1, f0), (6, pA Wiring_.cells r1.1), (8, .ep [.mp (g + 3 + 7 + 2 + 0)])] (.k (.k (.k .nil))) ?_
  refine r_seq ?_
  refine r_region (n := 1) rfl ?_
  refine o_assign (v := .sl .nil 0 []) (by decide) rfl ?_
  refine run_nil ?_
  refine w_own [(1, f0), (6, pA Wiring_.cells r1.1), (8, .ep [.mp (g + 3 + 7 + 2 + 0)]), (12, .sl (.id (g + 3 + 7 + 2 + 3 + 2 + 1 + 1)) 3 (([] : List WireFault).map WireFault.cells))] 12 3 63 hS (by omega) (by decide) rfl (.k (.k (.k (.k .nil)))) fun H hS => ?_
  refine w_join (J := (List WireFault) × S) (fun j => [(12, .sl (.id (g + 3 + 7 + 2 + 3 + 2 + 1 + 1)) 3 (j.1.map WireFault.cells))]) (fun j H' g' => St (fun i => i < g ∧ i ∉ ids (Lo st)) H0 ([(g + 3 + 7 + 2 + 3 + 2 + 1 + 1, .row 63 j.1.length)] ++ Lo j.2) H' g' ∧ wires_faults_j1 j.1 j.2 = some r) ?_ ?_
  ·rintro ⟨v12, v13⟩ H g4 ⟨hS, hM⟩
   change wpA _ _ _ _ (Fr.of [(12, .sl (.id (g + 3 + 7 + 2 + 3 + 2 + 1 + 1)) 3 (v12.map WireFault.cells))]) _ _
   replace hS : St (fun i => i < g ∧ i ∉ ids (Lo st)) H0 ([(g + 3 + 7 + 2 + 3 + 2 + 1 + 1, .row 63 v12.length)] ++ Lo v13) H g4 := hS
   replace hM : wires_faults_j1 v12 v13 = some r := hM
   refine r_seq ?_
   refine r_region (n := 3) rfl ?_
   refine o_move (v := .sl (.id (g + 3 + 7 + 2 + 3 + 2 + 1 + 1)) 3 (v12.map WireFault.cells)) (by decide) rfl ?_
   refine o_assign (v := .sl (.id (g + 3 + 7 + 2 + 3 + 2 + 1 + 1)) 3 (v12.map WireFault.cells)) (by decide) rfl ?_
   refine o_assign (v := .i 0) (by decide) rfl ?_
   refine run_nil ?_
   refine w_next [(4, .sl (.id (g + 3 + 7 + 2 + 3 + 2 + 1 + 1)) 3 (v12.map WireFault.cells)), (5, .i 0)] (.k (.k .nil)) ?_
   refine r_ret ?_
   refine w_endS (x := .tup [.sl (.id (g + 3 + 7 + 2 + 3 + 2 + 1 + 1)) 3 (v12.map WireFault.cells), .i 0]) (f := fun r => .tup [.sl .no 3 (r.1.1.map WireFault.cells), .i r.1.2]) (fd := fun r => (Lo r.2)) (.inr rfl) ?_ (.tupL (.cons (.sl _ _ _) (.k .nil))) (Option.some.inj hM) hS 1 rfl
   exact (res_two (res_tmp (x := .sl (.id (g + 3 + 7 + 2 + 3 + 2 + 1 + 1)) 3 (v12.map WireFault.cells)) rfl) (res_tmp (x := .i 0) rfl))
  ·refine r_seq ?_
   refine r_region (n := 6) rfl ?_
   refine o_move (v := pA Wiring_.cells r1.1) (by decide) rfl ?_
   obtain ⟨x14, hx14, hM⟩ := bindE hM
   refine o_nilA (f := Wiring_.cells) (p := r1.1) (u := x14) (by decide) rfl hx14 ?_
   refine o_fieldE (cs := [.i x14.Wire.Letters, .i x14.Wire.Numbers, .sl .no 3 (x14.Wire.Presses.map WirePress.cells), .i x14.Wire.Faults, .sl .no 3 (x14.all.map WireFault.cells)]) (by decide) ty_fo101_1 rfl ?_
   refine o_loadE (v := .sl .no 3 (x14.all.map WireFault.cells)) (by decide) rfl (part_one ty_agg31 ty_sc31 rfl) ?_
   refine o_len (n := x14.all.length) (by decide) rfl (List.length_map _) ty_isl31 ?_
   refine o_move (v := .i 0) (by decide) rfl ?_
   refine run_nil ?_
   refine w_next [(1, f0), (6, pA Wiring_.cells r1.1), (8, .ep [.mp (g + 3 + 7 + 2 + 0)]), (12, .sl (.id (g + 3 + 7 + 2 + 3 + 2 + 1 + 1)) 3 (([] : List WireFault).map WireFault.cells)), (43, .sl .no 3 (x14.all.map WireFault.cells)), (44, .i (x14.all.length : Int)), (45, .i 0)] (.k (.k (.k (.k (.k (.k (.k .nil))))))) ?_
   refine r_block ?_
   refine w_loop (V := (List WireFault) × Int × S) (fun v => [(1, f0), (6, pA Wiring_.cells r1.1), (8, .ep [.mp (g + 3 + 7 + 2 + 0)]), (12, .sl (.id (g + 3 + 7 + 2 + 3 + 2 + 1 + 1)) 3 (v.1.map WireFault.cells)), (43, .sl .no 3 (x14.all.map WireFault.cells)), (44, .i (x14.all.length : Int)), (45, .i v.2.1)]) (fun v m6 H' g' => St (fun i => i < g ∧ i ∉ ids (Lo st)) H0 ([(g + 3 + 7 + 2 + 3 + 2 + 1 + 1, .row 63 v.1.length), (g + 3 + 7 + 2 + 0, .obj none (mapIs (mpv kvWireFault r11.2)))] ++ Lo v.2.2) H' g' ∧ wires_faults_l3 n aF r1 r11 x14 m6 v.1 v.2.1 v.2.2 = some r) (n := n) (([] : List WireFault), 0, st) (.k (.k (.k (.k (.k (.k (.k .nil))))))) ⟨(hS.keep [true, true] rfl).up (by omega), hM⟩ ?_
   rintro ⟨v17, v18, v19⟩ m6 H g6 ⟨hS, hM⟩
   obtain _ | m6 := m6
   ·exact nomatch (show none = some _ from hM)
   change wpA _ _ _ _ (Fr.of [(1, f0), (6, pA Wiring_.cells r1.1), (8, .ep [.mp (g + 3 + 7 + 2 + 0)]), (12, .sl (.id (g + 3 + 7 + 2 + 3 + 2 + 1 + 1)) 3 (v17.map WireFault.cells)), (43, .sl .no 3 (x14.all.map WireFault.cells)), (44, .i (x14.all.length : Int)), (45, .i v18)]) _ _
   replace hS : St (fun i => i < g ∧ i ∉ ids (Lo st)) H0 ([(g + 3 + 7 + 2 + 3 + 2 + 1 + 1, .row 63 v17.length), (g + 3 + 7 + 2 + 0, .obj none (mapIs (mpv kvWireFault r11.2)))] ++ Lo v19) H g6 := hS
   replace hM : wires_faults_l3_b n aF r1 r11 x14 (wires_faults_l3 n aF r1 r11 x14 m6) v17 v18 v19 = some r := hM
   refine r_seq ?_
   refine r_region (n := 1) rfl ?_
   refine o_int (v := .b (decide (v18 < (x14.all.length : Int)))) (by decide) rfl rfl rfl ?_
   refine run_nil ?_
   refine w_next [(1, f0), (6, pA Wiring_.cells r1.1), (8, .ep [.mp (g + 3 + 7 + 2 + 0)]), (12, .sl (.id (g + 3 + 7 + 2 + 3 + 2 + 1 + 1)) 3 (v17.map WireFault.cells)), (43, .sl .no 3 (x14.all.map WireFault.cells)), (44, .i (x14.all.length : Int)), (45, .i v18), (46, .b (decide (v18 < (x14.all.length : Int))))] (.k (.k (.k (.k (.k (.k (.k (.k .nil)))))))) ?_
   refine r_seq ?_
   rcases Bool.eq_false_or_eq_true (decide (v18 < (x14.all.length : Int))) with hb20 | hb20
   ·replace hM := ifT hM hb20
    refine w_condT (e := (decide (v18 < (x14.all.length : Int)))) rfl hb20 ?_
    refine r_skip ?_
    refine w_next [(1, f0), (6, pA Wiring_.cells r1.1), (8, .ep [.mp (g + 3 + 7 + 2 + 0)]), (12, .sl (.id (g + 3 + 7 + 2 + 3 + 2 + 1 + 1)) 3 (v17.map WireFault.cells)), (43, .sl .no 3 (x14.all.map WireFault.cells)), (44, .i (x14.all.length : Int)), (45, .i v18)] (.k (.k (.k (.k (.k (.k (.k .nil))))))) ?_
    refine w_join (J := (List WireFault) × S) (fun j => [(1, f0), (6, pA Wiring_.cells r1.1), (8, .ep [.mp (g + 3 + 7 + 2 + 0)]), (12, .sl (.id (g + 3 + 7 + 2 + 3 + 2 + 1 + 1)) 3 (j.1.map WireFault.cells)), (43, .sl .no 3 (x14.all.map WireFault.cells)), (44, .i (x14.all.length : Int)), (45, .i v18)]) (fun j H' g' => St (fun i => i < g ∧ i ∉ ids (Lo st)) H0 ([(g + 3 + 7 + 2 + 3 + 2 + 1 + 1, .row 63 j.1.length), (g + 3 + 7 + 2 + 0, .obj none (mapIs (mpv kvWireFault r11.2)))] ++ Lo j.2) H' g' ∧ wires_faults_j2 (wires_faults_l3 n aF r1 r11 x14 m6) v18 j.1 j.2 = some r) ?_ ?_
    ·rintro ⟨v21, v22⟩ H g7 ⟨hS, hM⟩
     change wpA _ _ _ _ (Fr.of [(1, f0), (6, pA Wiring_.cells r1.1), (8, .ep [.mp (g + 3 + 7 + 2 + 0)]), (12, .sl (.id (g + 3 + 7 + 2 + 3 + 2 + 1 + 1)) 3 (v21.map WireFault.cells)), (43, .sl .no 3 (x14.all.map WireFault.cells)), (44, .i (x14.all.length : Int)), (45, .i v18)]) _ _
     replace hS : St (fun i => i < g ∧ i ∉ ids (Lo st)) H0 ([(g + 3 + 7 + 2 + 3 + 2 + 1 + 1, .row 63 v21.length), (g + 3 + 7 + 2 + 0, .obj none (mapIs (mpv kvWireFault r11.2)))] ++ Lo v22) H g7 := hS
     replace hM : wires_faults_j2 (wires_faults_l3 n aF r1 r11 x14 m6) v18 v21 v22 = some r := hM
     refine r_region (n := 2) rfl ?_
     refine o_int (v := .i (w64 (v18 + 1))) (by decide) rfl rfl rfl ?_
     refine o_move (v := .i (w64 (v18 + 1))) (by decide) rfl ?_
     refine run_nil ?_
     exact w_round (v21, w64 (v18 + 1), v22) (Nat.lt_succ_self _) (.k (.k (.k (.k (.k (.k (.k .nil))))))) ⟨(hS.keep [true, true] rfl).up (by omega), hM⟩
    ·refine r_block ?_
     refine r_seq ?_
     refine r_region (n := 4) rfl ?_
     obtain ⟨x23, hx23, hM⟩ := bindE hM
     refine o_index (xs := x14.all) (f := WireFault.cells) (z := v18) (u := x23) (by decide) rfl rfl ty_es31 hx23 ?_
     refine o_loadE (v := .agg (WireFault.cells x23)) (by decide) rfl (part_agg ty_agg63 (Nat.le_of_ble_eq_true rfl) rfl) ?_
     refine o_alloc hS (by decide) ty_zero63 (by omega) fun H hS => ?_
     refine o_store (v := .agg (WireFault.cells x23)) (ns := (WireFault.cells x23)) (L' := ([(g6 + 1 + 2, .cells (WireFault.cells x23)), (g + 3 + 7 + 2 + 3 + 2 + 1 + 1, .row 63 v17.length), (g + 3 + 7 + 2 + 0, .obj none (mapIs (mpv kvWireFault r11.2)))] ++ Lo v19)) 0 hS rfl rfl .no rfl rfl ty_var63 (Nat.le_of_ble_eq_true rfl) rfl fun H hS => ?_
     refine run_nil ?_
     refine w_iceE (L' := ([(g + 3 + 7 + 2 + 3 + 2 + 1 + 1, .row 63 v17.length), (g + 3 + 7 + 2 + 0, .obj none (mapIs (mpv kvWireFault r11.2)))] ++ Lo v19)) 0 14 hS rfl rfl rfl fun H hS => ?_
     refine w_next [(1, f0), (6, pA Wiring_.cells r1.1), (8, .ep [.mp (g + 3 + 7 + 2 + 0)]), (12, .sl (.id (g + 3 + 7 + 2 + 3 + 2 + 1 + 1)) 3 (v17.map WireFault.cells)), (14, .ep (WireFault.cells x23)), (43, .sl .no 3 (x14.all.map WireFault.cells)), (44, .i (x14.all.length : Int)), (45, .i v18)] (.k (.k (.k (.k (.k (.k (.k (.k .nil)))))))) ?_
     refine r_seq ?_
     have hS0 := hS
     refine r_draw (n := 7) rfl (by kernel_rfl) ?_
     refine o_move (v := f0) (by decide) rfl ?_
     refine o_loadE (v := .mp (g + 3 + 7 + 2 + 0)) (by decide) rfl (part_one ty_agg99 ty_sc99 rfl) ?_
     refine o_loadE (v := .agg (WireFault.cells x23)) (by decide) rfl (part_agg ty_agg63 (Nat.le_of_ble_eq_true rfl) rfl) ?_
     obtain ⟨x24, hx24, hM⟩ := bindE hM
     refine o_lookup (kv := kvWireFault) (ok := okWireFault) (M := r11.2) (k := x23) (u := x24) 1 keys63 hS (by decide) rfl rfl rfl (.st hS0 1 rfl (by omega)) ty_map99 ty_mz99 hx24 ?_
     refine o_move (v := pA Wiring_.cells r1.1) (by decide) rfl ?_
     obtain ⟨r25, hr25, hM⟩ := bindE hM
     refine o_call (bs := [pA Wiring_.cells r1.1]) (by decide) rfl rfl ((W_wires_wiring_many hr25).le (.k .nil)) ?_
     obtain ⟨r26, hr26, hM⟩ := bindE hM
     replace hS : St (fun i => i < g ∧ i ∉ ids (Lo st)) H0 ([(g + 3 + 7 + 2 + 3 + 2 + 1 + 1, .row 63 v17.length), (g + 3 + 7 + 2 + 0, .obj none (mapIs (mpv kvWireFault r11.2)))] ++ Lo v19) _ _ := hS
     refine o_state (bs := [.i x24, .i r25]) (.inr (by kernel_rfl)) hS (by decide) rfl rfl ((hf hr26).le (.k (.k .nil))) (hk _ _).ids (by omega) fun H hS => ?_
     refine run_nil ?_
     refine w_next [(1, f0), (6, pA Wiring_.cells r1.1), (8, .ep [.mp (g + 3 + 7 + 2 + 0)]), (12, .sl (.id (g + 3 + 7 + 2 + 3 + 2 + 1 + 1)) 3 (v17.map WireFault.cells)), (14, .ep (WireFault.cells x23)), (43, .sl .no 3 (x14.all.map WireFault.cells)), (44, .i (x14.all.length : Int)), (45, .i v18), (55, .b r26.1)] (.k (.k (.k (.k (.k (.k (.k (.k (.k .nil))))))))) ?_
     rcases Bool.eq_false_or_eq_true r26.1 with hb27 | hb27
     ·replace hM := ifT hM hb27
      refine w_condT (e := r26.1) rfl hb27 ?_
      refine r_region (n := 5) rfl ?_
      refine o_move (v := .sl (.id (g + 3 + 7 + 2 + 3 + 2 + 1 + 1)) 3 (v17.map WireFault.cells)) (by decide) rfl ?_
      refine o_loadE (v := .agg (WireFault.cells x23)) (by decide) rfl (part_agg ty_agg63 (Nat.le_of_ble_eq_true rfl) rfl) ?_
      refine o_buildSlice (es := [(WireFault.cells x23)]) hS (by decide) ty_es31 ty_el31 rfl ty_ef31 rfl (by decide) (by omega) fun H hS => ?_
      obtain ⟨l28, hl28, hM⟩ := bindE hM
      refine o_append (xs := v17) (ys := ([x23] : List WireFault)) (zs := l28) (f := WireFault.cells) (L' := ([(g6 + 1 + 4 + 7 + 2, .row 63 1), (g + 3 + 7 + 2 + 3 + 2 + 1 + 1, .row 63 l28.length), (g + 3 + 7 + 2 + 0, .obj none (mapIs (mpv kvWireFault r11.2)))] ++ Lo r26.2)) 1 hS (by decide) rfl rfl rfl rfl .no ty_es31 ty_el31 ty_ef31 hl28 rfl fun H hS => ?_
      refine o_assign (v := .sl (.id (g + 3 + 7 + 2 + 3 + 2 + 1 + 1)) 3 (l28.map WireFault.cells)) (by decide) rfl ?_
      refine run_nil ?_
      refine r_blk_normal ?_
      exact w_goto (l28, r26.2) (.k (.k (.k (.k (.k (.k (.k .nil))))))) ⟨(hS.keep [false, true, true] rfl).up (by omega), hM⟩
     ·replace hM := ifF hM hb27
      refine w_condF (e := r26.1) rfl hb27 ?_
      refine r_skip ?_
      refine r_blk_normal ?_
      exact w_goto (v17, r26.2) (.k (.k (.k (.k (.k (.k (.k .nil))))))) ⟨(hS.keep [true, true] rfl).up (by omega), hM⟩
   ·replace hM := ifF hM hb20
    refine w_condF (e := (decide (v18 < (x14.all.length : Int)))) rfl hb20 ?_
    refine r_exit ?_
    refine r_then_exit ?_
    refine w_round_exit ?_
    refine r_blk_exit ?_
    exact w_goto (v17, v19) (.k .nil) ⟨(hS.keep [true, false] rfl).up (by omega), hM⟩
theorem W_wires_Sure_c1 {a0 : Int} {a1 : Int} {r : Bool} (hM : wires_Sure_c1 a0 a1 = some r) : PureSat Try.prog 58 [.i a0, .i a1] (.b r) := by
 refine pure_of_wp mixed Try.func58 rfl (by decide) Try.ntmps58 (by simp) ?pure fun H0 g hf => ?_
 case pure => exact .v _
 rw [frame0_of]
 change wpA _ _ _ _ (Fr.of [(0, .i a0), (1, .i a1)]) H0 g
 have hS := St.start hf
 refine r_seq ?_
 refine r_region (n := 1) rfl ?_
 refine o_assign (v := .b false) (by decide) rfl ?_
 refine run_nil ?_
 refine w_next [(0, .i a0), (1, .i a1)] (.k (.k .nil)) ?_
 refine r_seq ?_
 refine r_region (n := 4) rfl ?_
 refine o_move (v := .i a0) (by decide) rfl ?_
 refine o_move (v := .i a1) (by decide) rfl ?_
 refine o_int (v := .b (a0 == a1)) (by decide) rfl rfl rfl ?_
 refine o_assign (v := .b (a0 == a1)) (by decide) rfl ?_
 refine run_nil ?_
 refine w_next [(4, .b (a0 == a1))] (.k .nil) ?_
 refine r_ret ?_
 refine w_end (x := .b (a0 == a1)) (f := fun r => .b r) (.inr rfl) ?_ (.refl _) (Option.some.inj hM) hS
 exact (res_one (res_tmp (x := .b (a0 == a1)) rfl))
theorem W_wires_Sure {n : Nat} {a0 : Wire} {r : (List WireFault) × Int} (hM : wires_Sure n a0 = some r) : PureSat Try.prog 19 [.agg (Wire.cells a0)] (.tup [.sl .no 3 (r.1.map WireFault.cells), .i r.2]) := by
 refine pure_of_wp mixed Try.func19 rfl (by decide) Try.ntmps19 (by simp) ?pure fun H0 g hf => ?_
 case pure => exact .tup _ (pl_cons (.sl _ _ (pures_map (fun x => (pl_cons (.v _) (pl_cons (.v _) (pl_cons (.v _) pl_nil)))))) (pl_cons (.v _) pl_nil))
 rw [frame0_of]
 change wpA _ _ _ _ (Fr.of [(0, .agg (Wire.cells a0))]) H0 g
 have hS := St.start hf
 refine r_seq ?_
 refine r_region (n := 3) rfl ?_
 refine o_box (v := .agg (Wire.cells a0)) (cs := (Wire.cells a0)) hS (by decide) rfl rfl (by omega) fun H hS => ?_
 refine o_assign (v := .sl .nil 0 []) (by decide) rfl ?_
 refine o_assign (v := .i 0) (by decide) rfl ?_
 refine run_nil ?_
 refine w_iceE (L' := []) 0 1 hS rfl rfl rfl fun H hS => ?_
 refine w_next [(1, .ep (Wire.cells a0))] (.k .nil) ?_
 refine r_seq ?_
 refine r_region (n := 6) rfl ?_
 refine o_loadE (v := .agg (Wire.cells a0)) (by decide) rfl (part_agg ty_agg24 (Nat.le_of_ble_eq_true rfl) rfl) ?_
 obtain ⟨r1, hr1, hM⟩ := bindE hM
 refine o_call (bs := [.agg (Wire.cells a0), .fn (.func 58) [] []]) (by decide) rfl rfl (pure_of_hsat ((W_wires_faults (Lo := (fun (_ : Unit) => []))  (fun _ _ => kl_nil) (fun _ => List.nodup_nil) (fun _ => inb_nil) (aF := (fun (x0 : Int) (x1 : Int) (_ : Unit) => (wires_Sure_c1 x0 x1).map fun y => (y, ()))) (fun _ H hH => (.fn _ _ _ ai_nil ai_nil)) rfl (fun h => csat_val (W_wires_Sure_c1 (pure_some h))) hr1).le (.k (.k .nil)))) ?_
 refine o_extract (v := .sl .no 3 (r1.1.1.map WireFault.cells)) (by decide) rfl rfl ?_
 refine o_extract (v := .i r1.1.2) (by decide) rfl rfl ?_
 refine o_assign (v := .sl .no 3 (r1.1.1.map WireFault.cells)) (by decide) rfl ?_
 refine o_assign (v := .i r1.1.2) (by decide) rfl ?_
 refine run_nil ?_
 refine w_next [(2, .sl .no 3 (r1.1.1.map WireFault.cells)), (3, .i r1.1.2)] (.k (.k .nil)) ?_
 refine r_ret ?_
 refine w_end (x := .tup [.sl .no 3 (r1.1.1.map WireFault.cells), .i r1.1.2]) (f := fun r => .tup [.sl .no 3 (r.1.map WireFault.cells), .i r.2]) (.inr rfl) ?_ (.refl _) (Option.some.inj hM) hS
 exact (res_two (res_tmp (x := .sl .no 3 (r1.1.1.map WireFault.cells)) rfl) (res_tmp (x := .i r1.1.2) rfl))
theorem W_law11_SameFaults {n : Nat} {a0 : List WireFault} {a1 : List WireFault} {r : Bool} (hM : law11_SameFaults n a0 a1 = some r) : PureSat Try.prog 23 [.sl .no 3 (a0.map WireFault.cells), .sl .no 3 (a1.map WireFault.cells)] (.b r) := by
 refine pure_of_wp mixed Try.func23 rfl (by decide) Try.ntmps23 (by simp) ?pure fun H0 g hf => ?_
 case pure => exact .v _
 rw [frame0_of]
 change wpA _ _ _ _ (Fr.of [(0, .sl .no 3 (a0.map WireFault.cells)), (1, .sl .no 3 (a1.map WireFault.cells))]) H0 g
 have hS := St.start hf
 refine r_seq ?_
 refine r_region (n := 1) rfl ?_
 refine o_assign (v := .b false) (by decide) rfl ?_
 refine run_nil ?_
 refine w_next [(0, .sl .no 3 (a0.map WireFault.cells)), (1, .sl .no 3 (a1.map WireFault.cells))] (.k (.k .nil)) ?_
 refine r_seq ?_
 refine r_seq ?_
 refine r_region (n := 5) rfl ?_
 refine o_move (v := .sl .no 3 (a0.map WireFault.cells)) (by decide) rfl ?_
 refine o_len (n := a0.length) (by decide) rfl (List.length_map _) ty_isl31 ?_
 refine o_move (v := .sl .no 3 (a1.map WireFault.cells)) (by decide) rfl ?_
 refine o_len (n := a1.length) (by decide) rfl (List.length_map _) ty_isl31 ?_
 refine o_int (v := .b ((a0.length : Int) != (a1.length : Int))) (by decide) rfl rfl rfl ?_
 refine run_nil ?_
 refine w_next [(0, .sl .no 3 (a0.map WireFault.cells)), (1, .sl .no 3 (a1.map WireFault.cells)), (10, .b ((a0.length : Int) != (a1.length : Int)))] (.k (.k (.k .nil))) ?_
 rcases Bool.eq_false_or_eq_true ((a0.length : Int) != (a1.length : Int)) with hb1 | hb1
 ·replace hM := ifT hM hb1
  refine w_condT (e := ((a0.length : Int) != (a1.length : Int))) rfl hb1 ?_
  refine r_seq ?_
  refine r_region (n := 1) rfl ?_
  refine o_assign (v := .b false) (by decide) rfl ?_
  refine run_nil ?_
  refine w_next [(4, .b false)] (.k .nil) ?_
  refine r_ret ?_
  refine r_then_ret ?_
  refine w_end (x := .b false) (f := fun r => .b r) (.inr rfl) ?_ (.refl _) (Option.some.inj hM) hS
  exact (res_one (res_tmp (x := .b false) rfl))
 ·replace hM := ifF hM hb1
  refine w_condF (e := ((a0.length : Int) != (a1.length : Int))) rfl hb1 ?_
  refine r_skip ?_
  refine w_next [(0, .sl .no 3 (a0.map WireFault.cells)), (1, .sl .no 3 (a1.map WireFault.cells))] (.k (.k .nil)) ?_
  refine w_join (J := Unit) (fun j => []) (fun j H' g' => St (· < g) H0 [] H' g' ∧ law11_SameFaults_j1 = some r) ?_ ?_
  ·rintro _ H g1 ⟨hS, hM⟩
   change wpA _ _ _ _ (Fr.of []) _ _
   replace hS : St (· < g) H0 [] H g1 := hS
   replace hM : law11_SameFaults_j1 = some r := hM
   refine r_seq ?_
   refine r_region (n := 1) rfl ?_
   refine o_assign (v := .b true) (by decide) rfl ?_
   refine run_nil ?_
   refine w_next [(4, .b true)] (.k .nil) ?_
   refine r_ret ?_
   refine w_end (x := .b true) (f := fun r => .b r) (.inr rfl) ?_ (.refl _) (Option.some.inj hM) hS
   exact (res_one (res_tmp (x := .b true) rfl))
  ·refine r_seq ?_
   refine r_region (n := 1) rfl ?_
   refine o_assign (v := .i 0) (by decide) rfl ?_
   refine run_nil ?_
   refine w_next [(0, .sl .no 3 (a0.map WireFault.cells)), (1, .sl .no 3 (a1.map WireFault.cells)), (5, .i 0)] (.k (.k (.k .nil))) ?_
   refine r_block ?_
   refine w_loop (V := Int) (fun v => [(0, .sl .no 3 (a0.map WireFault.cells)), (1, .sl .no 3 (a1.map WireFault.cells)), (5, .i v)]) (fun v m2 H' g' => St (· < g) H0 [] H' g' ∧ law11_SameFaults_l1 a0 a1 m2 v = some r) (n := n) 0 (.k (.k (.k .nil))) ⟨(hS.keep [] rfl).up (by omega), hM⟩ ?_
   rintro v2 m2 H g2 ⟨hS, hM⟩
   obtain _ | m2 := m2
   ·exact nomatch (show none = some _ from hM)
   change wpA _ _ _ _ (Fr.of [(0, .sl .no 3 (a0.map WireFault.cells)), (1, .sl .no 3 (a1.map WireFault.cells)), (5, .i v2)]) _ _
   replace hS : St (· < g) H0 [] H g2 := hS
   replace hM : law11_SameFaults_l1_b a0 a1 (law11_SameFaults_l1 a0 a1 m2) v2 = some r := hM
   refine r_seq ?_
   refine r_seq ?_
   refine r_region (n := 4) rfl ?_
   refine o_move (v := .i v2) (by decide) rfl ?_
   refine o_move (v := .sl .no 3 (a0.map WireFault.cells)) (by decide) rfl ?_
   refine o_len (n := a0.length) (by decide) rfl (List.length_map _) ty_isl31 ?_
   refine o_int (v := .b (decide (v2 < (a0.length : Int)))) (by decide) rfl rfl rfl ?_
   refine run_nil ?_
   refine w_next [(0, .sl .no 3 (a0.map WireFault.cells)), (1, .sl .no 3 (a1.map WireFault.cells)), (5, .i v2), (14, .b (decide (v2 < (a0.length : Int))))] (.k (.k (.k (.k .nil)))) ?_
   rcases Bool.eq_false_or_eq_true (decide (v2 < (a0.length : Int))) with hb3 | hb3
   ·replace hM := ifT hM hb3
    refine w_condT (e := (decide (v2 < (a0.length : Int)))) rfl hb3 ?_
    refine r_skip ?_
    refine w_next [(0, .sl .no 3 (a0.map WireFault.cells)), (1, .sl .no 3 (a1.map WireFault.cells)), (5, .i v2)] (.k (.k (.k .nil))) ?_
    refine r_seq ?_
    refine r_block ?_
    refine r_seq ?_
    have hS0 := hS
    refine r_draw (n := 9) rfl (by kernel_rfl) ?_
    refine o_move (v := .sl .no 3 (a0.map WireFault.cells)) (by decide) rfl ?_
    refine o_move (v := .i v2) (by decide) rfl ?_
    obtain ⟨x4, hx4, hM⟩ := bindE hM
    refine o_index (xs := a0) (f := WireFault.cells) (z := v2) (u := x4) (by decide) rfl rfl ty_es31 hx4 ?_
    refine o_loadE (v := .agg (WireFault.cells x4)) (by decide) rfl (part_agg ty_agg63 (Nat.le_of_ble_eq_true rfl) rfl) ?_
    refine o_move (v := .sl .no 3 (a1.map WireFault.cells)) (by decide) rfl ?_
    refine o_move (v := .i v2) (by decide) rfl ?_
    obtain ⟨x5, hx5, hM⟩ := bindE hM
    refine o_index (xs := a1) (f := WireFault.cells) (z := v2) (u := x5) (by decide) rfl rfl ty_es31 hx5 ?_
    refine o_loadE (v := .agg (WireFault.cells x5)) (by decide) rfl (part_agg ty_agg63 (Nat.le_of_ble_eq_true rfl) rfl) ?_
    refine o_neS (cs := (WireFault.cells x4)) (ds := (WireFault.cells x5)) (e := ((x4.Kind == x5.Kind) && ((x4.A == x5.A) && ((x4.B == x5.B) && true)))) (by decide) rfl rfl ty_flat63 rfl ?_
    refine run_nil ?_
    refine w_next [(0, .sl .no 3 (a0.map WireFault.cells)), (1, .sl .no 3 (a1.map WireFault.cells)), (5, .i v2), (25, .b (!((x4.Kind == x5.Kind) && ((x4.A == x5.A) && ((x4.B == x5.B) && true)))))] (.k (.k (.k (.k .nil)))) ?_
    rcases Bool.eq_false_or_eq_true (!((x4.Kind == x5.Kind) && ((x4.A == x5.A) && ((x4.B == x5.B) && true)))) with hb6 | hb6
    ·replace hM := ifT hM hb6
     refine w_condT (e := (!((x4.Kind == x5.Kind) && ((x4.A == x5.A) && ((x4.B == x5.B) && true))))) rfl hb6 ?_
     refine r_seq ?_
     refine r_region (n := 1) rfl ?_
     refine o_assign (v := .b false) (by decide) rfl ?_
     refine run_nil ?_
     refine w_next [(4, .b false)] (.k .nil) ?_
     refine r_ret ?_
     refine r_blk_ret ?_
     refine r_then_ret ?_
     refine w_round_ret ?_
     refine r_blk_ret ?_
     refine w_goto_ret ?_
     refine w_end (x := .b false) (f := fun r => .b r) (.inr rfl) ?_ (.refl _) (Option.some.inj hM) hS
     exact (res_one (res_tmp (x := .b false) rfl))
    ·replace hM := ifF hM hb6
     refine w_condF (e := (!((x4.Kind == x5.Kind) && ((x4.A == x5.A) && ((x4.B == x5.B) && true))))) rfl hb6 ?_
     refine r_skip ?_
     refine r_blk_normal ?_
     refine w_next [(0, .sl .no 3 (a0.map WireFault.cells)), (1, .sl .no 3 (a1.map WireFault.cells)), (5, .i v2)] (.k (.k (.k .nil))) ?_
     refine r_region (n := 3) rfl ?_
     refine o_move (v := .i v2) (by decide) rfl ?_
     refine o_int (v := .i (w64 (v2 + 1))) (by decide) rfl rfl rfl ?_
     refine o_assign (v := .i (w64 (v2 + 1))) (by decide) rfl ?_
     refine run_nil ?_
     exact w_round (w64 (v2 + 1)) (Nat.lt_succ_self _) (.k (.k (.k .nil))) ⟨(hS.keep [] rfl).up (by omega), hM⟩
   ·replace hM := ifF hM hb3
    refine w_condF (e := (decide (v2 < (a0.length : Int)))) rfl hb3 ?_
    refine r_exit ?_
    refine r_then_exit ?_
    refine w_round_exit ?_
    refine r_blk_exit ?_
    exact w_goto () .nil ⟨(hS.keep [] rfl).up (by omega), hM⟩
theorem W_wires_wiring_shows {n : Nat} {a0 : Option Wiring_} {a1 : Int} {a2 : Int} {r : (List (Int × Int))} (hM : wires_wiring_shows n a0 a1 a2 = some r) : OwnM Try.prog 63 [pA Wiring_.cells a0, .i a1, .i a2] (mapIs (mpv kvI r)) := by
 refine ownM_of_wp mixed Try.func63 rfl (by decide) Try.ntmps63 (by simp) fun H0 g hf => ?_
 rw [frame0_of]
 change wpA _ _ _ _ (Fr.of [(0, pA Wiring_.cells a0), (1, .i a1), (2, .i a2)]) H0 g
 have hS := St.start hf
 refine r_seq ?_
 refine r_region (n := 4) rfl ?_
 refine o_box (v := pA Wiring_.cells a0) (cs := [pA Wiring_.cells a0]) hS (by decide) rfl (cellsOf_pA _ _) (by omega) fun H hS => ?_
 refine o_box (v := .i a1) (cs := [.i a1]) hS (by decide) rfl rfl (by omega) fun H hS => ?_
 refine o_box (v := .i a2) (cs := [.i a2]) hS (by decide) rfl rfl (by omega) fun H hS => ?_
 refine o_assign (v := .v (.map none)) (by decide) rfl ?_
 refine run_nil ?_
 refine w_iceE (L' := [(g + 2, .cells [.i a2]), (g + 1, .cells [.i a1])]) 2 3 hS rfl rfl rfl fun H hS => ?_
 refine w_iceE (L' := [(g + 2, .cells [.i a2])]) 1 4 hS rfl rfl rfl fun H hS => ?_
 refine w_iceE (L' := []) 0 5 hS rfl rfl rfl fun H hS => ?_
 refine w_next [(3, .ep [pA Wiring_.cells a0]), (4, .ep [.i a1]), (5, .ep [.i a2])] (.k (.k (.k .nil))) ?_
 refine r_seq ?_
 refine r_region (n := 3) rfl ?_
 refine o_makeMap (kv := kvI) hS (by decide) ty_map75 (by omega) fun H hS => ?_
 refine o_alloc hS (by decide) ty_zero75 (by omega) fun H hS => ?_
 refine o_store (v := .mp (g + 4 + 0)) (ns := [.mp (g + 4 + 0)]) (L' := [(g + 4 + 1, .cells [.mp (g + 4 + 0)]), (g + 4 + 0, .obj none (mapIs (mpv kvI ([] : List (Int × Int)))))]) 0 hS rfl rfl .no rfl rfl ty_var75 (Nat.le_of_ble_eq_true rfl) rfl fun H hS => ?_
 refine run_nil ?_
 refine w_iceE (L' := [(g + 4 + 0, .obj none (mapIs (mpv kvI ([] : List (Int × Int)))))]) 0 7 hS rfl rfl rfl fun H hS => ?_
 refine w_next [(3, .ep [pA Wiring_.cells a0]), (4, .ep [.i a1]), (5, .ep [.i a2]), (7, .ep [.mp (g + 4 + 0)])] (.k (.k (.k (.k .nil)))) ?_
 refine r_seq ?_
 refine r_seq ?_
 refine r_region (n := 2) rfl ?_
 refine o_loadE (v := pA Wiring_.cells a0) (by decide) rfl (part_one ty_agg64 ty_sc64 rfl) ?_
 refine o_makeFunc (first := [pA Wiring_.cells a0]) (cap := []) (by decide) rfl rfl ?_
 refine run_nil ?_
 refine w_next [(3, .ep [pA Wiring_.cells a0]), (4, .ep [.i a1]), (5, .ep [.i a2]), (7, .ep [.mp (g + 4 + 0)]), (11, .fn (.func 84) [pA Wiring_.cells a0] [])] (.k (.k (.k (.k (.k .nil))))) ?_
 refine r_block ?_
 obtain ⟨r6, hr6, hM⟩ := bindE hM
 refine w_range0 (Lo := fun s : (List (Int × Int)) => [(g + 4 + 0, .obj none (mapIs (mpv kvI s)))]) (R := fun x s b s' => ∃ y, x = .sl .no 3 (y.map WireFault.cells) ∧ wires_wiring_shows_r1 n a0 a1 a2 y s = some (b, s')) (s0 := ([] : List (Int × Int))) (sF := r6.2) (A := []) (A' := []) (L' := [(g + 4 + 0, .obj none (mapIs (mpv kvI r6.2)))]) [(3, .ep [pA Wiring_.cells a0]), (4, .ep [.i a1]), (5, .ep [.i a2]), (7, .ep [.mp (g + 4 + 0)])] [0] hS (by omega) rfl rfl rfl (.cons rfl .nil) (by decide) rfl kl_nil (fun _ _ => (kl_obj kl_nil)) (fun s => (inb_st (ic_obj ic_nil) inb_nil)) (fun s H hH => (ai_cons (.ep _ (ai_cons (show Go.AM.Pure _ from pure_pA (fun x => (pl_cons (.v _) (pl_cons (.v _) (pl_cons (.sl _ _ (pures_map (fun x => (pl_cons (.v _) (pl_cons (.v _) (pl_cons (.v _) pl_nil)))))) (pl_cons (.v _) (pl_cons (.sl _ _ (pures_map (fun x => (pl_cons (.v _) (pl_cons (.v _) (pl_cons (.v _) pl_nil)))))) pl_nil)))))) _).inH ai_nil)) (ai_cons (.ep _ (ai_cons (show Go.AM.Pure _ from .v _).inH ai_nil)) (ai_cons (.ep _ (ai_cons (show Go.AM.Pure _ from .v _).inH ai_nil)) (ai_cons (.ep _ (ai_cons (in_mp hH 0 rfl) ai_nil)) ai_nil))))) (.k (.k (.k (.k .nil)))) rfl (by decide) rfl ?_ (fun F Lx hk1 hnd1 hin1 hF1 h01 hf1 => W_wires_wiring_truths (Lo := Lx)  hk1 hnd1 hin1 (aF := wires_wiring_shows_r1 n a0 a1 a2) hF1 h01 (fun h => hf1 _ _ _ _ ⟨_, rfl, h⟩) hr6) fun H hS => ?_
 ·rintro x v1 b s' ⟨y1, rfl, hM⟩
  refine ⟨rfl, fun H' g1 hf' hh' => ?_⟩
  have hS := St.start hf'
  change wpA _ _ _ _ (Fr.of [(12, .sl .no 3 (y1.map WireFault.cells)), (3, .ep [pA Wiring_.cells a0]), (4, .ep [.i a1]), (5, .ep [.i a2]), (7, .ep [.mp (g + 4 + 0)])]) _ _
  refine r_region (n := 1) rfl ?_
  refine o_assign (v := .sl .no 3 (y1.map WireFault.cells)) (by decide) rfl ?_
  refine run_nil ?_
  refine w_rasg (l3 := [(3, .ep [pA Wiring_.cells a0]), (4, .ep [.i a1]), (5, .ep [.i a2]), (7, .ep [.mp (g + 4 + 0)]), (8, .sl .no 3 (y1.map WireFault.cells))]) (.k (.k (.k (.k (.k .nil))))) hS (by omega) fun Hb H hS => ?_
  replace hS : St (fun i => i < g1 ∧ i ∉ ids [(g + 4 + 0, .obj none (mapIs (mpv kvI v1)))]) Hb [(g + 4 + 0, .obj none (mapIs (mpv kvI v1)))] H _ := hS
  refine r_block ?_
  have hS0 := hS
  refine r_draw (n := 10) rfl (by kernel_rfl) ?_
  refine o_loadE (v := .mp (g + 4 + 0)) (by decide) rfl (part_one ty_agg75 ty_sc75 rfl) ?_
  refine o_loadE (v := pA Wiring_.cells a0) (by decide) rfl (part_one ty_agg64 ty_sc64 rfl) ?_
  refine o_move (v := .sl .no 3 (y1.map WireFault.cells)) (by decide) rfl ?_
  obtain ⟨r2, hr2, hM⟩ := bindE hM
  refine o_call (bs := [.sl .no 3 (y1.map WireFault.cells)]) (by decide) rfl rfl ((W_wires_wire hr2).le (.k .nil)) ?_
  refine o_loadE (v := .i a1) (by decide) rfl (part_one ty_agg3 ty_sc3 rfl) ?_
  refine o_loadE (v := .i a2) (by decide) rfl (part_one ty_agg3 ty_sc3 rfl) ?_
  obtain ⟨r3, hr3, hM⟩ := bindE hM
  refine o_call (bs := [pA Wiring_.cells a0, .agg [.i r2.letters.c0, .i r2.letters.c1, .i r2.letters.c2, .i r2.letters.c3, .i r2.letters.c4, .i r2.numbers.c0, .i r2.numbers.c1, .i r2.numbers.c2, .i r2.numbers.c3, .i r2.numbers.c4], .i a1, .i a2]) (by decide) rfl rfl ((W_wires_wiring_plays hr3).le (.k (.k (.k (.k .nil))))) ?_
  obtain ⟨x4, hx4, hM⟩ := bindE hM
  refine o_lookup (kv := kvI) (ok := okI) (M := v1) (k := r3) (u := x4) 0 keys3 hS (by decide) rfl rfl rfl (.st hS0 0 rfl (by omega)) ty_map75 ty_mz75 hx4 ?_
  refine o_int (v := .i (w64 (x4 + 1))) (by decide) rfl rfl rfl ?_
  obtain ⟨l5, hl5, hM⟩ := bindE hM
  refine o_mapUpdate (kv := kvI) (ok := okI) (M := v1) (k := r3) (v := (w64 (x4 + 1))) (M' := l5) (L' := [(g + 4 + 0, .obj none (mapIs (mpv kvI l5)))]) 0 keys3 (.inr (by kernel_rfl)) hS rfl rfl rfl rfl ty_map75 ty_mz75 hl5 rfl fun H hS => ?_
  refine run_nil ?_
  refine r_blk_normal ?_
  injection hM with hM
  injection hM with hm1 hm2
  subst hm1 hm2
  exact w_rend (hS.keep [true] rfl)
 refine r_blk_normal ?_
 refine w_next [(7, .ep [.mp (g + 4 + 0)])] (.k .nil) ?_
 refine r_seq ?_
 refine r_region (n := 2) rfl ?_
 refine o_loadE (v := .mp (g + 4 + 0)) (by decide) rfl (part_one ty_agg75 ty_sc75 rfl) ?_
 refine o_assign (v := .mp (g + 4 + 0)) (by decide) rfl ?_
 refine run_nil ?_
 refine w_next [(6, .mp (g + 4 + 0))] (.k .nil) ?_
 refine r_ret ?_
 obtain rfl := Option.some.inj hM
 exact w_endMp 0 (.inr rfl) (res_one (res_tmp (x := .mp (g + 4 + 0)) rfl)) hS rfl rfl
theorem W_cmp_isNaN_int {a0 : Int} {r : Bool} (hM : cmp_isNaN_int a0 = some r) : PureSat Try.prog 123 [.i a0] (.b r) := by
 refine pure_of_wp mixed Try.func123 rfl (by decide) Try.ntmps123 (by simp) ?pure fun H0 g hf => ?_
 case pure => exact .v _
 rw [frame0_of]
 change wpA _ _ _ _ (Fr.of [(0, .i a0)]) H0 g
 have hS := St.start hf
 refine r_seq ?_
 refine r_region (n := 1) rfl ?_
 refine o_assign (v := .b false) (by decide) rfl ?_
 refine run_nil ?_
 refine w_next [(0, .i a0)] (.k .nil) ?_
 refine r_seq ?_
 refine r_region (n := 4) rfl ?_
 refine o_move (v := .i a0) (by decide) rfl ?_
 refine o_move (v := .i a0) (by decide) rfl ?_
 refine o_int (v := .b (a0 != a0)) (by decide) rfl rfl rfl ?_
 refine o_assign (v := .b (a0 != a0)) (by decide) rfl ?_
 refine run_nil ?_
 refine w_next [(2, .b (a0 != a0))] (.k .nil) ?_
 refine r_ret ?_
 refine w_end (x := .b (a0 != a0)) (f := fun r => .b r) (.inr rfl) ?_ (.refl _) (Option.some.inj hM) hS
 exact (res_one (res_tmp (x := .b (a0 != a0)) rfl))
theorem W_wires_Shows {n : Nat} {a0 : Wire} {a1 : Int} {a2 : Int} {r : List Int × Int} (hM : wires_Shows n a0 a1 a2 = some r) : PureSat Try.prog 28 [.agg (Wire.cells a0), .i a1, .i a2] (.tup [.sl .no 1 (r.1.map cI), .i r.2]) := by
 refine pure_of_snd (zs := r.1) (y := .int .i64 r.2) (e := 3) mixed Try.func28 rfl (by decide) Try.ntmps28 (by simp) ?pa fun G0 w0 C hC => ?_
 case pa => exact pl_cons (.agg _ (pl_cons (.v _) (pl_cons (.v _) (pl_cons (.sl _ _ (pures_map (fun x => (pl_cons (.v _) (pl_cons (.v _) (pl_cons (.v _) pl_nil)))))) (pl_cons (.v _) pl_nil))))) (pl_cons (.v _) (pl_cons (.v _) pl_nil))
 rw [frame0_of]
 refine (?_ : ∀ g, Fresh E0 g → Snd _ _ _ _ _ _ (Fr.of [(0, .agg (Wire.cells a0)), (1, .i a1), (2, .i a2)]) E0 g) 0 (fun _ _ => rfl)
 intro g hf
 have hS := St.start hf
 refine snd_seq mixed hC ?_
 refine r_region (n := 3) rfl ?_
 refine o_box (v := .agg (Wire.cells a0)) (cs := (Wire.cells a0)) hS (by decide) rfl rfl (by omega) fun H hS => ?_
 refine o_assign (v := .sl .nil 0 []) (by decide) rfl ?_
 refine o_assign (v := .i 0) (by decide) rfl ?_
 refine run_nil ?_
 refine w_nextS (l' := [(1, .i a1), (2, .i a2), (3, .ptr (g + 0) 0)]) (.k (.k (.k .nil))) ?_
 refine snd_seq mixed hC ?_
 have hS0 := hS
 refine r_draw (n := 11) rfl (by kernel_rfl) ?_
 refine o_load (v := .agg (Wire.cells a0)) 0 hS (by decide) rfl rfl (.lt (by omega)) (part_agg ty_agg24 (Nat.le_of_ble_eq_true rfl) rfl) ?_
 refine o_load (v := .agg (Wire.cells a0)) 0 hS (by decide) rfl rfl (.lt (by omega)) (part_agg ty_agg24 (Nat.le_of_ble_eq_true rfl) rfl) ?_
 refine o_move (v := .i a1) (by decide) rfl ?_
 refine o_move (v := .i a2) (by decide) rfl ?_
 obtain ⟨r1, hr1, hM⟩ := bindE hM
 refine o_call (bs := [.agg (Wire.cells a0), .i a1, .i a2]) (by decide) rfl rfl ((W_wires_isPress hr1).le (.k (.k (.k .nil)))) ?_
 obtain ⟨r2, hr2, hM⟩ := bindE hM
 refine o_call (bs := [.agg (Wire.cells a0), .b r1]) (by decide) rfl rfl ((W_wires_ask hr2).le (.k (.k .nil))) ?_
 refine o_move (v := .tup [pA Wiring_.cells r2.1, .i r2.2]) (by decide) rfl ?_
 refine o_extract (v := pA Wiring_.cells r2.1) (by decide) rfl rfl ?_
 refine o_extract (v := .i r2.2) (by decide) rfl rfl ?_
 refine o_assign (v := pA Wiring_.cells r2.1) (by decide) rfl ?_
 refine o_assign (v := .i r2.2) (by decide) rfl ?_
 refine run_nil ?_
 replace hS := hS0
 refine w_nextS (l' := [(1, .i a1), (2, .i a2), (8, pA Wiring_.cells r2.1), (9, .i r2.2)]) (.k (.k (.k (.k .nil)))) ?_
 refine snd_seq mixed hC ?_
 refine r_seq ?_
 refine r_region (n := 2) rfl ?_
 refine o_move (v := .i r2.2) (by decide) rfl ?_
 refine o_int (v := .b (r2.2 != 0)) (by decide) rfl rfl rfl ?_
 refine run_nil ?_
 refine w_next [(1, .i a1), (2, .i a2), (8, pA Wiring_.cells r2.1), (9, .i r2.2), (22, .b (r2.2 != 0))] (.k (.k (.k (.k (.k .nil))))) ?_
 rcases Bool.eq_false_or_eq_true (r2.2 != 0) with hb3 | hb3
 ·replace hM := ifT hM hb3
  refine w_condT (e := (r2.2 != 0)) rfl hb3 ?_
  refine r_seq ?_
  refine r_region (n := 3) rfl ?_
  refine o_move (v := .i r2.2) (by decide) rfl ?_
  refine o_assign (v := .sl .nil 0 []) (by decide) rfl ?_
  refine o_assign (v := .i r2.2) (by decide) rfl ?_
  refine run_nil ?_
  refine w_next [(6, .sl .nil 0 []), (7, .i r2.2)] (.k (.k .nil)) ?_
  refine r_ret ?_
  refine r_then_ret ?_
  have hr := Option.some.inj hM
  subst hr
  exact ⟨.inr rfl, .inr ⟨rfl, res_two (res_tmp (x := .sl .nil 0 []) rfl) (res_tmp (x := .i r2.2) rfl)⟩⟩
 ·replace hM := ifF hM hb3
  refine w_condF (e := (r2.2 != 0)) rfl hb3 ?_
  refine r_skip ?_
  refine w_nextS (l' := [(1, .i a1), (2, .i a2), (8, pA Wiring_.cells r2.1)]) (.k (.k (.k .nil))) ?_
  refine snd_seq mixed hC ?_
  refine r_region (n := 1) rfl ?_
  refine o_assign (v := .sl .nil 0 []) (by decide) rfl ?_
  refine run_nil ?_
  refine w_nextS (l' := [(1, .i a1), (2, .i a2), (8, pA Wiring_.cells r2.1), (10, .sl .nil 0 [])]) (.k (.k (.k (.k .nil)))) ?_
  refine snd_seq mixed hC ?_
  refine r_seq ?_
  refine r_region (n := 5) rfl ?_
  refine o_move (v := pA Wiring_.cells r2.1) (by decide) rfl ?_
  refine o_move (v := .i a1) (by decide) rfl ?_
  refine o_move (v := .i a2) (by decide) rfl ?_
  obtain ⟨m, hm, hM⟩ := bindE hM
  rcases Bool.eq_false_or_eq_true (decide (m.length ≤ 1048576)) with hbm | hbm
  rotate_left
  ·exact nomatch (ifF hM hbm)
  replace hM := ifT hM hbm
  have hml : m.length ≤ 1048576 := of_decide_eq_true hbm
  have hr := Option.some.inj hM
  refine o_newmap (bs := [pA Wiring_.cells r2.1, .i a1, .i a2]) (p := mapIs (mpv kvI m)) hS (by decide) rfl rfl ((W_wires_wiring_shows hm).le (.k (.k (.k .nil)))) (pl_cons (pure_pA (fun x => (pl_cons (.v _) (pl_cons (.v _) (pl_cons (.sl _ _ (pures_map (fun x => (pl_cons (.v _) (pl_cons (.v _) (pl_cons (.v _) pl_nil)))))) (pl_cons (.v _) (pl_cons (.sl _ _ (pures_map (fun x => (pl_cons (.v _) (pl_cons (.v _) (pl_cons (.v _) pl_nil)))))) pl_nil)))))) _) (pl_cons (.v _) (pl_cons (.v _) pl_nil))) (by omega) fun H hS => ?_
  refine o_range (m := mpv kvI m) 0 hS (by decide) rfl rfl ty_map75 (by omega) fun a H hS => ?_
  refine run_nil ?_
  refine w_own [(10, .sl (.id (g + 3 + 11 + 2 + 1 + 5)) 1 (([] : List Int).map cI)), (28, .it (g + 3 + 11 + 2 + 1 + 4) (g + 3 + 11 + 2 + 1 + 3) a)] 10 1 3 hS (by omega) (by decide) rfl (.k (.k .nil)) fun H hS => ?_
  refine r_block ?_
  refine w_loop (V := List Int × List Nat) (fun v => [(10, .sl (.id (g + 3 + 11 + 2 + 1 + 5)) 1 (v.1.map cI)), (28, .it (g + 3 + 11 + 2 + 1 + 4) (g + 3 + 11 + 2 + 1 + 3) a)]) (fun v k H' g' => St (· < g) E0 [((g + 3 + 11 + 2 + 1 + 5), .row 3 v.1.length), ((g + 3 + 11 + 2 + 1 + 4), .obj none (itIs a (mpv kvI m).length v.2.toArray)), ((g + 3 + 11 + 2 + 1 + 3), .obj none (mapIs (mpv kvI m))), (g + 0, .cells (Wire.cells a0))] H' g' ∧ SeenOk m.length v.2 ∧ k = m.length - v.2.length ∧ v.1 = v.2.map fun e => (m.getD e (0, 0)).1) (n := m.length) ([], []) (.k (.k .nil)) ⟨hS.up (by omega), SeenOk.nil _, rfl, rfl⟩ ?_
  rintro ⟨v, q⟩ k H g2 ⟨hS, hq, hk, hv⟩
  change wpA _ _ _ _ (Fr.of [(10, .sl (.id (g + 3 + 11 + 2 + 1 + 5)) 1 (v.map cI)), (28, .it (g + 3 + 11 + 2 + 1 + 4) (g + 3 + 11 + 2 + 1 + 3) a)]) _ _
  replace hS : St (· < g) E0 [((g + 3 + 11 + 2 + 1 + 5), .row 3 v.length), ((g + 3 + 11 + 2 + 1 + 4), .obj none (itIs a (mpv kvI m).length q.toArray)), ((g + 3 + 11 + 2 + 1 + 3), .obj none (mapIs (mpv kvI m))), (g + 0, .cells (Wire.cells a0))] H g2 := hS
  replace hq : SeenOk m.length q := hq
  replace hv : v = q.map fun e => (m.getD e (0, 0)).1 := hv
  replace hk : k = m.length - q.length := hk
  have hvl : v.length = q.length := by rw [hv, List.length_map]
  refine r_seq ?_
  refine r_region (n := 2) rfl ?_
  refine o_next 1 2 hS (by decide) rfl rfl rfl ?_ ?_
  ·intro hall
   rw [mpv_len] at hall
   refine o_extract (v := .b false) (by decide) rfl rfl ?_
   refine run_nil ?_
   refine w_next [(10, .sl (.id (g + 3 + 11 + 2 + 1 + 5)) 1 (v.map cI)), (30, .b false)] (.k (.k .nil)) ?_
   refine r_seq ?_
   refine w_condF (e := false) rfl rfl ?_
   refine r_exit ?_
   refine r_then_exit ?_
   refine w_round_exit ?_
   refine r_blk_exit ?_
   have hj := (hS.has ((g + 3 + 11 + 2 + 1 + 5), .row 3 v.length) (by simp)).2.2
   have hvs : isort v = r.1 := by
    rw [← hr, hv]
    exact seen_keys m (0, 0) (hq.perm hall)
   have hlen : v.length ≤ 1048576 := by have := hq.le; omega
   refine w_nextS (l' := [(10, .sl (.id (g + 3 + 11 + 2 + 1 + 5)) 1 (v.map cI))]) (.k .nil) ?_
   refine snd_sort (zs := v) (ts := isort v) (j := (g + 3 + 11 + 2 + 1 + 5)) (e := 3) (by decide) (by decide) (by decide) (by decide) (by decide) rfl hj (sort_ints v hlen) ?_
   refine snd_wp mixed hC ?_
   refine r_seq ?_
   refine r_region (n := 3) rfl ?_
   refine o_move (v := .sl (.id (g + 3 + 11 + 2 + 1 + 5)) 1 (intRow (isort v))) (by decide) rfl ?_
   refine o_assign (v := .sl (.id (g + 3 + 11 + 2 + 1 + 5)) 1 (intRow (isort v))) (by decide) rfl ?_
   refine o_assign (v := .i 0) (by decide) rfl ?_
   refine run_nil ?_
   refine w_next [(6, .sl (.id (g + 3 + 11 + 2 + 1 + 5)) 1 (intRow (isort v))), (7, .i 0)] (.k (.k .nil)) ?_
   refine r_ret ?_
   have h2 : r.2 = 0 := by rw [← hr]
   rw [hvs] at *
   refine ⟨.inr rfl, .inl ⟨_, ?_, Heap.set_same _ _ _⟩⟩
   rw [h2]
   exact res_two (res_tmp (x := .sl (.id (g + 3 + 11 + 2 + 1 + 5)) 1 (intRow r.1)) rfl) (res_tmp (x := .i 0) rfl)
  ·intro e p H hp hs hS
   obtain ⟨x, hx, rfl⟩ := mpv_get hp
   have hlt := (List.getElem?_eq_some_iff.1 hx).1
   refine o_extract (v := .b true) (by decide) rfl rfl ?_
   refine run_nil ?_
   refine w_next [(10, .sl (.id (g + 3 + 11 + 2 + 1 + 5)) 1 (v.map cI)), (28, .it (g + 3 + 11 + 2 + 1 + 4) (g + 3 + 11 + 2 + 1 + 3) a), (30, .b true)] (.k (.k (.k .nil))) ?_
   refine r_seq ?_
   refine w_condT (e := true) rfl rfl ?_
   refine r_skip ?_
   refine w_next [(10, .sl (.id (g + 3 + 11 + 2 + 1 + 5)) 1 (v.map cI)), (28, .it (g + 3 + 11 + 2 + 1 + 4) (g + 3 + 11 + 2 + 1 + 3) a)] (.k (.k .nil)) ?_
   refine r_block ?_
   refine r_seq ?_
   refine r_region (n := 3) rfl ?_
   refine o_entry (p := (kvI x.1, .int .i64 x.2)) 1 2 hS (by decide) rfl rfl rfl hp ?_
   refine o_extract (v := .i x.1) (by decide) rfl rfl ?_
   refine o_assign (v := .i x.1) (by decide) rfl ?_
   refine run_nil ?_
   refine w_next [(10, .sl (.id (g + 3 + 11 + 2 + 1 + 5)) 1 (v.map cI)), (28, .it (g + 3 + 11 + 2 + 1 + 4) (g + 3 + 11 + 2 + 1 + 3) a), (11, .i x.1)] (.k (.k (.k .nil))) ?_
   have hq' := hq.push hlt hs
   have hle := hq'.le
   rw [List.length_append, List.length_singleton] at hle
   have happ : app v [x.1] = some (v ++ [x.1]) := by
    unfold app
    rw [if_pos (by simp; omega)]
   refine r_region (n := 5) rfl ?_
   refine o_move (v := .sl (.id (g + 3 + 11 + 2 + 1 + 5)) 1 (v.map cI)) (by decide) rfl ?_
   refine o_move (v := .i x.1) (by decide) rfl ?_
   refine o_buildSlice (es := [[.i x.1]]) (hS.up (by omega)) (by decide) ty_es39 ty_el39 rfl ty_ef39 rfl (by decide) (Nat.le_refl _) fun H hS => ?_
   refine o_append (xs := v) (ys := ([x.1] : List Int)) (zs := v ++ [x.1]) (f := cI) (L' := [(_, .row 3 1), ((g + 3 + 11 + 2 + 1 + 5), .row 3 (v ++ [x.1]).length), ((g + 3 + 11 + 2 + 1 + 4), .obj none (itIs a (mpv kvI m).length (q.toArray.push e))), ((g + 3 + 11 + 2 + 1 + 3), .obj none (mapIs (mpv kvI m))), (g + 0, .cells (Wire.cells a0))]) 1 hS (by decide) rfl rfl rfl rfl .no ty_es39 ty_el39 ty_ef39 happ rfl fun H hS => ?_
   refine o_assign (v := .sl (.id (g + 3 + 11 + 2 + 1 + 5)) 1 ((v ++ [x.1]).map cI)) (by decide) rfl ?_
   refine run_nil ?_
   refine r_blk_normal ?_
   refine w_round (v ++ [x.1], q ++ [e]) (m := m.length - (q ++ [e]).length) (by rw [List.length_append, List.length_singleton]; omega) (.k (.k .nil)) ⟨?_, hq', rfl, ?_⟩
   ·have hS := hS.keep (L' := [((g + 3 + 11 + 2 + 1 + 5), .row 3 (v ++ [x.1]).length), ((g + 3 + 11 + 2 + 1 + 4), .obj none (itIs a (mpv kvI m).length (q.toArray.push e))), ((g + 3 + 11 + 2 + 1 + 3), .obj none (mapIs (mpv kvI m))), (g + 0, .cells (Wire.cells a0))]) [false, true, true, true, true] rfl
    rw [List.push_toArray] at hS
    exact hS.up (by omega)
   ·rw [List.map_append, ← hv]
    simp [List.getD_eq_getElem?_getD, hx]
theorem W_wires_wiring_left {n : Nat} {a0 : Option Wiring_} {a1 : Int} {a2 : Int} {r : Int} (hM : wires_wiring_left n a0 a1 a2 = some r) : PureSat Try.prog 66 [pA Wiring_.cells a0, .i a1, .i a2] (.i r) := by
 refine pure_of_wp mixed Try.func66 rfl (by decide) Try.ntmps66 (by simp) ?pure fun H0 g hf => ?_
 case pure => exact .v _
 rw [frame0_of]
 change wpA _ _ _ _ (Fr.of [(0, pA Wiring_.cells a0), (1, .i a1), (2, .i a2)]) H0 g
 have hS := St.start hf
 refine r_seq ?_
 refine r_region (n := 1) rfl ?_
 refine o_assign (v := .i 0) (by decide) rfl ?_
 refine run_nil ?_
 refine w_next [(0, pA Wiring_.cells a0), (1, .i a1), (2, .i a2)] (.k (.k (.k .nil))) ?_
 refine r_seq ?_
 refine r_region (n := 1) rfl ?_
 refine o_assign (v := .i 0) (by decide) rfl ?_
 refine run_nil ?_
 refine w_next [(0, pA Wiring_.cells a0), (1, .i a1), (2, .i a2), (7, .i 0)] (.k (.k (.k (.k .nil)))) ?_
 refine r_seq ?_
 refine r_seq ?_
 refine r_region (n := 5) rfl ?_
 refine o_move (v := pA Wiring_.cells a0) (by decide) rfl ?_
 refine o_move (v := .i a1) (by decide) rfl ?_
 refine o_move (v := .i a2) (by decide) rfl ?_
 obtain ⟨m, hm, hM⟩ := bindE hM
 have hM := Option.some.inj hM
 refine o_newmap (bs := [pA Wiring_.cells a0, .i a1, .i a2]) (p := mapIs (mpv kvI m)) hS (by decide) rfl rfl ((W_wires_wiring_shows hm).le (.k (.k (.k .nil)))) (pl_cons (pure_pA (fun x => (pl_cons (.v _) (pl_cons (.v _) (pl_cons (.sl _ _ (pures_map (fun x => (pl_cons (.v _) (pl_cons (.v _) (pl_cons (.v _) pl_nil)))))) (pl_cons (.v _) (pl_cons (.sl _ _ (pures_map (fun x => (pl_cons (.v _) (pl_cons (.v _) (pl_cons (.v _) pl_nil)))))) pl_nil)))))) _) (pl_cons (.v _) (pl_cons (.v _) pl_nil))) (by omega) fun H hS => ?_
 refine o_range (m := mpv kvI m) 0 hS (by decide) rfl rfl ty_map75 (by omega) fun a H hS => ?_
 refine run_nil ?_
 refine w_next [(7, .i 0), (14, .it (g + 1 + 1 + 4) (g + 1 + 1 + 3) a)] (.k (.k .nil)) ?_
 refine r_block ?_
 refine w_loop (V := Int × List Nat) (fun v => [(7, .i v.1), (14, .it (g + 1 + 1 + 4) (g + 1 + 1 + 3) a)]) (fun v k H' g' => St (· < g) H0 [(g + 1 + 1 + 4, .obj none (itIs a (mpv kvI m).length v.2.toArray)), (g + 1 + 1 + 3, .obj none (mapIs (mpv kvI m)))] H' g' ∧ SeenOk m.length v.2 ∧ k = m.length - v.2.length ∧ v.1 = v.2.foldl (fun b e => max b (m.getD e (0, 0)).2) 0) (n := m.length) (0, []) (.k (.k .nil)) ⟨hS.up (by omega), SeenOk.nil _, rfl, rfl⟩ ?_
 rintro ⟨v, q⟩ k H g2 ⟨hS, hq, hk, hv⟩
 change wpA _ _ _ _ (Fr.of [(7, .i v), (14, .it (g + 1 + 1 + 4) (g + 1 + 1 + 3) a)]) _ _
 replace hS : St (· < g) H0 [(g + 1 + 1 + 4, .obj none (itIs a (mpv kvI m).length q.toArray)), (g + 1 + 1 + 3, .obj none (mapIs (mpv kvI m)))] H g2 := hS
 replace hq : SeenOk m.length q := hq
 replace hv : v = q.foldl (fun b e => max b (m.getD e (0, 0)).2) 0 := hv
 replace hk : k = m.length - q.length := hk
 refine r_seq ?_
 refine r_region (n := 2) rfl ?_
 refine o_next 0 1 hS (by decide) rfl rfl rfl ?_ ?_
 ·intro hall
  rw [mpv_len] at hall
  refine o_extract (v := .b false) (by decide) rfl rfl ?_
  refine run_nil ?_
  refine w_next [(7, .i v), (16, .b false)] (.k (.k .nil)) ?_
  refine r_seq ?_
  refine w_condF (e := false) rfl rfl ?_
  refine r_exit ?_
  refine r_then_exit ?_
  refine w_round_exit ?_
  refine r_blk_exit ?_
  refine w_next [(7, .i v)] (.k .nil) ?_
  refine r_seq ?_
  refine r_region (n := 2) rfl ?_
  refine o_move (v := .i v) (by decide) rfl ?_
  refine o_assign (v := .i v) (by decide) rfl ?_
  refine run_nil ?_
  refine w_next [(6, .i v)] (.k .nil) ?_
  refine r_ret ?_
  have hvr : v = r := by
   rw [hv, ← hM]
   exact foldl_seen m (0, 0) (fun b p => max b p.2) (fun b x y => by omega) 0 (hq.perm hall)
  refine w_end (x := .i v) (f := fun r => .i r) (.inr rfl) ?_ (.refl _) hvr hS
  exact (res_one (res_tmp (x := .i v) rfl))
 ·intro e p H hp hs hS
  obtain ⟨x, hx, rfl⟩ := mpv_get hp
  have hlt := (List.getElem?_eq_some_iff.1 hx).1
  refine o_extract (v := .b true) (by decide) rfl rfl ?_
  refine run_nil ?_
  refine w_next [(7, .i v), (14, .it (g + 1 + 1 + 4) (g + 1 + 1 + 3) a), (16, .b true)] (.k (.k (.k .nil))) ?_
  refine r_seq ?_
  refine w_condT (e := true) rfl rfl ?_
  refine r_skip ?_
  refine w_next [(7, .i v), (14, .it (g + 1 + 1 + 4) (g + 1 + 1 + 3) a)] (.k (.k .nil)) ?_
  refine r_block ?_
  refine r_seq ?_
  refine r_region (n := 3) rfl ?_
  refine o_entry (p := (kvI x.1, .int .i64 x.2)) 0 1 hS (by decide) rfl rfl rfl hp ?_
  refine o_extract (v := .i x.2) (by decide) rfl rfl ?_
  refine o_assign (v := .i x.2) (by decide) rfl ?_
  refine run_nil ?_
  refine w_next [(7, .i v), (14, .it (g + 1 + 1 + 4) (g + 1 + 1 + 3) a), (9, .i x.2)] (.k (.k (.k .nil))) ?_
  refine r_region (n := 4) rfl ?_
  refine o_move (v := .i v) (by decide) rfl ?_
  refine o_move (v := .i x.2) (by decide) rfl ?_
  refine o_max (v := .i (max v x.2)) (by decide) rfl ?_
  refine o_assign (v := .i (max v x.2)) (by decide) rfl ?_
  refine run_nil ?_
  refine r_blk_normal ?_
  have hq' := hq.push hlt hs
  have hle := hq'.le
  rw [List.length_append, List.length_singleton] at hle
  refine w_round (max v x.2, q ++ [e]) (m := m.length - (q ++ [e]).length) (by rw [List.length_append, List.length_singleton]; omega) (.k (.k .nil)) ⟨?_, hq', rfl, ?_⟩
  ·have hS := hS.up (b' := _) (Nat.le_refl _)
   rw [List.push_toArray] at hS
   exact hS.up (by omega)
  ·rw [List.foldl_append, ← hv]
   simp [List.getD_eq_getElem?_getD, hx]
theorem W_wires_Next {n : Nat} {a0 : Wire} {r : Int × Int × Int} (hM : wires_Next n a0 = some r) : PureSat Try.prog 32 [.agg (Wire.cells a0)] (.tup [.i r.1, .i r.2.1, .i r.2.2]) := by
 refine pure_of_wp mixed Try.func32 rfl (by decide) Try.ntmps32 (by simp) ?pure fun H0 g hf => ?_
 case pure => exact .tup _ (pl_cons (.v _) (pl_cons (.v _) (pl_cons (.v _) pl_nil)))
 rw [frame0_of]
 change wpA _ _ _ _ (Fr.of [(0, .agg (Wire.cells a0))]) H0 g
 have hS := St.start hf
 refine r_seq ?_
 refine r_region (n := 4) rfl ?_
 refine o_box (v := .agg (Wire.cells a0)) (cs := (Wire.cells a0)) hS (by decide) rfl rfl (by omega) fun H hS => ?_
 refine o_assign (v := .i 0) (by decide) rfl ?_
 refine o_assign (v := .i 0) (by decide) rfl ?_
 refine o_assign (v := .i 0) (by decide) rfl ?_
 refine run_nil ?_
 refine w_iceE (L' := []) 0 1 hS rfl rfl rfl fun H hS => ?_
 refine w_next [(1, .ep (Wire.cells a0)), (2, .i 0), (3, .i 0)] (.k (.k (.k .nil))) ?_
 refine r_seq ?_
 refine r_region (n := 7) rfl ?_
 refine o_loadE (v := .agg (Wire.cells a0)) (by decide) rfl (part_agg ty_agg24 (Nat.le_of_ble_eq_true rfl) rfl) ?_
 obtain ⟨r1, hr1, hM⟩ := bindE hM
 refine o_call (bs := [.agg (Wire.cells a0), .b true]) (by decide) rfl rfl ((W_wires_ask hr1).le (.k (.k .nil))) ?_
 refine o_move (v := .tup [pA Wiring_.cells r1.1, .i r1.2]) (by decide) rfl ?_
 refine o_extract (v := pA Wiring_.cells r1.1) (by decide) rfl rfl ?_
 refine o_extract (v := .i r1.2) (by decide) rfl rfl ?_
 refine o_assign (v := pA Wiring_.cells r1.1) (by decide) rfl ?_
 refine o_assign (v := .i r1.2) (by decide) rfl ?_
 refine run_nil ?_
 refine w_next [(1, .ep (Wire.cells a0)), (2, .i 0), (3, .i 0), (4, .i r1.2), (5, pA Wiring_.cells r1.1)] (.k (.k (.k (.k (.k .nil))))) ?_
 refine r_seq ?_
 refine r_seq ?_
 refine r_region (n := 2) rfl ?_
 refine o_move (v := .i r1.2) (by decide) rfl ?_
 refine o_int (v := .b (r1.2 != 0)) (by decide) rfl rfl rfl ?_
 refine run_nil ?_
 refine w_next [(1, .ep (Wire.cells a0)), (2, .i 0), (3, .i 0), (4, .i r1.2), (5, pA Wiring_.cells r1.1), (16, .b (r1.2 != 0))] (.k (.k (.k (.k (.k (.k .nil)))))) ?_
 rcases Bool.eq_false_or_eq_true (r1.2 != 0) with hb2 | hb2
 ·replace hM := ifT hM hb2
  refine w_condT (e := (r1.2 != 0)) rfl hb2 ?_
  refine r_seq ?_
  refine r_region (n := 4) rfl ?_
  refine o_move (v := .i r1.2) (by decide) rfl ?_
  refine o_assign (v := .i 0) (by decide) rfl ?_
  refine o_assign (v := .i 0) (by decide) rfl ?_
  refine o_assign (v := .i r1.2) (by decide) rfl ?_
  refine run_nil ?_
  refine w_next [(2, .i 0), (3, .i 0), (4, .i r1.2)] (.k (.k (.k .nil))) ?_
  refine r_ret ?_
  refine r_then_ret ?_
  refine w_end (x := .tup [.i 0, .i 0, .i r1.2]) (f := fun r => .tup [.i r.1, .i r.2.1, .i r.2.2]) (.inr rfl) ?_ (.refl _) (Option.some.inj hM) hS
  exact (res_three (res_tmp (x := .i 0) rfl) (res_tmp (x := .i 0) rfl) (res_tmp (x := .i r1.2) rfl))
 ·replace hM := ifF hM hb2
  refine w_condF (e := (r1.2 != 0)) rfl hb2 ?_
  refine r_skip ?_
  refine w_next [(1, .ep (Wire.cells a0)), (2, .i 0), (3, .i 0), (5, pA Wiring_.cells r1.1)] (.k (.k (.k (.k .nil)))) ?_
  refine r_seq ?_
  refine r_region (n := 3) rfl ?_
  refine o_move (v := pA Wiring_.cells r1.1) (by decide) rfl ?_
  obtain ⟨r3, hr3, hM⟩ := bindE hM
  refine o_call (bs := [pA Wiring_.cells r1.1]) (by decide) rfl rfl ((W_wires_wiring_many hr3).le (.k .nil)) ?_
  refine o_assign (v := .i r3) (by decide) rfl ?_
  refine run_nil ?_
  refine w_next [(1, .ep (Wire.cells a0)), (2, .i 0), (3, .i 0), (5, pA Wiring_.cells r1.1), (6, .i r3)] (.k (.k (.k (.k (.k .nil))))) ?_
  refine r_seq ?_
  refine r_region (n := 1) rfl ?_
  refine o_assign (v := .i 3) (by decide) rfl ?_
  refine run_nil ?_
  refine w_next [(1, .ep (Wire.cells a0)), (2, .i 0), (3, .i 0), (4, .i 3), (5, pA Wiring_.cells r1.1), (6, .i r3)] (.k (.k (.k (.k (.k (.k .nil)))))) ?_
  refine w_join (J := Int × Int × Int) (fun j => [(2, .i j.1), (3, .i j.2.1), (4, .i j.2.2)]) (fun j H' g' => St (· < g) H0 [] H' g' ∧ wires_Next_j1 j.1 j.2.1 j.2.2 = some r) ?_ ?_
  ·rintro ⟨v4, v5, v6⟩ H g1 ⟨hS, hM⟩
   change wpA _ _ _ _ (Fr.of [(2, .i v4), (3, .i v5), (4, .i v6)]) _ _
   replace hS : St (· < g) H0 [] H g1 := hS
   replace hM : wires_Next_j1 v4 v5 v6 = some r := hM
   refine r_seq ?_
   refine r_region (n := 6) rfl ?_
   refine o_move (v := .i v4) (by decide) rfl ?_
   refine o_move (v := .i v5) (by decide) rfl ?_
   refine o_move (v := .i v6) (by decide) rfl ?_
   refine o_assign (v := .i v4) (by decide) rfl ?_
   refine o_assign (v := .i v5) (by decide) rfl ?_
   refine o_assign (v := .i v6) (by decide) rfl ?_
   refine run_nil ?_
   refine w_next [(2, .i v4), (3, .i v5), (4, .i v6)] (.k (.k (.k .nil))) ?_
   refine r_ret ?_
   refine w_end (x := .tup [.i v4, .i v5, .i v6]) (f := fun r => .tup [.i r.1, .i r.2.1, .i r.2.2]) (.inr rfl) ?_ (.refl _) (Option.some.inj hM) hS
   exact (res_three (res_tmp (x := .i v4) rfl) (res_tmp (x := .i v5) rfl) (res_tmp (x := .i v6) rfl))
  ·refine r_seq ?_
   refine r_region (n := 3) rfl ?_
   refine o_fieldE (cs := (Wire.cells a0)) (by decide) ty_fo24_0 rfl ?_
   refine o_loadE (v := .i a0.Letters) (by decide) rfl (part_one ty_agg3 ty_sc3 rfl) ?_
   refine o_move (v := .i 0) (by decide) rfl ?_
   refine run_nil ?_
   refine w_next [(1, .ep (Wire.cells a0)), (2, .i 0), (3, .i 0), (4, .i 3), (5, pA Wiring_.cells r1.1), (6, .i r3), (21, .i a0.Letters), (22, .i 0)] (.k (.k (.k (.k (.k (.k (.k (.k .nil)))))))) ?_
   refine r_block ?_
   refine w_loop (V := Int × Int × Int × Int × Int) (fun v => [(1, .ep (Wire.cells a0)), (2, .i v.1), (3, .i v.2.1), (4, .i v.2.2.1), (5, pA Wiring_.cells r1.1), (6, .i v.2.2.2.1), (21, .i a0.Letters), (22, .i v.2.2.2.2)]) (fun v m2 H' g' => St (· < g) H0 [] H' g' ∧ wires_Next_l1 n a0 r1 m2 v.1 v.2.1 v.2.2.1 v.2.2.2.1 v.2.2.2.2 = some r) (n := n) (0, 0, 3, r3, 0) (.k (.k (.k (.k (.k (.k (.k (.k .nil)))))))) ⟨(hS.keep [] rfl).up (by omega), hM⟩ ?_
   rintro ⟨v7, v8, v9, v10, v11⟩ m2 H g2 ⟨hS, hM⟩
   obtain _ | m2 := m2
   ·exact nomatch (show none = some _ from hM)
   change wpA _ _ _ _ (Fr.of [(1, .ep (Wire.cells a0)), (2, .i v7), (3, .i v8), (4, .i v9), (5, pA Wiring_.cells r1.1), (6, .i v10), (21, .i a0.Letters), (22, .i v11)]) _ _
   replace hS : St (· < g) H0 [] H g2 := hS
   replace hM : wires_Next_l1_b n a0 r1 (wires_Next_l1 n a0 r1 m2) v7 v8 v9 v10 v11 = some r := hM
   refine r_seq ?_
   refine r_region (n := 1) rfl ?_
   refine o_int (v := .b (decide (v11 < a0.Letters))) (by decide) rfl rfl rfl ?_
   refine run_nil ?_
   refine w_next [(1, .ep (Wire.cells a0)), (2, .i v7), (3, .i v8), (4, .i v9), (5, pA Wiring_.cells r1.1), (6, .i v10), (21, .i a0.Letters), (22, .i v11), (23, .b (decide (v11 < a0.Letters)))] (.k (.k (.k (.k (.k (.k (.k (.k (.k .nil))))))))) ?_
   refine r_seq ?_
   rcases Bool.eq_false_or_eq_true (decide (v11 < a0.Letters)) with hb12 | hb12
   ·replace hM := ifT hM hb12
    refine w_condT (e := (decide (v11 < a0.Letters))) rfl hb12 ?_
    refine r_skip ?_
    refine w_next [(1, .ep (Wire.cells a0)), (2, .i v7), (3, .i v8), (4, .i v9), (5, pA Wiring_.cells r1.1), (6, .i v10), (21, .i a0.Letters), (22, .i v11)] (.k (.k (.k (.k (.k (.k (.k (.k .nil)))))))) ?_
    refine w_join (J := Int × Int × Int × Int) (fun j => [(1, .ep (Wire.cells a0)), (2, .i j.1), (3, .i j.2.1), (4, .i j.2.2.1), (5, pA Wiring_.cells r1.1), (6, .i j.2.2.2), (21, .i a0.Letters), (22, .i v11)]) (fun j H' g' => St (· < g) H0 [] H' g' ∧ wires_Next_j2 (wires_Next_l1 n a0 r1 m2) v11 j.1 j.2.1 j.2.2.1 j.2.2.2 = some r) ?_ ?_
    ·rintro ⟨v13, v14, v15, v16⟩ H g3 ⟨hS, hM⟩
     change wpA _ _ _ _ (Fr.of [(1, .ep (Wire.cells a0)), (2, .i v13), (3, .i v14), (4, .i v15), (5, pA Wiring_.cells r1.1), (6, .i v16), (21, .i a0.Letters), (22, .i v11)]) _ _
     replace hS : St (· < g) H0 [] H g3 := hS
     replace hM : wires_Next_j2 (wires_Next_l1 n a0 r1 m2) v11 v13 v14 v15 v16 = some r := hM
     refine r_region (n := 2) rfl ?_
     refine o_int (v := .i (w64 (v11 + 1))) (by decide) rfl rfl rfl ?_
     refine o_move (v := .i (w64 (v11 + 1))) (by decide) rfl ?_
     refine run_nil ?_
     exact w_round (v13, v14, v15, v16, w64 (v11 + 1)) (Nat.lt_succ_self _) (.k (.k (.k (.k (.k (.k (.k (.k .nil)))))))) ⟨(hS.keep [] rfl).up (by omega), hM⟩
    ·refine r_block ?_
     refine r_seq ?_
     refine r_region (n := 2) rfl ?_
     refine o_move (v := .i v11) (by decide) rfl ?_
     refine o_assign (v := .i v11) (by decide) rfl ?_
     refine run_nil ?_
     refine w_next [(1, .ep (Wire.cells a0)), (2, .i v7), (3, .i v8), (4, .i v9), (5, pA Wiring_.cells r1.1), (6, .i v10), (7, .i v11), (21, .i a0.Letters), (22, .i v11)] (.k (.k (.k (.k (.k (.k (.k (.k (.k .nil))))))))) ?_
     refine r_seq ?_
     refine r_region (n := 3) rfl ?_
     refine o_fieldE (cs := (Wire.cells a0)) (by decide) ty_fo24_1 rfl ?_
     refine o_loadE (v := .i a0.Numbers) (by decide) rfl (part_one ty_agg3 ty_sc3 rfl) ?_
     refine o_move (v := .i 0) (by decide) rfl ?_
     refine run_nil ?_
     refine w_next [(1, .ep (Wire.cells a0)), (2, .i v7), (3, .i v8), (4, .i v9), (5, pA Wiring_.cells r1.1), (6, .i v10), (7, .i v11), (21, .i a0.Letters), (22, .i v11), (26, .i a0.Numbers), (27, .i 0)] (.k (.k (.k (.k (.k (.k (.k (.k (.k (.k (.k .nil))))))))))) ?_
     refine r_block ?_
     refine w_loop (V := Int × Int × Int × Int × Int) (fun v => [(1, .ep (Wire.cells a0)), (2, .i v.1), (3, .i v.2.1), (4, .i v.2.2.1), (5, pA Wiring_.cells r1.1), (6, .i v.2.2.2.1), (7, .i v11), (21, .i a0.Letters), (22, .i v11), (26, .i a0.Numbers), (27, .i v.2.2.2.2)]) (fun v m4 H' g' => St (· < g) H0 [] H' g' ∧ wires_Next_l2 n (wires_Next_l1 n a0 r1 m2) a0 r1 v11 m4 v.1 v.2.1 v.2.2.1 v.2.2.2.1 v.2.2.2.2 = some r) (n := n) (v7, v8, v9, v10, 0) (.k (.k (.k (.k (.k (.k (.k (.k (.k (.k (.k .nil))))))))))) ⟨(hS.keep [] rfl).up (by omega), hM⟩ ?_
     rintro ⟨v17, v18, v19, v20, v21⟩ m4 H g4 ⟨hS, hM⟩
     obtain _ | m4 := m4
     ·exact nomatch (show none = some _ from hM)
     change wpA _ _ _ _ (Fr.of [(1, .ep (Wire.cells a0)), (2, .i v17), (3, .i v18), (4, .i v19), (5, pA Wiring_.cells r1.1), (6, .i v20), (7, .i v11), (21, .i a0.Letters), (22, .i v11), (26, .i a0.Numbers), (27, .i v21)]) _ _
     replace hS : St (· < g) H0 [] H g4 := hS
     replace hM : wires_Next_l2_b n (wires_Next_l1 n a0 r1 m2) a0 r1 v11 (wires_Next_l2 n (wires_Next_l1 n a0 r1 m2) a0 r1 v11 m4) v17 v18 v19 v20 v21 = some r := hM
     refine r_seq ?_
     refine r_region (n := 1) rfl ?_
     refine o_int (v := .b (decide (v21 < a0.Numbers))) (by decide) rfl rfl rfl ?_
     refine run_nil ?_
     refine w_next [(1, .ep (Wire.cells a0)), (2, .i v17), (3, .i v18), (4, .i v19), (5, pA Wiring_.cells r1.1), (6, .i v20), (7, .i v11), (21, .i a0.Letters), (22, .i v11), (26, .i a0.Numbers), (27, .i v21), (28, .b (decide (v21 < a0.Numbers)))] (.k (.k (.k (.k (.k (.k (.k (.k (.k (.k (.k (.k .nil)))))))))))) ?_
     refine r_seq ?_
     rcases Bool.eq_false_or_eq_true (decide (v21 < a0.Numbers)) with hb22 | hb22
     ·replace hM := ifT hM hb22
      refine w_condT (e := (decide (v21 < a0.Numbers))) rfl hb22 ?_
      refine r_skip ?_
      refine w_next [(1, .ep (Wire.cells a0)), (2, .i v17), (3, .i v18), (4, .i v19), (5, pA Wiring_.cells r1.1), (6, .i v20), (7, .i v11), (21, .i a0.Letters), (22, .i v11), (26, .i a0.Numbers), (27, .i v21)] (.k (.k (.k (.k (.k (.k (.k (.k (.k (.k (.k .nil))))))))))) ?_
      refine w_join (J := Int × Int × Int × Int) (fun j => [(1, .ep (Wire.cells a0)), (2, .i j.1), (3, .i j.2.1), (4, .i j.2.2.1), (5, pA Wiring_.cells r1.1), (6, .i j.2.2.2), (7, .i v11), (21, .i a0.Letters), (22, .i v11), (26, .i a0.Numbers), (27, .i v21)]) (fun j H' g' => St (· < g) H0 [] H' g' ∧ wires_Next_j3 (wires_Next_l2 n (wires_Next_l1 n a0 r1 m2) a0 r1 v11 m4) v21 j.1 j.2.1 j.2.2.1 j.2.2.2 = some r) ?_ ?_
      ·rintro ⟨v23, v24, v25, v26⟩ H g5 ⟨hS, hM⟩
       change wpA _ _ _ _ (Fr.of [(1, .ep (Wire.cells a0)), (2, .i v23), (3, .i v24), (4, .i v25), (5, pA Wiring_.cells r1.1), (6, .i v26), (7, .i v11), (21, .i a0.Letters), (22, .i v11), (26, .i a0.Numbers), (27, .i v21)]) _ _
       replace hS : St (· < g) H0 [] H g5 := hS
       replace hM : wires_Next_j3 (wires_Next_l2 n (wires_Next_l1 n a0 r1 m2) a0 r1 v11 m4) v21 v23 v24 v25 v26 = some r := hM
       refine r_region (n := 2) rfl ?_
       refine o_int (v := .i (w64 (v21 + 1))) (by decide) rfl rfl rfl ?_
       refine o_move (v := .i (w64 (v21 + 1))) (by decide) rfl ?_
       refine run_nil ?_
       exact w_round (v23, v24, v25, v26, w64 (v21 + 1)) (Nat.lt_succ_self _) (.k (.k (.k (.k (.k (.k (.k (.k (.k (.k (.k .nil))))))))))) ⟨(hS.keep [] rfl).up (by omega), hM⟩
      ·refine r_block ?_
       refine r_seq ?_
       refine r_region (n := 2) rfl ?_
       refine o_move (v := .i v21) (by decide) rfl ?_
       refine o_assign (v := .i v21) (by decide) rfl ?_
       refine run_nil ?_
       refine w_next [(1, .ep (Wire.cells a0)), (2, .i v17), (3, .i v18), (4, .i v19), (5, pA Wiring_.cells r1.1), (6, .i v20), (7, .i v11), (8, .i v21), (21, .i a0.Letters), (22, .i v11), (26, .i a0.Numbers), (27, .i v21)] (.k (.k (.k (.k (.k (.k (.k (.k (.k (.k (.k (.k .nil)))))))))))) ?_
       refine r_seq ?_
       refine r_region (n := 5) rfl ?_
       refine o_move (v := pA Wiring_.cells r1.1) (by decide) rfl ?_
       refine o_move (v := .i v11) (by decide) rfl ?_
       refine o_move (v := .i v21) (by decide) rfl ?_
       obtain ⟨r27, hr27, hM⟩ := bindE hM
       refine o_call (bs := [pA Wiring_.cells r1.1, .i v11, .i v21]) (by decide) rfl rfl ((W_wires_wiring_left hr27).le (.k (.k (.k .nil)))) ?_
       refine o_assign (v := .i r27) (by decide) rfl ?_
       refine run_nil ?_
       refine w_next [(1, .ep (Wire.cells a0)), (2, .i v17), (3, .i v18), (4, .i v19), (5, pA Wiring_.cells r1.1), (6, .i v20), (7, .i v11), (8, .i v21), (9, .i r27), (21, .i a0.Letters), (22, .i v11), (26, .i a0.Numbers), (27, .i v21)] (.k (.k (.k (.k (.k (.k (.k (.k (.k (.k (.k (.k (.k .nil))))))))))))) ?_
       refine r_seq ?_
       refine r_region (n := 3) rfl ?_
       refine o_move (v := .i r27) (by decide) rfl ?_
       refine o_move (v := .i v20) (by decide) rfl ?_
       refine o_int (v := .b (decide (r27 < v20))) (by decide) rfl rfl rfl ?_
       refine run_nil ?_
       refine w_next [(1, .ep (Wire.cells a0)), (2, .i v17), (3, .i v18), (4, .i v19), (5, pA Wiring_.cells r1.1), (6, .i v20), (7, .i v11), (8, .i v21), (9, .i r27), (21, .i a0.Letters), (22, .i v11), (26, .i a0.Numbers), (27, .i v21), (36, .b (decide (r27 < v20)))] (.k (.k (.k (.k (.k (.k (.k (.k (.k (.k (.k (.k (.k (.k .nil)))))))))))))) ?_
       rcases Bool.eq_false_or_eq_true (decide (r27 < v20)) with hb28 | hb28
       ·replace hM := ifT hM hb28
        refine w_condT (e := (decide (r27 < v20))) rfl hb28 ?_
        refine r_region (n := 7) rfl ?_
        refine o_move (v := .i v11) (by decide) rfl ?_
        refine o_move (v := .i v21) (by decide) rfl ?_
        refine o_move (v := .i r27) (by decide) rfl ?_
        refine o_assign (v := .i v11) (by decide) rfl ?_
        refine o_assign (v := .i v21) (by decide) rfl ?_
        refine o_assign (v := .i r27) (by decide) rfl ?_
        refine o_assign (v := .i 0) (by decide) rfl ?_
        refine run_nil ?_
        refine r_blk_normal ?_
        exact w_goto (v11, v21, 0, r27) (.k (.k (.k (.k (.k (.k (.k (.k (.k (.k (.k .nil))))))))))) ⟨(hS.keep [] rfl).up (by omega), hM⟩
       ·replace hM := ifF hM hb28
        refine w_condF (e := (decide (r27 < v20))) rfl hb28 ?_
        refine r_skip ?_
        refine r_blk_normal ?_
        exact w_goto (v17, v18, v19, v20) (.k (.k (.k (.k (.k (.k (.k (.k (.k (.k (.k .nil))))))))))) ⟨(hS.keep [] rfl).up (by omega), hM⟩
     ·replace hM := ifF hM hb22
      refine w_condF (e := (decide (v21 < a0.Numbers))) rfl hb22 ?_
      refine r_exit ?_
      refine r_then_exit ?_
      refine w_round_exit ?_
      refine r_blk_exit ?_
      refine r_blk_normal ?_
      exact w_goto (v17, v18, v19, v20) (.k (.k (.k (.k (.k (.k (.k (.k .nil)))))))) ⟨(hS.keep [] rfl).up (by omega), hM⟩
   ·replace hM := ifF hM hb12
    refine w_condF (e := (decide (v11 < a0.Letters))) rfl hb12 ?_
    refine r_exit ?_
    refine r_then_exit ?_
    refine w_round_exit ?_
    refine r_blk_exit ?_
    exact w_goto (v7, v8, v9) (.k (.k (.k .nil))) ⟨(hS.keep [] rfl).up (by omega), hM⟩
theorem W_ref01_SameInts {n : Nat} {a0 : List Int} {a1 : List Int} {r : Bool} (hM : ref01_SameInts n a0 a1 = some r) : PureSat Try.prog 34 [.sl .no 1 (a0.map cI), .sl .no 1 (a1.map cI)] (.b r) := by
 refine pure_of_wp mixed Try.func34 rfl (by decide) Try.ntmps34 (by simp) ?pure fun H0 g hf => ?_
 case pure => exact .v _
 rw [frame0_of]
 change wpA _ _ _ _ (Fr.of [(0, .sl .no 1 (a0.map cI)), (1, .sl .no 1 (a1.map cI))]) H0 g
 have hS := St.start hf
 refine r_seq ?_
 refine r_region (n := 1) rfl ?_
 refine o_assign (v := .b false) (by decide) rfl ?_
 refine run_nil ?_
 refine w_next [(0, .sl .no 1 (a0.map cI)), (1, .sl .no 1 (a1.map cI))] (.k (.k .nil)) ?_
 refine r_seq ?_
 refine r_seq ?_
 refine r_region (n := 5) rfl ?_
 refine o_move (v := .sl .no 1 (a0.map cI)) (by decide) rfl ?_
 refine o_len (n := a0.length) (by decide) rfl (List.length_map _) ty_isl39 ?_
 refine o_move (v := .sl .no 1 (a1.map cI)) (by decide) rfl ?_
 refine o_len (n := a1.length) (by decide) rfl (List.length_map _) ty_isl39 ?_
 refine o_int (v := .b ((a0.length : Int) != (a1.length : Int))) (by decide) rfl rfl rfl ?_
 refine run_nil ?_
 refine w_next [(0, .sl .no 1 (a0.map cI)), (1, .sl .no 1 (a1.map cI)), (10, .b ((a0.length : Int) != (a1.length : Int)))] (.k (.k (.k .nil))) ?_
 rcases Bool.eq_false_or_eq_true ((a0.length : Int) != (a1.length : Int)) with hb1 | hb1
 ·replace hM := ifT hM hb1
  refine w_condT (e := ((a0.length : Int) != (a1.length : Int))) rfl hb1 ?_
  refine r_seq ?_
  refine r_region (n := 1) rfl ?_
  refine o_assign (v := .b false) (by decide) rfl ?_
  refine run_nil ?_
  refine w_next [(4, .b false)] (.k .nil) ?_
  refine r_ret ?_
  refine r_then_ret ?_
  refine w_end (x := .b false) (f := fun r => .b r) (.inr rfl) ?_ (.refl _) (Option.some.inj hM) hS
  exact (res_one (res_tmp (x := .b false) rfl))
 ·replace hM := ifF hM hb1
  refine w_condF (e := ((a0.length : Int) != (a1.length : Int))) rfl hb1 ?_
  refine r_skip ?_
  refine w_next [(0, .sl .no 1 (a0.map cI)), (1, .sl .no 1 (a1.map cI))] (.k (.k .nil)) ?_
  refine w_join (J := Unit) (fun j => []) (fun j H' g' => St (· < g) H0 [] H' g' ∧ ref01_SameInts_j1 = some r) ?_ ?_
  ·rintro _ H g1 ⟨hS, hM⟩
   change wpA _ _ _ _ (Fr.of []) _ _
   replace hS : St (· < g) H0 [] H g1 := hS
   replace hM : ref01_SameInts_j1 = some r := hM
   refine r_seq ?_
   refine r_region (n := 1) rfl ?_
   refine o_assign (v := .b true) (by decide) rfl ?_
   refine run_nil ?_
   refine w_next [(4, .b true)] (.k .nil) ?_
   refine r_ret ?_
   refine w_end (x := .b true) (f := fun r => .b r) (.inr rfl) ?_ (.refl _) (Option.some.inj hM) hS
   exact (res_one (res_tmp (x := .b true) rfl))
  ·refine r_seq ?_
   refine r_region (n := 1) rfl ?_
   refine o_assign (v := .i 0) (by decide) rfl ?_
   refine run_nil ?_
   refine w_next [(0, .sl .no 1 (a0.map cI)), (1, .sl .no 1 (a1.map cI)), (5, .i 0)] (.k (.k (.k .nil))) ?_
   refine r_block ?_
   refine w_loop (V := Int) (fun v => [(0, .sl .no 1 (a0.map cI)), (1, .sl .no 1 (a1.map cI)), (5, .i v)]) (fun v m2 H' g' => St (· < g) H0 [] H' g' ∧ ref01_SameInts_l1 a0 a1 m2 v = some r) (n := n) 0 (.k (.k (.k .nil))) ⟨(hS.keep [] rfl).up (by omega), hM⟩ ?_
   rintro v2 m2 H g2 ⟨hS, hM⟩
   obtain _ | m2 := m2
   ·exact nomatch (show none = some _ from hM)
   change wpA _ _ _ _ (Fr.of [(0, .sl .no 1 (a0.map cI)), (1, .sl .no 1 (a1.map cI)), (5, .i v2)]) _ _
   replace hS : St (· < g) H0 [] H g2 := hS
   replace hM : ref01_SameInts_l1_b a0 a1 (ref01_SameInts_l1 a0 a1 m2) v2 = some r := hM
   refine r_seq ?_
   refine r_seq ?_
   refine r_region (n := 4) rfl ?_
   refine o_move (v := .i v2) (by decide) rfl ?_
   refine o_move (v := .sl .no 1 (a0.map cI)) (by decide) rfl ?_
   refine o_len (n := a0.length) (by decide) rfl (List.length_map _) ty_isl39 ?_
   refine o_int (v := .b (decide (v2 < (a0.length : Int)))) (by decide) rfl rfl rfl ?_
   refine run_nil ?_
   refine w_next [(0, .sl .no 1 (a0.map cI)), (1, .sl .no 1 (a1.map cI)), (5, .i v2), (14, .b (decide (v2 < (a0.length : Int))))] (.k (.k (.k (.k .nil)))) ?_
   rcases Bool.eq_false_or_eq_true (decide (v2 < (a0.length : Int))) with hb3 | hb3
   ·replace hM := ifT hM hb3
    refine w_condT (e := (decide (v2 < (a0.length : Int)))) rfl hb3 ?_
    refine r_skip ?_
    refine w_next [(0, .sl .no 1 (a0.map cI)), (1, .sl .no 1 (a1.map cI)), (5, .i v2)] (.k (.k (.k .nil))) ?_
    refine r_seq ?_
    refine r_block ?_
    refine r_seq ?_
    have hS0 := hS
    refine r_draw (n := 9) rfl (by kernel_rfl) ?_
    refine o_move (v := .sl .no 1 (a0.map cI)) (by decide) rfl ?_
    refine o_move (v := .i v2) (by decide) rfl ?_
    obtain ⟨x4, hx4, hM⟩ := bindE hM
    refine o_index (xs := a0) (f := cI) (z := v2) (u := x4) (by decide) rfl rfl ty_es39 hx4 ?_
    refine o_loadE (v := .i x4) (by decide) rfl (part_one ty_agg3 ty_sc3 rfl) ?_
    refine o_move (v := .sl .no 1 (a1.map cI)) (by decide) rfl ?_
    refine o_move (v := .i v2) (by decide) rfl ?_
    obtain ⟨x5, hx5, hM⟩ := bindE hM
    refine o_index (xs := a1) (f := cI) (z := v2) (u := x5) (by decide) rfl rfl ty_es39 hx5 ?_
    refine o_loadE (v := .i x5) (by decide) rfl (part_one ty_agg3 ty_sc3 rfl) ?_
    refine o_int (v := .b (x4 != x5)) (by decide) rfl rfl rfl ?_
    refine run_nil ?_
    refine w_next [(0, .sl .no 1 (a0.map cI)), (1, .sl .no 1 (a1.map cI)), (5, .i v2), (25, .b (x4 != x5))] (.k (.k (.k (.k .nil)))) ?_
    rcases Bool.eq_false_or_eq_true (x4 != x5) with hb6 | hb6
    ·replace hM := ifT hM hb6
     refine w_condT (e := (x4 != x5)) rfl hb6 ?_
     refine r_seq ?_
     refine r_region (n := 1) rfl ?_
     refine o_assign (v := .b false) (by decide) rfl ?_
     refine run_nil ?_
     refine w_next [(4, .b false)] (.k .nil) ?_
     refine r_ret ?_
     refine r_blk_ret ?_
     refine r_then_ret ?_
     refine w_round_ret ?_
     refine r_blk_ret ?_
     refine w_goto_ret ?_
     refine w_end (x := .b false) (f := fun r => .b r) (.inr rfl) ?_ (.refl _) (Option.some.inj hM) hS
     exact (res_one (res_tmp (x := .b false) rfl))
    ·replace hM := ifF hM hb6
     refine w_condF (e := (x4 != x5)) rfl hb6 ?_
     refine r_skip ?_
     refine r_blk_normal ?_
     refine w_next [(0, .sl .no 1 (a0.map cI)), (1, .sl .no 1 (a1.map cI)), (5, .i v2)] (.k (.k (.k .nil))) ?_
     refine r_region (n := 3) rfl ?_
     refine o_move (v := .i v2) (by decide) rfl ?_
     refine o_int (v := .i (w64 (v2 + 1))) (by decide) rfl rfl rfl ?_
     refine o_assign (v := .i (w64 (v2 + 1))) (by decide) rfl ?_
     refine run_nil ?_
     exact w_round (w64 (v2 + 1)) (Nat.lt_succ_self _) (.k (.k (.k .nil))) ⟨(hS.keep [] rfl).up (by omega), hM⟩
   ·replace hM := ifF hM hb3
    refine w_condF (e := (decide (v2 < (a0.length : Int)))) rfl hb3 ?_
    refine r_exit ?_
    refine r_then_exit ?_
    refine w_round_exit ?_
    refine r_blk_exit ?_
    exact w_goto () .nil ⟨(hS.keep [] rfl).up (by omega), hM⟩
theorem W_slices_Index_apiWireFault {n : Nat} {a0 : List WireFault} {a1 : WireFault} {r : Int} (hM : slices_Index_apiWireFault n a0 a1 = some r) : PureSat Try.prog 113 [.sl .no 3 (a0.map WireFault.cells), .agg (WireFault.cells a1)] (.i r) := by
 refine pure_of_wp mixed Try.func113 rfl (by decide) Try.ntmps113 (by simp) ?pure fun H0 g hf => ?_
 case pure => exact .v _
 rw [frame0_of]
 change wpA _ _ _ _ (Fr.of [(0, .sl .no 3 (a0.map WireFault.cells)), (1, .agg (WireFault.cells a1))]) H0 g
 have hS := St.start hf
 refine r_seq ?_
 refine r_region (n := 2) rfl ?_
 refine o_box (v := .agg (WireFault.cells a1)) (cs := (WireFault.cells a1)) hS (by decide) rfl rfl (by omega) fun H hS => ?_
 refine o_assign (v := .i 0) (by decide) rfl ?_
 refine run_nil ?_
 refine w_iceE (L' := []) 0 3 hS rfl rfl rfl fun H hS => ?_
 refine w_next [(0, .sl .no 3 (a0.map WireFault.cells)), (3, .ep (WireFault.cells a1))] (.k (.k .nil)) ?_
 refine w_join (J := Unit) (fun j => []) (fun j H' g' => St (· < g) H0 [] H' g' ∧ slices_Index_apiWireFault_j1 = some r) ?_ ?_
 ·rintro _ H g1 ⟨hS, hM⟩
  change wpA _ _ _ _ (Fr.of []) _ _
  replace hS : St (· < g) H0 [] H g1 := hS
  replace hM : slices_Index_apiWireFault_j1 = some r := hM
  refine r_seq ?_
  refine r_region (n := 1) rfl ?_
  refine o_assign (v := .i (-1)) (by decide) rfl ?_
  refine run_nil ?_
  refine w_next [(4, .i (-1))] (.k .nil) ?_
  refine r_ret ?_
  refine w_end (x := .i (-1)) (f := fun r => .i r) (.inr rfl) ?_ (.refl _) (Option.some.inj hM) hS
  exact (res_one (res_tmp (x := .i (-1)) rfl))
 ·refine r_seq ?_
  refine r_region (n := 3) rfl ?_
  refine o_move (v := .sl .no 3 (a0.map WireFault.cells)) (by decide) rfl ?_
  refine o_len (n := a0.length) (by decide) rfl (List.length_map _) ty_isl31 ?_
  refine o_move (v := .i 0) (by decide) rfl ?_
  refine run_nil ?_
  refine w_next [(0, .sl .no 3 (a0.map WireFault.cells)), (3, .ep (WireFault.cells a1)), (7, .i (a0.length : Int)), (8, .i 0)] (.k (.k (.k (.k .nil)))) ?_
  refine r_block ?_
  refine w_loop (V := Int) (fun v => [(0, .sl .no 3 (a0.map WireFault.cells)), (3, .ep (WireFault.cells a1)), (7, .i (a0.length : Int)), (8, .i v)]) (fun v m2 H' g' => St (· < g) H0 [] H' g' ∧ slices_Index_apiWireFault_l1 a0 a1 m2 v = some r) (n := n) 0 (.k (.k (.k (.k .nil)))) ⟨(hS.keep [] rfl).up (by omega), hM⟩ ?_
  rintro v1 m2 H g2 ⟨hS, hM⟩
  obtain _ | m2 := m2
  ·exact nomatch (show none = some _ from hM)
  change wpA _ _ _ _ (Fr.of [(0, .sl .no 3 (a0.map WireFault.cells)), (3, .ep (WireFault.cells a1)), (7, .i (a0.length : Int)), (8, .i v1)]) _ _
  replace hS : St (· < g) H0 [] H g2 := hS
  replace hM : slices_Index_apiWireFault_l1_b a0 a1 (slices_Index_apiWireFault_l1 a0 a1 m2) v1 = some r := hM
  refine r_seq ?_
  refine r_region (n := 1) rfl ?_
  refine o_int (v := .b (decide (v1 < (a0.length : Int)))) (by decide) rfl rfl rfl ?_
  refine run_nil ?_
  refine w_next [(0, .sl .no 3 (a0.map WireFault.cells)), (3, .ep (WireFault.cells a1)), (7, .i (a0.length : Int)), (8, .i v1), (9, .b (decide (v1 < (a0.length : Int))))] (.k (.k (.k (.k (.k .nil))))) ?_
  refine r_seq ?_
  rcases Bool.eq_false_or_eq_true (decide (v1 < (a0.length : Int))) with hb2 | hb2
  ·replace hM := ifT hM hb2
   refine w_condT (e := (decide (v1 < (a0.length : Int)))) rfl hb2 ?_
   refine r_skip ?_
   refine w_next [(0, .sl .no 3 (a0.map WireFault.cells)), (3, .ep (WireFault.cells a1)), (7, .i (a0.length : Int)), (8, .i v1)] (.k (.k (.k (.k .nil)))) ?_
   refine r_seq ?_
   refine r_block ?_
   refine r_seq ?_
   refine r_region (n := 2) rfl ?_
   refine o_move (v := .i v1) (by decide) rfl ?_
   refine o_assign (v := .i v1) (by decide) rfl ?_
   refine run_nil ?_
   refine w_next [(0, .sl .no 3 (a0.map WireFault.cells)), (3, .ep (WireFault.cells a1)), (5, .i v1), (7, .i (a0.length : Int)), (8, .i v1)] (.k (.k (.k (.k (.k .nil))))) ?_
   refine r_seq ?_
   have hS0 := hS
   refine r_draw (n := 6) rfl (by kernel_rfl) ?_
   refine o_loadE (v := .agg (WireFault.cells a1)) (by decide) rfl (part_agg ty_agg63 (Nat.le_of_ble_eq_true rfl) rfl) ?_
   refine o_move (v := .sl .no 3 (a0.map WireFault.cells)) (by decide) rfl ?_
   refine o_move (v := .i v1) (by decide) rfl ?_
   obtain ⟨x3, hx3, hM⟩ := bindE hM
   refine o_index (xs := a0) (f := WireFault.cells) (z := v1) (u := x3) (by decide) rfl rfl ty_es31 hx3 ?_
   refine o_loadE (v := .agg (WireFault.cells x3)) (by decide) rfl (part_agg ty_agg63 (Nat.le_of_ble_eq_true rfl) rfl) ?_
   refine o_eqS (cs := (WireFault.cells a1)) (ds := (WireFault.cells x3)) (e := ((a1.Kind == x3.Kind) && ((a1.A == x3.A) && ((a1.B == x3.B) && true)))) (by decide) rfl rfl ty_flat63 rfl ?_
   refine run_nil ?_
   refine w_next [(0, .sl .no 3 (a0.map WireFault.cells)), (3, .ep (WireFault.cells a1)), (5, .i v1), (7, .i (a0.length : Int)), (8, .i v1), (16, .b ((a1.Kind == x3.Kind) && ((a1.A == x3.A) && ((a1.B == x3.B) && true))))] (.k (.k (.k (.k (.k (.k .nil)))))) ?_
   rcases Bool.eq_false_or_eq_true ((a1.Kind == x3.Kind) && ((a1.A == x3.A) && ((a1.B == x3.B) && true))) with hb4 | hb4
   ·replace hM := ifT hM hb4
    refine w_condT (e := ((a1.Kind == x3.Kind) && ((a1.A == x3.A) && ((a1.B == x3.B) && true)))) rfl hb4 ?_
    refine r_seq ?_
    refine r_region (n := 2) rfl ?_
    refine o_move (v := .i v1) (by decide) rfl ?_
    refine o_assign (v := .i v1) (by decide) rfl ?_
    refine run_nil ?_
    refine w_next [(4, .i v1)] (.k .nil) ?_
    refine r_ret ?_
    refine r_blk_ret ?_
    refine r_then_ret ?_
    refine w_round_ret ?_
    refine r_blk_ret ?_
    refine w_goto_ret ?_
    refine w_end (x := .i v1) (f := fun r => .i r) (.inr rfl) ?_ (.refl _) (Option.some.inj hM) hS
    exact (res_one (res_tmp (x := .i v1) rfl))
   ·replace hM := ifF hM hb4
    refine w_condF (e := ((a1.Kind == x3.Kind) && ((a1.A == x3.A) && ((a1.B == x3.B) && true)))) rfl hb4 ?_
    refine r_skip ?_
    refine r_blk_normal ?_
    refine w_next [(0, .sl .no 3 (a0.map WireFault.cells)), (3, .ep (WireFault.cells a1)), (7, .i (a0.length : Int)), (8, .i v1)] (.k (.k (.k (.k .nil)))) ?_
    refine r_region (n := 2) rfl ?_
    refine o_int (v := .i (w64 (v1 + 1))) (by decide) rfl rfl rfl ?_
    refine o_move (v := .i (w64 (v1 + 1))) (by decide) rfl ?_
    refine run_nil ?_
    exact w_round (w64 (v1 + 1)) (Nat.lt_succ_self _) (.k (.k (.k (.k .nil)))) ⟨(hS.keep [] rfl).up (by omega), hM⟩
  ·replace hM := ifF hM hb2
   refine w_condF (e := (decide (v1 < (a0.length : Int)))) rfl hb2 ?_
   refine r_exit ?_
   refine r_then_exit ?_
   refine w_round_exit ?_
   refine r_blk_exit ?_
   exact w_goto () .nil ⟨(hS.keep [] rfl).up (by omega), hM⟩
theorem W_slices_Contains_apiWireFault {n : Nat} {a0 : List WireFault} {a1 : WireFault} {r : Bool} (hM : slices_Contains_apiWireFault n a0 a1 = some r) : PureSat Try.prog 90 [.sl .no 3 (a0.map WireFault.cells), .agg (WireFault.cells a1)] (.b r) := by
 refine pure_of_wp mixed Try.func90 rfl (by decide) Try.ntmps90 (by simp) ?pure fun H0 g hf => ?_
 case pure => exact .v _
 rw [frame0_of]
 change wpA _ _ _ _ (Fr.of [(0, .sl .no 3 (a0.map WireFault.cells)), (1, .agg (WireFault.cells a1))]) H0 g
 have hS := St.start hf
 refine r_seq ?_
 refine r_region (n := 2) rfl ?_
 refine o_box (v := .agg (WireFault.cells a1)) (cs := (WireFault.cells a1)) hS (by decide) rfl rfl (by omega) fun H hS => ?_
 refine o_assign (v := .b false) (by decide) rfl ?_
 refine run_nil ?_
 refine w_iceE (L' := []) 0 3 hS rfl rfl rfl fun H hS => ?_
 refine w_next [(0, .sl .no 3 (a0.map WireFault.cells)), (3, .ep (WireFault.cells a1))] (.k (.k .nil)) ?_
 refine r_seq ?_
 refine r_region (n := 5) rfl ?_
 refine o_move (v := .sl .no 3 (a0.map WireFault.cells)) (by decide) rfl ?_
 refine o_loadE (v := .agg (WireFault.cells a1)) (by decide) rfl (part_agg ty_agg63 (Nat.le_of_ble_eq_true rfl) rfl) ?_
 obtain ⟨r1, hr1, hM⟩ := bindE hM
 refine o_call (bs := [.sl .no 3 (a0.map WireFault.cells), .agg (WireFault.cells a1)]) (by decide) rfl rfl ((W_slices_Index_apiWireFault hr1).le (.k (.k .nil))) ?_
 refine o_int (v := .b (decide (r1 ≥ 0))) (by decide) rfl rfl rfl ?_
 refine o_assign (v := .b (decide (r1 ≥ 0))) (by decide) rfl ?_
 refine run_nil ?_
 refine w_next [(4, .b (decide (r1 ≥ 0)))] (.k .nil) ?_
 refine r_ret ?_
 refine w_end (x := .b (decide (r1 ≥ 0))) (f := fun r => .b r) (.inr rfl) ?_ (.refl _) (Option.some.inj hM) hS
 exact (res_one (res_tmp (x := .b (decide (r1 ≥ 0))) rfl))
theorem W_cmp_Or_int {n : Nat} {a0 : List Int} {r : Int} (hM : cmp_Or_int n a0 = some r) : PureSat Try.prog 114 [.sl .no 1 (a0.map cI)] (.i r) := by
 refine pure_of_wp mixed Try.func114 rfl (by decide) Try.ntmps114 (by simp) ?pure fun H0 g hf => ?_
 case pure => exact .v _
 rw [frame0_of]
 change wpA _ _ _ _ (Fr.of [(0, .sl .no 1 (a0.map cI))]) H0 g
 have hS := St.start hf
 refine r_seq ?_
 refine r_region (n := 1) rfl ?_
 refine o_assign (v := .i 0) (by decide) rfl ?_
 refine run_nil ?_
 refine w_next [(0, .sl .no 1 (a0.map cI))] (.k .nil) ?_
 refine r_seq ?_
 refine r_region (n := 1) rfl ?_
 refine o_assign (v := .i 0) (by decide) rfl ?_
 refine run_nil ?_
 refine w_next [(0, .sl .no 1 (a0.map cI)), (3, .i 0)] (.k (.k .nil)) ?_
 refine w_join (J := Unit) (fun j => [(3, .i 0)]) (fun j H' g' => St (· < g) H0 [] H' g' ∧ cmp_Or_int_j1 = some r) ?_ ?_
 ·rintro _ H g1 ⟨hS, hM⟩
  change wpA _ _ _ _ (Fr.of [(3, .i 0)]) _ _
  replace hS : St (· < g) H0 [] H g1 := hS
  replace hM : cmp_Or_int_j1 = some r := hM
  refine r_seq ?_
  refine r_region (n := 2) rfl ?_
  refine o_move (v := .i 0) (by decide) rfl ?_
  refine o_assign (v := .i 0) (by decide) rfl ?_
  refine run_nil ?_
  refine w_next [(2, .i 0)] (.k .nil) ?_
  refine r_ret ?_
  refine w_end (x := .i 0) (f := fun r => .i r) (.inr rfl) ?_ (.refl _) (Option.some.inj hM) hS
  exact (res_one (res_tmp (x := .i 0) rfl))
 ·refine r_seq ?_
  refine r_region (n := 3) rfl ?_
  refine o_move (v := .sl .no 1 (a0.map cI)) (by decide) rfl ?_
  refine o_len (n := a0.length) (by decide) rfl (List.length_map _) ty_isl39 ?_
  refine o_move (v := .i 0) (by decide) rfl ?_
  refine run_nil ?_
  refine w_next [(3, .i 0), (6, .sl .no 1 (a0.map cI)), (7, .i (a0.length : Int)), (8, .i 0)] (.k (.k (.k (.k .nil)))) ?_
  refine r_block ?_
  refine w_loop (V := Int) (fun v => [(3, .i 0), (6, .sl .no 1 (a0.map cI)), (7, .i (a0.length : Int)), (8, .i v)]) (fun v m2 H' g' => St (· < g) H0 [] H' g' ∧ cmp_Or_int_l1 a0 m2 v = some r) (n := n) 0 (.k (.k (.k (.k .nil)))) ⟨(hS.keep [] rfl).up (by omega), hM⟩ ?_
  rintro v1 m2 H g2 ⟨hS, hM⟩
  obtain _ | m2 := m2
  ·exact nomatch (show none = some _ from hM)
  change wpA _ _ _ _ (Fr.of [(3, .i 0), (6, .sl .no 1 (a0.map cI)), (7, .i (a0.length : Int)), (8, .i v1)]) _ _
  replace hS : St (· < g) H0 [] H g2 := hS
  replace hM : cmp_Or_int_l1_b a0 (cmp_Or_int_l1 a0 m2) v1 = some r := hM
  refine r_seq ?_
  refine r_region (n := 1) rfl ?_
  refine o_int (v := .b (decide (v1 < (a0.length : Int)))) (by decide) rfl rfl rfl ?_
  refine run_nil ?_
  refine w_next [(3, .i 0), (6, .sl .no 1 (a0.map cI)), (7, .i (a0.length : Int)), (8, .i v1), (9, .b (decide (v1 < (a0.length : Int))))] (.k (.k (.k (.k (.k .nil))))) ?_
  refine r_seq ?_
  rcases Bool.eq_false_or_eq_true (decide (v1 < (a0.length : Int))) with hb2 | hb2
  ·replace hM := ifT hM hb2
   refine w_condT (e := (decide (v1 < (a0.length : Int)))) rfl hb2 ?_
   refine r_skip ?_
   refine w_next [(3, .i 0), (6, .sl .no 1 (a0.map cI)), (7, .i (a0.length : Int)), (8, .i v1)] (.k (.k (.k (.k .nil)))) ?_
   refine r_seq ?_
   refine r_block ?_
   refine r_seq ?_
   refine r_region (n := 3) rfl ?_
   obtain ⟨x3, hx3, hM⟩ := bindE hM
   refine o_index (xs := a0) (f := cI) (z := v1) (u := x3) (by decide) rfl rfl ty_es39 hx3 ?_
   refine o_loadE (v := .i x3) (by decide) rfl (part_one ty_agg3 ty_sc3 rfl) ?_
   refine o_assign (v := .i x3) (by decide) rfl ?_
   refine run_nil ?_
   refine w_next [(3, .i 0), (5, .i x3), (6, .sl .no 1 (a0.map cI)), (7, .i (a0.length : Int)), (8, .i v1)] (.k (.k (.k (.k (.k .nil))))) ?_
   refine r_seq ?_
   refine r_region (n := 3) rfl ?_
   refine o_move (v := .i x3) (by decide) rfl ?_
   refine o_move (v := .i 0) (by decide) rfl ?_
   refine o_int (v := .b (x3 != 0)) (by decide) rfl rfl rfl ?_
   refine run_nil ?_
   refine w_next [(3, .i 0), (5, .i x3), (6, .sl .no 1 (a0.map cI)), (7, .i (a0.length : Int)), (8, .i v1), (14, .b (x3 != 0))] (.k (.k (.k (.k (.k (.k .nil)))))) ?_
   rcases Bool.eq_false_or_eq_true (x3 != 0) with hb4 | hb4
   ·replace hM := ifT hM hb4
    refine w_condT (e := (x3 != 0)) rfl hb4 ?_
    refine r_seq ?_
    refine r_region (n := 2) rfl ?_
    refine o_move (v := .i x3) (by decide) rfl ?_
    refine o_assign (v := .i x3) (by decide) rfl ?_
    refine run_nil ?_
    refine w_next [(2, .i x3)] (.k .nil) ?_
    refine r_ret ?_
    refine r_blk_ret ?_
    refine r_then_ret ?_
    refine w_round_ret ?_
    refine r_blk_ret ?_
    refine w_goto_ret ?_
    refine w_end (x := .i x3) (f := fun r => .i r) (.inr rfl) ?_ (.refl _) (Option.some.inj hM) hS
    exact (res_one (res_tmp (x := .i x3) rfl))
   ·replace hM := ifF hM hb4
    refine w_condF (e := (x3 != 0)) rfl hb4 ?_
    refine r_skip ?_
    refine r_blk_normal ?_
    refine w_next [(3, .i 0), (6, .sl .no 1 (a0.map cI)), (7, .i (a0.length : Int)), (8, .i v1)] (.k (.k (.k (.k .nil)))) ?_
    refine r_region (n := 2) rfl ?_
    refine o_int (v := .i (w64 (v1 + 1))) (by decide) rfl rfl rfl ?_
    refine o_move (v := .i (w64 (v1 + 1))) (by decide) rfl ?_
    refine run_nil ?_
    exact w_round (w64 (v1 + 1)) (Nat.lt_succ_self _) (.k (.k (.k (.k .nil)))) ⟨(hS.keep [] rfl).up (by omega), hM⟩
  ·replace hM := ifF hM hb2
   refine w_condF (e := (decide (v1 < (a0.length : Int)))) rfl hb2 ?_
   refine r_exit ?_
   refine r_then_exit ?_
   refine w_round_exit ?_
   refine r_blk_exit ?_
   exact w_goto () (.k .nil) ⟨(hS.keep [] rfl).up (by omega), hM⟩
theorem W_cmp_Compare_int {a0 : Int} {a1 : Int} {r : Int} (hM : cmp_Compare_int a0 a1 = some r) : PureSat Try.prog 115 [.i a0, .i a1] (.i r) := by
 refine pure_of_wp mixed Try.func115 rfl (by decide) Try.ntmps115 (by simp) ?pure fun H0 g hf => ?_
 case pure => exact .v _
 rw [frame0_of]
 change wpA _ _ _ _ (Fr.of [(0, .i a0), (1, .i a1)]) H0 g
 have hS := St.start hf
 refine r_seq ?_
 refine r_region (n := 1) rfl ?_
 refine o_assign (v := .i 0) (by decide) rfl ?_
 refine run_nil ?_
 refine w_next [(0, .i a0), (1, .i a1)] (.k (.k .nil)) ?_
 refine r_seq ?_
 refine r_region (n := 3) rfl ?_
 refine o_move (v := .i a0) (by decide) rfl ?_
 obtain ⟨r1, hr1, hM⟩ := bindE hM
 refine o_call (bs := [.i a0]) (by decide) rfl rfl ((W_cmp_isNaN_int hr1).le (.k .nil)) ?_
 refine o_assign (v := .b r1) (by decide) rfl ?_
 refine run_nil ?_
 refine w_next [(0, .i a0), (1, .i a1), (5, .b r1)] (.k (.k (.k .nil))) ?_
 refine r_seq ?_
 refine r_region (n := 3) rfl ?_
 refine o_move (v := .i a1) (by decide) rfl ?_
 obtain ⟨r2, hr2, hM⟩ := bindE hM
 refine o_call (bs := [.i a1]) (by decide) rfl rfl ((W_cmp_isNaN_int hr2).le (.k .nil)) ?_
 refine o_assign (v := .b r2) (by decide) rfl ?_
 refine run_nil ?_
 refine w_next [(0, .i a0), (1, .i a1), (5, .b r1), (6, .b r2)] (.k (.k (.k (.k .nil)))) ?_
 refine r_seq ?_
 refine r_seq ?_
 refine r_region (n := 1) rfl ?_
 refine o_move (v := .b r1) (by decide) rfl ?_
 refine run_nil ?_
 refine w_next [(0, .i a0), (1, .i a1), (6, .b r2), (11, .b r1)] (.k (.k (.k (.k .nil)))) ?_
 rcases Bool.eq_false_or_eq_true r1 with hb3 | hb3
 ·replace hM := ifT hM hb3
  refine w_condT (e := r1) rfl hb3 ?_
  refine r_seq ?_
  refine r_seq ?_
  refine r_region (n := 1) rfl ?_
  refine o_move (v := .b r2) (by decide) rfl ?_
  refine run_nil ?_
  refine w_next [(12, .b r2)] (.k .nil) ?_
  rcases Bool.eq_false_or_eq_true r2 with hb4 | hb4
  ·replace hM := ifT hM hb4
   refine w_condT (e := r2) rfl hb4 ?_
   refine r_seq ?_
   refine r_region (n := 1) rfl ?_
   refine o_assign (v := .i 0) (by decide) rfl ?_
   refine run_nil ?_
   refine w_next [(4, .i 0)] (.k .nil) ?_
   refine r_ret ?_
   refine r_then_ret ?_
   refine r_then_ret ?_
   refine w_end (x := .i 0) (f := fun r => .i r) (.inr rfl) ?_ (.refl _) (Option.some.inj hM) hS
   exact (res_one (res_tmp (x := .i 0) rfl))
  ·replace hM := ifF hM hb4
   refine w_condF (e := r2) rfl hb4 ?_
   refine r_skip ?_
   refine w_next [] .nil ?_
   refine r_seq ?_
   refine r_region (n := 1) rfl ?_
   refine o_assign (v := .i (-1)) (by decide) rfl ?_
   refine run_nil ?_
   refine w_next [(4, .i (-1))] (.k .nil) ?_
   refine r_ret ?_
   refine r_then_ret ?_
   refine w_end (x := .i (-1)) (f := fun r => .i r) (.inr rfl) ?_ (.refl _) (Option.some.inj hM) hS
   exact (res_one (res_tmp (x := .i (-1)) rfl))
 ·replace hM := ifF hM hb3
  refine w_condF (e := r1) rfl hb3 ?_
  refine r_skip ?_
  refine w_next [(0, .i a0), (1, .i a1), (6, .b r2)] (.k (.k (.k .nil))) ?_
  refine r_seq ?_
  refine r_seq ?_
  refine r_region (n := 1) rfl ?_
  refine o_move (v := .b r2) (by decide) rfl ?_
  refine run_nil ?_
  refine w_next [(0, .i a0), (1, .i a1), (13, .b r2)] (.k (.k (.k .nil))) ?_
  rcases Bool.eq_false_or_eq_true r2 with hb5 | hb5
  ·replace hM := ifT hM hb5
   refine w_condT (e := r2) rfl hb5 ?_
   refine r_seq ?_
   refine r_region (n := 1) rfl ?_
   refine o_assign (v := .i 1) (by decide) rfl ?_
   refine run_nil ?_
   refine w_next [(4, .i 1)] (.k .nil) ?_
   refine r_ret ?_
   refine r_then_ret ?_
   refine w_end (x := .i 1) (f := fun r => .i r) (.inr rfl) ?_ (.refl _) (Option.some.inj hM) hS
   exact (res_one (res_tmp (x := .i 1) rfl))
  ·replace hM := ifF hM hb5
   refine w_condF (e := r2) rfl hb5 ?_
   refine r_skip ?_
   refine w_next [(0, .i a0), (1, .i a1)] (.k (.k .nil)) ?_
   refine r_seq ?_
   refine r_seq ?_
   refine r_region (n := 3) rfl ?_
   refine o_move (v := .i a0) (by decide) rfl ?_
   refine o_move (v := .i a1) (by decide) rfl ?_
   refine o_int (v := .b (decide (a0 < a1))) (by decide) rfl rfl rfl ?_
   refine run_nil ?_
   refine w_next [(0, .i a0), (1, .i a1), (16, .b (decide (a0 < a1)))] (.k (.k (.k .nil))) ?_
   rcases Bool.eq_false_or_eq_true (decide (a0 < a1)) with hb6 | hb6
   ·replace hM := ifT hM hb6
    refine w_condT (e := (decide (a0 < a1))) rfl hb6 ?_
    refine r_seq ?_
    refine r_region (n := 1) rfl ?_
    refine o_assign (v := .i (-1)) (by decide) rfl ?_
    refine run_nil ?_
    refine w_next [(4, .i (-1))] (.k .nil) ?_
    refine r_ret ?_
    refine r_then_ret ?_
    refine w_end (x := .i (-1)) (f := fun r => .i r) (.inr rfl) ?_ (.refl _) (Option.some.inj hM) hS
    exact (res_one (res_tmp (x := .i (-1)) rfl))
   ·replace hM := ifF hM hb6
    refine w_condF (e := (decide (a0 < a1))) rfl hb6 ?_
    refine r_skip ?_
    refine w_next [(0, .i a0), (1, .i a1)] (.k (.k .nil)) ?_
    refine r_seq ?_
    refine r_seq ?_
    refine r_region (n := 3) rfl ?_
    refine o_move (v := .i a0) (by decide) rfl ?_
    refine o_move (v := .i a1) (by decide) rfl ?_
    refine o_int (v := .b (decide (a0 > a1))) (by decide) rfl rfl rfl ?_
    refine run_nil ?_
    refine w_next [(19, .b (decide (a0 > a1)))] (.k .nil) ?_
    rcases Bool.eq_false_or_eq_true (decide (a0 > a1)) with hb7 | hb7
    ·replace hM := ifT hM hb7
     refine w_condT (e := (decide (a0 > a1))) rfl hb7 ?_
     refine r_seq ?_
     refine r_region (n := 1) rfl ?_
     refine o_assign (v := .i 1) (by decide) rfl ?_
     refine run_nil ?_
     refine w_next [(4, .i 1)] (.k .nil) ?_
     refine r_ret ?_
     refine r_then_ret ?_
     refine w_end (x := .i 1) (f := fun r => .i r) (.inr rfl) ?_ (.refl _) (Option.some.inj hM) hS
     exact (res_one (res_tmp (x := .i 1) rfl))
    ·replace hM := ifF hM hb7
     refine w_condF (e := (decide (a0 > a1))) rfl hb7 ?_
     refine r_skip ?_
     refine w_next [] .nil ?_
     refine r_seq ?_
     refine r_region (n := 1) rfl ?_
     refine o_assign (v := .i 0) (by decide) rfl ?_
     refine run_nil ?_
     refine w_next [(4, .i 0)] (.k .nil) ?_
     refine r_ret ?_
     refine w_end (x := .i 0) (f := fun r => .i r) (.inr rfl) ?_ (.refl _) (Option.some.inj hM) hS
     exact (res_one (res_tmp (x := .i 0) rfl))
theorem W_wires_order {n : Nat} {a0 : WireFault} {a1 : WireFault} {r : Int} (hM : wires_order n a0 a1 = some r) : PureSat Try.prog 91 [.agg (WireFault.cells a0), .agg (WireFault.cells a1)] (.i r) := by
 refine pure_of_wp mixed Try.func91 rfl (by decide) Try.ntmps91 (by simp) ?pure fun H0 g hf => ?_
 case pure => exact .v _
 rw [frame0_of]
 change wpA _ _ _ _ (Fr.of [(0, .agg (WireFault.cells a0)), (1, .agg (WireFault.cells a1))]) H0 g
 have hS := St.start hf
 refine r_seq ?_
 refine r_region (n := 3) rfl ?_
 refine o_box (v := .agg (WireFault.cells a0)) (cs := (WireFault.cells a0)) hS (by decide) rfl rfl (by omega) fun H hS => ?_
 refine o_box (v := .agg (WireFault.cells a1)) (cs := (WireFault.cells a1)) hS (by decide) rfl rfl (by omega) fun H hS => ?_
 refine o_assign (v := .i 0) (by decide) rfl ?_
 refine run_nil ?_
 refine w_iceE (L' := [(g + 1, .cells (WireFault.cells a1))]) 1 2 hS rfl rfl rfl fun H hS => ?_
 refine w_iceE (L' := []) 0 3 hS rfl rfl rfl fun H hS => ?_
 refine w_next [(2, .ep (WireFault.cells a0)), (3, .ep (WireFault.cells a1))] (.k (.k .nil)) ?_
 refine r_seq ?_
 have hS0 := hS
 refine r_draw (n := 18) rfl (by kernel_rfl) ?_
 refine o_fieldE (cs := (WireFault.cells a0)) (by decide) ty_fo63_0 rfl ?_
 refine o_loadE (v := .i a0.Kind) (by decide) rfl (part_one ty_agg3 ty_sc3 rfl) ?_
 refine o_fieldE (cs := (WireFault.cells a1)) (by decide) ty_fo63_0 rfl ?_
 refine o_loadE (v := .i a1.Kind) (by decide) rfl (part_one ty_agg3 ty_sc3 rfl) ?_
 obtain ⟨r1, hr1, hM⟩ := bindE hM
 refine o_call (bs := [.i a0.Kind, .i a1.Kind]) (by decide) rfl rfl ((W_cmp_Compare_int hr1).le (.k (.k .nil))) ?_
 refine o_fieldE (cs := (WireFault.cells a0)) (by decide) ty_fo63_1 rfl ?_
 refine o_loadE (v := .i a0.A) (by decide) rfl (part_one ty_agg3 ty_sc3 rfl) ?_
 refine o_fieldE (cs := (WireFault.cells a1)) (by decide) ty_fo63_1 rfl ?_
 refine o_loadE (v := .i a1.A) (by decide) rfl (part_one ty_agg3 ty_sc3 rfl) ?_
 obtain ⟨r2, hr2, hM⟩ := bindE hM
 refine o_call (bs := [.i a0.A, .i a1.A]) (by decide) rfl rfl ((W_cmp_Compare_int hr2).le (.k (.k .nil))) ?_
 refine o_fieldE (cs := (WireFault.cells a0)) (by decide) ty_fo63_2 rfl ?_
 refine o_loadE (v := .i a0.B) (by decide) rfl (part_one ty_agg3 ty_sc3 rfl) ?_
 refine o_fieldE (cs := (WireFault.cells a1)) (by decide) ty_fo63_2 rfl ?_
 refine o_loadE (v := .i a1.B) (by decide) rfl (part_one ty_agg3 ty_sc3 rfl) ?_
 obtain ⟨r3, hr3, hM⟩ := bindE hM
 refine o_call (bs := [.i a0.B, .i a1.B]) (by decide) rfl rfl ((W_cmp_Compare_int hr3).le (.k (.k .nil))) ?_
 refine o_buildSlice (es := [[.i r1], [.i r2], [.i r3]]) hS (by decide) ty_es39 ty_el39 rfl ty_ef39 rfl (by decide) (by omega) fun H hS => ?_
 obtain ⟨r4, hr4, hM⟩ := bindE hM
 refine o_call (bs := [.sl (.id (g + 3 + 15)) 1 (([r1, r2, r3] : List Int).map cI)]) (by decide) rfl rfl ((W_cmp_Or_int hr4).le (.cons (.sl _ _ _) .nil)) ?_
 refine o_assign (v := .i r4) (by decide) rfl ?_
 refine run_nil ?_
 replace hS := hS.keep (L' := []) [false] rfl
 refine w_next [(4, .i r4)] (.k .nil) ?_
 refine r_ret ?_
 refine w_end (x := .i r4) (f := fun r => .i r) (.inr rfl) ?_ (.refl _) (Option.some.inj hM) hS
 exact (res_one (res_tmp (x := .i r4) rfl))
theorem W_wires_wiring_isSet_c1 {a0 : WireFault} {a1 : WireFault} {r : Bool} (hM : wires_wiring_isSet_c1 a0 a1 = some r) : PureSat Try.prog 93 [.agg (WireFault.cells a0), .ep (WireFault.cells a1)] (.b r) := by
 refine pure_of_wp mixed Try.func93 rfl (by decide) Try.ntmps93 (by simp) ?pure fun H0 g hf => ?_
 case pure => exact .v _
 rw [frame0_of]
 change wpA _ _ _ _ (Fr.of [(0, .agg (WireFault.cells a0)), (1, .ep (WireFault.cells a1))]) H0 g
 have hS := St.start hf
 refine r_seq ?_
 refine r_region (n := 2) rfl ?_
 refine o_box (v := .agg (WireFault.cells a0)) (cs := (WireFault.cells a0)) hS (by decide) rfl rfl (by omega) fun H hS => ?_
 refine o_assign (v := .b false) (by decide) rfl ?_
 refine run_nil ?_
 refine w_iceE (L' := []) 0 2 hS rfl rfl rfl fun H hS => ?_
 refine w_next [(1, .ep (WireFault.cells a1)), (2, .ep (WireFault.cells a0))] (.k (.k .nil)) ?_
 refine r_seq ?_
 refine r_region (n := 4) rfl ?_
 refine o_loadE (v := .agg (WireFault.cells a1)) (by decide) rfl (part_agg ty_agg63 (Nat.le_of_ble_eq_true rfl) rfl) ?_
 refine o_loadE (v := .agg (WireFault.cells a0)) (by decide) rfl (part_agg ty_agg63 (Nat.le_of_ble_eq_true rfl) rfl) ?_
 obtain ⟨r1, hr1, hM⟩ := bindE hM
 refine o_call (bs := [.agg (WireFault.cells a1), .agg (WireFault.cells a0)]) (by decide) rfl rfl ((W_wires_clash hr1).le (.k (.k .nil))) ?_
 refine o_assign (v := .b r1) (by decide) rfl ?_
 refine run_nil ?_
 refine w_next [(3, .b r1)] (.k .nil) ?_
 refine r_ret ?_
 refine w_end (x := .b r1) (f := fun r => .b r) (.inr rfl) ?_ (.refl _) (Option.some.inj hM) hS
 exact (res_one (res_tmp (x := .b r1) rfl))
theorem W_wires_wiring_isSet {n : Nat} {a0 : Option Wiring_} {a1 : List WireFault} {r : Bool} (hM : wires_wiring_isSet n a0 a1 = some r) : PureSat Try.prog 73 [pA Wiring_.cells a0, .sl .no 3 (a1.map WireFault.cells)] (.b r) := by
 refine pure_of_wp mixed Try.func73 rfl (by decide) Try.ntmps73 (by simp) ?pure fun H0 g hf => ?_
 case pure => exact .v _
 rw [frame0_of]
 change wpA _ _ _ _ (Fr.of [(0, pA Wiring_.cells a0), (1, .sl .no 3 (a1.map WireFault.cells))]) H0 g
 have hS := St.start hf
 refine r_seq ?_
 refine r_region (n := 1) rfl ?_
 refine o_assign (v := .b false) (by decide) rfl ?_
 refine run_nil ?_
 refine w_next [(0, pA Wiring_.cells a0), (1, .sl .no 3 (a1.map WireFault.cells))] (.k (.k .nil)) ?_
 refine w_join (J := Unit) (fun j => []) (fun j H' g' => St (· < g) H0 [] H' g' ∧ wires_wiring_isSet_j1 = some r) ?_ ?_
 ·rintro _ H g1 ⟨hS, hM⟩
  change wpA _ _ _ _ (Fr.of []) _ _
  replace hS : St (· < g) H0 [] H g1 := hS
  replace hM : wires_wiring_isSet_j1 = some r := hM
  refine r_seq ?_
  refine r_region (n := 1) rfl ?_
  refine o_assign (v := .b true) (by decide) rfl ?_
  refine run_nil ?_
  refine w_next [(4, .b true)] (.k .nil) ?_
  refine r_ret ?_
  refine w_end (x := .b true) (f := fun r => .b r) (.inr rfl) ?_ (.refl _) (Option.some.inj hM) hS
  exact (res_one (res_tmp (x := .b true) rfl))
 ·refine r_seq ?_
  refine r_region (n := 3) rfl ?_
  refine o_move (v := .sl .no 3 (a1.map WireFault.cells)) (by decide) rfl ?_
  refine o_len (n := a1.length) (by decide) rfl (List.length_map _) ty_isl31 ?_
  refine o_move (v := .i 0) (by decide) rfl ?_
  refine run_nil ?_
  refine w_next [(0, pA Wiring_.cells a0), (1, .sl .no 3 (a1.map WireFault.cells)), (7, .sl .no 3 (a1.map WireFault.cells)), (8, .i (a1.length : Int)), (9, .i 0)] (.k (.k (.k (.k (.k .nil))))) ?_
  refine r_block ?_
  refine w_loop (V := Int) (fun v => [(0, pA Wiring_.cells a0), (1, .sl .no 3 (a1.map WireFault.cells)), (7, .sl .no 3 (a1.map WireFault.cells)), (8, .i (a1.length : Int)), (9, .i v)]) (fun v m2 H' g' => St (· < g) H0 [] H' g' ∧ wires_wiring_isSet_l1 n a0 a1 m2 v = some r) (n := n) 0 (.k (.k (.k (.k (.k .nil))))) ⟨(hS.keep [] rfl).up (by omega), hM⟩ ?_
  rintro v1 m2 H g2 ⟨hS, hM⟩
  obtain _ | m2 := m2
  ·exact nomatch (show none = some _ from hM)
  change wpA _ _ _ _ (Fr.of [(0, pA Wiring_.cells a0), (1, .sl .no 3 (a1.map WireFault.cells)), (7, .sl .no 3 (a1.map WireFault.cells)), (8, .i (a1.length : Int)), (9, .i v1)]) _ _
  replace hS : St (· < g) H0 [] H g2 := hS
  replace hM : wires_wiring_isSet_l1_b n a0 a1 (wires_wiring_isSet_l1 n a0 a1 m2) v1 = some r := hM
  refine r_seq ?_
  refine r_region (n := 1) rfl ?_
  refine o_int (v := .b (decide (v1 < (a1.length : Int)))) (by decide) rfl rfl rfl ?_
  refine run_nil ?_
  refine w_next [(0, pA Wiring_.cells a0), (1, .sl .no 3 (a1.map WireFault.cells)), (7, .sl .no 3 (a1.map WireFault.cells)), (8, .i (a1.length : Int)), (9, .i v1), (10, .b (decide (v1 < (a1.length : Int))))] (.k (.k (.k (.k (.k (.k .nil)))))) ?_
  refine r_seq ?_
  rcases Bool.eq_false_or_eq_true (decide (v1 < (a1.length : Int))) with hb2 | hb2
  ·replace hM := ifT hM hb2
   refine w_condT (e := (decide (v1 < (a1.length : Int)))) rfl hb2 ?_
   refine r_skip ?_
   refine w_next [(0, pA Wiring_.cells a0), (1, .sl .no 3 (a1.map WireFault.cells)), (7, .sl .no 3 (a1.map WireFault.cells)), (8, .i (a1.length : Int)), (9, .i v1)] (.k (.k (.k (.k (.k .nil))))) ?_
   refine r_seq ?_
   refine r_block ?_
   refine r_seq ?_
   refine r_region (n := 6) rfl ?_
   refine o_move (v := .i v1) (by decide) rfl ?_
   obtain ⟨x3, hx3, hM⟩ := bindE hM
   refine o_index (xs := a1) (f := WireFault.cells) (z := v1) (u := x3) (by decide) rfl rfl ty_es31 hx3 ?_
   refine o_loadE (v := .agg (WireFault.cells x3)) (by decide) rfl (part_agg ty_agg63 (Nat.le_of_ble_eq_true rfl) rfl) ?_
   refine o_alloc hS (by decide) ty_zero63 (by omega) fun H hS => ?_
   refine o_assign (v := .i v1) (by decide) rfl ?_
   refine o_store (v := .agg (WireFault.cells x3)) (ns := (WireFault.cells x3)) (L' := [(g2 + 1 + 3, .cells (WireFault.cells x3))]) 0 hS rfl rfl .no rfl rfl ty_var63 (Nat.le_of_ble_eq_true rfl) rfl fun H hS => ?_
   refine run_nil ?_
   refine w_iceE (L' := []) 0 6 hS rfl rfl rfl fun H hS => ?_
   refine w_next [(0, pA Wiring_.cells a0), (1, .sl .no 3 (a1.map WireFault.cells)), (5, .i v1), (6, .ep (WireFault.cells x3)), (7, .sl .no 3 (a1.map WireFault.cells)), (8, .i (a1.length : Int)), (9, .i v1)] (.k (.k (.k (.k (.k (.k (.k .nil))))))) ?_
   refine w_join (J := Bool) (fun j => [(0, pA Wiring_.cells a0), (1, .sl .no 3 (a1.map WireFault.cells)), (7, .sl .no 3 (a1.map WireFault.cells)), (8, .i (a1.length : Int)), (9, .i v1), (41, .b j)]) (fun j H' g' => St (· < g) H0 [] H' g' ∧ wires_wiring_isSet_j2 (wires_wiring_isSet_l1 n a0 a1 m2) v1 j = some r) ?_ ?_
   ·rintro v4 H g3 ⟨hS, hM⟩
    change wpA _ _ _ _ (Fr.of [(0, pA Wiring_.cells a0), (1, .sl .no 3 (a1.map WireFault.cells)), (7, .sl .no 3 (a1.map WireFault.cells)), (8, .i (a1.length : Int)), (9, .i v1), (41, .b v4)]) _ _
    replace hS : St (· < g) H0 [] H g3 := hS
    replace hM : wires_wiring_isSet_j2 (wires_wiring_isSet_l1 n a0 a1 m2) v1 v4 = some r := hM
    rcases Bool.eq_false_or_eq_true v4 with hb5 | hb5
    ·replace hM := ifT hM hb5
     refine w_condT (e := v4) rfl hb5 ?_
     refine r_seq ?_
     refine r_region (n := 1) rfl ?_
     refine o_assign (v := .b false) (by decide) rfl ?_
     refine run_nil ?_
     refine w_next [(4, .b false)] (.k .nil) ?_
     refine r_ret ?_
     refine r_blk_ret ?_
     refine r_then_ret ?_
     refine w_round_ret ?_
     refine r_blk_ret ?_
     refine w_goto_ret ?_
     refine w_end (x := .b false) (f := fun r => .b r) (.inr rfl) ?_ (.refl _) (Option.some.inj hM) hS
     exact (res_one (res_tmp (x := .b false) rfl))
    ·replace hM := ifF hM hb5
     refine w_condF (e := v4) rfl hb5 ?_
     refine r_skip ?_
     refine r_blk_normal ?_
     refine w_next [(0, pA Wiring_.cells a0), (1, .sl .no 3 (a1.map WireFault.cells)), (7, .sl .no 3 (a1.map WireFault.cells)), (8, .i (a1.length : Int)), (9, .i v1)] (.k (.k (.k (.k (.k .nil))))) ?_
     refine r_region (n := 2) rfl ?_
     refine o_int (v := .i (w64 (v1 + 1))) (by decide) rfl rfl rfl ?_
     refine o_move (v := .i (w64 (v1 + 1))) (by decide) rfl ?_
     refine run_nil ?_
     exact w_round (w64 (v1 + 1)) (Nat.lt_succ_self _) (.k (.k (.k (.k (.k .nil))))) ⟨(hS.keep [] rfl).up (by omega), hM⟩
   ·have hS0 := hS
    refine r_draw (n := 28) rfl (by kernel_rfl) ?_
    refine o_move (v := pA Wiring_.cells a0) (by decide) rfl ?_
    obtain ⟨x6, hx6, hM⟩ := bindE hM
    refine o_nilA (f := Wiring_.cells) (p := a0) (u := x6) (by decide) rfl hx6 ?_
    refine o_fieldE (cs := [.i x6.Wire.Letters, .i x6.Wire.Numbers, .sl .no 3 (x6.Wire.Presses.map WirePress.cells), .i x6.Wire.Faults, .sl .no 3 (x6.all.map WireFault.cells)]) (by decide) ty_fo101_1 rfl ?_
    refine o_loadE (v := .sl .no 3 (x6.all.map WireFault.cells)) (by decide) rfl (part_one ty_agg31 ty_sc31 rfl) ?_
    refine o_loadE (v := .agg (WireFault.cells x3)) (by decide) rfl (part_agg ty_agg63 (Nat.le_of_ble_eq_true rfl) rfl) ?_
    obtain ⟨r7, hr7, hM⟩ := bindE hM
    refine o_call (bs := [.sl .no 3 (x6.all.map WireFault.cells), .agg (WireFault.cells x3)]) (by decide) rfl rfl ((W_slices_Contains_apiWireFault hr7).le (.k (.k .nil))) ?_
    refine o_not (e := r7) (by decide) rfl ?_
    refine o_move (v := .b (!r7)) (by decide) rfl ?_
    rcases Bool.eq_false_or_eq_true (!r7) with hb8 | hb8
    ·replace hM := ifT hM hb8
     refine o_guardN (j := 7) (e := (!r7)) (want := false) (by decide) rfl hb8 ?_
     refine o_guardN (j := 7) (e := (!r7)) (want := false) (by decide) rfl hb8 ?_
     refine o_guardN (j := 7) (e := (!r7)) (want := false) (by decide) rfl hb8 ?_
     refine o_guardU (j := 10) (by decide) rfl ?_
     refine o_guardU (j := 10) (by decide) rfl ?_
     refine o_guardU (j := 10) (by decide) rfl ?_
     refine o_guardU (j := 10) (by decide) rfl ?_
     refine o_guardU (j := 10) (by decide) rfl ?_
     refine o_guardU (j := 10) (by decide) rfl ?_
     refine o_guardU (j := 10) (by decide) rfl ?_
     refine o_guardU (j := 10) (by decide) rfl ?_
     refine o_guardN (j := 7) (e := (!r7)) (want := false) (by decide) rfl hb8 ?_
     refine o_pickT (v := .b true) (e := (!r7)) (by decide) rfl hb8 rfl ?_
     refine o_move (v := .b true) (by decide) rfl ?_
     refine o_guardN (j := 21) (e := true) (want := false) (by decide) rfl rfl ?_
     refine o_guardN (j := 21) (e := true) (want := false) (by decide) rfl rfl ?_
     refine o_guardN (j := 21) (e := true) (want := false) (by decide) rfl rfl ?_
     refine o_guardN (j := 21) (e := true) (want := false) (by decide) rfl rfl ?_
     refine o_guardN (j := 21) (e := true) (want := false) (by decide) rfl rfl ?_
     refine o_pickT (v := .b true) (e := true) (by decide) rfl rfl rfl ?_
     refine run_nil ?_
     exact w_goto true (.k (.k (.k (.k (.k (.k .nil)))))) ⟨(hS.keep [] rfl).up (by omega), hM⟩
    ·replace hM := ifF hM hb8
     refine o_guardY (j := 7) (e := (!r7)) (want := false) rfl hb8 ?_
     refine o_move (v := .i v1) (by decide) rfl ?_
     refine o_guardY (j := 7) (e := (!r7)) (want := false) rfl hb8 ?_
     refine o_int (v := .b (decide (v1 > 0))) (by decide) rfl rfl rfl ?_
     refine o_guardY (j := 7) (e := (!r7)) (want := false) rfl hb8 ?_
     refine o_move (v := .b (decide (v1 > 0))) (by decide) rfl ?_
     rcases Bool.eq_false_or_eq_true (decide (v1 > 0)) with hb9 | hb9
     ·replace hM := ifT hM hb9
      refine o_guardY (j := 10) (e := (decide (v1 > 0))) (want := true) rfl hb9 ?_
      refine o_move (v := .sl .no 3 (a1.map WireFault.cells)) (by decide) rfl ?_
      refine o_guardY (j := 10) (e := (decide (v1 > 0))) (want := true) rfl hb9 ?_
      refine o_move (v := .i v1) (by decide) rfl ?_
      refine o_guardY (j := 10) (e := (decide (v1 > 0))) (want := true) rfl hb9 ?_
      refine o_int (v := .i (w64 (v1 - 1))) (by decide) rfl rfl rfl ?_
      refine o_guardY (j := 10) (e := (decide (v1 > 0))) (want := true) rfl hb9 ?_
      obtain ⟨x10, hx10, hM⟩ := bindE hM
      refine o_index (xs := a1) (f := WireFault.cells) (z := (w64 (v1 - 1))) (u := x10) (by decide) rfl rfl ty_es31 hx10 ?_
      refine o_guardY (j := 10) (e := (decide (v1 > 0))) (want := true) rfl hb9 ?_
      refine o_loadE (v := .agg (WireFault.cells x10)) (by decide) rfl (part_agg ty_agg63 (Nat.le_of_ble_eq_true rfl) rfl) ?_
      refine o_guardY (j := 10) (e := (decide (v1 > 0))) (want := true) rfl hb9 ?_
      refine o_loadE (v := .agg (WireFault.cells x3)) (by decide) rfl (part_agg ty_agg63 (Nat.le_of_ble_eq_true rfl) rfl) ?_
      refine o_guardY (j := 10) (e := (decide (v1 > 0))) (want := true) rfl hb9 ?_
      obtain ⟨r11, hr11, hM⟩ := bindE hM
      refine o_call (bs := [.agg (WireFault.cells x10), .agg (WireFault.cells x3)]) (by decide) rfl rfl ((W_wires_order hr11).le (.k (.k .nil))) ?_
      refine o_guardY (j := 10) (e := (decide (v1 > 0))) (want := true) rfl hb9 ?_
      refine o_int (v := .b (decide (r11 ≥ 0))) (by decide) rfl rfl rfl ?_
      refine o_guardY (j := 7) (e := (!r7)) (want := false) rfl hb8 ?_
      refine o_pickT (v := .b (decide (r11 ≥ 0))) (e := (decide (v1 > 0))) (by decide) rfl hb9 rfl ?_
      refine o_pickF (v := .b (decide (r11 ≥ 0))) (e := (!r7)) (by decide) rfl hb8 rfl ?_
      refine o_move (v := .b (decide (r11 ≥ 0))) (by decide) rfl ?_
      rcases Bool.eq_false_or_eq_true (decide (r11 ≥ 0)) with hb12 | hb12
      ·replace hM := ifT hM hb12
       refine o_guardN (j := 21) (e := (decide (r11 ≥ 0))) (want := false) (by decide) rfl hb12 ?_
       refine o_guardN (j := 21) (e := (decide (r11 ≥ 0))) (want := false) (by decide) rfl hb12 ?_
       refine o_guardN (j := 21) (e := (decide (r11 ≥ 0))) (want := false) (by decide) rfl hb12 ?_
       refine o_guardN (j := 21) (e := (decide (r11 ≥ 0))) (want := false) (by decide) rfl hb12 ?_
       refine o_guardN (j := 21) (e := (decide (r11 ≥ 0))) (want := false) (by decide) rfl hb12 ?_
       refine o_pickT (v := .b true) (e := (decide (r11 ≥ 0))) (by decide) rfl hb12 rfl ?_
       refine run_nil ?_
       exact w_goto true (.k (.k (.k (.k (.k (.k .nil)))))) ⟨(hS.keep [] rfl).up (by omega), hM⟩
      ·replace hM := ifF hM hb12
       refine o_guardY (j := 21) (e := (decide (r11 ≥ 0))) (want := false) rfl hb12 ?_
       refine o_move (v := .sl .no 3 (a1.map WireFault.cells)) (by decide) rfl ?_
       refine o_guardY (j := 21) (e := (decide (r11 ≥ 0))) (want := false) rfl hb12 ?_
       refine o_move (v := .i v1) (by decide) rfl ?_
       refine o_guardY (j := 21) (e := (decide (r11 ≥ 0))) (want := false) rfl hb12 ?_
       obtain ⟨c13, hc13, hM⟩ := bindE hM
       refine o_slice (xs := a1) (ys := c13) (f := WireFault.cells) (p := 0) (q := v1) (by decide) rfl ty_es31 (.inl ⟨rfl, rfl⟩) (.inr rfl) hc13 ?_
       refine o_guardY (j := 21) (e := (decide (r11 ≥ 0))) (want := false) rfl hb12 ?_
       refine o_makeFunc (first := []) (cap := [.ep (WireFault.cells x3)]) (by decide) rfl rfl ?_
       refine o_guardY (j := 21) (e := (decide (r11 ≥ 0))) (want := false) rfl hb12 ?_
       obtain ⟨r14, hr14, hM⟩ := bindE hM
       refine o_call (bs := [.sl .no 3 (c13.map WireFault.cells), .fn (.func 93) [] [.ep (WireFault.cells x3)]]) (by decide) rfl rfl (pure_of_hsat ((W_slices_ContainsFunc_apiWireFault (Lo := (fun (_ : Unit) => []))  (fun _ _ => kl_nil) (fun _ => List.nodup_nil) (fun _ => inb_nil) (aF := (fun (x0 : WireFault) (_ : Unit) => (wires_wiring_isSet_c1 x0 x3).map fun y => (y, ()))) (fun _ H hH => (.fn _ _ _ ai_nil (ai_cons (.ep _ (ai_cons (show Go.AM.Pure _ from .v _).inH (ai_cons (show Go.AM.Pure _ from .v _).inH (ai_cons (show Go.AM.Pure _ from .v _).inH ai_nil)))) ai_nil))) rfl (fun h => csat_val (W_wires_wiring_isSet_c1 (pure_some h))) hr14).le (.k (.k .nil)))) ?_
       refine o_pickF (v := .b r14.1) (e := (decide (r11 ≥ 0))) (by decide) rfl hb12 rfl ?_
       refine run_nil ?_
       exact w_goto r14.1 (.k (.k (.k (.k (.k (.k .nil)))))) ⟨(hS.keep [] rfl).up (by omega), hM⟩
     ·replace hM := ifF hM hb9
      refine o_guardN (j := 10) (e := (decide (v1 > 0))) (want := true) (by decide) rfl hb9 ?_
      refine o_guardN (j := 10) (e := (decide (v1 > 0))) (want := true) (by decide) rfl hb9 ?_
      refine o_guardN (j := 10) (e := (decide (v1 > 0))) (want := true) (by decide) rfl hb9 ?_
      refine o_guardN (j := 10) (e := (decide (v1 > 0))) (want := true) (by decide) rfl hb9 ?_
      refine o_guardN (j := 10) (e := (decide (v1 > 0))) (want := true) (by decide) rfl hb9 ?_
      refine o_guardN (j := 10) (e := (decide (v1 > 0))) (want := true) (by decide) rfl hb9 ?_
      refine o_guardN (j := 10) (e := (decide (v1 > 0))) (want := true) (by decide) rfl hb9 ?_
      refine o_guardN (j := 10) (e := (decide (v1 > 0))) (want := true) (by decide) rfl hb9 ?_
      refine o_guardY (j := 7) (e := (!r7)) (want := false) rfl hb8 ?_
      refine o_pickF (v := .b false) (e := (decide (v1 > 0))) (by decide) rfl hb9 rfl ?_
      refine o_pickF (v := .b false) (e := (!r7)) (by decide) rfl hb8 rfl ?_
      refine o_move (v := .b false) (by decide) rfl ?_
      refine o_guardY (j := 21) (e := false) (want := false) rfl rfl ?_
      refine o_move (v := .sl .no 3 (a1.map WireFault.cells)) (by decide) rfl ?_
      refine o_guardY (j := 21) (e := false) (want := false) rfl rfl ?_
      refine o_move (v := .i v1) (by decide) rfl ?_
      refine o_guardY (j := 21) (e := false) (want := false) rfl rfl ?_
      obtain ⟨c15, hc15, hM⟩ := bindE hM
      refine o_slice (xs := a1) (ys := c15) (f := WireFault.cells) (p := 0) (q := v1) (by decide) rfl ty_es31 (.inl ⟨rfl, rfl⟩) (.inr rfl) hc15 ?_
      refine o_guardY (j := 21) (e := false) (want := false) rfl rfl ?_
      refine o_makeFunc (first := []) (cap := [.ep (WireFault.cells x3)]) (by decide) rfl rfl ?_
      refine o_guardY (j := 21) (e := false) (want := false) rfl rfl ?_
      obtain ⟨r16, hr16, hM⟩ := bindE hM
      refine o_call (bs := [.sl .no 3 (c15.map WireFault.cells), .fn (.func 93) [] [.ep (WireFault.cells x3)]]) (by decide) rfl rfl (pure_of_hsat ((W_slices_ContainsFunc_apiWireFault (Lo := (fun (_ : Unit) => []))  (fun _ _ => kl_nil) (fun _ => List.nodup_nil) (fun _ => inb_nil) (aF := (fun (x0 : WireFault) (_ : Unit) => (wires_wiring_isSet_c1 x0 x3).map fun y => (y, ()))) (fun _ H hH => (.fn _ _ _ ai_nil (ai_cons (.ep _ (ai_cons (show Go.AM.Pure _ from .v _).inH (ai_cons (show Go.AM.Pure _ from .v _).inH (ai_cons (show Go.AM.Pure _ from .v _).inH ai_nil)))) ai_nil))) rfl (fun h => csat_val (W_wires_wiring_isSet_c1 (pure_some h))) hr16).le (.k (.k .nil)))) ?_
      refine o_pickF (v := .b r16.1) (e := false) (by decide) rfl rfl rfl ?_
      refine run_nil ?_
      exact w_goto r16.1 (.k (.k (.k (.k (.k (.k .nil)))))) ⟨(hS.keep [] rfl).up (by omega), hM⟩
  ·replace hM := ifF hM hb2
   refine w_condF (e := (decide (v1 < (a1.length : Int)))) rfl hb2 ?_
   refine r_exit ?_
   refine r_then_exit ?_
   refine w_round_exit ?_
   refine r_blk_exit ?_
   exact w_goto () .nil ⟨(hS.keep [] rfl).up (by omega), hM⟩
theorem W_wires_Plays {n : Nat} {a0 : Wire} {a1 : List WireFault} {a2 : Int} {a3 : Int} {r : Int × Int} (hM : wires_Plays n a0 a1 a2 a3 = some r) : PureSat Try.prog 40 [.agg (Wire.cells a0), .sl .no 3 (a1.map WireFault.cells), .i a2, .i a3] (.tup [.i r.1, .i r.2]) := by
 refine pure_of_wp mixed Try.func40 rfl (by decide) Try.ntmps40 (by simp) ?pure fun H0 g hf => ?_
 case pure => exact .tup _ (pl_cons (.v _) (pl_cons (.v _) pl_nil))
 rw [frame0_of]
 change wpA _ _ _ _ (Fr.of [(0, .agg (Wire.cells a0)), (1, .sl .no 3 (a1.map WireFault.cells)), (2, .i a2), (3, .i a3)]) H0 g
 have hS := St.start hf
 refine r_seq ?_
 refine r_region (n := 3) rfl ?_
 refine o_box (v := .agg (Wire.cells a0)) (cs := (Wire.cells a0)) hS (by decide) rfl rfl (by omega) fun H hS => ?_
 refine o_assign (v := .i 0) (by decide) rfl ?_
 refine o_assign (v := .i 0) (by decide) rfl ?_
 refine run_nil ?_
 refine w_iceE (L' := []) 0 4 hS rfl rfl rfl fun H hS => ?_
 refine w_next [(1, .sl .no 3 (a1.map WireFault.cells)), (2, .i a2), (3, .i a3), (4, .ep (Wire.cells a0))] (.k (.k (.k (.k .nil)))) ?_
 refine r_seq ?_
 refine r_seq ?_
 refine r_region (n := 3) rfl ?_
 refine o_loadE (v := .agg (Wire.cells a0)) (by decide) rfl (part_agg ty_agg24 (Nat.le_of_ble_eq_true rfl) rfl) ?_
 obtain ⟨r1, hr1, hM⟩ := bindE hM
 refine o_call (bs := [.agg (Wire.cells a0)]) (by decide) rfl rfl ((W_wires_Check hr1).le (.k .nil)) ?_
 refine o_assign (v := .i r1) (by decide) rfl ?_
 refine run_nil ?_
 refine w_next [(1, .sl .no 3 (a1.map WireFault.cells)), (2, .i a2), (3, .i a3), (4, .ep (Wire.cells a0)), (10, .i r1)] (.k (.k (.k (.k (.k .nil))))) ?_
 refine r_seq ?_
 refine r_region (n := 2) rfl ?_
 refine o_move (v := .i r1) (by decide) rfl ?_
 refine o_int (v := .b (r1 != 0)) (by decide) rfl rfl rfl ?_
 refine run_nil ?_
 refine w_next [(1, .sl .no 3 (a1.map WireFault.cells)), (2, .i a2), (3, .i a3), (4, .ep (Wire.cells a0)), (10, .i r1), (15, .b (r1 != 0))] (.k (.k (.k (.k (.k (.k .nil)))))) ?_
 rcases Bool.eq_false_or_eq_true (r1 != 0) with hb2 | hb2
 ·replace hM := ifT hM hb2
  refine w_condT (e := (r1 != 0)) rfl hb2 ?_
  refine r_seq ?_
  refine r_region (n := 3) rfl ?_
  refine o_move (v := .i r1) (by decide) rfl ?_
  refine o_assign (v := .i 0) (by decide) rfl ?_
  refine o_assign (v := .i r1) (by decide) rfl ?_
  refine run_nil ?_
  refine w_next [(8, .i 0), (9, .i r1)] (.k (.k .nil)) ?_
  refine r_ret ?_
  refine r_then_ret ?_
  refine w_end (x := .tup [.i 0, .i r1]) (f := fun r => .tup [.i r.1, .i r.2]) (.inr rfl) ?_ (.refl _) (Option.some.inj hM) hS
  exact (res_two (res_tmp (x := .i 0) rfl) (res_tmp (x := .i r1) rfl))
 ·replace hM := ifF hM hb2
  refine w_condF (e := (r1 != 0)) rfl hb2 ?_
  refine r_skip ?_
  refine w_next [(1, .sl .no 3 (a1.map WireFault.cells)), (2, .i a2), (3, .i a3), (4, .ep (Wire.cells a0))] (.k (.k (.k (.k .nil)))) ?_
  refine r_seq ?_
  refine r_region (n := 3) rfl ?_
  refine o_loadE (v := .agg (Wire.cells a0)) (by decide) rfl (part_agg ty_agg24 (Nat.le_of_ble_eq_true rfl) rfl) ?_
  obtain ⟨r3, hr3, hM⟩ := bindE hM
  refine o_call (bs := [.agg (Wire.cells a0)]) (by decide) rfl rfl ((W_wires_open hr3).le (.k .nil)) ?_
  refine o_assign (v := pA Wiring_.cells r3) (by decide) rfl ?_
  refine run_nil ?_
  refine w_next [(1, .sl .no 3 (a1.map WireFault.cells)), (2, .i a2), (3, .i a3), (4, .ep (Wire.cells a0)), (11, pA Wiring_.cells r3)] (.k (.k (.k (.k (.k .nil))))) ?_
  refine r_seq ?_
  refine w_join (J := Bool) (fun j => [(1, .sl .no 3 (a1.map WireFault.cells)), (2, .i a2), (3, .i a3), (11, pA Wiring_.cells r3), (29, .b j)]) (fun j H' g' => St (· < g) H0 [] H' g' ∧ wires_Plays_j1 n a1 a2 a3 r3 j = some r) ?_ ?_
  ·rintro v4 H g1 ⟨hS, hM⟩
   change wpA _ _ _ _ (Fr.of [(1, .sl .no 3 (a1.map WireFault.cells)), (2, .i a2), (3, .i a3), (11, pA Wiring_.cells r3), (29, .b v4)]) _ _
   replace hS : St (· < g) H0 [] H g1 := hS
   replace hM : wires_Plays_j1 n a1 a2 a3 r3 v4 = some r := hM
   rcases Bool.eq_false_or_eq_true v4 with hb5 | hb5
   ·replace hM := ifT hM hb5
    refine w_condT (e := v4) rfl hb5 ?_
    refine r_seq ?_
    refine r_region (n := 2) rfl ?_
    refine o_assign (v := .i 0) (by decide) rfl ?_
    refine o_assign (v := .i 1) (by decide) rfl ?_
    refine run_nil ?_
    refine w_next [(8, .i 0), (9, .i 1)] (.k (.k .nil)) ?_
    refine r_ret ?_
    refine r_then_ret ?_
    refine w_end (x := .tup [.i 0, .i 1]) (f := fun r => .tup [.i r.1, .i r.2]) (.inr rfl) ?_ (.refl _) (Option.some.inj hM) hS
    exact (res_two (res_tmp (x := .i 0) rfl) (res_tmp (x := .i 1) rfl))
   ·replace hM := ifF hM hb5
    refine w_condF (e := v4) rfl hb5 ?_
    refine r_skip ?_
    refine w_next [(1, .sl .no 3 (a1.map WireFault.cells)), (2, .i a2), (3, .i a3), (11, pA Wiring_.cells r3)] (.k (.k (.k (.k .nil)))) ?_
    refine r_seq ?_
    refine r_region (n := 8) rfl ?_
    refine o_move (v := pA Wiring_.cells r3) (by decide) rfl ?_
    refine o_move (v := .sl .no 3 (a1.map WireFault.cells)) (by decide) rfl ?_
    obtain ⟨r6, hr6, hM⟩ := bindE hM
    refine o_call (bs := [.sl .no 3 (a1.map WireFault.cells)]) (by decide) rfl rfl ((W_wires_wire hr6).le (.k .nil)) ?_
    refine o_move (v := .i a2) (by decide) rfl ?_
    refine o_move (v := .i a3) (by decide) rfl ?_
    obtain ⟨r7, hr7, hM⟩ := bindE hM
    refine o_call (bs := [pA Wiring_.cells r3, .agg [.i r6.letters.c0, .i r6.letters.c1, .i r6.letters.c2, .i r6.letters.c3, .i r6.letters.c4, .i r6.numbers.c0, .i r6.numbers.c1, .i r6.numbers.c2, .i r6.numbers.c3, .i r6.numbers.c4], .i a2, .i a3]) (by decide) rfl rfl ((W_wires_wiring_plays hr7).le (.k (.k (.k (.k .nil))))) ?_
    refine o_assign (v := .i r7) (by decide) rfl ?_
    refine o_assign (v := .i 0) (by decide) rfl ?_
    refine run_nil ?_
    refine w_next [(8, .i r7), (9, .i 0)] (.k (.k .nil)) ?_
    refine r_ret ?_
    refine w_end (x := .tup [.i r7, .i 0]) (f := fun r => .tup [.i r.1, .i r.2]) (.inr rfl) ?_ (.refl _) (Option.some.inj hM) hS
    exact (res_two (res_tmp (x := .i r7) rfl) (res_tmp (x := .i 0) rfl))
  ·refine r_region (n := 11) rfl ?_
   refine o_move (v := pA Wiring_.cells r3) (by decide) rfl ?_
   refine o_move (v := .sl .no 3 (a1.map WireFault.cells)) (by decide) rfl ?_
   obtain ⟨r8, hr8, hM⟩ := bindE hM
   refine o_call (bs := [pA Wiring_.cells r3, .sl .no 3 (a1.map WireFault.cells)]) (by decide) rfl rfl ((W_wires_wiring_isSet hr8).le (.k (.k .nil))) ?_
   refine o_not (e := r8) (by decide) rfl ?_
   refine o_move (v := .b (!r8)) (by decide) rfl ?_
   rcases Bool.eq_false_or_eq_true (!r8) with hb9 | hb9
   ·replace hM := ifT hM hb9
    refine o_guardN (j := 4) (e := (!r8)) (want := false) (by decide) rfl hb9 ?_
    refine o_guardN (j := 4) (e := (!r8)) (want := false) (by decide) rfl hb9 ?_
    refine o_guardN (j := 4) (e := (!r8)) (want := false) (by decide) rfl hb9 ?_
    refine o_guardN (j := 4) (e := (!r8)) (want := false) (by decide) rfl hb9 ?_
    refine o_guardN (j := 4) (e := (!r8)) (want := false) (by decide) rfl hb9 ?_
    refine o_pickT (v := .b true) (e := (!r8)) (by decide) rfl hb9 rfl ?_
    refine run_nil ?_
    exact w_goto true (.k (.k (.k (.k (.k .nil))))) ⟨(hS.keep [] rfl).up (by omega), hM⟩
   ·replace hM := ifF hM hb9
    refine o_guardY (j := 4) (e := (!r8)) (want := false) rfl hb9 ?_
    refine o_loadE (v := .agg (Wire.cells a0)) (by decide) rfl (part_agg ty_agg24 (Nat.le_of_ble_eq_true rfl) rfl) ?_
    refine o_guardY (j := 4) (e := (!r8)) (want := false) rfl hb9 ?_
    refine o_move (v := .i a2) (by decide) rfl ?_
    refine o_guardY (j := 4) (e := (!r8)) (want := false) rfl hb9 ?_
    refine o_move (v := .i a3) (by decide) rfl ?_
    refine o_guardY (j := 4) (e := (!r8)) (want := false) rfl hb9 ?_
    obtain ⟨r10, hr10, hM⟩ := bindE hM
    refine o_call (bs := [.agg (Wire.cells a0), .i a2, .i a3]) (by decide) rfl rfl ((W_wires_isPress hr10).le (.k (.k (.k .nil)))) ?_
    refine o_guardY (j := 4) (e := (!r8)) (want := false) rfl hb9 ?_
    refine o_not (e := r10) (by decide) rfl ?_
    refine o_pickF (v := .b (!r10)) (e := (!r8)) (by decide) rfl hb9 rfl ?_
    refine run_nil ?_
    exact w_goto (!r10) (.k (.k (.k (.k (.k .nil))))) ⟨(hS.keep [] rfl).up (by omega), hM⟩
theorem W_law11_Example {r : Wire} (hM : law11_Example = some r) : PureSat Try.prog 53 [] (.agg [.i r.Letters, .i r.Numbers, .sl .no 3 (r.Presses.map WirePress.cells), .i r.Faults]) := by
 refine pure_of_wp mixed Try.func53 rfl (by decide) Try.ntmps53 (by simp) ?pure fun H0 g hf => ?_
 case pure => exact .agg _ (pl_cons (.v _) (pl_cons (.v _) (pl_cons (.sl _ _ (pures_map (fun x => (pl_cons (.v _) (pl_cons (.v _) (pl_cons (.v _) pl_nil)))))) (pl_cons (.v _) pl_nil))))
 rw [frame0_of]
 change wpA _ _ _ _ (Fr.of []) H0 g
 have hS := St.start hf
 refine r_seq ?_
 refine r_region (n := 1) rfl ?_
 refine o_alloc hS (by decide) ty_zero24 (by omega) fun H hS => ?_
 refine run_nil ?_
 refine w_next [(0, .ptr (g + 0) 0)] (.k .nil) ?_
 refine r_seq ?_
 refine r_region (n := 5) rfl ?_
 refine o_build (cs := [.i 0, .i 0, .i 3]) (by decide) ty_zero50 ty_pl50 rfl ?_
 refine o_build (cs := [.i 1, .i 1, .i (-1)]) (by decide) ty_zero50 ty_pl50 rfl ?_
 refine o_buildSlice (es := [[.i 0, .i 0, .i 3], [.i 1, .i 1, .i (-1)]]) hS (by decide) ty_es22 ty_el22 rfl ty_ef22 rfl (by decide) (by omega) fun H hS => ?_
 refine o_build (cs := [.i 2, .i 3, .sl (.id (g + 1 + 2)) 3 (([(⟨0, 0, 3⟩ : WirePress), (⟨1, 1, (-1)⟩ : WirePress)] : List WirePress).map WirePress.cells), .i 2]) (by decide) ty_zero24 ty_pl24 rfl ?_
 refine o_store (v := .agg [.i 2, .i 3, .sl (.id (g + 1 + 2)) 3 (([(⟨0, 0, 3⟩ : WirePress), (⟨1, 1, (-1)⟩ : WirePress)] : List WirePress).map WirePress.cells), .i 2]) (ns := [.i 2, .i 3, .sl (.id (g + 1 + 2)) 3 (([(⟨0, 0, 3⟩ : WirePress), (⟨1, 1, (-1)⟩ : WirePress)] : List WirePress).map WirePress.cells), .i 2]) (L' := [(g + 1 + 2, .row 50 2), (g + 0, .cells [.i 2, .i 3, .sl (.id (g + 1 + 2)) 3 (([(⟨0, 0, 3⟩ : WirePress), (⟨1, 1, (-1)⟩ : WirePress)] : List WirePress).map WirePress.cells), .i 2])]) 1 hS rfl rfl .no rfl rfl ty_var24 (Nat.le_of_ble_eq_true rfl) rfl fun H hS => ?_
 refine run_nil ?_
 refine w_next [(0, .ptr (g + 0) 0)] (.k .nil) ?_
 refine r_ret ?_
 refine w_end (x := .agg [.i 2, .i 3, .sl (.id (g + 1 + 2)) 3 (([(⟨0, 0, 3⟩ : WirePress), (⟨1, 1, (-1)⟩ : WirePress)] : List WirePress).map WirePress.cells), .i 2]) (f := fun r => .agg [.i r.Letters, .i r.Numbers, .sl .no 3 (r.Presses.map WirePress.cells), .i r.Faults]) (.inr rfl) ?_ (.aggL (.k (.k (.cons (.sl _ _ _) (.k .nil))))) (Option.some.inj hM) hS
 exact (res_one (res_cell (x := .agg [.i 2, .i 3, .sl (.id (g + 1 + 2)) 3 (([(⟨0, 0, 3⟩ : WirePress), (⟨1, 1, (-1)⟩ : WirePress)] : List WirePress).map WirePress.cells), .i 2]) 1 hS rfl rfl (part_agg ty_agg24 (Nat.le_of_ble_eq_true rfl) rfl)))
theorem W_law11_works {n : Nat} {r : Bool} (hM : law11_works n = some r) : PureSat Try.prog 15 [] (.b r) := by
 refine pure_of_wp mixed Try.func15 rfl (by decide) Try.ntmps15 (by simp) ?pure fun H0 g hf => ?_
 case pure => exact .v _
 rw [frame0_of]
 change wpA _ _ _ _ (Fr.of []) H0 g
 have hS := St.start hf
 refine r_seq ?_
 refine r_region (n := 1) rfl ?_
 refine o_assign (v := .b false) (by decide) rfl ?_
 refine run_nil ?_
 refine w_next [] .nil ?_
 refine r_seq ?_
 refine r_region (n := 3) rfl ?_
 obtain ⟨r1, hr1, hM⟩ := bindE hM
 refine o_call (bs := []) (by decide) rfl rfl ((W_law11_Example hr1).le .nil) ?_
 refine o_alloc hS (by decide) ty_zero24 (by omega) fun H hS => ?_
 refine o_store (v := .agg (Wire.cells r1)) (ns := (Wire.cells r1)) (L' := [(g + 1 + 1, .cells (Wire.cells r1))]) 0 hS rfl rfl .no rfl rfl ty_var24 (Nat.le_of_ble_eq_true rfl) rfl fun H hS => ?_
 refine run_nil ?_
 refine w_iceE (L' := []) 0 1 hS rfl rfl rfl fun H hS => ?_
 refine w_next [(1, .ep (Wire.cells r1))] (.k .nil) ?_
 refine r_seq ?_
 refine r_region (n := 7) rfl ?_
 refine o_loadE (v := .agg (Wire.cells r1)) (by decide) rfl (part_agg ty_agg24 (Nat.le_of_ble_eq_true rfl) rfl) ?_
 obtain ⟨r2, hr2, hM⟩ := bindE hM
 refine o_call (bs := [.agg (Wire.cells r1)]) (by decide) rfl rfl ((W_wires_Many hr2).le (.k .nil)) ?_
 refine o_move (v := .tup [.i r2.1, .i r2.2]) (by decide) rfl ?_
 refine o_extract (v := .i r2.1) (by decide) rfl rfl ?_
 refine o_extract (v := .i r2.2) (by decide) rfl rfl ?_
 refine o_assign (v := .i r2.1) (by decide) rfl ?_
 refine o_assign (v := .i r2.2) (by decide) rfl ?_
 refine run_nil ?_
 refine w_next [(1, .ep (Wire.cells r1)), (2, .i r2.1), (3, .i r2.2)] (.k (.k (.k .nil))) ?_
 refine r_seq ?_
 refine r_region (n := 7) rfl ?_
 refine o_loadE (v := .agg (Wire.cells r1)) (by decide) rfl (part_agg ty_agg24 (Nat.le_of_ble_eq_true rfl) rfl) ?_
 obtain ⟨r3, hr3, hM⟩ := bindE hM
 refine o_call (bs := [.agg (Wire.cells r1)]) (by decide) rfl rfl ((W_wires_Sure hr3).le (.k .nil)) ?_
 refine o_move (v := .tup [.sl .no 3 (r3.1.map WireFault.cells), .i r3.2]) (by decide) rfl ?_
 refine o_extract (v := .sl .no 3 (r3.1.map WireFault.cells)) (by decide) rfl rfl ?_
 refine o_extract (v := .i r3.2) (by decide) rfl rfl ?_
 refine o_assign (v := .sl .no 3 (r3.1.map WireFault.cells)) (by decide) rfl ?_
 refine o_assign (v := .i r3.2) (by decide) rfl ?_
 refine run_nil ?_
 refine w_next [(1, .ep (Wire.cells r1)), (2, .i r2.1), (3, .i r2.2), (4, .sl .no 3 (r3.1.map WireFault.cells)), (5, .i r3.2)] (.k (.k (.k (.k (.k .nil))))) ?_
 refine r_seq ?_
 refine r_region (n := 7) rfl ?_
 refine o_loadE (v := .agg (Wire.cells r1)) (by decide) rfl (part_agg ty_agg24 (Nat.le_of_ble_eq_true rfl) rfl) ?_
 obtain ⟨r4, hr4, hM⟩ := bindE hM
 refine o_call (bs := [.agg (Wire.cells r1), .i 0, .i 1]) (by decide) rfl rfl ((W_wires_Shows hr4).le (.k (.k (.k .nil)))) ?_
 refine o_move (v := .tup [.sl .no 1 (r4.1.map cI), .i r4.2]) (by decide) rfl ?_
 refine o_extract (v := .sl .no 1 (r4.1.map cI)) (by decide) rfl rfl ?_
 refine o_extract (v := .i r4.2) (by decide) rfl rfl ?_
 refine o_assign (v := .sl .no 1 (r4.1.map cI)) (by decide) rfl ?_
 refine o_assign (v := .i r4.2) (by decide) rfl ?_
 refine run_nil ?_
 refine w_next [(1, .ep (Wire.cells r1)), (2, .i r2.1), (3, .i r2.2), (4, .sl .no 3 (r3.1.map WireFault.cells)), (5, .i r3.2), (6, .sl .no 1 (r4.1.map cI)), (7, .i r4.2)] (.k (.k (.k (.k (.k (.k (.k .nil))))))) ?_
 refine r_seq ?_
 refine r_region (n := 9) rfl ?_
 refine o_loadE (v := .agg (Wire.cells r1)) (by decide) rfl (part_agg ty_agg24 (Nat.le_of_ble_eq_true rfl) rfl) ?_
 obtain ⟨r5, hr5, hM⟩ := bindE hM
 refine o_call (bs := [.agg (Wire.cells r1)]) (by decide) rfl rfl ((W_wires_Next hr5).le (.k .nil)) ?_
 refine o_move (v := .tup [.i r5.1, .i r5.2.1, .i r5.2.2]) (by decide) rfl ?_
 refine o_extract (v := .i r5.1) (by decide) rfl rfl ?_
 refine o_extract (v := .i r5.2.1) (by decide) rfl rfl ?_
 refine o_extract (v := .i r5.2.2) (by decide) rfl rfl ?_
 refine o_assign (v := .i r5.1) (by decide) rfl ?_
 refine o_assign (v := .i r5.2.1) (by decide) rfl ?_
 refine o_assign (v := .i r5.2.2) (by decide) rfl ?_
 refine run_nil ?_
 refine w_next [(1, .ep (Wire.cells r1)), (2, .i r2.1), (3, .i r2.2), (4, .sl .no 3 (r3.1.map WireFault.cells)), (5, .i r3.2), (6, .sl .no 1 (r4.1.map cI)), (7, .i r4.2), (8, .i r5.1), (9, .i r5.2.1), (10, .i r5.2.2)] (.k (.k (.k (.k (.k (.k (.k (.k (.k (.k .nil)))))))))) ?_
 refine r_seq ?_
 refine r_region (n := 7) rfl ?_
 refine o_loadE (v := .agg (Wire.cells r1)) (by decide) rfl (part_agg ty_agg24 (Nat.le_of_ble_eq_true rfl) rfl) ?_
 obtain ⟨r6, hr6, hM⟩ := bindE hM
 refine o_call (bs := [.agg (Wire.cells r1), .sl .nil 0 [], .i 1, .i 2]) (by decide) rfl rfl ((W_wires_Plays hr6).le (.k (.cons (.sl0 .nil 3 0) (.k (.k .nil))))) ?_
 refine o_move (v := .tup [.i r6.1, .i r6.2]) (by decide) rfl ?_
 refine o_extract (v := .i r6.1) (by decide) rfl rfl ?_
 refine o_extract (v := .i r6.2) (by decide) rfl rfl ?_
 refine o_assign (v := .i r6.1) (by decide) rfl ?_
 refine o_assign (v := .i r6.2) (by decide) rfl ?_
 refine run_nil ?_
 refine w_next [(2, .i r2.1), (3, .i r2.2), (4, .sl .no 3 (r3.1.map WireFault.cells)), (5, .i r3.2), (6, .sl .no 1 (r4.1.map cI)), (7, .i r4.2), (8, .i r5.1), (9, .i r5.2.1), (10, .i r5.2.2), (11, .i r6.1), (12, .i r6.2)] (.k (.k (.k (.k (.k (.k (.k (.k (.k (.k (.k .nil))))))))))) ?_
 refine w_join (J := Bool) (fun j => [(0, .b j)]) (fun j H' g' => St (· < g) H0 [] H' g' ∧ law11_works_j1 j = some r) ?_ ?_
 ·rintro v7 H g1 ⟨hS, hM⟩
  change wpA _ _ _ _ (Fr.of [(0, .b v7)]) _ _
  replace hS : St (· < g) H0 [] H g1 := hS
  replace hM : law11_works_j1 v7 = some r := hM
  refine r_ret ?_
  refine w_end (x := .b v7) (f := fun r => .b r) (.inr rfl) ?_ (.refl _) (Option.some.inj hM) hS
  exact (res_one (res_tmp (x := .b v7) rfl))
 ·refine r_region (n := 46) rfl ?_
  refine o_move (v := .i r2.2) (by decide) rfl ?_
  refine o_int (v := .b (r2.2 == 0)) (by decide) rfl rfl rfl ?_
  refine o_move (v := .b (r2.2 == 0)) (by decide) rfl ?_
  rcases Bool.eq_false_or_eq_true (r2.2 == 0) with hb8 | hb8
  ·replace hM := ifT hM hb8
   refine o_guardY (j := 2) (e := (r2.2 == 0)) (want := true) rfl hb8 ?_
   refine o_move (v := .i r3.2) (by decide) rfl ?_
   refine o_guardY (j := 2) (e := (r2.2 == 0)) (want := true) rfl hb8 ?_
   refine o_int (v := .b (r3.2 == 0)) (by decide) rfl rfl rfl ?_
   refine o_pickT (v := .b (r3.2 == 0)) (e := (r2.2 == 0)) (by decide) rfl hb8 rfl ?_
   refine o_move (v := .b (r3.2 == 0)) (by decide) rfl ?_
   rcases Bool.eq_false_or_eq_true (r3.2 == 0) with hb9 | hb9
   ·replace hM := ifT hM hb9
    refine o_guardY (j := 6) (e := (r3.2 == 0)) (want := true) rfl hb9 ?_
    refine o_move (v := .i r4.2) (by decide) rfl ?_
    refine o_guardY (j := 6) (e := (r3.2 == 0)) (want := true) rfl hb9 ?_
    refine o_int (v := .b (r4.2 == 0)) (by decide) rfl rfl rfl ?_
    refine o_pickT (v := .b (r4.2 == 0)) (e := (r3.2 == 0)) (by decide) rfl hb9 rfl ?_
    refine o_move (v := .b (r4.2 == 0)) (by decide) rfl ?_
    rcases Bool.eq_false_or_eq_true (r4.2 == 0) with hb10 | hb10
    ·replace hM := ifT hM hb10
     refine o_guardY (j := 10) (e := (r4.2 == 0)) (want := true) rfl hb10 ?_
     refine o_move (v := .i r5.2.2) (by decide) rfl ?_
     refine o_guardY (j := 10) (e := (r4.2 == 0)) (want := true) rfl hb10 ?_
     refine o_int (v := .b (r5.2.2 == 0)) (by decide) rfl rfl rfl ?_
     refine o_pickT (v := .b (r5.2.2 == 0)) (e := (r4.2 == 0)) (by decide) rfl hb10 rfl ?_
     refine o_move (v := .b (r5.2.2 == 0)) (by decide) rfl ?_
     rcases Bool.eq_false_or_eq_true (r5.2.2 == 0) with hb11 | hb11
     ·replace hM := ifT hM hb11
      refine o_guardY (j := 14) (e := (r5.2.2 == 0)) (want := true) rfl hb11 ?_
      refine o_move (v := .i r6.2) (by decide) rfl ?_
      refine o_guardY (j := 14) (e := (r5.2.2 == 0)) (want := true) rfl hb11 ?_
      refine o_int (v := .b (r6.2 == 0)) (by decide) rfl rfl rfl ?_
      refine o_pickT (v := .b (r6.2 == 0)) (e := (r5.2.2 == 0)) (by decide) rfl hb11 rfl ?_
      refine o_move (v := .b (r6.2 == 0)) (by decide) rfl ?_
      rcases Bool.eq_false_or_eq_true (r6.2 == 0) with hb12 | hb12
      ·replace hM := ifT hM hb12
       refine o_guardY (j := 18) (e := (r6.2 == 0)) (want := true) rfl hb12 ?_
       refine o_move (v := .i r2.1) (by decide) rfl ?_
       refine o_guardY (j := 18) (e := (r6.2 == 0)) (want := true) rfl hb12 ?_
       refine o_int (v := .b (r2.1 == 2)) (by decide) rfl rfl rfl ?_
       refine o_pickT (v := .b (r2.1 == 2)) (e := (r6.2 == 0)) (by decide) rfl hb12 rfl ?_
       refine o_move (v := .b (r2.1 == 2)) (by decide) rfl ?_
       rcases Bool.eq_false_or_eq_true (r2.1 == 2) with hb13 | hb13
       ·replace hM := ifT hM hb13
        refine o_guardY (j := 22) (e := (r2.1 == 2)) (want := true) rfl hb13 ?_
        refine o_move (v := .sl .no 3 (r3.1.map WireFault.cells)) (by decide) rfl ?_
        refine o_guardY (j := 22) (e := (r2.1 == 2)) (want := true) rfl hb13 ?_
        refine o_build (cs := [.i 3, .i 0, .i 1]) (by decide) ty_zero63 ty_pl63 rfl ?_
        refine o_guardY (j := 22) (e := (r2.1 == 2)) (want := true) rfl hb13 ?_
        refine o_buildSlice (es := [[.i 3, .i 0, .i 1]]) hS (by decide) ty_es31 ty_el31 rfl ty_ef31 rfl (by decide) (by omega) fun H hS => ?_
        refine o_guardY (j := 22) (e := (r2.1 == 2)) (want := true) rfl hb13 ?_
        obtain ⟨r14, hr14, hM⟩ := bindE hM
        refine o_call (bs := [.sl .no 3 (r3.1.map WireFault.cells), .sl (.id (g + 1 + 3 + 7 + 7 + 7 + 9 + 7 + 25)) 3 (([(⟨3, 0, 1⟩ : WireFault)] : List WireFault).map WireFault.cells)]) (by decide) rfl rfl ((W_law11_SameFaults hr14).le (.k (.cons (.sl _ _ _) .nil))) ?_
        refine o_pickT (v := .b r14) (e := (r2.1 == 2)) (by decide) rfl hb13 rfl ?_
        refine o_move (v := .b r14) (by decide) rfl ?_
        rcases Bool.eq_false_or_eq_true r14 with hb15 | hb15
        ·replace hM := ifT hM hb15
         refine o_guardY (j := 28) (e := r14) (want := true) rfl hb15 ?_
         refine o_move (v := .sl .no 1 (r4.1.map cI)) (by decide) rfl ?_
         refine o_guardY (j := 28) (e := r14) (want := true) rfl hb15 ?_
         refine o_buildSlice (es := [[.i (-1)], [.i 4]]) hS (by decide) ty_es39 ty_el39 rfl ty_ef39 rfl (by decide) (by omega) fun H hS => ?_
         refine o_guardY (j := 28) (e := r14) (want := true) rfl hb15 ?_
         obtain ⟨r16, hr16, hM⟩ := bindE hM
         refine o_call (bs := [.sl .no 1 (r4.1.map cI), .sl (.id (g + 1 + 3 + 7 + 7 + 7 + 9 + 7 + 30)) 1 (([(-1), 4] : List Int).map cI)]) (by decide) rfl rfl ((W_ref01_SameInts hr16).le (.k (.cons (.sl _ _ _) .nil))) ?_
         refine o_pickT (v := .b r16) (e := r14) (by decide) rfl hb15 rfl ?_
         refine o_move (v := .b r16) (by decide) rfl ?_
         rcases Bool.eq_false_or_eq_true r16 with hb17 | hb17
         ·replace hM := ifT hM hb17
          refine o_guardY (j := 33) (e := r16) (want := true) rfl hb17 ?_
          refine o_move (v := .i r5.1) (by decide) rfl ?_
          refine o_guardY (j := 33) (e := r16) (want := true) rfl hb17 ?_
          refine o_int (v := .b (r5.1 == 0)) (by decide) rfl rfl rfl ?_
          refine o_pickT (v := .b (r5.1 == 0)) (e := r16) (by decide) rfl hb17 rfl ?_
          refine o_move (v := .b (r5.1 == 0)) (by decide) rfl ?_
          rcases Bool.eq_false_or_eq_true (r5.1 == 0) with hb18 | hb18
          ·replace hM := ifT hM hb18
           refine o_guardY (j := 37) (e := (r5.1 == 0)) (want := true) rfl hb18 ?_
           refine o_move (v := .i r5.2.1) (by decide) rfl ?_
           refine o_guardY (j := 37) (e := (r5.1 == 0)) (want := true) rfl hb18 ?_
           refine o_int (v := .b (r5.2.1 == 1)) (by decide) rfl rfl rfl ?_
           refine o_pickT (v := .b (r5.2.1 == 1)) (e := (r5.1 == 0)) (by decide) rfl hb18 rfl ?_
           refine o_move (v := .b (r5.2.1 == 1)) (by decide) rfl ?_
           rcases Bool.eq_false_or_eq_true (r5.2.1 == 1) with hb19 | hb19
           ·replace hM := ifT hM hb19
            refine o_guardY (j := 41) (e := (r5.2.1 == 1)) (want := true) rfl hb19 ?_
            refine o_move (v := .i r6.1) (by decide) rfl ?_
            refine o_guardY (j := 41) (e := (r5.2.1 == 1)) (want := true) rfl hb19 ?_
            refine o_int (v := .b (r6.1 == 5)) (by decide) rfl rfl rfl ?_
            refine o_pickT (v := .b (r6.1 == 5)) (e := (r5.2.1 == 1)) (by decide) rfl hb19 rfl ?_
            refine o_assign (v := .b (r6.1 == 5)) (by decide) rfl ?_
            refine run_nil ?_
            exact w_goto (r6.1 == 5) (.k .nil) ⟨(hS.keep [false, false] rfl).up (by omega), hM⟩
           ·replace hM := ifF hM hb19
            refine o_guardN (j := 41) (e := (r5.2.1 == 1)) (want := true) (by decide) rfl hb19 ?_
            refine o_guardN (j := 41) (e := (r5.2.1 == 1)) (want := true) (by decide) rfl hb19 ?_
            refine o_pickF (v := .b false) (e := (r5.2.1 == 1)) (by decide) rfl hb19 rfl ?_
            refine o_assign (v := .b false) (by decide) rfl ?_
            refine run_nil ?_
            exact w_goto false (.k .nil) ⟨(hS.keep [false, false] rfl).up (by omega), hM⟩
          ·replace hM := ifF hM hb18
           refine o_guardN (j := 37) (e := (r5.1 == 0)) (want := true) (by decide) rfl hb18 ?_
           refine o_guardN (j := 37) (e := (r5.1 == 0)) (want := true) (by decide) rfl hb18 ?_
           refine o_pickF (v := .b false) (e := (r5.1 == 0)) (by decide) rfl hb18 rfl ?_
           refine o_move (v := .b false) (by decide) rfl ?_
           refine o_guardN (j := 41) (e := false) (want := true) (by decide) rfl rfl ?_
           refine o_guardN (j := 41) (e := false) (want := true) (by decide) rfl rfl ?_
           refine o_pickF (v := .b false) (e := false) (by decide) rfl rfl rfl ?_
           refine o_assign (v := .b false) (by decide) rfl ?_
           refine run_nil ?_
           exact w_goto false (.k .nil) ⟨(hS.keep [false, false] rfl).up (by omega), hM⟩
         ·replace hM := ifF hM hb17
          refine o_guardN (j := 33) (e := r16) (want := true) (by decide) rfl hb17 ?_
          refine o_guardN (j := 33) (e := r16) (want := true) (by decide) rfl hb17 ?_
          refine o_pickF (v := .b false) (e := r16) (by decide) rfl hb17 rfl ?_
          refine o_move (v := .b false) (by decide) rfl ?_
          refine o_guardN (j := 37) (e := false) (want := true) (by decide) rfl rfl ?_
          refine o_guardN (j := 37) (e := false) (want := true) (by decide) rfl rfl ?_
          refine o_pickF (v := .b false) (e := false) (by decide) rfl rfl rfl ?_
          refine o_move (v := .b false) (by decide) rfl ?_
          refine o_guardN (j := 41) (e := false) (want := true) (by decide) rfl rfl ?_
          refine o_guardN (j := 41) (e := false) (want := true) (by decide) rfl rfl ?_
          refine o_pickF (v := .b false) (e := false) (by decide) rfl rfl rfl ?_
          refine o_assign (v := .b false) (by decide) rfl ?_
          refine run_nil ?_
          exact w_goto false (.k .nil) ⟨(hS.keep [false, false] rfl).up (by omega), hM⟩
        ·replace hM := ifF hM hb15
         refine o_guardN (j := 28) (e := r14) (want := true) (by decide) rfl hb15 ?_
         refine o_guardN (j := 28) (e := r14) (want := true) (by decide) rfl hb15 ?_
         refine o_guardN (j := 28) (e := r14) (want := true) (by decide) rfl hb15 ?_
         refine o_pickF (v := .b false) (e := r14) (by decide) rfl hb15 rfl ?_
         refine o_move (v := .b false) (by decide) rfl ?_
         refine o_guardN (j := 33) (e := false) (want := true) (by decide) rfl rfl ?_
         refine o_guardN (j := 33) (e := false) (want := true) (by decide) rfl rfl ?_
         refine o_pickF (v := .b false) (e := false) (by decide) rfl rfl rfl ?_
         refine o_move (v := .b false) (by decide) rfl ?_
         refine o_guardN (j := 37) (e := false) (want := true) (by decide) rfl rfl ?_
         refine o_guardN (j := 37) (e := false) (want := true) (by decide) rfl rfl ?_
         refine o_pickF (v := .b false) (e := false) (by decide) rfl rfl rfl ?_
         refine o_move (v := .b false) (by decide) rfl ?_
         refine o_guardN (j := 41) (e := false) (want := true) (by decide) rfl rfl ?_
         refine o_guardN (j := 41) (e := false) (want := true) (by decide) rfl rfl ?_
         refine o_pickF (v := .b false) (e := false) (by decide) rfl rfl rfl ?_
         refine o_assign (v := .b false) (by decide) rfl ?_
         refine run_nil ?_
         exact w_goto false (.k .nil) ⟨(hS.keep [false] rfl).up (by omega), hM⟩
       ·replace hM := ifF hM hb13
        refine o_guardN (j := 22) (e := (r2.1 == 2)) (want := true) (by decide) rfl hb13 ?_
        refine o_guardN (j := 22) (e := (r2.1 == 2)) (want := true) (by decide) rfl hb13 ?_
        refine o_guardN (j := 22) (e := (r2.1 == 2)) (want := true) (by decide) rfl hb13 ?_
        refine o_guardN (j := 22) (e := (r2.1 == 2)) (want := true) (by decide) rfl hb13 ?_
        refine o_pickF (v := .b false) (e := (r2.1 == 2)) (by decide) rfl hb13 rfl ?_
        refine o_move (v := .b false) (by decide) rfl ?_
        refine o_guardN (j := 28) (e := false) (want := true) (by decide) rfl rfl ?_
        refine o_guardN (j := 28) (e := false) (want := true) (by decide) rfl rfl ?_
        refine o_guardN (j := 28) (e := false) (want := true) (by decide) rfl rfl ?_
        refine o_pickF (v := .b false) (e := false) (by decide) rfl rfl rfl ?_
        refine o_move (v := .b false) (by decide) rfl ?_
        refine o_guardN (j := 33) (e := false) (want := true) (by decide) rfl rfl ?_
        refine o_guardN (j := 33) (e := false) (want := true) (by decide) rfl rfl ?_
        refine o_pickF (v := .b false) (e := false) (by decide) rfl rfl rfl ?_
        refine o_move (v := .b false) (by decide) rfl ?_
        refine o_guardN (j := 37) (e := false) (want := true) (by decide) rfl rfl ?_
        refine o_guardN (j := 37) (e := false) (want := true) (by decide) rfl rfl ?_
        refine o_pickF (v := .b false) (e := false) (by decide) rfl rfl rfl ?_
        refine o_move (v := .b false) (by decide) rfl ?_
        refine o_guardN (j := 41) (e := false) (want := true) (by decide) rfl rfl ?_
        refine o_guardN (j := 41) (e := false) (want := true) (by decide) rfl rfl ?_
        refine o_pickF (v := .b false) (e := false) (by decide) rfl rfl rfl ?_
        refine o_assign (v := .b false) (by decide) rfl ?_
        refine run_nil ?_
        exact w_goto false (.k .nil) ⟨(hS.keep [] rfl).up (by omega), hM⟩
      ·replace hM := ifF hM hb12
       refine o_guardN (j := 18) (e := (r6.2 == 0)) (want := true) (by decide) rfl hb12 ?_
       refine o_guardN (j := 18) (e := (r6.2 == 0)) (want := true) (by decide) rfl hb12 ?_
       refine o_pickF (v := .b false) (e := (r6.2 == 0)) (by decide) rfl hb12 rfl ?_
       refine o_move (v := .b false) (by decide) rfl ?_
       refine o_guardN (j := 22) (e := false) (want := true) (by decide) rfl rfl ?_
       refine o_guardN (j := 22) (e := false) (want := true) (by decide) rfl rfl ?_
       refine o_guardN (j := 22) (e := false) (want := true) (by decide) rfl rfl ?_
       refine o_guardN (j := 22) (e := false) (want := true) (by decide) rfl rfl ?_
       refine o_pickF (v := .b false) (e := false) (by decide) rfl rfl rfl ?_
       refine o_move (v := .b false) (by decide) rfl ?_
       refine o_guardN (j := 28) (e := false) (want := true) (by decide) rfl rfl ?_
       refine o_guardN (j := 28) (e := false) (want := true) (by decide) rfl rfl ?_
       refine o_guardN (j := 28) (e := false) (want := true) (by decide) rfl rfl ?_
       refine o_pickF (v := .b false) (e := false) (by decide) rfl rfl rfl ?_
       refine o_move (v := .b false) (by decide) rfl ?_
       refine o_guardN (j := 33) (e := false) (want := true) (by decide) rfl rfl ?_
       refine o_guardN (j := 33) (e := false) (want := true) (by decide) rfl rfl ?_
       refine o_pickF (v := .b false) (e := false) (by decide) rfl rfl rfl ?_
       refine o_move (v := .b false) (by decide) rfl ?_
       refine o_guardN (j := 37) (e := false) (want := true) (by decide) rfl rfl ?_
       refine o_guardN (j := 37) (e := false) (want := true) (by decide) rfl rfl ?_
       refine o_pickF (v := .b false) (e := false) (by decide) rfl rfl rfl ?_
       refine o_move (v := .b false) (by decide) rfl ?_
       refine o_guardN (j := 41) (e := false) (want := true) (by decide) rfl rfl ?_
       refine o_guardN (j := 41) (e := false) (want := true) (by decide) rfl rfl ?_
       refine o_pickF (v := .b false) (e := false) (by decide) rfl rfl rfl ?_
       refine o_assign (v := .b false) (by decide) rfl ?_
       refine run_nil ?_
       exact w_goto false (.k .nil) ⟨(hS.keep [] rfl).up (by omega), hM⟩
     ·replace hM := ifF hM hb11
      refine o_guardN (j := 14) (e := (r5.2.2 == 0)) (want := true) (by decide) rfl hb11 ?_
      refine o_guardN (j := 14) (e := (r5.2.2 == 0)) (want := true) (by decide) rfl hb11 ?_
      refine o_pickF (v := .b false) (e := (r5.2.2 == 0)) (by decide) rfl hb11 rfl ?_
      refine o_move (v := .b false) (by decide) rfl ?_
      refine o_guardN (j := 18) (e := false) (want := true) (by decide) rfl rfl ?_
      refine o_guardN (j := 18) (e := false) (want := true) (by decide) rfl rfl ?_
      refine o_pickF (v := .b false) (e := false) (by decide) rfl rfl rfl ?_
      refine o_move (v := .b false) (by decide) rfl ?_
      refine o_guardN (j := 22) (e := false) (want := true) (by decide) rfl rfl ?_
      refine o_guardN (j := 22) (e := false) (want := true) (by decide) rfl rfl ?_
      refine o_guardN (j := 22) (e := false) (want := true) (by decide) rfl rfl ?_
      refine o_guardN (j := 22) (e := false) (want := true) (by decide) rfl rfl ?_
      refine o_pickF (v := .b false) (e := false) (by decide) rfl rfl rfl ?_
      refine o_move (v := .b false) (by decide) rfl ?_
      refine o_guardN (j := 28) (e := false) (want := true) (by decide) rfl rfl ?_
      refine o_guardN (j := 28) (e := false) (want := true) (by decide) rfl rfl ?_
      refine o_guardN (j := 28) (e := false) (want := true) (by decide) rfl rfl ?_
      refine o_pickF (v := .b false) (e := false) (by decide) rfl rfl rfl ?_
      refine o_move (v := .b false) (by decide) rfl ?_
      refine o_guardN (j := 33) (e := false) (want := true) (by decide) rfl rfl ?_
      refine o_guardN (j := 33) (e := false) (want := true) (by decide) rfl rfl ?_
      refine o_pickF (v := .b false) (e := false) (by decide) rfl rfl rfl ?_
      refine o_move (v := .b false) (by decide) rfl ?_
      refine o_guardN (j := 37) (e := false) (want := true) (by decide) rfl rfl ?_
      refine o_guardN (j := 37) (e := false) (want := true) (by decide) rfl rfl ?_
      refine o_pickF (v := .b false) (e := false) (by decide) rfl rfl rfl ?_
      refine o_move (v := .b false) (by decide) rfl ?_
      refine o_guardN (j := 41) (e := false) (want := true) (by decide) rfl rfl ?_
      refine o_guardN (j := 41) (e := false) (want := true) (by decide) rfl rfl ?_
      refine o_pickF (v := .b false) (e := false) (by decide) rfl rfl rfl ?_
      refine o_assign (v := .b false) (by decide) rfl ?_
      refine run_nil ?_
      exact w_goto false (.k .nil) ⟨(hS.keep [] rfl).up (by omega), hM⟩
    ·replace hM := ifF hM hb10
     refine o_guardN (j := 10) (e := (r4.2 == 0)) (want := true) (by decide) rfl hb10 ?_
     refine o_guardN (j := 10) (e := (r4.2 == 0)) (want := true) (by decide) rfl hb10 ?_
     refine o_pickF (v := .b false) (e := (r4.2 == 0)) (by decide) rfl hb10 rfl ?_
     refine o_move (v := .b false) (by decide) rfl ?_
     refine o_guardN (j := 14) (e := false) (want := true) (by decide) rfl rfl ?_
     refine o_guardN (j := 14) (e := false) (want := true) (by decide) rfl rfl ?_
     refine o_pickF (v := .b false) (e := false) (by decide) rfl rfl rfl ?_
     refine o_move (v := .b false) (by decide) rfl ?_
     refine o_guardN (j := 18) (e := false) (want := true) (by decide) rfl rfl ?_
     refine o_guardN (j := 18) (e := false) (want := true) (by decide) rfl rfl ?_
     refine o_pickF (v := .b false) (e := false) (by decide) rfl rfl rfl ?_
     refine o_move (v := .b false) (by decide) rfl ?_
     refine o_guardN (j := 22) (e := false) (want := true) (by decide) rfl rfl ?_
     refine o_guardN (j := 22) (e := false) (want := true) (by decide) rfl rfl ?_
     refine o_guardN (j := 22) (e := false) (want := true) (by decide) rfl rfl ?_
     refine o_guardN (j := 22) (e := false) (want := true) (by decide) rfl rfl ?_
     refine o_pickF (v := .b false) (e := false) (by decide) rfl rfl rfl ?_
     refine o_move (v := .b false) (by decide) rfl ?_
     refine o_guardN (j := 28) (e := false) (want := true) (by decide) rfl rfl ?_
     refine o_guardN (j := 28) (e := false) (want := true) (by decide) rfl rfl ?_
     refine o_guardN (j := 28) (e := false) (want := true) (by decide) rfl rfl ?_
     refine o_pickF (v := .b false) (e := false) (by decide) rfl rfl rfl ?_
     refine o_move (v := .b false) (by decide) rfl ?_
     refine o_guardN (j := 33) (e := false) (want := true) (by decide) rfl rfl ?_
     refine o_guardN (j := 33) (e := false) (want := true) (by decide) rfl rfl ?_
     refine o_pickF (v := .b false) (e := false) (by decide) rfl rfl rfl ?_
     refine o_move (v := .b false) (by decide) rfl ?_
     refine o_guardN (j := 37) (e := false) (want := true) (by decide) rfl rfl ?_
     refine o_guardN (j := 37) (e := false) (want := true) (by decide) rfl rfl ?_
     refine o_pickF (v := .b false) (e := false) (by decide) rfl rfl rfl ?_
     refine o_move (v := .b false) (by decide) rfl ?_
     refine o_guardN (j := 41) (e := false) (want := true) (by decide) rfl rfl ?_
     refine o_guardN (j := 41) (e := false) (want := true) (by decide) rfl rfl ?_
     refine o_pickF (v := .b false) (e := false) (by decide) rfl rfl rfl ?_
     refine o_assign (v := .b false) (by decide) rfl ?_
     refine run_nil ?_
     exact w_goto false (.k .nil) ⟨(hS.keep [] rfl).up (by omega), hM⟩
   ·replace hM := ifF hM hb9
    refine o_guardN (j := 6) (e := (r3.2 == 0)) (want := true) (by decide) rfl hb9 ?_
    refine o_guardN (j := 6) (e := (r3.2 == 0)) (want := true) (by decide) rfl hb9 ?_
    refine o_pickF (v := .b false) (e := (r3.2 == 0)) (by decide) rfl hb9 rfl ?_
    refine o_move (v := .b false) (by decide) rfl ?_
    refine o_guardN (j := 10) (e := false) (want := true) (by decide) rfl rfl ?_
    refine o_guardN (j := 10) (e := false) (want := true) (by decide) rfl rfl ?_
    refine o_pickF (v := .b false) (e := false) (by decide) rfl rfl rfl ?_
    refine o_move (v := .b false) (by decide) rfl ?_
    refine o_guardN (j := 14) (e := false) (want := true) (by decide) rfl rfl ?_
    refine o_guardN (j := 14) (e := false) (want := true) (by decide) rfl rfl ?_
    refine o_pickF (v := .b false) (e := false) (by decide) rfl rfl rfl ?_
    refine o_move (v := .b false) (by decide) rfl ?_
    refine o_guardN (j := 18) (e := false) (want := true) (by decide) rfl rfl ?_
    refine o_guardN (j := 18) (e := false) (want := true) (by decide) rfl rfl ?_
    refine o_pickF (v := .b false) (e := false) (by decide) rfl rfl rfl ?_
    refine o_move (v := .b false) (by decide) rfl ?_
    refine o_guardN (j := 22) (e := false) (want := true) (by decide) rfl rfl ?_
    refine o_guardN (j := 22) (e := false) (want := true) (by decide) rfl rfl ?_
    refine o_guardN (j := 22) (e := false) (want := true) (by decide) rfl rfl ?_
    refine o_guardN (j := 22) (e := false) (want := true) (by decide) rfl rfl ?_
    refine o_pickF (v := .b false) (e := false) (by decide) rfl rfl rfl ?_
    refine o_move (v := .b false) (by decide) rfl ?_
    refine o_guardN (j := 28) (e := false) (want := true) (by decide) rfl rfl ?_
    refine o_guardN (j := 28) (e := false) (want := true) (by decide) rfl rfl ?_
    refine o_guardN (j := 28) (e := false) (want := true) (by decide) rfl rfl ?_
    refine o_pickF (v := .b false) (e := false) (by decide) rfl rfl rfl ?_
    refine o_move (v := .b false) (by decide) rfl ?_
    refine o_guardN (j := 33) (e := false) (want := true) (by decide) rfl rfl ?_
    refine o_guardN (j := 33) (e := false) (want := true) (by decide) rfl rfl ?_
    refine o_pickF (v := .b false) (e := false) (by decide) rfl rfl rfl ?_
    refine o_move (v := .b false) (by decide) rfl ?_
    refine o_guardN (j := 37) (e := false) (want := true) (by decide) rfl rfl ?_
    refine o_guardN (j := 37) (e := false) (want := true) (by decide) rfl rfl ?_
    refine o_pickF (v := .b false) (e := false) (by decide) rfl rfl rfl ?_
    refine o_move (v := .b false) (by decide) rfl ?_
    refine o_guardN (j := 41) (e := false) (want := true) (by decide) rfl rfl ?_
    refine o_guardN (j := 41) (e := false) (want := true) (by decide) rfl rfl ?_
    refine o_pickF (v := .b false) (e := false) (by decide) rfl rfl rfl ?_
    refine o_assign (v := .b false) (by decide) rfl ?_
    refine run_nil ?_
    exact w_goto false (.k .nil) ⟨(hS.keep [] rfl).up (by omega), hM⟩
  ·replace hM := ifF hM hb8
   refine o_guardN (j := 2) (e := (r2.2 == 0)) (want := true) (by decide) rfl hb8 ?_
   refine o_guardN (j := 2) (e := (r2.2 == 0)) (want := true) (by decide) rfl hb8 ?_
   refine o_pickF (v := .b false) (e := (r2.2 == 0)) (by decide) rfl hb8 rfl ?_
   refine o_move (v := .b false) (by decide) rfl ?_
   refine o_guardN (j := 6) (e := false) (want := true) (by decide) rfl rfl ?_
   refine o_guardN (j := 6) (e := false) (want := true) (by decide) rfl rfl ?_
   refine o_pickF (v := .b false) (e := false) (by decide) rfl rfl rfl ?_
   refine o_move (v := .b false) (by decide) rfl ?_
   refine o_guardN (j := 10) (e := false) (want := true) (by decide) rfl rfl ?_
   refine o_guardN (j := 10) (e := false) (want := true) (by decide) rfl rfl ?_
   refine o_pickF (v := .b false) (e := false) (by decide) rfl rfl rfl ?_
   refine o_move (v := .b false) (by decide) rfl ?_
   refine o_guardN (j := 14) (e := false) (want := true) (by decide) rfl rfl ?_
   refine o_guardN (j := 14) (e := false) (want := true) (by decide) rfl rfl ?_
   refine o_pickF (v := .b false) (e := false) (by decide) rfl rfl rfl ?_
   refine o_move (v := .b false) (by decide) rfl ?_
   refine o_guardN (j := 18) (e := false) (want := true) (by decide) rfl rfl ?_
   refine o_guardN (j := 18) (e := false) (want := true) (by decide) rfl rfl ?_
   refine o_pickF (v := .b false) (e := false) (by decide) rfl rfl rfl ?_
   refine o_move (v := .b false) (by decide) rfl ?_
   refine o_guardN (j := 22) (e := false) (want := true) (by decide) rfl rfl ?_
   refine o_guardN (j := 22) (e := false) (want := true) (by decide) rfl rfl ?_
   refine o_guardN (j := 22) (e := false) (want := true) (by decide) rfl rfl ?_
   refine o_guardN (j := 22) (e := false) (want := true) (by decide) rfl rfl ?_
   refine o_pickF (v := .b false) (e := false) (by decide) rfl rfl rfl ?_
   refine o_move (v := .b false) (by decide) rfl ?_
   refine o_guardN (j := 28) (e := false) (want := true) (by decide) rfl rfl ?_
   refine o_guardN (j := 28) (e := false) (want := true) (by decide) rfl rfl ?_
   refine o_guardN (j := 28) (e := false) (want := true) (by decide) rfl rfl ?_
   refine o_pickF (v := .b false) (e := false) (by decide) rfl rfl rfl ?_
   refine o_move (v := .b false) (by decide) rfl ?_
   refine o_guardN (j := 33) (e := false) (want := true) (by decide) rfl rfl ?_
   refine o_guardN (j := 33) (e := false) (want := true) (by decide) rfl rfl ?_
   refine o_pickF (v := .b false) (e := false) (by decide) rfl rfl rfl ?_
   refine o_move (v := .b false) (by decide) rfl ?_
   refine o_guardN (j := 37) (e := false) (want := true) (by decide) rfl rfl ?_
   refine o_guardN (j := 37) (e := false) (want := true) (by decide) rfl rfl ?_
   refine o_pickF (v := .b false) (e := false) (by decide) rfl rfl rfl ?_
   refine o_move (v := .b false) (by decide) rfl ?_
   refine o_guardN (j := 41) (e := false) (want := true) (by decide) rfl rfl ?_
   refine o_guardN (j := 41) (e := false) (want := true) (by decide) rfl rfl ?_
   refine o_pickF (v := .b false) (e := false) (by decide) rfl rfl rfl ?_
   refine o_assign (v := .b false) (by decide) rfl ?_
   refine run_nil ?_
   exact w_goto false (.k .nil) ⟨(hS.keep [] rfl).up (by omega), hM⟩
theorem W_ref11_Copy {a0 : Wire} {r : Wire} (hM : ref11_Copy a0 = some r) : PureSat Try.prog 16 [.agg (Wire.cells a0)] (.agg [.i r.Letters, .i r.Numbers, .sl .no 3 (r.Presses.map WirePress.cells), .i r.Faults]) := by
 refine pure_of_wp mixed Try.func16 rfl (by decide) Try.ntmps16 (by simp) ?pure fun H0 g hf => ?_
 case pure => exact .agg _ (pl_cons (.v _) (pl_cons (.v _) (pl_cons (.sl _ _ (pures_map (fun x => (pl_cons (.v _) (pl_cons (.v _) (pl_cons (.v _) pl_nil)))))) (pl_cons (.v _) pl_nil))))
 rw [frame0_of]
 change wpA _ _ _ _ (Fr.of [(0, .agg (Wire.cells a0))]) H0 g
 have hS := St.start hf
 refine r_seq ?_
 refine r_region (n := 2) rfl ?_
 refine o_box (v := .agg (Wire.cells a0)) (cs := (Wire.cells a0)) hS (by decide) rfl rfl (by omega) fun H hS => ?_
 refine o_alloc hS (by decide) ty_zero24 (by omega) fun H hS => ?_
 refine run_nil ?_
 refine w_iceE (L' := [(g + 1, .cells [.i 0, .i 0, .sl .nil 0 [], .i 0])]) 1 1 hS rfl rfl rfl fun H hS => ?_
 refine w_next [(1, .ep (Wire.cells a0)), (2, .ptr (g + 1) 0)] (.k (.k .nil)) ?_
 refine r_seq ?_
 refine r_region (n := 3) rfl ?_
 refine o_loadE (v := .agg (Wire.cells a0)) (by decide) rfl (part_agg ty_agg24 (Nat.le_of_ble_eq_true rfl) rfl) ?_
 refine o_alloc hS (by decide) ty_zero24 (by omega) fun H hS => ?_
 refine o_store (v := .agg (Wire.cells a0)) (ns := (Wire.cells a0)) (L' := [(g + 2 + 1, .cells (Wire.cells a0)), (g + 1, .cells [.i 0, .i 0, .sl .nil 0 [], .i 0])]) 0 hS rfl rfl .no rfl rfl ty_var24 (Nat.le_of_ble_eq_true rfl) rfl fun H hS => ?_
 refine run_nil ?_
 refine w_next [(1, .ep (Wire.cells a0)), (2, .ptr (g + 1) 0), (3, .ptr (g + 2 + 1) 0)] (.k (.k (.k .nil))) ?_
 refine r_seq ?_
 refine r_region (n := 6) rfl ?_
 refine o_buildSlice (es := []) hS (by decide) ty_es22 ty_el22 rfl ty_ef22 rfl (by decide) (by omega) fun H hS => ?_
 refine o_fieldE (cs := (Wire.cells a0)) (by decide) ty_fo24_2 rfl ?_
 refine o_loadE (v := .sl .no 3 (a0.Presses.map WirePress.cells)) (by decide) rfl (part_one ty_agg22 ty_sc22 rfl) ?_
 obtain ⟨l1, hl1, hM⟩ := bindE hM
 refine o_appendB (xs := ([] : List WirePress)) (ys := a0.Presses) (zs := l1) (f := WirePress.cells) (L' := [(g + 2 + 3 + 0, .row 50 l1.length), (g + 2 + 1, .cells (Wire.cells a0)), (g + 1, .cells [.i 0, .i 0, .sl .nil 0 [], .i 0])]) 0 hS (by decide) rfl rfl rfl rfl .no ty_es22 ty_el22 ty_ef22 hl1 (by kernel_rfl) (by kernel_rfl) rfl fun H hS => ?_
 refine o_fieldP (by decide) ty_fo24_2 rfl ?_
 refine o_store (v := .sl (.id (g + 2 + 3 + 0)) 3 (l1.map WirePress.cells)) (ns := [.sl (.id (g + 2 + 3 + 0)) 3 (l1.map WirePress.cells)]) (L' := [(g + 2 + 3 + 0, .row 50 l1.length), (g + 2 + 1, .cells [.i a0.Letters, .i a0.Numbers, .sl (.id (g + 2 + 3 + 0)) 3 (l1.map WirePress.cells), .i a0.Faults]), (g + 1, .cells [.i 0, .i 0, .sl .nil 0 [], .i 0])]) 1 hS rfl rfl .no rfl rfl ty_var22 (Nat.le_of_ble_eq_true rfl) rfl fun H hS => ?_
 refine run_nil ?_
 refine w_next [(2, .ptr (g + 1) 0), (3, .ptr (g + 2 + 1) 0)] (.k (.k .nil)) ?_
 refine r_seq ?_
 refine r_region (n := 2) rfl ?_
 refine o_load (v := .agg [.i a0.Letters, .i a0.Numbers, .sl (.id (g + 2 + 3 + 0)) 3 (l1.map WirePress.cells), .i a0.Faults]) 1 hS (by decide) rfl rfl .no (part_agg ty_agg24 (Nat.le_of_ble_eq_true rfl) rfl) ?_
 refine o_store (v := .agg [.i a0.Letters, .i a0.Numbers, .sl (.id (g + 2 + 3 + 0)) 3 (l1.map WirePress.cells), .i a0.Faults]) (ns := [.i a0.Letters, .i a0.Numbers, .sl (.id (g + 2 + 3 + 0)) 3 (l1.map WirePress.cells), .i a0.Faults]) (L' := [(g + 2 + 3 + 0, .row 50 l1.length), (g + 2 + 1, .cells [.i a0.Letters, .i a0.Numbers, .sl (.id (g + 2 + 3 + 0)) 3 (l1.map WirePress.cells), .i a0.Faults]), (g + 1, .cells [.i a0.Letters, .i a0.Numbers, .sl (.id (g + 2 + 3 + 0)) 3 (l1.map WirePress.cells), .i a0.Faults])]) 2 hS rfl rfl .no rfl rfl ty_var24 (Nat.le_of_ble_eq_true rfl) rfl fun H hS => ?_
 refine run_nil ?_
 replace hS := hS.keep (L' := [(g + 2 + 3 + 0, .row 50 l1.length), (g + 1, .cells [.i a0.Letters, .i a0.Numbers, .sl (.id (g + 2 + 3 + 0)) 3 (l1.map WirePress.cells), .i a0.Faults])]) [true, false, true] rfl
 refine w_next [(2, .ptr (g + 1) 0)] (.k .nil) ?_
 refine r_ret ?_
 refine w_end (x := .agg [.i a0.Letters, .i a0.Numbers, .sl (.id (g + 2 + 3 + 0)) 3 (l1.map WirePress.cells), .i a0.Faults]) (f := fun r => .agg [.i r.Letters, .i r.Numbers, .sl .no 3 (r.Presses.map WirePress.cells), .i r.Faults]) (.inr rfl) ?_ (.aggL (.k (.k (.cons (.sl _ _ _) (.k .nil))))) (Option.some.inj hM) hS
 exact (res_one (res_cell (x := .agg [.i a0.Letters, .i a0.Numbers, .sl (.id (g + 2 + 3 + 0)) 3 (l1.map WirePress.cells), .i a0.Faults]) 1 hS rfl rfl (part_agg ty_agg24 (Nat.le_of_ble_eq_true rfl) rfl)))
theorem W_ref11_place {n : Nat} {a0 : List WireFault} {a1 : WireFault} {r : Int} (hM : ref11_place n a0 a1 = some r) : PureSat Try.prog 85 [.sl .no 3 (a0.map WireFault.cells), .agg (WireFault.cells a1)] (.i r) := by
 refine pure_of_wp mixed Try.func85 rfl (by decide) Try.ntmps85 (by simp) ?pure fun H0 g hf => ?_
 case pure => exact .v _
 rw [frame0_of]
 change wpA _ _ _ _ (Fr.of [(0, .sl .no 3 (a0.map WireFault.cells)), (1, .agg (WireFault.cells a1))]) H0 g
 have hS := St.start hf
 refine r_seq ?_
 refine r_region (n := 2) rfl ?_
 refine o_box (v := .agg (WireFault.cells a1)) (cs := (WireFault.cells a1)) hS (by decide) rfl rfl (by omega) fun H hS => ?_
 refine o_assign (v := .i 0) (by decide) rfl ?_
 refine run_nil ?_
 refine w_iceE (L' := []) 0 3 hS rfl rfl rfl fun H hS => ?_
 refine w_next [(0, .sl .no 3 (a0.map WireFault.cells)), (3, .ep (WireFault.cells a1))] (.k (.k .nil)) ?_
 refine w_join (J := Unit) (fun j => []) (fun j H' g' => St (· < g) H0 [] H' g' ∧ ref11_place_j1 = some r) ?_ ?_
 ·rintro _ H g1 ⟨hS, hM⟩
  change wpA _ _ _ _ (Fr.of []) _ _
  replace hS : St (· < g) H0 [] H g1 := hS
  replace hM : ref11_place_j1 = some r := hM
  refine r_seq ?_
  refine r_region (n := 1) rfl ?_
  refine o_assign (v := .i (-1)) (by decide) rfl ?_
  refine run_nil ?_
  refine w_next [(4, .i (-1))] (.k .nil) ?_
  refine r_ret ?_
  refine w_end (x := .i (-1)) (f := fun r => .i r) (.inr rfl) ?_ (.refl _) (Option.some.inj hM) hS
  exact (res_one (res_tmp (x := .i (-1)) rfl))
 ·refine r_seq ?_
  refine r_region (n := 1) rfl ?_
  refine o_assign (v := .i 0) (by decide) rfl ?_
  refine run_nil ?_
  refine w_next [(0, .sl .no 3 (a0.map WireFault.cells)), (3, .ep (WireFault.cells a1)), (5, .i 0)] (.k (.k (.k .nil))) ?_
  refine r_block ?_
  refine w_loop (V := Int) (fun v => [(0, .sl .no 3 (a0.map WireFault.cells)), (3, .ep (WireFault.cells a1)), (5, .i v)]) (fun v m2 H' g' => St (· < g) H0 [] H' g' ∧ ref11_place_l1 a0 a1 m2 v = some r) (n := n) 0 (.k (.k (.k .nil))) ⟨(hS.keep [] rfl).up (by omega), hM⟩ ?_
  rintro v1 m2 H g2 ⟨hS, hM⟩
  obtain _ | m2 := m2
  ·exact nomatch (show none = some _ from hM)
  change wpA _ _ _ _ (Fr.of [(0, .sl .no 3 (a0.map WireFault.cells)), (3, .ep (WireFault.cells a1)), (5, .i v1)]) _ _
  replace hS : St (· < g) H0 [] H g2 := hS
  replace hM : ref11_place_l1_b a0 a1 (ref11_place_l1 a0 a1 m2) v1 = some r := hM
  refine r_seq ?_
  refine r_seq ?_
  refine r_region (n := 4) rfl ?_
  refine o_move (v := .i v1) (by decide) rfl ?_
  refine o_move (v := .sl .no 3 (a0.map WireFault.cells)) (by decide) rfl ?_
  refine o_len (n := a0.length) (by decide) rfl (List.length_map _) ty_isl31 ?_
  refine o_int (v := .b (decide (v1 < (a0.length : Int)))) (by decide) rfl rfl rfl ?_
  refine run_nil ?_
  refine w_next [(0, .sl .no 3 (a0.map WireFault.cells)), (3, .ep (WireFault.cells a1)), (5, .i v1), (9, .b (decide (v1 < (a0.length : Int))))] (.k (.k (.k (.k .nil)))) ?_
  rcases Bool.eq_false_or_eq_true (decide (v1 < (a0.length : Int))) with hb2 | hb2
  ·replace hM := ifT hM hb2
   refine w_condT (e := (decide (v1 < (a0.length : Int)))) rfl hb2 ?_
   refine r_skip ?_
   refine w_next [(0, .sl .no 3 (a0.map WireFault.cells)), (3, .ep (WireFault.cells a1)), (5, .i v1)] (.k (.k (.k .nil))) ?_
   refine r_seq ?_
   refine r_block ?_
   refine r_seq ?_
   have hS0 := hS
   refine r_draw (n := 6) rfl (by kernel_rfl) ?_
   refine o_move (v := .sl .no 3 (a0.map WireFault.cells)) (by decide) rfl ?_
   refine o_move (v := .i v1) (by decide) rfl ?_
   obtain ⟨x3, hx3, hM⟩ := bindE hM
   refine o_index (xs := a0) (f := WireFault.cells) (z := v1) (u := x3) (by decide) rfl rfl ty_es31 hx3 ?_
   refine o_loadE (v := .agg (WireFault.cells x3)) (by decide) rfl (part_agg ty_agg63 (Nat.le_of_ble_eq_true rfl) rfl) ?_
   refine o_loadE (v := .agg (WireFault.cells a1)) (by decide) rfl (part_agg ty_agg63 (Nat.le_of_ble_eq_true rfl) rfl) ?_
   refine o_eqS (cs := (WireFault.cells x3)) (ds := (WireFault.cells a1)) (e := ((x3.Kind == a1.Kind) && ((x3.A == a1.A) && ((x3.B == a1.B) && true)))) (by decide) rfl rfl ty_flat63 rfl ?_
   refine run_nil ?_
   refine w_next [(0, .sl .no 3 (a0.map WireFault.cells)), (3, .ep (WireFault.cells a1)), (5, .i v1), (17, .b ((x3.Kind == a1.Kind) && ((x3.A == a1.A) && ((x3.B == a1.B) && true))))] (.k (.k (.k (.k .nil)))) ?_
   rcases Bool.eq_false_or_eq_true ((x3.Kind == a1.Kind) && ((x3.A == a1.A) && ((x3.B == a1.B) && true))) with hb4 | hb4
   ·replace hM := ifT hM hb4
    refine w_condT (e := ((x3.Kind == a1.Kind) && ((x3.A == a1.A) && ((x3.B == a1.B) && true)))) rfl hb4 ?_
    refine r_seq ?_
    refine r_region (n := 2) rfl ?_
    refine o_move (v := .i v1) (by decide) rfl ?_
    refine o_assign (v := .i v1) (by decide) rfl ?_
    refine run_nil ?_
    refine w_next [(4, .i v1)] (.k .nil) ?_
    refine r_ret ?_
    refine r_blk_ret ?_
    refine r_then_ret ?_
    refine w_round_ret ?_
    refine r_blk_ret ?_
    refine w_goto_ret ?_
    refine w_end (x := .i v1) (f := fun r => .i r) (.inr rfl) ?_ (.refl _) (Option.some.inj hM) hS
    exact (res_one (res_tmp (x := .i v1) rfl))
   ·replace hM := ifF hM hb4
    refine w_condF (e := ((x3.Kind == a1.Kind) && ((x3.A == a1.A) && ((x3.B == a1.B) && true)))) rfl hb4 ?_
    refine r_skip ?_
    refine r_blk_normal ?_
    refine w_next [(0, .sl .no 3 (a0.map WireFault.cells)), (3, .ep (WireFault.cells a1)), (5, .i v1)] (.k (.k (.k .nil))) ?_
    refine r_region (n := 3) rfl ?_
    refine o_move (v := .i v1) (by decide) rfl ?_
    refine o_int (v := .i (w64 (v1 + 1))) (by decide) rfl rfl rfl ?_
    refine o_assign (v := .i (w64 (v1 + 1))) (by decide) rfl ?_
    refine run_nil ?_
    exact w_round (w64 (v1 + 1)) (Nat.lt_succ_self _) (.k (.k (.k .nil))) ⟨(hS.keep [] rfl).up (by omega), hM⟩
  ·replace hM := ifF hM hb2
   refine w_condF (e := (decide (v1 < (a0.length : Int)))) rfl hb2 ?_
   refine r_exit ?_
   refine r_then_exit ?_
   refine w_round_exit ?_
   refine r_blk_exit ?_
   exact w_goto () .nil ⟨(hS.keep [] rfl).up (by omega), hM⟩
theorem W_ref11_Has {n : Nat} {a0 : List WireFault} {a1 : WireFault} {r : Bool} (hM : ref11_Has n a0 a1 = some r) : PureSat Try.prog 61 [.sl .no 3 (a0.map WireFault.cells), .agg (WireFault.cells a1)] (.b r) := by
 refine pure_of_wp mixed Try.func61 rfl (by decide) Try.ntmps61 (by simp) ?pure fun H0 g hf => ?_
 case pure => exact .v _
 rw [frame0_of]
 change wpA _ _ _ _ (Fr.of [(0, .sl .no 3 (a0.map WireFault.cells)), (1, .agg (WireFault.cells a1))]) H0 g
 have hS := St.start hf
 refine r_seq ?_
 refine r_region (n := 2) rfl ?_
 refine o_box (v := .agg (WireFault.cells a1)) (cs := (WireFault.cells a1)) hS (by decide) rfl rfl (by omega) fun H hS => ?_
 refine o_assign (v := .b false) (by decide) rfl ?_
 refine run_nil ?_
 refine w_iceE (L' := []) 0 3 hS rfl rfl rfl fun H hS => ?_
 refine w_next [(0, .sl .no 3 (a0.map WireFault.cells)), (3, .ep (WireFault.cells a1))] (.k (.k .nil)) ?_
 refine r_seq ?_
 refine r_region (n := 5) rfl ?_
 refine o_move (v := .sl .no 3 (a0.map WireFault.cells)) (by decide) rfl ?_
 refine o_loadE (v := .agg (WireFault.cells a1)) (by decide) rfl (part_agg ty_agg63 (Nat.le_of_ble_eq_true rfl) rfl) ?_
 obtain ⟨r1, hr1, hM⟩ := bindE hM
 refine o_call (bs := [.sl .no 3 (a0.map WireFault.cells), .agg (WireFault.cells a1)]) (by decide) rfl rfl ((W_ref11_place hr1).le (.k (.k .nil))) ?_
 refine o_int (v := .b (decide (r1 ≥ 0))) (by decide) rfl rfl rfl ?_
 refine o_assign (v := .b (decide (r1 ≥ 0))) (by decide) rfl ?_
 refine run_nil ?_
 refine w_next [(4, .b (decide (r1 ≥ 0)))] (.k .nil) ?_
 refine r_ret ?_
 refine w_end (x := .b (decide (r1 ≥ 0))) (f := fun r => .b r) (.inr rfl) ?_ (.refl _) (Option.some.inj hM) hS
 exact (res_one (res_tmp (x := .b (decide (r1 ≥ 0))) rfl))
theorem W_wires_Maybe_c1 {a0 : Int} {a1 : Int} {r : Bool} (hM : wires_Maybe_c1 a0 a1 = some r) : PureSat Try.prog 60 [.i a0, .i a1] (.b r) := by
 refine pure_of_wp mixed Try.func60 rfl (by decide) Try.ntmps60 (by simp) ?pure fun H0 g hf => ?_
 case pure => exact .v _
 rw [frame0_of]
 change wpA _ _ _ _ (Fr.of [(0, .i a0), (1, .i a1)]) H0 g
 have hS := St.start hf
 refine r_seq ?_
 refine r_region (n := 1) rfl ?_
 refine o_assign (v := .b false) (by decide) rfl ?_
 refine run_nil ?_
 refine w_next [(0, .i a0)] (.k .nil) ?_
 refine r_seq ?_
 refine r_region (n := 3) rfl ?_
 refine o_move (v := .i a0) (by decide) rfl ?_
 refine o_int (v := .b (decide (a0 > 0))) (by decide) rfl rfl rfl ?_
 refine o_assign (v := .b (decide (a0 > 0))) (by decide) rfl ?_
 refine run_nil ?_
 refine w_next [(4, .b (decide (a0 > 0)))] (.k .nil) ?_
 refine r_ret ?_
 refine w_end (x := .b (decide (a0 > 0))) (f := fun r => .b r) (.inr rfl) ?_ (.refl _) (Option.some.inj hM) hS
 exact (res_one (res_tmp (x := .b (decide (a0 > 0))) rfl))
theorem W_wires_Maybe {n : Nat} {a0 : Wire} {r : (List WireFault) × Int} (hM : wires_Maybe n a0 = some r) : PureSat Try.prog 21 [.agg (Wire.cells a0)] (.tup [.sl .no 3 (r.1.map WireFault.cells), .i r.2]) := by
 refine pure_of_wp mixed Try.func21 rfl (by decide) Try.ntmps21 (by simp) ?pure fun H0 g hf => ?_
 case pure => exact .tup _ (pl_cons (.sl _ _ (pures_map (fun x => (pl_cons (.v _) (pl_cons (.v _) (pl_cons (.v _) pl_nil)))))) (pl_cons (.v _) pl_nil))
 rw [frame0_of]
 change wpA _ _ _ _ (Fr.of [(0, .agg (Wire.cells a0))]) H0 g
 have hS := St.start hf
 refine r_seq ?_
 refine r_region (n := 3) rfl ?_
 refine o_box (v := .agg (Wire.cells a0)) (cs := (Wire.cells a0)) hS (by decide) rfl rfl (by omega) fun H hS => ?_
 refine o_assign (v := .sl .nil 0 []) (by decide) rfl ?_
 refine o_assign (v := .i 0) (by decide) rfl ?_
 refine run_nil ?_
 refine w_iceE (L' := []) 0 1 hS rfl rfl rfl fun H hS => ?_
 refine w_next [(1, .ep (Wire.cells a0))] (.k .nil) ?_
 refine r_seq ?_
 refine r_region (n := 6) rfl ?_
 refine o_loadE (v := .agg (Wire.cells a0)) (by decide) rfl (part_agg ty_agg24 (Nat.le_of_ble_eq_true rfl) rfl) ?_
 obtain ⟨r1, hr1, hM⟩ := bindE hM
 refine o_call (bs := [.agg (Wire.cells a0), .fn (.func 60) [] []]) (by decide) rfl rfl (pure_of_hsat ((W_wires_faults (Lo := (fun (_ : Unit) => []))  (fun _ _ => kl_nil) (fun _ => List.nodup_nil) (fun _ => inb_nil) (aF := (fun (x0 : Int) (x1 : Int) (_ : Unit) => (wires_Maybe_c1 x0 x1).map fun y => (y, ()))) (fun _ H hH => (.fn _ _ _ ai_nil ai_nil)) rfl (fun h => csat_val (W_wires_Maybe_c1 (pure_some h))) hr1).le (.k (.k .nil)))) ?_
 refine o_extract (v := .sl .no 3 (r1.1.1.map WireFault.cells)) (by decide) rfl rfl ?_
 refine o_extract (v := .i r1.1.2) (by decide) rfl rfl ?_
 refine o_assign (v := .sl .no 3 (r1.1.1.map WireFault.cells)) (by decide) rfl ?_
 refine o_assign (v := .i r1.1.2) (by decide) rfl ?_
 refine run_nil ?_
 refine w_next [(2, .sl .no 3 (r1.1.1.map WireFault.cells)), (3, .i r1.1.2)] (.k (.k .nil)) ?_
 refine r_ret ?_
 refine w_end (x := .tup [.sl .no 3 (r1.1.1.map WireFault.cells), .i r1.1.2]) (f := fun r => .tup [.sl .no 3 (r.1.map WireFault.cells), .i r.2]) (.inr rfl) ?_ (.refl _) (Option.some.inj hM) hS
 exact (res_two (res_tmp (x := .sl .no 3 (r1.1.1.map WireFault.cells)) rfl) (res_tmp (x := .i r1.1.2) rfl))
theorem W_law11_ready {n : Nat} {a0 : Wire} {r : Bool} (hM : law11_ready n a0 = some r) : PureSat Try.prog 25 [.agg (Wire.cells a0)] (.b r) := by
 refine pure_of_wp mixed Try.func25 rfl (by decide) Try.ntmps25 (by simp) ?pure fun H0 g hf => ?_
 case pure => exact .v _
 rw [frame0_of]
 change wpA _ _ _ _ (Fr.of [(0, .agg (Wire.cells a0))]) H0 g
 have hS := St.start hf
 refine r_seq ?_
 refine r_region (n := 2) rfl ?_
 refine o_box (v := .agg (Wire.cells a0)) (cs := (Wire.cells a0)) hS (by decide) rfl rfl (by omega) fun H hS => ?_
 refine o_assign (v := .b false) (by decide) rfl ?_
 refine run_nil ?_
 refine w_iceE (L' := []) 0 1 hS rfl rfl rfl fun H hS => ?_
 refine w_next [(1, .ep (Wire.cells a0))] (.k .nil) ?_
 refine w_join (J := Bool) (fun j => [(2, .b j)]) (fun j H' g' => St (· < g) H0 [] H' g' ∧ law11_ready_j1 j = some r) ?_ ?_
 ·rintro v1 H g1 ⟨hS, hM⟩
  change wpA _ _ _ _ (Fr.of [(2, .b v1)]) _ _
  replace hS : St (· < g) H0 [] H g1 := hS
  replace hM : law11_ready_j1 v1 = some r := hM
  refine r_ret ?_
  refine w_end (x := .b v1) (f := fun r => .b r) (.inr rfl) ?_ (.refl _) (Option.some.inj hM) hS
  exact (res_one (res_tmp (x := .b v1) rfl))
 ·refine r_region (n := 9) rfl ?_
  refine o_loadE (v := .agg (Wire.cells a0)) (by decide) rfl (part_agg ty_agg24 (Nat.le_of_ble_eq_true rfl) rfl) ?_
  obtain ⟨r2, hr2, hM⟩ := bindE hM
  refine o_call (bs := [.agg (Wire.cells a0)]) (by decide) rfl rfl ((W_law11_Far hr2).le (.k .nil)) ?_
  refine o_not (e := r2) (by decide) rfl ?_
  refine o_move (v := .b (!r2)) (by decide) rfl ?_
  rcases Bool.eq_false_or_eq_true (!r2) with hb3 | hb3
  ·replace hM := ifT hM hb3
   refine o_guardY (j := 3) (e := (!r2)) (want := true) rfl hb3 ?_
   refine o_loadE (v := .agg (Wire.cells a0)) (by decide) rfl (part_agg ty_agg24 (Nat.le_of_ble_eq_true rfl) rfl) ?_
   refine o_guardY (j := 3) (e := (!r2)) (want := true) rfl hb3 ?_
   obtain ⟨r4, hr4, hM⟩ := bindE hM
   refine o_call (bs := [.agg (Wire.cells a0)]) (by decide) rfl rfl ((W_ref11_Check hr4).le (.k .nil)) ?_
   refine o_guardY (j := 3) (e := (!r2)) (want := true) rfl hb3 ?_
   refine o_int (v := .b (r4 == 0)) (by decide) rfl rfl rfl ?_
   refine o_pickT (v := .b (r4 == 0)) (e := (!r2)) (by decide) rfl hb3 rfl ?_
   refine o_assign (v := .b (r4 == 0)) (by decide) rfl ?_
   refine run_nil ?_
   exact w_goto (r4 == 0) (.k .nil) ⟨(hS.keep [] rfl).up (by omega), hM⟩
  ·replace hM := ifF hM hb3
   refine o_guardN (j := 3) (e := (!r2)) (want := true) (by decide) rfl hb3 ?_
   refine o_guardN (j := 3) (e := (!r2)) (want := true) (by decide) rfl hb3 ?_
   refine o_guardN (j := 3) (e := (!r2)) (want := true) (by decide) rfl hb3 ?_
   refine o_pickF (v := .b false) (e := (!r2)) (by decide) rfl hb3 rfl ?_
   refine o_assign (v := .b false) (by decide) rfl ?_
   refine run_nil ?_
   exact w_goto false (.k .nil) ⟨(hS.keep [] rfl).up (by omega), hM⟩
theorem W_law11_isKnown {a0 : Int} {r : Bool} (hM : law11_isKnown a0 = some r) : PureSat Try.prog 26 [.i a0] (.b r) := by
 refine pure_of_wp mixed Try.func26 rfl (by decide) Try.ntmps26 (by simp) ?pure fun H0 g hf => ?_
 case pure => exact .v _
 rw [frame0_of]
 change wpA _ _ _ _ (Fr.of [(0, .i a0)]) H0 g
 have hS := St.start hf
 refine r_seq ?_
 refine r_region (n := 1) rfl ?_
 refine o_assign (v := .b false) (by decide) rfl ?_
 refine run_nil ?_
 refine w_next [(0, .i a0)] (.k .nil) ?_
 refine w_join (J := Bool) (fun j => [(2, .b j)]) (fun j H' g' => St (· < g) H0 [] H' g' ∧ law11_isKnown_j1 j = some r) ?_ ?_
 ·rintro v1 H g1 ⟨hS, hM⟩
  change wpA _ _ _ _ (Fr.of [(2, .b v1)]) _ _
  replace hS : St (· < g) H0 [] H g1 := hS
  replace hM : law11_isKnown_j1 v1 = some r := hM
  refine r_ret ?_
  refine w_end (x := .b v1) (f := fun r => .b r) (.inr rfl) ?_ (.refl _) (Option.some.inj hM) hS
  exact (res_one (res_tmp (x := .b v1) rfl))
 ·refine r_region (n := 7) rfl ?_
  refine o_move (v := .i a0) (by decide) rfl ?_
  refine o_int (v := .b (a0 == 0)) (by decide) rfl rfl rfl ?_
  refine o_move (v := .b (a0 == 0)) (by decide) rfl ?_
  rcases Bool.eq_false_or_eq_true (a0 == 0) with hb2 | hb2
  ·replace hM := ifT hM hb2
   refine o_guardN (j := 2) (e := (a0 == 0)) (want := false) (by decide) rfl hb2 ?_
   refine o_guardN (j := 2) (e := (a0 == 0)) (want := false) (by decide) rfl hb2 ?_
   refine o_pickT (v := .b true) (e := (a0 == 0)) (by decide) rfl hb2 rfl ?_
   refine o_assign (v := .b true) (by decide) rfl ?_
   refine run_nil ?_
   exact w_goto true (.k .nil) ⟨(hS.keep [] rfl).up (by omega), hM⟩
  ·replace hM := ifF hM hb2
   refine o_guardY (j := 2) (e := (a0 == 0)) (want := false) rfl hb2 ?_
   refine o_move (v := .i a0) (by decide) rfl ?_
   refine o_guardY (j := 2) (e := (a0 == 0)) (want := false) rfl hb2 ?_
   refine o_int (v := .b (a0 == 3)) (by decide) rfl rfl rfl ?_
   refine o_pickF (v := .b (a0 == 3)) (e := (a0 == 0)) (by decide) rfl hb2 rfl ?_
   refine o_assign (v := .b (a0 == 3)) (by decide) rfl ?_
   refine run_nil ?_
   exact w_goto (a0 == 3) (.k .nil) ⟨(hS.keep [] rfl).up (by omega), hM⟩
theorem W_law11_areIn {n : Nat} {a0 : List WireFault} {a1 : List WireFault} {r : Bool} (hM : law11_areIn n a0 a1 = some r) : PureSat Try.prog 27 [.sl .no 3 (a0.map WireFault.cells), .sl .no 3 (a1.map WireFault.cells)] (.b r) := by
 refine pure_of_wp mixed Try.func27 rfl (by decide) Try.ntmps27 (by simp) ?pure fun H0 g hf => ?_
 case pure => exact .v _
 rw [frame0_of]
 change wpA _ _ _ _ (Fr.of [(0, .sl .no 3 (a0.map WireFault.cells)), (1, .sl .no 3 (a1.map WireFault.cells))]) H0 g
 have hS := St.start hf
 refine r_seq ?_
 refine r_region (n := 1) rfl ?_
 refine o_assign (v := .b false) (by decide) rfl ?_
 refine run_nil ?_
 refine w_next [(0, .sl .no 3 (a0.map WireFault.cells)), (1, .sl .no 3 (a1.map WireFault.cells))] (.k (.k .nil)) ?_
 refine r_seq ?_
 refine w_join (J := Bool) (fun j => [(0, .sl .no 3 (a0.map WireFault.cells)), (1, .sl .no 3 (a1.map WireFault.cells)), (13, .b j)]) (fun j H' g' => St (· < g) H0 [] H' g' ∧ law11_areIn_j1 n a0 a1 j = some r) ?_ ?_
 ·rintro v1 H g1 ⟨hS, hM⟩
  change wpA _ _ _ _ (Fr.of [(0, .sl .no 3 (a0.map WireFault.cells)), (1, .sl .no 3 (a1.map WireFault.cells)), (13, .b v1)]) _ _
  replace hS : St (· < g) H0 [] H g1 := hS
  replace hM : law11_areIn_j1 n a0 a1 v1 = some r := hM
  rcases Bool.eq_false_or_eq_true v1 with hb2 | hb2
  ·replace hM := ifT hM hb2
   refine w_condT (e := v1) rfl hb2 ?_
   refine r_seq ?_
   refine r_region (n := 1) rfl ?_
   refine o_assign (v := .b false) (by decide) rfl ?_
   refine run_nil ?_
   refine w_next [(4, .b false)] (.k .nil) ?_
   refine r_ret ?_
   refine r_then_ret ?_
   refine w_end (x := .b false) (f := fun r => .b r) (.inr rfl) ?_ (.refl _) (Option.some.inj hM) hS
   exact (res_one (res_tmp (x := .b false) rfl))
  ·replace hM := ifF hM hb2
   refine w_condF (e := v1) rfl hb2 ?_
   refine r_skip ?_
   refine w_next [(0, .sl .no 3 (a0.map WireFault.cells)), (1, .sl .no 3 (a1.map WireFault.cells))] (.k (.k .nil)) ?_
   refine w_join (J := Unit) (fun j => []) (fun j H' g' => St (· < g) H0 [] H' g' ∧ law11_areIn_j2 = some r) ?_ ?_
   ·rintro _ H g2 ⟨hS, hM⟩
    change wpA _ _ _ _ (Fr.of []) _ _
    replace hS : St (· < g) H0 [] H g2 := hS
    replace hM : law11_areIn_j2 = some r := hM
    refine r_seq ?_
    refine r_region (n := 1) rfl ?_
    refine o_assign (v := .b true) (by decide) rfl ?_
    refine run_nil ?_
    refine w_next [(4, .b true)] (.k .nil) ?_
    refine r_ret ?_
    refine w_end (x := .b true) (f := fun r => .b r) (.inr rfl) ?_ (.refl _) (Option.some.inj hM) hS
    exact (res_one (res_tmp (x := .b true) rfl))
   ·refine r_seq ?_
    refine r_region (n := 1) rfl ?_
    refine o_assign (v := .i 0) (by decide) rfl ?_
    refine run_nil ?_
    refine w_next [(0, .sl .no 3 (a0.map WireFault.cells)), (1, .sl .no 3 (a1.map WireFault.cells)), (5, .i 0)] (.k (.k (.k .nil))) ?_
    refine r_block ?_
    refine w_loop (V := Int) (fun v => [(0, .sl .no 3 (a0.map WireFault.cells)), (1, .sl .no 3 (a1.map WireFault.cells)), (5, .i v)]) (fun v m3 H' g' => St (· < g) H0 [] H' g' ∧ law11_areIn_l1 n a0 a1 m3 v = some r) (n := n) 0 (.k (.k (.k .nil))) ⟨(hS.keep [] rfl).up (by omega), hM⟩ ?_
    rintro v3 m3 H g3 ⟨hS, hM⟩
    obtain _ | m3 := m3
    ·exact nomatch (show none = some _ from hM)
    change wpA _ _ _ _ (Fr.of [(0, .sl .no 3 (a0.map WireFault.cells)), (1, .sl .no 3 (a1.map WireFault.cells)), (5, .i v3)]) _ _
    replace hS : St (· < g) H0 [] H g3 := hS
    replace hM : law11_areIn_l1_b n a0 a1 (law11_areIn_l1 n a0 a1 m3) v3 = some r := hM
    refine r_seq ?_
    refine r_seq ?_
    refine r_region (n := 4) rfl ?_
    refine o_move (v := .i v3) (by decide) rfl ?_
    refine o_move (v := .sl .no 3 (a0.map WireFault.cells)) (by decide) rfl ?_
    refine o_len (n := a0.length) (by decide) rfl (List.length_map _) ty_isl31 ?_
    refine o_int (v := .b (decide (v3 < (a0.length : Int)))) (by decide) rfl rfl rfl ?_
    refine run_nil ?_
    refine w_next [(0, .sl .no 3 (a0.map WireFault.cells)), (1, .sl .no 3 (a1.map WireFault.cells)), (5, .i v3), (17, .b (decide (v3 < (a0.length : Int))))] (.k (.k (.k (.k .nil)))) ?_
    rcases Bool.eq_false_or_eq_true (decide (v3 < (a0.length : Int))) with hb4 | hb4
    ·replace hM := ifT hM hb4
     refine w_condT (e := (decide (v3 < (a0.length : Int)))) rfl hb4 ?_
     refine r_skip ?_
     refine w_next [(0, .sl .no 3 (a0.map WireFault.cells)), (1, .sl .no 3 (a1.map WireFault.cells)), (5, .i v3)] (.k (.k (.k .nil))) ?_
     refine r_seq ?_
     refine r_block ?_
     refine r_seq ?_
     refine r_region (n := 7) rfl ?_
     refine o_move (v := .sl .no 3 (a1.map WireFault.cells)) (by decide) rfl ?_
     refine o_move (v := .sl .no 3 (a0.map WireFault.cells)) (by decide) rfl ?_
     refine o_move (v := .i v3) (by decide) rfl ?_
     obtain ⟨x5, hx5, hM⟩ := bindE hM
     refine o_index (xs := a0) (f := WireFault.cells) (z := v3) (u := x5) (by decide) rfl rfl ty_es31 hx5 ?_
     refine o_loadE (v := .agg (WireFault.cells x5)) (by decide) rfl (part_agg ty_agg63 (Nat.le_of_ble_eq_true rfl) rfl) ?_
     obtain ⟨r6, hr6, hM⟩ := bindE hM
     refine o_call (bs := [.sl .no 3 (a1.map WireFault.cells), .agg (WireFault.cells x5)]) (by decide) rfl rfl ((W_ref11_Has hr6).le (.k (.k .nil))) ?_
     refine o_not (e := r6) (by decide) rfl ?_
     refine run_nil ?_
     refine w_next [(0, .sl .no 3 (a0.map WireFault.cells)), (1, .sl .no 3 (a1.map WireFault.cells)), (5, .i v3), (26, .b (!r6))] (.k (.k (.k (.k .nil)))) ?_
     rcases Bool.eq_false_or_eq_true (!r6) with hb7 | hb7
     ·replace hM := ifT hM hb7
      refine w_condT (e := (!r6)) rfl hb7 ?_
      refine r_seq ?_
      refine r_region (n := 1) rfl ?_
      refine o_assign (v := .b false) (by decide) rfl ?_
      refine run_nil ?_
      refine w_next [(4, .b false)] (.k .nil) ?_
      refine r_ret ?_
      refine r_blk_ret ?_
      refine r_then_ret ?_
      refine w_round_ret ?_
      refine r_blk_ret ?_
      refine w_goto_ret ?_
      refine w_end (x := .b false) (f := fun r => .b r) (.inr rfl) ?_ (.refl _) (Option.some.inj hM) hS
      exact (res_one (res_tmp (x := .b false) rfl))
     ·replace hM := ifF hM hb7
      refine w_condF (e := (!r6)) rfl hb7 ?_
      refine r_skip ?_
      refine r_blk_normal ?_
      refine w_next [(0, .sl .no 3 (a0.map WireFault.cells)), (1, .sl .no 3 (a1.map WireFault.cells)), (5, .i v3)] (.k (.k (.k .nil))) ?_
      refine r_region (n := 3) rfl ?_
      refine o_move (v := .i v3) (by decide) rfl ?_
      refine o_int (v := .i (w64 (v3 + 1))) (by decide) rfl rfl rfl ?_
      refine o_assign (v := .i (w64 (v3 + 1))) (by decide) rfl ?_
      refine run_nil ?_
      exact w_round (w64 (v3 + 1)) (Nat.lt_succ_self _) (.k (.k (.k .nil))) ⟨(hS.keep [] rfl).up (by omega), hM⟩
    ·replace hM := ifF hM hb4
     refine w_condF (e := (decide (v3 < (a0.length : Int)))) rfl hb4 ?_
     refine r_exit ?_
     refine r_then_exit ?_
     refine w_round_exit ?_
     refine r_blk_exit ?_
     exact w_goto () .nil ⟨(hS.keep [] rfl).up (by omega), hM⟩
 ·refine r_region (n := 8) rfl ?_
  refine o_move (v := .sl .no 3 (a0.map WireFault.cells)) (by decide) rfl ?_
  refine o_len (n := a0.length) (by decide) rfl (List.length_map _) ty_isl31 ?_
  refine o_int (v := .b (decide ((a0.length : Int) > 40))) (by decide) rfl rfl rfl ?_
  refine o_move (v := .b (decide ((a0.length : Int) > 40))) (by decide) rfl ?_
  rcases Bool.eq_false_or_eq_true (decide ((a0.length : Int) > 40)) with hb8 | hb8
  ·replace hM := ifT hM hb8
   refine o_guardN (j := 3) (e := (decide ((a0.length : Int) > 40))) (want := false) (by decide) rfl hb8 ?_
   refine o_guardN (j := 3) (e := (decide ((a0.length : Int) > 40))) (want := false) (by decide) rfl hb8 ?_
   refine o_guardN (j := 3) (e := (decide ((a0.length : Int) > 40))) (want := false) (by decide) rfl hb8 ?_
   refine o_pickT (v := .b true) (e := (decide ((a0.length : Int) > 40))) (by decide) rfl hb8 rfl ?_
   refine run_nil ?_
   exact w_goto true (.k (.k (.k .nil))) ⟨(hS.keep [] rfl).up (by omega), hM⟩
  ·replace hM := ifF hM hb8
   refine o_guardY (j := 3) (e := (decide ((a0.length : Int) > 40))) (want := false) rfl hb8 ?_
   refine o_move (v := .sl .no 3 (a1.map WireFault.cells)) (by decide) rfl ?_
   refine o_guardY (j := 3) (e := (decide ((a0.length : Int) > 40))) (want := false) rfl hb8 ?_
   refine o_len (n := a1.length) (by decide) rfl (List.length_map _) ty_isl31 ?_
   refine o_guardY (j := 3) (e := (decide ((a0.length : Int) > 40))) (want := false) rfl hb8 ?_
   refine o_int (v := .b (decide ((a1.length : Int) > 40))) (by decide) rfl rfl rfl ?_
   refine o_pickF (v := .b (decide ((a1.length : Int) > 40))) (e := (decide ((a0.length : Int) > 40))) (by decide) rfl hb8 rfl ?_
   refine run_nil ?_
   exact w_goto (decide ((a1.length : Int) > 40)) (.k (.k (.k .nil))) ⟨(hS.keep [] rfl).up (by omega), hM⟩
end Go.Proofs.Ytneghcnkcfblmaa
