/-
  The code returns what the functions say (printed by gen.py).
  Conditions: none.
-/
import Derived.Test.YtapcibbbmeomkaaWkCoinsSeen1
import Derived.Test.YtapcibbbmeomkaaSh
set_option linter.all false
namespace Go.Proofs.Ytapcibbbmeomkaa
open Go Go.AM Go.Law
set_option linter.unusedVariables false
set_option maxRecDepth 4000
set_option maxHeartbeats 4000000
theorem W_coins_search_buys_c1 {p1 p2 p3 : Nat} (hnd : [p1, p2, p3].Nodup) {rec : (Wheel_ × Bool) → Spot_ → (List (Spot_ × Int)) → Option (Int × (List (Spot_ × Int)))} (hrec : ∀ {a0 : Wheel_ × Bool} {a1 : Spot_} {st : List (Spot_ × Int)} {r : Int × (List (Spot_ × Int))}, rec a0 a1 st = some r → HSat Try.prog 66 [.ep [.i a0.1.Wheel.Round, .sl .no 1 (a0.1.Wheel.Notches.map cI), .sl .no 1 (a0.1.Wheel.Coins.map cI), fnB a0.2, .mp p3], .agg [.i a1.left.c0, .i a1.left.c1, .i a1.left.c2, .i a1.left.c3, .i a1.place, .i a1.credit]] [(p3, .obj none (mapIs (mpv kvSpot_ st)))] (.i r.1) [(p3, .obj none (mapIs (mpv kvSpot_ r.2)))]) {a0 : List Int} {a1 : Spot_} {a2 : Int} {a3 : Wheel_ × Bool} {st : Bool × Int × (List (Spot_ × Int))} {r : Bool × (Bool × Int × (List (Spot_ × Int)))} (hM : coins_search_buys_c1 rec a0 a1 a2 a3 st = some r) : HSat Try.prog 98 [.sl .no 1 (a0.map cI), .agg [.i a1.left.c0, .i a1.left.c1, .i a1.left.c2, .i a1.left.c3, .i a1.place, .i a1.credit], .i a2, .ep [.ep [.i a3.1.Wheel.Round, .sl .no 1 (a3.1.Wheel.Notches.map cI), .sl .no 1 (a3.1.Wheel.Coins.map cI), fnB a3.2, .mp p3]], .ptr p1 0, .ptr p2 0] [(p1, .cells [.b st.1]), (p2, .cells [.i st.2.1]), (p3, .obj none (mapIs (mpv kvSpot_ st.2.2)))] (.b r.1) [(p1, .cells [.b r.2.1]), (p2, .cells [.i r.2.2.1]), (p3, .obj none (mapIs (mpv kvSpot_ r.2.2.2)))] := by
 refine hsat_of_wp mixed Try.func98 rfl (by decide) Try.ntmps98 (by simp) (kl_cells (kl_cells (kl_obj kl_nil))) hnd ?pure ?cells fun H0 g hf_ hp => ?_
 case pure => exact fun H _ => (show Go.AM.Pure _ from .v _).inH
 case cells => exact (inb_st (ic_cells (ci_cons (.inl (.inl (.v _))) ci_nil) (ic_cells (ci_cons (.inl (.inl (.v _))) ci_nil) (ic_obj ic_nil))) inb_nil)
 rw [frame0_of]
 change wpA _ _ _ _ (Fr.of [(0, .sl .no 1 (a0.map cI)), (1, .agg [.i a1.left.c0, .i a1.left.c1, .i a1.left.c2, .i a1.left.c3, .i a1.place, .i a1.credit]), (2, .i a2), (3, .ep [.ep [.i a3.1.Wheel.Round, .sl .no 1 (a3.1.Wheel.Notches.map cI), .sl .no 1 (a3.1.Wheel.Coins.map cI), fnB a3.2, .mp p3]]), (4, .ptr p1 0), (5, .ptr p2 0)]) H0 g
 have hS := St.startH (L := [(p1, .cells [.b st.1]), (p2, .cells [.i st.2.1]), (p3, .obj none (mapIs (mpv kvSpot_ st.2.2)))]) hf_ hnd hp
 replace hS : St (fun i => i < g ∧ i ∉ ids [(p1, .cells [.b st.1]), (p2, .cells [.i st.2.1]), (p3, .obj none (mapIs (mpv kvSpot_ st.2.2)))]) H0 [(p1, .cells [.b st.1]), (p2, .cells [.i st.2.1]), (p3, .obj none (mapIs (mpv kvSpot_ st.2.2)))] H0 g := hS
 refine r_seq ?_
 refine r_region (n := 2) rfl ?_
 refine o_box (v := .agg [.i a1.left.c0, .i a1.left.c1, .i a1.left.c2, .i a1.left.c3, .i a1.place, .i a1.credit]) (cs := [.i a1.left.c0, .i a1.left.c1, .i a1.left.c2, .i a1.left.c3, .i a1.place, .i a1.credit]) hS (by decide) rfl rfl (by omega) fun H hS => ?_
 refine o_assign (v := .b false) (by decide) rfl ?_
 refine run_nil ?_
 refine w_iceE (L' := [(p1, .cells [.b st.1]), (p2, .cells [.i st.2.1]), (p3, .obj none (mapIs (mpv kvSpot_ st.2.2)))]) 0 7 hS rfl rfl rfl fun H hS => ?_
 refine w_next [(2, .i a2), (3, .ep [.ep [.i a3.1.Wheel.Round, .sl .no 1 (a3.1.Wheel.Notches.map cI), .sl .no 1 (a3.1.Wheel.Coins.map cI), fnB a3.2, .mp p3]]), (4, .ptr p1 0), (5, .ptr p2 0), (7, .ep [.i a1.left.c0, .i a1.left.c1, .i a1.left.c2, .i a1.left.c3, .i a1.place, .i a1.credit])] (.k (.k (.k (.k (.k .nil))))) ?_
 refine w_join (J := Bool × Int × (List (Spot_ × Int))) (fun j => []) (fun j H' g' => St (fun i => i < g ∧ i ∉ ids [(p1, .cells [.b st.1]), (p2, .cells [.i st.2.1]), (p3, .obj none (mapIs (mpv kvSpot_ st.2.2)))]) H0 [(p1, .cells [.b j.1]), (p2, .cells [.i j.2.1]), (p3, .obj none (mapIs (mpv kvSpot_ j.2.2)))] H' g' ∧ coins_search_buys_c1_j1 j.1 j.2.1 j.2.2 = some r) ?_ ?_
 ·rintro ⟨v1, v2, v3⟩ H g1 ⟨hS, hM⟩
  change wpA _ _ _ _ (Fr.of []) _ _
  replace hS : St (fun i => i < g ∧ i ∉ ids [(p1, .cells [.b st.1]), (p2, .cells [.i st.2.1]), (p3, .obj none (mapIs (mpv kvSpot_ st.2.2)))]) H0 [(p1, .cells [.b v1]), (p2, .cells [.i v2]), (p3, .obj none (mapIs (mpv kvSpot_ v3)))] H g1 := hS
  replace hM : coins_search_buys_c1_j1 v1 v2 v3 = some r := hM
  refine r_seq ?_
  refine r_region (n := 1) rfl ?_
  refine o_assign (v := .b true) (by decide) rfl ?_
  refine run_nil ?_
  refine w_next [(9, .b true)] (.k .nil) ?_
  refine r_ret ?_
  refine w_endS (x := .b true) (f := fun r => .b r.1) (fd := fun r => [(p1, .cells [.b r.2.1]), (p2, .cells [.i r.2.2.1]), (p3, .obj none (mapIs (mpv kvSpot_ r.2.2.2)))]) (.inr rfl) ?_ (.refl _) (Option.some.inj hM) hS 0 rfl
  exact (res_one (res_tmp (x := .b true) rfl))
 ·refine r_seq ?_
  refine r_region (n := 6) rfl ?_
  refine o_move (v := .i a2) (by decide) rfl ?_
  refine o_loadE (v := .ep [.i a3.1.Wheel.Round, .sl .no 1 (a3.1.Wheel.Notches.map cI), .sl .no 1 (a3.1.Wheel.Coins.map cI), fnB a3.2, .mp p3]) (by decide) rfl (part_one ty_agg86 ty_sc86 rfl) ?_
  refine o_loadE (v := .agg [.i a1.left.c0, .i a1.left.c1, .i a1.left.c2, .i a1.left.c3, .i a1.place, .i a1.credit]) (by decide) rfl (part_agg ty_agg90 (Nat.le_of_ble_eq_true rfl) rfl) ?_
  obtain ⟨r4, hr4, hM⟩ := bindE hM
  have hndr4 := hS.nd_at (ns := [2]) (M := [(p3, .obj none (mapIs (mpv kvSpot_ st.2.2)))]) (M' := [(p3, .obj none (mapIs (mpv kvSpot_ r4.2)))]) (.cons rfl .nil) (by decide)
  refine o_hsat (bs := [.ep [.i a3.1.Wheel.Round, .sl .no 1 (a3.1.Wheel.Notches.map cI), .sl .no 1 (a3.1.Wheel.Coins.map cI), fnB a3.2, .mp p3], .agg [.i a1.left.c0, .i a1.left.c1, .i a1.left.c2, .i a1.left.c3, .i a1.place, .i a1.credit]]) (M := [(p3, .obj none (mapIs (mpv kvSpot_ st.2.2)))]) (M' := [(p3, .obj none (mapIs (mpv kvSpot_ r4.2)))]) (L' := [(p1, .cells [.b st.1]), (p2, .cells [.i st.2.1]), (p3, .obj none (mapIs (mpv kvSpot_ r4.2)))]) [2] (.inl rfl) hS (by decide) rfl rfl ((hrec hr4).le (.k (.k .nil))) (.cons rfl .nil) rfl (by omega) fun H hS => ?_
  refine o_int (v := .i (w64 (a2 + r4.1))) (by decide) rfl rfl rfl ?_
  refine o_assign (v := .i (w64 (a2 + r4.1))) (by decide) rfl ?_
  refine run_nil ?_
  refine w_next [(3, .ep [.ep [.i a3.1.Wheel.Round, .sl .no 1 (a3.1.Wheel.Notches.map cI), .sl .no 1 (a3.1.Wheel.Coins.map cI), fnB a3.2, .mp p3]]), (4, .ptr p1 0), (5, .ptr p2 0), (10, .i (w64 (a2 + r4.1)))] (.k (.k (.k (.k .nil)))) ?_
  refine w_join (J := Bool) (fun j => [(4, .ptr p1 0), (5, .ptr p2 0), (10, .i (w64 (a2 + r4.1))), (25, .b j)]) (fun j H' g' => St (fun i => i < g ∧ i ∉ ids [(p1, .cells [.b st.1]), (p2, .cells [.i st.2.1]), (p3, .obj none (mapIs (mpv kvSpot_ st.2.2)))]) H0 [(p1, .cells [.b st.1]), (p2, .cells [.i st.2.1]), (p3, .obj none (mapIs (mpv kvSpot_ r4.2)))] H' g' ∧ coins_search_buys_c1_j2 a2 st r4 j = some r) ?_ ?_
  ·rintro v5 H g2 ⟨hS, hM⟩
   change wpA _ _ _ _ (Fr.of [(4, .ptr p1 0), (5, .ptr p2 0), (10, .i (w64 (a2 + r4.1))), (25, .b v5)]) _ _
   replace hS : St (fun i => i < g ∧ i ∉ ids [(p1, .cells [.b st.1]), (p2, .cells [.i st.2.1]), (p3, .obj none (mapIs (mpv kvSpot_ st.2.2)))]) H0 [(p1, .cells [.b st.1]), (p2, .cells [.i st.2.1]), (p3, .obj none (mapIs (mpv kvSpot_ r4.2)))] H g2 := hS
   replace hM : coins_search_buys_c1_j2 a2 st r4 v5 = some r := hM
   rcases Bool.eq_false_or_eq_true v5 with hb6 | hb6
   ·replace hM := ifT hM hb6
    refine w_condT (e := v5) rfl hb6 ?_
    refine r_region (n := 3) rfl ?_
    refine o_move (v := .i (w64 (a2 + r4.1))) (by decide) rfl ?_
    refine o_store (v := .i (w64 (a2 + r4.1))) (ns := [.i (w64 (a2 + r4.1))]) (L' := [(p1, .cells [.b st.1]), (p2, .cells [.i (w64 (a2 + r4.1))]), (p3, .obj none (mapIs (mpv kvSpot_ r4.2)))]) 1 hS rfl rfl .no rfl rfl ty_var3 (Nat.le_of_ble_eq_true rfl) rfl fun H hS => ?_
    refine o_store (v := .b false) (ns := [.b false]) (L' := [(p1, .cells [.b false]), (p2, .cells [.i (w64 (a2 + r4.1))]), (p3, .obj none (mapIs (mpv kvSpot_ r4.2)))]) 0 hS rfl rfl .no rfl rfl ty_var4 (Nat.le_of_ble_eq_true rfl) rfl fun H hS => ?_
    refine run_nil ?_
    exact w_goto (false, w64 (a2 + r4.1), r4.2) .nil ⟨(hS.keep [true, true, true] rfl).up (by omega), hM⟩
   ·replace hM := ifF hM hb6
    refine w_condF (e := v5) rfl hb6 ?_
    refine r_skip ?_
    exact w_goto (st.1, st.2.1, r4.2) .nil ⟨(hS.keep [true, true, true] rfl).up (by omega), hM⟩
  ·have hS0 := hS
   refine r_draw (n := 10) rfl (by kernel_rfl) ?_
   refine o_load (v := .b st.1) 0 hS (by decide) rfl rfl (.st hS0 0 rfl (by omega)) (part_one ty_agg4 ty_sc4 rfl) ?_
   refine o_move (v := .b st.1) (by decide) rfl ?_
   rcases Bool.eq_false_or_eq_true st.1 with hb7 | hb7
   ·replace hM := ifT hM hb7
    refine o_guardN (j := 1) (e := st.1) (want := false) (by decide) rfl hb7 ?_
    refine o_guardN (j := 1) (e := st.1) (want := false) (by decide) rfl hb7 ?_
    refine o_guardN (j := 1) (e := st.1) (want := false) (by decide) rfl hb7 ?_
    refine o_guardN (j := 1) (e := st.1) (want := false) (by decide) rfl hb7 ?_
    refine o_guardN (j := 1) (e := st.1) (want := false) (by decide) rfl hb7 ?_
    refine o_guardN (j := 1) (e := st.1) (want := false) (by decide) rfl hb7 ?_
    refine o_guardN (j := 1) (e := st.1) (want := false) (by decide) rfl hb7 ?_
    refine o_pickT (v := .b true) (e := st.1) (by decide) rfl hb7 rfl ?_
    refine run_nil ?_
    exact w_goto true (.k (.k (.k (.k .nil)))) ⟨(hS.keep [true, true, true] rfl).up (by omega), hM⟩
   ·replace hM := ifF hM hb7
    refine o_guardY (j := 1) (e := st.1) (want := false) rfl hb7 ?_
    refine o_loadE (v := .ep [.i a3.1.Wheel.Round, .sl .no 1 (a3.1.Wheel.Notches.map cI), .sl .no 1 (a3.1.Wheel.Coins.map cI), fnB a3.2, .mp p3]) (by decide) rfl (part_one ty_agg86 ty_sc86 rfl) ?_
    refine o_guardY (j := 1) (e := st.1) (want := false) rfl hb7 ?_
    refine o_nilE (by decide) rfl ?_
    refine o_guardY (j := 1) (e := st.1) (want := false) rfl hb7 ?_
    refine o_fieldE (cs := [.i a3.1.Wheel.Round, .sl .no 1 (a3.1.Wheel.Notches.map cI), .sl .no 1 (a3.1.Wheel.Coins.map cI), fnB a3.2, .mp p3]) (by decide) ty_fo114_1 rfl ?_
    refine o_guardY (j := 1) (e := st.1) (want := false) rfl hb7 ?_
    refine o_loadE (v := fnB a3.2) (by decide) rfl (part_one ty_agg93 ty_sc93 rfl) ?_
    refine o_guardY (j := 1) (e := st.1) (want := false) rfl hb7 ?_
    refine o_move (v := .i (w64 (a2 + r4.1))) (by decide) rfl ?_
    refine o_guardY (j := 1) (e := st.1) (want := false) rfl hb7 ?_
    refine o_load (v := .i st.2.1) 1 hS (by decide) rfl rfl (.st hS0 1 rfl (by omega)) (part_one ty_agg3 ty_sc3 rfl) ?_
    refine o_guardY (j := 1) (e := st.1) (want := false) rfl hb7 ?_
    obtain ⟨r8, hr8, hM⟩ := bindE hM
    refine o_call (bs := [.i (w64 (a2 + r4.1)), .i st.2.1]) (by decide) rfl rfl ((W_coins_better hr8).le (.k (.k .nil))) ?_
    refine o_pickF (v := .b r8) (e := st.1) (by decide) rfl hb7 rfl ?_
    refine run_nil ?_
    exact w_goto r8 (.k (.k (.k (.k .nil)))) ⟨(hS.keep [true, true, true] rfl).up (by omega), hM⟩
theorem W_coins_search_buys_b {p1 : Nat} (hnd : [p1].Nodup) {n : Nat} {rec : (Wheel_ × Bool) → Spot_ → (List (Spot_ × Int)) → Option (Int × (List (Spot_ × Int)))} (hrec : ∀ {a0 : Wheel_ × Bool} {a1 : Spot_} {st : (List (Spot_ × Int))} {r : Int × (List (Spot_ × Int))}, rec a0 a1 st = some r → HSat Try.prog 66 [.ep [.i a0.1.Wheel.Round, .sl .no 1 (a0.1.Wheel.Notches.map cI), .sl .no 1 (a0.1.Wheel.Coins.map cI), fnB a0.2, .mp p1], .agg [.i a1.left.c0, .i a1.left.c1, .i a1.left.c2, .i a1.left.c3, .i a1.place, .i a1.credit]] [(p1, .obj none (mapIs (mpv kvSpot_ st)))] (.i r.1) [(p1, .obj none (mapIs (mpv kvSpot_ r.2)))]) {a0 : Wheel_ × Bool} {a1 : Spot_} {st : (List (Spot_ × Int))} {r : Int × (List (Spot_ × Int))} (hM : coins_search_buys_b n rec a0 a1 st = some r) : HSat Try.prog 66 [.ep [.i a0.1.Wheel.Round, .sl .no 1 (a0.1.Wheel.Notches.map cI), .sl .no 1 (a0.1.Wheel.Coins.map cI), fnB a0.2, .mp p1], .agg [.i a1.left.c0, .i a1.left.c1, .i a1.left.c2, .i a1.left.c3, .i a1.place, .i a1.credit]] [(p1, .obj none (mapIs (mpv kvSpot_ st)))] (.i r.1) [(p1, .obj none (mapIs (mpv kvSpot_ r.2)))] := by
 refine hsat_of_wp mixed Try.func66 rfl (by decide) Try.ntmps66 (by simp) (kl_obj kl_nil) hnd ?pure ?cells fun H0 g hf_ hp => ?_
 case pure => exact fun H _ => (show Go.AM.Pure _ from .v _).inH
 case cells => exact (inb_st (ic_obj ic_nil) inb_nil)
 rw [frame0_of]
 change wpA _ _ _ _ (Fr.of [(0, .ep [.i a0.1.Wheel.Round, .sl .no 1 (a0.1.Wheel.Notches.map cI), .sl .no 1 (a0.1.Wheel.Coins.map cI), fnB a0.2, .mp p1]), (1, .agg [.i a1.left.c0, .i a1.left.c1, .i a1.left.c2, .i a1.left.c3, .i a1.place, .i a1.credit])]) H0 g
 have hS := St.startH (L := [(p1, .obj none (mapIs (mpv kvSpot_ st)))]) hf_ hnd hp
 replace hS : St (fun i => i < g ∧ i ∉ ids [(p1, .obj none (mapIs (mpv kvSpot_ st)))]) H0 [(p1, .obj none (mapIs (mpv kvSpot_ st)))] H0 g := hS
 refine r_seq ?_
 refine r_region (n := 3) rfl ?_
 refine o_box (v := .ep [.i a0.1.Wheel.Round, .sl .no 1 (a0.1.Wheel.Notches.map cI), .sl .no 1 (a0.1.Wheel.Coins.map cI), fnB a0.2, .mp p1]) (cs := [.ep [.i a0.1.Wheel.Round, .sl .no 1 (a0.1.Wheel.Notches.map cI), .sl .no 1 (a0.1.Wheel.Coins.map cI), fnB a0.2, .mp p1]]) hS (by decide) rfl rfl (by omega) fun H hS => ?_
 refine o_box (v := .agg [.i a1.left.c0, .i a1.left.c1, .i a1.left.c2, .i a1.left.c3, .i a1.place, .i a1.credit]) (cs := [.i a1.left.c0, .i a1.left.c1, .i a1.left.c2, .i a1.left.c3, .i a1.place, .i a1.credit]) hS (by decide) rfl rfl (by omega) fun H hS => ?_
 refine o_assign (v := .i 0) (by decide) rfl ?_
 refine run_nil ?_
 refine w_iceE (L' := [(g + 1, .cells [.i a1.left.c0, .i a1.left.c1, .i a1.left.c2, .i a1.left.c3, .i a1.place, .i a1.credit]), (p1, .obj none (mapIs (mpv kvSpot_ st)))]) 1 2 hS rfl rfl rfl fun H hS => ?_
 refine w_next [(2, .ep [.ep [.i a0.1.Wheel.Round, .sl .no 1 (a0.1.Wheel.Notches.map cI), .sl .no 1 (a0.1.Wheel.Coins.map cI), fnB a0.2, .mp p1]]), (3, .ptr (g + 1) 0)] (.k (.k .nil)) ?_
 refine r_seq ?_
 refine r_region (n := 1) rfl ?_
 refine o_assign (v := .i 0) (by decide) rfl ?_
 refine run_nil ?_
 refine w_next [(2, .ep [.ep [.i a0.1.Wheel.Round, .sl .no 1 (a0.1.Wheel.Notches.map cI), .sl .no 1 (a0.1.Wheel.Coins.map cI), fnB a0.2, .mp p1]]), (3, .ptr (g + 1) 0), (5, .i 0)] (.k (.k (.k .nil))) ?_
 refine w_join (J := Int × Int × Int × Int × Int) (fun j => [(2, .ep [.ep [.i a0.1.Wheel.Round, .sl .no 1 (a0.1.Wheel.Notches.map cI), .sl .no 1 (a0.1.Wheel.Coins.map cI), fnB a0.2, .mp p1]]), (3, .ptr (g + 1) 0), (5, .i j.1)]) (fun j H' g' => St (fun i => i < g ∧ i ∉ ids [(p1, .obj none (mapIs (mpv kvSpot_ st)))]) H0 [(g + 1, .cells [.i j.2.1, .i j.2.2.1, .i j.2.2.2.1, .i j.2.2.2.2, .i a1.place, .i a1.credit]), (p1, .obj none (mapIs (mpv kvSpot_ st)))] H' g' ∧ coins_search_buys_j1 n rec a0 a1 st j.1 j.2.1 j.2.2.1 j.2.2.2.1 j.2.2.2.2 = some r) ?_ ?_
 ·rintro ⟨v1, v2, v3, v4, v5⟩ H g1 ⟨hS, hM⟩
  change wpA _ _ _ _ (Fr.of [(2, .ep [.ep [.i a0.1.Wheel.Round, .sl .no 1 (a0.1.Wheel.Notches.map cI), .sl .no 1 (a0.1.Wheel.Coins.map cI), fnB a0.2, .mp p1]]), (3, .ptr (g + 1) 0), (5, .i v1)]) _ _
  replace hS : St (fun i => i < g ∧ i ∉ ids [(p1, .obj none (mapIs (mpv kvSpot_ st)))]) H0 [(g + 1, .cells [.i v2, .i v3, .i v4, .i v5, .i a1.place, .i a1.credit]), (p1, .obj none (mapIs (mpv kvSpot_ st)))] H g1 := hS
  replace hM : coins_search_buys_j1 n rec a0 a1 st v1 v2 v3 v4 v5 = some r := hM
  refine r_seq ?_
  refine r_region (n := 6) rfl ?_
  refine o_fieldP (by decide) ty_fo90_2 rfl ?_
  refine o_load (v := .i a1.credit) 0 hS (by decide) rfl rfl .no (part_one ty_agg3 ty_sc3 rfl) ?_
  refine o_move (v := .i v1) (by decide) rfl ?_
  refine o_min (v := .i (min a1.credit v1)) (by decide) rfl ?_
  refine o_fieldP (by decide) ty_fo90_2 rfl ?_
  refine o_store (v := .i (min a1.credit v1)) (ns := [.i (min a1.credit v1)]) (L' := [(g + 1, .cells [.i v2, .i v3, .i v4, .i v5, .i a1.place, .i (min a1.credit v1)]), (p1, .obj none (mapIs (mpv kvSpot_ st)))]) 0 hS rfl rfl .no rfl rfl ty_var3 (Nat.le_of_ble_eq_true rfl) rfl fun H hS => ?_
  refine run_nil ?_
  refine w_next [(2, .ep [.ep [.i a0.1.Wheel.Round, .sl .no 1 (a0.1.Wheel.Notches.map cI), .sl .no 1 (a0.1.Wheel.Coins.map cI), fnB a0.2, .mp p1]]), (3, .ptr (g + 1) 0), (5, .i v1)] (.k (.k (.k .nil))) ?_
  refine r_seq ?_
  refine r_seq ?_
  have hS0 := hS
  refine r_draw (n := 11) rfl (by kernel_rfl) ?_
  refine o_loadE (v := .ep [.i a0.1.Wheel.Round, .sl .no 1 (a0.1.Wheel.Notches.map cI), .sl .no 1 (a0.1.Wheel.Coins.map cI), fnB a0.2, .mp p1]) (by decide) rfl (part_one ty_agg86 ty_sc86 rfl) ?_
  refine o_nilE (by decide) rfl ?_
  refine o_fieldE (cs := [.i a0.1.Wheel.Round, .sl .no 1 (a0.1.Wheel.Notches.map cI), .sl .no 1 (a0.1.Wheel.Coins.map cI), fnB a0.2, .mp p1]) (by decide) ty_fo114_2 rfl ?_
  refine o_loadE (v := .mp p1) (by decide) rfl (part_one ty_agg112 ty_sc112 rfl) ?_
  refine o_load (v := .agg [.i v2, .i v3, .i v4, .i v5, .i a1.place, .i (min a1.credit v1)]) 0 hS (by decide) rfl rfl (.st hS0 0 rfl (by omega)) (part_agg ty_agg90 (Nat.le_of_ble_eq_true rfl) rfl) ?_
  obtain ⟨x6, hx6, hM⟩ := bindE hM
  refine o_lookupOk (kv := kvSpot_) (ok := okSpot_) (M := st) (k := (⟨(⟨v2, v3, v4, v5⟩ : Bag_), a1.place, (min a1.credit v1)⟩ : Spot_)) (u := x6) 1 keys90 hS (by decide) rfl rfl rfl (.st hS0 1 rfl (by omega)) ty_map112 ty_mz112 hx6 ?_
  refine o_move (v := .tup [.i x6, .b (mhas st (⟨(⟨v2, v3, v4, v5⟩ : Bag_), a1.place, (min a1.credit v1)⟩ : Spot_))]) (by decide) rfl ?_
  refine o_extract (v := .i x6) (by decide) rfl rfl ?_
  refine o_extract (v := .b (mhas st (⟨(⟨v2, v3, v4, v5⟩ : Bag_), a1.place, (min a1.credit v1)⟩ : Spot_))) (by decide) rfl rfl ?_
  refine o_assign (v := .i x6) (by decide) rfl ?_
  refine o_assign (v := .b (mhas st (⟨(⟨v2, v3, v4, v5⟩ : Bag_), a1.place, (min a1.credit v1)⟩ : Spot_))) (by decide) rfl ?_
  refine run_nil ?_
  refine w_next [(2, .ep [.ep [.i a0.1.Wheel.Round, .sl .no 1 (a0.1.Wheel.Notches.map cI), .sl .no 1 (a0.1.Wheel.Coins.map cI), fnB a0.2, .mp p1]]), (3, .ptr (g + 1) 0), (5, .i v1), (8, .i x6), (9, .b (mhas st (⟨(⟨v2, v3, v4, v5⟩ : Bag_), a1.place, (min a1.credit v1)⟩ : Spot_)))] (.k (.k (.k (.k (.k .nil))))) ?_
  refine w_join (J := Bool) (fun j => [(2, .ep [.ep [.i a0.1.Wheel.Round, .sl .no 1 (a0.1.Wheel.Notches.map cI), .sl .no 1 (a0.1.Wheel.Coins.map cI), fnB a0.2, .mp p1]]), (3, .ptr (g + 1) 0), (8, .i x6), (39, .b j)]) (fun j H' g' => St (fun i => i < g ∧ i ∉ ids [(p1, .obj none (mapIs (mpv kvSpot_ st)))]) H0 [(g + 1, .cells [.i v2, .i v3, .i v4, .i v5, .i a1.place, .i (min a1.credit v1)]), (p1, .obj none (mapIs (mpv kvSpot_ st)))] H' g' ∧ coins_search_buys_j2 n rec a0 a1 st v1 v2 v3 v4 v5 x6 j = some r) ?_ ?_
  ·rintro v7 H g2 ⟨hS, hM⟩
   change wpA _ _ _ _ (Fr.of [(2, .ep [.ep [.i a0.1.Wheel.Round, .sl .no 1 (a0.1.Wheel.Notches.map cI), .sl .no 1 (a0.1.Wheel.Coins.map cI), fnB a0.2, .mp p1]]), (3, .ptr (g + 1) 0), (8, .i x6), (39, .b v7)]) _ _
   replace hS : St (fun i => i < g ∧ i ∉ ids [(p1, .obj none (mapIs (mpv kvSpot_ st)))]) H0 [(g + 1, .cells [.i v2, .i v3, .i v4, .i v5, .i a1.place, .i (min a1.credit v1)]), (p1, .obj none (mapIs (mpv kvSpot_ st)))] H g2 := hS
   replace hM : coins_search_buys_j2 n rec a0 a1 st v1 v2 v3 v4 v5 x6 v7 = some r := hM
   rcases Bool.eq_false_or_eq_true v7 with hb8 | hb8
   ·replace hM := ifT hM hb8
    refine w_condT (e := v7) rfl hb8 ?_
    refine r_seq ?_
    refine r_region (n := 2) rfl ?_
    refine o_move (v := .i x6) (by decide) rfl ?_
    refine o_assign (v := .i x6) (by decide) rfl ?_
    refine run_nil ?_
    replace hS := hS.keep (L' := [(p1, .obj none (mapIs (mpv kvSpot_ st)))]) [false, true] rfl
    refine w_next [(4, .i x6)] (.k .nil) ?_
    refine r_ret ?_
    refine r_then_ret ?_
    refine w_endS (x := .i x6) (f := fun r => .i r.1) (fd := fun r => [(p1, .obj none (mapIs (mpv kvSpot_ r.2)))]) (.inr rfl) ?_ (.refl _) (Option.some.inj hM) hS 0 rfl
    exact (res_one (res_tmp (x := .i x6) rfl))
   ·replace hM := ifF hM hb8
    refine w_condF (e := v7) rfl hb8 ?_
    refine r_skip ?_
    refine w_next [(2, .ep [.ep [.i a0.1.Wheel.Round, .sl .no 1 (a0.1.Wheel.Notches.map cI), .sl .no 1 (a0.1.Wheel.Coins.map cI), fnB a0.2, .mp p1]]), (3, .ptr (g + 1) 0)] (.k (.k .nil)) ?_
    refine r_seq ?_
    refine r_region (n := 4) rfl ?_
    refine o_alloc hS (by decide) ty_zero3 (by omega) fun H hS => ?_
    refine o_alloc hS (by decide) ty_zero4 (by omega) fun H hS => ?_
    refine o_store (v := .i 0) (ns := [.i 0]) (L' := [(g2 + 1, .cells [.b false]), (g2 + 0, .cells [.i 0]), (g + 1, .cells [.i v2, .i v3, .i v4, .i v5, .i a1.place, .i (min a1.credit v1)]), (p1, .obj none (mapIs (mpv kvSpot_ st)))]) 1 hS rfl rfl .no rfl rfl ty_var3 (Nat.le_of_ble_eq_true rfl) rfl fun H hS => ?_
    refine o_store (v := .b true) (ns := [.b true]) (L' := [(g2 + 1, .cells [.b true]), (g2 + 0, .cells [.i 0]), (g + 1, .cells [.i v2, .i v3, .i v4, .i v5, .i a1.place, .i (min a1.credit v1)]), (p1, .obj none (mapIs (mpv kvSpot_ st)))]) 0 hS rfl rfl .no rfl rfl ty_var4 (Nat.le_of_ble_eq_true rfl) rfl fun H hS => ?_
    refine run_nil ?_
    refine w_next [(2, .ep [.ep [.i a0.1.Wheel.Round, .sl .no 1 (a0.1.Wheel.Notches.map cI), .sl .no 1 (a0.1.Wheel.Coins.map cI), fnB a0.2, .mp p1]]), (3, .ptr (g + 1) 0), (10, .ptr (g2 + 0) 0), (11, .ptr (g2 + 1) 0)] (.k (.k (.k (.k .nil)))) ?_
    refine r_seq ?_
    refine r_region (n := 4) rfl ?_
    refine o_loadE (v := .ep [.i a0.1.Wheel.Round, .sl .no 1 (a0.1.Wheel.Notches.map cI), .sl .no 1 (a0.1.Wheel.Coins.map cI), fnB a0.2, .mp p1]) (by decide) rfl (part_one ty_agg86 ty_sc86 rfl) ?_
    refine o_load (v := .agg [.i v2, .i v3, .i v4, .i v5, .i a1.place, .i (min a1.credit v1)]) 2 hS (by decide) rfl rfl .no (part_agg ty_agg90 (Nat.le_of_ble_eq_true rfl) rfl) ?_
    refine o_makeFunc (first := []) (cap := [.ep [.ep [.i a0.1.Wheel.Round, .sl .no 1 (a0.1.Wheel.Notches.map cI), .sl .no 1 (a0.1.Wheel.Coins.map cI), fnB a0.2, .mp p1]], .ptr (g2 + 1) 0, .ptr (g2 + 0) 0]) (by decide) rfl rfl ?_
    obtain ⟨r9, hr9, hM⟩ := bindE hM
    have hndr9 := hS.nd_at (ns := [0, 1, 3]) (M := [(g2 + 1, .cells [.b true]), (g2 + 0, .cells [.i 0]), (p1, .obj none (mapIs (mpv kvSpot_ st)))]) (M' := [(g2 + 1, .cells [.b r9.2.1]), (g2 + 0, .cells [.i r9.2.2.1]), (p1, .obj none (mapIs (mpv kvSpot_ r9.2.2.2)))]) (.cons rfl (.cons rfl (.cons rfl .nil))) (by decide)
    have hncr9 := hS.nd_at (ns := [0, 1, 3]) (M := [(g2 + 1, .cells [.b true]), (g2 + 0, .cells [.i 0]), (p1, .obj none (mapIs (mpv kvSpot_ st)))]) (M' := [(g2 + 1, .cells [.b r9.2.1]), (g2 + 0, .cells [.i r9.2.2.1]), (p1, .obj none (mapIs (mpv kvSpot_ r9.2.2.2)))]) (.cons rfl (.cons rfl (.cons rfl .nil))) (by decide)
    refine o_hsat (bs := [.ep [.i a0.1.Wheel.Round, .sl .no 1 (a0.1.Wheel.Notches.map cI), .sl .no 1 (a0.1.Wheel.Coins.map cI), fnB a0.2, .mp p1], .agg [.i v2, .i v3, .i v4, .i v5, .i a1.place, .i (min a1.credit v1)], .fn (.func 98) [] [.ep [.ep [.i a0.1.Wheel.Round, .sl .no 1 (a0.1.Wheel.Notches.map cI), .sl .no 1 (a0.1.Wheel.Coins.map cI), fnB a0.2, .mp p1]], .ptr (g2 + 1) 0, .ptr (g2 + 0) 0]]) (M := [(g2 + 1, .cells [.b true]), (g2 + 0, .cells [.i 0]), (p1, .obj none (mapIs (mpv kvSpot_ st)))]) (M' := [(g2 + 1, .cells [.b r9.2.1]), (g2 + 0, .cells [.i r9.2.2.1]), (p1, .obj none (mapIs (mpv kvSpot_ r9.2.2.2)))]) (L' := [(g2 + 1, .cells [.b r9.2.1]), (g2 + 0, .cells [.i r9.2.2.1]), (g + 1, .cells [.i v2, .i v3, .i v4, .i v5, .i a1.place, .i (min a1.credit v1)]), (p1, .obj none (mapIs (mpv kvSpot_ r9.2.2.2)))]) [0, 1, 3] (.inl rfl) hS (by decide) rfl rfl ((W_coins_search_next (Lo := (fun (s : Bool × Int × (List (Spot_ × Int))) => [(g2 + 1, .cells [.b s.1]), (g2 + 0, .cells [.i s.2.1]), (p1, .obj none (mapIs (mpv kvSpot_ s.2.2)))]))  (fun _ _ => (kl_cells (kl_cells (kl_obj kl_nil)))) (fun _ => hndr9) (fun s => (inb_st (ic_cells (ci_cons (.inl (.inl (.v _))) ci_nil) (ic_cells (ci_cons (.inl (.inl (.v _))) ci_nil) (ic_obj ic_nil))) inb_nil)) (aF := (fun (x0 : List Int) (x1 : Spot_) (x2 : Int) s => coins_search_buys_c1 rec x0 x1 x2 a0 s)) (fun s H hH => (.fn _ _ _ ai_nil (ai_cons (.ep _ (ai_cons (.ep _ (ai_cons (show Go.AM.Pure _ from .v _).inH (ai_cons (show Go.AM.Pure _ from .sl _ _ (pures_map (fun x => (pl_cons (.v _) pl_nil)))).inH (ai_cons (show Go.AM.Pure _ from .sl _ _ (pures_map (fun x => (pl_cons (.v _) pl_nil)))).inH (ai_cons (show Go.AM.Pure _ from pure_fnB _).inH (ai_cons (in_mp hH 2 rfl) ai_nil)))))) ai_nil)) (ai_cons (in_ptr hH 0 rfl) (ai_cons (in_ptr hH 1 rfl) ai_nil))))) rfl (fun h => csat_hv (W_coins_search_buys_c1 (p1 := g2 + 1)  (p2 := g2 + 0)  (p3 := p1)  hncr9 hrec h)) hr9).le (.k (.k (.k .nil)))) (.cons rfl (.cons rfl (.cons rfl .nil))) rfl (by omega) fun H hS => ?_
    refine run_nil ?_
    replace hS := hS.keep (L' := [(g2 + 0, .cells [.i r9.2.2.1]), (g + 1, .cells [.i v2, .i v3, .i v4, .i v5, .i a1.place, .i (min a1.credit v1)]), (p1, .obj none (mapIs (mpv kvSpot_ r9.2.2.2)))]) [false, true, true, true] rfl
    refine w_next [(2, .ep [.ep [.i a0.1.Wheel.Round, .sl .no 1 (a0.1.Wheel.Notches.map cI), .sl .no 1 (a0.1.Wheel.Coins.map cI), fnB a0.2, .mp p1]]), (3, .ptr (g + 1) 0), (10, .ptr (g2 + 0) 0)] (.k (.k (.k .nil))) ?_
    refine r_seq ?_
    have hS0 := hS
    refine r_draw (n := 7) rfl (by kernel_rfl) ?_
    refine o_loadE (v := .ep [.i a0.1.Wheel.Round, .sl .no 1 (a0.1.Wheel.Notches.map cI), .sl .no 1 (a0.1.Wheel.Coins.map cI), fnB a0.2, .mp p1]) (by decide) rfl (part_one ty_agg86 ty_sc86 rfl) ?_
    refine o_nilE (by decide) rfl ?_
    refine o_fieldE (cs := [.i a0.1.Wheel.Round, .sl .no 1 (a0.1.Wheel.Notches.map cI), .sl .no 1 (a0.1.Wheel.Coins.map cI), fnB a0.2, .mp p1]) (by decide) ty_fo114_2 rfl ?_
    refine o_loadE (v := .mp p1) (by decide) rfl (part_one ty_agg112 ty_sc112 rfl) ?_
    refine o_load (v := .agg [.i v2, .i v3, .i v4, .i v5, .i a1.place, .i (min a1.credit v1)]) 1 hS (by decide) rfl rfl (.st hS0 1 rfl (by omega)) (part_agg ty_agg90 (Nat.le_of_ble_eq_true rfl) rfl) ?_
    refine o_load (v := .i r9.2.2.1) 0 hS (by decide) rfl rfl (.st hS0 0 rfl (by omega)) (part_one ty_agg3 ty_sc3 rfl) ?_
    obtain ⟨l10, hl10, hM⟩ := bindE hM
    refine o_mapUpdate (kv := kvSpot_) (ok := okSpot_) (M := r9.2.2.2) (k := (⟨(⟨v2, v3, v4, v5⟩ : Bag_), a1.place, (min a1.credit v1)⟩ : Spot_)) (v := r9.2.2.1) (M' := l10) (L' := [(g2 + 0, .cells [.i r9.2.2.1]), (g + 1, .cells [.i v2, .i v3, .i v4, .i v5, .i a1.place, .i (min a1.credit v1)]), (p1, .obj none (mapIs (mpv kvSpot_ l10)))]) 2 keys90 (.inr (by kernel_rfl)) hS rfl rfl rfl rfl ty_map112 ty_mz112 hl10 rfl fun H hS => ?_
    refine run_nil ?_
    replace hS := hS.keep (L' := [(g2 + 0, .cells [.i r9.2.2.1]), (p1, .obj none (mapIs (mpv kvSpot_ l10)))]) [true, false, true] rfl
    refine w_next [(10, .ptr (g2 + 0) 0)] (.k .nil) ?_
    refine r_seq ?_
    refine r_region (n := 2) rfl ?_
    refine o_load (v := .i r9.2.2.1) 0 hS (by decide) rfl rfl .no (part_one ty_agg3 ty_sc3 rfl) ?_
    refine o_assign (v := .i r9.2.2.1) (by decide) rfl ?_
    refine run_nil ?_
    replace hS := hS.keep (L' := [(p1, .obj none (mapIs (mpv kvSpot_ l10)))]) [false, true] rfl
    refine w_next [(4, .i r9.2.2.1)] (.k .nil) ?_
    refine r_ret ?_
    refine w_endS (x := .i r9.2.2.1) (f := fun r => .i r.1) (fd := fun r => [(p1, .obj none (mapIs (mpv kvSpot_ r.2)))]) (.inr rfl) ?_ (.refl _) (Option.some.inj hM) hS 0 rfl
    exact (res_one (res_tmp (x := .i r9.2.2.1) rfl))
  ·refine r_region (n := 5) rfl ?_
   refine o_move (v := .b (mhas st (⟨(⟨v2, v3, v4, v5⟩ : Bag_), a1.place, (min a1.credit v1)⟩ : Spot_))) (by decide) rfl ?_
   refine o_move (v := .b (mhas st (⟨(⟨v2, v3, v4, v5⟩ : Bag_), a1.place, (min a1.credit v1)⟩ : Spot_))) (by decide) rfl ?_
   rcases Bool.eq_false_or_eq_true (mhas st (⟨(⟨v2, v3, v4, v5⟩ : Bag_), a1.place, (min a1.credit v1)⟩ : Spot_)) with hb11 | hb11
   ·replace hM := ifT hM hb11
    refine o_guardN (j := 1) (e := (mhas st (⟨(⟨v2, v3, v4, v5⟩ : Bag_), a1.place, (min a1.credit v1)⟩ : Spot_))) (want := false) (by decide) rfl hb11 ?_
    refine o_guardN (j := 1) (e := (mhas st (⟨(⟨v2, v3, v4, v5⟩ : Bag_), a1.place, (min a1.credit v1)⟩ : Spot_))) (want := false) (by decide) rfl hb11 ?_
    refine o_pickT (v := .b true) (e := (mhas st (⟨(⟨v2, v3, v4, v5⟩ : Bag_), a1.place, (min a1.credit v1)⟩ : Spot_))) (by decide) rfl hb11 rfl ?_
    refine run_nil ?_
    exact w_goto true (.k (.k (.k (.k .nil)))) ⟨(hS.keep [true, true] rfl).up (by omega), hM⟩
   ·replace hM := ifF hM hb11
    refine o_guardY (j := 1) (e := (mhas st (⟨(⟨v2, v3, v4, v5⟩ : Bag_), a1.place, (min a1.credit v1)⟩ : Spot_))) (want := false) rfl hb11 ?_
    refine o_move (v := .i v1) (by decide) rfl ?_
    refine o_guardY (j := 1) (e := (mhas st (⟨(⟨v2, v3, v4, v5⟩ : Bag_), a1.place, (min a1.credit v1)⟩ : Spot_))) (want := false) rfl hb11 ?_
    refine o_int (v := .b (v1 == 0)) (by decide) rfl rfl rfl ?_
    refine o_pickF (v := .b (v1 == 0)) (e := (mhas st (⟨(⟨v2, v3, v4, v5⟩ : Bag_), a1.place, (min a1.credit v1)⟩ : Spot_))) (by decide) rfl hb11 rfl ?_
    refine run_nil ?_
    exact w_goto (v1 == 0) (.k (.k (.k (.k .nil)))) ⟨(hS.keep [true, true] rfl).up (by omega), hM⟩
 ·refine r_seq ?_
  refine r_region (n := 3) rfl ?_
  refine o_fieldP (by decide) ty_fo90_0 rfl ?_
  refine o_load (v := .agg [.i a1.left.c0, .i a1.left.c1, .i a1.left.c2, .i a1.left.c3]) 0 hS (by decide) rfl rfl .no (part_agg ty_agg88 (Nat.le_of_ble_eq_true rfl) rfl) ?_
  refine o_move (v := .i 0) (by decide) rfl ?_
  refine run_nil ?_
  refine w_next [(2, .ep [.ep [.i a0.1.Wheel.Round, .sl .no 1 (a0.1.Wheel.Notches.map cI), .sl .no 1 (a0.1.Wheel.Coins.map cI), fnB a0.2, .mp p1]]), (3, .ptr (g + 1) 0), (5, .i 0), (13, .agg [.i a1.left.c0, .i a1.left.c1, .i a1.left.c2, .i a1.left.c3]), (14, .i 0)] (.k (.k (.k (.k (.k .nil))))) ?_
  refine r_block ?_
  refine w_loop (V := Int × Int) (fun v => [(2, .ep [.ep [.i a0.1.Wheel.Round, .sl .no 1 (a0.1.Wheel.Notches.map cI), .sl .no 1 (a0.1.Wheel.Coins.map cI), fnB a0.2, .mp p1]]), (3, .ptr (g + 1) 0), (5, .i v.1), (13, .agg [.i a1.left.c0, .i a1.left.c1, .i a1.left.c2, .i a1.left.c3]), (14, .i v.2)]) (fun v m3 H' g' => St (fun i => i < g ∧ i ∉ ids [(p1, .obj none (mapIs (mpv kvSpot_ st)))]) H0 [(g + 1, .cells [.i a1.left.c0, .i a1.left.c1, .i a1.left.c2, .i a1.left.c3, .i a1.place, .i a1.credit]), (p1, .obj none (mapIs (mpv kvSpot_ st)))] H' g' ∧ coins_search_buys_l1 n rec a0 a1 st m3 v.1 v.2 = some r) (n := n) (0, 0) (.k (.k (.k (.k (.k .nil))))) ⟨(hS.keep [true, true] rfl).up (by omega), hM⟩ ?_
  rintro ⟨v12, v13⟩ m3 H g3 ⟨hS, hM⟩
  obtain _ | m3 := m3
  ·exact nomatch (show none = some _ from hM)
  change wpA _ _ _ _ (Fr.of [(2, .ep [.ep [.i a0.1.Wheel.Round, .sl .no 1 (a0.1.Wheel.Notches.map cI), .sl .no 1 (a0.1.Wheel.Coins.map cI), fnB a0.2, .mp p1]]), (3, .ptr (g + 1) 0), (5, .i v12), (13, .agg [.i a1.left.c0, .i a1.left.c1, .i a1.left.c2, .i a1.left.c3]), (14, .i v13)]) _ _
  replace hS : St (fun i => i < g ∧ i ∉ ids [(p1, .obj none (mapIs (mpv kvSpot_ st)))]) H0 [(g + 1, .cells [.i a1.left.c0, .i a1.left.c1, .i a1.left.c2, .i a1.left.c3, .i a1.place, .i a1.credit]), (p1, .obj none (mapIs (mpv kvSpot_ st)))] H g3 := hS
  replace hM : coins_search_buys_l1_b n rec a0 a1 st (coins_search_buys_l1 n rec a0 a1 st m3) v12 v13 = some r := hM
  refine r_seq ?_
  refine r_region (n := 1) rfl ?_
  refine o_int (v := .b (decide (v13 < 4))) (by decide) rfl rfl rfl ?_
  refine run_nil ?_
  refine w_next [(2, .ep [.ep [.i a0.1.Wheel.Round, .sl .no 1 (a0.1.Wheel.Notches.map cI), .sl .no 1 (a0.1.Wheel.Coins.map cI), fnB a0.2, .mp p1]]), (3, .ptr (g + 1) 0), (5, .i v12), (13, .agg [.i a1.left.c0, .i a1.left.c1, .i a1.left.c2, .i a1.left.c3]), (14, .i v13), (15, .b (decide (v13 < 4)))] (.k (.k (.k (.k (.k (.k .nil)))))) ?_
  refine r_seq ?_
  rcases Bool.eq_false_or_eq_true (decide (v13 < 4)) with hb14 | hb14
  ·replace hM := ifT hM hb14
   refine w_condT (e := (decide (v13 < 4))) rfl hb14 ?_
   refine r_skip ?_
   refine w_next [(2, .ep [.ep [.i a0.1.Wheel.Round, .sl .no 1 (a0.1.Wheel.Notches.map cI), .sl .no 1 (a0.1.Wheel.Coins.map cI), fnB a0.2, .mp p1]]), (3, .ptr (g + 1) 0), (5, .i v12), (13, .agg [.i a1.left.c0, .i a1.left.c1, .i a1.left.c2, .i a1.left.c3]), (14, .i v13)] (.k (.k (.k (.k (.k .nil))))) ?_
   refine r_seq ?_
   refine r_block ?_
   refine r_seq ?_
   refine r_region (n := 2) rfl ?_
   obtain ⟨x15, hx15, hM⟩ := bindE hM
   refine o_indexA (v := .i x15) (cs := [.i a1.left.c0, .i a1.left.c1, .i a1.left.c2, .i a1.left.c3]) (z := v13) (by decide) rfl rfl ty_arx88 (idx_lt hx15).1 (idx_ltn hx15) (part_ixA (xs := ([a1.left.c0, a1.left.c1, a1.left.c2, a1.left.c3] : List Int)) ty_agg3 ty_sc3 rfl hx15) ?_
   refine o_assign (v := .i x15) (by decide) rfl ?_
   refine run_nil ?_
   refine w_next [(2, .ep [.ep [.i a0.1.Wheel.Round, .sl .no 1 (a0.1.Wheel.Notches.map cI), .sl .no 1 (a0.1.Wheel.Coins.map cI), fnB a0.2, .mp p1]]), (3, .ptr (g + 1) 0), (5, .i v12), (7, .i x15), (13, .agg [.i a1.left.c0, .i a1.left.c1, .i a1.left.c2, .i a1.left.c3]), (14, .i v13)] (.k (.k (.k (.k (.k (.k .nil)))))) ?_
   refine r_region (n := 4) rfl ?_
   refine o_move (v := .i v12) (by decide) rfl ?_
   refine o_move (v := .i x15) (by decide) rfl ?_
   refine o_int (v := .i (w64 (v12 + x15))) (by decide) rfl rfl rfl ?_
   refine o_assign (v := .i (w64 (v12 + x15))) (by decide) rfl ?_
   refine run_nil ?_
   refine r_blk_normal ?_
   refine w_next [(2, .ep [.ep [.i a0.1.Wheel.Round, .sl .no 1 (a0.1.Wheel.Notches.map cI), .sl .no 1 (a0.1.Wheel.Coins.map cI), fnB a0.2, .mp p1]]), (3, .ptr (g + 1) 0), (5, .i (w64 (v12 + x15))), (13, .agg [.i a1.left.c0, .i a1.left.c1, .i a1.left.c2, .i a1.left.c3]), (14, .i v13)] (.k (.k (.k (.k (.k .nil))))) ?_
   refine r_region (n := 2) rfl ?_
   refine o_int (v := .i (w64 (v13 + 1))) (by decide) rfl rfl rfl ?_
   refine o_move (v := .i (w64 (v13 + 1))) (by decide) rfl ?_
   refine run_nil ?_
   exact w_round (w64 (v12 + x15), w64 (v13 + 1)) (Nat.lt_succ_self _) (.k (.k (.k (.k (.k .nil))))) ⟨(hS.keep [true, true] rfl).up (by omega), hM⟩
  ·replace hM := ifF hM hb14
   refine w_condF (e := (decide (v13 < 4))) rfl hb14 ?_
   refine r_exit ?_
   refine r_then_exit ?_
   refine w_round_exit ?_
   refine r_blk_exit ?_
   exact w_goto (v12, a1.left.c0, a1.left.c1, a1.left.c2, a1.left.c3) (.k (.k (.k .nil))) ⟨(hS.keep [true, true] rfl).up (by omega), hM⟩
theorem W_coins_search_buys {p1 : Nat} (hnd : [p1].Nodup) : ∀ {n : Nat} {a0 : Wheel_ × Bool} {a1 : Spot_} {st : (List (Spot_ × Int))} {r : Int × (List (Spot_ × Int))}, coins_search_buys n a0 a1 st = some r → HSat Try.prog 66 [.ep [.i a0.1.Wheel.Round, .sl .no 1 (a0.1.Wheel.Notches.map cI), .sl .no 1 (a0.1.Wheel.Coins.map cI), fnB a0.2, .mp p1], .agg [.i a1.left.c0, .i a1.left.c1, .i a1.left.c2, .i a1.left.c3, .i a1.place, .i a1.credit]] [(p1, .obj none (mapIs (mpv kvSpot_ st)))] (.i r.1) [(p1, .obj none (mapIs (mpv kvSpot_ r.2)))]
 | 0, _, _, _, _, h => nomatch (show none = some _ from h)
 | n + 1, _, _, _, _, h => W_coins_search_buys_b hnd (n := n) (rec := coins_search_buys n) (fun h => W_coins_search_buys hnd h) h
theorem W_coins_Most {n : Nat} {a0 : Wheel} {a1 : List Int} {r : Int × Int} (hM : coins_Most n a0 a1 = some r) : PureSat Try.prog 25 [.agg [.i a0.Round, .sl .no 1 (a0.Notches.map cI), .sl .no 1 (a0.Coins.map cI)], .sl .no 1 (a1.map cI)] (.tup [.i r.1, .i r.2]) := by
 refine pure_of_wp mixed Try.func25 rfl (by decide) Try.ntmps25 (by simp) ?pure fun H0 g hf => ?_
 case pure => exact .tup _ (pl_cons (.v _) (pl_cons (.v _) pl_nil))
 rw [frame0_of]
 change wpA _ _ _ _ (Fr.of [(0, .agg [.i a0.Round, .sl .no 1 (a0.Notches.map cI), .sl .no 1 (a0.Coins.map cI)]), (1, .sl .no 1 (a1.map cI))]) H0 g
 have hS := St.start hf
 refine r_seq ?_
 refine r_region (n := 3) rfl ?_
 refine o_box (v := .agg [.i a0.Round, .sl .no 1 (a0.Notches.map cI), .sl .no 1 (a0.Coins.map cI)]) (cs := [.i a0.Round, .sl .no 1 (a0.Notches.map cI), .sl .no 1 (a0.Coins.map cI)]) hS (by decide) rfl rfl (by omega) fun H hS => ?_
 refine o_assign (v := .i 0) (by decide) rfl ?_
 refine o_assign (v := .i 0) (by decide) rfl ?_
 refine run_nil ?_
 refine w_iceE (L' := []) 0 2 hS rfl rfl rfl fun H hS => ?_
 refine w_next [(1, .sl .no 1 (a1.map cI)), (2, .ep [.i a0.Round, .sl .no 1 (a0.Notches.map cI), .sl .no 1 (a0.Coins.map cI)])] (.k (.k .nil)) ?_
 refine r_seq ?_
 refine r_region (n := 11) rfl ?_
 refine o_loadE (v := .agg [.i a0.Round, .sl .no 1 (a0.Notches.map cI), .sl .no 1 (a0.Coins.map cI)]) (by decide) rfl (part_agg ty_agg24 (Nat.le_of_ble_eq_true rfl) rfl) ?_
 refine o_move (v := .sl .no 1 (a1.map cI)) (by decide) rfl ?_
 obtain ⟨r1, hr1, hM⟩ := bindE hM
 rcases Bool.eq_false_or_eq_true r1.1.isSome with hb2 | hb2
 ·replace hM := ifT hM hb2
  obtain ⟨x3, hx3, hM⟩ := bindE hM
  refine o_newAt (bs := [.agg [.i a0.Round, .sl .no 1 (a0.Notches.map cI), .sl .no 1 (a0.Coins.map cI)], .sl .no 1 (a1.map cI), .fn (.func 65) [] []]) (.inl rfl) hS (by decide) rfl rfl ((W_coins_seek_some (r := r1.2) (by rw [← hx3]; exact hr1)).le (.k (.k (.k .nil)))) (by omega) fun H hS hU => ?_
  refine o_move (v := .tup [.ep [.i x3.Wheel.Round, .sl .no 1 (x3.Wheel.Notches.map cI), .sl .no 1 (x3.Wheel.Coins.map cI), fnB true, .mp (g + 3 + 11 + 19)], .agg [.i r1.2.1.left.c0, .i r1.2.1.left.c1, .i r1.2.1.left.c2, .i r1.2.1.left.c3, .i r1.2.1.place, .i r1.2.1.credit], .i r1.2.2]) (by decide) rfl ?_
  refine o_extract (v := .ep [.i x3.Wheel.Round, .sl .no 1 (x3.Wheel.Notches.map cI), .sl .no 1 (x3.Wheel.Coins.map cI), fnB true, .mp (g + 3 + 11 + 19)]) (by decide) rfl rfl ?_
  refine o_extract (v := .agg [.i r1.2.1.left.c0, .i r1.2.1.left.c1, .i r1.2.1.left.c2, .i r1.2.1.left.c3, .i r1.2.1.place, .i r1.2.1.credit]) (by decide) rfl rfl ?_
  refine o_extract (v := .i r1.2.2) (by decide) rfl rfl ?_
  refine o_allocU hS hU (by decide) ty_zero90 (by omega) (by omega) (by omega) fun H hS hU => ?_
  refine o_assign (v := .ep [.i x3.Wheel.Round, .sl .no 1 (x3.Wheel.Notches.map cI), .sl .no 1 (x3.Wheel.Coins.map cI), fnB true, .mp (g + 3 + 11 + 19)]) (by decide) rfl ?_
  refine o_store (v := .agg [.i r1.2.1.left.c0, .i r1.2.1.left.c1, .i r1.2.1.left.c2, .i r1.2.1.left.c3, .i r1.2.1.place, .i r1.2.1.credit]) (ns := [.i r1.2.1.left.c0, .i r1.2.1.left.c1, .i r1.2.1.left.c2, .i r1.2.1.left.c3, .i r1.2.1.place, .i r1.2.1.credit]) (L' := [(g + 3 + 7, .cells [.i r1.2.1.left.c0, .i r1.2.1.left.c1, .i r1.2.1.left.c2, .i r1.2.1.left.c3, .i r1.2.1.place, .i r1.2.1.credit]), (g + 3 + 11 + 19, .obj none (mapIs (mpv kvSpot_ ([] : List (Spot_ × Int)))))]) 0 hS rfl rfl .no rfl rfl ty_var90 (Nat.le_of_ble_eq_true rfl) rfl fun H hS => ?_
  refine o_assign (v := .i r1.2.2) (by decide) rfl ?_
  refine run_nil ?_
  refine w_iceE (L' := [(g + 3 + 11 + 19, .obj none (mapIs (mpv kvSpot_ ([] : List (Spot_ × Int)))))]) 0 7 hS rfl rfl rfl fun H hS => ?_
  refine w_next [(6, .ep [.i x3.Wheel.Round, .sl .no 1 (x3.Wheel.Notches.map cI), .sl .no 1 (x3.Wheel.Coins.map cI), fnB true, .mp (g + 3 + 11 + 19)]), (7, .ep [.i r1.2.1.left.c0, .i r1.2.1.left.c1, .i r1.2.1.left.c2, .i r1.2.1.left.c3, .i r1.2.1.place, .i r1.2.1.credit]), (8, .i r1.2.2)] (.k (.k (.k .nil))) ?_
  refine r_seq ?_
  refine r_seq ?_
  refine r_region (n := 2) rfl ?_
  refine o_move (v := .i r1.2.2) (by decide) rfl ?_
  refine o_int (v := .b (r1.2.2 != 0)) (by decide) rfl rfl rfl ?_
  refine run_nil ?_
  refine w_next [(6, .ep [.i x3.Wheel.Round, .sl .no 1 (x3.Wheel.Notches.map cI), .sl .no 1 (x3.Wheel.Coins.map cI), fnB true, .mp (g + 3 + 11 + 19)]), (7, .ep [.i r1.2.1.left.c0, .i r1.2.1.left.c1, .i r1.2.1.left.c2, .i r1.2.1.left.c3, .i r1.2.1.place, .i r1.2.1.credit]), (8, .i r1.2.2), (17, .b (r1.2.2 != 0))] (.k (.k (.k (.k .nil)))) ?_
  rcases Bool.eq_false_or_eq_true (r1.2.2 != 0) with hb4 | hb4
  ·replace hM := ifT hM hb4
   refine w_condT (e := (r1.2.2 != 0)) rfl hb4 ?_
   refine r_seq ?_
   refine r_region (n := 3) rfl ?_
   refine o_move (v := .i r1.2.2) (by decide) rfl ?_
   refine o_assign (v := .i 0) (by decide) rfl ?_
   refine o_assign (v := .i r1.2.2) (by decide) rfl ?_
   refine run_nil ?_
   replace hS := hS.keep (L' := []) [false] rfl
   refine w_next [(4, .i 0), (5, .i r1.2.2)] (.k (.k .nil)) ?_
   refine r_ret ?_
   refine r_then_ret ?_
   refine w_end (x := .tup [.i 0, .i r1.2.2]) (f := fun r => .tup [.i r.1, .i r.2]) (.inr rfl) ?_ (.refl _) (Option.some.inj hM) hS
   exact (res_two (res_tmp (x := .i 0) rfl) (res_tmp (x := .i r1.2.2) rfl))
  ·replace hM := ifF hM hb4
   refine w_condF (e := (r1.2.2 != 0)) rfl hb4 ?_
   refine r_skip ?_
   refine w_next [(6, .ep [.i x3.Wheel.Round, .sl .no 1 (x3.Wheel.Notches.map cI), .sl .no 1 (x3.Wheel.Coins.map cI), fnB true, .mp (g + 3 + 11 + 19)]), (7, .ep [.i r1.2.1.left.c0, .i r1.2.1.left.c1, .i r1.2.1.left.c2, .i r1.2.1.left.c3, .i r1.2.1.place, .i r1.2.1.credit])] (.k (.k .nil)) ?_
   refine r_seq ?_
   refine r_region (n := 5) rfl ?_
   refine o_move (v := .ep [.i x3.Wheel.Round, .sl .no 1 (x3.Wheel.Notches.map cI), .sl .no 1 (x3.Wheel.Coins.map cI), fnB true, .mp (g + 3 + 11 + 19)]) (by decide) rfl ?_
   refine o_loadE (v := .agg [.i r1.2.1.left.c0, .i r1.2.1.left.c1, .i r1.2.1.left.c2, .i r1.2.1.left.c3, .i r1.2.1.place, .i r1.2.1.credit]) (by decide) rfl (part_agg ty_agg90 (Nat.le_of_ble_eq_true rfl) rfl) ?_
   obtain ⟨r5, hr5, hM⟩ := bindE hM
   have hndr5 := hS.nd_at (ns := [0]) (M := [(g + 3 + 11 + 19, .obj none (mapIs (mpv kvSpot_ ([] : List (Spot_ × Int)))))]) (M' := [(g + 3 + 11 + 19, .obj none (mapIs (mpv kvSpot_ r5.2)))]) (.cons rfl .nil) (by decide)
   refine o_hsat (bs := [.ep [.i x3.Wheel.Round, .sl .no 1 (x3.Wheel.Notches.map cI), .sl .no 1 (x3.Wheel.Coins.map cI), fnB true, .mp (g + 3 + 11 + 19)], .agg [.i r1.2.1.left.c0, .i r1.2.1.left.c1, .i r1.2.1.left.c2, .i r1.2.1.left.c3, .i r1.2.1.place, .i r1.2.1.credit]]) (M := [(g + 3 + 11 + 19, .obj none (mapIs (mpv kvSpot_ ([] : List (Spot_ × Int)))))]) (M' := [(g + 3 + 11 + 19, .obj none (mapIs (mpv kvSpot_ r5.2)))]) (L' := [(g + 3 + 11 + 19, .obj none (mapIs (mpv kvSpot_ r5.2)))]) [0] (.inl rfl) hS (by decide) rfl rfl ((W_coins_search_buys (p1 := g + 3 + 11 + 19) hndr5 hr5).le (.k (.k .nil))) (.cons rfl .nil) rfl (by omega) fun H hS => ?_
   refine o_assign (v := .i r5.1) (by decide) rfl ?_
   refine o_assign (v := .i 0) (by decide) rfl ?_
   refine run_nil ?_
   replace hS := hS.keep (L' := []) [false] rfl
   refine w_next [(4, .i r5.1), (5, .i 0)] (.k (.k .nil)) ?_
   refine r_ret ?_
   refine w_end (x := .tup [.i r5.1, .i 0]) (f := fun r => .tup [.i r.1, .i r.2]) (.inr rfl) ?_ (.refl _) (Option.some.inj hM) hS
   exact (res_two (res_tmp (x := .i r5.1) rfl) (res_tmp (x := .i 0) rfl))
 ·replace hM := ifF hM hb2
  have hb2' : r1.1 = none := by rw [Option.isSome_eq_false_iff, Option.isNone_iff_eq_none] at hb2; exact hb2
  refine o_call (bs := [.agg [.i a0.Round, .sl .no 1 (a0.Notches.map cI), .sl .no 1 (a0.Coins.map cI)], .sl .no 1 (a1.map cI), .fn (.func 65) [] []]) (by decide) rfl rfl ((W_coins_seek_none (r := r1.2) (by rw [← hb2']; exact hr1)).le (.k (.k (.k .nil)))) ?_
  refine o_move (v := .tup [.v (.pointer none), .agg [.i r1.2.1.left.c0, .i r1.2.1.left.c1, .i r1.2.1.left.c2, .i r1.2.1.left.c3, .i r1.2.1.place, .i r1.2.1.credit], .i r1.2.2]) (by decide) rfl ?_
  refine o_extract (v := .v (.pointer none)) (by decide) rfl rfl ?_
  refine o_extract (v := .agg [.i r1.2.1.left.c0, .i r1.2.1.left.c1, .i r1.2.1.left.c2, .i r1.2.1.left.c3, .i r1.2.1.place, .i r1.2.1.credit]) (by decide) rfl rfl ?_
  refine o_extract (v := .i r1.2.2) (by decide) rfl rfl ?_
  refine o_alloc hS (by decide) ty_zero90 (by omega) fun H hS => ?_
  refine o_assign (v := .v (.pointer none)) (by decide) rfl ?_
  refine o_store (v := .agg [.i r1.2.1.left.c0, .i r1.2.1.left.c1, .i r1.2.1.left.c2, .i r1.2.1.left.c3, .i r1.2.1.place, .i r1.2.1.credit]) (ns := [.i r1.2.1.left.c0, .i r1.2.1.left.c1, .i r1.2.1.left.c2, .i r1.2.1.left.c3, .i r1.2.1.place, .i r1.2.1.credit]) (L' := [(g + 3 + 7, .cells [.i r1.2.1.left.c0, .i r1.2.1.left.c1, .i r1.2.1.left.c2, .i r1.2.1.left.c3, .i r1.2.1.place, .i r1.2.1.credit])]) 0 hS rfl rfl .no rfl rfl ty_var90 (Nat.le_of_ble_eq_true rfl) rfl fun H hS => ?_
  refine o_assign (v := .i r1.2.2) (by decide) rfl ?_
  refine run_nil ?_
  refine w_iceE (L' := []) 0 7 hS rfl rfl rfl fun H hS => ?_
  refine w_next [(6, .v (.pointer none)), (7, .ep [.i r1.2.1.left.c0, .i r1.2.1.left.c1, .i r1.2.1.left.c2, .i r1.2.1.left.c3, .i r1.2.1.place, .i r1.2.1.credit]), (8, .i r1.2.2)] (.k (.k (.k .nil))) ?_
  refine r_seq ?_
  refine r_seq ?_
  refine r_region (n := 2) rfl ?_
  refine o_move (v := .i r1.2.2) (by decide) rfl ?_
  refine o_int (v := .b (r1.2.2 != 0)) (by decide) rfl rfl rfl ?_
  refine run_nil ?_
  refine w_next [(6, .v (.pointer none)), (7, .ep [.i r1.2.1.left.c0, .i r1.2.1.left.c1, .i r1.2.1.left.c2, .i r1.2.1.left.c3, .i r1.2.1.place, .i r1.2.1.credit]), (8, .i r1.2.2), (17, .b (r1.2.2 != 0))] (.k (.k (.k (.k .nil)))) ?_
  rcases Bool.eq_false_or_eq_true (r1.2.2 != 0) with hb6 | hb6
  ·replace hM := ifT hM hb6
   refine w_condT (e := (r1.2.2 != 0)) rfl hb6 ?_
   refine r_seq ?_
   refine r_region (n := 3) rfl ?_
   refine o_move (v := .i r1.2.2) (by decide) rfl ?_
   refine o_assign (v := .i 0) (by decide) rfl ?_
   refine o_assign (v := .i r1.2.2) (by decide) rfl ?_
   refine run_nil ?_
   refine w_next [(4, .i 0), (5, .i r1.2.2)] (.k (.k .nil)) ?_
   refine r_ret ?_
   refine r_then_ret ?_
   refine w_end (x := .tup [.i 0, .i r1.2.2]) (f := fun r => .tup [.i r.1, .i r.2]) (.inr rfl) ?_ (.refl _) (Option.some.inj hM) hS
   exact (res_two (res_tmp (x := .i 0) rfl) (res_tmp (x := .i r1.2.2) rfl))
  ·replace hM := ifF hM hb6
   refine w_condF (e := (r1.2.2 != 0)) rfl hb6 ?_
   refine r_skip ?_
   refine w_next [(6, .v (.pointer none)), (7, .ep [.i r1.2.1.left.c0, .i r1.2.1.left.c1, .i r1.2.1.left.c2, .i r1.2.1.left.c3, .i r1.2.1.place, .i r1.2.1.credit])] (.k (.k .nil)) ?_
   refine r_seq ?_
   refine r_region (n := 5) rfl ?_
   refine o_move (v := .v (.pointer none)) (by decide) rfl ?_
   refine o_loadE (v := .agg [.i r1.2.1.left.c0, .i r1.2.1.left.c1, .i r1.2.1.left.c2, .i r1.2.1.left.c3, .i r1.2.1.place, .i r1.2.1.credit]) (by decide) rfl (part_agg ty_agg90 (Nat.le_of_ble_eq_true rfl) rfl) ?_
   exact nomatch (show none = some _ from hM)
theorem W_slices_IndexFunc_apiSeen {S : Type} {Lo : S → BL} (hk : ∀ s s', KinL (Lo s) (Lo s')) (hnd : ∀ s, (ids (Lo s)).Nodup) (hin : ∀ s, InB In (Lo s)) {aF : Seen → S → Option (Bool × S)} {f0 : AV} (hF : ∀ s H, Has H (Lo s) → In H f0) (h0 : cellsOf f0 = some [f0]) (hf : ∀ {x0 : Seen} {s : S} {r : Bool × S}, aF x0 s = some r → CSat Try.prog f0 [.agg [.i x0.Kind, .i x0.Plays]] (Lo s) (.b r.1) (Lo r.2)) {n : Nat} {a0 : List Seen} {st : S} {r : Int × S} (hM : slices_IndexFunc_apiSeen n aF a0 st = some r) : HSat Try.prog 124 [.sl .no 2 (a0.map Seen.cells), f0] (Lo st) (.i r.1) (Lo r.2) := by
 have hnd0 : ∀ s, (ids (Lo s)).Nodup := fun s => hnd s
 refine hsat_of_wp mixed Try.func124 rfl (by decide) Try.ntmps124 (by simp) (hk _ _) (hnd st) ?pure ?cells fun H0 g hf_ hp => ?_
 case pure => exact fun H _ => (show Go.AM.Pure _ from .v _).inH
 case cells => exact hin _
 rw [frame0_of]
 change wpA _ _ _ _ (Fr.of [(0, .sl .no 2 (a0.map Seen.cells)), (1, f0)]) H0 g
 have hS := St.startH (L := ([] ++ Lo st)) hf_ (hnd st) hp
 replace hS : St (fun i => i < g ∧ i ∉ ids (Lo st)) H0 ([] ++ Lo st) H0 g := hS
 refine r_seq ?_
 refine r_region (n := 1) rfl ?_
 refine o_assign (v := .i 0) (by decide) rfl ?_
 refine run_nil ?_
 refine w_next [(0, .sl .no 2 (a0.map Seen.cells)), (1, f0)] (.k (.k .nil)) ?_
 refine w_join (J := S) (fun j => []) (fun j H' g' => St (fun i => i < g ∧ i ∉ ids (Lo st)) H0 ([] ++ Lo j) H' g' ∧ slices_IndexFunc_apiSeen_j1 j = some r) ?_ ?_
 ·rintro v1 H g1 ⟨hS, hM⟩
  change wpA _ _ _ _ (Fr.of []) _ _
  replace hS : St (fun i => i < g ∧ i ∉ ids (Lo st)) H0 ([] ++ Lo v1) H g1 := hS
  replace hM : slices_IndexFunc_apiSeen_j1 v1 = some r := hM
  refine r_seq ?_
  refine r_region (n := 1) rfl ?_
  refine o_assign (v := .i (-1)) (by decide) rfl ?_
  refine run_nil ?_
  refine w_next [(4, .i (-1))] (.k .nil) ?_
  refine r_ret ?_
  refine w_endS (x := .i (-1)) (f := fun r => .i r.1) (fd := fun r => (Lo r.2)) (.inr rfl) ?_ (.refl _) (Option.some.inj hM) hS 0 rfl
  exact (res_one (res_tmp (x := .i (-1)) rfl))
 ·refine r_seq ?_
  refine r_region (n := 3) rfl ?_
  refine o_move (v := .sl .no 2 (a0.map Seen.cells)) (by decide) rfl ?_
  refine o_len (n := a0.length) (by decide) rfl (List.length_map _) ty_isl45 ?_
  refine o_move (v := .i 0) (by decide) rfl ?_
  refine run_nil ?_
  refine w_next [(0, .sl .no 2 (a0.map Seen.cells)), (1, f0), (7, .i (a0.length : Int)), (8, .i 0)] (.k (.k (.k (.k .nil)))) ?_
  refine r_block ?_
  refine w_loop (V := Int × S) (fun v => [(0, .sl .no 2 (a0.map Seen.cells)), (1, f0), (7, .i (a0.length : Int)), (8, .i v.1)]) (fun v m3 H' g' => St (fun i => i < g ∧ i ∉ ids (Lo st)) H0 ([] ++ Lo v.2) H' g' ∧ slices_IndexFunc_apiSeen_l1 a0 aF m3 v.1 v.2 = some r) (n := n) (0, st) (.k (.k (.k (.k .nil)))) ⟨(hS.keep [] rfl).up (by omega), hM⟩ ?_
  rintro ⟨v3, v4⟩ m3 H g3 ⟨hS, hM⟩
  obtain _ | m3 := m3
  ·exact nomatch (show none = some _ from hM)
  change wpA _ _ _ _ (Fr.of [(0, .sl .no 2 (a0.map Seen.cells)), (1, f0), (7, .i (a0.length : Int)), (8, .i v3)]) _ _
  replace hS : St (fun i => i < g ∧ i ∉ ids (Lo st)) H0 ([] ++ Lo v4) H g3 := hS
  replace hM : slices_IndexFunc_apiSeen_l1_b a0 aF (slices_IndexFunc_apiSeen_l1 a0 aF m3) v3 v4 = some r := hM
  refine r_seq ?_
  refine r_region (n := 1) rfl ?_
  refine o_int (v := .b (decide (v3 < (a0.length : Int)))) (by decide) rfl rfl rfl ?_
  refine run_nil ?_
  refine w_next [(0, .sl .no 2 (a0.map Seen.cells)), (1, f0), (7, .i (a0.length : Int)), (8, .i v3), (9, .b (decide (v3 < (a0.length : Int))))] (.k (.k (.k (.k (.k .nil))))) ?_
  refine r_seq ?_
  rcases Bool.eq_false_or_eq_true (decide (v3 < (a0.length : Int))) with hb5 | hb5
  ·replace hM := ifT hM hb5
   refine w_condT (e := (decide (v3 < (a0.length : Int)))) rfl hb5 ?_
   refine r_skip ?_
   refine w_next [(0, .sl .no 2 (a0.map Seen.cells)), (1, f0), (7, .i (a0.length : Int)), (8, .i v3)] (.k (.k (.k (.k .nil)))) ?_
   refine r_seq ?_
   refine r_block ?_
   refine r_seq ?_
   refine r_region (n := 2) rfl ?_
   refine o_move (v := .i v3) (by decide) rfl ?_
   refine o_assign (v := .i v3) (by decide) rfl ?_
   refine run_nil ?_
   refine w_next [(0, .sl .no 2 (a0.map Seen.cells)), (1, f0), (5, .i v3), (7, .i (a0.length : Int)), (8, .i v3)] (.k (.k (.k (.k (.k .nil))))) ?_
   refine r_seq ?_
   refine r_region (n := 6) rfl ?_
   refine o_move (v := f0) (by decide) rfl ?_
   refine o_move (v := .sl .no 2 (a0.map Seen.cells)) (by decide) rfl ?_
   refine o_move (v := .i v3) (by decide) rfl ?_
   obtain ⟨x6, hx6, hM⟩ := bindE hM
   refine o_index (xs := a0) (f := Seen.cells) (z := v3) (u := x6) (by decide) rfl rfl ty_es45 hx6 ?_
   refine o_loadE (v := .agg [.i x6.Kind, .i x6.Plays]) (by decide) rfl (part_agg ty_agg50 (Nat.le_of_ble_eq_true rfl) rfl) ?_
   obtain ⟨r7, hr7, hM⟩ := bindE hM
   replace hS : St (fun i => i < g ∧ i ∉ ids (Lo st)) H0 ([] ++ Lo v4) _ _ := hS
   refine o_state (bs := [.agg [.i x6.Kind, .i x6.Plays]]) (.inl rfl) hS (by decide) rfl rfl ((hf hr7).le (.k .nil)) (hk _ _).ids (by omega) fun H hS => ?_
   refine run_nil ?_
   refine w_next [(0, .sl .no 2 (a0.map Seen.cells)), (1, f0), (5, .i v3), (7, .i (a0.length : Int)), (8, .i v3), (16, .b r7.1)] (.k (.k (.k (.k (.k (.k .nil)))))) ?_
   rcases Bool.eq_false_or_eq_true r7.1 with hb8 | hb8
   ·replace hM := ifT hM hb8
    refine w_condT (e := r7.1) rfl hb8 ?_
    refine r_seq ?_
    refine r_region (n := 2) rfl ?_
    refine o_move (v := .i v3) (by decide) rfl ?_
    refine o_assign (v := .i v3) (by decide) rfl ?_
    refine run_nil ?_
    refine w_next [(4, .i v3)] (.k .nil) ?_
    refine r_ret ?_
    refine r_blk_ret ?_
    refine r_then_ret ?_
    refine w_round_ret ?_
    refine r_blk_ret ?_
    refine w_goto_ret ?_
    refine w_endS (x := .i v3) (f := fun r => .i r.1) (fd := fun r => (Lo r.2)) (.inr rfl) ?_ (.refl _) (Option.some.inj hM) hS 0 rfl
    exact (res_one (res_tmp (x := .i v3) rfl))
   ·replace hM := ifF hM hb8
    refine w_condF (e := r7.1) rfl hb8 ?_
    refine r_skip ?_
    refine r_blk_normal ?_
    refine w_next [(0, .sl .no 2 (a0.map Seen.cells)), (1, f0), (7, .i (a0.length : Int)), (8, .i v3)] (.k (.k (.k (.k .nil)))) ?_
    refine r_region (n := 2) rfl ?_
    refine o_int (v := .i (w64 (v3 + 1))) (by decide) rfl rfl rfl ?_
    refine o_move (v := .i (w64 (v3 + 1))) (by decide) rfl ?_
    refine run_nil ?_
    exact w_round (w64 (v3 + 1), r7.2) (Nat.lt_succ_self _) (.k (.k (.k (.k .nil)))) ⟨(hS.keep [] rfl).up (by omega), hM⟩
  ·replace hM := ifF hM hb5
   refine w_condF (e := (decide (v3 < (a0.length : Int)))) rfl hb5 ?_
   refine r_exit ?_
   refine r_then_exit ?_
   refine w_round_exit ?_
   refine r_blk_exit ?_
   exact w_goto v4 .nil ⟨(hS.keep [] rfl).up (by omega), hM⟩
theorem W_slices_ContainsFunc_apiSeen {S : Type} {Lo : S → BL} (hk : ∀ s s', KinL (Lo s) (Lo s')) (hnd : ∀ s, (ids (Lo s)).Nodup) (hin : ∀ s, InB In (Lo s)) {aF : Seen → S → Option (Bool × S)} {f0 : AV} (hF : ∀ s H, Has H (Lo s) → In H f0) (h0 : cellsOf f0 = some [f0]) (hf : ∀ {x0 : Seen} {s : S} {r : Bool × S}, aF x0 s = some r → CSat Try.prog f0 [.agg [.i x0.Kind, .i x0.Plays]] (Lo s) (.b r.1) (Lo r.2)) {n : Nat} {a0 : List Seen} {st : S} {r : Bool × S} (hM : slices_ContainsFunc_apiSeen n aF a0 st = some r) : HSat Try.prog 110 [.sl .no 2 (a0.map Seen.cells), f0] (Lo st) (.b r.1) (Lo r.2) := by
 have hnd0 : ∀ s, (ids (Lo s)).Nodup := fun s => hnd s
 refine hsat_of_wp mixed Try.func110 rfl (by decide) Try.ntmps110 (by simp) (hk _ _) (hnd st) ?pure ?cells fun H0 g hf_ hp => ?_
 case pure => exact fun H _ => (show Go.AM.Pure _ from .v _).inH
 case cells => exact hin _
 rw [frame0_of]
 change wpA _ _ _ _ (Fr.of [(0, .sl .no 2 (a0.map Seen.cells)), (1, f0)]) H0 g
 have hS := St.startH (L := ([] ++ Lo st)) hf_ (hnd st) hp
 replace hS : St (fun i => i < g ∧ i ∉ ids (Lo st)) H0 ([] ++ Lo st) H0 g := hS
 refine r_seq ?_
 refine r_region (n := 1) rfl ?_
 refine o_assign (v := .b false) (by decide) rfl ?_
 refine run_nil ?_
 refine w_next [(0, .sl .no 2 (a0.map Seen.cells)), (1, f0)] (.k (.k .nil)) ?_
 refine r_seq ?_
 refine r_region (n := 5) rfl ?_
 refine o_move (v := .sl .no 2 (a0.map Seen.cells)) (by decide) rfl ?_
 refine o_move (v := f0) (by decide) rfl ?_
 obtain ⟨r1, hr1, hM⟩ := bindE hM
 replace hS : St (fun i => i < g ∧ i ∉ ids (Lo st)) H0 ([] ++ Lo st) _ _ := hS
 refine o_stateH (bs := [.sl .no 2 (a0.map Seen.cells), f0]) (.inl rfl) hS (by decide) rfl rfl ((W_slices_IndexFunc_apiSeen (Lo := Lo)  hk hnd0 hin (aF := aF) hF h0 hf hr1).le (.k (.k .nil))) (hk _ _).ids (by omega) fun H hS => ?_
 refine o_int (v := .b (decide (r1.1 ≥ 0))) (by decide) rfl rfl rfl ?_
 refine o_assign (v := .b (decide (r1.1 ≥ 0))) (by decide) rfl ?_
 refine run_nil ?_
 refine w_next [(4, .b (decide (r1.1 ≥ 0)))] (.k .nil) ?_
 refine r_ret ?_
 refine w_endS (x := .b (decide (r1.1 ≥ 0))) (f := fun r => .b r.1) (fd := fun r => (Lo r.2)) (.inr rfl) ?_ (.refl _) (Option.some.inj hM) hS 0 rfl
 exact (res_one (res_tmp (x := .b (decide (r1.1 ≥ 0))) rfl))
theorem W_coins_all_apiSeen_c1 {S : Type} {Lo : S → BL} (hk : ∀ s s', KinL (Lo s) (Lo s')) (hnd : ∀ s, (ids (Lo s)).Nodup) (hin : ∀ s, InB In (Lo s)) {aF : Seen → S → Option (Bool × S)} {f0 : AV} (hF : ∀ s H, Has H (Lo s) → In H f0) (h0 : cellsOf f0 = some [f0]) (hf : ∀ {x0 : Seen} {s : S} {r : Bool × S}, aF x0 s = some r → CSat Try.prog f0 [.agg [.i x0.Kind, .i x0.Plays]] (Lo s) (.b r.1) (Lo r.2)) {a0 : Seen} {st : S} {r : Bool × S} (hM : coins_all_apiSeen_c1 aF a0 st = some r) : HSat Try.prog 111 [.agg [.i a0.Kind, .i a0.Plays], .ep [f0]] (Lo st) (.b r.1) (Lo r.2) := by
 have hnd0 : ∀ s, (ids (Lo s)).Nodup := fun s => hnd s
 refine hsat_of_wp mixed Try.func111 rfl (by decide) Try.ntmps111 (by simp) (hk _ _) (hnd st) ?pure ?cells fun H0 g hf_ hp => ?_
 case pure => exact fun H _ => (show Go.AM.Pure _ from .v _).inH
 case cells => exact hin _
 rw [frame0_of]
 change wpA _ _ _ _ (Fr.of [(0, .agg [.i a0.Kind, .i a0.Plays]), (1, .ep [f0])]) H0 g
 have hS := St.startH (L := ([] ++ Lo st)) hf_ (hnd st) hp
 replace hS : St (fun i => i < g ∧ i ∉ ids (Lo st)) H0 ([] ++ Lo st) H0 g := hS
 refine r_seq ?_
 refine r_region (n := 2) rfl ?_
 refine o_box (v := .agg [.i a0.Kind, .i a0.Plays]) (cs := [.i a0.Kind, .i a0.Plays]) hS (by decide) rfl rfl (by omega) fun H hS => ?_
 refine o_assign (v := .b false) (by decide) rfl ?_
 refine run_nil ?_
 refine w_iceE (L' := ([] ++ Lo st)) 0 2 hS rfl rfl rfl fun H hS => ?_
 refine w_next [(1, .ep [f0]), (2, .ep [.i a0.Kind, .i a0.Plays])] (.k (.k .nil)) ?_
 refine r_seq ?_
 refine r_region (n := 5) rfl ?_
 refine o_loadE (v := f0) (by decide) rfl (part_one ty_agg127 ty_sc127 rfl) ?_
 refine o_loadE (v := .agg [.i a0.Kind, .i a0.Plays]) (by decide) rfl (part_agg ty_agg50 (Nat.le_of_ble_eq_true rfl) rfl) ?_
 obtain ⟨r1, hr1, hM⟩ := bindE hM
 replace hS : St (fun i => i < g ∧ i ∉ ids (Lo st)) H0 ([] ++ Lo st) _ _ := hS
 refine o_state (bs := [.agg [.i a0.Kind, .i a0.Plays]]) (.inl rfl) hS (by decide) rfl rfl ((hf hr1).le (.k .nil)) (hk _ _).ids (by omega) fun H hS => ?_
 refine o_not (e := r1.1) (by decide) rfl ?_
 refine o_assign (v := .b (!r1.1)) (by decide) rfl ?_
 refine run_nil ?_
 refine w_next [(3, .b (!r1.1))] (.k .nil) ?_
 refine r_ret ?_
 refine w_endS (x := .b (!r1.1)) (f := fun r => .b r.1) (fd := fun r => (Lo r.2)) (.inr rfl) ?_ (.refl _) (Option.some.inj hM) hS 0 rfl
 exact (res_one (res_tmp (x := .b (!r1.1)) rfl))
theorem W_coins_all_apiSeen {S : Type} {Lo : S → BL} (hk : ∀ s s', KinL (Lo s) (Lo s')) (hnd : ∀ s, (ids (Lo s)).Nodup) (hin : ∀ s, InB In (Lo s)) {aF : Seen → S → Option (Bool × S)} {f0 : AV} (hF : ∀ s H, Has H (Lo s) → In H f0) (h0 : cellsOf f0 = some [f0]) (hf : ∀ {x0 : Seen} {s : S} {r : Bool × S}, aF x0 s = some r → CSat Try.prog f0 [.agg [.i x0.Kind, .i x0.Plays]] (Lo s) (.b r.1) (Lo r.2)) {n : Nat} {a0 : List Seen} {st : S} {r : Bool × S} (hM : coins_all_apiSeen n aF a0 st = some r) : HSat Try.prog 100 [.sl .no 2 (a0.map Seen.cells), f0] (Lo st) (.b r.1) (Lo r.2) := by
 have hnd0 : ∀ s, (ids (Lo s)).Nodup := fun s => hnd s
 refine hsat_of_wp mixed Try.func100 rfl (by decide) Try.ntmps100 (by simp) (hk _ _) (hnd st) ?pure ?cells fun H0 g hf_ hp => ?_
 case pure => exact fun H _ => (show Go.AM.Pure _ from .v _).inH
 case cells => exact hin _
 rw [frame0_of]
 change wpA _ _ _ _ (Fr.of [(0, .sl .no 2 (a0.map Seen.cells)), (1, f0)]) H0 g
 have hS := St.startH (L := ([] ++ Lo st)) hf_ (hnd st) hp
 replace hS : St (fun i => i < g ∧ i ∉ ids (Lo st)) H0 ([] ++ Lo st) H0 g := hS
 refine r_seq ?_
 refine r_region (n := 2) rfl ?_
 refine o_box (v := f0) (cs := [f0]) hS (by decide) rfl h0 (by omega) fun H hS => ?_
 refine o_assign (v := .b false) (by decide) rfl ?_
 refine run_nil ?_
 refine w_iceE (L' := ([] ++ Lo st)) 0 3 hS rfl rfl rfl fun H hS => ?_
 refine w_next [(0, .sl .no 2 (a0.map Seen.cells)), (3, .ep [f0])] (.k (.k .nil)) ?_
 refine w_join (J := Bool × S) (fun j => [(4, .b j.1)]) (fun j H' g' => St (fun i => i < g ∧ i ∉ ids (Lo st)) H0 ([] ++ Lo j.2) H' g' ∧ coins_all_apiSeen_j1 j.1 j.2 = some r) ?_ ?_
 ·rintro ⟨v1, v2⟩ H g1 ⟨hS, hM⟩
  change wpA _ _ _ _ (Fr.of [(4, .b v1)]) _ _
  replace hS : St (fun i => i < g ∧ i ∉ ids (Lo st)) H0 ([] ++ Lo v2) H g1 := hS
  replace hM : coins_all_apiSeen_j1 v1 v2 = some r := hM
  refine r_ret ?_
  refine w_endS (x := .b v1) (f := fun r => .b r.1) (fd := fun r => (Lo r.2)) (.inr rfl) ?_ (.refl _) (Option.some.inj hM) hS 0 rfl
  exact (res_one (res_tmp (x := .b v1) rfl))
 ·refine r_region (n := 10) rfl ?_
  refine o_move (v := .sl .no 2 (a0.map Seen.cells)) (by decide) rfl ?_
  refine o_len (n := a0.length) (by decide) rfl (List.length_map _) ty_isl45 ?_
  refine o_int (v := .b (decide ((a0.length : Int) ≤ 20))) (by decide) rfl rfl rfl ?_
  refine o_move (v := .b (decide ((a0.length : Int) ≤ 20))) (by decide) rfl ?_
  rcases Bool.eq_false_or_eq_true (decide ((a0.length : Int) ≤ 20)) with hb3 | hb3
  ·replace hM := ifT hM hb3
   refine o_guardY (j := 3) (e := (decide ((a0.length : Int) ≤ 20))) (want := true) rfl hb3 ?_
   refine o_move (v := .sl .no 2 (a0.map Seen.cells)) (by decide) rfl ?_
   refine o_guardY (j := 3) (e := (decide ((a0.length : Int) ≤ 20))) (want := true) rfl hb3 ?_
   refine o_makeFunc (first := []) (cap := [.ep [f0]]) (by decide) rfl rfl ?_
   refine o_guardY (j := 3) (e := (decide ((a0.length : Int) ≤ 20))) (want := true) rfl hb3 ?_
   obtain ⟨r4, hr4, hM⟩ := bindE hM
   replace hS : St (fun i => i < g ∧ i ∉ ids (Lo st)) H0 ([] ++ Lo st) _ _ := hS
   refine o_stateH (bs := [.sl .no 2 (a0.map Seen.cells), .fn (.func 111) [] [.ep [f0]]]) (.inl rfl) hS (by decide) rfl rfl ((W_slices_ContainsFunc_apiSeen (Lo := Lo)  hk hnd0 hin (aF := (coins_all_apiSeen_c1 aF)) (fun s H hH => (.fn _ _ _ ai_nil (ai_cons (.ep _ (ai_cons (hF _ H hH) ai_nil)) ai_nil))) rfl (fun h => csat_hv (W_coins_all_apiSeen_c1 (Lo := Lo)  hk hnd0 hin hF h0 hf h)) hr4).le (.k (.k .nil))) (hk _ _).ids (by omega) fun H hS => ?_
   refine o_guardY (j := 3) (e := (decide ((a0.length : Int) ≤ 20))) (want := true) rfl hb3 ?_
   refine o_not (e := r4.1) (by decide) rfl ?_
   refine o_pickT (v := .b (!r4.1)) (e := (decide ((a0.length : Int) ≤ 20))) (by decide) rfl hb3 rfl ?_
   refine o_assign (v := .b (!r4.1)) (by decide) rfl ?_
   refine run_nil ?_
   exact w_goto ((!r4.1), r4.2) (.k .nil) ⟨(hS.keep [] rfl).up (by omega), hM⟩
  ·replace hM := ifF hM hb3
   refine o_guardN (j := 3) (e := (decide ((a0.length : Int) ≤ 20))) (want := true) (by decide) rfl hb3 ?_
   refine o_guardN (j := 3) (e := (decide ((a0.length : Int) ≤ 20))) (want := true) (by decide) rfl hb3 ?_
   refine o_guardN (j := 3) (e := (decide ((a0.length : Int) ≤ 20))) (want := true) (by decide) rfl hb3 ?_
   refine o_guardN (j := 3) (e := (decide ((a0.length : Int) ≤ 20))) (want := true) (by decide) rfl hb3 ?_
   refine o_pickF (v := .b false) (e := (decide ((a0.length : Int) ≤ 20))) (by decide) rfl hb3 rfl ?_
   refine o_assign (v := .b false) (by decide) rfl ?_
   refine run_nil ?_
   exact w_goto (false, st) (.k .nil) ⟨(hS.keep [] rfl).up (by omega), hM⟩
theorem W_coins_wheel_isKind {a0 : Wheel_} {a1 : Int} {r : Bool} (hM : coins_wheel_isKind a0 a1 = some r) : PureSat Try.prog 81 [.agg [.i a0.Wheel.Round, .sl .no 1 (a0.Wheel.Notches.map cI), .sl .no 1 (a0.Wheel.Coins.map cI)], .i a1] (.b r) := by
 refine pure_of_wp mixed Try.func81 rfl (by decide) Try.ntmps81 (by simp) ?pure fun H0 g hf => ?_
 case pure => exact .v _
 rw [frame0_of]
 change wpA _ _ _ _ (Fr.of [(0, .agg [.i a0.Wheel.Round, .sl .no 1 (a0.Wheel.Notches.map cI), .sl .no 1 (a0.Wheel.Coins.map cI)]), (1, .i a1)]) H0 g
 have hS := St.start hf
 refine r_seq ?_
 refine r_region (n := 2) rfl ?_
 refine o_box (v := .agg [.i a0.Wheel.Round, .sl .no 1 (a0.Wheel.Notches.map cI), .sl .no 1 (a0.Wheel.Coins.map cI)]) (cs := [.i a0.Wheel.Round, .sl .no 1 (a0.Wheel.Notches.map cI), .sl .no 1 (a0.Wheel.Coins.map cI)]) hS (by decide) rfl rfl (by omega) fun H hS => ?_
 refine o_assign (v := .b false) (by decide) rfl ?_
 refine run_nil ?_
 refine w_iceE (L' := []) 0 2 hS rfl rfl rfl fun H hS => ?_
 refine w_next [(1, .i a1), (2, .ep [.i a0.Wheel.Round, .sl .no 1 (a0.Wheel.Notches.map cI), .sl .no 1 (a0.Wheel.Coins.map cI)])] (.k (.k .nil)) ?_
 refine r_seq ?_
 refine r_region (n := 8) rfl ?_
 refine o_move (v := .i a1) (by decide) rfl ?_
 refine o_fieldE (cs := [.i a0.Wheel.Round, .sl .no 1 (a0.Wheel.Notches.map cI), .sl .no 1 (a0.Wheel.Coins.map cI)]) (by decide) ty_fo71_0 rfl ?_
 refine o_fieldE (cs := [.i a0.Wheel.Round, .sl .no 1 (a0.Wheel.Notches.map cI), .sl .no 1 (a0.Wheel.Coins.map cI)]) (by decide) ty_fo24_2 rfl ?_
 refine o_loadE (v := .sl .no 1 (a0.Wheel.Coins.map cI)) (by decide) rfl (part_one ty_agg22 ty_sc22 rfl) ?_
 refine o_len (n := a0.Wheel.Coins.length) (by decide) rfl (List.length_map _) ty_isl22 ?_
 refine o_int (v := .i (w64 ((a0.Wheel.Coins.length : Int) - 1))) (by decide) rfl rfl rfl ?_
 obtain ⟨r1, hr1, hM⟩ := bindE hM
 refine o_call (bs := [.i a1, .i 0, .i (w64 ((a0.Wheel.Coins.length : Int) - 1))]) (by decide) rfl rfl ((W_coins_within hr1).le (.k (.k (.k .nil)))) ?_
 refine o_assign (v := .b r1) (by decide) rfl ?_
 refine run_nil ?_
 refine w_next [(4, .b r1)] (.k .nil) ?_
 refine r_ret ?_
 refine w_end (x := .b r1) (f := fun r => .b r) (.inr rfl) ?_ (.refl _) (Option.some.inj hM) hS
 exact (res_one (res_tmp (x := .b r1) rfl))
theorem W_coins_stood_c1_c1 {a0 : Seen} {a1 : Wheel_} {r : Bool} (hM : coins_stood_c1_c1 a0 a1 = some r) : PureSat Try.prog 101 [.agg [.i a0.Kind, .i a0.Plays], .ep [.i a1.Wheel.Round, .sl .no 1 (a1.Wheel.Notches.map cI), .sl .no 1 (a1.Wheel.Coins.map cI)]] (.b r) := by
 refine pure_of_wp mixed Try.func101 rfl (by decide) Try.ntmps101 (by simp) ?pure fun H0 g hf => ?_
 case pure => exact .v _
 rw [frame0_of]
 change wpA _ _ _ _ (Fr.of [(0, .agg [.i a0.Kind, .i a0.Plays]), (1, .ep [.i a1.Wheel.Round, .sl .no 1 (a1.Wheel.Notches.map cI), .sl .no 1 (a1.Wheel.Coins.map cI)])]) H0 g
 have hS := St.start hf
 refine r_seq ?_
 refine r_region (n := 2) rfl ?_
 refine o_box (v := .agg [.i a0.Kind, .i a0.Plays]) (cs := [.i a0.Kind, .i a0.Plays]) hS (by decide) rfl rfl (by omega) fun H hS => ?_
 refine o_assign (v := .b false) (by decide) rfl ?_
 refine run_nil ?_
 refine w_iceE (L' := []) 0 2 hS rfl rfl rfl fun H hS => ?_
 refine w_next [(1, .ep [.i a1.Wheel.Round, .sl .no 1 (a1.Wheel.Notches.map cI), .sl .no 1 (a1.Wheel.Coins.map cI)]), (2, .ep [.i a0.Kind, .i a0.Plays])] (.k (.k .nil)) ?_
 refine w_join (J := Bool) (fun j => [(3, .b j)]) (fun j H' g' => St (· < g) H0 [] H' g' ∧ coins_stood_c1_c1_j1 j = some r) ?_ ?_
 ·rintro v1 H g1 ⟨hS, hM⟩
  change wpA _ _ _ _ (Fr.of [(3, .b v1)]) _ _
  replace hS : St (· < g) H0 [] H g1 := hS
  replace hM : coins_stood_c1_c1_j1 v1 = some r := hM
  refine r_ret ?_
  refine w_end (x := .b v1) (f := fun r => .b r) (.inr rfl) ?_ (.refl _) (Option.some.inj hM) hS
  exact (res_one (res_tmp (x := .b v1) rfl))
 ·refine r_region (n := 10) rfl ?_
  refine o_loadE (v := .agg [.i a1.Wheel.Round, .sl .no 1 (a1.Wheel.Notches.map cI), .sl .no 1 (a1.Wheel.Coins.map cI)]) (by decide) rfl (part_agg ty_agg71 (Nat.le_of_ble_eq_true rfl) rfl) ?_
  refine o_fieldE (cs := [.i a0.Kind, .i a0.Plays]) (by decide) ty_fo50_0 rfl ?_
  refine o_loadE (v := .i a0.Kind) (by decide) rfl (part_one ty_agg3 ty_sc3 rfl) ?_
  obtain ⟨r2, hr2, hM⟩ := bindE hM
  refine o_call (bs := [.agg [.i a1.Wheel.Round, .sl .no 1 (a1.Wheel.Notches.map cI), .sl .no 1 (a1.Wheel.Coins.map cI)], .i a0.Kind]) (by decide) rfl rfl ((W_coins_wheel_isKind hr2).le (.k (.k .nil))) ?_
  refine o_move (v := .b r2) (by decide) rfl ?_
  rcases Bool.eq_false_or_eq_true r2 with hb3 | hb3
  ·replace hM := ifT hM hb3
   refine o_guardY (j := 4) (e := r2) (want := true) rfl hb3 ?_
   refine o_fieldE (cs := [.i a0.Kind, .i a0.Plays]) (by decide) ty_fo50_1 rfl ?_
   refine o_guardY (j := 4) (e := r2) (want := true) rfl hb3 ?_
   refine o_loadE (v := .i a0.Plays) (by decide) rfl (part_one ty_agg3 ty_sc3 rfl) ?_
   refine o_guardY (j := 4) (e := r2) (want := true) rfl hb3 ?_
   obtain ⟨r4, hr4, hM⟩ := bindE hM
   refine o_call (bs := [.i a0.Plays, .i 0, .i 2400]) (by decide) rfl rfl ((W_coins_within hr4).le (.k (.k (.k .nil)))) ?_
   refine o_pickT (v := .b r4) (e := r2) (by decide) rfl hb3 rfl ?_
   refine o_assign (v := .b r4) (by decide) rfl ?_
   refine run_nil ?_
   exact w_goto r4 (.k .nil) ⟨(hS.keep [] rfl).up (by omega), hM⟩
  ·replace hM := ifF hM hb3
   refine o_guardN (j := 4) (e := r2) (want := true) (by decide) rfl hb3 ?_
   refine o_guardN (j := 4) (e := r2) (want := true) (by decide) rfl hb3 ?_
   refine o_guardN (j := 4) (e := r2) (want := true) (by decide) rfl hb3 ?_
   refine o_pickF (v := .b false) (e := r2) (by decide) rfl hb3 rfl ?_
   refine o_assign (v := .b false) (by decide) rfl ?_
   refine run_nil ?_
   exact w_goto false (.k .nil) ⟨(hS.keep [] rfl).up (by omega), hM⟩
theorem W_coins_stood_c1 {n : Nat} {a0 : Wheel_} {a1 : List Seen} {r : Bool} (hM : coins_stood_c1 n a0 a1 = some r) : PureSat Try.prog 99 [.agg [.i a0.Wheel.Round, .sl .no 1 (a0.Wheel.Notches.map cI), .sl .no 1 (a0.Wheel.Coins.map cI)], .ep [.sl .no 2 (a1.map Seen.cells)]] (.b r) := by
 refine pure_of_wp mixed Try.func99 rfl (by decide) Try.ntmps99 (by simp) ?pure fun H0 g hf => ?_
 case pure => exact .v _
 rw [frame0_of]
 change wpA _ _ _ _ (Fr.of [(0, .agg [.i a0.Wheel.Round, .sl .no 1 (a0.Wheel.Notches.map cI), .sl .no 1 (a0.Wheel.Coins.map cI)]), (1, .ep [.sl .no 2 (a1.map Seen.cells)])]) H0 g
 have hS := St.start hf
 refine r_seq ?_
 refine r_region (n := 2) rfl ?_
 refine o_box (v := .agg [.i a0.Wheel.Round, .sl .no 1 (a0.Wheel.Notches.map cI), .sl .no 1 (a0.Wheel.Coins.map cI)]) (cs := [.i a0.Wheel.Round, .sl .no 1 (a0.Wheel.Notches.map cI), .sl .no 1 (a0.Wheel.Coins.map cI)]) hS (by decide) rfl rfl (by omega) fun H hS => ?_
 refine o_assign (v := .b false) (by decide) rfl ?_
 refine run_nil ?_
 refine w_iceE (L' := []) 0 2 hS rfl rfl rfl fun H hS => ?_
 refine w_next [(1, .ep [.sl .no 2 (a1.map Seen.cells)]), (2, .ep [.i a0.Wheel.Round, .sl .no 1 (a0.Wheel.Notches.map cI), .sl .no 1 (a0.Wheel.Coins.map cI)])] (.k (.k .nil)) ?_
 refine r_seq ?_
 refine r_region (n := 4) rfl ?_
 refine o_loadE (v := .sl .no 2 (a1.map Seen.cells)) (by decide) rfl (part_one ty_agg45 ty_sc45 rfl) ?_
 refine o_makeFunc (first := []) (cap := [.ep [.i a0.Wheel.Round, .sl .no 1 (a0.Wheel.Notches.map cI), .sl .no 1 (a0.Wheel.Coins.map cI)]]) (by decide) rfl rfl ?_
 obtain ⟨r1, hr1, hM⟩ := bindE hM
 refine o_call (bs := [.sl .no 2 (a1.map Seen.cells), .fn (.func 101) [] [.ep [.i a0.Wheel.Round, .sl .no 1 (a0.Wheel.Notches.map cI), .sl .no 1 (a0.Wheel.Coins.map cI)]]]) (by decide) rfl rfl (pure_of_hsat ((W_coins_all_apiSeen (Lo := (fun (_ : Unit) => []))  (fun _ _ => kl_nil) (fun _ => List.nodup_nil) (fun _ => inb_nil) (aF := (fun (x0 : Seen) (_ : Unit) => (coins_stood_c1_c1 x0 a0).map fun y => (y, ()))) (fun _ H hH => (.fn _ _ _ ai_nil (ai_cons (.ep _ (ai_cons (show Go.AM.Pure _ from .v _).inH (ai_cons (show Go.AM.Pure _ from .sl _ _ (pures_map (fun x => (pl_cons (.v _) pl_nil)))).inH (ai_cons (show Go.AM.Pure _ from .sl _ _ (pures_map (fun x => (pl_cons (.v _) pl_nil)))).inH ai_nil)))) ai_nil))) rfl (fun h => csat_val (W_coins_stood_c1_c1 (pure_some h))) hr1).le (.k (.k .nil)))) ?_
 refine o_assign (v := .b r1.1) (by decide) rfl ?_
 refine run_nil ?_
 refine w_next [(3, .b r1.1)] (.k .nil) ?_
 refine r_ret ?_
 refine w_end (x := .b r1.1) (f := fun r => .b r) (.inr rfl) ?_ (.refl _) (Option.some.inj hM) hS
 exact (res_one (res_tmp (x := .b r1.1) rfl))
theorem W_coins_wheel_gives {n : Nat} {a0 : Wheel_} {a1 : Int} {a2 : List Seen} {r : Int × Bool} (hM : coins_wheel_gives n a0 a1 a2 = some r) : PureSat Try.prog 103 [.agg [.i a0.Wheel.Round, .sl .no 1 (a0.Wheel.Notches.map cI), .sl .no 1 (a0.Wheel.Coins.map cI)], .i a1, .sl .no 2 (a2.map Seen.cells)] (.tup [.i r.1, .b r.2]) := by
 refine pure_of_wp mixed Try.func103 rfl (by decide) Try.ntmps103 (by simp) ?pure fun H0 g hf => ?_
 case pure => exact .tup _ (pl_cons (.v _) (pl_cons (.v _) pl_nil))
 rw [frame0_of]
 change wpA _ _ _ _ (Fr.of [(0, .agg [.i a0.Wheel.Round, .sl .no 1 (a0.Wheel.Notches.map cI), .sl .no 1 (a0.Wheel.Coins.map cI)]), (1, .i a1), (2, .sl .no 2 (a2.map Seen.cells))]) H0 g
 have hS := St.start hf
 refine r_seq ?_
 refine r_region (n := 3) rfl ?_
 refine o_box (v := .agg [.i a0.Wheel.Round, .sl .no 1 (a0.Wheel.Notches.map cI), .sl .no 1 (a0.Wheel.Coins.map cI)]) (cs := [.i a0.Wheel.Round, .sl .no 1 (a0.Wheel.Notches.map cI), .sl .no 1 (a0.Wheel.Coins.map cI)]) hS (by decide) rfl rfl (by omega) fun H hS => ?_
 refine o_assign (v := .i 0) (by decide) rfl ?_
 refine o_assign (v := .b false) (by decide) rfl ?_
 refine run_nil ?_
 refine w_iceE (L' := []) 0 3 hS rfl rfl rfl fun H hS => ?_
 refine w_next [(1, .i a1), (2, .sl .no 2 (a2.map Seen.cells)), (3, .ep [.i a0.Wheel.Round, .sl .no 1 (a0.Wheel.Notches.map cI), .sl .no 1 (a0.Wheel.Coins.map cI)])] (.k (.k (.k .nil))) ?_
 refine w_join (J := Int) (fun j => [(1, .i j)]) (fun j H' g' => St (· < g) H0 [] H' g' ∧ coins_wheel_gives_j1 j = some r) ?_ ?_
 ·rintro v1 H g1 ⟨hS, hM⟩
  change wpA _ _ _ _ (Fr.of [(1, .i v1)]) _ _
  replace hS : St (· < g) H0 [] H g1 := hS
  replace hM : coins_wheel_gives_j1 v1 = some r := hM
  refine r_seq ?_
  refine r_region (n := 3) rfl ?_
  refine o_move (v := .i v1) (by decide) rfl ?_
  refine o_assign (v := .i v1) (by decide) rfl ?_
  refine o_assign (v := .b true) (by decide) rfl ?_
  refine run_nil ?_
  refine w_next [(6, .i v1), (7, .b true)] (.k (.k .nil)) ?_
  refine r_ret ?_
  refine w_end (x := .tup [.i v1, .b true]) (f := fun r => .tup [.i r.1, .b r.2]) (.inr rfl) ?_ (.refl _) (Option.some.inj hM) hS
  exact (res_two (res_tmp (x := .i v1) rfl) (res_tmp (x := .b true) rfl))
 ·refine r_seq ?_
  refine r_region (n := 3) rfl ?_
  refine o_move (v := .sl .no 2 (a2.map Seen.cells)) (by decide) rfl ?_
  refine o_len (n := a2.length) (by decide) rfl (List.length_map _) ty_isl45 ?_
  refine o_move (v := .i 0) (by decide) rfl ?_
  refine run_nil ?_
  refine w_next [(1, .i a1), (3, .ep [.i a0.Wheel.Round, .sl .no 1 (a0.Wheel.Notches.map cI), .sl .no 1 (a0.Wheel.Coins.map cI)]), (12, .sl .no 2 (a2.map Seen.cells)), (13, .i (a2.length : Int)), (14, .i 0)] (.k (.k (.k (.k (.k .nil))))) ?_
  refine r_block ?_
  refine w_loop (V := Int × Int) (fun v => [(1, .i v.1), (3, .ep [.i a0.Wheel.Round, .sl .no 1 (a0.Wheel.Notches.map cI), .sl .no 1 (a0.Wheel.Coins.map cI)]), (12, .sl .no 2 (a2.map Seen.cells)), (13, .i (a2.length : Int)), (14, .i v.2)]) (fun v m2 H' g' => St (· < g) H0 [] H' g' ∧ coins_wheel_gives_l1 n a0 a2 m2 v.1 v.2 = some r) (n := n) (a1, 0) (.k (.k (.k (.k (.k .nil))))) ⟨(hS.keep [] rfl).up (by omega), hM⟩ ?_
  rintro ⟨v2, v3⟩ m2 H g2 ⟨hS, hM⟩
  obtain _ | m2 := m2
  ·exact nomatch (show none = some _ from hM)
  change wpA _ _ _ _ (Fr.of [(1, .i v2), (3, .ep [.i a0.Wheel.Round, .sl .no 1 (a0.Wheel.Notches.map cI), .sl .no 1 (a0.Wheel.Coins.map cI)]), (12, .sl .no 2 (a2.map Seen.cells)), (13, .i (a2.length : Int)), (14, .i v3)]) _ _
  replace hS : St (· < g) H0 [] H g2 := hS
  replace hM : coins_wheel_gives_l1_b n a0 a2 (coins_wheel_gives_l1 n a0 a2 m2) v2 v3 = some r := hM
  refine r_seq ?_
  refine r_region (n := 1) rfl ?_
  refine o_int (v := .b (decide (v3 < (a2.length : Int)))) (by decide) rfl rfl rfl ?_
  refine run_nil ?_
  refine w_next [(1, .i v2), (3, .ep [.i a0.Wheel.Round, .sl .no 1 (a0.Wheel.Notches.map cI), .sl .no 1 (a0.Wheel.Coins.map cI)]), (12, .sl .no 2 (a2.map Seen.cells)), (13, .i (a2.length : Int)), (14, .i v3), (15, .b (decide (v3 < (a2.length : Int))))] (.k (.k (.k (.k (.k (.k .nil)))))) ?_
  refine r_seq ?_
  rcases Bool.eq_false_or_eq_true (decide (v3 < (a2.length : Int))) with hb4 | hb4
  ·replace hM := ifT hM hb4
   refine w_condT (e := (decide (v3 < (a2.length : Int)))) rfl hb4 ?_
   refine r_skip ?_
   refine w_next [(1, .i v2), (3, .ep [.i a0.Wheel.Round, .sl .no 1 (a0.Wheel.Notches.map cI), .sl .no 1 (a0.Wheel.Coins.map cI)]), (12, .sl .no 2 (a2.map Seen.cells)), (13, .i (a2.length : Int)), (14, .i v3)] (.k (.k (.k (.k (.k .nil))))) ?_
   refine r_seq ?_
   refine r_block ?_
   refine r_seq ?_
   refine r_region (n := 4) rfl ?_
   obtain ⟨x5, hx5, hM⟩ := bindE hM
   refine o_index (xs := a2) (f := Seen.cells) (z := v3) (u := x5) (by decide) rfl rfl ty_es45 hx5 ?_
   refine o_loadE (v := .agg [.i x5.Kind, .i x5.Plays]) (by decide) rfl (part_agg ty_agg50 (Nat.le_of_ble_eq_true rfl) rfl) ?_
   refine o_alloc hS (by decide) ty_zero50 (by omega) fun H hS => ?_
   refine o_store (v := .agg [.i x5.Kind, .i x5.Plays]) (ns := [.i x5.Kind, .i x5.Plays]) (L' := [(g2 + 1 + 2, .cells [.i x5.Kind, .i x5.Plays])]) 0 hS rfl rfl .no rfl rfl ty_var50 (Nat.le_of_ble_eq_true rfl) rfl fun H hS => ?_
   refine run_nil ?_
   refine w_iceE (L' := []) 0 9 hS rfl rfl rfl fun H hS => ?_
   refine w_next [(1, .i v2), (3, .ep [.i a0.Wheel.Round, .sl .no 1 (a0.Wheel.Notches.map cI), .sl .no 1 (a0.Wheel.Coins.map cI)]), (9, .ep [.i x5.Kind, .i x5.Plays]), (12, .sl .no 2 (a2.map Seen.cells)), (13, .i (a2.length : Int)), (14, .i v3)] (.k (.k (.k (.k (.k (.k .nil)))))) ?_
   refine r_seq ?_
   have hS0 := hS
   refine r_draw (n := 15) rfl (by kernel_rfl) ?_
   refine o_loadE (v := .agg [.i a0.Wheel.Round, .sl .no 1 (a0.Wheel.Notches.map cI), .sl .no 1 (a0.Wheel.Coins.map cI)]) (by decide) rfl (part_agg ty_agg71 (Nat.le_of_ble_eq_true rfl) rfl) ?_
   refine o_move (v := .i v2) (by decide) rfl ?_
   refine o_fieldE (cs := [.i a0.Wheel.Round, .sl .no 1 (a0.Wheel.Notches.map cI), .sl .no 1 (a0.Wheel.Coins.map cI)]) (by decide) ty_fo71_0 rfl ?_
   refine o_fieldE (cs := [.i a0.Wheel.Round, .sl .no 1 (a0.Wheel.Notches.map cI), .sl .no 1 (a0.Wheel.Coins.map cI)]) (by decide) ty_fo24_2 rfl ?_
   refine o_loadE (v := .sl .no 1 (a0.Wheel.Coins.map cI)) (by decide) rfl (part_one ty_agg22 ty_sc22 rfl) ?_
   refine o_fieldE (cs := [.i x5.Kind, .i x5.Plays]) (by decide) ty_fo50_0 rfl ?_
   refine o_loadE (v := .i x5.Kind) (by decide) rfl (part_one ty_agg3 ty_sc3 rfl) ?_
   obtain ⟨x6, hx6, hM⟩ := bindE hM
   refine o_index (xs := a0.Wheel.Coins) (f := cI) (z := x5.Kind) (u := x6) (by decide) rfl rfl ty_es22 hx6 ?_
   refine o_loadE (v := .i x6) (by decide) rfl (part_one ty_agg3 ty_sc3 rfl) ?_
   obtain ⟨r7, hr7, hM⟩ := bindE hM
   refine o_call (bs := [.agg [.i a0.Wheel.Round, .sl .no 1 (a0.Wheel.Notches.map cI), .sl .no 1 (a0.Wheel.Coins.map cI)], .i v2, .i x6]) (by decide) rfl rfl ((W_coins_wheel_turn hr7).le (.k (.k (.k .nil)))) ?_
   refine o_move (v := .tup [.i r7.1, .i r7.2]) (by decide) rfl ?_
   refine o_extract (v := .i r7.1) (by decide) rfl rfl ?_
   refine o_extract (v := .i r7.2) (by decide) rfl rfl ?_
   refine o_assign (v := .i r7.1) (by decide) rfl ?_
   refine o_assign (v := .i r7.2) (by decide) rfl ?_
   refine run_nil ?_
   refine w_next [(3, .ep [.i a0.Wheel.Round, .sl .no 1 (a0.Wheel.Notches.map cI), .sl .no 1 (a0.Wheel.Coins.map cI)]), (9, .ep [.i x5.Kind, .i x5.Plays]), (10, .i r7.1), (11, .i r7.2), (12, .sl .no 2 (a2.map Seen.cells)), (13, .i (a2.length : Int)), (14, .i v3)] (.k (.k (.k (.k (.k (.k (.k .nil))))))) ?_
   refine r_seq ?_
   refine r_seq ?_
   refine r_region (n := 4) rfl ?_
   refine o_move (v := .i r7.2) (by decide) rfl ?_
   refine o_fieldE (cs := [.i x5.Kind, .i x5.Plays]) (by decide) ty_fo50_1 rfl ?_
   refine o_loadE (v := .i x5.Plays) (by decide) rfl (part_one ty_agg3 ty_sc3 rfl) ?_
   refine o_int (v := .b (r7.2 != x5.Plays)) (by decide) rfl rfl rfl ?_
   refine run_nil ?_
   refine w_next [(3, .ep [.i a0.Wheel.Round, .sl .no 1 (a0.Wheel.Notches.map cI), .sl .no 1 (a0.Wheel.Coins.map cI)]), (10, .i r7.1), (12, .sl .no 2 (a2.map Seen.cells)), (13, .i (a2.length : Int)), (14, .i v3), (34, .b (r7.2 != x5.Plays))] (.k (.k (.k (.k (.k (.k .nil)))))) ?_
   rcases Bool.eq_false_or_eq_true (r7.2 != x5.Plays) with hb8 | hb8
   ·replace hM := ifT hM hb8
    refine w_condT (e := (r7.2 != x5.Plays)) rfl hb8 ?_
    refine r_seq ?_
    refine r_region (n := 2) rfl ?_
    refine o_assign (v := .i 0) (by decide) rfl ?_
    refine o_assign (v := .b false) (by decide) rfl ?_
    refine run_nil ?_
    refine w_next [(6, .i 0), (7, .b false)] (.k (.k .nil)) ?_
    refine r_ret ?_
    refine r_then_ret ?_
    refine r_blk_ret ?_
    refine r_then_ret ?_
    refine w_round_ret ?_
    refine r_blk_ret ?_
    refine w_goto_ret ?_
    refine w_end (x := .tup [.i 0, .b false]) (f := fun r => .tup [.i r.1, .b r.2]) (.inr rfl) ?_ (.refl _) (Option.some.inj hM) hS
    exact (res_two (res_tmp (x := .i 0) rfl) (res_tmp (x := .b false) rfl))
   ·replace hM := ifF hM hb8
    refine w_condF (e := (r7.2 != x5.Plays)) rfl hb8 ?_
    refine r_skip ?_
    refine w_next [(3, .ep [.i a0.Wheel.Round, .sl .no 1 (a0.Wheel.Notches.map cI), .sl .no 1 (a0.Wheel.Coins.map cI)]), (10, .i r7.1), (12, .sl .no 2 (a2.map Seen.cells)), (13, .i (a2.length : Int)), (14, .i v3)] (.k (.k (.k (.k (.k .nil))))) ?_
    refine r_region (n := 2) rfl ?_
    refine o_move (v := .i r7.1) (by decide) rfl ?_
    refine o_assign (v := .i r7.1) (by decide) rfl ?_
    refine run_nil ?_
    refine r_blk_normal ?_
    refine w_next [(1, .i r7.1), (3, .ep [.i a0.Wheel.Round, .sl .no 1 (a0.Wheel.Notches.map cI), .sl .no 1 (a0.Wheel.Coins.map cI)]), (12, .sl .no 2 (a2.map Seen.cells)), (13, .i (a2.length : Int)), (14, .i v3)] (.k (.k (.k (.k (.k .nil))))) ?_
    refine r_region (n := 2) rfl ?_
    refine o_int (v := .i (w64 (v3 + 1))) (by decide) rfl rfl rfl ?_
    refine o_move (v := .i (w64 (v3 + 1))) (by decide) rfl ?_
    refine run_nil ?_
    exact w_round (r7.1, w64 (v3 + 1)) (Nat.lt_succ_self _) (.k (.k (.k (.k (.k .nil))))) ⟨(hS.keep [] rfl).up (by omega), hM⟩
  ·replace hM := ifF hM hb4
   refine w_condF (e := (decide (v3 < (a2.length : Int)))) rfl hb4 ?_
   refine r_exit ?_
   refine r_then_exit ?_
   refine w_round_exit ?_
   refine r_blk_exit ?_
   exact w_goto v2 (.k .nil) ⟨(hS.keep [] rfl).up (by omega), hM⟩
theorem W_coins_stood_c2 {S : Type} {Lo : S → BL} (hk : ∀ s s', KinL (Lo s) (Lo s')) (hnd : ∀ s, (ids (Lo s)).Nodup) (hin : ∀ s, InB In (Lo s)) {aF : Int → Int → S → Option (Bool × S)} {f0 : AV} (hF : ∀ s H, Has H (Lo s) → In H f0) (h0 : cellsOf f0 = some [f0]) (hf : ∀ {x0 : Int} {x1 : Int} {s : S} {r : Bool × S}, aF x0 x1 s = some r → CSat Try.prog f0 [.i x0, .i x1] (Lo s) (.b r.1) (Lo r.2)) {n : Nat} {a1 : Wheel_} {a2 : List Seen} {st : S} {r : Unit × S} (hM : coins_stood_c2 n aF a1 a2 st = some r) : HSat Try.prog 102 [f0, .ep [.i a1.Wheel.Round, .sl .no 1 (a1.Wheel.Notches.map cI), .sl .no 1 (a1.Wheel.Coins.map cI)], .ep [.sl .no 2 (a2.map Seen.cells)]] (Lo st) (.tup []) (Lo r.2) := by
 have hnd0 : ∀ s, (ids (Lo s)).Nodup := fun s => hnd s
 refine hsat_of_wp mixed Try.func102 rfl (by decide) Try.ntmps102 (by simp) (hk _ _) (hnd st) ?pure ?cells fun H0 g hf_ hp => ?_
 case pure => exact fun H _ => (show Go.AM.Pure _ from .tup _ pl_nil).inH
 case cells => exact hin _
 rw [frame0_of]
 change wpA _ _ _ _ (Fr.of [(0, f0), (1, .ep [.i a1.Wheel.Round, .sl .no 1 (a1.Wheel.Notches.map cI), .sl .no 1 (a1.Wheel.Coins.map cI)]), (2, .ep [.sl .no 2 (a2.map Seen.cells)])]) H0 g
 have hS := St.startH (L := ([] ++ Lo st)) hf_ (hnd st) hp
 replace hS : St (fun i => i < g ∧ i ∉ ids (Lo st)) H0 ([] ++ Lo st) H0 g := hS
 refine r_seq ?_
 refine r_region (n := 4) rfl ?_
 refine o_fieldE (cs := [.i a1.Wheel.Round, .sl .no 1 (a1.Wheel.Notches.map cI), .sl .no 1 (a1.Wheel.Coins.map cI)]) (by decide) ty_fo71_0 rfl ?_
 refine o_fieldE (cs := [.i a1.Wheel.Round, .sl .no 1 (a1.Wheel.Notches.map cI), .sl .no 1 (a1.Wheel.Coins.map cI)]) (by decide) ty_fo24_0 rfl ?_
 refine o_loadE (v := .i a1.Wheel.Round) (by decide) rfl (part_one ty_agg3 ty_sc3 rfl) ?_
 refine o_move (v := .i 0) (by decide) rfl ?_
 refine run_nil ?_
 refine w_next [(0, f0), (1, .ep [.i a1.Wheel.Round, .sl .no 1 (a1.Wheel.Notches.map cI), .sl .no 1 (a1.Wheel.Coins.map cI)]), (2, .ep [.sl .no 2 (a2.map Seen.cells)]), (9, .i a1.Wheel.Round), (10, .i 0)] (.k (.k (.k (.k (.k .nil))))) ?_
 refine r_block ?_
 refine w_loop (V := Int × S) (fun v => [(0, f0), (1, .ep [.i a1.Wheel.Round, .sl .no 1 (a1.Wheel.Notches.map cI), .sl .no 1 (a1.Wheel.Coins.map cI)]), (2, .ep [.sl .no 2 (a2.map Seen.cells)]), (9, .i a1.Wheel.Round), (10, .i v.1)]) (fun v m2 H' g' => St (fun i => i < g ∧ i ∉ ids (Lo st)) H0 ([] ++ Lo v.2) H' g' ∧ coins_stood_c2_l1 n aF a1 a2 m2 v.1 v.2 = some r) (n := n) (0, st) (.k (.k (.k (.k (.k .nil))))) ⟨(hS.keep [] rfl).up (by omega), hM⟩ ?_
 rintro ⟨v2, v3⟩ m2 H g2 ⟨hS, hM⟩
 obtain _ | m2 := m2
 ·exact nomatch (show none = some _ from hM)
 change wpA _ _ _ _ (Fr.of [(0, f0), (1, .ep [.i a1.Wheel.Round, .sl .no 1 (a1.Wheel.Notches.map cI), .sl .no 1 (a1.Wheel.Coins.map cI)]), (2, .ep [.sl .no 2 (a2.map Seen.cells)]), (9, .i a1.Wheel.Round), (10, .i v2)]) _ _
 replace hS : St (fun i => i < g ∧ i ∉ ids (Lo st)) H0 ([] ++ Lo v3) H g2 := hS
 replace hM : coins_stood_c2_l1_b n aF a1 a2 (coins_stood_c2_l1 n aF a1 a2 m2) v2 v3 = some r := hM
 refine r_seq ?_
 refine r_region (n := 1) rfl ?_
 refine o_int (v := .b (decide (v2 < a1.Wheel.Round))) (by decide) rfl rfl rfl ?_
 refine run_nil ?_
 refine w_next [(0, f0), (1, .ep [.i a1.Wheel.Round, .sl .no 1 (a1.Wheel.Notches.map cI), .sl .no 1 (a1.Wheel.Coins.map cI)]), (2, .ep [.sl .no 2 (a2.map Seen.cells)]), (9, .i a1.Wheel.Round), (10, .i v2), (11, .b (decide (v2 < a1.Wheel.Round)))] (.k (.k (.k (.k (.k (.k .nil)))))) ?_
 refine r_seq ?_
 rcases Bool.eq_false_or_eq_true (decide (v2 < a1.Wheel.Round)) with hb4 | hb4
 ·replace hM := ifT hM hb4
  refine w_condT (e := (decide (v2 < a1.Wheel.Round))) rfl hb4 ?_
  refine r_skip ?_
  refine w_next [(0, f0), (1, .ep [.i a1.Wheel.Round, .sl .no 1 (a1.Wheel.Notches.map cI), .sl .no 1 (a1.Wheel.Coins.map cI)]), (2, .ep [.sl .no 2 (a2.map Seen.cells)]), (9, .i a1.Wheel.Round), (10, .i v2)] (.k (.k (.k (.k (.k .nil))))) ?_
  refine r_seq ?_
  refine r_block ?_
  refine r_seq ?_
  refine r_region (n := 2) rfl ?_
  refine o_move (v := .i v2) (by decide) rfl ?_
  refine o_assign (v := .i v2) (by decide) rfl ?_
  refine run_nil ?_
  refine w_next [(0, f0), (1, .ep [.i a1.Wheel.Round, .sl .no 1 (a1.Wheel.Notches.map cI), .sl .no 1 (a1.Wheel.Coins.map cI)]), (2, .ep [.sl .no 2 (a2.map Seen.cells)]), (4, .i v2), (9, .i a1.Wheel.Round), (10, .i v2)] (.k (.k (.k (.k (.k (.k .nil)))))) ?_
  refine r_seq ?_
  refine r_region (n := 9) rfl ?_
  refine o_loadE (v := .agg [.i a1.Wheel.Round, .sl .no 1 (a1.Wheel.Notches.map cI), .sl .no 1 (a1.Wheel.Coins.map cI)]) (by decide) rfl (part_agg ty_agg71 (Nat.le_of_ble_eq_true rfl) rfl) ?_
  refine o_move (v := .i v2) (by decide) rfl ?_
  refine o_loadE (v := .sl .no 2 (a2.map Seen.cells)) (by decide) rfl (part_one ty_agg45 ty_sc45 rfl) ?_
  obtain ⟨r5, hr5, hM⟩ := bindE hM
  refine o_call (bs := [.agg [.i a1.Wheel.Round, .sl .no 1 (a1.Wheel.Notches.map cI), .sl .no 1 (a1.Wheel.Coins.map cI)], .i v2, .sl .no 2 (a2.map Seen.cells)]) (by decide) rfl rfl ((W_coins_wheel_gives hr5).le (.k (.k (.k .nil)))) ?_
  refine o_move (v := .tup [.i r5.1, .b r5.2]) (by decide) rfl ?_
  refine o_extract (v := .i r5.1) (by decide) rfl rfl ?_
  refine o_extract (v := .b r5.2) (by decide) rfl rfl ?_
  refine o_assign (v := .i r5.1) (by decide) rfl ?_
  refine o_assign (v := .b r5.2) (by decide) rfl ?_
  refine run_nil ?_
  refine w_next [(0, f0), (1, .ep [.i a1.Wheel.Round, .sl .no 1 (a1.Wheel.Notches.map cI), .sl .no 1 (a1.Wheel.Coins.map cI)]), (2, .ep [.sl .no 2 (a2.map Seen.cells)]), (4, .i v2), (5, .i r5.1), (6, .b r5.2), (9, .i a1.Wheel.Round), (10, .i v2)] (.k (.k (.k (.k (.k (.k (.k (.k .nil)))))))) ?_
  refine w_join (J := Bool × S) (fun j => [(0, f0), (1, .ep [.i a1.Wheel.Round, .sl .no 1 (a1.Wheel.Notches.map cI), .sl .no 1 (a1.Wheel.Coins.map cI)]), (2, .ep [.sl .no 2 (a2.map Seen.cells)]), (9, .i a1.Wheel.Round), (10, .i v2), (27, .b j.1)]) (fun j H' g' => St (fun i => i < g ∧ i ∉ ids (Lo st)) H0 ([] ++ Lo j.2) H' g' ∧ coins_stood_c2_j1 (coins_stood_c2_l1 n aF a1 a2 m2) v2 j.1 j.2 = some r) ?_ ?_
  ·rintro ⟨v6, v7⟩ H g3 ⟨hS, hM⟩
   change wpA _ _ _ _ (Fr.of [(0, f0), (1, .ep [.i a1.Wheel.Round, .sl .no 1 (a1.Wheel.Notches.map cI), .sl .no 1 (a1.Wheel.Coins.map cI)]), (2, .ep [.sl .no 2 (a2.map Seen.cells)]), (9, .i a1.Wheel.Round), (10, .i v2), (27, .b v6)]) _ _
   replace hS : St (fun i => i < g ∧ i ∉ ids (Lo st)) H0 ([] ++ Lo v7) H g3 := hS
   replace hM : coins_stood_c2_j1 (coins_stood_c2_l1 n aF a1 a2 m2) v2 v6 v7 = some r := hM
   rcases Bool.eq_false_or_eq_true v6 with hb8 | hb8
   ·replace hM := ifT hM hb8
    refine w_condT (e := v6) rfl hb8 ?_
    refine r_ret ?_
    refine r_blk_ret ?_
    refine r_then_ret ?_
    refine w_round_ret ?_
    refine r_blk_ret ?_
    refine w_endS (x := .tup []) (f := fun r => .tup []) (fd := fun r => (Lo r.2)) (.inr rfl) ?_ (.refl _) (Option.some.inj hM) hS 0 rfl
    exact rfl
   ·replace hM := ifF hM hb8
    refine w_condF (e := v6) rfl hb8 ?_
    refine r_skip ?_
    refine r_blk_normal ?_
    refine w_next [(0, f0), (1, .ep [.i a1.Wheel.Round, .sl .no 1 (a1.Wheel.Notches.map cI), .sl .no 1 (a1.Wheel.Coins.map cI)]), (2, .ep [.sl .no 2 (a2.map Seen.cells)]), (9, .i a1.Wheel.Round), (10, .i v2)] (.k (.k (.k (.k (.k .nil))))) ?_
    refine r_region (n := 2) rfl ?_
    refine o_int (v := .i (w64 (v2 + 1))) (by decide) rfl rfl rfl ?_
    refine o_move (v := .i (w64 (v2 + 1))) (by decide) rfl ?_
    refine run_nil ?_
    exact w_round (w64 (v2 + 1), v7) (Nat.lt_succ_self _) (.k (.k (.k (.k (.k .nil))))) ⟨(hS.keep [] rfl).up (by omega), hM⟩
  ·refine r_region (n := 8) rfl ?_
   refine o_move (v := .b r5.2) (by decide) rfl ?_
   refine o_move (v := .b r5.2) (by decide) rfl ?_
   rcases Bool.eq_false_or_eq_true r5.2 with hb9 | hb9
   ·replace hM := ifT hM hb9
    refine o_guardY (j := 1) (e := r5.2) (want := true) rfl hb9 ?_
    refine o_move (v := f0) (by decide) rfl ?_
    refine o_guardY (j := 1) (e := r5.2) (want := true) rfl hb9 ?_
    refine o_move (v := .i v2) (by decide) rfl ?_
    refine o_guardY (j := 1) (e := r5.2) (want := true) rfl hb9 ?_
    refine o_move (v := .i r5.1) (by decide) rfl ?_
    refine o_guardY (j := 1) (e := r5.2) (want := true) rfl hb9 ?_
    obtain ⟨r10, hr10, hM⟩ := bindE hM
    replace hS : St (fun i => i < g ∧ i ∉ ids (Lo st)) H0 ([] ++ Lo v3) _ _ := hS
    refine o_state (bs := [.i v2, .i r5.1]) (.inl rfl) hS (by decide) rfl rfl ((hf hr10).le (.k (.k .nil))) (hk _ _).ids (by omega) fun H hS => ?_
    refine o_guardY (j := 1) (e := r5.2) (want := true) rfl hb9 ?_
    refine o_not (e := r10.1) (by decide) rfl ?_
    refine o_pickT (v := .b (!r10.1)) (e := r5.2) (by decide) rfl hb9 rfl ?_
    refine run_nil ?_
    exact w_goto ((!r10.1), r10.2) (.k (.k (.k (.k (.k (.k .nil)))))) ⟨(hS.keep [] rfl).up (by omega), hM⟩
   ·replace hM := ifF hM hb9
    refine o_guardN (j := 1) (e := r5.2) (want := true) (by decide) rfl hb9 ?_
    refine o_guardN (j := 1) (e := r5.2) (want := true) (by decide) rfl hb9 ?_
    refine o_guardN (j := 1) (e := r5.2) (want := true) (by decide) rfl hb9 ?_
    refine o_guardN (j := 1) (e := r5.2) (want := true) (by decide) rfl hb9 ?_
    refine o_guardN (j := 1) (e := r5.2) (want := true) (by decide) rfl hb9 ?_
    refine o_pickF (v := .b false) (e := r5.2) (by decide) rfl hb9 rfl ?_
    refine run_nil ?_
    exact w_goto (false, v3) (.k (.k (.k (.k (.k (.k .nil)))))) ⟨(hS.keep [] rfl).up (by omega), hM⟩
 ·replace hM := ifF hM hb4
  refine w_condF (e := (decide (v2 < a1.Wheel.Round))) rfl hb4 ?_
  refine r_exit ?_
  refine r_then_exit ?_
  refine w_round_exit ?_
  refine r_blk_exit ?_
  refine w_endS (x := .tup []) (f := fun r => .tup []) (fd := fun r => (Lo r.2)) (.inl rfl) ?_ (.refl _) (Option.some.inj hM) hS 0 rfl
  exact rfl
theorem W_coins_stood {n : Nat} {a0 : Wheel} {a1 : List Seen} {r : (Option (Wheel_ × (List Seen))) × Int} (hM : coins_stood n a0 a1 = some r) : PureSat Try.prog 67 [.agg [.i a0.Round, .sl .no 1 (a0.Notches.map cI), .sl .no 1 (a0.Coins.map cI)], .sl .no 2 (a1.map Seen.cells)] (.tup [fA (fun x => .fn (.func 102) [] [.ep [.i x.1.Wheel.Round, .sl .no 1 (x.1.Wheel.Notches.map cI), .sl .no 1 (x.1.Wheel.Coins.map cI)], .ep [.sl .no 2 (x.2.map Seen.cells)]]) r.1, .i r.2]) := by
 refine pure_of_wp mixed Try.func67 rfl (by decide) Try.ntmps67 (by simp) ?pure fun H0 g hf => ?_
 case pure => exact .tup _ (pl_cons (pure_fA (fun x => .fn _ _ _ pl_nil (pl_cons (.ep _ (pl_cons (.v _) (pl_cons (.sl _ _ (pures_map (fun x => (pl_cons (.v _) pl_nil)))) (pl_cons (.sl _ _ (pures_map (fun x => (pl_cons (.v _) pl_nil)))) pl_nil)))) (pl_cons (.ep _ (pl_cons (.sl _ _ (pures_map (fun x => (pl_cons (.v _) (pl_cons (.v _) pl_nil))))) pl_nil)) pl_nil))) _) (pl_cons (.v _) pl_nil))
 rw [frame0_of]
 change wpA _ _ _ _ (Fr.of [(0, .agg [.i a0.Round, .sl .no 1 (a0.Notches.map cI), .sl .no 1 (a0.Coins.map cI)]), (1, .sl .no 2 (a1.map Seen.cells))]) H0 g
 have hS := St.start hf
 refine r_seq ?_
 refine r_region (n := 4) rfl ?_
 refine o_box (v := .agg [.i a0.Round, .sl .no 1 (a0.Notches.map cI), .sl .no 1 (a0.Coins.map cI)]) (cs := [.i a0.Round, .sl .no 1 (a0.Notches.map cI), .sl .no 1 (a0.Coins.map cI)]) hS (by decide) rfl rfl (by omega) fun H hS => ?_
 refine o_box (v := .sl .no 2 (a1.map Seen.cells)) (cs := [.sl .no 2 (a1.map Seen.cells)]) hS (by decide) rfl rfl (by omega) fun H hS => ?_
 refine o_alloc hS (by decide) ty_zero95 (by omega) fun H hS => ?_
 refine o_alloc hS (by decide) ty_zero28 (by omega) fun H hS => ?_
 refine run_nil ?_
 refine w_iceE (L' := [(g + 3, .cells [.i 0]), (g + 2, .cells [fA (fun x => .fn (.func 102) [] [.ep [.i x.1.Wheel.Round, .sl .no 1 (x.1.Wheel.Notches.map cI), .sl .no 1 (x.1.Wheel.Coins.map cI)], .ep [.sl .no 2 (x.2.map Seen.cells)]]) (none : Option (Wheel_ × (List Seen)))]), (g + 1, .cells [.sl .no 2 (a1.map Seen.cells)])]) 3 2 hS rfl rfl rfl fun H hS => ?_
 refine w_iceE (L' := [(g + 3, .cells [.i 0]), (g + 2, .cells [fA (fun x => .fn (.func 102) [] [.ep [.i x.1.Wheel.Round, .sl .no 1 (x.1.Wheel.Notches.map cI), .sl .no 1 (x.1.Wheel.Coins.map cI)], .ep [.sl .no 2 (x.2.map Seen.cells)]]) (none : Option (Wheel_ × (List Seen)))])]) 2 3 hS rfl rfl rfl fun H hS => ?_
 refine w_next [(2, .ep [.i a0.Round, .sl .no 1 (a0.Notches.map cI), .sl .no 1 (a0.Coins.map cI)]), (3, .ep [.sl .no 2 (a1.map Seen.cells)]), (4, .ptr (g + 2) 0), (5, .ptr (g + 3) 0)] (.k (.k (.k (.k .nil)))) ?_
 refine r_seq ?_
 refine r_region (n := 9) rfl ?_
 refine o_loadE (v := .agg [.i a0.Round, .sl .no 1 (a0.Notches.map cI), .sl .no 1 (a0.Coins.map cI)]) (by decide) rfl (part_agg ty_agg24 (Nat.le_of_ble_eq_true rfl) rfl) ?_
 refine o_makeFunc (first := []) (cap := [.ep [.sl .no 2 (a1.map Seen.cells)]]) (by decide) rfl rfl ?_
 obtain ⟨r1, hr1, hM⟩ := bindE hM
 refine o_call (bs := [.agg [.i a0.Round, .sl .no 1 (a0.Notches.map cI), .sl .no 1 (a0.Coins.map cI)], .fn (.func 99) [] [.ep [.sl .no 2 (a1.map Seen.cells)]]]) (by decide) rfl rfl (pure_of_hsat ((W_coins_open (Lo := (fun (_ : Unit) => []))  (fun _ _ => kl_nil) (fun _ => List.nodup_nil) (fun _ => inb_nil) (aF := (fun (x0 : Wheel_) (_ : Unit) => (coins_stood_c1 n x0 a1).map fun y => (y, ()))) (fun _ H hH => (.fn _ _ _ ai_nil (ai_cons (.ep _ (ai_cons (show Go.AM.Pure _ from .sl _ _ (pures_map (fun x => (pl_cons (.v _) (pl_cons (.v _) pl_nil))))).inH ai_nil)) ai_nil))) rfl (fun h => csat_val (W_coins_stood_c1 (pure_some h))) hr1).le (.k (.k .nil)))) ?_
 refine o_move (v := .tup [.agg [.i r1.1.1.Wheel.Round, .sl .no 1 (r1.1.1.Wheel.Notches.map cI), .sl .no 1 (r1.1.1.Wheel.Coins.map cI)], .i r1.1.2]) (by decide) rfl ?_
 refine o_extract (v := .agg [.i r1.1.1.Wheel.Round, .sl .no 1 (r1.1.1.Wheel.Notches.map cI), .sl .no 1 (r1.1.1.Wheel.Coins.map cI)]) (by decide) rfl rfl ?_
 refine o_extract (v := .i r1.1.2) (by decide) rfl rfl ?_
 refine o_alloc hS (by decide) ty_zero71 (by omega) fun H hS => ?_
 refine o_store (v := .agg [.i r1.1.1.Wheel.Round, .sl .no 1 (r1.1.1.Wheel.Notches.map cI), .sl .no 1 (r1.1.1.Wheel.Coins.map cI)]) (ns := [.i r1.1.1.Wheel.Round, .sl .no 1 (r1.1.1.Wheel.Notches.map cI), .sl .no 1 (r1.1.1.Wheel.Coins.map cI)]) (L' := [(g + 4 + 6, .cells [.i r1.1.1.Wheel.Round, .sl .no 1 (r1.1.1.Wheel.Notches.map cI), .sl .no 1 (r1.1.1.Wheel.Coins.map cI)]), (g + 3, .cells [.i 0]), (g + 2, .cells [fA (fun x => .fn (.func 102) [] [.ep [.i x.1.Wheel.Round, .sl .no 1 (x.1.Wheel.Notches.map cI), .sl .no 1 (x.1.Wheel.Coins.map cI)], .ep [.sl .no 2 (x.2.map Seen.cells)]]) (none : Option (Wheel_ × (List Seen)))])]) 0 hS rfl rfl .no rfl rfl ty_var71 (Nat.le_of_ble_eq_true rfl) rfl fun H hS => ?_
 refine o_assign (v := .i r1.1.2) (by decide) rfl ?_
 refine run_nil ?_
 refine w_iceE (L' := [(g + 3, .cells [.i 0]), (g + 2, .cells [fA (fun x => .fn (.func 102) [] [.ep [.i x.1.Wheel.Round, .sl .no 1 (x.1.Wheel.Notches.map cI), .sl .no 1 (x.1.Wheel.Coins.map cI)], .ep [.sl .no 2 (x.2.map Seen.cells)]]) (none : Option (Wheel_ × (List Seen)))])]) 0 6 hS rfl rfl rfl fun H hS => ?_
 refine w_next [(3, .ep [.sl .no 2 (a1.map Seen.cells)]), (4, .ptr (g + 2) 0), (5, .ptr (g + 3) 0), (6, .ep [.i r1.1.1.Wheel.Round, .sl .no 1 (r1.1.1.Wheel.Notches.map cI), .sl .no 1 (r1.1.1.Wheel.Coins.map cI)]), (7, .i r1.1.2)] (.k (.k (.k (.k (.k .nil))))) ?_
 refine r_seq ?_
 refine r_region (n := 3) rfl ?_
 refine o_makeFunc (first := []) (cap := [.ep [.i r1.1.1.Wheel.Round, .sl .no 1 (r1.1.1.Wheel.Notches.map cI), .sl .no 1 (r1.1.1.Wheel.Coins.map cI)], .ep [.sl .no 2 (a1.map Seen.cells)]]) (by decide) rfl rfl ?_
 refine o_alloc hS (by decide) ty_zero95 (by omega) fun H hS => ?_
 refine o_store (v := fA (fun x => .fn (.func 102) [] [.ep [.i x.1.Wheel.Round, .sl .no 1 (x.1.Wheel.Notches.map cI), .sl .no 1 (x.1.Wheel.Coins.map cI)], .ep [.sl .no 2 (x.2.map Seen.cells)]]) (some (r1.1.1, a1))) (ns := [fA (fun x => .fn (.func 102) [] [.ep [.i x.1.Wheel.Round, .sl .no 1 (x.1.Wheel.Notches.map cI), .sl .no 1 (x.1.Wheel.Coins.map cI)], .ep [.sl .no 2 (x.2.map Seen.cells)]]) (some (r1.1.1, a1))]) (L' := [(g + 4 + 9 + 1, .cells [fA (fun x => .fn (.func 102) [] [.ep [.i x.1.Wheel.Round, .sl .no 1 (x.1.Wheel.Notches.map cI), .sl .no 1 (x.1.Wheel.Coins.map cI)], .ep [.sl .no 2 (x.2.map Seen.cells)]]) (some (r1.1.1, a1))]), (g + 3, .cells [.i 0]), (g + 2, .cells [fA (fun x => .fn (.func 102) [] [.ep [.i x.1.Wheel.Round, .sl .no 1 (x.1.Wheel.Notches.map cI), .sl .no 1 (x.1.Wheel.Coins.map cI)], .ep [.sl .no 2 (x.2.map Seen.cells)]]) (none : Option (Wheel_ × (List Seen)))])]) 0 hS rfl rfl .no rfl (cellsOf_fA (fun _ => rfl) _) ty_var95 (Nat.le_of_ble_eq_true rfl) rfl fun H hS => ?_
 refine run_nil ?_
 refine w_iceE (L' := [(g + 3, .cells [.i 0]), (g + 2, .cells [fA (fun x => .fn (.func 102) [] [.ep [.i x.1.Wheel.Round, .sl .no 1 (x.1.Wheel.Notches.map cI), .sl .no 1 (x.1.Wheel.Coins.map cI)], .ep [.sl .no 2 (x.2.map Seen.cells)]]) (none : Option (Wheel_ × (List Seen)))])]) 0 8 hS rfl rfl rfl fun H hS => ?_
 refine w_next [(4, .ptr (g + 2) 0), (5, .ptr (g + 3) 0), (7, .i r1.1.2), (8, .ep [fA (fun x => .fn (.func 102) [] [.ep [.i x.1.Wheel.Round, .sl .no 1 (x.1.Wheel.Notches.map cI), .sl .no 1 (x.1.Wheel.Coins.map cI)], .ep [.sl .no 2 (x.2.map Seen.cells)]]) (some (r1.1.1, a1))])] (.k (.k (.k (.k .nil)))) ?_
 refine r_seq ?_
 refine r_seq ?_
 refine r_region (n := 2) rfl ?_
 refine o_move (v := .i r1.1.2) (by decide) rfl ?_
 refine o_int (v := .b (r1.1.2 != 0)) (by decide) rfl rfl rfl ?_
 refine run_nil ?_
 refine w_next [(4, .ptr (g + 2) 0), (5, .ptr (g + 3) 0), (7, .i r1.1.2), (8, .ep [fA (fun x => .fn (.func 102) [] [.ep [.i x.1.Wheel.Round, .sl .no 1 (x.1.Wheel.Notches.map cI), .sl .no 1 (x.1.Wheel.Coins.map cI)], .ep [.sl .no 2 (x.2.map Seen.cells)]]) (some (r1.1.1, a1))]), (17, .b (r1.1.2 != 0))] (.k (.k (.k (.k (.k .nil))))) ?_
 rcases Bool.eq_false_or_eq_true (r1.1.2 != 0) with hb2 | hb2
 ·replace hM := ifT hM hb2
  refine w_condT (e := (r1.1.2 != 0)) rfl hb2 ?_
  refine r_seq ?_
  refine r_region (n := 3) rfl ?_
  refine o_move (v := .i r1.1.2) (by decide) rfl ?_
  refine o_store (v := fA (fun x => .fn (.func 102) [] [.ep [.i x.1.Wheel.Round, .sl .no 1 (x.1.Wheel.Notches.map cI), .sl .no 1 (x.1.Wheel.Coins.map cI)], .ep [.sl .no 2 (x.2.map Seen.cells)]]) (none : Option (Wheel_ × (List Seen)))) (ns := [fA (fun x => .fn (.func 102) [] [.ep [.i x.1.Wheel.Round, .sl .no 1 (x.1.Wheel.Notches.map cI), .sl .no 1 (x.1.Wheel.Coins.map cI)], .ep [.sl .no 2 (x.2.map Seen.cells)]]) (none : Option (Wheel_ × (List Seen)))]) (L' := [(g + 3, .cells [.i 0]), (g + 2, .cells [fA (fun x => .fn (.func 102) [] [.ep [.i x.1.Wheel.Round, .sl .no 1 (x.1.Wheel.Notches.map cI), .sl .no 1 (x.1.Wheel.Coins.map cI)], .ep [.sl .no 2 (x.2.map Seen.cells)]]) (none : Option (Wheel_ × (List Seen)))])]) 1 hS rfl rfl .no rfl (cellsOf_fA (fun _ => rfl) _) ty_var95 (Nat.le_of_ble_eq_true rfl) rfl fun H hS => ?_
  refine o_store (v := .i r1.1.2) (ns := [.i r1.1.2]) (L' := [(g + 3, .cells [.i r1.1.2]), (g + 2, .cells [fA (fun x => .fn (.func 102) [] [.ep [.i x.1.Wheel.Round, .sl .no 1 (x.1.Wheel.Notches.map cI), .sl .no 1 (x.1.Wheel.Coins.map cI)], .ep [.sl .no 2 (x.2.map Seen.cells)]]) (none : Option (Wheel_ × (List Seen)))])]) 0 hS rfl rfl .no rfl rfl ty_var28 (Nat.le_of_ble_eq_true rfl) rfl fun H hS => ?_
  refine run_nil ?_
  refine w_next [(4, .ptr (g + 2) 0), (5, .ptr (g + 3) 0)] (.k (.k .nil)) ?_
  refine r_ret ?_
  refine r_then_ret ?_
  refine w_end (x := .tup [fA (fun x => .fn (.func 102) [] [.ep [.i x.1.Wheel.Round, .sl .no 1 (x.1.Wheel.Notches.map cI), .sl .no 1 (x.1.Wheel.Coins.map cI)], .ep [.sl .no 2 (x.2.map Seen.cells)]]) (none : Option (Wheel_ × (List Seen))), .i r1.1.2]) (f := fun r => .tup [fA (fun x => .fn (.func 102) [] [.ep [.i x.1.Wheel.Round, .sl .no 1 (x.1.Wheel.Notches.map cI), .sl .no 1 (x.1.Wheel.Coins.map cI)], .ep [.sl .no 2 (x.2.map Seen.cells)]]) r.1, .i r.2]) (.inr rfl) ?_ (.refl _) (Option.some.inj hM) hS
  exact (res_two (res_cell (x := fA (fun x => .fn (.func 102) [] [.ep [.i x.1.Wheel.Round, .sl .no 1 (x.1.Wheel.Notches.map cI), .sl .no 1 (x.1.Wheel.Coins.map cI)], .ep [.sl .no 2 (x.2.map Seen.cells)]]) (none : Option (Wheel_ × (List Seen)))) 1 hS rfl rfl (part_one ty_agg95 ty_sc95 rfl)) (res_cell (x := .i r1.1.2) 0 hS rfl rfl (part_one ty_agg28 ty_sc28 rfl)))
 ·replace hM := ifF hM hb2
  refine w_condF (e := (r1.1.2 != 0)) rfl hb2 ?_
  refine r_skip ?_
  refine w_next [(4, .ptr (g + 2) 0), (5, .ptr (g + 3) 0), (8, .ep [fA (fun x => .fn (.func 102) [] [.ep [.i x.1.Wheel.Round, .sl .no 1 (x.1.Wheel.Notches.map cI), .sl .no 1 (x.1.Wheel.Coins.map cI)], .ep [.sl .no 2 (x.2.map Seen.cells)]]) (some (r1.1.1, a1))])] (.k (.k (.k .nil))) ?_
  refine r_seq ?_
  refine r_seq ?_
  refine r_region (n := 1) rfl ?_
  refine o_loadE (v := fA (fun x => .fn (.func 102) [] [.ep [.i x.1.Wheel.Round, .sl .no 1 (x.1.Wheel.Notches.map cI), .sl .no 1 (x.1.Wheel.Coins.map cI)], .ep [.sl .no 2 (x.2.map Seen.cells)]]) (some (r1.1.1, a1))) (by decide) rfl (part_one ty_agg95 ty_sc95 rfl) ?_
  refine run_nil ?_
  refine w_next [(4, .ptr (g + 2) 0), (5, .ptr (g + 3) 0), (8, .ep [fA (fun x => .fn (.func 102) [] [.ep [.i x.1.Wheel.Round, .sl .no 1 (x.1.Wheel.Notches.map cI), .sl .no 1 (x.1.Wheel.Coins.map cI)], .ep [.sl .no 2 (x.2.map Seen.cells)]]) (some (r1.1.1, a1))]), (19, fA (fun x => .fn (.func 102) [] [.ep [.i x.1.Wheel.Round, .sl .no 1 (x.1.Wheel.Notches.map cI), .sl .no 1 (x.1.Wheel.Coins.map cI)], .ep [.sl .no 2 (x.2.map Seen.cells)]]) (some (r1.1.1, a1)))] (.k (.k (.k (.k .nil)))) ?_
  refine r_block ?_
  obtain ⟨r4, hr4, hM⟩ := bindE hM
  refine w_rangeRD (Lo := fun s : (Option (Wheel_ × (List Seen))) × Bool => [(g + 3, .cells [.i 0]), (g + 2, .cells [fA (fun x => .fn (.func 102) [] [.ep [.i x.1.Wheel.Round, .sl .no 1 (x.1.Wheel.Notches.map cI), .sl .no 1 (x.1.Wheel.Coins.map cI)], .ep [.sl .no 2 (x.2.map Seen.cells)]]) s.1])]) (fl := (fun s => s.2)) (R := fun x x2 s b s' => ∃ y yy, x = .i y ∧ x2 = .i yy ∧ coins_stood_r1 a1 r1 y yy s = some (b, s')) (s0 := ((none : Option (Wheel_ × (List Seen))), false)) (sF := r4.2) (A := []) (A' := []) (L' := [(g + 3, .cells [.i 0]), (g + 2, .cells [fA (fun x => .fn (.func 102) [] [.ep [.i x.1.Wheel.Round, .sl .no 1 (x.1.Wheel.Notches.map cI), .sl .no 1 (x.1.Wheel.Coins.map cI)], .ep [.sl .no 2 (x.2.map Seen.cells)]]) r4.2.1])]) [(4, .ptr (g + 2) 0), (5, .ptr (g + 3) 0), (8, .ep [fA (fun x => .fn (.func 102) [] [.ep [.i x.1.Wheel.Round, .sl .no 1 (x.1.Wheel.Notches.map cI), .sl .no 1 (x.1.Wheel.Coins.map cI)], .ep [.sl .no 2 (x.2.map Seen.cells)]]) (some (r1.1.1, a1))])] [0, 1] hS (by omega) rfl rfl rfl rfl (.cons rfl (.cons rfl .nil)) (by decide) rfl kl_nil (fun _ _ => (kl_cells (kl_cells kl_nil))) (fun s => (inb_st (ic_cells (ci_cons (.inl (.inl (.v _))) ci_nil) (ic_cells (ci_cons (.inl (.inl (pure_fA (fun x => .fn _ _ _ pl_nil (pl_cons (.ep _ (pl_cons (.v _) (pl_cons (.sl _ _ (pures_map (fun x => (pl_cons (.v _) pl_nil)))) (pl_cons (.sl _ _ (pures_map (fun x => (pl_cons (.v _) pl_nil)))) pl_nil)))) (pl_cons (.ep _ (pl_cons (.sl _ _ (pures_map (fun x => (pl_cons (.v _) (pl_cons (.v _) pl_nil))))) pl_nil)) pl_nil))) _))) ci_nil) ic_nil)) inb_nil)) (fun s H hH => (ai_cons (in_ptr hH 1 rfl) (ai_cons (in_ptr hH 0 rfl) (ai_cons (.ep _ (ai_cons (show Go.AM.Pure _ from pure_fA (fun x => .fn _ _ _ pl_nil (pl_cons (.ep _ (pl_cons (.v _) (pl_cons (.sl _ _ (pures_map (fun x => (pl_cons (.v _) pl_nil)))) (pl_cons (.sl _ _ (pures_map (fun x => (pl_cons (.v _) pl_nil)))) pl_nil)))) (pl_cons (.ep _ (pl_cons (.sl _ _ (pures_map (fun x => (pl_cons (.v _) (pl_cons (.v _) pl_nil))))) pl_nil)) pl_nil))) _).inH ai_nil)) ai_nil)))) (.k (.k (.k .nil))) rfl (by decide) (by decide) rfl rfl ?_ (fun F Lx hk1 hnd1 hin1 hF1 h01 hf1 => W_coins_stood_c2 (Lo := Lx)  hk1 hnd1 hin1 (aF := coins_stood_r1 a1 r1) hF1 h01 (fun h => hf1 _ _ _ _ _ ⟨_, _, rfl, rfl, h⟩) hr4) fun H hS => ?_
  ·rintro x x2 ⟨v3, fl⟩ b s' ⟨y1, yy1, rfl, rfl, hM⟩
   rcases Bool.eq_false_or_eq_true fl with hfl | hfl
   ·subst hfl; exact nomatch (show none = some _ from hM)
   subst hfl
   replace hM := ifF hM rfl
   refine ⟨rfl, fun H' g1 hf' hh' => ?_⟩
   have hS := St.start hf'
   change wpA _ _ _ _ (Fr.of [(21, .i yy1), (20, .i y1), (4, .ptr (g + 2) 0), (5, .ptr (g + 3) 0), (8, .ep [fA (fun x => .fn (.func 102) [] [.ep [.i x.1.Wheel.Round, .sl .no 1 (x.1.Wheel.Notches.map cI), .sl .no 1 (x.1.Wheel.Coins.map cI)], .ep [.sl .no 2 (x.2.map Seen.cells)]]) (some (r1.1.1, a1))])]) _ _
   refine r_skip ?_
   refine w_rasg (l3 := [(4, .ptr (g + 2) 0), (5, .ptr (g + 3) 0), (8, .ep [fA (fun x => .fn (.func 102) [] [.ep [.i x.1.Wheel.Round, .sl .no 1 (x.1.Wheel.Notches.map cI), .sl .no 1 (x.1.Wheel.Coins.map cI)], .ep [.sl .no 2 (x.2.map Seen.cells)]]) (some (r1.1.1, a1))])]) (.k (.k (.k .nil))) hS (by omega) fun Hb H hS => ?_
   replace hS : St (fun i => i < g1 ∧ i ∉ ids [(g + 3, .cells [.i 0]), (g + 2, .cells [fA (fun x => .fn (.func 102) [] [.ep [.i x.1.Wheel.Round, .sl .no 1 (x.1.Wheel.Notches.map cI), .sl .no 1 (x.1.Wheel.Coins.map cI)], .ep [.sl .no 2 (x.2.map Seen.cells)]]) v3])]) Hb [(g + 3, .cells [.i 0]), (g + 2, .cells [fA (fun x => .fn (.func 102) [] [.ep [.i x.1.Wheel.Round, .sl .no 1 (x.1.Wheel.Notches.map cI), .sl .no 1 (x.1.Wheel.Coins.map cI)], .ep [.sl .no 2 (x.2.map Seen.cells)]]) v3])] H _ := hS
   refine r_block ?_
   refine r_seq ?_
   refine r_region (n := 3) rfl ?_
   refine o_loadE (v := fA (fun x => .fn (.func 102) [] [.ep [.i x.1.Wheel.Round, .sl .no 1 (x.1.Wheel.Notches.map cI), .sl .no 1 (x.1.Wheel.Coins.map cI)], .ep [.sl .no 2 (x.2.map Seen.cells)]]) (some (r1.1.1, a1))) (by decide) rfl (part_one ty_agg95 ty_sc95 rfl) ?_
   refine o_store (v := fA (fun x => .fn (.func 102) [] [.ep [.i x.1.Wheel.Round, .sl .no 1 (x.1.Wheel.Notches.map cI), .sl .no 1 (x.1.Wheel.Coins.map cI)], .ep [.sl .no 2 (x.2.map Seen.cells)]]) (some (r1.1.1, a1))) (ns := [fA (fun x => .fn (.func 102) [] [.ep [.i x.1.Wheel.Round, .sl .no 1 (x.1.Wheel.Notches.map cI), .sl .no 1 (x.1.Wheel.Coins.map cI)], .ep [.sl .no 2 (x.2.map Seen.cells)]]) (some (r1.1.1, a1))]) (L' := [(g + 3, .cells [.i 0]), (g + 2, .cells [fA (fun x => .fn (.func 102) [] [.ep [.i x.1.Wheel.Round, .sl .no 1 (x.1.Wheel.Notches.map cI), .sl .no 1 (x.1.Wheel.Coins.map cI)], .ep [.sl .no 2 (x.2.map Seen.cells)]]) (some (r1.1.1, a1))])]) 1 hS rfl rfl .no rfl (cellsOf_fA (fun _ => rfl) _) ty_var95 (Nat.le_of_ble_eq_true rfl) rfl fun H hS => ?_
   refine o_store (v := .i 0) (ns := [.i 0]) (L' := [(g + 3, .cells [.i 0]), (g + 2, .cells [fA (fun x => .fn (.func 102) [] [.ep [.i x.1.Wheel.Round, .sl .no 1 (x.1.Wheel.Notches.map cI), .sl .no 1 (x.1.Wheel.Coins.map cI)], .ep [.sl .no 2 (x.2.map Seen.cells)]]) (some (r1.1.1, a1))])]) 0 hS rfl rfl .no rfl rfl ty_var28 (Nat.le_of_ble_eq_true rfl) rfl fun H hS => ?_
   refine run_nil ?_
   refine w_next [(4, .ptr (g + 2) 0), (5, .ptr (g + 3) 0)] (.k (.k .nil)) ?_
   refine r_ret ?_
   refine r_blk_ret ?_
   injection hM with hM
   injection hM with hm1 hm2
   subst hm1 hm2
   exact w_rout (hS.keep [true, true] rfl)
  rcases Bool.eq_false_or_eq_true r4.2.2 with hb5 | hb5
  ·replace hM := ifT hM hb5
   refine w_rret hb5 ?_
   refine r_blk_ret ?_
   refine r_then_ret ?_
   refine w_end (x := .tup [fA (fun x => .fn (.func 102) [] [.ep [.i x.1.Wheel.Round, .sl .no 1 (x.1.Wheel.Notches.map cI), .sl .no 1 (x.1.Wheel.Coins.map cI)], .ep [.sl .no 2 (x.2.map Seen.cells)]]) r4.2.1, .i 0]) (f := fun r => .tup [fA (fun x => .fn (.func 102) [] [.ep [.i x.1.Wheel.Round, .sl .no 1 (x.1.Wheel.Notches.map cI), .sl .no 1 (x.1.Wheel.Coins.map cI)], .ep [.sl .no 2 (x.2.map Seen.cells)]]) r.1, .i r.2]) (.inr rfl) ?_ (.refl _) (Option.some.inj hM) hS
   exact (res_two (res_cell (x := fA (fun x => .fn (.func 102) [] [.ep [.i x.1.Wheel.Round, .sl .no 1 (x.1.Wheel.Notches.map cI), .sl .no 1 (x.1.Wheel.Coins.map cI)], .ep [.sl .no 2 (x.2.map Seen.cells)]]) r4.2.1) 1 hS rfl rfl (part_one ty_agg95 ty_sc95 rfl)) (res_cell (x := .i 0) 0 hS rfl rfl (part_one ty_agg28 ty_sc28 rfl)))
  ·replace hM := ifF hM hb5
   refine w_rnormal hb5 ?_
   refine r_blk_normal ?_
   refine w_next [(4, .ptr (g + 2) 0), (5, .ptr (g + 3) 0)] (.k (.k .nil)) ?_
   refine r_seq ?_
   refine r_region (n := 2) rfl ?_
   refine o_store (v := fA (fun x => .fn (.func 102) [] [.ep [.i x.1.Wheel.Round, .sl .no 1 (x.1.Wheel.Notches.map cI), .sl .no 1 (x.1.Wheel.Coins.map cI)], .ep [.sl .no 2 (x.2.map Seen.cells)]]) (none : Option (Wheel_ × (List Seen)))) (ns := [fA (fun x => .fn (.func 102) [] [.ep [.i x.1.Wheel.Round, .sl .no 1 (x.1.Wheel.Notches.map cI), .sl .no 1 (x.1.Wheel.Coins.map cI)], .ep [.sl .no 2 (x.2.map Seen.cells)]]) (none : Option (Wheel_ × (List Seen)))]) (L' := [(g + 3, .cells [.i 0]), (g + 2, .cells [fA (fun x => .fn (.func 102) [] [.ep [.i x.1.Wheel.Round, .sl .no 1 (x.1.Wheel.Notches.map cI), .sl .no 1 (x.1.Wheel.Coins.map cI)], .ep [.sl .no 2 (x.2.map Seen.cells)]]) (none : Option (Wheel_ × (List Seen)))])]) 1 hS rfl rfl .no rfl (cellsOf_fA (fun _ => rfl) _) ty_var95 (Nat.le_of_ble_eq_true rfl) rfl fun H hS => ?_
   refine o_store (v := .i 3) (ns := [.i 3]) (L' := [(g + 3, .cells [.i 3]), (g + 2, .cells [fA (fun x => .fn (.func 102) [] [.ep [.i x.1.Wheel.Round, .sl .no 1 (x.1.Wheel.Notches.map cI), .sl .no 1 (x.1.Wheel.Coins.map cI)], .ep [.sl .no 2 (x.2.map Seen.cells)]]) (none : Option (Wheel_ × (List Seen)))])]) 0 hS rfl rfl .no rfl rfl ty_var28 (Nat.le_of_ble_eq_true rfl) rfl fun H hS => ?_
   refine run_nil ?_
   refine w_next [(4, .ptr (g + 2) 0), (5, .ptr (g + 3) 0)] (.k (.k .nil)) ?_
   refine r_ret ?_
   refine w_end (x := .tup [fA (fun x => .fn (.func 102) [] [.ep [.i x.1.Wheel.Round, .sl .no 1 (x.1.Wheel.Notches.map cI), .sl .no 1 (x.1.Wheel.Coins.map cI)], .ep [.sl .no 2 (x.2.map Seen.cells)]]) (none : Option (Wheel_ × (List Seen))), .i 3]) (f := fun r => .tup [fA (fun x => .fn (.func 102) [] [.ep [.i x.1.Wheel.Round, .sl .no 1 (x.1.Wheel.Notches.map cI), .sl .no 1 (x.1.Wheel.Coins.map cI)], .ep [.sl .no 2 (x.2.map Seen.cells)]]) r.1, .i r.2]) (.inr rfl) ?_ (.refl _) (Option.some.inj hM) hS
   exact (res_two (res_cell (x := fA (fun x => .fn (.func 102) [] [.ep [.i x.1.Wheel.Round, .sl .no 1 (x.1.Wheel.Notches.map cI), .sl .no 1 (x.1.Wheel.Coins.map cI)], .ep [.sl .no 2 (x.2.map Seen.cells)]]) (none : Option (Wheel_ × (List Seen)))) 1 hS rfl rfl (part_one ty_agg95 ty_sc95 rfl)) (res_cell (x := .i 3) 0 hS rfl rfl (part_one ty_agg28 ty_sc28 rfl)))
theorem W_coins_Now {n : Nat} {a0 : Wheel} {a1 : List Seen} {r : (List Int) × Int} (hM : coins_Now n a0 a1 = some r) : PureSat Try.prog 32 [.agg [.i a0.Round, .sl .no 1 (a0.Notches.map cI), .sl .no 1 (a0.Coins.map cI)], .sl .no 2 (a1.map Seen.cells)] (.tup [.sl .no 1 (r.1.map cI), .i r.2]) := by
 refine pure_of_snd (zs := r.1) (y := .int .i64 r.2) (e := 3) mixed Try.func32 rfl (by decide) Try.ntmps32 (by simp) ?pa fun G0 w0 C hC => ?_
 case pa => exact pl_cons (.agg _ (pl_cons (.v _) (pl_cons (.sl _ _ (pures_map (fun x => (pl_cons (.v _) pl_nil)))) (pl_cons (.sl _ _ (pures_map (fun x => (pl_cons (.v _) pl_nil)))) pl_nil)))) (pl_cons (.sl _ _ (pures_map (fun x => (pl_cons (.v _) (pl_cons (.v _) pl_nil))))) pl_nil)
 rw [frame0_of]
 refine (?_ : ∀ g, Fresh E0 g → Snd _ _ _ _ _ _ (Fr.of [(0, .agg [.i a0.Round, .sl .no 1 (a0.Notches.map cI), .sl .no 1 (a0.Coins.map cI)]), (1, .sl .no 2 (a1.map Seen.cells))]) E0 g) 0 (fun _ _ => rfl)
 intro g hf
 have hS := St.start hf
 refine snd_seq mixed hC ?_
 refine r_region (n := 3) rfl ?_
 refine o_box (v := .agg [.i a0.Round, .sl .no 1 (a0.Notches.map cI), .sl .no 1 (a0.Coins.map cI)]) (cs := [.i a0.Round, .sl .no 1 (a0.Notches.map cI), .sl .no 1 (a0.Coins.map cI)]) hS (by decide) rfl rfl (by omega) fun H hS => ?_
 refine o_assign (v := .sl .nil 0 []) (by decide) rfl ?_
 refine o_assign (v := .i 0) (by decide) rfl ?_
 refine run_nil ?_
 refine w_nextS (l' := [(1, .sl .no 2 (a1.map Seen.cells)), (2, .ptr (g + 0) 0)]) (.k (.k .nil)) ?_
 refine snd_seq mixed hC ?_
 refine r_region (n := 8) rfl ?_
 refine o_load (v := .agg [.i a0.Round, .sl .no 1 (a0.Notches.map cI), .sl .no 1 (a0.Coins.map cI)]) 0 hS (by decide) rfl rfl .no (part_agg ty_agg24 (Nat.le_of_ble_eq_true rfl) rfl) ?_
 refine o_move (v := .sl .no 2 (a1.map Seen.cells)) (by decide) rfl ?_
 obtain ⟨r1, hr1, hM⟩ := bindE hM
 refine o_call (bs := [.agg [.i a0.Round, .sl .no 1 (a0.Notches.map cI), .sl .no 1 (a0.Coins.map cI)], .sl .no 2 (a1.map Seen.cells)]) (by decide) rfl rfl ((W_coins_stood hr1).le (.k (.k .nil))) ?_
 refine o_move (v := .tup [fA (fun x => .fn (.func 102) [] [.ep [.i x.1.Wheel.Round, .sl .no 1 (x.1.Wheel.Notches.map cI), .sl .no 1 (x.1.Wheel.Coins.map cI)], .ep [.sl .no 2 (x.2.map Seen.cells)]]) r1.1, .i r1.2]) (by decide) rfl ?_
 refine o_extract (v := fA (fun x => .fn (.func 102) [] [.ep [.i x.1.Wheel.Round, .sl .no 1 (x.1.Wheel.Notches.map cI), .sl .no 1 (x.1.Wheel.Coins.map cI)], .ep [.sl .no 2 (x.2.map Seen.cells)]]) r1.1) (by decide) rfl rfl ?_
 refine o_extract (v := .i r1.2) (by decide) rfl rfl ?_
 refine o_assign (v := fA (fun x => .fn (.func 102) [] [.ep [.i x.1.Wheel.Round, .sl .no 1 (x.1.Wheel.Notches.map cI), .sl .no 1 (x.1.Wheel.Coins.map cI)], .ep [.sl .no 2 (x.2.map Seen.cells)]]) r1.1) (by decide) rfl ?_
 refine o_assign (v := .i r1.2) (by decide) rfl ?_
 refine run_nil ?_
 refine w_nextS (l' := [(6, fA (fun x => .fn (.func 102) [] [.ep [.i x.1.Wheel.Round, .sl .no 1 (x.1.Wheel.Notches.map cI), .sl .no 1 (x.1.Wheel.Coins.map cI)], .ep [.sl .no 2 (x.2.map Seen.cells)]]) r1.1), (7, .i r1.2)]) (.k (.k .nil)) ?_
 refine snd_seq mixed hC ?_
 refine r_seq ?_
 refine r_region (n := 2) rfl ?_
 refine o_move (v := .i r1.2) (by decide) rfl ?_
 refine o_int (v := .b (r1.2 != 0)) (by decide) rfl rfl rfl ?_
 refine run_nil ?_
 refine w_next [(6, fA (fun x => .fn (.func 102) [] [.ep [.i x.1.Wheel.Round, .sl .no 1 (x.1.Wheel.Notches.map cI), .sl .no 1 (x.1.Wheel.Coins.map cI)], .ep [.sl .no 2 (x.2.map Seen.cells)]]) r1.1), (7, .i r1.2), (18, .b (r1.2 != 0))] (.k (.k (.k .nil))) ?_
 rcases Bool.eq_false_or_eq_true (r1.2 != 0) with hb2 | hb2
 ·replace hM := ifT hM hb2
  refine w_condT (e := (r1.2 != 0)) rfl hb2 ?_
  refine r_seq ?_
  refine r_region (n := 3) rfl ?_
  refine o_move (v := .i r1.2) (by decide) rfl ?_
  refine o_assign (v := .sl .nil 0 []) (by decide) rfl ?_
  refine o_assign (v := .i r1.2) (by decide) rfl ?_
  refine run_nil ?_
  refine w_next [(4, .sl .nil 0 []), (5, .i r1.2)] (.k (.k .nil)) ?_
  refine r_ret ?_
  refine r_then_ret ?_
  have hr := Option.some.inj hM
  subst hr
  exact ⟨.inr rfl, .inr ⟨rfl, res_two (res_tmp (x := .sl .nil 0 []) rfl) (res_tmp (x := .i r1.2) rfl)⟩⟩
 ·replace hM := ifF hM hb2
  refine w_condF (e := (r1.2 != 0)) rfl hb2 ?_
  refine r_skip ?_
  refine w_nextS (l' := [(6, fA (fun x => .fn (.func 102) [] [.ep [.i x.1.Wheel.Round, .sl .no 1 (x.1.Wheel.Notches.map cI), .sl .no 1 (x.1.Wheel.Coins.map cI)], .ep [.sl .no 2 (x.2.map Seen.cells)]]) r1.1)]) (.k .nil) ?_
  refine snd_seq mixed hC ?_
  refine r_region (n := 1) rfl ?_
  refine o_alloc hS (by decide) ty_zero22 (by omega) fun H hS => ?_
  refine run_nil ?_
  refine w_nextS (l' := [(6, fA (fun x => .fn (.func 102) [] [.ep [.i x.1.Wheel.Round, .sl .no 1 (x.1.Wheel.Notches.map cI), .sl .no 1 (x.1.Wheel.Coins.map cI)], .ep [.sl .no 2 (x.2.map Seen.cells)]]) r1.1), (8, .ptr (g + 3 + 8 + 2 + 0) 0)]) (.k (.k .nil)) ?_
  refine snd_seq mixed hC ?_
  refine r_seq ?_
  refine r_region (n := 1) rfl ?_
  refine o_move (v := fA (fun x => .fn (.func 102) [] [.ep [.i x.1.Wheel.Round, .sl .no 1 (x.1.Wheel.Notches.map cI), .sl .no 1 (x.1.Wheel.Coins.map cI)], .ep [.sl .no 2 (x.2.map Seen.cells)]]) r1.1) (by decide) rfl ?_
  refine run_nil ?_
  replace hS := hS.keep (L' := [(g + 3 + 8 + 2 + 0, .cells [.sl .nil 0 []])]) [true, false] rfl
  refine w_ownC (cs' := [.sl (.id (g + 3 + 8 + 2 + 1 + 1)) 1 (([] : List Int).map cI)]) (L' := [(g + 3 + 8 + 2 + 0, .cells [.sl (.id (g + 3 + 8 + 2 + 1 + 1)) 1 (([] : List Int).map cI)])]) 0 0 1 3 hS (by omega) (by decide) rfl rfl rfl rfl fun H hS => ?_
  refine w_next [(8, .ptr (g + 3 + 8 + 2 + 0) 0), (20, fA (fun x => .fn (.func 102) [] [.ep [.i x.1.Wheel.Round, .sl .no 1 (x.1.Wheel.Notches.map cI), .sl .no 1 (x.1.Wheel.Coins.map cI)], .ep [.sl .no 2 (x.2.map Seen.cells)]]) r1.1)] (.k (.k .nil)) ?_
  refine r_block ?_
  obtain ⟨x3, hx3, hM⟩ := bindE hM
  rw [fA_some hx3]
  change wpA _ _ _ _ (Fr.of [(8, .ptr (g + 3 + 8 + 2 + 0) 0), (20, .fn (.func 102) [] [.ep [.i x3.1.Wheel.Round, .sl .no 1 (x3.1.Wheel.Notches.map cI), .sl .no 1 (x3.1.Wheel.Coins.map cI)], .ep [.sl .no 2 (x3.2.map Seen.cells)]])]) _ _
  obtain ⟨r6, hr6, hM⟩ := bindE hM
  refine w_range0D (Lo := fun s : (List Int) => [(g + 3 + 8 + 2 + 1 + 1, .row 3 s.length), (g + 3 + 8 + 2 + 0, .cells [.sl (.id (g + 3 + 8 + 2 + 1 + 1)) 1 (s.map cI)])]) (R := fun x x2 s b s' => ∃ y yy, x = .i y ∧ x2 = .i yy ∧ coins_Now_r1 y yy s = some (b, s')) (s0 := ([] : List Int)) (sF := r6.2) (A := []) (A' := []) (L' := [(g + 3 + 8 + 2 + 1 + 1, .row 3 r6.2.length), (g + 3 + 8 + 2 + 0, .cells [.sl (.id (g + 3 + 8 + 2 + 1 + 1)) 1 (r6.2.map cI)])]) [(8, .ptr (g + 3 + 8 + 2 + 0) 0)] [0, 1] hS (by omega) rfl rfl rfl (.cons rfl (.cons rfl .nil)) (by decide) rfl kl_nil (fun _ _ => (kl_row (kl_cells kl_nil))) (fun s => (inb_st (ic_row (ic_cells (ci_cons (.inl (.inr ⟨_, _, _, _, _, rfl, List.mem_of_getElem? (i := 0) rfl, pures_map (fun x => (pl_cons (.v _) pl_nil))⟩)) ci_nil) ic_nil)) inb_nil)) (fun s H hH => (ai_cons (in_ptr hH 1 rfl) ai_nil)) (.k .nil) rfl (by decide) (by decide) rfl rfl ?_ (fun F Lx hk1 hnd1 hin1 hF1 h01 hf1 => W_coins_stood_c2 (Lo := Lx)  hk1 hnd1 hin1 (aF := coins_Now_r1) hF1 h01 (fun h => hf1 _ _ _ _ _ ⟨_, _, rfl, rfl, h⟩) hr6) fun H hS => ?_
  ·rintro x x2 v4 b s' ⟨y1, yy1, rfl, rfl, hM⟩
   refine ⟨rfl, fun H' g1 hf' hh' => ?_⟩
   have hS := St.start hf'
   change wpA _ _ _ _ (Fr.of [(22, .i yy1), (21, .i y1), (8, .ptr (g + 3 + 8 + 2 + 0) 0)]) _ _
   refine r_region (n := 1) rfl ?_
   refine o_assign (v := .i yy1) (by decide) rfl ?_
   refine run_nil ?_
   refine w_rasg (l3 := [(8, .ptr (g + 3 + 8 + 2 + 0) 0), (10, .i yy1)]) (.k (.k .nil)) hS (by omega) fun Hb H hS => ?_
   replace hS : St (fun i => i < g1 ∧ i ∉ ids [(g + 3 + 8 + 2 + 1 + 1, .row 3 v4.length), (g + 3 + 8 + 2 + 0, .cells [.sl (.id (g + 3 + 8 + 2 + 1 + 1)) 1 (v4.map cI)])]) Hb [(g + 3 + 8 + 2 + 1 + 1, .row 3 v4.length), (g + 3 + 8 + 2 + 0, .cells [.sl (.id (g + 3 + 8 + 2 + 1 + 1)) 1 (v4.map cI)])] H _ := hS
   refine r_block ?_
   refine r_region (n := 5) rfl ?_
   refine o_load (v := .sl (.id (g + 3 + 8 + 2 + 1 + 1)) 1 (v4.map cI)) 1 hS (by decide) rfl rfl .no (part_one ty_agg22 ty_sc22 rfl) ?_
   refine o_move (v := .i yy1) (by decide) rfl ?_
   refine o_buildSlice (es := [[.i yy1]]) hS (by decide) ty_es22 ty_el22 rfl ty_ef22 rfl (by decide) (by omega) fun H hS => ?_
   obtain ⟨l5, hl5, hM⟩ := bindE hM
   refine o_append (xs := v4) (ys := ([yy1] : List Int)) (zs := l5) (f := cI) (L' := [(g1 + 1 + 2, .row 3 1), (g + 3 + 8 + 2 + 1 + 1, .row 3 l5.length), (g + 3 + 8 + 2 + 0, .cells [.sl (.id (g + 3 + 8 + 2 + 1 + 1)) 1 (v4.map cI)])]) 1 hS (by decide) rfl rfl rfl rfl .no ty_es22 ty_el22 ty_ef22 hl5 rfl fun H hS => ?_
   refine o_store (v := .sl (.id (g + 3 + 8 + 2 + 1 + 1)) 1 (l5.map cI)) (ns := [.sl (.id (g + 3 + 8 + 2 + 1 + 1)) 1 (l5.map cI)]) (L' := [(g1 + 1 + 2, .row 3 1), (g + 3 + 8 + 2 + 1 + 1, .row 3 l5.length), (g + 3 + 8 + 2 + 0, .cells [.sl (.id (g + 3 + 8 + 2 + 1 + 1)) 1 (l5.map cI)])]) 2 hS rfl rfl .no rfl rfl ty_var22 (Nat.le_of_ble_eq_true rfl) rfl fun H hS => ?_
   refine run_nil ?_
   refine r_blk_normal ?_
   injection hM with hM
   injection hM with hm1 hm2
   subst hm1 hm2
   exact w_rend (hS.keep [false, true, true] rfl)
  refine r_blk_normal ?_
  rcases Bool.eq_false_or_eq_true (decide (r6.2.length ≤ 1048576)) with hb3 | hb3
  rotate_left
  ·exact nomatch (ifF hM hb3)
  replace hM := ifT hM hb3
  have hlen : r6.2.length ≤ 1048576 := of_decide_eq_true hb3
  obtain rfl := Option.some.inj hM
  have huq : InPlaceR Try.prog 71 3 (isort r6.2) (uniqF none (isort r6.2)) := by
   have := uniq_ints (isort r6.2) (by rw [(isort_perm r6.2).length_eq]; exact hlen)
   rwa [compact_uniq] at this
  refine w_nextS (l' := [(8, .ptr (g + 3 + 8 + 2 + 0) 0)]) (.k .nil) ?_
  exact snd_uniq (i := g + 3 + 8 + 2 + 0) (j := g + 3 + 8 + 2 + 1 + 1) (zs := r6.2) (ts := isort r6.2) (us := uniqF none (isort r6.2)) (by decide) (by decide) (by decide) (by decide) (by decide) (by decide) (by decide) (by decide) (by decide) rfl (hS.get (n := 1) rfl) (hS.get (n := 0) rfl) ty_sc22 (sort_ints _ hlen) huq (fun _ => rfl) rfl hC
theorem W_ref01_SameInts {n : Nat} {a0 : List Int} {a1 : List Int} {r : Bool} (hM : ref01_SameInts n a0 a1 = some r) : PureSat Try.prog 34 [.sl .no 1 (a0.map cI), .sl .no 1 (a1.map cI)] (.b r) := by
 refine pure_of_wp mixed Try.func34 rfl (by decide) Try.ntmps34 (by simp) ?pure fun H0 g hf => ?_
 case pure => exact .v _
 rw [frame0_of]
 change wpA _ _ _ _ (Fr.of [(0, .sl .no 1 (a0.map cI)), (1, .sl .no 1 (a1.map cI))]) H0 g
 have hS := St.start hf
 refine r_seq ?_
 refine r_region (n := 1) rfl ?_
 refine o_assign (v := .b false) (by decide) rfl ?_
 refine run_nil ?_
 refine w_next [(0, .sl .no 1 (a0.map cI)), (1, .sl .no 1 (a1.map cI))] (.k (.k .nil)) ?_
 refine r_seq ?_
 refine r_seq ?_
 refine r_region (n := 5) rfl ?_
 refine o_move (v := .sl .no 1 (a0.map cI)) (by decide) rfl ?_
 refine o_len (n := a0.length) (by decide) rfl (List.length_map _) ty_isl22 ?_
 refine o_move (v := .sl .no 1 (a1.map cI)) (by decide) rfl ?_
 refine o_len (n := a1.length) (by decide) rfl (List.length_map _) ty_isl22 ?_
 refine o_int (v := .b ((a0.length : Int) != (a1.length : Int))) (by decide) rfl rfl rfl ?_
 refine run_nil ?_
 refine w_next [(0, .sl .no 1 (a0.map cI)), (1, .sl .no 1 (a1.map cI)), (10, .b ((a0.length : Int) != (a1.length : Int)))] (.k (.k (.k .nil))) ?_
 rcases Bool.eq_false_or_eq_true ((a0.length : Int) != (a1.length : Int)) with hb1 | hb1
 ·replace hM := ifT hM hb1
  refine w_condT (e := ((a0.length : Int) != (a1.length : Int))) rfl hb1 ?_
  refine r_seq ?_
  refine r_region (n := 1) rfl ?_
  refine o_assign (v := .b false) (by decide) rfl ?_
  refine run_nil ?_
  refine w_next [(4, .b false)] (.k .nil) ?_
  refine r_ret ?_
  refine r_then_ret ?_
  refine w_end (x := .b false) (f := fun r => .b r) (.inr rfl) ?_ (.refl _) (Option.some.inj hM) hS
  exact (res_one (res_tmp (x := .b false) rfl))
 ·replace hM := ifF hM hb1
  refine w_condF (e := ((a0.length : Int) != (a1.length : Int))) rfl hb1 ?_
  refine r_skip ?_
  refine w_next [(0, .sl .no 1 (a0.map cI)), (1, .sl .no 1 (a1.map cI))] (.k (.k .nil)) ?_
  refine w_join (J := Unit) (fun j => []) (fun j H' g' => St (· < g) H0 [] H' g' ∧ ref01_SameInts_j1 = some r) ?_ ?_
  ·rintro _ H g1 ⟨hS, hM⟩
   change wpA _ _ _ _ (Fr.of []) _ _
   replace hS : St (· < g) H0 [] H g1 := hS
   replace hM : ref01_SameInts_j1 = some r := hM
   refine r_seq ?_
   refine r_region (n := 1) rfl ?_
   refine o_assign (v := .b true) (by decide) rfl ?_
   refine run_nil ?_
   refine w_next [(4, .b true)] (.k .nil) ?_
   refine r_ret ?_
   refine w_end (x := .b true) (f := fun r => .b r) (.inr rfl) ?_ (.refl _) (Option.some.inj hM) hS
   exact (res_one (res_tmp (x := .b true) rfl))
  ·refine r_seq ?_
   refine r_region (n := 1) rfl ?_
   refine o_assign (v := .i 0) (by decide) rfl ?_
   refine run_nil ?_
   refine w_next [(0, .sl .no 1 (a0.map cI)), (1, .sl .no 1 (a1.map cI)), (5, .i 0)] (.k (.k (.k .nil))) ?_
   refine r_block ?_
   refine w_loop (V := Int) (fun v => [(0, .sl .no 1 (a0.map cI)), (1, .sl .no 1 (a1.map cI)), (5, .i v)]) (fun v m2 H' g' => St (· < g) H0 [] H' g' ∧ ref01_SameInts_l1 a0 a1 m2 v = some r) (n := n) 0 (.k (.k (.k .nil))) ⟨(hS.keep [] rfl).up (by omega), hM⟩ ?_
   rintro v2 m2 H g2 ⟨hS, hM⟩
   obtain _ | m2 := m2
   ·exact nomatch (show none = some _ from hM)
   change wpA _ _ _ _ (Fr.of [(0, .sl .no 1 (a0.map cI)), (1, .sl .no 1 (a1.map cI)), (5, .i v2)]) _ _
   replace hS : St (· < g) H0 [] H g2 := hS
   replace hM : ref01_SameInts_l1_b a0 a1 (ref01_SameInts_l1 a0 a1 m2) v2 = some r := hM
   refine r_seq ?_
   refine r_seq ?_
   refine r_region (n := 4) rfl ?_
   refine o_move (v := .i v2) (by decide) rfl ?_
   refine o_move (v := .sl .no 1 (a0.map cI)) (by decide) rfl ?_
   refine o_len (n := a0.length) (by decide) rfl (List.length_map _) ty_isl22 ?_
   refine o_int (v := .b (decide (v2 < (a0.length : Int)))) (by decide) rfl rfl rfl ?_
   refine run_nil ?_
   refine w_next [(0, .sl .no 1 (a0.map cI)), (1, .sl .no 1 (a1.map cI)), (5, .i v2), (14, .b (decide (v2 < (a0.length : Int))))] (.k (.k (.k (.k .nil)))) ?_
   rcases Bool.eq_false_or_eq_true (decide (v2 < (a0.length : Int))) with hb3 | hb3
   ·replace hM := ifT hM hb3
    refine w_condT (e := (decide (v2 < (a0.length : Int)))) rfl hb3 ?_
    refine r_skip ?_
    refine w_next [(0, .sl .no 1 (a0.map cI)), (1, .sl .no 1 (a1.map cI)), (5, .i v2)] (.k (.k (.k .nil))) ?_
    refine r_seq ?_
    refine r_block ?_
    refine r_seq ?_
    have hS0 := hS
    refine r_draw (n := 9) rfl (by kernel_rfl) ?_
    refine o_move (v := .sl .no 1 (a0.map cI)) (by decide) rfl ?_
    refine o_move (v := .i v2) (by decide) rfl ?_
    obtain ⟨x4, hx4, hM⟩ := bindE hM
    refine o_index (xs := a0) (f := cI) (z := v2) (u := x4) (by decide) rfl rfl ty_es22 hx4 ?_
    refine o_loadE (v := .i x4) (by decide) rfl (part_one ty_agg3 ty_sc3 rfl) ?_
    refine o_move (v := .sl .no 1 (a1.map cI)) (by decide) rfl ?_
    refine o_move (v := .i v2) (by decide) rfl ?_
    obtain ⟨x5, hx5, hM⟩ := bindE hM
    refine o_index (xs := a1) (f := cI) (z := v2) (u := x5) (by decide) rfl rfl ty_es22 hx5 ?_
    refine o_loadE (v := .i x5) (by decide) rfl (part_one ty_agg3 ty_sc3 rfl) ?_
    refine o_int (v := .b (x4 != x5)) (by decide) rfl rfl rfl ?_
    refine run_nil ?_
    refine w_next [(0, .sl .no 1 (a0.map cI)), (1, .sl .no 1 (a1.map cI)), (5, .i v2), (25, .b (x4 != x5))] (.k (.k (.k (.k .nil)))) ?_
    rcases Bool.eq_false_or_eq_true (x4 != x5) with hb6 | hb6
    ·replace hM := ifT hM hb6
     refine w_condT (e := (x4 != x5)) rfl hb6 ?_
     refine r_seq ?_
     refine r_region (n := 1) rfl ?_
     refine o_assign (v := .b false) (by decide) rfl ?_
     refine run_nil ?_
     refine w_next [(4, .b false)] (.k .nil) ?_
     refine r_ret ?_
     refine r_blk_ret ?_
     refine r_then_ret ?_
     refine w_round_ret ?_
     refine r_blk_ret ?_
     refine w_goto_ret ?_
     refine w_end (x := .b false) (f := fun r => .b r) (.inr rfl) ?_ (.refl _) (Option.some.inj hM) hS
     exact (res_one (res_tmp (x := .b false) rfl))
    ·replace hM := ifF hM hb6
     refine w_condF (e := (x4 != x5)) rfl hb6 ?_
     refine r_skip ?_
     refine r_blk_normal ?_
     refine w_next [(0, .sl .no 1 (a0.map cI)), (1, .sl .no 1 (a1.map cI)), (5, .i v2)] (.k (.k (.k .nil))) ?_
     refine r_region (n := 3) rfl ?_
     refine o_move (v := .i v2) (by decide) rfl ?_
     refine o_int (v := .i (w64 (v2 + 1))) (by decide) rfl rfl rfl ?_
     refine o_assign (v := .i (w64 (v2 + 1))) (by decide) rfl ?_
     refine run_nil ?_
     exact w_round (w64 (v2 + 1)) (Nat.lt_succ_self _) (.k (.k (.k .nil))) ⟨(hS.keep [] rfl).up (by omega), hM⟩
   ·replace hM := ifF hM hb3
    refine w_condF (e := (decide (v2 < (a0.length : Int)))) rfl hb3 ?_
    refine r_exit ?_
    refine r_then_exit ?_
    refine w_round_exit ?_
    refine r_blk_exit ?_
    exact w_goto () .nil ⟨(hS.keep [] rfl).up (by omega), hM⟩
theorem W_coins_wheel_isPlace {a0 : Wheel_} {a1 : Int} {r : Bool} (hM : coins_wheel_isPlace a0 a1 = some r) : PureSat Try.prog 75 [.agg [.i a0.Wheel.Round, .sl .no 1 (a0.Wheel.Notches.map cI), .sl .no 1 (a0.Wheel.Coins.map cI)], .i a1] (.b r) := by
 refine pure_of_wp mixed Try.func75 rfl (by decide) Try.ntmps75 (by simp) ?pure fun H0 g hf => ?_
 case pure => exact .v _
 rw [frame0_of]
 change wpA _ _ _ _ (Fr.of [(0, .agg [.i a0.Wheel.Round, .sl .no 1 (a0.Wheel.Notches.map cI), .sl .no 1 (a0.Wheel.Coins.map cI)]), (1, .i a1)]) H0 g
 have hS := St.start hf
 refine r_seq ?_
 refine r_region (n := 2) rfl ?_
 refine o_box (v := .agg [.i a0.Wheel.Round, .sl .no 1 (a0.Wheel.Notches.map cI), .sl .no 1 (a0.Wheel.Coins.map cI)]) (cs := [.i a0.Wheel.Round, .sl .no 1 (a0.Wheel.Notches.map cI), .sl .no 1 (a0.Wheel.Coins.map cI)]) hS (by decide) rfl rfl (by omega) fun H hS => ?_
 refine o_assign (v := .b false) (by decide) rfl ?_
 refine run_nil ?_
 refine w_iceE (L' := []) 0 2 hS rfl rfl rfl fun H hS => ?_
 refine w_next [(1, .i a1), (2, .ep [.i a0.Wheel.Round, .sl .no 1 (a0.Wheel.Notches.map cI), .sl .no 1 (a0.Wheel.Coins.map cI)])] (.k (.k .nil)) ?_
 refine r_seq ?_
 refine r_region (n := 7) rfl ?_
 refine o_move (v := .i a1) (by decide) rfl ?_
 refine o_fieldE (cs := [.i a0.Wheel.Round, .sl .no 1 (a0.Wheel.Notches.map cI), .sl .no 1 (a0.Wheel.Coins.map cI)]) (by decide) ty_fo71_0 rfl ?_
 refine o_fieldE (cs := [.i a0.Wheel.Round, .sl .no 1 (a0.Wheel.Notches.map cI), .sl .no 1 (a0.Wheel.Coins.map cI)]) (by decide) ty_fo24_0 rfl ?_
 refine o_loadE (v := .i a0.Wheel.Round) (by decide) rfl (part_one ty_agg3 ty_sc3 rfl) ?_
 refine o_int (v := .i (w64 (a0.Wheel.Round - 1))) (by decide) rfl rfl rfl ?_
 obtain ⟨r1, hr1, hM⟩ := bindE hM
 refine o_call (bs := [.i a1, .i 0, .i (w64 (a0.Wheel.Round - 1))]) (by decide) rfl rfl ((W_coins_within hr1).le (.k (.k (.k .nil)))) ?_
 refine o_assign (v := .b r1) (by decide) rfl ?_
 refine run_nil ?_
 refine w_next [(4, .b r1)] (.k .nil) ?_
 refine r_ret ?_
 refine w_end (x := .b r1) (f := fun r => .b r) (.inr rfl) ?_ (.refl _) (Option.some.inj hM) hS
 exact (res_one (res_tmp (x := .b r1) rfl))
theorem W_slices_IndexFunc_int {S : Type} {Lo : S → BL} (hk : ∀ s s', KinL (Lo s) (Lo s')) (hnd : ∀ s, (ids (Lo s)).Nodup) (hin : ∀ s, InB In (Lo s)) {aF : Int → S → Option (Bool × S)} {f0 : AV} (hF : ∀ s H, Has H (Lo s) → In H f0) (h0 : cellsOf f0 = some [f0]) (hf : ∀ {x0 : Int} {s : S} {r : Bool × S}, aF x0 s = some r → CSat Try.prog f0 [.i x0] (Lo s) (.b r.1) (Lo r.2)) {n : Nat} {a0 : List Int} {st : S} {r : Int × S} (hM : slices_IndexFunc_int n aF a0 st = some r) : HSat Try.prog 123 [.sl .no 1 (a0.map cI), f0] (Lo st) (.i r.1) (Lo r.2) := by
 have hnd0 : ∀ s, (ids (Lo s)).Nodup := fun s => hnd s
 refine hsat_of_wp mixed Try.func123 rfl (by decide) Try.ntmps123 (by simp) (hk _ _) (hnd st) ?pure ?cells fun H0 g hf_ hp => ?_
 case pure => exact fun H _ => (show Go.AM.Pure _ from .v _).inH
 case cells => exact hin _
 rw [frame0_of]
 change wpA _ _ _ _ (Fr.of [(0, .sl .no 1 (a0.map cI)), (1, f0)]) H0 g
 have hS := St.startH (L := ([] ++ Lo st)) hf_ (hnd st) hp
 replace hS : St (fun i => i < g ∧ i ∉ ids (Lo st)) H0 ([] ++ Lo st) H0 g := hS
 refine r_seq ?_
 refine r_region (n := 1) rfl ?_
 refine o_assign (v := .i 0) (by decide) rfl ?_
 refine run_nil ?_
 refine w_next [(0, .sl .no 1 (a0.map cI)), (1, f0)] (.k (.k .nil)) ?_
 refine w_join (J := S) (fun j => []) (fun j H' g' => St (fun i => i < g ∧ i ∉ ids (Lo st)) H0 ([] ++ Lo j) H' g' ∧ slices_IndexFunc_int_j1 j = some r) ?_ ?_
 ·rintro v1 H g1 ⟨hS, hM⟩
  change wpA _ _ _ _ (Fr.of []) _ _
  replace hS : St (fun i => i < g ∧ i ∉ ids (Lo st)) H0 ([] ++ Lo v1) H g1 := hS
  replace hM : slices_IndexFunc_int_j1 v1 = some r := hM
  refine r_seq ?_
  refine r_region (n := 1) rfl ?_
  refine o_assign (v := .i (-1)) (by decide) rfl ?_
  refine run_nil ?_
  refine w_next [(4, .i (-1))] (.k .nil) ?_
  refine r_ret ?_
  refine w_endS (x := .i (-1)) (f := fun r => .i r.1) (fd := fun r => (Lo r.2)) (.inr rfl) ?_ (.refl _) (Option.some.inj hM) hS 0 rfl
  exact (res_one (res_tmp (x := .i (-1)) rfl))
 ·refine r_seq ?_
  refine r_region (n := 3) rfl ?_
  refine o_move (v := .sl .no 1 (a0.map cI)) (by decide) rfl ?_
  refine o_len (n := a0.length) (by decide) rfl (List.length_map _) ty_isl22 ?_
  refine o_move (v := .i 0) (by decide) rfl ?_
  refine run_nil ?_
  refine w_next [(0, .sl .no 1 (a0.map cI)), (1, f0), (7, .i (a0.length : Int)), (8, .i 0)] (.k (.k (.k (.k .nil)))) ?_
  refine r_block ?_
  refine w_loop (V := Int × S) (fun v => [(0, .sl .no 1 (a0.map cI)), (1, f0), (7, .i (a0.length : Int)), (8, .i v.1)]) (fun v m3 H' g' => St (fun i => i < g ∧ i ∉ ids (Lo st)) H0 ([] ++ Lo v.2) H' g' ∧ slices_IndexFunc_int_l1 a0 aF m3 v.1 v.2 = some r) (n := n) (0, st) (.k (.k (.k (.k .nil)))) ⟨(hS.keep [] rfl).up (by omega), hM⟩ ?_
  rintro ⟨v3, v4⟩ m3 H g3 ⟨hS, hM⟩
  obtain _ | m3 := m3
  ·exact nomatch (show none = some _ from hM)
  change wpA _ _ _ _ (Fr.of [(0, .sl .no 1 (a0.map cI)), (1, f0), (7, .i (a0.length : Int)), (8, .i v3)]) _ _
  replace hS : St (fun i => i < g ∧ i ∉ ids (Lo st)) H0 ([] ++ Lo v4) H g3 := hS
  replace hM : slices_IndexFunc_int_l1_b a0 aF (slices_IndexFunc_int_l1 a0 aF m3) v3 v4 = some r := hM
  refine r_seq ?_
  refine r_region (n := 1) rfl ?_
  refine o_int (v := .b (decide (v3 < (a0.length : Int)))) (by decide) rfl rfl rfl ?_
  refine run_nil ?_
  refine w_next [(0, .sl .no 1 (a0.map cI)), (1, f0), (7, .i (a0.length : Int)), (8, .i v3), (9, .b (decide (v3 < (a0.length : Int))))] (.k (.k (.k (.k (.k .nil))))) ?_
  refine r_seq ?_
  rcases Bool.eq_false_or_eq_true (decide (v3 < (a0.length : Int))) with hb5 | hb5
  ·replace hM := ifT hM hb5
   refine w_condT (e := (decide (v3 < (a0.length : Int)))) rfl hb5 ?_
   refine r_skip ?_
   refine w_next [(0, .sl .no 1 (a0.map cI)), (1, f0), (7, .i (a0.length : Int)), (8, .i v3)] (.k (.k (.k (.k .nil)))) ?_
   refine r_seq ?_
   refine r_block ?_
   refine r_seq ?_
   refine r_region (n := 2) rfl ?_
   refine o_move (v := .i v3) (by decide) rfl ?_
   refine o_assign (v := .i v3) (by decide) rfl ?_
   refine run_nil ?_
   refine w_next [(0, .sl .no 1 (a0.map cI)), (1, f0), (5, .i v3), (7, .i (a0.length : Int)), (8, .i v3)] (.k (.k (.k (.k (.k .nil))))) ?_
   refine r_seq ?_
   refine r_region (n := 6) rfl ?_
   refine o_move (v := f0) (by decide) rfl ?_
   refine o_move (v := .sl .no 1 (a0.map cI)) (by decide) rfl ?_
   refine o_move (v := .i v3) (by decide) rfl ?_
   obtain ⟨x6, hx6, hM⟩ := bindE hM
   refine o_index (xs := a0) (f := cI) (z := v3) (u := x6) (by decide) rfl rfl ty_es22 hx6 ?_
   refine o_loadE (v := .i x6) (by decide) rfl (part_one ty_agg3 ty_sc3 rfl) ?_
   obtain ⟨r7, hr7, hM⟩ := bindE hM
   replace hS : St (fun i => i < g ∧ i ∉ ids (Lo st)) H0 ([] ++ Lo v4) _ _ := hS
   refine o_state (bs := [.i x6]) (.inl rfl) hS (by decide) rfl rfl ((hf hr7).le (.k .nil)) (hk _ _).ids (by omega) fun H hS => ?_
   refine run_nil ?_
   refine w_next [(0, .sl .no 1 (a0.map cI)), (1, f0), (5, .i v3), (7, .i (a0.length : Int)), (8, .i v3), (16, .b r7.1)] (.k (.k (.k (.k (.k (.k .nil)))))) ?_
   rcases Bool.eq_false_or_eq_true r7.1 with hb8 | hb8
   ·replace hM := ifT hM hb8
    refine w_condT (e := r7.1) rfl hb8 ?_
    refine r_seq ?_
    refine r_region (n := 2) rfl ?_
    refine o_move (v := .i v3) (by decide) rfl ?_
    refine o_assign (v := .i v3) (by decide) rfl ?_
    refine run_nil ?_
    refine w_next [(4, .i v3)] (.k .nil) ?_
    refine r_ret ?_
    refine r_blk_ret ?_
    refine r_then_ret ?_
    refine w_round_ret ?_
    refine r_blk_ret ?_
    refine w_goto_ret ?_
    refine w_endS (x := .i v3) (f := fun r => .i r.1) (fd := fun r => (Lo r.2)) (.inr rfl) ?_ (.refl _) (Option.some.inj hM) hS 0 rfl
    exact (res_one (res_tmp (x := .i v3) rfl))
   ·replace hM := ifF hM hb8
    refine w_condF (e := r7.1) rfl hb8 ?_
    refine r_skip ?_
    refine r_blk_normal ?_
    refine w_next [(0, .sl .no 1 (a0.map cI)), (1, f0), (7, .i (a0.length : Int)), (8, .i v3)] (.k (.k (.k (.k .nil)))) ?_
    refine r_region (n := 2) rfl ?_
    refine o_int (v := .i (w64 (v3 + 1))) (by decide) rfl rfl rfl ?_
    refine o_move (v := .i (w64 (v3 + 1))) (by decide) rfl ?_
    refine run_nil ?_
    exact w_round (w64 (v3 + 1), r7.2) (Nat.lt_succ_self _) (.k (.k (.k (.k .nil)))) ⟨(hS.keep [] rfl).up (by omega), hM⟩
  ·replace hM := ifF hM hb5
   refine w_condF (e := (decide (v3 < (a0.length : Int)))) rfl hb5 ?_
   refine r_exit ?_
   refine r_then_exit ?_
   refine w_round_exit ?_
   refine r_blk_exit ?_
   exact w_goto v4 .nil ⟨(hS.keep [] rfl).up (by omega), hM⟩
theorem W_slices_ContainsFunc_int {S : Type} {Lo : S → BL} (hk : ∀ s s', KinL (Lo s) (Lo s')) (hnd : ∀ s, (ids (Lo s)).Nodup) (hin : ∀ s, InB In (Lo s)) {aF : Int → S → Option (Bool × S)} {f0 : AV} (hF : ∀ s H, Has H (Lo s) → In H f0) (h0 : cellsOf f0 = some [f0]) (hf : ∀ {x0 : Int} {s : S} {r : Bool × S}, aF x0 s = some r → CSat Try.prog f0 [.i x0] (Lo s) (.b r.1) (Lo r.2)) {n : Nat} {a0 : List Int} {st : S} {r : Bool × S} (hM : slices_ContainsFunc_int n aF a0 st = some r) : HSat Try.prog 106 [.sl .no 1 (a0.map cI), f0] (Lo st) (.b r.1) (Lo r.2) := by
 have hnd0 : ∀ s, (ids (Lo s)).Nodup := fun s => hnd s
 refine hsat_of_wp mixed Try.func106 rfl (by decide) Try.ntmps106 (by simp) (hk _ _) (hnd st) ?pure ?cells fun H0 g hf_ hp => ?_
 case pure => exact fun H _ => (show Go.AM.Pure _ from .v _).inH
 case cells => exact hin _
 rw [frame0_of]
 change wpA _ _ _ _ (Fr.of [(0, .sl .no 1 (a0.map cI)), (1, f0)]) H0 g
 have hS := St.startH (L := ([] ++ Lo st)) hf_ (hnd st) hp
 replace hS : St (fun i => i < g ∧ i ∉ ids (Lo st)) H0 ([] ++ Lo st) H0 g := hS
 refine r_seq ?_
 refine r_region (n := 1) rfl ?_
 refine o_assign (v := .b false) (by decide) rfl ?_
 refine run_nil ?_
 refine w_next [(0, .sl .no 1 (a0.map cI)), (1, f0)] (.k (.k .nil)) ?_
 refine r_seq ?_
 refine r_region (n := 5) rfl ?_
 refine o_move (v := .sl .no 1 (a0.map cI)) (by decide) rfl ?_
 refine o_move (v := f0) (by decide) rfl ?_
 obtain ⟨r1, hr1, hM⟩ := bindE hM
 replace hS : St (fun i => i < g ∧ i ∉ ids (Lo st)) H0 ([] ++ Lo st) _ _ := hS
 refine o_stateH (bs := [.sl .no 1 (a0.map cI), f0]) (.inl rfl) hS (by decide) rfl rfl ((W_slices_IndexFunc_int (Lo := Lo)  hk hnd0 hin (aF := aF) hF h0 hf hr1).le (.k (.k .nil))) (hk _ _).ids (by omega) fun H hS => ?_
 refine o_int (v := .b (decide (r1.1 ≥ 0))) (by decide) rfl rfl rfl ?_
 refine o_assign (v := .b (decide (r1.1 ≥ 0))) (by decide) rfl ?_
 refine run_nil ?_
 refine w_next [(4, .b (decide (r1.1 ≥ 0)))] (.k .nil) ?_
 refine r_ret ?_
 refine w_endS (x := .b (decide (r1.1 ≥ 0))) (f := fun r => .b r.1) (fd := fun r => (Lo r.2)) (.inr rfl) ?_ (.refl _) (Option.some.inj hM) hS 0 rfl
 exact (res_one (res_tmp (x := .b (decide (r1.1 ≥ 0))) rfl))
theorem W_coins_all_int_c1 {S : Type} {Lo : S → BL} (hk : ∀ s s', KinL (Lo s) (Lo s')) (hnd : ∀ s, (ids (Lo s)).Nodup) (hin : ∀ s, InB In (Lo s)) {aF : Int → S → Option (Bool × S)} {f0 : AV} (hF : ∀ s H, Has H (Lo s) → In H f0) (h0 : cellsOf f0 = some [f0]) (hf : ∀ {x0 : Int} {s : S} {r : Bool × S}, aF x0 s = some r → CSat Try.prog f0 [.i x0] (Lo s) (.b r.1) (Lo r.2)) {a0 : Int} {st : S} {r : Bool × S} (hM : coins_all_int_c1 aF a0 st = some r) : HSat Try.prog 107 [.i a0, .ep [f0]] (Lo st) (.b r.1) (Lo r.2) := by
 have hnd0 : ∀ s, (ids (Lo s)).Nodup := fun s => hnd s
 refine hsat_of_wp mixed Try.func107 rfl (by decide) Try.ntmps107 (by simp) (hk _ _) (hnd st) ?pure ?cells fun H0 g hf_ hp => ?_
 case pure => exact fun H _ => (show Go.AM.Pure _ from .v _).inH
 case cells => exact hin _
 rw [frame0_of]
 change wpA _ _ _ _ (Fr.of [(0, .i a0), (1, .ep [f0])]) H0 g
 have hS := St.startH (L := ([] ++ Lo st)) hf_ (hnd st) hp
 replace hS : St (fun i => i < g ∧ i ∉ ids (Lo st)) H0 ([] ++ Lo st) H0 g := hS
 refine r_seq ?_
 refine r_region (n := 1) rfl ?_
 refine o_assign (v := .b false) (by decide) rfl ?_
 refine run_nil ?_
 refine w_next [(0, .i a0), (1, .ep [f0])] (.k (.k .nil)) ?_
 refine r_seq ?_
 refine r_region (n := 5) rfl ?_
 refine o_loadE (v := f0) (by decide) rfl (part_one ty_agg102 ty_sc102 rfl) ?_
 refine o_move (v := .i a0) (by decide) rfl ?_
 obtain ⟨r1, hr1, hM⟩ := bindE hM
 replace hS : St (fun i => i < g ∧ i ∉ ids (Lo st)) H0 ([] ++ Lo st) _ _ := hS
 refine o_state (bs := [.i a0]) (.inl rfl) hS (by decide) rfl rfl ((hf hr1).le (.k .nil)) (hk _ _).ids (by omega) fun H hS => ?_
 refine o_not (e := r1.1) (by decide) rfl ?_
 refine o_assign (v := .b (!r1.1)) (by decide) rfl ?_
 refine run_nil ?_
 refine w_next [(3, .b (!r1.1))] (.k .nil) ?_
 refine r_ret ?_
 refine w_endS (x := .b (!r1.1)) (f := fun r => .b r.1) (fd := fun r => (Lo r.2)) (.inr rfl) ?_ (.refl _) (Option.some.inj hM) hS 0 rfl
 exact (res_one (res_tmp (x := .b (!r1.1)) rfl))
theorem W_coins_all_int {S : Type} {Lo : S → BL} (hk : ∀ s s', KinL (Lo s) (Lo s')) (hnd : ∀ s, (ids (Lo s)).Nodup) (hin : ∀ s, InB In (Lo s)) {aF : Int → S → Option (Bool × S)} {f0 : AV} (hF : ∀ s H, Has H (Lo s) → In H f0) (h0 : cellsOf f0 = some [f0]) (hf : ∀ {x0 : Int} {s : S} {r : Bool × S}, aF x0 s = some r → CSat Try.prog f0 [.i x0] (Lo s) (.b r.1) (Lo r.2)) {n : Nat} {a0 : List Int} {st : S} {r : Bool × S} (hM : coins_all_int n aF a0 st = some r) : HSat Try.prog 76 [.sl .no 1 (a0.map cI), f0] (Lo st) (.b r.1) (Lo r.2) := by
 have hnd0 : ∀ s, (ids (Lo s)).Nodup := fun s => hnd s
 refine hsat_of_wp mixed Try.func76 rfl (by decide) Try.ntmps76 (by simp) (hk _ _) (hnd st) ?pure ?cells fun H0 g hf_ hp => ?_
 case pure => exact fun H _ => (show Go.AM.Pure _ from .v _).inH
 case cells => exact hin _
 rw [frame0_of]
 change wpA _ _ _ _ (Fr.of [(0, .sl .no 1 (a0.map cI)), (1, f0)]) H0 g
 have hS := St.startH (L := ([] ++ Lo st)) hf_ (hnd st) hp
 replace hS : St (fun i => i < g ∧ i ∉ ids (Lo st)) H0 ([] ++ Lo st) H0 g := hS
 refine r_seq ?_
 refine r_region (n := 2) rfl ?_
 refine o_box (v := f0) (cs := [f0]) hS (by decide) rfl h0 (by omega) fun H hS => ?_
 refine o_assign (v := .b false) (by decide) rfl ?_
 refine run_nil ?_
 refine w_iceE (L' := ([] ++ Lo st)) 0 3 hS rfl rfl rfl fun H hS => ?_
 refine w_next [(0, .sl .no 1 (a0.map cI)), (3, .ep [f0])] (.k (.k .nil)) ?_
 refine w_join (J := Bool × S) (fun j => [(4, .b j.1)]) (fun j H' g' => St (fun i => i < g ∧ i ∉ ids (Lo st)) H0 ([] ++ Lo j.2) H' g' ∧ coins_all_int_j1 j.1 j.2 = some r) ?_ ?_
 ·rintro ⟨v1, v2⟩ H g1 ⟨hS, hM⟩
  change wpA _ _ _ _ (Fr.of [(4, .b v1)]) _ _
  replace hS : St (fun i => i < g ∧ i ∉ ids (Lo st)) H0 ([] ++ Lo v2) H g1 := hS
  replace hM : coins_all_int_j1 v1 v2 = some r := hM
  refine r_ret ?_
  refine w_endS (x := .b v1) (f := fun r => .b r.1) (fd := fun r => (Lo r.2)) (.inr rfl) ?_ (.refl _) (Option.some.inj hM) hS 0 rfl
  exact (res_one (res_tmp (x := .b v1) rfl))
 ·refine r_region (n := 10) rfl ?_
  refine o_move (v := .sl .no 1 (a0.map cI)) (by decide) rfl ?_
  refine o_len (n := a0.length) (by decide) rfl (List.length_map _) ty_isl22 ?_
  refine o_int (v := .b (decide ((a0.length : Int) ≤ 20))) (by decide) rfl rfl rfl ?_
  refine o_move (v := .b (decide ((a0.length : Int) ≤ 20))) (by decide) rfl ?_
  rcases Bool.eq_false_or_eq_true (decide ((a0.length : Int) ≤ 20)) with hb3 | hb3
  ·replace hM := ifT hM hb3
   refine o_guardY (j := 3) (e := (decide ((a0.length : Int) ≤ 20))) (want := true) rfl hb3 ?_
   refine o_move (v := .sl .no 1 (a0.map cI)) (by decide) rfl ?_
   refine o_guardY (j := 3) (e := (decide ((a0.length : Int) ≤ 20))) (want := true) rfl hb3 ?_
   refine o_makeFunc (first := []) (cap := [.ep [f0]]) (by decide) rfl rfl ?_
   refine o_guardY (j := 3) (e := (decide ((a0.length : Int) ≤ 20))) (want := true) rfl hb3 ?_
   obtain ⟨r4, hr4, hM⟩ := bindE hM
   replace hS : St (fun i => i < g ∧ i ∉ ids (Lo st)) H0 ([] ++ Lo st) _ _ := hS
   refine o_stateH (bs := [.sl .no 1 (a0.map cI), .fn (.func 107) [] [.ep [f0]]]) (.inl rfl) hS (by decide) rfl rfl ((W_slices_ContainsFunc_int (Lo := Lo)  hk hnd0 hin (aF := (coins_all_int_c1 aF)) (fun s H hH => (.fn _ _ _ ai_nil (ai_cons (.ep _ (ai_cons (hF _ H hH) ai_nil)) ai_nil))) rfl (fun h => csat_hv (W_coins_all_int_c1 (Lo := Lo)  hk hnd0 hin hF h0 hf h)) hr4).le (.k (.k .nil))) (hk _ _).ids (by omega) fun H hS => ?_
   refine o_guardY (j := 3) (e := (decide ((a0.length : Int) ≤ 20))) (want := true) rfl hb3 ?_
   refine o_not (e := r4.1) (by decide) rfl ?_
   refine o_pickT (v := .b (!r4.1)) (e := (decide ((a0.length : Int) ≤ 20))) (by decide) rfl hb3 rfl ?_
   refine o_assign (v := .b (!r4.1)) (by decide) rfl ?_
   refine run_nil ?_
   exact w_goto ((!r4.1), r4.2) (.k .nil) ⟨(hS.keep [] rfl).up (by omega), hM⟩
  ·replace hM := ifF hM hb3
   refine o_guardN (j := 3) (e := (decide ((a0.length : Int) ≤ 20))) (want := true) (by decide) rfl hb3 ?_
   refine o_guardN (j := 3) (e := (decide ((a0.length : Int) ≤ 20))) (want := true) (by decide) rfl hb3 ?_
   refine o_guardN (j := 3) (e := (decide ((a0.length : Int) ≤ 20))) (want := true) (by decide) rfl hb3 ?_
   refine o_guardN (j := 3) (e := (decide ((a0.length : Int) ≤ 20))) (want := true) (by decide) rfl hb3 ?_
   refine o_pickF (v := .b false) (e := (decide ((a0.length : Int) ≤ 20))) (by decide) rfl hb3 rfl ?_
   refine o_assign (v := .b false) (by decide) rfl ?_
   refine run_nil ?_
   exact w_goto (false, st) (.k .nil) ⟨(hS.keep [] rfl).up (by omega), hM⟩
theorem W_coins_wheel_isAct {a0 : Wheel_} {a1 : Int} {r : Bool} (hM : coins_wheel_isAct a0 a1 = some r) : PureSat Try.prog 77 [.agg [.i a0.Wheel.Round, .sl .no 1 (a0.Wheel.Notches.map cI), .sl .no 1 (a0.Wheel.Coins.map cI)], .i a1] (.b r) := by
 refine pure_of_wp mixed Try.func77 rfl (by decide) Try.ntmps77 (by simp) ?pure fun H0 g hf => ?_
 case pure => exact .v _
 rw [frame0_of]
 change wpA _ _ _ _ (Fr.of [(0, .agg [.i a0.Wheel.Round, .sl .no 1 (a0.Wheel.Notches.map cI), .sl .no 1 (a0.Wheel.Coins.map cI)]), (1, .i a1)]) H0 g
 have hS := St.start hf
 refine r_seq ?_
 refine r_region (n := 2) rfl ?_
 refine o_box (v := .agg [.i a0.Wheel.Round, .sl .no 1 (a0.Wheel.Notches.map cI), .sl .no 1 (a0.Wheel.Coins.map cI)]) (cs := [.i a0.Wheel.Round, .sl .no 1 (a0.Wheel.Notches.map cI), .sl .no 1 (a0.Wheel.Coins.map cI)]) hS (by decide) rfl rfl (by omega) fun H hS => ?_
 refine o_assign (v := .b false) (by decide) rfl ?_
 refine run_nil ?_
 refine w_iceE (L' := []) 0 2 hS rfl rfl rfl fun H hS => ?_
 refine w_next [(1, .i a1), (2, .ep [.i a0.Wheel.Round, .sl .no 1 (a0.Wheel.Notches.map cI), .sl .no 1 (a0.Wheel.Coins.map cI)])] (.k (.k .nil)) ?_
 refine w_join (J := Bool) (fun j => [(4, .b j)]) (fun j H' g' => St (· < g) H0 [] H' g' ∧ coins_wheel_isAct_j1 j = some r) ?_ ?_
 ·rintro v1 H g1 ⟨hS, hM⟩
  change wpA _ _ _ _ (Fr.of [(4, .b v1)]) _ _
  replace hS : St (· < g) H0 [] H g1 := hS
  replace hM : coins_wheel_isAct_j1 v1 = some r := hM
  refine r_ret ?_
  refine w_end (x := .b v1) (f := fun r => .b r) (.inr rfl) ?_ (.refl _) (Option.some.inj hM) hS
  exact (res_one (res_tmp (x := .b v1) rfl))
 ·refine r_region (n := 8) rfl ?_
  refine o_move (v := .i a1) (by decide) rfl ?_
  refine o_int (v := .b (a1 == (-1))) (by decide) rfl rfl rfl ?_
  refine o_move (v := .b (a1 == (-1))) (by decide) rfl ?_
  rcases Bool.eq_false_or_eq_true (a1 == (-1)) with hb2 | hb2
  ·replace hM := ifT hM hb2
   refine o_guardN (j := 2) (e := (a1 == (-1))) (want := false) (by decide) rfl hb2 ?_
   refine o_guardN (j := 2) (e := (a1 == (-1))) (want := false) (by decide) rfl hb2 ?_
   refine o_guardN (j := 2) (e := (a1 == (-1))) (want := false) (by decide) rfl hb2 ?_
   refine o_pickT (v := .b true) (e := (a1 == (-1))) (by decide) rfl hb2 rfl ?_
   refine o_assign (v := .b true) (by decide) rfl ?_
   refine run_nil ?_
   exact w_goto true (.k .nil) ⟨(hS.keep [] rfl).up (by omega), hM⟩
  ·replace hM := ifF hM hb2
   refine o_guardY (j := 2) (e := (a1 == (-1))) (want := false) rfl hb2 ?_
   refine o_loadE (v := .agg [.i a0.Wheel.Round, .sl .no 1 (a0.Wheel.Notches.map cI), .sl .no 1 (a0.Wheel.Coins.map cI)]) (by decide) rfl (part_agg ty_agg71 (Nat.le_of_ble_eq_true rfl) rfl) ?_
   refine o_guardY (j := 2) (e := (a1 == (-1))) (want := false) rfl hb2 ?_
   refine o_move (v := .i a1) (by decide) rfl ?_
   refine o_guardY (j := 2) (e := (a1 == (-1))) (want := false) rfl hb2 ?_
   obtain ⟨r3, hr3, hM⟩ := bindE hM
   refine o_call (bs := [.agg [.i a0.Wheel.Round, .sl .no 1 (a0.Wheel.Notches.map cI), .sl .no 1 (a0.Wheel.Coins.map cI)], .i a1]) (by decide) rfl rfl ((W_coins_wheel_isKind hr3).le (.k (.k .nil))) ?_
   refine o_pickF (v := .b r3) (e := (a1 == (-1))) (by decide) rfl hb2 rfl ?_
   refine o_assign (v := .b r3) (by decide) rfl ?_
   refine run_nil ?_
   exact w_goto r3 (.k .nil) ⟨(hS.keep [] rfl).up (by omega), hM⟩
theorem W_coins_Run_c1 {p1 : Nat} (hnd : [p1].Nodup) {n : Nat} {a0 : Wheel_} {a1 : Stand} {a2 : List Int} {r : Bool} (hM : coins_Run_c1 n a0 a1 a2 = some r) : HSat Try.prog 74 [.agg [.i a0.Wheel.Round, .sl .no 1 (a0.Wheel.Notches.map cI), .sl .no 1 (a0.Wheel.Coins.map cI)], .ptr p1 0, .ep [.sl .no 1 (a2.map cI)]] [(p1, .cells [.i a1.Place, .i a1.Credit])] (.b r) [(p1, .cells [.i a1.Place, .i a1.Credit])] := by
 refine hsat_of_wp mixed Try.func74 rfl (by decide) Try.ntmps74 (by simp) (kl_cells kl_nil) hnd ?pure ?cells fun H0 g hf_ hp => ?_
 case pure => exact fun H _ => (show Go.AM.Pure _ from .v _).inH
 case cells => exact (inb_st (ic_cells (ci_cons (.inl (.inl (.v _))) (ci_cons (.inl (.inl (.v _))) ci_nil)) ic_nil) inb_nil)
 rw [frame0_of]
 change wpA _ _ _ _ (Fr.of [(0, .agg [.i a0.Wheel.Round, .sl .no 1 (a0.Wheel.Notches.map cI), .sl .no 1 (a0.Wheel.Coins.map cI)]), (1, .ptr p1 0), (2, .ep [.sl .no 1 (a2.map cI)])]) H0 g
 have hS := St.startH (L := [(p1, .cells [.i a1.Place, .i a1.Credit])]) hf_ hnd hp
 replace hS : St (fun i => i < g ∧ i ∉ ids [(p1, .cells [.i a1.Place, .i a1.Credit])]) H0 [(p1, .cells [.i a1.Place, .i a1.Credit])] H0 g := hS
 refine r_seq ?_
 refine r_region (n := 2) rfl ?_
 refine o_box (v := .agg [.i a0.Wheel.Round, .sl .no 1 (a0.Wheel.Notches.map cI), .sl .no 1 (a0.Wheel.Coins.map cI)]) (cs := [.i a0.Wheel.Round, .sl .no 1 (a0.Wheel.Notches.map cI), .sl .no 1 (a0.Wheel.Coins.map cI)]) hS (by decide) rfl rfl (by omega) fun H hS => ?_
 refine o_assign (v := .b false) (by decide) rfl ?_
 refine run_nil ?_
 refine w_iceE (L' := [(p1, .cells [.i a1.Place, .i a1.Credit])]) 0 3 hS rfl rfl rfl fun H hS => ?_
 refine w_next [(1, .ptr p1 0), (2, .ep [.sl .no 1 (a2.map cI)]), (3, .ep [.i a0.Wheel.Round, .sl .no 1 (a0.Wheel.Notches.map cI), .sl .no 1 (a0.Wheel.Coins.map cI)])] (.k (.k (.k .nil))) ?_
 refine w_join (J := Bool) (fun j => [(4, .b j)]) (fun j H' g' => St (fun i => i < g ∧ i ∉ ids [(p1, .cells [.i a1.Place, .i a1.Credit])]) H0 [(p1, .cells [.i a1.Place, .i a1.Credit])] H' g' ∧ coins_Run_c1_j1 j = some r) ?_ ?_
 ·rintro v1 H g1 ⟨hS, hM⟩
  change wpA _ _ _ _ (Fr.of [(4, .b v1)]) _ _
  replace hS : St (fun i => i < g ∧ i ∉ ids [(p1, .cells [.i a1.Place, .i a1.Credit])]) H0 [(p1, .cells [.i a1.Place, .i a1.Credit])] H g1 := hS
  replace hM : coins_Run_c1_j1 v1 = some r := hM
  refine r_ret ?_
  refine w_endS (x := .b v1) (f := fun r => .b r) (fd := fun r => [(p1, .cells [.i a1.Place, .i a1.Credit])]) (.inr rfl) ?_ (.refl _) (Option.some.inj hM) hS 0 rfl
  exact (res_one (res_tmp (x := .b v1) rfl))
 ·refine r_region (n := 16) rfl ?_
  refine o_loadE (v := .agg [.i a0.Wheel.Round, .sl .no 1 (a0.Wheel.Notches.map cI), .sl .no 1 (a0.Wheel.Coins.map cI)]) (by decide) rfl (part_agg ty_agg71 (Nat.le_of_ble_eq_true rfl) rfl) ?_
  refine o_fieldP (by decide) ty_fo57_0 rfl ?_
  refine o_load (v := .i a1.Place) 0 hS (by decide) rfl rfl .no (part_one ty_agg3 ty_sc3 rfl) ?_
  obtain ⟨r2, hr2, hM⟩ := bindE hM
  refine o_call (bs := [.agg [.i a0.Wheel.Round, .sl .no 1 (a0.Wheel.Notches.map cI), .sl .no 1 (a0.Wheel.Coins.map cI)], .i a1.Place]) (by decide) rfl rfl ((W_coins_wheel_isPlace hr2).le (.k (.k .nil))) ?_
  refine o_move (v := .b r2) (by decide) rfl ?_
  rcases Bool.eq_false_or_eq_true r2 with hb3 | hb3
  ·replace hM := ifT hM hb3
   refine o_guardY (j := 4) (e := r2) (want := true) rfl hb3 ?_
   refine o_fieldP (by decide) ty_fo57_1 rfl ?_
   refine o_guardY (j := 4) (e := r2) (want := true) rfl hb3 ?_
   refine o_load (v := .i a1.Credit) 0 hS (by decide) rfl rfl .no (part_one ty_agg3 ty_sc3 rfl) ?_
   refine o_guardY (j := 4) (e := r2) (want := true) rfl hb3 ?_
   obtain ⟨r4, hr4, hM⟩ := bindE hM
   refine o_call (bs := [.i a1.Credit, .i 0, .i 20]) (by decide) rfl rfl ((W_coins_within hr4).le (.k (.k (.k .nil)))) ?_
   refine o_pickT (v := .b r4) (e := r2) (by decide) rfl hb3 rfl ?_
   refine o_move (v := .b r4) (by decide) rfl ?_
   rcases Bool.eq_false_or_eq_true r4 with hb5 | hb5
   ·replace hM := ifT hM hb5
    refine o_guardY (j := 9) (e := r4) (want := true) rfl hb5 ?_
    refine o_loadE (v := .sl .no 1 (a2.map cI)) (by decide) rfl (part_one ty_agg22 ty_sc22 rfl) ?_
    refine o_guardY (j := 9) (e := r4) (want := true) rfl hb5 ?_
    refine o_loadE (v := .agg [.i a0.Wheel.Round, .sl .no 1 (a0.Wheel.Notches.map cI), .sl .no 1 (a0.Wheel.Coins.map cI)]) (by decide) rfl (part_agg ty_agg71 (Nat.le_of_ble_eq_true rfl) rfl) ?_
    refine o_guardY (j := 9) (e := r4) (want := true) rfl hb5 ?_
    refine o_makeFunc (first := [.agg [.i a0.Wheel.Round, .sl .no 1 (a0.Wheel.Notches.map cI), .sl .no 1 (a0.Wheel.Coins.map cI)]]) (cap := []) (by decide) rfl rfl ?_
    refine o_guardY (j := 9) (e := r4) (want := true) rfl hb5 ?_
    obtain ⟨r6, hr6, hM⟩ := bindE hM
    refine o_call (bs := [.sl .no 1 (a2.map cI), .fn (.func 77) [.agg [.i a0.Wheel.Round, .sl .no 1 (a0.Wheel.Notches.map cI), .sl .no 1 (a0.Wheel.Coins.map cI)]] []]) (by decide) rfl rfl (pure_of_hsat ((W_coins_all_int (Lo := (fun (_ : Unit) => []))  (fun _ _ => kl_nil) (fun _ => List.nodup_nil) (fun _ => inb_nil) (aF := (fun (x0 : Int) (_ : Unit) => (coins_wheel_isAct a0 x0).map fun y => (y, ()))) (fun _ H hH => (.fn _ _ _ (ai_cons (show Go.AM.Pure _ from .agg _ (pl_cons (.v _) (pl_cons (.sl _ _ (pures_map (fun x => (pl_cons (.v _) pl_nil)))) (pl_cons (.sl _ _ (pures_map (fun x => (pl_cons (.v _) pl_nil)))) pl_nil)))).inH ai_nil) ai_nil)) rfl (fun h => csat_val (W_coins_wheel_isAct (pure_some h))) hr6).le (.k (.k .nil)))) ?_
    refine o_pickT (v := .b r6.1) (e := r4) (by decide) rfl hb5 rfl ?_
    refine o_assign (v := .b r6.1) (by decide) rfl ?_
    refine run_nil ?_
    exact w_goto r6.1 (.k .nil) ⟨(hS.keep [true] rfl).up (by omega), hM⟩
   ·replace hM := ifF hM hb5
    refine o_guardN (j := 9) (e := r4) (want := true) (by decide) rfl hb5 ?_
    refine o_guardN (j := 9) (e := r4) (want := true) (by decide) rfl hb5 ?_
    refine o_guardN (j := 9) (e := r4) (want := true) (by decide) rfl hb5 ?_
    refine o_guardN (j := 9) (e := r4) (want := true) (by decide) rfl hb5 ?_
    refine o_pickF (v := .b false) (e := r4) (by decide) rfl hb5 rfl ?_
    refine o_assign (v := .b false) (by decide) rfl ?_
    refine run_nil ?_
    exact w_goto false (.k .nil) ⟨(hS.keep [true] rfl).up (by omega), hM⟩
  ·replace hM := ifF hM hb3
   refine o_guardN (j := 4) (e := r2) (want := true) (by decide) rfl hb3 ?_
   refine o_guardN (j := 4) (e := r2) (want := true) (by decide) rfl hb3 ?_
   refine o_guardN (j := 4) (e := r2) (want := true) (by decide) rfl hb3 ?_
   refine o_pickF (v := .b false) (e := r2) (by decide) rfl hb3 rfl ?_
   refine o_move (v := .b false) (by decide) rfl ?_
   refine o_guardN (j := 9) (e := false) (want := true) (by decide) rfl rfl ?_
   refine o_guardN (j := 9) (e := false) (want := true) (by decide) rfl rfl ?_
   refine o_guardN (j := 9) (e := false) (want := true) (by decide) rfl rfl ?_
   refine o_guardN (j := 9) (e := false) (want := true) (by decide) rfl rfl ?_
   refine o_pickF (v := .b false) (e := false) (by decide) rfl rfl rfl ?_
   refine o_assign (v := .b false) (by decide) rfl ?_
   refine run_nil ?_
   exact w_goto false (.k .nil) ⟨(hS.keep [true] rfl).up (by omega), hM⟩
theorem W_coins_Run {n : Nat} {a0 : Wheel} {a1 : Stand} {a2 : List Int} {r : Stand × Int × Int} (hM : coins_Run n a0 a1 a2 = some r) : PureSat Try.prog 40 [.agg [.i a0.Round, .sl .no 1 (a0.Notches.map cI), .sl .no 1 (a0.Coins.map cI)], .agg [.i a1.Place, .i a1.Credit], .sl .no 1 (a2.map cI)] (.tup [.agg [.i r.1.Place, .i r.1.Credit], .i r.2.1, .i r.2.2]) := by
 refine pure_of_wp mixed Try.func40 rfl (by decide) Try.ntmps40 (by simp) ?pure fun H0 g hf => ?_
 case pure => exact .tup _ (pl_cons (.agg _ (pl_cons (.v _) (pl_cons (.v _) pl_nil))) (pl_cons (.v _) (pl_cons (.v _) pl_nil)))
 rw [frame0_of]
 change wpA _ _ _ _ (Fr.of [(0, .agg [.i a0.Round, .sl .no 1 (a0.Notches.map cI), .sl .no 1 (a0.Coins.map cI)]), (1, .agg [.i a1.Place, .i a1.Credit]), (2, .sl .no 1 (a2.map cI))]) H0 g
 have hS := St.start hf
 refine r_seq ?_
 refine r_region (n := 6) rfl ?_
 refine o_box (v := .agg [.i a0.Round, .sl .no 1 (a0.Notches.map cI), .sl .no 1 (a0.Coins.map cI)]) (cs := [.i a0.Round, .sl .no 1 (a0.Notches.map cI), .sl .no 1 (a0.Coins.map cI)]) hS (by decide) rfl rfl (by omega) fun H hS => ?_
 refine o_box (v := .agg [.i a1.Place, .i a1.Credit]) (cs := [.i a1.Place, .i a1.Credit]) hS (by decide) rfl rfl (by omega) fun H hS => ?_
 refine o_box (v := .sl .no 1 (a2.map cI)) (cs := [.sl .no 1 (a2.map cI)]) hS (by decide) rfl rfl (by omega) fun H hS => ?_
 refine o_alloc hS (by decide) ty_zero57 (by omega) fun H hS => ?_
 refine o_assign (v := .i 0) (by decide) rfl ?_
 refine o_assign (v := .i 0) (by decide) rfl ?_
 refine run_nil ?_
 refine w_iceE (L' := [(g + 3, .cells [.i 0, .i 0]), (g + 2, .cells [.sl .no 1 (a2.map cI)]), (g + 1, .cells [.i a1.Place, .i a1.Credit])]) 3 3 hS rfl rfl rfl fun H hS => ?_
 refine w_iceE (L' := [(g + 3, .cells [.i 0, .i 0]), (g + 1, .cells [.i a1.Place, .i a1.Credit])]) 1 5 hS rfl rfl rfl fun H hS => ?_
 refine w_next [(3, .ep [.i a0.Round, .sl .no 1 (a0.Notches.map cI), .sl .no 1 (a0.Coins.map cI)]), (4, .ptr (g + 1) 0), (5, .ep [.sl .no 1 (a2.map cI)]), (6, .ptr (g + 3) 0), (7, .i 0)] (.k (.k (.k (.k (.k .nil))))) ?_
 refine r_seq ?_
 refine r_region (n := 9) rfl ?_
 refine o_loadE (v := .agg [.i a0.Round, .sl .no 1 (a0.Notches.map cI), .sl .no 1 (a0.Coins.map cI)]) (by decide) rfl (part_agg ty_agg24 (Nat.le_of_ble_eq_true rfl) rfl) ?_
 refine o_makeFunc (first := []) (cap := [.ptr (g + 1) 0, .ep [.sl .no 1 (a2.map cI)]]) (by decide) rfl rfl ?_
 obtain ⟨r1, hr1, hM⟩ := bindE hM
 have hndr1 := hS.nd_at (ns := [1]) (M := [(g + 1, .cells [.i a1.Place, .i a1.Credit])]) (M' := [(g + 1, .cells [.i a1.Place, .i a1.Credit])]) (.cons rfl .nil) (by decide)
 have hncr1 := hS.nd_at (ns := [1]) (M := [(g + 1, .cells [.i a1.Place, .i a1.Credit])]) (M' := [(g + 1, .cells [.i a1.Place, .i a1.Credit])]) (.cons rfl .nil) (by decide)
 refine o_hsat (bs := [.agg [.i a0.Round, .sl .no 1 (a0.Notches.map cI), .sl .no 1 (a0.Coins.map cI)], .fn (.func 74) [] [.ptr (g + 1) 0, .ep [.sl .no 1 (a2.map cI)]]]) (M := [(g + 1, .cells [.i a1.Place, .i a1.Credit])]) (M' := [(g + 1, .cells [.i a1.Place, .i a1.Credit])]) (L' := [(g + 3, .cells [.i 0, .i 0]), (g + 1, .cells [.i a1.Place, .i a1.Credit])]) [1] (.inl rfl) hS (by decide) rfl rfl ((W_coins_open (Lo := (fun (_ : Unit) => [(g + 1, .cells [.i a1.Place, .i a1.Credit])]))  (fun _ _ => (kl_cells kl_nil)) (fun _ => hndr1) (fun s => (inb_st (ic_cells (ci_cons (.inl (.inl (.v _))) (ci_cons (.inl (.inl (.v _))) ci_nil)) ic_nil) inb_nil)) (aF := (fun (x0 : Wheel_) (_ : Unit) => (coins_Run_c1 n x0 a1 a2).map fun y => (y, ()))) (fun s H hH => (.fn _ _ _ ai_nil (ai_cons (in_ptr hH 0 rfl) (ai_cons (.ep _ (ai_cons (show Go.AM.Pure _ from .sl _ _ (pures_map (fun x => (pl_cons (.v _) pl_nil)))).inH ai_nil)) ai_nil)))) rfl (fun h => csat_hv (W_coins_Run_c1 (p1 := g + 1)  hncr1 (pure_some h))) hr1).le (.k (.k .nil))) (.cons rfl .nil) rfl (by omega) fun H hS => ?_
 refine o_move (v := .tup [.agg [.i r1.1.1.Wheel.Round, .sl .no 1 (r1.1.1.Wheel.Notches.map cI), .sl .no 1 (r1.1.1.Wheel.Coins.map cI)], .i r1.1.2]) (by decide) rfl ?_
 refine o_extract (v := .agg [.i r1.1.1.Wheel.Round, .sl .no 1 (r1.1.1.Wheel.Notches.map cI), .sl .no 1 (r1.1.1.Wheel.Coins.map cI)]) (by decide) rfl rfl ?_
 refine o_extract (v := .i r1.1.2) (by decide) rfl rfl ?_
 refine o_alloc hS (by decide) ty_zero71 (by omega) fun H hS => ?_
 refine o_store (v := .agg [.i r1.1.1.Wheel.Round, .sl .no 1 (r1.1.1.Wheel.Notches.map cI), .sl .no 1 (r1.1.1.Wheel.Coins.map cI)]) (ns := [.i r1.1.1.Wheel.Round, .sl .no 1 (r1.1.1.Wheel.Notches.map cI), .sl .no 1 (r1.1.1.Wheel.Coins.map cI)]) (L' := [(g + 6 + 6, .cells [.i r1.1.1.Wheel.Round, .sl .no 1 (r1.1.1.Wheel.Notches.map cI), .sl .no 1 (r1.1.1.Wheel.Coins.map cI)]), (g + 3, .cells [.i 0, .i 0]), (g + 1, .cells [.i a1.Place, .i a1.Credit])]) 0 hS rfl rfl .no rfl rfl ty_var71 (Nat.le_of_ble_eq_true rfl) rfl fun H hS => ?_
 refine o_assign (v := .i r1.1.2) (by decide) rfl ?_
 refine run_nil ?_
 refine w_iceE (L' := [(g + 3, .cells [.i 0, .i 0]), (g + 1, .cells [.i a1.Place, .i a1.Credit])]) 0 9 hS rfl rfl rfl fun H hS => ?_
 refine w_next [(4, .ptr (g + 1) 0), (5, .ep [.sl .no 1 (a2.map cI)]), (6, .ptr (g + 3) 0), (7, .i 0), (8, .i r1.1.2), (9, .ep [.i r1.1.1.Wheel.Round, .sl .no 1 (r1.1.1.Wheel.Notches.map cI), .sl .no 1 (r1.1.1.Wheel.Coins.map cI)])] (.k (.k (.k (.k (.k (.k .nil)))))) ?_
 refine r_seq ?_
 refine r_seq ?_
 refine r_region (n := 2) rfl ?_
 refine o_move (v := .i r1.1.2) (by decide) rfl ?_
 refine o_int (v := .b (r1.1.2 != 0)) (by decide) rfl rfl rfl ?_
 refine run_nil ?_
 refine w_next [(4, .ptr (g + 1) 0), (5, .ep [.sl .no 1 (a2.map cI)]), (6, .ptr (g + 3) 0), (7, .i 0), (8, .i r1.1.2), (9, .ep [.i r1.1.1.Wheel.Round, .sl .no 1 (r1.1.1.Wheel.Notches.map cI), .sl .no 1 (r1.1.1.Wheel.Coins.map cI)]), (19, .b (r1.1.2 != 0))] (.k (.k (.k (.k (.k (.k (.k .nil))))))) ?_
 rcases Bool.eq_false_or_eq_true (r1.1.2 != 0) with hb2 | hb2
 ·replace hM := ifT hM hb2
  refine w_condT (e := (r1.1.2 != 0)) rfl hb2 ?_
  refine r_seq ?_
  refine r_region (n := 5) rfl ?_
  refine o_build (cs := [.i 0, .i 0]) (by decide) ty_zero57 ty_pl57 rfl ?_
  refine o_move (v := .i r1.1.2) (by decide) rfl ?_
  refine o_store (v := .agg [.i 0, .i 0]) (ns := [.i 0, .i 0]) (L' := [(g + 3, .cells [.i 0, .i 0]), (g + 1, .cells [.i a1.Place, .i a1.Credit])]) 0 hS rfl rfl .no rfl rfl ty_var57 (Nat.le_of_ble_eq_true rfl) rfl fun H hS => ?_
  refine o_assign (v := .i 0) (by decide) rfl ?_
  refine o_assign (v := .i r1.1.2) (by decide) rfl ?_
  refine run_nil ?_
  replace hS := hS.keep (L' := [(g + 3, .cells [.i 0, .i 0])]) [true, false] rfl
  refine w_next [(6, .ptr (g + 3) 0), (7, .i 0), (8, .i r1.1.2)] (.k (.k (.k .nil))) ?_
  refine r_ret ?_
  refine r_then_ret ?_
  refine w_end (x := .tup [.agg [.i 0, .i 0], .i 0, .i r1.1.2]) (f := fun r => .tup [.agg [.i r.1.Place, .i r.1.Credit], .i r.2.1, .i r.2.2]) (.inr rfl) ?_ (.refl _) (Option.some.inj hM) hS
  exact (res_three (res_cell (x := .agg [.i 0, .i 0]) 0 hS rfl rfl (part_agg ty_agg57 (Nat.le_of_ble_eq_true rfl) rfl)) (res_tmp (x := .i 0) rfl) (res_tmp (x := .i r1.1.2) rfl))
 ·replace hM := ifF hM hb2
  refine w_condF (e := (r1.1.2 != 0)) rfl hb2 ?_
  refine r_skip ?_
  refine w_next [(4, .ptr (g + 1) 0), (5, .ep [.sl .no 1 (a2.map cI)]), (6, .ptr (g + 3) 0), (7, .i 0), (9, .ep [.i r1.1.1.Wheel.Round, .sl .no 1 (r1.1.1.Wheel.Notches.map cI), .sl .no 1 (r1.1.1.Wheel.Coins.map cI)])] (.k (.k (.k (.k (.k .nil))))) ?_
  refine w_join (J := Int × Int × Int) (fun j => [(4, .ptr (g + 1) 0), (6, .ptr (g + 3) 0), (7, .i j.1)]) (fun j H' g' => St (· < g) H0 [(g + 3, .cells [.i 0, .i 0]), (g + 1, .cells [.i j.2.1, .i j.2.2])] H' g' ∧ coins_Run_j1 j.1 j.2.1 j.2.2 = some r) ?_ ?_
  ·rintro ⟨v3, v4, v5⟩ H g1 ⟨hS, hM⟩
   change wpA _ _ _ _ (Fr.of [(4, .ptr (g + 1) 0), (6, .ptr (g + 3) 0), (7, .i v3)]) _ _
   replace hS : St (· < g) H0 [(g + 3, .cells [.i 0, .i 0]), (g + 1, .cells [.i v4, .i v5])] H g1 := hS
   replace hM : coins_Run_j1 v3 v4 v5 = some r := hM
   refine r_seq ?_
   refine r_region (n := 5) rfl ?_
   refine o_load (v := .agg [.i v4, .i v5]) 1 hS (by decide) rfl rfl .no (part_agg ty_agg57 (Nat.le_of_ble_eq_true rfl) rfl) ?_
   refine o_move (v := .i v3) (by decide) rfl ?_
   refine o_store (v := .agg [.i v4, .i v5]) (ns := [.i v4, .i v5]) (L' := [(g + 3, .cells [.i v4, .i v5]), (g + 1, .cells [.i v4, .i v5])]) 0 hS rfl rfl .no rfl rfl ty_var57 (Nat.le_of_ble_eq_true rfl) rfl fun H hS => ?_
   refine o_assign (v := .i v3) (by decide) rfl ?_
   refine o_assign (v := .i 0) (by decide) rfl ?_
   refine run_nil ?_
   replace hS := hS.keep (L' := [(g + 3, .cells [.i v4, .i v5])]) [true, false] rfl
   refine w_next [(6, .ptr (g + 3) 0), (7, .i v3), (8, .i 0)] (.k (.k (.k .nil))) ?_
   refine r_ret ?_
   refine w_end (x := .tup [.agg [.i v4, .i v5], .i v3, .i 0]) (f := fun r => .tup [.agg [.i r.1.Place, .i r.1.Credit], .i r.2.1, .i r.2.2]) (.inr rfl) ?_ (.refl _) (Option.some.inj hM) hS
   exact (res_three (res_cell (x := .agg [.i v4, .i v5]) 0 hS rfl rfl (part_agg ty_agg57 (Nat.le_of_ble_eq_true rfl) rfl)) (res_tmp (x := .i v3) rfl) (res_tmp (x := .i 0) rfl))
  ·refine r_seq ?_
   refine r_region (n := 3) rfl ?_
   refine o_loadE (v := .sl .no 1 (a2.map cI)) (by decide) rfl (part_one ty_agg22 ty_sc22 rfl) ?_
   refine o_len (n := a2.length) (by decide) rfl (List.length_map _) ty_isl22 ?_
   refine o_move (v := .i 0) (by decide) rfl ?_
   refine run_nil ?_
   refine w_next [(4, .ptr (g + 1) 0), (6, .ptr (g + 3) 0), (7, .i 0), (9, .ep [.i r1.1.1.Wheel.Round, .sl .no 1 (r1.1.1.Wheel.Notches.map cI), .sl .no 1 (r1.1.1.Wheel.Coins.map cI)]), (22, .sl .no 1 (a2.map cI)), (23, .i (a2.length : Int)), (24, .i 0)] (.k (.k (.k (.k (.k (.k (.k .nil))))))) ?_
   refine r_block ?_
   refine w_loop (V := Int × Int × Int × Int) (fun v => [(4, .ptr (g + 1) 0), (6, .ptr (g + 3) 0), (7, .i v.1), (9, .ep [.i r1.1.1.Wheel.Round, .sl .no 1 (r1.1.1.Wheel.Notches.map cI), .sl .no 1 (r1.1.1.Wheel.Coins.map cI)]), (22, .sl .no 1 (a2.map cI)), (23, .i (a2.length : Int)), (24, .i v.2.1)]) (fun v m3 H' g' => St (· < g) H0 [(g + 3, .cells [.i 0, .i 0]), (g + 1, .cells [.i v.2.2.1, .i v.2.2.2])] H' g' ∧ coins_Run_l1 n a2 r1 m3 v.1 v.2.1 v.2.2.1 v.2.2.2 = some r) (n := n) (0, 0, a1.Place, a1.Credit) (.k (.k (.k (.k (.k (.k (.k .nil))))))) ⟨(hS.keep [true, true] rfl).up (by omega), hM⟩ ?_
   rintro ⟨v8, v9, v10, v11⟩ m3 H g3 ⟨hS, hM⟩
   obtain _ | m3 := m3
   ·exact nomatch (show none = some _ from hM)
   change wpA _ _ _ _ (Fr.of [(4, .ptr (g + 1) 0), (6, .ptr (g + 3) 0), (7, .i v8), (9, .ep [.i r1.1.1.Wheel.Round, .sl .no 1 (r1.1.1.Wheel.Notches.map cI), .sl .no 1 (r1.1.1.Wheel.Coins.map cI)]), (22, .sl .no 1 (a2.map cI)), (23, .i (a2.length : Int)), (24, .i v9)]) _ _
   replace hS : St (· < g) H0 [(g + 3, .cells [.i 0, .i 0]), (g + 1, .cells [.i v10, .i v11])] H g3 := hS
   replace hM : coins_Run_l1_b n a2 r1 (coins_Run_l1 n a2 r1 m3) v8 v9 v10 v11 = some r := hM
   refine r_seq ?_
   refine r_region (n := 1) rfl ?_
   refine o_int (v := .b (decide (v9 < (a2.length : Int)))) (by decide) rfl rfl rfl ?_
   refine run_nil ?_
   refine w_next [(4, .ptr (g + 1) 0), (6, .ptr (g + 3) 0), (7, .i v8), (9, .ep [.i r1.1.1.Wheel.Round, .sl .no 1 (r1.1.1.Wheel.Notches.map cI), .sl .no 1 (r1.1.1.Wheel.Coins.map cI)]), (22, .sl .no 1 (a2.map cI)), (23, .i (a2.length : Int)), (24, .i v9), (25, .b (decide (v9 < (a2.length : Int))))] (.k (.k (.k (.k (.k (.k (.k (.k .nil)))))))) ?_
   refine r_seq ?_
   rcases Bool.eq_false_or_eq_true (decide (v9 < (a2.length : Int))) with hb12 | hb12
   ·replace hM := ifT hM hb12
    refine w_condT (e := (decide (v9 < (a2.length : Int)))) rfl hb12 ?_
    refine r_skip ?_
    refine w_next [(4, .ptr (g + 1) 0), (6, .ptr (g + 3) 0), (7, .i v8), (9, .ep [.i r1.1.1.Wheel.Round, .sl .no 1 (r1.1.1.Wheel.Notches.map cI), .sl .no 1 (r1.1.1.Wheel.Coins.map cI)]), (22, .sl .no 1 (a2.map cI)), (23, .i (a2.length : Int)), (24, .i v9)] (.k (.k (.k (.k (.k (.k (.k .nil))))))) ?_
    refine r_seq ?_
    refine r_block ?_
    refine r_seq ?_
    refine r_region (n := 3) rfl ?_
    obtain ⟨x13, hx13, hM⟩ := bindE hM
    refine o_index (xs := a2) (f := cI) (z := v9) (u := x13) (by decide) rfl rfl ty_es22 hx13 ?_
    refine o_loadE (v := .i x13) (by decide) rfl (part_one ty_agg3 ty_sc3 rfl) ?_
    refine o_assign (v := .i x13) (by decide) rfl ?_
    refine run_nil ?_
    refine w_next [(4, .ptr (g + 1) 0), (6, .ptr (g + 3) 0), (7, .i v8), (9, .ep [.i r1.1.1.Wheel.Round, .sl .no 1 (r1.1.1.Wheel.Notches.map cI), .sl .no 1 (r1.1.1.Wheel.Coins.map cI)]), (11, .i x13), (22, .sl .no 1 (a2.map cI)), (23, .i (a2.length : Int)), (24, .i v9)] (.k (.k (.k (.k (.k (.k (.k (.k .nil)))))))) ?_
    refine w_join (J := Int) (fun j => [(4, .ptr (g + 1) 0), (6, .ptr (g + 3) 0), (7, .i j), (9, .ep [.i r1.1.1.Wheel.Round, .sl .no 1 (r1.1.1.Wheel.Notches.map cI), .sl .no 1 (r1.1.1.Wheel.Coins.map cI)]), (11, .i x13), (22, .sl .no 1 (a2.map cI)), (23, .i (a2.length : Int)), (24, .i v9)]) (fun j H' g' => St (· < g) H0 [(g + 3, .cells [.i 0, .i 0]), (g + 1, .cells [.i v10, .i v11])] H' g' ∧ coins_Run_j2 n (coins_Run_l1 n a2 r1 m3) r1 v9 v10 v11 x13 j = some r) ?_ ?_
    ·rintro v14 H g4 ⟨hS, hM⟩
     change wpA _ _ _ _ (Fr.of [(4, .ptr (g + 1) 0), (6, .ptr (g + 3) 0), (7, .i v14), (9, .ep [.i r1.1.1.Wheel.Round, .sl .no 1 (r1.1.1.Wheel.Notches.map cI), .sl .no 1 (r1.1.1.Wheel.Coins.map cI)]), (11, .i x13), (22, .sl .no 1 (a2.map cI)), (23, .i (a2.length : Int)), (24, .i v9)]) _ _
     replace hS : St (· < g) H0 [(g + 3, .cells [.i 0, .i 0]), (g + 1, .cells [.i v10, .i v11])] H g4 := hS
     replace hM : coins_Run_j2 n (coins_Run_l1 n a2 r1 m3) r1 v9 v10 v11 x13 v14 = some r := hM
     refine r_region (n := 5) rfl ?_
     refine o_loadE (v := .agg [.i r1.1.1.Wheel.Round, .sl .no 1 (r1.1.1.Wheel.Notches.map cI), .sl .no 1 (r1.1.1.Wheel.Coins.map cI)]) (by decide) rfl (part_agg ty_agg71 (Nat.le_of_ble_eq_true rfl) rfl) ?_
     refine o_load (v := .agg [.i v10, .i v11]) 1 hS (by decide) rfl rfl .no (part_agg ty_agg57 (Nat.le_of_ble_eq_true rfl) rfl) ?_
     refine o_move (v := .i x13) (by decide) rfl ?_
     obtain ⟨r15, hr15, hM⟩ := bindE hM
     refine o_call (bs := [.agg [.i r1.1.1.Wheel.Round, .sl .no 1 (r1.1.1.Wheel.Notches.map cI), .sl .no 1 (r1.1.1.Wheel.Coins.map cI)], .agg [.i v10, .i v11], .i x13]) (by decide) rfl rfl ((W_coins_wheel_act hr15).le (.k (.k (.k .nil)))) ?_
     refine o_store (v := .agg [.i r15.Place, .i r15.Credit]) (ns := [.i r15.Place, .i r15.Credit]) (L' := [(g + 3, .cells [.i 0, .i 0]), (g + 1, .cells [.i r15.Place, .i r15.Credit])]) 1 hS rfl rfl .no rfl rfl ty_var57 (Nat.le_of_ble_eq_true rfl) rfl fun H hS => ?_
     refine run_nil ?_
     refine r_blk_normal ?_
     refine w_next [(4, .ptr (g + 1) 0), (6, .ptr (g + 3) 0), (7, .i v14), (9, .ep [.i r1.1.1.Wheel.Round, .sl .no 1 (r1.1.1.Wheel.Notches.map cI), .sl .no 1 (r1.1.1.Wheel.Coins.map cI)]), (22, .sl .no 1 (a2.map cI)), (23, .i (a2.length : Int)), (24, .i v9)] (.k (.k (.k (.k (.k (.k (.k .nil))))))) ?_
     refine r_region (n := 2) rfl ?_
     refine o_int (v := .i (w64 (v9 + 1))) (by decide) rfl rfl rfl ?_
     refine o_move (v := .i (w64 (v9 + 1))) (by decide) rfl ?_
     refine run_nil ?_
     exact w_round (v14, w64 (v9 + 1), r15.Place, r15.Credit) (Nat.lt_succ_self _) (.k (.k (.k (.k (.k (.k (.k .nil))))))) ⟨(hS.keep [true, true] rfl).up (by omega), hM⟩
    ·refine w_join (J := Bool) (fun j => [(4, .ptr (g + 1) 0), (6, .ptr (g + 3) 0), (7, .i v8), (9, .ep [.i r1.1.1.Wheel.Round, .sl .no 1 (r1.1.1.Wheel.Notches.map cI), .sl .no 1 (r1.1.1.Wheel.Coins.map cI)]), (11, .i x13), (22, .sl .no 1 (a2.map cI)), (23, .i (a2.length : Int)), (24, .i v9), (34, .b j)]) (fun j H' g' => St (· < g) H0 [(g + 3, .cells [.i 0, .i 0]), (g + 1, .cells [.i v10, .i v11])] H' g' ∧ coins_Run_j3 n (coins_Run_l1 n a2 r1 m3) r1 v8 v9 v10 v11 x13 j = some r) ?_ ?_
     ·rintro v16 H g5 ⟨hS, hM⟩
      change wpA _ _ _ _ (Fr.of [(4, .ptr (g + 1) 0), (6, .ptr (g + 3) 0), (7, .i v8), (9, .ep [.i r1.1.1.Wheel.Round, .sl .no 1 (r1.1.1.Wheel.Notches.map cI), .sl .no 1 (r1.1.1.Wheel.Coins.map cI)]), (11, .i x13), (22, .sl .no 1 (a2.map cI)), (23, .i (a2.length : Int)), (24, .i v9), (34, .b v16)]) _ _
      replace hS : St (· < g) H0 [(g + 3, .cells [.i 0, .i 0]), (g + 1, .cells [.i v10, .i v11])] H g5 := hS
      replace hM : coins_Run_j3 n (coins_Run_l1 n a2 r1 m3) r1 v8 v9 v10 v11 x13 v16 = some r := hM
      rcases Bool.eq_false_or_eq_true v16 with hb17 | hb17
      ·replace hM := ifT hM hb17
       refine w_condT (e := v16) rfl hb17 ?_
       refine r_region (n := 3) rfl ?_
       refine o_move (v := .i v8) (by decide) rfl ?_
       refine o_int (v := .i (w64 (v8 + 1))) (by decide) rfl rfl rfl ?_
       refine o_assign (v := .i (w64 (v8 + 1))) (by decide) rfl ?_
       refine run_nil ?_
       exact w_goto (w64 (v8 + 1)) (.k (.k (.k (.k (.k (.k (.k (.k .nil)))))))) ⟨(hS.keep [true, true] rfl).up (by omega), hM⟩
      ·replace hM := ifF hM hb17
       refine w_condF (e := v16) rfl hb17 ?_
       refine r_skip ?_
       exact w_goto v8 (.k (.k (.k (.k (.k (.k (.k (.k .nil)))))))) ⟨(hS.keep [true, true] rfl).up (by omega), hM⟩
     ·refine r_region (n := 7) rfl ?_
      refine o_move (v := .i x13) (by decide) rfl ?_
      refine o_int (v := .b (x13 == (-1))) (by decide) rfl rfl rfl ?_
      refine o_move (v := .b (x13 == (-1))) (by decide) rfl ?_
      rcases Bool.eq_false_or_eq_true (x13 == (-1)) with hb18 | hb18
      ·replace hM := ifT hM hb18
       refine o_guardY (j := 2) (e := (x13 == (-1))) (want := true) rfl hb18 ?_
       refine o_fieldP (by decide) ty_fo57_1 rfl ?_
       refine o_guardY (j := 2) (e := (x13 == (-1))) (want := true) rfl hb18 ?_
       refine o_load (v := .i v11) 1 hS (by decide) rfl rfl .no (part_one ty_agg3 ty_sc3 rfl) ?_
       refine o_guardY (j := 2) (e := (x13 == (-1))) (want := true) rfl hb18 ?_
       refine o_int (v := .b (decide (v11 > 0))) (by decide) rfl rfl rfl ?_
       refine o_pickT (v := .b (decide (v11 > 0))) (e := (x13 == (-1))) (by decide) rfl hb18 rfl ?_
       refine run_nil ?_
       exact w_goto (decide (v11 > 0)) (.k (.k (.k (.k (.k (.k (.k (.k (.k .nil))))))))) ⟨(hS.keep [true, true] rfl).up (by omega), hM⟩
      ·replace hM := ifF hM hb18
       refine o_guardN (j := 2) (e := (x13 == (-1))) (want := true) (by decide) rfl hb18 ?_
       refine o_guardN (j := 2) (e := (x13 == (-1))) (want := true) (by decide) rfl hb18 ?_
       refine o_guardN (j := 2) (e := (x13 == (-1))) (want := true) (by decide) rfl hb18 ?_
       refine o_pickF (v := .b false) (e := (x13 == (-1))) (by decide) rfl hb18 rfl ?_
       refine run_nil ?_
       exact w_goto false (.k (.k (.k (.k (.k (.k (.k (.k (.k .nil))))))))) ⟨(hS.keep [true, true] rfl).up (by omega), hM⟩
   ·replace hM := ifF hM hb12
    refine w_condF (e := (decide (v9 < (a2.length : Int)))) rfl hb12 ?_
    refine r_exit ?_
    refine r_then_exit ?_
    refine w_round_exit ?_
    refine r_blk_exit ?_
    exact w_goto (v8, v10, v11) (.k (.k (.k .nil))) ⟨(hS.keep [true, true] rfl).up (by omega), hM⟩
theorem W_coins_Least {n : Nat} {a0 : Wheel} {a1 : List Int} {r : Int × Int} (hM : coins_Least n a0 a1 = some r) : PureSat Try.prog 45 [.agg [.i a0.Round, .sl .no 1 (a0.Notches.map cI), .sl .no 1 (a0.Coins.map cI)], .sl .no 1 (a1.map cI)] (.tup [.i r.1, .i r.2]) := by
 refine pure_of_wp mixed Try.func45 rfl (by decide) Try.ntmps45 (by simp) ?pure fun H0 g hf => ?_
 case pure => exact .tup _ (pl_cons (.v _) (pl_cons (.v _) pl_nil))
 rw [frame0_of]
 change wpA _ _ _ _ (Fr.of [(0, .agg [.i a0.Round, .sl .no 1 (a0.Notches.map cI), .sl .no 1 (a0.Coins.map cI)]), (1, .sl .no 1 (a1.map cI))]) H0 g
 have hS := St.start hf
 refine r_seq ?_
 refine r_region (n := 3) rfl ?_
 refine o_box (v := .agg [.i a0.Round, .sl .no 1 (a0.Notches.map cI), .sl .no 1 (a0.Coins.map cI)]) (cs := [.i a0.Round, .sl .no 1 (a0.Notches.map cI), .sl .no 1 (a0.Coins.map cI)]) hS (by decide) rfl rfl (by omega) fun H hS => ?_
 refine o_assign (v := .i 0) (by decide) rfl ?_
 refine o_assign (v := .i 0) (by decide) rfl ?_
 refine run_nil ?_
 refine w_iceE (L' := []) 0 2 hS rfl rfl rfl fun H hS => ?_
 refine w_next [(1, .sl .no 1 (a1.map cI)), (2, .ep [.i a0.Round, .sl .no 1 (a0.Notches.map cI), .sl .no 1 (a0.Coins.map cI)])] (.k (.k .nil)) ?_
 refine r_seq ?_
 refine r_region (n := 11) rfl ?_
 refine o_loadE (v := .agg [.i a0.Round, .sl .no 1 (a0.Notches.map cI), .sl .no 1 (a0.Coins.map cI)]) (by decide) rfl (part_agg ty_agg24 (Nat.le_of_ble_eq_true rfl) rfl) ?_
 refine o_move (v := .sl .no 1 (a1.map cI)) (by decide) rfl ?_
 obtain ⟨r1, hr1, hM⟩ := bindE hM
 rcases Bool.eq_false_or_eq_true r1.1.isSome with hb2 | hb2
 ·replace hM := ifT hM hb2
  obtain ⟨x3, hx3, hM⟩ := bindE hM
  refine o_newAt (bs := [.agg [.i a0.Round, .sl .no 1 (a0.Notches.map cI), .sl .no 1 (a0.Coins.map cI)], .sl .no 1 (a1.map cI), .fn (.func 84) [] []]) (.inl rfl) hS (by decide) rfl rfl ((W_coins_seek_some (r := r1.2) (by rw [← hx3]; exact hr1)).le (.k (.k (.k .nil)))) (by omega) fun H hS hU => ?_
  refine o_move (v := .tup [.ep [.i x3.Wheel.Round, .sl .no 1 (x3.Wheel.Notches.map cI), .sl .no 1 (x3.Wheel.Coins.map cI), fnB false, .mp (g + 3 + 11 + 19)], .agg [.i r1.2.1.left.c0, .i r1.2.1.left.c1, .i r1.2.1.left.c2, .i r1.2.1.left.c3, .i r1.2.1.place, .i r1.2.1.credit], .i r1.2.2]) (by decide) rfl ?_
  refine o_extract (v := .ep [.i x3.Wheel.Round, .sl .no 1 (x3.Wheel.Notches.map cI), .sl .no 1 (x3.Wheel.Coins.map cI), fnB false, .mp (g + 3 + 11 + 19)]) (by decide) rfl rfl ?_
  refine o_extract (v := .agg [.i r1.2.1.left.c0, .i r1.2.1.left.c1, .i r1.2.1.left.c2, .i r1.2.1.left.c3, .i r1.2.1.place, .i r1.2.1.credit]) (by decide) rfl rfl ?_
  refine o_extract (v := .i r1.2.2) (by decide) rfl rfl ?_
  refine o_allocU hS hU (by decide) ty_zero90 (by omega) (by omega) (by omega) fun H hS hU => ?_
  refine o_assign (v := .ep [.i x3.Wheel.Round, .sl .no 1 (x3.Wheel.Notches.map cI), .sl .no 1 (x3.Wheel.Coins.map cI), fnB false, .mp (g + 3 + 11 + 19)]) (by decide) rfl ?_
  refine o_store (v := .agg [.i r1.2.1.left.c0, .i r1.2.1.left.c1, .i r1.2.1.left.c2, .i r1.2.1.left.c3, .i r1.2.1.place, .i r1.2.1.credit]) (ns := [.i r1.2.1.left.c0, .i r1.2.1.left.c1, .i r1.2.1.left.c2, .i r1.2.1.left.c3, .i r1.2.1.place, .i r1.2.1.credit]) (L' := [(g + 3 + 7, .cells [.i r1.2.1.left.c0, .i r1.2.1.left.c1, .i r1.2.1.left.c2, .i r1.2.1.left.c3, .i r1.2.1.place, .i r1.2.1.credit]), (g + 3 + 11 + 19, .obj none (mapIs (mpv kvSpot_ ([] : List (Spot_ × Int)))))]) 0 hS rfl rfl .no rfl rfl ty_var90 (Nat.le_of_ble_eq_true rfl) rfl fun H hS => ?_
  refine o_assign (v := .i r1.2.2) (by decide) rfl ?_
  refine run_nil ?_
  refine w_iceE (L' := [(g + 3 + 11 + 19, .obj none (mapIs (mpv kvSpot_ ([] : List (Spot_ × Int)))))]) 0 7 hS rfl rfl rfl fun H hS => ?_
  refine w_next [(6, .ep [.i x3.Wheel.Round, .sl .no 1 (x3.Wheel.Notches.map cI), .sl .no 1 (x3.Wheel.Coins.map cI), fnB false, .mp (g + 3 + 11 + 19)]), (7, .ep [.i r1.2.1.left.c0, .i r1.2.1.left.c1, .i r1.2.1.left.c2, .i r1.2.1.left.c3, .i r1.2.1.place, .i r1.2.1.credit]), (8, .i r1.2.2)] (.k (.k (.k .nil))) ?_
  refine r_seq ?_
  refine r_seq ?_
  refine r_region (n := 2) rfl ?_
  refine o_move (v := .i r1.2.2) (by decide) rfl ?_
  refine o_int (v := .b (r1.2.2 != 0)) (by decide) rfl rfl rfl ?_
  refine run_nil ?_
  refine w_next [(6, .ep [.i x3.Wheel.Round, .sl .no 1 (x3.Wheel.Notches.map cI), .sl .no 1 (x3.Wheel.Coins.map cI), fnB false, .mp (g + 3 + 11 + 19)]), (7, .ep [.i r1.2.1.left.c0, .i r1.2.1.left.c1, .i r1.2.1.left.c2, .i r1.2.1.left.c3, .i r1.2.1.place, .i r1.2.1.credit]), (8, .i r1.2.2), (17, .b (r1.2.2 != 0))] (.k (.k (.k (.k .nil)))) ?_
  rcases Bool.eq_false_or_eq_true (r1.2.2 != 0) with hb4 | hb4
  ·replace hM := ifT hM hb4
   refine w_condT (e := (r1.2.2 != 0)) rfl hb4 ?_
   refine r_seq ?_
   refine r_region (n := 3) rfl ?_
   refine o_move (v := .i r1.2.2) (by decide) rfl ?_
   refine o_assign (v := .i 0) (by decide) rfl ?_
   refine o_assign (v := .i r1.2.2) (by decide) rfl ?_
   refine run_nil ?_
   replace hS := hS.keep (L' := []) [false] rfl
   refine w_next [(4, .i 0), (5, .i r1.2.2)] (.k (.k .nil)) ?_
   refine r_ret ?_
   refine r_then_ret ?_
   refine w_end (x := .tup [.i 0, .i r1.2.2]) (f := fun r => .tup [.i r.1, .i r.2]) (.inr rfl) ?_ (.refl _) (Option.some.inj hM) hS
   exact (res_two (res_tmp (x := .i 0) rfl) (res_tmp (x := .i r1.2.2) rfl))
  ·replace hM := ifF hM hb4
   refine w_condF (e := (r1.2.2 != 0)) rfl hb4 ?_
   refine r_skip ?_
   refine w_next [(6, .ep [.i x3.Wheel.Round, .sl .no 1 (x3.Wheel.Notches.map cI), .sl .no 1 (x3.Wheel.Coins.map cI), fnB false, .mp (g + 3 + 11 + 19)]), (7, .ep [.i r1.2.1.left.c0, .i r1.2.1.left.c1, .i r1.2.1.left.c2, .i r1.2.1.left.c3, .i r1.2.1.place, .i r1.2.1.credit])] (.k (.k .nil)) ?_
   refine r_seq ?_
   refine r_region (n := 5) rfl ?_
   refine o_move (v := .ep [.i x3.Wheel.Round, .sl .no 1 (x3.Wheel.Notches.map cI), .sl .no 1 (x3.Wheel.Coins.map cI), fnB false, .mp (g + 3 + 11 + 19)]) (by decide) rfl ?_
   refine o_loadE (v := .agg [.i r1.2.1.left.c0, .i r1.2.1.left.c1, .i r1.2.1.left.c2, .i r1.2.1.left.c3, .i r1.2.1.place, .i r1.2.1.credit]) (by decide) rfl (part_agg ty_agg90 (Nat.le_of_ble_eq_true rfl) rfl) ?_
   obtain ⟨r5, hr5, hM⟩ := bindE hM
   have hndr5 := hS.nd_at (ns := [0]) (M := [(g + 3 + 11 + 19, .obj none (mapIs (mpv kvSpot_ ([] : List (Spot_ × Int)))))]) (M' := [(g + 3 + 11 + 19, .obj none (mapIs (mpv kvSpot_ r5.2)))]) (.cons rfl .nil) (by decide)
   refine o_hsat (bs := [.ep [.i x3.Wheel.Round, .sl .no 1 (x3.Wheel.Notches.map cI), .sl .no 1 (x3.Wheel.Coins.map cI), fnB false, .mp (g + 3 + 11 + 19)], .agg [.i r1.2.1.left.c0, .i r1.2.1.left.c1, .i r1.2.1.left.c2, .i r1.2.1.left.c3, .i r1.2.1.place, .i r1.2.1.credit]]) (M := [(g + 3 + 11 + 19, .obj none (mapIs (mpv kvSpot_ ([] : List (Spot_ × Int)))))]) (M' := [(g + 3 + 11 + 19, .obj none (mapIs (mpv kvSpot_ r5.2)))]) (L' := [(g + 3 + 11 + 19, .obj none (mapIs (mpv kvSpot_ r5.2)))]) [0] (.inl rfl) hS (by decide) rfl rfl ((W_coins_search_buys (p1 := g + 3 + 11 + 19) hndr5 hr5).le (.k (.k .nil))) (.cons rfl .nil) rfl (by omega) fun H hS => ?_
   refine o_assign (v := .i r5.1) (by decide) rfl ?_
   refine o_assign (v := .i 0) (by decide) rfl ?_
   refine run_nil ?_
   replace hS := hS.keep (L' := []) [false] rfl
   refine w_next [(4, .i r5.1), (5, .i 0)] (.k (.k .nil)) ?_
   refine r_ret ?_
   refine w_end (x := .tup [.i r5.1, .i 0]) (f := fun r => .tup [.i r.1, .i r.2]) (.inr rfl) ?_ (.refl _) (Option.some.inj hM) hS
   exact (res_two (res_tmp (x := .i r5.1) rfl) (res_tmp (x := .i 0) rfl))
 ·replace hM := ifF hM hb2
  have hb2' : r1.1 = none := by rw [Option.isSome_eq_false_iff, Option.isNone_iff_eq_none] at hb2; exact hb2
  refine o_call (bs := [.agg [.i a0.Round, .sl .no 1 (a0.Notches.map cI), .sl .no 1 (a0.Coins.map cI)], .sl .no 1 (a1.map cI), .fn (.func 84) [] []]) (by decide) rfl rfl ((W_coins_seek_none (r := r1.2) (by rw [← hb2']; exact hr1)).le (.k (.k (.k .nil)))) ?_
  refine o_move (v := .tup [.v (.pointer none), .agg [.i r1.2.1.left.c0, .i r1.2.1.left.c1, .i r1.2.1.left.c2, .i r1.2.1.left.c3, .i r1.2.1.place, .i r1.2.1.credit], .i r1.2.2]) (by decide) rfl ?_
  refine o_extract (v := .v (.pointer none)) (by decide) rfl rfl ?_
  refine o_extract (v := .agg [.i r1.2.1.left.c0, .i r1.2.1.left.c1, .i r1.2.1.left.c2, .i r1.2.1.left.c3, .i r1.2.1.place, .i r1.2.1.credit]) (by decide) rfl rfl ?_
  refine o_extract (v := .i r1.2.2) (by decide) rfl rfl ?_
  refine o_alloc hS (by decide) ty_zero90 (by omega) fun H hS => ?_
  refine o_assign (v := .v (.pointer none)) (by decide) rfl ?_
  refine o_store (v := .agg [.i r1.2.1.left.c0, .i r1.2.1.left.c1, .i r1.2.1.left.c2, .i r1.2.1.left.c3, .i r1.2.1.place, .i r1.2.1.credit]) (ns := [.i r1.2.1.left.c0, .i r1.2.1.left.c1, .i r1.2.1.left.c2, .i r1.2.1.left.c3, .i r1.2.1.place, .i r1.2.1.credit]) (L' := [(g + 3 + 7, .cells [.i r1.2.1.left.c0, .i r1.2.1.left.c1, .i r1.2.1.left.c2, .i r1.2.1.left.c3, .i r1.2.1.place, .i r1.2.1.credit])]) 0 hS rfl rfl .no rfl rfl ty_var90 (Nat.le_of_ble_eq_true rfl) rfl fun H hS => ?_
  refine o_assign (v := .i r1.2.2) (by decide) rfl ?_
  refine run_nil ?_
  refine w_iceE (L' := []) 0 7 hS rfl rfl rfl fun H hS => ?_
  refine w_next [(6, .v (.pointer none)), (7, .ep [.i r1.2.1.left.c0, .i r1.2.1.left.c1, .i r1.2.1.left.c2, .i r1.2.1.left.c3, .i r1.2.1.place, .i r1.2.1.credit]), (8, .i r1.2.2)] (.k (.k (.k .nil))) ?_
  refine r_seq ?_
  refine r_seq ?_
  refine r_region (n := 2) rfl ?_
  refine o_move (v := .i r1.2.2) (by decide) rfl ?_
  refine o_int (v := .b (r1.2.2 != 0)) (by decide) rfl rfl rfl ?_
  refine run_nil ?_
  refine w_next [(6, .v (.pointer none)), (7, .ep [.i r1.2.1.left.c0, .i r1.2.1.left.c1, .i r1.2.1.left.c2, .i r1.2.1.left.c3, .i r1.2.1.place, .i r1.2.1.credit]), (8, .i r1.2.2), (17, .b (r1.2.2 != 0))] (.k (.k (.k (.k .nil)))) ?_
  rcases Bool.eq_false_or_eq_true (r1.2.2 != 0) with hb6 | hb6
  ·replace hM := ifT hM hb6
   refine w_condT (e := (r1.2.2 != 0)) rfl hb6 ?_
   refine r_seq ?_
   refine r_region (n := 3) rfl ?_
   refine o_move (v := .i r1.2.2) (by decide) rfl ?_
   refine o_assign (v := .i 0) (by decide) rfl ?_
   refine o_assign (v := .i r1.2.2) (by decide) rfl ?_
   refine run_nil ?_
   refine w_next [(4, .i 0), (5, .i r1.2.2)] (.k (.k .nil)) ?_
   refine r_ret ?_
   refine r_then_ret ?_
   refine w_end (x := .tup [.i 0, .i r1.2.2]) (f := fun r => .tup [.i r.1, .i r.2]) (.inr rfl) ?_ (.refl _) (Option.some.inj hM) hS
   exact (res_two (res_tmp (x := .i 0) rfl) (res_tmp (x := .i r1.2.2) rfl))
  ·replace hM := ifF hM hb6
   refine w_condF (e := (r1.2.2 != 0)) rfl hb6 ?_
   refine r_skip ?_
   refine w_next [(6, .v (.pointer none)), (7, .ep [.i r1.2.1.left.c0, .i r1.2.1.left.c1, .i r1.2.1.left.c2, .i r1.2.1.left.c3, .i r1.2.1.place, .i r1.2.1.credit])] (.k (.k .nil)) ?_
   refine r_seq ?_
   refine r_region (n := 5) rfl ?_
   refine o_move (v := .v (.pointer none)) (by decide) rfl ?_
   refine o_loadE (v := .agg [.i r1.2.1.left.c0, .i r1.2.1.left.c1, .i r1.2.1.left.c2, .i r1.2.1.left.c3, .i r1.2.1.place, .i r1.2.1.credit]) (by decide) rfl (part_agg ty_agg90 (Nat.le_of_ble_eq_true rfl) rfl) ?_
   exact nomatch (show none = some _ from hM)
theorem W_law01_Example {r : Wheel} (hM : law01_Example = some r) : PureSat Try.prog 56 [] (.agg [.i r.Round, .sl .no 1 (r.Notches.map cI), .sl .no 1 (r.Coins.map cI)]) := by
 refine pure_of_wp mixed Try.func56 rfl (by decide) Try.ntmps56 (by simp) ?pure fun H0 g hf => ?_
 case pure => exact .agg _ (pl_cons (.v _) (pl_cons (.sl _ _ (pures_map (fun x => (pl_cons (.v _) pl_nil)))) (pl_cons (.sl _ _ (pures_map (fun x => (pl_cons (.v _) pl_nil)))) pl_nil)))
 rw [frame0_of]
 change wpA _ _ _ _ (Fr.of []) H0 g
 have hS := St.start hf
 refine r_seq ?_
 refine r_region (n := 1) rfl ?_
 refine o_alloc hS (by decide) ty_zero24 (by omega) fun H hS => ?_
 refine run_nil ?_
 refine w_next [(0, .ptr (g + 0) 0)] (.k .nil) ?_
 refine r_seq ?_
 refine r_region (n := 4) rfl ?_
 refine o_buildSlice (es := [[.i 10], [.i 20], [.i 25]]) hS (by decide) ty_es22 ty_el22 rfl ty_ef22 rfl (by decide) (by omega) fun H hS => ?_
 refine o_buildSlice (es := [[.i 5], [.i 10], [.i 25]]) hS (by decide) ty_es22 ty_el22 rfl ty_ef22 rfl (by decide) (by omega) fun H hS => ?_
 refine o_build (cs := [.i 50, .sl (.id (g + 1 + 0)) 1 (([10, 20, 25] : List Int).map cI), .sl (.id (g + 1 + 1)) 1 (([5, 10, 25] : List Int).map cI)]) (by decide) ty_zero24 ty_pl24 rfl ?_
 refine o_store (v := .agg [.i 50, .sl (.id (g + 1 + 0)) 1 (([10, 20, 25] : List Int).map cI), .sl (.id (g + 1 + 1)) 1 (([5, 10, 25] : List Int).map cI)]) (ns := [.i 50, .sl (.id (g + 1 + 0)) 1 (([10, 20, 25] : List Int).map cI), .sl (.id (g + 1 + 1)) 1 (([5, 10, 25] : List Int).map cI)]) (L' := [(g + 1 + 1, .row 3 3), (g + 1 + 0, .row 3 3), (g + 0, .cells [.i 50, .sl (.id (g + 1 + 0)) 1 (([10, 20, 25] : List Int).map cI), .sl (.id (g + 1 + 1)) 1 (([5, 10, 25] : List Int).map cI)])]) 2 hS rfl rfl .no rfl rfl ty_var24 (Nat.le_of_ble_eq_true rfl) rfl fun H hS => ?_
 refine run_nil ?_
 refine w_next [(0, .ptr (g + 0) 0)] (.k .nil) ?_
 refine r_ret ?_
 refine w_end (x := .agg [.i 50, .sl (.id (g + 1 + 0)) 1 (([10, 20, 25] : List Int).map cI), .sl (.id (g + 1 + 1)) 1 (([5, 10, 25] : List Int).map cI)]) (f := fun r => .agg [.i r.Round, .sl .no 1 (r.Notches.map cI), .sl .no 1 (r.Coins.map cI)]) (.inr rfl) ?_ (.aggL (.k (.cons (.sl _ _ _) (.cons (.sl _ _ _) .nil)))) (Option.some.inj hM) hS
 exact (res_one (res_cell (x := .agg [.i 50, .sl (.id (g + 1 + 0)) 1 (([10, 20, 25] : List Int).map cI), .sl (.id (g + 1 + 1)) 1 (([5, 10, 25] : List Int).map cI)]) 2 hS rfl rfl (part_agg ty_agg24 (Nat.le_of_ble_eq_true rfl) rfl)))
theorem W_law01_works {n : Nat} {r : Bool} (hM : law01_works n = some r) : PureSat Try.prog 17 [] (.b r) := by
 refine pure_of_wp mixed Try.func17 rfl (by decide) Try.ntmps17 (by simp) ?pure fun H0 g hf => ?_
 case pure => exact .v _
 rw [frame0_of]
 change wpA _ _ _ _ (Fr.of []) H0 g
 have hS := St.start hf
 refine r_seq ?_
 refine r_region (n := 1) rfl ?_
 refine o_assign (v := .b false) (by decide) rfl ?_
 refine run_nil ?_
 refine w_next [] .nil ?_
 refine r_seq ?_
 refine r_region (n := 3) rfl ?_
 obtain ⟨r1, hr1, hM⟩ := bindE hM
 refine o_call (bs := []) (by decide) rfl rfl ((W_law01_Example hr1).le .nil) ?_
 refine o_alloc hS (by decide) ty_zero24 (by omega) fun H hS => ?_
 refine o_store (v := .agg [.i r1.Round, .sl .no 1 (r1.Notches.map cI), .sl .no 1 (r1.Coins.map cI)]) (ns := [.i r1.Round, .sl .no 1 (r1.Notches.map cI), .sl .no 1 (r1.Coins.map cI)]) (L' := [(g + 1 + 1, .cells [.i r1.Round, .sl .no 1 (r1.Notches.map cI), .sl .no 1 (r1.Coins.map cI)])]) 0 hS rfl rfl .no rfl rfl ty_var24 (Nat.le_of_ble_eq_true rfl) rfl fun H hS => ?_
 refine run_nil ?_
 refine w_iceE (L' := []) 0 1 hS rfl rfl rfl fun H hS => ?_
 refine w_next [(1, .ep [.i r1.Round, .sl .no 1 (r1.Notches.map cI), .sl .no 1 (r1.Coins.map cI)])] (.k .nil) ?_
 refine r_seq ?_
 refine r_region (n := 12) rfl ?_
 refine o_loadE (v := .agg [.i r1.Round, .sl .no 1 (r1.Notches.map cI), .sl .no 1 (r1.Coins.map cI)]) (by decide) rfl (part_agg ty_agg24 (Nat.le_of_ble_eq_true rfl) rfl) ?_
 refine o_build (cs := [.i 0, .i 0]) (by decide) ty_zero57 ty_pl57 rfl ?_
 refine o_buildSlice (es := [[.i 0], [.i (-1)], [.i 1], [.i (-1)], [.i 1]]) hS (by decide) ty_es22 ty_el22 rfl ty_ef22 rfl (by decide) (by omega) fun H hS => ?_
 obtain ⟨r2, hr2, hM⟩ := bindE hM
 refine o_call (bs := [.agg [.i r1.Round, .sl .no 1 (r1.Notches.map cI), .sl .no 1 (r1.Coins.map cI)], .agg [.i 0, .i 0], .sl (.id (g + 1 + 3 + 2)) 1 (([0, (-1), 1, (-1), 1] : List Int).map cI)]) (by decide) rfl rfl ((W_coins_Run hr2).le (.k (.k (.cons (.sl _ _ _) .nil)))) ?_
 refine o_move (v := .tup [.agg [.i r2.1.Place, .i r2.1.Credit], .i r2.2.1, .i r2.2.2]) (by decide) rfl ?_
 refine o_extract (v := .agg [.i r2.1.Place, .i r2.1.Credit]) (by decide) rfl rfl ?_
 refine o_extract (v := .i r2.2.1) (by decide) rfl rfl ?_
 refine o_extract (v := .i r2.2.2) (by decide) rfl rfl ?_
 refine o_alloc hS (by decide) ty_zero57 (by omega) fun H hS => ?_
 refine o_store (v := .agg [.i r2.1.Place, .i r2.1.Credit]) (ns := [.i r2.1.Place, .i r2.1.Credit]) (L' := [(g + 1 + 3 + 8, .cells [.i r2.1.Place, .i r2.1.Credit]), (g + 1 + 3 + 2, .row 3 5)]) 0 hS rfl rfl .no rfl rfl ty_var57 (Nat.le_of_ble_eq_true rfl) rfl fun H hS => ?_
 refine o_assign (v := .i r2.2.1) (by decide) rfl ?_
 refine o_assign (v := .i r2.2.2) (by decide) rfl ?_
 refine run_nil ?_
 refine w_iceE (L' := [(g + 1 + 3 + 2, .row 3 5)]) 0 2 hS rfl rfl rfl fun H hS => ?_
 replace hS := hS.keep (L' := []) [false] rfl
 refine w_next [(1, .ep [.i r1.Round, .sl .no 1 (r1.Notches.map cI), .sl .no 1 (r1.Coins.map cI)]), (2, .ep [.i r2.1.Place, .i r2.1.Credit]), (3, .i r2.2.1), (4, .i r2.2.2)] (.k (.k (.k (.k .nil)))) ?_
 refine r_seq ?_
 refine r_region (n := 8) rfl ?_
 refine o_loadE (v := .agg [.i r1.Round, .sl .no 1 (r1.Notches.map cI), .sl .no 1 (r1.Coins.map cI)]) (by decide) rfl (part_agg ty_agg24 (Nat.le_of_ble_eq_true rfl) rfl) ?_
 refine o_buildSlice (es := [[.i 0], [.i 0], [.i 2]]) hS (by decide) ty_es22 ty_el22 rfl ty_ef22 rfl (by decide) (by omega) fun H hS => ?_
 obtain ⟨r3, hr3, hM⟩ := bindE hM
 refine o_call (bs := [.agg [.i r1.Round, .sl .no 1 (r1.Notches.map cI), .sl .no 1 (r1.Coins.map cI)], .sl (.id (g + 1 + 3 + 12 + 1)) 1 (([0, 0, 2] : List Int).map cI)]) (by decide) rfl rfl ((W_coins_Most hr3).le (.k (.cons (.sl _ _ _) .nil))) ?_
 refine o_move (v := .tup [.i r3.1, .i r3.2]) (by decide) rfl ?_
 refine o_extract (v := .i r3.1) (by decide) rfl rfl ?_
 refine o_extract (v := .i r3.2) (by decide) rfl rfl ?_
 refine o_assign (v := .i r3.1) (by decide) rfl ?_
 refine o_assign (v := .i r3.2) (by decide) rfl ?_
 refine run_nil ?_
 replace hS := hS.keep (L' := []) [false] rfl
 refine w_next [(1, .ep [.i r1.Round, .sl .no 1 (r1.Notches.map cI), .sl .no 1 (r1.Coins.map cI)]), (2, .ep [.i r2.1.Place, .i r2.1.Credit]), (3, .i r2.2.1), (4, .i r2.2.2), (5, .i r3.1), (6, .i r3.2)] (.k (.k (.k (.k (.k (.k .nil)))))) ?_
 refine r_seq ?_
 refine r_region (n := 8) rfl ?_
 refine o_loadE (v := .agg [.i r1.Round, .sl .no 1 (r1.Notches.map cI), .sl .no 1 (r1.Coins.map cI)]) (by decide) rfl (part_agg ty_agg24 (Nat.le_of_ble_eq_true rfl) rfl) ?_
 refine o_buildSlice (es := [[.i 0], [.i 0], [.i 2]]) hS (by decide) ty_es22 ty_el22 rfl ty_ef22 rfl (by decide) (by omega) fun H hS => ?_
 obtain ⟨r4, hr4, hM⟩ := bindE hM
 refine o_call (bs := [.agg [.i r1.Round, .sl .no 1 (r1.Notches.map cI), .sl .no 1 (r1.Coins.map cI)], .sl (.id (g + 1 + 3 + 12 + 8 + 1)) 1 (([0, 0, 2] : List Int).map cI)]) (by decide) rfl rfl ((W_coins_Least hr4).le (.k (.cons (.sl _ _ _) .nil))) ?_
 refine o_move (v := .tup [.i r4.1, .i r4.2]) (by decide) rfl ?_
 refine o_extract (v := .i r4.1) (by decide) rfl rfl ?_
 refine o_extract (v := .i r4.2) (by decide) rfl rfl ?_
 refine o_assign (v := .i r4.1) (by decide) rfl ?_
 refine o_assign (v := .i r4.2) (by decide) rfl ?_
 refine run_nil ?_
 replace hS := hS.keep (L' := []) [false] rfl
 refine w_next [(1, .ep [.i r1.Round, .sl .no 1 (r1.Notches.map cI), .sl .no 1 (r1.Coins.map cI)]), (2, .ep [.i r2.1.Place, .i r2.1.Credit]), (3, .i r2.2.1), (4, .i r2.2.2), (5, .i r3.1), (6, .i r3.2), (7, .i r4.1), (8, .i r4.2)] (.k (.k (.k (.k (.k (.k (.k (.k .nil)))))))) ?_
 refine r_seq ?_
 refine r_region (n := 7) rfl ?_
 refine o_loadE (v := .agg [.i r1.Round, .sl .no 1 (r1.Notches.map cI), .sl .no 1 (r1.Coins.map cI)]) (by decide) rfl (part_agg ty_agg24 (Nat.le_of_ble_eq_true rfl) rfl) ?_
 obtain ⟨r5, hr5, hM⟩ := bindE hM
 refine o_call (bs := [.agg [.i r1.Round, .sl .no 1 (r1.Notches.map cI), .sl .no 1 (r1.Coins.map cI)], .i 4]) (by decide) rfl rfl ((W_coins_Cheapest hr5).le (.k (.k .nil))) ?_
 refine o_move (v := .tup [.i r5.1, .i r5.2]) (by decide) rfl ?_
 refine o_extract (v := .i r5.1) (by decide) rfl rfl ?_
 refine o_extract (v := .i r5.2) (by decide) rfl rfl ?_
 refine o_assign (v := .i r5.1) (by decide) rfl ?_
 refine o_assign (v := .i r5.2) (by decide) rfl ?_
 refine run_nil ?_
 refine w_next [(2, .ep [.i r2.1.Place, .i r2.1.Credit]), (3, .i r2.2.1), (4, .i r2.2.2), (5, .i r3.1), (6, .i r3.2), (7, .i r4.1), (8, .i r4.2), (9, .i r5.1), (10, .i r5.2)] (.k (.k (.k (.k (.k (.k (.k (.k (.k .nil))))))))) ?_
 refine r_seq ?_
 refine r_region (n := 12) rfl ?_
 refine o_buildSlice (es := [[.i 2], [.i 3]]) hS (by decide) ty_es22 ty_el22 rfl ty_ef22 rfl (by decide) (by omega) fun H hS => ?_
 refine o_buildSlice (es := [[.i 1], [.i 2]]) hS (by decide) ty_es22 ty_el22 rfl ty_ef22 rfl (by decide) (by omega) fun H hS => ?_
 refine o_build (cs := [.i 5, .sl (.id (g + 1 + 3 + 12 + 8 + 8 + 7 + 0)) 1 (([2, 3] : List Int).map cI), .sl (.id (g + 1 + 3 + 12 + 8 + 8 + 7 + 1)) 1 (([1, 2] : List Int).map cI)]) (by decide) ty_zero24 ty_pl24 rfl ?_
 refine o_build (cs := [.i 0, .i 0]) (by decide) ty_zero50 ty_pl50 rfl ?_
 refine o_build (cs := [.i 0, .i 1]) (by decide) ty_zero50 ty_pl50 rfl ?_
 refine o_buildSlice (es := [[.i 0, .i 0], [.i 0, .i 1]]) hS (by decide) ty_es45 ty_el45 rfl ty_ef45 rfl (by decide) (by omega) fun H hS => ?_
 obtain ⟨r6, hr6, hM⟩ := bindE hM
 refine o_call (bs := [.agg [.i 5, .sl (.id (g + 1 + 3 + 12 + 8 + 8 + 7 + 0)) 1 (([2, 3] : List Int).map cI), .sl (.id (g + 1 + 3 + 12 + 8 + 8 + 7 + 1)) 1 (([1, 2] : List Int).map cI)], .sl (.id (g + 1 + 3 + 12 + 8 + 8 + 7 + 5)) 2 (([(⟨0, 0⟩ : Seen), (⟨0, 1⟩ : Seen)] : List Seen).map Seen.cells)]) (by decide) rfl rfl ((W_coins_Now hr6).le (.cons (.aggL (.k (.cons (.sl _ _ _) (.cons (.sl _ _ _) .nil)))) (.cons (.sl _ _ _) .nil))) ?_
 refine o_move (v := .tup [.sl .no 1 (r6.1.map cI), .i r6.2]) (by decide) rfl ?_
 refine o_extract (v := .sl .no 1 (r6.1.map cI)) (by decide) rfl rfl ?_
 refine o_extract (v := .i r6.2) (by decide) rfl rfl ?_
 refine o_assign (v := .sl .no 1 (r6.1.map cI)) (by decide) rfl ?_
 refine o_assign (v := .i r6.2) (by decide) rfl ?_
 refine run_nil ?_
 replace hS := hS.keep (L' := []) [false, false, false] rfl
 refine w_next [(2, .ep [.i r2.1.Place, .i r2.1.Credit]), (3, .i r2.2.1), (4, .i r2.2.2), (5, .i r3.1), (6, .i r3.2), (7, .i r4.1), (8, .i r4.2), (9, .i r5.1), (10, .i r5.2), (11, .sl .no 1 (r6.1.map cI)), (12, .i r6.2)] (.k (.k (.k (.k (.k (.k (.k (.k (.k (.k (.k .nil))))))))))) ?_
 refine w_join (J := Bool) (fun j => [(0, .b j)]) (fun j H' g' => St (· < g) H0 [] H' g' ∧ law01_works_j1 j = some r) ?_ ?_
 ·rintro v7 H g1 ⟨hS, hM⟩
  change wpA _ _ _ _ (Fr.of [(0, .b v7)]) _ _
  replace hS : St (· < g) H0 [] H g1 := hS
  replace hM : law01_works_j1 v7 = some r := hM
  refine r_ret ?_
  refine w_end (x := .b v7) (f := fun r => .b r) (.inr rfl) ?_ (.refl _) (Option.some.inj hM) hS
  exact (res_one (res_tmp (x := .b v7) rfl))
 ·refine r_region (n := 45) rfl ?_
  refine o_move (v := .i r2.2.2) (by decide) rfl ?_
  refine o_int (v := .b (r2.2.2 == 0)) (by decide) rfl rfl rfl ?_
  refine o_move (v := .b (r2.2.2 == 0)) (by decide) rfl ?_
  rcases Bool.eq_false_or_eq_true (r2.2.2 == 0) with hb8 | hb8
  ·replace hM := ifT hM hb8
   refine o_guardY (j := 2) (e := (r2.2.2 == 0)) (want := true) rfl hb8 ?_
   refine o_move (v := .i r3.2) (by decide) rfl ?_
   refine o_guardY (j := 2) (e := (r2.2.2 == 0)) (want := true) rfl hb8 ?_
   refine o_int (v := .b (r3.2 == 0)) (by decide) rfl rfl rfl ?_
   refine o_pickT (v := .b (r3.2 == 0)) (e := (r2.2.2 == 0)) (by decide) rfl hb8 rfl ?_
   refine o_move (v := .b (r3.2 == 0)) (by decide) rfl ?_
   rcases Bool.eq_false_or_eq_true (r3.2 == 0) with hb9 | hb9
   ·replace hM := ifT hM hb9
    refine o_guardY (j := 6) (e := (r3.2 == 0)) (want := true) rfl hb9 ?_
    refine o_move (v := .i r4.2) (by decide) rfl ?_
    refine o_guardY (j := 6) (e := (r3.2 == 0)) (want := true) rfl hb9 ?_
    refine o_int (v := .b (r4.2 == 0)) (by decide) rfl rfl rfl ?_
    refine o_pickT (v := .b (r4.2 == 0)) (e := (r3.2 == 0)) (by decide) rfl hb9 rfl ?_
    refine o_move (v := .b (r4.2 == 0)) (by decide) rfl ?_
    rcases Bool.eq_false_or_eq_true (r4.2 == 0) with hb10 | hb10
    ·replace hM := ifT hM hb10
     refine o_guardY (j := 10) (e := (r4.2 == 0)) (want := true) rfl hb10 ?_
     refine o_move (v := .i r5.2) (by decide) rfl ?_
     refine o_guardY (j := 10) (e := (r4.2 == 0)) (want := true) rfl hb10 ?_
     refine o_int (v := .b (r5.2 == 0)) (by decide) rfl rfl rfl ?_
     refine o_pickT (v := .b (r5.2 == 0)) (e := (r4.2 == 0)) (by decide) rfl hb10 rfl ?_
     refine o_move (v := .b (r5.2 == 0)) (by decide) rfl ?_
     rcases Bool.eq_false_or_eq_true (r5.2 == 0) with hb11 | hb11
     ·replace hM := ifT hM hb11
      refine o_guardY (j := 14) (e := (r5.2 == 0)) (want := true) rfl hb11 ?_
      refine o_move (v := .i r6.2) (by decide) rfl ?_
      refine o_guardY (j := 14) (e := (r5.2 == 0)) (want := true) rfl hb11 ?_
      refine o_int (v := .b (r6.2 == 0)) (by decide) rfl rfl rfl ?_
      refine o_pickT (v := .b (r6.2 == 0)) (e := (r5.2 == 0)) (by decide) rfl hb11 rfl ?_
      refine o_move (v := .b (r6.2 == 0)) (by decide) rfl ?_
      rcases Bool.eq_false_or_eq_true (r6.2 == 0) with hb12 | hb12
      ·replace hM := ifT hM hb12
       refine o_guardY (j := 18) (e := (r6.2 == 0)) (want := true) rfl hb12 ?_
       refine o_loadE (v := .agg [.i r2.1.Place, .i r2.1.Credit]) (by decide) rfl (part_agg ty_agg57 (Nat.le_of_ble_eq_true rfl) rfl) ?_
       refine o_guardY (j := 18) (e := (r6.2 == 0)) (want := true) rfl hb12 ?_
       refine o_build (cs := [.i 10, .i 1]) (by decide) ty_zero57 ty_pl57 rfl ?_
       refine o_guardY (j := 18) (e := (r6.2 == 0)) (want := true) rfl hb12 ?_
       refine o_eqS (cs := [.i r2.1.Place, .i r2.1.Credit]) (ds := [.i 10, .i 1]) (e := ((r2.1.Place == 10) && ((r2.1.Credit == 1) && true))) (by decide) rfl rfl ty_flat57 rfl ?_
       refine o_pickT (v := .b ((r2.1.Place == 10) && ((r2.1.Credit == 1) && true))) (e := (r6.2 == 0)) (by decide) rfl hb12 rfl ?_
       refine o_move (v := .b ((r2.1.Place == 10) && ((r2.1.Credit == 1) && true))) (by decide) rfl ?_
       rcases Bool.eq_false_or_eq_true ((r2.1.Place == 10) && ((r2.1.Credit == 1) && true)) with hb13 | hb13
       ·replace hM := ifT hM hb13
        refine o_guardY (j := 23) (e := ((r2.1.Place == 10) && ((r2.1.Credit == 1) && true))) (want := true) rfl hb13 ?_
        refine o_move (v := .i r2.2.1) (by decide) rfl ?_
        refine o_guardY (j := 23) (e := ((r2.1.Place == 10) && ((r2.1.Credit == 1) && true))) (want := true) rfl hb13 ?_
        refine o_int (v := .b (r2.2.1 == 1)) (by decide) rfl rfl rfl ?_
        refine o_pickT (v := .b (r2.2.1 == 1)) (e := ((r2.1.Place == 10) && ((r2.1.Credit == 1) && true))) (by decide) rfl hb13 rfl ?_
        refine o_move (v := .b (r2.2.1 == 1)) (by decide) rfl ?_
        rcases Bool.eq_false_or_eq_true (r2.2.1 == 1) with hb14 | hb14
        ·replace hM := ifT hM hb14
         refine o_guardY (j := 27) (e := (r2.2.1 == 1)) (want := true) rfl hb14 ?_
         refine o_move (v := .i r3.1) (by decide) rfl ?_
         refine o_guardY (j := 27) (e := (r2.2.1 == 1)) (want := true) rfl hb14 ?_
         refine o_int (v := .b (r3.1 == 6)) (by decide) rfl rfl rfl ?_
         refine o_pickT (v := .b (r3.1 == 6)) (e := (r2.2.1 == 1)) (by decide) rfl hb14 rfl ?_
         refine o_move (v := .b (r3.1 == 6)) (by decide) rfl ?_
         rcases Bool.eq_false_or_eq_true (r3.1 == 6) with hb15 | hb15
         ·replace hM := ifT hM hb15
          refine o_guardY (j := 31) (e := (r3.1 == 6)) (want := true) rfl hb15 ?_
          refine o_move (v := .i r4.1) (by decide) rfl ?_
          refine o_guardY (j := 31) (e := (r3.1 == 6)) (want := true) rfl hb15 ?_
          refine o_int (v := .b (r4.1 == 3)) (by decide) rfl rfl rfl ?_
          refine o_pickT (v := .b (r4.1 == 3)) (e := (r3.1 == 6)) (by decide) rfl hb15 rfl ?_
          refine o_move (v := .b (r4.1 == 3)) (by decide) rfl ?_
          rcases Bool.eq_false_or_eq_true (r4.1 == 3) with hb16 | hb16
          ·replace hM := ifT hM hb16
           refine o_guardY (j := 35) (e := (r4.1 == 3)) (want := true) rfl hb16 ?_
           refine o_move (v := .i r5.1) (by decide) rfl ?_
           refine o_guardY (j := 35) (e := (r4.1 == 3)) (want := true) rfl hb16 ?_
           refine o_int (v := .b (r5.1 == 35)) (by decide) rfl rfl rfl ?_
           refine o_pickT (v := .b (r5.1 == 35)) (e := (r4.1 == 3)) (by decide) rfl hb16 rfl ?_
           refine o_move (v := .b (r5.1 == 35)) (by decide) rfl ?_
           rcases Bool.eq_false_or_eq_true (r5.1 == 35) with hb17 | hb17
           ·replace hM := ifT hM hb17
            refine o_guardY (j := 39) (e := (r5.1 == 35)) (want := true) rfl hb17 ?_
            refine o_move (v := .sl .no 1 (r6.1.map cI)) (by decide) rfl ?_
            refine o_guardY (j := 39) (e := (r5.1 == 35)) (want := true) rfl hb17 ?_
            refine o_buildSlice (es := [[.i 2]]) hS (by decide) ty_es22 ty_el22 rfl ty_ef22 rfl (by decide) (by omega) fun H hS => ?_
            refine o_guardY (j := 39) (e := (r5.1 == 35)) (want := true) rfl hb17 ?_
            obtain ⟨r18, hr18, hM⟩ := bindE hM
            refine o_call (bs := [.sl .no 1 (r6.1.map cI), .sl (.id (g + 1 + 3 + 12 + 8 + 8 + 7 + 12 + 41)) 1 (([2] : List Int).map cI)]) (by decide) rfl rfl ((W_ref01_SameInts hr18).le (.k (.cons (.sl _ _ _) .nil))) ?_
            refine o_pickT (v := .b r18) (e := (r5.1 == 35)) (by decide) rfl hb17 rfl ?_
            refine o_assign (v := .b r18) (by decide) rfl ?_
            refine run_nil ?_
            exact w_goto r18 (.k .nil) ⟨(hS.keep [false] rfl).up (by omega), hM⟩
           ·replace hM := ifF hM hb17
            refine o_guardN (j := 39) (e := (r5.1 == 35)) (want := true) (by decide) rfl hb17 ?_
            refine o_guardN (j := 39) (e := (r5.1 == 35)) (want := true) (by decide) rfl hb17 ?_
            refine o_guardN (j := 39) (e := (r5.1 == 35)) (want := true) (by decide) rfl hb17 ?_
            refine o_pickF (v := .b false) (e := (r5.1 == 35)) (by decide) rfl hb17 rfl ?_
            refine o_assign (v := .b false) (by decide) rfl ?_
            refine run_nil ?_
            exact w_goto false (.k .nil) ⟨(hS.keep [] rfl).up (by omega), hM⟩
          ·replace hM := ifF hM hb16
           refine o_guardN (j := 35) (e := (r4.1 == 3)) (want := true) (by decide) rfl hb16 ?_
           refine o_guardN (j := 35) (e := (r4.1 == 3)) (want := true) (by decide) rfl hb16 ?_
           refine o_pickF (v := .b false) (e := (r4.1 == 3)) (by decide) rfl hb16 rfl ?_
           refine o_move (v := .b false) (by decide) rfl ?_
           refine o_guardN (j := 39) (e := false) (want := true) (by decide) rfl rfl ?_
           refine o_guardN (j := 39) (e := false) (want := true) (by decide) rfl rfl ?_
           refine o_guardN (j := 39) (e := false) (want := true) (by decide) rfl rfl ?_
           refine o_pickF (v := .b false) (e := false) (by decide) rfl rfl rfl ?_
           refine o_assign (v := .b false) (by decide) rfl ?_
           refine run_nil ?_
           exact w_goto false (.k .nil) ⟨(hS.keep [] rfl).up (by omega), hM⟩
         ·replace hM := ifF hM hb15
          refine o_guardN (j := 31) (e := (r3.1 == 6)) (want := true) (by decide) rfl hb15 ?_
          refine o_guardN (j := 31) (e := (r3.1 == 6)) (want := true) (by decide) rfl hb15 ?_
          refine o_pickF (v := .b false) (e := (r3.1 == 6)) (by decide) rfl hb15 rfl ?_
          refine o_move (v := .b false) (by decide) rfl ?_
          refine o_guardN (j := 35) (e := false) (want := true) (by decide) rfl rfl ?_
          refine o_guardN (j := 35) (e := false) (want := true) (by decide) rfl rfl ?_
          refine o_pickF (v := .b false) (e := false) (by decide) rfl rfl rfl ?_
          refine o_move (v := .b false) (by decide) rfl ?_
          refine o_guardN (j := 39) (e := false) (want := true) (by decide) rfl rfl ?_
          refine o_guardN (j := 39) (e := false) (want := true) (by decide) rfl rfl ?_
          refine o_guardN (j := 39) (e := false) (want := true) (by decide) rfl rfl ?_
          refine o_pickF (v := .b false) (e := false) (by decide) rfl rfl rfl ?_
          refine o_assign (v := .b false) (by decide) rfl ?_
          refine run_nil ?_
          exact w_goto false (.k .nil) ⟨(hS.keep [] rfl).up (by omega), hM⟩
        ·replace hM := ifF hM hb14
         refine o_guardN (j := 27) (e := (r2.2.1 == 1)) (want := true) (by decide) rfl hb14 ?_
         refine o_guardN (j := 27) (e := (r2.2.1 == 1)) (want := true) (by decide) rfl hb14 ?_
         refine o_pickF (v := .b false) (e := (r2.2.1 == 1)) (by decide) rfl hb14 rfl ?_
         refine o_move (v := .b false) (by decide) rfl ?_
         refine o_guardN (j := 31) (e := false) (want := true) (by decide) rfl rfl ?_
         refine o_guardN (j := 31) (e := false) (want := true) (by decide) rfl rfl ?_
         refine o_pickF (v := .b false) (e := false) (by decide) rfl rfl rfl ?_
         refine o_move (v := .b false) (by decide) rfl ?_
         refine o_guardN (j := 35) (e := false) (want := true) (by decide) rfl rfl ?_
         refine o_guardN (j := 35) (e := false) (want := true) (by decide) rfl rfl ?_
         refine o_pickF (v := .b false) (e := false) (by decide) rfl rfl rfl ?_
         refine o_move (v := .b false) (by decide) rfl ?_
         refine o_guardN (j := 39) (e := false) (want := true) (by decide) rfl rfl ?_
         refine o_guardN (j := 39) (e := false) (want := true) (by decide) rfl rfl ?_
         refine o_guardN (j := 39) (e := false) (want := true) (by decide) rfl rfl ?_
         refine o_pickF (v := .b false) (e := false) (by decide) rfl rfl rfl ?_
         refine o_assign (v := .b false) (by decide) rfl ?_
         refine run_nil ?_
         exact w_goto false (.k .nil) ⟨(hS.keep [] rfl).up (by omega), hM⟩
       ·replace hM := ifF hM hb13
        refine o_guardN (j := 23) (e := ((r2.1.Place == 10) && ((r2.1.Credit == 1) && true))) (want := true) (by decide) rfl hb13 ?_
        refine o_guardN (j := 23) (e := ((r2.1.Place == 10) && ((r2.1.Credit == 1) && true))) (want := true) (by decide) rfl hb13 ?_
        refine o_pickF (v := .b false) (e := ((r2.1.Place == 10) && ((r2.1.Credit == 1) && true))) (by decide) rfl hb13 rfl ?_
        refine o_move (v := .b false) (by decide) rfl ?_
        refine o_guardN (j := 27) (e := false) (want := true) (by decide) rfl rfl ?_
        refine o_guardN (j := 27) (e := false) (want := true) (by decide) rfl rfl ?_
        refine o_pickF (v := .b false) (e := false) (by decide) rfl rfl rfl ?_
        refine o_move (v := .b false) (by decide) rfl ?_
        refine o_guardN (j := 31) (e := false) (want := true) (by decide) rfl rfl ?_
        refine o_guardN (j := 31) (e := false) (want := true) (by decide) rfl rfl ?_
        refine o_pickF (v := .b false) (e := false) (by decide) rfl rfl rfl ?_
        refine o_move (v := .b false) (by decide) rfl ?_
        refine o_guardN (j := 35) (e := false) (want := true) (by decide) rfl rfl ?_
        refine o_guardN (j := 35) (e := false) (want := true) (by decide) rfl rfl ?_
        refine o_pickF (v := .b false) (e := false) (by decide) rfl rfl rfl ?_
        refine o_move (v := .b false) (by decide) rfl ?_
        refine o_guardN (j := 39) (e := false) (want := true) (by decide) rfl rfl ?_
        refine o_guardN (j := 39) (e := false) (want := true) (by decide) rfl rfl ?_
        refine o_guardN (j := 39) (e := false) (want := true) (by decide) rfl rfl ?_
        refine o_pickF (v := .b false) (e := false) (by decide) rfl rfl rfl ?_
        refine o_assign (v := .b false) (by decide) rfl ?_
        refine run_nil ?_
        exact w_goto false (.k .nil) ⟨(hS.keep [] rfl).up (by omega), hM⟩
      ·replace hM := ifF hM hb12
       refine o_guardN (j := 18) (e := (r6.2 == 0)) (want := true) (by decide) rfl hb12 ?_
       refine o_guardN (j := 18) (e := (r6.2 == 0)) (want := true) (by decide) rfl hb12 ?_
       refine o_guardN (j := 18) (e := (r6.2 == 0)) (want := true) (by decide) rfl hb12 ?_
       refine o_pickF (v := .b false) (e := (r6.2 == 0)) (by decide) rfl hb12 rfl ?_
       refine o_move (v := .b false) (by decide) rfl ?_
       refine o_guardN (j := 23) (e := false) (want := true) (by decide) rfl rfl ?_
       refine o_guardN (j := 23) (e := false) (want := true) (by decide) rfl rfl ?_
       refine o_pickF (v := .b false) (e := false) (by decide) rfl rfl rfl ?_
       refine o_move (v := .b false) (by decide) rfl ?_
       refine o_guardN (j := 27) (e := false) (want := true) (by decide) rfl rfl ?_
       refine o_guardN (j := 27) (e := false) (want := true) (by decide) rfl rfl ?_
       refine o_pickF (v := .b false) (e := false) (by decide) rfl rfl rfl ?_
       refine o_move (v := .b false) (by decide) rfl ?_
       refine o_guardN (j := 31) (e := false) (want := true) (by decide) rfl rfl ?_
       refine o_guardN (j := 31) (e := false) (want := true) (by decide) rfl rfl ?_
       refine o_pickF (v := .b false) (e := false) (by decide) rfl rfl rfl ?_
       refine o_move (v := .b false) (by decide) rfl ?_
       refine o_guardN (j := 35) (e := false) (want := true) (by decide) rfl rfl ?_
       refine o_guardN (j := 35) (e := false) (want := true) (by decide) rfl rfl ?_
       refine o_pickF (v := .b false) (e := false) (by decide) rfl rfl rfl ?_
       refine o_move (v := .b false) (by decide) rfl ?_
       refine o_guardN (j := 39) (e := false) (want := true) (by decide) rfl rfl ?_
       refine o_guardN (j := 39) (e := false) (want := true) (by decide) rfl rfl ?_
       refine o_guardN (j := 39) (e := false) (want := true) (by decide) rfl rfl ?_
       refine o_pickF (v := .b false) (e := false) (by decide) rfl rfl rfl ?_
       refine o_assign (v := .b false) (by decide) rfl ?_
       refine run_nil ?_
       exact w_goto false (.k .nil) ⟨(hS.keep [] rfl).up (by omega), hM⟩
     ·replace hM := ifF hM hb11
      refine o_guardN (j := 14) (e := (r5.2 == 0)) (want := true) (by decide) rfl hb11 ?_
      refine o_guardN (j := 14) (e := (r5.2 == 0)) (want := true) (by decide) rfl hb11 ?_
      refine o_pickF (v := .b false) (e := (r5.2 == 0)) (by decide) rfl hb11 rfl ?_
      refine o_move (v := .b false) (by decide) rfl ?_
      refine o_guardN (j := 18) (e := false) (want := true) (by decide) rfl rfl ?_
      refine o_guardN (j := 18) (e := false) (want := true) (by decide) rfl rfl ?_
      refine o_guardN (j := 18) (e := false) (want := true) (by decide) rfl rfl ?_
      refine o_pickF (v := .b false) (e := false) (by decide) rfl rfl rfl ?_
      refine o_move (v := .b false) (by decide) rfl ?_
      refine o_guardN (j := 23) (e := false) (want := true) (by decide) rfl rfl ?_
      refine o_guardN (j := 23) (e := false) (want := true) (by decide) rfl rfl ?_
      refine o_pickF (v := .b false) (e := false) (by decide) rfl rfl rfl ?_
      refine o_move (v := .b false) (by decide) rfl ?_
      refine o_guardN (j := 27) (e := false) (want := true) (by decide) rfl rfl ?_
      refine o_guardN (j := 27) (e := false) (want := true) (by decide) rfl rfl ?_
      refine o_pickF (v := .b false) (e := false) (by decide) rfl rfl rfl ?_
      refine o_move (v := .b false) (by decide) rfl ?_
      refine o_guardN (j := 31) (e := false) (want := true) (by decide) rfl rfl ?_
      refine o_guardN (j := 31) (e := false) (want := true) (by decide) rfl rfl ?_
      refine o_pickF (v := .b false) (e := false) (by decide) rfl rfl rfl ?_
      refine o_move (v := .b false) (by decide) rfl ?_
      refine o_guardN (j := 35) (e := false) (want := true) (by decide) rfl rfl ?_
      refine o_guardN (j := 35) (e := false) (want := true) (by decide) rfl rfl ?_
      refine o_pickF (v := .b false) (e := false) (by decide) rfl rfl rfl ?_
      refine o_move (v := .b false) (by decide) rfl ?_
      refine o_guardN (j := 39) (e := false) (want := true) (by decide) rfl rfl ?_
      refine o_guardN (j := 39) (e := false) (want := true) (by decide) rfl rfl ?_
      refine o_guardN (j := 39) (e := false) (want := true) (by decide) rfl rfl ?_
      refine o_pickF (v := .b false) (e := false) (by decide) rfl rfl rfl ?_
      refine o_assign (v := .b false) (by decide) rfl ?_
      refine run_nil ?_
      exact w_goto false (.k .nil) ⟨(hS.keep [] rfl).up (by omega), hM⟩
    ·replace hM := ifF hM hb10
     refine o_guardN (j := 10) (e := (r4.2 == 0)) (want := true) (by decide) rfl hb10 ?_
     refine o_guardN (j := 10) (e := (r4.2 == 0)) (want := true) (by decide) rfl hb10 ?_
     refine o_pickF (v := .b false) (e := (r4.2 == 0)) (by decide) rfl hb10 rfl ?_
     refine o_move (v := .b false) (by decide) rfl ?_
     refine o_guardN (j := 14) (e := false) (want := true) (by decide) rfl rfl ?_
     refine o_guardN (j := 14) (e := false) (want := true) (by decide) rfl rfl ?_
     refine o_pickF (v := .b false) (e := false) (by decide) rfl rfl rfl ?_
     refine o_move (v := .b false) (by decide) rfl ?_
     refine o_guardN (j := 18) (e := false) (want := true) (by decide) rfl rfl ?_
     refine o_guardN (j := 18) (e := false) (want := true) (by decide) rfl rfl ?_
     refine o_guardN (j := 18) (e := false) (want := true) (by decide) rfl rfl ?_
     refine o_pickF (v := .b false) (e := false) (by decide) rfl rfl rfl ?_
     refine o_move (v := .b false) (by decide) rfl ?_
     refine o_guardN (j := 23) (e := false) (want := true) (by decide) rfl rfl ?_
     refine o_guardN (j := 23) (e := false) (want := true) (by decide) rfl rfl ?_
     refine o_pickF (v := .b false) (e := false) (by decide) rfl rfl rfl ?_
     refine o_move (v := .b false) (by decide) rfl ?_
     refine o_guardN (j := 27) (e := false) (want := true) (by decide) rfl rfl ?_
     refine o_guardN (j := 27) (e := false) (want := true) (by decide) rfl rfl ?_
     refine o_pickF (v := .b false) (e := false) (by decide) rfl rfl rfl ?_
     refine o_move (v := .b false) (by decide) rfl ?_
     refine o_guardN (j := 31) (e := false) (want := true) (by decide) rfl rfl ?_
     refine o_guardN (j := 31) (e := false) (want := true) (by decide) rfl rfl ?_
     refine o_pickF (v := .b false) (e := false) (by decide) rfl rfl rfl ?_
     refine o_move (v := .b false) (by decide) rfl ?_
     refine o_guardN (j := 35) (e := false) (want := true) (by decide) rfl rfl ?_
     refine o_guardN (j := 35) (e := false) (want := true) (by decide) rfl rfl ?_
     refine o_pickF (v := .b false) (e := false) (by decide) rfl rfl rfl ?_
     refine o_move (v := .b false) (by decide) rfl ?_
     refine o_guardN (j := 39) (e := false) (want := true) (by decide) rfl rfl ?_
     refine o_guardN (j := 39) (e := false) (want := true) (by decide) rfl rfl ?_
     refine o_guardN (j := 39) (e := false) (want := true) (by decide) rfl rfl ?_
     refine o_pickF (v := .b false) (e := false) (by decide) rfl rfl rfl ?_
     refine o_assign (v := .b false) (by decide) rfl ?_
     refine run_nil ?_
     exact w_goto false (.k .nil) ⟨(hS.keep [] rfl).up (by omega), hM⟩
   ·replace hM := ifF hM hb9
    refine o_guardN (j := 6) (e := (r3.2 == 0)) (want := true) (by decide) rfl hb9 ?_
    refine o_guardN (j := 6) (e := (r3.2 == 0)) (want := true) (by decide) rfl hb9 ?_
    refine o_pickF (v := .b false) (e := (r3.2 == 0)) (by decide) rfl hb9 rfl ?_
    refine o_move (v := .b false) (by decide) rfl ?_
    refine o_guardN (j := 10) (e := false) (want := true) (by decide) rfl rfl ?_
    refine o_guardN (j := 10) (e := false) (want := true) (by decide) rfl rfl ?_
    refine o_pickF (v := .b false) (e := false) (by decide) rfl rfl rfl ?_
    refine o_move (v := .b false) (by decide) rfl ?_
    refine o_guardN (j := 14) (e := false) (want := true) (by decide) rfl rfl ?_
    refine o_guardN (j := 14) (e := false) (want := true) (by decide) rfl rfl ?_
    refine o_pickF (v := .b false) (e := false) (by decide) rfl rfl rfl ?_
    refine o_move (v := .b false) (by decide) rfl ?_
    refine o_guardN (j := 18) (e := false) (want := true) (by decide) rfl rfl ?_
    refine o_guardN (j := 18) (e := false) (want := true) (by decide) rfl rfl ?_
    refine o_guardN (j := 18) (e := false) (want := true) (by decide) rfl rfl ?_
    refine o_pickF (v := .b false) (e := false) (by decide) rfl rfl rfl ?_
    refine o_move (v := .b false) (by decide) rfl ?_
    refine o_guardN (j := 23) (e := false) (want := true) (by decide) rfl rfl ?_
    refine o_guardN (j := 23) (e := false) (want := true) (by decide) rfl rfl ?_
    refine o_pickF (v := .b false) (e := false) (by decide) rfl rfl rfl ?_
    refine o_move (v := .b false) (by decide) rfl ?_
    refine o_guardN (j := 27) (e := false) (want := true) (by decide) rfl rfl ?_
    refine o_guardN (j := 27) (e := false) (want := true) (by decide) rfl rfl ?_
    refine o_pickF (v := .b false) (e := false) (by decide) rfl rfl rfl ?_
    refine o_move (v := .b false) (by decide) rfl ?_
    refine o_guardN (j := 31) (e := false) (want := true) (by decide) rfl rfl ?_
    refine o_guardN (j := 31) (e := false) (want := true) (by decide) rfl rfl ?_
    refine o_pickF (v := .b false) (e := false) (by decide) rfl rfl rfl ?_
    refine o_move (v := .b false) (by decide) rfl ?_
    refine o_guardN (j := 35) (e := false) (want := true) (by decide) rfl rfl ?_
    refine o_guardN (j := 35) (e := false) (want := true) (by decide) rfl rfl ?_
    refine o_pickF (v := .b false) (e := false) (by decide) rfl rfl rfl ?_
    refine o_move (v := .b false) (by decide) rfl ?_
    refine o_guardN (j := 39) (e := false) (want := true) (by decide) rfl rfl ?_
    refine o_guardN (j := 39) (e := false) (want := true) (by decide) rfl rfl ?_
    refine o_guardN (j := 39) (e := false) (want := true) (by decide) rfl rfl ?_
    refine o_pickF (v := .b false) (e := false) (by decide) rfl rfl rfl ?_
    refine o_assign (v := .b false) (by decide) rfl ?_
    refine run_nil ?_
    exact w_goto false (.k .nil) ⟨(hS.keep [] rfl).up (by omega), hM⟩
  ·replace hM := ifF hM hb8
   refine o_guardN (j := 2) (e := (r2.2.2 == 0)) (want := true) (by decide) rfl hb8 ?_
   refine o_guardN (j := 2) (e := (r2.2.2 == 0)) (want := true) (by decide) rfl hb8 ?_
   refine o_pickF (v := .b false) (e := (r2.2.2 == 0)) (by decide) rfl hb8 rfl ?_
   refine o_move (v := .b false) (by decide) rfl ?_
   refine o_guardN (j := 6) (e := false) (want := true) (by decide) rfl rfl ?_
   refine o_guardN (j := 6) (e := false) (want := true) (by decide) rfl rfl ?_
   refine o_pickF (v := .b false) (e := false) (by decide) rfl rfl rfl ?_
   refine o_move (v := .b false) (by decide) rfl ?_
   refine o_guardN (j := 10) (e := false) (want := true) (by decide) rfl rfl ?_
   refine o_guardN (j := 10) (e := false) (want := true) (by decide) rfl rfl ?_
   refine o_pickF (v := .b false) (e := false) (by decide) rfl rfl rfl ?_
   refine o_move (v := .b false) (by decide) rfl ?_
   refine o_guardN (j := 14) (e := false) (want := true) (by decide) rfl rfl ?_
   refine o_guardN (j := 14) (e := false) (want := true) (by decide) rfl rfl ?_
   refine o_pickF (v := .b false) (e := false) (by decide) rfl rfl rfl ?_
   refine o_move (v := .b false) (by decide) rfl ?_
   refine o_guardN (j := 18) (e := false) (want := true) (by decide) rfl rfl ?_
   refine o_guardN (j := 18) (e := false) (want := true) (by decide) rfl rfl ?_
   refine o_guardN (j := 18) (e := false) (want := true) (by decide) rfl rfl ?_
   refine o_pickF (v := .b false) (e := false) (by decide) rfl rfl rfl ?_
   refine o_move (v := .b false) (by decide) rfl ?_
   refine o_guardN (j := 23) (e := false) (want := true) (by decide) rfl rfl ?_
   refine o_guardN (j := 23) (e := false) (want := true) (by decide) rfl rfl ?_
   refine o_pickF (v := .b false) (e := false) (by decide) rfl rfl rfl ?_
   refine o_move (v := .b false) (by decide) rfl ?_
   refine o_guardN (j := 27) (e := false) (want := true) (by decide) rfl rfl ?_
   refine o_guardN (j := 27) (e := false) (want := true) (by decide) rfl rfl ?_
   refine o_pickF (v := .b false) (e := false) (by decide) rfl rfl rfl ?_
   refine o_move (v := .b false) (by decide) rfl ?_
   refine o_guardN (j := 31) (e := false) (want := true) (by decide) rfl rfl ?_
   refine o_guardN (j := 31) (e := false) (want := true) (by decide) rfl rfl ?_
   refine o_pickF (v := .b false) (e := false) (by decide) rfl rfl rfl ?_
   refine o_move (v := .b false) (by decide) rfl ?_
   refine o_guardN (j := 35) (e := false) (want := true) (by decide) rfl rfl ?_
   refine o_guardN (j := 35) (e := false) (want := true) (by decide) rfl rfl ?_
   refine o_pickF (v := .b false) (e := false) (by decide) rfl rfl rfl ?_
   refine o_move (v := .b false) (by decide) rfl ?_
   refine o_guardN (j := 39) (e := false) (want := true) (by decide) rfl rfl ?_
   refine o_guardN (j := 39) (e := false) (want := true) (by decide) rfl rfl ?_
   refine o_guardN (j := 39) (e := false) (want := true) (by decide) rfl rfl ?_
   refine o_pickF (v := .b false) (e := false) (by decide) rfl rfl rfl ?_
   refine o_assign (v := .b false) (by decide) rfl ?_
   refine run_nil ?_
   exact w_goto false (.k .nil) ⟨(hS.keep [] rfl).up (by omega), hM⟩
theorem W_ref01_Within {a0 : Int} {a1 : Int} {a2 : Int} {r : Bool} (hM : ref01_Within a0 a1 a2 = some r) : PureSat Try.prog 61 [.i a0, .i a1, .i a2] (.b r) := by
 refine pure_of_wp mixed Try.func61 rfl (by decide) Try.ntmps61 (by simp) ?pure fun H0 g hf => ?_
 case pure => exact .v _
 rw [frame0_of]
 change wpA _ _ _ _ (Fr.of [(0, .i a0), (1, .i a1), (2, .i a2)]) H0 g
 have hS := St.start hf
 refine r_seq ?_
 refine r_region (n := 1) rfl ?_
 refine o_assign (v := .b false) (by decide) rfl ?_
 refine run_nil ?_
 refine w_next [(0, .i a0), (1, .i a1), (2, .i a2)] (.k (.k (.k .nil))) ?_
 refine w_join (J := Bool) (fun j => [(6, .b j)]) (fun j H' g' => St (· < g) H0 [] H' g' ∧ ref01_Within_j1 j = some r) ?_ ?_
 ·rintro v1 H g1 ⟨hS, hM⟩
  change wpA _ _ _ _ (Fr.of [(6, .b v1)]) _ _
  replace hS : St (· < g) H0 [] H g1 := hS
  replace hM : ref01_Within_j1 v1 = some r := hM
  refine r_ret ?_
  refine w_end (x := .b v1) (f := fun r => .b r) (.inr rfl) ?_ (.refl _) (Option.some.inj hM) hS
  exact (res_one (res_tmp (x := .b v1) rfl))
 ·refine r_region (n := 9) rfl ?_
  refine o_move (v := .i a0) (by decide) rfl ?_
  refine o_move (v := .i a1) (by decide) rfl ?_
  refine o_int (v := .b (decide (a0 ≥ a1))) (by decide) rfl rfl rfl ?_
  refine o_move (v := .b (decide (a0 ≥ a1))) (by decide) rfl ?_
  rcases Bool.eq_false_or_eq_true (decide (a0 ≥ a1)) with hb2 | hb2
  ·replace hM := ifT hM hb2
   refine o_guardY (j := 3) (e := (decide (a0 ≥ a1))) (want := true) rfl hb2 ?_
   refine o_move (v := .i a0) (by decide) rfl ?_
   refine o_guardY (j := 3) (e := (decide (a0 ≥ a1))) (want := true) rfl hb2 ?_
   refine o_move (v := .i a2) (by decide) rfl ?_
   refine o_guardY (j := 3) (e := (decide (a0 ≥ a1))) (want := true) rfl hb2 ?_
   refine o_int (v := .b (decide (a0 ≤ a2))) (by decide) rfl rfl rfl ?_
   refine o_pickT (v := .b (decide (a0 ≤ a2))) (e := (decide (a0 ≥ a1))) (by decide) rfl hb2 rfl ?_
   refine o_assign (v := .b (decide (a0 ≤ a2))) (by decide) rfl ?_
   refine run_nil ?_
   exact w_goto (decide (a0 ≤ a2)) (.k .nil) ⟨(hS.keep [] rfl).up (by omega), hM⟩
  ·replace hM := ifF hM hb2
   refine o_guardN (j := 3) (e := (decide (a0 ≥ a1))) (want := true) (by decide) rfl hb2 ?_
   refine o_guardN (j := 3) (e := (decide (a0 ≥ a1))) (want := true) (by decide) rfl hb2 ?_
   refine o_guardN (j := 3) (e := (decide (a0 ≥ a1))) (want := true) (by decide) rfl hb2 ?_
   refine o_pickF (v := .b false) (e := (decide (a0 ≥ a1))) (by decide) rfl hb2 rfl ?_
   refine o_assign (v := .b false) (by decide) rfl ?_
   refine run_nil ?_
   exact w_goto false (.k .nil) ⟨(hS.keep [] rfl).up (by omega), hM⟩
end Go.Proofs.Ytapcibbbmeomkaa
