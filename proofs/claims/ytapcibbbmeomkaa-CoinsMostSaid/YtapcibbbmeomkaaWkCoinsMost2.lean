/-
  The code returns what the functions say (printed by gen.py).
  Conditions: none.
-/
import Derived.Test.YtapcibbbmeomkaaWkCoinsMost1
import Derived.Test.YtapcibbbmeomkaaSh
set_option linter.all false
namespace Go.Proofs.Ytapcibbbmeomkaa
open Go Go.AM Go.Law
set_option linter.unusedVariables false
set_option maxRecDepth 4000
set_option maxHeartbeats 4000000
theorem W_coins_search_buys_c1 {p1 p2 p3 : Nat} (hnd : [p1, p2, p3].Nodup) {rec : (Wheel_ × Bool) → Spot_ → (List (Spot_ × Int)) → Option (Int × (List (Spot_ × Int)))} (hrec : ∀ {a0 : Wheel_ × Bool} {a1 : Spot_} {st : List (Spot_ × Int)} {r : Int × (List (Spot_ × Int))}, rec a0 a1 st = some r → HSat Try.prog 66 [.ep (srchC a0.1 a0.2 p3), .agg (Spot_.cells a1)] [(p3, .obj none (mapIs (mpv kvSpot_ st)))] (.i r.1) [(p3, .obj none (mapIs (mpv kvSpot_ r.2)))]) {a0 : List Int} {a1 : Spot_} {a2 : Int} {a3 : Wheel_ × Bool} {st : Bool × Int × (List (Spot_ × Int))} {r : Bool × (Bool × Int × (List (Spot_ × Int)))} (hM : coins_search_buys_c1 rec a0 a1 a2 a3 st = some r) : HSat Try.prog 98 [.sl .no 1 (a0.map cI), .agg (Spot_.cells a1), .i a2, .ep [.ep (srchC a3.1 a3.2 p3)], .ptr p1 0, .ptr p2 0] [(p1, .cells [.b st.1]), (p2, .cells [.i st.2.1]), (p3, .obj none (mapIs (mpv kvSpot_ st.2.2)))] (.b r.1) [(p1, .cells [.b r.2.1]), (p2, .cells [.i r.2.2.1]), (p3, .obj none (mapIs (mpv kvSpot_ r.2.2.2)))] := by
 refine hsat_of_wp mixed Try.func98 rfl (by decide) Try.ntmps98 (by simp) (kl_cells (kl_cells (kl_obj kl_nil))) hnd ?pure ?cells fun H0 g hf_ hp => ?_
 case pure => exact fun H _ => (show Go.AM.Pure _ from .v _).inH
 case cells => exact (inb_st (ic_cells (ci_cons (.inl (.inl (.v _))) ci_nil) (ic_cells (ci_cons (.inl (.inl (.v _))) ci_nil) (ic_obj ic_nil))) inb_nil)
 rw [frame0_of]
 change wpA _ _ _ _ (Fr.of [(0, .sl .no 1 (a0.map cI)), (1, .agg (Spot_.cells a1)), (2, .i a2), (3, .ep [.ep (srchC a3.1 a3.2 p3)]), (4, .ptr p1 0), (5, .ptr p2 0)]) H0 g
 have hS := St.startH (L := [(p1, .cells [.b st.1]), (p2, .cells [.i st.2.1]), (p3, .obj none (mapIs (mpv kvSpot_ st.2.2)))]) hf_ hnd hp
 replace hS : St (fun i => i < g ∧ i ∉ ids [(p1, .cells [.b st.1]), (p2, .cells [.i st.2.1]), (p3, .obj none (mapIs (mpv kvSpot_ st.2.2)))]) H0 [(p1, .cells [.b st.1]), (p2, .cells [.i st.2.1]), (p3, .obj none (mapIs (mpv kvSpot_ st.2.2)))] H0 g := hS
 refine Sq ?_
 refine Rg 2 ?_
 refine o_box (v := .agg (Spot_.cells a1)) (cs := (Spot_.cells a1)) hS (by decide) rfl rfl (by omega) fun H hS => ?_
 refine Oa (.b false) ?_
 refine Ni ?_
 refine w_iceE (L' := [(p1, .cells [.b st.1]), (p2, .cells [.i st.2.1]), (p3, .obj none (mapIs (mpv kvSpot_ st.2.2)))]) 0 7 hS rfl rfl rfl fun H hS => ?_
 refine Ws ?_
 refine w_join (J := Bool × Int × (List (Spot_ × Int))) (fun j => []) (fun j H' g' => St (fun i => i < g ∧ i ∉ ids [(p1, .cells [.b st.1]), (p2, .cells [.i st.2.1]), (p3, .obj none (mapIs (mpv kvSpot_ st.2.2)))]) H0 [(p1, .cells [.b j.1]), (p2, .cells [.i j.2.1]), (p3, .obj none (mapIs (mpv kvSpot_ j.2.2)))] H' g' ∧ coins_search_buys_c1_j1 j.1 j.2.1 j.2.2 = some r) ?_ ?_
 ·rintro ⟨v1, v2, v3⟩ H g1 ⟨hS, hM⟩
  change wpA _ _ _ _ (Fr.of []) _ _
  replace hS : St (fun i => i < g ∧ i ∉ ids [(p1, .cells [.b st.1]), (p2, .cells [.i st.2.1]), (p3, .obj none (mapIs (mpv kvSpot_ st.2.2)))]) H0 [(p1, .cells [.b v1]), (p2, .cells [.i v2]), (p3, .obj none (mapIs (mpv kvSpot_ v3)))] H g1 := hS
  replace hM : coins_search_buys_c1_j1 v1 v2 v3 = some r := hM
  refine Sq ?_
  refine Rg 1 ?_
  refine Oa (.b true) ?_
  refine Ni ?_
  refine Ws ?_
  refine r_ret ?_
  refine w_endS (x := .b true) (f := fun r => .b r.1) (fd := fun r => [(p1, .cells [.b r.2.1]), (p2, .cells [.i r.2.2.1]), (p3, .obj none (mapIs (mpv kvSpot_ r.2.2.2)))]) (.inr rfl) ?_ (.refl _) (Option.some.inj hM) hS 0 rfl
  exact (res_one (res_tmp (x := .b true) rfl))
 ·refine Sq ?_
  refine Rg 6 ?_
  refine Om (.i a2) ?_
  refine Olp (.ep (srchC a3.1 a3.2 p3)) ty_agg86 ty_sc86 ?_
  refine Olg (.agg (Spot_.cells a1)) ty_agg90 ?_
  obtain ⟨r4, hr4, hM⟩ := bindE hM
  have hndr4 := hS.nd_at (ns := [2]) (M := [(p3, .obj none (mapIs (mpv kvSpot_ st.2.2)))]) (M' := [(p3, .obj none (mapIs (mpv kvSpot_ r4.2)))]) (.cons rfl .nil) (by decide)
  refine o_hsat (bs := [.ep (srchC a3.1 a3.2 p3), .agg (Spot_.cells a1)]) (M := [(p3, .obj none (mapIs (mpv kvSpot_ st.2.2)))]) (M' := [(p3, .obj none (mapIs (mpv kvSpot_ r4.2)))]) (L' := [(p1, .cells [.b st.1]), (p2, .cells [.i st.2.1]), (p3, .obj none (mapIs (mpv kvSpot_ r4.2)))]) [2] (.inl rfl) hS (by decide) rfl rfl ((hrec hr4).le (.k (.k .nil))) (.cons rfl .nil) rfl (by omega) fun H hS => ?_
  refine Oi (.i (w64 (a2 + r4.1))) ?_
  refine Oa (.i (w64 (a2 + r4.1))) ?_
  refine Ni ?_
  refine Ws ?_
  refine w_join (J := Bool) (fun j => [(4, .ptr p1 0), (5, .ptr p2 0), (10, .i (w64 (a2 + r4.1))), (25, .b j)]) (fun j H' g' => St (fun i => i < g ∧ i ∉ ids [(p1, .cells [.b st.1]), (p2, .cells [.i st.2.1]), (p3, .obj none (mapIs (mpv kvSpot_ st.2.2)))]) H0 [(p1, .cells [.b st.1]), (p2, .cells [.i st.2.1]), (p3, .obj none (mapIs (mpv kvSpot_ r4.2)))] H' g' ∧ coins_search_buys_c1_j2 a2 st r4 j = some r) ?_ ?_
  ·rintro v5 H g2 ⟨hS, hM⟩
   change wpA _ _ _ _ (Fr.of [(4, .ptr p1 0), (5, .ptr p2 0), (10, .i (w64 (a2 + r4.1))), (25, .b v5)]) _ _
   replace hS : St (fun i => i < g ∧ i ∉ ids [(p1, .cells [.b st.1]), (p2, .cells [.i st.2.1]), (p3, .obj none (mapIs (mpv kvSpot_ st.2.2)))]) H0 [(p1, .cells [.b st.1]), (p2, .cells [.i st.2.1]), (p3, .obj none (mapIs (mpv kvSpot_ r4.2)))] H g2 := hS
   replace hM : coins_search_buys_c1_j2 a2 st r4 v5 = some r := hM
   rcases bft v5 with hb6 | hb6
   ·replace hM := ifT hM hb6
    refine Ct hb6 ?_
    refine Rg 3 ?_
    refine Om (.i (w64 (a2 + r4.1))) ?_
    refine o_store (v := .i (w64 (a2 + r4.1))) (ns := [.i (w64 (a2 + r4.1))]) (L' := [(p1, .cells [.b st.1]), (p2, .cells [.i (w64 (a2 + r4.1))]), (p3, .obj none (mapIs (mpv kvSpot_ r4.2)))]) 1 hS rfl rfl .no rfl rfl ty_var3 nlb rfl fun H hS => ?_
    refine o_store (v := .b false) (ns := [.b false]) (L' := [(p1, .cells [.b false]), (p2, .cells [.i (w64 (a2 + r4.1))]), (p3, .obj none (mapIs (mpv kvSpot_ r4.2)))]) 0 hS rfl rfl .no rfl rfl ty_var4 nlb rfl fun H hS => ?_
    refine Ni ?_
    exact w_goto (false, w64 (a2 + r4.1), r4.2) .nil ⟨(hS.keep [true, true, true] rfl).up (by omega), hM⟩
   ·replace hM := ifF hM hb6
    refine Cf hb6 ?_
    refine r_skip ?_
    exact w_goto (st.1, st.2.1, r4.2) .nil ⟨(hS.keep [true, true, true] rfl).up (by omega), hM⟩
  ·have hS0 := hS
   refine r_draw (n := 10) rfl (by kernel_rfl) ?_
   refine o_load (v := .b st.1) 0 hS (by decide) rfl rfl (.st hS0 0 rfl (by omega)) (po ty_agg4 ty_sc4) ?_
   refine Om (.b st.1) ?_
   rcases bft st.1 with hb7 | hb7
   ·replace hM := ifT hM hb7
    refine On (want := false) hb7 ?_
    refine On (want := false) hb7 ?_
    refine On (want := false) hb7 ?_
    refine On (want := false) hb7 ?_
    refine On (want := false) hb7 ?_
    refine On (want := false) hb7 ?_
    refine On (want := false) hb7 ?_
    refine Pt (.b true) hb7 ?_
    refine Ni ?_
    exact w_goto true (.k (.k (.k (.k .nil)))) ⟨(hS.keep [true, true, true] rfl).up (by omega), hM⟩
   ·replace hM := ifF hM hb7
    refine Oy (want := false) hb7 ?_
    refine Olp (.ep (srchC a3.1 a3.2 p3)) ty_agg86 ty_sc86 ?_
    refine Oy (want := false) hb7 ?_
    refine o_nilE (by decide) rfl ?_
    refine Oy (want := false) hb7 ?_
    refine Of ((srchC a3.1 a3.2 p3)) ty_fo114_1 ?_
    refine Oy (want := false) hb7 ?_
    refine Olp (fnB a3.2) ty_agg93 ty_sc93 ?_
    refine Oy (want := false) hb7 ?_
    refine Om (.i (w64 (a2 + r4.1))) ?_
    refine Oy (want := false) hb7 ?_
    refine o_load (v := .i st.2.1) 1 hS (by decide) rfl rfl (.st hS0 1 rfl (by omega)) (po ty_agg3 ty_sc3) ?_
    refine Oy (want := false) hb7 ?_
    obtain ⟨r8, hr8, hM⟩ := bindE hM
    refine o_call (bs := [.i (w64 (a2 + r4.1)), .i st.2.1]) (by decide) rfl rfl ((W_coins_better hr8).le (.k (.k .nil))) ?_
    refine Pf (.b r8) hb7 ?_
    refine Ni ?_
    exact w_goto r8 (.k (.k (.k (.k .nil)))) ⟨(hS.keep [true, true, true] rfl).up (by omega), hM⟩
theorem W_coins_search_buys_b {p1 : Nat} (hnd : [p1].Nodup) {n : Nat} {rec : (Wheel_ × Bool) → Spot_ → (List (Spot_ × Int)) → Option (Int × (List (Spot_ × Int)))} (hrec : ∀ {a0 : Wheel_ × Bool} {a1 : Spot_} {st : (List (Spot_ × Int))} {r : Int × (List (Spot_ × Int))}, rec a0 a1 st = some r → HSat Try.prog 66 [.ep (srchC a0.1 a0.2 p1), .agg (Spot_.cells a1)] [(p1, .obj none (mapIs (mpv kvSpot_ st)))] (.i r.1) [(p1, .obj none (mapIs (mpv kvSpot_ r.2)))]) {a0 : Wheel_ × Bool} {a1 : Spot_} {st : (List (Spot_ × Int))} {r : Int × (List (Spot_ × Int))} (hM : coins_search_buys_b n rec a0 a1 st = some r) : HSat Try.prog 66 [.ep (srchC a0.1 a0.2 p1), .agg (Spot_.cells a1)] [(p1, .obj none (mapIs (mpv kvSpot_ st)))] (.i r.1) [(p1, .obj none (mapIs (mpv kvSpot_ r.2)))] := by
 refine hsat_of_wp mixed Try.func66 rfl (by decide) Try.ntmps66 (by simp) (kl_obj kl_nil) hnd ?pure ?cells fun H0 g hf_ hp => ?_
 case pure => exact fun H _ => (show Go.AM.Pure _ from .v _).inH
 case cells => exact (inb_st (ic_obj ic_nil) inb_nil)
 rw [frame0_of]
 change wpA _ _ _ _ (Fr.of [(0, .ep (srchC a0.1 a0.2 p1)), (1, .agg (Spot_.cells a1))]) H0 g
 have hS := St.startH (L := [(p1, .obj none (mapIs (mpv kvSpot_ st)))]) hf_ hnd hp
 replace hS : St (fun i => i < g ∧ i ∉ ids [(p1, .obj none (mapIs (mpv kvSpot_ st)))]) H0 [(p1, .obj none (mapIs (mpv kvSpot_ st)))] H0 g := hS
 refine Sq ?_
 refine Rg 3 ?_
 refine o_box (v := .ep (srchC a0.1 a0.2 p1)) (cs := [.ep (srchC a0.1 a0.2 p1)]) hS (by decide) rfl rfl (by omega) fun H hS => ?_
 refine o_box (v := .agg (Spot_.cells a1)) (cs := (Spot_.cells a1)) hS (by decide) rfl rfl (by omega) fun H hS => ?_
 refine Oa (.i 0) ?_
 refine Ni ?_
 refine w_iceE (L' := [(g + 1, .cells (Spot_.cells a1)), (p1, .obj none (mapIs (mpv kvSpot_ st)))]) 1 2 hS rfl rfl rfl fun H hS => ?_
 refine Ws ?_
 refine Sq ?_
 refine Rg 1 ?_
 refine Oa (.i 0) ?_
 refine Ni ?_
 refine Ws ?_
 refine w_join (J := Int × Int × Int × Int × Int) (fun j => [(2, .ep [.ep (srchC a0.1 a0.2 p1)]), (3, .ptr (g + 1) 0), (5, .i j.1)]) (fun j H' g' => St (fun i => i < g ∧ i ∉ ids [(p1, .obj none (mapIs (mpv kvSpot_ st)))]) H0 [(g + 1, .cells [.i j.2.1, .i j.2.2.1, .i j.2.2.2.1, .i j.2.2.2.2, .i a1.place, .i a1.credit]), (p1, .obj none (mapIs (mpv kvSpot_ st)))] H' g' ∧ coins_search_buys_j1 n rec a0 a1 st j.1 j.2.1 j.2.2.1 j.2.2.2.1 j.2.2.2.2 = some r) ?_ ?_
 ·rintro ⟨v1, v2, v3, v4, v5⟩ H g1 ⟨hS, hM⟩
  change wpA _ _ _ _ (Fr.of [(2, .ep [.ep (srchC a0.1 a0.2 p1)]), (3, .ptr (g + 1) 0), (5, .i v1)]) _ _
  replace hS : St (fun i => i < g ∧ i ∉ ids [(p1, .obj none (mapIs (mpv kvSpot_ st)))]) H0 [(g + 1, .cells [.i v2, .i v3, .i v4, .i v5, .i a1.place, .i a1.credit]), (p1, .obj none (mapIs (mpv kvSpot_ st)))] H g1 := hS
  replace hM : coins_search_buys_j1 n rec a0 a1 st v1 v2 v3 v4 v5 = some r := hM
  refine Sq ?_
  refine Rg 6 ?_
  refine o_fieldP (by decide) ty_fo90_2 rfl ?_
  refine o_load (v := .i a1.credit) 0 hS (by decide) rfl rfl .no (po ty_agg3 ty_sc3) ?_
  refine Om (.i v1) ?_
  refine o_min (v := .i (min a1.credit v1)) (by decide) rfl ?_
  refine o_fieldP (by decide) ty_fo90_2 rfl ?_
  refine o_store (v := .i (min a1.credit v1)) (ns := [.i (min a1.credit v1)]) (L' := [(g + 1, .cells [.i v2, .i v3, .i v4, .i v5, .i a1.place, .i (min a1.credit v1)]), (p1, .obj none (mapIs (mpv kvSpot_ st)))]) 0 hS rfl rfl .no rfl rfl ty_var3 nlb rfl fun H hS => ?_
  refine Ni ?_
  refine Ws ?_
  refine Sq ?_
  refine Sq ?_
  have hS0 := hS
  refine r_draw (n := 11) rfl (by kernel_rfl) ?_
  refine Olp (.ep (srchC a0.1 a0.2 p1)) ty_agg86 ty_sc86 ?_
  refine o_nilE (by decide) rfl ?_
  refine Of ((srchC a0.1 a0.2 p1)) ty_fo114_2 ?_
  refine Olp (.mp p1) ty_agg112 ty_sc112 ?_
  refine o_load (v := .agg [.i v2, .i v3, .i v4, .i v5, .i a1.place, .i (min a1.credit v1)]) 0 hS (by decide) rfl rfl (.st hS0 0 rfl (by omega)) (pg ty_agg90) ?_
  obtain ⟨x6, hx6, hM⟩ := bindE hM
  refine o_lookupOk (kv := kvSpot_) (ok := okSpot_) (M := st) (k := (⟨(⟨v2, v3, v4, v5⟩ : Bag_), a1.place, (min a1.credit v1)⟩ : Spot_)) (u := x6) 1 keys90 hS (by decide) rfl rfl rfl (.st hS0 1 rfl (by omega)) ty_map112 ty_mz112 hx6 ?_
  refine Om (.tup [.i x6, .b (mhas st (⟨(⟨v2, v3, v4, v5⟩ : Bag_), a1.place, (min a1.credit v1)⟩ : Spot_))]) ?_
  refine Ox (.i x6) ?_
  refine Ox (.b (mhas st (⟨(⟨v2, v3, v4, v5⟩ : Bag_), a1.place, (min a1.credit v1)⟩ : Spot_))) ?_
  refine Oa (.i x6) ?_
  refine Oa (.b (mhas st (⟨(⟨v2, v3, v4, v5⟩ : Bag_), a1.place, (min a1.credit v1)⟩ : Spot_))) ?_
  refine Ni ?_
  refine Ws ?_
  refine w_join (J := Bool) (fun j => [(2, .ep [.ep (srchC a0.1 a0.2 p1)]), (3, .ptr (g + 1) 0), (8, .i x6), (39, .b j)]) (fun j H' g' => St (fun i => i < g ∧ i ∉ ids [(p1, .obj none (mapIs (mpv kvSpot_ st)))]) H0 [(g + 1, .cells [.i v2, .i v3, .i v4, .i v5, .i a1.place, .i (min a1.credit v1)]), (p1, .obj none (mapIs (mpv kvSpot_ st)))] H' g' ∧ coins_search_buys_j2 n rec a0 a1 st v1 v2 v3 v4 v5 x6 j = some r) ?_ ?_
  ·rintro v7 H g2 ⟨hS, hM⟩
   change wpA _ _ _ _ (Fr.of [(2, .ep [.ep (srchC a0.1 a0.2 p1)]), (3, .ptr (g + 1) 0), (8, .i x6), (39, .b v7)]) _ _
   replace hS : St (fun i => i < g ∧ i ∉ ids [(p1, .obj none (mapIs (mpv kvSpot_ st)))]) H0 [(g + 1, .cells [.i v2, .i v3, .i v4, .i v5, .i a1.place, .i (min a1.credit v1)]), (p1, .obj none (mapIs (mpv kvSpot_ st)))] H g2 := hS
   replace hM : coins_search_buys_j2 n rec a0 a1 st v1 v2 v3 v4 v5 x6 v7 = some r := hM
   rcases bft v7 with hb8 | hb8
   ·replace hM := ifT hM hb8
    refine Ct hb8 ?_
    refine Sq ?_
    refine Rg 2 ?_
    refine Om (.i x6) ?_
    refine Oa (.i x6) ?_
    refine Ni ?_
    replace hS := hS.keep (L' := [(p1, .obj none (mapIs (mpv kvSpot_ st)))]) [false, true] rfl
    refine Ws ?_
    refine r_ret ?_
    refine r_then_ret ?_
    refine w_endS (x := .i x6) (f := fun r => .i r.1) (fd := fun r => [(p1, .obj none (mapIs (mpv kvSpot_ r.2)))]) (.inr rfl) ?_ (.refl _) (Option.some.inj hM) hS 0 rfl
    exact (res_one (res_tmp (x := .i x6) rfl))
   ·replace hM := ifF hM hb8
    refine Cf hb8 ?_
    refine r_skip ?_
    refine Ws ?_
    refine Sq ?_
    refine Rg 4 ?_
    refine o_alloc hS (by decide) ty_zero3 (by omega) fun H hS => ?_
    refine o_alloc hS (by decide) ty_zero4 (by omega) fun H hS => ?_
    refine o_store (v := .i 0) (ns := [.i 0]) (L' := [(g2 + 1, .cells [.b false]), (g2 + 0, .cells [.i 0]), (g + 1, .cells [.i v2, .i v3, .i v4, .i v5, .i a1.place, .i (min a1.credit v1)]), (p1, .obj none (mapIs (mpv kvSpot_ st)))]) 1 hS rfl rfl .no rfl rfl ty_var3 nlb rfl fun H hS => ?_
    refine o_store (v := .b true) (ns := [.b true]) (L' := [(g2 + 1, .cells [.b true]), (g2 + 0, .cells [.i 0]), (g + 1, .cells [.i v2, .i v3, .i v4, .i v5, .i a1.place, .i (min a1.credit v1)]), (p1, .obj none (mapIs (mpv kvSpot_ st)))]) 0 hS rfl rfl .no rfl rfl ty_var4 nlb rfl fun H hS => ?_
    refine Ni ?_
    refine Ws ?_
    refine Sq ?_
    refine Rg 4 ?_
    refine Olp (.ep (srchC a0.1 a0.2 p1)) ty_agg86 ty_sc86 ?_
    refine o_load (v := .agg [.i v2, .i v3, .i v4, .i v5, .i a1.place, .i (min a1.credit v1)]) 2 hS (by decide) rfl rfl .no (pg ty_agg90) ?_
    refine o_makeFunc (first := []) (cap := [.ep [.ep (srchC a0.1 a0.2 p1)], .ptr (g2 + 1) 0, .ptr (g2 + 0) 0]) (by decide) rfl rfl ?_
    obtain ⟨r9, hr9, hM⟩ := bindE hM
    have hndr9 := hS.nd_at (ns := [0, 1, 3]) (M := [(g2 + 1, .cells [.b true]), (g2 + 0, .cells [.i 0]), (p1, .obj none (mapIs (mpv kvSpot_ st)))]) (M' := [(g2 + 1, .cells [.b r9.2.1]), (g2 + 0, .cells [.i r9.2.2.1]), (p1, .obj none (mapIs (mpv kvSpot_ r9.2.2.2)))]) (.cons rfl (.cons rfl (.cons rfl .nil))) (by decide)
    have hncr9 := hS.nd_at (ns := [0, 1, 3]) (M := [(g2 + 1, .cells [.b true]), (g2 + 0, .cells [.i 0]), (p1, .obj none (mapIs (mpv kvSpot_ st)))]) (M' := [(g2 + 1, .cells [.b r9.2.1]), (g2 + 0, .cells [.i r9.2.2.1]), (p1, .obj none (mapIs (mpv kvSpot_ r9.2.2.2)))]) (.cons rfl (.cons rfl (.cons rfl .nil))) (by decide)
    refine o_hsat (bs := [.ep (srchC a0.1 a0.2 p1), .agg [.i v2, .i v3, .i v4, .i v5, .i a1.place, .i (min a1.credit v1)], .fn (.func 98) [] [.ep [.ep (srchC a0.1 a0.2 p1)], .ptr (g2 + 1) 0, .ptr (g2 + 0) 0]]) (M := [(g2 + 1, .cells [.b true]), (g2 + 0, .cells [.i 0]), (p1, .obj none (mapIs (mpv kvSpot_ st)))]) (M' := [(g2 + 1, .cells [.b r9.2.1]), (g2 + 0, .cells [.i r9.2.2.1]), (p1, .obj none (mapIs (mpv kvSpot_ r9.2.2.2)))]) (L' := [(g2 + 1, .cells [.b r9.2.1]), (g2 + 0, .cells [.i r9.2.2.1]), (g + 1, .cells [.i v2, .i v3, .i v4, .i v5, .i a1.place, .i (min a1.credit v1)]), (p1, .obj none (mapIs (mpv kvSpot_ r9.2.2.2)))]) [0, 1, 3] (.inl rfl) hS (by decide) rfl rfl ((W_coins_search_next (Lo := (fun (s : Bool × Int × (List (Spot_ × Int))) => [(g2 + 1, .cells [.b s.1]), (g2 + 0, .cells [.i s.2.1]), (p1, .obj none (mapIs (mpv kvSpot_ s.2.2)))]))  (fun _ _ => (kl_cells (kl_cells (kl_obj kl_nil)))) (fun _ => hndr9) (fun s => (inb_st (ic_cells (ci_cons (.inl (.inl (.v _))) ci_nil) (ic_cells (ci_cons (.inl (.inl (.v _))) ci_nil) (ic_obj ic_nil))) inb_nil)) (aF := (fun (x0 : List Int) (x1 : Spot_) (x2 : Int) s => coins_search_buys_c1 rec x0 x1 x2 a0 s)) (fun s H hH => (.fn _ _ _ ai_nil (ai_cons (.ep _ (ai_cons (.ep _ (ai_cons (show Go.AM.Pure _ from .v _).inH (ai_cons (show Go.AM.Pure _ from .sl _ _ (pures_map (fun x => (pl_cons (.v _) pl_nil)))).inH (ai_cons (show Go.AM.Pure _ from .sl _ _ (pures_map (fun x => (pl_cons (.v _) pl_nil)))).inH (ai_cons (show Go.AM.Pure _ from pure_fnB _).inH (ai_cons (in_mp hH 2 rfl) ai_nil)))))) ai_nil)) (ai_cons (in_ptr hH 0 rfl) (ai_cons (in_ptr hH 1 rfl) ai_nil))))) rfl (fun h => csat_hv (W_coins_search_buys_c1 (p1 := g2 + 1)  (p2 := g2 + 0)  (p3 := p1)  hncr9 hrec h)) hr9).le (.k (.k (.k .nil)))) (.cons rfl (.cons rfl (.cons rfl .nil))) rfl (by omega) fun H hS => ?_
    refine Ni ?_
    replace hS := hS.keep (L' := [(g2 + 0, .cells [.i r9.2.2.1]), (g + 1, .cells [.i v2, .i v3, .i v4, .i v5, .i a1.place, .i (min a1.credit v1)]), (p1, .obj none (mapIs (mpv kvSpot_ r9.2.2.2)))]) [false, true, true, true] rfl
    refine Ws ?_
    refine Sq ?_
    have hS0 := hS
    refine r_draw (n := 7) rfl (by kernel_rfl) ?_
    refine Olp (.ep (srchC a0.1 a0.2 p1)) ty_agg86 ty_sc86 ?_
    refine o_nilE (by decide) rfl ?_
    refine Of ((srchC a0.1 a0.2 p1)) ty_fo114_2 ?_
    refine Olp (.mp p1) ty_agg112 ty_sc112 ?_
    refine o_load (v := .agg [.i v2, .i v3, .i v4, .i v5, .i a1.place, .i (min a1.credit v1)]) 1 hS (by decide) rfl rfl (.st hS0 1 rfl (by omega)) (pg ty_agg90) ?_
    refine o_load (v := .i r9.2.2.1) 0 hS (by decide) rfl rfl (.st hS0 0 rfl (by omega)) (po ty_agg3 ty_sc3) ?_
    obtain ⟨l10, hl10, hM⟩ := bindE hM
    refine o_mapUpdate (kv := kvSpot_) (ok := okSpot_) (M := r9.2.2.2) (k := (⟨(⟨v2, v3, v4, v5⟩ : Bag_), a1.place, (min a1.credit v1)⟩ : Spot_)) (v := r9.2.2.1) (M' := l10) (L' := [(g2 + 0, .cells [.i r9.2.2.1]), (g + 1, .cells [.i v2, .i v3, .i v4, .i v5, .i a1.place, .i (min a1.credit v1)]), (p1, .obj none (mapIs (mpv kvSpot_ l10)))]) 2 keys90 (.inr (by kernel_rfl)) hS rfl rfl rfl rfl ty_map112 ty_mz112 hl10 rfl fun H hS => ?_
    refine Ni ?_
    replace hS := hS.keep (L' := [(g2 + 0, .cells [.i r9.2.2.1]), (p1, .obj none (mapIs (mpv kvSpot_ l10)))]) [true, false, true] rfl
    refine Ws ?_
    refine Sq ?_
    refine Rg 2 ?_
    refine o_load (v := .i r9.2.2.1) 0 hS (by decide) rfl rfl .no (po ty_agg3 ty_sc3) ?_
    refine Oa (.i r9.2.2.1) ?_
    refine Ni ?_
    replace hS := hS.keep (L' := [(p1, .obj none (mapIs (mpv kvSpot_ l10)))]) [false, true] rfl
    refine Ws ?_
    refine r_ret ?_
    refine w_endS (x := .i r9.2.2.1) (f := fun r => .i r.1) (fd := fun r => [(p1, .obj none (mapIs (mpv kvSpot_ r.2)))]) (.inr rfl) ?_ (.refl _) (Option.some.inj hM) hS 0 rfl
    exact (res_one (res_tmp (x := .i r9.2.2.1) rfl))
  ·refine Rg 5 ?_
   refine Om (.b (mhas st (⟨(⟨v2, v3, v4, v5⟩ : Bag_), a1.place, (min a1.credit v1)⟩ : Spot_))) ?_
   refine Om (.b (mhas st (⟨(⟨v2, v3, v4, v5⟩ : Bag_), a1.place, (min a1.credit v1)⟩ : Spot_))) ?_
   rcases bft (mhas st (⟨(⟨v2, v3, v4, v5⟩ : Bag_), a1.place, (min a1.credit v1)⟩ : Spot_)) with hb11 | hb11
   ·replace hM := ifT hM hb11
    refine On (want := false) hb11 ?_
    refine On (want := false) hb11 ?_
    refine Pt (.b true) hb11 ?_
    refine Ni ?_
    exact w_goto true (.k (.k (.k (.k .nil)))) ⟨(hS.keep [true, true] rfl).up (by omega), hM⟩
   ·replace hM := ifF hM hb11
    refine Oy (want := false) hb11 ?_
    refine Om (.i v1) ?_
    refine Oy (want := false) hb11 ?_
    refine Oi (.b (v1 == 0)) ?_
    refine Pf (.b (v1 == 0)) hb11 ?_
    refine Ni ?_
    exact w_goto (v1 == 0) (.k (.k (.k (.k .nil)))) ⟨(hS.keep [true, true] rfl).up (by omega), hM⟩
 ·refine Sq ?_
  refine Rg 3 ?_
  refine o_fieldP (by decide) ty_fo90_0 rfl ?_
  refine o_load (v := .agg (Bag_.cells a1.left)) 0 hS (by decide) rfl rfl .no (pg ty_agg88) ?_
  refine Om (.i 0) ?_
  refine Ni ?_
  refine Ws ?_
  refine r_block ?_
  refine w_loop (V := Int × Int) (fun v => [(2, .ep [.ep (srchC a0.1 a0.2 p1)]), (3, .ptr (g + 1) 0), (5, .i v.1), (13, .agg (Bag_.cells a1.left)), (14, .i v.2)]) (fun v m3 H' g' => St (fun i => i < g ∧ i ∉ ids [(p1, .obj none (mapIs (mpv kvSpot_ st)))]) H0 [(g + 1, .cells (Spot_.cells a1)), (p1, .obj none (mapIs (mpv kvSpot_ st)))] H' g' ∧ coins_search_buys_l1 n rec a0 a1 st m3 v.1 v.2 = some r) (n := n) (0, 0) (.k (.k (.k (.k (.k .nil))))) ⟨(hS.keep [true, true] rfl).up (by omega), hM⟩ ?_
  rintro ⟨v12, v13⟩ m3 H g3 ⟨hS, hM⟩
  obtain _ | m3 := m3
  ·exact nomatch (show none = some _ from hM)
  change wpA _ _ _ _ (Fr.of [(2, .ep [.ep (srchC a0.1 a0.2 p1)]), (3, .ptr (g + 1) 0), (5, .i v12), (13, .agg (Bag_.cells a1.left)), (14, .i v13)]) _ _
  replace hS : St (fun i => i < g ∧ i ∉ ids [(p1, .obj none (mapIs (mpv kvSpot_ st)))]) H0 [(g + 1, .cells (Spot_.cells a1)), (p1, .obj none (mapIs (mpv kvSpot_ st)))] H g3 := hS
  replace hM : coins_search_buys_l1_b n rec a0 a1 st (coins_search_buys_l1 n rec a0 a1 st m3) v12 v13 = some r := hM
  refine Sq ?_
  refine Rg 1 ?_
  refine Oi (.b (decide (v13 < 4))) ?_
  refine Ni ?_
  refine Ws ?_
  refine Sq ?_
  rcases bft (decide (v13 < 4)) with hb14 | hb14
  ·replace hM := ifT hM hb14
   refine Ct hb14 ?_
   refine r_skip ?_
   refine Ws ?_
   refine Sq ?_
   refine r_block ?_
   refine Sq ?_
   refine Rg 2 ?_
   obtain ⟨x15, hx15, hM⟩ := bindE hM
   refine o_indexA (v := .i x15) (cs := (Bag_.cells a1.left)) (z := v13) (by decide) rfl rfl ty_arx88 (idx_lt hx15).1 (idx_ltn hx15) (part_ixA (xs := ([a1.left.c0, a1.left.c1, a1.left.c2, a1.left.c3] : List Int)) ty_agg3 ty_sc3 rfl hx15) ?_
   refine Oa (.i x15) ?_
   refine Ni ?_
   refine Ws ?_
   refine Rg 4 ?_
   refine Om (.i v12) ?_
   refine Om (.i x15) ?_
   refine Oi (.i (w64 (v12 + x15))) ?_
   refine Oa (.i (w64 (v12 + x15))) ?_
   refine Ni ?_
   refine r_blk_normal ?_
   refine Ws ?_
   refine Rg 2 ?_
   refine Oi (.i (w64 (v13 + 1))) ?_
   refine Om (.i (w64 (v13 + 1))) ?_
   refine Ni ?_
   exact w_round (w64 (v12 + x15), w64 (v13 + 1)) (Nat.lt_succ_self _) (.k (.k (.k (.k (.k .nil))))) ⟨(hS.keep [true, true] rfl).up (by omega), hM⟩
  ·replace hM := ifF hM hb14
   refine Cf hb14 ?_
   refine r_exit ?_
   refine r_then_exit ?_
   refine w_round_exit ?_
   refine r_blk_exit ?_
   exact w_goto (v12, a1.left.c0, a1.left.c1, a1.left.c2, a1.left.c3) (.k (.k (.k .nil))) ⟨(hS.keep [true, true] rfl).up (by omega), hM⟩
theorem W_coins_search_buys {p1 : Nat} (hnd : [p1].Nodup) : ∀ {n : Nat} {a0 : Wheel_ × Bool} {a1 : Spot_} {st : (List (Spot_ × Int))} {r : Int × (List (Spot_ × Int))}, coins_search_buys n a0 a1 st = some r → HSat Try.prog 66 [.ep (srchC a0.1 a0.2 p1), .agg (Spot_.cells a1)] [(p1, .obj none (mapIs (mpv kvSpot_ st)))] (.i r.1) [(p1, .obj none (mapIs (mpv kvSpot_ r.2)))]
 | 0, _, _, _, _, h => nomatch (show none = some _ from h)
 | n + 1, _, _, _, _, h => W_coins_search_buys_b hnd (n := n) (rec := coins_search_buys n) (fun h => W_coins_search_buys hnd h) h
theorem W_coins_Most {n : Nat} {a0 : Wheel} {a1 : List Int} {r : Int × Int} (hM : coins_Most n a0 a1 = some r) : PureSat Try.prog 25 [.agg (Wheel.cells a0), .sl .no 1 (a1.map cI)] (.tup [.i r.1, .i r.2]) := by
 refine pure_of_wp mixed Try.func25 rfl (by decide) Try.ntmps25 (by simp) ?pure fun H0 g hf => ?_
 case pure => exact .tup _ (pl_cons (.v _) (pl_cons (.v _) pl_nil))
 rw [frame0_of]
 change wpA _ _ _ _ (Fr.of [(0, .agg (Wheel.cells a0)), (1, .sl .no 1 (a1.map cI))]) H0 g
 have hS := St.start hf
 refine Sq ?_
 refine Rg 3 ?_
 refine o_box (v := .agg (Wheel.cells a0)) (cs := (Wheel.cells a0)) hS (by decide) rfl rfl (by omega) fun H hS => ?_
 refine Oa (.i 0) ?_
 refine Oa (.i 0) ?_
 refine Ni ?_
 refine w_iceE (L' := []) 0 2 hS rfl rfl rfl fun H hS => ?_
 refine Ws ?_
 refine Sq ?_
 refine Rg 11 ?_
 refine Olg (.agg (Wheel.cells a0)) ty_agg24 ?_
 refine Om (.sl .no 1 (a1.map cI)) ?_
 obtain ⟨r1, hr1, hM⟩ := bindE hM
 rcases bft r1.1.isSome with hb2 | hb2
 ·replace hM := ifT hM hb2
  obtain ⟨x3, hx3, hM⟩ := bindE hM
  refine o_newAt (bs := [.agg (Wheel.cells a0), .sl .no 1 (a1.map cI), .fn (.func 65) [] []]) (.inl rfl) hS (by decide) rfl rfl ((W_coins_seek_some (r := r1.2) (by rw [← hx3]; exact hr1)).le (.k (.k (.k .nil)))) (by omega) fun H hS hU => ?_
  refine Om (.tup [.ep (srchC x3 true (g + 3 + 11 + 19)), .agg (Spot_.cells r1.2.1), .i r1.2.2]) ?_
  refine Ox (.ep (srchC x3 true (g + 3 + 11 + 19))) ?_
  refine Ox (.agg (Spot_.cells r1.2.1)) ?_
  refine Ox (.i r1.2.2) ?_
  refine o_allocU hS hU (by decide) ty_zero90 (by omega) (by omega) (by omega) fun H hS hU => ?_
  refine Oa (.ep (srchC x3 true (g + 3 + 11 + 19))) ?_
  refine o_store (v := .agg (Spot_.cells r1.2.1)) (ns := (Spot_.cells r1.2.1)) (L' := [(g + 3 + 7, .cells (Spot_.cells r1.2.1)), (g + 3 + 11 + 19, .obj none (mapIs (mpv kvSpot_ ([] : List (Spot_ × Int)))))]) 0 hS rfl rfl .no rfl rfl ty_var90 nlb rfl fun H hS => ?_
  refine Oa (.i r1.2.2) ?_
  refine Ni ?_
  refine w_iceE (L' := [(g + 3 + 11 + 19, .obj none (mapIs (mpv kvSpot_ ([] : List (Spot_ × Int)))))]) 0 7 hS rfl rfl rfl fun H hS => ?_
  refine Ws ?_
  refine Sq ?_
  refine Sq ?_
  refine Rg 2 ?_
  refine Om (.i r1.2.2) ?_
  refine Oi (.b (r1.2.2 != 0)) ?_
  refine Ni ?_
  refine Ws ?_
  rcases bft (r1.2.2 != 0) with hb4 | hb4
  ·replace hM := ifT hM hb4
   refine Ct hb4 ?_
   refine Sq ?_
   refine Rg 3 ?_
   refine Om (.i r1.2.2) ?_
   refine Oa (.i 0) ?_
   refine Oa (.i r1.2.2) ?_
   refine Ni ?_
   replace hS := hS.keep (L' := []) [false] rfl
   refine Ws ?_
   refine r_ret ?_
   refine r_then_ret ?_
   refine w_end (x := .tup [.i 0, .i r1.2.2]) (f := fun r => .tup [.i r.1, .i r.2]) (.inr rfl) ?_ (.refl _) (Option.some.inj hM) hS
   exact (res_two (res_tmp (x := .i 0) rfl) (res_tmp (x := .i r1.2.2) rfl))
  ·replace hM := ifF hM hb4
   refine Cf hb4 ?_
   refine r_skip ?_
   refine Ws ?_
   refine Sq ?_
   refine Rg 5 ?_
   refine Om (.ep (srchC x3 true (g + 3 + 11 + 19))) ?_
   refine Olg (.agg (Spot_.cells r1.2.1)) ty_agg90 ?_
   obtain ⟨r5, hr5, hM⟩ := bindE hM
   have hndr5 := hS.nd_at (ns := [0]) (M := [(g + 3 + 11 + 19, .obj none (mapIs (mpv kvSpot_ ([] : List (Spot_ × Int)))))]) (M' := [(g + 3 + 11 + 19, .obj none (mapIs (mpv kvSpot_ r5.2)))]) (.cons rfl .nil) (by decide)
   refine o_hsat (bs := [.ep (srchC x3 true (g + 3 + 11 + 19)), .agg (Spot_.cells r1.2.1)]) (M := [(g + 3 + 11 + 19, .obj none (mapIs (mpv kvSpot_ ([] : List (Spot_ × Int)))))]) (M' := [(g + 3 + 11 + 19, .obj none (mapIs (mpv kvSpot_ r5.2)))]) (L' := [(g + 3 + 11 + 19, .obj none (mapIs (mpv kvSpot_ r5.2)))]) [0] (.inl rfl) hS (by decide) rfl rfl ((W_coins_search_buys (p1 := g + 3 + 11 + 19) hndr5 hr5).le (.k (.k .nil))) (.cons rfl .nil) rfl (by omega) fun H hS => ?_
   refine Oa (.i r5.1) ?_
   refine Oa (.i 0) ?_
   refine Ni ?_
   replace hS := hS.keep (L' := []) [false] rfl
   refine Ws ?_
   refine r_ret ?_
   refine w_end (x := .tup [.i r5.1, .i 0]) (f := fun r => .tup [.i r.1, .i r.2]) (.inr rfl) ?_ (.refl _) (Option.some.inj hM) hS
   exact (res_two (res_tmp (x := .i r5.1) rfl) (res_tmp (x := .i 0) rfl))
 ·replace hM := ifF hM hb2
  have hb2' : r1.1 = none := by rw [Option.isSome_eq_false_iff, Option.isNone_iff_eq_none] at hb2; exact hb2
  refine o_call (bs := [.agg (Wheel.cells a0), .sl .no 1 (a1.map cI), .fn (.func 65) [] []]) (by decide) rfl rfl ((W_coins_seek_none (r := r1.2) (by rw [← hb2']; exact hr1)).le (.k (.k (.k .nil)))) ?_
  refine Om (.tup [.v (.pointer none), .agg (Spot_.cells r1.2.1), .i r1.2.2]) ?_
  refine Ox (.v (.pointer none)) ?_
  refine Ox (.agg (Spot_.cells r1.2.1)) ?_
  refine Ox (.i r1.2.2) ?_
  refine o_alloc hS (by decide) ty_zero90 (by omega) fun H hS => ?_
  refine Oa (.v (.pointer none)) ?_
  refine o_store (v := .agg (Spot_.cells r1.2.1)) (ns := (Spot_.cells r1.2.1)) (L' := [(g + 3 + 7, .cells (Spot_.cells r1.2.1))]) 0 hS rfl rfl .no rfl rfl ty_var90 nlb rfl fun H hS => ?_
  refine Oa (.i r1.2.2) ?_
  refine Ni ?_
  refine w_iceE (L' := []) 0 7 hS rfl rfl rfl fun H hS => ?_
  refine Ws ?_
  refine Sq ?_
  refine Sq ?_
  refine Rg 2 ?_
  refine Om (.i r1.2.2) ?_
  refine Oi (.b (r1.2.2 != 0)) ?_
  refine Ni ?_
  refine Ws ?_
  rcases bft (r1.2.2 != 0) with hb6 | hb6
  ·replace hM := ifT hM hb6
   refine Ct hb6 ?_
   refine Sq ?_
   refine Rg 3 ?_
   refine Om (.i r1.2.2) ?_
   refine Oa (.i 0) ?_
   refine Oa (.i r1.2.2) ?_
   refine Ni ?_
   refine Ws ?_
   refine r_ret ?_
   refine r_then_ret ?_
   refine w_end (x := .tup [.i 0, .i r1.2.2]) (f := fun r => .tup [.i r.1, .i r.2]) (.inr rfl) ?_ (.refl _) (Option.some.inj hM) hS
   exact (res_two (res_tmp (x := .i 0) rfl) (res_tmp (x := .i r1.2.2) rfl))
  ·replace hM := ifF hM hb6
   refine Cf hb6 ?_
   refine r_skip ?_
   refine Ws ?_
   refine Sq ?_
   refine Rg 5 ?_
   refine Om (.v (.pointer none)) ?_
   refine Olg (.agg (Spot_.cells r1.2.1)) ty_agg90 ?_
   exact nomatch (show none = some _ from hM)
theorem W_slices_IndexFunc_apiSeen {S : Type} {Lo : S → BL} (hk : ∀ s s', KinL (Lo s) (Lo s')) (hnd : ∀ s, (ids (Lo s)).Nodup) (hin : ∀ s, InB In (Lo s)) {aF : Seen → S → Option (Bool × S)} {f0 : AV} (hF : ∀ s H, Has H (Lo s) → In H f0) (h0 : cellsOf f0 = some [f0]) (hf : ∀ {x0 : Seen} {s : S} {r : Bool × S}, aF x0 s = some r → CSat Try.prog f0 [.agg [.i x0.Kind, .i x0.Plays]] (Lo s) (.b r.1) (Lo r.2)) {n : Nat} {a0 : List Seen} {st : S} {r : Int × S} (hM : slices_IndexFunc_apiSeen n aF a0 st = some r) : HSat Try.prog 124 [.sl .no 2 (a0.map Seen.cells), f0] (Lo st) (.i r.1) (Lo r.2) := by
 have hnd0 : ∀ s, (ids (Lo s)).Nodup := fun s => hnd s
 refine hsat_of_wp mixed Try.func124 rfl (by decide) Try.ntmps124 (by simp) (hk _ _) (hnd st) ?pure ?cells fun H0 g hf_ hp => ?_
 case pure => exact fun H _ => (show Go.AM.Pure _ from .v _).inH
 case cells => exact hin _
 rw [frame0_of]
 change wpA _ _ _ _ (Fr.of [(0, .sl .no 2 (a0.map Seen.cells)), (1, f0)]) H0 g
 have hS := St.startH (L := ([] ++ Lo st)) hf_ (hnd st) hp
 replace hS : St (fun i => i < g ∧ i ∉ ids (Lo st)) H0 ([] ++ Lo st) H0 g := hS
 refine Sq ?_
 refine Rg 1 ?_
 refine Oa (.i 0) ?_
 refine Ni ?_
 refine Ws ?_
 refine w_join (J := S) (fun j => []) (fun j H' g' => St (fun i => i < g ∧ i ∉ ids (Lo st)) H0 ([] ++ Lo j) H' g' ∧ slices_IndexFunc_apiSeen_j1 j = some r) ?_ ?_
 ·rintro v1 H g1 ⟨hS, hM⟩
  change wpA _ _ _ _ (Fr.of []) _ _
  replace hS : St (fun i => i < g ∧ i ∉ ids (Lo st)) H0 ([] ++ Lo v1) H g1 := hS
  replace hM : slices_IndexFunc_apiSeen_j1 v1 = some r := hM
  refine Sq ?_
  refine Rg 1 ?_
  refine Oa (.i (-1)) ?_
  refine Ni ?_
  refine Ws ?_
  refine r_ret ?_
  refine w_endS (x := .i (-1)) (f := fun r => .i r.1) (fd := fun r => (Lo r.2)) (.inr rfl) ?_ (.refl _) (Option.some.inj hM) hS 0 rfl
  exact (res_one (res_tmp (x := .i (-1)) rfl))
 ·refine Sq ?_
  refine Rg 3 ?_
  refine Om (.sl .no 2 (a0.map Seen.cells)) ?_
  refine o_len (n := a0.length) (by decide) rfl (List.length_map _) ty_isl45 ?_
  refine Om (.i 0) ?_
  refine Ni ?_
  refine Ws ?_
  refine r_block ?_
  refine w_loop (V := Int × S) (fun v => [(0, .sl .no 2 (a0.map Seen.cells)), (1, f0), (7, .i (a0.length : Int)), (8, .i v.1)]) (fun v m3 H' g' => St (fun i => i < g ∧ i ∉ ids (Lo st)) H0 ([] ++ Lo v.2) H' g' ∧ slices_IndexFunc_apiSeen_l1 a0 aF m3 v.1 v.2 = some r) (n := n) (0, st) (.k (.k (.k (.k .nil)))) ⟨(hS.keep [] rfl).up (by omega), hM⟩ ?_
  rintro ⟨v3, v4⟩ m3 H g3 ⟨hS, hM⟩
  obtain _ | m3 := m3
  ·exact nomatch (show none = some _ from hM)
  change wpA _ _ _ _ (Fr.of [(0, .sl .no 2 (a0.map Seen.cells)), (1, f0), (7, .i (a0.length : Int)), (8, .i v3)]) _ _
  replace hS : St (fun i => i < g ∧ i ∉ ids (Lo st)) H0 ([] ++ Lo v4) H g3 := hS
  replace hM : slices_IndexFunc_apiSeen_l1_b a0 aF (slices_IndexFunc_apiSeen_l1 a0 aF m3) v3 v4 = some r := hM
  refine Sq ?_
  refine Rg 1 ?_
  refine Oi (.b (decide (v3 < (a0.length : Int)))) ?_
  refine Ni ?_
  refine Ws ?_
  refine Sq ?_
  rcases bft (decide (v3 < (a0.length : Int))) with hb5 | hb5
  ·replace hM := ifT hM hb5
   refine Ct hb5 ?_
   refine r_skip ?_
   refine Ws ?_
   refine Sq ?_
   refine r_block ?_
   refine Sq ?_
   refine Rg 2 ?_
   refine Om (.i v3) ?_
   refine Oa (.i v3) ?_
   refine Ni ?_
   refine Ws ?_
   refine Sq ?_
   refine Rg 6 ?_
   refine Om (f0) ?_
   refine Om (.sl .no 2 (a0.map Seen.cells)) ?_
   refine Om (.i v3) ?_
   obtain ⟨x6, hx6, hM⟩ := bindE hM
   refine o_index (xs := a0) (f := Seen.cells) (z := v3) (u := x6) (by decide) rfl rfl ty_es45 hx6 ?_
   refine Olg (.agg [.i x6.Kind, .i x6.Plays]) ty_agg50 ?_
   obtain ⟨r7, hr7, hM⟩ := bindE hM
   replace hS : St (fun i => i < g ∧ i ∉ ids (Lo st)) H0 ([] ++ Lo v4) _ _ := hS
   refine o_state (bs := [.agg [.i x6.Kind, .i x6.Plays]]) (.inl rfl) hS (by decide) rfl rfl ((hf hr7).le (.k .nil)) (hk _ _).ids (by omega) fun H hS => ?_
   refine Ni ?_
   refine Ws ?_
   rcases bft r7.1 with hb8 | hb8
   ·replace hM := ifT hM hb8
    refine Ct hb8 ?_
    refine Sq ?_
    refine Rg 2 ?_
    refine Om (.i v3) ?_
    refine Oa (.i v3) ?_
    refine Ni ?_
    refine Ws ?_
    refine r_ret ?_
    refine r_blk_ret ?_
    refine r_then_ret ?_
    refine w_round_ret ?_
    refine r_blk_ret ?_
    refine w_goto_ret ?_
    refine w_endS (x := .i v3) (f := fun r => .i r.1) (fd := fun r => (Lo r.2)) (.inr rfl) ?_ (.refl _) (Option.some.inj hM) hS 0 rfl
    exact (res_one (res_tmp (x := .i v3) rfl))
   ·replace hM := ifF hM hb8
    refine Cf hb8 ?_
    refine r_skip ?_
    refine r_blk_normal ?_
    refine Ws ?_
    refine Rg 2 ?_
    refine Oi (.i (w64 (v3 + 1))) ?_
    refine Om (.i (w64 (v3 + 1))) ?_
    refine Ni ?_
    exact w_round (w64 (v3 + 1), r7.2) (Nat.lt_succ_self _) (.k (.k (.k (.k .nil)))) ⟨(hS.keep [] rfl).up (by omega), hM⟩
  ·replace hM := ifF hM hb5
   refine Cf hb5 ?_
   refine r_exit ?_
   refine r_then_exit ?_
   refine w_round_exit ?_
   refine r_blk_exit ?_
   exact w_goto v4 .nil ⟨(hS.keep [] rfl).up (by omega), hM⟩
theorem W_slices_ContainsFunc_apiSeen {S : Type} {Lo : S → BL} (hk : ∀ s s', KinL (Lo s) (Lo s')) (hnd : ∀ s, (ids (Lo s)).Nodup) (hin : ∀ s, InB In (Lo s)) {aF : Seen → S → Option (Bool × S)} {f0 : AV} (hF : ∀ s H, Has H (Lo s) → In H f0) (h0 : cellsOf f0 = some [f0]) (hf : ∀ {x0 : Seen} {s : S} {r : Bool × S}, aF x0 s = some r → CSat Try.prog f0 [.agg [.i x0.Kind, .i x0.Plays]] (Lo s) (.b r.1) (Lo r.2)) {n : Nat} {a0 : List Seen} {st : S} {r : Bool × S} (hM : slices_ContainsFunc_apiSeen n aF a0 st = some r) : HSat Try.prog 110 [.sl .no 2 (a0.map Seen.cells), f0] (Lo st) (.b r.1) (Lo r.2) := by
 have hnd0 : ∀ s, (ids (Lo s)).Nodup := fun s => hnd s
 refine hsat_of_wp mixed Try.func110 rfl (by decide) Try.ntmps110 (by simp) (hk _ _) (hnd st) ?pure ?cells fun H0 g hf_ hp => ?_
 case pure => exact fun H _ => (show Go.AM.Pure _ from .v _).inH
 case cells => exact hin _
 rw [frame0_of]
 change wpA _ _ _ _ (Fr.of [(0, .sl .no 2 (a0.map Seen.cells)), (1, f0)]) H0 g
 have hS := St.startH (L := ([] ++ Lo st)) hf_ (hnd st) hp
 replace hS : St (fun i => i < g ∧ i ∉ ids (Lo st)) H0 ([] ++ Lo st) H0 g := hS
 refine Sq ?_
 refine Rg 1 ?_
 refine Oa (.b false) ?_
 refine Ni ?_
 refine Ws ?_
 refine Sq ?_
 refine Rg 5 ?_
 refine Om (.sl .no 2 (a0.map Seen.cells)) ?_
 refine Om (f0) ?_
 obtain ⟨r1, hr1, hM⟩ := bindE hM
 replace hS : St (fun i => i < g ∧ i ∉ ids (Lo st)) H0 ([] ++ Lo st) _ _ := hS
 refine o_stateH (bs := [.sl .no 2 (a0.map Seen.cells), f0]) (.inl rfl) hS (by decide) rfl rfl ((W_slices_IndexFunc_apiSeen (Lo := Lo)  hk hnd0 hin (aF := aF) hF h0 hf hr1).le (.k (.k .nil))) (hk _ _).ids (by omega) fun H hS => ?_
 refine Oi (.b (decide (r1.1 ≥ 0))) ?_
 refine Oa (.b (decide (r1.1 ≥ 0))) ?_
 refine Ni ?_
 refine Ws ?_
 refine r_ret ?_
 refine w_endS (x := .b (decide (r1.1 ≥ 0))) (f := fun r => .b r.1) (fd := fun r => (Lo r.2)) (.inr rfl) ?_ (.refl _) (Option.some.inj hM) hS 0 rfl
 exact (res_one (res_tmp (x := .b (decide (r1.1 ≥ 0))) rfl))
theorem W_coins_all_apiSeen_c1 {S : Type} {Lo : S → BL} (hk : ∀ s s', KinL (Lo s) (Lo s')) (hnd : ∀ s, (ids (Lo s)).Nodup) (hin : ∀ s, InB In (Lo s)) {aF : Seen → S → Option (Bool × S)} {f0 : AV} (hF : ∀ s H, Has H (Lo s) → In H f0) (h0 : cellsOf f0 = some [f0]) (hf : ∀ {x0 : Seen} {s : S} {r : Bool × S}, aF x0 s = some r → CSat Try.prog f0 [.agg [.i x0.Kind, .i x0.Plays]] (Lo s) (.b r.1) (Lo r.2)) {a0 : Seen} {st : S} {r : Bool × S} (hM : coins_all_apiSeen_c1 aF a0 st = some r) : HSat Try.prog 111 [.agg [.i a0.Kind, .i a0.Plays], .ep [f0]] (Lo st) (.b r.1) (Lo r.2) := by
 have hnd0 : ∀ s, (ids (Lo s)).Nodup := fun s => hnd s
 refine hsat_of_wp mixed Try.func111 rfl (by decide) Try.ntmps111 (by simp) (hk _ _) (hnd st) ?pure ?cells fun H0 g hf_ hp => ?_
 case pure => exact fun H _ => (show Go.AM.Pure _ from .v _).inH
 case cells => exact hin _
 rw [frame0_of]
 change wpA _ _ _ _ (Fr.of [(0, .agg [.i a0.Kind, .i a0.Plays]), (1, .ep [f0])]) H0 g
 have hS := St.startH (L := ([] ++ Lo st)) hf_ (hnd st) hp
 replace hS : St (fun i => i < g ∧ i ∉ ids (Lo st)) H0 ([] ++ Lo st) H0 g := hS
 refine Sq ?_
 refine Rg 2 ?_
 refine o_box (v := .agg [.i a0.Kind, .i a0.Plays]) (cs := [.i a0.Kind, .i a0.Plays]) hS (by decide) rfl rfl (by omega) fun H hS => ?_
 refine Oa (.b false) ?_
 refine Ni ?_
 refine w_iceE (L' := ([] ++ Lo st)) 0 2 hS rfl rfl rfl fun H hS => ?_
 refine Ws ?_
 refine Sq ?_
 refine Rg 5 ?_
 refine Olp (f0) ty_agg127 ty_sc127 ?_
 refine Olg (.agg [.i a0.Kind, .i a0.Plays]) ty_agg50 ?_
 obtain ⟨r1, hr1, hM⟩ := bindE hM
 replace hS : St (fun i => i < g ∧ i ∉ ids (Lo st)) H0 ([] ++ Lo st) _ _ := hS
 refine o_state (bs := [.agg [.i a0.Kind, .i a0.Plays]]) (.inl rfl) hS (by decide) rfl rfl ((hf hr1).le (.k .nil)) (hk _ _).ids (by omega) fun H hS => ?_
 refine o_not (e := r1.1) (by decide) rfl ?_
 refine Oa (.b (!r1.1)) ?_
 refine Ni ?_
 refine Ws ?_
 refine r_ret ?_
 refine w_endS (x := .b (!r1.1)) (f := fun r => .b r.1) (fd := fun r => (Lo r.2)) (.inr rfl) ?_ (.refl _) (Option.some.inj hM) hS 0 rfl
 exact (res_one (res_tmp (x := .b (!r1.1)) rfl))
theorem W_coins_all_apiSeen {S : Type} {Lo : S → BL} (hk : ∀ s s', KinL (Lo s) (Lo s')) (hnd : ∀ s, (ids (Lo s)).Nodup) (hin : ∀ s, InB In (Lo s)) {aF : Seen → S → Option (Bool × S)} {f0 : AV} (hF : ∀ s H, Has H (Lo s) → In H f0) (h0 : cellsOf f0 = some [f0]) (hf : ∀ {x0 : Seen} {s : S} {r : Bool × S}, aF x0 s = some r → CSat Try.prog f0 [.agg [.i x0.Kind, .i x0.Plays]] (Lo s) (.b r.1) (Lo r.2)) {n : Nat} {a0 : List Seen} {st : S} {r : Bool × S} (hM : coins_all_apiSeen n aF a0 st = some r) : HSat Try.prog 100 [.sl .no 2 (a0.map Seen.cells), f0] (Lo st) (.b r.1) (Lo r.2) := by
 have hnd0 : ∀ s, (ids (Lo s)).Nodup := fun s => hnd s
 refine hsat_of_wp mixed Try.func100 rfl (by decide) Try.ntmps100 (by simp) (hk _ _) (hnd st) ?pure ?cells fun H0 g hf_ hp => ?_
 case pure => exact fun H _ => (show Go.AM.Pure _ from .v _).inH
 case cells => exact hin _
 rw [frame0_of]
 change wpA _ _ _ _ (Fr.of [(0, .sl .no 2 (a0.map Seen.cells)), (1, f0)]) H0 g
 have hS := St.startH (L := ([] ++ Lo st)) hf_ (hnd st) hp
 replace hS : St (fun i => i < g ∧ i ∉ ids (Lo st)) H0 ([] ++ Lo st) H0 g := hS
 refine Sq ?_
 refine Rg 2 ?_
 refine o_box (v := f0) (cs := [f0]) hS (by decide) rfl h0 (by omega) fun H hS => ?_
 refine Oa (.b false) ?_
 refine Ni ?_
 refine w_iceE (L' := ([] ++ Lo st)) 0 3 hS rfl rfl rfl fun H hS => ?_
 refine Ws ?_
 refine w_join (J := Bool × S) (fun j => [(4, .b j.1)]) (fun j H' g' => St (fun i => i < g ∧ i ∉ ids (Lo st)) H0 ([] ++ Lo j.2) H' g' ∧ coins_all_apiSeen_j1 j.1 j.2 = some r) ?_ ?_
 ·rintro ⟨v1, v2⟩ H g1 ⟨hS, hM⟩
  change wpA _ _ _ _ (Fr.of [(4, .b v1)]) _ _
  replace hS : St (fun i => i < g ∧ i ∉ ids (Lo st)) H0 ([] ++ Lo v2) H g1 := hS
  replace hM : coins_all_apiSeen_j1 v1 v2 = some r := hM
  refine r_ret ?_
  refine w_endS (x := .b v1) (f := fun r => .b r.1) (fd := fun r => (Lo r.2)) (.inr rfl) ?_ (.refl _) (Option.some.inj hM) hS 0 rfl
  exact (res_one (res_tmp (x := .b v1) rfl))
 ·refine Rg 10 ?_
  refine Om (.sl .no 2 (a0.map Seen.cells)) ?_
  refine o_len (n := a0.length) (by decide) rfl (List.length_map _) ty_isl45 ?_
  refine Oi (.b (decide ((a0.length : Int) ≤ 20))) ?_
  refine Om (.b (decide ((a0.length : Int) ≤ 20))) ?_
  rcases bft (decide ((a0.length : Int) ≤ 20)) with hb3 | hb3
  ·replace hM := ifT hM hb3
   refine Oy (want := true) hb3 ?_
   refine Om (.sl .no 2 (a0.map Seen.cells)) ?_
   refine Oy (want := true) hb3 ?_
   refine o_makeFunc (first := []) (cap := [.ep [f0]]) (by decide) rfl rfl ?_
   refine Oy (want := true) hb3 ?_
   obtain ⟨r4, hr4, hM⟩ := bindE hM
   replace hS : St (fun i => i < g ∧ i ∉ ids (Lo st)) H0 ([] ++ Lo st) _ _ := hS
   refine o_stateH (bs := [.sl .no 2 (a0.map Seen.cells), .fn (.func 111) [] [.ep [f0]]]) (.inl rfl) hS (by decide) rfl rfl ((W_slices_ContainsFunc_apiSeen (Lo := Lo)  hk hnd0 hin (aF := (coins_all_apiSeen_c1 aF)) (fun s H hH => (.fn _ _ _ ai_nil (ai_cons (.ep _ (ai_cons (hF _ H hH) ai_nil)) ai_nil))) rfl (fun h => csat_hv (W_coins_all_apiSeen_c1 (Lo := Lo)  hk hnd0 hin hF h0 hf h)) hr4).le (.k (.k .nil))) (hk _ _).ids (by omega) fun H hS => ?_
   refine Oy (want := true) hb3 ?_
   refine o_not (e := r4.1) (by decide) rfl ?_
   refine Pt (.b (!r4.1)) hb3 ?_
   refine Oa (.b (!r4.1)) ?_
   refine Ni ?_
   exact w_goto ((!r4.1), r4.2) (.k .nil) ⟨(hS.keep [] rfl).up (by omega), hM⟩
  ·replace hM := ifF hM hb3
   refine On (want := true) hb3 ?_
   refine On (want := true) hb3 ?_
   refine On (want := true) hb3 ?_
   refine On (want := true) hb3 ?_
   refine Pf (.b false) hb3 ?_
   refine Oa (.b false) ?_
   refine Ni ?_
   exact w_goto (false, st) (.k .nil) ⟨(hS.keep [] rfl).up (by omega), hM⟩
theorem W_coins_wheel_isKind {a0 : Wheel_} {a1 : Int} {r : Bool} (hM : coins_wheel_isKind a0 a1 = some r) : PureSat Try.prog 81 [.agg (Wheel_.cells a0), .i a1] (.b r) := by
 refine pure_of_wp mixed Try.func81 rfl (by decide) Try.ntmps81 (by simp) ?pure fun H0 g hf => ?_
 case pure => exact .v _
 rw [frame0_of]
 change wpA _ _ _ _ (Fr.of [(0, .agg (Wheel_.cells a0)), (1, .i a1)]) H0 g
 have hS := St.start hf
 refine Sq ?_
 refine Rg 2 ?_
 refine o_box (v := .agg (Wheel_.cells a0)) (cs := (Wheel_.cells a0)) hS (by decide) rfl rfl (by omega) fun H hS => ?_
 refine Oa (.b false) ?_
 refine Ni ?_
 refine w_iceE (L' := []) 0 2 hS rfl rfl rfl fun H hS => ?_
 refine Ws ?_
 refine Sq ?_
 refine Rg 8 ?_
 refine Om (.i a1) ?_
 refine Of ((Wheel_.cells a0)) ty_fo71_0 ?_
 refine Of ((Wheel_.cells a0)) ty_fo24_2 ?_
 refine Olp (.sl .no 1 (a0.Wheel.Coins.map cI)) ty_agg22 ty_sc22 ?_
 refine o_len (n := a0.Wheel.Coins.length) (by decide) rfl (List.length_map _) ty_isl22 ?_
 refine Oi (.i (w64 ((a0.Wheel.Coins.length : Int) - 1))) ?_
 obtain ⟨r1, hr1, hM⟩ := bindE hM
 refine o_call (bs := [.i a1, .i 0, .i (w64 ((a0.Wheel.Coins.length : Int) - 1))]) (by decide) rfl rfl ((W_coins_within hr1).le (.k (.k (.k .nil)))) ?_
 refine Oa (.b r1) ?_
 refine Ni ?_
 refine w_next [(4, .b r1)] (.k .nil) ?_
 refine r_ret ?_
 refine w_end (x := .b r1) (f := fun r => .b r) (.inr rfl) ?_ (.refl _) (Option.some.inj hM) hS
 exact (res_one (res_tmp (x := .b r1) rfl))
theorem W_coins_stood_c1_c1 {a0 : Seen} {a1 : Wheel_} {r : Bool} (hM : coins_stood_c1_c1 a0 a1 = some r) : PureSat Try.prog 101 [.agg [.i a0.Kind, .i a0.Plays], .ep (Wheel_.cells a1)] (.b r) := by
 refine pure_of_wp mixed Try.func101 rfl (by decide) Try.ntmps101 (by simp) ?pure fun H0 g hf => ?_
 case pure => exact .v _
 rw [frame0_of]
 change wpA _ _ _ _ (Fr.of [(0, .agg [.i a0.Kind, .i a0.Plays]), (1, .ep (Wheel_.cells a1))]) H0 g
 have hS := St.start hf
 refine Sq ?_
 refine Rg 2 ?_
 refine o_box (v := .agg [.i a0.Kind, .i a0.Plays]) (cs := [.i a0.Kind, .i a0.Plays]) hS (by decide) rfl rfl (by omega) fun H hS => ?_
 refine Oa (.b false) ?_
 refine Ni ?_
 refine w_iceE (L' := []) 0 2 hS rfl rfl rfl fun H hS => ?_
 refine Ws ?_
 refine w_join (J := Bool) (fun j => [(3, .b j)]) (fun j H' g' => St (· < g) H0 [] H' g' ∧ coins_stood_c1_c1_j1 j = some r) ?_ ?_
 ·rintro v1 H g1 ⟨hS, hM⟩
  change wpA _ _ _ _ (Fr.of [(3, .b v1)]) _ _
  replace hS : St (· < g) H0 [] H g1 := hS
  replace hM : coins_stood_c1_c1_j1 v1 = some r := hM
  refine r_ret ?_
  refine w_end (x := .b v1) (f := fun r => .b r) (.inr rfl) ?_ (.refl _) (Option.some.inj hM) hS
  exact (res_one (res_tmp (x := .b v1) rfl))
 ·refine Rg 10 ?_
  refine Olg (.agg (Wheel_.cells a1)) ty_agg71 ?_
  refine Of ([.i a0.Kind, .i a0.Plays]) ty_fo50_0 ?_
  refine Olp (.i a0.Kind) ty_agg3 ty_sc3 ?_
  obtain ⟨r2, hr2, hM⟩ := bindE hM
  refine o_call (bs := [.agg (Wheel_.cells a1), .i a0.Kind]) (by decide) rfl rfl ((W_coins_wheel_isKind hr2).le (.k (.k .nil))) ?_
  refine Om (.b r2) ?_
  rcases bft r2 with hb3 | hb3
  ·replace hM := ifT hM hb3
   refine Oy (want := true) hb3 ?_
   refine Of ([.i a0.Kind, .i a0.Plays]) ty_fo50_1 ?_
   refine Oy (want := true) hb3 ?_
   refine Olp (.i a0.Plays) ty_agg3 ty_sc3 ?_
   refine Oy (want := true) hb3 ?_
   obtain ⟨r4, hr4, hM⟩ := bindE hM
   refine o_call (bs := [.i a0.Plays, .i 0, .i 2400]) (by decide) rfl rfl ((W_coins_within hr4).le (.k (.k (.k .nil)))) ?_
   refine Pt (.b r4) hb3 ?_
   refine Oa (.b r4) ?_
   refine Ni ?_
   exact w_goto r4 (.k .nil) ⟨(hS.keep [] rfl).up (by omega), hM⟩
  ·replace hM := ifF hM hb3
   refine On (want := true) hb3 ?_
   refine On (want := true) hb3 ?_
   refine On (want := true) hb3 ?_
   refine Pf (.b false) hb3 ?_
   refine Oa (.b false) ?_
   refine Ni ?_
   exact w_goto false (.k .nil) ⟨(hS.keep [] rfl).up (by omega), hM⟩
theorem W_coins_stood_c1 {n : Nat} {a0 : Wheel_} {a1 : List Seen} {r : Bool} (hM : coins_stood_c1 n a0 a1 = some r) : PureSat Try.prog 99 [.agg (Wheel_.cells a0), .ep [.sl .no 2 (a1.map Seen.cells)]] (.b r) := by
 refine pure_of_wp mixed Try.func99 rfl (by decide) Try.ntmps99 (by simp) ?pure fun H0 g hf => ?_
 case pure => exact .v _
 rw [frame0_of]
 change wpA _ _ _ _ (Fr.of [(0, .agg (Wheel_.cells a0)), (1, .ep [.sl .no 2 (a1.map Seen.cells)])]) H0 g
 have hS := St.start hf
 refine Sq ?_
 refine Rg 2 ?_
 refine o_box (v := .agg (Wheel_.cells a0)) (cs := (Wheel_.cells a0)) hS (by decide) rfl rfl (by omega) fun H hS => ?_
 refine Oa (.b false) ?_
 refine Ni ?_
 refine w_iceE (L' := []) 0 2 hS rfl rfl rfl fun H hS => ?_
 refine Ws ?_
 refine Sq ?_
 refine Rg 4 ?_
 refine Olp (.sl .no 2 (a1.map Seen.cells)) ty_agg45 ty_sc45 ?_
 refine o_makeFunc (first := []) (cap := [.ep (Wheel_.cells a0)]) (by decide) rfl rfl ?_
 obtain ⟨r1, hr1, hM⟩ := bindE hM
 refine o_call (bs := [.sl .no 2 (a1.map Seen.cells), .fn (.func 101) [] [.ep (Wheel_.cells a0)]]) (by decide) rfl rfl (pure_of_hsat ((W_coins_all_apiSeen (Lo := (fun (_ : Unit) => []))  (fun _ _ => kl_nil) (fun _ => List.nodup_nil) (fun _ => inb_nil) (aF := (fun (x0 : Seen) (_ : Unit) => (coins_stood_c1_c1 x0 a0).map fun y => (y, ()))) (fun _ H hH => (.fn _ _ _ ai_nil (ai_cons (.ep _ (ai_cons (show Go.AM.Pure _ from .v _).inH (ai_cons (show Go.AM.Pure _ from .sl _ _ (pures_map (fun x => (pl_cons (.v _) pl_nil)))).inH (ai_cons (show Go.AM.Pure _ from .sl _ _ (pures_map (fun x => (pl_cons (.v _) pl_nil)))).inH ai_nil)))) ai_nil))) rfl (fun h => csat_val (W_coins_stood_c1_c1 (pure_some h))) hr1).le (.k (.k .nil)))) ?_
 refine Oa (.b r1.1) ?_
 refine Ni ?_
 refine w_next [(3, .b r1.1)] (.k .nil) ?_
 refine r_ret ?_
 refine w_end (x := .b r1.1) (f := fun r => .b r) (.inr rfl) ?_ (.refl _) (Option.some.inj hM) hS
 exact (res_one (res_tmp (x := .b r1.1) rfl))
theorem W_coins_wheel_gives {n : Nat} {a0 : Wheel_} {a1 : Int} {a2 : List Seen} {r : Int × Bool} (hM : coins_wheel_gives n a0 a1 a2 = some r) : PureSat Try.prog 103 [.agg (Wheel_.cells a0), .i a1, .sl .no 2 (a2.map Seen.cells)] (.tup [.i r.1, .b r.2]) := by
 refine pure_of_wp mixed Try.func103 rfl (by decide) Try.ntmps103 (by simp) ?pure fun H0 g hf => ?_
 case pure => exact .tup _ (pl_cons (.v _) (pl_cons (.v _) pl_nil))
 rw [frame0_of]
 change wpA _ _ _ _ (Fr.of [(0, .agg (Wheel_.cells a0)), (1, .i a1), (2, .sl .no 2 (a2.map Seen.cells))]) H0 g
 have hS := St.start hf
 refine Sq ?_
 refine Rg 3 ?_
 refine o_box (v := .agg (Wheel_.cells a0)) (cs := (Wheel_.cells a0)) hS (by decide) rfl rfl (by omega) fun H hS => ?_
 refine Oa (.i 0) ?_
 refine Oa (.b false) ?_
 refine Ni ?_
 refine w_iceE (L' := []) 0 3 hS rfl rfl rfl fun H hS => ?_
 refine Ws ?_
 refine w_join (J := Int) (fun j => [(1, .i j)]) (fun j H' g' => St (· < g) H0 [] H' g' ∧ coins_wheel_gives_j1 j = some r) ?_ ?_
 ·rintro v1 H g1 ⟨hS, hM⟩
  change wpA _ _ _ _ (Fr.of [(1, .i v1)]) _ _
  replace hS : St (· < g) H0 [] H g1 := hS
  replace hM : coins_wheel_gives_j1 v1 = some r := hM
  refine Sq ?_
  refine Rg 3 ?_
  refine Om (.i v1) ?_
  refine Oa (.i v1) ?_
  refine Oa (.b true) ?_
  refine Ni ?_
  refine Ws ?_
  refine r_ret ?_
  refine w_end (x := .tup [.i v1, .b true]) (f := fun r => .tup [.i r.1, .b r.2]) (.inr rfl) ?_ (.refl _) (Option.some.inj hM) hS
  exact (res_two (res_tmp (x := .i v1) rfl) (res_tmp (x := .b true) rfl))
 ·refine Sq ?_
  refine Rg 3 ?_
  refine Om (.sl .no 2 (a2.map Seen.cells)) ?_
  refine o_len (n := a2.length) (by decide) rfl (List.length_map _) ty_isl45 ?_
  refine Om (.i 0) ?_
  refine Ni ?_
  refine Ws ?_
  refine r_block ?_
  refine w_loop (V := Int × Int) (fun v => [(1, .i v.1), (3, .ep (Wheel_.cells a0)), (12, .sl .no 2 (a2.map Seen.cells)), (13, .i (a2.length : Int)), (14, .i v.2)]) (fun v m2 H' g' => St (· < g) H0 [] H' g' ∧ coins_wheel_gives_l1 n a0 a2 m2 v.1 v.2 = some r) (n := n) (a1, 0) (.k (.k (.k (.k (.k .nil))))) ⟨(hS.keep [] rfl).up (by omega), hM⟩ ?_
  rintro ⟨v2, v3⟩ m2 H g2 ⟨hS, hM⟩
  obtain _ | m2 := m2
  ·exact nomatch (show none = some _ from hM)
  change wpA _ _ _ _ (Fr.of [(1, .i v2), (3, .ep (Wheel_.cells a0)), (12, .sl .no 2 (a2.map Seen.cells)), (13, .i (a2.length : Int)), (14, .i v3)]) _ _
  replace hS : St (· < g) H0 [] H g2 := hS
  replace hM : coins_wheel_gives_l1_b n a0 a2 (coins_wheel_gives_l1 n a0 a2 m2) v2 v3 = some r := hM
  refine Sq ?_
  refine Rg 1 ?_
  refine Oi (.b (decide (v3 < (a2.length : Int)))) ?_
  refine Ni ?_
  refine Ws ?_
  refine Sq ?_
  rcases bft (decide (v3 < (a2.length : Int))) with hb4 | hb4
  ·replace hM := ifT hM hb4
   refine Ct hb4 ?_
   refine r_skip ?_
   refine Ws ?_
   refine Sq ?_
   refine r_block ?_
   refine Sq ?_
   refine Rg 4 ?_
   obtain ⟨x5, hx5, hM⟩ := bindE hM
   refine o_index (xs := a2) (f := Seen.cells) (z := v3) (u := x5) (by decide) rfl rfl ty_es45 hx5 ?_
   refine Olg (.agg [.i x5.Kind, .i x5.Plays]) ty_agg50 ?_
   refine o_alloc hS (by decide) ty_zero50 (by omega) fun H hS => ?_
   refine o_store (v := .agg [.i x5.Kind, .i x5.Plays]) (ns := [.i x5.Kind, .i x5.Plays]) (L' := [(g2 + 1 + 2, .cells [.i x5.Kind, .i x5.Plays])]) 0 hS rfl rfl .no rfl rfl ty_var50 nlb rfl fun H hS => ?_
   refine Ni ?_
   refine w_iceE (L' := []) 0 9 hS rfl rfl rfl fun H hS => ?_
   refine Ws ?_
   refine Sq ?_
   have hS0 := hS
   refine r_draw (n := 15) rfl (by kernel_rfl) ?_
   refine Olg (.agg (Wheel_.cells a0)) ty_agg71 ?_
   refine Om (.i v2) ?_
   refine Of ((Wheel_.cells a0)) ty_fo71_0 ?_
   refine Of ((Wheel_.cells a0)) ty_fo24_2 ?_
   refine Olp (.sl .no 1 (a0.Wheel.Coins.map cI)) ty_agg22 ty_sc22 ?_
   refine Of ([.i x5.Kind, .i x5.Plays]) ty_fo50_0 ?_
   refine Olp (.i x5.Kind) ty_agg3 ty_sc3 ?_
   obtain ⟨x6, hx6, hM⟩ := bindE hM
   refine o_index (xs := a0.Wheel.Coins) (f := cI) (z := x5.Kind) (u := x6) (by decide) rfl rfl ty_es22 hx6 ?_
   refine Olp (.i x6) ty_agg3 ty_sc3 ?_
   obtain ⟨r7, hr7, hM⟩ := bindE hM
   refine o_call (bs := [.agg (Wheel_.cells a0), .i v2, .i x6]) (by decide) rfl rfl ((W_coins_wheel_turn hr7).le (.k (.k (.k .nil)))) ?_
   refine Om (.tup [.i r7.1, .i r7.2]) ?_
   refine Ox (.i r7.1) ?_
   refine Ox (.i r7.2) ?_
   refine Oa (.i r7.1) ?_
   refine Oa (.i r7.2) ?_
   refine Ni ?_
   refine Ws ?_
   refine Sq ?_
   refine Sq ?_
   refine Rg 4 ?_
   refine Om (.i r7.2) ?_
   refine Of ([.i x5.Kind, .i x5.Plays]) ty_fo50_1 ?_
   refine Olp (.i x5.Plays) ty_agg3 ty_sc3 ?_
   refine Oi (.b (r7.2 != x5.Plays)) ?_
   refine Ni ?_
   refine Ws ?_
   rcases bft (r7.2 != x5.Plays) with hb8 | hb8
   ·replace hM := ifT hM hb8
    refine Ct hb8 ?_
    refine Sq ?_
    refine Rg 2 ?_
    refine Oa (.i 0) ?_
    refine Oa (.b false) ?_
    refine Ni ?_
    refine Ws ?_
    refine r_ret ?_
    refine r_then_ret ?_
    refine r_blk_ret ?_
    refine r_then_ret ?_
    refine w_round_ret ?_
    refine r_blk_ret ?_
    refine w_goto_ret ?_
    refine w_end (x := .tup [.i 0, .b false]) (f := fun r => .tup [.i r.1, .b r.2]) (.inr rfl) ?_ (.refl _) (Option.some.inj hM) hS
    exact (res_two (res_tmp (x := .i 0) rfl) (res_tmp (x := .b false) rfl))
   ·replace hM := ifF hM hb8
    refine Cf hb8 ?_
    refine r_skip ?_
    refine Ws ?_
    refine Rg 2 ?_
    refine Om (.i r7.1) ?_
    refine Oa (.i r7.1) ?_
    refine Ni ?_
    refine r_blk_normal ?_
    refine Ws ?_
    refine Rg 2 ?_
    refine Oi (.i (w64 (v3 + 1))) ?_
    refine Om (.i (w64 (v3 + 1))) ?_
    refine Ni ?_
    exact w_round (r7.1, w64 (v3 + 1)) (Nat.lt_succ_self _) (.k (.k (.k (.k (.k .nil))))) ⟨(hS.keep [] rfl).up (by omega), hM⟩
  ·replace hM := ifF hM hb4
   refine Cf hb4 ?_
   refine r_exit ?_
   refine r_then_exit ?_
   refine w_round_exit ?_
   refine r_blk_exit ?_
   exact w_goto v2 (.k .nil) ⟨(hS.keep [] rfl).up (by omega), hM⟩
theorem W_coins_stood_c2 {S : Type} {Lo : S → BL} (hk : ∀ s s', KinL (Lo s) (Lo s')) (hnd : ∀ s, (ids (Lo s)).Nodup) (hin : ∀ s, InB In (Lo s)) {aF : Int → Int → S → Option (Bool × S)} {f0 : AV} (hF : ∀ s H, Has H (Lo s) → In H f0) (h0 : cellsOf f0 = some [f0]) (hf : ∀ {x0 : Int} {x1 : Int} {s : S} {r : Bool × S}, aF x0 x1 s = some r → CSat Try.prog f0 [.i x0, .i x1] (Lo s) (.b r.1) (Lo r.2)) {n : Nat} {a1 : Wheel_} {a2 : List Seen} {st : S} {r : Unit × S} (hM : coins_stood_c2 n aF a1 a2 st = some r) : HSat Try.prog 102 [f0, .ep (Wheel_.cells a1), .ep [.sl .no 2 (a2.map Seen.cells)]] (Lo st) (.tup []) (Lo r.2) := by
 have hnd0 : ∀ s, (ids (Lo s)).Nodup := fun s => hnd s
 refine hsat_of_wp mixed Try.func102 rfl (by decide) Try.ntmps102 (by simp) (hk _ _) (hnd st) ?pure ?cells fun H0 g hf_ hp => ?_
 case pure => exact fun H _ => (show Go.AM.Pure _ from .tup _ pl_nil).inH
 case cells => exact hin _
 rw [frame0_of]
 change wpA _ _ _ _ (Fr.of [(0, f0), (1, .ep (Wheel_.cells a1)), (2, .ep [.sl .no 2 (a2.map Seen.cells)])]) H0 g
 have hS := St.startH (L := ([] ++ Lo st)) hf_ (hnd st) hp
 replace hS : St (fun i => i < g ∧ i ∉ ids (Lo st)) H0 ([] ++ Lo st) H0 g := hS
 refine Sq ?_
 refine Rg 4 ?_
 refine Of ((Wheel_.cells a1)) ty_fo71_0 ?_
 refine Of ((Wheel_.cells a1)) ty_fo24_0 ?_
 refine Olp (.i a1.Wheel.Round) ty_agg3 ty_sc3 ?_
 refine Om (.i 0) ?_
 refine Ni ?_
 refine Ws ?_
 refine r_block ?_
 refine w_loop (V := Int × S) (fun v => [(0, f0), (1, .ep (Wheel_.cells a1)), (2, .ep [.sl .no 2 (a2.map Seen.cells)]), (9, .i a1.Wheel.Round), (10, .i v.1)]) (fun v m2 H' g' => St (fun i => i < g ∧ i ∉ ids (Lo st)) H0 ([] ++ Lo v.2) H' g' ∧ coins_stood_c2_l1 n aF a1 a2 m2 v.1 v.2 = some r) (n := n) (0, st) (.k (.k (.k (.k (.k .nil))))) ⟨(hS.keep [] rfl).up (by omega), hM⟩ ?_
 rintro ⟨v2, v3⟩ m2 H g2 ⟨hS, hM⟩
 obtain _ | m2 := m2
 ·exact nomatch (show none = some _ from hM)
 change wpA _ _ _ _ (Fr.of [(0, f0), (1, .ep (Wheel_.cells a1)), (2, .ep [.sl .no 2 (a2.map Seen.cells)]), (9, .i a1.Wheel.Round), (10, .i v2)]) _ _
 replace hS : St (fun i => i < g ∧ i ∉ ids (Lo st)) H0 ([] ++ Lo v3) H g2 := hS
 replace hM : coins_stood_c2_l1_b n aF a1 a2 (coins_stood_c2_l1 n aF a1 a2 m2) v2 v3 = some r := hM
 refine Sq ?_
 refine Rg 1 ?_
 refine Oi (.b (decide (v2 < a1.Wheel.Round))) ?_
 refine Ni ?_
 refine Ws ?_
 refine Sq ?_
 rcases bft (decide (v2 < a1.Wheel.Round)) with hb4 | hb4
 ·replace hM := ifT hM hb4
  refine Ct hb4 ?_
  refine r_skip ?_
  refine Ws ?_
  refine Sq ?_
  refine r_block ?_
  refine Sq ?_
  refine Rg 2 ?_
  refine Om (.i v2) ?_
  refine Oa (.i v2) ?_
  refine Ni ?_
  refine Ws ?_
  refine Sq ?_
  refine Rg 9 ?_
  refine Olg (.agg (Wheel_.cells a1)) ty_agg71 ?_
  refine Om (.i v2) ?_
  refine Olp (.sl .no 2 (a2.map Seen.cells)) ty_agg45 ty_sc45 ?_
  obtain ⟨r5, hr5, hM⟩ := bindE hM
  refine o_call (bs := [.agg (Wheel_.cells a1), .i v2, .sl .no 2 (a2.map Seen.cells)]) (by decide) rfl rfl ((W_coins_wheel_gives hr5).le (.k (.k (.k .nil)))) ?_
  refine Om (.tup [.i r5.1, .b r5.2]) ?_
  refine Ox (.i r5.1) ?_
  refine Ox (.b r5.2) ?_
  refine Oa (.i r5.1) ?_
  refine Oa (.b r5.2) ?_
  refine Ni ?_
  refine Ws ?_
  refine w_join (J := Bool × S) (fun j => [(0, f0), (1, .ep (Wheel_.cells a1)), (2, .ep [.sl .no 2 (a2.map Seen.cells)]), (9, .i a1.Wheel.Round), (10, .i v2), (27, .b j.1)]) (fun j H' g' => St (fun i => i < g ∧ i ∉ ids (Lo st)) H0 ([] ++ Lo j.2) H' g' ∧ coins_stood_c2_j1 (coins_stood_c2_l1 n aF a1 a2 m2) v2 j.1 j.2 = some r) ?_ ?_
  ·rintro ⟨v6, v7⟩ H g3 ⟨hS, hM⟩
   change wpA _ _ _ _ (Fr.of [(0, f0), (1, .ep (Wheel_.cells a1)), (2, .ep [.sl .no 2 (a2.map Seen.cells)]), (9, .i a1.Wheel.Round), (10, .i v2), (27, .b v6)]) _ _
   replace hS : St (fun i => i < g ∧ i ∉ ids (Lo st)) H0 ([] ++ Lo v7) H g3 := hS
   replace hM : coins_stood_c2_j1 (coins_stood_c2_l1 n aF a1 a2 m2) v2 v6 v7 = some r := hM
   rcases bft v6 with hb8 | hb8
   ·replace hM := ifT hM hb8
    refine Ct hb8 ?_
    refine r_ret ?_
    refine r_blk_ret ?_
    refine r_then_ret ?_
    refine w_round_ret ?_
    refine r_blk_ret ?_
    refine w_endS (x := .tup []) (f := fun r => .tup []) (fd := fun r => (Lo r.2)) (.inr rfl) ?_ (.refl _) (Option.some.inj hM) hS 0 rfl
    exact rfl
   ·replace hM := ifF hM hb8
    refine Cf hb8 ?_
    refine r_skip ?_
    refine r_blk_normal ?_
    refine Ws ?_
    refine Rg 2 ?_
    refine Oi (.i (w64 (v2 + 1))) ?_
    refine Om (.i (w64 (v2 + 1))) ?_
    refine Ni ?_
    exact w_round (w64 (v2 + 1), v7) (Nat.lt_succ_self _) (.k (.k (.k (.k (.k .nil))))) ⟨(hS.keep [] rfl).up (by omega), hM⟩
  ·refine Rg 8 ?_
   refine Om (.b r5.2) ?_
   refine Om (.b r5.2) ?_
   rcases bft r5.2 with hb9 | hb9
   ·replace hM := ifT hM hb9
    refine Oy (want := true) hb9 ?_
    refine Om (f0) ?_
    refine Oy (want := true) hb9 ?_
    refine Om (.i v2) ?_
    refine Oy (want := true) hb9 ?_
    refine Om (.i r5.1) ?_
    refine Oy (want := true) hb9 ?_
    obtain ⟨r10, hr10, hM⟩ := bindE hM
    replace hS : St (fun i => i < g ∧ i ∉ ids (Lo st)) H0 ([] ++ Lo v3) _ _ := hS
    refine o_state (bs := [.i v2, .i r5.1]) (.inl rfl) hS (by decide) rfl rfl ((hf hr10).le (.k (.k .nil))) (hk _ _).ids (by omega) fun H hS => ?_
    refine Oy (want := true) hb9 ?_
    refine o_not (e := r10.1) (by decide) rfl ?_
    refine Pt (.b (!r10.1)) hb9 ?_
    refine Ni ?_
    exact w_goto ((!r10.1), r10.2) (.k (.k (.k (.k (.k (.k .nil)))))) ⟨(hS.keep [] rfl).up (by omega), hM⟩
   ·replace hM := ifF hM hb9
    refine On (want := true) hb9 ?_
    refine On (want := true) hb9 ?_
    refine On (want := true) hb9 ?_
    refine On (want := true) hb9 ?_
    refine On (want := true) hb9 ?_
    refine Pf (.b false) hb9 ?_
    refine Ni ?_
    exact w_goto (false, v3) (.k (.k (.k (.k (.k (.k .nil)))))) ⟨(hS.keep [] rfl).up (by omega), hM⟩
 ·replace hM := ifF hM hb4
  refine Cf hb4 ?_
  refine r_exit ?_
  refine r_then_exit ?_
  refine w_round_exit ?_
  refine r_blk_exit ?_
  refine w_endS (x := .tup []) (f := fun r => .tup []) (fd := fun r => (Lo r.2)) (.inl rfl) ?_ (.refl _) (Option.some.inj hM) hS 0 rfl
  exact rfl
theorem W_coins_stood {n : Nat} {a0 : Wheel} {a1 : List Seen} {r : (Option (Wheel_ × (List Seen))) × Int} (hM : coins_stood n a0 a1 = some r) : PureSat Try.prog 67 [.agg (Wheel.cells a0), .sl .no 2 (a1.map Seen.cells)] (.tup [fA (fun x => .fn (.func 102) [] [.ep (Wheel_.cells x.1), .ep [.sl .no 2 (x.2.map Seen.cells)]]) r.1, .i r.2]) := by
 refine pure_of_wp mixed Try.func67 rfl (by decide) Try.ntmps67 (by simp) ?pure fun H0 g hf => ?_
 case pure => exact .tup _ (pl_cons (pure_fA (fun x => .fn _ _ _ pl_nil (pl_cons (.ep _ (pl_cons (.v _) (pl_cons (.sl _ _ (pures_map (fun x => (pl_cons (.v _) pl_nil)))) (pl_cons (.sl _ _ (pures_map (fun x => (pl_cons (.v _) pl_nil)))) pl_nil)))) (pl_cons (.ep _ (pl_cons (.sl _ _ (pures_map (fun x => (pl_cons (.v _) (pl_cons (.v _) pl_nil))))) pl_nil)) pl_nil))) _) (pl_cons (.v _) pl_nil))
 rw [frame0_of]
 change wpA _ _ _ _ (Fr.of [(0, .agg (Wheel.cells a0)), (1, .sl .no 2 (a1.map Seen.cells))]) H0 g
 have hS := St.start hf
 refine Sq ?_
 refine Rg 4 ?_
 refine o_box (v := .agg (Wheel.cells a0)) (cs := (Wheel.cells a0)) hS (by decide) rfl rfl (by omega) fun H hS => ?_
 refine o_box (v := .sl .no 2 (a1.map Seen.cells)) (cs := [.sl .no 2 (a1.map Seen.cells)]) hS (by decide) rfl rfl (by omega) fun H hS => ?_
 refine o_alloc hS (by decide) ty_zero95 (by omega) fun H hS => ?_
 refine o_alloc hS (by decide) ty_zero28 (by omega) fun H hS => ?_
 refine Ni ?_
 refine w_iceE (L' := [(g + 3, .cells [.i 0]), (g + 2, .cells [fA (fun x => .fn (.func 102) [] [.ep (Wheel_.cells x.1), .ep [.sl .no 2 (x.2.map Seen.cells)]]) (none : Option (Wheel_ × (List Seen)))]), (g + 1, .cells [.sl .no 2 (a1.map Seen.cells)])]) 3 2 hS rfl rfl rfl fun H hS => ?_
 refine w_iceE (L' := [(g + 3, .cells [.i 0]), (g + 2, .cells [fA (fun x => .fn (.func 102) [] [.ep (Wheel_.cells x.1), .ep [.sl .no 2 (x.2.map Seen.cells)]]) (none : Option (Wheel_ × (List Seen)))])]) 2 3 hS rfl rfl rfl fun H hS => ?_
 refine Ws ?_
 refine Sq ?_
 refine Rg 9 ?_
 refine Olg (.agg (Wheel.cells a0)) ty_agg24 ?_
 refine o_makeFunc (first := []) (cap := [.ep [.sl .no 2 (a1.map Seen.cells)]]) (by decide) rfl rfl ?_
 obtain ⟨r1, hr1, hM⟩ := bindE hM
 refine o_call (bs := [.agg (Wheel.cells a0), .fn (.func 99) [] [.ep [.sl .no 2 (a1.map Seen.cells)]]]) (by decide) rfl rfl (pure_of_hsat ((W_coins_open (Lo := (fun (_ : Unit) => []))  (fun _ _ => kl_nil) (fun _ => List.nodup_nil) (fun _ => inb_nil) (aF := (fun (x0 : Wheel_) (_ : Unit) => (coins_stood_c1 n x0 a1).map fun y => (y, ()))) (fun _ H hH => (.fn _ _ _ ai_nil (ai_cons (.ep _ (ai_cons (show Go.AM.Pure _ from .sl _ _ (pures_map (fun x => (pl_cons (.v _) (pl_cons (.v _) pl_nil))))).inH ai_nil)) ai_nil))) rfl (fun h => csat_val (W_coins_stood_c1 (pure_some h))) hr1).le (.k (.k .nil)))) ?_
 refine Om (.tup [.agg (Wheel_.cells r1.1.1), .i r1.1.2]) ?_
 refine Ox (.agg (Wheel_.cells r1.1.1)) ?_
 refine Ox (.i r1.1.2) ?_
 refine o_alloc hS (by decide) ty_zero71 (by omega) fun H hS => ?_
 refine o_store (v := .agg (Wheel_.cells r1.1.1)) (ns := (Wheel_.cells r1.1.1)) (L' := [(g + 4 + 6, .cells (Wheel_.cells r1.1.1)), (g + 3, .cells [.i 0]), (g + 2, .cells [fA (fun x => .fn (.func 102) [] [.ep (Wheel_.cells x.1), .ep [.sl .no 2 (x.2.map Seen.cells)]]) (none : Option (Wheel_ × (List Seen)))])]) 0 hS rfl rfl .no rfl rfl ty_var71 nlb rfl fun H hS => ?_
 refine Oa (.i r1.1.2) ?_
 refine Ni ?_
 refine w_iceE (L' := [(g + 3, .cells [.i 0]), (g + 2, .cells [fA (fun x => .fn (.func 102) [] [.ep (Wheel_.cells x.1), .ep [.sl .no 2 (x.2.map Seen.cells)]]) (none : Option (Wheel_ × (List Seen)))])]) 0 6 hS rfl rfl rfl fun H hS => ?_
 refine Ws ?_
 refine Sq ?_
 refine Rg 3 ?_
 refine o_makeFunc (first := []) (cap := [.ep (Wheel_.cells r1.1.1), .ep [.sl .no 2 (a1.map Seen.cells)]]) (by decide) rfl rfl ?_
 refine o_alloc hS (by decide) ty_zero95 (by omega) fun H hS => ?_
 refine o_store (v := fA (fun x => .fn (.func 102) [] [.ep (Wheel_.cells x.1), .ep [.sl .no 2 (x.2.map Seen.cells)]]) (some (r1.1.1, a1))) (ns := [fA (fun x => .fn (.func 102) [] [.ep (Wheel_.cells x.1), .ep [.sl .no 2 (x.2.map Seen.cells)]]) (some (r1.1.1, a1))]) (L' := [(g + 4 + 9 + 1, .cells [fA (fun x => .fn (.func 102) [] [.ep (Wheel_.cells x.1), .ep [.sl .no 2 (x.2.map Seen.cells)]]) (some (r1.1.1, a1))]), (g + 3, .cells [.i 0]), (g + 2, .cells [fA (fun x => .fn (.func 102) [] [.ep (Wheel_.cells x.1), .ep [.sl .no 2 (x.2.map Seen.cells)]]) (none : Option (Wheel_ × (List Seen)))])]) 0 hS rfl rfl .no rfl (cellsOf_fA (fun _ => rfl) _) ty_var95 nlb rfl fun H hS => ?_
 refine Ni ?_
 refine w_iceE (L' := [(g + 3, .cells [.i 0]), (g + 2, .cells [fA (fun x => .fn (.func 102) [] [.ep (Wheel_.cells x.1), .ep [.sl .no 2 (x.2.map Seen.cells)]]) (none : Option (Wheel_ × (List Seen)))])]) 0 8 hS rfl rfl rfl fun H hS => ?_
 refine Ws ?_
 refine Sq ?_
 refine Sq ?_
 refine Rg 2 ?_
 refine Om (.i r1.1.2) ?_
 refine Oi (.b (r1.1.2 != 0)) ?_
 refine Ni ?_
 refine Ws ?_
 rcases bft (r1.1.2 != 0) with hb2 | hb2
 ·replace hM := ifT hM hb2
  refine Ct hb2 ?_
  refine Sq ?_
  refine Rg 3 ?_
  refine Om (.i r1.1.2) ?_
  refine o_store (v := fA (fun x => .fn (.func 102) [] [.ep (Wheel_.cells x.1), .ep [.sl .no 2 (x.2.map Seen.cells)]]) (none : Option (Wheel_ × (List Seen)))) (ns := [fA (fun x => .fn (.func 102) [] [.ep (Wheel_.cells x.1), .ep [.sl .no 2 (x.2.map Seen.cells)]]) (none : Option (Wheel_ × (List Seen)))]) (L' := [(g + 3, .cells [.i 0]), (g + 2, .cells [fA (fun x => .fn (.func 102) [] [.ep (Wheel_.cells x.1), .ep [.sl .no 2 (x.2.map Seen.cells)]]) (none : Option (Wheel_ × (List Seen)))])]) 1 hS rfl rfl .no rfl (cellsOf_fA (fun _ => rfl) _) ty_var95 nlb rfl fun H hS => ?_
  refine o_store (v := .i r1.1.2) (ns := [.i r1.1.2]) (L' := [(g + 3, .cells [.i r1.1.2]), (g + 2, .cells [fA (fun x => .fn (.func 102) [] [.ep (Wheel_.cells x.1), .ep [.sl .no 2 (x.2.map Seen.cells)]]) (none : Option (Wheel_ × (List Seen)))])]) 0 hS rfl rfl .no rfl rfl ty_var28 nlb rfl fun H hS => ?_
  refine Ni ?_
  refine Ws ?_
  refine r_ret ?_
  refine r_then_ret ?_
  refine w_end (x := .tup [fA (fun x => .fn (.func 102) [] [.ep (Wheel_.cells x.1), .ep [.sl .no 2 (x.2.map Seen.cells)]]) (none : Option (Wheel_ × (List Seen))), .i r1.1.2]) (f := fun r => .tup [fA (fun x => .fn (.func 102) [] [.ep (Wheel_.cells x.1), .ep [.sl .no 2 (x.2.map Seen.cells)]]) r.1, .i r.2]) (.inr rfl) ?_ (.refl _) (Option.some.inj hM) hS
  exact (res_two (res_cell (x := fA (fun x => .fn (.func 102) [] [.ep (Wheel_.cells x.1), .ep [.sl .no 2 (x.2.map Seen.cells)]]) (none : Option (Wheel_ × (List Seen)))) 1 hS rfl rfl (po ty_agg95 ty_sc95)) (res_cell (x := .i r1.1.2) 0 hS rfl rfl (po ty_agg28 ty_sc28)))
 ·replace hM := ifF hM hb2
  refine Cf hb2 ?_
  refine r_skip ?_
  refine Ws ?_
  refine Sq ?_
  refine Sq ?_
  refine Rg 1 ?_
  refine Olp (fA (fun x => .fn (.func 102) [] [.ep (Wheel_.cells x.1), .ep [.sl .no 2 (x.2.map Seen.cells)]]) (some (r1.1.1, a1))) ty_agg95 ty_sc95 ?_
  refine Ni ?_
  refine Ws ?_
  refine r_block ?_
  obtain ⟨r4, hr4, hM⟩ := bindE hM
  refine w_rangeRD (Lo := fun s : (Option (Wheel_ × (List Seen))) × Bool => [(g + 3, .cells [.i 0]), (g + 2, .cells [fA (fun x => .fn (.func 102) [] [.ep (Wheel_.cells x.1), .ep [.sl .no 2 (x.2.map Seen.cells)]]) s.1])]) (fl := (fun s => s.2)) (R := fun x x2 s b s' => ∃ y yy, x = .i y ∧ x2 = .i yy ∧ coins_stood_r1 a1 r1 y yy s = some (b, s')) (s0 := ((none : Option (Wheel_ × (List Seen))), false)) (sF := r4.2) (A := []) (A' := []) (L' := [(g + 3, .cells [.i 0]), (g + 2, .cells [fA (fun x => .fn (.func 102) [] [.ep (Wheel_.cells x.1), .ep [.sl .no 2 (x.2.map Seen.cells)]]) r4.2.1])]) [(4, .ptr (g + 2) 0), (5, .ptr (g + 3) 0), (8, .ep [fA (fun x => .fn (.func 102) [] [.ep (Wheel_.cells x.1), .ep [.sl .no 2 (x.2.map Seen.cells)]]) (some (r1.1.1, a1))])] [0, 1] hS (by omega) rfl rfl rfl rfl (.cons rfl (.cons rfl .nil)) (by decide) rfl kl_nil (fun _ _ => (kl_cells (kl_cells kl_nil))) (fun s => (inb_st (ic_cells (ci_cons (.inl (.inl (.v _))) ci_nil) (ic_cells (ci_cons (.inl (.inl (pure_fA (fun x => .fn _ _ _ pl_nil (pl_cons (.ep _ (pl_cons (.v _) (pl_cons (.sl _ _ (pures_map (fun x => (pl_cons (.v _) pl_nil)))) (pl_cons (.sl _ _ (pures_map (fun x => (pl_cons (.v _) pl_nil)))) pl_nil)))) (pl_cons (.ep _ (pl_cons (.sl _ _ (pures_map (fun x => (pl_cons (.v _) (pl_cons (.v _) pl_nil))))) pl_nil)) pl_nil))) _))) ci_nil) ic_nil)) inb_nil)) (fun s H hH => (ai_cons (in_ptr hH 1 rfl) (ai_cons (in_ptr hH 0 rfl) (ai_cons (.ep _ (ai_cons (show Go.AM.Pure _ from pure_fA (fun x => .fn _ _ _ pl_nil (pl_cons (.ep _ (pl_cons (.v _) (pl_cons (.sl _ _ (pures_map (fun x => (pl_cons (.v _) pl_nil)))) (pl_cons (.sl _ _ (pures_map (fun x => (pl_cons (.v _) pl_nil)))) pl_nil)))) (pl_cons (.ep _ (pl_cons (.sl _ _ (pures_map (fun x => (pl_cons (.v _) (pl_cons (.v _) pl_nil))))) pl_nil)) pl_nil))) _).inH ai_nil)) ai_nil)))) (.k (.k (.k .nil))) rfl (by decide) (by decide) rfl rfl ?_ (fun F Lx hk1 hnd1 hin1 hF1 h01 hf1 => W_coins_stood_c2 (Lo := Lx)  hk1 hnd1 hin1 (aF := coins_stood_r1 a1 r1) hF1 h01 (fun h => hf1 _ _ _ _ _ ⟨_, _, rfl, rfl, h⟩) hr4) fun H hS => ?_
  ·rintro x x2 ⟨v3, fl⟩ b s' ⟨y1, yy1, rfl, rfl, hM⟩
   rcases bft fl with hfl | hfl
   ·subst hfl; exact nomatch (show none = some _ from hM)
   subst hfl
   replace hM := ifF hM rfl
   refine ⟨rfl, fun H' g1 hf' hh' => ?_⟩
   have hS := St.start hf'
   change wpA _ _ _ _ (Fr.of [(21, .i yy1), (20, .i y1), (4, .ptr (g + 2) 0), (5, .ptr (g + 3) 0), (8, .ep [fA (fun x => .fn (.func 102) [] [.ep (Wheel_.cells x.1), .ep [.sl .no 2 (x.2.map Seen.cells)]]) (some (r1.1.1, a1))])]) _ _
   refine r_skip ?_
   refine w_rasg (l3 := [(4, .ptr (g + 2) 0), (5, .ptr (g + 3) 0), (8, .ep [fA (fun x => .fn (.func 102) [] [.ep (Wheel_.cells x.1), .ep [.sl .no 2 (x.2.map Seen.cells)]]) (some (r1.1.1, a1))])]) (.k (.k (.k .nil))) hS (by omega) fun Hb H hS => ?_
   replace hS : St (fun i => i < g1 ∧ i ∉ ids [(g + 3, .cells [.i 0]), (g + 2, .cells [fA (fun x => .fn (.func 102) [] [.ep (Wheel_.cells x.1), .ep [.sl .no 2 (x.2.map Seen.cells)]]) v3])]) Hb [(g + 3, .cells [.i 0]), (g + 2, .cells [fA (fun x => .fn (.func 102) [] [.ep (Wheel_.cells x.1), .ep [.sl .no 2 (x.2.map Seen.cells)]]) v3])] H _ := hS
   refine r_block ?_
   refine Sq ?_
   refine Rg 3 ?_
   refine Olp (fA (fun x => .fn (.func 102) [] [.ep (Wheel_.cells x.1), .ep [.sl .no 2 (x.2.map Seen.cells)]]) (some (r1.1.1, a1))) ty_agg95 ty_sc95 ?_
   refine o_store (v := fA (fun x => .fn (.func 102) [] [.ep (Wheel_.cells x.1), .ep [.sl .no 2 (x.2.map Seen.cells)]]) (some (r1.1.1, a1))) (ns := [fA (fun x => .fn (.func 102) [] [.ep (Wheel_.cells x.1), .ep [.sl .no 2 (x.2.map Seen.cells)]]) (some (r1.1.1, a1))]) (L' := [(g + 3, .cells [.i 0]), (g + 2, .cells [fA (fun x => .fn (.func 102) [] [.ep (Wheel_.cells x.1), .ep [.sl .no 2 (x.2.map Seen.cells)]]) (some (r1.1.1, a1))])]) 1 hS rfl rfl .no rfl (cellsOf_fA (fun _ => rfl) _) ty_var95 nlb rfl fun H hS => ?_
   refine o_store (v := .i 0) (ns := [.i 0]) (L' := [(g + 3, .cells [.i 0]), (g + 2, .cells [fA (fun x => .fn (.func 102) [] [.ep (Wheel_.cells x.1), .ep [.sl .no 2 (x.2.map Seen.cells)]]) (some (r1.1.1, a1))])]) 0 hS rfl rfl .no rfl rfl ty_var28 nlb rfl fun H hS => ?_
   refine Ni ?_
   refine Ws ?_
   refine r_ret ?_
   refine r_blk_ret ?_
   injection hM with hM
   injection hM with hm1 hm2
   subst hm1 hm2
   exact w_rout (hS.keep [true, true] rfl)
  rcases bft r4.2.2 with hb5 | hb5
  ·replace hM := ifT hM hb5
   refine w_rret hb5 ?_
   refine r_blk_ret ?_
   refine r_then_ret ?_
   refine w_end (x := .tup [fA (fun x => .fn (.func 102) [] [.ep (Wheel_.cells x.1), .ep [.sl .no 2 (x.2.map Seen.cells)]]) r4.2.1, .i 0]) (f := fun r => .tup [fA (fun x => .fn (.func 102) [] [.ep (Wheel_.cells x.1), .ep [.sl .no 2 (x.2.map Seen.cells)]]) r.1, .i r.2]) (.inr rfl) ?_ (.refl _) (Option.some.inj hM) hS
   exact (res_two (res_cell (x := fA (fun x => .fn (.func 102) [] [.ep (Wheel_.cells x.1), .ep [.sl .no 2 (x.2.map Seen.cells)]]) r4.2.1) 1 hS rfl rfl (po ty_agg95 ty_sc95)) (res_cell (x := .i 0) 0 hS rfl rfl (po ty_agg28 ty_sc28)))
  ·replace hM := ifF hM hb5
   refine w_rnormal hb5 ?_
   refine r_blk_normal ?_
   refine Ws ?_
   refine Sq ?_
   refine Rg 2 ?_
   refine o_store (v := fA (fun x => .fn (.func 102) [] [.ep (Wheel_.cells x.1), .ep [.sl .no 2 (x.2.map Seen.cells)]]) (none : Option (Wheel_ × (List Seen)))) (ns := [fA (fun x => .fn (.func 102) [] [.ep (Wheel_.cells x.1), .ep [.sl .no 2 (x.2.map Seen.cells)]]) (none : Option (Wheel_ × (List Seen)))]) (L' := [(g + 3, .cells [.i 0]), (g + 2, .cells [fA (fun x => .fn (.func 102) [] [.ep (Wheel_.cells x.1), .ep [.sl .no 2 (x.2.map Seen.cells)]]) (none : Option (Wheel_ × (List Seen)))])]) 1 hS rfl rfl .no rfl (cellsOf_fA (fun _ => rfl) _) ty_var95 nlb rfl fun H hS => ?_
   refine o_store (v := .i 3) (ns := [.i 3]) (L' := [(g + 3, .cells [.i 3]), (g + 2, .cells [fA (fun x => .fn (.func 102) [] [.ep (Wheel_.cells x.1), .ep [.sl .no 2 (x.2.map Seen.cells)]]) (none : Option (Wheel_ × (List Seen)))])]) 0 hS rfl rfl .no rfl rfl ty_var28 nlb rfl fun H hS => ?_
   refine Ni ?_
   refine Ws ?_
   refine r_ret ?_
   refine w_end (x := .tup [fA (fun x => .fn (.func 102) [] [.ep (Wheel_.cells x.1), .ep [.sl .no 2 (x.2.map Seen.cells)]]) (none : Option (Wheel_ × (List Seen))), .i 3]) (f := fun r => .tup [fA (fun x => .fn (.func 102) [] [.ep (Wheel_.cells x.1), .ep [.sl .no 2 (x.2.map Seen.cells)]]) r.1, .i r.2]) (.inr rfl) ?_ (.refl _) (Option.some.inj hM) hS
   exact (res_two (res_cell (x := fA (fun x => .fn (.func 102) [] [.ep (Wheel_.cells x.1), .ep [.sl .no 2 (x.2.map Seen.cells)]]) (none : Option (Wheel_ × (List Seen)))) 1 hS rfl rfl (po ty_agg95 ty_sc95)) (res_cell (x := .i 3) 0 hS rfl rfl (po ty_agg28 ty_sc28)))
theorem W_coins_Now {n : Nat} {a0 : Wheel} {a1 : List Seen} {r : (List Int) × Int} (hM : coins_Now n a0 a1 = some r) : PureSat Try.prog 32 [.agg (Wheel.cells a0), .sl .no 2 (a1.map Seen.cells)] (.tup [.sl .no 1 (r.1.map cI), .i r.2]) := by
 refine pure_of_snd (zs := r.1) (y := .int .i64 r.2) (e := 3) mixed Try.func32 rfl (by decide) Try.ntmps32 (by simp) ?pa fun G0 w0 C hC => ?_
 case pa => exact pl_cons (.agg _ (pl_cons (.v _) (pl_cons (.sl _ _ (pures_map (fun x => (pl_cons (.v _) pl_nil)))) (pl_cons (.sl _ _ (pures_map (fun x => (pl_cons (.v _) pl_nil)))) pl_nil)))) (pl_cons (.sl _ _ (pures_map (fun x => (pl_cons (.v _) (pl_cons (.v _) pl_nil))))) pl_nil)
 rw [frame0_of]
 refine (?_ : ∀ g, Fresh E0 g → Snd _ _ _ _ _ _ (Fr.of [(0, .agg (Wheel.cells a0)), (1, .sl .no 2 (a1.map Seen.cells))]) E0 g) 0 (fun _ _ => rfl)
 intro g hf
 have hS := St.start hf
 refine snd_seq mixed hC ?_
 refine Rg 3 ?_
 refine o_box (v := .agg (Wheel.cells a0)) (cs := (Wheel.cells a0)) hS (by decide) rfl rfl (by omega) fun H hS => ?_
 refine Oa (.sl .nil 0 []) ?_
 refine Oa (.i 0) ?_
 refine Ni ?_
 refine w_nextS (l' := [(1, .sl .no 2 (a1.map Seen.cells)), (2, .ptr (g + 0) 0)]) (.k (.k .nil)) ?_
 refine snd_seq mixed hC ?_
 refine Rg 8 ?_
 refine o_load (v := .agg (Wheel.cells a0)) 0 hS (by decide) rfl rfl .no (pg ty_agg24) ?_
 refine Om (.sl .no 2 (a1.map Seen.cells)) ?_
 obtain ⟨r1, hr1, hM⟩ := bindE hM
 refine o_call (bs := [.agg (Wheel.cells a0), .sl .no 2 (a1.map Seen.cells)]) (by decide) rfl rfl ((W_coins_stood hr1).le (.k (.k .nil))) ?_
 refine Om (.tup [fA (fun x => .fn (.func 102) [] [.ep (Wheel_.cells x.1), .ep [.sl .no 2 (x.2.map Seen.cells)]]) r1.1, .i r1.2]) ?_
 refine Ox (fA (fun x => .fn (.func 102) [] [.ep (Wheel_.cells x.1), .ep [.sl .no 2 (x.2.map Seen.cells)]]) r1.1) ?_
 refine Ox (.i r1.2) ?_
 refine Oa (fA (fun x => .fn (.func 102) [] [.ep (Wheel_.cells x.1), .ep [.sl .no 2 (x.2.map Seen.cells)]]) r1.1) ?_
 refine Oa (.i r1.2) ?_
 refine Ni ?_
 refine w_nextS (l' := [(6, fA (fun x => .fn (.func 102) [] [.ep (Wheel_.cells x.1), .ep [.sl .no 2 (x.2.map Seen.cells)]]) r1.1), (7, .i r1.2)]) (.k (.k .nil)) ?_
 refine snd_seq mixed hC ?_
 refine Sq ?_
 refine Rg 2 ?_
 refine Om (.i r1.2) ?_
 refine Oi (.b (r1.2 != 0)) ?_
 refine Ni ?_
 refine Ws ?_
 rcases bft (r1.2 != 0) with hb2 | hb2
 ·replace hM := ifT hM hb2
  refine Ct hb2 ?_
  refine Sq ?_
  refine Rg 3 ?_
  refine Om (.i r1.2) ?_
  refine Oa (.sl .nil 0 []) ?_
  refine Oa (.i r1.2) ?_
  refine Ni ?_
  refine Ws ?_
  refine r_ret ?_
  refine r_then_ret ?_
  have hr := Option.some.inj hM
  subst hr
  exact ⟨.inr rfl, .inr ⟨rfl, res_two (res_tmp (x := .sl .nil 0 []) rfl) (res_tmp (x := .i r1.2) rfl)⟩⟩
 ·replace hM := ifF hM hb2
  refine Cf hb2 ?_
  refine r_skip ?_
  refine w_nextS (l' := [(6, fA (fun x => .fn (.func 102) [] [.ep (Wheel_.cells x.1), .ep [.sl .no 2 (x.2.map Seen.cells)]]) r1.1)]) (.k .nil) ?_
  refine snd_seq mixed hC ?_
  refine Rg 1 ?_
  refine o_alloc hS (by decide) ty_zero22 (by omega) fun H hS => ?_
  refine Ni ?_
  refine w_nextS (l' := [(6, fA (fun x => .fn (.func 102) [] [.ep (Wheel_.cells x.1), .ep [.sl .no 2 (x.2.map Seen.cells)]]) r1.1), (8, .ptr (g + 3 + 8 + 2 + 0) 0)]) (.k (.k .nil)) ?_
  refine snd_seq mixed hC ?_
  refine Sq ?_
  refine Rg 1 ?_
  refine Om (fA (fun x => .fn (.func 102) [] [.ep (Wheel_.cells x.1), .ep [.sl .no 2 (x.2.map Seen.cells)]]) r1.1) ?_
  refine Ni ?_
  replace hS := hS.keep (L' := [(g + 3 + 8 + 2 + 0, .cells [.sl .nil 0 []])]) [true, false] rfl
  refine w_ownC (cs' := [.sl (.id (g + 3 + 8 + 2 + 1 + 1)) 1 (([] : List Int).map cI)]) (L' := [(g + 3 + 8 + 2 + 0, .cells [.sl (.id (g + 3 + 8 + 2 + 1 + 1)) 1 (([] : List Int).map cI)])]) 0 0 1 3 hS (by omega) (by decide) rfl rfl rfl rfl fun H hS => ?_
  refine w_next [(8, .ptr (g + 3 + 8 + 2 + 0) 0), (20, fA (fun x => .fn (.func 102) [] [.ep (Wheel_.cells x.1), .ep [.sl .no 2 (x.2.map Seen.cells)]]) r1.1)] (.k (.k .nil)) ?_
  refine r_block ?_
  obtain ⟨x3, hx3, hM⟩ := bindE hM
  rw [fA_some hx3]
  change wpA _ _ _ _ (Fr.of [(8, .ptr (g + 3 + 8 + 2 + 0) 0), (20, .fn (.func 102) [] [.ep (Wheel_.cells x3.1), .ep [.sl .no 2 (x3.2.map Seen.cells)]])]) _ _
  obtain ⟨r6, hr6, hM⟩ := bindE hM
  refine w_range0D (Lo := fun s : (List Int) => [(g + 3 + 8 + 2 + 1 + 1, .row 3 s.length), (g + 3 + 8 + 2 + 0, .cells [.sl (.id (g + 3 + 8 + 2 + 1 + 1)) 1 (s.map cI)])]) (R := fun x x2 s b s' => ∃ y yy, x = .i y ∧ x2 = .i yy ∧ coins_Now_r1 y yy s = some (b, s')) (s0 := ([] : List Int)) (sF := r6.2) (A := []) (A' := []) (L' := [(g + 3 + 8 + 2 + 1 + 1, .row 3 r6.2.length), (g + 3 + 8 + 2 + 0, .cells [.sl (.id (g + 3 + 8 + 2 + 1 + 1)) 1 (r6.2.map cI)])]) [(8, .ptr (g + 3 + 8 + 2 + 0) 0)] [0, 1] hS (by omega) rfl rfl rfl (.cons rfl (.cons rfl .nil)) (by decide) rfl kl_nil (fun _ _ => (kl_row (kl_cells kl_nil))) (fun s => (inb_st (ic_row (ic_cells (ci_cons (.inl (.inr ⟨_, _, _, _, _, rfl, List.mem_of_getElem? (i := 0) rfl, pures_map (fun x => (pl_cons (.v _) pl_nil))⟩)) ci_nil) ic_nil)) inb_nil)) (fun s H hH => (ai_cons (in_ptr hH 1 rfl) ai_nil)) (.k .nil) rfl (by decide) (by decide) rfl rfl ?_ (fun F Lx hk1 hnd1 hin1 hF1 h01 hf1 => W_coins_stood_c2 (Lo := Lx)  hk1 hnd1 hin1 (aF := coins_Now_r1) hF1 h01 (fun h => hf1 _ _ _ _ _ ⟨_, _, rfl, rfl, h⟩) hr6) fun H hS => ?_
  ·rintro x x2 v4 b s' ⟨y1, yy1, rfl, rfl, hM⟩
   refine ⟨rfl, fun H' g1 hf' hh' => ?_⟩
   have hS := St.start hf'
   change wpA _ _ _ _ (Fr.of [(22, .i yy1), (21, .i y1), (8, .ptr (g + 3 + 8 + 2 + 0) 0)]) _ _
   refine Rg 1 ?_
   refine Oa (.i yy1) ?_
   refine Ni ?_
   refine w_rasg (l3 := [(8, .ptr (g + 3 + 8 + 2 + 0) 0), (10, .i yy1)]) (.k (.k .nil)) hS (by omega) fun Hb H hS => ?_
   replace hS : St (fun i => i < g1 ∧ i ∉ ids [(g + 3 + 8 + 2 + 1 + 1, .row 3 v4.length), (g + 3 + 8 + 2 + 0, .cells [.sl (.id (g + 3 + 8 + 2 + 1 + 1)) 1 (v4.map cI)])]) Hb [(g + 3 + 8 + 2 + 1 + 1, .row 3 v4.length), (g + 3 + 8 + 2 + 0, .cells [.sl (.id (g + 3 + 8 + 2 + 1 + 1)) 1 (v4.map cI)])] H _ := hS
   refine r_block ?_
   refine Rg 5 ?_
   refine o_load (v := .sl (.id (g + 3 + 8 + 2 + 1 + 1)) 1 (v4.map cI)) 1 hS (by decide) rfl rfl .no (po ty_agg22 ty_sc22) ?_
   refine Om (.i yy1) ?_
   refine o_buildSlice (es := [[.i yy1]]) hS (by decide) ty_es22 ty_el22 rfl ty_ef22 rfl (by decide) (by omega) fun H hS => ?_
   obtain ⟨l5, hl5, hM⟩ := bindE hM
   refine o_append (xs := v4) (ys := ([yy1] : List Int)) (zs := l5) (f := cI) (L' := [(g1 + 1 + 2, .row 3 1), (g + 3 + 8 + 2 + 1 + 1, .row 3 l5.length), (g + 3 + 8 + 2 + 0, .cells [.sl (.id (g + 3 + 8 + 2 + 1 + 1)) 1 (v4.map cI)])]) 1 hS (by decide) rfl rfl rfl rfl .no ty_es22 ty_el22 ty_ef22 hl5 rfl fun H hS => ?_
   refine o_store (v := .sl (.id (g + 3 + 8 + 2 + 1 + 1)) 1 (l5.map cI)) (ns := [.sl (.id (g + 3 + 8 + 2 + 1 + 1)) 1 (l5.map cI)]) (L' := [(g1 + 1 + 2, .row 3 1), (g + 3 + 8 + 2 + 1 + 1, .row 3 l5.length), (g + 3 + 8 + 2 + 0, .cells [.sl (.id (g + 3 + 8 + 2 + 1 + 1)) 1 (l5.map cI)])]) 2 hS rfl rfl .no rfl rfl ty_var22 nlb rfl fun H hS => ?_
   refine Ni ?_
   refine r_blk_normal ?_
   injection hM with hM
   injection hM with hm1 hm2
   subst hm1 hm2
   exact w_rend (hS.keep [false, true, true] rfl)
  refine r_blk_normal ?_
  rcases bft (decide (r6.2.length ≤ 1048576)) with hb3 | hb3
  rotate_left
  ·exact nomatch (ifF hM hb3)
  replace hM := ifT hM hb3
  have hlen : r6.2.length ≤ 1048576 := of_decide_eq_true hb3
  obtain rfl := Option.some.inj hM
  have huq : InPlaceR Try.prog 71 3 (isort r6.2) (uniqF none (isort r6.2)) := by
   have := uniq_ints (isort r6.2) (by rw [(isort_perm r6.2).length_eq]; exact hlen)
   rwa [compact_uniq] at this
  refine w_nextS (l' := [(8, .ptr (g + 3 + 8 + 2 + 0) 0)]) (.k .nil) ?_
  exact snd_uniq (i := g + 3 + 8 + 2 + 0) (j := g + 3 + 8 + 2 + 1 + 1) (zs := r6.2) (ts := isort r6.2) (us := uniqF none (isort r6.2)) (by decide) (by decide) (by decide) (by decide) (by decide) (by decide) (by decide) (by decide) (by decide) rfl (hS.get (n := 1) rfl) (hS.get (n := 0) rfl) ty_sc22 (sort_ints _ hlen) huq (fun _ => rfl) rfl hC
theorem W_ref01_SameInts {n : Nat} {a0 : List Int} {a1 : List Int} {r : Bool} (hM : ref01_SameInts n a0 a1 = some r) : PureSat Try.prog 34 [.sl .no 1 (a0.map cI), .sl .no 1 (a1.map cI)] (.b r) := by
 refine pure_of_wp mixed Try.func34 rfl (by decide) Try.ntmps34 (by simp) ?pure fun H0 g hf => ?_
 case pure => exact .v _
 rw [frame0_of]
 change wpA _ _ _ _ (Fr.of [(0, .sl .no 1 (a0.map cI)), (1, .sl .no 1 (a1.map cI))]) H0 g
 have hS := St.start hf
 refine Sq ?_
 refine Rg 1 ?_
 refine Oa (.b false) ?_
 refine Ni ?_
 refine Ws ?_
 refine Sq ?_
 refine Sq ?_
 refine Rg 5 ?_
 refine Om (.sl .no 1 (a0.map cI)) ?_
 refine o_len (n := a0.length) (by decide) rfl (List.length_map _) ty_isl22 ?_
 refine Om (.sl .no 1 (a1.map cI)) ?_
 refine o_len (n := a1.length) (by decide) rfl (List.length_map _) ty_isl22 ?_
 refine Oi (.b ((a0.length : Int) != (a1.length : Int))) ?_
 refine Ni ?_
 refine Ws ?_
 rcases bft ((a0.length : Int) != (a1.length : Int)) with hb1 | hb1
 ·replace hM := ifT hM hb1
  refine Ct hb1 ?_
  refine Sq ?_
  refine Rg 1 ?_
  refine Oa (.b false) ?_
  refine Ni ?_
  refine Ws ?_
  refine r_ret ?_
  refine r_then_ret ?_
  refine w_end (x := .b false) (f := fun r => .b r) (.inr rfl) ?_ (.refl _) (Option.some.inj hM) hS
  exact (res_one (res_tmp (x := .b false) rfl))
 ·replace hM := ifF hM hb1
  refine Cf hb1 ?_
  refine r_skip ?_
  refine Ws ?_
  refine w_join (J := Unit) (fun j => []) (fun j H' g' => St (· < g) H0 [] H' g' ∧ ref01_SameInts_j1 = some r) ?_ ?_
  ·rintro _ H g1 ⟨hS, hM⟩
   change wpA _ _ _ _ (Fr.of []) _ _
   replace hS : St (· < g) H0 [] H g1 := hS
   replace hM : ref01_SameInts_j1 = some r := hM
   refine Sq ?_
   refine Rg 1 ?_
   refine Oa (.b true) ?_
   refine Ni ?_
   refine Ws ?_
   refine r_ret ?_
   refine w_end (x := .b true) (f := fun r => .b r) (.inr rfl) ?_ (.refl _) (Option.some.inj hM) hS
   exact (res_one (res_tmp (x := .b true) rfl))
  ·refine Sq ?_
   refine Rg 1 ?_
   refine Oa (.i 0) ?_
   refine Ni ?_
   refine Ws ?_
   refine r_block ?_
   refine w_loop (V := Int) (fun v => [(0, .sl .no 1 (a0.map cI)), (1, .sl .no 1 (a1.map cI)), (5, .i v)]) (fun v m2 H' g' => St (· < g) H0 [] H' g' ∧ ref01_SameInts_l1 a0 a1 m2 v = some r) (n := n) 0 (.k (.k (.k .nil))) ⟨(hS.keep [] rfl).up (by omega), hM⟩ ?_
   rintro v2 m2 H g2 ⟨hS, hM⟩
   obtain _ | m2 := m2
   ·exact nomatch (show none = some _ from hM)
   change wpA _ _ _ _ (Fr.of [(0, .sl .no 1 (a0.map cI)), (1, .sl .no 1 (a1.map cI)), (5, .i v2)]) _ _
   replace hS : St (· < g) H0 [] H g2 := hS
   replace hM : ref01_SameInts_l1_b a0 a1 (ref01_SameInts_l1 a0 a1 m2) v2 = some r := hM
   refine Sq ?_
   refine Sq ?_
   refine Rg 4 ?_
   refine Om (.i v2) ?_
   refine Om (.sl .no 1 (a0.map cI)) ?_
   refine o_len (n := a0.length) (by decide) rfl (List.length_map _) ty_isl22 ?_
   refine Oi (.b (decide (v2 < (a0.length : Int)))) ?_
   refine Ni ?_
   refine Ws ?_
   rcases bft (decide (v2 < (a0.length : Int))) with hb3 | hb3
   ·replace hM := ifT hM hb3
    refine Ct hb3 ?_
    refine r_skip ?_
    refine Ws ?_
    refine Sq ?_
    refine r_block ?_
    refine Sq ?_
    have hS0 := hS
    refine r_draw (n := 9) rfl (by kernel_rfl) ?_
    refine Om (.sl .no 1 (a0.map cI)) ?_
    refine Om (.i v2) ?_
    obtain ⟨x4, hx4, hM⟩ := bindE hM
    refine o_index (xs := a0) (f := cI) (z := v2) (u := x4) (by decide) rfl rfl ty_es22 hx4 ?_
    refine Olp (.i x4) ty_agg3 ty_sc3 ?_
    refine Om (.sl .no 1 (a1.map cI)) ?_
    refine Om (.i v2) ?_
    obtain ⟨x5, hx5, hM⟩ := bindE hM
    refine o_index (xs := a1) (f := cI) (z := v2) (u := x5) (by decide) rfl rfl ty_es22 hx5 ?_
    refine Olp (.i x5) ty_agg3 ty_sc3 ?_
    refine Oi (.b (x4 != x5)) ?_
    refine Ni ?_
    refine Ws ?_
    rcases bft (x4 != x5) with hb6 | hb6
    ·replace hM := ifT hM hb6
     refine Ct hb6 ?_
     refine Sq ?_
     refine Rg 1 ?_
     refine Oa (.b false) ?_
     refine Ni ?_
     refine Ws ?_
     refine r_ret ?_
     refine r_blk_ret ?_
     refine r_then_ret ?_
     refine w_round_ret ?_
     refine r_blk_ret ?_
     refine w_goto_ret ?_
     refine w_end (x := .b false) (f := fun r => .b r) (.inr rfl) ?_ (.refl _) (Option.some.inj hM) hS
     exact (res_one (res_tmp (x := .b false) rfl))
    ·replace hM := ifF hM hb6
     refine Cf hb6 ?_
     refine r_skip ?_
     refine r_blk_normal ?_
     refine Ws ?_
     refine Rg 3 ?_
     refine Om (.i v2) ?_
     refine Oi (.i (w64 (v2 + 1))) ?_
     refine Oa (.i (w64 (v2 + 1))) ?_
     refine Ni ?_
     exact w_round (w64 (v2 + 1)) (Nat.lt_succ_self _) (.k (.k (.k .nil))) ⟨(hS.keep [] rfl).up (by omega), hM⟩
   ·replace hM := ifF hM hb3
    refine Cf hb3 ?_
    refine r_exit ?_
    refine r_then_exit ?_
    refine w_round_exit ?_
    refine r_blk_exit ?_
    exact w_goto () .nil ⟨(hS.keep [] rfl).up (by omega), hM⟩
theorem W_coins_wheel_isPlace {a0 : Wheel_} {a1 : Int} {r : Bool} (hM : coins_wheel_isPlace a0 a1 = some r) : PureSat Try.prog 75 [.agg (Wheel_.cells a0), .i a1] (.b r) := by
 refine pure_of_wp mixed Try.func75 rfl (by decide) Try.ntmps75 (by simp) ?pure fun H0 g hf => ?_
 case pure => exact .v _
 rw [frame0_of]
 change wpA _ _ _ _ (Fr.of [(0, .agg (Wheel_.cells a0)), (1, .i a1)]) H0 g
 have hS := St.start hf
 refine Sq ?_
 refine Rg 2 ?_
 refine o_box (v := .agg (Wheel_.cells a0)) (cs := (Wheel_.cells a0)) hS (by decide) rfl rfl (by omega) fun H hS => ?_
 refine Oa (.b false) ?_
 refine Ni ?_
 refine w_iceE (L' := []) 0 2 hS rfl rfl rfl fun H hS => ?_
 refine Ws ?_
 refine Sq ?_
 refine Rg 7 ?_
 refine Om (.i a1) ?_
 refine Of ((Wheel_.cells a0)) ty_fo71_0 ?_
 refine Of ((Wheel_.cells a0)) ty_fo24_0 ?_
 refine Olp (.i a0.Wheel.Round) ty_agg3 ty_sc3 ?_
 refine Oi (.i (w64 (a0.Wheel.Round - 1))) ?_
 obtain ⟨r1, hr1, hM⟩ := bindE hM
 refine o_call (bs := [.i a1, .i 0, .i (w64 (a0.Wheel.Round - 1))]) (by decide) rfl rfl ((W_coins_within hr1).le (.k (.k (.k .nil)))) ?_
 refine Oa (.b r1) ?_
 refine Ni ?_
 refine Ws ?_
 refine r_ret ?_
 refine w_end (x := .b r1) (f := fun r => .b r) (.inr rfl) ?_ (.refl _) (Option.some.inj hM) hS
 exact (res_one (res_tmp (x := .b r1) rfl))
theorem W_slices_IndexFunc_int {S : Type} {Lo : S → BL} (hk : ∀ s s', KinL (Lo s) (Lo s')) (hnd : ∀ s, (ids (Lo s)).Nodup) (hin : ∀ s, InB In (Lo s)) {aF : Int → S → Option (Bool × S)} {f0 : AV} (hF : ∀ s H, Has H (Lo s) → In H f0) (h0 : cellsOf f0 = some [f0]) (hf : ∀ {x0 : Int} {s : S} {r : Bool × S}, aF x0 s = some r → CSat Try.prog f0 [.i x0] (Lo s) (.b r.1) (Lo r.2)) {n : Nat} {a0 : List Int} {st : S} {r : Int × S} (hM : slices_IndexFunc_int n aF a0 st = some r) : HSat Try.prog 123 [.sl .no 1 (a0.map cI), f0] (Lo st) (.i r.1) (Lo r.2) := by
 have hnd0 : ∀ s, (ids (Lo s)).Nodup := fun s => hnd s
 refine hsat_of_wp mixed Try.func123 rfl (by decide) Try.ntmps123 (by simp) (hk _ _) (hnd st) ?pure ?cells fun H0 g hf_ hp => ?_
 case pure => exact fun H _ => (show Go.AM.Pure _ from .v _).inH
 case cells => exact hin _
 rw [frame0_of]
 change wpA _ _ _ _ (Fr.of [(0, .sl .no 1 (a0.map cI)), (1, f0)]) H0 g
 have hS := St.startH (L := ([] ++ Lo st)) hf_ (hnd st) hp
 replace hS : St (fun i => i < g ∧ i ∉ ids (Lo st)) H0 ([] ++ Lo st) H0 g := hS
 refine Sq ?_
 refine Rg 1 ?_
 refine Oa (.i 0) ?_
 refine Ni ?_
 refine Ws ?_
 refine w_join (J := S) (fun j => []) (fun j H' g' => St (fun i => i < g ∧ i ∉ ids (Lo st)) H0 ([] ++ Lo j) H' g' ∧ slices_IndexFunc_int_j1 j = some r) ?_ ?_
 ·rintro v1 H g1 ⟨hS, hM⟩
  change wpA _ _ _ _ (Fr.of []) _ _
  replace hS : St (fun i => i < g ∧ i ∉ ids (Lo st)) H0 ([] ++ Lo v1) H g1 := hS
  replace hM : slices_IndexFunc_int_j1 v1 = some r := hM
  refine Sq ?_
  refine Rg 1 ?_
  refine Oa (.i (-1)) ?_
  refine Ni ?_
  refine Ws ?_
  refine r_ret ?_
  refine w_endS (x := .i (-1)) (f := fun r => .i r.1) (fd := fun r => (Lo r.2)) (.inr rfl) ?_ (.refl _) (Option.some.inj hM) hS 0 rfl
  exact (res_one (res_tmp (x := .i (-1)) rfl))
 ·refine Sq ?_
  refine Rg 3 ?_
  refine Om (.sl .no 1 (a0.map cI)) ?_
  refine o_len (n := a0.length) (by decide) rfl (List.length_map _) ty_isl22 ?_
  refine Om (.i 0) ?_
  refine Ni ?_
  refine Ws ?_
  refine r_block ?_
  refine w_loop (V := Int × S) (fun v => [(0, .sl .no 1 (a0.map cI)), (1, f0), (7, .i (a0.length : Int)), (8, .i v.1)]) (fun v m3 H' g' => St (fun i => i < g ∧ i ∉ ids (Lo st)) H0 ([] ++ Lo v.2) H' g' ∧ slices_IndexFunc_int_l1 a0 aF m3 v.1 v.2 = some r) (n := n) (0, st) (.k (.k (.k (.k .nil)))) ⟨(hS.keep [] rfl).up (by omega), hM⟩ ?_
  rintro ⟨v3, v4⟩ m3 H g3 ⟨hS, hM⟩
  obtain _ | m3 := m3
  ·exact nomatch (show none = some _ from hM)
  change wpA _ _ _ _ (Fr.of [(0, .sl .no 1 (a0.map cI)), (1, f0), (7, .i (a0.length : Int)), (8, .i v3)]) _ _
  replace hS : St (fun i => i < g ∧ i ∉ ids (Lo st)) H0 ([] ++ Lo v4) H g3 := hS
  replace hM : slices_IndexFunc_int_l1_b a0 aF (slices_IndexFunc_int_l1 a0 aF m3) v3 v4 = some r := hM
  refine Sq ?_
  refine Rg 1 ?_
  refine Oi (.b (decide (v3 < (a0.length : Int)))) ?_
  refine Ni ?_
  refine Ws ?_
  refine Sq ?_
  rcases bft (decide (v3 < (a0.length : Int))) with hb5 | hb5
  ·replace hM := ifT hM hb5
   refine Ct hb5 ?_
   refine r_skip ?_
   refine Ws ?_
   refine Sq ?_
   refine r_block ?_
   refine Sq ?_
   refine Rg 2 ?_
   refine Om (.i v3) ?_
   refine Oa (.i v3) ?_
   refine Ni ?_
   refine Ws ?_
   refine Sq ?_
   refine Rg 6 ?_
   refine Om (f0) ?_
   refine Om (.sl .no 1 (a0.map cI)) ?_
   refine Om (.i v3) ?_
   obtain ⟨x6, hx6, hM⟩ := bindE hM
   refine o_index (xs := a0) (f := cI) (z := v3) (u := x6) (by decide) rfl rfl ty_es22 hx6 ?_
   refine Olp (.i x6) ty_agg3 ty_sc3 ?_
   obtain ⟨r7, hr7, hM⟩ := bindE hM
   replace hS : St (fun i => i < g ∧ i ∉ ids (Lo st)) H0 ([] ++ Lo v4) _ _ := hS
   refine o_state (bs := [.i x6]) (.inl rfl) hS (by decide) rfl rfl ((hf hr7).le (.k .nil)) (hk _ _).ids (by omega) fun H hS => ?_
   refine Ni ?_
   refine Ws ?_
   rcases bft r7.1 with hb8 | hb8
   ·replace hM := ifT hM hb8
    refine Ct hb8 ?_
    refine Sq ?_
    refine Rg 2 ?_
    refine Om (.i v3) ?_
    refine Oa (.i v3) ?_
    refine Ni ?_
    refine Ws ?_
    refine r_ret ?_
    refine r_blk_ret ?_
    refine r_then_ret ?_
    refine w_round_ret ?_
    refine r_blk_ret ?_
    refine w_goto_ret ?_
    refine w_endS (x := .i v3) (f := fun r => .i r.1) (fd := fun r => (Lo r.2)) (.inr rfl) ?_ (.refl _) (Option.some.inj hM) hS 0 rfl
    exact (res_one (res_tmp (x := .i v3) rfl))
   ·replace hM := ifF hM hb8
    refine Cf hb8 ?_
    refine r_skip ?_
    refine r_blk_normal ?_
    refine Ws ?_
    refine Rg 2 ?_
    refine Oi (.i (w64 (v3 + 1))) ?_
    refine Om (.i (w64 (v3 + 1))) ?_
    refine Ni ?_
    exact w_round (w64 (v3 + 1), r7.2) (Nat.lt_succ_self _) (.k (.k (.k (.k .nil)))) ⟨(hS.keep [] rfl).up (by omega), hM⟩
  ·replace hM := ifF hM hb5
   refine Cf hb5 ?_
   refine r_exit ?_
   refine r_then_exit ?_
   refine w_round_exit ?_
   refine r_blk_exit ?_
   exact w_goto v4 .nil ⟨(hS.keep [] rfl).up (by omega), hM⟩
theorem W_slices_ContainsFunc_int {S : Type} {Lo : S → BL} (hk : ∀ s s', KinL (Lo s) (Lo s')) (hnd : ∀ s, (ids (Lo s)).Nodup) (hin : ∀ s, InB In (Lo s)) {aF : Int → S → Option (Bool × S)} {f0 : AV} (hF : ∀ s H, Has H (Lo s) → In H f0) (h0 : cellsOf f0 = some [f0]) (hf : ∀ {x0 : Int} {s : S} {r : Bool × S}, aF x0 s = some r → CSat Try.prog f0 [.i x0] (Lo s) (.b r.1) (Lo r.2)) {n : Nat} {a0 : List Int} {st : S} {r : Bool × S} (hM : slices_ContainsFunc_int n aF a0 st = some r) : HSat Try.prog 106 [.sl .no 1 (a0.map cI), f0] (Lo st) (.b r.1) (Lo r.2) := by
 have hnd0 : ∀ s, (ids (Lo s)).Nodup := fun s => hnd s
 refine hsat_of_wp mixed Try.func106 rfl (by decide) Try.ntmps106 (by simp) (hk _ _) (hnd st) ?pure ?cells fun H0 g hf_ hp => ?_
 case pure => exact fun H _ => (show Go.AM.Pure _ from .v _).inH
 case cells => exact hin _
 rw [frame0_of]
 change wpA _ _ _ _ (Fr.of [(0, .sl .no 1 (a0.map cI)), (1, f0)]) H0 g
 have hS := St.startH (L := ([] ++ Lo st)) hf_ (hnd st) hp
 replace hS : St (fun i => i < g ∧ i ∉ ids (Lo st)) H0 ([] ++ Lo st) H0 g := hS
 refine Sq ?_
 refine Rg 1 ?_
 refine Oa (.b false) ?_
 refine Ni ?_
 refine Ws ?_
 refine Sq ?_
 refine Rg 5 ?_
 refine Om (.sl .no 1 (a0.map cI)) ?_
 refine Om (f0) ?_
 obtain ⟨r1, hr1, hM⟩ := bindE hM
 replace hS : St (fun i => i < g ∧ i ∉ ids (Lo st)) H0 ([] ++ Lo st) _ _ := hS
 refine o_stateH (bs := [.sl .no 1 (a0.map cI), f0]) (.inl rfl) hS (by decide) rfl rfl ((W_slices_IndexFunc_int (Lo := Lo)  hk hnd0 hin (aF := aF) hF h0 hf hr1).le (.k (.k .nil))) (hk _ _).ids (by omega) fun H hS => ?_
 refine Oi (.b (decide (r1.1 ≥ 0))) ?_
 refine Oa (.b (decide (r1.1 ≥ 0))) ?_
 refine Ni ?_
 refine Ws ?_
 refine r_ret ?_
 refine w_endS (x := .b (decide (r1.1 ≥ 0))) (f := fun r => .b r.1) (fd := fun r => (Lo r.2)) (.inr rfl) ?_ (.refl _) (Option.some.inj hM) hS 0 rfl
 exact (res_one (res_tmp (x := .b (decide (r1.1 ≥ 0))) rfl))
theorem W_coins_all_int_c1 {S : Type} {Lo : S → BL} (hk : ∀ s s', KinL (Lo s) (Lo s')) (hnd : ∀ s, (ids (Lo s)).Nodup) (hin : ∀ s, InB In (Lo s)) {aF : Int → S → Option (Bool × S)} {f0 : AV} (hF : ∀ s H, Has H (Lo s) → In H f0) (h0 : cellsOf f0 = some [f0]) (hf : ∀ {x0 : Int} {s : S} {r : Bool × S}, aF x0 s = some r → CSat Try.prog f0 [.i x0] (Lo s) (.b r.1) (Lo r.2)) {a0 : Int} {st : S} {r : Bool × S} (hM : coins_all_int_c1 aF a0 st = some r) : HSat Try.prog 107 [.i a0, .ep [f0]] (Lo st) (.b r.1) (Lo r.2) := by
 have hnd0 : ∀ s, (ids (Lo s)).Nodup := fun s => hnd s
 refine hsat_of_wp mixed Try.func107 rfl (by decide) Try.ntmps107 (by simp) (hk _ _) (hnd st) ?pure ?cells fun H0 g hf_ hp => ?_
 case pure => exact fun H _ => (show Go.AM.Pure _ from .v _).inH
 case cells => exact hin _
 rw [frame0_of]
 change wpA _ _ _ _ (Fr.of [(0, .i a0), (1, .ep [f0])]) H0 g
 have hS := St.startH (L := ([] ++ Lo st)) hf_ (hnd st) hp
 replace hS : St (fun i => i < g ∧ i ∉ ids (Lo st)) H0 ([] ++ Lo st) H0 g := hS
 refine Sq ?_
 refine Rg 1 ?_
 refine Oa (.b false) ?_
 refine Ni ?_
 refine Ws ?_
 refine Sq ?_
 refine Rg 5 ?_
 refine Olp (f0) ty_agg102 ty_sc102 ?_
 refine Om (.i a0) ?_
 obtain ⟨r1, hr1, hM⟩ := bindE hM
 replace hS : St (fun i => i < g ∧ i ∉ ids (Lo st)) H0 ([] ++ Lo st) _ _ := hS
 refine o_state (bs := [.i a0]) (.inl rfl) hS (by decide) rfl rfl ((hf hr1).le (.k .nil)) (hk _ _).ids (by omega) fun H hS => ?_
 refine o_not (e := r1.1) (by decide) rfl ?_
 refine Oa (.b (!r1.1)) ?_
 refine Ni ?_
 refine Ws ?_
 refine r_ret ?_
 refine w_endS (x := .b (!r1.1)) (f := fun r => .b r.1) (fd := fun r => (Lo r.2)) (.inr rfl) ?_ (.refl _) (Option.some.inj hM) hS 0 rfl
 exact (res_one (res_tmp (x := .b (!r1.1)) rfl))
theorem W_coins_all_int {S : Type} {Lo : S → BL} (hk : ∀ s s', KinL (Lo s) (Lo s')) (hnd : ∀ s, (ids (Lo s)).Nodup) (hin : ∀ s, InB In (Lo s)) {aF : Int → S → Option (Bool × S)} {f0 : AV} (hF : ∀ s H, Has H (Lo s) → In H f0) (h0 : cellsOf f0 = some [f0]) (hf : ∀ {x0 : Int} {s : S} {r : Bool × S}, aF x0 s = some r → CSat Try.prog f0 [.i x0] (Lo s) (.b r.1) (Lo r.2)) {n : Nat} {a0 : List Int} {st : S} {r : Bool × S} (hM : coins_all_int n aF a0 st = some r) : HSat Try.prog 76 [.sl .no 1 (a0.map cI), f0] (Lo st) (.b r.1) (Lo r.2) := by
 have hnd0 : ∀ s, (ids (Lo s)).Nodup := fun s => hnd s
 refine hsat_of_wp mixed Try.func76 rfl (by decide) Try.ntmps76 (by simp) (hk _ _) (hnd st) ?pure ?cells fun H0 g hf_ hp => ?_
 case pure => exact fun H _ => (show Go.AM.Pure _ from .v _).inH
 case cells => exact hin _
 rw [frame0_of]
 change wpA _ _ _ _ (Fr.of [(0, .sl .no 1 (a0.map cI)), (1, f0)]) H0 g
 have hS := St.startH (L := ([] ++ Lo st)) hf_ (hnd st) hp
 replace hS : St (fun i => i < g ∧ i ∉ ids (Lo st)) H0 ([] ++ Lo st) H0 g := hS
 refine Sq ?_
 refine Rg 2 ?_
 refine o_box (v := f0) (cs := [f0]) hS (by decide) rfl h0 (by omega) fun H hS => ?_
 refine Oa (.b false) ?_
 refine Ni ?_
 refine w_iceE (L' := ([] ++ Lo st)) 0 3 hS rfl rfl rfl fun H hS => ?_
 refine Ws ?_
 refine w_join (J := Bool × S) (fun j => [(4, .b j.1)]) (fun j H' g' => St (fun i => i < g ∧ i ∉ ids (Lo st)) H0 ([] ++ Lo j.2) H' g' ∧ coins_all_int_j1 j.1 j.2 = some r) ?_ ?_
 ·rintro ⟨v1, v2⟩ H g1 ⟨hS, hM⟩
  change wpA _ _ _ _ (Fr.of [(4, .b v1)]) _ _
  replace hS : St (fun i => i < g ∧ i ∉ ids (Lo st)) H0 ([] ++ Lo v2) H g1 := hS
  replace hM : coins_all_int_j1 v1 v2 = some r := hM
  refine r_ret ?_
  refine w_endS (x := .b v1) (f := fun r => .b r.1) (fd := fun r => (Lo r.2)) (.inr rfl) ?_ (.refl _) (Option.some.inj hM) hS 0 rfl
  exact (res_one (res_tmp (x := .b v1) rfl))
 ·refine Rg 10 ?_
  refine Om (.sl .no 1 (a0.map cI)) ?_
  refine o_len (n := a0.length) (by decide) rfl (List.length_map _) ty_isl22 ?_
  refine Oi (.b (decide ((a0.length : Int) ≤ 20))) ?_
  refine Om (.b (decide ((a0.length : Int) ≤ 20))) ?_
  rcases bft (decide ((a0.length : Int) ≤ 20)) with hb3 | hb3
  ·replace hM := ifT hM hb3
   refine Oy (want := true) hb3 ?_
   refine Om (.sl .no 1 (a0.map cI)) ?_
   refine Oy (want := true) hb3 ?_
   refine o_makeFunc (first := []) (cap := [.ep [f0]]) (by decide) rfl rfl ?_
   refine Oy (want := true) hb3 ?_
   obtain ⟨r4, hr4, hM⟩ := bindE hM
   replace hS : St (fun i => i < g ∧ i ∉ ids (Lo st)) H0 ([] ++ Lo st) _ _ := hS
   refine o_stateH (bs := [.sl .no 1 (a0.map cI), .fn (.func 107) [] [.ep [f0]]]) (.inl rfl) hS (by decide) rfl rfl ((W_slices_ContainsFunc_int (Lo := Lo)  hk hnd0 hin (aF := (coins_all_int_c1 aF)) (fun s H hH => (.fn _ _ _ ai_nil (ai_cons (.ep _ (ai_cons (hF _ H hH) ai_nil)) ai_nil))) rfl (fun h => csat_hv (W_coins_all_int_c1 (Lo := Lo)  hk hnd0 hin hF h0 hf h)) hr4).le (.k (.k .nil))) (hk _ _).ids (by omega) fun H hS => ?_
   refine Oy (want := true) hb3 ?_
   refine o_not (e := r4.1) (by decide) rfl ?_
   refine Pt (.b (!r4.1)) hb3 ?_
   refine Oa (.b (!r4.1)) ?_
   refine Ni ?_
   exact w_goto ((!r4.1), r4.2) (.k .nil) ⟨(hS.keep [] rfl).up (by omega), hM⟩
  ·replace hM := ifF hM hb3
   refine On (want := true) hb3 ?_
   refine On (want := true) hb3 ?_
   refine On (want := true) hb3 ?_
   refine On (want := true) hb3 ?_
   refine Pf (.b false) hb3 ?_
   refine Oa (.b false) ?_
   refine Ni ?_
   exact w_goto (false, st) (.k .nil) ⟨(hS.keep [] rfl).up (by omega), hM⟩
theorem W_coins_wheel_isAct {a0 : Wheel_} {a1 : Int} {r : Bool} (hM : coins_wheel_isAct a0 a1 = some r) : PureSat Try.prog 77 [.agg (Wheel_.cells a0), .i a1] (.b r) := by
 refine pure_of_wp mixed Try.func77 rfl (by decide) Try.ntmps77 (by simp) ?pure fun H0 g hf => ?_
 case pure => exact .v _
 rw [frame0_of]
 change wpA _ _ _ _ (Fr.of [(0, .agg (Wheel_.cells a0)), (1, .i a1)]) H0 g
 have hS := St.start hf
 refine Sq ?_
 refine Rg 2 ?_
 refine o_box (v := .agg (Wheel_.cells a0)) (cs := (Wheel_.cells a0)) hS (by decide) rfl rfl (by omega) fun H hS => ?_
 refine Oa (.b false) ?_
 refine Ni ?_
 refine w_iceE (L' := []) 0 2 hS rfl rfl rfl fun H hS => ?_
 refine Ws ?_
 refine w_join (J := Bool) (fun j => [(4, .b j)]) (fun j H' g' => St (· < g) H0 [] H' g' ∧ coins_wheel_isAct_j1 j = some r) ?_ ?_
 ·rintro v1 H g1 ⟨hS, hM⟩
  change wpA _ _ _ _ (Fr.of [(4, .b v1)]) _ _
  replace hS : St (· < g) H0 [] H g1 := hS
  replace hM : coins_wheel_isAct_j1 v1 = some r := hM
  refine r_ret ?_
  refine w_end (x := .b v1) (f := fun r => .b r) (.inr rfl) ?_ (.refl _) (Option.some.inj hM) hS
  exact (res_one (res_tmp (x := .b v1) rfl))
 ·refine Rg 8 ?_
  refine Om (.i a1) ?_
  refine Oi (.b (a1 == (-1))) ?_
  refine Om (.b (a1 == (-1))) ?_
  rcases bft (a1 == (-1)) with hb2 | hb2
  ·replace hM := ifT hM hb2
   refine On (want := false) hb2 ?_
   refine On (want := false) hb2 ?_
   refine On (want := false) hb2 ?_
   refine Pt (.b true) hb2 ?_
   refine Oa (.b true) ?_
   refine Ni ?_
   exact w_goto true (.k .nil) ⟨(hS.keep [] rfl).up (by omega), hM⟩
  ·replace hM := ifF hM hb2
   refine Oy (want := false) hb2 ?_
   refine Olg (.agg (Wheel_.cells a0)) ty_agg71 ?_
   refine Oy (want := false) hb2 ?_
   refine Om (.i a1) ?_
   refine Oy (want := false) hb2 ?_
   obtain ⟨r3, hr3, hM⟩ := bindE hM
   refine o_call (bs := [.agg (Wheel_.cells a0), .i a1]) (by decide) rfl rfl ((W_coins_wheel_isKind hr3).le (.k (.k .nil))) ?_
   refine Pf (.b r3) hb2 ?_
   refine Oa (.b r3) ?_
   refine Ni ?_
   exact w_goto r3 (.k .nil) ⟨(hS.keep [] rfl).up (by omega), hM⟩
theorem W_coins_Run_c1 {p1 : Nat} (hnd : [p1].Nodup) {n : Nat} {a0 : Wheel_} {a1 : Stand} {a2 : List Int} {r : Bool} (hM : coins_Run_c1 n a0 a1 a2 = some r) : HSat Try.prog 74 [.agg (Wheel_.cells a0), .ptr p1 0, .ep [.sl .no 1 (a2.map cI)]] [(p1, .cells (Stand.cells a1))] (.b r) [(p1, .cells (Stand.cells a1))] := by
 refine hsat_of_wp mixed Try.func74 rfl (by decide) Try.ntmps74 (by simp) (kl_cells kl_nil) hnd ?pure ?cells fun H0 g hf_ hp => ?_
 case pure => exact fun H _ => (show Go.AM.Pure _ from .v _).inH
 case cells => exact (inb_st (ic_cells (ci_cons (.inl (.inl (.v _))) (ci_cons (.inl (.inl (.v _))) ci_nil)) ic_nil) inb_nil)
 rw [frame0_of]
 change wpA _ _ _ _ (Fr.of [(0, .agg (Wheel_.cells a0)), (1, .ptr p1 0), (2, .ep [.sl .no 1 (a2.map cI)])]) H0 g
 have hS := St.startH (L := [(p1, .cells (Stand.cells a1))]) hf_ hnd hp
 replace hS : St (fun i => i < g ∧ i ∉ ids [(p1, .cells (Stand.cells a1))]) H0 [(p1, .cells (Stand.cells a1))] H0 g := hS
 refine Sq ?_
 refine Rg 2 ?_
 refine o_box (v := .agg (Wheel_.cells a0)) (cs := (Wheel_.cells a0)) hS (by decide) rfl rfl (by omega) fun H hS => ?_
 refine Oa (.b false) ?_
 refine Ni ?_
 refine w_iceE (L' := [(p1, .cells (Stand.cells a1))]) 0 3 hS rfl rfl rfl fun H hS => ?_
 refine Ws ?_
 refine w_join (J := Bool) (fun j => [(4, .b j)]) (fun j H' g' => St (fun i => i < g ∧ i ∉ ids [(p1, .cells (Stand.cells a1))]) H0 [(p1, .cells (Stand.cells a1))] H' g' ∧ coins_Run_c1_j1 j = some r) ?_ ?_
 ·rintro v1 H g1 ⟨hS, hM⟩
  change wpA _ _ _ _ (Fr.of [(4, .b v1)]) _ _
  replace hS : St (fun i => i < g ∧ i ∉ ids [(p1, .cells (Stand.cells a1))]) H0 [(p1, .cells (Stand.cells a1))] H g1 := hS
  replace hM : coins_Run_c1_j1 v1 = some r := hM
  refine r_ret ?_
  refine w_endS (x := .b v1) (f := fun r => .b r) (fd := fun r => [(p1, .cells (Stand.cells a1))]) (.inr rfl) ?_ (.refl _) (Option.some.inj hM) hS 0 rfl
  exact (res_one (res_tmp (x := .b v1) rfl))
 ·refine Rg 16 ?_
  refine Olg (.agg (Wheel_.cells a0)) ty_agg71 ?_
  refine o_fieldP (by decide) ty_fo57_0 rfl ?_
  refine o_load (v := .i a1.Place) 0 hS (by decide) rfl rfl .no (po ty_agg3 ty_sc3) ?_
  obtain ⟨r2, hr2, hM⟩ := bindE hM
  refine o_call (bs := [.agg (Wheel_.cells a0), .i a1.Place]) (by decide) rfl rfl ((W_coins_wheel_isPlace hr2).le (.k (.k .nil))) ?_
  refine Om (.b r2) ?_
  rcases bft r2 with hb3 | hb3
  ·replace hM := ifT hM hb3
   refine Oy (want := true) hb3 ?_
   refine o_fieldP (by decide) ty_fo57_1 rfl ?_
   refine Oy (want := true) hb3 ?_
   refine o_load (v := .i a1.Credit) 0 hS (by decide) rfl rfl .no (po ty_agg3 ty_sc3) ?_
   refine Oy (want := true) hb3 ?_
   obtain ⟨r4, hr4, hM⟩ := bindE hM
   refine o_call (bs := [.i a1.Credit, .i 0, .i 20]) (by decide) rfl rfl ((W_coins_within hr4).le (.k (.k (.k .nil)))) ?_
   refine Pt (.b r4) hb3 ?_
   refine Om (.b r4) ?_
   rcases bft r4 with hb5 | hb5
   ·replace hM := ifT hM hb5
    refine Oy (want := true) hb5 ?_
    refine Olp (.sl .no 1 (a2.map cI)) ty_agg22 ty_sc22 ?_
    refine Oy (want := true) hb5 ?_
    refine Olg (.agg (Wheel_.cells a0)) ty_agg71 ?_
    refine Oy (want := true) hb5 ?_
    refine o_makeFunc (first := [.agg (Wheel_.cells a0)]) (cap := []) (by decide) rfl rfl ?_
    refine Oy (want := true) hb5 ?_
    obtain ⟨r6, hr6, hM⟩ := bindE hM
    refine o_call (bs := [.sl .no 1 (a2.map cI), .fn (.func 77) [.agg (Wheel_.cells a0)] []]) (by decide) rfl rfl (pure_of_hsat ((W_coins_all_int (Lo := (fun (_ : Unit) => []))  (fun _ _ => kl_nil) (fun _ => List.nodup_nil) (fun _ => inb_nil) (aF := (fun (x0 : Int) (_ : Unit) => (coins_wheel_isAct a0 x0).map fun y => (y, ()))) (fun _ H hH => (.fn _ _ _ (ai_cons (show Go.AM.Pure _ from .agg _ (pl_cons (.v _) (pl_cons (.sl _ _ (pures_map (fun x => (pl_cons (.v _) pl_nil)))) (pl_cons (.sl _ _ (pures_map (fun x => (pl_cons (.v _) pl_nil)))) pl_nil)))).inH ai_nil) ai_nil)) rfl (fun h => csat_val (W_coins_wheel_isAct (pure_some h))) hr6).le (.k (.k .nil)))) ?_
    refine Pt (.b r6.1) hb5 ?_
    refine Oa (.b r6.1) ?_
    refine Ni ?_
    exact w_goto r6.1 (.k .nil) ⟨(hS.keep [true] rfl).up (by omega), hM⟩
   ·replace hM := ifF hM hb5
    refine On (want := true) hb5 ?_
    refine On (want := true) hb5 ?_
    refine On (want := true) hb5 ?_
    refine On (want := true) hb5 ?_
    refine Pf (.b false) hb5 ?_
    refine Oa (.b false) ?_
    refine Ni ?_
    exact w_goto false (.k .nil) ⟨(hS.keep [true] rfl).up (by omega), hM⟩
  ·replace hM := ifF hM hb3
   refine On (want := true) hb3 ?_
   refine On (want := true) hb3 ?_
   refine On (want := true) hb3 ?_
   refine Pf (.b false) hb3 ?_
   refine Om (.b false) ?_
   refine Og ?_
   refine Og ?_
   refine Og ?_
   refine Og ?_
   refine o_pickF (v := .b false) (e := false) (by decide) rfl rfl rfl ?_
   refine Oa (.b false) ?_
   refine Ni ?_
   exact w_goto false (.k .nil) ⟨(hS.keep [true] rfl).up (by omega), hM⟩
theorem W_coins_Run {n : Nat} {a0 : Wheel} {a1 : Stand} {a2 : List Int} {r : Stand × Int × Int} (hM : coins_Run n a0 a1 a2 = some r) : PureSat Try.prog 40 [.agg (Wheel.cells a0), .agg (Stand.cells a1), .sl .no 1 (a2.map cI)] (.tup [.agg [.i r.1.Place, .i r.1.Credit], .i r.2.1, .i r.2.2]) := by
 refine pure_of_wp mixed Try.func40 rfl (by decide) Try.ntmps40 (by simp) ?pure fun H0 g hf => ?_
 case pure => exact .tup _ (pl_cons (.agg _ (pl_cons (.v _) (pl_cons (.v _) pl_nil))) (pl_cons (.v _) (pl_cons (.v _) pl_nil)))
 rw [frame0_of]
 change wpA _ _ _ _ (Fr.of [(0, .agg (Wheel.cells a0)), (1, .agg (Stand.cells a1)), (2, .sl .no 1 (a2.map cI))]) H0 g
 have hS := St.start hf
 refine Sq ?_
 refine Rg 6 ?_
 refine o_box (v := .agg (Wheel.cells a0)) (cs := (Wheel.cells a0)) hS (by decide) rfl rfl (by omega) fun H hS => ?_
 refine o_box (v := .agg (Stand.cells a1)) (cs := (Stand.cells a1)) hS (by decide) rfl rfl (by omega) fun H hS => ?_
 refine o_box (v := .sl .no 1 (a2.map cI)) (cs := [.sl .no 1 (a2.map cI)]) hS (by decide) rfl rfl (by omega) fun H hS => ?_
 refine o_alloc hS (by decide) ty_zero57 (by omega) fun H hS => ?_
 refine Oa (.i 0) ?_
 refine Oa (.i 0) ?_
 refine Ni ?_
 refine w_iceE (L' := [(g + 3, .cells [.i 0, .i 0]), (g + 2, .cells [.sl .no 1 (a2.map cI)]), (g + 1, .cells (Stand.cells a1))]) 3 3 hS rfl rfl rfl fun H hS => ?_
 refine w_iceE (L' := [(g + 3, .cells [.i 0, .i 0]), (g + 1, .cells (Stand.cells a1))]) 1 5 hS rfl rfl rfl fun H hS => ?_
 refine Ws ?_
 refine Sq ?_
 refine Rg 9 ?_
 refine Olg (.agg (Wheel.cells a0)) ty_agg24 ?_
 refine o_makeFunc (first := []) (cap := [.ptr (g + 1) 0, .ep [.sl .no 1 (a2.map cI)]]) (by decide) rfl rfl ?_
 obtain ⟨r1, hr1, hM⟩ := bindE hM
 have hndr1 := hS.nd_at (ns := [1]) (M := [(g + 1, .cells (Stand.cells a1))]) (M' := [(g + 1, .cells (Stand.cells a1))]) (.cons rfl .nil) (by decide)
 have hncr1 := hS.nd_at (ns := [1]) (M := [(g + 1, .cells (Stand.cells a1))]) (M' := [(g + 1, .cells (Stand.cells a1))]) (.cons rfl .nil) (by decide)
 refine o_hsat (bs := [.agg (Wheel.cells a0), .fn (.func 74) [] [.ptr (g + 1) 0, .ep [.sl .no 1 (a2.map cI)]]]) (M := [(g + 1, .cells (Stand.cells a1))]) (M' := [(g + 1, .cells (Stand.cells a1))]) (L' := [(g + 3, .cells [.i 0, .i 0]), (g + 1, .cells (Stand.cells a1))]) [1] (.inl rfl) hS (by decide) rfl rfl ((W_coins_open (Lo := (fun (_ : Unit) => [(g + 1, .cells (Stand.cells a1))]))  (fun _ _ => (kl_cells kl_nil)) (fun _ => hndr1) (fun s => (inb_st (ic_cells (ci_cons (.inl (.inl (.v _))) (ci_cons (.inl (.inl (.v _))) ci_nil)) ic_nil) inb_nil)) (aF := (fun (x0 : Wheel_) (_ : Unit) => (coins_Run_c1 n x0 a1 a2).map fun y => (y, ()))) (fun s H hH => (.fn _ _ _ ai_nil (ai_cons (in_ptr hH 0 rfl) (ai_cons (.ep _ (ai_cons (show Go.AM.Pure _ from .sl _ _ (pures_map (fun x => (pl_cons (.v _) pl_nil)))).inH ai_nil)) ai_nil)))) rfl (fun h => csat_hv (W_coins_Run_c1 (p1 := g + 1)  hncr1 (pure_some h))) hr1).le (.k (.k .nil))) (.cons rfl .nil) rfl (by omega) fun H hS => ?_
 refine Om (.tup [.agg (Wheel_.cells r1.1.1), .i r1.1.2]) ?_
 refine Ox (.agg (Wheel_.cells r1.1.1)) ?_
 refine Ox (.i r1.1.2) ?_
 refine o_alloc hS (by decide) ty_zero71 (by omega) fun H hS => ?_
 refine o_store (v := .agg (Wheel_.cells r1.1.1)) (ns := (Wheel_.cells r1.1.1)) (L' := [(g + 6 + 6, .cells (Wheel_.cells r1.1.1)), (g + 3, .cells [.i 0, .i 0]), (g + 1, .cells (Stand.cells a1))]) 0 hS rfl rfl .no rfl rfl ty_var71 nlb rfl fun H hS => ?_
 refine Oa (.i r1.1.2) ?_
 refine Ni ?_
 refine w_iceE (L' := [(g + 3, .cells [.i 0, .i 0]), (g + 1, .cells (Stand.cells a1))]) 0 9 hS rfl rfl rfl fun H hS => ?_
 refine Ws ?_
 refine Sq ?_
 refine Sq ?_
 refine Rg 2 ?_
 refine Om (.i r1.1.2) ?_
 refine Oi (.b (r1.1.2 != 0)) ?_
 refine Ni ?_
 refine Ws ?_
 rcases bft (r1.1.2 != 0) with hb2 | hb2
 ·replace hM := ifT hM hb2
  refine Ct hb2 ?_
  refine Sq ?_
  refine Rg 5 ?_
  refine o_build (cs := [.i 0, .i 0]) (by decide) ty_zero57 ty_pl57 rfl ?_
  refine Om (.i r1.1.2) ?_
  refine o_store (v := .agg [.i 0, .i 0]) (ns := [.i 0, .i 0]) (L' := [(g + 3, .cells [.i 0, .i 0]), (g + 1, .cells (Stand.cells a1))]) 0 hS rfl rfl .no rfl rfl ty_var57 nlb rfl fun H hS => ?_
  refine Oa (.i 0) ?_
  refine Oa (.i r1.1.2) ?_
  refine Ni ?_
  replace hS := hS.keep (L' := [(g + 3, .cells [.i 0, .i 0])]) [true, false] rfl
  refine Ws ?_
  refine r_ret ?_
  refine r_then_ret ?_
  refine w_end (x := .tup [.agg [.i 0, .i 0], .i 0, .i r1.1.2]) (f := fun r => .tup [.agg [.i r.1.Place, .i r.1.Credit], .i r.2.1, .i r.2.2]) (.inr rfl) ?_ (.refl _) (Option.some.inj hM) hS
  exact (res_three (res_cell (x := .agg [.i 0, .i 0]) 0 hS rfl rfl (pg ty_agg57)) (res_tmp (x := .i 0) rfl) (res_tmp (x := .i r1.1.2) rfl))
 ·replace hM := ifF hM hb2
  refine Cf hb2 ?_
  refine r_skip ?_
  refine Ws ?_
  refine w_join (J := Int × Int × Int) (fun j => [(4, .ptr (g + 1) 0), (6, .ptr (g + 3) 0), (7, .i j.1)]) (fun j H' g' => St (· < g) H0 [(g + 3, .cells [.i 0, .i 0]), (g + 1, .cells [.i j.2.1, .i j.2.2])] H' g' ∧ coins_Run_j1 j.1 j.2.1 j.2.2 = some r) ?_ ?_
  ·rintro ⟨v3, v4, v5⟩ H g1 ⟨hS, hM⟩
   change wpA _ _ _ _ (Fr.of [(4, .ptr (g + 1) 0), (6, .ptr (g + 3) 0), (7, .i v3)]) _ _
   replace hS : St (· < g) H0 [(g + 3, .cells [.i 0, .i 0]), (g + 1, .cells [.i v4, .i v5])] H g1 := hS
   replace hM : coins_Run_j1 v3 v4 v5 = some r := hM
   refine Sq ?_
   refine Rg 5 ?_
   refine o_load (v := .agg [.i v4, .i v5]) 1 hS (by decide) rfl rfl .no (pg ty_agg57) ?_
   refine Om (.i v3) ?_
   refine o_store (v := .agg [.i v4, .i v5]) (ns := [.i v4, .i v5]) (L' := [(g + 3, .cells [.i v4, .i v5]), (g + 1, .cells [.i v4, .i v5])]) 0 hS rfl rfl .no rfl rfl ty_var57 nlb rfl fun H hS => ?_
   refine Oa (.i v3) ?_
   refine Oa (.i 0) ?_
   refine Ni ?_
   replace hS := hS.keep (L' := [(g + 3, .cells [.i v4, .i v5])]) [true, false] rfl
   refine Ws ?_
   refine r_ret ?_
   refine w_end (x := .tup [.agg [.i v4, .i v5], .i v3, .i 0]) (f := fun r => .tup [.agg [.i r.1.Place, .i r.1.Credit], .i r.2.1, .i r.2.2]) (.inr rfl) ?_ (.refl _) (Option.some.inj hM) hS
   exact (res_three (res_cell (x := .agg [.i v4, .i v5]) 0 hS rfl rfl (pg ty_agg57)) (res_tmp (x := .i v3) rfl) (res_tmp (x := .i 0) rfl))
  ·refine Sq ?_
   refine Rg 3 ?_
   refine Olp (.sl .no 1 (a2.map cI)) ty_agg22 ty_sc22 ?_
   refine o_len (n := a2.length) (by decide) rfl (List.length_map _) ty_isl22 ?_
   refine Om (.i 0) ?_
   refine Ni ?_
   refine Ws ?_
   refine r_block ?_
   refine w_loop (V := Int × Int × Int × Int) (fun v => [(4, .ptr (g + 1) 0), (6, .ptr (g + 3) 0), (7, .i v.1), (9, .ep (Wheel_.cells r1.1.1)), (22, .sl .no 1 (a2.map cI)), (23, .i (a2.length : Int)), (24, .i v.2.1)]) (fun v m3 H' g' => St (· < g) H0 [(g + 3, .cells [.i 0, .i 0]), (g + 1, .cells [.i v.2.2.1, .i v.2.2.2])] H' g' ∧ coins_Run_l1 n a2 r1 m3 v.1 v.2.1 v.2.2.1 v.2.2.2 = some r) (n := n) (0, 0, a1.Place, a1.Credit) (.k (.k (.k (.k (.k (.k (.k .nil))))))) ⟨(hS.keep [true, true] rfl).up (by omega), hM⟩ ?_
   rintro ⟨v8, v9, v10, v11⟩ m3 H g3 ⟨hS, hM⟩
   obtain _ | m3 := m3
   ·exact nomatch (show none = some _ from hM)
   change wpA _ _ _ _ (Fr.of [(4, .ptr (g + 1) 0), (6, .ptr (g + 3) 0), (7, .i v8), (9, .ep (Wheel_.cells r1.1.1)), (22, .sl .no 1 (a2.map cI)), (23, .i (a2.length : Int)), (24, .i v9)]) _ _
   replace hS : St (· < g) H0 [(g + 3, .cells [.i 0, .i 0]), (g + 1, .cells [.i v10, .i v11])] H g3 := hS
   replace hM : coins_Run_l1_b n a2 r1 (coins_Run_l1 n a2 r1 m3) v8 v9 v10 v11 = some r := hM
   refine Sq ?_
   refine Rg 1 ?_
   refine Oi (.b (decide (v9 < (a2.length : Int)))) ?_
   refine Ni ?_
   refine Ws ?_
   refine Sq ?_
   rcases bft (decide (v9 < (a2.length : Int))) with hb12 | hb12
   ·replace hM := ifT hM hb12
    refine Ct hb12 ?_
    refine r_skip ?_
    refine Ws ?_
    refine Sq ?_
    refine r_block ?_
    refine Sq ?_
    refine Rg 3 ?_
    obtain ⟨x13, hx13, hM⟩ := bindE hM
    refine o_index (xs := a2) (f := cI) (z := v9) (u := x13) (by decide) rfl rfl ty_es22 hx13 ?_
    refine Olp (.i x13) ty_agg3 ty_sc3 ?_
    refine Oa (.i x13) ?_
    refine Ni ?_
    refine Ws ?_
    refine w_join (J := Int) (fun j => [(4, .ptr (g + 1) 0), (6, .ptr (g + 3) 0), (7, .i j), (9, .ep (Wheel_.cells r1.1.1)), (11, .i x13), (22, .sl .no 1 (a2.map cI)), (23, .i (a2.length : Int)), (24, .i v9)]) (fun j H' g' => St (· < g) H0 [(g + 3, .cells [.i 0, .i 0]), (g + 1, .cells [.i v10, .i v11])] H' g' ∧ coins_Run_j2 n (coins_Run_l1 n a2 r1 m3) r1 v9 v10 v11 x13 j = some r) ?_ ?_
    ·rintro v14 H g4 ⟨hS, hM⟩
     change wpA _ _ _ _ (Fr.of [(4, .ptr (g + 1) 0), (6, .ptr (g + 3) 0), (7, .i v14), (9, .ep (Wheel_.cells r1.1.1)), (11, .i x13), (22, .sl .no 1 (a2.map cI)), (23, .i (a2.length : Int)), (24, .i v9)]) _ _
     replace hS : St (· < g) H0 [(g + 3, .cells [.i 0, .i 0]), (g + 1, .cells [.i v10, .i v11])] H g4 := hS
     replace hM : coins_Run_j2 n (coins_Run_l1 n a2 r1 m3) r1 v9 v10 v11 x13 v14 = some r := hM
     refine Rg 5 ?_
     refine Olg (.agg (Wheel_.cells r1.1.1)) ty_agg71 ?_
     refine o_load (v := .agg [.i v10, .i v11]) 1 hS (by decide) rfl rfl .no (pg ty_agg57) ?_
     refine Om (.i x13) ?_
     obtain ⟨r15, hr15, hM⟩ := bindE hM
     refine o_call (bs := [.agg (Wheel_.cells r1.1.1), .agg [.i v10, .i v11], .i x13]) (by decide) rfl rfl ((W_coins_wheel_act hr15).le (.k (.k (.k .nil)))) ?_
     refine o_store (v := .agg (Stand.cells r15)) (ns := (Stand.cells r15)) (L' := [(g + 3, .cells [.i 0, .i 0]), (g + 1, .cells (Stand.cells r15))]) 1 hS rfl rfl .no rfl rfl ty_var57 nlb rfl fun H hS => ?_
     refine Ni ?_
     refine r_blk_normal ?_
     refine Ws ?_
     refine Rg 2 ?_
     refine Oi (.i (w64 (v9 + 1))) ?_
     refine Om (.i (w64 (v9 + 1))) ?_
     refine Ni ?_
     exact w_round (v14, w64 (v9 + 1), r15.Place, r15.Credit) (Nat.lt_succ_self _) (.k (.k (.k (.k (.k (.k (.k .nil))))))) ⟨(hS.keep [true, true] rfl).up (by omega), hM⟩
    ·refine w_join (J := Bool) (fun j => [(4, .ptr (g + 1) 0), (6, .ptr (g + 3) 0), (7, .i v8), (9, .ep (Wheel_.cells r1.1.1)), (11, .i x13), (22, .sl .no 1 (a2.map cI)), (23, .i (a2.length : Int)), (24, .i v9), (34, .b j)]) (fun j H' g' => St (· < g) H0 [(g + 3, .cells [.i 0, .i 0]), (g + 1, .cells [.i v10, .i v11])] H' g' ∧ coins_Run_j3 n (coins_Run_l1 n a2 r1 m3) r1 v8 v9 v10 v11 x13 j = some r) ?_ ?_
     ·rintro v16 H g5 ⟨hS, hM⟩
      change wpA _ _ _ _ (Fr.of [(4, .ptr (g + 1) 0), (6, .ptr (g + 3) 0), (7, .i v8), (9, .ep (Wheel_.cells r1.1.1)), (11, .i x13), (22, .sl .no 1 (a2.map cI)), (23, .i (a2.length : Int)), (24, .i v9), (34, .b v16)]) _ _
      replace hS : St (· < g) H0 [(g + 3, .cells [.i 0, .i 0]), (g + 1, .cells [.i v10, .i v11])] H g5 := hS
      replace hM : coins_Run_j3 n (coins_Run_l1 n a2 r1 m3) r1 v8 v9 v10 v11 x13 v16 = some r := hM
      rcases bft v16 with hb17 | hb17
      ·replace hM := ifT hM hb17
       refine Ct hb17 ?_
       refine Rg 3 ?_
       refine Om (.i v8) ?_
       refine Oi (.i (w64 (v8 + 1))) ?_
       refine Oa (.i (w64 (v8 + 1))) ?_
       refine Ni ?_
       exact w_goto (w64 (v8 + 1)) (.k (.k (.k (.k (.k (.k (.k (.k .nil)))))))) ⟨(hS.keep [true, true] rfl).up (by omega), hM⟩
      ·replace hM := ifF hM hb17
       refine Cf hb17 ?_
       refine r_skip ?_
       exact w_goto v8 (.k (.k (.k (.k (.k (.k (.k (.k .nil)))))))) ⟨(hS.keep [true, true] rfl).up (by omega), hM⟩
     ·refine Rg 7 ?_
      refine Om (.i x13) ?_
      refine Oi (.b (x13 == (-1))) ?_
      refine Om (.b (x13 == (-1))) ?_
      rcases bft (x13 == (-1)) with hb18 | hb18
      ·replace hM := ifT hM hb18
       refine Oy (want := true) hb18 ?_
       refine o_fieldP (by decide) ty_fo57_1 rfl ?_
       refine Oy (want := true) hb18 ?_
       refine o_load (v := .i v11) 1 hS (by decide) rfl rfl .no (po ty_agg3 ty_sc3) ?_
       refine Oy (want := true) hb18 ?_
       refine Oi (.b (decide (v11 > 0))) ?_
       refine Pt (.b (decide (v11 > 0))) hb18 ?_
       refine Ni ?_
       exact w_goto (decide (v11 > 0)) (.k (.k (.k (.k (.k (.k (.k (.k (.k .nil))))))))) ⟨(hS.keep [true, true] rfl).up (by omega), hM⟩
      ·replace hM := ifF hM hb18
       refine On (want := true) hb18 ?_
       refine On (want := true) hb18 ?_
       refine On (want := true) hb18 ?_
       refine Pf (.b false) hb18 ?_
       refine Ni ?_
       exact w_goto false (.k (.k (.k (.k (.k (.k (.k (.k (.k .nil))))))))) ⟨(hS.keep [true, true] rfl).up (by omega), hM⟩
   ·replace hM := ifF hM hb12
    refine Cf hb12 ?_
    refine r_exit ?_
    refine r_then_exit ?_
    refine w_round_exit ?_
    refine r_blk_exit ?_
    exact w_goto (v8, v10, v11) (.k (.k (.k .nil))) ⟨(hS.keep [true, true] rfl).up (by omega), hM⟩
theorem W_coins_Least {n : Nat} {a0 : Wheel} {a1 : List Int} {r : Int × Int} (hM : coins_Least n a0 a1 = some r) : PureSat Try.prog 45 [.agg (Wheel.cells a0), .sl .no 1 (a1.map cI)] (.tup [.i r.1, .i r.2]) := by
 refine pure_of_wp mixed Try.func45 rfl (by decide) Try.ntmps45 (by simp) ?pure fun H0 g hf => ?_
 case pure => exact .tup _ (pl_cons (.v _) (pl_cons (.v _) pl_nil))
 rw [frame0_of]
 change wpA _ _ _ _ (Fr.of [(0, .agg (Wheel.cells a0)), (1, .sl .no 1 (a1.map cI))]) H0 g
 have hS := St.start hf
 refine Sq ?_
 refine Rg 3 ?_
 refine o_box (v := .agg (Wheel.cells a0)) (cs := (Wheel.cells a0)) hS (by decide) rfl rfl (by omega) fun H hS => ?_
 refine Oa (.i 0) ?_
 refine Oa (.i 0) ?_
 refine Ni ?_
 refine w_iceE (L' := []) 0 2 hS rfl rfl rfl fun H hS => ?_
 refine Ws ?_
 refine Sq ?_
 refine Rg 11 ?_
 refine Olg (.agg (Wheel.cells a0)) ty_agg24 ?_
 refine Om (.sl .no 1 (a1.map cI)) ?_
 obtain ⟨r1, hr1, hM⟩ := bindE hM
 rcases bft r1.1.isSome with hb2 | hb2
 ·replace hM := ifT hM hb2
  obtain ⟨x3, hx3, hM⟩ := bindE hM
  refine o_newAt (bs := [.agg (Wheel.cells a0), .sl .no 1 (a1.map cI), .fn (.func 84) [] []]) (.inl rfl) hS (by decide) rfl rfl ((W_coins_seek_some (r := r1.2) (by rw [← hx3]; exact hr1)).le (.k (.k (.k .nil)))) (by omega) fun H hS hU => ?_
  refine Om (.tup [.ep (srchC x3 false (g + 3 + 11 + 19)), .agg (Spot_.cells r1.2.1), .i r1.2.2]) ?_
  refine Ox (.ep (srchC x3 false (g + 3 + 11 + 19))) ?_
  refine Ox (.agg (Spot_.cells r1.2.1)) ?_
  refine Ox (.i r1.2.2) ?_
  refine o_allocU hS hU (by decide) ty_zero90 (by omega) (by omega) (by omega) fun H hS hU => ?_
  refine Oa (.ep (srchC x3 false (g + 3 + 11 + 19))) ?_
  refine o_store (v := .agg (Spot_.cells r1.2.1)) (ns := (Spot_.cells r1.2.1)) (L' := [(g + 3 + 7, .cells (Spot_.cells r1.2.1)), (g + 3 + 11 + 19, .obj none (mapIs (mpv kvSpot_ ([] : List (Spot_ × Int)))))]) 0 hS rfl rfl .no rfl rfl ty_var90 nlb rfl fun H hS => ?_
  refine Oa (.i r1.2.2) ?_
  refine Ni ?_
  refine w_iceE (L' := [(g + 3 + 11 + 19, .obj none (mapIs (mpv kvSpot_ ([] : List (Spot_ × Int)))))]) 0 7 hS rfl rfl rfl fun H hS => ?_
  refine Ws ?_
  refine Sq ?_
  refine Sq ?_
  refine Rg 2 ?_
  refine Om (.i r1.2.2) ?_
  refine Oi (.b (r1.2.2 != 0)) ?_
  refine Ni ?_
  refine Ws ?_
  rcases bft (r1.2.2 != 0) with hb4 | hb4
  ·replace hM := ifT hM hb4
   refine Ct hb4 ?_
   refine Sq ?_
   refine Rg 3 ?_
   refine Om (.i r1.2.2) ?_
   refine Oa (.i 0) ?_
   refine Oa (.i r1.2.2) ?_
   refine Ni ?_
   replace hS := hS.keep (L' := []) [false] rfl
   refine Ws ?_
   refine r_ret ?_
   refine r_then_ret ?_
   refine w_end (x := .tup [.i 0, .i r1.2.2]) (f := fun r => .tup [.i r.1, .i r.2]) (.inr rfl) ?_ (.refl _) (Option.some.inj hM) hS
   exact (res_two (res_tmp (x := .i 0) rfl) (res_tmp (x := .i r1.2.2) rfl))
  ·replace hM := ifF hM hb4
   refine Cf hb4 ?_
   refine r_skip ?_
   refine Ws ?_
   refine Sq ?_
   refine Rg 5 ?_
   refine Om (.ep (srchC x3 false (g + 3 + 11 + 19))) ?_
   refine Olg (.agg (Spot_.cells r1.2.1)) ty_agg90 ?_
   obtain ⟨r5, hr5, hM⟩ := bindE hM
   have hndr5 := hS.nd_at (ns := [0]) (M := [(g + 3 + 11 + 19, .obj none (mapIs (mpv kvSpot_ ([] : List (Spot_ × Int)))))]) (M' := [(g + 3 + 11 + 19, .obj none (mapIs (mpv kvSpot_ r5.2)))]) (.cons rfl .nil) (by decide)
   refine o_hsat (bs := [.ep (srchC x3 false (g + 3 + 11 + 19)), .agg (Spot_.cells r1.2.1)]) (M := [(g + 3 + 11 + 19, .obj none (mapIs (mpv kvSpot_ ([] : List (Spot_ × Int)))))]) (M' := [(g + 3 + 11 + 19, .obj none (mapIs (mpv kvSpot_ r5.2)))]) (L' := [(g + 3 + 11 + 19, .obj none (mapIs (mpv kvSpot_ r5.2)))]) [0] (.inl rfl) hS (by decide) rfl rfl ((W_coins_search_buys (p1 := g + 3 + 11 + 19) hndr5 hr5).le (.k (.k .nil))) (.cons rfl .nil) rfl (by omega) fun H hS => ?_
   refine Oa (.i r5.1) ?_
   refine Oa (.i 0) ?_
   refine Ni ?_
   replace hS := hS.keep (L' := []) [false] rfl
   refine Ws ?_
   refine r_ret ?_
   refine w_end (x := .tup [.i r5.1, .i 0]) (f := fun r => .tup [.i r.1, .i r.2]) (.inr rfl) ?_ (.refl _) (Option.some.inj hM) hS
   exact (res_two (res_tmp (x := .i r5.1) rfl) (res_tmp (x := .i 0) rfl))
 ·replace hM := ifF hM hb2
  have hb2' : r1.1 = none := by rw [Option.isSome_eq_false_iff, Option.isNone_iff_eq_none] at hb2; exact hb2
  refine o_call (bs := [.agg (Wheel.cells a0), .sl .no 1 (a1.map cI), .fn (.func 84) [] []]) (by decide) rfl rfl ((W_coins_seek_none (r := r1.2) (by rw [← hb2']; exact hr1)).le (.k (.k (.k .nil)))) ?_
  refine Om (.tup [.v (.pointer none), .agg (Spot_.cells r1.2.1), .i r1.2.2]) ?_
  refine Ox (.v (.pointer none)) ?_
  refine Ox (.agg (Spot_.cells r1.2.1)) ?_
  refine Ox (.i r1.2.2) ?_
  refine o_alloc hS (by decide) ty_zero90 (by omega) fun H hS => ?_
  refine Oa (.v (.pointer none)) ?_
  refine o_store (v := .agg (Spot_.cells r1.2.1)) (ns := (Spot_.cells r1.2.1)) (L' := [(g + 3 + 7, .cells (Spot_.cells r1.2.1))]) 0 hS rfl rfl .no rfl rfl ty_var90 nlb rfl fun H hS => ?_
  refine Oa (.i r1.2.2) ?_
  refine Ni ?_
  refine w_iceE (L' := []) 0 7 hS rfl rfl rfl fun H hS => ?_
  refine Ws ?_
  refine Sq ?_
  refine Sq ?_
  refine Rg 2 ?_
  refine Om (.i r1.2.2) ?_
  refine Oi (.b (r1.2.2 != 0)) ?_
  refine Ni ?_
  refine Ws ?_
  rcases bft (r1.2.2 != 0) with hb6 | hb6
  ·replace hM := ifT hM hb6
   refine Ct hb6 ?_
   refine Sq ?_
   refine Rg 3 ?_
   refine Om (.i r1.2.2) ?_
   refine Oa (.i 0) ?_
   refine Oa (.i r1.2.2) ?_
   refine Ni ?_
   refine Ws ?_
   refine r_ret ?_
   refine r_then_ret ?_
   refine w_end (x := .tup [.i 0, .i r1.2.2]) (f := fun r => .tup [.i r.1, .i r.2]) (.inr rfl) ?_ (.refl _) (Option.some.inj hM) hS
   exact (res_two (res_tmp (x := .i 0) rfl) (res_tmp (x := .i r1.2.2) rfl))
  ·replace hM := ifF hM hb6
   refine Cf hb6 ?_
   refine r_skip ?_
   refine Ws ?_
   refine Sq ?_
   refine Rg 5 ?_
   refine Om (.v (.pointer none)) ?_
   refine Olg (.agg (Spot_.cells r1.2.1)) ty_agg90 ?_
   exact nomatch (show none = some _ from hM)
theorem W_law01_Example {r : Wheel} (hM : law01_Example = some r) : PureSat Try.prog 56 [] (.agg [.i r.Round, .sl .no 1 (r.Notches.map cI), .sl .no 1 (r.Coins.map cI)]) := by
 refine pure_of_wp mixed Try.func56 rfl (by decide) Try.ntmps56 (by simp) ?pure fun H0 g hf => ?_
 case pure => exact .agg _ (pl_cons (.v _) (pl_cons (.sl _ _ (pures_map (fun x => (pl_cons (.v _) pl_nil)))) (pl_cons (.sl _ _ (pures_map (fun x => (pl_cons (.v _) pl_nil)))) pl_nil)))
 rw [frame0_of]
 change wpA _ _ _ _ (Fr.of []) H0 g
 have hS := St.start hf
 refine Sq ?_
 refine Rg 1 ?_
 refine o_alloc hS (by decide) ty_zero24 (by omega) fun H hS => ?_
 refine Ni ?_
 refine Ws ?_
 refine Sq ?_
 refine Rg 4 ?_
 refine o_buildSlice (es := [[.i 10], [.i 20], [.i 25]]) hS (by decide) ty_es22 ty_el22 rfl ty_ef22 rfl (by decide) (by omega) fun H hS => ?_
 refine o_buildSlice (es := [[.i 5], [.i 10], [.i 25]]) hS (by decide) ty_es22 ty_el22 rfl ty_ef22 rfl (by decide) (by omega) fun H hS => ?_
 refine o_build (cs := [.i 50, .sl (.id (g + 1 + 0)) 1 (([10, 20, 25] : List Int).map cI), .sl (.id (g + 1 + 1)) 1 (([5, 10, 25] : List Int).map cI)]) (by decide) ty_zero24 ty_pl24 rfl ?_
 refine o_store (v := .agg [.i 50, .sl (.id (g + 1 + 0)) 1 (([10, 20, 25] : List Int).map cI), .sl (.id (g + 1 + 1)) 1 (([5, 10, 25] : List Int).map cI)]) (ns := [.i 50, .sl (.id (g + 1 + 0)) 1 (([10, 20, 25] : List Int).map cI), .sl (.id (g + 1 + 1)) 1 (([5, 10, 25] : List Int).map cI)]) (L' := [(g + 1 + 1, .row 3 3), (g + 1 + 0, .row 3 3), (g + 0, .cells [.i 50, .sl (.id (g + 1 + 0)) 1 (([10, 20, 25] : List Int).map cI), .sl (.id (g + 1 + 1)) 1 (([5, 10, 25] : List Int).map cI)])]) 2 hS rfl rfl .no rfl rfl ty_var24 nlb rfl fun H hS => ?_
 refine Ni ?_
 refine w_next [(0, .ptr (g + 0) 0)] (.k .nil) ?_
 refine r_ret ?_
 refine w_end (x := .agg [.i 50, .sl (.id (g + 1 + 0)) 1 (([10, 20, 25] : List Int).map cI), .sl (.id (g + 1 + 1)) 1 (([5, 10, 25] : List Int).map cI)]) (f := fun r => .agg [.i r.Round, .sl .no 1 (r.Notches.map cI), .sl .no 1 (r.Coins.map cI)]) (.inr rfl) ?_ (.aggL (.k (.cons (.sl _ _ _) (.cons (.sl _ _ _) .nil)))) (Option.some.inj hM) hS
 exact (res_one (res_cell (x := .agg [.i 50, .sl (.id (g + 1 + 0)) 1 (([10, 20, 25] : List Int).map cI), .sl (.id (g + 1 + 1)) 1 (([5, 10, 25] : List Int).map cI)]) 2 hS rfl rfl (pg ty_agg24)))
theorem W_law01_works {n : Nat} {r : Bool} (hM : law01_works n = some r) : PureSat Try.prog 17 [] (.b r) := by
 refine pure_of_wp mixed Try.func17 rfl (by decide) Try.ntmps17 (by simp) ?pure fun H0 g hf => ?_
 case pure => exact .v _
 rw [frame0_of]
 change wpA _ _ _ _ (Fr.of []) H0 g
 have hS := St.start hf
 refine Sq ?_
 refine Rg 1 ?_
 refine Oa (.b false) ?_
 refine Ni ?_
 refine Ws ?_
 refine Sq ?_
 refine Rg 3 ?_
 obtain ⟨r1, hr1, hM⟩ := bindE hM
 refine o_call (bs := []) (by decide) rfl rfl ((W_law01_Example hr1).le .nil) ?_
 refine o_alloc hS (by decide) ty_zero24 (by omega) fun H hS => ?_
 refine o_store (v := .agg (Wheel.cells r1)) (ns := (Wheel.cells r1)) (L' := [(g + 1 + 1, .cells (Wheel.cells r1))]) 0 hS rfl rfl .no rfl rfl ty_var24 nlb rfl fun H hS => ?_
 refine Ni ?_
 refine w_iceE (L' := []) 0 1 hS rfl rfl rfl fun H hS => ?_
 refine Ws ?_
 refine Sq ?_
 refine Rg 12 ?_
 refine Olg (.agg (Wheel.cells r1)) ty_agg24 ?_
 refine o_build (cs := [.i 0, .i 0]) (by decide) ty_zero57 ty_pl57 rfl ?_
 refine o_buildSlice (es := [[.i 0], [.i (-1)], [.i 1], [.i (-1)], [.i 1]]) hS (by decide) ty_es22 ty_el22 rfl ty_ef22 rfl (by decide) (by omega) fun H hS => ?_
 obtain ⟨r2, hr2, hM⟩ := bindE hM
 refine o_call (bs := [.agg (Wheel.cells r1), .agg [.i 0, .i 0], .sl (.id (g + 1 + 3 + 2)) 1 (([0, (-1), 1, (-1), 1] : List Int).map cI)]) (by decide) rfl rfl ((W_coins_Run hr2).le (.k (.k (.cons (.sl _ _ _) .nil)))) ?_
 refine Om (.tup [.agg (Stand.cells r2.1), .i r2.2.1, .i r2.2.2]) ?_
 refine Ox (.agg (Stand.cells r2.1)) ?_
 refine Ox (.i r2.2.1) ?_
 refine Ox (.i r2.2.2) ?_
 refine o_alloc hS (by decide) ty_zero57 (by omega) fun H hS => ?_
 refine o_store (v := .agg (Stand.cells r2.1)) (ns := (Stand.cells r2.1)) (L' := [(g + 1 + 3 + 8, .cells (Stand.cells r2.1)), (g + 1 + 3 + 2, .row 3 5)]) 0 hS rfl rfl .no rfl rfl ty_var57 nlb rfl fun H hS => ?_
 refine Oa (.i r2.2.1) ?_
 refine Oa (.i r2.2.2) ?_
 refine Ni ?_
 refine w_iceE (L' := [(g + 1 + 3 + 2, .row 3 5)]) 0 2 hS rfl rfl rfl fun H hS => ?_
 replace hS := hS.keep (L' := []) [false] rfl
 refine Ws ?_
 refine Sq ?_
 refine Rg 8 ?_
 refine Olg (.agg (Wheel.cells r1)) ty_agg24 ?_
 refine o_buildSlice (es := [[.i 0], [.i 0], [.i 2]]) hS (by decide) ty_es22 ty_el22 rfl ty_ef22 rfl (by decide) (by omega) fun H hS => ?_
 obtain ⟨r3, hr3, hM⟩ := bindE hM
 refine o_call (bs := [.agg (Wheel.cells r1), .sl (.id (g + 1 + 3 + 12 + 1)) 1 (([0, 0, 2] : List Int).map cI)]) (by decide) rfl rfl ((W_coins_Most hr3).le (.k (.cons (.sl _ _ _) .nil))) ?_
 refine Om (.tup [.i r3.1, .i r3.2]) ?_
 refine Ox (.i r3.1) ?_
 refine Ox (.i r3.2) ?_
 refine Oa (.i r3.1) ?_
 refine Oa (.i r3.2) ?_
 refine Ni ?_
 replace hS := hS.keep (L' := []) [false] rfl
 refine Ws ?_
 refine Sq ?_
 refine Rg 8 ?_
 refine Olg (.agg (Wheel.cells r1)) ty_agg24 ?_
 refine o_buildSlice (es := [[.i 0], [.i 0], [.i 2]]) hS (by decide) ty_es22 ty_el22 rfl ty_ef22 rfl (by decide) (by omega) fun H hS => ?_
 obtain ⟨r4, hr4, hM⟩ := bindE hM
 refine o_call (bs := [.agg (Wheel.cells r1), .sl (.id (g + 1 + 3 + 12 + 8 + 1)) 1 (([0, 0, 2] : List Int).map cI)]) (by decide) rfl rfl ((W_coins_Least hr4).le (.k (.cons (.sl _ _ _) .nil))) ?_
 refine Om (.tup [.i r4.1, .i r4.2]) ?_
 refine Ox (.i r4.1) ?_
 refine Ox (.i r4.2) ?_
 refine Oa (.i r4.1) ?_
 refine Oa (.i r4.2) ?_
 refine Ni ?_
 replace hS := hS.keep (L' := []) [false] rfl
 refine Ws ?_
 refine Sq ?_
 refine Rg 7 ?_
 refine Olg (.agg (Wheel.cells r1)) ty_agg24 ?_
 obtain ⟨r5, hr5, hM⟩ := bindE hM
 refine o_call (bs := [.agg (Wheel.cells r1), .i 4]) (by decide) rfl rfl ((W_coins_Cheapest hr5).le (.k (.k .nil))) ?_
 refine Om (.tup [.i r5.1, .i r5.2]) ?_
 refine Ox (.i r5.1) ?_
 refine Ox (.i r5.2) ?_
 refine Oa (.i r5.1) ?_
 refine Oa (.i r5.2) ?_
 refine Ni ?_
 refine Ws ?_
 refine Sq ?_
 refine Rg 12 ?_
 refine o_buildSlice (es := [[.i 2], [.i 3]]) hS (by decide) ty_es22 ty_el22 rfl ty_ef22 rfl (by decide) (by omega) fun H hS => ?_
 refine o_buildSlice (es := [[.i 1], [.i 2]]) hS (by decide) ty_es22 ty_el22 rfl ty_ef22 rfl (by decide) (by omega) fun H hS => ?_
 refine o_build (cs := [.i 5, .sl (.id (g + 1 + 3 + 12 + 8 + 8 + 7 + 0)) 1 (([2, 3] : List Int).map cI), .sl (.id (g + 1 + 3 + 12 + 8 + 8 + 7 + 1)) 1 (([1, 2] : List Int).map cI)]) (by decide) ty_zero24 ty_pl24 rfl ?_
 refine o_build (cs := [.i 0, .i 0]) (by decide) ty_zero50 ty_pl50 rfl ?_
 refine o_build (cs := [.i 0, .i 1]) (by decide) ty_zero50 ty_pl50 rfl ?_
 refine o_buildSlice (es := [[.i 0, .i 0], [.i 0, .i 1]]) hS (by decide) ty_es45 ty_el45 rfl ty_ef45 rfl (by decide) (by omega) fun H hS => ?_
 obtain ⟨r6, hr6, hM⟩ := bindE hM
 refine o_call (bs := [.agg [.i 5, .sl (.id (g + 1 + 3 + 12 + 8 + 8 + 7 + 0)) 1 (([2, 3] : List Int).map cI), .sl (.id (g + 1 + 3 + 12 + 8 + 8 + 7 + 1)) 1 (([1, 2] : List Int).map cI)], .sl (.id (g + 1 + 3 + 12 + 8 + 8 + 7 + 5)) 2 (([(⟨0, 0⟩ : Seen), (⟨0, 1⟩ : Seen)] : List Seen).map Seen.cells)]) (by decide) rfl rfl ((W_coins_Now hr6).le (.cons (.aggL (.k (.cons (.sl _ _ _) (.cons (.sl _ _ _) .nil)))) (.cons (.sl _ _ _) .nil))) ?_
 refine Om (.tup [.sl .no 1 (r6.1.map cI), .i r6.2]) ?_
 refine Ox (.sl .no 1 (r6.1.map cI)) ?_
 refine Ox (.i r6.2) ?_
 refine Oa (.sl .no 1 (r6.1.map cI)) ?_
 refine Oa (.i r6.2) ?_
 refine Ni ?_
 replace hS := hS.keep (L' := []) [false, false, false] rfl
 refine Ws ?_
 refine w_join (J := Bool) (fun j => [(0, .b j)]) (fun j H' g' => St (· < g) H0 [] H' g' ∧ law01_works_j1 j = some r) ?_ ?_
 ·rintro v7 H g1 ⟨hS, hM⟩
  change wpA _ _ _ _ (Fr.of [(0, .b v7)]) _ _
  replace hS : St (· < g) H0 [] H g1 := hS
  replace hM : law01_works_j1 v7 = some r := hM
  refine r_ret ?_
  refine w_end (x := .b v7) (f := fun r => .b r) (.inr rfl) ?_ (.refl _) (Option.some.inj hM) hS
  exact (res_one (res_tmp (x := .b v7) rfl))
 ·refine Rg 45 ?_
  refine Om (.i r2.2.2) ?_
  refine Oi (.b (r2.2.2 == 0)) ?_
  refine Om (.b (r2.2.2 == 0)) ?_
  rcases bft (r2.2.2 == 0) with hb8 | hb8
  ·replace hM := ifT hM hb8
   refine Oy (want := true) hb8 ?_
   refine Om (.i r3.2) ?_
   refine Oy (want := true) hb8 ?_
   refine Oi (.b (r3.2 == 0)) ?_
   refine Pt (.b (r3.2 == 0)) hb8 ?_
   refine Om (.b (r3.2 == 0)) ?_
   rcases bft (r3.2 == 0) with hb9 | hb9
   ·replace hM := ifT hM hb9
    refine Oy (want := true) hb9 ?_
    refine Om (.i r4.2) ?_
    refine Oy (want := true) hb9 ?_
    refine Oi (.b (r4.2 == 0)) ?_
    refine Pt (.b (r4.2 == 0)) hb9 ?_
    refine Om (.b (r4.2 == 0)) ?_
    rcases bft (r4.2 == 0) with hb10 | hb10
    ·replace hM := ifT hM hb10
     refine Oy (want := true) hb10 ?_
     refine Om (.i r5.2) ?_
     refine Oy (want := true) hb10 ?_
     refine Oi (.b (r5.2 == 0)) ?_
     refine Pt (.b (r5.2 == 0)) hb10 ?_
     refine Om (.b (r5.2 == 0)) ?_
     rcases bft (r5.2 == 0) with hb11 | hb11
     ·replace hM := ifT hM hb11
      refine Oy (want := true) hb11 ?_
      refine Om (.i r6.2) ?_
      refine Oy (want := true) hb11 ?_
      refine Oi (.b (r6.2 == 0)) ?_
      refine Pt (.b (r6.2 == 0)) hb11 ?_
      refine Om (.b (r6.2 == 0)) ?_
      rcases bft (r6.2 == 0) with hb12 | hb12
      ·replace hM := ifT hM hb12
       refine Oy (want := true) hb12 ?_
       refine Olg (.agg (Stand.cells r2.1)) ty_agg57 ?_
       refine Oy (want := true) hb12 ?_
       refine o_build (cs := [.i 10, .i 1]) (by decide) ty_zero57 ty_pl57 rfl ?_
       refine Oy (want := true) hb12 ?_
       refine o_eqS (cs := (Stand.cells r2.1)) (ds := [.i 10, .i 1]) (e := ((r2.1.Place == 10) && ((r2.1.Credit == 1) && true))) (by decide) rfl rfl ty_flat57 rfl ?_
       refine Pt (.b ((r2.1.Place == 10) && ((r2.1.Credit == 1) && true))) hb12 ?_
       refine Om (.b ((r2.1.Place == 10) && ((r2.1.Credit == 1) && true))) ?_
       rcases bft ((r2.1.Place == 10) && ((r2.1.Credit == 1) && true)) with hb13 | hb13
       ·replace hM := ifT hM hb13
        refine Oy (want := true) hb13 ?_
        refine Om (.i r2.2.1) ?_
        refine Oy (want := true) hb13 ?_
        refine Oi (.b (r2.2.1 == 1)) ?_
        refine Pt (.b (r2.2.1 == 1)) hb13 ?_
        refine Om (.b (r2.2.1 == 1)) ?_
        rcases bft (r2.2.1 == 1) with hb14 | hb14
        ·replace hM := ifT hM hb14
         refine Oy (want := true) hb14 ?_
         refine Om (.i r3.1) ?_
         refine Oy (want := true) hb14 ?_
         refine Oi (.b (r3.1 == 6)) ?_
         refine Pt (.b (r3.1 == 6)) hb14 ?_
         refine Om (.b (r3.1 == 6)) ?_
         rcases bft (r3.1 == 6) with hb15 | hb15
         ·replace hM := ifT hM hb15
          refine Oy (want := true) hb15 ?_
          refine Om (.i r4.1) ?_
          refine Oy (want := true) hb15 ?_
          refine Oi (.b (r4.1 == 3)) ?_
          refine Pt (.b (r4.1 == 3)) hb15 ?_
          refine Om (.b (r4.1 == 3)) ?_
          rcases bft (r4.1 == 3) with hb16 | hb16
          ·replace hM := ifT hM hb16
           refine Oy (want := true) hb16 ?_
           refine Om (.i r5.1) ?_
           refine Oy (want := true) hb16 ?_
           refine Oi (.b (r5.1 == 35)) ?_
           refine Pt (.b (r5.1 == 35)) hb16 ?_
           refine Om (.b (r5.1 == 35)) ?_
           rcases bft (r5.1 == 35) with hb17 | hb17
           ·replace hM := ifT hM hb17
            refine Oy (want := true) hb17 ?_
            refine Om (.sl .no 1 (r6.1.map cI)) ?_
            refine Oy (want := true) hb17 ?_
            refine o_buildSlice (es := [[.i 2]]) hS (by decide) ty_es22 ty_el22 rfl ty_ef22 rfl (by decide) (by omega) fun H hS => ?_
            refine Oy (want := true) hb17 ?_
            obtain ⟨r18, hr18, hM⟩ := bindE hM
            refine o_call (bs := [.sl .no 1 (r6.1.map cI), .sl (.id (g + 1 + 3 + 12 + 8 + 8 + 7 + 12 + 41)) 1 (([2] : List Int).map cI)]) (by decide) rfl rfl ((W_ref01_SameInts hr18).le (.k (.cons (.sl _ _ _) .nil))) ?_
            refine Pt (.b r18) hb17 ?_
            refine Oa (.b r18) ?_
            refine Ni ?_
            exact w_goto r18 (.k .nil) ⟨(hS.keep [false] rfl).up (by omega), hM⟩
           ·replace hM := ifF hM hb17
            refine On (want := true) hb17 ?_
            refine On (want := true) hb17 ?_
            refine On (want := true) hb17 ?_
            refine Pf (.b false) hb17 ?_
            refine Oa (.b false) ?_
            refine Ni ?_
            exact w_goto false (.k .nil) ⟨(hS.keep [] rfl).up (by omega), hM⟩
          ·replace hM := ifF hM hb16
           refine On (want := true) hb16 ?_
           refine On (want := true) hb16 ?_
           refine Pf (.b false) hb16 ?_
           refine Om (.b false) ?_
           refine Og ?_
           refine Og ?_
           refine Og ?_
           refine o_pickF (v := .b false) (e := false) (by decide) rfl rfl rfl ?_
           refine Oa (.b false) ?_
           refine Ni ?_
           exact w_goto false (.k .nil) ⟨(hS.keep [] rfl).up (by omega), hM⟩
         ·replace hM := ifF hM hb15
          refine On (want := true) hb15 ?_
          refine On (want := true) hb15 ?_
          refine Pf (.b false) hb15 ?_
          refine Om (.b false) ?_
          refine Og ?_
          refine Og ?_
          refine o_pickF (v := .b false) (e := false) (by decide) rfl rfl rfl ?_
          refine Om (.b false) ?_
          refine Og ?_
          refine Og ?_
          refine Og ?_
          refine o_pickF (v := .b false) (e := false) (by decide) rfl rfl rfl ?_
          refine Oa (.b false) ?_
          refine Ni ?_
          exact w_goto false (.k .nil) ⟨(hS.keep [] rfl).up (by omega), hM⟩
        ·replace hM := ifF hM hb14
         refine On (want := true) hb14 ?_
         refine On (want := true) hb14 ?_
         refine Pf (.b false) hb14 ?_
         refine Om (.b false) ?_
         refine Og ?_
         refine Og ?_
         refine o_pickF (v := .b false) (e := false) (by decide) rfl rfl rfl ?_
         refine Om (.b false) ?_
         refine Og ?_
         refine Og ?_
         refine o_pickF (v := .b false) (e := false) (by decide) rfl rfl rfl ?_
         refine Om (.b false) ?_
         refine Og ?_
         refine Og ?_
         refine Og ?_
         refine o_pickF (v := .b false) (e := false) (by decide) rfl rfl rfl ?_
         refine Oa (.b false) ?_
         refine Ni ?_
         exact w_goto false (.k .nil) ⟨(hS.keep [] rfl).up (by omega), hM⟩
       ·replace hM := ifF hM hb13
        refine On (want := true) hb13 ?_
        refine On (want := true) hb13 ?_
        refine Pf (.b false) hb13 ?_
        refine Om (.b false) ?_
        refine Og ?_
        refine Og ?_
        refine o_pickF (v := .b false) (e := false) (by decide) rfl rfl rfl ?_
        refine Om (.b false) ?_
        refine Og ?_
        refine Og ?_
        refine o_pickF (v := .b false) (e := false) (by decide) rfl rfl rfl ?_
        refine Om (.b false) ?_
        refine Og ?_
        refine Og ?_
        refine o_pickF (v := .b false) (e := false) (by decide) rfl rfl rfl ?_
        refine Om (.b false) ?_
        refine Og ?_
        refine Og ?_
        refine Og ?_
        refine o_pickF (v := .b false) (e := false) (by decide) rfl rfl rfl ?_
        refine Oa (.b false) ?_
        refine Ni ?_
        exact w_goto false (.k .nil) ⟨(hS.keep [] rfl).up (by omega), hM⟩
      ·replace hM := ifF hM hb12
       refine On (want := true) hb12 ?_
       refine On (want := true) hb12 ?_
       refine On (want := true) hb12 ?_
       refine Pf (.b false) hb12 ?_
       refine Om (.b false) ?_
       refine Og ?_
       refine Og ?_
       refine o_pickF (v := .b false) (e := false) (by decide) rfl rfl rfl ?_
       refine Om (.b false) ?_
       refine Og ?_
       refine Og ?_
       refine o_pickF (v := .b false) (e := false) (by decide) rfl rfl rfl ?_
       refine Om (.b false) ?_
       refine Og ?_
       refine Og ?_
       refine o_pickF (v := .b false) (e := false) (by decide) rfl rfl rfl ?_
       refine Om (.b false) ?_
       refine Og ?_
       refine Og ?_
       refine o_pickF (v := .b false) (e := false) (by decide) rfl rfl rfl ?_
       refine Om (.b false) ?_
       refine Og ?_
       refine Og ?_
       refine Og ?_
       refine o_pickF (v := .b false) (e := false) (by decide) rfl rfl rfl ?_
       refine Oa (.b false) ?_
       refine Ni ?_
       exact w_goto false (.k .nil) ⟨(hS.keep [] rfl).up (by omega), hM⟩
     ·replace hM := ifF hM hb11
      refine On (want := true) hb11 ?_
      refine On (want := true) hb11 ?_
      refine Pf (.b false) hb11 ?_
      refine Om (.b false) ?_
      refine Og ?_
      refine Og ?_
      refine Og ?_
      refine o_pickF (v := .b false) (e := false) (by decide) rfl rfl rfl ?_
      refine Om (.b false) ?_
      refine Og ?_
      refine Og ?_
      refine o_pickF (v := .b false) (e := false) (by decide) rfl rfl rfl ?_
      refine Om (.b false) ?_
      refine Og ?_
      refine Og ?_
      refine o_pickF (v := .b false) (e := false) (by decide) rfl rfl rfl ?_
      refine Om (.b false) ?_
      refine Og ?_
      refine Og ?_
      refine o_pickF (v := .b false) (e := false) (by decide) rfl rfl rfl ?_
      refine Om (.b false) ?_
      refine Og ?_
      refine Og ?_
      refine o_pickF (v := .b false) (e := false) (by decide) rfl rfl rfl ?_
      refine Om (.b false) ?_
      refine Og ?_
      refine Og ?_
      refine Og ?_
      refine o_pickF (v := .b false) (e := false) (by decide) rfl rfl rfl ?_
      refine Oa (.b false) ?_
      refine Ni ?_
      exact w_goto false (.k .nil) ⟨(hS.keep [] rfl).up (by omega), hM⟩
    ·replace hM := ifF hM hb10
     refine On (want := true) hb10 ?_
     refine On (want := true) hb10 ?_
     refine Pf (.b false) hb10 ?_
     refine Om (.b false) ?_
     refine Og ?_
     refine Og ?_
     refine o_pickF (v := .b false) (e := false) (by decide) rfl rfl rfl ?_
     refine Om (.b false) ?_
     refine Og ?_
     refine Og ?_
     refine Og ?_
     refine o_pickF (v := .b false) (e := false) (by decide) rfl rfl rfl ?_
     refine Om (.b false) ?_
     refine Og ?_
     refine Og ?_
     refine o_pickF (v := .b false) (e := false) (by decide) rfl rfl rfl ?_
     refine Om (.b false) ?_
     refine Og ?_
     refine Og ?_
     refine o_pickF (v := .b false) (e := false) (by decide) rfl rfl rfl ?_
     refine Om (.b false) ?_
     refine Og ?_
     refine Og ?_
     refine o_pickF (v := .b false) (e := false) (by decide) rfl rfl rfl ?_
     refine Om (.b false) ?_
     refine Og ?_
     refine Og ?_
     refine o_pickF (v := .b false) (e := false) (by decide) rfl rfl rfl ?_
     refine Om (.b false) ?_
     refine Og ?_
     refine Og ?_
     refine Og ?_
     refine o_pickF (v := .b false) (e := false) (by decide) rfl rfl rfl ?_
     refine Oa (.b false) ?_
     refine Ni ?_
     exact w_goto false (.k .nil) ⟨(hS.keep [] rfl).up (by omega), hM⟩
   ·replace hM := ifF hM hb9
    refine On (want := true) hb9 ?_
    refine On (want := true) hb9 ?_
    refine Pf (.b false) hb9 ?_
    refine Om (.b false) ?_
    refine Og ?_
    refine Og ?_
    refine o_pickF (v := .b false) (e := false) (by decide) rfl rfl rfl ?_
    refine Om (.b false) ?_
    refine Og ?_
    refine Og ?_
    refine o_pickF (v := .b false) (e := false) (by decide) rfl rfl rfl ?_
    refine Om (.b false) ?_
    refine Og ?_
    refine Og ?_
    refine Og ?_
    refine o_pickF (v := .b false) (e := false) (by decide) rfl rfl rfl ?_
    refine Om (.b false) ?_
    refine Og ?_
    refine Og ?_
    refine o_pickF (v := .b false) (e := false) (by decide) rfl rfl rfl ?_
    refine Om (.b false) ?_
    refine Og ?_
    refine Og ?_
    refine o_pickF (v := .b false) (e := false) (by decide) rfl rfl rfl ?_
    refine Om (.b false) ?_
    refine Og ?_
    refine Og ?_
    refine o_pickF (v := .b false) (e := false) (by decide) rfl rfl rfl ?_
    refine Om (.b false) ?_
    refine Og ?_
    refine Og ?_
    refine o_pickF (v := .b false) (e := false) (by decide) rfl rfl rfl ?_
    refine Om (.b false) ?_
    refine Og ?_
    refine Og ?_
    refine Og ?_
    refine o_pickF (v := .b false) (e := false) (by decide) rfl rfl rfl ?_
    refine Oa (.b false) ?_
    refine Ni ?_
    exact w_goto false (.k .nil) ⟨(hS.keep [] rfl).up (by omega), hM⟩
  ·replace hM := ifF hM hb8
   refine On (want := true) hb8 ?_
   refine On (want := true) hb8 ?_
   refine Pf (.b false) hb8 ?_
   refine Om (.b false) ?_
   refine Og ?_
   refine Og ?_
   refine o_pickF (v := .b false) (e := false) (by decide) rfl rfl rfl ?_
   refine Om (.b false) ?_
   refine Og ?_
   refine Og ?_
   refine o_pickF (v := .b false) (e := false) (by decide) rfl rfl rfl ?_
   refine Om (.b false) ?_
   refine Og ?_
   refine Og ?_
   refine o_pickF (v := .b false) (e := false) (by decide) rfl rfl rfl ?_
   refine Om (.b false) ?_
   refine Og ?_
   refine Og ?_
   refine Og ?_
   refine o_pickF (v := .b false) (e := false) (by decide) rfl rfl rfl ?_
   refine Om (.b false) ?_
   refine Og ?_
   refine Og ?_
   refine o_pickF (v := .b false) (e := false) (by decide) rfl rfl rfl ?_
   refine Om (.b false) ?_
   refine Og ?_
   refine Og ?_
   refine o_pickF (v := .b false) (e := false) (by decide) rfl rfl rfl ?_
   refine Om (.b false) ?_
   refine Og ?_
   refine Og ?_
   refine o_pickF (v := .b false) (e := false) (by decide) rfl rfl rfl ?_
   refine Om (.b false) ?_
   refine Og ?_
   refine Og ?_
   refine o_pickF (v := .b false) (e := false) (by decide) rfl rfl rfl ?_
   refine Om (.b false) ?_
   refine Og ?_
   refine Og ?_
   refine Og ?_
   refine o_pickF (v := .b false) (e := false) (by decide) rfl rfl rfl ?_
   refine Oa (.b false) ?_
   refine Ni ?_
   exact w_goto false (.k .nil) ⟨(hS.keep [] rfl).up (by omega), hM⟩
theorem W_ref01_Copy {a0 : Wheel} {r : Wheel} (hM : ref01_Copy a0 = some r) : PureSat Try.prog 18 [.agg (Wheel.cells a0)] (.agg [.i r.Round, .sl .no 1 (r.Notches.map cI), .sl .no 1 (r.Coins.map cI)]) := by
 refine pure_of_wp mixed Try.func18 rfl (by decide) Try.ntmps18 (by simp) ?pure fun H0 g hf => ?_
 case pure => exact .agg _ (pl_cons (.v _) (pl_cons (.sl _ _ (pures_map (fun x => (pl_cons (.v _) pl_nil)))) (pl_cons (.sl _ _ (pures_map (fun x => (pl_cons (.v _) pl_nil)))) pl_nil)))
 rw [frame0_of]
 change wpA _ _ _ _ (Fr.of [(0, .agg (Wheel.cells a0))]) H0 g
 have hS := St.start hf
 refine Sq ?_
 refine Rg 2 ?_
 refine o_box (v := .agg (Wheel.cells a0)) (cs := (Wheel.cells a0)) hS (by decide) rfl rfl (by omega) fun H hS => ?_
 refine o_alloc hS (by decide) ty_zero24 (by omega) fun H hS => ?_
 refine Ni ?_
 refine w_iceE (L' := [(g + 1, .cells [.i 0, .sl .nil 0 [], .sl .nil 0 []])]) 1 1 hS rfl rfl rfl fun H hS => ?_
 refine Ws ?_
 refine Sq ?_
 have hS0 := hS
 refine r_draw (n := 12) rfl (by kernel_rfl) ?_
 refine Of ((Wheel.cells a0)) ty_fo24_0 ?_
 refine Olp (.i a0.Round) ty_agg3 ty_sc3 ?_
 refine o_buildSlice (es := []) hS (by decide) ty_es22 ty_el22 rfl ty_ef22 rfl (by decide) (by omega) fun H hS => ?_
 refine Of ((Wheel.cells a0)) ty_fo24_1 ?_
 refine Olp (.sl .no 1 (a0.Notches.map cI)) ty_agg22 ty_sc22 ?_
 obtain ⟨l1, hl1, hM⟩ := bindE hM
 refine o_append (xs := ([] : List Int)) (ys := a0.Notches) (zs := l1) (f := cI) (L' := [(g + 2 + 2, .row 3 l1.length), (g + 1, .cells [.i 0, .sl .nil 0 [], .sl .nil 0 []])]) 0 hS (by decide) rfl rfl rfl rfl (.behind (by kernel_rfl)) ty_es22 ty_el22 ty_ef22 hl1 rfl fun H hS => ?_
 refine o_buildSlice (es := []) hS (by decide) ty_es22 ty_el22 rfl ty_ef22 rfl (by decide) (by omega) fun H hS => ?_
 refine Of ((Wheel.cells a0)) ty_fo24_2 ?_
 refine Olp (.sl .no 1 (a0.Coins.map cI)) ty_agg22 ty_sc22 ?_
 obtain ⟨l2, hl2, hM⟩ := bindE hM
 refine o_append (xs := ([] : List Int)) (ys := a0.Coins) (zs := l2) (f := cI) (L' := [(g + 2 + 6, .row 3 l2.length), (g + 2 + 2, .row 3 l1.length), (g + 1, .cells [.i 0, .sl .nil 0 [], .sl .nil 0 []])]) 0 hS (by decide) rfl rfl rfl rfl (.behind (by kernel_rfl)) ty_es22 ty_el22 ty_ef22 hl2 rfl fun H hS => ?_
 refine o_build (cs := [.i a0.Round, .sl (.id (g + 2 + 2)) 1 (l1.map cI), .sl (.id (g + 2 + 6)) 1 (l2.map cI)]) (by decide) ty_zero24 ty_pl24 rfl ?_
 refine o_store (v := .agg [.i a0.Round, .sl (.id (g + 2 + 2)) 1 (l1.map cI), .sl (.id (g + 2 + 6)) 1 (l2.map cI)]) (ns := [.i a0.Round, .sl (.id (g + 2 + 2)) 1 (l1.map cI), .sl (.id (g + 2 + 6)) 1 (l2.map cI)]) (L' := [(g + 2 + 6, .row 3 l2.length), (g + 2 + 2, .row 3 l1.length), (g + 1, .cells [.i a0.Round, .sl (.id (g + 2 + 2)) 1 (l1.map cI), .sl (.id (g + 2 + 6)) 1 (l2.map cI)])]) 2 hS rfl rfl (.st hS0 0 rfl (by omega)) rfl rfl ty_var24 nlb rfl fun H hS => ?_
 refine Ni ?_
 refine w_next [(2, .ptr (g + 1) 0)] (.k .nil) ?_
 refine r_ret ?_
 refine w_end (x := .agg [.i a0.Round, .sl (.id (g + 2 + 2)) 1 (l1.map cI), .sl (.id (g + 2 + 6)) 1 (l2.map cI)]) (f := fun r => .agg [.i r.Round, .sl .no 1 (r.Notches.map cI), .sl .no 1 (r.Coins.map cI)]) (.inr rfl) ?_ (.aggL (.k (.cons (.sl _ _ _) (.cons (.sl _ _ _) .nil)))) (Option.some.inj hM) hS
 exact (res_one (res_cell (x := .agg [.i a0.Round, .sl (.id (g + 2 + 2)) 1 (l1.map cI), .sl (.id (g + 2 + 6)) 1 (l2.map cI)]) 2 hS rfl rfl (pg ty_agg24)))
theorem W_ref01_Within {a0 : Int} {a1 : Int} {a2 : Int} {r : Bool} (hM : ref01_Within a0 a1 a2 = some r) : PureSat Try.prog 61 [.i a0, .i a1, .i a2] (.b r) := by
 refine pure_of_wp mixed Try.func61 rfl (by decide) Try.ntmps61 (by simp) ?pure fun H0 g hf => ?_
 case pure => exact .v _
 rw [frame0_of]
 change wpA _ _ _ _ (Fr.of [(0, .i a0), (1, .i a1), (2, .i a2)]) H0 g
 have hS := St.start hf
 refine Sq ?_
 refine Rg 1 ?_
 refine Oa (.b false) ?_
 refine Ni ?_
 refine Ws ?_
 refine w_join (J := Bool) (fun j => [(6, .b j)]) (fun j H' g' => St (· < g) H0 [] H' g' ∧ ref01_Within_j1 j = some r) ?_ ?_
 ·rintro v1 H g1 ⟨hS, hM⟩
  change wpA _ _ _ _ (Fr.of [(6, .b v1)]) _ _
  replace hS : St (· < g) H0 [] H g1 := hS
  replace hM : ref01_Within_j1 v1 = some r := hM
  refine r_ret ?_
  refine w_end (x := .b v1) (f := fun r => .b r) (.inr rfl) ?_ (.refl _) (Option.some.inj hM) hS
  exact (res_one (res_tmp (x := .b v1) rfl))
 ·refine Rg 9 ?_
  refine Om (.i a0) ?_
  refine Om (.i a1) ?_
  refine Oi (.b (decide (a0 ≥ a1))) ?_
  refine Om (.b (decide (a0 ≥ a1))) ?_
  rcases bft (decide (a0 ≥ a1)) with hb2 | hb2
  ·replace hM := ifT hM hb2
   refine Oy (want := true) hb2 ?_
   refine Om (.i a0) ?_
   refine Oy (want := true) hb2 ?_
   refine Om (.i a2) ?_
   refine Oy (want := true) hb2 ?_
   refine Oi (.b (decide (a0 ≤ a2))) ?_
   refine Pt (.b (decide (a0 ≤ a2))) hb2 ?_
   refine Oa (.b (decide (a0 ≤ a2))) ?_
   refine Ni ?_
   exact w_goto (decide (a0 ≤ a2)) (.k .nil) ⟨(hS.keep [] rfl).up (by omega), hM⟩
  ·replace hM := ifF hM hb2
   refine On (want := true) hb2 ?_
   refine On (want := true) hb2 ?_
   refine On (want := true) hb2 ?_
   refine Pf (.b false) hb2 ?_
   refine Oa (.b false) ?_
   refine Ni ?_
   exact w_goto false (.k .nil) ⟨(hS.keep [] rfl).up (by omega), hM⟩
end Go.Proofs.Ytapcibbbmeomkaa
