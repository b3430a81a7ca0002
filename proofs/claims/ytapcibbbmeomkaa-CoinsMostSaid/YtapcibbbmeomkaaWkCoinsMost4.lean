/-
  The code returns what the functions say (printed by gen.py).
  Conditions: none.
-/
import Derived.Test.YtapcibbbmeomkaaWkCoinsMost3
import Derived.Test.YtapcibbbmeomkaaSh
set_option linter.all false
namespace Go.Proofs.Ytapcibbbmeomkaa
open Go Go.AM Go.Law
set_option linter.unusedVariables false
set_option maxRecDepth 4000
set_option maxHeartbeats 4000000
theorem W_ref01_all_b {n : Nat} {rec : Wheel → Stand → (List Int) → Option (Bought)} (hrec : ∀ {a0 : Wheel} {a1 : Stand} {a2 : List Int} {r : Bought}, rec a0 a1 a2 = some r → PureSat Try.prog 95 [.agg (Wheel.cells a0), .agg (Stand.cells a1), .sl .no 1 (a2.map cI)] (.agg [.i r.Most, .i r.Least])) {a0 : Wheel} {a1 : Stand} {a2 : List Int} {r : Bought} (hM : ref01_all_b n rec a0 a1 a2 = some r) : PureSat Try.prog 95 [.agg (Wheel.cells a0), .agg (Stand.cells a1), .sl .no 1 (a2.map cI)] (.agg [.i r.Most, .i r.Least]) := by
 refine pure_of_wp mixed Try.func95 rfl (by decide) Try.ntmps95 (by simp) ?pure fun H0 g hf => ?_
 case pure => exact .agg _ (pl_cons (.v _) (pl_cons (.v _) pl_nil))
 rw [frame0_of]
 change wpA _ _ _ _ (Fr.of [(0, .agg (Wheel.cells a0)), (1, .agg (Stand.cells a1)), (2, .sl .no 1 (a2.map cI))]) H0 g
 have hS := St.start hf
 refine Sq ?_
 refine Rg 3 ?_
 refine o_box (v := .agg (Wheel.cells a0)) (cs := (Wheel.cells a0)) hS (by decide) rfl rfl (by omega) fun H hS => ?_
 refine o_box (v := .agg (Stand.cells a1)) (cs := (Stand.cells a1)) hS (by decide) rfl rfl (by omega) fun H hS => ?_
 refine o_alloc hS (by decide) ty_zero122 (by omega) fun H hS => ?_
 refine Ni ?_
 refine w_iceE (L' := [(g + 2, .cells [.i 0, .i 0]), (g + 1, .cells (Stand.cells a1))]) 2 3 hS rfl rfl rfl fun H hS => ?_
 refine w_iceE (L' := [(g + 2, .cells [.i 0, .i 0])]) 1 4 hS rfl rfl rfl fun H hS => ?_
 refine Ws ?_
 refine Sq ?_
 refine Rg 1 ?_
 refine o_alloc hS (by decide) ty_zero122 (by omega) fun H hS => ?_
 refine Ni ?_
 refine Ws ?_
 refine Sq ?_
 refine Rg 1 ?_
 refine Oa (.b true) ?_
 refine Ni ?_
 refine Ws ?_
 refine w_join (J := Bool × Int × Int) (fun j => [(2, .sl .no 1 (a2.map cI)), (3, .ep (Wheel.cells a0)), (4, .ep (Stand.cells a1)), (6, .ptr (g + 2) 0), (7, .ptr (g + 3 + 0) 0), (8, .b j.1)]) (fun j H' g' => St (· < g) H0 [(g + 3 + 0, .cells [.i j.2.1, .i j.2.2]), (g + 2, .cells [.i 0, .i 0])] H' g' ∧ ref01_all_j1 n rec a0 a1 a2 j.1 j.2.1 j.2.2 = some r) ?_ ?_
 ·rintro ⟨v1, v2, v3⟩ H g1 ⟨hS, hM⟩
  change wpA _ _ _ _ (Fr.of [(2, .sl .no 1 (a2.map cI)), (3, .ep (Wheel.cells a0)), (4, .ep (Stand.cells a1)), (6, .ptr (g + 2) 0), (7, .ptr (g + 3 + 0) 0), (8, .b v1)]) _ _
  replace hS : St (· < g) H0 [(g + 3 + 0, .cells [.i v2, .i v3]), (g + 2, .cells [.i 0, .i 0])] H g1 := hS
  replace hM : ref01_all_j1 n rec a0 a1 a2 v1 v2 v3 = some r := hM
  refine w_join (J := Int × Int) (fun j => [(6, .ptr (g + 2) 0), (7, .ptr (g + 3 + 0) 0)]) (fun j H' g' => St (· < g) H0 [(g + 3 + 0, .cells [.i j.1, .i j.2]), (g + 2, .cells [.i 0, .i 0])] H' g' ∧ ref01_all_j2 j.1 j.2 = some r) ?_ ?_
  ·rintro ⟨v4, v5⟩ H g2 ⟨hS, hM⟩
   change wpA _ _ _ _ (Fr.of [(6, .ptr (g + 2) 0), (7, .ptr (g + 3 + 0) 0)]) _ _
   replace hS : St (· < g) H0 [(g + 3 + 0, .cells [.i v4, .i v5]), (g + 2, .cells [.i 0, .i 0])] H g2 := hS
   replace hM : ref01_all_j2 v4 v5 = some r := hM
   refine Sq ?_
   refine Rg 2 ?_
   refine o_load (v := .agg [.i v4, .i v5]) 0 hS (by decide) rfl rfl .no (pg ty_agg122) ?_
   refine o_store (v := .agg [.i v4, .i v5]) (ns := [.i v4, .i v5]) (L' := [(g + 3 + 0, .cells [.i v4, .i v5]), (g + 2, .cells [.i v4, .i v5])]) 1 hS rfl rfl .no rfl rfl ty_var122 nlb rfl fun H hS => ?_
   refine Ni ?_
   replace hS := hS.keep (L' := [(g + 2, .cells [.i v4, .i v5])]) [false, true] rfl
   refine Ws ?_
   refine r_ret ?_
   refine w_end (x := .agg [.i v4, .i v5]) (f := fun r => .agg [.i r.Most, .i r.Least]) (.inr rfl) ?_ (.refl _) (Option.some.inj hM) hS
   exact (res_one (res_cell (x := .agg [.i v4, .i v5]) 0 hS rfl rfl (pg ty_agg122)))
  ·refine w_join (J := Bool) (fun j => [(2, .sl .no 1 (a2.map cI)), (3, .ep (Wheel.cells a0)), (4, .ep (Stand.cells a1)), (6, .ptr (g + 2) 0), (7, .ptr (g + 3 + 0) 0), (82, .b j)]) (fun j H' g' => St (· < g) H0 [(g + 3 + 0, .cells [.i v2, .i v3]), (g + 2, .cells [.i 0, .i 0])] H' g' ∧ ref01_all_j3 n rec a0 a1 a2 v2 v3 j = some r) ?_ ?_
   ·rintro v6 H g3 ⟨hS, hM⟩
    change wpA _ _ _ _ (Fr.of [(2, .sl .no 1 (a2.map cI)), (3, .ep (Wheel.cells a0)), (4, .ep (Stand.cells a1)), (6, .ptr (g + 2) 0), (7, .ptr (g + 3 + 0) 0), (82, .b v6)]) _ _
    replace hS : St (· < g) H0 [(g + 3 + 0, .cells [.i v2, .i v3]), (g + 2, .cells [.i 0, .i 0])] H g3 := hS
    replace hM : ref01_all_j3 n rec a0 a1 a2 v2 v3 v6 = some r := hM
    rcases bft v6 with hb7 | hb7
    ·replace hM := ifT hM hb7
     refine Ct hb7 ?_
     refine Sq ?_
     refine Rg 9 ?_
     refine Olg (.agg (Wheel.cells a0)) ty_agg24 ?_
     refine Olg (.agg (Stand.cells a1)) ty_agg57 ?_
     obtain ⟨r8, hr8, hM⟩ := bindE hM
     refine o_call (bs := [.agg (Wheel.cells a0), .agg (Stand.cells a1), .i (-1)]) (by decide) rfl rfl ((W_ref01_Act hr8).le (.k (.k (.k .nil)))) ?_
     refine Om (.tup [.agg (Stand.cells r8.1), .b r8.2]) ?_
     refine Ox (.agg (Stand.cells r8.1)) ?_
     refine Ox (.b r8.2) ?_
     refine o_alloc hS (by decide) ty_zero57 (by omega) fun H hS => ?_
     refine o_store (v := .agg (Stand.cells r8.1)) (ns := (Stand.cells r8.1)) (L' := [(g3 + 6, .cells (Stand.cells r8.1)), (g + 3 + 0, .cells [.i v2, .i v3]), (g + 2, .cells [.i 0, .i 0])]) 0 hS rfl rfl .no rfl rfl ty_var57 nlb rfl fun H hS => ?_
     refine Oa (.b r8.2) ?_
     refine Ni ?_
     refine w_iceE (L' := [(g + 3 + 0, .cells [.i v2, .i v3]), (g + 2, .cells [.i 0, .i 0])]) 0 14 hS rfl rfl rfl fun H hS => ?_
     refine Ws ?_
     refine Sq ?_
     refine Rg 6 ?_
     refine Olg (.agg (Wheel.cells a0)) ty_agg24 ?_
     refine Olg (.agg (Stand.cells r8.1)) ty_agg57 ?_
     refine Om (.sl .no 1 (a2.map cI)) ?_
     obtain ⟨r9, hr9, hM⟩ := bindE hM
     refine o_call (bs := [.agg (Wheel.cells a0), .agg (Stand.cells r8.1), .sl .no 1 (a2.map cI)]) (by decide) rfl rfl ((hrec hr9).le (.k (.k (.k .nil)))) ?_
     refine o_alloc hS (by decide) ty_zero122 (by omega) fun H hS => ?_
     refine o_store (v := .agg [.i r9.Most, .i r9.Least]) (ns := [.i r9.Most, .i r9.Least]) (L' := [(g3 + 9 + 4, .cells [.i r9.Most, .i r9.Least]), (g + 3 + 0, .cells [.i v2, .i v3]), (g + 2, .cells [.i 0, .i 0])]) 0 hS rfl rfl .no rfl rfl ty_var122 nlb rfl fun H hS => ?_
     refine Ni ?_
     refine w_iceE (L' := [(g + 3 + 0, .cells [.i v2, .i v3]), (g + 2, .cells [.i 0, .i 0])]) 0 16 hS rfl rfl rfl fun H hS => ?_
     refine Ws ?_
     refine Rg 12 ?_
     refine o_fieldP (by decide) ty_fo122_0 rfl ?_
     refine o_load (v := .i v2) 0 hS (by decide) rfl rfl .no (po ty_agg3 ty_sc3) ?_
     refine Of ([.i r9.Most, .i r9.Least]) ty_fo122_0 ?_
     refine Olp (.i r9.Most) ty_agg3 ty_sc3 ?_
     refine o_max (v := .i (max v2 r9.Most)) (by decide) rfl ?_
     refine o_fieldP (by decide) ty_fo122_1 rfl ?_
     refine o_load (v := .i v3) 0 hS (by decide) rfl rfl .no (po ty_agg3 ty_sc3) ?_
     refine Of ([.i r9.Most, .i r9.Least]) ty_fo122_1 ?_
     refine Olp (.i r9.Least) ty_agg3 ty_sc3 ?_
     refine o_min (v := .i (min v3 r9.Least)) (by decide) rfl ?_
     refine o_build (cs := [.i (max v2 r9.Most), .i (min v3 r9.Least)]) (by decide) ty_zero122 ty_pl122 rfl ?_
     refine o_store (v := .agg [.i (max v2 r9.Most), .i (min v3 r9.Least)]) (ns := [.i (max v2 r9.Most), .i (min v3 r9.Least)]) (L' := [(g + 3 + 0, .cells [.i (max v2 r9.Most), .i (min v3 r9.Least)]), (g + 2, .cells [.i 0, .i 0])]) 0 hS rfl rfl .no rfl rfl ty_var122 nlb rfl fun H hS => ?_
     refine Ni ?_
     exact w_goto ((max v2 r9.Most), (min v3 r9.Least)) (.k (.k .nil)) ⟨(hS.keep [true, true] rfl).up (by omega), hM⟩
    ·replace hM := ifF hM hb7
     refine Cf hb7 ?_
     refine r_skip ?_
     exact w_goto (v2, v3) (.k (.k .nil)) ⟨(hS.keep [true, true] rfl).up (by omega), hM⟩
   ·refine Rg 12 ?_
    refine Om (.b v1) ?_
    refine o_not (e := v1) (by decide) rfl ?_
    refine Om (.b (!v1)) ?_
    rcases bft (!v1) with hb10 | hb10
    ·replace hM := ifT hM hb10
     refine Oy (want := true) hb10 ?_
     refine Of ((Stand.cells a1)) ty_fo57_1 ?_
     refine Oy (want := true) hb10 ?_
     refine Olp (.i a1.Credit) ty_agg3 ty_sc3 ?_
     refine Oy (want := true) hb10 ?_
     refine Oi (.b (decide (a1.Credit > 0))) ?_
     refine Pt (.b (decide (a1.Credit > 0))) hb10 ?_
     refine Om (.b (decide (a1.Credit > 0))) ?_
     rcases bft (decide (a1.Credit > 0)) with hb11 | hb11
     ·replace hM := ifT hM hb11
      refine Oy (want := true) hb11 ?_
      refine Of ((Stand.cells a1)) ty_fo57_0 ?_
      refine Oy (want := true) hb11 ?_
      refine Olp (.i a1.Place) ty_agg3 ty_sc3 ?_
      refine Oy (want := true) hb11 ?_
      refine Oi (.b (decide (a1.Place > 0))) ?_
      refine Pt (.b (decide (a1.Place > 0))) hb11 ?_
      refine Ni ?_
      exact w_goto (decide (a1.Place > 0)) (.k (.k (.k (.k (.k (.k .nil)))))) ⟨(hS.keep [true, true] rfl).up (by omega), hM⟩
     ·replace hM := ifF hM hb11
      refine On (want := true) hb11 ?_
      refine On (want := true) hb11 ?_
      refine On (want := true) hb11 ?_
      refine Pf (.b false) hb11 ?_
      refine Ni ?_
      exact w_goto false (.k (.k (.k (.k (.k (.k .nil)))))) ⟨(hS.keep [true, true] rfl).up (by omega), hM⟩
    ·replace hM := ifF hM hb10
     refine On (want := true) hb10 ?_
     refine On (want := true) hb10 ?_
     refine On (want := true) hb10 ?_
     refine Pf (.b false) hb10 ?_
     refine Om (.b false) ?_
     refine Og ?_
     refine Og ?_
     refine Og ?_
     refine o_pickF (v := .b false) (e := false) (by decide) rfl rfl rfl ?_
     refine Ni ?_
     exact w_goto false (.k (.k (.k (.k (.k (.k .nil)))))) ⟨(hS.keep [true, true] rfl).up (by omega), hM⟩
 ·refine Sq ?_
  refine Rg 1 ?_
  refine Oa (.i 0) ?_
  refine Ni ?_
  refine Ws ?_
  refine r_block ?_
  refine w_loop (V := Bool × Int × Int × Int) (fun v => [(2, .sl .no 1 (a2.map cI)), (3, .ep (Wheel.cells a0)), (4, .ep (Stand.cells a1)), (6, .ptr (g + 2) 0), (7, .ptr (g + 3 + 0) 0), (8, .b v.1), (9, .i v.2.1)]) (fun v m5 H' g' => St (· < g) H0 [(g + 3 + 0, .cells [.i v.2.2.1, .i v.2.2.2]), (g + 2, .cells [.i 0, .i 0])] H' g' ∧ ref01_all_l1 n rec a0 a1 a2 m5 v.1 v.2.1 v.2.2.1 v.2.2.2 = some r) (n := n) (true, 0, 0, 0) (.k (.k (.k (.k (.k (.k (.k .nil))))))) ⟨(hS.keep [true, true] rfl).up (by omega), hM⟩ ?_
  rintro ⟨v14, v15, v16, v17⟩ m5 H g5 ⟨hS, hM⟩
  obtain _ | m5 := m5
  ·exact nomatch (show none = some _ from hM)
  change wpA _ _ _ _ (Fr.of [(2, .sl .no 1 (a2.map cI)), (3, .ep (Wheel.cells a0)), (4, .ep (Stand.cells a1)), (6, .ptr (g + 2) 0), (7, .ptr (g + 3 + 0) 0), (8, .b v14), (9, .i v15)]) _ _
  replace hS : St (· < g) H0 [(g + 3 + 0, .cells [.i v16, .i v17]), (g + 2, .cells [.i 0, .i 0])] H g5 := hS
  replace hM : ref01_all_l1_b n rec a0 a1 a2 (ref01_all_l1 n rec a0 a1 a2 m5) v14 v15 v16 v17 = some r := hM
  refine Sq ?_
  refine Sq ?_
  refine Rg 4 ?_
  refine Om (.i v15) ?_
  refine Om (.sl .no 1 (a2.map cI)) ?_
  refine o_len (n := a2.length) (by decide) rfl (List.length_map _) ty_isl22 ?_
  refine Oi (.b (decide (v15 < (a2.length : Int)))) ?_
  refine Ni ?_
  refine Ws ?_
  rcases bft (decide (v15 < (a2.length : Int))) with hb18 | hb18
  ·replace hM := ifT hM hb18
   refine Ct hb18 ?_
   refine r_skip ?_
   refine Ws ?_
   refine w_join (J := Bool × Int × Int) (fun j => [(2, .sl .no 1 (a2.map cI)), (3, .ep (Wheel.cells a0)), (4, .ep (Stand.cells a1)), (6, .ptr (g + 2) 0), (7, .ptr (g + 3 + 0) 0), (8, .b j.1), (9, .i v15)]) (fun j H' g' => St (· < g) H0 [(g + 3 + 0, .cells [.i j.2.1, .i j.2.2]), (g + 2, .cells [.i 0, .i 0])] H' g' ∧ ref01_all_j4 (ref01_all_l1 n rec a0 a1 a2 m5) v15 j.1 j.2.1 j.2.2 = some r) ?_ ?_
   ·rintro ⟨v19, v20, v21⟩ H g6 ⟨hS, hM⟩
    change wpA _ _ _ _ (Fr.of [(2, .sl .no 1 (a2.map cI)), (3, .ep (Wheel.cells a0)), (4, .ep (Stand.cells a1)), (6, .ptr (g + 2) 0), (7, .ptr (g + 3 + 0) 0), (8, .b v19), (9, .i v15)]) _ _
    replace hS : St (· < g) H0 [(g + 3 + 0, .cells [.i v20, .i v21]), (g + 2, .cells [.i 0, .i 0])] H g6 := hS
    replace hM : ref01_all_j4 (ref01_all_l1 n rec a0 a1 a2 m5) v15 v19 v20 v21 = some r := hM
    refine Rg 3 ?_
    refine Om (.i v15) ?_
    refine Oi (.i (w64 (v15 + 1))) ?_
    refine Oa (.i (w64 (v15 + 1))) ?_
    refine Ni ?_
    exact w_round (v19, w64 (v15 + 1), v20, v21) (Nat.lt_succ_self _) (.k (.k (.k (.k (.k (.k (.k .nil))))))) ⟨(hS.keep [true, true] rfl).up (by omega), hM⟩
   ·refine r_block ?_
    refine Sq ?_
    refine Sq ?_
    refine Rg 5 ?_
    refine Om (.sl .no 1 (a2.map cI)) ?_
    refine Om (.i v15) ?_
    obtain ⟨x22, hx22, hM⟩ := bindE hM
    refine o_index (xs := a2) (f := cI) (z := v15) (u := x22) (by decide) rfl rfl ty_es22 hx22 ?_
    refine Olp (.i x22) ty_agg3 ty_sc3 ?_
    refine Oi (.b (x22 == 0)) ?_
    refine Ni ?_
    refine Ws ?_
    rcases bft (x22 == 0) with hb23 | hb23
    ·replace hM := ifT hM hb23
     refine Ct hb23 ?_
     refine r_exit ?_
     refine r_then_exit ?_
     refine r_blk_exit ?_
     exact w_goto (v14, v16, v17) (.k (.k (.k (.k (.k (.k (.k .nil))))))) ⟨(hS.keep [true, true] rfl).up (by omega), hM⟩
    ·replace hM := ifF hM hb23
     refine Cf hb23 ?_
     refine r_skip ?_
     refine Ws ?_
     refine Sq ?_
     refine Rg 10 ?_
     refine Olg (.agg (Wheel.cells a0)) ty_agg24 ?_
     refine Olg (.agg (Stand.cells a1)) ty_agg57 ?_
     refine Om (.i v15) ?_
     obtain ⟨r24, hr24, hM⟩ := bindE hM
     refine o_call (bs := [.agg (Wheel.cells a0), .agg (Stand.cells a1), .i v15]) (by decide) rfl rfl ((W_ref01_Act hr24).le (.k (.k (.k .nil)))) ?_
     refine Om (.tup [.agg (Stand.cells r24.1), .b r24.2]) ?_
     refine Ox (.agg (Stand.cells r24.1)) ?_
     refine Ox (.b r24.2) ?_
     refine o_alloc hS (by decide) ty_zero57 (by omega) fun H hS => ?_
     refine o_store (v := .agg (Stand.cells r24.1)) (ns := (Stand.cells r24.1)) (L' := [(g5 + 4 + 5 + 7, .cells (Stand.cells r24.1)), (g + 3 + 0, .cells [.i v16, .i v17]), (g + 2, .cells [.i 0, .i 0])]) 0 hS rfl rfl .no rfl rfl ty_var57 nlb rfl fun H hS => ?_
     refine Oa (.b r24.2) ?_
     refine Ni ?_
     refine w_iceE (L' := [(g + 3 + 0, .cells [.i v16, .i v17]), (g + 2, .cells [.i 0, .i 0])]) 0 10 hS rfl rfl rfl fun H hS => ?_
     refine Ws ?_
     refine Sq ?_
     refine Rg 6 ?_
     refine Of ((Stand.cells r24.1)) ty_fo57_1 ?_
     refine Olp (.i r24.1.Credit) ty_agg3 ty_sc3 ?_
     refine Of ((Stand.cells a1)) ty_fo57_1 ?_
     refine Olp (.i a1.Credit) ty_agg3 ty_sc3 ?_
     refine Oi (.i (w64 (r24.1.Credit - a1.Credit))) ?_
     refine Oa (.i (w64 (r24.1.Credit - a1.Credit))) ?_
     refine Ni ?_
     refine Ws ?_
     refine Sq ?_
     have hS0 := hS
     refine r_draw (n := 8) rfl (by kernel_rfl) ?_
     refine Olg (.agg (Wheel.cells a0)) ty_agg24 ?_
     refine Olg (.agg (Stand.cells r24.1)) ty_agg57 ?_
     refine Om (.sl .no 1 (a2.map cI)) ?_
     refine Om (.i v15) ?_
     obtain ⟨r25, hr25, hM⟩ := bindE hM
     refine o_call (bs := [.sl .no 1 (a2.map cI), .i v15]) (by decide) rfl rfl ((W_ref01_less hr25).le (.k (.k .nil))) ?_
     obtain ⟨r26, hr26, hM⟩ := bindE hM
     refine o_call (bs := [.agg (Wheel.cells a0), .agg (Stand.cells r24.1), .sl .no 1 (r25.map cI)]) (by decide) rfl rfl ((hrec hr26).le (.k (.k (.k .nil)))) ?_
     refine o_alloc hS (by decide) ty_zero122 (by omega) fun H hS => ?_
     refine o_store (v := .agg [.i r26.Most, .i r26.Least]) (ns := [.i r26.Most, .i r26.Least]) (L' := [(g5 + 4 + 5 + 10 + 6 + 6, .cells [.i r26.Most, .i r26.Least]), (g + 3 + 0, .cells [.i v16, .i v17]), (g + 2, .cells [.i 0, .i 0])]) 0 hS rfl rfl (.behind (by kernel_rfl)) rfl rfl ty_var122 nlb rfl fun H hS => ?_
     refine Ni ?_
     refine w_iceE (L' := [(g + 3 + 0, .cells [.i v16, .i v17]), (g + 2, .cells [.i 0, .i 0])]) 0 13 hS rfl rfl rfl fun H hS => ?_
     refine Ws ?_
     refine w_join (J := Int × Int) (fun j => [(2, .sl .no 1 (a2.map cI)), (3, .ep (Wheel.cells a0)), (4, .ep (Stand.cells a1)), (6, .ptr (g + 2) 0), (7, .ptr (g + 3 + 0) 0), (9, .i v15), (12, .i (w64 (r24.1.Credit - a1.Credit))), (13, .ep [.i r26.Most, .i r26.Least])]) (fun j H' g' => St (· < g) H0 [(g + 3 + 0, .cells [.i j.1, .i j.2]), (g + 2, .cells [.i 0, .i 0])] H' g' ∧ ref01_all_j5 (ref01_all_l1 n rec a0 a1 a2 m5) a1 v15 r24 r26 j.1 j.2 = some r) ?_ ?_
     ·rintro ⟨v27, v28⟩ H g7 ⟨hS, hM⟩
      change wpA _ _ _ _ (Fr.of [(2, .sl .no 1 (a2.map cI)), (3, .ep (Wheel.cells a0)), (4, .ep (Stand.cells a1)), (6, .ptr (g + 2) 0), (7, .ptr (g + 3 + 0) 0), (9, .i v15), (12, .i (w64 (r24.1.Credit - a1.Credit))), (13, .ep [.i r26.Most, .i r26.Least])]) _ _
      replace hS : St (· < g) H0 [(g + 3 + 0, .cells [.i v27, .i v28]), (g + 2, .cells [.i 0, .i 0])] H g7 := hS
      replace hM : ref01_all_j5 (ref01_all_l1 n rec a0 a1 a2 m5) a1 v15 r24 r26 v27 v28 = some r := hM
      refine Sq ?_
      refine Rg 16 ?_
      refine o_fieldP (by decide) ty_fo122_0 rfl ?_
      refine o_load (v := .i v27) 0 hS (by decide) rfl rfl .no (po ty_agg3 ty_sc3) ?_
      refine Om (.i (w64 (r24.1.Credit - a1.Credit))) ?_
      refine Of ([.i r26.Most, .i r26.Least]) ty_fo122_0 ?_
      refine Olp (.i r26.Most) ty_agg3 ty_sc3 ?_
      refine Oi (.i (w64 ((w64 (r24.1.Credit - a1.Credit)) + r26.Most))) ?_
      refine o_max (v := .i (max v27 (w64 ((w64 (r24.1.Credit - a1.Credit)) + r26.Most)))) (by decide) rfl ?_
      refine o_fieldP (by decide) ty_fo122_1 rfl ?_
      refine o_load (v := .i v28) 0 hS (by decide) rfl rfl .no (po ty_agg3 ty_sc3) ?_
      refine Om (.i (w64 (r24.1.Credit - a1.Credit))) ?_
      refine Of ([.i r26.Most, .i r26.Least]) ty_fo122_1 ?_
      refine Olp (.i r26.Least) ty_agg3 ty_sc3 ?_
      refine Oi (.i (w64 ((w64 (r24.1.Credit - a1.Credit)) + r26.Least))) ?_
      refine o_min (v := .i (min v28 (w64 ((w64 (r24.1.Credit - a1.Credit)) + r26.Least)))) (by decide) rfl ?_
      refine o_build (cs := [.i (max v27 (w64 ((w64 (r24.1.Credit - a1.Credit)) + r26.Most))), .i (min v28 (w64 ((w64 (r24.1.Credit - a1.Credit)) + r26.Least)))]) (by decide) ty_zero122 ty_pl122 rfl ?_
      refine o_store (v := .agg [.i (max v27 (w64 ((w64 (r24.1.Credit - a1.Credit)) + r26.Most))), .i (min v28 (w64 ((w64 (r24.1.Credit - a1.Credit)) + r26.Least)))]) (ns := [.i (max v27 (w64 ((w64 (r24.1.Credit - a1.Credit)) + r26.Most))), .i (min v28 (w64 ((w64 (r24.1.Credit - a1.Credit)) + r26.Least)))]) (L' := [(g + 3 + 0, .cells [.i (max v27 (w64 ((w64 (r24.1.Credit - a1.Credit)) + r26.Most))), .i (min v28 (w64 ((w64 (r24.1.Credit - a1.Credit)) + r26.Least)))]), (g + 2, .cells [.i 0, .i 0])]) 0 hS rfl rfl .no rfl rfl ty_var122 nlb rfl fun H hS => ?_
      refine Ni ?_
      refine Ws ?_
      refine Rg 1 ?_
      refine Oa (.b false) ?_
      refine Ni ?_
      refine r_blk_normal ?_
      exact w_goto (false, (max v27 (w64 ((w64 (r24.1.Credit - a1.Credit)) + r26.Most))), (min v28 (w64 ((w64 (r24.1.Credit - a1.Credit)) + r26.Least)))) (.k (.k (.k (.k (.k (.k (.k .nil))))))) ⟨(hS.keep [true, true] rfl).up (by omega), hM⟩
     ·refine Sq ?_
      refine Rg 1 ?_
      refine Om (.b v14) ?_
      refine Ni ?_
      refine Ws ?_
      rcases bft v14 with hb29 | hb29
      ·replace hM := ifT hM hb29
       refine Ct hb29 ?_
       refine Rg 10 ?_
       refine Om (.i (w64 (r24.1.Credit - a1.Credit))) ?_
       refine Of ([.i r26.Most, .i r26.Least]) ty_fo122_0 ?_
       refine Olp (.i r26.Most) ty_agg3 ty_sc3 ?_
       refine Oi (.i (w64 ((w64 (r24.1.Credit - a1.Credit)) + r26.Most))) ?_
       refine Om (.i (w64 (r24.1.Credit - a1.Credit))) ?_
       refine Of ([.i r26.Most, .i r26.Least]) ty_fo122_1 ?_
       refine Olp (.i r26.Least) ty_agg3 ty_sc3 ?_
       refine Oi (.i (w64 ((w64 (r24.1.Credit - a1.Credit)) + r26.Least))) ?_
       refine o_build (cs := [.i (w64 ((w64 (r24.1.Credit - a1.Credit)) + r26.Most)), .i (w64 ((w64 (r24.1.Credit - a1.Credit)) + r26.Least))]) (by decide) ty_zero122 ty_pl122 rfl ?_
       refine o_store (v := .agg [.i (w64 ((w64 (r24.1.Credit - a1.Credit)) + r26.Most)), .i (w64 ((w64 (r24.1.Credit - a1.Credit)) + r26.Least))]) (ns := [.i (w64 ((w64 (r24.1.Credit - a1.Credit)) + r26.Most)), .i (w64 ((w64 (r24.1.Credit - a1.Credit)) + r26.Least))]) (L' := [(g + 3 + 0, .cells [.i (w64 ((w64 (r24.1.Credit - a1.Credit)) + r26.Most)), .i (w64 ((w64 (r24.1.Credit - a1.Credit)) + r26.Least))]), (g + 2, .cells [.i 0, .i 0])]) 0 hS rfl rfl .no rfl rfl ty_var122 nlb rfl fun H hS => ?_
       refine Ni ?_
       exact w_goto (w64 ((w64 (r24.1.Credit - a1.Credit)) + r26.Most), w64 ((w64 (r24.1.Credit - a1.Credit)) + r26.Least)) (.k (.k (.k (.k (.k (.k (.k (.k .nil)))))))) ⟨(hS.keep [true, true] rfl).up (by omega), hM⟩
      ·replace hM := ifF hM hb29
       refine Cf hb29 ?_
       refine r_skip ?_
       exact w_goto (v16, v17) (.k (.k (.k (.k (.k (.k (.k (.k .nil)))))))) ⟨(hS.keep [true, true] rfl).up (by omega), hM⟩
  ·replace hM := ifF hM hb18
   refine Cf hb18 ?_
   refine r_exit ?_
   refine r_then_exit ?_
   refine w_round_exit ?_
   refine r_blk_exit ?_
   exact w_goto (v14, v16, v17) (.k (.k (.k (.k (.k (.k .nil)))))) ⟨(hS.keep [true, true] rfl).up (by omega), hM⟩
theorem W_ref01_all : ∀ {n : Nat} {a0 : Wheel} {a1 : Stand} {a2 : List Int} {r : Bought}, ref01_all n a0 a1 a2 = some r → PureSat Try.prog 95 [.agg (Wheel.cells a0), .agg (Stand.cells a1), .sl .no 1 (a2.map cI)] (.agg [.i r.Most, .i r.Least])
 | 0, _, _, _, _, h => nomatch (show none = some _ from h)
 | n + 1, _, _, _, _, h => W_ref01_all_b (n := n) (rec := ref01_all n) (fun h => W_ref01_all h) h
theorem W_ref01_Most {n : Nat} {a0 : Wheel} {a1 : List Int} {r : Int × Int} (hM : ref01_Most n a0 a1 = some r) : PureSat Try.prog 53 [.agg (Wheel.cells a0), .sl .no 1 (a1.map cI)] (.tup [.i r.1, .i r.2]) := by
 refine pure_of_wp mixed Try.func53 rfl (by decide) Try.ntmps53 (by simp) ?pure fun H0 g hf => ?_
 case pure => exact .tup _ (pl_cons (.v _) (pl_cons (.v _) pl_nil))
 rw [frame0_of]
 change wpA _ _ _ _ (Fr.of [(0, .agg (Wheel.cells a0)), (1, .sl .no 1 (a1.map cI))]) H0 g
 have hS := St.start hf
 refine Sq ?_
 refine Rg 3 ?_
 refine o_box (v := .agg (Wheel.cells a0)) (cs := (Wheel.cells a0)) hS (by decide) rfl rfl (by omega) fun H hS => ?_
 refine Oa (.i 0) ?_
 refine Oa (.i 0) ?_
 refine Ni ?_
 refine w_iceE (L' := []) 0 2 hS rfl rfl rfl fun H hS => ?_
 refine Ws ?_
 refine Sq ?_
 refine Sq ?_
 refine Rg 3 ?_
 refine Olg (.agg (Wheel.cells a0)) ty_agg24 ?_
 obtain ⟨r1, hr1, hM⟩ := bindE hM
 refine o_call (bs := [.agg (Wheel.cells a0)]) (by decide) rfl rfl ((W_ref01_Check hr1).le (.k .nil)) ?_
 refine Oa (.i r1) ?_
 refine Ni ?_
 refine Ws ?_
 refine Sq ?_
 refine Rg 2 ?_
 refine Om (.i r1) ?_
 refine Oi (.b (r1 != 0)) ?_
 refine Ni ?_
 refine Ws ?_
 rcases bft (r1 != 0) with hb2 | hb2
 ·replace hM := ifT hM hb2
  refine Ct hb2 ?_
  refine Sq ?_
  refine Rg 3 ?_
  refine Om (.i r1) ?_
  refine Oa (.i 0) ?_
  refine Oa (.i r1) ?_
  refine Ni ?_
  refine Ws ?_
  refine r_ret ?_
  refine r_then_ret ?_
  refine w_end (x := .tup [.i 0, .i r1]) (f := fun r => .tup [.i r.1, .i r.2]) (.inr rfl) ?_ (.refl _) (Option.some.inj hM) hS
  exact (res_two (res_tmp (x := .i 0) rfl) (res_tmp (x := .i r1) rfl))
 ·replace hM := ifF hM hb2
  refine Cf hb2 ?_
  refine r_skip ?_
  refine Ws ?_
  refine Sq ?_
  refine Sq ?_
  refine Rg 4 ?_
  refine Olg (.agg (Wheel.cells a0)) ty_agg24 ?_
  refine Om (.sl .no 1 (a1.map cI)) ?_
  obtain ⟨r3, hr3, hM⟩ := bindE hM
  refine o_call (bs := [.agg (Wheel.cells a0), .sl .no 1 (a1.map cI)]) (by decide) rfl rfl ((W_ref01_IsPurse hr3).le (.k (.k .nil))) ?_
  refine o_not (e := r3) (by decide) rfl ?_
  refine Ni ?_
  refine Ws ?_
  rcases bft (!r3) with hb4 | hb4
  ·replace hM := ifT hM hb4
   refine Ct hb4 ?_
   refine Sq ?_
   refine Rg 2 ?_
   refine Oa (.i 0) ?_
   refine Oa (.i 1) ?_
   refine Ni ?_
   refine Ws ?_
   refine r_ret ?_
   refine r_then_ret ?_
   refine w_end (x := .tup [.i 0, .i 1]) (f := fun r => .tup [.i r.1, .i r.2]) (.inr rfl) ?_ (.refl _) (Option.some.inj hM) hS
   exact (res_two (res_tmp (x := .i 0) rfl) (res_tmp (x := .i 1) rfl))
  ·replace hM := ifF hM hb4
   refine Cf hb4 ?_
   refine r_skip ?_
   refine Ws ?_
   refine Sq ?_
   refine Rg 7 ?_
   refine Olg (.agg (Wheel.cells a0)) ty_agg24 ?_
   refine o_build (cs := [.i 0, .i 0]) (by decide) ty_zero57 ty_pl57 rfl ?_
   refine Om (.sl .no 1 (a1.map cI)) ?_
   obtain ⟨r5, hr5, hM⟩ := bindE hM
   refine o_call (bs := [.agg (Wheel.cells a0), .agg [.i 0, .i 0], .sl .no 1 (a1.map cI)]) (by decide) rfl rfl ((W_ref01_all hr5).le (.k (.k (.k .nil)))) ?_
   refine o_field (v := .i r5.Most) (cs := [.i r5.Most, .i r5.Least]) (by decide) ty_ft122_0 rfl (po ty_agg3 ty_sc3) ?_
   refine Oa (.i r5.Most) ?_
   refine Oa (.i 0) ?_
   refine Ni ?_
   refine w_next [(4, .i r5.Most), (5, .i 0)] (.k (.k .nil)) ?_
   refine r_ret ?_
   refine w_end (x := .tup [.i r5.Most, .i 0]) (f := fun r => .tup [.i r.1, .i r.2]) (.inr rfl) ?_ (.refl _) (Option.some.inj hM) hS
   exact (res_two (res_tmp (x := .i r5.Most) rfl) (res_tmp (x := .i 0) rfl))
theorem W_ref01_Least {n : Nat} {a0 : Wheel} {a1 : List Int} {r : Int × Int} (hM : ref01_Least n a0 a1 = some r) : PureSat Try.prog 54 [.agg (Wheel.cells a0), .sl .no 1 (a1.map cI)] (.tup [.i r.1, .i r.2]) := by
 refine pure_of_wp mixed Try.func54 rfl (by decide) Try.ntmps54 (by simp) ?pure fun H0 g hf => ?_
 case pure => exact .tup _ (pl_cons (.v _) (pl_cons (.v _) pl_nil))
 rw [frame0_of]
 change wpA _ _ _ _ (Fr.of [(0, .agg (Wheel.cells a0)), (1, .sl .no 1 (a1.map cI))]) H0 g
 have hS := St.start hf
 refine Sq ?_
 refine Rg 3 ?_
 refine o_box (v := .agg (Wheel.cells a0)) (cs := (Wheel.cells a0)) hS (by decide) rfl rfl (by omega) fun H hS => ?_
 refine Oa (.i 0) ?_
 refine Oa (.i 0) ?_
 refine Ni ?_
 refine w_iceE (L' := []) 0 2 hS rfl rfl rfl fun H hS => ?_
 refine Ws ?_
 refine Sq ?_
 refine Sq ?_
 refine Rg 3 ?_
 refine Olg (.agg (Wheel.cells a0)) ty_agg24 ?_
 obtain ⟨r1, hr1, hM⟩ := bindE hM
 refine o_call (bs := [.agg (Wheel.cells a0)]) (by decide) rfl rfl ((W_ref01_Check hr1).le (.k .nil)) ?_
 refine Oa (.i r1) ?_
 refine Ni ?_
 refine Ws ?_
 refine Sq ?_
 refine Rg 2 ?_
 refine Om (.i r1) ?_
 refine Oi (.b (r1 != 0)) ?_
 refine Ni ?_
 refine Ws ?_
 rcases bft (r1 != 0) with hb2 | hb2
 ·replace hM := ifT hM hb2
  refine Ct hb2 ?_
  refine Sq ?_
  refine Rg 3 ?_
  refine Om (.i r1) ?_
  refine Oa (.i 0) ?_
  refine Oa (.i r1) ?_
  refine Ni ?_
  refine Ws ?_
  refine r_ret ?_
  refine r_then_ret ?_
  refine w_end (x := .tup [.i 0, .i r1]) (f := fun r => .tup [.i r.1, .i r.2]) (.inr rfl) ?_ (.refl _) (Option.some.inj hM) hS
  exact (res_two (res_tmp (x := .i 0) rfl) (res_tmp (x := .i r1) rfl))
 ·replace hM := ifF hM hb2
  refine Cf hb2 ?_
  refine r_skip ?_
  refine Ws ?_
  refine Sq ?_
  refine Sq ?_
  refine Rg 4 ?_
  refine Olg (.agg (Wheel.cells a0)) ty_agg24 ?_
  refine Om (.sl .no 1 (a1.map cI)) ?_
  obtain ⟨r3, hr3, hM⟩ := bindE hM
  refine o_call (bs := [.agg (Wheel.cells a0), .sl .no 1 (a1.map cI)]) (by decide) rfl rfl ((W_ref01_IsPurse hr3).le (.k (.k .nil))) ?_
  refine o_not (e := r3) (by decide) rfl ?_
  refine Ni ?_
  refine Ws ?_
  rcases bft (!r3) with hb4 | hb4
  ·replace hM := ifT hM hb4
   refine Ct hb4 ?_
   refine Sq ?_
   refine Rg 2 ?_
   refine Oa (.i 0) ?_
   refine Oa (.i 1) ?_
   refine Ni ?_
   refine Ws ?_
   refine r_ret ?_
   refine r_then_ret ?_
   refine w_end (x := .tup [.i 0, .i 1]) (f := fun r => .tup [.i r.1, .i r.2]) (.inr rfl) ?_ (.refl _) (Option.some.inj hM) hS
   exact (res_two (res_tmp (x := .i 0) rfl) (res_tmp (x := .i 1) rfl))
  ·replace hM := ifF hM hb4
   refine Cf hb4 ?_
   refine r_skip ?_
   refine Ws ?_
   refine Sq ?_
   refine Rg 7 ?_
   refine Olg (.agg (Wheel.cells a0)) ty_agg24 ?_
   refine o_build (cs := [.i 0, .i 0]) (by decide) ty_zero57 ty_pl57 rfl ?_
   refine Om (.sl .no 1 (a1.map cI)) ?_
   obtain ⟨r5, hr5, hM⟩ := bindE hM
   refine o_call (bs := [.agg (Wheel.cells a0), .agg [.i 0, .i 0], .sl .no 1 (a1.map cI)]) (by decide) rfl rfl ((W_ref01_all hr5).le (.k (.k (.k .nil)))) ?_
   refine o_field (v := .i r5.Least) (cs := [.i r5.Most, .i r5.Least]) (by decide) ty_ft122_1 rfl (po ty_agg3 ty_sc3) ?_
   refine Oa (.i r5.Least) ?_
   refine Oa (.i 0) ?_
   refine Ni ?_
   refine w_next [(4, .i r5.Least), (5, .i 0)] (.k (.k .nil)) ?_
   refine r_ret ?_
   refine w_end (x := .tup [.i r5.Least, .i 0]) (f := fun r => .tup [.i r.1, .i r.2]) (.inr rfl) ?_ (.refl _) (Option.some.inj hM) hS
   exact (res_two (res_tmp (x := .i r5.Least) rfl) (res_tmp (x := .i 0) rfl))
theorem W_ref01_parts_b {n : Nat} {rec : (List Int) → (List Int) → Option ((List (List Int)))} (hrec : ∀ {a0 : List Int} {a1 : List Int} {r : (List (List Int))}, rec a0 a1 = some r → PureSat Try.prog 96 [.sl .no 1 (a0.map cI), .sl .no 1 (a1.map cI)] (.sl .no 1 (r.map (cL 1 cI)))) {a0 : List Int} {a1 : List Int} {r : (List (List Int))} (hM : ref01_parts_b n rec a0 a1 = some r) : PureSat Try.prog 96 [.sl .no 1 (a0.map cI), .sl .no 1 (a1.map cI)] (.sl .no 1 (r.map (cL 1 cI))) := by
 refine pure_of_wp mixed Try.func96 rfl (by decide) Try.ntmps96 (by simp) ?pure fun H0 g hf => ?_
 case pure => exact .sl _ _ (pures_map (fun x => (pl_cons (.sl _ _ (pures_map (fun x => (pl_cons (.v _) pl_nil)))) pl_nil)))
 rw [frame0_of]
 change wpA _ _ _ _ (Fr.of [(0, .sl .no 1 (a0.map cI)), (1, .sl .no 1 (a1.map cI))]) H0 g
 have hS := St.start hf
 refine Sq ?_
 refine Rg 1 ?_
 refine Oa (.sl .nil 0 []) ?_
 refine Ni ?_
 refine Ws ?_
 refine Sq ?_
 refine Sq ?_
 refine Rg 5 ?_
 refine Om (.sl .no 1 (a1.map cI)) ?_
 refine o_len (n := a1.length) (by decide) rfl (List.length_map _) ty_isl22 ?_
 refine Om (.sl .no 1 (a0.map cI)) ?_
 refine o_len (n := a0.length) (by decide) rfl (List.length_map _) ty_isl22 ?_
 refine Oi (.b ((a1.length : Int) == (a0.length : Int))) ?_
 refine Ni ?_
 refine Ws ?_
 rcases bft ((a1.length : Int) == (a0.length : Int)) with hb1 | hb1
 ·replace hM := ifT hM hb1
  refine Ct hb1 ?_
  refine Sq ?_
  refine Rg 3 ?_
  refine Om (.sl .no 1 (a1.map cI)) ?_
  refine o_buildSlice (es := [[.sl .no 1 (a1.map cI)]]) hS (by decide) ty_es116 ty_el116 rfl ty_ef116 rfl (by decide) (by omega) fun H hS => ?_
  refine Oa (.sl (.id (g + 1 + 5 + 1)) 1 (([a1] : List (List Int)).map (cL 1 cI))) ?_
  refine Ni ?_
  refine Ws ?_
  refine r_ret ?_
  refine r_then_ret ?_
  refine w_end (x := .sl (.id (g + 1 + 5 + 1)) 1 (([a1] : List (List Int)).map (cL 1 cI))) (f := fun r => .sl .no 1 (r.map (cL 1 cI))) (.inr rfl) ?_ (.sl _ _ _) (Option.some.inj hM) hS
  exact (res_one (res_tmp (x := .sl (.id (g + 1 + 5 + 1)) 1 (([a1] : List (List Int)).map (cL 1 cI))) rfl))
 ·replace hM := ifF hM hb1
  refine Cf hb1 ?_
  refine r_skip ?_
  refine Ws ?_
  refine Sq ?_
  refine Rg 1 ?_
  refine Oa (.sl .nil 0 []) ?_
  refine Ni ?_
  refine w_own [(0, .sl .no 1 (a0.map cI)), (1, .sl .no 1 (a1.map cI)), (5, .sl (.id (g + 1 + 5 + 1)) 1 (([] : List (List Int)).map (cL 1 cI)))] 5 1 22 hS (by omega) (by decide) rfl (.k (.k (.k .nil))) fun H hS => ?_
  refine w_join (J := (List (List Int))) (fun j => [(5, .sl (.id (g + 1 + 5 + 1)) 1 (j.map (cL 1 cI)))]) (fun j H' g' => St (· < g) H0 [(g + 1 + 5 + 1, .row 22 j.length)] H' g' ∧ ref01_parts_j1 j = some r) ?_ ?_
  ·rintro v2 H g1 ⟨hS, hM⟩
   change wpA _ _ _ _ (Fr.of [(5, .sl (.id (g + 1 + 5 + 1)) 1 (v2.map (cL 1 cI)))]) _ _
   replace hS : St (· < g) H0 [(g + 1 + 5 + 1, .row 22 v2.length)] H g1 := hS
   replace hM : ref01_parts_j1 v2 = some r := hM
   refine Sq ?_
   refine Rg 2 ?_
   refine Om (.sl (.id (g + 1 + 5 + 1)) 1 (v2.map (cL 1 cI))) ?_
   refine Oa (.sl (.id (g + 1 + 5 + 1)) 1 (v2.map (cL 1 cI))) ?_
   refine Ni ?_
   refine Ws ?_
   refine r_ret ?_
   refine w_end (x := .sl (.id (g + 1 + 5 + 1)) 1 (v2.map (cL 1 cI))) (f := fun r => .sl .no 1 (r.map (cL 1 cI))) (.inr rfl) ?_ (.sl _ _ _) (Option.some.inj hM) hS
   exact (res_one (res_tmp (x := .sl (.id (g + 1 + 5 + 1)) 1 (v2.map (cL 1 cI))) rfl))
  ·refine Sq ?_
   refine Rg 1 ?_
   refine Oa (.i 0) ?_
   refine Ni ?_
   refine Ws ?_
   refine r_block ?_
   refine w_loop (V := (List (List Int)) × Int) (fun v => [(0, .sl .no 1 (a0.map cI)), (1, .sl .no 1 (a1.map cI)), (5, .sl (.id (g + 1 + 5 + 1)) 1 (v.1.map (cL 1 cI))), (6, .i v.2)]) (fun v m2 H' g' => St (· < g) H0 [(g + 1 + 5 + 1, .row 22 v.1.length)] H' g' ∧ ref01_parts_l1 rec a0 a1 m2 v.1 v.2 = some r) (n := n) (([] : List (List Int)), 0) (.k (.k (.k (.k .nil)))) ⟨(hS.keep [true] rfl).up (by omega), hM⟩ ?_
   rintro ⟨v3, v4⟩ m2 H g2 ⟨hS, hM⟩
   obtain _ | m2 := m2
   ·exact nomatch (show none = some _ from hM)
   change wpA _ _ _ _ (Fr.of [(0, .sl .no 1 (a0.map cI)), (1, .sl .no 1 (a1.map cI)), (5, .sl (.id (g + 1 + 5 + 1)) 1 (v3.map (cL 1 cI))), (6, .i v4)]) _ _
   replace hS : St (· < g) H0 [(g + 1 + 5 + 1, .row 22 v3.length)] H g2 := hS
   replace hM : ref01_parts_l1_b rec a0 a1 (ref01_parts_l1 rec a0 a1 m2) v3 v4 = some r := hM
   refine Sq ?_
   refine Sq ?_
   refine Rg 7 ?_
   refine Om (.i v4) ?_
   refine Om (.sl .no 1 (a0.map cI)) ?_
   refine Om (.sl .no 1 (a1.map cI)) ?_
   refine o_len (n := a1.length) (by decide) rfl (List.length_map _) ty_isl22 ?_
   obtain ⟨x5, hx5, hM⟩ := bindE hM
   refine o_index (xs := a0) (f := cI) (z := (a1.length : Int)) (u := x5) (by decide) rfl rfl ty_es22 hx5 ?_
   refine Olp (.i x5) ty_agg3 ty_sc3 ?_
   refine Oi (.b (decide (v4 ≤ x5))) ?_
   refine Ni ?_
   refine Ws ?_
   rcases bft (decide (v4 ≤ x5)) with hb6 | hb6
   ·replace hM := ifT hM hb6
    refine Ct hb6 ?_
    refine r_skip ?_
    refine Ws ?_
    refine Sq ?_
    refine r_block ?_
    refine Rg 11 ?_
    refine Om (.sl (.id (g + 1 + 5 + 1)) 1 (v3.map (cL 1 cI))) ?_
    refine Om (.sl .no 1 (a0.map cI)) ?_
    refine o_buildSlice (es := []) hS (by decide) ty_es22 ty_el22 rfl ty_ef22 rfl (by decide) (by omega) fun H hS => ?_
    refine Om (.sl .no 1 (a1.map cI)) ?_
    obtain ⟨l7, hl7, hM⟩ := bindE hM
    refine o_append (xs := ([] : List Int)) (ys := a1) (zs := l7) (f := cI) (L' := [(g2 + 7 + 2, .row 3 l7.length), (g + 1 + 5 + 1, .row 22 v3.length)]) 0 hS (by decide) rfl rfl rfl rfl .no ty_es22 ty_el22 ty_ef22 hl7 rfl fun H hS => ?_
    refine Om (.i v4) ?_
    refine o_buildSlice (es := [[.i v4]]) hS (by decide) ty_es22 ty_el22 rfl ty_ef22 rfl (by decide) (by omega) fun H hS => ?_
    obtain ⟨l8, hl8, hM⟩ := bindE hM
    refine o_append (xs := l7) (ys := ([v4] : List Int)) (zs := l8) (f := cI) (L' := [(g2 + 7 + 6, .row 3 1), (g2 + 7 + 2, .row 3 l8.length), (g + 1 + 5 + 1, .row 22 v3.length)]) 1 hS (by decide) rfl rfl rfl rfl .no ty_es22 ty_el22 ty_ef22 hl8 rfl fun H hS => ?_
    obtain ⟨r9, hr9, hM⟩ := bindE hM
    refine o_call (bs := [.sl .no 1 (a0.map cI), .sl (.id (g2 + 7 + 2)) 1 (l8.map cI)]) (by decide) rfl rfl ((hrec hr9).le (.k (.cons (.sl _ _ _) .nil))) ?_
    obtain ⟨l10, hl10, hM⟩ := bindE hM
    refine o_append (xs := v3) (ys := r9) (zs := l10) (f := (cL 1 cI)) (L' := [(g2 + 7 + 6, .row 3 1), (g2 + 7 + 2, .row 3 l8.length), (g + 1 + 5 + 1, .row 22 l10.length)]) 2 hS (by decide) rfl rfl rfl rfl .no ty_es116 ty_el116 ty_ef116 hl10 rfl fun H hS => ?_
    refine Oa (.sl (.id (g + 1 + 5 + 1)) 1 (l10.map (cL 1 cI))) ?_
    refine Ni ?_
    refine r_blk_normal ?_
    replace hS := hS.keep (L' := [(g + 1 + 5 + 1, .row 22 l10.length)]) [false, false, true] rfl
    refine Ws ?_
    refine Rg 3 ?_
    refine Om (.i v4) ?_
    refine Oi (.i (w64 (v4 + 1))) ?_
    refine Oa (.i (w64 (v4 + 1))) ?_
    refine Ni ?_
    exact w_round (l10, w64 (v4 + 1)) (Nat.lt_succ_self _) (.k (.k (.k (.k .nil)))) ⟨(hS.keep [true] rfl).up (by omega), hM⟩
   ·replace hM := ifF hM hb6
    refine Cf hb6 ?_
    refine r_exit ?_
    refine r_then_exit ?_
    refine w_round_exit ?_
    refine r_blk_exit ?_
    exact w_goto v3 (.k .nil) ⟨(hS.keep [true] rfl).up (by omega), hM⟩
theorem W_ref01_parts : ∀ {n : Nat} {a0 : List Int} {a1 : List Int} {r : (List (List Int))}, ref01_parts n a0 a1 = some r → PureSat Try.prog 96 [.sl .no 1 (a0.map cI), .sl .no 1 (a1.map cI)] (.sl .no 1 (r.map (cL 1 cI)))
 | 0, _, _, _, h => nomatch (show none = some _ from h)
 | n + 1, _, _, _, h => W_ref01_parts_b (n := n) (rec := ref01_parts n) (fun h => W_ref01_parts h) h
theorem W_ref01_Wasted {n : Nat} {a0 : Wheel} {a1 : List Int} {r : Int × Int} (hM : ref01_Wasted n a0 a1 = some r) : PureSat Try.prog 55 [.agg (Wheel.cells a0), .sl .no 1 (a1.map cI)] (.tup [.i r.1, .i r.2]) := by
 refine pure_of_wp mixed Try.func55 rfl (by decide) Try.ntmps55 (by simp) ?pure fun H0 g hf => ?_
 case pure => exact .tup _ (pl_cons (.v _) (pl_cons (.v _) pl_nil))
 rw [frame0_of]
 change wpA _ _ _ _ (Fr.of [(0, .agg (Wheel.cells a0)), (1, .sl .no 1 (a1.map cI))]) H0 g
 have hS := St.start hf
 refine Sq ?_
 refine Rg 3 ?_
 refine o_box (v := .agg (Wheel.cells a0)) (cs := (Wheel.cells a0)) hS (by decide) rfl rfl (by omega) fun H hS => ?_
 refine Oa (.i 0) ?_
 refine Oa (.i 0) ?_
 refine Ni ?_
 refine w_iceE (L' := []) 0 2 hS rfl rfl rfl fun H hS => ?_
 refine Ws ?_
 refine Sq ?_
 refine Sq ?_
 refine Rg 3 ?_
 refine Olg (.agg (Wheel.cells a0)) ty_agg24 ?_
 obtain ⟨r1, hr1, hM⟩ := bindE hM
 refine o_call (bs := [.agg (Wheel.cells a0)]) (by decide) rfl rfl ((W_ref01_Check hr1).le (.k .nil)) ?_
 refine Oa (.i r1) ?_
 refine Ni ?_
 refine Ws ?_
 refine Sq ?_
 refine Rg 2 ?_
 refine Om (.i r1) ?_
 refine Oi (.b (r1 != 0)) ?_
 refine Ni ?_
 refine Ws ?_
 rcases bft (r1 != 0) with hb2 | hb2
 ·replace hM := ifT hM hb2
  refine Ct hb2 ?_
  refine Sq ?_
  refine Rg 3 ?_
  refine Om (.i r1) ?_
  refine Oa (.i 0) ?_
  refine Oa (.i r1) ?_
  refine Ni ?_
  refine Ws ?_
  refine r_ret ?_
  refine r_then_ret ?_
  refine w_end (x := .tup [.i 0, .i r1]) (f := fun r => .tup [.i r.1, .i r.2]) (.inr rfl) ?_ (.refl _) (Option.some.inj hM) hS
  exact (res_two (res_tmp (x := .i 0) rfl) (res_tmp (x := .i r1) rfl))
 ·replace hM := ifF hM hb2
  refine Cf hb2 ?_
  refine r_skip ?_
  refine Ws ?_
  refine Sq ?_
  refine Sq ?_
  refine Rg 4 ?_
  refine Olg (.agg (Wheel.cells a0)) ty_agg24 ?_
  refine Om (.sl .no 1 (a1.map cI)) ?_
  obtain ⟨r3, hr3, hM⟩ := bindE hM
  refine o_call (bs := [.agg (Wheel.cells a0), .sl .no 1 (a1.map cI)]) (by decide) rfl rfl ((W_ref01_IsPurse hr3).le (.k (.k .nil))) ?_
  refine o_not (e := r3) (by decide) rfl ?_
  refine Ni ?_
  refine Ws ?_
  rcases bft (!r3) with hb4 | hb4
  ·replace hM := ifT hM hb4
   refine Ct hb4 ?_
   refine Sq ?_
   refine Rg 2 ?_
   refine Oa (.i 0) ?_
   refine Oa (.i 1) ?_
   refine Ni ?_
   refine Ws ?_
   refine r_ret ?_
   refine r_then_ret ?_
   refine w_end (x := .tup [.i 0, .i 1]) (f := fun r => .tup [.i r.1, .i r.2]) (.inr rfl) ?_ (.refl _) (Option.some.inj hM) hS
   exact (res_two (res_tmp (x := .i 0) rfl) (res_tmp (x := .i 1) rfl))
  ·replace hM := ifF hM hb4
   refine Cf hb4 ?_
   refine r_skip ?_
   refine Ws ?_
   refine Sq ?_
   have hS0 := hS
   refine r_draw (n := 11) rfl (by kernel_rfl) ?_
   refine Olg (.agg (Wheel.cells a0)) ty_agg24 ?_
   refine o_build (cs := [.i 0, .i 0]) (by decide) ty_zero57 ty_pl57 rfl ?_
   refine Om (.sl .no 1 (a1.map cI)) ?_
   obtain ⟨r5, hr5, hM⟩ := bindE hM
   refine o_call (bs := [.agg (Wheel.cells a0), .agg [.i 0, .i 0], .sl .no 1 (a1.map cI)]) (by decide) rfl rfl ((W_ref01_all hr5).le (.k (.k (.k .nil)))) ?_
   refine o_field (v := .i r5.Most) (cs := [.i r5.Most, .i r5.Least]) (by decide) ty_ft122_0 rfl (po ty_agg3 ty_sc3) ?_
   refine Olg (.agg (Wheel.cells a0)) ty_agg24 ?_
   refine Om (.sl .no 1 (a1.map cI)) ?_
   obtain ⟨r6, hr6, hM⟩ := bindE hM
   refine o_call (bs := [.agg (Wheel.cells a0), .sl .no 1 (a1.map cI)]) (by decide) rfl rfl ((W_ref01_PurseWorth hr6).le (.k (.k .nil))) ?_
   refine Oa (.i r5.Most) ?_
   refine Oa (.i r6) ?_
   refine Oa (.i 0) ?_
   refine Ni ?_
   refine Ws ?_
   refine Sq ?_
   refine Rg 3 ?_
   refine Om (.sl .no 1 (a1.map cI)) ?_
   obtain ⟨r7, hr7, hM⟩ := bindE hM
   refine o_call (bs := [.sl .no 1 (a1.map cI), .sl .nil 0 []]) (by decide) rfl rfl ((W_ref01_parts hr7).le (.k (.cons (.sl0 .nil 1 0) .nil))) ?_
   refine Oa (.sl .no 1 (r7.map (cL 1 cI))) ?_
   refine Ni ?_
   refine Ws ?_
   refine w_join (J := Int) (fun j => [(9, .i j)]) (fun j H' g' => St (· < g) H0 [] H' g' ∧ ref01_Wasted_j1 j = some r) ?_ ?_
   ·rintro v8 H g1 ⟨hS, hM⟩
    change wpA _ _ _ _ (Fr.of [(9, .i v8)]) _ _
    replace hS : St (· < g) H0 [] H g1 := hS
    replace hM : ref01_Wasted_j1 v8 = some r := hM
    refine Sq ?_
    refine Rg 3 ?_
    refine Om (.i v8) ?_
    refine Oa (.i v8) ?_
    refine Oa (.i 0) ?_
    refine Ni ?_
    refine Ws ?_
    refine r_ret ?_
    refine w_end (x := .tup [.i v8, .i 0]) (f := fun r => .tup [.i r.1, .i r.2]) (.inr rfl) ?_ (.refl _) (Option.some.inj hM) hS
    exact (res_two (res_tmp (x := .i v8) rfl) (res_tmp (x := .i 0) rfl))
   ·refine Sq ?_
    refine Rg 1 ?_
    refine Oa (.i 0) ?_
    refine Ni ?_
    refine Ws ?_
    refine r_block ?_
    refine w_loop (V := Int × Int) (fun v => [(2, .ep (Wheel.cells a0)), (7, .i r5.Most), (8, .i r6), (9, .i v.1), (10, .sl .no 1 (r7.map (cL 1 cI))), (11, .i v.2)]) (fun v m2 H' g' => St (· < g) H0 [] H' g' ∧ ref01_Wasted_l1 n a0 r5 r6 r7 m2 v.1 v.2 = some r) (n := n) (0, 0) (.k (.k (.k (.k (.k (.k .nil)))))) ⟨(hS.keep [] rfl).up (by omega), hM⟩ ?_
    rintro ⟨v9, v10⟩ m2 H g2 ⟨hS, hM⟩
    obtain _ | m2 := m2
    ·exact nomatch (show none = some _ from hM)
    change wpA _ _ _ _ (Fr.of [(2, .ep (Wheel.cells a0)), (7, .i r5.Most), (8, .i r6), (9, .i v9), (10, .sl .no 1 (r7.map (cL 1 cI))), (11, .i v10)]) _ _
    replace hS : St (· < g) H0 [] H g2 := hS
    replace hM : ref01_Wasted_l1_b n a0 r5 r6 r7 (ref01_Wasted_l1 n a0 r5 r6 r7 m2) v9 v10 = some r := hM
    refine Sq ?_
    refine Sq ?_
    refine Rg 4 ?_
    refine Om (.i v10) ?_
    refine Om (.sl .no 1 (r7.map (cL 1 cI))) ?_
    refine o_len (n := r7.length) (by decide) rfl (List.length_map _) ty_isl116 ?_
    refine Oi (.b (decide (v10 < (r7.length : Int)))) ?_
    refine Ni ?_
    refine Ws ?_
    rcases bft (decide (v10 < (r7.length : Int))) with hb11 | hb11
    ·replace hM := ifT hM hb11
     refine Ct hb11 ?_
     refine r_skip ?_
     refine Ws ?_
     refine w_join (J := Int) (fun j => [(2, .ep (Wheel.cells a0)), (7, .i r5.Most), (8, .i r6), (9, .i j), (10, .sl .no 1 (r7.map (cL 1 cI))), (11, .i v10)]) (fun j H' g' => St (· < g) H0 [] H' g' ∧ ref01_Wasted_j2 (ref01_Wasted_l1 n a0 r5 r6 r7 m2) v10 j = some r) ?_ ?_
     ·rintro v12 H g3 ⟨hS, hM⟩
      change wpA _ _ _ _ (Fr.of [(2, .ep (Wheel.cells a0)), (7, .i r5.Most), (8, .i r6), (9, .i v12), (10, .sl .no 1 (r7.map (cL 1 cI))), (11, .i v10)]) _ _
      replace hS : St (· < g) H0 [] H g3 := hS
      replace hM : ref01_Wasted_j2 (ref01_Wasted_l1 n a0 r5 r6 r7 m2) v10 v12 = some r := hM
      refine Rg 3 ?_
      refine Om (.i v10) ?_
      refine Oi (.i (w64 (v10 + 1))) ?_
      refine Oa (.i (w64 (v10 + 1))) ?_
      refine Ni ?_
      exact w_round (v12, w64 (v10 + 1)) (Nat.lt_succ_self _) (.k (.k (.k (.k (.k (.k .nil)))))) ⟨(hS.keep [] rfl).up (by omega), hM⟩
     ·refine r_block ?_
      refine Sq ?_
      have hS0 := hS
      refine r_draw (n := 9) rfl (by kernel_rfl) ?_
      refine Om (.i r6) ?_
      refine Olg (.agg (Wheel.cells a0)) ty_agg24 ?_
      refine Om (.sl .no 1 (r7.map (cL 1 cI))) ?_
      refine Om (.i v10) ?_
      obtain ⟨x13, hx13, hM⟩ := bindE hM
      refine o_index (xs := r7) (f := (cL 1 cI)) (z := v10) (u := x13) (by decide) rfl rfl ty_es116 hx13 ?_
      refine Olp (.sl .no 1 (x13.map cI)) ty_agg22 ty_sc22 ?_
      obtain ⟨r14, hr14, hM⟩ := bindE hM
      refine o_call (bs := [.agg (Wheel.cells a0), .sl .no 1 (x13.map cI)]) (by decide) rfl rfl ((W_ref01_PurseWorth hr14).le (.k (.k .nil))) ?_
      refine Oi (.i (w64 (r6 - r14))) ?_
      refine Oa (.i (w64 (r6 - r14))) ?_
      refine Ni ?_
      refine Ws ?_
      refine w_join (J := Bool) (fun j => [(2, .ep (Wheel.cells a0)), (7, .i r5.Most), (8, .i r6), (9, .i v9), (10, .sl .no 1 (r7.map (cL 1 cI))), (11, .i v10), (12, .i (w64 (r6 - r14))), (60, .b j)]) (fun j H' g' => St (· < g) H0 [] H' g' ∧ ref01_Wasted_j3 (ref01_Wasted_l1 n a0 r5 r6 r7 m2) r6 v9 v10 r14 j = some r) ?_ ?_
      ·rintro v15 H g4 ⟨hS, hM⟩
       change wpA _ _ _ _ (Fr.of [(2, .ep (Wheel.cells a0)), (7, .i r5.Most), (8, .i r6), (9, .i v9), (10, .sl .no 1 (r7.map (cL 1 cI))), (11, .i v10), (12, .i (w64 (r6 - r14))), (60, .b v15)]) _ _
       replace hS : St (· < g) H0 [] H g4 := hS
       replace hM : ref01_Wasted_j3 (ref01_Wasted_l1 n a0 r5 r6 r7 m2) r6 v9 v10 r14 v15 = some r := hM
       rcases bft v15 with hb16 | hb16
       ·replace hM := ifT hM hb16
        refine Ct hb16 ?_
        refine Rg 2 ?_
        refine Om (.i (w64 (r6 - r14))) ?_
        refine Oa (.i (w64 (r6 - r14))) ?_
        refine Ni ?_
        refine r_blk_normal ?_
        exact w_goto (w64 (r6 - r14)) (.k (.k (.k (.k (.k (.k .nil)))))) ⟨(hS.keep [] rfl).up (by omega), hM⟩
       ·replace hM := ifF hM hb16
        refine Cf hb16 ?_
        refine r_skip ?_
        refine r_blk_normal ?_
        exact w_goto v9 (.k (.k (.k (.k (.k (.k .nil)))))) ⟨(hS.keep [] rfl).up (by omega), hM⟩
      ·have hS0 := hS
       refine r_draw (n := 15) rfl (by kernel_rfl) ?_
       refine Om (.i (w64 (r6 - r14))) ?_
       refine Om (.i v9) ?_
       refine Oi (.b (decide ((w64 (r6 - r14)) > v9))) ?_
       refine Om (.b (decide ((w64 (r6 - r14)) > v9))) ?_
       rcases bft (decide ((w64 (r6 - r14)) > v9)) with hb17 | hb17
       ·replace hM := ifT hM hb17
        refine Oy (want := true) hb17 ?_
        refine Olg (.agg (Wheel.cells a0)) ty_agg24 ?_
        refine Oy (want := true) hb17 ?_
        refine o_build (cs := [.i 0, .i 0]) (by decide) ty_zero57 ty_pl57 rfl ?_
        refine Oy (want := true) hb17 ?_
        refine Om (.sl .no 1 (r7.map (cL 1 cI))) ?_
        refine Oy (want := true) hb17 ?_
        refine Om (.i v10) ?_
        refine Oy (want := true) hb17 ?_
        obtain ⟨x18, hx18, hM⟩ := bindE hM
        refine o_index (xs := r7) (f := (cL 1 cI)) (z := v10) (u := x18) (by decide) rfl rfl ty_es116 hx18 ?_
        refine Oy (want := true) hb17 ?_
        refine Olp (.sl .no 1 (x18.map cI)) ty_agg22 ty_sc22 ?_
        refine Oy (want := true) hb17 ?_
        obtain ⟨r19, hr19, hM⟩ := bindE hM
        refine o_call (bs := [.agg (Wheel.cells a0), .agg [.i 0, .i 0], .sl .no 1 (x18.map cI)]) (by decide) rfl rfl ((W_ref01_all hr19).le (.k (.k (.k .nil)))) ?_
        refine Oy (want := true) hb17 ?_
        refine o_field (v := .i r19.Most) (cs := [.i r19.Most, .i r19.Least]) (by decide) ty_ft122_0 rfl (po ty_agg3 ty_sc3) ?_
        refine Oy (want := true) hb17 ?_
        refine Om (.i r5.Most) ?_
        refine Oy (want := true) hb17 ?_
        refine Oi (.b (r19.Most == r5.Most)) ?_
        refine Pt (.b (r19.Most == r5.Most)) hb17 ?_
        refine Ni ?_
        exact w_goto (r19.Most == r5.Most) (.k (.k (.k (.k (.k (.k (.k (.k .nil)))))))) ⟨(hS.keep [] rfl).up (by omega), hM⟩
       ·replace hM := ifF hM hb17
        refine On (want := true) hb17 ?_
        refine On (want := true) hb17 ?_
        refine On (want := true) hb17 ?_
        refine On (want := true) hb17 ?_
        refine On (want := true) hb17 ?_
        refine On (want := true) hb17 ?_
        refine On (want := true) hb17 ?_
        refine On (want := true) hb17 ?_
        refine On (want := true) hb17 ?_
        refine On (want := true) hb17 ?_
        refine Pf (.b false) hb17 ?_
        refine Ni ?_
        exact w_goto false (.k (.k (.k (.k (.k (.k (.k (.k .nil)))))))) ⟨(hS.keep [] rfl).up (by omega), hM⟩
    ·replace hM := ifF hM hb11
     refine Cf hb11 ?_
     refine r_exit ?_
     refine r_then_exit ?_
     refine w_round_exit ?_
     refine r_blk_exit ?_
     exact w_goto v9 (.k .nil) ⟨(hS.keep [] rfl).up (by omega), hM⟩
theorem W_law01_CoinsMost {n : Nat} {a0 : Wheel} {a1 : List Int} {r : Bool} (hM : law01_CoinsMost n a0 a1 = some r) : PureSat Try.prog 15 [.agg (Wheel.cells a0), .sl .no 1 (a1.map cI)] (.b r) := by
 refine pure_of_wp mixed Try.func15 rfl (by decide) Try.ntmps15 (by simp) ?pure fun H0 g hf => ?_
 case pure => exact .v _
 rw [frame0_of]
 change wpA _ _ _ _ (Fr.of [(0, .agg (Wheel.cells a0)), (1, .sl .no 1 (a1.map cI))]) H0 g
 have hS := St.start hf
 refine Sq ?_
 refine Rg 2 ?_
 refine o_box (v := .agg (Wheel.cells a0)) (cs := (Wheel.cells a0)) hS (by decide) rfl rfl (by omega) fun H hS => ?_
 refine Oa (.b false) ?_
 refine Ni ?_
 refine w_iceE (L' := []) 0 2 hS rfl rfl rfl fun H hS => ?_
 refine Ws ?_
 refine Sq ?_
 refine w_join (J := Bool) (fun j => [(1, .sl .no 1 (a1.map cI)), (2, .ep (Wheel.cells a0)), (25, .b j)]) (fun j H' g' => St (· < g) H0 [] H' g' ∧ law01_CoinsMost_j1 n a0 a1 j = some r) ?_ ?_
 ·rintro v1 H g1 ⟨hS, hM⟩
  change wpA _ _ _ _ (Fr.of [(1, .sl .no 1 (a1.map cI)), (2, .ep (Wheel.cells a0)), (25, .b v1)]) _ _
  replace hS : St (· < g) H0 [] H g1 := hS
  replace hM : law01_CoinsMost_j1 n a0 a1 v1 = some r := hM
  rcases bft v1 with hb2 | hb2
  ·replace hM := ifT hM hb2
   refine Ct hb2 ?_
   refine Sq ?_
   refine Rg 2 ?_
   obtain ⟨r3, hr3, hM⟩ := bindE hM
   refine o_call (bs := []) (by decide) rfl rfl ((W_law01_works hr3).le .nil) ?_
   refine Oa (.b r3) ?_
   refine Ni ?_
   refine Ws ?_
   refine r_ret ?_
   refine r_then_ret ?_
   refine w_end (x := .b r3) (f := fun r => .b r) (.inr rfl) ?_ (.refl _) (Option.some.inj hM) hS
   exact (res_one (res_tmp (x := .b r3) rfl))
  ·replace hM := ifF hM hb2
   refine Cf hb2 ?_
   refine r_skip ?_
   refine Ws ?_
   refine Sq ?_
   refine Rg 8 ?_
   refine Olg (.agg (Wheel.cells a0)) ty_agg24 ?_
   obtain ⟨r4, hr4, hM⟩ := bindE hM
   refine o_call (bs := [.agg (Wheel.cells a0)]) (by decide) rfl rfl ((W_ref01_Copy hr4).le (.k .nil)) ?_
   refine o_buildSlice (es := []) hS (by decide) ty_es22 ty_el22 rfl ty_ef22 rfl (by decide) (by omega) fun H hS => ?_
   refine Om (.sl .no 1 (a1.map cI)) ?_
   obtain ⟨l5, hl5, hM⟩ := bindE hM
   refine o_append (xs := ([] : List Int)) (ys := a1) (zs := l5) (f := cI) (L' := [(g1 + 2, .row 3 l5.length)]) 0 hS (by decide) rfl rfl rfl rfl .no ty_es22 ty_el22 ty_ef22 hl5 rfl fun H hS => ?_
   refine o_alloc hS (by decide) ty_zero24 (by omega) fun H hS => ?_
   refine o_store (v := .agg (Wheel.cells r4)) (ns := (Wheel.cells r4)) (L' := [(g1 + 5, .cells (Wheel.cells r4)), (g1 + 2, .row 3 l5.length)]) 0 hS rfl rfl .no rfl rfl ty_var24 nlb rfl fun H hS => ?_
   refine Oa (.sl (.id (g1 + 2)) 1 (l5.map cI)) ?_
   refine Ni ?_
   refine w_iceE (L' := [(g1 + 2, .row 3 l5.length)]) 0 5 hS rfl rfl rfl fun H hS => ?_
   refine Ws ?_
   refine Sq ?_
   refine Rg 8 ?_
   refine Olg (.agg (Wheel.cells r4)) ty_agg24 ?_
   refine Om (.sl (.id (g1 + 2)) 1 (l5.map cI)) ?_
   obtain ⟨r6, hr6, hM⟩ := bindE hM
   refine o_call (bs := [.agg (Wheel.cells r4), .sl (.id (g1 + 2)) 1 (l5.map cI)]) (by decide) rfl rfl ((W_coins_Most hr6).le (.k (.cons (.sl _ _ _) .nil))) ?_
   refine Om (.tup [.i r6.1, .i r6.2]) ?_
   refine Ox (.i r6.1) ?_
   refine Ox (.i r6.2) ?_
   refine Oa (.i r6.1) ?_
   refine Oa (.i r6.2) ?_
   refine Ni ?_
   refine Ws ?_
   refine Sq ?_
   refine Rg 8 ?_
   refine Olg (.agg (Wheel.cells a0)) ty_agg24 ?_
   refine Om (.sl .no 1 (a1.map cI)) ?_
   obtain ⟨r7, hr7, hM⟩ := bindE hM
   refine o_call (bs := [.agg (Wheel.cells a0), .sl .no 1 (a1.map cI)]) (by decide) rfl rfl ((W_ref01_Most hr7).le (.k (.k .nil))) ?_
   refine Om (.tup [.i r7.1, .i r7.2]) ?_
   refine Ox (.i r7.1) ?_
   refine Ox (.i r7.2) ?_
   refine Oa (.i r7.1) ?_
   refine Oa (.i r7.2) ?_
   refine Ni ?_
   refine Ws ?_
   refine Sq ?_
   refine Rg 8 ?_
   refine Olg (.agg (Wheel.cells r4)) ty_agg24 ?_
   refine Om (.sl (.id (g1 + 2)) 1 (l5.map cI)) ?_
   obtain ⟨r8, hr8, hM⟩ := bindE hM
   refine o_call (bs := [.agg (Wheel.cells r4), .sl (.id (g1 + 2)) 1 (l5.map cI)]) (by decide) rfl rfl ((W_coins_Least hr8).le (.k (.cons (.sl _ _ _) .nil))) ?_
   refine Om (.tup [.i r8.1, .i r8.2]) ?_
   refine Ox (.i r8.1) ?_
   refine Ox (.i r8.2) ?_
   refine Oa (.i r8.1) ?_
   refine Oa (.i r8.2) ?_
   refine Ni ?_
   refine Ws ?_
   refine Sq ?_
   refine Rg 8 ?_
   refine Olg (.agg (Wheel.cells a0)) ty_agg24 ?_
   refine Om (.sl .no 1 (a1.map cI)) ?_
   obtain ⟨r9, hr9, hM⟩ := bindE hM
   refine o_call (bs := [.agg (Wheel.cells a0), .sl .no 1 (a1.map cI)]) (by decide) rfl rfl ((W_ref01_Least hr9).le (.k (.k .nil))) ?_
   refine Om (.tup [.i r9.1, .i r9.2]) ?_
   refine Ox (.i r9.1) ?_
   refine Ox (.i r9.2) ?_
   refine Oa (.i r9.1) ?_
   refine Oa (.i r9.2) ?_
   refine Ni ?_
   refine Ws ?_
   refine Sq ?_
   refine w_join (J := Bool) (fun j => [(1, .sl .no 1 (a1.map cI)), (2, .ep (Wheel.cells a0)), (5, .ep (Wheel.cells r4)), (6, .sl (.id (g1 + 2)) 1 (l5.map cI)), (9, .i r7.1), (10, .i r7.2), (73, .b j)]) (fun j H' g' => St (· < g) H0 [(g1 + 2, .row 3 l5.length)] H' g' ∧ law01_CoinsMost_j2 n a0 a1 r4 l5 r7 j = some r) ?_ ?_
   ·rintro v10 H g2 ⟨hS, hM⟩
    change wpA _ _ _ _ (Fr.of [(1, .sl .no 1 (a1.map cI)), (2, .ep (Wheel.cells a0)), (5, .ep (Wheel.cells r4)), (6, .sl (.id (g1 + 2)) 1 (l5.map cI)), (9, .i r7.1), (10, .i r7.2), (73, .b v10)]) _ _
    replace hS : St (· < g) H0 [(g1 + 2, .row 3 l5.length)] H g2 := hS
    replace hM : law01_CoinsMost_j2 n a0 a1 r4 l5 r7 v10 = some r := hM
    rcases bft v10 with hb11 | hb11
    ·replace hM := ifT hM hb11
     refine Ct hb11 ?_
     refine Sq ?_
     refine Rg 1 ?_
     refine Oa (.b false) ?_
     refine Ni ?_
     replace hS := hS.keep (L' := []) [false] rfl
     refine Ws ?_
     refine r_ret ?_
     refine r_then_ret ?_
     refine w_end (x := .b false) (f := fun r => .b r) (.inr rfl) ?_ (.refl _) (Option.some.inj hM) hS
     exact (res_one (res_tmp (x := .b false) rfl))
    ·replace hM := ifF hM hb11
     refine Cf hb11 ?_
     refine r_skip ?_
     refine Ws ?_
     refine Sq ?_
     refine Rg 8 ?_
     refine Olg (.agg (Wheel.cells r4)) ty_agg24 ?_
     refine Om (.sl (.id (g1 + 2)) 1 (l5.map cI)) ?_
     obtain ⟨r12, hr12, hM⟩ := bindE hM
     refine o_call (bs := [.agg (Wheel.cells r4), .sl (.id (g1 + 2)) 1 (l5.map cI)]) (by decide) rfl rfl ((W_coins_Wasted hr12).le (.k (.cons (.sl _ _ _) .nil))) ?_
     refine Om (.tup [.i r12.1, .i r12.2]) ?_
     refine Ox (.i r12.1) ?_
     refine Ox (.i r12.2) ?_
     refine Oa (.i r12.1) ?_
     refine Oa (.i r12.2) ?_
     refine Ni ?_
     refine Ws ?_
     refine Sq ?_
     refine Rg 8 ?_
     refine Olg (.agg (Wheel.cells a0)) ty_agg24 ?_
     refine Om (.sl .no 1 (a1.map cI)) ?_
     obtain ⟨r13, hr13, hM⟩ := bindE hM
     refine o_call (bs := [.agg (Wheel.cells a0), .sl .no 1 (a1.map cI)]) (by decide) rfl rfl ((W_ref01_Wasted hr13).le (.k (.k .nil))) ?_
     refine Om (.tup [.i r13.1, .i r13.2]) ?_
     refine Ox (.i r13.1) ?_
     refine Ox (.i r13.2) ?_
     refine Oa (.i r13.1) ?_
     refine Oa (.i r13.2) ?_
     refine Ni ?_
     refine Ws ?_
     refine Sq ?_
     refine Rg 8 ?_
     refine Olg (.agg (Wheel.cells r4)) ty_agg24 ?_
     refine Om (.sl (.id (g1 + 2)) 1 (l5.map cI)) ?_
     obtain ⟨r14, hr14, hM⟩ := bindE hM
     refine o_call (bs := [.agg (Wheel.cells r4), .sl (.id (g1 + 2)) 1 (l5.map cI)]) (by decide) rfl rfl ((W_coins_Order hr14).le (.k (.cons (.sl _ _ _) .nil))) ?_
     refine Om (.tup [.sl .no 1 (r14.1.map cI), .i r14.2]) ?_
     refine Ox (.sl .no 1 (r14.1.map cI)) ?_
     refine Ox (.i r14.2) ?_
     refine Oa (.sl .no 1 (r14.1.map cI)) ?_
     refine Oa (.i r14.2) ?_
     refine Ni ?_
     refine Ws ?_
     refine Sq ?_
     refine w_join (J := Bool) (fun j => [(1, .sl .no 1 (a1.map cI)), (2, .ep (Wheel.cells a0)), (9, .i r7.1), (10, .i r7.2), (17, .sl .no 1 (r14.1.map cI)), (121, .b j)]) (fun j H' g' => St (· < g) H0 [] H' g' ∧ law01_CoinsMost_j3 n a0 a1 r7 r14 j = some r) ?_ ?_
     ·rintro v15 H g3 ⟨hS, hM⟩
      change wpA _ _ _ _ (Fr.of [(1, .sl .no 1 (a1.map cI)), (2, .ep (Wheel.cells a0)), (9, .i r7.1), (10, .i r7.2), (17, .sl .no 1 (r14.1.map cI)), (121, .b v15)]) _ _
      replace hS : St (· < g) H0 [] H g3 := hS
      replace hM : law01_CoinsMost_j3 n a0 a1 r7 r14 v15 = some r := hM
      rcases bft v15 with hb16 | hb16
      ·replace hM := ifT hM hb16
       refine Ct hb16 ?_
       refine Sq ?_
       refine Rg 1 ?_
       refine Oa (.b false) ?_
       refine Ni ?_
       refine Ws ?_
       refine r_ret ?_
       refine r_then_ret ?_
       refine w_end (x := .b false) (f := fun r => .b r) (.inr rfl) ?_ (.refl _) (Option.some.inj hM) hS
       exact (res_one (res_tmp (x := .b false) rfl))
      ·replace hM := ifF hM hb16
       refine Cf hb16 ?_
       refine r_skip ?_
       refine Ws ?_
       refine Sq ?_
       refine Sq ?_
       refine Rg 2 ?_
       refine Om (.i r7.2) ?_
       refine Oi (.b (r7.2 != 0)) ?_
       refine Ni ?_
       refine Ws ?_
       rcases bft (r7.2 != 0) with hb17 | hb17
       ·replace hM := ifT hM hb17
        refine Ct hb17 ?_
        refine w_join (J := Bool) (fun j => [(4, .b j)]) (fun j H' g' => St (· < g) H0 [] H' g' ∧ law01_CoinsMost_j4 j = some r) ?_ ?_
        ·rintro v18 H g4 ⟨hS, hM⟩
         change wpA _ _ _ _ (Fr.of [(4, .b v18)]) _ _
         replace hS : St (· < g) H0 [] H g4 := hS
         replace hM : law01_CoinsMost_j4 v18 = some r := hM
         refine r_ret ?_
         refine r_then_ret ?_
         refine w_end (x := .b v18) (f := fun r => .b r) (.inr rfl) ?_ (.refl _) (Option.some.inj hM) hS
         exact (res_one (res_tmp (x := .b v18) rfl))
        ·refine Rg 7 ?_
         refine Om (.sl .no 1 (r14.1.map cI)) ?_
         refine o_len (n := r14.1.length) (by decide) rfl (List.length_map _) ty_isl22 ?_
         refine Oi (.b ((r14.1.length : Int) == 0)) ?_
         refine Om (.b ((r14.1.length : Int) == 0)) ?_
         rcases bft ((r14.1.length : Int) == 0) with hb19 | hb19
         ·replace hM := ifT hM hb19
          refine Oy (want := true) hb19 ?_
          obtain ⟨r20, hr20, hM⟩ := bindE hM
          refine o_call (bs := []) (by decide) rfl rfl ((W_law01_works hr20).le .nil) ?_
          refine Pt (.b r20) hb19 ?_
          refine Oa (.b r20) ?_
          refine Ni ?_
          exact w_goto r20 (.k .nil) ⟨(hS.keep [] rfl).up (by omega), hM⟩
         ·replace hM := ifF hM hb19
          refine On (want := true) hb19 ?_
          refine Pf (.b false) hb19 ?_
          refine Oa (.b false) ?_
          refine Ni ?_
          exact w_goto false (.k .nil) ⟨(hS.keep [] rfl).up (by omega), hM⟩
       ·replace hM := ifF hM hb17
        refine Cf hb17 ?_
        refine r_skip ?_
        refine Ws ?_
        refine w_join (J := Bool) (fun j => [(4, .b j)]) (fun j H' g' => St (· < g) H0 [] H' g' ∧ law01_CoinsMost_j5 j = some r) ?_ ?_
        ·rintro v21 H g5 ⟨hS, hM⟩
         change wpA _ _ _ _ (Fr.of [(4, .b v21)]) _ _
         replace hS : St (· < g) H0 [] H g5 := hS
         replace hM : law01_CoinsMost_j5 v21 = some r := hM
         refine r_ret ?_
         refine w_end (x := .b v21) (f := fun r => .b r) (.inr rfl) ?_ (.refl _) (Option.some.inj hM) hS
         exact (res_one (res_tmp (x := .b v21) rfl))
        ·refine Rg 15 ?_
         refine Olg (.agg (Wheel.cells a0)) ty_agg24 ?_
         refine Om (.sl .no 1 (a1.map cI)) ?_
         refine Om (.sl .no 1 (r14.1.map cI)) ?_
         obtain ⟨r22, hr22, hM⟩ := bindE hM
         refine o_call (bs := [.agg (Wheel.cells a0), .sl .no 1 (a1.map cI), .sl .no 1 (r14.1.map cI)]) (by decide) rfl rfl ((W_law01_isWay hr22).le (.k (.k (.k .nil)))) ?_
         refine Om (.b r22) ?_
         rcases bft r22 with hb23 | hb23
         ·replace hM := ifT hM hb23
          refine Oy (want := true) hb23 ?_
          refine Olg (.agg (Wheel.cells a0)) ty_agg24 ?_
          refine Oy (want := true) hb23 ?_
          refine Om (.sl .no 1 (r14.1.map cI)) ?_
          refine Oy (want := true) hb23 ?_
          obtain ⟨r24, hr24, hM⟩ := bindE hM
          refine o_call (bs := [.agg (Wheel.cells a0), .sl .no 1 (r14.1.map cI)]) (by decide) rfl rfl ((W_ref01_Buys hr24).le (.k (.k .nil))) ?_
          refine Oy (want := true) hb23 ?_
          refine Om (.i r7.1) ?_
          refine Oy (want := true) hb23 ?_
          refine Oi (.b (r24 == r7.1)) ?_
          refine Pt (.b (r24 == r7.1)) hb23 ?_
          refine Om (.b (r24 == r7.1)) ?_
          rcases bft (r24 == r7.1) with hb25 | hb25
          ·replace hM := ifT hM hb25
           refine Oy (want := true) hb25 ?_
           obtain ⟨r26, hr26, hM⟩ := bindE hM
           refine o_call (bs := []) (by decide) rfl rfl ((W_law01_works hr26).le .nil) ?_
           refine Pt (.b r26) hb25 ?_
           refine Oa (.b r26) ?_
           refine Ni ?_
           exact w_goto r26 (.k .nil) ⟨(hS.keep [] rfl).up (by omega), hM⟩
          ·replace hM := ifF hM hb25
           refine On (want := true) hb25 ?_
           refine Pf (.b false) hb25 ?_
           refine Oa (.b false) ?_
           refine Ni ?_
           exact w_goto false (.k .nil) ⟨(hS.keep [] rfl).up (by omega), hM⟩
         ·replace hM := ifF hM hb23
          refine On (want := true) hb23 ?_
          refine On (want := true) hb23 ?_
          refine On (want := true) hb23 ?_
          refine On (want := true) hb23 ?_
          refine On (want := true) hb23 ?_
          refine Pf (.b false) hb23 ?_
          refine Om (.b false) ?_
          refine Og ?_
          refine o_pickF (v := .b false) (e := false) (by decide) rfl rfl rfl ?_
          refine Oa (.b false) ?_
          refine Ni ?_
          exact w_goto false (.k .nil) ⟨(hS.keep [] rfl).up (by omega), hM⟩
     ·refine Rg 30 ?_
      refine Om (.i r12.1) ?_
      refine Om (.i r13.1) ?_
      refine Oi (.b (r12.1 != r13.1)) ?_
      refine Om (.b (r12.1 != r13.1)) ?_
      rcases bft (r12.1 != r13.1) with hb27 | hb27
      ·replace hM := ifT hM hb27
       refine On (want := false) hb27 ?_
       refine On (want := false) hb27 ?_
       refine On (want := false) hb27 ?_
       refine Pt (.b true) hb27 ?_
       refine Om (.b true) ?_
       refine Og ?_
       refine Og ?_
       refine Og ?_
       refine o_pickT (v := .b true) (e := true) (by decide) rfl rfl rfl ?_
       refine Om (.b true) ?_
       refine Og ?_
       refine Og ?_
       refine Og ?_
       refine Og ?_
       refine o_pickT (v := .b true) (e := true) (by decide) rfl rfl rfl ?_
       refine Om (.b true) ?_
       refine Og ?_
       refine Og ?_
       refine Og ?_
       refine Og ?_
       refine o_pickT (v := .b true) (e := true) (by decide) rfl rfl rfl ?_
       refine Om (.b true) ?_
       refine Og ?_
       refine Og ?_
       refine Og ?_
       refine o_pickT (v := .b true) (e := true) (by decide) rfl rfl rfl ?_
       refine Ni ?_
       exact w_goto true (.k (.k (.k (.k (.k (.k .nil)))))) ⟨(hS.keep [false] rfl).up (by omega), hM⟩
      ·replace hM := ifF hM hb27
       refine Oy (want := false) hb27 ?_
       refine Om (.i r12.2) ?_
       refine Oy (want := false) hb27 ?_
       refine Om (.i r13.2) ?_
       refine Oy (want := false) hb27 ?_
       refine Oi (.b (r12.2 != r13.2)) ?_
       refine Pf (.b (r12.2 != r13.2)) hb27 ?_
       refine Om (.b (r12.2 != r13.2)) ?_
       rcases bft (r12.2 != r13.2) with hb28 | hb28
       ·replace hM := ifT hM hb28
        refine On (want := false) hb28 ?_
        refine On (want := false) hb28 ?_
        refine On (want := false) hb28 ?_
        refine Pt (.b true) hb28 ?_
        refine Om (.b true) ?_
        refine Og ?_
        refine Og ?_
        refine Og ?_
        refine Og ?_
        refine o_pickT (v := .b true) (e := true) (by decide) rfl rfl rfl ?_
        refine Om (.b true) ?_
        refine Og ?_
        refine Og ?_
        refine Og ?_
        refine Og ?_
        refine o_pickT (v := .b true) (e := true) (by decide) rfl rfl rfl ?_
        refine Om (.b true) ?_
        refine Og ?_
        refine Og ?_
        refine Og ?_
        refine o_pickT (v := .b true) (e := true) (by decide) rfl rfl rfl ?_
        refine Ni ?_
        exact w_goto true (.k (.k (.k (.k (.k (.k .nil)))))) ⟨(hS.keep [false] rfl).up (by omega), hM⟩
       ·replace hM := ifF hM hb28
        refine Oy (want := false) hb28 ?_
        refine Om (.i r14.2) ?_
        refine Oy (want := false) hb28 ?_
        refine Om (.i r7.2) ?_
        refine Oy (want := false) hb28 ?_
        refine Oi (.b (r14.2 != r7.2)) ?_
        refine Pf (.b (r14.2 != r7.2)) hb28 ?_
        refine Om (.b (r14.2 != r7.2)) ?_
        rcases bft (r14.2 != r7.2) with hb29 | hb29
        ·replace hM := ifT hM hb29
         refine On (want := false) hb29 ?_
         refine On (want := false) hb29 ?_
         refine On (want := false) hb29 ?_
         refine On (want := false) hb29 ?_
         refine Pt (.b true) hb29 ?_
         refine Om (.b true) ?_
         refine Og ?_
         refine Og ?_
         refine Og ?_
         refine Og ?_
         refine o_pickT (v := .b true) (e := true) (by decide) rfl rfl rfl ?_
         refine Om (.b true) ?_
         refine Og ?_
         refine Og ?_
         refine Og ?_
         refine o_pickT (v := .b true) (e := true) (by decide) rfl rfl rfl ?_
         refine Ni ?_
         exact w_goto true (.k (.k (.k (.k (.k (.k .nil)))))) ⟨(hS.keep [false] rfl).up (by omega), hM⟩
        ·replace hM := ifF hM hb29
         refine Oy (want := false) hb29 ?_
         refine Olg (.agg (Wheel.cells r4)) ty_agg24 ?_
         refine Oy (want := false) hb29 ?_
         refine Olg (.agg (Wheel.cells a0)) ty_agg24 ?_
         refine Oy (want := false) hb29 ?_
         obtain ⟨r30, hr30, hM⟩ := bindE hM
         refine o_call (bs := [.agg (Wheel.cells r4), .agg (Wheel.cells a0)]) (by decide) rfl rfl ((W_law01_same hr30).le (.k (.k .nil))) ?_
         refine Oy (want := false) hb29 ?_
         refine o_not (e := r30) (by decide) rfl ?_
         refine Pf (.b (!r30)) hb29 ?_
         refine Om (.b (!r30)) ?_
         rcases bft (!r30) with hb31 | hb31
         ·replace hM := ifT hM hb31
          refine On (want := false) hb31 ?_
          refine On (want := false) hb31 ?_
          refine On (want := false) hb31 ?_
          refine On (want := false) hb31 ?_
          refine Pt (.b true) hb31 ?_
          refine Om (.b true) ?_
          refine Og ?_
          refine Og ?_
          refine Og ?_
          refine o_pickT (v := .b true) (e := true) (by decide) rfl rfl rfl ?_
          refine Ni ?_
          exact w_goto true (.k (.k (.k (.k (.k (.k .nil)))))) ⟨(hS.keep [false] rfl).up (by omega), hM⟩
         ·replace hM := ifF hM hb31
          refine Oy (want := false) hb31 ?_
          refine Om (.sl (.id (g1 + 2)) 1 (l5.map cI)) ?_
          refine Oy (want := false) hb31 ?_
          refine Om (.sl .no 1 (a1.map cI)) ?_
          refine Oy (want := false) hb31 ?_
          obtain ⟨r32, hr32, hM⟩ := bindE hM
          refine o_call (bs := [.sl (.id (g1 + 2)) 1 (l5.map cI), .sl .no 1 (a1.map cI)]) (by decide) rfl rfl ((W_ref01_SameInts hr32).le (.cons (.sl _ _ _) (.k .nil))) ?_
          refine Oy (want := false) hb31 ?_
          refine o_not (e := r32) (by decide) rfl ?_
          refine Pf (.b (!r32)) hb31 ?_
          refine Om (.b (!r32)) ?_
          rcases bft (!r32) with hb33 | hb33
          ·replace hM := ifT hM hb33
           refine On (want := false) hb33 ?_
           refine On (want := false) hb33 ?_
           refine On (want := false) hb33 ?_
           refine Pt (.b true) hb33 ?_
           refine Ni ?_
           exact w_goto true (.k (.k (.k (.k (.k (.k .nil)))))) ⟨(hS.keep [false] rfl).up (by omega), hM⟩
          ·replace hM := ifF hM hb33
           refine Oy (want := false) hb33 ?_
           refine Om (.sl .no 1 (r14.1.map cI)) ?_
           refine Oy (want := false) hb33 ?_
           refine o_len (n := r14.1.length) (by decide) rfl (List.length_map _) ty_isl22 ?_
           refine Oy (want := false) hb33 ?_
           refine Oi (.b (decide ((r14.1.length : Int) > 24))) ?_
           refine Pf (.b (decide ((r14.1.length : Int) > 24))) hb33 ?_
           refine Ni ?_
           exact w_goto (decide ((r14.1.length : Int) > 24)) (.k (.k (.k (.k (.k (.k .nil)))))) ⟨(hS.keep [false] rfl).up (by omega), hM⟩
   ·refine Rg 18 ?_
    refine Om (.i r6.1) ?_
    refine Om (.i r7.1) ?_
    refine Oi (.b (r6.1 != r7.1)) ?_
    refine Om (.b (r6.1 != r7.1)) ?_
    rcases bft (r6.1 != r7.1) with hb34 | hb34
    ·replace hM := ifT hM hb34
     refine On (want := false) hb34 ?_
     refine On (want := false) hb34 ?_
     refine On (want := false) hb34 ?_
     refine Pt (.b true) hb34 ?_
     refine Om (.b true) ?_
     refine Og ?_
     refine Og ?_
     refine Og ?_
     refine o_pickT (v := .b true) (e := true) (by decide) rfl rfl rfl ?_
     refine Om (.b true) ?_
     refine Og ?_
     refine Og ?_
     refine Og ?_
     refine o_pickT (v := .b true) (e := true) (by decide) rfl rfl rfl ?_
     refine Ni ?_
     exact w_goto true (.k (.k (.k (.k (.k (.k (.k .nil))))))) ⟨(hS.keep [true] rfl).up (by omega), hM⟩
    ·replace hM := ifF hM hb34
     refine Oy (want := false) hb34 ?_
     refine Om (.i r6.2) ?_
     refine Oy (want := false) hb34 ?_
     refine Om (.i r7.2) ?_
     refine Oy (want := false) hb34 ?_
     refine Oi (.b (r6.2 != r7.2)) ?_
     refine Pf (.b (r6.2 != r7.2)) hb34 ?_
     refine Om (.b (r6.2 != r7.2)) ?_
     rcases bft (r6.2 != r7.2) with hb35 | hb35
     ·replace hM := ifT hM hb35
      refine On (want := false) hb35 ?_
      refine On (want := false) hb35 ?_
      refine On (want := false) hb35 ?_
      refine Pt (.b true) hb35 ?_
      refine Om (.b true) ?_
      refine Og ?_
      refine Og ?_
      refine Og ?_
      refine o_pickT (v := .b true) (e := true) (by decide) rfl rfl rfl ?_
      refine Ni ?_
      exact w_goto true (.k (.k (.k (.k (.k (.k (.k .nil))))))) ⟨(hS.keep [true] rfl).up (by omega), hM⟩
     ·replace hM := ifF hM hb35
      refine Oy (want := false) hb35 ?_
      refine Om (.i r8.1) ?_
      refine Oy (want := false) hb35 ?_
      refine Om (.i r9.1) ?_
      refine Oy (want := false) hb35 ?_
      refine Oi (.b (r8.1 != r9.1)) ?_
      refine Pf (.b (r8.1 != r9.1)) hb35 ?_
      refine Om (.b (r8.1 != r9.1)) ?_
      rcases bft (r8.1 != r9.1) with hb36 | hb36
      ·replace hM := ifT hM hb36
       refine On (want := false) hb36 ?_
       refine On (want := false) hb36 ?_
       refine On (want := false) hb36 ?_
       refine Pt (.b true) hb36 ?_
       refine Ni ?_
       exact w_goto true (.k (.k (.k (.k (.k (.k (.k .nil))))))) ⟨(hS.keep [true] rfl).up (by omega), hM⟩
      ·replace hM := ifF hM hb36
       refine Oy (want := false) hb36 ?_
       refine Om (.i r8.2) ?_
       refine Oy (want := false) hb36 ?_
       refine Om (.i r9.2) ?_
       refine Oy (want := false) hb36 ?_
       refine Oi (.b (r8.2 != r9.2)) ?_
       refine Pf (.b (r8.2 != r9.2)) hb36 ?_
       refine Ni ?_
       exact w_goto (r8.2 != r9.2) (.k (.k (.k (.k (.k (.k (.k .nil))))))) ⟨(hS.keep [true] rfl).up (by omega), hM⟩
 ·refine Rg 7 ?_
  refine Olg (.agg (Wheel.cells a0)) ty_agg24 ?_
  obtain ⟨r37, hr37, hM⟩ := bindE hM
  refine o_call (bs := [.agg (Wheel.cells a0)]) (by decide) rfl rfl ((W_law01_far hr37).le (.k .nil)) ?_
  refine Om (.b r37) ?_
  rcases bft r37 with hb38 | hb38
  ·replace hM := ifT hM hb38
   refine On (want := false) hb38 ?_
   refine On (want := false) hb38 ?_
   refine On (want := false) hb38 ?_
   refine Pt (.b true) hb38 ?_
   refine Ni ?_
   exact w_goto true (.k (.k (.k .nil))) ⟨(hS.keep [] rfl).up (by omega), hM⟩
  ·replace hM := ifF hM hb38
   refine Oy (want := false) hb38 ?_
   refine Olg (.agg (Wheel.cells a0)) ty_agg24 ?_
   refine Oy (want := false) hb38 ?_
   refine Om (.sl .no 1 (a1.map cI)) ?_
   refine Oy (want := false) hb38 ?_
   obtain ⟨r39, hr39, hM⟩ := bindE hM
   refine o_call (bs := [.agg (Wheel.cells a0), .sl .no 1 (a1.map cI)]) (by decide) rfl rfl ((W_law01_rich hr39).le (.k (.k .nil))) ?_
   refine Pf (.b r39) hb38 ?_
   refine Ni ?_
   exact w_goto r39 (.k (.k (.k .nil))) ⟨(hS.keep [] rfl).up (by omega), hM⟩
end Go.Proofs.Ytapcibbbmeomkaa
