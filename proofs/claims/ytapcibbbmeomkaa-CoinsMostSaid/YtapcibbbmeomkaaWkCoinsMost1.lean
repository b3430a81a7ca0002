/-
  The code returns what the functions say (printed by gen.py).
  Conditions: none.
-/
import Derived.Test.YtapcibbbmeomkaaTy
import Derived.Test.YtapcibbbmeomkaaMd
import Derived.Test.YtapcibbbmeomkaaSh
set_option linter.all false
namespace Go.Proofs.Ytapcibbbmeomkaa
open Go Go.AM Go.Law
set_option linter.unusedVariables false
set_option maxRecDepth 4000
set_option maxHeartbeats 4000000
abbrev _root_.Go.AM.AV.i (x : Int) : Go.AM.AV := .v (.int .i64 x)
abbrev _root_.Go.AM.AV.b (x : Bool) : Go.AM.AV := .v (.bool x)
theorem _root_.Go.AM.FLe.k {l l0 : List (Nat × AV)} {t : Nat} (r : FLe l l0) : FLe l ((t, lk l t) :: l0) := .cons (.refl _) r
theorem _root_.Go.AM.LeL.k {a : AV} {ps qs : List AV} (r : LeL ps qs) : LeL (a :: ps) (a :: qs) := .cons (.refl _) r
section
open Go.AM
variable {P : Program} {N : Nat} {l : List (Nat × AV)} {H : Heap} {g : Nat} {ops : Array Oper} {i d g0 : Nat} {r : List Oper} {K : Fr → Heap → Nat → Prop} {lim : Option Nat} {ty : TypeId} {pos : String} {after : Array Edge} {Q : Exit → Fr → Heap → Nat → Prop} {a b : Code}
theorem _root_.Go.AM.Om {x : Operand} (v : AV) (h : runQ P N lim g0 ops K (i + 1) r (Fr.of ((d, v) :: l)) H g) (hd : d < N := by decide) (hx : evL N l x = v := by rfl) : runQ P N lim g0 ops K i (⟨some d, .move x, ty, pos, after, none⟩ :: r) (Fr.of l) H g := o_move hd hx h
theorem _root_.Go.AM.Oa {x : Operand} (v : AV) (h : runQ P N lim g0 ops K (i + 1) r (Fr.of ((d, v) :: l)) H g) (hd : d < N := by decide) (hx : evL N l x = v := by rfl) : runQ P N lim g0 ops K i (⟨some d, .assign x, ty, pos, after, none⟩ :: r) (Fr.of l) H g := o_assign hd hx h
theorem _root_.Go.AM.Olp {t : TypeId} {x : Operand} {cs : List AV} (v : AV) (h1 : aggSize P t = none) (h2 : scalar P t = true) (h : runQ P N lim g0 ops K (i + 1) r (Fr.of ((d, v) :: l)) H g) (hd : d < N := by decide) (hx : evL N l x = .ep cs := by rfl) (hc : cs[0]? = some v := by rfl) : runQ P N lim g0 ops K i (⟨some d, .load t x, ty, pos, after, none⟩ :: r) (Fr.of l) H g := o_loadE hd hx (part_one h1 h2 hc) h
theorem _root_.Go.AM.Olg {t : TypeId} {x : Operand} {cs : List AV} {k : Nat} (v : AV) (ha : aggSize P t = some k) (h : runQ P N lim g0 ops K (i + 1) r (Fr.of ((d, v) :: l)) H g) (hd : d < N := by decide) (hx : evL N l x = .ep cs := by rfl) (hk : Nat.ble (0 + k) cs.length = true := by rfl) (hc : AV.agg ((cs.drop 0).take k) = v := by rfl) : runQ P N lim g0 ops K i (⟨some d, .load t x, ty, pos, after, none⟩ :: r) (Fr.of l) H g := o_loadE hd hx (part_agg ha (Nat.le_of_ble_eq_true hk) rfl) (hc ▸ h)
theorem _root_.Go.AM.Og {op : Op} {j : Nat} {want : Bool} (h : runQ P N lim g0 ops K (i + 1) r (Fr.of ((d, .tup []) :: l)) H g) (hd : d < N := by decide) (hg : gd ops N (Fr.of l) j = some (some (!want)) := by rfl) : runQ P N lim g0 ops K i (⟨some d, op, ty, pos, after, some (j, want)⟩ :: r) (Fr.of l) H g := o_guardN hd hg rfl h
theorem _root_.Go.AM.On {op : Op} {j : Nat} {want e : Bool} (he : e = !want) (h : runQ P N lim g0 ops K (i + 1) r (Fr.of ((d, .tup []) :: l)) H g) (hd : d < N := by decide) (hg : gd ops N (Fr.of l) j = some (some e) := by rfl) : runQ P N lim g0 ops K i (⟨some d, op, ty, pos, after, some (j, want)⟩ :: r) (Fr.of l) H g := o_guardN hd hg he h
theorem _root_.Go.AM.Oy {op : Op} {j : Nat} {want e : Bool} {dst : Option Tmp} (he : e = want) (h : runQ P N lim g0 ops K i (⟨dst, op, ty, pos, after, none⟩ :: r) (Fr.of l) H g) (hg : gd ops N (Fr.of l) j = some (some e) := by rfl) : runQ P N lim g0 ops K i (⟨dst, op, ty, pos, after, some (j, want)⟩ :: r) (Fr.of l) H g := o_guardY hg he h
theorem _root_.Go.AM.Oi {bo : BinOp} {t t' : TypeId} {x y : Operand} {k : IntKind} {m n : Int} (v : AV) (h : runQ P N lim g0 ops K (i + 1) r (Fr.of ((d, v) :: l)) H g) (hd : d < N := by decide) (hx : evL N l x = .v (.int k m) := by rfl) (hy : evL N l y = .v (.int k n) := by rfl) (hv : intBin bo k m n = some v := by rfl) : runQ P N lim g0 ops K i (⟨some d, .binOp bo t x y t', ty, pos, after, none⟩ :: r) (Fr.of l) H g := o_int hd hx hy hv h
theorem _root_.Go.AM.Ox {x : Operand} {n : Nat} {vs : List AV} (v : AV) (h : runQ P N lim g0 ops K (i + 1) r (Fr.of ((d, v) :: l)) H g) (hd : d < N := by decide) (hx : evL N l x = .tup vs := by rfl) (hn : vs[n]? = some v := by rfl) : runQ P N lim g0 ops K i (⟨some d, .extract x n, ty, pos, after, none⟩ :: r) (Fr.of l) H g := o_extract hd hx hn h
theorem _root_.Go.AM.Of {s f : Nat} {x : Operand} (cs : List AV) {k : Nat} (hk : fieldOff P s f = some k) (h : runQ P N lim g0 ops K (i + 1) r (Fr.of ((d, .ep (cs.drop k)) :: l)) H g) (hd : d < N := by decide) (hx : evL N l x = .ep cs := by rfl) : runQ P N lim g0 ops K i (⟨some d, .fieldAddr s x f, ty, pos, after, none⟩ :: r) (Fr.of l) H g := o_fieldE hd hk hx h
theorem _root_.Go.AM.Pt {c x y : Operand} (v : AV) {e : Bool} (he : e = true) (h : runQ P N lim g0 ops K (i + 1) r (Fr.of ((d, v) :: l)) H g) (hd : d < N := by decide) (hc : evL N l c = .v (.bool e) := by rfl) (hx : evL N l x = v := by rfl) : runQ P N lim g0 ops K i (⟨some d, .pick c x y, ty, pos, after, none⟩ :: r) (Fr.of l) H g := o_pickT hd hc he hx h
theorem _root_.Go.AM.Pf {c x y : Operand} (v : AV) {e : Bool} (he : e = false) (h : runQ P N lim g0 ops K (i + 1) r (Fr.of ((d, v) :: l)) H g) (hd : d < N := by decide) (hc : evL N l c = .v (.bool e) := by rfl) (hy : evL N l y = v := by rfl) : runQ P N lim g0 ops K i (⟨some d, .pick c x y, ty, pos, after, none⟩ :: r) (Fr.of l) H g := o_pickF hd hc he hy h
theorem _root_.Go.AM.Ct {o : Operand} {e : Bool} (he : e = true) (h : wpA P N a Q (Fr.of l) H g) (hc : evL N l o = .v (.bool e) := by rfl) : wpA P N (.cond o a b) Q (Fr.of l) H g := w_condT hc he h
theorem _root_.Go.AM.Cf {o : Operand} {e : Bool} (he : e = false) (h : wpA P N b Q (Fr.of l) H g) (hc : evL N l o = .v (.bool e) := by rfl) : wpA P N (.cond o a b) Q (Fr.of l) H g := w_condF hc he h
theorem _root_.Go.AM.Rg {id : Nat} {os : List Oper} (n : Nat) (h : runQ P N none g os.toArray (Q .normal) 0 os (Fr.of l) H (g + n)) (hn : os.length = n := by rfl) : wpA P N (.region id os.toArray false) Q (Fr.of l) H g := r_region hn h
theorem _root_.Go.AM.Ws (h : wpA P N b Q (Fr.of l) H g) : Exit.thenA (fun fr' H' g' => ∃ fr0 H0 g0, Down fr' H' g' fr0 H0 g0 ∧ wpA P N b Q fr0 H0 g0) Q .normal (Fr.of l) H g := ⟨_, H, g, .le (fun _ => .refl _) H g, h⟩
theorem _root_.Go.AM.Sq (h : wpA P N a (Exit.thenA (fun fr' H' g' => ∃ fr0 H0 g0, Down fr' H' g' fr0 H0 g0 ∧ wpA P N b Q fr0 H0 g0) Q) (Fr.of l) H g) : wpA P N (.seq a b) Q (Fr.of l) H g := r_seq h
theorem _root_.Go.AM.Ni (h : K (Fr.of l) H g) : runQ P N lim g0 ops K i [] (Fr.of l) H g := run_nil h
theorem _root_.Go.AM.pg {t : TypeId} {cs ds : List AV} {off k : Nat} (h : aggSize P t = some k) (hl : off + k ≤ cs.length := by exact Nat.le_of_ble_eq_true rfl) (hc : (cs.drop off).take k = ds := by rfl) : partA P t cs off = some (.agg ds) := part_agg h hl hc
theorem _root_.Go.AM.po {t : TypeId} {cs : List AV} {off : Nat} {v : AV} (h : aggSize P t = none) (hs : scalar P t = true) (hc : cs[off]? = some v := by rfl) : partA P t cs off = some v := part_one h hs hc
theorem _root_.Go.AM.bft (b : Bool) : b = true ∨ b = false := Bool.eq_false_or_eq_true b
theorem _root_.Go.AM.nlb {a b : Nat} (h : Nat.ble a b = true := by rfl) : a ≤ b := Nat.le_of_ble_eq_true h
end
theorem keys77 : KeysAre Try.prog 77 okPoint_ kvPoint_ where
 keyed := Go.Maps.Keyed.of_law (deep_law_laid (show laidOutB Try.prog = true by kernel_rfl) (m := 6) (by omega) (of_decide_eq_true (by kernel_rfl)) (by kernel_rfl) (by kernel_rfl))
 inj := fun a b h => by
  obtain ⟨⟨a1, a2⟩, a3⟩ := a
  obtain ⟨⟨b1, b2⟩, b3⟩ := b
  have h := kvs_inj h
  simp only [List.cons.injEq, and_true] at h
  obtain ⟨rfl, rfl, rfl⟩ := h
  rfl
 key := fun x h => key_of_ints (by kernel_rfl) (by kernel_rfl) (by kernel_rfl) (show List.length _ = _ by kernel_rfl) h
theorem keys90 : KeysAre Try.prog 90 okSpot_ kvSpot_ where
 keyed := Go.Maps.Keyed.of_law (deep_law_laid (show laidOutB Try.prog = true by kernel_rfl) (m := 6) (by omega) (of_decide_eq_true (by kernel_rfl)) (by kernel_rfl) (by kernel_rfl))
 inj := fun a b h => by
  obtain ⟨⟨a1, a2, a3, a4⟩, a5, a6⟩ := a
  obtain ⟨⟨b1, b2, b3, b4⟩, b5, b6⟩ := b
  have h := kvs_inj h
  simp only [List.cons.injEq, and_true] at h
  obtain ⟨rfl, rfl, rfl, rfl, rfl, rfl⟩ := h
  rfl
 key := fun x h => key_of_ints (by kernel_rfl) (by kernel_rfl) (by kernel_rfl) (show List.length _ = _ by kernel_rfl) h
theorem W_coins_more {a0 : Int} {a1 : Int} {r : Bool} (hM : coins_more a0 a1 = some r) : PureSat Try.prog 65 [.i a0, .i a1] (.b r) := by
 refine pure_of_wp mixed Try.func65 rfl (by decide) Try.ntmps65 (by simp) ?pure fun H0 g hf => ?_
 case pure => exact .v _
 rw [frame0_of]
 change wpA _ _ _ _ (Fr.of [(0, .i a0), (1, .i a1)]) H0 g
 have hS := St.start hf
 refine Sq ?_
 refine Rg 1 ?_
 refine Oa (.b false) ?_
 refine Ni ?_
 refine Ws ?_
 refine Sq ?_
 refine Rg 4 ?_
 refine Om (.i a0) ?_
 refine Om (.i a1) ?_
 refine Oi (.b (decide (a0 > a1))) ?_
 refine Oa (.b (decide (a0 > a1))) ?_
 refine Ni ?_
 refine w_next [(4, .b (decide (a0 > a1)))] (.k .nil) ?_
 refine r_ret ?_
 refine w_end (x := .b (decide (a0 > a1))) (f := fun r => .b r) (.inr rfl) ?_ (.refl _) (Option.some.inj hM) hS
 exact (res_one (res_tmp (x := .b (decide (a0 > a1))) rfl))
theorem W_coins_less {a0 : Int} {a1 : Int} {r : Bool} (hM : coins_less a0 a1 = some r) : PureSat Try.prog 84 [.i a0, .i a1] (.b r) := by
 refine pure_of_wp mixed Try.func84 rfl (by decide) Try.ntmps84 (by simp) ?pure fun H0 g hf => ?_
 case pure => exact .v _
 rw [frame0_of]
 change wpA _ _ _ _ (Fr.of [(0, .i a0), (1, .i a1)]) H0 g
 have hS := St.start hf
 refine Sq ?_
 refine Rg 1 ?_
 refine Oa (.b false) ?_
 refine Ni ?_
 refine Ws ?_
 refine Sq ?_
 refine Rg 4 ?_
 refine Om (.i a0) ?_
 refine Om (.i a1) ?_
 refine Oi (.b (decide (a0 < a1))) ?_
 refine Oa (.b (decide (a0 < a1))) ?_
 refine Ni ?_
 refine Ws ?_
 refine r_ret ?_
 refine w_end (x := .b (decide (a0 < a1))) (f := fun r => .b r) (.inr rfl) ?_ (.refl _) (Option.some.inj hM) hS
 exact (res_one (res_tmp (x := .b (decide (a0 < a1))) rfl))
theorem W_coins_better {b : Bool} {x y : Int} {r : Bool} (hM : coins_better b x y = some r) : PureSat Try.prog (cond b 65 84) [.i x, .i y] (.b r) := by
 cases b with
 | true => exact W_coins_more hM
 | false => exact W_coins_less hM
abbrev fnB (b : Bool) : AV := .fn (.func (cond b 65 84)) [] []
abbrev srchC (x : Go.Law.Wheel_) (b : Bool) (i : Nat) : List Go.AM.AV := [.i x.Wheel.Round, .sl .no 1 (x.Wheel.Notches.map cI), .sl .no 1 (x.Wheel.Coins.map cI), fnB b, .mp i]
theorem pure_fnB (b : Bool) : Go.AM.Pure (fnB b) := .fn _ _ _ (fun c h => by simp at h) (fun c h => by simp at h)
theorem W_law01_far {a0 : Wheel} {r : Bool} (hM : law01_far a0 = some r) : PureSat Try.prog 16 [.agg (Wheel.cells a0)] (.b r) := by
 refine pure_of_wp mixed Try.func16 rfl (by decide) Try.ntmps16 (by simp) ?pure fun H0 g hf => ?_
 case pure => exact .v _
 rw [frame0_of]
 change wpA _ _ _ _ (Fr.of [(0, .agg (Wheel.cells a0))]) H0 g
 have hS := St.start hf
 refine Sq ?_
 refine Rg 2 ?_
 refine o_box (v := .agg (Wheel.cells a0)) (cs := (Wheel.cells a0)) hS (by decide) rfl rfl (by omega) fun H hS => ?_
 refine Oa (.b false) ?_
 refine Ni ?_
 refine w_iceE (L' := []) 0 1 hS rfl rfl rfl fun H hS => ?_
 refine Ws ?_
 refine w_join (J := Bool) (fun j => [(2, .b j)]) (fun j H' g' => St (· < g) H0 [] H' g' ∧ law01_far_j1 j = some r) ?_ ?_
 ·rintro v1 H g1 ⟨hS, hM⟩
  change wpA _ _ _ _ (Fr.of [(2, .b v1)]) _ _
  replace hS : St (· < g) H0 [] H g1 := hS
  replace hM : law01_far_j1 v1 = some r := hM
  refine r_ret ?_
  refine w_end (x := .b v1) (f := fun r => .b r) (.inr rfl) ?_ (.refl _) (Option.some.inj hM) hS
  exact (res_one (res_tmp (x := .b v1) rfl))
 ·refine Rg 11 ?_
  refine Of ((Wheel.cells a0)) ty_fo24_1 ?_
  refine Olp (.sl .no 1 (a0.Notches.map cI)) ty_agg22 ty_sc22 ?_
  refine o_len (n := a0.Notches.length) (by decide) rfl (List.length_map _) ty_isl22 ?_
  refine Oi (.b (decide ((a0.Notches.length : Int) > 40))) ?_
  refine Om (.b (decide ((a0.Notches.length : Int) > 40))) ?_
  rcases bft (decide ((a0.Notches.length : Int) > 40)) with hb2 | hb2
  ·replace hM := ifT hM hb2
   refine On (want := false) hb2 ?_
   refine On (want := false) hb2 ?_
   refine On (want := false) hb2 ?_
   refine On (want := false) hb2 ?_
   refine Pt (.b true) hb2 ?_
   refine Oa (.b true) ?_
   refine Ni ?_
   exact w_goto true (.k .nil) ⟨(hS.keep [] rfl).up (by omega), hM⟩
  ·replace hM := ifF hM hb2
   refine Oy (want := false) hb2 ?_
   refine Of ((Wheel.cells a0)) ty_fo24_2 ?_
   refine Oy (want := false) hb2 ?_
   refine Olp (.sl .no 1 (a0.Coins.map cI)) ty_agg22 ty_sc22 ?_
   refine Oy (want := false) hb2 ?_
   refine o_len (n := a0.Coins.length) (by decide) rfl (List.length_map _) ty_isl22 ?_
   refine Oy (want := false) hb2 ?_
   refine Oi (.b (decide ((a0.Coins.length : Int) > 40))) ?_
   refine Pf (.b (decide ((a0.Coins.length : Int) > 40))) hb2 ?_
   refine Oa (.b (decide ((a0.Coins.length : Int) > 40))) ?_
   refine Ni ?_
   exact w_goto (decide ((a0.Coins.length : Int) > 40)) (.k .nil) ⟨(hS.keep [] rfl).up (by omega), hM⟩
theorem W_coins_within {a0 : Int} {a1 : Int} {a2 : Int} {r : Bool} (hM : coins_within a0 a1 a2 = some r) : PureSat Try.prog 59 [.i a0, .i a1, .i a2] (.b r) := by
 refine pure_of_wp mixed Try.func59 rfl (by decide) Try.ntmps59 (by simp) ?pure fun H0 g hf => ?_
 case pure => exact .v _
 rw [frame0_of]
 change wpA _ _ _ _ (Fr.of [(0, .i a0), (1, .i a1), (2, .i a2)]) H0 g
 have hS := St.start hf
 refine Sq ?_
 refine Rg 1 ?_
 refine Oa (.b false) ?_
 refine Ni ?_
 refine Ws ?_
 refine w_join (J := Bool) (fun j => [(6, .b j)]) (fun j H' g' => St (· < g) H0 [] H' g' ∧ coins_within_j1 j = some r) ?_ ?_
 ·rintro v1 H g1 ⟨hS, hM⟩
  change wpA _ _ _ _ (Fr.of [(6, .b v1)]) _ _
  replace hS : St (· < g) H0 [] H g1 := hS
  replace hM : coins_within_j1 v1 = some r := hM
  refine r_ret ?_
  refine w_end (x := .b v1) (f := fun r => .b r) (.inr rfl) ?_ (.refl _) (Option.some.inj hM) hS
  exact (res_one (res_tmp (x := .b v1) rfl))
 ·refine Rg 9 ?_
  refine Om (.i a1) ?_
  refine Om (.i a0) ?_
  refine Oi (.b (decide (a1 ≤ a0))) ?_
  refine Om (.b (decide (a1 ≤ a0))) ?_
  rcases bft (decide (a1 ≤ a0)) with hb2 | hb2
  ·replace hM := ifT hM hb2
   refine Oy (want := true) hb2 ?_
   refine Om (.i a0) ?_
   refine Oy (want := true) hb2 ?_
   refine Om (.i a2) ?_
   refine Oy (want := true) hb2 ?_
   refine Oi (.b (decide (a0 ≤ a2))) ?_
   refine Pt (.b (decide (a0 ≤ a2))) hb2 ?_
   refine Oa (.b (decide (a0 ≤ a2))) ?_
   refine Ni ?_
   exact w_goto (decide (a0 ≤ a2)) (.k .nil) ⟨(hS.keep [] rfl).up (by omega), hM⟩
  ·replace hM := ifF hM hb2
   refine On (want := true) hb2 ?_
   refine On (want := true) hb2 ?_
   refine On (want := true) hb2 ?_
   refine Pf (.b false) hb2 ?_
   refine Oa (.b false) ?_
   refine Ni ?_
   exact w_goto false (.k .nil) ⟨(hS.keep [] rfl).up (by omega), hM⟩
theorem W_coins_rising {n : Nat} {a0 : List Int} {a1 : Int} {a2 : Int} {r : Bool} (hM : coins_rising n a0 a1 a2 = some r) : PureSat Try.prog 72 [.sl .no 1 (a0.map cI), .i a1, .i a2] (.b r) := by
 refine pure_of_wp mixed Try.func72 rfl (by decide) Try.ntmps72 (by simp) ?pure fun H0 g hf => ?_
 case pure => exact .v _
 rw [frame0_of]
 change wpA _ _ _ _ (Fr.of [(0, .sl .no 1 (a0.map cI)), (1, .i a1), (2, .i a2)]) H0 g
 have hS := St.start hf
 refine Sq ?_
 refine Rg 1 ?_
 refine Oa (.b false) ?_
 refine Ni ?_
 refine Ws ?_
 refine w_join (J := Unit) (fun j => [(0, .sl .no 1 (a0.map cI)), (1, .i a1)]) (fun j H' g' => St (· < g) H0 [] H' g' ∧ coins_rising_j1 a0 a1 = some r) ?_ ?_
 ·rintro _ H g1 ⟨hS, hM⟩
  change wpA _ _ _ _ (Fr.of [(0, .sl .no 1 (a0.map cI)), (1, .i a1)]) _ _
  replace hS : St (· < g) H0 [] H g1 := hS
  replace hM : coins_rising_j1 a0 a1 = some r := hM
  refine Sq ?_
  refine Rg 5 ?_
  refine Om (.sl .no 1 (a0.map cI)) ?_
  refine o_len (n := a0.length) (by decide) rfl (List.length_map _) ty_isl22 ?_
  refine Om (.i a1) ?_
  refine Oi (.b (decide ((a0.length : Int) ≤ a1))) ?_
  refine Oa (.b (decide ((a0.length : Int) ≤ a1))) ?_
  refine Ni ?_
  refine Ws ?_
  refine r_ret ?_
  refine w_end (x := .b (decide ((a0.length : Int) ≤ a1))) (f := fun r => .b r) (.inr rfl) ?_ (.refl _) (Option.some.inj hM) hS
  exact (res_one (res_tmp (x := .b (decide ((a0.length : Int) ≤ a1))) rfl))
 ·refine Sq ?_
  refine Rg 3 ?_
  refine Om (.sl .no 1 (a0.map cI)) ?_
  refine o_len (n := a0.length) (by decide) rfl (List.length_map _) ty_isl22 ?_
  refine Om (.i 0) ?_
  refine Ni ?_
  refine Ws ?_
  refine r_block ?_
  refine w_loop (V := Int) (fun v => [(0, .sl .no 1 (a0.map cI)), (1, .i a1), (2, .i a2), (9, .sl .no 1 (a0.map cI)), (10, .i (a0.length : Int)), (11, .i v)]) (fun v m2 H' g' => St (· < g) H0 [] H' g' ∧ coins_rising_l1 a0 a1 a2 m2 v = some r) (n := n) 0 (.k (.k (.k (.k (.k (.k .nil)))))) ⟨(hS.keep [] rfl).up (by omega), hM⟩ ?_
  rintro v1 m2 H g2 ⟨hS, hM⟩
  obtain _ | m2 := m2
  ·exact nomatch (show none = some _ from hM)
  change wpA _ _ _ _ (Fr.of [(0, .sl .no 1 (a0.map cI)), (1, .i a1), (2, .i a2), (9, .sl .no 1 (a0.map cI)), (10, .i (a0.length : Int)), (11, .i v1)]) _ _
  replace hS : St (· < g) H0 [] H g2 := hS
  replace hM : coins_rising_l1_b a0 a1 a2 (coins_rising_l1 a0 a1 a2 m2) v1 = some r := hM
  refine Sq ?_
  refine Rg 1 ?_
  refine Oi (.b (decide (v1 < (a0.length : Int)))) ?_
  refine Ni ?_
  refine Ws ?_
  refine Sq ?_
  rcases bft (decide (v1 < (a0.length : Int))) with hb2 | hb2
  ·replace hM := ifT hM hb2
   refine Ct hb2 ?_
   refine r_skip ?_
   refine Ws ?_
   refine Sq ?_
   refine r_block ?_
   refine Sq ?_
   refine Rg 5 ?_
   refine Om (.i v1) ?_
   obtain ⟨x3, hx3, hM⟩ := bindE hM
   refine o_index (xs := a0) (f := cI) (z := v1) (u := x3) (by decide) rfl rfl ty_es22 hx3 ?_
   refine Olp (.i x3) ty_agg3 ty_sc3 ?_
   refine Oa (.i v1) ?_
   refine Oa (.i x3) ?_
   refine Ni ?_
   refine Ws ?_
   refine w_join (J := Bool) (fun j => [(0, .sl .no 1 (a0.map cI)), (1, .i a1), (2, .i a2), (9, .sl .no 1 (a0.map cI)), (10, .i (a0.length : Int)), (11, .i v1), (32, .b j)]) (fun j H' g' => St (· < g) H0 [] H' g' ∧ coins_rising_j2 (coins_rising_l1 a0 a1 a2 m2) v1 j = some r) ?_ ?_
   ·rintro v4 H g3 ⟨hS, hM⟩
    change wpA _ _ _ _ (Fr.of [(0, .sl .no 1 (a0.map cI)), (1, .i a1), (2, .i a2), (9, .sl .no 1 (a0.map cI)), (10, .i (a0.length : Int)), (11, .i v1), (32, .b v4)]) _ _
    replace hS : St (· < g) H0 [] H g3 := hS
    replace hM : coins_rising_j2 (coins_rising_l1 a0 a1 a2 m2) v1 v4 = some r := hM
    rcases bft v4 with hb5 | hb5
    ·replace hM := ifT hM hb5
     refine Ct hb5 ?_
     refine Sq ?_
     refine Rg 1 ?_
     refine Oa (.b false) ?_
     refine Ni ?_
     refine Ws ?_
     refine r_ret ?_
     refine r_blk_ret ?_
     refine r_then_ret ?_
     refine w_round_ret ?_
     refine r_blk_ret ?_
     refine w_goto_ret ?_
     refine w_end (x := .b false) (f := fun r => .b r) (.inr rfl) ?_ (.refl _) (Option.some.inj hM) hS
     exact (res_one (res_tmp (x := .b false) rfl))
    ·replace hM := ifF hM hb5
     refine Cf hb5 ?_
     refine r_skip ?_
     refine r_blk_normal ?_
     refine Ws ?_
     refine Rg 2 ?_
     refine Oi (.i (w64 (v1 + 1))) ?_
     refine Om (.i (w64 (v1 + 1))) ?_
     refine Ni ?_
     exact w_round (w64 (v1 + 1)) (Nat.lt_succ_self _) (.k (.k (.k (.k (.k (.k .nil)))))) ⟨(hS.keep [] rfl).up (by omega), hM⟩
   ·refine Rg 17 ?_
    refine Om (.i x3) ?_
    refine Om (.i a2) ?_
    obtain ⟨r6, hr6, hM⟩ := bindE hM
    refine o_call (bs := [.i x3, .i 1, .i a2]) (by decide) rfl rfl ((W_coins_within hr6).le (.k (.k (.k .nil)))) ?_
    refine o_not (e := r6) (by decide) rfl ?_
    refine Om (.b (!r6)) ?_
    rcases bft (!r6) with hb7 | hb7
    ·replace hM := ifT hM hb7
     refine On (want := false) hb7 ?_
     refine On (want := false) hb7 ?_
     refine On (want := false) hb7 ?_
     refine o_guardU (j := 7) (by decide) rfl ?_
     refine o_guardU (j := 7) (by decide) rfl ?_
     refine o_guardU (j := 7) (by decide) rfl ?_
     refine o_guardU (j := 7) (by decide) rfl ?_
     refine o_guardU (j := 7) (by decide) rfl ?_
     refine o_guardU (j := 7) (by decide) rfl ?_
     refine o_guardU (j := 7) (by decide) rfl ?_
     refine On (want := false) hb7 ?_
     refine Pt (.b true) hb7 ?_
     refine Ni ?_
     exact w_goto true (.k (.k (.k (.k (.k (.k (.k .nil))))))) ⟨(hS.keep [] rfl).up (by omega), hM⟩
    ·replace hM := ifF hM hb7
     refine Oy (want := false) hb7 ?_
     refine Om (.i v1) ?_
     refine Oy (want := false) hb7 ?_
     refine Oi (.b (decide (v1 > 0))) ?_
     refine Oy (want := false) hb7 ?_
     refine Om (.b (decide (v1 > 0))) ?_
     rcases bft (decide (v1 > 0)) with hb8 | hb8
     ·replace hM := ifT hM hb8
      refine Oy (want := true) hb8 ?_
      refine Om (.i x3) ?_
      refine Oy (want := true) hb8 ?_
      refine Om (.sl .no 1 (a0.map cI)) ?_
      refine Oy (want := true) hb8 ?_
      refine Om (.i v1) ?_
      refine Oy (want := true) hb8 ?_
      refine Oi (.i (w64 (v1 - 1))) ?_
      refine Oy (want := true) hb8 ?_
      obtain ⟨x9, hx9, hM⟩ := bindE hM
      refine o_index (xs := a0) (f := cI) (z := (w64 (v1 - 1))) (u := x9) (by decide) rfl rfl ty_es22 hx9 ?_
      refine Oy (want := true) hb8 ?_
      refine Olp (.i x9) ty_agg3 ty_sc3 ?_
      refine Oy (want := true) hb8 ?_
      refine Oi (.b (decide (x3 ≤ x9))) ?_
      refine Oy (want := false) hb7 ?_
      refine Pt (.b (decide (x3 ≤ x9))) hb8 ?_
      refine Pf (.b (decide (x3 ≤ x9))) hb7 ?_
      refine Ni ?_
      exact w_goto (decide (x3 ≤ x9)) (.k (.k (.k (.k (.k (.k (.k .nil))))))) ⟨(hS.keep [] rfl).up (by omega), hM⟩
     ·replace hM := ifF hM hb8
      refine On (want := true) hb8 ?_
      refine On (want := true) hb8 ?_
      refine On (want := true) hb8 ?_
      refine On (want := true) hb8 ?_
      refine On (want := true) hb8 ?_
      refine On (want := true) hb8 ?_
      refine On (want := true) hb8 ?_
      refine Oy (want := false) hb7 ?_
      refine Pf (.b false) hb8 ?_
      refine Pf (.b false) hb7 ?_
      refine Ni ?_
      exact w_goto false (.k (.k (.k (.k (.k (.k (.k .nil))))))) ⟨(hS.keep [] rfl).up (by omega), hM⟩
  ·replace hM := ifF hM hb2
   refine Cf hb2 ?_
   refine r_exit ?_
   refine r_then_exit ?_
   refine w_round_exit ?_
   refine r_blk_exit ?_
   exact w_goto () (.k (.k .nil)) ⟨(hS.keep [] rfl).up (by omega), hM⟩
theorem W_coins_Check {n : Nat} {a0 : Wheel} {r : Int} (hM : coins_Check n a0 = some r) : PureSat Try.prog 38 [.agg (Wheel.cells a0)] (.i r) := by
 refine pure_of_wp mixed Try.func38 rfl (by decide) Try.ntmps38 (by simp) ?pure fun H0 g hf => ?_
 case pure => exact .v _
 rw [frame0_of]
 change wpA _ _ _ _ (Fr.of [(0, .agg (Wheel.cells a0))]) H0 g
 have hS := St.start hf
 refine Sq ?_
 refine Rg 2 ?_
 refine o_box (v := .agg (Wheel.cells a0)) (cs := (Wheel.cells a0)) hS (by decide) rfl rfl (by omega) fun H hS => ?_
 refine Oa (.i 0) ?_
 refine Ni ?_
 refine w_iceE (L' := []) 0 1 hS rfl rfl rfl fun H hS => ?_
 refine Ws ?_
 refine Sq ?_
 refine w_join (J := Bool) (fun j => [(20, .b j)]) (fun j H' g' => St (· < g) H0 [] H' g' ∧ coins_Check_j1 j = some r) ?_ ?_
 ·rintro v1 H g1 ⟨hS, hM⟩
  change wpA _ _ _ _ (Fr.of [(20, .b v1)]) _ _
  replace hS : St (· < g) H0 [] H g1 := hS
  replace hM : coins_Check_j1 v1 = some r := hM
  rcases bft v1 with hb2 | hb2
  ·replace hM := ifT hM hb2
   refine Ct hb2 ?_
   refine Sq ?_
   refine Rg 1 ?_
   refine Oa (.i 10) ?_
   refine Ni ?_
   refine Ws ?_
   refine r_ret ?_
   refine r_then_ret ?_
   refine w_end (x := .i 10) (f := fun r => .i r) (.inr rfl) ?_ (.refl _) (Option.some.inj hM) hS
   exact (res_one (res_tmp (x := .i 10) rfl))
  ·replace hM := ifF hM hb2
   refine Cf hb2 ?_
   refine r_skip ?_
   refine Ws ?_
   refine Sq ?_
   refine Rg 1 ?_
   refine Oa (.i 0) ?_
   refine Ni ?_
   refine Ws ?_
   refine r_ret ?_
   refine w_end (x := .i 0) (f := fun r => .i r) (.inr rfl) ?_ (.refl _) (Option.some.inj hM) hS
   exact (res_one (res_tmp (x := .i 0) rfl))
 ·refine Rg 18 ?_
  refine Of ((Wheel.cells a0)) ty_fo24_0 ?_
  refine Olp (.i a0.Round) ty_agg3 ty_sc3 ?_
  obtain ⟨r3, hr3, hM⟩ := bindE hM
  refine o_call (bs := [.i a0.Round, .i 1, .i 200]) (by decide) rfl rfl ((W_coins_within hr3).le (.k (.k (.k .nil)))) ?_
  refine o_not (e := r3) (by decide) rfl ?_
  refine Om (.b (!r3)) ?_
  rcases bft (!r3) with hb4 | hb4
  ·replace hM := ifT hM hb4
   refine On (want := false) hb4 ?_
   refine On (want := false) hb4 ?_
   refine On (want := false) hb4 ?_
   refine On (want := false) hb4 ?_
   refine On (want := false) hb4 ?_
   refine On (want := false) hb4 ?_
   refine Pt (.b true) hb4 ?_
   refine Om (.b true) ?_
   refine Og ?_
   refine Og ?_
   refine Og ?_
   refine Og ?_
   refine o_pickT (v := .b true) (e := true) (by decide) rfl rfl rfl ?_
   refine Ni ?_
   exact w_goto true (.k .nil) ⟨(hS.keep [] rfl).up (by omega), hM⟩
  ·replace hM := ifF hM hb4
   refine Oy (want := false) hb4 ?_
   refine Of ((Wheel.cells a0)) ty_fo24_1 ?_
   refine Oy (want := false) hb4 ?_
   refine Olp (.sl .no 1 (a0.Notches.map cI)) ty_agg22 ty_sc22 ?_
   refine Oy (want := false) hb4 ?_
   refine Of ((Wheel.cells a0)) ty_fo24_0 ?_
   refine Oy (want := false) hb4 ?_
   refine Olp (.i a0.Round) ty_agg3 ty_sc3 ?_
   refine Oy (want := false) hb4 ?_
   obtain ⟨r5, hr5, hM⟩ := bindE hM
   refine o_call (bs := [.sl .no 1 (a0.Notches.map cI), .i 12, .i a0.Round]) (by decide) rfl rfl ((W_coins_rising hr5).le (.k (.k (.k .nil)))) ?_
   refine Oy (want := false) hb4 ?_
   refine o_not (e := r5) (by decide) rfl ?_
   refine Pf (.b (!r5)) hb4 ?_
   refine Om (.b (!r5)) ?_
   rcases bft (!r5) with hb6 | hb6
   ·replace hM := ifT hM hb6
    refine On (want := false) hb6 ?_
    refine On (want := false) hb6 ?_
    refine On (want := false) hb6 ?_
    refine On (want := false) hb6 ?_
    refine Pt (.b true) hb6 ?_
    refine Ni ?_
    exact w_goto true (.k .nil) ⟨(hS.keep [] rfl).up (by omega), hM⟩
   ·replace hM := ifF hM hb6
    refine Oy (want := false) hb6 ?_
    refine Of ((Wheel.cells a0)) ty_fo24_2 ?_
    refine Oy (want := false) hb6 ?_
    refine Olp (.sl .no 1 (a0.Coins.map cI)) ty_agg22 ty_sc22 ?_
    refine Oy (want := false) hb6 ?_
    obtain ⟨r7, hr7, hM⟩ := bindE hM
    refine o_call (bs := [.sl .no 1 (a0.Coins.map cI), .i 4, .i 100]) (by decide) rfl rfl ((W_coins_rising hr7).le (.k (.k (.k .nil)))) ?_
    refine Oy (want := false) hb6 ?_
    refine o_not (e := r7) (by decide) rfl ?_
    refine Pf (.b (!r7)) hb6 ?_
    refine Ni ?_
    exact w_goto (!r7) (.k .nil) ⟨(hS.keep [] rfl).up (by omega), hM⟩
theorem W_coins_open {S : Type} {Lo : S → BL} (hk : ∀ s s', KinL (Lo s) (Lo s')) (hnd : ∀ s, (ids (Lo s)).Nodup) (hin : ∀ s, InB In (Lo s)) {aF : Wheel_ → S → Option (Bool × S)} {f0 : AV} (hF : ∀ s H, Has H (Lo s) → In H f0) (h0 : cellsOf f0 = some [f0]) (hf : ∀ {x0 : Wheel_} {s : S} {r : Bool × S}, aF x0 s = some r → CSat Try.prog f0 [.agg (Wheel_.cells x0)] (Lo s) (.b r.1) (Lo r.2)) {n : Nat} {a0 : Wheel} {st : S} {r : (Wheel_ × Int) × S} (hM : coins_open n aF a0 st = some r) : HSat Try.prog 57 [.agg (Wheel.cells a0), f0] (Lo st) (.tup [.agg [.i r.1.1.Wheel.Round, .sl .no 1 (r.1.1.Wheel.Notches.map cI), .sl .no 1 (r.1.1.Wheel.Coins.map cI)], .i r.1.2]) (Lo r.2) := by
 have hnd0 : ∀ s, (ids (Lo s)).Nodup := fun s => hnd s
 refine hsat_of_wp mixed Try.func57 rfl (by decide) Try.ntmps57 (by simp) (hk _ _) (hnd st) ?pure ?cells fun H0 g hf_ hp => ?_
 case pure => exact fun H _ => (show Go.AM.Pure _ from .tup _ (pl_cons (.agg _ (pl_cons (.v _) (pl_cons (.sl _ _ (pures_map (fun x => (pl_cons (.v _) pl_nil)))) (pl_cons (.sl _ _ (pures_map (fun x => (pl_cons (.v _) pl_nil)))) pl_nil)))) (pl_cons (.v _) pl_nil))).inH
 case cells => exact hin _
 rw [frame0_of]
 change wpA _ _ _ _ (Fr.of [(0, .agg (Wheel.cells a0)), (1, f0)]) H0 g
 have hS := St.startH (L := ([] ++ Lo st)) hf_ (hnd st) hp
 replace hS : St (fun i => i < g ∧ i ∉ ids (Lo st)) H0 ([] ++ Lo st) H0 g := hS
 refine Sq ?_
 refine Rg 3 ?_
 refine o_box (v := .agg (Wheel.cells a0)) (cs := (Wheel.cells a0)) hS (by decide) rfl rfl (by omega) fun H hS => ?_
 refine o_alloc hS (by decide) ty_zero71 (by omega) fun H hS => ?_
 refine Oa (.i 0) ?_
 refine Ni ?_
 refine w_iceE (L' := ([(g + 1, .cells [.i 0, .sl .nil 0 [], .sl .nil 0 []])] ++ Lo st)) 1 2 hS rfl rfl rfl fun H hS => ?_
 refine Ws ?_
 refine Sq ?_
 refine Sq ?_
 refine Rg 3 ?_
 refine Olg (.agg (Wheel.cells a0)) ty_agg24 ?_
 obtain ⟨r1, hr1, hM⟩ := bindE hM
 refine o_call (bs := [.agg (Wheel.cells a0)]) (by decide) rfl rfl ((W_coins_Check hr1).le (.k .nil)) ?_
 refine Oa (.i r1) ?_
 refine Ni ?_
 refine Ws ?_
 refine Sq ?_
 refine Rg 2 ?_
 refine Om (.i r1) ?_
 refine Oi (.b (r1 != 0)) ?_
 refine Ni ?_
 refine Ws ?_
 rcases bft (r1 != 0) with hb2 | hb2
 ·replace hM := ifT hM hb2
  refine Ct hb2 ?_
  refine Sq ?_
  refine Rg 4 ?_
  refine o_build (cs := [.i 0, .sl .nil 0 [], .sl .nil 0 []]) (by decide) ty_zero71 ty_pl71 rfl ?_
  refine Om (.i r1) ?_
  refine o_store (v := .agg [.i 0, .sl .nil 0 [], .sl .nil 0 []]) (ns := [.i 0, .sl .nil 0 [], .sl .nil 0 []]) (L' := ([(g + 1, .cells [.i 0, .sl .nil 0 [], .sl .nil 0 []])] ++ Lo st)) 0 hS rfl rfl .no rfl rfl ty_var71 nlb rfl fun H hS => ?_
  refine Oa (.i r1) ?_
  refine Ni ?_
  refine Ws ?_
  refine r_ret ?_
  refine r_then_ret ?_
  refine w_endS (x := .tup [.agg [.i 0, .sl .nil 0 [], .sl .nil 0 []], .i r1]) (f := fun r => .tup [.agg [.i r.1.1.Wheel.Round, .sl .no 1 (r.1.1.Wheel.Notches.map cI), .sl .no 1 (r.1.1.Wheel.Coins.map cI)], .i r.1.2]) (fd := fun r => (Lo r.2)) (.inr rfl) ?_ (.tupL (.cons (.aggL (.k (.cons (.sl0 .nil 1 0) (.cons (.sl0 .nil 1 0) .nil)))) (.k .nil))) (Option.some.inj hM) hS 1 rfl
  exact (res_two (res_cell (x := .agg [.i 0, .sl .nil 0 [], .sl .nil 0 []]) 0 hS rfl rfl (pg ty_agg71)) (res_tmp (x := .i r1) rfl))
 ·replace hM := ifF hM hb2
  refine Cf hb2 ?_
  refine r_skip ?_
  refine Ws ?_
  refine Sq ?_
  refine Sq ?_
  refine Rg 5 ?_
  refine Om (f0) ?_
  refine Olg (.agg (Wheel.cells a0)) ty_agg24 ?_
  refine o_build (cs := (Wheel.cells a0)) (by decide) ty_zero71 ty_pl71 rfl ?_
  obtain ⟨r3, hr3, hM⟩ := bindE hM
  replace hS : St (fun i => i < g ∧ i ∉ ids (Lo st)) H0 ([(g + 1, .cells [.i 0, .sl .nil 0 [], .sl .nil 0 []])] ++ Lo st) _ _ := hS
  refine o_state (bs := [.agg (Wheel.cells a0)]) (.inl rfl) hS (by decide) rfl rfl ((hf hr3).le (.k .nil)) (hk _ _).ids (by omega) fun H hS => ?_
  refine o_not (e := r3.1) (by decide) rfl ?_
  refine Ni ?_
  refine Ws ?_
  rcases bft (!r3.1) with hb4 | hb4
  ·replace hM := ifT hM hb4
   refine Ct hb4 ?_
   refine Sq ?_
   refine Rg 3 ?_
   refine o_build (cs := [.i 0, .sl .nil 0 [], .sl .nil 0 []]) (by decide) ty_zero71 ty_pl71 rfl ?_
   refine o_store (v := .agg [.i 0, .sl .nil 0 [], .sl .nil 0 []]) (ns := [.i 0, .sl .nil 0 [], .sl .nil 0 []]) (L' := ([(g + 1, .cells [.i 0, .sl .nil 0 [], .sl .nil 0 []])] ++ Lo r3.2)) 0 hS rfl rfl .no rfl rfl ty_var71 nlb rfl fun H hS => ?_
   refine Oa (.i 1) ?_
   refine Ni ?_
   refine Ws ?_
   refine r_ret ?_
   refine r_then_ret ?_
   refine w_endS (x := .tup [.agg [.i 0, .sl .nil 0 [], .sl .nil 0 []], .i 1]) (f := fun r => .tup [.agg [.i r.1.1.Wheel.Round, .sl .no 1 (r.1.1.Wheel.Notches.map cI), .sl .no 1 (r.1.1.Wheel.Coins.map cI)], .i r.1.2]) (fd := fun r => (Lo r.2)) (.inr rfl) ?_ (.tupL (.cons (.aggL (.k (.cons (.sl0 .nil 1 0) (.cons (.sl0 .nil 1 0) .nil)))) (.k .nil))) (Option.some.inj hM) hS 1 rfl
   exact (res_two (res_cell (x := .agg [.i 0, .sl .nil 0 [], .sl .nil 0 []]) 0 hS rfl rfl (pg ty_agg71)) (res_tmp (x := .i 1) rfl))
  ·replace hM := ifF hM hb4
   refine Cf hb4 ?_
   refine r_skip ?_
   refine Ws ?_
   refine Sq ?_
   refine Rg 4 ?_
   refine Olg (.agg (Wheel.cells a0)) ty_agg24 ?_
   refine o_build (cs := (Wheel.cells a0)) (by decide) ty_zero71 ty_pl71 rfl ?_
   refine o_store (v := .agg (Wheel.cells a0)) (ns := (Wheel.cells a0)) (L' := ([(g + 1, .cells (Wheel.cells a0))] ++ Lo r3.2)) 0 hS rfl rfl .no rfl rfl ty_var71 nlb rfl fun H hS => ?_
   refine Oa (.i 0) ?_
   refine Ni ?_
   refine w_next [(4, .ptr (g + 1) 0), (5, .i 0)] (.k (.k .nil)) ?_
   refine r_ret ?_
   refine w_endS (x := .tup [.agg (Wheel.cells a0), .i 0]) (f := fun r => .tup [.agg [.i r.1.1.Wheel.Round, .sl .no 1 (r.1.1.Wheel.Notches.map cI), .sl .no 1 (r.1.1.Wheel.Coins.map cI)], .i r.1.2]) (fd := fun r => (Lo r.2)) (.inr rfl) ?_ (.refl _) (Option.some.inj hM) hS 1 rfl
   exact (res_two (res_cell (x := .agg (Wheel.cells a0)) 0 hS rfl rfl (pg ty_agg71)) (res_tmp (x := .i 0) rfl))
theorem W_coins_Cheapest_c1 {a0 : Wheel_} {a1 : Int} {r : Bool} (hM : coins_Cheapest_c1 a0 a1 = some r) : PureSat Try.prog 58 [.agg (Wheel_.cells a0), .ep [.i a1]] (.b r) := by
 refine pure_of_wp mixed Try.func58 rfl (by decide) Try.ntmps58 (by simp) ?pure fun H0 g hf => ?_
 case pure => exact .v _
 rw [frame0_of]
 change wpA _ _ _ _ (Fr.of [(0, .agg (Wheel_.cells a0)), (1, .ep [.i a1])]) H0 g
 have hS := St.start hf
 refine Sq ?_
 refine Rg 2 ?_
 refine o_box (v := .agg (Wheel_.cells a0)) (cs := (Wheel_.cells a0)) hS (by decide) rfl rfl (by omega) fun H hS => ?_
 refine Oa (.b false) ?_
 refine Ni ?_
 replace hS := hS.keep (L' := []) [false] rfl
 refine Ws ?_
 refine Sq ?_
 refine Rg 3 ?_
 refine Olp (.i a1) ty_agg3 ty_sc3 ?_
 obtain ⟨r1, hr1, hM⟩ := bindE hM
 refine o_call (bs := [.i a1, .i 1, .i 20]) (by decide) rfl rfl ((W_coins_within hr1).le (.k (.k (.k .nil)))) ?_
 refine Oa (.b r1) ?_
 refine Ni ?_
 refine w_next [(3, .b r1)] (.k .nil) ?_
 refine r_ret ?_
 refine w_end (x := .b r1) (f := fun r => .b r) (.inr rfl) ?_ (.refl _) (Option.some.inj hM) hS
 exact (res_one (res_tmp (x := .b r1) rfl))
theorem W_coins_wheel_turn {n : Nat} {a0 : Wheel_} {a1 : Int} {a2 : Int} {r : Int × Int} (hM : coins_wheel_turn n a0 a1 a2 = some r) : PureSat Try.prog 82 [.agg (Wheel_.cells a0), .i a1, .i a2] (.tup [.i r.1, .i r.2]) := by
 refine pure_of_wp mixed Try.func82 rfl (by decide) Try.ntmps82 (by simp) ?pure fun H0 g hf => ?_
 case pure => exact .tup _ (pl_cons (.v _) (pl_cons (.v _) pl_nil))
 rw [frame0_of]
 change wpA _ _ _ _ (Fr.of [(0, .agg (Wheel_.cells a0)), (1, .i a1), (2, .i a2)]) H0 g
 have hS := St.start hf
 refine Sq ?_
 refine Rg 3 ?_
 refine o_box (v := .agg (Wheel_.cells a0)) (cs := (Wheel_.cells a0)) hS (by decide) rfl rfl (by omega) fun H hS => ?_
 refine Oa (.i 0) ?_
 refine Oa (.i 0) ?_
 refine Ni ?_
 refine w_iceE (L' := []) 0 3 hS rfl rfl rfl fun H hS => ?_
 refine Ws ?_
 refine Sq ?_
 refine Rg 4 ?_
 refine Om (.i a1) ?_
 refine Om (.i a2) ?_
 refine Oi (.i (w64 (a1 + a2))) ?_
 refine Oa (.i (w64 (a1 + a2))) ?_
 refine Ni ?_
 refine Ws ?_
 refine w_join (J := Int) (fun j => [(3, .ep (Wheel_.cells a0)), (7, .i j), (8, .i (w64 (a1 + a2)))]) (fun j H' g' => St (· < g) H0 [] H' g' ∧ coins_wheel_turn_j1 a0 a1 a2 j = some r) ?_ ?_
 ·rintro v1 H g1 ⟨hS, hM⟩
  change wpA _ _ _ _ (Fr.of [(3, .ep (Wheel_.cells a0)), (7, .i v1), (8, .i (w64 (a1 + a2)))]) _ _
  replace hS : St (· < g) H0 [] H g1 := hS
  replace hM : coins_wheel_turn_j1 a0 a1 a2 v1 = some r := hM
  refine Sq ?_
  refine Rg 8 ?_
  refine Om (.i (w64 (a1 + a2))) ?_
  refine Of ((Wheel_.cells a0)) ty_fo71_0 ?_
  refine Of ((Wheel_.cells a0)) ty_fo24_0 ?_
  refine Olp (.i a0.Wheel.Round) ty_agg3 ty_sc3 ?_
  obtain ⟨q2, hq2, hM⟩ := bindE hM
  refine o_int (by decide) rfl rfl (rem_int hq2) ?_
  refine Om (.i v1) ?_
  refine Oa (.i q2) ?_
  refine Oa (.i v1) ?_
  refine Ni ?_
  refine Ws ?_
  refine r_ret ?_
  refine w_end (x := .tup [.i q2, .i v1]) (f := fun r => .tup [.i r.1, .i r.2]) (.inr rfl) ?_ (.refl _) (Option.some.inj hM) hS
  exact (res_two (res_tmp (x := .i q2) rfl) (res_tmp (x := .i v1) rfl))
 ·refine Sq ?_
  refine Rg 5 ?_
  refine Of ((Wheel_.cells a0)) ty_fo71_0 ?_
  refine Of ((Wheel_.cells a0)) ty_fo24_1 ?_
  refine Olp (.sl .no 1 (a0.Wheel.Notches.map cI)) ty_agg22 ty_sc22 ?_
  refine o_len (n := a0.Wheel.Notches.length) (by decide) rfl (List.length_map _) ty_isl22 ?_
  refine Om (.i 0) ?_
  refine Ni ?_
  refine Ws ?_
  refine r_block ?_
  refine w_loop (V := Int × Int) (fun v => [(1, .i a1), (3, .ep (Wheel_.cells a0)), (7, .i v.1), (8, .i (w64 (a1 + a2))), (16, .sl .no 1 (a0.Wheel.Notches.map cI)), (17, .i (a0.Wheel.Notches.length : Int)), (18, .i v.2)]) (fun v m2 H' g' => St (· < g) H0 [] H' g' ∧ coins_wheel_turn_l1 a0 a1 a2 m2 v.1 v.2 = some r) (n := n) (0, 0) (.k (.k (.k (.k (.k (.k (.k .nil))))))) ⟨(hS.keep [] rfl).up (by omega), hM⟩ ?_
  rintro ⟨v3, v4⟩ m2 H g2 ⟨hS, hM⟩
  obtain _ | m2 := m2
  ·exact nomatch (show none = some _ from hM)
  change wpA _ _ _ _ (Fr.of [(1, .i a1), (3, .ep (Wheel_.cells a0)), (7, .i v3), (8, .i (w64 (a1 + a2))), (16, .sl .no 1 (a0.Wheel.Notches.map cI)), (17, .i (a0.Wheel.Notches.length : Int)), (18, .i v4)]) _ _
  replace hS : St (· < g) H0 [] H g2 := hS
  replace hM : coins_wheel_turn_l1_b a0 a1 a2 (coins_wheel_turn_l1 a0 a1 a2 m2) v3 v4 = some r := hM
  refine Sq ?_
  refine Rg 1 ?_
  refine Oi (.b (decide (v4 < (a0.Wheel.Notches.length : Int)))) ?_
  refine Ni ?_
  refine Ws ?_
  refine Sq ?_
  rcases bft (decide (v4 < (a0.Wheel.Notches.length : Int))) with hb5 | hb5
  ·replace hM := ifT hM hb5
   refine Ct hb5 ?_
   refine r_skip ?_
   refine Ws ?_
   refine Sq ?_
   refine r_block ?_
   refine Sq ?_
   refine Rg 3 ?_
   obtain ⟨x6, hx6, hM⟩ := bindE hM
   refine o_index (xs := a0.Wheel.Notches) (f := cI) (z := v4) (u := x6) (by decide) rfl rfl ty_es22 hx6 ?_
   refine Olp (.i x6) ty_agg3 ty_sc3 ?_
   refine Oa (.i x6) ?_
   refine Ni ?_
   refine Ws ?_
   have hS0 := hS
   refine r_draw (n := 26) rfl (by kernel_rfl) ?_
   refine Om (.i v3) ?_
   refine Om (.i (w64 (a1 + a2))) ?_
   refine Om (.i x6) ?_
   refine Oi (.i (w64 ((w64 (a1 + a2)) - x6))) ?_
   refine Of ((Wheel_.cells a0)) ty_fo71_0 ?_
   refine Of ((Wheel_.cells a0)) ty_fo24_0 ?_
   refine Olp (.i a0.Wheel.Round) ty_agg3 ty_sc3 ?_
   refine Oi (.i (w64 ((w64 ((w64 (a1 + a2)) - x6)) + a0.Wheel.Round))) ?_
   refine Of ((Wheel_.cells a0)) ty_fo71_0 ?_
   refine Of ((Wheel_.cells a0)) ty_fo24_0 ?_
   refine Olp (.i a0.Wheel.Round) ty_agg3 ty_sc3 ?_
   obtain ⟨q7, hq7, hM⟩ := bindE hM
   refine o_int (by decide) rfl rfl (quo_int hq7) ?_
   refine Om (.i a1) ?_
   refine Om (.i x6) ?_
   refine Oi (.i (w64 (a1 - x6))) ?_
   refine Of ((Wheel_.cells a0)) ty_fo71_0 ?_
   refine Of ((Wheel_.cells a0)) ty_fo24_0 ?_
   refine Olp (.i a0.Wheel.Round) ty_agg3 ty_sc3 ?_
   refine Oi (.i (w64 ((w64 (a1 - x6)) + a0.Wheel.Round))) ?_
   refine Of ((Wheel_.cells a0)) ty_fo71_0 ?_
   refine Of ((Wheel_.cells a0)) ty_fo24_0 ?_
   refine Olp (.i a0.Wheel.Round) ty_agg3 ty_sc3 ?_
   obtain ⟨q8, hq8, hM⟩ := bindE hM
   refine o_int (by decide) rfl rfl (quo_int hq8) ?_
   refine Oi (.i (w64 (q7 - q8))) ?_
   refine Oi (.i (w64 (v3 + (w64 (q7 - q8))))) ?_
   refine Oa (.i (w64 (v3 + (w64 (q7 - q8))))) ?_
   refine Ni ?_
   refine r_blk_normal ?_
   refine Ws ?_
   refine Rg 2 ?_
   refine Oi (.i (w64 (v4 + 1))) ?_
   refine Om (.i (w64 (v4 + 1))) ?_
   refine Ni ?_
   exact w_round (w64 (v3 + (w64 (q7 - q8))), w64 (v4 + 1)) (Nat.lt_succ_self _) (.k (.k (.k (.k (.k (.k (.k .nil))))))) ⟨(hS.keep [] rfl).up (by omega), hM⟩
  ·replace hM := ifF hM hb5
   refine Cf hb5 ?_
   refine r_exit ?_
   refine r_then_exit ?_
   refine w_round_exit ?_
   refine r_blk_exit ?_
   exact w_goto v3 (.k (.k (.k .nil))) ⟨(hS.keep [] rfl).up (by omega), hM⟩
theorem W_coins_wheel_act {n : Nat} {a0 : Wheel_} {a1 : Stand} {a2 : Int} {r : Stand} (hM : coins_wheel_act n a0 a1 a2 = some r) : PureSat Try.prog 60 [.agg (Wheel_.cells a0), .agg (Stand.cells a1), .i a2] (.agg [.i r.Place, .i r.Credit]) := by
 refine pure_of_wp mixed Try.func60 rfl (by decide) Try.ntmps60 (by simp) ?pure fun H0 g hf => ?_
 case pure => exact .agg _ (pl_cons (.v _) (pl_cons (.v _) pl_nil))
 rw [frame0_of]
 change wpA _ _ _ _ (Fr.of [(0, .agg (Wheel_.cells a0)), (1, .agg (Stand.cells a1)), (2, .i a2)]) H0 g
 have hS := St.start hf
 refine Sq ?_
 refine Rg 3 ?_
 refine o_box (v := .agg (Wheel_.cells a0)) (cs := (Wheel_.cells a0)) hS (by decide) rfl rfl (by omega) fun H hS => ?_
 refine o_box (v := .agg (Stand.cells a1)) (cs := (Stand.cells a1)) hS (by decide) rfl rfl (by omega) fun H hS => ?_
 refine o_alloc hS (by decide) ty_zero57 (by omega) fun H hS => ?_
 refine Ni ?_
 refine w_iceE (L' := [(g + 2, .cells [.i 0, .i 0]), (g + 1, .cells (Stand.cells a1))]) 2 3 hS rfl rfl rfl fun H hS => ?_
 refine w_iceE (L' := [(g + 2, .cells [.i 0, .i 0])]) 1 4 hS rfl rfl rfl fun H hS => ?_
 refine Ws ?_
 refine Sq ?_
 refine r_block ?_
 refine Sq ?_
 refine Rg 3 ?_
 refine Om (.i a2) ?_
 refine Oi (.b (a2 != (-1))) ?_
 refine Oa (.b (a2 != (-1))) ?_
 refine Ni ?_
 refine Ws ?_
 rcases bft (a2 != (-1)) with hb1 | hb1
 ·replace hM := ifT hM hb1
  refine Ct hb1 ?_
  refine Sq ?_
  have hS0 := hS
  refine r_draw (n := 15) rfl (by kernel_rfl) ?_
  refine Olg (.agg (Wheel_.cells a0)) ty_agg71 ?_
  refine Of ((Stand.cells a1)) ty_fo57_0 ?_
  refine Olp (.i a1.Place) ty_agg3 ty_sc3 ?_
  refine Of ((Wheel_.cells a0)) ty_fo71_0 ?_
  refine Of ((Wheel_.cells a0)) ty_fo24_2 ?_
  refine Olp (.sl .no 1 (a0.Wheel.Coins.map cI)) ty_agg22 ty_sc22 ?_
  refine Om (.i a2) ?_
  obtain ⟨x2, hx2, hM⟩ := bindE hM
  refine o_index (xs := a0.Wheel.Coins) (f := cI) (z := a2) (u := x2) (by decide) rfl rfl ty_es22 hx2 ?_
  refine Olp (.i x2) ty_agg3 ty_sc3 ?_
  obtain ⟨r3, hr3, hM⟩ := bindE hM
  refine o_call (bs := [.agg (Wheel_.cells a0), .i a1.Place, .i x2]) (by decide) rfl rfl ((W_coins_wheel_turn hr3).le (.k (.k (.k .nil)))) ?_
  refine Om (.tup [.i r3.1, .i r3.2]) ?_
  refine Ox (.i r3.1) ?_
  refine Ox (.i r3.2) ?_
  refine Oa (.i r3.1) ?_
  refine Oa (.i r3.2) ?_
  refine Ni ?_
  refine Ws ?_
  refine Sq ?_
  refine Rg 7 ?_
  refine Om (.i r3.1) ?_
  refine Of ((Stand.cells a1)) ty_fo57_1 ?_
  refine Olp (.i a1.Credit) ty_agg3 ty_sc3 ?_
  refine Om (.i r3.2) ?_
  refine Oi (.i (w64 (a1.Credit + r3.2))) ?_
  refine o_build (cs := [.i r3.1, .i (w64 (a1.Credit + r3.2))]) (by decide) ty_zero57 ty_pl57 rfl ?_
  refine o_store (v := .agg [.i r3.1, .i (w64 (a1.Credit + r3.2))]) (ns := [.i r3.1, .i (w64 (a1.Credit + r3.2))]) (L' := [(g + 2, .cells [.i r3.1, .i (w64 (a1.Credit + r3.2))])]) 0 hS rfl rfl .no rfl rfl ty_var57 nlb rfl fun H hS => ?_
  refine Ni ?_
  refine Ws ?_
  refine r_ret ?_
  refine r_blk_ret ?_
  refine r_then_ret ?_
  refine w_end (x := .agg [.i r3.1, .i (w64 (a1.Credit + r3.2))]) (f := fun r => .agg [.i r.Place, .i r.Credit]) (.inr rfl) ?_ (.refl _) (Option.some.inj hM) hS
  exact (res_one (res_cell (x := .agg [.i r3.1, .i (w64 (a1.Credit + r3.2))]) 0 hS rfl rfl (pg ty_agg57)))
 ·replace hM := ifF hM hb1
  refine Cf hb1 ?_
  refine Sq ?_
  refine Rg 4 ?_
  refine Of ((Stand.cells a1)) ty_fo57_1 ?_
  refine Olp (.i a1.Credit) ty_agg3 ty_sc3 ?_
  refine Oi (.b (decide (a1.Credit > 0))) ?_
  refine Oa (.b (decide (a1.Credit > 0))) ?_
  refine Ni ?_
  refine Ws ?_
  rcases bft (decide (a1.Credit > 0)) with hb4 | hb4
  ·replace hM := ifT hM hb4
   refine Ct hb4 ?_
   refine Sq ?_
   refine Rg 5 ?_
   refine Of ((Stand.cells a1)) ty_fo57_1 ?_
   refine Olp (.i a1.Credit) ty_agg3 ty_sc3 ?_
   refine Oi (.i (w64 (a1.Credit - 1))) ?_
   refine o_build (cs := [.i 0, .i (w64 (a1.Credit - 1))]) (by decide) ty_zero57 ty_pl57 rfl ?_
   refine o_store (v := .agg [.i 0, .i (w64 (a1.Credit - 1))]) (ns := [.i 0, .i (w64 (a1.Credit - 1))]) (L' := [(g + 2, .cells [.i 0, .i (w64 (a1.Credit - 1))])]) 0 hS rfl rfl .no rfl rfl ty_var57 nlb rfl fun H hS => ?_
   refine Ni ?_
   refine Ws ?_
   refine r_ret ?_
   refine r_blk_ret ?_
   refine r_then_ret ?_
   refine w_end (x := .agg [.i 0, .i (w64 (a1.Credit - 1))]) (f := fun r => .agg [.i r.Place, .i r.Credit]) (.inr rfl) ?_ (.refl _) (Option.some.inj hM) hS
   exact (res_one (res_cell (x := .agg [.i 0, .i (w64 (a1.Credit - 1))]) 0 hS rfl rfl (pg ty_agg57)))
  ·replace hM := ifF hM hb4
   refine Cf hb4 ?_
   refine r_skip ?_
   refine r_blk_normal ?_
   refine Ws ?_
   refine Sq ?_
   refine Rg 2 ?_
   refine Olg (.agg (Stand.cells a1)) ty_agg57 ?_
   refine o_store (v := .agg (Stand.cells a1)) (ns := (Stand.cells a1)) (L' := [(g + 2, .cells (Stand.cells a1))]) 0 hS rfl rfl .no rfl rfl ty_var57 nlb rfl fun H hS => ?_
   refine Ni ?_
   refine w_next [(6, .ptr (g + 2) 0)] (.k .nil) ?_
   refine r_ret ?_
   refine w_end (x := .agg (Stand.cells a1)) (f := fun r => .agg [.i r.Place, .i r.Credit]) (.inr rfl) ?_ (.refl _) (Option.some.inj hM) hS
   exact (res_one (res_cell (x := .agg (Stand.cells a1)) 0 hS rfl rfl (pg ty_agg57)))
theorem W_coins_Cheapest {n : Nat} {a0 : Wheel} {a1 : Int} {r : Int × Int} (hM : coins_Cheapest n a0 a1 = some r) : PureSat Try.prog 19 [.agg (Wheel.cells a0), .i a1] (.tup [.i r.1, .i r.2]) := by
 refine pure_of_wp mixed Try.func19 rfl (by decide) Try.ntmps19 (by simp) ?pure fun H0 g hf => ?_
 case pure => exact .tup _ (pl_cons (.v _) (pl_cons (.v _) pl_nil))
 rw [frame0_of]
 change wpA _ _ _ _ (Fr.of [(0, .agg (Wheel.cells a0)), (1, .i a1)]) H0 g
 have hS := St.start hf
 refine Sq ?_
 refine Rg 4 ?_
 refine o_box (v := .agg (Wheel.cells a0)) (cs := (Wheel.cells a0)) hS (by decide) rfl rfl (by omega) fun H hS => ?_
 refine o_box (v := .i a1) (cs := [.i a1]) hS (by decide) rfl rfl (by omega) fun H hS => ?_
 refine Oa (.i 0) ?_
 refine Oa (.i 0) ?_
 refine Ni ?_
 refine w_iceE (L' := [(g + 1, .cells [.i a1])]) 1 2 hS rfl rfl rfl fun H hS => ?_
 refine w_iceE (L' := []) 0 3 hS rfl rfl rfl fun H hS => ?_
 refine Ws ?_
 refine Sq ?_
 refine Rg 9 ?_
 refine Olg (.agg (Wheel.cells a0)) ty_agg24 ?_
 refine o_makeFunc (first := []) (cap := [.ep [.i a1]]) (by decide) rfl rfl ?_
 obtain ⟨r1, hr1, hM⟩ := bindE hM
 refine o_call (bs := [.agg (Wheel.cells a0), .fn (.func 58) [] [.ep [.i a1]]]) (by decide) rfl rfl (pure_of_hsat ((W_coins_open (Lo := (fun (_ : Unit) => []))  (fun _ _ => kl_nil) (fun _ => List.nodup_nil) (fun _ => inb_nil) (aF := (fun (x0 : Wheel_) (_ : Unit) => (coins_Cheapest_c1 x0 a1).map fun y => (y, ()))) (fun _ H hH => (.fn _ _ _ ai_nil (ai_cons (.ep _ (ai_cons (show Go.AM.Pure _ from .v _).inH ai_nil)) ai_nil))) rfl (fun h => csat_val (W_coins_Cheapest_c1 (pure_some h))) hr1).le (.k (.k .nil)))) ?_
 refine Om (.tup [.agg (Wheel_.cells r1.1.1), .i r1.1.2]) ?_
 refine Ox (.agg (Wheel_.cells r1.1.1)) ?_
 refine Ox (.i r1.1.2) ?_
 refine o_alloc hS (by decide) ty_zero71 (by omega) fun H hS => ?_
 refine o_store (v := .agg (Wheel_.cells r1.1.1)) (ns := (Wheel_.cells r1.1.1)) (L' := [(g + 4 + 6, .cells (Wheel_.cells r1.1.1))]) 0 hS rfl rfl .no rfl rfl ty_var71 nlb rfl fun H hS => ?_
 refine Oa (.i r1.1.2) ?_
 refine Ni ?_
 refine w_iceE (L' := []) 0 6 hS rfl rfl rfl fun H hS => ?_
 refine Ws ?_
 refine Sq ?_
 refine Sq ?_
 refine Rg 2 ?_
 refine Om (.i r1.1.2) ?_
 refine Oi (.b (r1.1.2 != 0)) ?_
 refine Ni ?_
 refine Ws ?_
 rcases bft (r1.1.2 != 0) with hb2 | hb2
 ·replace hM := ifT hM hb2
  refine Ct hb2 ?_
  refine Sq ?_
  refine Rg 3 ?_
  refine Om (.i r1.1.2) ?_
  refine Oa (.i 0) ?_
  refine Oa (.i r1.1.2) ?_
  refine Ni ?_
  refine Ws ?_
  refine r_ret ?_
  refine r_then_ret ?_
  refine w_end (x := .tup [.i 0, .i r1.1.2]) (f := fun r => .tup [.i r.1, .i r.2]) (.inr rfl) ?_ (.refl _) (Option.some.inj hM) hS
  exact (res_two (res_tmp (x := .i 0) rfl) (res_tmp (x := .i r1.1.2) rfl))
 ·replace hM := ifF hM hb2
  refine Cf hb2 ?_
  refine r_skip ?_
  refine Ws ?_
  refine Sq ?_
  refine w_join (J := Bool) (fun j => [(2, .ep (Wheel.cells a0)), (3, .ep [.i a1]), (6, .ep (Wheel_.cells r1.1.1)), (37, .b j)]) (fun j H' g' => St (· < g) H0 [] H' g' ∧ coins_Cheapest_j1 n a0 a1 r1 j = some r) ?_ ?_
  ·rintro v3 H g1 ⟨hS, hM⟩
   change wpA _ _ _ _ (Fr.of [(2, .ep (Wheel.cells a0)), (3, .ep [.i a1]), (6, .ep (Wheel_.cells r1.1.1)), (37, .b v3)]) _ _
   replace hS : St (· < g) H0 [] H g1 := hS
   replace hM : coins_Cheapest_j1 n a0 a1 r1 v3 = some r := hM
   rcases bft v3 with hb4 | hb4
   ·replace hM := ifT hM hb4
    refine Ct hb4 ?_
    refine Sq ?_
    refine Rg 2 ?_
    refine Oa (.i 0) ?_
    refine Oa (.i 3) ?_
    refine Ni ?_
    refine Ws ?_
    refine r_ret ?_
    refine r_then_ret ?_
    refine w_end (x := .tup [.i 0, .i 3]) (f := fun r => .tup [.i r.1, .i r.2]) (.inr rfl) ?_ (.refl _) (Option.some.inj hM) hS
    exact (res_two (res_tmp (x := .i 0) rfl) (res_tmp (x := .i 3) rfl))
   ·replace hM := ifF hM hb4
    refine Cf hb4 ?_
    refine r_skip ?_
    refine Ws ?_
    refine Sq ?_
    refine Rg 4 ?_
    refine o_build (cs := [.i 0, .i 0, .i 0]) (by decide) ty_zero77 ty_pl77 rfl ?_
    refine o_buildSlice (es := [[.i 0, .i 0, .i 0]]) hS (by decide) ty_es78 ty_el78 rfl ty_ef78 rfl (by decide) (by omega) fun H hS => ?_
    replace hS : St (· < g) H0 ((g1 + 1, .row 77 (([(⟨(⟨0, 0⟩ : Stand), 0⟩ : Point_)] : List Point_)).length) :: []) _ _ := hS
    refine o_litR (u := ([(⟨(⟨0, 0⟩ : Stand), 0⟩ : Point_)] : List Point_)) (f := Point_.cells) hS (by decide) rfl ty_es79 ty_el79 ty_ef79 (by omega) fun H hS => ?_
    refine Oa (.ms (g1 + 2) 0 1 1 1) ?_
    refine Ni ?_
    refine Ws ?_
    refine Sq ?_
    refine Rg 2 ?_
    refine o_makeMap (kv := kvPoint_) hS (by decide) ty_map80 (by omega) fun H hS => ?_
    refine Oa (.mp (g1 + 4 + 0)) ?_
    refine Ni ?_
    refine Ws ?_
    refine Sq ?_
    refine Rg 1 ?_
    refine Oa (.i 0) ?_
    refine Ni ?_
    refine Ws ?_
    refine r_block ?_
    replace hS : St (· < g) H0 ([(g1 + 4 + 0, .obj none (mapIs (mpv kvPoint_ ([] : List (Point_ × Int)))))] ++ rowsL Point_.cells 3 77 (g1 + 2) 1 [g1 + 1] ([([(⟨(⟨0, 0⟩ : Stand), 0⟩ : Point_)] : List Point_)] : List (List Point_))) _ _ := hS
    refine w_loop (V := Int × (List (Point_ × Int)) × (List (List Point_)) × Nat × Nat × (List Nat)) (fun v => [(2, .ep (Wheel.cells a0)), (3, .ep [.i a1]), (6, .ep (Wheel_.cells r1.1.1)), (8, .ms v.2.2.2.1 0 1 v.2.2.2.2.1 v.2.2.2.2.1), (9, .mp (g1 + 4 + 0)), (10, .i v.1)]) (fun v m3 H' g' => St (· < g) H0 ([(g1 + 4 + 0, .obj none (mapIs (mpv kvPoint_ v.2.1)))] ++ rowsL Point_.cells 3 77 v.2.2.2.1 v.2.2.2.2.1 v.2.2.2.2.2 v.2.2.1) H' g' ∧ coins_Cheapest_l1 n a0 a1 r1 m3 v.1 v.2.1 v.2.2.1 = some r) (n := n) (0, ([] : List (Point_ × Int)), ([([(⟨(⟨0, 0⟩ : Stand), 0⟩ : Point_)] : List Point_)] : List (List Point_)), g1 + 2, 1, [g1 + 1]) (.k (.k (.k (.k (.k (.k .nil)))))) ⟨(hS.keep [true] rfl).up (by omega), hM⟩ ?_
    rintro ⟨v6, v7, v8, v9, v10, v11⟩ m3 H g3 ⟨hS, hM⟩
    obtain _ | m3 := m3
    ·exact nomatch (show none = some _ from hM)
    change wpA _ _ _ _ (Fr.of [(2, .ep (Wheel.cells a0)), (3, .ep [.i a1]), (6, .ep (Wheel_.cells r1.1.1)), (8, .ms v9 0 1 v10 v10), (9, .mp (g1 + 4 + 0)), (10, .i v6)]) _ _
    replace hS : St (· < g) H0 ([(g1 + 4 + 0, .obj none (mapIs (mpv kvPoint_ v7)))] ++ rowsL Point_.cells 3 77 v9 v10 v11 v8) H g3 := hS
    replace hM : coins_Cheapest_l1_b n a0 a1 r1 (coins_Cheapest_l1 n a0 a1 r1 m3) v6 v7 v8 = some r := hM
    refine w_join (J := (List (Point_ × Int)) × (List (List Point_)) × Nat × Nat × (List Nat)) (fun j => [(2, .ep (Wheel.cells a0)), (3, .ep [.i a1]), (6, .ep (Wheel_.cells r1.1.1)), (8, .ms j.2.2.1 0 1 j.2.2.2.1 j.2.2.2.1), (9, .mp (g1 + 4 + 0)), (10, .i v6)]) (fun j H' g' => St (· < g) H0 ([(g1 + 4 + 0, .obj none (mapIs (mpv kvPoint_ j.1)))] ++ rowsL Point_.cells 3 77 j.2.2.1 j.2.2.2.1 j.2.2.2.2 j.2.1) H' g' ∧ coins_Cheapest_j2 (coins_Cheapest_l1 n a0 a1 r1 m3) v6 j.1 j.2.1 = some r) ?_ ?_
    ·rintro ⟨v12, v13, v14, v15, v16⟩ H g4 ⟨hS, hM⟩
     change wpA _ _ _ _ (Fr.of [(2, .ep (Wheel.cells a0)), (3, .ep [.i a1]), (6, .ep (Wheel_.cells r1.1.1)), (8, .ms v14 0 1 v15 v15), (9, .mp (g1 + 4 + 0)), (10, .i v6)]) _ _
     replace hS : St (· < g) H0 ([(g1 + 4 + 0, .obj none (mapIs (mpv kvPoint_ v12)))] ++ rowsL Point_.cells 3 77 v14 v15 v16 v13) H g4 := hS
     replace hM : coins_Cheapest_j2 (coins_Cheapest_l1 n a0 a1 r1 m3) v6 v12 v13 = some r := hM
     refine Rg 3 ?_
     refine Om (.i v6) ?_
     refine Oi (.i (w64 (v6 + 1))) ?_
     refine Oa (.i (w64 (v6 + 1))) ?_
     refine Ni ?_
     exact w_round (w64 (v6 + 1), v12, v13, v14, v15, v16) (Nat.lt_succ_self _) (.k (.k (.k (.k (.k (.k .nil)))))) ⟨(hS.keep [true] rfl).up (by omega), hM⟩
    ·refine r_block ?_
     refine w_join (J := (List (List Point_)) × Nat × Nat × (List Nat)) (fun j => [(2, .ep (Wheel.cells a0)), (3, .ep [.i a1]), (6, .ep (Wheel_.cells r1.1.1)), (8, .ms j.2.1 0 1 j.2.2.1 j.2.2.1), (9, .mp (g1 + 4 + 0)), (10, .i v6)]) (fun j H' g' => St (· < g) H0 ([(g1 + 4 + 0, .obj none (mapIs (mpv kvPoint_ v7)))] ++ rowsL Point_.cells 3 77 j.2.1 j.2.2.1 j.2.2.2 j.1) H' g' ∧ coins_Cheapest_j3 n (coins_Cheapest_l1 n a0 a1 r1 m3) a0 a1 r1 v6 v7 j.1 = some r) ?_ ?_
     ·rintro ⟨v17, v18, v19, v20⟩ H g5 ⟨hS, hM⟩
      change wpA _ _ _ _ (Fr.of [(2, .ep (Wheel.cells a0)), (3, .ep [.i a1]), (6, .ep (Wheel_.cells r1.1.1)), (8, .ms v18 0 1 v19 v19), (9, .mp (g1 + 4 + 0)), (10, .i v6)]) _ _
      replace hS : St (· < g) H0 ([(g1 + 4 + 0, .obj none (mapIs (mpv kvPoint_ v7)))] ++ rowsL Point_.cells 3 77 v18 v19 v20 v17) H g5 := hS
      replace hM : coins_Cheapest_j3 n (coins_Cheapest_l1 n a0 a1 r1 m3) a0 a1 r1 v6 v7 v17 = some r := hM
      refine Sq ?_
      refine Rg 6 ?_
      refine Om (.ms v18 0 1 v19 v19) ?_
      refine Om (.i v6) ?_
      obtain ⟨x21, hx21, hM⟩ := bindE hM
      replace hS : St (· < g) H0 ([(g1 + 4 + 0, .obj none (mapIs (mpv kvPoint_ v7)))] ++ rowsL Point_.cells 3 77 v18 v19 v20 v17) _ _ := hS
      refine o_indexR (ys := v17) (z := v6) (u := x21) (by decide) hS rfl rfl ty_es79 hx21 ?_
      refine o_loadR (f := Point_.cells) (rs := v20) (ys := v17) (z := v6) (u := x21) hS (by decide) rfl hx21 .no ty_agg78 ty_sc78 ?_
      refine o_len (n := x21.length) (by decide) rfl (List.length_map _) ty_isl78 ?_
      refine Om (.i 0) ?_
      refine Ni ?_
      refine w_next [(2, .ep (Wheel.cells a0)), (3, .ep [.i a1]), (6, .ep (Wheel_.cells r1.1.1)), (8, .ms v18 0 1 v19 v19), (9, .mp (g1 + 4 + 0)), (10, .i v6), (55, .sl .no 3 (x21.map Point_.cells)), (56, .i (x21.length : Int)), (57, .i 0)] (.k (.k (.k (.k (.k (.k (.cons (.sl _ _ _) (.k (.k .nil))))))))) ?_
      refine r_block ?_
      replace hS : St (· < g) H0 ([(g1 + 4 + 0, .obj none (mapIs (mpv kvPoint_ v7)))] ++ rowsL Point_.cells 3 77 v18 v19 v20 v17) _ _ := hS
      refine w_loop (V := Int × (List (Point_ × Int)) × (List (List Point_))) (fun v => [(2, .ep (Wheel.cells a0)), (3, .ep [.i a1]), (6, .ep (Wheel_.cells r1.1.1)), (8, .ms v18 0 1 v19 v19), (9, .mp (g1 + 4 + 0)), (10, .i v6), (55, .sl .no 3 (x21.map Point_.cells)), (56, .i (x21.length : Int)), (57, .i v.1)]) (fun v m7 H' g' => St (· < g) H0 ([(g1 + 4 + 0, .obj none (mapIs (mpv kvPoint_ v.2.1)))] ++ rowsL Point_.cells 3 77 v18 v19 v20 v.2.2) H' g' ∧ coins_Cheapest_l2 n (coins_Cheapest_l1 n a0 a1 r1 m3) a0 a1 r1 v6 x21 m7 v.1 v.2.1 v.2.2 = some r) (n := n) (0, v7, v17) (.k (.k (.k (.k (.k (.k (.k (.k (.k .nil))))))))) ⟨(hS.keep [true] rfl).up (by omega), hM⟩ ?_
      rintro ⟨v23, v24, v25⟩ m7 H g7 ⟨hS, hM⟩
      obtain _ | m7 := m7
      ·exact nomatch (show none = some _ from hM)
      change wpA _ _ _ _ (Fr.of [(2, .ep (Wheel.cells a0)), (3, .ep [.i a1]), (6, .ep (Wheel_.cells r1.1.1)), (8, .ms v18 0 1 v19 v19), (9, .mp (g1 + 4 + 0)), (10, .i v6), (55, .sl .no 3 (x21.map Point_.cells)), (56, .i (x21.length : Int)), (57, .i v23)]) _ _
      replace hS : St (· < g) H0 ([(g1 + 4 + 0, .obj none (mapIs (mpv kvPoint_ v24)))] ++ rowsL Point_.cells 3 77 v18 v19 v20 v25) H g7 := hS
      replace hM : coins_Cheapest_l2_b n (coins_Cheapest_l1 n a0 a1 r1 m3) a0 a1 r1 v6 x21 (coins_Cheapest_l2 n (coins_Cheapest_l1 n a0 a1 r1 m3) a0 a1 r1 v6 x21 m7) v23 v24 v25 = some r := hM
      refine Sq ?_
      refine Rg 1 ?_
      refine Oi (.b (decide (v23 < (x21.length : Int)))) ?_
      refine Ni ?_
      refine Ws ?_
      refine Sq ?_
      rcases bft (decide (v23 < (x21.length : Int))) with hb26 | hb26
      ·replace hM := ifT hM hb26
       refine Ct hb26 ?_
       refine r_skip ?_
       refine Ws ?_
       refine w_join (J := (List (Point_ × Int)) × (List (List Point_))) (fun j => [(2, .ep (Wheel.cells a0)), (3, .ep [.i a1]), (6, .ep (Wheel_.cells r1.1.1)), (8, .ms v18 0 1 v19 v19), (9, .mp (g1 + 4 + 0)), (10, .i v6), (55, .sl .no 3 (x21.map Point_.cells)), (56, .i (x21.length : Int)), (57, .i v23)]) (fun j H' g' => St (· < g) H0 ([(g1 + 4 + 0, .obj none (mapIs (mpv kvPoint_ j.1)))] ++ rowsL Point_.cells 3 77 v18 v19 v20 j.2) H' g' ∧ coins_Cheapest_j4 (coins_Cheapest_l2 n (coins_Cheapest_l1 n a0 a1 r1 m3) a0 a1 r1 v6 x21 m7) v23 j.1 j.2 = some r) ?_ ?_
       ·rintro ⟨v27, v28⟩ H g8 ⟨hS, hM⟩
        change wpA _ _ _ _ (Fr.of [(2, .ep (Wheel.cells a0)), (3, .ep [.i a1]), (6, .ep (Wheel_.cells r1.1.1)), (8, .ms v18 0 1 v19 v19), (9, .mp (g1 + 4 + 0)), (10, .i v6), (55, .sl .no 3 (x21.map Point_.cells)), (56, .i (x21.length : Int)), (57, .i v23)]) _ _
        replace hS : St (· < g) H0 ([(g1 + 4 + 0, .obj none (mapIs (mpv kvPoint_ v27)))] ++ rowsL Point_.cells 3 77 v18 v19 v20 v28) H g8 := hS
        replace hM : coins_Cheapest_j4 (coins_Cheapest_l2 n (coins_Cheapest_l1 n a0 a1 r1 m3) a0 a1 r1 v6 x21 m7) v23 v27 v28 = some r := hM
        refine Rg 2 ?_
        refine Oi (.i (w64 (v23 + 1))) ?_
        refine Om (.i (w64 (v23 + 1))) ?_
        refine Ni ?_
        exact w_round (w64 (v23 + 1), v27, v28) (Nat.lt_succ_self _) (.k (.k (.k (.k (.k (.k (.k (.k (.k .nil))))))))) ⟨(hS.keep [true] rfl).up (by omega), hM⟩
       ·refine r_block ?_
        refine Sq ?_
        refine Rg 4 ?_
        obtain ⟨x29, hx29, hM⟩ := bindE hM
        refine o_index (xs := x21) (f := Point_.cells) (z := v23) (u := x29) (by decide) rfl rfl ty_es78 hx29 ?_
        refine Olg (.agg (Point_.cells x29)) ty_agg77 ?_
        refine o_alloc hS (by decide) ty_zero77 (by omega) fun H hS => ?_
        refine o_store (v := .agg (Point_.cells x29)) (ns := (Point_.cells x29)) (L' := ([(g7 + 1 + 2, .cells (Point_.cells x29)), (g1 + 4 + 0, .obj none (mapIs (mpv kvPoint_ v24)))] ++ rowsL Point_.cells 3 77 v18 v19 v20 v25)) 0 hS rfl rfl .no rfl rfl ty_var77 nlb rfl fun H hS => ?_
        refine Ni ?_
        refine w_iceE (L' := ([(g1 + 4 + 0, .obj none (mapIs (mpv kvPoint_ v24)))] ++ rowsL Point_.cells 3 77 v18 v19 v20 v25)) 0 12 hS rfl rfl rfl fun H hS => ?_
        refine Ws ?_
        refine Sq ?_
        refine Sq ?_
        refine Rg 4 ?_
        refine Of ((Point_.cells x29)) ty_fo77_1 ?_
        refine Olp (.i x29.bought) ty_agg3 ty_sc3 ?_
        refine Olp (.i a1) ty_agg3 ty_sc3 ?_
        refine Oi (.b (decide (x29.bought ≥ a1))) ?_
        refine Ni ?_
        refine Ws ?_
        rcases bft (decide (x29.bought ≥ a1)) with hb30 | hb30
        ·replace hM := ifT hM hb30
         refine Ct hb30 ?_
         refine Sq ?_
         refine Rg 3 ?_
         refine Om (.i v6) ?_
         refine Oa (.i v6) ?_
         refine Oa (.i 0) ?_
         refine Ni ?_
         replace hS := hS.keep (L' := ([] ++ rowsL Point_.cells 3 77 v18 v19 v20 v25)) [false] rfl
         refine Ws ?_
         refine r_ret ?_
         refine r_then_ret ?_
         refine r_blk_ret ?_
         refine w_goto_ret ?_
         refine w_round_ret ?_
         refine r_blk_ret ?_
         refine r_blk_ret ?_
         refine w_goto_ret ?_
         refine w_round_ret ?_
         refine r_blk_ret ?_
         refine w_end (x := .tup [.i v6, .i 0]) (f := fun r => .tup [.i r.1, .i r.2]) (.inr rfl) ?_ (.refl _) (Option.some.inj hM) hS
         exact (res_two (res_tmp (x := .i v6) rfl) (res_tmp (x := .i 0) rfl))
        ·replace hM := ifF hM hb30
         refine Cf hb30 ?_
         refine r_skip ?_
         refine Ws ?_
         refine Sq ?_
         refine Sq ?_
         have hS0 := hS
         refine r_draw (n := 7) rfl (by kernel_rfl) ?_
         refine Om (.mp (g1 + 4 + 0)) ?_
         refine Olg (.agg (Point_.cells x29)) ty_agg77 ?_
         obtain ⟨x31, hx31, hM⟩ := bindE hM
         refine o_lookup (kv := kvPoint_) (ok := okPoint_) (M := v24) (k := x29) (u := x31) 0 keys77 hS (by decide) rfl rfl rfl (.st hS0 0 rfl (by omega)) ty_map80 ty_mz80 hx31 ?_
         refine Oi (.i (w64 (x31 + 1))) ?_
         obtain ⟨x32, hx32, hM⟩ := bindE hM
         refine o_mapEntry (kv := kvPoint_) (ok := okPoint_) (M := v24) (k := x29) (u := x32) (L' := ([(g1 + 4 + 0, .obj none (mapIs (mpv kvPoint_ (mtouch v24 x29))))] ++ rowsL Point_.cells 3 77 v18 v19 v20 v25)) 0 keys77 hS (by decide) rfl rfl rfl (.st hS0 0 rfl (by omega)) ty_map80 ty_mz80 hx32 rfl fun H hS => ?_
         refine Ox (.i ((midx v24 x29 : Nat) : Int)) ?_
         refine o_entryStore (kv := kvPoint_) (M := v24) (k := x29) (v := (w64 (x31 + 1))) (L' := ([(g1 + 4 + 0, .obj none (mapIs (mpv kvPoint_ (mset v24 x29 (w64 (x31 + 1))))))] ++ rowsL Point_.cells 3 77 v18 v19 v20 v25)) 0 (.inr (by kernel_rfl)) hS rfl rfl rfl rfl rfl fun H hS => ?_
         refine Ni ?_
         refine Ws ?_
         refine Sq ?_
         refine Rg 4 ?_
         refine Om (.mp (g1 + 4 + 0)) ?_
         refine Olg (.agg (Point_.cells x29)) ty_agg77 ?_
         obtain ⟨x33, hx33, hM⟩ := bindE hM
         refine o_lookup (kv := kvPoint_) (ok := okPoint_) (M := (mset v24 x29 (w64 (x31 + 1)))) (k := x29) (u := x33) 0 keys77 hS (by decide) rfl rfl rfl .no ty_map80 ty_mz80 hx33 ?_
         refine Oi (.b (decide (x33 > 1))) ?_
         refine Ni ?_
         refine Ws ?_
         rcases bft (decide (x33 > 1)) with hb34 | hb34
         ·replace hM := ifT hM hb34
          refine Ct hb34 ?_
          refine r_exit ?_
          refine r_then_exit ?_
          refine r_blk_exit ?_
          exact w_goto ((mset v24 x29 (w64 (x31 + 1))), v25) (.k (.k (.k (.k (.k (.k (.k (.k (.k .nil))))))))) ⟨(hS.keep [true] rfl).up (by omega), hM⟩
         ·replace hM := ifF hM hb34
          refine Cf hb34 ?_
          refine r_skip ?_
          refine Ws ?_
          refine Sq ?_
          refine Rg 4 ?_
          refine Of ((Point_.cells x29)) ty_fo77_0 ?_
          refine Olg (.agg (Stand.cells x29.Stand)) ty_agg57 ?_
          refine o_buildSlice (es := [(Stand.cells x29.Stand)]) hS (by decide) ty_es81 ty_el81 rfl ty_ef81 rfl (by decide) (by omega) fun H hS => ?_
          refine Oa (.sl (.id (g7 + 1 + 4 + 4 + 7 + 4 + 2)) 2 (([x29.Stand] : List Stand).map Stand.cells)) ?_
          refine Ni ?_
          refine Ws ?_
          refine w_join (J := (List Stand)) (fun j => [(2, .ep (Wheel.cells a0)), (3, .ep [.i a1]), (6, .ep (Wheel_.cells r1.1.1)), (8, .ms v18 0 1 v19 v19), (9, .mp (g1 + 4 + 0)), (10, .i v6), (12, .ep (Point_.cells x29)), (13, .sl (.id (g7 + 1 + 4 + 4 + 7 + 4 + 2)) 2 (j.map Stand.cells)), (55, .sl .no 3 (x21.map Point_.cells)), (56, .i (x21.length : Int)), (57, .i v23)]) (fun j H' g' => St (· < g) H0 ([(g7 + 1 + 4 + 4 + 7 + 4 + 2, .row 57 j.length), (g1 + 4 + 0, .obj none (mapIs (mpv kvPoint_ (mset v24 x29 (w64 (x31 + 1))))))] ++ rowsL Point_.cells 3 77 v18 v19 v20 v25) H' g' ∧ coins_Cheapest_j5 n (coins_Cheapest_l2 n (coins_Cheapest_l1 n a0 a1 r1 m3) a0 a1 r1 v6 x21 m7) a0 a1 r1 v6 v23 v24 v25 x29 x31 j = some r) ?_ ?_
          ·rintro v35 H g9 ⟨hS, hM⟩
           change wpA _ _ _ _ (Fr.of [(2, .ep (Wheel.cells a0)), (3, .ep [.i a1]), (6, .ep (Wheel_.cells r1.1.1)), (8, .ms v18 0 1 v19 v19), (9, .mp (g1 + 4 + 0)), (10, .i v6), (12, .ep (Point_.cells x29)), (13, .sl (.id (g7 + 1 + 4 + 4 + 7 + 4 + 2)) 2 (v35.map Stand.cells)), (55, .sl .no 3 (x21.map Point_.cells)), (56, .i (x21.length : Int)), (57, .i v23)]) _ _
           replace hS : St (· < g) H0 ([(g7 + 1 + 4 + 4 + 7 + 4 + 2, .row 57 v35.length), (g1 + 4 + 0, .obj none (mapIs (mpv kvPoint_ (mset v24 x29 (w64 (x31 + 1))))))] ++ rowsL Point_.cells 3 77 v18 v19 v20 v25) H g9 := hS
           replace hM : coins_Cheapest_j5 n (coins_Cheapest_l2 n (coins_Cheapest_l1 n a0 a1 r1 m3) a0 a1 r1 v6 x21 m7) a0 a1 r1 v6 v23 v24 v25 x29 x31 v35 = some r := hM
           refine Sq ?_
           refine Rg 3 ?_
           refine Om (.sl (.id (g7 + 1 + 4 + 4 + 7 + 4 + 2)) 2 (v35.map Stand.cells)) ?_
           refine o_len (n := v35.length) (by decide) rfl (List.length_map _) ty_isl81 ?_
           refine Om (.i 0) ?_
           refine Ni ?_
           refine Ws ?_
           refine r_block ?_
           replace hS : St (· < g) H0 ([(g7 + 1 + 4 + 4 + 7 + 4 + 2, .row 57 v35.length), (g1 + 4 + 0, .obj none (mapIs (mpv kvPoint_ (mset v24 x29 (w64 (x31 + 1))))))] ++ rowsL Point_.cells 3 77 v18 v19 v20 v25) _ _ := hS
           refine w_loop (V := Int × (List (List Point_))) (fun v => [(2, .ep (Wheel.cells a0)), (3, .ep [.i a1]), (6, .ep (Wheel_.cells r1.1.1)), (8, .ms v18 0 1 v19 v19), (9, .mp (g1 + 4 + 0)), (10, .i v6), (12, .ep (Point_.cells x29)), (55, .sl .no 3 (x21.map Point_.cells)), (56, .i (x21.length : Int)), (57, .i v23), (96, .sl (.id (g7 + 1 + 4 + 4 + 7 + 4 + 2)) 2 (v35.map Stand.cells)), (97, .i (v35.length : Int)), (98, .i v.1)]) (fun v m11 H' g' => St (· < g) H0 ([(g7 + 1 + 4 + 4 + 7 + 4 + 2, .row 57 v35.length), (g1 + 4 + 0, .obj none (mapIs (mpv kvPoint_ (mset v24 x29 (w64 (x31 + 1))))))] ++ rowsL Point_.cells 3 77 v18 v19 v20 v.2) H' g' ∧ coins_Cheapest_l3 n (coins_Cheapest_l2 n (coins_Cheapest_l1 n a0 a1 r1 m3) a0 a1 r1 v6 x21 m7) a0 a1 r1 v6 v23 v24 x29 x31 v35 m11 v.1 v.2 = some r) (n := n) (0, v25) (.k (.k (.k (.k (.k (.k (.k (.k (.k (.k (.k (.k (.k .nil))))))))))))) ⟨(hS.keep [true, true] rfl).up (by omega), hM⟩ ?_
           rintro ⟨v37, v38⟩ m11 H g11 ⟨hS, hM⟩
           obtain _ | m11 := m11
           ·exact nomatch (show none = some _ from hM)
           change wpA _ _ _ _ (Fr.of [(2, .ep (Wheel.cells a0)), (3, .ep [.i a1]), (6, .ep (Wheel_.cells r1.1.1)), (8, .ms v18 0 1 v19 v19), (9, .mp (g1 + 4 + 0)), (10, .i v6), (12, .ep (Point_.cells x29)), (55, .sl .no 3 (x21.map Point_.cells)), (56, .i (x21.length : Int)), (57, .i v23), (96, .sl (.id (g7 + 1 + 4 + 4 + 7 + 4 + 2)) 2 (v35.map Stand.cells)), (97, .i (v35.length : Int)), (98, .i v37)]) _ _
           replace hS : St (· < g) H0 ([(g7 + 1 + 4 + 4 + 7 + 4 + 2, .row 57 v35.length), (g1 + 4 + 0, .obj none (mapIs (mpv kvPoint_ (mset v24 x29 (w64 (x31 + 1))))))] ++ rowsL Point_.cells 3 77 v18 v19 v20 v38) H g11 := hS
           replace hM : coins_Cheapest_l3_b n (coins_Cheapest_l2 n (coins_Cheapest_l1 n a0 a1 r1 m3) a0 a1 r1 v6 x21 m7) a0 a1 r1 v6 v23 v24 x29 x31 v35 (coins_Cheapest_l3 n (coins_Cheapest_l2 n (coins_Cheapest_l1 n a0 a1 r1 m3) a0 a1 r1 v6 x21 m7) a0 a1 r1 v6 v23 v24 x29 x31 v35 m11) v37 v38 = some r := hM
           refine Sq ?_
           refine Rg 1 ?_
           refine Oi (.b (decide (v37 < (v35.length : Int)))) ?_
           refine Ni ?_
           refine Ws ?_
           refine Sq ?_
           rcases bft (decide (v37 < (v35.length : Int))) with hb39 | hb39
           ·replace hM := ifT hM hb39
            refine Ct hb39 ?_
            refine r_skip ?_
            refine Ws ?_
            refine w_join (J := (List (List Point_))) (fun j => [(2, .ep (Wheel.cells a0)), (3, .ep [.i a1]), (6, .ep (Wheel_.cells r1.1.1)), (8, .ms v18 0 1 v19 v19), (9, .mp (g1 + 4 + 0)), (10, .i v6), (12, .ep (Point_.cells x29)), (55, .sl .no 3 (x21.map Point_.cells)), (56, .i (x21.length : Int)), (57, .i v23), (96, .sl (.id (g7 + 1 + 4 + 4 + 7 + 4 + 2)) 2 (v35.map Stand.cells)), (97, .i (v35.length : Int)), (98, .i v37)]) (fun j H' g' => St (· < g) H0 ([(g7 + 1 + 4 + 4 + 7 + 4 + 2, .row 57 v35.length), (g1 + 4 + 0, .obj none (mapIs (mpv kvPoint_ (mset v24 x29 (w64 (x31 + 1))))))] ++ rowsL Point_.cells 3 77 v18 v19 v20 j) H' g' ∧ coins_Cheapest_j6 (coins_Cheapest_l3 n (coins_Cheapest_l2 n (coins_Cheapest_l1 n a0 a1 r1 m3) a0 a1 r1 v6 x21 m7) a0 a1 r1 v6 v23 v24 x29 x31 v35 m11) v37 j = some r) ?_ ?_
            ·rintro v40 H g12 ⟨hS, hM⟩
             change wpA _ _ _ _ (Fr.of [(2, .ep (Wheel.cells a0)), (3, .ep [.i a1]), (6, .ep (Wheel_.cells r1.1.1)), (8, .ms v18 0 1 v19 v19), (9, .mp (g1 + 4 + 0)), (10, .i v6), (12, .ep (Point_.cells x29)), (55, .sl .no 3 (x21.map Point_.cells)), (56, .i (x21.length : Int)), (57, .i v23), (96, .sl (.id (g7 + 1 + 4 + 4 + 7 + 4 + 2)) 2 (v35.map Stand.cells)), (97, .i (v35.length : Int)), (98, .i v37)]) _ _
             replace hS : St (· < g) H0 ([(g7 + 1 + 4 + 4 + 7 + 4 + 2, .row 57 v35.length), (g1 + 4 + 0, .obj none (mapIs (mpv kvPoint_ (mset v24 x29 (w64 (x31 + 1))))))] ++ rowsL Point_.cells 3 77 v18 v19 v20 v40) H g12 := hS
             replace hM : coins_Cheapest_j6 (coins_Cheapest_l3 n (coins_Cheapest_l2 n (coins_Cheapest_l1 n a0 a1 r1 m3) a0 a1 r1 v6 x21 m7) a0 a1 r1 v6 v23 v24 x29 x31 v35 m11) v37 v40 = some r := hM
             refine Rg 2 ?_
             refine Oi (.i (w64 (v37 + 1))) ?_
             refine Om (.i (w64 (v37 + 1))) ?_
             refine Ni ?_
             exact w_round (w64 (v37 + 1), v40) (Nat.lt_succ_self _) (.k (.k (.k (.k (.k (.k (.k (.k (.k (.k (.k (.k (.k .nil))))))))))))) ⟨(hS.keep [true, true] rfl).up (by omega), hM⟩
            ·refine r_block ?_
             refine Sq ?_
             refine Rg 4 ?_
             obtain ⟨x41, hx41, hM⟩ := bindE hM
             refine o_index (xs := v35) (f := Stand.cells) (z := v37) (u := x41) (by decide) rfl rfl ty_es81 hx41 ?_
             refine Olg (.agg (Stand.cells x41)) ty_agg57 ?_
             refine o_alloc hS (by decide) ty_zero57 (by omega) fun H hS => ?_
             refine o_store (v := .agg (Stand.cells x41)) (ns := (Stand.cells x41)) (L' := ([(g11 + 1 + 2, .cells (Stand.cells x41)), (g7 + 1 + 4 + 4 + 7 + 4 + 2, .row 57 v35.length), (g1 + 4 + 0, .obj none (mapIs (mpv kvPoint_ (mset v24 x29 (w64 (x31 + 1))))))] ++ rowsL Point_.cells 3 77 v18 v19 v20 v38)) 0 hS rfl rfl .no rfl rfl ty_var57 nlb rfl fun H hS => ?_
             refine Ni ?_
             refine w_iceE (L' := ([(g7 + 1 + 4 + 4 + 7 + 4 + 2, .row 57 v35.length), (g1 + 4 + 0, .obj none (mapIs (mpv kvPoint_ (mset v24 x29 (w64 (x31 + 1))))))] ++ rowsL Point_.cells 3 77 v18 v19 v20 v38)) 0 15 hS rfl rfl rfl fun H hS => ?_
             refine Ws ?_
             refine Sq ?_
             refine Rg 4 ?_
             refine Of ((Wheel.cells a0)) ty_fo24_2 ?_
             refine Olp (.sl .no 1 (a0.Coins.map cI)) ty_agg22 ty_sc22 ?_
             refine o_len (n := a0.Coins.length) (by decide) rfl (List.length_map _) ty_isl22 ?_
             refine Om (.i 0) ?_
             refine Ni ?_
             refine Ws ?_
             refine r_block ?_
             replace hS : St (· < g) H0 ([(g7 + 1 + 4 + 4 + 7 + 4 + 2, .row 57 v35.length), (g1 + 4 + 0, .obj none (mapIs (mpv kvPoint_ (mset v24 x29 (w64 (x31 + 1))))))] ++ rowsL Point_.cells 3 77 v18 v19 v20 v38) _ _ := hS
             refine w_loop (V := Int × (List (List Point_))) (fun v => [(2, .ep (Wheel.cells a0)), (3, .ep [.i a1]), (6, .ep (Wheel_.cells r1.1.1)), (8, .ms v18 0 1 v19 v19), (9, .mp (g1 + 4 + 0)), (10, .i v6), (12, .ep (Point_.cells x29)), (15, .ep (Stand.cells x41)), (55, .sl .no 3 (x21.map Point_.cells)), (56, .i (x21.length : Int)), (57, .i v23), (96, .sl (.id (g7 + 1 + 4 + 4 + 7 + 4 + 2)) 2 (v35.map Stand.cells)), (97, .i (v35.length : Int)), (98, .i v37), (103, .sl .no 1 (a0.Coins.map cI)), (104, .i (a0.Coins.length : Int)), (105, .i v.1)]) (fun v m14 H' g' => St (· < g) H0 ([(g7 + 1 + 4 + 4 + 7 + 4 + 2, .row 57 v35.length), (g1 + 4 + 0, .obj none (mapIs (mpv kvPoint_ (mset v24 x29 (w64 (x31 + 1))))))] ++ rowsL Point_.cells 3 77 v18 v19 v20 v.2) H' g' ∧ coins_Cheapest_l4 n (coins_Cheapest_l3 n (coins_Cheapest_l2 n (coins_Cheapest_l1 n a0 a1 r1 m3) a0 a1 r1 v6 x21 m7) a0 a1 r1 v6 v23 v24 x29 x31 v35 m11) a0 a1 r1 v6 x29 v37 x41 m14 v.1 v.2 = some r) (n := n) (0, v38) (.k (.k (.k (.k (.k (.k (.k (.k (.k (.k (.k (.k (.k (.k (.k (.k (.k .nil))))))))))))))))) ⟨(hS.keep [true, true] rfl).up (by omega), hM⟩ ?_
             rintro ⟨v43, v44⟩ m14 H g14 ⟨hS, hM⟩
             obtain _ | m14 := m14
             ·exact nomatch (show none = some _ from hM)
             change wpA _ _ _ _ (Fr.of [(2, .ep (Wheel.cells a0)), (3, .ep [.i a1]), (6, .ep (Wheel_.cells r1.1.1)), (8, .ms v18 0 1 v19 v19), (9, .mp (g1 + 4 + 0)), (10, .i v6), (12, .ep (Point_.cells x29)), (15, .ep (Stand.cells x41)), (55, .sl .no 3 (x21.map Point_.cells)), (56, .i (x21.length : Int)), (57, .i v23), (96, .sl (.id (g7 + 1 + 4 + 4 + 7 + 4 + 2)) 2 (v35.map Stand.cells)), (97, .i (v35.length : Int)), (98, .i v37), (103, .sl .no 1 (a0.Coins.map cI)), (104, .i (a0.Coins.length : Int)), (105, .i v43)]) _ _
             replace hS : St (· < g) H0 ([(g7 + 1 + 4 + 4 + 7 + 4 + 2, .row 57 v35.length), (g1 + 4 + 0, .obj none (mapIs (mpv kvPoint_ (mset v24 x29 (w64 (x31 + 1))))))] ++ rowsL Point_.cells 3 77 v18 v19 v20 v44) H g14 := hS
             replace hM : coins_Cheapest_l4_b n (coins_Cheapest_l3 n (coins_Cheapest_l2 n (coins_Cheapest_l1 n a0 a1 r1 m3) a0 a1 r1 v6 x21 m7) a0 a1 r1 v6 v23 v24 x29 x31 v35 m11) a0 a1 r1 v6 x29 v37 x41 (coins_Cheapest_l4 n (coins_Cheapest_l3 n (coins_Cheapest_l2 n (coins_Cheapest_l1 n a0 a1 r1 m3) a0 a1 r1 v6 x21 m7) a0 a1 r1 v6 v23 v24 x29 x31 v35 m11) a0 a1 r1 v6 x29 v37 x41 m14) v43 v44 = some r := hM
             refine Sq ?_
             refine Rg 1 ?_
             refine Oi (.b (decide (v43 < (a0.Coins.length : Int)))) ?_
             refine Ni ?_
             refine Ws ?_
             refine Sq ?_
             rcases bft (decide (v43 < (a0.Coins.length : Int))) with hb45 | hb45
             ·replace hM := ifT hM hb45
              refine Ct hb45 ?_
              refine r_skip ?_
              refine Ws ?_
              refine Sq ?_
              refine r_block ?_
              refine Sq ?_
              refine Rg 5 ?_
              refine Om (.i v43) ?_
              obtain ⟨x46, hx46, hM⟩ := bindE hM
              refine o_index (xs := a0.Coins) (f := cI) (z := v43) (u := x46) (by decide) rfl rfl ty_es22 hx46 ?_
              refine Olp (.i x46) ty_agg3 ty_sc3 ?_
              refine Oa (.i v43) ?_
              refine Oa (.i x46) ?_
              refine Ni ?_
              refine Ws ?_
              refine Sq ?_
              have hS0 := hS
              refine r_draw (n := 9) rfl (by kernel_rfl) ?_
              refine Olg (.agg (Wheel_.cells r1.1.1)) ty_agg71 ?_
              refine Olg (.agg (Stand.cells x41)) ty_agg57 ?_
              refine Om (.i v43) ?_
              obtain ⟨r47, hr47, hM⟩ := bindE hM
              refine o_call (bs := [.agg (Wheel_.cells r1.1.1), .agg (Stand.cells x41), .i v43]) (by decide) rfl rfl ((W_coins_wheel_act hr47).le (.k (.k (.k .nil)))) ?_
              refine Of ((Point_.cells x29)) ty_fo77_1 ?_
              refine Olp (.i x29.bought) ty_agg3 ty_sc3 ?_
              refine o_build (cs := [.i r47.Place, .i r47.Credit, .i x29.bought]) (by decide) ty_zero77 ty_pl77 rfl ?_
              refine o_alloc hS (by decide) ty_zero77 (by omega) fun H hS => ?_
              refine o_store (v := .agg [.i r47.Place, .i r47.Credit, .i x29.bought]) (ns := [.i r47.Place, .i r47.Credit, .i x29.bought]) (L' := ([(g14 + 1 + 5 + 7, .cells [.i r47.Place, .i r47.Credit, .i x29.bought]), (g7 + 1 + 4 + 4 + 7 + 4 + 2, .row 57 v35.length), (g1 + 4 + 0, .obj none (mapIs (mpv kvPoint_ (mset v24 x29 (w64 (x31 + 1))))))] ++ rowsL Point_.cells 3 77 v18 v19 v20 v44)) 0 hS rfl rfl (.behind (by kernel_rfl)) rfl rfl ty_var77 nlb rfl fun H hS => ?_
              refine Ni ?_
              refine Ws ?_
              refine Sq ?_
              refine Rg 11 ?_
              refine o_fieldP (by decide) ty_fo77_1 rfl ?_
              refine o_load (v := .i x29.bought) 0 hS (by decide) rfl rfl .no (po ty_agg3 ty_sc3) ?_
              refine o_fieldP (by decide) ty_fo77_0 rfl ?_
              refine o_fieldP (by decide) ty_fo57_1 rfl ?_
              refine o_load (v := .i r47.Credit) 0 hS (by decide) rfl rfl .no (po ty_agg3 ty_sc3) ?_
              refine Of ((Stand.cells x41)) ty_fo57_1 ?_
              refine Olp (.i x41.Credit) ty_agg3 ty_sc3 ?_
              refine Oi (.i (w64 (r47.Credit - x41.Credit))) ?_
              refine Oi (.i (w64 (x29.bought + (w64 (r47.Credit - x41.Credit))))) ?_
              refine o_fieldP (by decide) ty_fo77_1 rfl ?_
              refine o_store (v := .i (w64 (x29.bought + (w64 (r47.Credit - x41.Credit))))) (ns := [.i (w64 (x29.bought + (w64 (r47.Credit - x41.Credit))))]) (L' := ([(g14 + 1 + 5 + 7, .cells [.i r47.Place, .i r47.Credit, .i (w64 (x29.bought + (w64 (r47.Credit - x41.Credit))))]), (g7 + 1 + 4 + 4 + 7 + 4 + 2, .row 57 v35.length), (g1 + 4 + 0, .obj none (mapIs (mpv kvPoint_ (mset v24 x29 (w64 (x31 + 1))))))] ++ rowsL Point_.cells 3 77 v18 v19 v20 v44)) 0 hS rfl rfl .no rfl rfl ty_var3 nlb rfl fun H hS => ?_
              refine Ni ?_
              refine Ws ?_
              refine Sq ?_
              refine Rg 8 ?_
              refine o_fieldP (by decide) ty_fo77_0 rfl ?_
              refine o_fieldP (by decide) ty_fo57_1 rfl ?_
              refine o_load (v := .i r47.Credit) 0 hS (by decide) rfl rfl .no (po ty_agg3 ty_sc3) ?_
              refine Olp (.i a1) ty_agg3 ty_sc3 ?_
              refine o_min (v := .i (min r47.Credit a1)) (by decide) rfl ?_
              refine o_fieldP (by decide) ty_fo77_0 rfl ?_
              refine o_fieldP (by decide) ty_fo57_1 rfl ?_
              refine o_store (v := .i (min r47.Credit a1)) (ns := [.i (min r47.Credit a1)]) (L' := ([(g14 + 1 + 5 + 7, .cells [.i r47.Place, .i (min r47.Credit a1), .i (w64 (x29.bought + (w64 (r47.Credit - x41.Credit))))]), (g7 + 1 + 4 + 4 + 7 + 4 + 2, .row 57 v35.length), (g1 + 4 + 0, .obj none (mapIs (mpv kvPoint_ (mset v24 x29 (w64 (x31 + 1))))))] ++ rowsL Point_.cells 3 77 v18 v19 v20 v44)) 0 hS rfl rfl .no rfl rfl ty_var3 nlb rfl fun H hS => ?_
              refine Ni ?_
              refine Ws ?_
              have hS0 := hS
              refine r_draw (n := 15) rfl (by kernel_rfl) ?_
              refine Om (.ms v18 0 1 v19 v19) ?_
              refine Om (.i v6) ?_
              refine Om (.i x46) ?_
              refine Oi (.i (w64 (v6 + x46))) ?_
              refine Om (.ms v18 0 1 v19 v19) ?_
              refine Om (.i v6) ?_
              refine Om (.i x46) ?_
              refine Oi (.i (w64 (v6 + x46))) ?_
              obtain ⟨x48, hx48, hM⟩ := bindE hM
              replace hS : St (· < g) H0 ([(g14 + 1 + 5 + 7, .cells [.i r47.Place, .i (min r47.Credit a1), .i (w64 (x29.bought + (w64 (r47.Credit - x41.Credit))))]), (g7 + 1 + 4 + 4 + 7 + 4 + 2, .row 57 v35.length), (g1 + 4 + 0, .obj none (mapIs (mpv kvPoint_ (mset v24 x29 (w64 (x31 + 1))))))] ++ rowsL Point_.cells 3 77 v18 v19 v20 v44) _ _ := hS
              refine o_indexR (ys := v44) (z := (w64 (v6 + x46))) (u := x48) (by decide) hS rfl rfl ty_es79 hx48 ?_
              refine o_loadR (f := Point_.cells) (rs := v20) (ys := v44) (z := (w64 (v6 + x46))) (u := x48) hS (by decide) rfl hx48 (.rr hS0 (by omega)) ty_agg78 ty_sc78 ?_
              refine o_load (v := .agg [.i r47.Place, .i (min r47.Credit a1), .i (w64 (x29.bought + (w64 (r47.Credit - x41.Credit))))]) 0 hS (by decide) rfl rfl (.st hS0 0 rfl (by omega)) (pg ty_agg77) ?_
              refine o_buildSlice (es := [[.i r47.Place, .i (min r47.Credit a1), .i (w64 (x29.bought + (w64 (r47.Credit - x41.Credit))))]]) hS (by decide) ty_es78 ty_el78 rfl ty_ef78 rfl (by decide) (by omega) fun H hS => ?_
              obtain ⟨l49, hl49, hM⟩ := bindE hM
              replace hS : St (· < g) H0 ([(g14 + 1 + 5 + 9 + 11 + 8 + 11, .row 77 1), (g14 + 1 + 5 + 7, .cells [.i r47.Place, .i (min r47.Credit a1), .i (w64 (x29.bought + (w64 (r47.Credit - x41.Credit))))]), (g7 + 1 + 4 + 4 + 7 + 4 + 2, .row 57 v35.length), (g1 + 4 + 0, .obj none (mapIs (mpv kvPoint_ (mset v24 x29 (w64 (x31 + 1))))))] ++ rowsL Point_.cells 3 77 v18 v19 v20 v44) _ _ := hS
              refine o_appendR (f := Point_.cells) (rs := v20) (ys := v44) (z := (w64 (v6 + x46))) (u := x48) (w := ([(⟨(⟨r47.Place, (min r47.Credit a1)⟩ : Stand), w64 (x29.bought + (w64 (r47.Credit - x41.Credit)))⟩ : Point_)] : List Point_)) (u' := l49) hS (by decide) rfl rfl hx48 (.rw_ hS0 hx48 (by omega)) ty_es78 ty_el78 ty_ef78 hl49 fun H hS => ?_
              obtain ⟨x50, hx50, hM⟩ := bindE hM
              refine o_indexA_ (ys := v44) (z := (w64 (v6 + x46))) (u := x50) (by decide) hS rfl rfl ty_es79 hx50 ?_
              refine o_storeR (f := Point_.cells) (rs := v20) (ys := v44) (z := (w64 (v6 + x46))) (u := x50) (u' := l49) hS rfl hx50 (.rr hS0 (by omega)) rfl ty_var78 fun H hS => ?_
              refine Ni ?_
              refine r_blk_normal ?_
              replace hS := hS.keep (L' := ([(g7 + 1 + 4 + 4 + 7 + 4 + 2, .row 57 v35.length), (g1 + 4 + 0, .obj none (mapIs (mpv kvPoint_ (mset v24 x29 (w64 (x31 + 1))))))] ++ rowsL Point_.cells 3 77 v18 v19 v20 (v44.set (Int.toNat (w64 (v6 + x46))) l49))) [false, false, true, true] rfl
              refine Ws ?_
              refine Rg 2 ?_
              refine Oi (.i (w64 (v43 + 1))) ?_
              refine Om (.i (w64 (v43 + 1))) ?_
              refine Ni ?_
              exact w_round (w64 (v43 + 1), (v44.set (Int.toNat (w64 (v6 + x46))) l49)) (Nat.lt_succ_self _) (.k (.k (.k (.k (.k (.k (.k (.k (.k (.k (.k (.k (.k (.k (.k (.k (.k .nil))))))))))))))))) ⟨(hS.keep [true, true] rfl).up (by omega), hM⟩
             ·replace hM := ifF hM hb45
              refine Cf hb45 ?_
              refine r_exit ?_
              refine r_then_exit ?_
              refine w_round_exit ?_
              refine r_blk_exit ?_
              refine r_blk_normal ?_
              exact w_goto v44 (.k (.k (.k (.k (.k (.k (.k (.k (.k (.k (.k (.k (.k .nil))))))))))))) ⟨(hS.keep [true, true] rfl).up (by omega), hM⟩
           ·replace hM := ifF hM hb39
            refine Cf hb39 ?_
            refine r_exit ?_
            refine r_then_exit ?_
            refine w_round_exit ?_
            refine r_blk_exit ?_
            refine r_blk_normal ?_
            exact w_goto ((mset v24 x29 (w64 (x31 + 1))), v38) (.k (.k (.k (.k (.k (.k (.k (.k (.k .nil))))))))) ⟨(hS.keep [false, true] rfl).up (by omega), hM⟩
          ·refine w_join (J := Bool) (fun j => [(2, .ep (Wheel.cells a0)), (3, .ep [.i a1]), (6, .ep (Wheel_.cells r1.1.1)), (8, .ms v18 0 1 v19 v19), (9, .mp (g1 + 4 + 0)), (10, .i v6), (12, .ep (Point_.cells x29)), (13, .sl (.id (g7 + 1 + 4 + 4 + 7 + 4 + 2)) 2 (([x29.Stand] : List Stand).map Stand.cells)), (55, .sl .no 3 (x21.map Point_.cells)), (56, .i (x21.length : Int)), (57, .i v23), (88, .b j)]) (fun j H' g' => St (· < g) H0 ([(g7 + 1 + 4 + 4 + 7 + 4 + 2, .row 57 ([x29.Stand] : List Stand).length), (g1 + 4 + 0, .obj none (mapIs (mpv kvPoint_ (mset v24 x29 (w64 (x31 + 1))))))] ++ rowsL Point_.cells 3 77 v18 v19 v20 v25) H' g' ∧ coins_Cheapest_j7 n (coins_Cheapest_l2 n (coins_Cheapest_l1 n a0 a1 r1 m3) a0 a1 r1 v6 x21 m7) a0 a1 r1 v6 v23 v24 v25 x29 x31 j = some r) ?_ ?_
           ·rintro v51 H g15 ⟨hS, hM⟩
            change wpA _ _ _ _ (Fr.of [(2, .ep (Wheel.cells a0)), (3, .ep [.i a1]), (6, .ep (Wheel_.cells r1.1.1)), (8, .ms v18 0 1 v19 v19), (9, .mp (g1 + 4 + 0)), (10, .i v6), (12, .ep (Point_.cells x29)), (13, .sl (.id (g7 + 1 + 4 + 4 + 7 + 4 + 2)) 2 (([x29.Stand] : List Stand).map Stand.cells)), (55, .sl .no 3 (x21.map Point_.cells)), (56, .i (x21.length : Int)), (57, .i v23), (88, .b v51)]) _ _
            replace hS : St (· < g) H0 ([(g7 + 1 + 4 + 4 + 7 + 4 + 2, .row 57 ([x29.Stand] : List Stand).length), (g1 + 4 + 0, .obj none (mapIs (mpv kvPoint_ (mset v24 x29 (w64 (x31 + 1))))))] ++ rowsL Point_.cells 3 77 v18 v19 v20 v25) H g15 := hS
            replace hM : coins_Cheapest_j7 n (coins_Cheapest_l2 n (coins_Cheapest_l1 n a0 a1 r1 m3) a0 a1 r1 v6 x21 m7) a0 a1 r1 v6 v23 v24 v25 x29 x31 v51 = some r := hM
            rcases bft v51 with hb52 | hb52
            ·replace hM := ifT hM hb52
             refine Ct hb52 ?_
             refine Rg 8 ?_
             refine Om (.sl (.id (g7 + 1 + 4 + 4 + 7 + 4 + 2)) 2 (([x29.Stand] : List Stand).map Stand.cells)) ?_
             refine Olg (.agg (Wheel_.cells r1.1.1)) ty_agg71 ?_
             refine Of ((Point_.cells x29)) ty_fo77_0 ?_
             refine Olg (.agg (Stand.cells x29.Stand)) ty_agg57 ?_
             obtain ⟨r53, hr53, hM⟩ := bindE hM
             refine o_call (bs := [.agg (Wheel_.cells r1.1.1), .agg (Stand.cells x29.Stand), .i (-1)]) (by decide) rfl rfl ((W_coins_wheel_act hr53).le (.k (.k (.k .nil)))) ?_
             refine o_buildSlice (es := [(Stand.cells r53)]) hS (by decide) ty_es81 ty_el81 rfl ty_ef81 rfl (by decide) (by omega) fun H hS => ?_
             obtain ⟨l54, hl54, hM⟩ := bindE hM
             refine o_append (xs := ([x29.Stand] : List Stand)) (ys := ([r53] : List Stand)) (zs := l54) (f := Stand.cells) (L' := ([(g15 + 5, .row 57 1), (g7 + 1 + 4 + 4 + 7 + 4 + 2, .row 57 l54.length), (g1 + 4 + 0, .obj none (mapIs (mpv kvPoint_ (mset v24 x29 (w64 (x31 + 1))))))] ++ rowsL Point_.cells 3 77 v18 v19 v20 v25)) 1 hS (by decide) rfl rfl rfl rfl .no ty_es81 ty_el81 ty_ef81 hl54 rfl fun H hS => ?_
             refine Oa (.sl (.id (g7 + 1 + 4 + 4 + 7 + 4 + 2)) 2 (l54.map Stand.cells)) ?_
             refine Ni ?_
             exact w_goto l54 (.k (.k (.k (.k (.k (.k (.k (.k (.k (.k (.k .nil))))))))))) ⟨(hS.keep [false, true, true] rfl).up (by omega), hM⟩
            ·replace hM := ifF hM hb52
             refine Cf hb52 ?_
             refine r_skip ?_
             exact w_goto ([x29.Stand] : List Stand) (.k (.k (.k (.k (.k (.k (.k (.k (.k (.k (.k .nil))))))))))) ⟨(hS.keep [true, true] rfl).up (by omega), hM⟩
           ·refine Rg 10 ?_
            refine Of ((Point_.cells x29)) ty_fo77_0 ?_
            refine Of ((Point_.cells x29)) ty_fo57_1 ?_
            refine Olp (.i x29.Stand.Credit) ty_agg3 ty_sc3 ?_
            refine Oi (.b (decide (x29.Stand.Credit > 0))) ?_
            refine Om (.b (decide (x29.Stand.Credit > 0))) ?_
            rcases bft (decide (x29.Stand.Credit > 0)) with hb55 | hb55
            ·replace hM := ifT hM hb55
             refine Oy (want := true) hb55 ?_
             refine Of ((Point_.cells x29)) ty_fo77_0 ?_
             refine Oy (want := true) hb55 ?_
             refine Of ((Point_.cells x29)) ty_fo57_0 ?_
             refine Oy (want := true) hb55 ?_
             refine Olp (.i x29.Stand.Place) ty_agg3 ty_sc3 ?_
             refine Oy (want := true) hb55 ?_
             refine Oi (.b (decide (x29.Stand.Place > 0))) ?_
             refine Pt (.b (decide (x29.Stand.Place > 0))) hb55 ?_
             refine Ni ?_
             exact w_goto (decide (x29.Stand.Place > 0)) (.k (.k (.k (.k (.k (.k (.k (.k (.k (.k (.k (.k .nil)))))))))))) ⟨(hS.keep [true, true] rfl).up (by omega), hM⟩
            ·replace hM := ifF hM hb55
             refine On (want := true) hb55 ?_
             refine On (want := true) hb55 ?_
             refine On (want := true) hb55 ?_
             refine On (want := true) hb55 ?_
             refine Pf (.b false) hb55 ?_
             refine Ni ?_
             exact w_goto false (.k (.k (.k (.k (.k (.k (.k (.k (.k (.k (.k (.k .nil)))))))))))) ⟨(hS.keep [true, true] rfl).up (by omega), hM⟩
      ·replace hM := ifF hM hb26
       refine Cf hb26 ?_
       refine r_exit ?_
       refine r_then_exit ?_
       refine w_round_exit ?_
       refine r_blk_exit ?_
       refine r_blk_normal ?_
       exact w_goto (v24, v25, v18, v19, v20) (.k (.k (.k (.k (.k (.k .nil)))))) ⟨(hS.keep [true] rfl).up (by omega), hM⟩
     ·refine r_block ?_
      replace hS : St (· < g) H0 ([(g1 + 4 + 0, .obj none (mapIs (mpv kvPoint_ v7)))] ++ rowsL Point_.cells 3 77 v9 v10 v11 v8) _ _ := hS
      refine w_loop (V := (List (List Point_)) × Nat × Nat × (List Nat)) (fun v => [(2, .ep (Wheel.cells a0)), (3, .ep [.i a1]), (6, .ep (Wheel_.cells r1.1.1)), (8, .ms v.2.1 0 1 v.2.2.1 v.2.2.1), (9, .mp (g1 + 4 + 0)), (10, .i v6)]) (fun v m17 H' g' => St (· < g) H0 ([(g1 + 4 + 0, .obj none (mapIs (mpv kvPoint_ v7)))] ++ rowsP Point_.cells 3 77 v.2.1 v.2.2.1 v.2.2.2 v.1) H' g' ∧ coins_Cheapest_l5 n (coins_Cheapest_l1 n a0 a1 r1 m3) a0 a1 r1 v6 v7 m17 v.1 = some r) (n := n) (v8, v9, v10, v11) (.k (.k (.k (.k (.k (.k .nil)))))) ⟨(hS.toP.keep [true] rfl).up (by omega), hM⟩ ?_
      rintro ⟨v56, v57, v58, v59⟩ m17 H g17 ⟨hS, hM⟩
      obtain _ | m17 := m17
      ·exact nomatch (show none = some _ from hM)
      change wpA _ _ _ _ (Fr.of [(2, .ep (Wheel.cells a0)), (3, .ep [.i a1]), (6, .ep (Wheel_.cells r1.1.1)), (8, .ms v57 0 1 v58 v58), (9, .mp (g1 + 4 + 0)), (10, .i v6)]) _ _
      replace hS : St (· < g) H0 ([(g1 + 4 + 0, .obj none (mapIs (mpv kvPoint_ v7)))] ++ rowsP Point_.cells 3 77 v57 v58 v59 v56) H g17 := hS
      replace hM : coins_Cheapest_l5_b n (coins_Cheapest_l1 n a0 a1 r1 m3) a0 a1 r1 v6 v7 (coins_Cheapest_l5 n (coins_Cheapest_l1 n a0 a1 r1 m3) a0 a1 r1 v6 v7 m17) v56 = some r := hM
      refine Sq ?_
      refine Sq ?_
      refine Rg 5 ?_
      refine Om (.ms v57 0 1 v58 v58) ?_
      replace hS : St (· < g) H0 ([(g1 + 4 + 0, .obj none (mapIs (mpv kvPoint_ v7)))] ++ rowsP Point_.cells 3 77 v57 v58 v59 v56) _ _ := hS
      refine o_lenR (n := v56.length) (by decide) rfl hS.lenP ty_isl79 ?_
      refine Om (.i v6) ?_
      refine Oi (.i (w64 (v6 + 100))) ?_
      refine Oi (.b (decide ((v56.length : Int) ≤ (w64 (v6 + 100))))) ?_
      refine Ni ?_
      replace hS : St (· < g) H0 ([(g1 + 4 + 0, .obj none (mapIs (mpv kvPoint_ v7)))] ++ rowsP Point_.cells 3 77 v57 v58 v59 v56) _ _ := hS
      refine w_ownR hS (by omega) (by decide) fun v60 H hS => ?_
      refine Ws ?_
      rcases bft (decide ((v56.length : Int) ≤ (w64 (v6 + 100)))) with hb61 | hb61
      ·replace hM := ifT hM hb61
       refine Ct hb61 ?_
       refine r_skip ?_
       refine Ws ?_
       refine r_block ?_
       refine Rg 4 ?_
       refine Om (.ms v57 0 1 v58 v58) ?_
       refine o_buildSlice (es := [[.sl .nil 0 []]]) hS (by decide) ty_es79 ty_el79 rfl ty_ef79 rfl (by decide) (by omega) fun H hS => ?_
       obtain ⟨l62, hl62, hM⟩ := bindE hM
       replace hS : St (· < g) H0 ([(g17 + 5 + 1 + 1, .row 78 1), (g1 + 4 + 0, .obj none (mapIs (mpv kvPoint_ v7)))] ++ rowsL Point_.cells 3 77 v57 v58 v60 v56) _ _ := hS
       refine o_growR (f := Point_.cells) (rs := v60) (ys := v56) (ys' := l62) hS (by decide) rfl rfl ty_es79 ty_ef79 hl62 (by omega) fun H hS => ?_
       refine Oa (.ms (g17 + 5 + 1 + 2) 0 1 l62.length l62.length) ?_
       refine Ni ?_
       refine r_blk_normal ?_
       exact w_round (l62, g17 + 5 + 1 + 2, l62.length, v60) (Nat.lt_succ_self _) (.k (.k (.k (.k (.k (.k .nil)))))) ⟨(hS.keep [false, true] rfl).up (by omega), hM⟩
      ·replace hM := ifF hM hb61
       refine Cf hb61 ?_
       refine r_exit ?_
       refine r_then_exit ?_
       refine w_round_exit ?_
       refine r_blk_exit ?_
       exact w_goto (v56, v57, v58, v60) (.k (.k (.k (.k (.k (.k .nil)))))) ⟨(hS.keep [true] rfl).up (by omega), hM⟩
  ·refine Rg 10 ?_
   refine Of ((Wheel.cells a0)) ty_fo24_2 ?_
   refine Olp (.sl .no 1 (a0.Coins.map cI)) ty_agg22 ty_sc22 ?_
   refine o_len (n := a0.Coins.length) (by decide) rfl (List.length_map _) ty_isl22 ?_
   refine Oi (.b ((a0.Coins.length : Int) == 0)) ?_
   refine Om (.b ((a0.Coins.length : Int) == 0)) ?_
   rcases bft ((a0.Coins.length : Int) == 0) with hb63 | hb63
   ·replace hM := ifT hM hb63
    refine On (want := false) hb63 ?_
    refine On (want := false) hb63 ?_
    refine On (want := false) hb63 ?_
    refine On (want := false) hb63 ?_
    refine Pt (.b true) hb63 ?_
    refine Ni ?_
    exact w_goto true (.k (.k (.k (.k .nil)))) ⟨(hS.keep [] rfl).up (by omega), hM⟩
   ·replace hM := ifF hM hb63
    refine Oy (want := false) hb63 ?_
    refine Of ((Wheel.cells a0)) ty_fo24_1 ?_
    refine Oy (want := false) hb63 ?_
    refine Olp (.sl .no 1 (a0.Notches.map cI)) ty_agg22 ty_sc22 ?_
    refine Oy (want := false) hb63 ?_
    refine o_len (n := a0.Notches.length) (by decide) rfl (List.length_map _) ty_isl22 ?_
    refine Oy (want := false) hb63 ?_
    refine Oi (.b ((a0.Notches.length : Int) == 0)) ?_
    refine Pf (.b ((a0.Notches.length : Int) == 0)) hb63 ?_
    refine Ni ?_
    exact w_goto ((a0.Notches.length : Int) == 0) (.k (.k (.k (.k .nil)))) ⟨(hS.keep [] rfl).up (by omega), hM⟩
theorem W_coins_seek_c1 {p1 : Nat} (hnd : [p1].Nodup) {n : Nat} {a0 : Wheel_} {a1 : List Int} {st : Spot_} {r : Bool × Spot_} (hM : coins_seek_c1 n a0 a1 st = some r) : HSat Try.prog 97 [.agg (Wheel_.cells a0), .ep [.sl .no 1 (a1.map cI)], .ptr p1 0] [(p1, .cells (Spot_.cells st))] (.b r.1) [(p1, .cells [.i r.2.left.c0, .i r.2.left.c1, .i r.2.left.c2, .i r.2.left.c3, .i r.2.place, .i r.2.credit])] := by
 refine hsat_of_wp mixed Try.func97 rfl (by decide) Try.ntmps97 (by simp) (kl_cells kl_nil) hnd ?pure ?cells fun H0 g hf_ hp => ?_
 case pure => exact fun H _ => (show Go.AM.Pure _ from .v _).inH
 case cells => exact (inb_st (ic_cells (ci_cons (.inl (.inl (.v _))) (ci_cons (.inl (.inl (.v _))) (ci_cons (.inl (.inl (.v _))) (ci_cons (.inl (.inl (.v _))) (ci_cons (.inl (.inl (.v _))) (ci_cons (.inl (.inl (.v _))) ci_nil)))))) ic_nil) inb_nil)
 rw [frame0_of]
 change wpA _ _ _ _ (Fr.of [(0, .agg (Wheel_.cells a0)), (1, .ep [.sl .no 1 (a1.map cI)]), (2, .ptr p1 0)]) H0 g
 have hS := St.startH (L := [(p1, .cells (Spot_.cells st))]) hf_ hnd hp
 replace hS : St (fun i => i < g ∧ i ∉ ids [(p1, .cells (Spot_.cells st))]) H0 [(p1, .cells (Spot_.cells st))] H0 g := hS
 refine Sq ?_
 refine Rg 2 ?_
 refine o_box (v := .agg (Wheel_.cells a0)) (cs := (Wheel_.cells a0)) hS (by decide) rfl rfl (by omega) fun H hS => ?_
 refine Oa (.b false) ?_
 refine Ni ?_
 refine w_iceE (L' := [(p1, .cells (Spot_.cells st))]) 0 3 hS rfl rfl rfl fun H hS => ?_
 refine Ws ?_
 refine Sq ?_
 refine Rg 1 ?_
 refine Oa (.i 0) ?_
 refine Ni ?_
 refine Ws ?_
 refine w_join (J := Int × Int × Int × Int × Int) (fun j => [(1, .ep [.sl .no 1 (a1.map cI)]), (3, .ep (Wheel_.cells a0)), (5, .i j.1)]) (fun j H' g' => St (fun i => i < g ∧ i ∉ ids [(p1, .cells (Spot_.cells st))]) H0 [(p1, .cells [.i j.2.1, .i j.2.2.1, .i j.2.2.2.1, .i j.2.2.2.2, .i st.place, .i st.credit])] H' g' ∧ coins_seek_c1_j1 a0 st a1 j.1 j.2.1 j.2.2.1 j.2.2.2.1 j.2.2.2.2 = some r) ?_ ?_
 ·rintro ⟨v1, v2, v3, v4, v5⟩ H g1 ⟨hS, hM⟩
  change wpA _ _ _ _ (Fr.of [(1, .ep [.sl .no 1 (a1.map cI)]), (3, .ep (Wheel_.cells a0)), (5, .i v1)]) _ _
  replace hS : St (fun i => i < g ∧ i ∉ ids [(p1, .cells (Spot_.cells st))]) H0 [(p1, .cells [.i v2, .i v3, .i v4, .i v5, .i st.place, .i st.credit])] H g1 := hS
  replace hM : coins_seek_c1_j1 a0 st a1 v1 v2 v3 v4 v5 = some r := hM
  refine w_join (J := Bool) (fun j => [(4, .b j)]) (fun j H' g' => St (fun i => i < g ∧ i ∉ ids [(p1, .cells (Spot_.cells st))]) H0 [(p1, .cells [.i v2, .i v3, .i v4, .i v5, .i st.place, .i st.credit])] H' g' ∧ coins_seek_c1_j2 st v2 v3 v4 v5 j = some r) ?_ ?_
  ·rintro v6 H g2 ⟨hS, hM⟩
   change wpA _ _ _ _ (Fr.of [(4, .b v6)]) _ _
   replace hS : St (fun i => i < g ∧ i ∉ ids [(p1, .cells (Spot_.cells st))]) H0 [(p1, .cells [.i v2, .i v3, .i v4, .i v5, .i st.place, .i st.credit])] H g2 := hS
   replace hM : coins_seek_c1_j2 st v2 v3 v4 v5 v6 = some r := hM
   refine r_ret ?_
   refine w_endS (x := .b v6) (f := fun r => .b r.1) (fd := fun r => [(p1, .cells [.i r.2.left.c0, .i r.2.left.c1, .i r.2.left.c2, .i r.2.left.c3, .i r.2.place, .i r.2.credit])]) (.inr rfl) ?_ (.refl _) (Option.some.inj hM) hS 0 rfl
   exact (res_one (res_tmp (x := .b v6) rfl))
  ·refine Rg 12 ?_
   refine Olp (.sl .no 1 (a1.map cI)) ty_agg22 ty_sc22 ?_
   refine o_len (n := a1.length) (by decide) rfl (List.length_map _) ty_isl22 ?_
   refine Of ((Wheel_.cells a0)) ty_fo71_0 ?_
   refine Of ((Wheel_.cells a0)) ty_fo24_2 ?_
   refine Olp (.sl .no 1 (a0.Wheel.Coins.map cI)) ty_agg22 ty_sc22 ?_
   refine o_len (n := a0.Wheel.Coins.length) (by decide) rfl (List.length_map _) ty_isl22 ?_
   refine Oi (.b ((a1.length : Int) == (a0.Wheel.Coins.length : Int))) ?_
   refine Om (.b ((a1.length : Int) == (a0.Wheel.Coins.length : Int))) ?_
   rcases bft ((a1.length : Int) == (a0.Wheel.Coins.length : Int)) with hb7 | hb7
   ·replace hM := ifT hM hb7
    refine Oy (want := true) hb7 ?_
    refine Om (.i v1) ?_
    refine Oy (want := true) hb7 ?_
    refine Oi (.b (decide (v1 ≤ 12))) ?_
    refine Pt (.b (decide (v1 ≤ 12))) hb7 ?_
    refine Oa (.b (decide (v1 ≤ 12))) ?_
    refine Ni ?_
    exact w_goto (decide (v1 ≤ 12)) (.k .nil) ⟨(hS.keep [true] rfl).up (by omega), hM⟩
   ·replace hM := ifF hM hb7
    refine On (want := true) hb7 ?_
    refine On (want := true) hb7 ?_
    refine Pf (.b false) hb7 ?_
    refine Oa (.b false) ?_
    refine Ni ?_
    exact w_goto false (.k .nil) ⟨(hS.keep [true] rfl).up (by omega), hM⟩
 ·refine Sq ?_
  refine Rg 3 ?_
  refine Olp (.sl .no 1 (a1.map cI)) ty_agg22 ty_sc22 ?_
  refine o_len (n := a1.length) (by decide) rfl (List.length_map _) ty_isl22 ?_
  refine Om (.i 0) ?_
  refine Ni ?_
  refine Ws ?_
  refine r_block ?_
  refine w_loop (V := Int × Int × Int × Int × Int × Int) (fun v => [(1, .ep [.sl .no 1 (a1.map cI)]), (2, .ptr p1 0), (3, .ep (Wheel_.cells a0)), (5, .i v.1), (8, .sl .no 1 (a1.map cI)), (9, .i (a1.length : Int)), (10, .i v.2.1)]) (fun v m4 H' g' => St (fun i => i < g ∧ i ∉ ids [(p1, .cells (Spot_.cells st))]) H0 [(p1, .cells [.i v.2.2.1, .i v.2.2.2.1, .i v.2.2.2.2.1, .i v.2.2.2.2.2, .i st.place, .i st.credit])] H' g' ∧ coins_seek_c1_l1 a0 st a1 m4 v.1 v.2.1 v.2.2.1 v.2.2.2.1 v.2.2.2.2.1 v.2.2.2.2.2 = some r) (n := n) (0, 0, st.left.c0, st.left.c1, st.left.c2, st.left.c3) (.k (.k (.k (.k (.k (.k (.k .nil))))))) ⟨(hS.keep [true] rfl).up (by omega), hM⟩ ?_
  rintro ⟨v10, v11, v12, v13, v14, v15⟩ m4 H g4 ⟨hS, hM⟩
  obtain _ | m4 := m4
  ·exact nomatch (show none = some _ from hM)
  change wpA _ _ _ _ (Fr.of [(1, .ep [.sl .no 1 (a1.map cI)]), (2, .ptr p1 0), (3, .ep (Wheel_.cells a0)), (5, .i v10), (8, .sl .no 1 (a1.map cI)), (9, .i (a1.length : Int)), (10, .i v11)]) _ _
  replace hS : St (fun i => i < g ∧ i ∉ ids [(p1, .cells (Spot_.cells st))]) H0 [(p1, .cells [.i v12, .i v13, .i v14, .i v15, .i st.place, .i st.credit])] H g4 := hS
  replace hM : coins_seek_c1_l1_b a0 st a1 (coins_seek_c1_l1 a0 st a1 m4) v10 v11 v12 v13 v14 v15 = some r := hM
  refine Sq ?_
  refine Rg 1 ?_
  refine Oi (.b (decide (v11 < (a1.length : Int)))) ?_
  refine Ni ?_
  refine Ws ?_
  refine Sq ?_
  rcases bft (decide (v11 < (a1.length : Int))) with hb16 | hb16
  ·replace hM := ifT hM hb16
   refine Ct hb16 ?_
   refine r_skip ?_
   refine Ws ?_
   refine Sq ?_
   refine r_block ?_
   refine Sq ?_
   refine Rg 5 ?_
   refine Om (.i v11) ?_
   obtain ⟨x17, hx17, hM⟩ := bindE hM
   refine o_index (xs := a1) (f := cI) (z := v11) (u := x17) (by decide) rfl rfl ty_es22 hx17 ?_
   refine Olp (.i x17) ty_agg3 ty_sc3 ?_
   refine Oa (.i v11) ?_
   refine Oa (.i x17) ?_
   refine Ni ?_
   refine Ws ?_
   refine Sq ?_
   refine w_join (J := Bool) (fun j => [(1, .ep [.sl .no 1 (a1.map cI)]), (2, .ptr p1 0), (3, .ep (Wheel_.cells a0)), (5, .i v10), (6, .i v11), (7, .i x17), (8, .sl .no 1 (a1.map cI)), (9, .i (a1.length : Int)), (10, .i v11), (25, .b j)]) (fun j H' g' => St (fun i => i < g ∧ i ∉ ids [(p1, .cells (Spot_.cells st))]) H0 [(p1, .cells [.i v12, .i v13, .i v14, .i v15, .i st.place, .i st.credit])] H' g' ∧ coins_seek_c1_j3 (coins_seek_c1_l1 a0 st a1 m4) st v10 v11 v12 v13 v14 v15 x17 j = some r) ?_ ?_
   ·rintro v18 H g5 ⟨hS, hM⟩
    change wpA _ _ _ _ (Fr.of [(1, .ep [.sl .no 1 (a1.map cI)]), (2, .ptr p1 0), (3, .ep (Wheel_.cells a0)), (5, .i v10), (6, .i v11), (7, .i x17), (8, .sl .no 1 (a1.map cI)), (9, .i (a1.length : Int)), (10, .i v11), (25, .b v18)]) _ _
    replace hS : St (fun i => i < g ∧ i ∉ ids [(p1, .cells (Spot_.cells st))]) H0 [(p1, .cells [.i v12, .i v13, .i v14, .i v15, .i st.place, .i st.credit])] H g5 := hS
    replace hM : coins_seek_c1_j3 (coins_seek_c1_l1 a0 st a1 m4) st v10 v11 v12 v13 v14 v15 x17 v18 = some r := hM
    rcases bft v18 with hb19 | hb19
    ·replace hM := ifT hM hb19
     refine Ct hb19 ?_
     refine Sq ?_
     refine Rg 1 ?_
     refine Oa (.b false) ?_
     refine Ni ?_
     refine Ws ?_
     refine r_ret ?_
     refine r_then_ret ?_
     refine r_blk_ret ?_
     refine r_then_ret ?_
     refine w_round_ret ?_
     refine r_blk_ret ?_
     refine w_goto_ret ?_
     refine w_endS (x := .b false) (f := fun r => .b r.1) (fd := fun r => [(p1, .cells [.i r.2.left.c0, .i r.2.left.c1, .i r.2.left.c2, .i r.2.left.c3, .i r.2.place, .i r.2.credit])]) (.inr rfl) ?_ (.refl _) (Option.some.inj hM) hS 0 rfl
     exact (res_one (res_tmp (x := .b false) rfl))
    ·replace hM := ifF hM hb19
     refine Cf hb19 ?_
     refine r_skip ?_
     refine Ws ?_
     refine Sq ?_
     refine Rg 5 ?_
     refine Om (.i v11) ?_
     refine Om (.i x17) ?_
     refine o_fieldP (by decide) ty_fo90_0 rfl ?_
     obtain ⟨x20, hx20, hM⟩ := bindE hM
     refine o_indexP (z := v11) (by decide) rfl rfl ty_arr88 (idx_lt hx20) ?_
     obtain ⟨l21, hl21, hM⟩ := bindE hM
     refine o_storeX (xs := ([v12, v13, v14, v15] : List Int)) (u := l21) (z := v11) (v := x17) (off := 0 + 0) (cs' := [.i (l21.getD 0 0), .i (l21.getD 1 0), .i (l21.getD 2 0), .i (l21.getD 3 0), .i st.place, .i st.credit]) (L' := [(p1, .cells [.i (l21.getD 0 0), .i (l21.getD 1 0), .i (l21.getD 2 0), .i (l21.getD 3 0), .i st.place, .i st.credit])]) 0 hS rfl rfl .no rfl rfl hl21 ty_var3 rfl rfl fun H hS => ?_
     refine Ni ?_
     refine Ws ?_
     refine Rg 4 ?_
     refine Om (.i v10) ?_
     refine Om (.i x17) ?_
     refine Oi (.i (w64 (v10 + x17))) ?_
     refine Oa (.i (w64 (v10 + x17))) ?_
     refine Ni ?_
     refine r_blk_normal ?_
     refine Ws ?_
     refine Rg 2 ?_
     refine Oi (.i (w64 (v11 + 1))) ?_
     refine Om (.i (w64 (v11 + 1))) ?_
     refine Ni ?_
     exact w_round (w64 (v10 + x17), w64 (v11 + 1), (l21.getD 0 0), (l21.getD 1 0), (l21.getD 2 0), (l21.getD 3 0)) (Nat.lt_succ_self _) (.k (.k (.k (.k (.k (.k (.k .nil))))))) ⟨(hS.keep [true] rfl).up (by omega), hM⟩
   ·refine Rg 11 ?_
    refine Om (.i v11) ?_
    refine Of ((Wheel_.cells a0)) ty_fo71_0 ?_
    refine Of ((Wheel_.cells a0)) ty_fo24_2 ?_
    refine Olp (.sl .no 1 (a0.Wheel.Coins.map cI)) ty_agg22 ty_sc22 ?_
    refine o_len (n := a0.Wheel.Coins.length) (by decide) rfl (List.length_map _) ty_isl22 ?_
    refine Oi (.b (decide (v11 ≥ (a0.Wheel.Coins.length : Int)))) ?_
    refine Om (.b (decide (v11 ≥ (a0.Wheel.Coins.length : Int)))) ?_
    rcases bft (decide (v11 ≥ (a0.Wheel.Coins.length : Int))) with hb22 | hb22
    ·replace hM := ifT hM hb22
     refine On (want := false) hb22 ?_
     refine On (want := false) hb22 ?_
     refine On (want := false) hb22 ?_
     refine Pt (.b true) hb22 ?_
     refine Ni ?_
     exact w_goto true (.k (.k (.k (.k (.k (.k (.k (.k (.k (.k .nil)))))))))) ⟨(hS.keep [true] rfl).up (by omega), hM⟩
    ·replace hM := ifF hM hb22
     refine Oy (want := false) hb22 ?_
     refine Om (.i x17) ?_
     refine Oy (want := false) hb22 ?_
     obtain ⟨r23, hr23, hM⟩ := bindE hM
     refine o_call (bs := [.i x17, .i 0, .i 12]) (by decide) rfl rfl ((W_coins_within hr23).le (.k (.k (.k .nil)))) ?_
     refine Oy (want := false) hb22 ?_
     refine o_not (e := r23) (by decide) rfl ?_
     refine Pf (.b (!r23)) hb22 ?_
     refine Ni ?_
     exact w_goto (!r23) (.k (.k (.k (.k (.k (.k (.k (.k (.k (.k .nil)))))))))) ⟨(hS.keep [true] rfl).up (by omega), hM⟩
  ·replace hM := ifF hM hb16
   refine Cf hb16 ?_
   refine r_exit ?_
   refine r_then_exit ?_
   refine w_round_exit ?_
   refine r_blk_exit ?_
   exact w_goto (v10, v12, v13, v14, v15) (.k (.k (.k .nil))) ⟨(hS.keep [true] rfl).up (by omega), hM⟩
theorem W_coins_seek_none {n : Nat} {a0 : Wheel} {a1 : List Int} {a2 : Bool} {r : Spot_ × Int} (hM : coins_seek n a0 a1 a2 = some (none, r)) : PureSat Try.prog 64 [.agg (Wheel.cells a0), .sl .no 1 (a1.map cI), fnB a2] (.tup [.v (.pointer none), .agg [.i r.1.left.c0, .i r.1.left.c1, .i r.1.left.c2, .i r.1.left.c3, .i r.1.place, .i r.1.credit], .i r.2]) := by
 refine pure_of_wp mixed Try.func64 rfl (by decide) Try.ntmps64 (by simp) ?pure fun H0 g hf => ?_
 case pure => exact .tup _ (pl_cons (.v _) (pl_cons (.agg _ (pl_cons (.v _) (pl_cons (.v _) (pl_cons (.v _) (pl_cons (.v _) (pl_cons (.v _) (pl_cons (.v _) pl_nil))))))) (pl_cons (.v _) pl_nil)))
 rw [frame0_of]
 change wpA _ _ _ _ (Fr.of [(0, .agg (Wheel.cells a0)), (1, .sl .no 1 (a1.map cI)), (2, fnB a2)]) H0 g
 have hS := St.start hf
 refine Sq ?_
 refine Rg 5 ?_
 refine o_box (v := .agg (Wheel.cells a0)) (cs := (Wheel.cells a0)) hS (by decide) rfl rfl (by omega) fun H hS => ?_
 refine o_box (v := .sl .no 1 (a1.map cI)) (cs := [.sl .no 1 (a1.map cI)]) hS (by decide) rfl rfl (by omega) fun H hS => ?_
 refine Oa (.v (.pointer none)) ?_
 refine o_alloc hS (by decide) ty_zero90 (by omega) fun H hS => ?_
 refine Oa (.i 0) ?_
 refine Ni ?_
 refine w_iceE (L' := [(g + 3, .cells [.i 0, .i 0, .i 0, .i 0, .i 0, .i 0]), (g + 1, .cells [.sl .no 1 (a1.map cI)])]) 2 3 hS rfl rfl rfl fun H hS => ?_
 refine w_iceE (L' := [(g + 3, .cells [.i 0, .i 0, .i 0, .i 0, .i 0, .i 0])]) 1 4 hS rfl rfl rfl fun H hS => ?_
 refine Ws ?_
 refine Sq ?_
 refine Rg 1 ?_
 refine o_alloc hS (by decide) ty_zero90 (by omega) fun H hS => ?_
 refine Ni ?_
 refine Ws ?_
 refine Sq ?_
 refine Rg 9 ?_
 refine Olg (.agg (Wheel.cells a0)) ty_agg24 ?_
 refine o_makeFunc (first := []) (cap := [.ep [.sl .no 1 (a1.map cI)], .ptr (g + 5 + 0) 0]) (by decide) rfl rfl ?_
 obtain ⟨r1, hr1, hM⟩ := bindE hM
 have hndr1 := hS.nd_at (ns := [0]) (M := [(g + 5 + 0, .cells [.i 0, .i 0, .i 0, .i 0, .i 0, .i 0])]) (M' := [(g + 5 + 0, .cells (Spot_.cells r1.2))]) (.cons rfl .nil) (by decide)
 have hncr1 := hS.nd_at (ns := [0]) (M := [(g + 5 + 0, .cells [.i 0, .i 0, .i 0, .i 0, .i 0, .i 0])]) (M' := [(g + 5 + 0, .cells (Spot_.cells r1.2))]) (.cons rfl .nil) (by decide)
 refine o_hsat (bs := [.agg (Wheel.cells a0), .fn (.func 97) [] [.ep [.sl .no 1 (a1.map cI)], .ptr (g + 5 + 0) 0]]) (M := [(g + 5 + 0, .cells [.i 0, .i 0, .i 0, .i 0, .i 0, .i 0])]) (M' := [(g + 5 + 0, .cells (Spot_.cells r1.2))]) (L' := [(g + 5 + 0, .cells (Spot_.cells r1.2)), (g + 3, .cells [.i 0, .i 0, .i 0, .i 0, .i 0, .i 0])]) [0] (.inl rfl) hS (by decide) rfl rfl ((W_coins_open (Lo := (fun (s : Spot_) => [(g + 5 + 0, .cells (Spot_.cells s))]))  (fun _ _ => (kl_cells kl_nil)) (fun _ => hndr1) (fun s => (inb_st (ic_cells (ci_cons (.inl (.inl (.v _))) (ci_cons (.inl (.inl (.v _))) (ci_cons (.inl (.inl (.v _))) (ci_cons (.inl (.inl (.v _))) (ci_cons (.inl (.inl (.v _))) (ci_cons (.inl (.inl (.v _))) ci_nil)))))) ic_nil) inb_nil)) (aF := (fun (x0 : Wheel_) s => coins_seek_c1 n x0 a1 s)) (fun s H hH => (.fn _ _ _ ai_nil (ai_cons (.ep _ (ai_cons (show Go.AM.Pure _ from .sl _ _ (pures_map (fun x => (pl_cons (.v _) pl_nil)))).inH ai_nil)) (ai_cons (in_ptr hH 0 rfl) ai_nil)))) rfl (fun h => csat_hv (W_coins_seek_c1 (p1 := g + 5 + 0)  hncr1 h)) hr1).le (.k (.k .nil))) (.cons rfl .nil) rfl (by omega) fun H hS => ?_
 refine Om (.tup [.agg (Wheel_.cells r1.1.1), .i r1.1.2]) ?_
 refine Ox (.agg (Wheel_.cells r1.1.1)) ?_
 refine Ox (.i r1.1.2) ?_
 refine o_alloc hS (by decide) ty_zero71 (by omega) fun H hS => ?_
 refine o_store (v := .agg (Wheel_.cells r1.1.1)) (ns := (Wheel_.cells r1.1.1)) (L' := [(g + 5 + 1 + 6, .cells (Wheel_.cells r1.1.1)), (g + 5 + 0, .cells (Spot_.cells r1.2)), (g + 3, .cells [.i 0, .i 0, .i 0, .i 0, .i 0, .i 0])]) 0 hS rfl rfl .no rfl rfl ty_var71 nlb rfl fun H hS => ?_
 refine Oa (.i r1.1.2) ?_
 refine Ni ?_
 refine w_iceE (L' := [(g + 5 + 0, .cells (Spot_.cells r1.2)), (g + 3, .cells [.i 0, .i 0, .i 0, .i 0, .i 0, .i 0])]) 0 10 hS rfl rfl rfl fun H hS => ?_
 refine Ws ?_
 refine Sq ?_
 refine Sq ?_
 refine Rg 2 ?_
 refine Om (.i r1.1.2) ?_
 refine Oi (.b (r1.1.2 != 0)) ?_
 refine Ni ?_
 refine Ws ?_
 rcases bft (r1.1.2 != 0) with hb2 | hb2
 ·replace hM := ifT hM hb2
  refine Ct hb2 ?_
  refine Sq ?_
  refine Rg 5 ?_
  refine o_build (cs := [.i 0, .i 0, .i 0, .i 0, .i 0, .i 0]) (by decide) ty_zero90 ty_pl90 rfl ?_
  refine Om (.i r1.1.2) ?_
  refine Oa (.v (.pointer none)) ?_
  refine o_store (v := .agg [.i 0, .i 0, .i 0, .i 0, .i 0, .i 0]) (ns := [.i 0, .i 0, .i 0, .i 0, .i 0, .i 0]) (L' := [(g + 5 + 0, .cells (Spot_.cells r1.2)), (g + 3, .cells [.i 0, .i 0, .i 0, .i 0, .i 0, .i 0])]) 1 hS rfl rfl .no rfl rfl ty_var90 nlb rfl fun H hS => ?_
  refine Oa (.i r1.1.2) ?_
  refine Ni ?_
  replace hS := hS.keep (L' := [(g + 3, .cells [.i 0, .i 0, .i 0, .i 0, .i 0, .i 0])]) [false, true] rfl
  refine Ws ?_
  refine r_ret ?_
  refine r_then_ret ?_
  refine w_end (x := .tup [.v (.pointer none), .agg [.i 0, .i 0, .i 0, .i 0, .i 0, .i 0], .i r1.1.2]) (f := fun r : Spot_ × Int => .tup [.v (.pointer none), .agg [.i r.1.left.c0, .i r.1.left.c1, .i r.1.left.c2, .i r.1.left.c3, .i r.1.place, .i r.1.credit], .i r.2]) (.inr rfl) ?_ (.refl _) (show ((⟨(⟨0, 0, 0, 0⟩ : Bag_), 0, 0⟩ : Spot_), r1.1.2) = r from by injection hM with hM; exact (Prod.mk.inj hM).2) hS
  exact (res_three (res_tmp (x := .v (.pointer none)) rfl) (res_cell (x := .agg [.i 0, .i 0, .i 0, .i 0, .i 0, .i 0]) 0 hS rfl rfl (pg ty_agg90)) (res_tmp (x := .i r1.1.2) rfl))
 ·replace hM := ifF hM hb2
  refine Cf hb2 ?_
  refine r_skip ?_
  refine Ws ?_
  refine Sq ?_
  have hS0 := hS
  refine r_draw (n := 9) rfl (by kernel_rfl) ?_
  refine Olg (.agg (Wheel_.cells r1.1.1)) ty_agg71 ?_
  refine Om (fnB a2) ?_
  refine o_makeMap (kv := kvSpot_) hS (by decide) ty_map112 (by omega) fun H hS => ?_
  refine o_build (cs := (srchC r1.1.1 a2 (g + 5 + 1 + 9 + 2 + 2))) (by decide) ty_zero114 ty_pl114 rfl ?_
  refine o_box (v := .agg (srchC r1.1.1 a2 (g + 5 + 1 + 9 + 2 + 2))) (cs := (srchC r1.1.1 a2 (g + 5 + 1 + 9 + 2 + 2))) hS (by decide) rfl rfl (by omega) fun H hS => ?_
  refine o_load (v := .agg (Spot_.cells r1.2)) 2 hS (by decide) rfl rfl (.st hS0 0 rfl (by omega)) (pg ty_agg90) ?_
  refine Oa (.ptr (g + 5 + 1 + 9 + 2 + 4) 0) ?_
  refine o_store (v := .agg (Spot_.cells r1.2)) (ns := (Spot_.cells r1.2)) (L' := [(g + 5 + 1 + 9 + 2 + 4, .cells (srchC r1.1.1 a2 (g + 5 + 1 + 9 + 2 + 2))), (g + 5 + 1 + 9 + 2 + 2, .obj none (mapIs (mpv kvSpot_ ([] : List (Spot_ × Int))))), (g + 5 + 0, .cells (Spot_.cells r1.2)), (g + 3, .cells (Spot_.cells r1.2))]) 3 hS rfl rfl (.st hS0 1 rfl (by omega)) rfl rfl ty_var90 nlb rfl fun H hS => ?_
  refine Oa (.i 0) ?_
  refine Ni ?_
  refine w_iceE (L' := [(g + 5 + 1 + 9 + 2 + 2, .obj none (mapIs (mpv kvSpot_ ([] : List (Spot_ × Int))))), (g + 5 + 0, .cells (Spot_.cells r1.2)), (g + 3, .cells (Spot_.cells r1.2))]) 0 6 hS rfl rfl rfl fun H hS => ?_
  replace hS := hS.keep (L' := [(g + 5 + 1 + 9 + 2 + 2, .obj none (mapIs (mpv kvSpot_ ([] : List (Spot_ × Int))))), (g + 3, .cells (Spot_.cells r1.2))]) [true, false, true] rfl
  refine w_next [(6, .ep (srchC r1.1.1 a2 (g + 5 + 1 + 9 + 2 + 2))), (7, .ptr (g + 3) 0), (8, .i 0)] (.k (.k (.k .nil))) ?_
  refine r_ret ?_
  exact nomatch congrArg (fun o => (o.map (fun x : Option Wheel_ × Spot_ × Int => x.1.isSome)).getD false) hM
theorem W_coins_seek_some {n : Nat} {a0 : Wheel} {a1 : List Int} {a2 : Bool} {w : Wheel_} {r : Spot_ × Int} (hM : coins_seek n a0 a1 a2 = some (some w, r)) : NewAt Try.prog 64 [.agg (Wheel.cells a0), .sl .no 1 (a1.map cI), fnB a2] (fun i => .tup [.ep (srchC w a2 i), .agg [.i r.1.left.c0, .i r.1.left.c1, .i r.1.left.c2, .i r.1.left.c3, .i r.1.place, .i r.1.credit], .i r.2]) (mapIs (mpv kvSpot_ [])) 19 := by
 refine newAt_of_wp mixed Try.func64 rfl (by decide) Try.ntmps64 (by simp) ?pure fun H0 g hf => ?_
 case pure => exact fun g H h => .tup _ (ai_cons (.ep _ (ai_cons (show Go.AM.Pure _ from .v _).inH (ai_cons (show Go.AM.Pure _ from .sl _ _ (pures_map (fun x => (pl_cons (.v _) pl_nil)))).inH (ai_cons (show Go.AM.Pure _ from .sl _ _ (pures_map (fun x => (pl_cons (.v _) pl_nil)))).inH (ai_cons (show Go.AM.Pure _ from pure_fnB _).inH (ai_cons (.mp _ _ _ h) ai_nil)))))) (ai_cons (show Go.AM.Pure _ from .agg _ (pl_cons (.v _) (pl_cons (.v _) (pl_cons (.v _) (pl_cons (.v _) (pl_cons (.v _) (pl_cons (.v _) pl_nil))))))).inH (ai_cons (show Go.AM.Pure _ from .v _).inH ai_nil)))
 rw [frame0_of]
 change wpA _ _ _ _ (Fr.of [(0, .agg (Wheel.cells a0)), (1, .sl .no 1 (a1.map cI)), (2, fnB a2)]) H0 g
 have hS := St.start hf
 refine Sq ?_
 refine Rg 5 ?_
 refine o_box (v := .agg (Wheel.cells a0)) (cs := (Wheel.cells a0)) hS (by decide) rfl rfl (by omega) fun H hS => ?_
 refine o_box (v := .sl .no 1 (a1.map cI)) (cs := [.sl .no 1 (a1.map cI)]) hS (by decide) rfl rfl (by omega) fun H hS => ?_
 refine Oa (.v (.pointer none)) ?_
 refine o_alloc hS (by decide) ty_zero90 (by omega) fun H hS => ?_
 refine Oa (.i 0) ?_
 refine Ni ?_
 refine w_iceE (L' := [(g + 3, .cells [.i 0, .i 0, .i 0, .i 0, .i 0, .i 0]), (g + 1, .cells [.sl .no 1 (a1.map cI)])]) 2 3 hS rfl rfl rfl fun H hS => ?_
 refine w_iceE (L' := [(g + 3, .cells [.i 0, .i 0, .i 0, .i 0, .i 0, .i 0])]) 1 4 hS rfl rfl rfl fun H hS => ?_
 refine Ws ?_
 refine Sq ?_
 refine Rg 1 ?_
 refine o_alloc hS (by decide) ty_zero90 (by omega) fun H hS => ?_
 refine Ni ?_
 refine Ws ?_
 refine Sq ?_
 refine Rg 9 ?_
 refine Olg (.agg (Wheel.cells a0)) ty_agg24 ?_
 refine o_makeFunc (first := []) (cap := [.ep [.sl .no 1 (a1.map cI)], .ptr (g + 5 + 0) 0]) (by decide) rfl rfl ?_
 obtain ⟨r1, hr1, hM⟩ := bindE hM
 have hndr1 := hS.nd_at (ns := [0]) (M := [(g + 5 + 0, .cells [.i 0, .i 0, .i 0, .i 0, .i 0, .i 0])]) (M' := [(g + 5 + 0, .cells (Spot_.cells r1.2))]) (.cons rfl .nil) (by decide)
 have hncr1 := hS.nd_at (ns := [0]) (M := [(g + 5 + 0, .cells [.i 0, .i 0, .i 0, .i 0, .i 0, .i 0])]) (M' := [(g + 5 + 0, .cells (Spot_.cells r1.2))]) (.cons rfl .nil) (by decide)
 refine o_hsat (bs := [.agg (Wheel.cells a0), .fn (.func 97) [] [.ep [.sl .no 1 (a1.map cI)], .ptr (g + 5 + 0) 0]]) (M := [(g + 5 + 0, .cells [.i 0, .i 0, .i 0, .i 0, .i 0, .i 0])]) (M' := [(g + 5 + 0, .cells (Spot_.cells r1.2))]) (L' := [(g + 5 + 0, .cells (Spot_.cells r1.2)), (g + 3, .cells [.i 0, .i 0, .i 0, .i 0, .i 0, .i 0])]) [0] (.inl rfl) hS (by decide) rfl rfl ((W_coins_open (Lo := (fun (s : Spot_) => [(g + 5 + 0, .cells (Spot_.cells s))]))  (fun _ _ => (kl_cells kl_nil)) (fun _ => hndr1) (fun s => (inb_st (ic_cells (ci_cons (.inl (.inl (.v _))) (ci_cons (.inl (.inl (.v _))) (ci_cons (.inl (.inl (.v _))) (ci_cons (.inl (.inl (.v _))) (ci_cons (.inl (.inl (.v _))) (ci_cons (.inl (.inl (.v _))) ci_nil)))))) ic_nil) inb_nil)) (aF := (fun (x0 : Wheel_) s => coins_seek_c1 n x0 a1 s)) (fun s H hH => (.fn _ _ _ ai_nil (ai_cons (.ep _ (ai_cons (show Go.AM.Pure _ from .sl _ _ (pures_map (fun x => (pl_cons (.v _) pl_nil)))).inH ai_nil)) (ai_cons (in_ptr hH 0 rfl) ai_nil)))) rfl (fun h => csat_hv (W_coins_seek_c1 (p1 := g + 5 + 0)  hncr1 h)) hr1).le (.k (.k .nil))) (.cons rfl .nil) rfl (by omega) fun H hS => ?_
 refine Om (.tup [.agg (Wheel_.cells r1.1.1), .i r1.1.2]) ?_
 refine Ox (.agg (Wheel_.cells r1.1.1)) ?_
 refine Ox (.i r1.1.2) ?_
 refine o_alloc hS (by decide) ty_zero71 (by omega) fun H hS => ?_
 refine o_store (v := .agg (Wheel_.cells r1.1.1)) (ns := (Wheel_.cells r1.1.1)) (L' := [(g + 5 + 1 + 6, .cells (Wheel_.cells r1.1.1)), (g + 5 + 0, .cells (Spot_.cells r1.2)), (g + 3, .cells [.i 0, .i 0, .i 0, .i 0, .i 0, .i 0])]) 0 hS rfl rfl .no rfl rfl ty_var71 nlb rfl fun H hS => ?_
 refine Oa (.i r1.1.2) ?_
 refine Ni ?_
 refine w_iceE (L' := [(g + 5 + 0, .cells (Spot_.cells r1.2)), (g + 3, .cells [.i 0, .i 0, .i 0, .i 0, .i 0, .i 0])]) 0 10 hS rfl rfl rfl fun H hS => ?_
 refine Ws ?_
 refine Sq ?_
 refine Sq ?_
 refine Rg 2 ?_
 refine Om (.i r1.1.2) ?_
 refine Oi (.b (r1.1.2 != 0)) ?_
 refine Ni ?_
 refine Ws ?_
 rcases bft (r1.1.2 != 0) with hb2 | hb2
 ·replace hM := ifT hM hb2
  refine Ct hb2 ?_
  refine Sq ?_
  refine Rg 5 ?_
  refine o_build (cs := [.i 0, .i 0, .i 0, .i 0, .i 0, .i 0]) (by decide) ty_zero90 ty_pl90 rfl ?_
  refine Om (.i r1.1.2) ?_
  refine Oa (.v (.pointer none)) ?_
  refine o_store (v := .agg [.i 0, .i 0, .i 0, .i 0, .i 0, .i 0]) (ns := [.i 0, .i 0, .i 0, .i 0, .i 0, .i 0]) (L' := [(g + 5 + 0, .cells (Spot_.cells r1.2)), (g + 3, .cells [.i 0, .i 0, .i 0, .i 0, .i 0, .i 0])]) 1 hS rfl rfl .no rfl rfl ty_var90 nlb rfl fun H hS => ?_
  refine Oa (.i r1.1.2) ?_
  refine Ni ?_
  replace hS := hS.keep (L' := [(g + 3, .cells [.i 0, .i 0, .i 0, .i 0, .i 0, .i 0])]) [false, true] rfl
  refine Ws ?_
  refine r_ret ?_
  refine r_then_ret ?_
  exact nomatch congrArg (fun o => (o.map (fun x : Option Wheel_ × Spot_ × Int => x.1.isSome)).getD true) hM
 ·replace hM := ifF hM hb2
  refine Cf hb2 ?_
  refine r_skip ?_
  refine Ws ?_
  refine Sq ?_
  have hS0 := hS
  refine r_draw (n := 9) rfl (by kernel_rfl) ?_
  refine Olg (.agg (Wheel_.cells r1.1.1)) ty_agg71 ?_
  refine Om (fnB a2) ?_
  refine o_makeMap (kv := kvSpot_) hS (by decide) ty_map112 (by omega) fun H hS => ?_
  refine o_build (cs := (srchC r1.1.1 a2 (g + 5 + 1 + 9 + 2 + 2))) (by decide) ty_zero114 ty_pl114 rfl ?_
  refine o_box (v := .agg (srchC r1.1.1 a2 (g + 5 + 1 + 9 + 2 + 2))) (cs := (srchC r1.1.1 a2 (g + 5 + 1 + 9 + 2 + 2))) hS (by decide) rfl rfl (by omega) fun H hS => ?_
  refine o_load (v := .agg (Spot_.cells r1.2)) 2 hS (by decide) rfl rfl (.st hS0 0 rfl (by omega)) (pg ty_agg90) ?_
  refine Oa (.ptr (g + 5 + 1 + 9 + 2 + 4) 0) ?_
  refine o_store (v := .agg (Spot_.cells r1.2)) (ns := (Spot_.cells r1.2)) (L' := [(g + 5 + 1 + 9 + 2 + 4, .cells (srchC r1.1.1 a2 (g + 5 + 1 + 9 + 2 + 2))), (g + 5 + 1 + 9 + 2 + 2, .obj none (mapIs (mpv kvSpot_ ([] : List (Spot_ × Int))))), (g + 5 + 0, .cells (Spot_.cells r1.2)), (g + 3, .cells (Spot_.cells r1.2))]) 3 hS rfl rfl (.st hS0 1 rfl (by omega)) rfl rfl ty_var90 nlb rfl fun H hS => ?_
  refine Oa (.i 0) ?_
  refine Ni ?_
  refine w_iceE (L' := [(g + 5 + 1 + 9 + 2 + 2, .obj none (mapIs (mpv kvSpot_ ([] : List (Spot_ × Int))))), (g + 5 + 0, .cells (Spot_.cells r1.2)), (g + 3, .cells (Spot_.cells r1.2))]) 0 6 hS rfl rfl rfl fun H hS => ?_
  replace hS := hS.keep (L' := [(g + 5 + 1 + 9 + 2 + 2, .obj none (mapIs (mpv kvSpot_ ([] : List (Spot_ × Int))))), (g + 3, .cells (Spot_.cells r1.2))]) [true, false, true] rfl
  refine Ws ?_
  refine r_ret ?_
  injection hM with hM
  injection hM with hm1 hm2
  injection hm1 with hm1
  subst hm1 hm2
  exact w_endAt (x := .tup [.ep (srchC r1.1.1 a2 (g + 5 + 1 + 9 + 2 + 2)), .agg (Spot_.cells r1.2), .i 0]) (mk := fun i => .tup [.ep (srchC r1.1.1 a2 i), .agg (Spot_.cells r1.2), .i 0]) 0 (.inr rfl) (res_three (res_tmp (x := .ep (srchC r1.1.1 a2 (g + 5 + 1 + 9 + 2 + 2))) rfl) (res_cell (x := .agg (Spot_.cells r1.2)) 1 hS rfl rfl (pg ty_agg90)) (res_tmp (x := .i 0) rfl)) (.refl _) hS rfl rfl (by omega)
theorem W_coins_wheel_after {n : Nat} {a0 : Wheel_} {a1 : Spot_} {a2 : Int} {a3 : Bool} {r : Spot_ × Int} (hM : coins_wheel_after n a0 a1 a2 a3 = some r) : PureSat Try.prog 108 [.agg (Wheel_.cells a0), .agg (Spot_.cells a1), .i a2, .b a3] (.tup [.agg [.i r.1.left.c0, .i r.1.left.c1, .i r.1.left.c2, .i r.1.left.c3, .i r.1.place, .i r.1.credit], .i r.2]) := by
 refine pure_of_wp mixed Try.func108 rfl (by decide) Try.ntmps108 (by simp) ?pure fun H0 g hf => ?_
 case pure => exact .tup _ (pl_cons (.agg _ (pl_cons (.v _) (pl_cons (.v _) (pl_cons (.v _) (pl_cons (.v _) (pl_cons (.v _) (pl_cons (.v _) pl_nil))))))) (pl_cons (.v _) pl_nil))
 rw [frame0_of]
 change wpA _ _ _ _ (Fr.of [(0, .agg (Wheel_.cells a0)), (1, .agg (Spot_.cells a1)), (2, .i a2), (3, .b a3)]) H0 g
 have hS := St.start hf
 refine Sq ?_
 refine Rg 4 ?_
 refine o_box (v := .agg (Wheel_.cells a0)) (cs := (Wheel_.cells a0)) hS (by decide) rfl rfl (by omega) fun H hS => ?_
 refine o_box (v := .agg (Spot_.cells a1)) (cs := (Spot_.cells a1)) hS (by decide) rfl rfl (by omega) fun H hS => ?_
 refine o_alloc hS (by decide) ty_zero90 (by omega) fun H hS => ?_
 refine Oa (.i 0) ?_
 refine Ni ?_
 refine w_iceE (L' := [(g + 2, .cells [.i 0, .i 0, .i 0, .i 0, .i 0, .i 0]), (g + 1, .cells (Spot_.cells a1))]) 2 4 hS rfl rfl rfl fun H hS => ?_
 refine Ws ?_
 refine w_join (J := Int × Int × Int × Int × Int × Int) (fun j => [(2, .i a2), (4, .ep (Wheel_.cells a0)), (5, .ptr (g + 1) 0), (8, .ptr (g + 2) 0)]) (fun j H' g' => St (· < g) H0 [(g + 2, .cells [.i 0, .i 0, .i 0, .i 0, .i 0, .i 0]), (g + 1, .cells [.i j.1, .i j.2.1, .i j.2.2.1, .i j.2.2.2.1, .i j.2.2.2.2.1, .i j.2.2.2.2.2])] H' g' ∧ coins_wheel_after_j1 n a0 a2 j.1 j.2.1 j.2.2.1 j.2.2.2.1 j.2.2.2.2.1 j.2.2.2.2.2 = some r) ?_ ?_
 ·rintro ⟨v1, v2, v3, v4, v5, v6⟩ H g1 ⟨hS, hM⟩
  change wpA _ _ _ _ (Fr.of [(2, .i a2), (4, .ep (Wheel_.cells a0)), (5, .ptr (g + 1) 0), (8, .ptr (g + 2) 0)]) _ _
  replace hS : St (· < g) H0 [(g + 2, .cells [.i 0, .i 0, .i 0, .i 0, .i 0, .i 0]), (g + 1, .cells [.i v1, .i v2, .i v3, .i v4, .i v5, .i v6])] H g1 := hS
  replace hM : coins_wheel_after_j1 n a0 a2 v1 v2 v3 v4 v5 v6 = some r := hM
  refine Sq ?_
  have hS0 := hS
  refine r_draw (n := 15) rfl (by kernel_rfl) ?_
  refine Olg (.agg (Wheel_.cells a0)) ty_agg71 ?_
  refine o_fieldP (by decide) ty_fo90_1 rfl ?_
  refine o_load (v := .i v5) 1 hS (by decide) rfl rfl (.st hS0 1 rfl (by omega)) (po ty_agg3 ty_sc3) ?_
  refine Of ((Wheel_.cells a0)) ty_fo71_0 ?_
  refine Of ((Wheel_.cells a0)) ty_fo24_2 ?_
  refine Olp (.sl .no 1 (a0.Wheel.Coins.map cI)) ty_agg22 ty_sc22 ?_
  refine Om (.i a2) ?_
  obtain ⟨x7, hx7, hM⟩ := bindE hM
  refine o_index (xs := a0.Wheel.Coins) (f := cI) (z := a2) (u := x7) (by decide) rfl rfl ty_es22 hx7 ?_
  refine Olp (.i x7) ty_agg3 ty_sc3 ?_
  obtain ⟨r8, hr8, hM⟩ := bindE hM
  refine o_call (bs := [.agg (Wheel_.cells a0), .i v5, .i x7]) (by decide) rfl rfl ((W_coins_wheel_turn hr8).le (.k (.k (.k .nil)))) ?_
  refine Om (.tup [.i r8.1, .i r8.2]) ?_
  refine Ox (.i r8.1) ?_
  refine Ox (.i r8.2) ?_
  refine Oa (.i r8.1) ?_
  refine Oa (.i r8.2) ?_
  refine Ni ?_
  refine Ws ?_
  refine Sq ?_
  refine Rg 8 ?_
  refine Om (.i a2) ?_
  refine o_fieldP (by decide) ty_fo90_0 rfl ?_
  obtain ⟨x9, hx9, hM⟩ := bindE hM
  refine o_indexP (z := a2) (by decide) rfl rfl ty_arr88 (idx_lt hx9) ?_
  refine o_loadX (xs := ([v1, v2, v3, v4] : List Int)) (z := a2) (u := x9) (off := 0 + 0) 1 hS (by decide) rfl rfl .no rfl hx9 ty_agg3 ty_sc3 ?_
  refine Oi (.i (w64 (x9 - 1))) ?_
  refine o_fieldP (by decide) ty_fo90_0 rfl ?_
  obtain ⟨x10, hx10, hM⟩ := bindE hM
  refine o_indexP (z := a2) (by decide) rfl rfl ty_arr88 (idx_lt hx10) ?_
  obtain ⟨l11, hl11, hM⟩ := bindE hM
  refine o_storeX (xs := ([v1, v2, v3, v4] : List Int)) (u := l11) (z := a2) (v := (w64 (x9 - 1))) (off := 0 + 0) (cs' := [.i (l11.getD 0 0), .i (l11.getD 1 0), .i (l11.getD 2 0), .i (l11.getD 3 0), .i v5, .i v6]) (L' := [(g + 2, .cells [.i 0, .i 0, .i 0, .i 0, .i 0, .i 0]), (g + 1, .cells [.i (l11.getD 0 0), .i (l11.getD 1 0), .i (l11.getD 2 0), .i (l11.getD 3 0), .i v5, .i v6])]) 1 hS rfl rfl .no rfl rfl hl11 ty_var3 rfl rfl fun H hS => ?_
  refine Ni ?_
  refine Ws ?_
  refine Sq ?_
  refine Rg 9 ?_
  refine Om (.i r8.1) ?_
  refine o_fieldP (by decide) ty_fo90_2 rfl ?_
  refine o_load (v := .i v6) 1 hS (by decide) rfl rfl .no (po ty_agg3 ty_sc3) ?_
  refine Om (.i r8.2) ?_
  refine Oi (.i (w64 (v6 + r8.2))) ?_
  refine o_fieldP (by decide) ty_fo90_1 rfl ?_
  refine o_store (v := .i r8.1) (ns := [.i r8.1]) (L' := [(g + 2, .cells [.i 0, .i 0, .i 0, .i 0, .i 0, .i 0]), (g + 1, .cells [.i (l11.getD 0 0), .i (l11.getD 1 0), .i (l11.getD 2 0), .i (l11.getD 3 0), .i r8.1, .i v6])]) 1 hS rfl rfl .no rfl rfl ty_var3 nlb rfl fun H hS => ?_
  refine o_fieldP (by decide) ty_fo90_2 rfl ?_
  refine o_store (v := .i (w64 (v6 + r8.2))) (ns := [.i (w64 (v6 + r8.2))]) (L' := [(g + 2, .cells [.i 0, .i 0, .i 0, .i 0, .i 0, .i 0]), (g + 1, .cells [.i (l11.getD 0 0), .i (l11.getD 1 0), .i (l11.getD 2 0), .i (l11.getD 3 0), .i r8.1, .i (w64 (v6 + r8.2))])]) 1 hS rfl rfl .no rfl rfl ty_var3 nlb rfl fun H hS => ?_
  refine Ni ?_
  refine Ws ?_
  refine Sq ?_
  refine Rg 4 ?_
  refine o_load (v := .agg [.i (l11.getD 0 0), .i (l11.getD 1 0), .i (l11.getD 2 0), .i (l11.getD 3 0), .i r8.1, .i (w64 (v6 + r8.2))]) 1 hS (by decide) rfl rfl .no (pg ty_agg90) ?_
  refine Om (.i r8.2) ?_
  refine o_store (v := .agg [.i (l11.getD 0 0), .i (l11.getD 1 0), .i (l11.getD 2 0), .i (l11.getD 3 0), .i r8.1, .i (w64 (v6 + r8.2))]) (ns := [.i (l11.getD 0 0), .i (l11.getD 1 0), .i (l11.getD 2 0), .i (l11.getD 3 0), .i r8.1, .i (w64 (v6 + r8.2))]) (L' := [(g + 2, .cells [.i (l11.getD 0 0), .i (l11.getD 1 0), .i (l11.getD 2 0), .i (l11.getD 3 0), .i r8.1, .i (w64 (v6 + r8.2))]), (g + 1, .cells [.i (l11.getD 0 0), .i (l11.getD 1 0), .i (l11.getD 2 0), .i (l11.getD 3 0), .i r8.1, .i (w64 (v6 + r8.2))])]) 0 hS rfl rfl .no rfl rfl ty_var90 nlb rfl fun H hS => ?_
  refine Oa (.i r8.2) ?_
  refine Ni ?_
  replace hS := hS.keep (L' := [(g + 2, .cells [.i (l11.getD 0 0), .i (l11.getD 1 0), .i (l11.getD 2 0), .i (l11.getD 3 0), .i r8.1, .i (w64 (v6 + r8.2))])]) [true, false] rfl
  refine Ws ?_
  refine r_ret ?_
  refine w_end (x := .tup [.agg [.i (l11.getD 0 0), .i (l11.getD 1 0), .i (l11.getD 2 0), .i (l11.getD 3 0), .i r8.1, .i (w64 (v6 + r8.2))], .i r8.2]) (f := fun r => .tup [.agg [.i r.1.left.c0, .i r.1.left.c1, .i r.1.left.c2, .i r.1.left.c3, .i r.1.place, .i r.1.credit], .i r.2]) (.inr rfl) ?_ (.refl _) (Option.some.inj hM) hS
  exact (res_two (res_cell (x := .agg [.i (l11.getD 0 0), .i (l11.getD 1 0), .i (l11.getD 2 0), .i (l11.getD 3 0), .i r8.1, .i (w64 (v6 + r8.2))]) 0 hS rfl rfl (pg ty_agg90)) (res_tmp (x := .i r8.2) rfl))
 ·refine Sq ?_
  refine Rg 1 ?_
  refine Om (.b a3) ?_
  refine Ni ?_
  refine Ws ?_
  rcases bft a3 with hb12 | hb12
  ·replace hM := ifT hM hb12
   refine Ct hb12 ?_
   refine Rg 7 ?_
   refine o_fieldP (by decide) ty_fo90_2 rfl ?_
   refine o_load (v := .i a1.credit) 1 hS (by decide) rfl rfl .no (po ty_agg3 ty_sc3) ?_
   refine Oi (.i (w64 (a1.credit - 1))) ?_
   refine o_fieldP (by decide) ty_fo90_1 rfl ?_
   refine o_store (v := .i 0) (ns := [.i 0]) (L' := [(g + 2, .cells [.i 0, .i 0, .i 0, .i 0, .i 0, .i 0]), (g + 1, .cells [.i a1.left.c0, .i a1.left.c1, .i a1.left.c2, .i a1.left.c3, .i 0, .i a1.credit])]) 1 hS rfl rfl .no rfl rfl ty_var3 nlb rfl fun H hS => ?_
   refine o_fieldP (by decide) ty_fo90_2 rfl ?_
   refine o_store (v := .i (w64 (a1.credit - 1))) (ns := [.i (w64 (a1.credit - 1))]) (L' := [(g + 2, .cells [.i 0, .i 0, .i 0, .i 0, .i 0, .i 0]), (g + 1, .cells [.i a1.left.c0, .i a1.left.c1, .i a1.left.c2, .i a1.left.c3, .i 0, .i (w64 (a1.credit - 1))])]) 1 hS rfl rfl .no rfl rfl ty_var3 nlb rfl fun H hS => ?_
   refine Ni ?_
   exact w_goto (a1.left.c0, a1.left.c1, a1.left.c2, a1.left.c3, 0, w64 (a1.credit - 1)) (.k (.k (.k (.k .nil)))) ⟨(hS.keep [true, true] rfl).up (by omega), hM⟩
  ·replace hM := ifF hM hb12
   refine Cf hb12 ?_
   refine r_skip ?_
   exact w_goto (a1.left.c0, a1.left.c1, a1.left.c2, a1.left.c3, a1.place, a1.credit) (.k (.k (.k (.k .nil)))) ⟨(hS.keep [true, true] rfl).up (by omega), hM⟩
theorem W_coins_search_next {S : Type} {Lo : S → BL} (hk : ∀ s s', KinL (Lo s) (Lo s')) {m0 : Nat} (hnd : ∀ s, (ids (Lo s)).Nodup) (hin : ∀ s, InB In (Lo s)) {aF : (List Int) → Spot_ → Int → S → Option (Bool × S)} {f0 : AV} (hF : ∀ s H, Has H (Lo s) → In H f0) (h0 : cellsOf f0 = some [f0]) (hf : ∀ {x0 : List Int} {x1 : Spot_} {x2 : Int} {s : S} {r : Bool × S}, aF x0 x1 x2 s = some r → CSat Try.prog f0 [.sl .no 1 (x0.map cI), .agg (Spot_.cells x1), .i x2] (Lo s) (.b r.1) (Lo r.2)) {n : Nat} {a0 : Wheel_ × Bool} {a1 : Spot_} {st : S} {r : Unit × S} (hM : coins_search_next n aF a0 a1 st = some r) : HSat Try.prog 85 [.ep (srchC a0.1 a0.2 m0), .agg (Spot_.cells a1), f0] (Lo st) (.tup []) (Lo r.2) := by
 have hnd0 : ∀ s, (ids (Lo s)).Nodup := fun s => hnd s
 refine hsat_of_wp mixed Try.func85 rfl (by decide) Try.ntmps85 (by simp) (hk _ _) (hnd st) ?pure ?cells fun H0 g hf_ hp => ?_
 case pure => exact fun H _ => (show Go.AM.Pure _ from .tup _ pl_nil).inH
 case cells => exact hin _
 rw [frame0_of]
 change wpA _ _ _ _ (Fr.of [(0, .ep (srchC a0.1 a0.2 m0)), (1, .agg (Spot_.cells a1)), (2, f0)]) H0 g
 have hS := St.startH (L := ([] ++ Lo st)) hf_ (hnd st) hp
 replace hS : St (fun i => i < g ∧ i ∉ ids (Lo st)) H0 ([] ++ Lo st) H0 g := hS
 refine Sq ?_
 refine Rg 1 ?_
 refine o_box (v := .agg (Spot_.cells a1)) (cs := (Spot_.cells a1)) hS (by decide) rfl rfl (by omega) fun H hS => ?_
 refine Ni ?_
 refine w_iceE (L' := ([] ++ Lo st)) 0 4 hS rfl rfl rfl fun H hS => ?_
 refine Ws ?_
 refine Sq ?_
 refine Rg 8 ?_
 refine Om (.ep (srchC a0.1 a0.2 m0)) ?_
 refine o_nilE (by decide) rfl ?_
 refine Of ((srchC a0.1 a0.2 m0)) ty_fo114_0 ?_
 refine Of ((srchC a0.1 a0.2 m0)) ty_fo71_0 ?_
 refine Of ((srchC a0.1 a0.2 m0)) ty_fo24_2 ?_
 refine Olp (.sl .no 1 (a0.1.Wheel.Coins.map cI)) ty_agg22 ty_sc22 ?_
 refine o_len (n := a0.1.Wheel.Coins.length) (by decide) rfl (List.length_map _) ty_isl22 ?_
 refine Om (.i 0) ?_
 refine Ni ?_
 refine Ws ?_
 refine r_block ?_
 refine w_loop (V := Int × Int × Int × Int × Int × S) (fun v => [(0, .ep (srchC a0.1 a0.2 m0)), (2, f0), (4, .ep [.i v.1, .i v.2.1, .i v.2.2.1, .i v.2.2.2.1, .i a1.place, .i a1.credit]), (17, .i (a0.1.Wheel.Coins.length : Int)), (18, .i v.2.2.2.2.1)]) (fun v m2 H' g' => St (fun i => i < g ∧ i ∉ ids (Lo st)) H0 ([] ++ Lo v.2.2.2.2.2) H' g' ∧ coins_search_next_l1 n a0 a1 aF m2 v.1 v.2.1 v.2.2.1 v.2.2.2.1 v.2.2.2.2.1 v.2.2.2.2.2 = some r) (n := n) (a1.left.c0, a1.left.c1, a1.left.c2, a1.left.c3, 0, st) (.k (.k (.k (.k (.k .nil))))) ⟨(hS.keep [] rfl).up (by omega), hM⟩ ?_
 rintro ⟨v2, v3, v4, v5, v6, v7⟩ m2 H g2 ⟨hS, hM⟩
 obtain _ | m2 := m2
 ·exact nomatch (show none = some _ from hM)
 change wpA _ _ _ _ (Fr.of [(0, .ep (srchC a0.1 a0.2 m0)), (2, f0), (4, .ep [.i v2, .i v3, .i v4, .i v5, .i a1.place, .i a1.credit]), (17, .i (a0.1.Wheel.Coins.length : Int)), (18, .i v6)]) _ _
 replace hS : St (fun i => i < g ∧ i ∉ ids (Lo st)) H0 ([] ++ Lo v7) H g2 := hS
 replace hM : coins_search_next_l1_b n a0 a1 aF (coins_search_next_l1 n a0 a1 aF m2) v2 v3 v4 v5 v6 v7 = some r := hM
 refine Sq ?_
 refine Rg 1 ?_
 refine Oi (.b (decide (v6 < (a0.1.Wheel.Coins.length : Int)))) ?_
 refine Ni ?_
 refine Ws ?_
 refine Sq ?_
 rcases bft (decide (v6 < (a0.1.Wheel.Coins.length : Int))) with hb8 | hb8
 ·replace hM := ifT hM hb8
  refine Ct hb8 ?_
  refine r_skip ?_
  refine Ws ?_
  refine w_join (J := S) (fun j => [(0, .ep (srchC a0.1 a0.2 m0)), (2, f0), (4, .ep [.i v2, .i v3, .i v4, .i v5, .i a1.place, .i a1.credit]), (17, .i (a0.1.Wheel.Coins.length : Int)), (18, .i v6)]) (fun j H' g' => St (fun i => i < g ∧ i ∉ ids (Lo st)) H0 ([] ++ Lo j) H' g' ∧ coins_search_next_j1 (coins_search_next_l1 n a0 a1 aF m2) v2 v3 v4 v5 v6 j = some r) ?_ ?_
  ·rintro v9 H g3 ⟨hS, hM⟩
   change wpA _ _ _ _ (Fr.of [(0, .ep (srchC a0.1 a0.2 m0)), (2, f0), (4, .ep [.i v2, .i v3, .i v4, .i v5, .i a1.place, .i a1.credit]), (17, .i (a0.1.Wheel.Coins.length : Int)), (18, .i v6)]) _ _
   replace hS : St (fun i => i < g ∧ i ∉ ids (Lo st)) H0 ([] ++ Lo v9) H g3 := hS
   replace hM : coins_search_next_j1 (coins_search_next_l1 n a0 a1 aF m2) v2 v3 v4 v5 v6 v9 = some r := hM
   refine Rg 2 ?_
   refine Oi (.i (w64 (v6 + 1))) ?_
   refine Om (.i (w64 (v6 + 1))) ?_
   refine Ni ?_
   exact w_round (v2, v3, v4, v5, w64 (v6 + 1), v9) (Nat.lt_succ_self _) (.k (.k (.k (.k (.k .nil))))) ⟨(hS.keep [] rfl).up (by omega), hM⟩
  ·refine r_block ?_
   refine Sq ?_
   refine Rg 2 ?_
   refine Om (.i v6) ?_
   refine Oa (.i v6) ?_
   refine Ni ?_
   refine Ws ?_
   refine Sq ?_
   refine Sq ?_
   refine Rg 5 ?_
   refine Om (.i v6) ?_
   refine Of ([.i v2, .i v3, .i v4, .i v5, .i a1.place, .i a1.credit]) ty_fo90_0 ?_
   obtain ⟨x10, hx10, hM⟩ := bindE hM
   refine o_indexEA (cs := [.i v2, .i v3, .i v4, .i v5, .i a1.place, .i a1.credit]) (z := v6) (by decide) rfl rfl ty_arr88 (idx_lt hx10) ?_
   refine o_loadE (v := .i x10) (by decide) rfl (part_ix (xs := ([v2, v3, v4, v5] : List Int)) ty_agg3 ty_sc3 rfl hx10) ?_
   refine Oi (.b (x10 == 0)) ?_
   refine Ni ?_
   refine Ws ?_
   rcases bft (x10 == 0) with hb11 | hb11
   ·replace hM := ifT hM hb11
    refine Ct hb11 ?_
    refine r_exit ?_
    refine r_then_exit ?_
    refine r_blk_exit ?_
    exact w_goto v7 (.k (.k (.k (.k (.k .nil))))) ⟨(hS.keep [] rfl).up (by omega), hM⟩
   ·replace hM := ifF hM hb11
    refine Cf hb11 ?_
    refine r_skip ?_
    refine Ws ?_
    refine Sq ?_
    refine Sq ?_
    have hS0 := hS
    refine r_draw (n := 13) rfl (by kernel_rfl) ?_
    refine Om (.ep (srchC a0.1 a0.2 m0)) ?_
    refine o_nilE (by decide) rfl ?_
    refine Of ((srchC a0.1 a0.2 m0)) ty_fo114_0 ?_
    refine Olg (.agg (Wheel_.cells a0.1)) ty_agg71 ?_
    refine Olg (.agg [.i v2, .i v3, .i v4, .i v5, .i a1.place, .i a1.credit]) ty_agg90 ?_
    refine Om (.i v6) ?_
    obtain ⟨r12, hr12, hM⟩ := bindE hM
    refine o_call (bs := [.agg (Wheel_.cells a0.1), .agg [.i v2, .i v3, .i v4, .i v5, .i a1.place, .i a1.credit], .i v6, .b false]) (by decide) rfl rfl ((W_coins_wheel_after hr12).le (.k (.k (.k (.k .nil))))) ?_
    refine Om (.tup [.agg (Spot_.cells r12.1), .i r12.2]) ?_
    refine Ox (.agg (Spot_.cells r12.1)) ?_
    refine Ox (.i r12.2) ?_
    refine o_alloc hS (by decide) ty_zero90 (by omega) fun H hS => ?_
    refine o_store (v := .agg (Spot_.cells r12.1)) (ns := (Spot_.cells r12.1)) (L' := ([(g2 + 1 + 2 + 5 + 10, .cells (Spot_.cells r12.1))] ++ Lo v7)) 0 hS rfl rfl (.behind (by kernel_rfl)) rfl rfl ty_var90 nlb rfl fun H hS => ?_
    refine Oa (.i r12.2) ?_
    refine Ni ?_
    refine w_iceE (L' := ([] ++ Lo v7)) 0 7 hS rfl rfl rfl fun H hS => ?_
    refine Ws ?_
    refine Sq ?_
    refine Rg 7 ?_
    refine Om (f0) ?_
    refine Om (.i v6) ?_
    refine o_buildSlice (es := [[.i v6]]) hS (by decide) ty_es22 ty_el22 rfl ty_ef22 rfl (by decide) (by omega) fun H hS => ?_
    refine Olg (.agg (Spot_.cells r12.1)) ty_agg90 ?_
    refine Om (.i r12.2) ?_
    obtain ⟨r13, hr13, hM⟩ := bindE hM
    replace hS : St (fun i => i < g ∧ i ∉ ids (Lo st)) H0 ([(g2 + 1 + 2 + 5 + 13 + 2, .row 3 1)] ++ Lo v7) _ _ := hS
    refine o_state (bs := [.sl (.id (g2 + 1 + 2 + 5 + 13 + 2)) 1 (([v6] : List Int).map cI), .agg (Spot_.cells r12.1), .i r12.2]) (.inl rfl) hS (by decide) rfl rfl ((hf hr13).le (.cons (.sl _ _ _) (.k (.k .nil)))) (hk _ _).ids (by omega) fun H hS => ?_
    refine o_not (e := r13.1) (by decide) rfl ?_
    refine Ni ?_
    replace hS := hS.keep (L' := ([] ++ Lo r13.2)) [false] rfl
    refine Ws ?_
    rcases bft (!r13.1) with hb14 | hb14
    ·replace hM := ifT hM hb14
     refine Ct hb14 ?_
     refine r_ret ?_
     refine r_then_ret ?_
     refine r_blk_ret ?_
     refine w_goto_ret ?_
     refine w_round_ret ?_
     refine r_blk_ret ?_
     refine w_endS (x := .tup []) (f := fun r => .tup []) (fd := fun r => (Lo r.2)) (.inr rfl) ?_ (.refl _) (Option.some.inj hM) hS 0 rfl
     exact rfl
    ·replace hM := ifF hM hb14
     refine Cf hb14 ?_
     refine r_skip ?_
     refine Ws ?_
     refine Sq ?_
     refine w_join (J := Bool) (fun j => [(0, .ep (srchC a0.1 a0.2 m0)), (2, f0), (4, .ep [.i v2, .i v3, .i v4, .i v5, .i a1.place, .i a1.credit]), (6, .i v6), (17, .i (a0.1.Wheel.Coins.length : Int)), (18, .i v6), (50, .b j)]) (fun j H' g' => St (fun i => i < g ∧ i ∉ ids (Lo st)) H0 ([] ++ Lo r13.2) H' g' ∧ coins_search_next_j2 n (coins_search_next_l1 n a0 a1 aF m2) a0 a1 aF v2 v3 v4 v5 v6 r13 j = some r) ?_ ?_
     ·rintro v15 H g4 ⟨hS, hM⟩
      change wpA _ _ _ _ (Fr.of [(0, .ep (srchC a0.1 a0.2 m0)), (2, f0), (4, .ep [.i v2, .i v3, .i v4, .i v5, .i a1.place, .i a1.credit]), (6, .i v6), (17, .i (a0.1.Wheel.Coins.length : Int)), (18, .i v6), (50, .b v15)]) _ _
      replace hS : St (fun i => i < g ∧ i ∉ ids (Lo st)) H0 ([] ++ Lo r13.2) H g4 := hS
      replace hM : coins_search_next_j2 n (coins_search_next_l1 n a0 a1 aF m2) a0 a1 aF v2 v3 v4 v5 v6 r13 v15 = some r := hM
      rcases bft v15 with hb16 | hb16
      ·replace hM := ifT hM hb16
       refine Ct hb16 ?_
       refine r_exit ?_
       refine r_then_exit ?_
       refine r_blk_exit ?_
       exact w_goto r13.2 (.k (.k (.k (.k (.k .nil))))) ⟨(hS.keep [] rfl).up (by omega), hM⟩
      ·replace hM := ifF hM hb16
       refine Cf hb16 ?_
       refine r_skip ?_
       refine Ws ?_
       refine Sq ?_
       have hS0 := hS
       refine r_draw (n := 13) rfl (by kernel_rfl) ?_
       refine Om (.ep (srchC a0.1 a0.2 m0)) ?_
       refine o_nilE (by decide) rfl ?_
       refine Of ((srchC a0.1 a0.2 m0)) ty_fo114_0 ?_
       refine Olg (.agg (Wheel_.cells a0.1)) ty_agg71 ?_
       refine Olg (.agg [.i v2, .i v3, .i v4, .i v5, .i a1.place, .i a1.credit]) ty_agg90 ?_
       refine Om (.i v6) ?_
       obtain ⟨r17, hr17, hM⟩ := bindE hM
       refine o_call (bs := [.agg (Wheel_.cells a0.1), .agg [.i v2, .i v3, .i v4, .i v5, .i a1.place, .i a1.credit], .i v6, .b true]) (by decide) rfl rfl ((W_coins_wheel_after hr17).le (.k (.k (.k (.k .nil))))) ?_
       refine Om (.tup [.agg (Spot_.cells r17.1), .i r17.2]) ?_
       refine Ox (.agg (Spot_.cells r17.1)) ?_
       refine Ox (.i r17.2) ?_
       refine o_alloc hS (by decide) ty_zero90 (by omega) fun H hS => ?_
       refine o_store (v := .agg (Spot_.cells r17.1)) (ns := (Spot_.cells r17.1)) (L' := ([(g4 + 10, .cells (Spot_.cells r17.1))] ++ Lo r13.2)) 0 hS rfl rfl (.behind (by kernel_rfl)) rfl rfl ty_var90 nlb rfl fun H hS => ?_
       refine Oa (.i r17.2) ?_
       refine Ni ?_
       refine w_iceE (L' := ([] ++ Lo r13.2)) 0 9 hS rfl rfl rfl fun H hS => ?_
       refine Ws ?_
       refine Sq ?_
       refine Rg 7 ?_
       refine Om (f0) ?_
       refine Om (.i v6) ?_
       refine o_buildSlice (es := [[.i (-1)], [.i v6]]) hS (by decide) ty_es22 ty_el22 rfl ty_ef22 rfl (by decide) (by omega) fun H hS => ?_
       refine Olg (.agg (Spot_.cells r17.1)) ty_agg90 ?_
       refine Om (.i r17.2) ?_
       obtain ⟨r18, hr18, hM⟩ := bindE hM
       replace hS : St (fun i => i < g ∧ i ∉ ids (Lo st)) H0 ([(g4 + 13 + 2, .row 3 2)] ++ Lo r13.2) _ _ := hS
       refine o_state (bs := [.sl (.id (g4 + 13 + 2)) 1 (([(-1), v6] : List Int).map cI), .agg (Spot_.cells r17.1), .i r17.2]) (.inl rfl) hS (by decide) rfl rfl ((hf hr18).le (.cons (.sl _ _ _) (.k (.k .nil)))) (hk _ _).ids (by omega) fun H hS => ?_
       refine o_not (e := r18.1) (by decide) rfl ?_
       refine Ni ?_
       replace hS := hS.keep (L' := ([] ++ Lo r18.2)) [false] rfl
       refine Ws ?_
       rcases bft (!r18.1) with hb19 | hb19
       ·replace hM := ifT hM hb19
        refine Ct hb19 ?_
        refine r_ret ?_
        refine r_blk_ret ?_
        refine w_goto_ret ?_
        refine w_round_ret ?_
        refine r_blk_ret ?_
        refine w_endS (x := .tup []) (f := fun r => .tup []) (fd := fun r => (Lo r.2)) (.inr rfl) ?_ (.refl _) (Option.some.inj hM) hS 0 rfl
        exact rfl
       ·replace hM := ifF hM hb19
        refine Cf hb19 ?_
        refine r_skip ?_
        refine r_blk_normal ?_
        exact w_goto r18.2 (.k (.k (.k (.k (.k .nil))))) ⟨(hS.keep [] rfl).up (by omega), hM⟩
     ·refine Rg 8 ?_
      refine Of ([.i v2, .i v3, .i v4, .i v5, .i a1.place, .i a1.credit]) ty_fo90_2 ?_
      refine Olp (.i a1.credit) ty_agg3 ty_sc3 ?_
      refine Oi (.b (a1.credit == 0)) ?_
      refine Om (.b (a1.credit == 0)) ?_
      rcases bft (a1.credit == 0) with hb20 | hb20
      ·replace hM := ifT hM hb20
       refine On (want := false) hb20 ?_
       refine On (want := false) hb20 ?_
       refine On (want := false) hb20 ?_
       refine Pt (.b true) hb20 ?_
       refine Ni ?_
       exact w_goto true (.k (.k (.k (.k (.k (.k (.k .nil))))))) ⟨(hS.keep [] rfl).up (by omega), hM⟩
      ·replace hM := ifF hM hb20
       refine Oy (want := false) hb20 ?_
       refine Of ([.i v2, .i v3, .i v4, .i v5, .i a1.place, .i a1.credit]) ty_fo90_1 ?_
       refine Oy (want := false) hb20 ?_
       refine Olp (.i a1.place) ty_agg3 ty_sc3 ?_
       refine Oy (want := false) hb20 ?_
       refine Oi (.b (a1.place == 0)) ?_
       refine Pf (.b (a1.place == 0)) hb20 ?_
       refine Ni ?_
       exact w_goto (a1.place == 0) (.k (.k (.k (.k (.k (.k (.k .nil))))))) ⟨(hS.keep [] rfl).up (by omega), hM⟩
 ·replace hM := ifF hM hb8
  refine Cf hb8 ?_
  refine r_exit ?_
  refine r_then_exit ?_
  refine w_round_exit ?_
  refine r_blk_exit ?_
  refine w_endS (x := .tup []) (f := fun r => .tup []) (fd := fun r => (Lo r.2)) (.inl rfl) ?_ (.refl _) (Option.some.inj hM) hS 0 rfl
  exact rfl
end Go.Proofs.Ytapcibbbmeomkaa
