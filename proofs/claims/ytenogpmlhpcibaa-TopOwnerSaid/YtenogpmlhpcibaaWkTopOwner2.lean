/-
  The code returns what the functions say (printed by gen.py).
  Conditions: none.
-/
import Derived.Test.YtenogpmlhpcibaaWkTopOwner1
import Derived.Test.YtenogpmlhpcibaaSh
import Derived.Test.YtenogpmlhpcibaaKs
import Derived.Test.YtenogpmlhpcibaaEn
set_option linter.all false
namespace Go.Proofs.Ytenogpmlhpcibaa
open Go Go.AM Go.Law
set_option linter.unusedVariables false
set_option maxRecDepth 4000
set_option maxHeartbeats 4000000
theorem W_coins_wheel_act {n:Nat} {a0:Wheel_} {a1:Stand} {a2:Int} {r:Stand} (hM:coins_wheel_act n a0 a1 a2=some r):PureSat Try.prog 89 [.agg (Wheel.cells a0.Wheel),.agg (Stand.cells a1),.i a2] (.agg [.i r.Place,.i r.Credit]):=by
 refine pure_of_wp mixed Try.func89 rfl (by decide) Try.ntmps89 (by simp) ?pure fun H0 g hf=>?_
 case pure=>exact .agg _ (pl_cons (.v _) (pl_cons (.v _) pl_nil))
 rw [frame0_of]
 change wpA _ _ _ _ (Fr.of [(0,.agg (Wheel.cells a0.Wheel)),(1,.agg (Stand.cells a1)),(2,.i a2)]) H0 g
 have hS:=St.start hf
 refine Sq ?_
 refine Rg 3 ?_
 refine o_box (v:=.agg (Wheel.cells a0.Wheel)) (cs:=(Wheel.cells a0.Wheel)) hS (by decide) rfl rfl (by omega) fun H hS=>?_
 refine o_box (v:=.agg (Stand.cells a1)) (cs:=(Stand.cells a1)) hS (by decide) rfl rfl (by omega) fun H hS=>?_
 refine o_alloc hS (by decide) ty_zero99 (by omega) fun H hS=>?_
 refine Ni ?_
 refine w_iceE (L':=[(g+2,.cells [.i 0,.i 0]),(g+1,.cells (Stand.cells a1))]) 2 3 hS rfl rfl rfl fun H hS=>?_
 refine w_iceE (L':=[(g+2,.cells [.i 0,.i 0])]) 1 4 hS rfl rfl rfl fun H hS=>?_
 refine Ws ?_
 refine Sq ?_
 refine r_block ?_
 refine Sq ?_
 refine Rg 3 ?_
 refine Om (.i a2) ?_
 refine Oi (.b (a2 != (-1))) ?_
 refine Oa (.b (a2 != (-1))) ?_
 refine Ni ?_
 refine Ws ?_
 rcases bft (a2 != (-1)) with hb1 | hb1
 ·replace hM:=ifT hM hb1
  refine Ct hb1 ?_
  refine Sq ?_
  have hS0:=hS
  refine r_draw (n:=15) rfl (by kernel_rfl) ?_
  refine Olg (.agg (Wheel.cells a0.Wheel)) ty_agg125 ?_
  refine Of ((Stand.cells a1)) ty_fo99_0 ?_
  refine Olp (.i a1.Place) ty_agg3 ty_sc3 ?_
  refine Of ((Wheel.cells a0.Wheel)) ty_fo125_0 ?_
  refine Of ((Wheel.cells a0.Wheel)) ty_fo24_2 ?_
  refine Olp (.sl .no 1 (a0.Wheel.Coins.map cI)) ty_agg22 ty_sc22 ?_
  refine Om (.i a2) ?_
  obtain ⟨x2,hx2,hM⟩:=bindE hM
  refine o_index (xs:=a0.Wheel.Coins) (f:=cI) (z:=a2) (u:=x2) (by decide) rfl rfl ty_es22 hx2 ?_
  refine Olp (.i x2) ty_agg3 ty_sc3 ?_
  obtain ⟨r3,hr3,hM⟩:=bindE hM
  refine o_call (bs:=[.agg (Wheel.cells a0.Wheel),.i a1.Place,.i x2]) (by decide) rfl rfl ((W_coins_wheel_turn hr3).le (.k (.k (.k .nil)))) ?_
  refine Om (.tup [.i r3.1,.i r3.2]) ?_
  refine Ox (.i r3.1) ?_
  refine Ox (.i r3.2) ?_
  refine Oa (.i r3.1) ?_
  refine Oa (.i r3.2) ?_
  refine Ni ?_
  refine Ws ?_
  refine Sq ?_
  refine Rg 7 ?_
  refine Om (.i r3.1) ?_
  refine Of ((Stand.cells a1)) ty_fo99_1 ?_
  refine Olp (.i a1.Credit) ty_agg3 ty_sc3 ?_
  refine Om (.i r3.2) ?_
  refine Oi (.i (w64 (a1.Credit+r3.2))) ?_
  refine o_build (cs:=[.i r3.1,.i (w64 (a1.Credit+r3.2))]) (by decide) ty_zero99 ty_pl99 rfl ?_
  refine o_store (v:=.agg [.i r3.1,.i (w64 (a1.Credit+r3.2))]) (ns:=[.i r3.1,.i (w64 (a1.Credit+r3.2))]) (L':=[(g+2,.cells [.i r3.1,.i (w64 (a1.Credit+r3.2))])]) 0 hS rfl rfl .no rfl rfl ty_var99 nlb rfl fun H hS=>?_
  refine Ni ?_
  refine Ws ?_
  refine r_ret ?_
  refine r_blk_ret ?_
  refine r_then_ret ?_
  refine w_end (x:=.agg [.i r3.1,.i (w64 (a1.Credit+r3.2))]) (f:=fun r=>.agg [.i r.Place,.i r.Credit]) (.inr rfl) ?_ (.refl _) (Option.some.inj hM) hS
  exact (res_one (res_cell (x:=.agg [.i r3.1,.i (w64 (a1.Credit+r3.2))]) 0 hS rfl rfl (pg ty_agg99)))
 ·replace hM:=ifF hM hb1
  refine Cf hb1 ?_
  refine Sq ?_
  refine Rg 4 ?_
  refine Of ((Stand.cells a1)) ty_fo99_1 ?_
  refine Olp (.i a1.Credit) ty_agg3 ty_sc3 ?_
  refine Oi (.b (decide (a1.Credit>0))) ?_
  refine Oa (.b (decide (a1.Credit>0))) ?_
  refine Ni ?_
  refine Ws ?_
  rcases bft (decide (a1.Credit>0)) with hb4 | hb4
  ·replace hM:=ifT hM hb4
   refine Ct hb4 ?_
   refine Sq ?_
   refine Rg 5 ?_
   refine Of ((Stand.cells a1)) ty_fo99_1 ?_
   refine Olp (.i a1.Credit) ty_agg3 ty_sc3 ?_
   refine Oi (.i (w64 (a1.Credit-1))) ?_
   refine o_build (cs:=[.i 0,.i (w64 (a1.Credit-1))]) (by decide) ty_zero99 ty_pl99 rfl ?_
   refine o_store (v:=.agg [.i 0,.i (w64 (a1.Credit-1))]) (ns:=[.i 0,.i (w64 (a1.Credit-1))]) (L':=[(g+2,.cells [.i 0,.i (w64 (a1.Credit-1))])]) 0 hS rfl rfl .no rfl rfl ty_var99 nlb rfl fun H hS=>?_
   refine Ni ?_
   refine Ws ?_
   refine r_ret ?_
   refine r_blk_ret ?_
   refine r_then_ret ?_
   refine w_end (x:=.agg [.i 0,.i (w64 (a1.Credit-1))]) (f:=fun r=>.agg [.i r.Place,.i r.Credit]) (.inr rfl) ?_ (.refl _) (Option.some.inj hM) hS
   exact (res_one (res_cell (x:=.agg [.i 0,.i (w64 (a1.Credit-1))]) 0 hS rfl rfl (pg ty_agg99)))
  ·replace hM:=ifF hM hb4
   refine Cf hb4 ?_
   refine r_skip ?_
   refine r_blk_normal ?_
   refine Ws ?_
   refine Sq ?_
   refine Rg 2 ?_
   refine Olg (.agg (Stand.cells a1)) ty_agg99 ?_
   refine o_store (v:=.agg (Stand.cells a1)) (ns:=(Stand.cells a1)) (L':=[(g+2,.cells (Stand.cells a1))]) 0 hS rfl rfl .no rfl rfl ty_var99 nlb rfl fun H hS=>?_
   refine Ni ?_
   refine w_next [(6,.ptr (g+2) 0)] (.k .nil) ?_
   refine r_ret ?_
   refine w_end (x:=.agg (Stand.cells a1)) (f:=fun r=>.agg [.i r.Place,.i r.Credit]) (.inr rfl) ?_ (.refl _) (Option.some.inj hM) hS
   exact (res_one (res_cell (x:=.agg (Stand.cells a1)) 0 hS rfl rfl (pg ty_agg99)))
theorem W_coins_wheel_isPlace {a0:Wheel_} {a1:Int} {r:Bool} (hM:coins_wheel_isPlace a0 a1=some r):PureSat Try.prog 158 [.agg (Wheel.cells a0.Wheel),.i a1] (.b r):=by
 refine pure_of_wp mixed Try.func158 rfl (by decide) Try.ntmps158 (by simp) ?pure fun H0 g hf=>?_
 case pure=>exact .v _
 rw [frame0_of]
 change wpA _ _ _ _ (Fr.of [(0,.agg (Wheel.cells a0.Wheel)),(1,.i a1)]) H0 g
 have hS:=St.start hf
 refine Sq ?_
 refine Rg 2 ?_
 refine o_box (v:=.agg (Wheel.cells a0.Wheel)) (cs:=(Wheel.cells a0.Wheel)) hS (by decide) rfl rfl (by omega) fun H hS=>?_
 refine Oa (.b false) ?_
 refine Ni ?_
 refine w_iceE (L':=[]) 0 2 hS rfl rfl rfl fun H hS=>?_
 refine Ws ?_
 refine Sq ?_
 refine Rg 7 ?_
 refine Om (.i a1) ?_
 refine Of ((Wheel.cells a0.Wheel)) ty_fo125_0 ?_
 refine Of ((Wheel.cells a0.Wheel)) ty_fo24_0 ?_
 refine Olp (.i a0.Wheel.Round) ty_agg3 ty_sc3 ?_
 refine Oi (.i (w64 (a0.Wheel.Round-1))) ?_
 obtain ⟨r1,hr1,hM⟩:=bindE hM
 refine o_call (bs:=[.i a1,.i 0,.i (w64 (a0.Wheel.Round-1))]) (by decide) rfl rfl ((W_coins_within hr1).le (.k (.k (.k .nil)))) ?_
 refine Oa (.b r1) ?_
 refine Ni ?_
 refine Ws ?_
 refine r_ret ?_
 refine w_end (x:=.b r1) (f:=fun r=>.b r) (.inr rfl) ?_ (.refl _) (Option.some.inj hM) hS
 exact (res_one (res_tmp (x:=.b r1) rfl))
theorem W_coins_all_int_c1 {S:Type} {Lo:S→BL} (hk:∀s s',KinL (Lo s) (Lo s')) (hnd:∀s,(ids (Lo s)).Nodup) (hin:∀s,InB In (Lo s)) {aF:Int→S→Option (Bool×S)} {f0:AV} (hF:∀s H,Has H (Lo s)→In H f0) (h0:cellsOf f0=some [f0]) (hf:∀{x0:Int} {s:S} {r:Bool×S},aF x0 s=some r→CSat Try.prog f0 [.i x0] (Lo s) (.b r.1) (Lo r.2)) {a0:Int} {st:S} {r:Bool×S} (hM:coins_all_int_c1 aF a0 st=some r):HSat Try.prog 175 [.i a0,.ep [f0]] (Lo st) (.b r.1) (Lo r.2):=by
 have hnd0:∀s,(ids (Lo s)).Nodup:=fun s=>hnd s
 refine hsat_of_wp mixed Try.func175 rfl (by decide) Try.ntmps175 (by simp) (hk _ _) (hnd st) ?pure ?cells fun H0 g hf_ hp=>?_
 case pure=>exact fun H _=>(show Go.AM.Pure _ from .v _).inH
 case cells=>exact hin _
 rw [frame0_of]
 change wpA _ _ _ _ (Fr.of [(0,.i a0),(1,.ep [f0])]) H0 g
 have hS:=St.startH (L:=([]++Lo st)) hf_ (hnd st) hp
 replace hS:St (fun i=>i<g∧i∉ids (Lo st)) H0 ([]++Lo st) H0 g:=hS
 refine Sq ?_
 refine Rg 1 ?_
 refine Oa (.b false) ?_
 refine Ni ?_
 refine Ws ?_
 refine Sq ?_
 refine Rg 5 ?_
 refine Olp (f0) ty_agg104 ty_sc104 ?_
 refine Om (.i a0) ?_
 obtain ⟨r1,hr1,hM⟩:=bindE hM
 replace hS:St (fun i=>i<g∧i∉ids (Lo st)) H0 ([]++Lo st) _ _:=hS
 refine o_state (bs:=[.i a0]) (.inl rfl) hS (by decide) rfl rfl ((hf hr1).le (.k .nil)) (hk _ _).ids (by omega) fun H hS=>?_
 refine o_not (e:=r1.1) (by decide) rfl ?_
 refine Oa (.b (!r1.1)) ?_
 refine Ni ?_
 refine Ws ?_
 refine r_ret ?_
 refine w_endS (x:=.b (!r1.1)) (f:=fun r=>.b r.1) (fd:=fun r=>(Lo r.2)) (.inr rfl) ?_ (.refl _) (Option.some.inj hM) hS 0 rfl
 exact (res_one (res_tmp (x:=.b (!r1.1)) rfl))
theorem W_coins_all_int {S:Type} {Lo:S→BL} (hk:∀s s',KinL (Lo s) (Lo s')) (hnd:∀s,(ids (Lo s)).Nodup) (hin:∀s,InB In (Lo s)) {aF:Int→S→Option (Bool×S)} {f0:AV} (hF:∀s H,Has H (Lo s)→In H f0) (h0:cellsOf f0=some [f0]) (hf:∀{x0:Int} {s:S} {r:Bool×S},aF x0 s=some r→CSat Try.prog f0 [.i x0] (Lo s) (.b r.1) (Lo r.2)) {n:Nat} {a0:List Int} {st:S} {r:Bool×S} (hM:coins_all_int n aF a0 st=some r):HSat Try.prog 159 [.sl .no 1 (a0.map cI),f0] (Lo st) (.b r.1) (Lo r.2):=by
 have hnd0:∀s,(ids (Lo s)).Nodup:=fun s=>hnd s
 refine hsat_of_wp mixed Try.func159 rfl (by decide) Try.ntmps159 (by simp) (hk _ _) (hnd st) ?pure ?cells fun H0 g hf_ hp=>?_
 case pure=>exact fun H _=>(show Go.AM.Pure _ from .v _).inH
 case cells=>exact hin _
 rw [frame0_of]
 change wpA _ _ _ _ (Fr.of [(0,.sl .no 1 (a0.map cI)),(1,f0)]) H0 g
 have hS:=St.startH (L:=([]++Lo st)) hf_ (hnd st) hp
 replace hS:St (fun i=>i<g∧i∉ids (Lo st)) H0 ([]++Lo st) H0 g:=hS
 refine Sq ?_
 refine Rg 2 ?_
 refine o_box (v:=f0) (cs:=[f0]) hS (by decide) rfl h0 (by omega) fun H hS=>?_
 refine Oa (.b false) ?_
 refine Ni ?_
 refine w_iceE (L':=([]++Lo st)) 0 3 hS rfl rfl rfl fun H hS=>?_
 refine Ws ?_
 refine w_join (J:=Bool×S) (fun j=>[(4,.b j.1)]) (fun j H' g'=>St (fun i=>i<g∧i∉ids (Lo st)) H0 ([]++Lo j.2) H' g'∧coins_all_int_j1 j.1 j.2=some r) ?_ ?_
 ·rintro ⟨v1,v2⟩ H g1 ⟨hS,hM⟩
  change wpA _ _ _ _ (Fr.of [(4,.b v1)]) _ _
  replace hS:St (fun i=>i<g∧i∉ids (Lo st)) H0 ([]++Lo v2) H g1:=hS
  replace hM:coins_all_int_j1 v1 v2=some r:=hM
  refine r_ret ?_
  refine w_endS (x:=.b v1) (f:=fun r=>.b r.1) (fd:=fun r=>(Lo r.2)) (.inr rfl) ?_ (.refl _) (Option.some.inj hM) hS 0 rfl
  exact (res_one (res_tmp (x:=.b v1) rfl))
 ·refine Rg 10 ?_
  refine Om (.sl .no 1 (a0.map cI)) ?_
  refine o_len (n:=a0.length) (by decide) rfl (List.length_map _) ty_isl22 ?_
  refine Oi (.b (decide ((a0.length:Int)≤20))) ?_
  refine Om (.b (decide ((a0.length:Int)≤20))) ?_
  rcases bft (decide ((a0.length:Int)≤20)) with hb3 | hb3
  ·replace hM:=ifT hM hb3
   refine Oy (want:=true) hb3 ?_
   refine Om (.sl .no 1 (a0.map cI)) ?_
   refine Oy (want:=true) hb3 ?_
   refine o_makeFunc (first:=[]) (cap:=[.ep [f0]]) (by decide) rfl rfl ?_
   refine Oy (want:=true) hb3 ?_
   obtain ⟨r4,hr4,hM⟩:=bindE hM
   replace hS:St (fun i=>i<g∧i∉ids (Lo st)) H0 ([]++Lo st) _ _:=hS
   refine o_stateH (bs:=[.sl .no 1 (a0.map cI),.fn (.func 175) [] [.ep [f0]]]) (.inl rfl) hS (by decide) rfl rfl ((W_slices_ContainsFunc_int (Lo:=Lo)  hk hnd0 hin (aF:=(coins_all_int_c1 aF)) (fun s H hH=>(.fn _ _ _ ai_nil (ai_cons (.ep _ (ai_cons (hF _ H hH) ai_nil)) ai_nil))) rfl (fun h=>csat_hv (W_coins_all_int_c1 (Lo:=Lo)  hk hnd0 hin hF h0 hf h)) hr4).le (.k (.k .nil))) (hk _ _).ids (by omega) fun H hS=>?_
   refine Oy (want:=true) hb3 ?_
   refine o_not (e:=r4.1) (by decide) rfl ?_
   refine Pt (.b (!r4.1)) hb3 ?_
   refine Oa (.b (!r4.1)) ?_
   refine Ni ?_
   exact w_goto ((!r4.1),r4.2) (.k .nil) ⟨(hS.keep [] rfl).up (by omega),hM⟩
  ·replace hM:=ifF hM hb3
   refine On (want:=true) hb3 ?_
   refine On (want:=true) hb3 ?_
   refine On (want:=true) hb3 ?_
   refine On (want:=true) hb3 ?_
   refine Pf (.b false) hb3 ?_
   refine Oa (.b false) ?_
   refine Ni ?_
   exact w_goto (false,st) (.k .nil) ⟨(hS.keep [] rfl).up (by omega),hM⟩
theorem W_coins_wheel_isKind {a0:Wheel_} {a1:Int} {r:Bool} (hM:coins_wheel_isKind a0 a1=some r):PureSat Try.prog 176 [.agg (Wheel.cells a0.Wheel),.i a1] (.b r):=by
 refine pure_of_wp mixed Try.func176 rfl (by decide) Try.ntmps176 (by simp) ?pure fun H0 g hf=>?_
 case pure=>exact .v _
 rw [frame0_of]
 change wpA _ _ _ _ (Fr.of [(0,.agg (Wheel.cells a0.Wheel)),(1,.i a1)]) H0 g
 have hS:=St.start hf
 refine Sq ?_
 refine Rg 2 ?_
 refine o_box (v:=.agg (Wheel.cells a0.Wheel)) (cs:=(Wheel.cells a0.Wheel)) hS (by decide) rfl rfl (by omega) fun H hS=>?_
 refine Oa (.b false) ?_
 refine Ni ?_
 refine w_iceE (L':=[]) 0 2 hS rfl rfl rfl fun H hS=>?_
 refine Ws ?_
 refine Sq ?_
 refine Rg 8 ?_
 refine Om (.i a1) ?_
 refine Of ((Wheel.cells a0.Wheel)) ty_fo125_0 ?_
 refine Of ((Wheel.cells a0.Wheel)) ty_fo24_2 ?_
 refine Olp (.sl .no 1 (a0.Wheel.Coins.map cI)) ty_agg22 ty_sc22 ?_
 refine o_len (n:=a0.Wheel.Coins.length) (by decide) rfl (List.length_map _) ty_isl22 ?_
 refine Oi (.i (w64 ((a0.Wheel.Coins.length:Int)-1))) ?_
 obtain ⟨r1,hr1,hM⟩:=bindE hM
 refine o_call (bs:=[.i a1,.i 0,.i (w64 ((a0.Wheel.Coins.length:Int)-1))]) (by decide) rfl rfl ((W_coins_within hr1).le (.k (.k (.k .nil)))) ?_
 refine Oa (.b r1) ?_
 refine Ni ?_
 refine w_next [(4,.b r1)] (.k .nil) ?_
 refine r_ret ?_
 refine w_end (x:=.b r1) (f:=fun r=>.b r) (.inr rfl) ?_ (.refl _) (Option.some.inj hM) hS
 exact (res_one (res_tmp (x:=.b r1) rfl))
theorem W_coins_wheel_isAct {a0:Wheel_} {a1:Int} {r:Bool} (hM:coins_wheel_isAct a0 a1=some r):PureSat Try.prog 160 [.agg (Wheel.cells a0.Wheel),.i a1] (.b r):=by
 refine pure_of_wp mixed Try.func160 rfl (by decide) Try.ntmps160 (by simp) ?pure fun H0 g hf=>?_
 case pure=>exact .v _
 rw [frame0_of]
 change wpA _ _ _ _ (Fr.of [(0,.agg (Wheel.cells a0.Wheel)),(1,.i a1)]) H0 g
 have hS:=St.start hf
 refine Sq ?_
 refine Rg 2 ?_
 refine o_box (v:=.agg (Wheel.cells a0.Wheel)) (cs:=(Wheel.cells a0.Wheel)) hS (by decide) rfl rfl (by omega) fun H hS=>?_
 refine Oa (.b false) ?_
 refine Ni ?_
 refine w_iceE (L':=[]) 0 2 hS rfl rfl rfl fun H hS=>?_
 refine Ws ?_
 refine w_join (J:=Bool) (fun j=>[(4,.b j)]) (fun j H' g'=>St (·<g) H0 [] H' g'∧coins_wheel_isAct_j1 j=some r) ?_ ?_
 ·rintro v1 H g1 ⟨hS,hM⟩
  change wpA _ _ _ _ (Fr.of [(4,.b v1)]) _ _
  replace hS:St (·<g) H0 [] H g1:=hS
  replace hM:coins_wheel_isAct_j1 v1=some r:=hM
  refine r_ret ?_
  refine w_end (x:=.b v1) (f:=fun r=>.b r) (.inr rfl) ?_ (.refl _) (Option.some.inj hM) hS
  exact (res_one (res_tmp (x:=.b v1) rfl))
 ·refine Rg 8 ?_
  refine Om (.i a1) ?_
  refine Oi (.b (a1==(-1))) ?_
  refine Om (.b (a1==(-1))) ?_
  rcases bft (a1==(-1)) with hb2 | hb2
  ·replace hM:=ifT hM hb2
   refine On (want:=false) hb2 ?_
   refine On (want:=false) hb2 ?_
   refine On (want:=false) hb2 ?_
   refine Pt (.b true) hb2 ?_
   refine Oa (.b true) ?_
   refine Ni ?_
   exact w_goto true (.k .nil) ⟨(hS.keep [] rfl).up (by omega),hM⟩
  ·replace hM:=ifF hM hb2
   refine Oy (want:=false) hb2 ?_
   refine Olg (.agg (Wheel.cells a0.Wheel)) ty_agg125 ?_
   refine Oy (want:=false) hb2 ?_
   refine Om (.i a1) ?_
   refine Oy (want:=false) hb2 ?_
   obtain ⟨r3,hr3,hM⟩:=bindE hM
   refine o_call (bs:=[.agg (Wheel.cells a0.Wheel),.i a1]) (by decide) rfl rfl ((W_coins_wheel_isKind hr3).le (.k (.k .nil))) ?_
   refine Pf (.b r3) hb2 ?_
   refine Oa (.b r3) ?_
   refine Ni ?_
   exact w_goto r3 (.k .nil) ⟨(hS.keep [] rfl).up (by omega),hM⟩
theorem W_coins_Run_c1 {p1:Nat} (hnd:[p1].Nodup) {n:Nat} {a0:Wheel_} {a1:Stand} {a2:List Int} {r:Bool} (hM:coins_Run_c1 n a0 a1 a2=some r):HSat Try.prog 157 [.agg (Wheel.cells a0.Wheel),.ptr p1 0,.ep [.sl .no 1 (a2.map cI)]] [(p1,.cells (Stand.cells a1))] (.b r) [(p1,.cells (Stand.cells a1))]:=by
 refine hsat_of_wp mixed Try.func157 rfl (by decide) Try.ntmps157 (by simp) (kl_cells kl_nil) hnd ?pure ?cells fun H0 g hf_ hp=>?_
 case pure=>exact fun H _=>(show Go.AM.Pure _ from .v _).inH
 case cells=>exact (inb_st (ic_cells (ci_cons (.inl (.inl (.v _))) (ci_cons (.inl (.inl (.v _))) ci_nil)) ic_nil) inb_nil)
 rw [frame0_of]
 change wpA _ _ _ _ (Fr.of [(0,.agg (Wheel.cells a0.Wheel)),(1,.ptr p1 0),(2,.ep [.sl .no 1 (a2.map cI)])]) H0 g
 have hS:=St.startH (L:=[(p1,.cells (Stand.cells a1))]) hf_ hnd hp
 replace hS:St (fun i=>i<g∧i∉ids [(p1,.cells (Stand.cells a1))]) H0 [(p1,.cells (Stand.cells a1))] H0 g:=hS
 refine Sq ?_
 refine Rg 2 ?_
 refine o_box (v:=.agg (Wheel.cells a0.Wheel)) (cs:=(Wheel.cells a0.Wheel)) hS (by decide) rfl rfl (by omega) fun H hS=>?_
 refine Oa (.b false) ?_
 refine Ni ?_
 refine w_iceE (L':=[(p1,.cells (Stand.cells a1))]) 0 3 hS rfl rfl rfl fun H hS=>?_
 refine Ws ?_
 refine w_join (J:=Bool) (fun j=>[(4,.b j)]) (fun j H' g'=>St (fun i=>i<g∧i∉ids [(p1,.cells (Stand.cells a1))]) H0 [(p1,.cells (Stand.cells a1))] H' g'∧coins_Run_c1_j1 j=some r) ?_ ?_
 ·rintro v1 H g1 ⟨hS,hM⟩
  change wpA _ _ _ _ (Fr.of [(4,.b v1)]) _ _
  replace hS:St (fun i=>i<g∧i∉ids [(p1,.cells (Stand.cells a1))]) H0 [(p1,.cells (Stand.cells a1))] H g1:=hS
  replace hM:coins_Run_c1_j1 v1=some r:=hM
  refine r_ret ?_
  refine w_endS (x:=.b v1) (f:=fun r=>.b r) (fd:=fun r=>[(p1,.cells (Stand.cells a1))]) (.inr rfl) ?_ (.refl _) (Option.some.inj hM) hS 0 rfl
  exact (res_one (res_tmp (x:=.b v1) rfl))
 ·refine Rg 16 ?_
  refine Olg (.agg (Wheel.cells a0.Wheel)) ty_agg125 ?_
  refine o_fieldP (by decide) ty_fo99_0 rfl ?_
  refine o_load (v:=.i a1.Place) 0 hS (by decide) rfl rfl .no (po ty_agg3 ty_sc3) ?_
  obtain ⟨r2,hr2,hM⟩:=bindE hM
  refine o_call (bs:=[.agg (Wheel.cells a0.Wheel),.i a1.Place]) (by decide) rfl rfl ((W_coins_wheel_isPlace hr2).le (.k (.k .nil))) ?_
  refine Om (.b r2) ?_
  rcases bft r2 with hb3 | hb3
  ·replace hM:=ifT hM hb3
   refine Oy (want:=true) hb3 ?_
   refine o_fieldP (by decide) ty_fo99_1 rfl ?_
   refine Oy (want:=true) hb3 ?_
   refine o_load (v:=.i a1.Credit) 0 hS (by decide) rfl rfl .no (po ty_agg3 ty_sc3) ?_
   refine Oy (want:=true) hb3 ?_
   obtain ⟨r4,hr4,hM⟩:=bindE hM
   refine o_call (bs:=[.i a1.Credit,.i 0,.i 20]) (by decide) rfl rfl ((W_coins_within hr4).le (.k (.k (.k .nil)))) ?_
   refine Pt (.b r4) hb3 ?_
   refine Om (.b r4) ?_
   rcases bft r4 with hb5 | hb5
   ·replace hM:=ifT hM hb5
    refine Oy (want:=true) hb5 ?_
    refine Olp (.sl .no 1 (a2.map cI)) ty_agg22 ty_sc22 ?_
    refine Oy (want:=true) hb5 ?_
    refine Olg (.agg (Wheel.cells a0.Wheel)) ty_agg125 ?_
    refine Oy (want:=true) hb5 ?_
    refine o_makeFunc (first:=[.agg (Wheel.cells a0.Wheel)]) (cap:=[]) (by decide) rfl rfl ?_
    refine Oy (want:=true) hb5 ?_
    obtain ⟨r6,hr6,hM⟩:=bindE hM
    refine o_call (bs:=[.sl .no 1 (a2.map cI),.fn (.func 160) [.agg (Wheel.cells a0.Wheel)] []]) (by decide) rfl rfl (pure_of_hsat ((W_coins_all_int (Lo:=(fun (_:Unit)=>[]))  (fun _ _=>kl_nil) (fun _=>List.nodup_nil) (fun _=>inb_nil) (aF:=(fun (x0:Int) (_:Unit)=>(coins_wheel_isAct a0 x0).map fun y=>(y,()))) (fun _ H hH=>(.fn _ _ _ (ai_cons (show Go.AM.Pure _ from .agg _ (pl_cons (.v _) (pl_cons (.sl _ _ (pures_map (fun x=>(pl_cons (.v _) pl_nil)))) (pl_cons (.sl _ _ (pures_map (fun x=>(pl_cons (.v _) pl_nil)))) pl_nil)))).inH ai_nil) ai_nil)) rfl (fun h=>csat_val (W_coins_wheel_isAct (pure_some h))) hr6).le (.k (.k .nil)))) ?_
    refine Pt (.b r6.1) hb5 ?_
    refine Oa (.b r6.1) ?_
    refine Ni ?_
    exact w_goto r6.1 (.k .nil) ⟨(hS.keep [true] rfl).up (by omega),hM⟩
   ·replace hM:=ifF hM hb5
    refine On (want:=true) hb5 ?_
    refine On (want:=true) hb5 ?_
    refine On (want:=true) hb5 ?_
    refine On (want:=true) hb5 ?_
    refine Pf (.b false) hb5 ?_
    refine Oa (.b false) ?_
    refine Ni ?_
    exact w_goto false (.k .nil) ⟨(hS.keep [true] rfl).up (by omega),hM⟩
  ·replace hM:=ifF hM hb3
   refine On (want:=true) hb3 ?_
   refine On (want:=true) hb3 ?_
   refine On (want:=true) hb3 ?_
   refine Pf (.b false) hb3 ?_
   refine Om (.b false) ?_
   refine Og ?_
   refine Og ?_
   refine Og ?_
   refine Og ?_
   refine o_pickF (v:=.b false) (e:=false) (by decide) rfl rfl rfl ?_
   refine Oa (.b false) ?_
   refine Ni ?_
   exact w_goto false (.k .nil) ⟨(hS.keep [true] rfl).up (by omega),hM⟩
theorem W_coins_Run {n:Nat} {a0:Wheel} {a1:Stand} {a2:List Int} {r:Stand×Int×Int} (hM:coins_Run n a0 a1 a2=some r):PureSat Try.prog 131 [.agg (Wheel.cells a0),.agg (Stand.cells a1),.sl .no 1 (a2.map cI)] (.tup [.agg [.i r.1.Place,.i r.1.Credit],.i r.2.1,.i r.2.2]):=by
 refine pure_of_wp mixed Try.func131 rfl (by decide) Try.ntmps131 (by simp) ?pure fun H0 g hf=>?_
 case pure=>exact .tup _ (pl_cons (.agg _ (pl_cons (.v _) (pl_cons (.v _) pl_nil))) (pl_cons (.v _) (pl_cons (.v _) pl_nil)))
 rw [frame0_of]
 change wpA _ _ _ _ (Fr.of [(0,.agg (Wheel.cells a0)),(1,.agg (Stand.cells a1)),(2,.sl .no 1 (a2.map cI))]) H0 g
 have hS:=St.start hf
 refine Sq ?_
 refine Rg 6 ?_
 refine o_box (v:=.agg (Wheel.cells a0)) (cs:=(Wheel.cells a0)) hS (by decide) rfl rfl (by omega) fun H hS=>?_
 refine o_box (v:=.agg (Stand.cells a1)) (cs:=(Stand.cells a1)) hS (by decide) rfl rfl (by omega) fun H hS=>?_
 refine o_box (v:=.sl .no 1 (a2.map cI)) (cs:=[.sl .no 1 (a2.map cI)]) hS (by decide) rfl rfl (by omega) fun H hS=>?_
 refine o_alloc hS (by decide) ty_zero99 (by omega) fun H hS=>?_
 refine Oa (.i 0) ?_
 refine Oa (.i 0) ?_
 refine Ni ?_
 refine w_iceE (L':=[(g+3,.cells [.i 0,.i 0]),(g+2,.cells [.sl .no 1 (a2.map cI)]),(g+1,.cells (Stand.cells a1))]) 3 3 hS rfl rfl rfl fun H hS=>?_
 refine w_iceE (L':=[(g+3,.cells [.i 0,.i 0]),(g+1,.cells (Stand.cells a1))]) 1 5 hS rfl rfl rfl fun H hS=>?_
 refine Ws ?_
 refine Sq ?_
 refine Rg 9 ?_
 refine Olg (.agg (Wheel.cells a0)) ty_agg24 ?_
 refine o_makeFunc (first:=[]) (cap:=[.ptr (g+1) 0,.ep [.sl .no 1 (a2.map cI)]]) (by decide) rfl rfl ?_
 obtain ⟨r1,hr1,hM⟩:=bindE hM
 have hndr1:=hS.nd_at (ns:=[1]) (M:=[(g+1,.cells (Stand.cells a1))]) (M':=[(g+1,.cells (Stand.cells a1))]) (.cons rfl .nil) (by decide)
 have hncr1:=hS.nd_at (ns:=[1]) (M:=[(g+1,.cells (Stand.cells a1))]) (M':=[(g+1,.cells (Stand.cells a1))]) (.cons rfl .nil) (by decide)
 refine o_hsat (bs:=[.agg (Wheel.cells a0),.fn (.func 157) [] [.ptr (g+1) 0,.ep [.sl .no 1 (a2.map cI)]]]) (M:=[(g+1,.cells (Stand.cells a1))]) (M':=[(g+1,.cells (Stand.cells a1))]) (L':=[(g+3,.cells [.i 0,.i 0]),(g+1,.cells (Stand.cells a1))]) [1] (.inl rfl) hS (by decide) rfl rfl ((W_coins_open (Lo:=(fun (_:Unit)=>[(g+1,.cells (Stand.cells a1))]))  (fun _ _=>(kl_cells kl_nil)) (fun _=>hndr1) (fun s=>(inb_st (ic_cells (ci_cons (.inl (.inl (.v _))) (ci_cons (.inl (.inl (.v _))) ci_nil)) ic_nil) inb_nil)) (aF:=(fun (x0:Wheel_) (_:Unit)=>(coins_Run_c1 n x0 a1 a2).map fun y=>(y,()))) (fun s H hH=>(.fn _ _ _ ai_nil (ai_cons (in_ptr hH 0 rfl) (ai_cons (.ep _ (ai_cons (show Go.AM.Pure _ from .sl _ _ (pures_map (fun x=>(pl_cons (.v _) pl_nil)))).inH ai_nil)) ai_nil)))) rfl (fun h=>csat_hv (W_coins_Run_c1 (p1:=g+1)  hncr1 (pure_some h))) hr1).le (.k (.k .nil))) (.cons rfl .nil) rfl (by omega) fun H hS=>?_
 refine Om (.tup [.agg (Wheel.cells r1.1.1.Wheel),.i r1.1.2]) ?_
 refine Ox (.agg (Wheel.cells r1.1.1.Wheel)) ?_
 refine Ox (.i r1.1.2) ?_
 refine o_alloc hS (by decide) ty_zero125 (by omega) fun H hS=>?_
 refine o_store (v:=.agg (Wheel.cells r1.1.1.Wheel)) (ns:=(Wheel.cells r1.1.1.Wheel)) (L':=[(g+6+6,.cells (Wheel.cells r1.1.1.Wheel)),(g+3,.cells [.i 0,.i 0]),(g+1,.cells (Stand.cells a1))]) 0 hS rfl rfl .no rfl rfl ty_var125 nlb rfl fun H hS=>?_
 refine Oa (.i r1.1.2) ?_
 refine Ni ?_
 refine w_iceE (L':=[(g+3,.cells [.i 0,.i 0]),(g+1,.cells (Stand.cells a1))]) 0 9 hS rfl rfl rfl fun H hS=>?_
 refine Ws ?_
 refine Sq ?_
 refine Sq ?_
 refine Rg 2 ?_
 refine Om (.i r1.1.2) ?_
 refine Oi (.b (r1.1.2 != 0)) ?_
 refine Ni ?_
 refine Ws ?_
 rcases bft (r1.1.2 != 0) with hb2 | hb2
 ·replace hM:=ifT hM hb2
  refine Ct hb2 ?_
  refine Sq ?_
  refine Rg 5 ?_
  refine o_build (cs:=[.i 0,.i 0]) (by decide) ty_zero99 ty_pl99 rfl ?_
  refine Om (.i r1.1.2) ?_
  refine o_store (v:=.agg [.i 0,.i 0]) (ns:=[.i 0,.i 0]) (L':=[(g+3,.cells [.i 0,.i 0]),(g+1,.cells (Stand.cells a1))]) 0 hS rfl rfl .no rfl rfl ty_var99 nlb rfl fun H hS=>?_
  refine Oa (.i 0) ?_
  refine Oa (.i r1.1.2) ?_
  refine Ni ?_
  replace hS:=hS.keep (L':=[(g+3,.cells [.i 0,.i 0])]) [true,false] rfl
  refine Ws ?_
  refine r_ret ?_
  refine r_then_ret ?_
  refine w_end (x:=.tup [.agg [.i 0,.i 0],.i 0,.i r1.1.2]) (f:=fun r=>.tup [.agg [.i r.1.Place,.i r.1.Credit],.i r.2.1,.i r.2.2]) (.inr rfl) ?_ (.refl _) (Option.some.inj hM) hS
  exact (res_three (res_cell (x:=.agg [.i 0,.i 0]) 0 hS rfl rfl (pg ty_agg99)) (res_tmp (x:=.i 0) rfl) (res_tmp (x:=.i r1.1.2) rfl))
 ·replace hM:=ifF hM hb2
  refine Cf hb2 ?_
  refine r_skip ?_
  refine Ws ?_
  refine w_join (J:=Int×Int×Int) (fun j=>[(4,.ptr (g+1) 0),(6,.ptr (g+3) 0),(7,.i j.1)]) (fun j H' g'=>St (·<g) H0 [(g+3,.cells [.i 0,.i 0]),(g+1,.cells [.i j.2.1,.i j.2.2])] H' g'∧coins_Run_j1 j.1 j.2.1 j.2.2=some r) ?_ ?_
  ·rintro ⟨v3,v4,v5⟩ H g1 ⟨hS,hM⟩
   change wpA _ _ _ _ (Fr.of [(4,.ptr (g+1) 0),(6,.ptr (g+3) 0),(7,.i v3)]) _ _
   replace hS:St (·<g) H0 [(g+3,.cells [.i 0,.i 0]),(g+1,.cells [.i v4,.i v5])] H g1:=hS
   replace hM:coins_Run_j1 v3 v4 v5=some r:=hM
   refine Sq ?_
   refine Rg 5 ?_
   refine o_load (v:=.agg [.i v4,.i v5]) 1 hS (by decide) rfl rfl .no (pg ty_agg99) ?_
   refine Om (.i v3) ?_
   refine o_store (v:=.agg [.i v4,.i v5]) (ns:=[.i v4,.i v5]) (L':=[(g+3,.cells [.i v4,.i v5]),(g+1,.cells [.i v4,.i v5])]) 0 hS rfl rfl .no rfl rfl ty_var99 nlb rfl fun H hS=>?_
   refine Oa (.i v3) ?_
   refine Oa (.i 0) ?_
   refine Ni ?_
   replace hS:=hS.keep (L':=[(g+3,.cells [.i v4,.i v5])]) [true,false] rfl
   refine Ws ?_
   refine r_ret ?_
   refine w_end (x:=.tup [.agg [.i v4,.i v5],.i v3,.i 0]) (f:=fun r=>.tup [.agg [.i r.1.Place,.i r.1.Credit],.i r.2.1,.i r.2.2]) (.inr rfl) ?_ (.refl _) (Option.some.inj hM) hS
   exact (res_three (res_cell (x:=.agg [.i v4,.i v5]) 0 hS rfl rfl (pg ty_agg99)) (res_tmp (x:=.i v3) rfl) (res_tmp (x:=.i 0) rfl))
  ·refine Sq ?_
   refine Rg 3 ?_
   refine Olp (.sl .no 1 (a2.map cI)) ty_agg22 ty_sc22 ?_
   refine o_len (n:=a2.length) (by decide) rfl (List.length_map _) ty_isl22 ?_
   refine Om (.i 0) ?_
   refine Ni ?_
   refine Ws ?_
   refine r_block ?_
   refine w_loop (V:=Int×Int×Int×Int) (fun v=>[(4,.ptr (g+1) 0),(6,.ptr (g+3) 0),(7,.i v.1),(9,.ep (Wheel.cells r1.1.1.Wheel)),(22,.sl .no 1 (a2.map cI)),(23,.i (a2.length:Int)),(24,.i v.2.1)]) (fun v m3 H' g'=>St (·<g) H0 [(g+3,.cells [.i 0,.i 0]),(g+1,.cells [.i v.2.2.1,.i v.2.2.2])] H' g'∧coins_Run_l1 n a2 r1 m3 v.1 v.2.1 v.2.2.1 v.2.2.2=some r) (n:=n) (0,0,a1.Place,a1.Credit) (.k (.k (.k (.k (.k (.k (.k .nil))))))) ⟨(hS.keep [true,true] rfl).up (by omega),hM⟩ ?_
   rintro ⟨v8,v9,v10,v11⟩ m3 H g3 ⟨hS,hM⟩
   obtain _ | m3:=m3
   ·exact nomatch (show none=some _ from hM)
   change wpA _ _ _ _ (Fr.of [(4,.ptr (g+1) 0),(6,.ptr (g+3) 0),(7,.i v8),(9,.ep (Wheel.cells r1.1.1.Wheel)),(22,.sl .no 1 (a2.map cI)),(23,.i (a2.length:Int)),(24,.i v9)]) _ _
   replace hS:St (·<g) H0 [(g+3,.cells [.i 0,.i 0]),(g+1,.cells [.i v10,.i v11])] H g3:=hS
   replace hM:coins_Run_l1_b n a2 r1 (coins_Run_l1 n a2 r1 m3) v8 v9 v10 v11=some r:=hM
   refine Sq ?_
   refine Rg 1 ?_
   refine Oi (.b (decide (v9<(a2.length:Int)))) ?_
   refine Ni ?_
   refine Ws ?_
   refine Sq ?_
   rcases bft (decide (v9<(a2.length:Int))) with hb12 | hb12
   ·replace hM:=ifT hM hb12
    refine Ct hb12 ?_
    refine r_skip ?_
    refine Ws ?_
    refine Sq ?_
    refine r_block ?_
    refine Sq ?_
    refine Rg 3 ?_
    obtain ⟨x13,hx13,hM⟩:=bindE hM
    refine o_index (xs:=a2) (f:=cI) (z:=v9) (u:=x13) (by decide) rfl rfl ty_es22 hx13 ?_
    refine Olp (.i x13) ty_agg3 ty_sc3 ?_
    refine Oa (.i x13) ?_
    refine Ni ?_
    refine Ws ?_
    refine w_join (J:=Int) (fun j=>[(4,.ptr (g+1) 0),(6,.ptr (g+3) 0),(7,.i j),(9,.ep (Wheel.cells r1.1.1.Wheel)),(11,.i x13),(22,.sl .no 1 (a2.map cI)),(23,.i (a2.length:Int)),(24,.i v9)]) (fun j H' g'=>St (·<g) H0 [(g+3,.cells [.i 0,.i 0]),(g+1,.cells [.i v10,.i v11])] H' g'∧coins_Run_j2 n (coins_Run_l1 n a2 r1 m3) r1 v9 v10 v11 x13 j=some r) ?_ ?_
    ·rintro v14 H g4 ⟨hS,hM⟩
     change wpA _ _ _ _ (Fr.of [(4,.ptr (g+1) 0),(6,.ptr (g+3) 0),(7,.i v14),(9,.ep (Wheel.cells r1.1.1.Wheel)),(11,.i x13),(22,.sl .no 1 (a2.map cI)),(23,.i (a2.length:Int)),(24,.i v9)]) _ _
     replace hS:St (·<g) H0 [(g+3,.cells [.i 0,.i 0]),(g+1,.cells [.i v10,.i v11])] H g4:=hS
     replace hM:coins_Run_j2 n (coins_Run_l1 n a2 r1 m3) r1 v9 v10 v11 x13 v14=some r:=hM
     refine Rg 5 ?_
     refine Olg (.agg (Wheel.cells r1.1.1.Wheel)) ty_agg125 ?_
     refine o_load (v:=.agg [.i v10,.i v11]) 1 hS (by decide) rfl rfl .no (pg ty_agg99) ?_
     refine Om (.i x13) ?_
     obtain ⟨r15,hr15,hM⟩:=bindE hM
     refine o_call (bs:=[.agg (Wheel.cells r1.1.1.Wheel),.agg [.i v10,.i v11],.i x13]) (by decide) rfl rfl ((W_coins_wheel_act hr15).le (.k (.k (.k .nil)))) ?_
     refine o_store (v:=.agg (Stand.cells r15)) (ns:=(Stand.cells r15)) (L':=[(g+3,.cells [.i 0,.i 0]),(g+1,.cells (Stand.cells r15))]) 1 hS rfl rfl .no rfl rfl ty_var99 nlb rfl fun H hS=>?_
     refine Ni ?_
     refine r_blk_normal ?_
     refine Ws ?_
     refine Rg 2 ?_
     refine Oi (.i (w64 (v9+1))) ?_
     refine Om (.i (w64 (v9+1))) ?_
     refine Ni ?_
     exact w_round (v14,w64 (v9+1),r15.Place,r15.Credit) (Nat.lt_succ_self _) (.k (.k (.k (.k (.k (.k (.k .nil))))))) ⟨(hS.keep [true,true] rfl).up (by omega),hM⟩
    ·refine w_join (J:=Bool) (fun j=>[(4,.ptr (g+1) 0),(6,.ptr (g+3) 0),(7,.i v8),(9,.ep (Wheel.cells r1.1.1.Wheel)),(11,.i x13),(22,.sl .no 1 (a2.map cI)),(23,.i (a2.length:Int)),(24,.i v9),(34,.b j)]) (fun j H' g'=>St (·<g) H0 [(g+3,.cells [.i 0,.i 0]),(g+1,.cells [.i v10,.i v11])] H' g'∧coins_Run_j3 n (coins_Run_l1 n a2 r1 m3) r1 v8 v9 v10 v11 x13 j=some r) ?_ ?_
     ·rintro v16 H g5 ⟨hS,hM⟩
      change wpA _ _ _ _ (Fr.of [(4,.ptr (g+1) 0),(6,.ptr (g+3) 0),(7,.i v8),(9,.ep (Wheel.cells r1.1.1.Wheel)),(11,.i x13),(22,.sl .no 1 (a2.map cI)),(23,.i (a2.length:Int)),(24,.i v9),(34,.b v16)]) _ _
      replace hS:St (·<g) H0 [(g+3,.cells [.i 0,.i 0]),(g+1,.cells [.i v10,.i v11])] H g5:=hS
      replace hM:coins_Run_j3 n (coins_Run_l1 n a2 r1 m3) r1 v8 v9 v10 v11 x13 v16=some r:=hM
      rcases bft v16 with hb17 | hb17
      ·replace hM:=ifT hM hb17
       refine Ct hb17 ?_
       refine Rg 3 ?_
       refine Om (.i v8) ?_
       refine Oi (.i (w64 (v8+1))) ?_
       refine Oa (.i (w64 (v8+1))) ?_
       refine Ni ?_
       exact w_goto (w64 (v8+1)) (.k (.k (.k (.k (.k (.k (.k (.k .nil)))))))) ⟨(hS.keep [true,true] rfl).up (by omega),hM⟩
      ·replace hM:=ifF hM hb17
       refine Cf hb17 ?_
       refine r_skip ?_
       exact w_goto v8 (.k (.k (.k (.k (.k (.k (.k (.k .nil)))))))) ⟨(hS.keep [true,true] rfl).up (by omega),hM⟩
     ·refine Rg 7 ?_
      refine Om (.i x13) ?_
      refine Oi (.b (x13==(-1))) ?_
      refine Om (.b (x13==(-1))) ?_
      rcases bft (x13==(-1)) with hb18 | hb18
      ·replace hM:=ifT hM hb18
       refine Oy (want:=true) hb18 ?_
       refine o_fieldP (by decide) ty_fo99_1 rfl ?_
       refine Oy (want:=true) hb18 ?_
       refine o_load (v:=.i v11) 1 hS (by decide) rfl rfl .no (po ty_agg3 ty_sc3) ?_
       refine Oy (want:=true) hb18 ?_
       refine Oi (.b (decide (v11>0))) ?_
       refine Pt (.b (decide (v11>0))) hb18 ?_
       refine Ni ?_
       exact w_goto (decide (v11>0)) (.k (.k (.k (.k (.k (.k (.k (.k (.k .nil))))))))) ⟨(hS.keep [true,true] rfl).up (by omega),hM⟩
      ·replace hM:=ifF hM hb18
       refine On (want:=true) hb18 ?_
       refine On (want:=true) hb18 ?_
       refine On (want:=true) hb18 ?_
       refine Pf (.b false) hb18 ?_
       refine Ni ?_
       exact w_goto false (.k (.k (.k (.k (.k (.k (.k (.k (.k .nil))))))))) ⟨(hS.keep [true,true] rfl).up (by omega),hM⟩
   ·replace hM:=ifF hM hb12
    refine Cf hb12 ?_
    refine r_exit ?_
    refine r_then_exit ?_
    refine w_round_exit ?_
    refine r_blk_exit ?_
    exact w_goto (v8,v10,v11) (.k (.k (.k .nil))) ⟨(hS.keep [true,true] rfl).up (by omega),hM⟩
theorem W_takings_box_walk {n:Nat} {a0:Option Box_} {al:Bag_} {r:List (PointT_×Step_)} (hM:takings_box_walk n a0 al=some r):OwnM Try.prog 99 [pA Box_.cells a0,.agg (Bag_.cells al)] (mapIs (mpw kvPointT_ kvStep_ r)):=by
 refine ownM_of_wp mixed Try.func99 rfl (by decide) Try.ntmps99 (by simp) fun H0 g hf=>?_
 rw [frame0_of]
 change wpA _ _ _ _ (Fr.of [(0,pA Box_.cells a0),(1,.agg (Bag_.cells al))]) H0 g
 have hS:=St.start hf
 unfold takings_box_walk at hM
 obtain ⟨b,hb0,hM⟩:=bindE hM
 refine Sq ?_
 refine Rg 2 ?_
 refine o_box (v:=.agg (Bag_.cells al)) (cs:=(Bag_.cells al)) hS (by decide) rfl rfl (by omega) fun H hS=>?_
 refine Oa (.v (.map none)) ?_
 refine Ni ?_
 refine Ws ?_
 refine Sq ?_
 refine Rg 7 ?_
 refine o_makeMapW (kv:=kvPointT_) (cv:=kvStep_) hS (by decide) ty_map157 (by omega) fun H hS=>?_
 refine o_build (cs:=[.i 0,.i 0,.i 0,.i 0,.i 0,.i 0,.i 0]) (by decide) ty_zero155 ty_pl155 rfl ?_
 refine o_build (cs:=[.i (-2),.i 0,.i 0,.i 0,.i 0,.i 0,.i 0,.i 0]) (by decide) ty_zero187 ty_pl187 rfl ?_
 refine o_insertW (kv:=kvPointT_) (ok:=okPointT_) (cv:=kvStep_) (z0:=zeroStep) (M:=[]) (k:=zeroPt) (v:=⟨-2,zeroPt⟩) (M':=([(zeroPt,(⟨-2,zeroPt⟩:Step_))]:List (PointT_×Step_))) (L':=[(g+2+0,.obj none (mapIs (mpw kvPointT_ kvStep_ ([(zeroPt,(⟨-2,zeroPt⟩:Step_))]:List (PointT_×Step_))))),(g+0,.cells (Bag_.cells al))]) 0 keys155 (.inl rfl) hS rfl rfl rfl rfl ty_map157 zero_step (by decide) rfl fun H hS=>?_
 refine Om (.mp (g+2+0)) ?_
 refine o_alloc hS (by decide) ty_zero157 (by omega) fun H hS=>?_
 refine o_store (v:=.mp (g+2+0)) (ns:=[.mp (g+2+0)]) (L':=[(g+2+5,.cells [.mp (g+2+0)]),(g+2+0,.obj none (mapIs (mpw kvPointT_ kvStep_ ([(zeroPt,(⟨-2,zeroPt⟩:Step_))]:List (PointT_×Step_))))),(g+0,.cells (Bag_.cells al))]) 0 hS rfl rfl .no rfl rfl ty_var157 nlb rfl fun H hS=>?_
 refine Ni ?_
 refine Ws ?_
 refine Sq ?_
 refine Rg 4 ?_
 refine o_build (cs:=[.i 0,.i 0,.i 0,.i 0,.i 0,.i 0,.i 0]) (by decide) ty_zero155 ty_pl155 rfl ?_
 refine o_litM (e:=155) (es:=[[.i 0,.i 0,.i 0,.i 0,.i 0,.i 0,.i 0]]) hS (by decide) ty_es188 ty_el188 rfl ty_ef188 rfl (by decide) (by omega) fun H hS=>?_
 replace hS:St (·<g) H0 [quB PointT_.cells (g+2+7+1) [] [zeroPt],(g+2+5,.cells [.mp (g+2+0)]),(g+2+0,.obj none (mapIs (mpw kvPointT_ kvStep_ ([(zeroPt,(⟨-2,zeroPt⟩:Step_))]:List (PointT_×Step_))))),(g+0,.cells (Bag_.cells al))] H (g+2+7+1+1):=hS
 refine o_alloc hS (by decide) ty_zero188 (by omega) fun H hS=>?_
 refine o_store (v:=quV 7 (g+2+7+1) [] [zeroPt]) (ns:=[quV 7 (g+2+7+1) [] [zeroPt]]) (L':=[(g+2+7+2,.cells [quV 7 (g+2+7+1) [] [zeroPt]]),quB PointT_.cells (g+2+7+1) [] [zeroPt],(g+2+5,.cells [.mp (g+2+0)]),(g+2+0,.obj none (mapIs (mpw kvPointT_ kvStep_ ([(zeroPt,(⟨-2,zeroPt⟩:Step_))]:List (PointT_×Step_))))),(g+0,.cells (Bag_.cells al))]) 0 hS rfl rfl .no rfl rfl ty_var188 nlb rfl fun H hS=>?_
 refine Ni ?_
 refine Ws ?_
 replace hS:=hS.toHead (L':=[(g+2+0,.obj none (mapIs (mpw kvPointT_ kvStep_ ([(zeroPt,(⟨-2,zeroPt⟩:Step_))]:List (PointT_×Step_))))),(g+2+7+2,.cells [quV 7 (g+2+7+1) [] [zeroPt]]),quB PointT_.cells (g+2+7+1) [] [zeroPt],(g+2+5,.cells [.mp (g+2+0)]),(g+0,.cells (Bag_.cells al))]) 3 nlb rfl
 replace hS:=hS.toHead (L':=[(g+2+7+2,.cells [quV 7 (g+2+7+1) [] [zeroPt]]),(g+2+0,.obj none (mapIs (mpw kvPointT_ kvStep_ ([(zeroPt,(⟨-2,zeroPt⟩:Step_))]:List (PointT_×Step_))))),quB PointT_.cells (g+2+7+1) [] [zeroPt],(g+2+5,.cells [.mp (g+2+0)]),(g+0,.cells (Bag_.cells al))]) 1 nlb rfl
 replace hS:=hS.toHead (L':=[(g+2+5,.cells [.mp (g+2+0)]),(g+2+7+2,.cells [quV 7 (g+2+7+1) [] [zeroPt]]),(g+2+0,.obj none (mapIs (mpw kvPointT_ kvStep_ ([(zeroPt,(⟨-2,zeroPt⟩:Step_))]:List (PointT_×Step_))))),quB PointT_.cells (g+2+7+1) [] [zeroPt],(g+0,.cells (Bag_.cells al))]) 3 nlb rfl
 replace hS:=hS.toHead (L':=[(g+0,.cells (Bag_.cells al)),(g+2+5,.cells [.mp (g+2+0)]),(g+2+7+2,.cells [quV 7 (g+2+7+1) [] [zeroPt]]),(g+2+0,.obj none (mapIs (mpw kvPointT_ kvStep_ ([(zeroPt,(⟨-2,zeroPt⟩:Step_))]:List (PointT_×Step_))))),quB PointT_.cells (g+2+7+1) [] [zeroPt]]) 4 nlb rfl
 replace hS:=hS.toHead (L':=[quB PointT_.cells (g+2+7+1) [] [zeroPt],(g+0,.cells (Bag_.cells al)),(g+2+5,.cells [.mp (g+2+0)]),(g+2+7+2,.cells [quV 7 (g+2+7+1) [] [zeroPt]]),(g+2+0,.obj none (mapIs (mpw kvPointT_ kvStep_ ([(zeroPt,(⟨-2,zeroPt⟩:Step_))]:List (PointT_×Step_)))))]) 4 nlb rfl
 refine Sq ?_
 refine r_block ?_
 refine w_loop (V:=Seen_×Nat×List AV) (fun v=>[(0,pA Box_.cells a0),(3,.ptr (g+0) 0),(5,.ptr (g+2+5) 0),(6,.ptr (g+2+7+2) 0)]) (fun v k H' g'=>St (·<g) H0 [quB PointT_.cells v.2.1 v.2.2 v.1.2,(g+0,.cells (Bag_.cells al)),(g+2+5,.cells [.mp (g+2+0)]),(g+2+7+2,.cells [quV 7 v.2.1 v.2.2 v.1.2]),(g+2+0,.obj none (mapIs (mpw kvPointT_ kvStep_ v.1.1)))] H' g'∧(∀c,c∈v.2.2→Go.AM.Pure c)∧takings_walk_l n b al k v.1=some r) (n:=n) ((([(zeroPt,(⟨-2,zeroPt⟩:Step_))]:List (PointT_×Step_)),[zeroPt]),(g+2+7+1),[]) (.k (.k (.k (.k .nil)))) ⟨hS.up (by omega),(fun c h=>by simp at h),hM⟩ ?_
 rintro ⟨⟨S1,S2⟩,q,pre⟩ m H g1 ⟨hS,hpre,hM⟩
 obtain _ | m:=m
 ·exact nomatch (show none=some _ from hM)
 replace hpre:∀c,c∈pre→Go.AM.Pure c:=hpre
 change wpA _ _ _ _ (Fr.of [(0,pA Box_.cells a0),(3,.ptr (g+0) 0),(5,.ptr (g+2+5) 0),(6,.ptr (g+2+7+2) 0)]) _ _
 replace hS:St (·<g) H0 [quB PointT_.cells q pre S2,(g+0,.cells (Bag_.cells al)),(g+2+5,.cells [.mp (g+2+0)]),(g+2+7+2,.cells [quV 7 q pre S2]),(g+2+0,.obj none (mapIs (mpw kvPointT_ kvStep_ S1)))] H g1:=hS
 refine Sq ?_
 refine Sq ?_
 refine Rg 3 ?_
 refine o_load (v:=quV 7 q pre S2) 3 hS (by decide) rfl rfl .no (po ty_agg188 ty_sc188) ?_
 refine o_lenms (n:=S2.length) (by decide) rfl ty_isl188 ?_
 refine Oi (.b (decide ((S2.length:Int)>0))) ?_
 refine Ni ?_
 refine Ws ?_
 cases S2 with
 | nil =>
  obtain rfl:S1=r:=Option.some.inj hM
  refine w_condF (e:=decide ((([]:List PointT_).length:Int)>0)) rfl (by decide) ?_
  refine r_exit ?_
  refine r_then_exit ?_
  refine w_round_exit ?_
  refine r_blk_exit ?_
  refine Ws ?_
  refine Sq ?_
  refine Rg 2 ?_
  refine o_load (v:=.mp (g+2+0)) 2 hS (by decide) rfl rfl .no (po ty_agg157 ty_sc157) ?_
  refine Oa (.mp (g+2+0)) ?_
  refine Ni ?_
  refine Ws ?_
  refine r_ret ?_
  exact w_endMp (j:=(g+2+0)) 4 (.inr rfl) (res_one (res_tmp rfl)) hS rfl rfl
 | cons x xs =>
  replace hM:Option.bind (takings_walk_s n b al x (S1,xs)) (fun S1=>Option.bind (takings_walk_k n b al x n 0 S1) fun S2=>takings_walk_l n b al m S2)=some r:=hM
  obtain ⟨SA,hSA,hM⟩:=bindE hM
  obtain ⟨SB,hSB,hM⟩:=bindE hM
  refine w_condT (e:=decide (((x::xs).length:Int)>0)) rfl (decide_eq_true (by rw [List.length_cons];omega)) ?_
  refine r_skip ?_
  refine Ws ?_
  refine r_block ?_
  refine Sq ?_
  refine Rg 5 ?_
  refine o_load (v:=quV 7 q pre (x::xs)) 3 hS (by decide) rfl rfl .no (po ty_agg188 ty_sc188) ?_
  refine o_queueAt (k:=7) (by decide) rfl rfl ty_es188 ?_
  refine o_queueHead (k:=7) (f:=PointT_.cells) hS (by decide) rfl .no ty_agg155 (fun _=>rfl) ?_
  refine o_alloc hS (by decide) ty_zero155 (by omega) fun H hS=>?_
  refine o_store (v:=.agg (PointT_.cells x)) (ns:=(PointT_.cells x)) (L':=[(g1+3+3,.cells (PointT_.cells x)),quB PointT_.cells q pre (x::xs),(g+0,.cells (Bag_.cells al)),(g+2+5,.cells [.mp (g+2+0)]),(g+2+7+2,.cells [quV 7 q pre (x::xs)]),(g+2+0,.obj none (mapIs (mpw kvPointT_ kvStep_ S1)))]) 0 hS rfl rfl .no rfl rfl ty_var155 nlb rfl fun H hS=>?_
  refine Ni ?_
  refine Ws ?_
  refine Sq ?_
  refine Rg 3 ?_
  refine o_load (v:=quV 7 q pre (x::xs)) 4 hS (by decide) rfl rfl .no (po ty_agg188 ty_sc188) ?_
  refine o_queueOut (k:=7) (f:=PointT_.cells) (by decide) rfl rfl ty_es188 (fun _=>rfl) ?_
  refine o_store (v:=quV 7 q (pre++x.cells) xs) (ns:=[quV 7 q (pre++x.cells) xs]) (L':=[(g1+3+3,.cells (PointT_.cells x)),quB PointT_.cells q pre (x::xs),(g+0,.cells (Bag_.cells al)),(g+2+5,.cells [.mp (g+2+0)]),(g+2+7+2,.cells [quV 7 q (pre++x.cells) xs]),(g+2+0,.obj none (mapIs (mpw kvPointT_ kvStep_ S1)))]) 4 hS rfl rfl .no rfl rfl ty_var188 nlb rfl fun H hS=>?_
  refine Ni ?_
  rw [quB_out] at hS
  have hpre1:∀c,c∈pre++x.cells→Go.AM.Pure c:=fun c hc=>by
   rcases List.mem_append.1 hc with hc | hc
   ·exact hpre c hc
   ·exact (show ∀c,c∈(PointT_.cells x)→Go.AM.Pure c from pl_cons (.v _) (pl_cons (.v _) (pl_cons (.v _) (pl_cons (.v _) (pl_cons (.v _) (pl_cons (.v _) (pl_cons (.v _) pl_nil))))))) c hc
  generalize pre++x.cells=preX at hS hpre1 ⊢
  replace hS:=hS.perm (L':=[quB PointT_.cells q preX xs,(g+0,.cells (Bag_.cells al)),(g+2+5,.cells [.mp (g+2+0)]),(g1+3+3,.cells (PointT_.cells x)),(g+2+7+2,.cells [quV 7 q preX xs]),(g+2+0,.obj none (mapIs (mpw kvPointT_ kvStep_ S1)))]) (List.perm_append_comm (l₁:=[_,_,_]) (l₂:=[_]) |>.append_right _)
  refine Ws ?_
  refine Sq ?_
  refine Rg 2 ?_
  refine o_makeFunc (first:=[]) (cap:=[.ptr (g+0) 0,.ptr (g+2+5) 0,.ptr (g1+3+3) 0,.ptr (g+2+7+2) 0]) (by decide) rfl rfl ?_
  refine Oa (.fn (.func 129) [] [.ptr (g+0) 0,.ptr (g+2+5) 0,.ptr (g1+3+3) 0,.ptr (g+2+7+2) 0]) ?_
  refine Ni ?_
  refine Ws ?_
  refine w_join (J:=Seen_×Nat×List AV) (fun j=>[(0,pA Box_.cells a0),(3,.ptr (g+0) 0),(5,.ptr (g+2+5) 0),(6,.ptr (g+2+7+2) 0),(7,.ptr (g1+3+3) 0),(8,.fn (.func 129) [] [.ptr (g+0) 0,.ptr (g+2+5) 0,.ptr (g1+3+3) 0,.ptr (g+2+7+2) 0])]) (fun j H' g'=>St (·<g) H0 [quB PointT_.cells j.2.1 j.2.2 j.1.2,(g+0,.cells (Bag_.cells al)),(g+2+5,.cells [.mp (g+2+0)]),(g1+3+3,.cells (PointT_.cells x)),(g+2+7+2,.cells [quV 7 j.2.1 j.2.2 j.1.2]),(g+2+0,.obj none (mapIs (mpw kvPointT_ kvStep_ j.1.1)))] H' g'∧(∀c,c∈j.2.2→Go.AM.Pure c)∧j.1=SA) ?_ ?_
  rotate_left
  ·-- the selection
   refine Sq ?_
   refine Rg 10 ?_
   refine o_fieldP (by decide) ty_fo155_0 rfl ?_
   refine o_fieldP (by decide) ty_fo99_1 rfl ?_
   refine o_load (v:=.i x.Stand.Credit) 3 hS (by decide) rfl rfl .no (po ty_agg3 ty_sc3) ?_
   refine Oi (.b (decide (x.Stand.Credit>0))) ?_
   refine Om (.b (decide (x.Stand.Credit>0))) ?_
   rcases bft (decide (x.Stand.Credit>0)) with hc1 | hc1
   ·replace hSA:=ifT hSA hc1
    refine Oy (want:=true) hc1 ?_
    refine o_fieldP (by decide) ty_fo155_0 rfl ?_
    refine Oy (want:=true) hc1 ?_
    refine o_fieldP (by decide) ty_fo99_0 rfl ?_
    refine Oy (want:=true) hc1 ?_
    refine o_load (v:=.i x.Stand.Place) 3 hS (by decide) rfl rfl .no (po ty_agg3 ty_sc3) ?_
    refine Oy (want:=true) hc1 ?_
    refine Oi (.b (decide (x.Stand.Place>0))) ?_
    refine Pt (.b (decide (x.Stand.Place>0))) hc1 ?_
    refine Ni ?_
    refine Ws ?_
    rcases bft (decide (x.Stand.Place>0)) with hc2 | hc2
    ·replace hSA:=ifT hSA hc2
     refine Ct hc2 ?_
     refine Sq ?_
     have hS0:=hS
     refine r_draw (n:=19) rfl (by kernel_rfl) ?_
     refine Om (pA Box_.cells a0) ?_
     refine o_nilA (f:=Box_.cells) (p:=a0) (u:=b) (by decide) rfl hb0 ?_
     refine Of ((Box.cells b.Box)) ty_fo148_0 ?_
     refine Of ((Box.cells b.Box)) ty_fo26_0 ?_
     refine Olg (.agg (Wheel.cells b.Box.Wheel)) ty_agg24 ?_
     refine o_fieldP (by decide) ty_fo155_0 rfl ?_
     refine o_fieldP (by decide) ty_fo99_0 rfl ?_
     refine o_load (v:=.i x.Stand.Place) 3 hS (by decide) rfl rfl (.st hS0 3 rfl (by omega)) (po ty_agg3 ty_sc3) ?_
     refine o_build (cs:=[.i x.Stand.Place,.i 1]) (by decide) ty_zero99 ty_pl99 rfl ?_
     refine o_buildSlice (es:=[[.i (-1)]]) hS (by decide) ty_es22 ty_el22 rfl ty_ef22 rfl (by decide) (by omega) fun H hS=>?_
     obtain ⟨rr,hrr,hSA⟩:=bindE hSA
     refine o_call (bs:=[.agg (Wheel.cells b.Box.Wheel),.agg [.i x.Stand.Place,.i 1],.sl (.id (g1+3+5+3+2+10+9)) 1 (([-1]:List Int).map cI)]) (by decide) rfl rfl ((W_coins_Run hrr).le (.k (.k (.cons (.sl _ _ _) .nil)))) ?_
     refine Om (.tup [.agg (Stand.cells rr.1),.i rr.2.1,.i rr.2.2]) ?_
     refine Ox (.agg (Stand.cells rr.1)) ?_
     refine Ox (.i rr.2.1) ?_
     refine Ox (.i rr.2.2) ?_
     refine o_alloc hS (by decide) ty_zero99 (by omega) fun H hS=>?_
     refine o_store (v:=.agg (Stand.cells rr.1)) (ns:=(Stand.cells rr.1)) (L':=[(g1+3+5+3+2+10+15,.cells (Stand.cells rr.1)),(g1+3+5+3+2+10+9,.row 3 1),quB PointT_.cells q preX xs,(g+0,.cells (Bag_.cells al)),(g+2+5,.cells [.mp (g+2+0)]),(g1+3+3,.cells (PointT_.cells x)),(g+2+7+2,.cells [quV 7 q preX xs]),(g+2+0,.obj none (mapIs (mpw kvPointT_ kvStep_ S1)))]) 0 hS rfl rfl (.behind (by kernel_rfl)) rfl rfl ty_var99 nlb rfl fun H hS=>?_
     refine Oa (.i rr.2.1) ?_
     refine Oa (.i rr.2.2) ?_
     refine Ni ?_
     replace hS:=hS.keep (L':=[(g1+3+5+3+2+10+15,.cells (Stand.cells rr.1)),quB PointT_.cells q preX xs,(g+0,.cells (Bag_.cells al)),(g+2+5,.cells [.mp (g+2+0)]),(g1+3+3,.cells (PointT_.cells x)),(g+2+7+2,.cells [quV 7 q preX xs]),(g+2+0,.obj none (mapIs (mpw kvPointT_ kvStep_ S1)))]) [true,false,true,true,true,true,true,true] rfl
     refine w_iceE (L':=[quB PointT_.cells q preX xs,(g+0,.cells (Bag_.cells al)),(g+2+5,.cells [.mp (g+2+0)]),(g1+3+3,.cells (PointT_.cells x)),(g+2+7+2,.cells [quV 7 q preX xs]),(g+2+0,.obj none (mapIs (mpw kvPointT_ kvStep_ S1)))]) 0 9 hS rfl rfl rfl fun H hS=>?_
     refine Ws ?_
     refine Rg 14 ?_
     refine Om (.fn (.func 129) [] [.ptr (g+0) 0,.ptr (g+2+5) 0,.ptr (g1+3+3) 0,.ptr (g+2+7+2) 0]) ?_
     refine Of ((Stand.cells rr.1)) ty_fo99_0 ?_
     refine Olp (.i rr.1.Place) ty_agg3 ty_sc3 ?_
     refine o_fieldP (by decide) ty_fo155_0 rfl ?_
     refine o_fieldP (by decide) ty_fo99_1 rfl ?_
     refine o_load (v:=.i x.Stand.Credit) 3 hS (by decide) rfl rfl .no (po ty_agg3 ty_sc3) ?_
     refine Oi (.i (w64 (x.Stand.Credit-1))) ?_
     refine o_build (cs:=[.i rr.1.Place,.i (w64 (x.Stand.Credit-1))]) (by decide) ty_zero99 ty_pl99 rfl ?_
     refine o_fieldP (by decide) ty_fo155_1 rfl ?_
     refine o_load (v:=.agg (Bag_.cells x.in_)) 3 hS (by decide) rfl rfl .no (pg ty_agg153) ?_
     refine o_fieldP (by decide) ty_fo155_2 rfl ?_
     refine o_load (v:=.i x.bought) 3 hS (by decide) rfl rfl .no (po ty_agg3 ty_sc3) ?_
     refine o_build (cs:=[.i rr.1.Place,.i (w64 (x.Stand.Credit-1)),.i x.in_.c0,.i x.in_.c1,.i x.in_.c2,.i x.in_.c3,.i x.bought]) (by decide) ty_zero155 ty_pl155 rfl ?_
     refine o_rsat (M:=addM al x (g+0) (g+2+5) (g1+3+3) (g+2+7+2) (g+2+0) q preX (S1,xs)) (L:=[]) (.inl rfl) hS (by decide) rfl rfl (W_takings_box_walk_c1 hSA hpre1 (show (ids (addM al x (g+0) (g+2+5) (g1+3+3) (g+2+7+2) (g+2+0) q preX (S1,xs))).Nodup from hS.nd)) (by omega) ?_
     rintro v M' H g2 ⟨q2,pre2,rfl,rfl,hq2,hpr2⟩ hg2 hS
     have hpre2:∀c,c∈pre2→Go.AM.Pure c:=by rcases hpr2 with rfl | rfl;exact hpre1;exact fun c hc=>by simp at hc
     refine Ni ?_
     exact w_goto (SA,q2,pre2) (.k (.k (.k (.k (.k (.k .nil)))))) ⟨hS,hpre2,rfl⟩
    ·replace hSA:=ifF hSA hc2
     obtain rfl:=Option.some.inj hSA
     refine Cf hc2 ?_
     refine r_skip ?_
     exact w_goto ((S1,xs),q,preX) (.k (.k (.k (.k (.k (.k .nil)))))) ⟨hS.up (by omega),hpre1,rfl⟩
   ·replace hSA:=ifF hSA hc1
    obtain rfl:=Option.some.inj hSA
    refine On (want:=true) hc1 ?_
    refine On (want:=true) hc1 ?_
    refine On (want:=true) hc1 ?_
    refine On (want:=true) hc1 ?_
    refine Pf (.b false) hc1 ?_
    refine Ni ?_
    refine Ws ?_
    refine w_condF (e:=false) rfl rfl ?_
    refine r_skip ?_
    exact w_goto ((S1,xs),q,preX) (.k (.k (.k (.k (.k (.k .nil)))))) ⟨hS.up (by omega),hpre1,rfl⟩
  rintro ⟨SC,q,pre⟩ H g2 ⟨hS,hpre,rfl⟩
  replace hpre:∀c,c∈pre→Go.AM.Pure c:=hpre
  change wpA _ _ _ _ (Fr.of [(0,pA Box_.cells a0),(3,.ptr (g+0) 0),(5,.ptr (g+2+5) 0),(6,.ptr (g+2+7+2) 0),(7,.ptr (g1+3+3) 0),(8,.fn (.func 129) [] [.ptr (g+0) 0,.ptr (g+2+5) 0,.ptr (g1+3+3) 0,.ptr (g+2+7+2) 0])]) _ _
  replace hS:St (·<g) H0 [quB PointT_.cells q pre SC.2,(g+0,.cells (Bag_.cells al)),(g+2+5,.cells [.mp (g+2+0)]),(g1+3+3,.cells (PointT_.cells x)),(g+2+7+2,.cells [quV 7 q pre SC.2]),(g+2+0,.obj none (mapIs (mpw kvPointT_ kvStep_ SC.1)))] H g2:=hS
  refine Sq ?_
  refine Rg 8 ?_
  refine Om (pA Box_.cells a0) ?_
  refine o_nilA (f:=Box_.cells) (p:=a0) (u:=b) (by decide) rfl hb0 ?_
  refine Of ((Box.cells b.Box)) ty_fo148_0 ?_
  refine Of ((Box.cells b.Box)) ty_fo26_0 ?_
  refine Of ((Box.cells b.Box)) ty_fo24_2 ?_
  refine Olp (.sl .no 1 (b.Box.Wheel.Coins.map cI)) ty_agg22 ty_sc22 ?_
  refine o_len (n:=b.Box.Wheel.Coins.length) (by decide) rfl (List.length_map _) ty_isl22 ?_
  refine Om (.i 0) ?_
  refine Ni ?_
  refine Ws ?_
  refine r_block ?_
  refine w_loop (V:=Int×Seen_×Nat×List AV) (fun v=>[(0,pA Box_.cells a0),(3,.ptr (g+0) 0),(5,.ptr (g+2+5) 0),(6,.ptr (g+2+7+2) 0),(7,.ptr (g1+3+3) 0),(8,.fn (.func 129) [] [.ptr (g+0) 0,.ptr (g+2+5) 0,.ptr (g1+3+3) 0,.ptr (g+2+7+2) 0]),(77,.i (b.Box.Wheel.Coins.length:Int)),(78,.i v.1)]) (fun v k H' g'=>St (·<g) H0 [quB PointT_.cells v.2.2.1 v.2.2.2 v.2.1.2,(g+0,.cells (Bag_.cells al)),(g+2+5,.cells [.mp (g+2+0)]),(g1+3+3,.cells (PointT_.cells x)),(g+2+7+2,.cells [quV 7 v.2.2.1 v.2.2.2 v.2.1.2]),(g+2+0,.obj none (mapIs (mpw kvPointT_ kvStep_ v.2.1.1)))] H' g'∧(∀c,c∈v.2.2.2→Go.AM.Pure c)∧takings_walk_k n b al x k v.1 v.2.1=some SB) (n:=n) (0,SC,q,pre) (.k (.k (.k (.k (.k (.k (.k (.k .nil)))))))) ⟨hS.up (by omega),hpre,hSB⟩ ?_
  rintro ⟨k,SC,q,pre⟩ m3 H g3 ⟨hS,hpre,hSB⟩
  obtain _ | m3:=m3
  ·exact nomatch (show none=some _ from hSB)
  replace hpre:∀c,c∈pre→Go.AM.Pure c:=hpre
  change wpA _ _ _ _ (Fr.of [(0,pA Box_.cells a0),(3,.ptr (g+0) 0),(5,.ptr (g+2+5) 0),(6,.ptr (g+2+7+2) 0),(7,.ptr (g1+3+3) 0),(8,.fn (.func 129) [] [.ptr (g+0) 0,.ptr (g+2+5) 0,.ptr (g1+3+3) 0,.ptr (g+2+7+2) 0]),(77,.i (b.Box.Wheel.Coins.length:Int)),(78,.i k)]) _ _
  replace hS:St (·<g) H0 [quB PointT_.cells q pre SC.2,(g+0,.cells (Bag_.cells al)),(g+2+5,.cells [.mp (g+2+0)]),(g1+3+3,.cells (PointT_.cells x)),(g+2+7+2,.cells [quV 7 q pre SC.2]),(g+2+0,.obj none (mapIs (mpw kvPointT_ kvStep_ SC.1)))] H g3:=hS
  unfold takings_walk_k at hSB
  refine Sq ?_
  refine Rg 1 ?_
  refine Oi (.b (decide (k<(b.Box.Wheel.Coins.length:Int)))) ?_
  refine Ni ?_
  refine Ws ?_
  refine Sq ?_
  rcases bft (decide (k<(b.Box.Wheel.Coins.length:Int))) with hk1 | hk1
  rotate_left
  ·replace hSB:=ifF hSB hk1
   obtain rfl:=Option.some.inj hSB
   refine Cf hk1 ?_
   refine r_exit ?_
   refine r_then_exit ?_
   refine w_round_exit ?_
   refine r_blk_exit ?_
   refine r_blk_normal ?_
   exact w_round (SC,q,pre) (Nat.lt_succ_self _) (.k (.k (.k (.k .nil)))) ⟨(hS.keep (L':=[quB PointT_.cells q pre SC.2,(g+0,.cells (Bag_.cells al)),(g+2+5,.cells [.mp (g+2+0)]),(g+2+7+2,.cells [quV 7 q pre SC.2]),(g+2+0,.obj none (mapIs (mpw kvPointT_ kvStep_ SC.1)))]) [true,true,true,false,true,true] rfl).up (by omega),hpre,hM⟩
  replace hSB:=ifT hSB hk1
  refine Ct hk1 ?_
  refine r_skip ?_
  refine Ws ?_
  obtain ⟨e1,he1,hSB⟩:=bindE hSB
  obtain ⟨e2,he2,hSB⟩:=bindE hSB
  refine w_join (J:=Seen_×Nat×List AV) (fun j=>[(0,pA Box_.cells a0),(3,.ptr (g+0) 0),(5,.ptr (g+2+5) 0),(6,.ptr (g+2+7+2) 0),(7,.ptr (g1+3+3) 0),(8,.fn (.func 129) [] [.ptr (g+0) 0,.ptr (g+2+5) 0,.ptr (g1+3+3) 0,.ptr (g+2+7+2) 0]),(77,.i (b.Box.Wheel.Coins.length:Int)),(78,.i k)]) (fun j H' g'=>St (·<g) H0 [quB PointT_.cells j.2.1 j.2.2 j.1.2,(g+0,.cells (Bag_.cells al)),(g+2+5,.cells [.mp (g+2+0)]),(g1+3+3,.cells (PointT_.cells x)),(g+2+7+2,.cells [quV 7 j.2.1 j.2.2 j.1.2]),(g+2+0,.obj none (mapIs (mpw kvPointT_ kvStep_ j.1.1)))] H' g'∧(∀c,c∈j.2.2→Go.AM.Pure c)∧takings_walk_k n b al x m3 (w64 (k+1)) j.1=some SB) ?_ ?_
  ·rintro ⟨SD,q4,pre4⟩ H g4 ⟨hS,hpre4,hSB⟩
   change wpA _ _ _ _ (Fr.of [(0,pA Box_.cells a0),(3,.ptr (g+0) 0),(5,.ptr (g+2+5) 0),(6,.ptr (g+2+7+2) 0),(7,.ptr (g1+3+3) 0),(8,.fn (.func 129) [] [.ptr (g+0) 0,.ptr (g+2+5) 0,.ptr (g1+3+3) 0,.ptr (g+2+7+2) 0]),(77,.i (b.Box.Wheel.Coins.length:Int)),(78,.i k)]) _ _
   refine Rg 2 ?_
   refine Oi (.i (w64 (k+1))) ?_
   refine Om (.i (w64 (k+1))) ?_
   refine Ni ?_
   exact w_round (w64 (k+1),SD,q4,pre4) (Nat.lt_succ_self _) (.k (.k (.k (.k (.k (.k (.k (.k .nil)))))))) ⟨hS.up (by omega),hpre4,hSB⟩
  refine r_block ?_
  refine Sq ?_
  refine Rg 2 ?_
  refine Om (.i k) ?_
  refine Oa (.i k) ?_
  refine Ni ?_
  refine Ws ?_
  refine Sq ?_
  refine Sq ?_
  have hS0:=hS
  refine r_draw (n:=8) rfl (by kernel_rfl) ?_
  refine Om (.i k) ?_
  refine o_fieldP (by decide) ty_fo155_1 rfl ?_
  refine o_indexP (z:=k) (by decide) rfl rfl ty_arr153 (idx_lt he1) ?_
  refine o_loadX (xs:=([x.in_.c0,x.in_.c1,x.in_.c2,x.in_.c3]:List Int)) (z:=k) (u:=e1) (off:=0+2) 3 hS (by decide) rfl rfl (.st hS0 3 rfl (by omega)) rfl he1 ty_agg3 ty_sc3 ?_
  refine Om (.i k) ?_
  refine o_indexP (z:=k) (by decide) rfl rfl ty_arr153 (idx_lt he2) ?_
  refine o_loadX (xs:=([al.c0,al.c1,al.c2,al.c3]:List Int)) (z:=k) (u:=e2) (off:=0) 1 hS (by decide) rfl rfl (.st hS0 1 rfl (by omega)) rfl he2 ty_agg3 ty_sc3 ?_
  refine Oi (.b (e1==e2)) ?_
  refine Ni ?_
  refine Ws ?_
  rcases bft (e1==e2) with he | he
  ·replace hSB:=ifT hSB he
   refine Ct he ?_
   refine r_exit ?_
   refine r_then_exit ?_
   refine r_blk_exit ?_
   exact w_goto (SC,q,pre) (.k (.k (.k (.k (.k (.k (.k (.k .nil)))))))) ⟨hS.up (by omega),hpre,hSB⟩
  replace hSB:=ifF hSB he
  refine Cf he ?_
  refine r_skip ?_
  refine Ws ?_
  obtain ⟨rr,hrr,hSB⟩:=bindE hSB
  obtain ⟨u,hu,hSB⟩:=bindE hSB
  obtain ⟨SD,hSD,hSB⟩:=bindE hSB
  refine Sq ?_
  have hS0:=hS
  refine r_draw (n:=20) rfl (by kernel_rfl) ?_
  refine Om (pA Box_.cells a0) ?_
  refine o_nilA (f:=Box_.cells) (p:=a0) (u:=b) (by decide) rfl hb0 ?_
  refine Of ((Box.cells b.Box)) ty_fo148_0 ?_
  refine Of ((Box.cells b.Box)) ty_fo26_0 ?_
  refine Olg (.agg (Wheel.cells b.Box.Wheel)) ty_agg24 ?_
  refine o_fieldP (by decide) ty_fo155_0 rfl ?_
  refine o_fieldP (by decide) ty_fo99_0 rfl ?_
  refine o_load (v:=.i x.Stand.Place) 3 hS (by decide) rfl rfl (.st hS0 3 rfl (by omega)) (po ty_agg3 ty_sc3) ?_
  refine o_build (cs:=[.i x.Stand.Place,.i 0]) (by decide) ty_zero99 ty_pl99 rfl ?_
  refine Om (.i k) ?_
  refine o_buildSlice (es:=[[.i k]]) hS (by decide) ty_es22 ty_el22 rfl ty_ef22 rfl (by decide) (by omega) fun H hS=>?_
  refine o_call (bs:=[.agg (Wheel.cells b.Box.Wheel),.agg [.i x.Stand.Place,.i 0],.sl (.id (g3+1+2+8+10)) 1 (([k]:List Int).map cI)]) (by decide) rfl rfl ((W_coins_Run hrr).le (.k (.k (.cons (.sl _ _ _) .nil)))) ?_
  refine Om (.tup [.agg (Stand.cells rr.1),.i rr.2.1,.i rr.2.2]) ?_
  refine Ox (.agg (Stand.cells rr.1)) ?_
  refine Ox (.i rr.2.1) ?_
  refine Ox (.i rr.2.2) ?_
  refine o_alloc hS (by decide) ty_zero99 (by omega) fun H hS=>?_
  refine o_store (v:=.agg (Stand.cells rr.1)) (ns:=(Stand.cells rr.1)) (L':=[(g3+1+2+8+16,.cells (Stand.cells rr.1)),(g3+1+2+8+10,.row 3 1),quB PointT_.cells q pre SC.2,(g+0,.cells (Bag_.cells al)),(g+2+5,.cells [.mp (g+2+0)]),(g1+3+3,.cells (PointT_.cells x)),(g+2+7+2,.cells [quV 7 q pre SC.2]),(g+2+0,.obj none (mapIs (mpw kvPointT_ kvStep_ SC.1)))]) 0 hS rfl rfl (.behind (by kernel_rfl)) rfl rfl ty_var99 nlb rfl fun H hS=>?_
  refine Oa (.i rr.2.1) ?_
  refine Oa (.i rr.2.2) ?_
  refine Ni ?_
  replace hS:=hS.keep (L':=[(g3+1+2+8+16,.cells (Stand.cells rr.1)),quB PointT_.cells q pre SC.2,(g+0,.cells (Bag_.cells al)),(g+2+5,.cells [.mp (g+2+0)]),(g1+3+3,.cells (PointT_.cells x)),(g+2+7+2,.cells [quV 7 q pre SC.2]),(g+2+0,.obj none (mapIs (mpw kvPointT_ kvStep_ SC.1)))]) [true,false,true,true,true,true,true,true] rfl
  refine w_iceE (L':=[quB PointT_.cells q pre SC.2,(g+0,.cells (Bag_.cells al)),(g+2+5,.cells [.mp (g+2+0)]),(g1+3+3,.cells (PointT_.cells x)),(g+2+7+2,.cells [quV 7 q pre SC.2]),(g+2+0,.obj none (mapIs (mpw kvPointT_ kvStep_ SC.1)))]) 0 13 hS rfl rfl rfl fun H hS=>?_
  refine Ws ?_
  refine Sq ?_
  refine Rg 19 ?_
  refine Of ((Stand.cells rr.1)) ty_fo99_0 ?_
  refine Olp (.i rr.1.Place) ty_agg3 ty_sc3 ?_
  refine o_fieldP (by decide) ty_fo155_0 rfl ?_
  refine o_fieldP (by decide) ty_fo99_1 rfl ?_
  refine o_load (v:=.i x.Stand.Credit) 3 hS (by decide) rfl rfl .no (po ty_agg3 ty_sc3) ?_
  refine Of ((Stand.cells rr.1)) ty_fo99_1 ?_
  refine Olp (.i rr.1.Credit) ty_agg3 ty_sc3 ?_
  refine Oi (.i (w64 (x.Stand.Credit+rr.1.Credit))) ?_
  refine o_build (cs:=[.i rr.1.Place,.i (w64 (x.Stand.Credit+rr.1.Credit))]) (by decide) ty_zero99 ty_pl99 rfl ?_
  refine o_fieldP (by decide) ty_fo155_1 rfl ?_
  refine o_load (v:=.agg (Bag_.cells x.in_)) 3 hS (by decide) rfl rfl .no (pg ty_agg153) ?_
  refine o_fieldP (by decide) ty_fo155_2 rfl ?_
  refine o_load (v:=.i x.bought) 3 hS (by decide) rfl rfl .no (po ty_agg3 ty_sc3) ?_
  refine Of ((Stand.cells rr.1)) ty_fo99_1 ?_
  refine Olp (.i rr.1.Credit) ty_agg3 ty_sc3 ?_
  refine Oi (.i (w64 (x.bought+rr.1.Credit))) ?_
  refine o_build (cs:=[.i rr.1.Place,.i (w64 (x.Stand.Credit+rr.1.Credit)),.i x.in_.c0,.i x.in_.c1,.i x.in_.c2,.i x.in_.c3,.i (w64 (x.bought+rr.1.Credit))]) (by decide) ty_zero155 ty_pl155 rfl ?_
  refine o_alloc hS (by decide) ty_zero155 (by omega) fun H hS=>?_
  refine o_store (v:=.agg [.i rr.1.Place,.i (w64 (x.Stand.Credit+rr.1.Credit)),.i x.in_.c0,.i x.in_.c1,.i x.in_.c2,.i x.in_.c3,.i (w64 (x.bought+rr.1.Credit))]) (ns:=[.i rr.1.Place,.i (w64 (x.Stand.Credit+rr.1.Credit)),.i x.in_.c0,.i x.in_.c1,.i x.in_.c2,.i x.in_.c3,.i (w64 (x.bought+rr.1.Credit))]) (L':=[(g3+1+2+8+20+17,.cells [.i rr.1.Place,.i (w64 (x.Stand.Credit+rr.1.Credit)),.i x.in_.c0,.i x.in_.c1,.i x.in_.c2,.i x.in_.c3,.i (w64 (x.bought+rr.1.Credit))]),quB PointT_.cells q pre SC.2,(g+0,.cells (Bag_.cells al)),(g+2+5,.cells [.mp (g+2+0)]),(g1+3+3,.cells (PointT_.cells x)),(g+2+7+2,.cells [quV 7 q pre SC.2]),(g+2+0,.obj none (mapIs (mpw kvPointT_ kvStep_ SC.1)))]) 0 hS rfl rfl .no rfl rfl ty_var155 nlb rfl fun H hS=>?_
  refine Ni ?_
  refine Ws ?_
  refine Sq ?_
  refine Rg 8 ?_
  refine Om (.i k) ?_
  refine o_fieldP (by decide) ty_fo155_1 rfl ?_
  refine o_indexP (z:=k) (by decide) rfl rfl ty_arr153 (idx_lt he1) ?_
  refine o_loadX (xs:=([x.in_.c0,x.in_.c1,x.in_.c2,x.in_.c3]:List Int)) (z:=k) (u:=e1) (off:=0+2) 0 hS (by decide) rfl rfl .no rfl he1 ty_agg3 ty_sc3 ?_
  refine Oi (.i (w64 (e1+1))) ?_
  refine o_fieldP (by decide) ty_fo155_1 rfl ?_
  refine o_indexP (z:=k) (by decide) rfl rfl ty_arr153 (idx_lt he1) ?_
  refine o_storeX (xs:=([x.in_.c0,x.in_.c1,x.in_.c2,x.in_.c3]:List Int)) (u:=u) (z:=k) (v:=(w64 (e1+1))) (off:=0+2) (cs':=[.i rr.1.Place,.i (w64 (x.Stand.Credit+rr.1.Credit)),.i (u.getD 0 0),.i (u.getD 1 0),.i (u.getD 2 0),.i (u.getD 3 0),.i (w64 (x.bought+rr.1.Credit))]) (L':=[(g3+1+2+8+20+17,.cells [.i rr.1.Place,.i (w64 (x.Stand.Credit+rr.1.Credit)),.i (u.getD 0 0),.i (u.getD 1 0),.i (u.getD 2 0),.i (u.getD 3 0),.i (w64 (x.bought+rr.1.Credit))]),quB PointT_.cells q pre SC.2,(g+0,.cells (Bag_.cells al)),(g+2+5,.cells [.mp (g+2+0)]),(g1+3+3,.cells (PointT_.cells x)),(g+2+7+2,.cells [quV 7 q pre SC.2]),(g+2+0,.obj none (mapIs (mpw kvPointT_ kvStep_ SC.1)))]) 0 hS rfl rfl .no rfl rfl hu ty_var3 rfl rfl fun H hS=>?_
  refine Ni ?_
  replace hS:=hS.perm (L':=[quB PointT_.cells q pre SC.2,(g+0,.cells (Bag_.cells al)),(g+2+5,.cells [.mp (g+2+0)]),(g1+3+3,.cells (PointT_.cells x)),(g+2+7+2,.cells [quV 7 q pre SC.2]),(g+2+0,.obj none (mapIs (mpw kvPointT_ kvStep_ SC.1))),(g3+1+2+8+20+17,.cells [.i rr.1.Place,.i (w64 (x.Stand.Credit+rr.1.Credit)),.i (u.getD 0 0),.i (u.getD 1 0),.i (u.getD 2 0),.i (u.getD 3 0),.i (w64 (x.bought+rr.1.Credit))])]) (List.perm_append_comm (l₁:=[_,_,_,_,_,_]) (l₂:=[_]))
  refine Ws ?_
  refine Rg 4 ?_
  refine Om (.fn (.func 129) [] [.ptr (g+0) 0,.ptr (g+2+5) 0,.ptr (g1+3+3) 0,.ptr (g+2+7+2) 0]) ?_
  refine Om (.i k) ?_
  refine o_load (v:=.agg [.i rr.1.Place,.i (w64 (x.Stand.Credit+rr.1.Credit)),.i (u.getD 0 0),.i (u.getD 1 0),.i (u.getD 2 0),.i (u.getD 3 0),.i (w64 (x.bought+rr.1.Credit))]) 6 hS (by decide) rfl rfl .no (pg ty_agg155) ?_
  refine o_rsat (M:=addM al x (g+0) (g+2+5) (g1+3+3) (g+2+7+2) (g+2+0) q pre SC) (L:=[(g3+1+2+8+20+17,.cells [.i rr.1.Place,.i (w64 (x.Stand.Credit+rr.1.Credit)),.i (u.getD 0 0),.i (u.getD 1 0),.i (u.getD 2 0),.i (u.getD 3 0),.i (w64 (x.bought+rr.1.Credit))])]) (.inl rfl) hS (by decide) rfl rfl (W_takings_box_walk_c1 hSD hpre (show (ids (addM al x (g+0) (g+2+5) (g1+3+3) (g+2+7+2) (g+2+0) q pre SC)).Nodup from (hS.keep (L':=addM al x (g+0) (g+2+5) (g1+3+3) (g+2+7+2) (g+2+0) q pre SC) [true,true,true,true,true,true,false] rfl).nd)) (by omega) ?_
  rintro v M' H g4 ⟨q4,pre4,rfl,rfl,hq4,hpr4⟩ hg4 hS
  have hpre4:∀c,c∈pre4→Go.AM.Pure c:=by rcases hpr4 with rfl | rfl;exact hpre;exact fun c hc=>by simp at hc
  refine Ni ?_
  refine r_blk_normal ?_
  exact w_goto (SD,q4,pre4) (.k (.k (.k (.k (.k (.k (.k (.k .nil)))))))) ⟨hS.keep (L':=addM al x (g+0) (g+2+5) (g1+3+3) (g+2+7+2) (g+2+0) q4 pre4 SD) [true,true,true,true,true,true,false] rfl,hpre4,hSB⟩
theorem W_takings_box_put {n:Nat} {a0:Option Box_} {r:Bag_} (hM:takings_box_put n a0=some r):PureSat Try.prog 100 [pA Box_.cells a0] (.agg [.i r.c0,.i r.c1,.i r.c2,.i r.c3]):=by
 refine pure_of_wp mixed Try.func100 rfl (by decide) Try.ntmps100 (by simp) ?pure fun H0 g hf=>?_
 case pure=>exact .agg _ (pl_cons (.v _) (pl_cons (.v _) (pl_cons (.v _) (pl_cons (.v _) pl_nil))))
 rw [frame0_of]
 change wpA _ _ _ _ (Fr.of [(0,pA Box_.cells a0)]) H0 g
 have hS:=St.start hf
 refine Sq ?_
 refine Rg 1 ?_
 refine o_alloc hS (by decide) ty_zero153 (by omega) fun H hS=>?_
 refine Ni ?_
 refine Ws ?_
 refine Sq ?_
 refine Rg 1 ?_
 refine o_alloc hS (by decide) ty_zero153 (by omega) fun H hS=>?_
 refine Ni ?_
 refine Ws ?_
 refine w_join (J:=Int×Int×Int×Int) (fun j=>[(2,.ptr (g+0) 0),(3,.ptr (g+1+0) 0)]) (fun j H' g'=>St (·<g) H0 [(g+1+0,.cells [.i j.1,.i j.2.1,.i j.2.2.1,.i j.2.2.2]),(g+0,.cells [.i 0,.i 0,.i 0,.i 0])] H' g'∧takings_box_put_j1 j.1 j.2.1 j.2.2.1 j.2.2.2=some r) ?_ ?_
 ·rintro ⟨v1,v2,v3,v4⟩ H g1 ⟨hS,hM⟩
  change wpA _ _ _ _ (Fr.of [(2,.ptr (g+0) 0),(3,.ptr (g+1+0) 0)]) _ _
  replace hS:St (·<g) H0 [(g+1+0,.cells [.i v1,.i v2,.i v3,.i v4]),(g+0,.cells [.i 0,.i 0,.i 0,.i 0])] H g1:=hS
  replace hM:takings_box_put_j1 v1 v2 v3 v4=some r:=hM
  refine Sq ?_
  refine Rg 2 ?_
  refine o_load (v:=.agg [.i v1,.i v2,.i v3,.i v4]) 0 hS (by decide) rfl rfl .no (pg ty_agg153) ?_
  refine o_store (v:=.agg [.i v1,.i v2,.i v3,.i v4]) (ns:=[.i v1,.i v2,.i v3,.i v4]) (L':=[(g+1+0,.cells [.i v1,.i v2,.i v3,.i v4]),(g+0,.cells [.i v1,.i v2,.i v3,.i v4])]) 1 hS rfl rfl .no rfl rfl ty_var153 nlb rfl fun H hS=>?_
  refine Ni ?_
  replace hS:=hS.keep (L':=[(g+0,.cells [.i v1,.i v2,.i v3,.i v4])]) [false,true] rfl
  refine Ws ?_
  refine r_ret ?_
  refine w_end (x:=.agg [.i v1,.i v2,.i v3,.i v4]) (f:=fun r=>.agg [.i r.c0,.i r.c1,.i r.c2,.i r.c3]) (.inr rfl) ?_ (.refl _) (Option.some.inj hM) hS
  exact (res_one (res_cell (x:=.agg [.i v1,.i v2,.i v3,.i v4]) 0 hS rfl rfl (pg ty_agg153)))
 ·refine Sq ?_
  refine Rg 7 ?_
  refine Om (pA Box_.cells a0) ?_
  obtain ⟨x5,hx5,hM⟩:=bindE hM
  refine o_nilA (f:=Box_.cells) (p:=a0) (u:=x5) (by decide) rfl hx5 ?_
  refine Of ((Box.cells x5.Box)) ty_fo148_0 ?_
  refine Of ((Box.cells x5.Box)) ty_fo26_1 ?_
  refine Olp (.sl .no 1 (x5.Box.Found.map cI)) ty_agg22 ty_sc22 ?_
  refine o_len (n:=x5.Box.Found.length) (by decide) rfl (List.length_map _) ty_isl22 ?_
  refine Om (.i 0) ?_
  refine Ni ?_
  refine Ws ?_
  refine r_block ?_
  refine w_loop (V:=Int×Int×Int×Int×Int) (fun v=>[(0,pA Box_.cells a0),(2,.ptr (g+0) 0),(3,.ptr (g+1+0) 0),(10,.sl .no 1 (x5.Box.Found.map cI)),(11,.i (x5.Box.Found.length:Int)),(12,.i v.1)]) (fun v m3 H' g'=>St (·<g) H0 [(g+1+0,.cells [.i v.2.1,.i v.2.2.1,.i v.2.2.2.1,.i v.2.2.2.2]),(g+0,.cells [.i 0,.i 0,.i 0,.i 0])] H' g'∧takings_box_put_l1 a0 x5 m3 v.1 v.2.1 v.2.2.1 v.2.2.2.1 v.2.2.2.2=some r) (n:=n) (0,0,0,0,0) (.k (.k (.k (.k (.k (.k .nil)))))) ⟨(hS.keep [true,true] rfl).up (by omega),hM⟩ ?_
  rintro ⟨v7,v8,v9,v10,v11⟩ m3 H g3 ⟨hS,hM⟩
  obtain _ | m3:=m3
  ·exact nomatch (show none=some _ from hM)
  change wpA _ _ _ _ (Fr.of [(0,pA Box_.cells a0),(2,.ptr (g+0) 0),(3,.ptr (g+1+0) 0),(10,.sl .no 1 (x5.Box.Found.map cI)),(11,.i (x5.Box.Found.length:Int)),(12,.i v7)]) _ _
  replace hS:St (·<g) H0 [(g+1+0,.cells [.i v8,.i v9,.i v10,.i v11]),(g+0,.cells [.i 0,.i 0,.i 0,.i 0])] H g3:=hS
  replace hM:takings_box_put_l1_b a0 x5 (takings_box_put_l1 a0 x5 m3) v7 v8 v9 v10 v11=some r:=hM
  refine Sq ?_
  refine Rg 1 ?_
  refine Oi (.b (decide (v7<(x5.Box.Found.length:Int)))) ?_
  refine Ni ?_
  refine Ws ?_
  refine Sq ?_
  rcases bft (decide (v7<(x5.Box.Found.length:Int))) with hb12 | hb12
  ·replace hM:=ifT hM hb12
   refine Ct hb12 ?_
   refine r_skip ?_
   refine Ws ?_
   refine Sq ?_
   refine r_block ?_
   refine Sq ?_
   refine Rg 5 ?_
   refine Om (.i v7) ?_
   obtain ⟨x13,hx13,hM⟩:=bindE hM
   refine o_index (xs:=x5.Box.Found) (f:=cI) (z:=v7) (u:=x13) (by decide) rfl rfl ty_es22 hx13 ?_
   refine Olp (.i x13) ty_agg3 ty_sc3 ?_
   refine Oa (.i v7) ?_
   refine Oa (.i x13) ?_
   refine Ni ?_
   refine Ws ?_
   refine Rg 13 ?_
   refine Om (.i v7) ?_
   refine Om (.i x13) ?_
   refine Om (pA Box_.cells a0) ?_
   obtain ⟨x14,hx14,hM⟩:=bindE hM
   refine o_nilA (f:=Box_.cells) (p:=a0) (u:=x14) (by decide) rfl hx14 ?_
   refine Of ((Box.cells x14.Box)) ty_fo148_0 ?_
   refine Of ((Box.cells x14.Box)) ty_fo26_3 ?_
   refine Olp (.sl .no 1 (x14.Box.Slugs.map cI)) ty_agg22 ty_sc22 ?_
   refine Om (.i v7) ?_
   obtain ⟨x15,hx15,hM⟩:=bindE hM
   refine o_index (xs:=x14.Box.Slugs) (f:=cI) (z:=v7) (u:=x15) (by decide) rfl rfl ty_es22 hx15 ?_
   refine Olp (.i x15) ty_agg3 ty_sc3 ?_
   refine Oi (.i (w64 (x13+x15))) ?_
   obtain ⟨x16,hx16,hM⟩:=bindE hM
   refine o_indexP (z:=v7) (by decide) rfl rfl ty_arr153 (idx_lt hx16) ?_
   obtain ⟨l17,hl17,hM⟩:=bindE hM
   refine o_storeX (xs:=([v8,v9,v10,v11]:List Int)) (u:=l17) (z:=v7) (v:=(w64 (x13+x15))) (off:=0) (cs':=[.i (l17.getD 0 0),.i (l17.getD 1 0),.i (l17.getD 2 0),.i (l17.getD 3 0)]) (L':=[(g+1+0,.cells [.i (l17.getD 0 0),.i (l17.getD 1 0),.i (l17.getD 2 0),.i (l17.getD 3 0)]),(g+0,.cells [.i 0,.i 0,.i 0,.i 0])]) 0 hS rfl rfl .no rfl rfl hl17 ty_var3 rfl rfl fun H hS=>?_
   refine Ni ?_
   refine r_blk_normal ?_
   refine Ws ?_
   refine Rg 2 ?_
   refine Oi (.i (w64 (v7+1))) ?_
   refine Om (.i (w64 (v7+1))) ?_
   refine Ni ?_
   exact w_round (w64 (v7+1),(l17.getD 0 0),(l17.getD 1 0),(l17.getD 2 0),(l17.getD 3 0)) (Nat.lt_succ_self _) (.k (.k (.k (.k (.k (.k .nil)))))) ⟨(hS.keep [true,true] rfl).up (by omega),hM⟩
  ·replace hM:=ifF hM hb12
   refine Cf hb12 ?_
   refine r_exit ?_
   refine r_then_exit ?_
   refine w_round_exit ?_
   refine r_blk_exit ?_
   exact w_goto (v8,v9,v10,v11) (.k (.k .nil)) ⟨(hS.keep [true,true] rfl).up (by omega),hM⟩
theorem pure_box (b:Option Box_):Go.AM.Pure (pA Box_.cells b):=pure_pA (fun x=>pl_cons (.v _) (pl_cons (.sl _ _ (pures_map (fun x=>(pl_cons (.v _) pl_nil)))) (pl_cons (.sl _ _ (pures_map (fun x=>(pl_cons (.v _) pl_nil)))) (pl_cons (.sl _ _ (pures_map (fun x=>(pl_cons (.v _) pl_nil)))) (pl_cons (.sl _ _ (pures_map (fun x=>(pl_cons (.v _) pl_nil)))) (pl_cons (.sl _ _ (pures_map (fun x=>(pl_cons (.v _) pl_nil)))) (pl_cons (.v _) (pl_cons (.v _) pl_nil)))))))) b
theorem W_slices_Clone_int {a0:List Int} {r:List Int} (hM:slices_Clone_int a0=some r):FreshSat Try.prog 161 [.sl .no 1 (a0.map cI)] 3 1 (r.map cI):=by
 have hr:r=a0:=by
  unfold slices_Clone_int app at hM
  split at hM
  ·injection hM with hM;rw [←hM];rfl
  ·cases hM
 refine fresh_of_wp mixed Try.func161 rfl (by decide) Try.ntmps161 (by simp) ?pure fun H0 g hf=>?_
 case pure=>exact pures_map (fun x=>(pl_cons (.v _) pl_nil))
 rw [frame0_of]
 change wpA _ _ _ _ (Fr.of [(0,.sl .no 1 (a0.map cI))]) H0 g
 have hS:=St.start hf
 refine Sq ?_
 refine Rg 1 ?_
 refine Oa (.sl .nil 0 []) ?_
 refine Ni ?_
 refine Ws ?_
 refine Sq ?_
 refine Sq ?_
 refine Rg 2 ?_
 refine Om (.sl .no 1 (a0.map cI)) ?_
 refine o_nil (t:=22) (tg:=.no) (k:=1) (es:=a0.map cI) (e:=true) (by decide) rfl rfl rfl rfl ty_isl22 (fun _=>?_) (fun hnil=>?_)
 ·refine Ni ?_
  refine Ws ?_
  refine w_condF (e:=false==true) rfl rfl ?_
  refine r_skip ?_
  refine Ws ?_
  refine Sq ?_
  refine Rg 4 ?_
  refine o_buildSlice (es:=[]) hS (by decide) ty_es22 ty_el22 rfl ty_ef22 rfl (by decide) (by omega) fun H hS=>?_
  refine Om (.sl .no 1 (a0.map cI)) ?_
  refine o_append (xs:=([]:List Int)) (ys:=a0) (zs:=r) (f:=cI) (L':=[(g+1+2+0,.row 3 r.length)]) 0 hS (by decide) rfl rfl rfl rfl .no ty_es22 ty_el22 ty_ef22 hM rfl fun H hS=>?_
  refine Oa (.sl (.id (g+1+2+0)) 1 (r.map cI)) ?_
  refine Ni ?_
  refine Ws ?_
  refine r_ret ?_
  refine w_endF (j:=g+1+2+0) 0 (.inr rfl) ?_ hS rfl (List.length_map _).symm
  exact res_one (res_tmp rfl)
 ·refine Ni ?_
  refine Ws ?_
  refine w_condT (e:=true==true) rfl rfl ?_
  refine Sq ?_
  refine Rg 1 ?_
  refine Oa (.sl .nil 0 []) ?_
  refine Ni ?_
  refine Ws ?_
  refine r_ret ?_
  refine r_then_ret ?_
  refine w_endN (k':=0) (.inr rfl) ?_ hS (by decide) (by rw [hr];exact hnil)
  exact res_one (res_tmp rfl)
theorem W_takings_box_worth {n:Nat} {a0:Option Box_} {a1:List Int} {r:Int} (hM:takings_box_worth n a0 a1=some r):PureSat Try.prog 63 [pA Box_.cells a0,.sl .no 1 (a1.map cI)] (.i r):=by
 refine pure_of_wp mixed Try.func63 rfl (by decide) Try.ntmps63 (by simp) ?pure fun H0 g hf=>?_
 case pure=>exact .v _
 rw [frame0_of]
 change wpA _ _ _ _ (Fr.of [(0,pA Box_.cells a0),(1,.sl .no 1 (a1.map cI))]) H0 g
 have hS:=St.start hf
 refine Sq ?_
 refine Rg 1 ?_
 refine Oa (.i 0) ?_
 refine Ni ?_
 refine Ws ?_
 refine Sq ?_
 refine Rg 1 ?_
 refine Oa (.i 0) ?_
 refine Ni ?_
 refine Ws ?_
 refine w_join (J:=Int) (fun j=>[(5,.i j)]) (fun j H' g'=>St (·<g) H0 [] H' g'∧takings_box_worth_j1 j=some r) ?_ ?_
 ·rintro v1 H g1 ⟨hS,hM⟩
  change wpA _ _ _ _ (Fr.of [(5,.i v1)]) _ _
  replace hS:St (·<g) H0 [] H g1:=hS
  replace hM:takings_box_worth_j1 v1=some r:=hM
  refine Sq ?_
  refine Rg 2 ?_
  refine Om (.i v1) ?_
  refine Oa (.i v1) ?_
  refine Ni ?_
  refine Ws ?_
  refine r_ret ?_
  refine w_end (x:=.i v1) (f:=fun r=>.i r) (.inr rfl) ?_ (.refl _) (Option.some.inj hM) hS
  exact (res_one (res_tmp (x:=.i v1) rfl))
 ·refine Sq ?_
  refine Rg 3 ?_
  refine Om (.sl .no 1 (a1.map cI)) ?_
  refine o_len (n:=a1.length) (by decide) rfl (List.length_map _) ty_isl22 ?_
  refine Om (.i 0) ?_
  refine Ni ?_
  refine Ws ?_
  refine r_block ?_
  refine w_loop (V:=Int×Int) (fun v=>[(0,pA Box_.cells a0),(5,.i v.1),(8,.sl .no 1 (a1.map cI)),(9,.i (a1.length:Int)),(10,.i v.2)]) (fun v m2 H' g'=>St (·<g) H0 [] H' g'∧takings_box_worth_l1 a0 a1 m2 v.1 v.2=some r) (n:=n) (0,0) (.k (.k (.k (.k (.k .nil))))) ⟨(hS.keep [] rfl).up (by omega),hM⟩ ?_
  rintro ⟨v2,v3⟩ m2 H g2 ⟨hS,hM⟩
  obtain _ | m2:=m2
  ·exact nomatch (show none=some _ from hM)
  change wpA _ _ _ _ (Fr.of [(0,pA Box_.cells a0),(5,.i v2),(8,.sl .no 1 (a1.map cI)),(9,.i (a1.length:Int)),(10,.i v3)]) _ _
  replace hS:St (·<g) H0 [] H g2:=hS
  replace hM:takings_box_worth_l1_b a0 a1 (takings_box_worth_l1 a0 a1 m2) v2 v3=some r:=hM
  refine Sq ?_
  refine Rg 1 ?_
  refine Oi (.b (decide (v3<(a1.length:Int)))) ?_
  refine Ni ?_
  refine Ws ?_
  refine Sq ?_
  rcases bft (decide (v3<(a1.length:Int))) with hb4 | hb4
  ·replace hM:=ifT hM hb4
   refine Ct hb4 ?_
   refine r_skip ?_
   refine Ws ?_
   refine Sq ?_
   refine r_block ?_
   refine Sq ?_
   refine Rg 5 ?_
   refine Om (.i v3) ?_
   obtain ⟨x5,hx5,hM⟩:=bindE hM
   refine o_index (xs:=a1) (f:=cI) (z:=v3) (u:=x5) (by decide) rfl rfl ty_es22 hx5 ?_
   refine Olp (.i x5) ty_agg3 ty_sc3 ?_
   refine Oa (.i v3) ?_
   refine Oa (.i x5) ?_
   refine Ni ?_
   refine Ws ?_
   refine Rg 14 ?_
   refine Om (.i v2) ?_
   refine Om (.i x5) ?_
   refine Om (pA Box_.cells a0) ?_
   obtain ⟨x6,hx6,hM⟩:=bindE hM
   refine o_nilA (f:=Box_.cells) (p:=a0) (u:=x6) (by decide) rfl hx6 ?_
   refine Of ((Box.cells x6.Box)) ty_fo148_0 ?_
   refine Of ((Box.cells x6.Box)) ty_fo26_0 ?_
   refine Of ((Box.cells x6.Box)) ty_fo24_2 ?_
   refine Olp (.sl .no 1 (x6.Box.Wheel.Coins.map cI)) ty_agg22 ty_sc22 ?_
   refine Om (.i v3) ?_
   obtain ⟨x7,hx7,hM⟩:=bindE hM
   refine o_index (xs:=x6.Box.Wheel.Coins) (f:=cI) (z:=v3) (u:=x7) (by decide) rfl rfl ty_es22 hx7 ?_
   refine Olp (.i x7) ty_agg3 ty_sc3 ?_
   refine Oi (.i (w64 (x5*x7))) ?_
   refine Oi (.i (w64 (v2+(w64 (x5*x7))))) ?_
   refine Oa (.i (w64 (v2+(w64 (x5*x7))))) ?_
   refine Ni ?_
   refine r_blk_normal ?_
   refine Ws ?_
   refine Rg 2 ?_
   refine Oi (.i (w64 (v3+1))) ?_
   refine Om (.i (w64 (v3+1))) ?_
   refine Ni ?_
   exact w_round (w64 (v2+(w64 (x5*x7))),w64 (v3+1)) (Nat.lt_succ_self _) (.k (.k (.k (.k (.k .nil))))) ⟨(hS.keep [] rfl).up (by omega),hM⟩
  ·replace hM:=ifF hM hb4
   refine Cf hb4 ?_
   refine r_exit ?_
   refine r_then_exit ?_
   refine w_round_exit ?_
   refine r_blk_exit ?_
   exact w_goto v2 (.k .nil) ⟨(hS.keep [] rfl).up (by omega),hM⟩
def RevAt (xs ys:List Int) (i:Nat):Prop:=ys.length=xs.length∧∀k,k<xs.length→ys[k]?=if k<i∨xs.length≤k+i then xs[xs.length-1-k]? else xs[k]?
theorem rev_start (xs:List Int):RevAt xs xs 0:=⟨rfl,fun k hk=>by rw [if_neg (by omega)]⟩
theorem rev_end {xs ys:List Int} {i:Nat} (h:RevAt xs ys i) (hi:xs.length≤2*i+1):ys=xs.reverse:=by
 apply List.ext_getElem?
 intro k
 by_cases hk:k<xs.length
 ·rw [h.2 k hk,List.getElem?_reverse hk]
  split
  ·rfl
  ·congr 1
   omega
 ·rw [List.getElem?_eq_none (by rw [h.1];omega),List.getElem?_eq_none (by rw [List.length_reverse];omega)]
theorem rev_step {xs ys:List Int} {i:Nat} (h:RevAt xs ys i) (hi:2*i+1<xs.length) {a b:Int} (ha:ys[xs.length-1-i]?=some a) (hb:ys[i]?=some b):RevAt xs ((ys.set i a).set (xs.length-1-i) b) (i+1):=by
 have ha2:=h.2 (xs.length-1-i) (by omega)
 rw [if_neg (by omega)] at ha2
 have hb2:=h.2 i (by omega)
 rw [if_neg (by omega)] at hb2
 refine ⟨by simp [h.1],fun k hk=>?_⟩
 by_cases h1:k=xs.length-1-i
 ·subst h1
  rw [List.getElem?_set_self (by simp [h.1];omega),if_pos (by omega),←hb,hb2]
  congr 1
  omega
 ·rw [List.getElem?_set_ne (fun e=>h1 e.symm)]
  by_cases h2:k=i
  ·subst h2
   rw [List.getElem?_set_self (by rw [h.1];omega),if_pos (by omega),←ha,ha2]
  ·rw [List.getElem?_set_ne (fun e=>h2 e.symm),h.2 k hk]
   by_cases h3:k<i∨xs.length≤k+i
   ·rw [if_pos h3,if_pos (by omega)]
   ·rw [if_neg h3,if_neg (by omega)]
theorem W_slices_Reverse_int {xs:List Int} {j:Nat} (hx:xs≠[]) (hl:xs.length≤1048576):MutSat Try.prog 162 [.ms j 0 1 xs.length xs.length] j (xs.map cI).flatten (.tup []) (xs.reverse.map cI).flatten:=by
 refine mutI_of_wp mixed Try.func162 rfl (by decide) Try.ntmps162 (by simp) (fun H _=>.tup _ fun c hc=>by simp at hc) (pure_flat (fun x=>(pl_cons (.v _) pl_nil)) _) fun H0 g hf hp=>?_
 rw [frame0_of]
 have hn0:xs.length≠0:=fun e=>hx (List.length_eq_zero_iff.1 e)
 have hms:AV.ms j 0 1 xs.length xs.length=msn j 1 xs.length:=by unfold msn;rw [if_neg hn0]
 rw [hms]
 have hTn:∀ys:List Int,ys.length=xs.length→thawN j xs.length (ys.map cI)=[(j,.cells (ys.map cI).flatten)]:=fun ys hy=>by
  unfold thawN thawL
  rw [if_pos (by rw [List.length_map];exact hy),if_neg (fun e=>by rw [List.map_eq_nil_iff] at e;subst e;exact hn0 hy.symm)]
 change wpA _ _ _ _ (Fr.of [(0,msn j 1 xs.length)]) H0 g
 have hS:=St.startP hf hp
 replace hS:St (fun i=>i<g∧i≠j) H0 ([]++thawN j xs.length (xs.map cI)) H0 g:=by rw [List.nil_append,hTn xs rfl];exact hS
 refine Sq ?_
 refine Rg 5 ?_
 refine Om (msn j 1 xs.length) ?_
 refine o_lenM (by decide) rfl ty_isl22 ?_
 refine o_int (v:=.i ((xs.length:Int)-1)) (by decide) rfl rfl (by show some (AV.i (w64 ((xs.length:Int)-1)))=_;rw [w64_id (by omega) (by omega)]) ?_
 refine Oa (.i 0) ?_
 refine Oa (.i ((xs.length:Int)-1)) ?_
 refine Ni ?_
 refine Ws ?_
 refine r_block ?_
 refine w_loop (V:=Nat×List Int) (fun v=>[(0,msn j 1 xs.length),(2,.i (v.1:Int)),(3,.i ((xs.length:Int)-1-(v.1:Int)))]) (fun v k H' g'=>St (fun i=>i<g∧i≠j) H0 ([]++thawN j xs.length (v.2.map cI)) H' g'∧RevAt xs v.2 v.1∧k=xs.length-v.1) (n:=xs.length) (0,xs) (.k (.k (.cons (by show Le _ (AV.i ((xs.length:Int)-1));rw [show ((xs.length:Int)-1-((0:Nat):Int))=(xs.length:Int)-1 by omega];exact .refl _) .nil))) ⟨hS.up (by omega),rev_start xs,by omega⟩ ?_
 rintro ⟨p,ys⟩ k H g1 ⟨hS,hR,hk⟩
 change wpA _ _ _ _ (Fr.of [(0,msn j 1 xs.length),(2,.i (p:Int)),(3,.i ((xs.length:Int)-1-(p:Int)))]) _ _
 replace hS:St (fun i=>i<g∧i≠j) H0 ([]++thawN j xs.length (ys.map cI)) H g1:=hS
 replace hR:RevAt xs ys p:=hR
 replace hk:k=xs.length-p:=hk
 refine Sq ?_
 refine Sq ?_
 refine Rg 3 ?_
 refine Om (.i (p:Int)) ?_
 refine Om (.i ((xs.length:Int)-1-(p:Int))) ?_
 refine Oi (.b (decide ((p:Int)<(xs.length:Int)-1-(p:Int)))) ?_
 refine Ni ?_
 refine Ws ?_
 rcases bft (decide ((p:Int)<(xs.length:Int)-1-(p:Int))) with hb | hb
 rotate_left
 ·refine Cf hb ?_
  refine r_exit ?_
  refine r_then_exit ?_
  refine w_round_exit ?_
  refine r_blk_exit ?_
  have hb:=of_decide_eq_false hb
  obtain rfl:=rev_end hR (by omega)
  refine ⟨.inl rfl,⟨_,rfl,.refl _⟩,fun i hi=>(hS.old i hi).2,?_⟩
  rw [List.nil_append,hTn _ (List.length_reverse)] at hS
  exact hS.get (n:=0) rfl
 have hb2:=of_decide_eq_true hb
 have hlt:2*p+1<xs.length:=by omega
 obtain ⟨a,ha⟩:∃a,ys[xs.length-1-p]?=some a:=⟨_,List.getElem?_eq_getElem (by rw [hR.1];omega)⟩
 obtain ⟨c,hc⟩:∃c,ys[p]?=some c:=⟨_,List.getElem?_eq_getElem (by rw [hR.1];omega)⟩
 have ez:((xs.length:Int)-1-(p:Int)).toNat=xs.length-1-p:=by omega
 have hia:idx ys ((xs.length:Int)-1-(p:Int))=some a:=by unfold idx;rw [if_pos (by omega),ez];exact ha
 have hic:idx ys (p:Int)=some c:=by unfold idx;rw [if_pos (by omega)];exact hc
 refine Ct hb ?_
 refine r_skip ?_
 refine Ws ?_
 refine Sq ?_
 refine r_block ?_
 have hS0:=hS
 refine r_draw (n:=16) rfl (by kernel_rfl) ?_
 refine Om (msn j 1 xs.length) ?_
 refine Om (.i (p:Int)) ?_
 refine Om (msn j 1 xs.length) ?_
 refine Om (.i ((xs.length:Int)-1-(p:Int))) ?_
 refine Om (msn j 1 xs.length) ?_
 refine Om (.i ((xs.length:Int)-1-(p:Int))) ?_
 refine o_indexM (xs:=ys) (f:=cI) (z:=((xs.length:Int)-1-(p:Int))) (u:=a) hS (by decide) rfl rfl ty_es22 hia ?_
 refine o_loadM (xs:=ys) (z:=((xs.length:Int)-1-(p:Int))) (u:=a) hS (by decide) rfl hia (.tl hS0 hia (by omega)) ty_agg3 ty_sc3 ?_
 refine Om (msn j 1 xs.length) ?_
 refine Om (.i (p:Int)) ?_
 refine o_indexM (xs:=ys) (f:=cI) (z:=(p:Int)) (u:=c) hS (by decide) rfl rfl ty_es22 hic ?_
 refine o_loadM (xs:=ys) (z:=(p:Int)) (u:=c) hS (by decide) rfl hic (.tl hS0 hic (by omega)) ty_agg3 ty_sc3 ?_
 refine o_indexM (xs:=ys) (f:=cI) (z:=(p:Int)) (u:=c) hS (by decide) rfl rfl ty_es22 hic ?_
 refine o_storeM (xs:=ys) (z:=(p:Int)) (u:=c) (v:=a) hS rfl hic (.tl hS0 hic (by omega)) rfl ty_var3 fun H hS=>?_
 have hia2:idx (ys.set (p:Int).toNat a) ((xs.length:Int)-1-(p:Int))=some a:=by
  unfold idx
  rw [if_pos (by omega),ez,Int.toNat_natCast,List.getElem?_set_ne (by omega)]
  exact ha
 refine o_indexM (xs:=(ys.set (p:Int).toNat a)) (f:=cI) (z:=((xs.length:Int)-1-(p:Int))) (u:=a) hS (by decide) rfl rfl ty_es22 hia2 ?_
 refine o_storeM (xs:=(ys.set (p:Int).toNat a)) (z:=((xs.length:Int)-1-(p:Int))) (u:=a) (v:=c) hS rfl hia2 (.tl hS0 hia (by omega)) rfl ty_var3 fun H hS=>?_
 refine Ni ?_
 refine r_blk_normal ?_
 refine Ws ?_
 refine Rg 6 ?_
 refine Om (.i (p:Int)) ?_
 refine o_int (v:=.i ((p+1:Nat):Int)) (by decide) rfl rfl (by show some (AV.i (w64 ((p:Int)+1)))=_;rw [w64_id (by omega) (by omega)];rfl) ?_
 refine Om (.i ((xs.length:Int)-1-(p:Int))) ?_
 refine o_int (v:=.i ((xs.length:Int)-1-((p+1:Nat):Int))) (by decide) rfl rfl (by show some (AV.i (w64 ((xs.length:Int)-1-(p:Int)-1)))=_;rw [w64_id (by omega) (by omega)];exact congrArg (fun z:Int=>some (AV.i z)) (by omega)) ?_
 refine Oa (.i ((p+1:Nat):Int)) ?_
 refine Oa (.i ((xs.length:Int)-1-((p+1:Nat):Int))) ?_
 refine Ni ?_
 refine w_round (p+1,(ys.set (p:Int).toNat a).set ((xs.length:Int)-1-(p:Int)).toNat c) (m:=xs.length-(p+1)) (by omega) (.k (.k (.k .nil))) ⟨hS.up (by omega),?_,rfl⟩
 rw [ez,Int.toNat_natCast]
 exact rev_step hR hlt ha hc
theorem vlook_perm {κ ν:Type} [DecidableEq κ] {ok:κ→Bool} {z:ν} {M M':List (κ×ν)} (h:M.Perm M') (k:κ):vlook ok z M k=vlook ok z M' k:=by
 have e:mok ok M k=mok ok M' k:=by
  unfold mok
  rw [Bool.eq_iff_iff]
  simp only [Bool.and_eq_true,List.all_eq_true,decide_eq_true_eq]
  rw [(h.map (·.1)).nodup_iff]
  simp only [h.mem_iff]
 unfold vlook
 rw [e]
 by_cases hk:mok ok M' k=true
 ·rw [if_pos hk,if_pos hk]
  have hn:(M.map (·.1)).Nodup:=by
   rw [←e] at hk
   exact of_decide_eq_true (Bool.and_eq_true_iff.1 hk).2
  rw [(vget_perm z h hn k).1]
 ·rw [if_neg hk,if_neg hk]
def actSlot (j:Nat) (acts:List Int):AV:=if acts=[] then .sl .nil 0 [] else .ms j 0 1 acts.length acts.length
def actBlk (j:Nat) (acts:List Int):BL:=if acts=[] then [] else [(j,.cells (acts.map cI).flatten)]
theorem flat_len (acts:List Int):(acts.map cI).flatten.length=acts.length:=by rw [flat_ints,List.length_map]
theorem o_appendAct {P:Program} {N:Nat} {l:List (Nat×AV)} {H:Heap} {g g0 i:Nat} {ops:Array Oper} {K:Fr→Heap→Nat→Prop} {r:List Oper} {d:Nat} {ty:TypeId} {pos:String} {after:Array Edge} {O:Nat→Prop} {H0:Heap} {L:BL} {b:Nat} {t:TypeId} {x y:Operand} {ja:Nat} {acts:List Int} {a:Int} (hS:St O H0 (actBlk ja acts++L) H b) (hd:d<N) (hx:evL N l x=actSlot ja acts) (hy:evL N l y=.sl .clip 1 [[.i a]]) (hk:elemSize P t=some 1) (hf:elemFits P t=true) (hle:acts.length+1≤1048576) (hb:b≤g0+i) (h:∀H',St O H0 (actBlk (g0+i) (acts++[a])++L) H' (g0+i+1)→runQ P N none g0 ops K (i+1) r (Fr.of ((d,actSlot (g0+i) (acts++[a]))::l)) H' g):runQ P N none g0 ops K i (⟨some d,.call { callee:=.builtin .append,args:=#[x,y],argTypes:=#[t,t] },ty,pos,after,none⟩::r) (Fr.of l) H g:=by
 have hsrc:srcA H 1 (evL N l y)=some (1,[.i a]):=by rw [hy];rfl
 by_cases hn:acts=[]
 ·subst hn
  refine o_appendE (k:=1) (k':=0) (q:=1) (ds:=[.i a]) hS hd hx hsrc hk hf (by omega) (by omega) hb fun H' hS'=>?_
  exact h H' hS'
 ·have e1:actBlk ja acts=[(ja,.cells (acts.map cI).flatten)]:=if_neg hn
  have e2:actSlot ja acts=.ms ja 0 1 acts.length acts.length:=if_neg hn
  have hn2:acts++[a]≠[]:=by simp
  have hpos:0<acts.length:=List.length_pos_iff.2 hn
  rw [e1] at hS
  rw [e2] at hx
  refine o_appendN (k:=1) (m:=acts.length) (q:=1) (ds:=[.i a]) hS hd hx (by rw [flat_len];omega) hsrc hk hf hpos (by omega) hle hb fun H' hS'=>?_
  have e3:actBlk (g0+i) (acts++[a])=[(g0+i,.cells ((acts.map cI).flatten++[.i a]))]:=by
   unfold actBlk
   rw [if_neg hn2,List.map_append,List.flatten_append]
   rfl
  have e4:actSlot (g0+i) (acts++[a])=.ms (g0+i) 0 1 (acts.length+1) (acts.length+1):=by
   unfold actSlot
   rw [if_neg hn2,List.length_append,List.length_singleton]
  have:=h H'
  rw [e3,e4] at this
  exact this hS'
theorem W_slices_Reverse_nil:PureSat Try.prog 162 [.sl .nil 0 []] (.tup []):=by
 refine pure_of_wp mixed Try.func162 rfl (by decide) Try.ntmps162 (by simp) (.tup _ pl_nil) fun H0 g hf=>?_
 rw [frame0_of]
 change wpA _ _ _ _ (Fr.of [(0,.sl .nil 0 [])]) H0 g
 have hS:=St.start hf
 refine Sq ?_
 refine Rg 5 ?_
 refine Om (.sl .nil 0 []) ?_
 refine o_len (n:=0) (by decide) rfl rfl ty_isl22 ?_
 refine o_int (v:=.i (-1)) (by decide) rfl rfl (by show some (AV.i (w64 (((0:Nat):Int)-1)))=_;rw [w64_id (by omega) (by omega)];rfl) ?_
 refine Oa (.i 0) ?_
 refine Oa (.i (-1)) ?_
 refine Ni ?_
 refine Ws ?_
 refine r_block ?_
 refine w_loop (V:=Unit) (fun _=>[(0,.sl .nil 0 []),(2,.i 0),(3,.i (-1))]) (fun _ _ H' g'=>St (·<g) H0 [] H' g') (n:=0) () (.k (.k (.k .nil))) (hS.up (by omega)) ?_
 rintro _ k H g1 hS
 change wpA _ _ _ _ (Fr.of [(0,.sl .nil 0 []),(2,.i 0),(3,.i (-1))]) _ _
 refine Sq ?_
 refine Sq ?_
 refine Rg 3 ?_
 refine Om (.i 0) ?_
 refine Om (.i (-1)) ?_
 refine Oi (.b (decide ((0:Int) < -1))) ?_
 refine Ni ?_
 refine Ws ?_
 refine w_condF (e:=decide ((0:Int) < -1)) rfl (by decide) ?_
 refine r_exit ?_
 refine r_then_exit ?_
 refine w_round_exit ?_
 refine r_blk_exit ?_
 refine w_end (x:=.tup []) (f:=fun (_:Unit)=>.tup []) (u:=()) (.inl rfl) rfl (.refl _) rfl hS
theorem o_revAct {N:Nat} {l:List (Nat×AV)} {H:Heap} {g g0 i:Nat} {ops:Array Oper} {K:Fr→Heap→Nat→Prop} {r:List Oper} {d:Nat} {ty:TypeId} {pos:String} {after:Array Edge} {O:Nat→Prop} {H0:Heap} {L:BL} {b:Nat} {f:Operand} {args:Array Operand} {ts:Array TypeId} {ja:Nat} {acts:List Int} (hS:St O H0 (actBlk ja acts++L) H b) (hd:d<N) (ht:tgt (evL N l f)=some (162,[],[])) (ha:args.toList.map (evL N l)=[actSlot ja acts]) (hle:acts.length≤1048576) (h:∀H',St O H0 (actBlk ja acts.reverse++L) H' b→runQ Try.prog N none g0 ops K (i+1) r (Fr.of ((d,.tup [])::l)) H' g):runQ Try.prog N none g0 ops K i (⟨some d,.call { callee:=.value f,args:=args,argTypes:=ts },ty,pos,after,none⟩::r) (Fr.of l) H g:=by
 by_cases hn:acts=[]
 ·subst hn
  exact o_call hd ht (by rw [ha];rfl) W_slices_Reverse_nil (h H hS)
 ·have e1:actBlk ja acts=[(ja,.cells (acts.map cI).flatten)]:=if_neg hn
  have e2:actSlot ja acts=.ms ja 0 1 acts.length acts.length:=if_neg hn
  have e3:actBlk ja acts.reverse=[(ja,.cells (acts.reverse.map cI).flatten)]:=if_neg (by simpa using hn)
  rw [e1] at hS
  rw [e2] at ha
  rw [e3] at h
  exact o_mut 0 hS hd ht (by rw [ha];rfl) rfl mok_no (W_slices_Reverse_int hn hle) rfl h
theorem W_takings_box_explain {n:Nat} {a0:Option Box_} {purse:List Int} {r:List Int×Bool} (hM:takings_box_explain n a0 purse=some r):PureSat Try.prog 134 [pA Box_.cells a0,.sl .no 1 (purse.map cI)] (.tup [.sl .no 1 (r.1.map cI),.b r.2]):=by
 refine pure_of_wp mixed Try.func134 rfl (by decide) Try.ntmps134 (by simp) ?pure fun H0 g hf=>?_
 case pure=>exact .tup _ (pl_cons (.sl _ _ (pures_map (fun x=>(pl_cons (.v _) pl_nil)))) (pl_cons (.v _) pl_nil))
 rw [frame0_of]
 change wpA _ _ _ _ (Fr.of [(0,pA Box_.cells a0),(1,.sl .no 1 (purse.map cI))]) H0 g
 have hS:=St.start hf
 unfold takings_box_explain at hM
 obtain ⟨b,hb0,hM⟩:=bindE hM
 obtain ⟨r1,hr1,hM⟩:=bindE hM
 obtain ⟨al,hal,hM⟩:=bindE hM
 obtain ⟨M,hMM,hM⟩:=bindE hM
 have hok:okSeen M=true:=by
  cases h:okSeen M with
  | true=>rfl
  | false=>rw [if_neg (by rw [h];simp)] at hM;cases hM
 rw [if_pos hok] at hM
 refine Sq ?_
 refine Rg 2 ?_
 refine Oa (.sl .nil 0 []) ?_
 refine Oa (.b false) ?_
 refine Ni ?_
 refine Ws ?_
 refine Sq ?_
 refine Rg 4 ?_
 refine Om (pA Box_.cells a0) ?_
 refine o_call (bs:=[pA Box_.cells a0]) (by decide) rfl rfl ((W_takings_box_put hr1).le (.k .nil)) ?_
 refine o_alloc hS (by decide) ty_zero153 (by omega) fun H hS=>?_
 refine o_store (v:=.agg (Bag_.cells r1)) (ns:=(Bag_.cells r1)) (L':=[(g+2+2,.cells (Bag_.cells r1))]) 0 hS rfl rfl .no rfl rfl ty_var153 nlb rfl fun H hS=>?_
 refine Ni ?_
 refine Ws ?_
 refine Sq ?_
 refine Sq ?_
 refine Rg 3 ?_
 refine Om (.sl .no 1 (purse.map cI)) ?_
 refine o_len (n:=purse.length) (by decide) rfl (List.length_map _) ty_isl22 ?_
 refine Om (.i 0) ?_
 refine Ni ?_
 refine Ws ?_
 refine r_block ?_
 refine w_loop (V:=Int×Bag_) (fun v=>[(0,pA Box_.cells a0),(6,.ptr (g+2+2) 0),(17,.sl .no 1 (purse.map cI)),(18,.i (purse.length:Int)),(19,.i v.1)]) (fun v k H' g'=>St (·<g) H0 [(g+2+2,.cells (Bag_.cells v.2))] H' g'∧takings_explain_a purse k v.1 v.2=some al) (n:=n) (0,r1) (.k (.k (.k (.k (.k .nil))))) ⟨hS.up (by omega),hal⟩ ?_
 rintro ⟨k,ar⟩ m H g1 ⟨hS,hal⟩
 obtain _ | m:=m
 ·exact nomatch (show none=some _ from hal)
 change wpA _ _ _ _ (Fr.of [(0,pA Box_.cells a0),(6,.ptr (g+2+2) 0),(17,.sl .no 1 (purse.map cI)),(18,.i (purse.length:Int)),(19,.i k)]) _ _
 replace hS:St (·<g) H0 [(g+2+2,.cells (Bag_.cells ar))] H g1:=hS
 unfold takings_explain_a at hal
 refine Sq ?_
 refine Rg 1 ?_
 refine Oi (.b (decide (k<(purse.length:Int)))) ?_
 refine Ni ?_
 refine Ws ?_
 refine Sq ?_
 rcases bft (decide (k<(purse.length:Int))) with hk1 | hk1
 ·replace hal:=ifT hal hk1
  refine Ct hk1 ?_
  refine r_skip ?_
  refine Ws ?_
  obtain ⟨x,hx,hal⟩:=bindE hal
  obtain ⟨e,he,hal⟩:=bindE hal
  obtain ⟨u,hu,hal⟩:=bindE hal
  refine Sq ?_
  refine r_block ?_
  refine Sq ?_
  refine Rg 5 ?_
  refine Om (.i k) ?_
  refine o_index (xs:=purse) (f:=cI) (z:=k) (u:=x) (by decide) rfl rfl ty_es22 hx ?_
  refine Olp (.i x) ty_agg3 ty_sc3 ?_
  refine Oa (.i k) ?_
  refine Oa (.i x) ?_
  refine Ni ?_
  refine Ws ?_
  refine Rg 7 ?_
  refine Om (.i k) ?_
  refine o_indexP (z:=k) (by decide) rfl rfl ty_arr153 (idx_lt he) ?_
  refine o_loadX (xs:=([ar.c0,ar.c1,ar.c2,ar.c3]:List Int)) (z:=k) (u:=e) (off:=0) 0 hS (by decide) rfl rfl .no rfl he ty_agg3 ty_sc3 ?_
  refine Om (.i x) ?_
  refine Oi (.i (w64 (e+x))) ?_
  refine o_indexP (z:=k) (by decide) rfl rfl ty_arr153 (idx_lt he) ?_
  refine o_storeX (xs:=([ar.c0,ar.c1,ar.c2,ar.c3]:List Int)) (u:=u) (z:=k) (v:=(w64 (e+x))) (off:=0) (cs':=[.i (u.getD 0 0),.i (u.getD 1 0),.i (u.getD 2 0),.i (u.getD 3 0)]) (L':=[(g+2+2,.cells [.i (u.getD 0 0),.i (u.getD 1 0),.i (u.getD 2 0),.i (u.getD 3 0)])]) 0 hS rfl rfl .no rfl rfl hu ty_var3 rfl rfl fun H hS=>?_
  refine Ni ?_
  refine r_blk_normal ?_
  refine Ws ?_
  refine Rg 2 ?_
  refine Oi (.i (w64 (k+1))) ?_
  refine Om (.i (w64 (k+1))) ?_
  refine Ni ?_
  exact w_round (w64 (k+1),⟨u.getD 0 0,u.getD 1 0,u.getD 2 0,u.getD 3 0⟩) (Nat.lt_succ_self _) (.k (.k (.k (.k (.k .nil))))) ⟨hS.up (by omega),hal⟩
 replace hal:=ifF hal hk1
 obtain rfl:=Option.some.inj hal
 refine Cf hk1 ?_
 refine r_exit ?_
 refine r_then_exit ?_
 refine w_round_exit ?_
 refine r_blk_exit ?_
 refine Ws ?_
 refine Sq ?_
 refine Rg 4 ?_
 refine Om (pA Box_.cells a0) ?_
 refine o_load (v:=.agg (Bag_.cells ar)) 0 hS (by decide) rfl rfl .no (pg ty_agg153) ?_
 refine o_newmap (bs:=[pA Box_.cells a0,.agg (Bag_.cells ar)]) (p:=mapIs (mpw kvPointT_ kvStep_ M)) hS (by decide) rfl rfl ((W_takings_box_walk hMM).le (.k (.k .nil))) (pl_cons (pure_box _) (pl_cons (.agg _ (pl_cons (.v _) (pl_cons (.v _) (pl_cons (.v _) (pl_cons (.v _) pl_nil))))) pl_nil)) (by omega) fun H hS=>?_
 refine Oa (.mp (g1+1+2)) ?_
 refine Ni ?_
 refine Ws ?_
 refine Sq ?_
 refine Rg 4 ?_
 refine Om (.mp (g1+1+2)) ?_
 refine o_load (v:=.agg (Bag_.cells ar)) 1 hS (by decide) rfl rfl .no (pg ty_agg153) ?_
 refine o_rsat (M:=[((g1+1+2),.obj none (mapIs (mpw kvPointT_ kvStep_ M)))]) (L:=[(g+2+2,.cells (Bag_.cells ar))]) (.inl rfl) hS (by decide) rfl rfl (W_takings_ends hok) (by omega) ?_
 rintro v M' H gE ⟨l,jn,hlp,hjn,rfl,rfl⟩ hgE hS
 have hEp:(l.foldl (endStep ar) []).Perm (endsOf ar M):=ends_perm hlp
 have hEn:((l.foldl (endStep ar) []).map (·.1)).Nodup:=(ends_ok ar l).nd
 have hEk:∀x,x∈l.foldl (endStep ar) []→okI x.1=true:=(ends_keys l [] (fun b=>okI b=true) (fun p hp=>by obtain ⟨x,hx,rfl⟩:=List.mem_map.1 (hlp.mem_iff.1 hp);exact List.all_eq_true.1 (Bool.and_eq_true_iff.1 hok).1 x hx) (fun p hp=>by simp at hp) (by simp)).1
 have hEl:(l.foldl (endStep ar) []).length≤1048576:=by have h1:=ends_len (al:=ar) l [];have h2:=hlp.length_eq;have h3:=of_decide_eq_true (Bool.and_eq_true_iff.1 hok).2;simp only [List.length_map,List.length_nil] at h1 h2;omega
 have hlk:∀x,vlook okI zeroPt (l.foldl (endStep ar) []) x=vlook okI zeroPt (endsOf ar M) x:=vlook_perm hEp
 refine Oa (.mp jn) ?_
 refine Ni ?_
 replace hS:St (·<g) H0 [(jn,.obj none (mapIs (mpw kvI kvPointT_ (l.foldl (endStep ar) [])))),((g1+1+2),.obj none (mapIs (mpw kvPointT_ kvStep_ M))),(g+2+2,.cells (Bag_.cells ar))] H gE:=hS
 replace hS:=hS.keep (L':=[(jn,.obj none (mapIs (mpw kvI kvPointT_ (l.foldl (endStep ar) [])))),((g1+1+2),.obj none (mapIs (mpw kvPointT_ kvStep_ M)))]) [true,true,false] rfl
 refine Ws ?_
 refine Sq ?_
 refine Sq ?_
 refine Rg 5 ?_
 refine Om (.mp jn) ?_
 refine o_keysS (.inl rfl) hS (by decide) rfl rfl keysDo (by omega) fun H hS=>?_
 refine o_sorted (E:=l.foldl (endStep ar) []) (cv:=kvPointT_) 0 1 (.inl rfl) hS (by decide) rfl rfl sortedDo (by kernel_rfl) rfl rfl hEk hEn hEl (by omega) ?_
 rw [show isort ((l.foldl (endStep ar) []).map (·.1))=isort ((endsOf ar M).map (·.1)) from isort_of_perm (hEp.map _)]
 generalize isort ((endsOf ar M).map (·.1))=bs at hM ⊢
 generalize l.foldl (endStep ar) []=E at hS hlk
 generalize endsOf ar M=E2 at hM hlk
 refine o_len (n:=bs.length) (by decide) rfl (List.length_map _) ty_isl22 ?_
 refine Om (.i 0) ?_
 refine Ni ?_
 replace hS:=hS.keep (L':=[(jn,.obj none (mapIs (mpw kvI kvPointT_ E))),((g1+1+2),.obj none (mapIs (mpw kvPointT_ kvStep_ M)))]) [false,true,true] rfl
 refine Ws ?_
 refine r_block ?_
 refine w_loop (V:=Int) (fun v=>[(0,pA Box_.cells a0),(9,.mp (g1+1+2)),(10,.mp jn),(39,.sl .no 1 (bs.map cI)),(40,.i (bs.length:Int)),(41,.i v)]) (fun v k H' g'=>St (·<g) H0 [(jn,.obj none (mapIs (mpw kvI kvPointT_ E))),((g1+1+2),.obj none (mapIs (mpw kvPointT_ kvStep_ M)))] H' g'∧takings_explain_l n b M E2 bs k v=some r) (n:=n) 0 (.k (.k (.k (.k (.k (.k .nil)))))) ⟨hS.up (by omega),hM⟩ ?_
 rintro k m3 H g3 ⟨hS,hM⟩
 obtain _ | m3:=m3
 ·exact nomatch (show none=some _ from hM)
 change wpA _ _ _ _ (Fr.of [(0,pA Box_.cells a0),(9,.mp (g1+1+2)),(10,.mp jn),(39,.sl .no 1 (bs.map cI)),(40,.i (bs.length:Int)),(41,.i k)]) _ _
 unfold takings_explain_l at hM
 refine Sq ?_
 refine Rg 1 ?_
 refine Oi (.b (decide (k<(bs.length:Int)))) ?_
 refine Ni ?_
 refine Ws ?_
 refine Sq ?_
 rcases bft (decide (k<(bs.length:Int))) with hk2 | hk2
 rotate_left
 ·replace hM:=ifF hM hk2
  refine Cf hk2 ?_
  refine r_exit ?_
  refine r_then_exit ?_
  refine w_round_exit ?_
  refine r_blk_exit ?_
  refine Ws ?_
  refine Sq ?_
  refine Rg 2 ?_
  refine Oa (.sl .nil 0 []) ?_
  refine Oa (.b false) ?_
  refine Ni ?_
  refine Ws ?_
  refine r_ret ?_
  obtain rfl:=Option.some.inj hM
  refine w_end (x:=.tup [.sl .nil 0 [],.b false]) (f:=fun (r:List Int×Bool)=>.tup [.sl .no 1 (r.1.map cI),.b r.2]) (u:=([],false)) (.inr rfl) ?_ (.tupL (.cons (.sl0 _ _ _) (.k .nil))) rfl hS
  exact res_two (res_tmp (x:=.sl .nil 0 []) rfl) (res_tmp (x:=.b false) rfl)
 replace hM:=ifT hM hk2
 refine Ct hk2 ?_
 refine r_skip ?_
 refine Ws ?_
 obtain ⟨x,hx,hM⟩:=bindE hM
 obtain ⟨wi,hwi,hM⟩:=bindE hM
 have hXt:(!wi)=false→∃p s acts,vlook okI zeroPt E2 x=some p∧vlook okPointT_ zeroStep M p=some s∧takings_back M n s []=some acts∧r=(acts.reverse,true):=fun h=>by
  replace hM:=ifF hM h
  obtain ⟨p,hp,hM⟩:=bindE hM
  obtain ⟨s,hs,hM⟩:=bindE hM
  obtain ⟨acts,hacts,hM⟩:=bindE hM
  exact ⟨p,s,acts,hp,hs,hacts,(Option.some.inj hM).symm⟩
 refine w_join (J:=Unit) (fun _=>[(0,pA Box_.cells a0),(9,.mp (g1+1+2)),(10,.mp jn),(39,.sl .no 1 (bs.map cI)),(40,.i (bs.length:Int)),(41,.i k)]) (fun _ H' g'=>St (·<g) H0 [(jn,.obj none (mapIs (mpw kvI kvPointT_ E))),((g1+1+2),.obj none (mapIs (mpw kvPointT_ kvStep_ M)))] H' g'∧takings_explain_l n b M E2 bs m3 (w64 (k+1))=some r) ?_ ?_
 ·rintro _ H g4 ⟨hS,hM⟩
  change wpA _ _ _ _ (Fr.of [(0,pA Box_.cells a0),(9,.mp (g1+1+2)),(10,.mp jn),(39,.sl .no 1 (bs.map cI)),(40,.i (bs.length:Int)),(41,.i k)]) _ _
  refine Rg 2 ?_
  refine Oi (.i (w64 (k+1))) ?_
  refine Om (.i (w64 (k+1))) ?_
  refine Ni ?_
  exact w_round (w64 (k+1)) (Nat.lt_succ_self _) (.k (.k (.k (.k (.k (.k .nil)))))) ⟨hS.up (by omega),hM⟩
 refine r_block ?_
 refine Sq ?_
 refine Rg 3 ?_
 refine o_index (xs:=bs) (f:=cI) (z:=k) (u:=x) (by decide) rfl rfl ty_es22 hx ?_
 refine Olp (.i x) ty_agg3 ty_sc3 ?_
 refine Oa (.i x) ?_
 refine Ni ?_
 refine Ws ?_
 refine Sq ?_
 refine Sq ?_
 have hS0:=hS
 refine r_draw (n:=19) rfl (by kernel_rfl) ?_
 refine Om (.i x) ?_
 refine Om (pA Box_.cells a0) ?_
 refine o_nilA (f:=Box_.cells) (p:=a0) (u:=b) (by decide) rfl hb0 ?_
 refine Of ((Box.cells b.Box)) ty_fo148_0 ?_
 refine Of ((Box.cells b.Box)) ty_fo26_4 ?_
 refine Olp (.i b.Box.Plays) ty_agg3 ty_sc3 ?_
 refine Om (pA Box_.cells a0) ?_
 refine o_nilA (f:=Box_.cells) (p:=a0) (u:=b) (by decide) rfl hb0 ?_
 refine Of ((Box.cells b.Box)) ty_fo148_0 ?_
 refine Of ((Box.cells b.Box)) ty_fo26_4 ?_
 refine Olp (.i b.Box.Plays) ty_agg3 ty_sc3 ?_
 refine Om (pA Box_.cells a0) ?_
 refine o_nilA (f:=Box_.cells) (p:=a0) (u:=b) (by decide) rfl hb0 ?_
 refine Of ((Box.cells b.Box)) ty_fo148_0 ?_
 refine Of ((Box.cells b.Box)) ty_fo26_5 ?_
 refine Olp (.i b.Box.Skips) ty_agg3 ty_sc3 ?_
 refine Oi (.i (w64 (b.Box.Plays+b.Box.Skips))) ?_
 refine o_call (bs:=[.i x,.i b.Box.Plays,.i (w64 (b.Box.Plays+b.Box.Skips))]) (by decide) rfl rfl ((W_takings_within hwi).le (.k (.k (.k .nil)))) ?_
 refine o_not (by decide) rfl ?_
 refine Ni ?_
 refine Ws ?_
 rcases bft (!wi) with hw | hw
 ·replace hM:=ifT hM hw
  refine Ct hw ?_
  refine r_exit ?_
  refine r_then_exit ?_
  refine r_blk_exit ?_
  exact w_goto () (.k (.k (.k (.k (.k (.k .nil)))))) ⟨hS.up (by omega),hM⟩
 obtain ⟨p,s,acts,hp,hs,hacts,rfl⟩:=hXt hw
 clear hXt hM
 refine Cf hw ?_
 refine r_skip ?_
 refine Ws ?_
 refine Sq ?_
 refine Rg 1 ?_
 refine Oa (.sl .nil 0 []) ?_
 refine Ni ?_
 refine Ws ?_
 refine Sq ?_
 refine Sq ?_
 refine Rg 7 ?_
 refine Om (.mp (g1+1+2)) ?_
 refine Om (.mp jn) ?_
 refine Om (.i x) ?_
 refine o_lookupW (kv:=kvI) (ok:=okI) (cv:=kvPointT_) (z:=zeroPt) (M:=E) (k:=x) (u:=p) (v':=.agg (PointT_.cells p)) 0 keys3 hS (by decide) rfl rfl rfl ty_map152 zero_pt (by rw [hlk];exact hp) (flat_pt p) ?_
 refine o_lookupW (kv:=kvPointT_) (ok:=okPointT_) (cv:=kvStep_) (z:=zeroStep) (M:=M) (k:=p) (u:=s) (v':=.agg (Step_.cells s)) 1 keys155 hS (by decide) rfl rfl rfl ty_map157 zero_step hs (keys_step s) ?_
 refine o_alloc hS (by decide) ty_zero187 (by omega) fun H hS=>?_
 refine o_store (v:=.agg (Step_.cells s)) (ns:=(Step_.cells s)) (L':=[(g3+1+3+19+1+5,.cells (Step_.cells s)),(jn,.obj none (mapIs (mpw kvI kvPointT_ E))),((g1+1+2),.obj none (mapIs (mpw kvPointT_ kvStep_ M)))]) 0 hS rfl rfl .no rfl rfl ty_var187 nlb rfl fun H hS=>?_
 refine Ni ?_
 refine Ws ?_
 refine r_block ?_
 have hSb:=hS.keep (L':=actBlk 0 []++[((g3+1+3+19+1+5),.cells (Step_.cells s)),((g1+1+2),.obj none (mapIs (mpw kvPointT_ kvStep_ M)))]) [true,false,true] rfl
 refine w_loop (V:=Step_×List Int×Nat×Nat) (fun v=>[(9,.mp (g1+1+2)),(13,actSlot v.2.2.1 v.2.1),(14,.ptr v.2.2.2 0)]) (fun v k H' g'=>St (·<g) H0 (actBlk v.2.2.1 v.2.1++[(v.2.2.2,.cells (Step_.cells v.1)),((g1+1+2),.obj none (mapIs (mpw kvPointT_ kvStep_ M)))]) H' g'∧v.2.1.length≤1048576∧takings_back M k v.1 v.2.1=some acts) (n:=n) (s,[],0,(g3+1+3+19+1+5)) (.k (.k (.k .nil))) ⟨hSb.up (by omega),by simp,hacts⟩ ?_
 rintro ⟨s,ac,ja,si⟩ m H g5 ⟨hS,hal5,hacts⟩
 obtain _ | m:=m
 ·exact nomatch (show none=some _ from hacts)
 change wpA _ _ _ _ (Fr.of [(9,.mp (g1+1+2)),(13,actSlot ja ac),(14,.ptr si 0)]) _ _
 replace hS:St (·<g) H0 (actBlk ja ac++[(si,.cells (Step_.cells s)),((g1+1+2),.obj none (mapIs (mpw kvPointT_ kvStep_ M)))]) H g5:=hS
 replace hal5:ac.length≤1048576:=hal5
 unfold takings_back at hacts
 have hSr:St (·<g) H0 ([(si,.cells (Step_.cells s)),((g1+1+2),.obj none (mapIs (mpw kvPointT_ kvStep_ M)))]++actBlk ja ac) H g5:=hS.perm List.perm_append_comm
 refine Sq ?_
 refine Sq ?_
 refine Rg 3 ?_
 refine o_fieldP (by decide) ty_fo187_0 rfl ?_
 refine o_load (v:=.i s.act) 0 hSr (by decide) rfl rfl .no (po ty_agg3 ty_sc3) ?_
 refine Oi (.b (s.act != -2)) ?_
 refine Ni ?_
 refine Ws ?_
 rcases bft (s.act != -2) with hb5 | hb5
 ·replace hacts:=ifT hacts hb5
  have hle:ac.length+1≤1048576:=by
   by_cases h:ac.length+1≤1048576
   ·exact h
   ·rw [if_neg h] at hacts;cases hacts
  rw [if_pos hle] at hacts
  obtain ⟨s2,hs2,hacts⟩:=bindE hacts
  refine Ct hb5 ?_
  refine r_skip ?_
  refine Ws ?_
  refine Sq ?_
  refine r_block ?_
  refine Rg 6 ?_
  refine Om (actSlot ja ac) ?_
  refine o_fieldP (by decide) ty_fo187_0 rfl ?_
  refine o_load (v:=.i s.act) 0 hSr (by decide) rfl rfl .no (po ty_agg3 ty_sc3) ?_
  refine o_litC (e:=3) (es:=[[.i s.act]]) (by decide) ty_es22 ty_el22 rfl ty_ef22 rfl (by decide) ?_
  refine o_appendAct (ja:=ja) (acts:=ac) (a:=s.act) hS (by decide) rfl rfl ty_es22 ty_ef22 hle (by omega) fun H hS=>?_
  refine Oa (actSlot (g5+3+4) (ac++[s.act])) ?_
  refine Ni ?_
  refine r_blk_normal ?_
  refine Ws ?_
  replace hS:=hS.perm (L':=[(si,.cells (Step_.cells s)),((g1+1+2),.obj none (mapIs (mpw kvPointT_ kvStep_ M)))]++actBlk (g5+3+4) (ac++[s.act])) List.perm_append_comm
  refine Sq ?_
  refine Sq ?_
  refine Rg 1 ?_
  refine o_load (v:=.agg (Step_.cells s)) 0 hS (by decide) rfl rfl .no (pg ty_agg187) ?_
  refine Ni ?_
  refine Ws ?_
  refine Rg 2 ?_
  refine o_alloc hS (by decide) ty_zero187 (by omega) fun H hS=>?_
  refine o_store (v:=.agg (Step_.cells s)) (ns:=(Step_.cells s)) (L':=((g5+3+6+1+0),.cells (Step_.cells s))::([(si,.cells (Step_.cells s)),((g1+1+2),.obj none (mapIs (mpw kvPointT_ kvStep_ M)))]++actBlk (g5+3+4) (ac++[s.act]))) 0 hS rfl rfl .no rfl rfl ty_var187 nlb rfl fun H hS=>?_
  refine Ni ?_
  refine Ws ?_
  refine Rg 5 ?_
  refine Om (.mp (g1+1+2)) ?_
  refine o_fieldP (by decide) ty_fo187_1 rfl ?_
  refine o_load (v:=.agg (PointT_.cells s.from_)) 0 hS (by decide) rfl rfl .no (pg ty_agg155) ?_
  refine o_lookupW (kv:=kvPointT_) (ok:=okPointT_) (cv:=kvStep_) (z:=zeroStep) (M:=M) (k:=s.from_) (u:=s2) (v':=.agg (Step_.cells s2)) 2 keys155 hS (by decide) rfl rfl rfl ty_map157 zero_step hs2 (keys_step s2) ?_
  refine o_store (v:=.agg (Step_.cells s2)) (ns:=(Step_.cells s2)) (L':=((g5+3+6+1+0),.cells (Step_.cells s2))::([(si,.cells (Step_.cells s)),((g1+1+2),.obj none (mapIs (mpw kvPointT_ kvStep_ M)))]++actBlk (g5+3+4) (ac++[s.act]))) 0 hS rfl rfl .no rfl rfl ty_var187 nlb rfl fun H hS=>?_
  refine Ni ?_
  have hS3:=(hS.keep (L':=[((g5+3+6+1+0),.cells (Step_.cells s2)),((g1+1+2),.obj none (mapIs (mpw kvPointT_ kvStep_ M)))]++actBlk (g5+3+4) (ac++[s.act])) [true,false,true] rfl).perm (L':=actBlk (g5+3+4) (ac++[s.act])++[((g5+3+6+1+0),.cells (Step_.cells s2)),((g1+1+2),.obj none (mapIs (mpw kvPointT_ kvStep_ M)))]) List.perm_append_comm
  exact w_round (s2,ac++[s.act],(g5+3+4),(g5+3+6+1+0)) (Nat.lt_succ_self _) (.k (.k (.k .nil))) ⟨hS3.up (by omega),by rw [List.length_append,List.length_singleton];exact hle,hacts⟩
 replace hacts:=ifF hacts hb5
 obtain rfl:=Option.some.inj hacts
 refine Cf hb5 ?_
 refine r_exit ?_
 refine r_then_exit ?_
 refine w_round_exit ?_
 refine r_blk_exit ?_
 refine Ws ?_
 refine Sq ?_
 refine Rg 2 ?_
 refine Om (actSlot ja ac) ?_
 refine o_revAct (ja:=ja) (acts:=ac) hS (by decide) rfl rfl hal5 fun H hS=>?_
 refine Ni ?_
 refine w_next [(13,actSlot ja ac)] (.k .nil) ?_
 by_cases hn:ac=[]
 ·subst hn
  change wpA _ _ _ _ (Fr.of [(13,.sl .nil 0 [])]) _ _
  refine Sq ?_
  refine Rg 3 ?_
  refine Om (.sl .nil 0 []) ?_
  refine Oa (.sl .nil 0 []) ?_
  refine Oa (.b true) ?_
  refine Ni ?_
  refine Ws ?_
  refine r_ret ?_
  refine w_end (x:=.tup [.sl .nil 0 [],.b true]) (f:=fun (r:List Int×Bool)=>.tup [.sl .no 1 (r.1.map cI),.b r.2]) (u:=([],true)) (.inr rfl) ?_ (.tupL (.cons (.sl0 _ _ _) (.k .nil))) rfl hS
  exact res_two (res_tmp (x:=.sl .nil 0 []) rfl) (res_tmp (x:=.b true) rfl)
 have e1:actSlot ja ac=.ms ja 0 1 ac.length ac.length:=if_neg hn
 have e2:actBlk ja ac.reverse=[(ja,.cells (ac.reverse.map cI).flatten)]:=if_neg (by simpa using hn)
 rw [e1]
 rw [e2] at hS
 refine Sq ?_
 refine Rg 3 ?_
 refine Om (.ms ja 0 1 ac.length ac.length) ?_
 refine Oa (.ms ja 0 1 ac.length ac.length) ?_
 refine Oa (.b true) ?_
 refine Ni ?_
 replace hS:=hS.perm (L':=[(si,.cells (Step_.cells s)),((g1+1+2),.obj none (mapIs (mpw kvPointT_ kvStep_ M)))]++[(ja,.cells (ac.reverse.map cI).flatten)]) List.perm_append_comm
 refine w_iceG (t:=4) (es:=ac.reverse.map cI) hS rfl (by decide) (fun e he=>by obtain ⟨z,_,rfl⟩:=List.mem_map.1 he;rfl) (fl_map (fun x c hc=>by simp at hc;subst hc;exact ⟨_,rfl⟩)) (by simp) (by rw [List.take_of_length_le (by rw [flat_len];simp)]) fun H hS=>?_
 refine Ws ?_
 refine r_ret ?_
 refine w_end (x:=.tup [.sl .no 1 (ac.reverse.map cI),.b true]) (f:=fun (r:List Int×Bool)=>.tup [.sl .no 1 (r.1.map cI),.b r.2]) (u:=(ac.reverse,true)) (.inr rfl) ?_ (.refl _) rfl hS
 exact res_two (res_tmp (x:=.sl .no 1 (ac.reverse.map cI)) rfl) (res_tmp (x:=.b true) rfl)
def gapSlot (t:Nat):List Gap_→AV
 | []=>.sl .nil 0 []
 | x::gs=>.sl (.id t) 2 ((x::gs).map Gap_.cells)
def gapBlk (t:Nat):List Gap_→BL
 | []=>[]
 | x::gs=>[(t,.row 94 (x::gs).length)]
def gM (oc t:Nat) (gs:List Gap_):BL:=(oc,.cells [gapSlot t gs])::gapBlk t gs
def gT (oc:Nat) (gs:List Gap_) (_:Nat) (v:AV) (M:BL):Prop:=∃t,v=.tup []∧M=gM oc t gs
theorem pure_gap (gs:List Gap_):∀e,e∈gs.map Gap_.cells→∀c,c∈e→Go.AM.Pure c:=pures_map (fun x=>pl_cons (.sl _ _ (pures_map (fun x=>(pl_cons (.v _) pl_nil)))) (pl_cons (.sl _ _ (pures_map (fun x=>(pl_cons (.v _) pl_nil)))) pl_nil))
theorem inb_gM {oc t:Nat} {gs:List Gap_}:InB In (gM oc t gs):=fun p cs hp e c hc H hH=>by
 cases gs with
 | nil =>
  obtain rfl:=List.mem_singleton.1 hp
  obtain rfl:[AV.sl .nil 0 []]=cs:=by injection e
  obtain rfl:c=.sl .nil 0 []:=by simpa using hc
  exact .sl _ _ _ (fun t h=>by cases h) (fun e h=>by simp at h)
 | cons x gs =>
  have hr:=hH (t,.row 94 (x::gs).length) (by simp [gM,gapBlk])
  simp only [gM,gapBlk,List.mem_cons,List.not_mem_nil,or_false] at hp
  rcases hp with rfl | rfl
  ·obtain rfl:[gapSlot t (x::gs)]=cs:=by injection e
   obtain rfl:c=gapSlot t (x::gs):=by simpa using hc
   exact .sl _ _ _ (fun t2 h=>by injection h with h;subst h;exact ⟨_,_,hr⟩) (fun e he c hc=>(pure_gap _ e he c hc).inH)
  ·cases e
theorem ids_gM {oc t i:Nat} {gs:List Gap_}:i∈ids (gM oc t gs)↔i=oc∨gs≠[]∧i=t:=by
 cases gs<;>simp [gM,gapBlk,ids]
theorem hex_gM (oc t:Nat) (gs gs2:List Gap_) (g:Nat):∃v M',gT oc gs2 g v M'∧(ids M').Nodup∧∀i,i∈ids M'→i∈ids (gM oc t gs)∨g≤i:=by
 refine ⟨.tup [],_,⟨max g (oc+1),rfl,rfl⟩,?_,fun i hi=>?_⟩
 ·cases gs2<;>simp [gM,gapBlk,ids]<;>omega
 ·rcases ids_gM.1 hi with rfl | ⟨_,rfl⟩
  ·exact .inl (ids_gM.2 (.inl rfl))
  ·exact .inr (Nat.le_max_left _ _)
theorem fin_gMi {P:Program} {N:Nat} {fr:Fr} {H H0:Heap} {g b oc t t2:Nat} {gs gs2:List Gap_} {ex:Exit} {rs:List ResultVar} (he:ex=.normal∨ex=.ret) (hx:resA P N fr H rs=some (.tup [])) (hS:St (fun i=>i<g∧i∉ids (gM oc t gs)) H0 (gM oc t2 gs2) H b) (hb:g≤b) (hi:∀i,i∈ids (gM oc t2 gs2)→i∈ids (gM oc t gs)∨g≤i) :
  (ex=.normal∨ex=.ret)∧∃v M' b1,gT oc gs2 g v M'∧(∃x,resA P N fr H rs=some x∧Le v x)∧(∀H,Has H M'→In H v)∧InB In M'∧(∀i,i<g∧i∉ids (gM oc t gs)→H i=H0 i)∧Has H M'∧Fresh H b1∧g≤b1∧(ids M').Nodup∧(∀i,i∈ids M'→i∈ids (gM oc t gs)∨g≤i)∧(∀p,p∈gM oc t gs→p.1∉ids M'→p.2≠.ice∧∀cs,p.2≠.cells cs):=by
 refine ⟨he,.tup [],gM oc t2 gs2,b,⟨t2,rfl,rfl⟩,⟨_,hx,.refl _⟩,fun H _=>(show Go.AM.Pure _ from .tup _ pl_nil).inH,inb_gM,fun i hi=>(hS.old i hi).2,fun p hp=>(hS.has p hp).2.2,hS.fr,hb,hS.nd,hi,fun p hp hn=>?_⟩
 cases gs with
 | nil =>
  obtain rfl:=List.mem_singleton.1 hp
  exact absurd (ids_gM.2 (.inl rfl)) hn
 | cons x gs =>
  simp only [gM,gapBlk,List.mem_cons,List.not_mem_nil,or_false] at hp
  rcases hp with rfl | rfl
  ·exact absurd (ids_gM.2 (.inl rfl)) hn
  ·exact ⟨fun h=>(by cases h),fun cs h=>(by cases h)⟩
theorem fin_gM {P:Program} {N:Nat} {fr:Fr} {H H0:Heap} {g b oc t t2:Nat} {gs gs2:List Gap_} {ex:Exit} {rs:List ResultVar} (he:ex=.normal∨ex=.ret) (hx:resA P N fr H rs=some (.tup [])) (hS:St (fun i=>i<g∧i∉ids (gM oc t gs)) H0 (gM oc t2 gs2) H b) (hb:g≤b) (hi:gs2=[]∨gs≠[]∧t2=t∨g≤t2) :
  (ex=.normal∨ex=.ret)∧∃v M' b1,gT oc gs2 g v M'∧(∃x,resA P N fr H rs=some x∧Le v x)∧(∀H,Has H M'→In H v)∧InB In M'∧(∀i,i<g∧i∉ids (gM oc t gs)→H i=H0 i)∧Has H M'∧Fresh H b1∧g≤b1∧(ids M').Nodup∧(∀i,i∈ids M'→i∈ids (gM oc t gs)∨g≤i)∧(∀p,p∈gM oc t gs→p.1∉ids M'→p.2≠.ice∧∀cs,p.2≠.cells cs) :=
 fin_gMi he hx hS hb fun i hi2=>by
  rcases ids_gM.1 hi2 with rfl | ⟨h1,rfl⟩
  ·exact .inl (ids_gM.2 (.inl rfl))
  ·rcases hi with h | ⟨h2,rfl⟩ | h
   ·exact absurd h h1
   ·exact .inl (ids_gM.2 (.inr ⟨h2,rfl⟩))
   ·exact .inr h
theorem W_takings_box_missing_c1 {n:Nat} {a:Option Box_} {purse:List Int} {gs:List Gap_} {r:Unit×List Gap_} (hM:takings_box_missing_c1 n a purse gs=some r) {oc t:Nat} (hnd:(ids (gM oc t gs)).Nodup):RSat Try.prog 133 [.sl .no 1 (purse.map cI),.ptr oc 0,.ep [pA Box_.cells a]] (gM oc t gs) (gT oc r.2):=by
 refine rsat_of_wpK mixed Try.func133 rfl (by decide) Try.ntmps133 (by simp) (hex_gM oc t gs r.2) fun H0 g hf hp=>?_
 rw [frame0_of]
 change wpA _ _ _ _ (Fr.of [(0,.sl .no 1 (purse.map cI)),(1,.ptr oc 0),(2,.ep [pA Box_.cells a])]) H0 g
 have hS:=St.startH hf hnd hp
 have hog:oc<g:=(hS.has (oc,_) (List.mem_cons_self ..)).2.1
 cases gs with
 | nil =>
  unfold takings_box_missing_c1 at hM
  replace hS:St (fun i=>i<g∧i∉ids (gM oc t [])) H0 [(oc,.cells [.sl .nil 0 []])] H0 g:=hS
  refine Sq ?_
  refine Sq ?_
  have hS0:=hS
  refine r_draw (n:=15) rfl (by kernel_rfl) ?_
  refine o_load (v:=.sl .nil 0 []) 0 hS (by decide) rfl rfl (.st hS0 0 rfl (by omega)) (po ty_agg90 ty_sc90) ?_
  refine o_len (n:=0) (by decide) rfl rfl ty_isl90 ?_
  refine Oi (.b (decide (((0:Nat):Int)>0))) ?_
  refine Om (.b (decide (((0:Nat):Int)>0))) ?_
  refine o_guardN (j:=3) (e:=(decide (((0:Nat):Int)>0))) (want:=true) (by decide) rfl (by decide) ?_
  refine o_guardN (j:=3) (e:=(decide (((0:Nat):Int)>0))) (want:=true) (by decide) rfl (by decide) ?_
  refine o_guardN (j:=3) (e:=(decide (((0:Nat):Int)>0))) (want:=true) (by decide) rfl (by decide) ?_
  refine o_guardN (j:=3) (e:=(decide (((0:Nat):Int)>0))) (want:=true) (by decide) rfl (by decide) ?_
  refine o_guardN (j:=3) (e:=(decide (((0:Nat):Int)>0))) (want:=true) (by decide) rfl (by decide) ?_
  refine o_guardN (j:=3) (e:=(decide (((0:Nat):Int)>0))) (want:=true) (by decide) rfl (by decide) ?_
  refine o_guardN (j:=3) (e:=(decide (((0:Nat):Int)>0))) (want:=true) (by decide) rfl (by decide) ?_
  refine o_guardN (j:=3) (e:=(decide (((0:Nat):Int)>0))) (want:=true) (by decide) rfl (by decide) ?_
  refine o_guardN (j:=3) (e:=(decide (((0:Nat):Int)>0))) (want:=true) (by decide) rfl (by decide) ?_
  refine o_guardN (j:=3) (e:=(decide (((0:Nat):Int)>0))) (want:=true) (by decide) rfl (by decide) ?_
  refine o_pickF (v:=.b false) (e:=(decide (((0:Nat):Int)>0))) (by decide) rfl (by decide) rfl ?_
  refine Ni ?_
  refine Ws ?_
  refine w_condF (e:=false) rfl rfl ?_
  refine r_skip ?_
  refine Ws ?_
  refine Sq ?_
  refine Rg 8 ?_
  refine Olp (pA Box_.cells a) ty_agg86 ty_sc86 ?_
  refine Om (.sl .no 1 (purse.map cI)) ?_
  obtain ⟨e,he,hM⟩:=bindE hM
  refine o_call (bs:=[pA Box_.cells a,.sl .no 1 (purse.map cI)]) (by decide) rfl rfl ((W_takings_box_explain he).le (.k (.k .nil))) ?_
  refine Om (.tup [.sl .no 1 (e.1.map cI),.b e.2]) ?_
  refine Ox (.sl .no 1 (e.1.map cI)) ?_
  refine Ox (.b e.2) ?_
  refine Oa (.sl .no 1 (e.1.map cI)) ?_
  refine Oa (.b e.2) ?_
  refine Ni ?_
  refine Ws ?_
  refine Sq ?_
  refine Sq ?_
  refine Rg 2 ?_
  refine Om (.b e.2) ?_
  refine o_not (by decide) rfl ?_
  refine Ni ?_
  refine Ws ?_
  rcases bft (!e.2) with he2 | he2
  ·replace hM:=ifT hM he2
   obtain rfl:=Option.some.inj hM
   refine Ct he2 ?_
   refine r_ret ?_
   refine r_then_ret ?_
   exact fin_gM (t:=t) (gs:=[]) (gs2:=[]) (t2:=t) (.inr rfl) rfl hS (by omega) (.inl rfl)
  ·replace hM:=ifF hM he2
   obtain rfl:=Option.some.inj hM
   refine Cf he2 ?_
   refine r_skip ?_
   refine Ws ?_
   refine Sq ?_
   refine Sq ?_
   have hS0:=hS
   refine r_draw (n:=15) rfl (by kernel_rfl) ?_
   refine o_load (v:=.sl .nil 0 []) 0 hS (by decide) rfl rfl (.st hS0 0 rfl (by omega)) (po ty_agg90 ty_sc90) ?_
   refine o_len (n:=0) (by decide) rfl rfl ty_isl90 ?_
   refine Oi (.b (decide (((0:Nat):Int)>0))) ?_
   refine Om (.b (decide (((0:Nat):Int)>0))) ?_
   refine o_guardN (j:=3) (e:=(decide (((0:Nat):Int)>0))) (want:=true) (by decide) rfl (by decide) ?_
   refine o_guardN (j:=3) (e:=(decide (((0:Nat):Int)>0))) (want:=true) (by decide) rfl (by decide) ?_
   refine o_guardN (j:=3) (e:=(decide (((0:Nat):Int)>0))) (want:=true) (by decide) rfl (by decide) ?_
   refine o_guardN (j:=3) (e:=(decide (((0:Nat):Int)>0))) (want:=true) (by decide) rfl (by decide) ?_
   refine o_guardN (j:=3) (e:=(decide (((0:Nat):Int)>0))) (want:=true) (by decide) rfl (by decide) ?_
   refine o_guardN (j:=3) (e:=(decide (((0:Nat):Int)>0))) (want:=true) (by decide) rfl (by decide) ?_
   refine o_guardN (j:=3) (e:=(decide (((0:Nat):Int)>0))) (want:=true) (by decide) rfl (by decide) ?_
   refine o_guardN (j:=3) (e:=(decide (((0:Nat):Int)>0))) (want:=true) (by decide) rfl (by decide) ?_
   refine o_guardN (j:=3) (e:=(decide (((0:Nat):Int)>0))) (want:=true) (by decide) rfl (by decide) ?_
   refine o_guardN (j:=3) (e:=(decide (((0:Nat):Int)>0))) (want:=true) (by decide) rfl (by decide) ?_
   refine o_pickF (v:=.b false) (e:=(decide (((0:Nat):Int)>0))) (by decide) rfl (by decide) rfl ?_
   refine Ni ?_
   refine Ws ?_
   refine w_condF (e:=false) rfl rfl ?_
   refine r_skip ?_
   refine Ws ?_
   refine Rg 7 ?_
   refine o_load (v:=.sl .nil 0 []) 0 hS (by decide) rfl rfl .no (po ty_agg90 ty_sc90) ?_
   refine Om (.sl .no 1 (purse.map cI)) ?_
   refine Om (.sl .no 1 (e.1.map cI)) ?_
   refine o_build (cs:=[.sl .no 1 (purse.map cI),.sl .no 1 (e.1.map cI)]) (by decide) ty_zero94 ty_pl94 rfl ?_
   refine o_litC (e:=94) (es:=[[.sl .no 1 (purse.map cI),.sl .no 1 (e.1.map cI)]]) (by decide) ty_es90 ty_el90 rfl ty_ef90 rfl (by decide) ?_
   refine o_appendNil (k:=2) (k':=0) (e:=94) (es:=[[.sl .no 1 (purse.map cI),.sl .no 1 (e.1.map cI)]]) hS (by decide) rfl rfl ty_es90 ty_el90 ty_ef90 nlb (by omega) fun H hS=>?_
   refine o_store (v:=.sl (.id (g+15+8+2+15+5)) 2 ([(⟨purse,e.1⟩:Gap_)].map Gap_.cells)) (ns:=[.sl (.id (g+15+8+2+15+5)) 2 ([(⟨purse,e.1⟩:Gap_)].map Gap_.cells)]) (L':=[((g+15+8+2+15+5),.row 94 1),(oc,.cells [.sl (.id (g+15+8+2+15+5)) 2 ([(⟨purse,e.1⟩:Gap_)].map Gap_.cells)])]) 1 hS rfl rfl .no rfl rfl ty_var90 nlb rfl fun H hS=>?_
   refine Ni ?_
   replace hS:=hS.toHead (L':=gM oc (g+15+8+2+15+5) [(⟨purse,e.1⟩:Gap_)]) 1 nlb rfl
   exact fin_gM (t:=t) (gs:=[]) (gs2:=[(⟨purse,e.1⟩:Gap_)]) (t2:=(g+15+8+2+15+5)) (.inl rfl) rfl hS (by omega) (.inr (.inr (by omega)))
 | cons x gs =>
  unfold takings_box_missing_c1 at hM
  replace hS:St (fun i=>i<g∧i∉ids (gM oc t (x::gs))) H0 [(oc,.cells [.sl (.id t) 2 ((x::gs).map Gap_.cells)]),(t,.row 94 (x::gs).length)] H0 g:=hS
  have hpos:decide ((((x::gs).length:Nat):Int)>0)=true:=decide_eq_true (by rw [List.length_cons];omega)
  refine Sq ?_
  refine Sq ?_
  have hS0:=hS
  refine r_draw (n:=15) rfl (by kernel_rfl) ?_
  refine o_load (v:=.sl (.id t) 2 ((x::gs).map Gap_.cells)) 0 hS (by decide) rfl rfl (.st hS0 0 rfl (by omega)) (po ty_agg90 ty_sc90) ?_
  refine o_len (n:=(x::gs).length) (by decide) rfl (List.length_map _) ty_isl90 ?_
  refine Oi (.b (decide ((((x::gs).length:Nat):Int)>0))) ?_
  refine Om (.b (decide ((((x::gs).length:Nat):Int)>0))) ?_
  refine Oy (want:=true) hpos ?_
  refine Olp (pA Box_.cells a) ty_agg86 ty_sc86 ?_
  refine Oy (want:=true) hpos ?_
  refine Om (.sl .no 1 (purse.map cI)) ?_
  obtain ⟨w1,hw1,hM⟩:=bindE hM
  refine Oy (want:=true) hpos ?_
  refine o_call (bs:=[pA Box_.cells a,.sl .no 1 (purse.map cI)]) (by decide) rfl rfl ((W_takings_box_worth hw1).le (.k (.k .nil))) ?_
  refine Oy (want:=true) hpos ?_
  refine Olp (pA Box_.cells a) ty_agg86 ty_sc86 ?_
  refine Oy (want:=true) hpos ?_
  refine o_load (v:=.sl (.id t) 2 ((x::gs).map Gap_.cells)) 0 hS (by decide) rfl rfl (.st hS0 0 rfl (by omega)) (po ty_agg90 ty_sc90) ?_
  refine Oy (want:=true) hpos ?_
  refine o_index (xs:=x::gs) (f:=Gap_.cells) (z:=0) (u:=x) (by decide) rfl rfl ty_es90 rfl ?_
  refine Oy (want:=true) hpos ?_
  refine Of ((Gap_.cells x)) ty_fo94_0 ?_
  refine Oy (want:=true) hpos ?_
  refine Olp (.sl .no 1 (x.purse.map cI)) ty_agg22 ty_sc22 ?_
  obtain ⟨w2,hw2,hM⟩:=bindE hM
  refine Oy (want:=true) hpos ?_
  refine o_call (bs:=[pA Box_.cells a,.sl .no 1 (x.purse.map cI)]) (by decide) rfl rfl ((W_takings_box_worth hw2).le (.k (.k .nil))) ?_
  refine Oy (want:=true) hpos ?_
  refine Oi (.b (decide (w1>w2))) ?_
  refine Pt (.b (decide (w1>w2))) hpos ?_
  refine Ni ?_
  refine Ws ?_
  rcases bft (decide (w1>w2)) with hw | hw
  ·replace hM:=ifT hM hw
   obtain rfl:=Option.some.inj hM
   refine Ct hw ?_
   refine r_ret ?_
   refine r_then_ret ?_
   exact fin_gM (t:=t) (gs:=x::gs) (gs2:=x::gs) (t2:=t) (.inr rfl) rfl hS (by omega) (.inr (.inl ⟨by simp,rfl⟩))
  replace hM:=ifF hM hw
  refine Cf hw ?_
  refine r_skip ?_
  refine Ws ?_
  refine Sq ?_
  refine Rg 8 ?_
  refine Olp (pA Box_.cells a) ty_agg86 ty_sc86 ?_
  refine Om (.sl .no 1 (purse.map cI)) ?_
  obtain ⟨e,he,hM⟩:=bindE hM
  refine o_call (bs:=[pA Box_.cells a,.sl .no 1 (purse.map cI)]) (by decide) rfl rfl ((W_takings_box_explain he).le (.k (.k .nil))) ?_
  refine Om (.tup [.sl .no 1 (e.1.map cI),.b e.2]) ?_
  refine Ox (.sl .no 1 (e.1.map cI)) ?_
  refine Ox (.b e.2) ?_
  refine Oa (.sl .no 1 (e.1.map cI)) ?_
  refine Oa (.b e.2) ?_
  refine Ni ?_
  refine Ws ?_
  refine Sq ?_
  refine Sq ?_
  refine Rg 2 ?_
  refine Om (.b e.2) ?_
  refine o_not (by decide) rfl ?_
  refine Ni ?_
  refine Ws ?_
  rcases bft (!e.2) with he2 | he2
  ·replace hM:=ifT hM he2
   obtain rfl:=Option.some.inj hM
   refine Ct he2 ?_
   refine r_ret ?_
   refine r_then_ret ?_
   exact fin_gM (t:=t) (gs:=x::gs) (gs2:=x::gs) (t2:=t) (.inr rfl) rfl hS (by omega) (.inr (.inl ⟨by simp,rfl⟩))
  replace hM:=ifF hM he2
  refine Cf he2 ?_
  refine r_skip ?_
  refine Ws ?_
  refine Sq ?_
  refine Sq ?_
  have hS0:=hS
  refine r_draw (n:=15) rfl (by kernel_rfl) ?_
  refine o_load (v:=.sl (.id t) 2 ((x::gs).map Gap_.cells)) 0 hS (by decide) rfl rfl (.st hS0 0 rfl (by omega)) (po ty_agg90 ty_sc90) ?_
  refine o_len (n:=(x::gs).length) (by decide) rfl (List.length_map _) ty_isl90 ?_
  refine Oi (.b (decide ((((x::gs).length:Nat):Int)>0))) ?_
  refine Om (.b (decide ((((x::gs).length:Nat):Int)>0))) ?_
  refine Oy (want:=true) hpos ?_
  refine Olp (pA Box_.cells a) ty_agg86 ty_sc86 ?_
  refine Oy (want:=true) hpos ?_
  refine Om (.sl .no 1 (purse.map cI)) ?_
  obtain ⟨w3,hw3,hM⟩:=bindE hM
  refine Oy (want:=true) hpos ?_
  refine o_call (bs:=[pA Box_.cells a,.sl .no 1 (purse.map cI)]) (by decide) rfl rfl ((W_takings_box_worth hw3).le (.k (.k .nil))) ?_
  refine Oy (want:=true) hpos ?_
  refine Olp (pA Box_.cells a) ty_agg86 ty_sc86 ?_
  refine Oy (want:=true) hpos ?_
  refine o_load (v:=.sl (.id t) 2 ((x::gs).map Gap_.cells)) 0 hS (by decide) rfl rfl (.st hS0 0 rfl (by omega)) (po ty_agg90 ty_sc90) ?_
  refine Oy (want:=true) hpos ?_
  refine o_index (xs:=x::gs) (f:=Gap_.cells) (z:=0) (u:=x) (by decide) rfl rfl ty_es90 rfl ?_
  refine Oy (want:=true) hpos ?_
  refine Of ((Gap_.cells x)) ty_fo94_0 ?_
  refine Oy (want:=true) hpos ?_
  refine Olp (.sl .no 1 (x.purse.map cI)) ty_agg22 ty_sc22 ?_
  obtain ⟨w4,hw4,hM⟩:=bindE hM
  refine Oy (want:=true) hpos ?_
  refine o_call (bs:=[pA Box_.cells a,.sl .no 1 (x.purse.map cI)]) (by decide) rfl rfl ((W_takings_box_worth hw4).le (.k (.k .nil))) ?_
  refine Oy (want:=true) hpos ?_
  refine Oi (.b (decide (w3<w4))) ?_
  refine Pt (.b (decide (w3<w4))) hpos ?_
  refine Ni ?_
  refine Ws ?_
  rcases bft (decide (w3<w4)) with hw2 | hw2
  ·replace hM:=ifT hM hw2
   obtain rfl:=Option.some.inj hM
   refine Ct hw2 ?_
   refine Rg 1 ?_
   refine o_store (v:=.sl .nil 0 []) (ns:=[.sl .nil 0 []]) (L':=[(oc,.cells [.sl .nil 0 []]),(t,.row 94 (x::gs).length)]) 0 hS rfl rfl .no rfl rfl ty_var90 nlb rfl fun H hS=>?_
   refine Ni ?_
   replace hS:=hS.keep (L':=[(oc,.cells [.sl .nil 0 []])]) [true,false] rfl
   refine Ws ?_
   refine Rg 7 ?_
   refine o_load (v:=.sl .nil 0 []) 0 hS (by decide) rfl rfl .no (po ty_agg90 ty_sc90) ?_
   refine Om (.sl .no 1 (purse.map cI)) ?_
   refine Om (.sl .no 1 (e.1.map cI)) ?_
   refine o_build (cs:=[.sl .no 1 (purse.map cI),.sl .no 1 (e.1.map cI)]) (by decide) ty_zero94 ty_pl94 rfl ?_
   refine o_litC (e:=94) (es:=[[.sl .no 1 (purse.map cI),.sl .no 1 (e.1.map cI)]]) (by decide) ty_es90 ty_el90 rfl ty_ef90 rfl (by decide) ?_
   refine o_appendNil (k:=2) (k':=0) (e:=94) (es:=[[.sl .no 1 (purse.map cI),.sl .no 1 (e.1.map cI)]]) hS (by decide) rfl rfl ty_es90 ty_el90 ty_ef90 nlb (by omega) fun H hS=>?_
   refine o_store (v:=.sl (.id (g+15+8+2+15+1+5)) 2 ([(⟨purse,e.1⟩:Gap_)].map Gap_.cells)) (ns:=[.sl (.id (g+15+8+2+15+1+5)) 2 ([(⟨purse,e.1⟩:Gap_)].map Gap_.cells)]) (L':=[((g+15+8+2+15+1+5),.row 94 1),(oc,.cells [.sl (.id (g+15+8+2+15+1+5)) 2 ([(⟨purse,e.1⟩:Gap_)].map Gap_.cells)])]) 1 hS rfl rfl .no rfl rfl ty_var90 nlb rfl fun H hS=>?_
   refine Ni ?_
   replace hS:=hS.toHead (L':=gM oc (g+15+8+2+15+1+5) [(⟨purse,e.1⟩:Gap_)]) 1 nlb rfl
   exact fin_gM (t:=t) (gs:=x::gs) (gs2:=[(⟨purse,e.1⟩:Gap_)]) (t2:=(g+15+8+2+15+1+5)) (.inl rfl) rfl hS (by omega) (.inr (.inr (by omega)))
  replace hM:=ifF hM hw2
  obtain ⟨l,hl,hM⟩:=bindE hM
  obtain rfl:=Option.some.inj hM
  have hl2:l=x::(gs++[(⟨purse,e.1⟩:Gap_)]):=by
   unfold app at hl
   split at hl
   ·exact (Option.some.inj hl).symm
   ·cases hl
  refine Cf hw2 ?_
  refine r_skip ?_
  refine Ws ?_
  refine Rg 7 ?_
  refine o_load (v:=.sl (.id t) 2 ((x::gs).map Gap_.cells)) 0 hS (by decide) rfl rfl .no (po ty_agg90 ty_sc90) ?_
  refine Om (.sl .no 1 (purse.map cI)) ?_
  refine Om (.sl .no 1 (e.1.map cI)) ?_
  refine o_build (cs:=[.sl .no 1 (purse.map cI),.sl .no 1 (e.1.map cI)]) (by decide) ty_zero94 ty_pl94 rfl ?_
  refine o_litC (e:=94) (es:=[[.sl .no 1 (purse.map cI),.sl .no 1 (e.1.map cI)]]) (by decide) ty_es90 ty_el90 rfl ty_ef90 rfl (by decide) ?_
  refine o_append (xs:=x::gs) (ys:=[(⟨purse,e.1⟩:Gap_)]) (zs:=l) (f:=Gap_.cells) (L':=[(oc,.cells [.sl (.id t) 2 ((x::gs).map Gap_.cells)]),(t,.row 94 l.length)]) 1 hS (by decide) rfl rfl rfl rfl .no ty_es90 ty_el90 ty_ef90 hl rfl fun H hS=>?_
  refine o_store (v:=.sl (.id t) 2 (l.map Gap_.cells)) (ns:=[.sl (.id t) 2 (l.map Gap_.cells)]) (L':=[(oc,.cells [.sl (.id t) 2 (l.map Gap_.cells)]),(t,.row 94 l.length)]) 0 hS rfl rfl .no rfl rfl ty_var90 nlb rfl fun H hS=>?_
  refine Ni ?_
  subst hl2
  exact fin_gM (t:=t) (gs:=x::gs) (gs2:=x::(gs++[(⟨purse,e.1⟩:Gap_)])) (t2:=t) (.inl rfl) rfl hS (by omega) (.inr (.inl ⟨by simp,rfl⟩))
theorem W_gapsR_b {n nn:Nat} {a:Option Box_} {rec:(Option Box_)→(List Int)→Int→List Gap_→Option (Unit×List Gap_)} (hrec:∀{a1:List Int} {a2:Int} {gs:List Gap_} {r:Unit×List Gap_},rec a a1 a2 gs=some r→∀{oc t:Nat},(ids (gM oc t gs)).Nodup→RSat Try.prog 132 [pA Box_.cells a,.sl .no 1 (a1.map cI),.i a2,.fn (.func 133) [] [.ptr oc 0,.ep [pA Box_.cells a]]] (gM oc t gs) (gT oc r.2)) {a1:List Int} {a2:Int} {gs:List Gap_} {r:Unit×List Gap_} (hM:takings_box_gaps_b n rec (fun x0 s=>takings_box_missing_c1 nn a x0 s) a a1 a2 gs=some r) {oc t:Nat} (hnd:(ids (gM oc t gs)).Nodup):RSat Try.prog 132 [pA Box_.cells a,.sl .no 1 (a1.map cI),.i a2,.fn (.func 133) [] [.ptr oc 0,.ep [pA Box_.cells a]]] (gM oc t gs) (gT oc r.2):=by
 refine rsat_of_wpK mixed Try.func132 rfl (by decide) Try.ntmps132 (by simp) (hex_gM oc t gs r.2) fun H0 g hf hp=>?_
 rw [frame0_of]
 change wpA _ _ _ _ (Fr.of [(0,pA Box_.cells a),(1,.sl .no 1 (a1.map cI)),(2,.i a2),(3,.fn (.func 133) [] [.ptr oc 0,.ep [pA Box_.cells a]])]) H0 g
 have hS:=St.startH hf hnd hp
 have hog:oc<g:=(hS.has (oc,_) (List.mem_cons_self ..)).2.1
 unfold takings_box_gaps_b at hM
 refine Sq ?_
 refine Sq ?_
 refine Rg 10 ?_
 refine Om (.sl .no 1 (a1.map cI)) ?_
 refine o_len (n:=a1.length) (by decide) rfl (List.length_map _) ty_isl22 ?_
 refine Om (pA Box_.cells a) ?_
 obtain ⟨b,hb0,hM⟩:=bindE hM
 refine o_nilA (f:=Box_.cells) (p:=a) (u:=b) (by decide) rfl hb0 ?_
 refine Of ((Box.cells b.Box)) ty_fo148_0 ?_
 refine Of ((Box.cells b.Box)) ty_fo26_0 ?_
 refine Of ((Box.cells b.Box)) ty_fo24_2 ?_
 refine Olp (.sl .no 1 (b.Box.Wheel.Coins.map cI)) ty_agg22 ty_sc22 ?_
 refine o_len (n:=b.Box.Wheel.Coins.length) (by decide) rfl (List.length_map _) ty_isl22 ?_
 refine Oi (.b ((a1.length:Int)==(b.Box.Wheel.Coins.length:Int))) ?_
 refine Ni ?_
 refine Ws ?_
 rcases bft ((a1.length:Int)==(b.Box.Wheel.Coins.length:Int)) with hb2 | hb2
 ·replace hM:=ifT hM hb2
  refine Ct hb2 ?_
  refine Sq ?_
  refine Rg 3 ?_
  refine Om (.fn (.func 133) [] [.ptr oc 0,.ep [pA Box_.cells a]]) ?_
  refine Om (.sl .no 1 (a1.map cI)) ?_
  obtain ⟨r3,hr3,hM⟩:=bindE hM
  obtain rfl:=Option.some.inj hM
  refine o_rsatI (M:=gM oc t gs) (L:=[]) (.inl rfl) (by rw [List.append_nil];exact hS) (by decide) rfl rfl (W_takings_box_missing_c1 hr3 hnd) (by omega) ?_
  rintro v M' H g2 ⟨t2,rfl,rfl⟩ hg2 hi hS
  rw [List.append_nil] at hS
  refine Ni ?_
  refine Ws ?_
  refine r_ret ?_
  refine r_then_ret ?_
  exact fin_gMi (.inr rfl) rfl hS (by omega) fun i h=>(hi i h).imp id fun h=>by omega
 replace hM:=ifF hM hb2
 refine Cf hb2 ?_
 refine r_skip ?_
 refine Ws ?_
 refine Sq ?_
 refine Rg 3 ?_
 refine Om (.i a2) ?_
 refine Oi (.i (w64 (a2+1))) ?_
 refine Om (.i 0) ?_
 refine Ni ?_
 refine Ws ?_
 refine r_block ?_
 refine w_loop (V:=Int×List Gap_×Nat) (fun v=>[(0,pA Box_.cells a),(1,.sl .no 1 (a1.map cI)),(2,.i a2),(3,.fn (.func 133) [] [.ptr oc 0,.ep [pA Box_.cells a]]),(23,.i (w64 (a2+1))),(24,.i v.1)]) (fun v m2 H' g'=>St (fun i=>i<g∧i∉ids (gM oc t gs)) H0 (gM oc v.2.2 v.2.1) H' g'∧g≤g'∧(∀i,i∈ids (gM oc v.2.2 v.2.1)→i∈ids (gM oc t gs)∨g≤i)∧takings_box_gaps_l1 rec a a1 a2 m2 v.1 v.2.1=some r) (n:=n) (0,gs,t) (.k (.k (.k (.k (.k (.k .nil)))))) ⟨hS.up (by omega),by omega,fun i h=>.inl h,hM⟩ ?_
 rintro ⟨k,gs2,t2⟩ m2 H g2 ⟨hS,hg2,hi,hM⟩
 obtain _ | m2:=m2
 ·exact nomatch (show none=some _ from hM)
 change wpA _ _ _ _ (Fr.of [(0,pA Box_.cells a),(1,.sl .no 1 (a1.map cI)),(2,.i a2),(3,.fn (.func 133) [] [.ptr oc 0,.ep [pA Box_.cells a]]),(23,.i (w64 (a2+1))),(24,.i k)]) _ _
 replace hS:St (fun i=>i<g∧i∉ids (gM oc t gs)) H0 (gM oc t2 gs2) H g2:=hS
 replace hM:takings_box_gaps_l1_b rec a a1 a2 (takings_box_gaps_l1 rec a a1 a2 m2) k gs2=some r:=hM
 unfold takings_box_gaps_l1_b at hM
 replace hi:∀i,i∈ids (gM oc t2 gs2)→i∈ids (gM oc t gs)∨g≤i:=hi
 refine Sq ?_
 refine Rg 1 ?_
 refine Oi (.b (decide (k<(w64 (a2+1))))) ?_
 refine Ni ?_
 refine Ws ?_
 refine Sq ?_
 rcases bft (decide (k<(w64 (a2+1)))) with hk | hk
 rotate_left
 ·replace hM:=ifF hM hk
  obtain rfl:=Option.some.inj hM
  refine Cf hk ?_
  refine r_exit ?_
  refine r_then_exit ?_
  refine w_round_exit ?_
  refine r_blk_exit ?_
  exact fin_gMi (.inl rfl) rfl hS (by omega) hi
 replace hM:=ifT hM hk
 refine Ct hk ?_
 refine r_skip ?_
 refine Ws ?_
 refine Sq ?_
 refine r_block ?_
 refine Sq ?_
 refine Rg 2 ?_
 refine Om (.i k) ?_
 refine Oa (.i k) ?_
 refine Ni ?_
 refine Ws ?_
 refine Rg 11 ?_
 refine Om (pA Box_.cells a) ?_
 refine Om (.sl .no 1 (a1.map cI)) ?_
 obtain ⟨l8,hl8,hM⟩:=bindE hM
 refine o_fresh (bs:=[.sl .no 1 (a1.map cI)]) hS (by decide) rfl rfl ((W_slices_Clone_int hl8).le (.k .nil)) (by omega) fun H hS=>?_
 rw [List.length_map] at hS
 refine Om (.i k) ?_
 refine o_buildSlice (es:=[[.i k]]) hS (by decide) ty_es22 ty_el22 rfl ty_ef22 rfl (by decide) (by omega) fun H hS=>?_
 obtain ⟨l9,hl9,hM⟩:=bindE hM
 refine o_append (xs:=l8) (ys:=([k]:List Int)) (zs:=l9) (f:=cI) (L':=(g2+1+2+4,.row 3 1)::(g2+1+2+2,.row 3 l9.length)::gM oc t2 gs2) 1 hS (by decide) rfl rfl rfl rfl .no ty_es22 ty_el22 ty_ef22 hl9 rfl fun H hS=>?_
 refine Om (.i a2) ?_
 refine Om (.i k) ?_
 refine Oi (.i (w64 (a2-k))) ?_
 refine Om (.fn (.func 133) [] [.ptr oc 0,.ep [pA Box_.cells a]]) ?_
 obtain ⟨r10,hr10,hM⟩:=bindE hM
 have hS2:=hS.perm (L':=gM oc t2 gs2++[(g2+1+2+4,.row 3 1),(g2+1+2+2,.row 3 l9.length)]) (List.perm_append_comm (l₁:=gM oc t2 gs2) (l₂:=[_,_]))
 refine o_rsatI (M:=gM oc t2 gs2) (L:=[(g2+1+2+4,.row 3 1),(g2+1+2+2,.row 3 l9.length)]) (.inl rfl) hS2 (by decide) rfl rfl ((hrec hr10 (show (ids (gM oc t2 gs2)).Nodup from (hS.keep (L':=gM oc t2 gs2) [false,false] rfl).nd)).le (.k (.cons (.sl _ _ _) (.k (.k .nil))))) (by omega) ?_
 rintro v M' H g3 ⟨t3,rfl,rfl⟩ hg3 hi3 hS
 refine Ni ?_
 refine r_blk_normal ?_
 replace hS:=(hS.perm (L':=[(g2+1+2+4,.row 3 1),(g2+1+2+2,.row 3 l9.length)]++gM oc t3 r10.2) List.perm_append_comm).keep (L':=gM oc t3 r10.2) [false,false] rfl
 refine Ws ?_
 refine Rg 2 ?_
 refine Oi (.i (w64 (k+1))) ?_
 refine Om (.i (w64 (k+1))) ?_
 refine Ni ?_
 exact w_round (w64 (k+1),r10.2,t3) (Nat.lt_succ_self _) (.k (.k (.k (.k (.k (.k .nil)))))) ⟨hS.up (by omega),by omega,fun i h=>(hi3 i h).elim (hi i) fun h=>.inr (by omega),hM⟩
theorem W_gapsR:∀{m nn:Nat} {a:Option Box_} {a1:List Int} {a2:Int} {gs:List Gap_} {r:Unit×List Gap_},takings_box_gaps m (fun x0 s=>takings_box_missing_c1 nn a x0 s) a a1 a2 gs=some r→∀{oc t:Nat},(ids (gM oc t gs)).Nodup→RSat Try.prog 132 [pA Box_.cells a,.sl .no 1 (a1.map cI),.i a2,.fn (.func 133) [] [.ptr oc 0,.ep [pA Box_.cells a]]] (gM oc t gs) (gT oc r.2)
 | 0,_,_,_,_,_,_,h=>nomatch (show none=some _ from h)
 | n+1,nn,a,_,_,_,_,h=>fun hnd=>W_gapsR_b (n:=n) (rec:=takings_box_gaps n (fun x0 s=>takings_box_missing_c1 nn a x0 s)) (fun h _ _ hnd=>W_gapsR h hnd) h hnd
theorem W_takings_box_missing {n:Nat} {a0:Option Box_} {r:List Gap_} (hM:takings_box_missing n a0=some r):PureSat Try.prog 101 [pA Box_.cells a0] (.sl .no 2 (r.map Gap_.cells)):=by
 refine pure_of_wp mixed Try.func101 rfl (by decide) Try.ntmps101 (by simp) ?pure fun H0 g hf=>?_
 case pure=>exact .sl _ _ (pure_gap _)
 rw [frame0_of]
 change wpA _ _ _ _ (Fr.of [(0,pA Box_.cells a0)]) H0 g
 have hS:=St.start hf
 unfold takings_box_missing at hM
 obtain ⟨rr,hrr,hM⟩:=bindE hM
 obtain rfl:=Option.some.inj hM
 refine Sq ?_
 refine Rg 2 ?_
 refine o_box (v:=pA Box_.cells a0) (cs:=[pA Box_.cells a0]) hS (by decide) rfl (cellsOf_pA _ _) (by omega) fun H hS=>?_
 refine Oa (.sl .nil 0 []) ?_
 refine Ni ?_
 refine w_iceE (L':=[]) 0 1 hS rfl rfl rfl fun H hS=>?_
 refine Ws ?_
 refine Sq ?_
 refine Rg 1 ?_
 refine o_alloc hS (by decide) ty_zero90 (by omega) fun H hS=>?_
 refine Ni ?_
 refine Ws ?_
 refine Sq ?_
 refine Rg 3 ?_
 refine Olp (pA Box_.cells a0) ty_agg86 ty_sc86 ?_
 refine o_makeFunc (first:=[]) (cap:=[.ptr (g+2+0) 0,.ep [pA Box_.cells a0]]) (by decide) rfl rfl ?_
 refine o_rsat (M:=gM (g+2+0) 0 []) (L:=[]) (.inl rfl) hS (by decide) rfl rfl ((W_gapsR hrr (by simp [gM,gapBlk,ids])).le (.k (.cons (.sl0 _ _ _) (.k (.k .nil))))) (by omega) ?_
 rintro v M' H g2 ⟨t2,rfl,rfl⟩ hg2 hS
 refine Ni ?_
 refine Ws ?_
 refine Sq ?_
 refine Rg 2 ?_
 refine o_load (v:=gapSlot t2 rr.2) 0 hS (by decide) rfl rfl .no (po ty_agg90 ty_sc90) ?_
 refine Oa (gapSlot t2 rr.2) ?_
 refine Ni ?_
 refine Ws ?_
 refine r_ret ?_
 refine w_end (x:=gapSlot t2 rr.2) (f:=fun (r:List Gap_)=>.sl .no 2 (r.map Gap_.cells)) (.inr rfl) (res_one (res_tmp rfl)) ?_ rfl hS
 cases rr.2 with
 | nil=>exact .sl0 _ _ _
 | cons x gs=>exact .sl _ _ _
theorem W_takings_settle {n:Nat} {a0:Box} {r:(Option Box_)×(List Gap_)×Int} (hM:takings_settle n a0=some r):PureSat Try.prog 62 [.agg (Box.cells a0)] (.tup [pA Box_.cells r.1,.sl .no 2 (r.2.1.map Gap_.cells),.i r.2.2]):=by
 refine pure_of_wp mixed Try.func62 rfl (by decide) Try.ntmps62 (by simp) ?pure fun H0 g hf=>?_
 case pure=>exact .tup _ (pl_cons (pure_pA (fun x=>(pl_cons (.v _) (pl_cons (.sl _ _ (pures_map (fun x=>(pl_cons (.v _) pl_nil)))) (pl_cons (.sl _ _ (pures_map (fun x=>(pl_cons (.v _) pl_nil)))) (pl_cons (.sl _ _ (pures_map (fun x=>(pl_cons (.v _) pl_nil)))) (pl_cons (.sl _ _ (pures_map (fun x=>(pl_cons (.v _) pl_nil)))) (pl_cons (.sl _ _ (pures_map (fun x=>(pl_cons (.v _) pl_nil)))) (pl_cons (.v _) (pl_cons (.v _) pl_nil))))))))) _) (pl_cons (.sl _ _ (pures_map (fun x=>(pl_cons (.sl _ _ (pures_map (fun x=>(pl_cons (.v _) pl_nil)))) (pl_cons (.sl _ _ (pures_map (fun x=>(pl_cons (.v _) pl_nil)))) pl_nil))))) (pl_cons (.v _) pl_nil)))
 rw [frame0_of]
 change wpA _ _ _ _ (Fr.of [(0,.agg (Box.cells a0))]) H0 g
 have hS:=St.start hf
 refine Sq ?_
 refine Rg 4 ?_
 refine o_box (v:=.agg (Box.cells a0)) (cs:=(Box.cells a0)) hS (by decide) rfl rfl (by omega) fun H hS=>?_
 refine Oa (pA Box_.cells (none:Option Box_)) ?_
 refine Oa (.sl .nil 0 []) ?_
 refine Oa (.i 0) ?_
 refine Ni ?_
 refine w_iceE (L':=[]) 0 1 hS rfl rfl rfl fun H hS=>?_
 refine Ws ?_
 refine Sq ?_
 refine Rg 7 ?_
 refine Olg (.agg (Box.cells a0)) ty_agg26 ?_
 obtain ⟨r1,hr1,hM⟩:=bindE hM
 refine o_call (bs:=[.agg (Box.cells a0)]) (by decide) rfl rfl ((W_takings_open hr1).le (.k .nil)) ?_
 refine Om (.tup [pA Box_.cells r1.1,.i r1.2]) ?_
 refine Ox (pA Box_.cells r1.1) ?_
 refine Ox (.i r1.2) ?_
 refine Oa (pA Box_.cells r1.1) ?_
 refine Oa (.i r1.2) ?_
 refine Ni ?_
 refine Ws ?_
 refine Sq ?_
 refine Sq ?_
 refine Rg 2 ?_
 refine Om (.i r1.2) ?_
 refine Oi (.b (r1.2 != 0)) ?_
 refine Ni ?_
 refine Ws ?_
 rcases bft (r1.2 != 0) with hb2 | hb2
 ·replace hM:=ifT hM hb2
  refine Ct hb2 ?_
  refine Sq ?_
  refine Rg 4 ?_
  refine Om (.i r1.2) ?_
  refine Oa (pA Box_.cells (none:Option Box_)) ?_
  refine Oa (.sl .nil 0 []) ?_
  refine Oa (.i r1.2) ?_
  refine Ni ?_
  refine Ws ?_
  refine r_ret ?_
  refine r_then_ret ?_
  refine w_end (x:=.tup [pA Box_.cells (none:Option Box_),.sl .nil 0 [],.i r1.2]) (f:=fun r=>.tup [pA Box_.cells r.1,.sl .no 2 (r.2.1.map Gap_.cells),.i r.2.2]) (.inr rfl) ?_ (.tupL (.k (.cons (.sl0 .nil 2 0) (.k .nil)))) (Option.some.inj hM) hS
  exact (res_three (res_tmp (x:=pA Box_.cells (none:Option Box_)) rfl) (res_tmp (x:=.sl .nil 0 []) rfl) (res_tmp (x:=.i r1.2) rfl))
 ·replace hM:=ifF hM hb2
  refine Cf hb2 ?_
  refine r_skip ?_
  refine Ws ?_
  refine Sq ?_
  refine Rg 3 ?_
  refine Om (pA Box_.cells r1.1) ?_
  obtain ⟨r3,hr3,hM⟩:=bindE hM
  refine o_call (bs:=[pA Box_.cells r1.1]) (by decide) rfl rfl ((W_takings_box_missing hr3).le (.k .nil)) ?_
  refine Oa (.sl .no 2 (r3.map Gap_.cells)) ?_
  refine Ni ?_
  refine Ws ?_
  refine Sq ?_
  refine Sq ?_
  refine Rg 3 ?_
  refine Om (.sl .no 2 (r3.map Gap_.cells)) ?_
  refine o_len (n:=r3.length) (by decide) rfl (List.length_map _) ty_isl90 ?_
  refine Oi (.b ((r3.length:Int)==0)) ?_
  refine Ni ?_
  refine Ws ?_
  rcases bft ((r3.length:Int)==0) with hb4 | hb4
  ·replace hM:=ifT hM hb4
   refine Ct hb4 ?_
   refine Sq ?_
   refine Rg 3 ?_
   refine Oa (pA Box_.cells (none:Option Box_)) ?_
   refine Oa (.sl .nil 0 []) ?_
   refine Oa (.i 3) ?_
   refine Ni ?_
   refine Ws ?_
   refine r_ret ?_
   refine r_then_ret ?_
   refine w_end (x:=.tup [pA Box_.cells (none:Option Box_),.sl .nil 0 [],.i 3]) (f:=fun r=>.tup [pA Box_.cells r.1,.sl .no 2 (r.2.1.map Gap_.cells),.i r.2.2]) (.inr rfl) ?_ (.tupL (.k (.cons (.sl0 .nil 2 0) (.k .nil)))) (Option.some.inj hM) hS
   exact (res_three (res_tmp (x:=pA Box_.cells (none:Option Box_)) rfl) (res_tmp (x:=.sl .nil 0 []) rfl) (res_tmp (x:=.i 3) rfl))
  ·replace hM:=ifF hM hb4
   refine Cf hb4 ?_
   refine r_skip ?_
   refine Ws ?_
   refine Sq ?_
   refine Rg 5 ?_
   refine Om (pA Box_.cells r1.1) ?_
   refine Om (.sl .no 2 (r3.map Gap_.cells)) ?_
   refine Oa (pA Box_.cells r1.1) ?_
   refine Oa (.sl .no 2 (r3.map Gap_.cells)) ?_
   refine Oa (.i 0) ?_
   refine Ni ?_
   refine w_next [(2,pA Box_.cells r1.1),(3,.sl .no 2 (r3.map Gap_.cells)),(4,.i 0)] (.k (.k (.k .nil))) ?_
   refine r_ret ?_
   refine w_end (x:=.tup [pA Box_.cells r1.1,.sl .no 2 (r3.map Gap_.cells),.i 0]) (f:=fun r=>.tup [pA Box_.cells r.1,.sl .no 2 (r.2.1.map Gap_.cells),.i r.2.2]) (.inr rfl) ?_ (.refl _) (Option.some.inj hM) hS
   exact (res_three (res_tmp (x:=pA Box_.cells r1.1) rfl) (res_tmp (x:=.sl .no 2 (r3.map Gap_.cells)) rfl) (res_tmp (x:=.i 0) rfl))
theorem W_takings_Missing {n:Nat} {a0:Box} {r:Int×Int} (hM:takings_Missing n a0=some r):PureSat Try.prog 19 [.agg (Box.cells a0)] (.tup [.i r.1,.i r.2]):=by
 refine pure_of_wp mixed Try.func19 rfl (by decide) Try.ntmps19 (by simp) ?pure fun H0 g hf=>?_
 case pure=>exact .tup _ (pl_cons (.v _) (pl_cons (.v _) pl_nil))
 rw [frame0_of]
 change wpA _ _ _ _ (Fr.of [(0,.agg (Box.cells a0))]) H0 g
 have hS:=St.start hf
 refine Sq ?_
 refine Rg 3 ?_
 refine o_box (v:=.agg (Box.cells a0)) (cs:=(Box.cells a0)) hS (by decide) rfl rfl (by omega) fun H hS=>?_
 refine Oa (.i 0) ?_
 refine Oa (.i 0) ?_
 refine Ni ?_
 refine w_iceE (L':=[]) 0 1 hS rfl rfl rfl fun H hS=>?_
 refine Ws ?_
 refine Sq ?_
 refine Rg 9 ?_
 refine Olg (.agg (Box.cells a0)) ty_agg26 ?_
 obtain ⟨r1,hr1,hM⟩:=bindE hM
 refine o_call (bs:=[.agg (Box.cells a0)]) (by decide) rfl rfl ((W_takings_settle hr1).le (.k .nil)) ?_
 refine Om (.tup [pA Box_.cells r1.1,.sl .no 2 (r1.2.1.map Gap_.cells),.i r1.2.2]) ?_
 refine Ox (pA Box_.cells r1.1) ?_
 refine Ox (.sl .no 2 (r1.2.1.map Gap_.cells)) ?_
 refine Ox (.i r1.2.2) ?_
 refine Oa (pA Box_.cells r1.1) ?_
 refine Oa (.sl .no 2 (r1.2.1.map Gap_.cells)) ?_
 refine Oa (.i r1.2.2) ?_
 refine Ni ?_
 refine Ws ?_
 refine Sq ?_
 refine Sq ?_
 refine Rg 2 ?_
 refine Om (.i r1.2.2) ?_
 refine Oi (.b (r1.2.2 != 0)) ?_
 refine Ni ?_
 refine Ws ?_
 rcases bft (r1.2.2 != 0) with hb2 | hb2
 ·replace hM:=ifT hM hb2
  refine Ct hb2 ?_
  refine Sq ?_
  refine Rg 3 ?_
  refine Om (.i r1.2.2) ?_
  refine Oa (.i 0) ?_
  refine Oa (.i r1.2.2) ?_
  refine Ni ?_
  refine Ws ?_
  refine r_ret ?_
  refine r_then_ret ?_
  refine w_end (x:=.tup [.i 0,.i r1.2.2]) (f:=fun r=>.tup [.i r.1,.i r.2]) (.inr rfl) ?_ (.refl _) (Option.some.inj hM) hS
  exact (res_two (res_tmp (x:=.i 0) rfl) (res_tmp (x:=.i r1.2.2) rfl))
 ·replace hM:=ifF hM hb2
  refine Cf hb2 ?_
  refine r_skip ?_
  refine Ws ?_
  refine Sq ?_
  refine Rg 8 ?_
  refine Om (pA Box_.cells r1.1) ?_
  refine Om (.sl .no 2 (r1.2.1.map Gap_.cells)) ?_
  obtain ⟨x3,hx3,hM⟩:=bindE hM
  refine o_index (xs:=r1.2.1) (f:=Gap_.cells) (z:=0) (u:=x3) (by decide) rfl rfl ty_es90 hx3 ?_
  refine Of ((Gap_.cells x3)) ty_fo94_0 ?_
  refine Olp (.sl .no 1 (x3.purse.map cI)) ty_agg22 ty_sc22 ?_
  obtain ⟨r4,hr4,hM⟩:=bindE hM
  refine o_call (bs:=[pA Box_.cells r1.1,.sl .no 1 (x3.purse.map cI)]) (by decide) rfl rfl ((W_takings_box_worth hr4).le (.k (.k .nil))) ?_
  refine Oa (.i r4) ?_
  refine Oa (.i 0) ?_
  refine Ni ?_
  refine w_next [(2,.i r4),(3,.i 0)] (.k (.k .nil)) ?_
  refine r_ret ?_
  refine w_end (x:=.tup [.i r4,.i 0]) (f:=fun r=>.tup [.i r.1,.i r.2]) (.inr rfl) ?_ (.refl _) (Option.some.inj hM) hS
  exact (res_two (res_tmp (x:=.i r4) rfl) (res_tmp (x:=.i 0) rfl))
theorem W_takings_Cash {n:Nat} {a0:Box} {r:Int×Int×Int×Int} (hM:takings_Cash n a0=some r):PureSat Try.prog 20 [.agg (Box.cells a0)] (.tup [.i r.1,.i r.2.1,.i r.2.2.1,.i r.2.2.2]):=by
 refine pure_of_wp mixed Try.func20 rfl (by decide) Try.ntmps20 (by simp) ?pure fun H0 g hf=>?_
 case pure=>exact .tup _ (pl_cons (.v _) (pl_cons (.v _) (pl_cons (.v _) (pl_cons (.v _) pl_nil))))
 rw [frame0_of]
 change wpA _ _ _ _ (Fr.of [(0,.agg (Box.cells a0))]) H0 g
 have hS:=St.start hf
 refine Sq ?_
 refine Rg 5 ?_
 refine o_box (v:=.agg (Box.cells a0)) (cs:=(Box.cells a0)) hS (by decide) rfl rfl (by omega) fun H hS=>?_
 refine Oa (.i 0) ?_
 refine Oa (.i 0) ?_
 refine Oa (.i 0) ?_
 refine Oa (.i 0) ?_
 refine Ni ?_
 refine w_iceE (L':=[]) 0 1 hS rfl rfl rfl fun H hS=>?_
 refine Ws ?_
 refine Sq ?_
 refine Rg 7 ?_
 refine Olg (.agg (Box.cells a0)) ty_agg26 ?_
 obtain ⟨r1,hr1,hM⟩:=bindE hM
 refine o_call (bs:=[.agg (Box.cells a0)]) (by decide) rfl rfl ((W_takings_open hr1).le (.k .nil)) ?_
 refine Om (.tup [pA Box_.cells r1.1,.i r1.2]) ?_
 refine Ox (pA Box_.cells r1.1) ?_
 refine Ox (.i r1.2) ?_
 refine Oa (pA Box_.cells r1.1) ?_
 refine Oa (.i r1.2) ?_
 refine Ni ?_
 refine Ws ?_
 refine Sq ?_
 refine Sq ?_
 refine Rg 2 ?_
 refine Om (.i r1.2) ?_
 refine Oi (.b (r1.2 != 0)) ?_
 refine Ni ?_
 refine Ws ?_
 rcases bft (r1.2 != 0) with hb2 | hb2
 ·replace hM:=ifT hM hb2
  refine Ct hb2 ?_
  refine Sq ?_
  refine Rg 5 ?_
  refine Om (.i r1.2) ?_
  refine Oa (.i 0) ?_
  refine Oa (.i 0) ?_
  refine Oa (.i 0) ?_
  refine Oa (.i r1.2) ?_
  refine Ni ?_
  refine Ws ?_
  refine r_ret ?_
  refine r_then_ret ?_
  refine w_end (x:=.tup [.i 0,.i 0,.i 0,.i r1.2]) (f:=fun r=>.tup [.i r.1,.i r.2.1,.i r.2.2.1,.i r.2.2.2]) (.inr rfl) ?_ (.refl _) (Option.some.inj hM) hS
  exact (res_four (res_tmp (x:=.i 0) rfl) (res_tmp (x:=.i 0) rfl) (res_tmp (x:=.i 0) rfl) (res_tmp (x:=.i r1.2) rfl))
 ·replace hM:=ifF hM hb2
  refine Cf hb2 ?_
  refine r_skip ?_
  refine Ws ?_
  refine Sq ?_
  refine Rg 5 ?_
  refine Om (pA Box_.cells r1.1) ?_
  refine Of ((Box.cells a0)) ty_fo26_2 ?_
  refine Olp (.sl .no 1 (a0.Marked.map cI)) ty_agg22 ty_sc22 ?_
  obtain ⟨r3,hr3,hM⟩:=bindE hM
  refine o_call (bs:=[pA Box_.cells r1.1,.sl .no 1 (a0.Marked.map cI)]) (by decide) rfl rfl ((W_takings_box_worth hr3).le (.k (.k .nil))) ?_
  refine Oa (.i r3) ?_
  refine Ni ?_
  refine Ws ?_
  refine Sq ?_
  have hS0:=hS
  refine r_draw (n:=15) rfl (by kernel_rfl) ?_
  refine Om (pA Box_.cells r1.1) ?_
  refine Of ((Box.cells a0)) ty_fo26_1 ?_
  refine Olp (.sl .no 1 (a0.Found.map cI)) ty_agg22 ty_sc22 ?_
  obtain ⟨r4,hr4,hM⟩:=bindE hM
  refine o_call (bs:=[pA Box_.cells r1.1,.sl .no 1 (a0.Found.map cI)]) (by decide) rfl rfl ((W_takings_box_worth hr4).le (.k (.k .nil))) ?_
  refine Om (.i r3) ?_
  refine Oi (.i (w64 (r4-r3))) ?_
  refine Om (.i r3) ?_
  refine Om (pA Box_.cells r1.1) ?_
  refine Of ((Box.cells a0)) ty_fo26_3 ?_
  refine Olp (.sl .no 1 (a0.Slugs.map cI)) ty_agg22 ty_sc22 ?_
  obtain ⟨r5,hr5,hM⟩:=bindE hM
  refine o_call (bs:=[pA Box_.cells r1.1,.sl .no 1 (a0.Slugs.map cI)]) (by decide) rfl rfl ((W_takings_box_worth hr5).le (.k (.k .nil))) ?_
  refine Oa (.i (w64 (r4-r3))) ?_
  refine Oa (.i r3) ?_
  refine Oa (.i r5) ?_
  refine Oa (.i 0) ?_
  refine Ni ?_
  refine w_next [(2,.i (w64 (r4-r3))),(3,.i r3),(4,.i r5),(5,.i 0)] (.k (.k (.k (.k .nil)))) ?_
  refine r_ret ?_
  refine w_end (x:=.tup [.i (w64 (r4-r3)),.i r3,.i r5,.i 0]) (f:=fun r=>.tup [.i r.1,.i r.2.1,.i r.2.2.1,.i r.2.2.2]) (.inr rfl) ?_ (.refl _) (Option.some.inj hM) hS
  exact (res_four (res_tmp (x:=.i (w64 (r4-r3))) rfl) (res_tmp (x:=.i r3) rfl) (res_tmp (x:=.i r5) rfl) (res_tmp (x:=.i 0) rfl))
theorem W_ref01_Copy {a0:Wheel} {r:Wheel} (hM:ref01_Copy a0=some r):PureSat Try.prog 59 [.agg (Wheel.cells a0)] (.agg [.i r.Round,.sl .no 1 (r.Notches.map cI),.sl .no 1 (r.Coins.map cI)]):=by
 refine pure_of_wp mixed Try.func59 rfl (by decide) Try.ntmps59 (by simp) ?pure fun H0 g hf=>?_
 case pure=>exact .agg _ (pl_cons (.v _) (pl_cons (.sl _ _ (pures_map (fun x=>(pl_cons (.v _) pl_nil)))) (pl_cons (.sl _ _ (pures_map (fun x=>(pl_cons (.v _) pl_nil)))) pl_nil)))
 rw [frame0_of]
 change wpA _ _ _ _ (Fr.of [(0,.agg (Wheel.cells a0))]) H0 g
 have hS:=St.start hf
 refine Sq ?_
 refine Rg 2 ?_
 refine o_box (v:=.agg (Wheel.cells a0)) (cs:=(Wheel.cells a0)) hS (by decide) rfl rfl (by omega) fun H hS=>?_
 refine o_alloc hS (by decide) ty_zero24 (by omega) fun H hS=>?_
 refine Ni ?_
 refine w_iceE (L':=[(g+1,.cells [.i 0,.sl .nil 0 [],.sl .nil 0 []])]) 1 1 hS rfl rfl rfl fun H hS=>?_
 refine Ws ?_
 refine Sq ?_
 have hS0:=hS
 refine r_draw (n:=12) rfl (by kernel_rfl) ?_
 refine Of ((Wheel.cells a0)) ty_fo24_0 ?_
 refine Olp (.i a0.Round) ty_agg3 ty_sc3 ?_
 refine o_buildSlice (es:=[]) hS (by decide) ty_es22 ty_el22 rfl ty_ef22 rfl (by decide) (by omega) fun H hS=>?_
 refine Of ((Wheel.cells a0)) ty_fo24_1 ?_
 refine Olp (.sl .no 1 (a0.Notches.map cI)) ty_agg22 ty_sc22 ?_
 obtain ⟨l1,hl1,hM⟩:=bindE hM
 refine o_append (xs:=([]:List Int)) (ys:=a0.Notches) (zs:=l1) (f:=cI) (L':=[(g+2+2,.row 3 l1.length),(g+1,.cells [.i 0,.sl .nil 0 [],.sl .nil 0 []])]) 0 hS (by decide) rfl rfl rfl rfl (.behind (by kernel_rfl)) ty_es22 ty_el22 ty_ef22 hl1 rfl fun H hS=>?_
 refine o_buildSlice (es:=[]) hS (by decide) ty_es22 ty_el22 rfl ty_ef22 rfl (by decide) (by omega) fun H hS=>?_
 refine Of ((Wheel.cells a0)) ty_fo24_2 ?_
 refine Olp (.sl .no 1 (a0.Coins.map cI)) ty_agg22 ty_sc22 ?_
 obtain ⟨l2,hl2,hM⟩:=bindE hM
 refine o_append (xs:=([]:List Int)) (ys:=a0.Coins) (zs:=l2) (f:=cI) (L':=[(g+2+6,.row 3 l2.length),(g+2+2,.row 3 l1.length),(g+1,.cells [.i 0,.sl .nil 0 [],.sl .nil 0 []])]) 0 hS (by decide) rfl rfl rfl rfl (.behind (by kernel_rfl)) ty_es22 ty_el22 ty_ef22 hl2 rfl fun H hS=>?_
 refine o_build (cs:=[.i a0.Round,.sl (.id (g+2+2)) 1 (l1.map cI),.sl (.id (g+2+6)) 1 (l2.map cI)]) (by decide) ty_zero24 ty_pl24 rfl ?_
 refine o_store (v:=.agg [.i a0.Round,.sl (.id (g+2+2)) 1 (l1.map cI),.sl (.id (g+2+6)) 1 (l2.map cI)]) (ns:=[.i a0.Round,.sl (.id (g+2+2)) 1 (l1.map cI),.sl (.id (g+2+6)) 1 (l2.map cI)]) (L':=[(g+2+6,.row 3 l2.length),(g+2+2,.row 3 l1.length),(g+1,.cells [.i a0.Round,.sl (.id (g+2+2)) 1 (l1.map cI),.sl (.id (g+2+6)) 1 (l2.map cI)])]) 2 hS rfl rfl (.st hS0 0 rfl (by omega)) rfl rfl ty_var24 nlb rfl fun H hS=>?_
 refine Ni ?_
 refine w_next [(2,.ptr (g+1) 0)] (.k .nil) ?_
 refine r_ret ?_
 refine w_end (x:=.agg [.i a0.Round,.sl (.id (g+2+2)) 1 (l1.map cI),.sl (.id (g+2+6)) 1 (l2.map cI)]) (f:=fun r=>.agg [.i r.Round,.sl .no 1 (r.Notches.map cI),.sl .no 1 (r.Coins.map cI)]) (.inr rfl) ?_ (.aggL (.k (.cons (.sl _ _ _) (.cons (.sl _ _ _) .nil)))) (Option.some.inj hM) hS
 exact (res_one (res_cell (x:=.agg [.i a0.Round,.sl (.id (g+2+2)) 1 (l1.map cI),.sl (.id (g+2+6)) 1 (l2.map cI)]) 2 hS rfl rfl (pg ty_agg24)))
theorem W_ref05_Copy {a0:Box} {r:Box} (hM:ref05_Copy a0=some r):PureSat Try.prog 17 [.agg (Box.cells a0)] (.agg [.i r.Wheel.Round,.sl .no 1 (r.Wheel.Notches.map cI),.sl .no 1 (r.Wheel.Coins.map cI),.sl .no 1 (r.Found.map cI),.sl .no 1 (r.Marked.map cI),.sl .no 1 (r.Slugs.map cI),.i r.Plays,.i r.Skips]):=by
 refine pure_of_wp mixed Try.func17 rfl (by decide) Try.ntmps17 (by simp) ?pure fun H0 g hf=>?_
 case pure=>exact .agg _ (pl_cons (.v _) (pl_cons (.sl _ _ (pures_map (fun x=>(pl_cons (.v _) pl_nil)))) (pl_cons (.sl _ _ (pures_map (fun x=>(pl_cons (.v _) pl_nil)))) (pl_cons (.sl _ _ (pures_map (fun x=>(pl_cons (.v _) pl_nil)))) (pl_cons (.sl _ _ (pures_map (fun x=>(pl_cons (.v _) pl_nil)))) (pl_cons (.sl _ _ (pures_map (fun x=>(pl_cons (.v _) pl_nil)))) (pl_cons (.v _) (pl_cons (.v _) pl_nil))))))))
 rw [frame0_of]
 change wpA _ _ _ _ (Fr.of [(0,.agg (Box.cells a0))]) H0 g
 have hS:=St.start hf
 refine Sq ?_
 refine Rg 2 ?_
 refine o_box (v:=.agg (Box.cells a0)) (cs:=(Box.cells a0)) hS (by decide) rfl rfl (by omega) fun H hS=>?_
 refine o_alloc hS (by decide) ty_zero26 (by omega) fun H hS=>?_
 refine Ni ?_
 refine w_iceE (L':=[(g+1,.cells [.i 0,.sl .nil 0 [],.sl .nil 0 [],.sl .nil 0 [],.sl .nil 0 [],.sl .nil 0 [],.i 0,.i 0])]) 1 1 hS rfl rfl rfl fun H hS=>?_
 refine Ws ?_
 refine Sq ?_
 refine Rg 3 ?_
 refine Olg (.agg (Box.cells a0)) ty_agg26 ?_
 refine o_alloc hS (by decide) ty_zero26 (by omega) fun H hS=>?_
 refine o_store (v:=.agg (Box.cells a0)) (ns:=(Box.cells a0)) (L':=[(g+2+1,.cells (Box.cells a0)),(g+1,.cells [.i 0,.sl .nil 0 [],.sl .nil 0 [],.sl .nil 0 [],.sl .nil 0 [],.sl .nil 0 [],.i 0,.i 0])]) 0 hS rfl rfl .no rfl rfl ty_var26 nlb rfl fun H hS=>?_
 refine Ni ?_
 refine Ws ?_
 refine Sq ?_
 refine Rg 5 ?_
 refine Of ((Box.cells a0)) ty_fo26_0 ?_
 refine Olg (.agg (Wheel.cells a0.Wheel)) ty_agg24 ?_
 obtain ⟨r1,hr1,hM⟩:=bindE hM
 refine o_call (bs:=[.agg (Wheel.cells a0.Wheel)]) (by decide) rfl rfl ((W_ref01_Copy hr1).le (.k .nil)) ?_
 refine o_fieldP (by decide) ty_fo26_0 rfl ?_
 refine o_store (v:=.agg (Wheel.cells r1)) (ns:=(Wheel.cells r1)) (L':=[(g+2+1,.cells [.i r1.Round,.sl .no 1 (r1.Notches.map cI),.sl .no 1 (r1.Coins.map cI),.sl .no 1 (a0.Found.map cI),.sl .no 1 (a0.Marked.map cI),.sl .no 1 (a0.Slugs.map cI),.i a0.Plays,.i a0.Skips]),(g+1,.cells [.i 0,.sl .nil 0 [],.sl .nil 0 [],.sl .nil 0 [],.sl .nil 0 [],.sl .nil 0 [],.i 0,.i 0])]) 0 hS rfl rfl .no rfl rfl ty_var24 nlb rfl fun H hS=>?_
 refine Ni ?_
 refine Ws ?_
 refine Sq ?_
 have hS0:=hS
 refine r_draw (n:=18) rfl (by kernel_rfl) ?_
 refine o_buildSlice (es:=[]) hS (by decide) ty_es22 ty_el22 rfl ty_ef22 rfl (by decide) (by omega) fun H hS=>?_
 refine Of ((Box.cells a0)) ty_fo26_1 ?_
 refine Olp (.sl .no 1 (a0.Found.map cI)) ty_agg22 ty_sc22 ?_
 obtain ⟨l2,hl2,hM⟩:=bindE hM
 refine o_append (xs:=([]:List Int)) (ys:=a0.Found) (zs:=l2) (f:=cI) (L':=[(g+2+3+5+0,.row 3 l2.length),(g+2+1,.cells [.i r1.Round,.sl .no 1 (r1.Notches.map cI),.sl .no 1 (r1.Coins.map cI),.sl .no 1 (a0.Found.map cI),.sl .no 1 (a0.Marked.map cI),.sl .no 1 (a0.Slugs.map cI),.i a0.Plays,.i a0.Skips]),(g+1,.cells [.i 0,.sl .nil 0 [],.sl .nil 0 [],.sl .nil 0 [],.sl .nil 0 [],.sl .nil 0 [],.i 0,.i 0])]) 0 hS (by decide) rfl rfl rfl rfl (.behind (by kernel_rfl)) ty_es22 ty_el22 ty_ef22 hl2 rfl fun H hS=>?_
 refine o_buildSlice (es:=[]) hS (by decide) ty_es22 ty_el22 rfl ty_ef22 rfl (by decide) (by omega) fun H hS=>?_
 refine Of ((Box.cells a0)) ty_fo26_2 ?_
 refine Olp (.sl .no 1 (a0.Marked.map cI)) ty_agg22 ty_sc22 ?_
 obtain ⟨l3,hl3,hM⟩:=bindE hM
 refine o_append (xs:=([]:List Int)) (ys:=a0.Marked) (zs:=l3) (f:=cI) (L':=[(g+2+3+5+4,.row 3 l3.length),(g+2+3+5+0,.row 3 l2.length),(g+2+1,.cells [.i r1.Round,.sl .no 1 (r1.Notches.map cI),.sl .no 1 (r1.Coins.map cI),.sl .no 1 (a0.Found.map cI),.sl .no 1 (a0.Marked.map cI),.sl .no 1 (a0.Slugs.map cI),.i a0.Plays,.i a0.Skips]),(g+1,.cells [.i 0,.sl .nil 0 [],.sl .nil 0 [],.sl .nil 0 [],.sl .nil 0 [],.sl .nil 0 [],.i 0,.i 0])]) 0 hS (by decide) rfl rfl rfl rfl (.behind (by kernel_rfl)) ty_es22 ty_el22 ty_ef22 hl3 rfl fun H hS=>?_
 refine o_buildSlice (es:=[]) hS (by decide) ty_es22 ty_el22 rfl ty_ef22 rfl (by decide) (by omega) fun H hS=>?_
 refine Of ((Box.cells a0)) ty_fo26_3 ?_
 refine Olp (.sl .no 1 (a0.Slugs.map cI)) ty_agg22 ty_sc22 ?_
 obtain ⟨l4,hl4,hM⟩:=bindE hM
 refine o_append (xs:=([]:List Int)) (ys:=a0.Slugs) (zs:=l4) (f:=cI) (L':=[(g+2+3+5+8,.row 3 l4.length),(g+2+3+5+4,.row 3 l3.length),(g+2+3+5+0,.row 3 l2.length),(g+2+1,.cells [.i r1.Round,.sl .no 1 (r1.Notches.map cI),.sl .no 1 (r1.Coins.map cI),.sl .no 1 (a0.Found.map cI),.sl .no 1 (a0.Marked.map cI),.sl .no 1 (a0.Slugs.map cI),.i a0.Plays,.i a0.Skips]),(g+1,.cells [.i 0,.sl .nil 0 [],.sl .nil 0 [],.sl .nil 0 [],.sl .nil 0 [],.sl .nil 0 [],.i 0,.i 0])]) 0 hS (by decide) rfl rfl rfl rfl (.behind (by kernel_rfl)) ty_es22 ty_el22 ty_ef22 hl4 rfl fun H hS=>?_
 refine o_fieldP (by decide) ty_fo26_1 rfl ?_
 refine o_store (v:=.sl (.id (g+2+3+5+0)) 1 (l2.map cI)) (ns:=[.sl (.id (g+2+3+5+0)) 1 (l2.map cI)]) (L':=[(g+2+3+5+8,.row 3 l4.length),(g+2+3+5+4,.row 3 l3.length),(g+2+3+5+0,.row 3 l2.length),(g+2+1,.cells [.i r1.Round,.sl .no 1 (r1.Notches.map cI),.sl .no 1 (r1.Coins.map cI),.sl (.id (g+2+3+5+0)) 1 (l2.map cI),.sl .no 1 (a0.Marked.map cI),.sl .no 1 (a0.Slugs.map cI),.i a0.Plays,.i a0.Skips]),(g+1,.cells [.i 0,.sl .nil 0 [],.sl .nil 0 [],.sl .nil 0 [],.sl .nil 0 [],.sl .nil 0 [],.i 0,.i 0])]) 3 hS rfl rfl (.st hS0 0 rfl (by omega)) rfl rfl ty_var22 nlb rfl fun H hS=>?_
 refine o_fieldP (by decide) ty_fo26_2 rfl ?_
 refine o_store (v:=.sl (.id (g+2+3+5+4)) 1 (l3.map cI)) (ns:=[.sl (.id (g+2+3+5+4)) 1 (l3.map cI)]) (L':=[(g+2+3+5+8,.row 3 l4.length),(g+2+3+5+4,.row 3 l3.length),(g+2+3+5+0,.row 3 l2.length),(g+2+1,.cells [.i r1.Round,.sl .no 1 (r1.Notches.map cI),.sl .no 1 (r1.Coins.map cI),.sl (.id (g+2+3+5+0)) 1 (l2.map cI),.sl (.id (g+2+3+5+4)) 1 (l3.map cI),.sl .no 1 (a0.Slugs.map cI),.i a0.Plays,.i a0.Skips]),(g+1,.cells [.i 0,.sl .nil 0 [],.sl .nil 0 [],.sl .nil 0 [],.sl .nil 0 [],.sl .nil 0 [],.i 0,.i 0])]) 3 hS rfl rfl (.st hS0 0 rfl (by omega)) rfl rfl ty_var22 nlb rfl fun H hS=>?_
 refine o_fieldP (by decide) ty_fo26_3 rfl ?_
 refine o_store (v:=.sl (.id (g+2+3+5+8)) 1 (l4.map cI)) (ns:=[.sl (.id (g+2+3+5+8)) 1 (l4.map cI)]) (L':=[(g+2+3+5+8,.row 3 l4.length),(g+2+3+5+4,.row 3 l3.length),(g+2+3+5+0,.row 3 l2.length),(g+2+1,.cells [.i r1.Round,.sl .no 1 (r1.Notches.map cI),.sl .no 1 (r1.Coins.map cI),.sl (.id (g+2+3+5+0)) 1 (l2.map cI),.sl (.id (g+2+3+5+4)) 1 (l3.map cI),.sl (.id (g+2+3+5+8)) 1 (l4.map cI),.i a0.Plays,.i a0.Skips]),(g+1,.cells [.i 0,.sl .nil 0 [],.sl .nil 0 [],.sl .nil 0 [],.sl .nil 0 [],.sl .nil 0 [],.i 0,.i 0])]) 3 hS rfl rfl (.st hS0 0 rfl (by omega)) rfl rfl ty_var22 nlb rfl fun H hS=>?_
 refine Ni ?_
 refine Ws ?_
 refine Sq ?_
 refine Rg 2 ?_
 refine o_load (v:=.agg [.i r1.Round,.sl .no 1 (r1.Notches.map cI),.sl .no 1 (r1.Coins.map cI),.sl (.id (g+2+3+5+0)) 1 (l2.map cI),.sl (.id (g+2+3+5+4)) 1 (l3.map cI),.sl (.id (g+2+3+5+8)) 1 (l4.map cI),.i a0.Plays,.i a0.Skips]) 3 hS (by decide) rfl rfl .no (pg ty_agg26) ?_
 refine o_store (v:=.agg [.i r1.Round,.sl .no 1 (r1.Notches.map cI),.sl .no 1 (r1.Coins.map cI),.sl (.id (g+2+3+5+0)) 1 (l2.map cI),.sl (.id (g+2+3+5+4)) 1 (l3.map cI),.sl (.id (g+2+3+5+8)) 1 (l4.map cI),.i a0.Plays,.i a0.Skips]) (ns:=[.i r1.Round,.sl .no 1 (r1.Notches.map cI),.sl .no 1 (r1.Coins.map cI),.sl (.id (g+2+3+5+0)) 1 (l2.map cI),.sl (.id (g+2+3+5+4)) 1 (l3.map cI),.sl (.id (g+2+3+5+8)) 1 (l4.map cI),.i a0.Plays,.i a0.Skips]) (L':=[(g+2+3+5+8,.row 3 l4.length),(g+2+3+5+4,.row 3 l3.length),(g+2+3+5+0,.row 3 l2.length),(g+2+1,.cells [.i r1.Round,.sl .no 1 (r1.Notches.map cI),.sl .no 1 (r1.Coins.map cI),.sl (.id (g+2+3+5+0)) 1 (l2.map cI),.sl (.id (g+2+3+5+4)) 1 (l3.map cI),.sl (.id (g+2+3+5+8)) 1 (l4.map cI),.i a0.Plays,.i a0.Skips]),(g+1,.cells [.i r1.Round,.sl .no 1 (r1.Notches.map cI),.sl .no 1 (r1.Coins.map cI),.sl (.id (g+2+3+5+0)) 1 (l2.map cI),.sl (.id (g+2+3+5+4)) 1 (l3.map cI),.sl (.id (g+2+3+5+8)) 1 (l4.map cI),.i a0.Plays,.i a0.Skips])]) 4 hS rfl rfl .no rfl rfl ty_var26 nlb rfl fun H hS=>?_
 refine Ni ?_
 replace hS:=hS.keep (L':=[(g+2+3+5+8,.row 3 l4.length),(g+2+3+5+4,.row 3 l3.length),(g+2+3+5+0,.row 3 l2.length),(g+1,.cells [.i r1.Round,.sl .no 1 (r1.Notches.map cI),.sl .no 1 (r1.Coins.map cI),.sl (.id (g+2+3+5+0)) 1 (l2.map cI),.sl (.id (g+2+3+5+4)) 1 (l3.map cI),.sl (.id (g+2+3+5+8)) 1 (l4.map cI),.i a0.Plays,.i a0.Skips])]) [true,true,true,false,true] rfl
 refine Ws ?_
 refine r_ret ?_
 refine w_end (x:=.agg [.i r1.Round,.sl .no 1 (r1.Notches.map cI),.sl .no 1 (r1.Coins.map cI),.sl (.id (g+2+3+5+0)) 1 (l2.map cI),.sl (.id (g+2+3+5+4)) 1 (l3.map cI),.sl (.id (g+2+3+5+8)) 1 (l4.map cI),.i a0.Plays,.i a0.Skips]) (f:=fun r=>.agg [.i r.Wheel.Round,.sl .no 1 (r.Wheel.Notches.map cI),.sl .no 1 (r.Wheel.Coins.map cI),.sl .no 1 (r.Found.map cI),.sl .no 1 (r.Marked.map cI),.sl .no 1 (r.Slugs.map cI),.i r.Plays,.i r.Skips]) (.inr rfl) ?_ (.aggL (.k (.k (.k (.cons (.sl _ _ _) (.cons (.sl _ _ _) (.cons (.sl _ _ _) (.k (.k .nil))))))))) (Option.some.inj hM) hS
 exact (res_one (res_cell (x:=.agg [.i r1.Round,.sl .no 1 (r1.Notches.map cI),.sl .no 1 (r1.Coins.map cI),.sl (.id (g+2+3+5+0)) 1 (l2.map cI),.sl (.id (g+2+3+5+4)) 1 (l3.map cI),.sl (.id (g+2+3+5+8)) 1 (l4.map cI),.i a0.Plays,.i a0.Skips]) 3 hS rfl rfl (pg ty_agg26)))
end Go.Proofs.Ytenogpmlhpcibaa
