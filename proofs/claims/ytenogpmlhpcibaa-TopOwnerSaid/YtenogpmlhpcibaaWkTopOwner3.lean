/-
  The code returns what the functions say (printed by gen.py).
  Conditions: none.
-/
import Derived.Test.YtenogpmlhpcibaaWkTopOwner2
import Derived.Test.YtenogpmlhpcibaaSh
import Derived.Test.YtenogpmlhpcibaaKs
import Derived.Test.YtenogpmlhpcibaaEn
set_option linter.all false
namespace Go.Proofs.Ytenogpmlhpcibaa
open Go Go.AM Go.Law
set_option linter.unusedVariables false
set_option maxRecDepth 4000
set_option maxHeartbeats 4000000
theorem W_ref09_within {a0:Int} {a1:Int} {a2:Int} {r:Bool} (hM:ref09_within a0 a1 a2=some r):PureSat Try.prog 111 [.i a0,.i a1,.i a2] (.b r):=by
 refine pure_of_wp mixed Try.func111 rfl (by decide) Try.ntmps111 (by simp) ?pure fun H0 g hf=>?_
 case pure=>exact .v _
 rw [frame0_of]
 change wpA _ _ _ _ (Fr.of [(0,.i a0),(1,.i a1),(2,.i a2)]) H0 g
 have hS:=St.start hf
 refine Sq ?_
 refine Rg 1 ?_
 refine Oa (.b false) ?_
 refine Ni ?_
 refine Ws ?_
 refine Sq ?_
 refine Rg 5 ?_
 refine Om (.i a0) ?_
 refine Om (.i a1) ?_
 refine Om (.i a2) ?_
 obtain ⟨r1,hr1,hM⟩:=bindE hM
 refine o_call (bs:=[.i a0,.i a1,.i a2]) (by decide) rfl rfl ((W_ref01_Within hr1).le (.k (.k (.k .nil)))) ?_
 refine Oa (.b r1) ?_
 refine Ni ?_
 refine w_next [(6,.b r1)] (.k .nil) ?_
 refine r_ret ?_
 refine w_end (x:=.b r1) (f:=fun r=>.b r) (.inr rfl) ?_ (.refl _) (Option.some.inj hM) hS
 exact (res_one (res_tmp (x:=.b r1) rfl))
theorem W_ref09_IsCents {a0:Int} {r:Bool} (hM:ref09_IsCents a0=some r):PureSat Try.prog 110 [.i a0] (.b r):=by
 refine pure_of_wp mixed Try.func110 rfl (by decide) Try.ntmps110 (by simp) ?pure fun H0 g hf=>?_
 case pure=>exact .v _
 rw [frame0_of]
 change wpA _ _ _ _ (Fr.of [(0,.i a0)]) H0 g
 have hS:=St.start hf
 refine Sq ?_
 refine Rg 1 ?_
 refine Oa (.b false) ?_
 refine Ni ?_
 refine Ws ?_
 refine Sq ?_
 refine Rg 3 ?_
 refine Om (.i a0) ?_
 obtain ⟨r1,hr1,hM⟩:=bindE hM
 refine o_call (bs:=[.i a0,.i 0,.i 9999]) (by decide) rfl rfl ((W_ref09_within hr1).le (.k (.k (.k .nil)))) ?_
 refine Oa (.b r1) ?_
 refine Ni ?_
 refine w_next [(2,.b r1)] (.k .nil) ?_
 refine r_ret ?_
 refine w_end (x:=.b r1) (f:=fun r=>.b r) (.inr rfl) ?_ (.refl _) (Option.some.inj hM) hS
 exact (res_one (res_tmp (x:=.b r1) rfl))
theorem W_ref09_Check {n:Nat} {a0:Share} {r:Int} (hM:ref09_Check n a0=some r):PureSat Try.prog 81 [.agg (Share.cells a0)] (.i r):=by
 refine pure_of_wp mixed Try.func81 rfl (by decide) Try.ntmps81 (by simp) ?pure fun H0 g hf=>?_
 case pure=>exact .v _
 rw [frame0_of]
 change wpA _ _ _ _ (Fr.of [(0,.agg (Share.cells a0))]) H0 g
 have hS:=St.start hf
 refine Sq ?_
 refine Rg 2 ?_
 refine o_box (v:=.agg (Share.cells a0)) (cs:=(Share.cells a0)) hS (by decide) rfl rfl (by omega) fun H hS=>?_
 refine Oa (.i 0) ?_
 refine Ni ?_
 refine w_iceE (L':=[]) 0 1 hS rfl rfl rfl fun H hS=>?_
 refine Ws ?_
 refine Sq ?_
 refine w_join (J:=Bool) (fun j=>[(1,.ep (Share.cells a0)),(14,.b j)]) (fun j H' g'=>St (·<g) H0 [] H' g'∧ref09_Check_j1 n a0 j=some r) ?_ ?_
 ·rintro v1 H g1 ⟨hS,hM⟩
  change wpA _ _ _ _ (Fr.of [(1,.ep (Share.cells a0)),(14,.b v1)]) _ _
  replace hS:St (·<g) H0 [] H g1:=hS
  replace hM:ref09_Check_j1 n a0 v1=some r:=hM
  rcases bft v1 with hb2 | hb2
  ·replace hM:=ifT hM hb2
   refine Ct hb2 ?_
   refine Sq ?_
   refine Rg 1 ?_
   refine Oa (.i 90) ?_
   refine Ni ?_
   refine Ws ?_
   refine r_ret ?_
   refine r_then_ret ?_
   refine w_end (x:=.i 90) (f:=fun r=>.i r) (.inr rfl) ?_ (.refl _) (Option.some.inj hM) hS
   exact (res_one (res_tmp (x:=.i 90) rfl))
  ·replace hM:=ifF hM hb2
   refine Cf hb2 ?_
   refine r_skip ?_
   refine Ws ?_
   refine w_join (J:=Unit) (fun j=>[]) (fun j H' g'=>St (·<g) H0 [] H' g'∧ref09_Check_j2=some r) ?_ ?_
   ·rintro _ H g2 ⟨hS,hM⟩
    change wpA _ _ _ _ (Fr.of []) _ _
    replace hS:St (·<g) H0 [] H g2:=hS
    replace hM:ref09_Check_j2=some r:=hM
    refine Sq ?_
    refine Rg 1 ?_
    refine Oa (.i 0) ?_
    refine Ni ?_
    refine Ws ?_
    refine r_ret ?_
    refine w_end (x:=.i 0) (f:=fun r=>.i r) (.inr rfl) ?_ (.refl _) (Option.some.inj hM) hS
    exact (res_one (res_tmp (x:=.i 0) rfl))
   ·refine Sq ?_
    refine Rg 1 ?_
    refine Oa (.i 0) ?_
    refine Ni ?_
    refine Ws ?_
    refine r_block ?_
    refine w_loop (V:=Int) (fun v=>[(1,.ep (Share.cells a0)),(3,.i v)]) (fun v m3 H' g'=>St (·<g) H0 [] H' g'∧ref09_Check_l1 a0 m3 v=some r) (n:=n) 0 (.k (.k .nil)) ⟨(hS.keep [] rfl).up (by omega),hM⟩ ?_
    rintro v3 m3 H g3 ⟨hS,hM⟩
    obtain _ | m3:=m3
    ·exact nomatch (show none=some _ from hM)
    change wpA _ _ _ _ (Fr.of [(1,.ep (Share.cells a0)),(3,.i v3)]) _ _
    replace hS:St (·<g) H0 [] H g3:=hS
    replace hM:ref09_Check_l1_b a0 (ref09_Check_l1 a0 m3) v3=some r:=hM
    refine Sq ?_
    refine Sq ?_
    refine Rg 5 ?_
    refine Om (.i v3) ?_
    refine Of ((Share.cells a0)) ty_fo59_0 ?_
    refine Olp (.sl .no 4 (a0.Clauses.map Clause.cells)) ty_agg57 ty_sc57 ?_
    refine o_len (n:=a0.Clauses.length) (by decide) rfl (List.length_map _) ty_isl57 ?_
    refine Oi (.b (decide (v3<(a0.Clauses.length:Int)))) ?_
    refine Ni ?_
    refine Ws ?_
    rcases bft (decide (v3<(a0.Clauses.length:Int))) with hb4 | hb4
    ·replace hM:=ifT hM hb4
     refine Ct hb4 ?_
     refine r_skip ?_
     refine Ws ?_
     refine Sq ?_
     refine r_block ?_
     refine Sq ?_
     refine Rg 7 ?_
     refine Of ((Share.cells a0)) ty_fo59_0 ?_
     refine Olp (.sl .no 4 (a0.Clauses.map Clause.cells)) ty_agg57 ty_sc57 ?_
     refine Om (.i v3) ?_
     obtain ⟨x5,hx5,hM⟩:=bindE hM
     refine o_index (xs:=a0.Clauses) (f:=Clause.cells) (z:=v3) (u:=x5) (by decide) rfl rfl ty_es57 hx5 ?_
     refine Olg (.agg (Clause.cells x5)) ty_agg117 ?_
     refine o_alloc hS (by decide) ty_zero117 (by omega) fun H hS=>?_
     refine o_store (v:=.agg (Clause.cells x5)) (ns:=(Clause.cells x5)) (L':=[(g3+5+5,.cells (Clause.cells x5))]) 0 hS rfl rfl .no rfl rfl ty_var117 nlb rfl fun H hS=>?_
     refine Ni ?_
     refine w_iceE (L':=[]) 0 4 hS rfl rfl rfl fun H hS=>?_
     refine Ws ?_
     refine w_join (J:=Bool) (fun j=>[(1,.ep (Share.cells a0)),(3,.i v3),(48,.b j)]) (fun j H' g'=>St (·<g) H0 [] H' g'∧ref09_Check_j3 (ref09_Check_l1 a0 m3) v3 j=some r) ?_ ?_
     ·rintro v6 H g4 ⟨hS,hM⟩
      change wpA _ _ _ _ (Fr.of [(1,.ep (Share.cells a0)),(3,.i v3),(48,.b v6)]) _ _
      replace hS:St (·<g) H0 [] H g4:=hS
      replace hM:ref09_Check_j3 (ref09_Check_l1 a0 m3) v3 v6=some r:=hM
      rcases bft v6 with hb7 | hb7
      ·replace hM:=ifT hM hb7
       refine Ct hb7 ?_
       refine Sq ?_
       refine Rg 1 ?_
       refine Oa (.i 90) ?_
       refine Ni ?_
       refine Ws ?_
       refine r_ret ?_
       refine r_blk_ret ?_
       refine r_then_ret ?_
       refine w_round_ret ?_
       refine r_blk_ret ?_
       refine w_goto_ret ?_
       refine w_end (x:=.i 90) (f:=fun r=>.i r) (.inr rfl) ?_ (.refl _) (Option.some.inj hM) hS
       exact (res_one (res_tmp (x:=.i 90) rfl))
      ·replace hM:=ifF hM hb7
       refine Cf hb7 ?_
       refine r_skip ?_
       refine r_blk_normal ?_
       refine Ws ?_
       refine Rg 3 ?_
       refine Om (.i v3) ?_
       refine Oi (.i (w64 (v3+1))) ?_
       refine Oa (.i (w64 (v3+1))) ?_
       refine Ni ?_
       exact w_round (w64 (v3+1)) (Nat.lt_succ_self _) (.k (.k .nil)) ⟨(hS.keep [] rfl).up (by omega),hM⟩
     ·refine Rg 22 ?_
      refine Of ((Clause.cells x5)) ty_fo117_0 ?_
      refine Olp (.i x5.Kind) ty_agg3 ty_sc3 ?_
      obtain ⟨r8,hr8,hM⟩:=bindE hM
      refine o_call (bs:=[.i x5.Kind,.i 1,.i 5]) (by decide) rfl rfl ((W_ref09_within hr8).le (.k (.k (.k .nil)))) ?_
      refine o_not (e:=r8) (by decide) rfl ?_
      refine Om (.b (!r8)) ?_
      rcases bft (!r8) with hb9 | hb9
      ·replace hM:=ifT hM hb9
       refine On (want:=false) hb9 ?_
       refine On (want:=false) hb9 ?_
       refine On (want:=false) hb9 ?_
       refine On (want:=false) hb9 ?_
       refine Pt (.b true) hb9 ?_
       refine Om (.b true) ?_
       refine Og ?_
       refine Og ?_
       refine Og ?_
       refine Og ?_
       refine o_pickT (v:=.b true) (e:=true) (by decide) rfl rfl rfl ?_
       refine Om (.b true) ?_
       refine Og ?_
       refine Og ?_
       refine Og ?_
       refine Og ?_
       refine o_pickT (v:=.b true) (e:=true) (by decide) rfl rfl rfl ?_
       refine Ni ?_
       exact w_goto true (.k (.k (.k .nil))) ⟨(hS.keep [] rfl).up (by omega),hM⟩
      ·replace hM:=ifF hM hb9
       refine Oy (want:=false) hb9 ?_
       refine Of ((Clause.cells x5)) ty_fo117_1 ?_
       refine Oy (want:=false) hb9 ?_
       refine Olp (.i x5.Cents) ty_agg3 ty_sc3 ?_
       refine Oy (want:=false) hb9 ?_
       obtain ⟨r10,hr10,hM⟩:=bindE hM
       refine o_call (bs:=[.i x5.Cents]) (by decide) rfl rfl ((W_ref09_IsCents hr10).le (.k .nil)) ?_
       refine Oy (want:=false) hb9 ?_
       refine o_not (e:=r10) (by decide) rfl ?_
       refine Pf (.b (!r10)) hb9 ?_
       refine Om (.b (!r10)) ?_
       rcases bft (!r10) with hb11 | hb11
       ·replace hM:=ifT hM hb11
        refine On (want:=false) hb11 ?_
        refine On (want:=false) hb11 ?_
        refine On (want:=false) hb11 ?_
        refine On (want:=false) hb11 ?_
        refine Pt (.b true) hb11 ?_
        refine Om (.b true) ?_
        refine Og ?_
        refine Og ?_
        refine Og ?_
        refine Og ?_
        refine o_pickT (v:=.b true) (e:=true) (by decide) rfl rfl rfl ?_
        refine Ni ?_
        exact w_goto true (.k (.k (.k .nil))) ⟨(hS.keep [] rfl).up (by omega),hM⟩
       ·replace hM:=ifF hM hb11
        refine Oy (want:=false) hb11 ?_
        refine Of ((Clause.cells x5)) ty_fo117_2 ?_
        refine Oy (want:=false) hb11 ?_
        refine Olp (.i x5.Part) ty_agg3 ty_sc3 ?_
        refine Oy (want:=false) hb11 ?_
        obtain ⟨r12,hr12,hM⟩:=bindE hM
        refine o_call (bs:=[.i x5.Part,.i 0,.i 100]) (by decide) rfl rfl ((W_ref09_within hr12).le (.k (.k (.k .nil)))) ?_
        refine Oy (want:=false) hb11 ?_
        refine o_not (e:=r12) (by decide) rfl ?_
        refine Pf (.b (!r12)) hb11 ?_
        refine Om (.b (!r12)) ?_
        rcases bft (!r12) with hb13 | hb13
        ·replace hM:=ifT hM hb13
         refine On (want:=false) hb13 ?_
         refine On (want:=false) hb13 ?_
         refine On (want:=false) hb13 ?_
         refine On (want:=false) hb13 ?_
         refine Pt (.b true) hb13 ?_
         refine Ni ?_
         exact w_goto true (.k (.k (.k .nil))) ⟨(hS.keep [] rfl).up (by omega),hM⟩
        ·replace hM:=ifF hM hb13
         refine Oy (want:=false) hb13 ?_
         refine Of ((Clause.cells x5)) ty_fo117_3 ?_
         refine Oy (want:=false) hb13 ?_
         refine Olp (.i x5.More) ty_agg3 ty_sc3 ?_
         refine Oy (want:=false) hb13 ?_
         obtain ⟨r14,hr14,hM⟩:=bindE hM
         refine o_call (bs:=[.i x5.More,.i 0,.i 100]) (by decide) rfl rfl ((W_ref09_within hr14).le (.k (.k (.k .nil)))) ?_
         refine Oy (want:=false) hb13 ?_
         refine o_not (e:=r14) (by decide) rfl ?_
         refine Pf (.b (!r14)) hb13 ?_
         refine Ni ?_
         exact w_goto (!r14) (.k (.k (.k .nil))) ⟨(hS.keep [] rfl).up (by omega),hM⟩
    ·replace hM:=ifF hM hb4
     refine Cf hb4 ?_
     refine r_exit ?_
     refine r_then_exit ?_
     refine w_round_exit ?_
     refine r_blk_exit ?_
     exact w_goto () .nil ⟨(hS.keep [] rfl).up (by omega),hM⟩
 ·refine Rg 10 ?_
  refine Of ((Share.cells a0)) ty_fo59_0 ?_
  refine Olp (.sl .no 4 (a0.Clauses.map Clause.cells)) ty_agg57 ty_sc57 ?_
  refine o_len (n:=a0.Clauses.length) (by decide) rfl (List.length_map _) ty_isl57 ?_
  refine Oi (.b (decide ((a0.Clauses.length:Int)>5))) ?_
  refine Om (.b (decide ((a0.Clauses.length:Int)>5))) ?_
  rcases bft (decide ((a0.Clauses.length:Int)>5)) with hb15 | hb15
  ·replace hM:=ifT hM hb15
   refine On (want:=false) hb15 ?_
   refine On (want:=false) hb15 ?_
   refine On (want:=false) hb15 ?_
   refine On (want:=false) hb15 ?_
   refine Pt (.b true) hb15 ?_
   refine Ni ?_
   exact w_goto true (.k (.k .nil)) ⟨(hS.keep [] rfl).up (by omega),hM⟩
  ·replace hM:=ifF hM hb15
   refine Oy (want:=false) hb15 ?_
   refine Of ((Share.cells a0)) ty_fo59_1 ?_
   refine Oy (want:=false) hb15 ?_
   refine Olp (.i a0.Loan) ty_agg3 ty_sc3 ?_
   refine Oy (want:=false) hb15 ?_
   obtain ⟨r16,hr16,hM⟩:=bindE hM
   refine o_call (bs:=[.i a0.Loan]) (by decide) rfl rfl ((W_ref09_IsCents hr16).le (.k .nil)) ?_
   refine Oy (want:=false) hb15 ?_
   refine o_not (e:=r16) (by decide) rfl ?_
   refine Pf (.b (!r16)) hb15 ?_
   refine Ni ?_
   exact w_goto (!r16) (.k (.k .nil)) ⟨(hS.keep [] rfl).up (by omega),hM⟩
theorem W_top_even {n:Nat} {a0:Share} {r:Bool} (hM:top_even n a0=some r):PureSat Try.prog 48 [.agg (Share.cells a0)] (.b r):=by
 refine pure_of_wp mixed Try.func48 rfl (by decide) Try.ntmps48 (by simp) ?pure fun H0 g hf=>?_
 case pure=>exact .v _
 rw [frame0_of]
 change wpA _ _ _ _ (Fr.of [(0,.agg (Share.cells a0))]) H0 g
 have hS:=St.start hf
 refine Sq ?_
 refine Rg 2 ?_
 refine o_box (v:=.agg (Share.cells a0)) (cs:=(Share.cells a0)) hS (by decide) rfl rfl (by omega) fun H hS=>?_
 refine Oa (.b false) ?_
 refine Ni ?_
 refine w_iceE (L':=[]) 0 1 hS rfl rfl rfl fun H hS=>?_
 refine Ws ?_
 refine Sq ?_
 refine w_join (J:=Bool) (fun j=>[(1,.ep (Share.cells a0)),(14,.b j)]) (fun j H' g'=>St (·<g) H0 [] H' g'∧top_even_j1 n a0 j=some r) ?_ ?_
 ·rintro v1 H g1 ⟨hS,hM⟩
  change wpA _ _ _ _ (Fr.of [(1,.ep (Share.cells a0)),(14,.b v1)]) _ _
  replace hS:St (·<g) H0 [] H g1:=hS
  replace hM:top_even_j1 n a0 v1=some r:=hM
  rcases bft v1 with hb2 | hb2
  ·replace hM:=ifT hM hb2
   refine Ct hb2 ?_
   refine Sq ?_
   refine Rg 1 ?_
   refine Oa (.b false) ?_
   refine Ni ?_
   refine Ws ?_
   refine r_ret ?_
   refine r_then_ret ?_
   refine w_end (x:=.b false) (f:=fun r=>.b r) (.inr rfl) ?_ (.refl _) (Option.some.inj hM) hS
   exact (res_one (res_tmp (x:=.b false) rfl))
  ·replace hM:=ifF hM hb2
   refine Cf hb2 ?_
   refine r_skip ?_
   refine Ws ?_
   refine Sq ?_
   refine Rg 1 ?_
   refine Oa (.i 0) ?_
   refine Ni ?_
   refine Ws ?_
   refine w_join (J:=Int) (fun j=>[(3,.i j)]) (fun j H' g'=>St (·<g) H0 [] H' g'∧top_even_j2 j=some r) ?_ ?_
   ·rintro v3 H g2 ⟨hS,hM⟩
    change wpA _ _ _ _ (Fr.of [(3,.i v3)]) _ _
    replace hS:St (·<g) H0 [] H g2:=hS
    replace hM:top_even_j2 v3=some r:=hM
    refine Sq ?_
    refine Rg 3 ?_
    refine Om (.i v3) ?_
    refine Oi (.b (decide (v3≤1))) ?_
    refine Oa (.b (decide (v3≤1))) ?_
    refine Ni ?_
    refine Ws ?_
    refine r_ret ?_
    refine w_end (x:=.b (decide (v3≤1))) (f:=fun r=>.b r) (.inr rfl) ?_ (.refl _) (Option.some.inj hM) hS
    exact (res_one (res_tmp (x:=.b (decide (v3≤1))) rfl))
   ·refine Sq ?_
    refine Rg 1 ?_
    refine Oa (.i 0) ?_
    refine Ni ?_
    refine Ws ?_
    refine r_block ?_
    refine w_loop (V:=Int×Int) (fun v=>[(1,.ep (Share.cells a0)),(3,.i v.1),(4,.i v.2)]) (fun v m3 H' g'=>St (·<g) H0 [] H' g'∧top_even_l1 a0 m3 v.1 v.2=some r) (n:=n) (0,0) (.k (.k (.k .nil))) ⟨(hS.keep [] rfl).up (by omega),hM⟩ ?_
    rintro ⟨v4,v5⟩ m3 H g3 ⟨hS,hM⟩
    obtain _ | m3:=m3
    ·exact nomatch (show none=some _ from hM)
    change wpA _ _ _ _ (Fr.of [(1,.ep (Share.cells a0)),(3,.i v4),(4,.i v5)]) _ _
    replace hS:St (·<g) H0 [] H g3:=hS
    replace hM:top_even_l1_b a0 (top_even_l1 a0 m3) v4 v5=some r:=hM
    refine Sq ?_
    refine Sq ?_
    refine Rg 5 ?_
    refine Om (.i v5) ?_
    refine Of ((Share.cells a0)) ty_fo59_0 ?_
    refine Olp (.sl .no 4 (a0.Clauses.map Clause.cells)) ty_agg57 ty_sc57 ?_
    refine o_len (n:=a0.Clauses.length) (by decide) rfl (List.length_map _) ty_isl57 ?_
    refine Oi (.b (decide (v5<(a0.Clauses.length:Int)))) ?_
    refine Ni ?_
    refine Ws ?_
    rcases bft (decide (v5<(a0.Clauses.length:Int))) with hb6 | hb6
    ·replace hM:=ifT hM hb6
     refine Ct hb6 ?_
     refine r_skip ?_
     refine Ws ?_
     refine w_join (J:=Int) (fun j=>[(1,.ep (Share.cells a0)),(3,.i j),(4,.i v5)]) (fun j H' g'=>St (·<g) H0 [] H' g'∧top_even_j3 (top_even_l1 a0 m3) v5 j=some r) ?_ ?_
     ·rintro v7 H g4 ⟨hS,hM⟩
      change wpA _ _ _ _ (Fr.of [(1,.ep (Share.cells a0)),(3,.i v7),(4,.i v5)]) _ _
      replace hS:St (·<g) H0 [] H g4:=hS
      replace hM:top_even_j3 (top_even_l1 a0 m3) v5 v7=some r:=hM
      refine Rg 3 ?_
      refine Om (.i v5) ?_
      refine Oi (.i (w64 (v5+1))) ?_
      refine Oa (.i (w64 (v5+1))) ?_
      refine Ni ?_
      exact w_round (v7,w64 (v5+1)) (Nat.lt_succ_self _) (.k (.k (.k .nil))) ⟨(hS.keep [] rfl).up (by omega),hM⟩
     ·refine r_block ?_
      refine Sq ?_
      refine Rg 7 ?_
      refine Of ((Share.cells a0)) ty_fo59_0 ?_
      refine Olp (.sl .no 4 (a0.Clauses.map Clause.cells)) ty_agg57 ty_sc57 ?_
      refine Om (.i v5) ?_
      obtain ⟨x8,hx8,hM⟩:=bindE hM
      refine o_index (xs:=a0.Clauses) (f:=Clause.cells) (z:=v5) (u:=x8) (by decide) rfl rfl ty_es57 hx8 ?_
      refine Of ((Clause.cells x8)) ty_fo117_0 ?_
      refine Olp (.i x8.Kind) ty_agg3 ty_sc3 ?_
      refine Oa (.i x8.Kind) ?_
      refine Ni ?_
      refine Ws ?_
      refine w_join (J:=Bool) (fun j=>[(1,.ep (Share.cells a0)),(3,.i v4),(4,.i v5),(33,.b j)]) (fun j H' g'=>St (·<g) H0 [] H' g'∧top_even_j4 (top_even_l1 a0 m3) v4 v5 j=some r) ?_ ?_
      ·rintro v9 H g5 ⟨hS,hM⟩
       change wpA _ _ _ _ (Fr.of [(1,.ep (Share.cells a0)),(3,.i v4),(4,.i v5),(33,.b v9)]) _ _
       replace hS:St (·<g) H0 [] H g5:=hS
       replace hM:top_even_j4 (top_even_l1 a0 m3) v4 v5 v9=some r:=hM
       rcases bft v9 with hb10 | hb10
       ·replace hM:=ifT hM hb10
        refine Ct hb10 ?_
        refine Rg 3 ?_
        refine Om (.i v4) ?_
        refine Oi (.i (w64 (v4+1))) ?_
        refine Oa (.i (w64 (v4+1))) ?_
        refine Ni ?_
        refine r_blk_normal ?_
        exact w_goto (w64 (v4+1)) (.k (.k (.k .nil))) ⟨(hS.keep [] rfl).up (by omega),hM⟩
       ·replace hM:=ifF hM hb10
        refine Cf hb10 ?_
        refine r_skip ?_
        refine r_blk_normal ?_
        exact w_goto v4 (.k (.k (.k .nil))) ⟨(hS.keep [] rfl).up (by omega),hM⟩
      ·refine Rg 6 ?_
       refine Om (.i x8.Kind) ?_
       refine Oi (.b (x8.Kind==3)) ?_
       refine Om (.b (x8.Kind==3)) ?_
       rcases bft (x8.Kind==3) with hb11 | hb11
       ·replace hM:=ifT hM hb11
        refine On (want:=false) hb11 ?_
        refine On (want:=false) hb11 ?_
        refine Pt (.b true) hb11 ?_
        refine Ni ?_
        exact w_goto true (.k (.k (.k (.k .nil)))) ⟨(hS.keep [] rfl).up (by omega),hM⟩
       ·replace hM:=ifF hM hb11
        refine Oy (want:=false) hb11 ?_
        refine Om (.i x8.Kind) ?_
        refine Oy (want:=false) hb11 ?_
        refine Oi (.b (x8.Kind==4)) ?_
        refine Pf (.b (x8.Kind==4)) hb11 ?_
        refine Ni ?_
        exact w_goto (x8.Kind==4) (.k (.k (.k (.k .nil)))) ⟨(hS.keep [] rfl).up (by omega),hM⟩
    ·replace hM:=ifF hM hb6
     refine Cf hb6 ?_
     refine r_exit ?_
     refine r_then_exit ?_
     refine w_round_exit ?_
     refine r_blk_exit ?_
     exact w_goto v4 (.k .nil) ⟨(hS.keep [] rfl).up (by omega),hM⟩
 ·refine Rg 9 ?_
  refine Of ((Share.cells a0)) ty_fo59_0 ?_
  refine Olp (.sl .no 4 (a0.Clauses.map Clause.cells)) ty_agg57 ty_sc57 ?_
  refine o_len (n:=a0.Clauses.length) (by decide) rfl (List.length_map _) ty_isl57 ?_
  refine Oi (.b (decide ((a0.Clauses.length:Int)>40))) ?_
  refine Om (.b (decide ((a0.Clauses.length:Int)>40))) ?_
  rcases bft (decide ((a0.Clauses.length:Int)>40)) with hb12 | hb12
  ·replace hM:=ifT hM hb12
   refine On (want:=false) hb12 ?_
   refine On (want:=false) hb12 ?_
   refine On (want:=false) hb12 ?_
   refine Pt (.b true) hb12 ?_
   refine Ni ?_
   exact w_goto true (.k (.k .nil)) ⟨(hS.keep [] rfl).up (by omega),hM⟩
  ·replace hM:=ifF hM hb12
   refine Oy (want:=false) hb12 ?_
   refine Olg (.agg (Share.cells a0)) ty_agg59 ?_
   refine Oy (want:=false) hb12 ?_
   obtain ⟨r13,hr13,hM⟩:=bindE hM
   refine o_call (bs:=[.agg (Share.cells a0)]) (by decide) rfl rfl ((W_ref09_Check hr13).le (.k .nil)) ?_
   refine Oy (want:=false) hb12 ?_
   refine Oi (.b (r13 != 0)) ?_
   refine Pf (.b (r13 != 0)) hb12 ?_
   refine Ni ?_
   exact w_goto (r13 != 0) (.k (.k .nil)) ⟨(hS.keep [] rfl).up (by omega),hM⟩
theorem W_shares_week_owner {p:Nat} {a0:Week_} {a1:Int} {r:Week_×Int} (hM:shares_week_owner a0 a1=some r):MutSat Try.prog 116 [.ptr p 0,.i a1] p (Week_.cells a0) (.i r.2) [.i r.1.Split.Operator,.i r.1.Split.Owner,.i r.1.Split.Repaid,.i r.1.rest,.i r.1.owed]:=by
 refine mut_of_wp mixed Try.func116 rfl (by decide) Try.ntmps116 (by simp) ?pure ?cells fun H0 g hf hp=>?_
 case pure=>exact .v _
 case cells=>exact (pl_cons (.v _) (pl_cons (.v _) (pl_cons (.v _) (pl_cons (.v _) (pl_cons (.v _) pl_nil)))))
 rw [frame0_of]
 change wpA _ _ _ _ (Fr.of [(0,.ptr p 0),(1,.i a1)]) H0 g
 have hS:=St.startP hf hp
 refine Sq ?_
 refine Rg 1 ?_
 refine Oa (.i 0) ?_
 refine Ni ?_
 refine Ws ?_
 refine Sq ?_
 have hS0:=hS
 refine r_draw (n:=22) rfl (by kernel_rfl) ?_
 refine Om (.ptr p 0) ?_
 refine Om (.ptr p 0) ?_
 refine Om (.ptr p 0) ?_
 refine o_nilP (by decide) rfl ?_
 refine o_fieldP (by decide) ty_fo119_0 rfl ?_
 refine o_fieldP (by decide) ty_fo62_1 rfl ?_
 refine o_load (v:=.i a0.Split.Owner) 0 hS (by decide) rfl rfl (.st hS0 0 rfl (by omega)) (po ty_agg3 ty_sc3) ?_
 refine Om (.i a1) ?_
 refine Oi (.i (w64 (a0.Split.Owner+a1))) ?_
 refine Om (.ptr p 0) ?_
 refine o_nilP (by decide) rfl ?_
 refine o_fieldP (by decide) ty_fo119_1 rfl ?_
 refine o_load (v:=.i a0.rest) 0 hS (by decide) rfl rfl (.st hS0 0 rfl (by omega)) (po ty_agg3 ty_sc3) ?_
 refine Om (.i a1) ?_
 refine Oi (.i (w64 (a0.rest-a1))) ?_
 refine o_nilP (by decide) rfl ?_
 refine o_fieldP (by decide) ty_fo119_0 rfl ?_
 refine o_fieldP (by decide) ty_fo62_1 rfl ?_
 refine o_store (v:=.i (w64 (a0.Split.Owner+a1))) (ns:=[.i (w64 (a0.Split.Owner+a1))]) (L':=[(p,.cells [.i a0.Split.Operator,.i (w64 (a0.Split.Owner+a1)),.i a0.Split.Repaid,.i a0.rest,.i a0.owed])]) 0 hS rfl rfl (.st hS0 0 rfl (by omega)) rfl rfl ty_var3 nlb rfl fun H hS=>?_
 refine o_nilP (by decide) rfl ?_
 refine o_fieldP (by decide) ty_fo119_1 rfl ?_
 refine o_store (v:=.i (w64 (a0.rest-a1))) (ns:=[.i (w64 (a0.rest-a1))]) (L':=[(p,.cells [.i a0.Split.Operator,.i (w64 (a0.Split.Owner+a1)),.i a0.Split.Repaid,.i (w64 (a0.rest-a1)),.i a0.owed])]) 0 hS rfl rfl (.st hS0 0 rfl (by omega)) rfl rfl ty_var3 nlb rfl fun H hS=>?_
 refine Ni ?_
 refine Ws ?_
 refine Sq ?_
 refine Rg 2 ?_
 refine Om (.i a1) ?_
 refine Oa (.i a1) ?_
 refine Ni ?_
 refine Ws ?_
 refine r_ret ?_
 refine w_endP (x:=.i a1) (f:=fun r=>.i r.2) (fd:=fun r=>[.i r.1.Split.Operator,.i r.1.Split.Owner,.i r.1.Split.Repaid,.i r.1.rest,.i r.1.owed]) 0 (.inr rfl) ?_ (.refl _) (Option.some.inj hM) hS rfl
 exact (res_one (res_tmp (x:=.i a1) rfl))
theorem W_shares_week_operator {p:Nat} {a0:Week_} {a1:Int} {r:Week_×Int} (hM:shares_week_operator a0 a1=some r):MutSat Try.prog 118 [.ptr p 0,.i a1] p (Week_.cells a0) (.i r.2) [.i r.1.Split.Operator,.i r.1.Split.Owner,.i r.1.Split.Repaid,.i r.1.rest,.i r.1.owed]:=by
 refine mut_of_wp mixed Try.func118 rfl (by decide) Try.ntmps118 (by simp) ?pure ?cells fun H0 g hf hp=>?_
 case pure=>exact .v _
 case cells=>exact (pl_cons (.v _) (pl_cons (.v _) (pl_cons (.v _) (pl_cons (.v _) (pl_cons (.v _) pl_nil)))))
 rw [frame0_of]
 change wpA _ _ _ _ (Fr.of [(0,.ptr p 0),(1,.i a1)]) H0 g
 have hS:=St.startP hf hp
 refine Sq ?_
 refine Rg 1 ?_
 refine Oa (.i 0) ?_
 refine Ni ?_
 refine Ws ?_
 refine Sq ?_
 have hS0:=hS
 refine r_draw (n:=22) rfl (by kernel_rfl) ?_
 refine Om (.ptr p 0) ?_
 refine Om (.ptr p 0) ?_
 refine Om (.ptr p 0) ?_
 refine o_nilP (by decide) rfl ?_
 refine o_fieldP (by decide) ty_fo119_0 rfl ?_
 refine o_fieldP (by decide) ty_fo62_0 rfl ?_
 refine o_load (v:=.i a0.Split.Operator) 0 hS (by decide) rfl rfl (.st hS0 0 rfl (by omega)) (po ty_agg3 ty_sc3) ?_
 refine Om (.i a1) ?_
 refine Oi (.i (w64 (a0.Split.Operator+a1))) ?_
 refine Om (.ptr p 0) ?_
 refine o_nilP (by decide) rfl ?_
 refine o_fieldP (by decide) ty_fo119_1 rfl ?_
 refine o_load (v:=.i a0.rest) 0 hS (by decide) rfl rfl (.st hS0 0 rfl (by omega)) (po ty_agg3 ty_sc3) ?_
 refine Om (.i a1) ?_
 refine Oi (.i (w64 (a0.rest-a1))) ?_
 refine o_nilP (by decide) rfl ?_
 refine o_fieldP (by decide) ty_fo119_0 rfl ?_
 refine o_fieldP (by decide) ty_fo62_0 rfl ?_
 refine o_store (v:=.i (w64 (a0.Split.Operator+a1))) (ns:=[.i (w64 (a0.Split.Operator+a1))]) (L':=[(p,.cells [.i (w64 (a0.Split.Operator+a1)),.i a0.Split.Owner,.i a0.Split.Repaid,.i a0.rest,.i a0.owed])]) 0 hS rfl rfl (.st hS0 0 rfl (by omega)) rfl rfl ty_var3 nlb rfl fun H hS=>?_
 refine o_nilP (by decide) rfl ?_
 refine o_fieldP (by decide) ty_fo119_1 rfl ?_
 refine o_store (v:=.i (w64 (a0.rest-a1))) (ns:=[.i (w64 (a0.rest-a1))]) (L':=[(p,.cells [.i (w64 (a0.Split.Operator+a1)),.i a0.Split.Owner,.i a0.Split.Repaid,.i (w64 (a0.rest-a1)),.i a0.owed])]) 0 hS rfl rfl (.st hS0 0 rfl (by omega)) rfl rfl ty_var3 nlb rfl fun H hS=>?_
 refine Ni ?_
 refine Ws ?_
 refine Sq ?_
 refine Rg 2 ?_
 refine Om (.i a1) ?_
 refine Oa (.i a1) ?_
 refine Ni ?_
 refine Ws ?_
 refine r_ret ?_
 refine w_endP (x:=.i a1) (f:=fun r=>.i r.2) (fd:=fun r=>[.i r.1.Split.Operator,.i r.1.Split.Owner,.i r.1.Split.Repaid,.i r.1.rest,.i r.1.owed]) 0 (.inr rfl) ?_ (.refl _) (Option.some.inj hM) hS rfl
 exact (res_one (res_tmp (x:=.i a1) rfl))
theorem W_shares_rules_c1 {p:Nat} {a0:Week_} {a1:Clause} {r:Week_×Int} (hM:shares_rules_c1 a0 a1=some r):MutSat Try.prog 145 [.ptr p 0,.agg (Clause.cells a1)] p (Week_.cells a0) (.i r.2) [.i r.1.Split.Operator,.i r.1.Split.Owner,.i r.1.Split.Repaid,.i r.1.rest,.i r.1.owed]:=by
 refine mut_of_wp mixed Try.func145 rfl (by decide) Try.ntmps145 (by simp) ?pure ?cells fun H0 g hf hp=>?_
 case pure=>exact .v _
 case cells=>exact (pl_cons (.v _) (pl_cons (.v _) (pl_cons (.v _) (pl_cons (.v _) (pl_cons (.v _) pl_nil)))))
 rw [frame0_of]
 change wpA _ _ _ _ (Fr.of [(0,.ptr p 0),(1,.agg (Clause.cells a1))]) H0 g
 have hS:=St.startP hf hp
 refine Sq ?_
 refine Rg 2 ?_
 refine o_box (v:=.agg (Clause.cells a1)) (cs:=(Clause.cells a1)) hS (by decide) rfl rfl (by omega) fun H hS=>?_
 refine Oa (.i 0) ?_
 refine Ni ?_
 refine w_iceE (L':=[(p,.cells (Week_.cells a0))]) 0 3 hS rfl rfl rfl fun H hS=>?_
 refine Ws ?_
 refine Sq ?_
 have hS0:=hS
 refine r_draw (n:=10) rfl (by kernel_rfl) ?_
 refine Om (.ptr p 0) ?_
 refine Om (.ptr p 0) ?_
 refine o_nilP (by decide) rfl ?_
 refine o_fieldP (by decide) ty_fo119_1 rfl ?_
 refine o_load (v:=.i a0.rest) 0 hS (by decide) rfl rfl (.st hS0 0 rfl (by omega)) (po ty_agg3 ty_sc3) ?_
 refine Of ((Clause.cells a1)) ty_fo117_1 ?_
 refine Olp (.i a1.Cents) ty_agg3 ty_sc3 ?_
 refine o_min (v:=.i (min a0.rest a1.Cents)) (by decide) rfl ?_
 obtain ⟨r1,hr1,hM⟩:=bindE hM
 refine o_mut (bs:=[.ptr p 0,.i (min a0.rest a1.Cents)]) (L':=[(p,.cells (Week_.cells r1.1))]) 0 hS (by decide) rfl rfl rfl (mok_st (by kernel_rfl) hS0 0 rfl (by omega)) ((W_shares_week_operator (p:=p) hr1).le (.k (.k .nil))) rfl fun H hS=>?_
 refine Oa (.i r1.2) ?_
 refine Ni ?_
 refine Ws ?_
 refine r_ret ?_
 refine w_endP (x:=.i r1.2) (f:=fun r=>.i r.2) (fd:=fun r=>[.i r.1.Split.Operator,.i r.1.Split.Owner,.i r.1.Split.Repaid,.i r.1.rest,.i r.1.owed]) 0 (.inr rfl) ?_ (.refl _) (Option.some.inj hM) hS rfl
 exact (res_one (res_tmp (x:=.i r1.2) rfl))
theorem W_shares_week_repay {p:Nat} {a0:Week_} {a1:Clause} {r:Week_×Int} (hM:shares_week_repay a0 a1=some r):MutSat Try.prog 146 [.ptr p 0,.agg (Clause.cells a1)] p (Week_.cells a0) (.i r.2) [.i r.1.Split.Operator,.i r.1.Split.Owner,.i r.1.Split.Repaid,.i r.1.rest,.i r.1.owed]:=by
 refine mut_of_wp mixed Try.func146 rfl (by decide) Try.ntmps146 (by simp) ?pure ?cells fun H0 g hf hp=>?_
 case pure=>exact .v _
 case cells=>exact (pl_cons (.v _) (pl_cons (.v _) (pl_cons (.v _) (pl_cons (.v _) (pl_cons (.v _) pl_nil)))))
 rw [frame0_of]
 change wpA _ _ _ _ (Fr.of [(0,.ptr p 0),(1,.agg (Clause.cells a1))]) H0 g
 have hS:=St.startP hf hp
 refine Sq ?_
 refine Rg 2 ?_
 refine o_box (v:=.agg (Clause.cells a1)) (cs:=(Clause.cells a1)) hS (by decide) rfl rfl (by omega) fun H hS=>?_
 refine Oa (.i 0) ?_
 refine Ni ?_
 refine w_iceE (L':=[(p,.cells (Week_.cells a0))]) 0 3 hS rfl rfl rfl fun H hS=>?_
 refine Ws ?_
 refine Sq ?_
 have hS0:=hS
 refine r_draw (n:=14) rfl (by kernel_rfl) ?_
 refine Om (.ptr p 0) ?_
 refine Om (.ptr p 0) ?_
 refine o_nilP (by decide) rfl ?_
 refine o_fieldP (by decide) ty_fo119_1 rfl ?_
 refine o_load (v:=.i a0.rest) 0 hS (by decide) rfl rfl (.st hS0 0 rfl (by omega)) (po ty_agg3 ty_sc3) ?_
 refine Of ((Clause.cells a1)) ty_fo117_1 ?_
 refine Olp (.i a1.Cents) ty_agg3 ty_sc3 ?_
 refine Om (.ptr p 0) ?_
 refine o_nilP (by decide) rfl ?_
 refine o_fieldP (by decide) ty_fo119_2 rfl ?_
 refine o_load (v:=.i a0.owed) 0 hS (by decide) rfl rfl (.st hS0 0 rfl (by omega)) (po ty_agg3 ty_sc3) ?_
 refine o_min (v:=.i (min (min a0.rest a1.Cents) a0.owed)) (by decide) rfl ?_
 obtain ⟨r1,hr1,hM⟩:=bindE hM
 refine o_mut (bs:=[.ptr p 0,.i (min (min a0.rest a1.Cents) a0.owed)]) (L':=[(p,.cells (Week_.cells r1.1))]) 0 hS (by decide) rfl rfl rfl (mok_st (by kernel_rfl) hS0 0 rfl (by omega)) ((W_shares_week_operator (p:=p) hr1).le (.k (.k .nil))) rfl fun H hS=>?_
 refine Oa (.i r1.2) ?_
 refine Ni ?_
 refine Ws ?_
 refine Sq ?_
 have hS0:=hS
 refine r_draw (n:=22) rfl (by kernel_rfl) ?_
 refine Om (.ptr p 0) ?_
 refine Om (.ptr p 0) ?_
 refine Om (.ptr p 0) ?_
 refine o_nilP (by decide) rfl ?_
 refine o_fieldP (by decide) ty_fo119_0 rfl ?_
 refine o_fieldP (by decide) ty_fo62_2 rfl ?_
 refine o_load (v:=.i r1.1.Split.Repaid) 0 hS (by decide) rfl rfl (.st hS0 0 rfl (by omega)) (po ty_agg3 ty_sc3) ?_
 refine Om (.i r1.2) ?_
 refine Oi (.i (w64 (r1.1.Split.Repaid+r1.2))) ?_
 refine Om (.ptr p 0) ?_
 refine o_nilP (by decide) rfl ?_
 refine o_fieldP (by decide) ty_fo119_2 rfl ?_
 refine o_load (v:=.i r1.1.owed) 0 hS (by decide) rfl rfl (.st hS0 0 rfl (by omega)) (po ty_agg3 ty_sc3) ?_
 refine Om (.i r1.2) ?_
 refine Oi (.i (w64 (r1.1.owed-r1.2))) ?_
 refine o_nilP (by decide) rfl ?_
 refine o_fieldP (by decide) ty_fo119_0 rfl ?_
 refine o_fieldP (by decide) ty_fo62_2 rfl ?_
 refine o_store (v:=.i (w64 (r1.1.Split.Repaid+r1.2))) (ns:=[.i (w64 (r1.1.Split.Repaid+r1.2))]) (L':=[(p,.cells [.i r1.1.Split.Operator,.i r1.1.Split.Owner,.i (w64 (r1.1.Split.Repaid+r1.2)),.i r1.1.rest,.i r1.1.owed])]) 0 hS rfl rfl (.st hS0 0 rfl (by omega)) rfl rfl ty_var3 nlb rfl fun H hS=>?_
 refine o_nilP (by decide) rfl ?_
 refine o_fieldP (by decide) ty_fo119_2 rfl ?_
 refine o_store (v:=.i (w64 (r1.1.owed-r1.2))) (ns:=[.i (w64 (r1.1.owed-r1.2))]) (L':=[(p,.cells [.i r1.1.Split.Operator,.i r1.1.Split.Owner,.i (w64 (r1.1.Split.Repaid+r1.2)),.i r1.1.rest,.i (w64 (r1.1.owed-r1.2))])]) 0 hS rfl rfl (.st hS0 0 rfl (by omega)) rfl rfl ty_var3 nlb rfl fun H hS=>?_
 refine Ni ?_
 refine Ws ?_
 refine Sq ?_
 refine Rg 2 ?_
 refine Om (.i r1.2) ?_
 refine Oa (.i r1.2) ?_
 refine Ni ?_
 refine w_next [(4,.i r1.2)] (.k .nil) ?_
 refine r_ret ?_
 refine w_endP (x:=.i r1.2) (f:=fun r=>.i r.2) (fd:=fun r=>[.i r.1.Split.Operator,.i r.1.Split.Owner,.i r.1.Split.Repaid,.i r.1.rest,.i r.1.owed]) 0 (.inr rfl) ?_ (.refl _) (Option.some.inj hM) hS rfl
 exact (res_one (res_tmp (x:=.i r1.2) rfl))
theorem W_shares_five {a0:Int} {r:Int} (hM:shares_five a0=some r):PureSat Try.prog 148 [.i a0] (.i r):=by
 refine pure_of_wp mixed Try.func148 rfl (by decide) Try.ntmps148 (by simp) ?pure fun H0 g hf=>?_
 case pure=>exact .v _
 rw [frame0_of]
 change wpA _ _ _ _ (Fr.of [(0,.i a0)]) H0 g
 have hS:=St.start hf
 refine Sq ?_
 refine Rg 1 ?_
 refine Oa (.i 0) ?_
 refine Ni ?_
 refine Ws ?_
 refine Sq ?_
 refine Rg 4 ?_
 refine Om (.i a0) ?_
 obtain ⟨q1,hq1,hM⟩:=bindE hM
 refine o_int (by decide) rfl rfl (quo_int hq1) ?_
 refine Oi (.i (w64 (q1*5))) ?_
 refine Oa (.i (w64 (q1*5))) ?_
 refine Ni ?_
 refine Ws ?_
 refine r_ret ?_
 refine w_end (x:=.i (w64 (q1*5))) (f:=fun r=>.i r) (.inr rfl) ?_ (.refl _) (Option.some.inj hM) hS
 exact (res_one (res_tmp (x:=.i (w64 (q1*5))) rfl))
theorem W_shares_rules_c2 {p:Nat} {a0:Week_} {a1:Clause} {r:Week_×Int} (hM:shares_rules_c2 a0 a1=some r):MutSat Try.prog 147 [.ptr p 0,.agg (Clause.cells a1)] p (Week_.cells a0) (.i r.2) [.i r.1.Split.Operator,.i r.1.Split.Owner,.i r.1.Split.Repaid,.i r.1.rest,.i r.1.owed]:=by
 refine mut_of_wp mixed Try.func147 rfl (by decide) Try.ntmps147 (by simp) ?pure ?cells fun H0 g hf hp=>?_
 case pure=>exact .v _
 case cells=>exact (pl_cons (.v _) (pl_cons (.v _) (pl_cons (.v _) (pl_cons (.v _) (pl_cons (.v _) pl_nil)))))
 rw [frame0_of]
 change wpA _ _ _ _ (Fr.of [(0,.ptr p 0),(1,.agg (Clause.cells a1))]) H0 g
 have hS:=St.startP hf hp
 refine Sq ?_
 refine Rg 2 ?_
 refine o_box (v:=.agg (Clause.cells a1)) (cs:=(Clause.cells a1)) hS (by decide) rfl rfl (by omega) fun H hS=>?_
 refine Oa (.i 0) ?_
 refine Ni ?_
 refine w_iceE (L':=[(p,.cells (Week_.cells a0))]) 0 3 hS rfl rfl rfl fun H hS=>?_
 refine Ws ?_
 refine Sq ?_
 have hS0:=hS
 refine r_draw (n:=11) rfl (by kernel_rfl) ?_
 refine Om (.ptr p 0) ?_
 refine Of ((Clause.cells a1)) ty_fo117_2 ?_
 refine Olp (.i a1.Part) ty_agg3 ty_sc3 ?_
 refine Om (.ptr p 0) ?_
 refine o_nilP (by decide) rfl ?_
 refine o_fieldP (by decide) ty_fo119_1 rfl ?_
 refine o_load (v:=.i a0.rest) 0 hS (by decide) rfl rfl (.st hS0 0 rfl (by omega)) (po ty_agg3 ty_sc3) ?_
 refine Oi (.i (w64 (a1.Part*a0.rest))) ?_
 obtain ⟨r1,hr1,hM⟩:=bindE hM
 refine o_call (bs:=[.i (w64 (a1.Part*a0.rest))]) (by decide) rfl rfl ((W_shares_five hr1).le (.k .nil)) ?_
 obtain ⟨r2,hr2,hM⟩:=bindE hM
 refine o_mut (bs:=[.ptr p 0,.i r1]) (L':=[(p,.cells (Week_.cells r2.1))]) 0 hS (by decide) rfl rfl rfl (mok_st (by kernel_rfl) hS0 0 rfl (by omega)) ((W_shares_week_owner (p:=p) hr2).le (.k (.k .nil))) rfl fun H hS=>?_
 refine Oa (.i r2.2) ?_
 refine Ni ?_
 refine Ws ?_
 refine r_ret ?_
 refine w_endP (x:=.i r2.2) (f:=fun r=>.i r.2) (fd:=fun r=>[.i r.1.Split.Operator,.i r.1.Split.Owner,.i r.1.Split.Repaid,.i r.1.rest,.i r.1.owed]) 0 (.inr rfl) ?_ (.refl _) (Option.some.inj hM) hS rfl
 exact (res_one (res_tmp (x:=.i r2.2) rfl))
theorem W_shares_rules_c3 {p:Nat} {a0:Week_} {a1:Clause} {r:Week_×Int} (hM:shares_rules_c3 a0 a1=some r):MutSat Try.prog 149 [.ptr p 0,.agg (Clause.cells a1)] p (Week_.cells a0) (.i r.2) [.i r.1.Split.Operator,.i r.1.Split.Owner,.i r.1.Split.Repaid,.i r.1.rest,.i r.1.owed]:=by
 refine mut_of_wp mixed Try.func149 rfl (by decide) Try.ntmps149 (by simp) ?pure ?cells fun H0 g hf hp=>?_
 case pure=>exact .v _
 case cells=>exact (pl_cons (.v _) (pl_cons (.v _) (pl_cons (.v _) (pl_cons (.v _) (pl_cons (.v _) pl_nil)))))
 rw [frame0_of]
 change wpA _ _ _ _ (Fr.of [(0,.ptr p 0),(1,.agg (Clause.cells a1))]) H0 g
 have hS:=St.startP hf hp
 refine Sq ?_
 refine Rg 2 ?_
 refine o_box (v:=.agg (Clause.cells a1)) (cs:=(Clause.cells a1)) hS (by decide) rfl rfl (by omega) fun H hS=>?_
 refine Oa (.i 0) ?_
 refine Ni ?_
 refine w_iceE (L':=[(p,.cells (Week_.cells a0))]) 0 3 hS rfl rfl rfl fun H hS=>?_
 refine Ws ?_
 refine Sq ?_
 have hS0:=hS
 refine r_draw (n:=8) rfl (by kernel_rfl) ?_
 refine Om (.ptr p 0) ?_
 refine o_nilP (by decide) rfl ?_
 refine o_fieldP (by decide) ty_fo119_1 rfl ?_
 refine o_load (v:=.i a0.rest) 0 hS (by decide) rfl rfl (.st hS0 0 rfl (by omega)) (po ty_agg3 ty_sc3) ?_
 refine Of ((Clause.cells a1)) ty_fo117_1 ?_
 refine Olp (.i a1.Cents) ty_agg3 ty_sc3 ?_
 refine o_min (v:=.i (min a0.rest a1.Cents)) (by decide) rfl ?_
 refine Oa (.i (min a0.rest a1.Cents)) ?_
 refine Ni ?_
 refine Ws ?_
 refine Sq ?_
 have hS0:=hS
 refine r_draw (n:=18) rfl (by kernel_rfl) ?_
 refine Om (.ptr p 0) ?_
 refine Of ((Clause.cells a1)) ty_fo117_2 ?_
 refine Olp (.i a1.Part) ty_agg3 ty_sc3 ?_
 refine Om (.i (min a0.rest a1.Cents)) ?_
 refine Oi (.i (w64 (a1.Part*(min a0.rest a1.Cents)))) ?_
 refine Of ((Clause.cells a1)) ty_fo117_3 ?_
 refine Olp (.i a1.More) ty_agg3 ty_sc3 ?_
 refine Om (.ptr p 0) ?_
 refine o_nilP (by decide) rfl ?_
 refine o_fieldP (by decide) ty_fo119_1 rfl ?_
 refine o_load (v:=.i a0.rest) 0 hS (by decide) rfl rfl (.st hS0 0 rfl (by omega)) (po ty_agg3 ty_sc3) ?_
 refine Om (.i (min a0.rest a1.Cents)) ?_
 refine Oi (.i (w64 (a0.rest-(min a0.rest a1.Cents)))) ?_
 refine Oi (.i (w64 (a1.More*(w64 (a0.rest-(min a0.rest a1.Cents)))))) ?_
 refine Oi (.i (w64 ((w64 (a1.Part*(min a0.rest a1.Cents)))+(w64 (a1.More*(w64 (a0.rest-(min a0.rest a1.Cents)))))))) ?_
 obtain ⟨r1,hr1,hM⟩:=bindE hM
 refine o_call (bs:=[.i (w64 ((w64 (a1.Part*(min a0.rest a1.Cents)))+(w64 (a1.More*(w64 (a0.rest-(min a0.rest a1.Cents)))))))]) (by decide) rfl rfl ((W_shares_five hr1).le (.k .nil)) ?_
 obtain ⟨r2,hr2,hM⟩:=bindE hM
 refine o_mut (bs:=[.ptr p 0,.i r1]) (L':=[(p,.cells (Week_.cells r2.1))]) 0 hS (by decide) rfl rfl rfl (mok_st (by kernel_rfl) hS0 0 rfl (by omega)) ((W_shares_week_owner (p:=p) hr2).le (.k (.k .nil))) rfl fun H hS=>?_
 refine Oa (.i r2.2) ?_
 refine Ni ?_
 refine Ws ?_
 refine r_ret ?_
 refine w_endP (x:=.i r2.2) (f:=fun r=>.i r.2) (fd:=fun r=>[.i r.1.Split.Operator,.i r.1.Split.Owner,.i r.1.Split.Repaid,.i r.1.rest,.i r.1.owed]) 0 (.inr rfl) ?_ (.refl _) (Option.some.inj hM) hS rfl
 exact (res_one (res_tmp (x:=.i r2.2) rfl))
theorem W_shares_rules_c4 {p:Nat} {a0:Week_} {a1:Clause} {r:Week_×Int} (hM:shares_rules_c4 a0 a1=some r):MutSat Try.prog 150 [.ptr p 0,.agg (Clause.cells a1)] p (Week_.cells a0) (.i r.2) [.i r.1.Split.Operator,.i r.1.Split.Owner,.i r.1.Split.Repaid,.i r.1.rest,.i r.1.owed]:=by
 refine mut_of_wp mixed Try.func150 rfl (by decide) Try.ntmps150 (by simp) ?pure ?cells fun H0 g hf hp=>?_
 case pure=>exact .v _
 case cells=>exact (pl_cons (.v _) (pl_cons (.v _) (pl_cons (.v _) (pl_cons (.v _) (pl_cons (.v _) pl_nil)))))
 rw [frame0_of]
 change wpA _ _ _ _ (Fr.of [(0,.ptr p 0),(1,.agg (Clause.cells a1))]) H0 g
 have hS:=St.startP hf hp
 refine Sq ?_
 refine Rg 2 ?_
 refine o_box (v:=.agg (Clause.cells a1)) (cs:=(Clause.cells a1)) hS (by decide) rfl rfl (by omega) fun H hS=>?_
 refine Oa (.i 0) ?_
 refine Ni ?_
 refine w_iceE (L':=[(p,.cells (Week_.cells a0))]) 0 3 hS rfl rfl rfl fun H hS=>?_
 refine Ws ?_
 refine Sq ?_
 have hS0:=hS
 refine r_draw (n:=17) rfl (by kernel_rfl) ?_
 refine Om (.ptr p 0) ?_
 refine Om (.ptr p 0) ?_
 refine o_nilP (by decide) rfl ?_
 refine o_fieldP (by decide) ty_fo119_1 rfl ?_
 refine o_load (v:=.i a0.rest) 0 hS (by decide) rfl rfl (.st hS0 0 rfl (by omega)) (po ty_agg3 ty_sc3) ?_
 refine Of ((Clause.cells a1)) ty_fo117_1 ?_
 refine Olp (.i a1.Cents) ty_agg3 ty_sc3 ?_
 refine Om (.ptr p 0) ?_
 refine o_nilP (by decide) rfl ?_
 refine o_fieldP (by decide) ty_fo119_0 rfl ?_
 refine o_fieldP (by decide) ty_fo62_1 rfl ?_
 refine o_load (v:=.i a0.Split.Owner) 0 hS (by decide) rfl rfl (.st hS0 0 rfl (by omega)) (po ty_agg3 ty_sc3) ?_
 refine Oi (.i (w64 (a1.Cents-a0.Split.Owner))) ?_
 refine o_max (v:=.i (max 0 (w64 (a1.Cents-a0.Split.Owner)))) (by decide) rfl ?_
 refine o_min (v:=.i (min a0.rest (max 0 (w64 (a1.Cents-a0.Split.Owner))))) (by decide) rfl ?_
 obtain ⟨r1,hr1,hM⟩:=bindE hM
 refine o_mut (bs:=[.ptr p 0,.i (min a0.rest (max 0 (w64 (a1.Cents-a0.Split.Owner))))]) (L':=[(p,.cells (Week_.cells r1.1))]) 0 hS (by decide) rfl rfl rfl (mok_st (by kernel_rfl) hS0 0 rfl (by omega)) ((W_shares_week_owner (p:=p) hr1).le (.k (.k .nil))) rfl fun H hS=>?_
 refine Oa (.i r1.2) ?_
 refine Ni ?_
 refine w_next [(4,.i r1.2)] (.k .nil) ?_
 refine r_ret ?_
 refine w_endP (x:=.i r1.2) (f:=fun r=>.i r.2) (fd:=fun r=>[.i r.1.Split.Operator,.i r.1.Split.Owner,.i r.1.Split.Repaid,.i r.1.rest,.i r.1.owed]) 0 (.inr rfl) ?_ (.refl _) (Option.some.inj hM) hS rfl
 exact (res_one (res_tmp (x:=.i r1.2) rfl))
theorem W_shares_rules_1:PureSat Try.prog 117 [.i 1] (.fn (.func 145) [] []):=by
 refine pure_of_wp mixed Try.func117 rfl (by decide) Try.ntmps117 (by simp) (.fn _ [] [] (by simp) (by simp)) fun H0 g hf=>?_
 rw [frame0_of]
 change wpA _ _ _ _ (Fr.of [(0,.i 1)]) H0 g
 have hS:=St.start hf
 refine Sq ?_
 refine Rg 1 ?_
 refine Oa (.v .nilFunc) ?_
 refine Ni ?_
 refine Ws ?_
 refine Sq ?_
 refine Rg 4 ?_
 refine o_build (cs:=[.v .nilFunc,.fn (.func 145) [] [],.fn (.func 146) [] [],.fn (.func 147) [] [],.fn (.func 149) [] [],.fn (.func 150) [] []]) (by decide) ty_zero211 ty_pl211 rfl ?_
 refine Om (.i 1) ?_
 refine o_indexA (v:=.fn (.func 145) [] []) (cs:=[.v .nilFunc,.fn (.func 145) [] [],.fn (.func 146) [] [],.fn (.func 147) [] [],.fn (.func 149) [] [],.fn (.func 150) [] []]) (z:=1) (by decide) rfl rfl ty_arx211 (by decide) (by decide) (po ty_agg176 ty_sc176) ?_
 refine Oa (.fn (.func 145) [] []) ?_
 refine Ni ?_
 refine w_next [(2,.fn (.func 145) [] [])] (.k .nil) ?_
 refine r_ret ?_
 refine w_end (x:=.fn (.func 145) [] []) (f:=fun (_:Unit)=>.fn (.func 145) [] []) (u:=()) (.inr rfl) ?_ (.refl _) rfl hS
 exact res_one (res_tmp rfl)
theorem W_shares_rules_2:PureSat Try.prog 117 [.i 2] (.fn (.func 146) [] []):=by
 refine pure_of_wp mixed Try.func117 rfl (by decide) Try.ntmps117 (by simp) (.fn _ [] [] (by simp) (by simp)) fun H0 g hf=>?_
 rw [frame0_of]
 change wpA _ _ _ _ (Fr.of [(0,.i 2)]) H0 g
 have hS:=St.start hf
 refine Sq ?_
 refine Rg 1 ?_
 refine Oa (.v .nilFunc) ?_
 refine Ni ?_
 refine Ws ?_
 refine Sq ?_
 refine Rg 4 ?_
 refine o_build (cs:=[.v .nilFunc,.fn (.func 145) [] [],.fn (.func 146) [] [],.fn (.func 147) [] [],.fn (.func 149) [] [],.fn (.func 150) [] []]) (by decide) ty_zero211 ty_pl211 rfl ?_
 refine Om (.i 2) ?_
 refine o_indexA (v:=.fn (.func 146) [] []) (cs:=[.v .nilFunc,.fn (.func 145) [] [],.fn (.func 146) [] [],.fn (.func 147) [] [],.fn (.func 149) [] [],.fn (.func 150) [] []]) (z:=2) (by decide) rfl rfl ty_arx211 (by decide) (by decide) (po ty_agg176 ty_sc176) ?_
 refine Oa (.fn (.func 146) [] []) ?_
 refine Ni ?_
 refine w_next [(2,.fn (.func 146) [] [])] (.k .nil) ?_
 refine r_ret ?_
 refine w_end (x:=.fn (.func 146) [] []) (f:=fun (_:Unit)=>.fn (.func 146) [] []) (u:=()) (.inr rfl) ?_ (.refl _) rfl hS
 exact res_one (res_tmp rfl)
theorem W_shares_rules_3:PureSat Try.prog 117 [.i 3] (.fn (.func 147) [] []):=by
 refine pure_of_wp mixed Try.func117 rfl (by decide) Try.ntmps117 (by simp) (.fn _ [] [] (by simp) (by simp)) fun H0 g hf=>?_
 rw [frame0_of]
 change wpA _ _ _ _ (Fr.of [(0,.i 3)]) H0 g
 have hS:=St.start hf
 refine Sq ?_
 refine Rg 1 ?_
 refine Oa (.v .nilFunc) ?_
 refine Ni ?_
 refine Ws ?_
 refine Sq ?_
 refine Rg 4 ?_
 refine o_build (cs:=[.v .nilFunc,.fn (.func 145) [] [],.fn (.func 146) [] [],.fn (.func 147) [] [],.fn (.func 149) [] [],.fn (.func 150) [] []]) (by decide) ty_zero211 ty_pl211 rfl ?_
 refine Om (.i 3) ?_
 refine o_indexA (v:=.fn (.func 147) [] []) (cs:=[.v .nilFunc,.fn (.func 145) [] [],.fn (.func 146) [] [],.fn (.func 147) [] [],.fn (.func 149) [] [],.fn (.func 150) [] []]) (z:=3) (by decide) rfl rfl ty_arx211 (by decide) (by decide) (po ty_agg176 ty_sc176) ?_
 refine Oa (.fn (.func 147) [] []) ?_
 refine Ni ?_
 refine w_next [(2,.fn (.func 147) [] [])] (.k .nil) ?_
 refine r_ret ?_
 refine w_end (x:=.fn (.func 147) [] []) (f:=fun (_:Unit)=>.fn (.func 147) [] []) (u:=()) (.inr rfl) ?_ (.refl _) rfl hS
 exact res_one (res_tmp rfl)
theorem W_shares_rules_4:PureSat Try.prog 117 [.i 4] (.fn (.func 149) [] []):=by
 refine pure_of_wp mixed Try.func117 rfl (by decide) Try.ntmps117 (by simp) (.fn _ [] [] (by simp) (by simp)) fun H0 g hf=>?_
 rw [frame0_of]
 change wpA _ _ _ _ (Fr.of [(0,.i 4)]) H0 g
 have hS:=St.start hf
 refine Sq ?_
 refine Rg 1 ?_
 refine Oa (.v .nilFunc) ?_
 refine Ni ?_
 refine Ws ?_
 refine Sq ?_
 refine Rg 4 ?_
 refine o_build (cs:=[.v .nilFunc,.fn (.func 145) [] [],.fn (.func 146) [] [],.fn (.func 147) [] [],.fn (.func 149) [] [],.fn (.func 150) [] []]) (by decide) ty_zero211 ty_pl211 rfl ?_
 refine Om (.i 4) ?_
 refine o_indexA (v:=.fn (.func 149) [] []) (cs:=[.v .nilFunc,.fn (.func 145) [] [],.fn (.func 146) [] [],.fn (.func 147) [] [],.fn (.func 149) [] [],.fn (.func 150) [] []]) (z:=4) (by decide) rfl rfl ty_arx211 (by decide) (by decide) (po ty_agg176 ty_sc176) ?_
 refine Oa (.fn (.func 149) [] []) ?_
 refine Ni ?_
 refine w_next [(2,.fn (.func 149) [] [])] (.k .nil) ?_
 refine r_ret ?_
 refine w_end (x:=.fn (.func 149) [] []) (f:=fun (_:Unit)=>.fn (.func 149) [] []) (u:=()) (.inr rfl) ?_ (.refl _) rfl hS
 exact res_one (res_tmp rfl)
theorem W_shares_rules_5:PureSat Try.prog 117 [.i 5] (.fn (.func 150) [] []):=by
 refine pure_of_wp mixed Try.func117 rfl (by decide) Try.ntmps117 (by simp) (.fn _ [] [] (by simp) (by simp)) fun H0 g hf=>?_
 rw [frame0_of]
 change wpA _ _ _ _ (Fr.of [(0,.i 5)]) H0 g
 have hS:=St.start hf
 refine Sq ?_
 refine Rg 1 ?_
 refine Oa (.v .nilFunc) ?_
 refine Ni ?_
 refine Ws ?_
 refine Sq ?_
 refine Rg 4 ?_
 refine o_build (cs:=[.v .nilFunc,.fn (.func 145) [] [],.fn (.func 146) [] [],.fn (.func 147) [] [],.fn (.func 149) [] [],.fn (.func 150) [] []]) (by decide) ty_zero211 ty_pl211 rfl ?_
 refine Om (.i 5) ?_
 refine o_indexA (v:=.fn (.func 150) [] []) (cs:=[.v .nilFunc,.fn (.func 145) [] [],.fn (.func 146) [] [],.fn (.func 147) [] [],.fn (.func 149) [] [],.fn (.func 150) [] []]) (z:=5) (by decide) rfl rfl ty_arx211 (by decide) (by decide) (po ty_agg176 ty_sc176) ?_
 refine Oa (.fn (.func 150) [] []) ?_
 refine Ni ?_
 refine w_next [(2,.fn (.func 150) [] [])] (.k .nil) ?_
 refine r_ret ?_
 refine w_end (x:=.fn (.func 150) [] []) (f:=fun (_:Unit)=>.fn (.func 150) [] []) (u:=()) (.inr rfl) ?_ (.refl _) rfl hS
 exact res_one (res_tmp rfl)
theorem W_shares_settle {n:Nat} {a0:List Clause} {a1:Int} {a2:Int} {a3:Int} {r:Week_×(List Int)} (hM:shares_settle n a0 a1 a2 a3=some r):PureSat Try.prog 83 [.sl .no 4 (a0.map Clause.cells),.i a1,.i a2,.i a3] (.tup [.agg [.i r.1.Split.Operator,.i r.1.Split.Owner,.i r.1.Split.Repaid,.i r.1.rest,.i r.1.owed],.sl .no 1 (r.2.map cI)]):=by
 refine pure_of_wp mixed Try.func83 rfl (by decide) Try.ntmps83 (by simp) ?pure fun H0 g hf=>?_
 case pure=>exact .tup _ (pl_cons (.agg _ (pl_cons (.v _) (pl_cons (.v _) (pl_cons (.v _) (pl_cons (.v _) (pl_cons (.v _) pl_nil)))))) (pl_cons (.sl _ _ (pures_map (fun x=>(pl_cons (.v _) pl_nil)))) pl_nil))
 rw [frame0_of]
 change wpA _ _ _ _ (Fr.of [(0,.sl .no 4 (a0.map Clause.cells)),(1,.i a1),(2,.i a2),(3,.i a3)]) H0 g
 have hS:=St.start hf
 refine Sq ?_
 refine Rg 2 ?_
 refine o_alloc hS (by decide) ty_zero119 (by omega) fun H hS=>?_
 refine Oa (.sl .nil 0 []) ?_
 refine Ni ?_
 refine w_own [(0,.sl .no 4 (a0.map Clause.cells)),(1,.i a1),(2,.i a2),(3,.i a3),(8,.ptr (g+0) 0),(9,.sl (.id (g+2)) 1 (([]:List Int).map cI))] 9 1 3 hS (by omega) (by decide) rfl (.k (.k (.k (.k (.k (.k .nil)))))) fun H hS=>?_
 refine Sq ?_
 refine Rg 4 ?_
 refine Om (.i a2) ?_
 refine Om (.i a1) ?_
 refine o_build (cs:=[.i 0,.i 0,.i 0,.i a2,.i a1]) (by decide) ty_zero119 ty_pl119 rfl ?_
 refine o_store (v:=.agg [.i 0,.i 0,.i 0,.i a2,.i a1]) (ns:=[.i 0,.i 0,.i 0,.i a2,.i a1]) (L':=[(g+2,.row 3 0),(g+0,.cells [.i 0,.i 0,.i 0,.i a2,.i a1])]) 1 hS rfl rfl .no rfl rfl ty_var119 nlb rfl fun H hS=>?_
 refine Ni ?_
 refine Ws ?_
 refine Sq ?_
 refine Rg 4 ?_
 refine Om (.i a3) ?_
 refine Om (.i a2) ?_
 refine o_min (v:=.i (min a3 a2)) (by decide) rfl ?_
 obtain ⟨r1,hr1,hM⟩:=bindE hM
 refine o_mut (bs:=[.ptr (g+0) 0,.i (min a3 a2)]) (L':=[(g+2,.row 3 0),(g+0,.cells (Week_.cells r1.1))]) 1 hS (by decide) rfl rfl rfl mok_no ((W_shares_week_owner (p:=g+0) hr1).le (.k (.k .nil))) rfl fun H hS=>?_
 refine Ni ?_
 refine Ws ?_
 refine w_join (J:=(List Int)×Int×Int×Int×Int×Int) (fun j=>[(8,.ptr (g+0) 0),(9,.sl (.id (g+2)) 1 (j.1.map cI))]) (fun j H' g'=>St (·<g) H0 [(g+2,.row 3 j.1.length),(g+0,.cells [.i j.2.1,.i j.2.2.1,.i j.2.2.2.1,.i j.2.2.2.2.1,.i j.2.2.2.2.2])] H' g'∧shares_settle_j1 j.1 j.2.1 j.2.2.1 j.2.2.2.1 j.2.2.2.2.1 j.2.2.2.2.2=some r) ?_ ?_
 ·rintro ⟨v2,v3,v4,v5,v6,v7⟩ H g1 ⟨hS,hM⟩
  change wpA _ _ _ _ (Fr.of [(8,.ptr (g+0) 0),(9,.sl (.id (g+2)) 1 (v2.map cI))]) _ _
  replace hS:St (·<g) H0 [(g+2,.row 3 v2.length),(g+0,.cells [.i v3,.i v4,.i v5,.i v6,.i v7])] H g1:=hS
  replace hM:shares_settle_j1 v2 v3 v4 v5 v6 v7=some r:=hM
  refine Sq ?_
  refine Rg 3 ?_
  refine o_fieldP (by decide) ty_fo119_1 rfl ?_
  refine o_load (v:=.i v6) 1 hS (by decide) rfl rfl .no (po ty_agg3 ty_sc3) ?_
  obtain ⟨r8,hr8,hM⟩:=bindE hM
  refine o_mut (bs:=[.ptr (g+0) 0,.i v6]) (L':=[(g+2,.row 3 v2.length),(g+0,.cells (Week_.cells r8.1))]) 1 hS (by decide) rfl rfl rfl mok_no ((W_shares_week_operator (p:=g+0) hr8).le (.k (.k .nil))) rfl fun H hS=>?_
  refine Ni ?_
  refine Ws ?_
  refine Sq ?_
  refine Rg 4 ?_
  refine o_load (v:=.agg (Week_.cells r8.1)) 1 hS (by decide) rfl rfl .no (pg ty_agg119) ?_
  refine Om (.sl (.id (g+2)) 1 (v2.map cI)) ?_
  refine o_store (v:=.agg (Week_.cells r8.1)) (ns:=(Week_.cells r8.1)) (L':=[(g+2,.row 3 v2.length),(g+0,.cells (Week_.cells r8.1))]) 1 hS rfl rfl .no rfl rfl ty_var119 nlb rfl fun H hS=>?_
  refine Oa (.sl (.id (g+2)) 1 (v2.map cI)) ?_
  refine Ni ?_
  refine Ws ?_
  refine r_ret ?_
  refine w_end (x:=.tup [.agg (Week_.cells r8.1),.sl (.id (g+2)) 1 (v2.map cI)]) (f:=fun r=>.tup [.agg [.i r.1.Split.Operator,.i r.1.Split.Owner,.i r.1.Split.Repaid,.i r.1.rest,.i r.1.owed],.sl .no 1 (r.2.map cI)]) (.inr rfl) ?_ (.tupL (.k (.cons (.sl _ _ _) .nil))) (Option.some.inj hM) hS
  exact (res_two (res_cell (x:=.agg (Week_.cells r8.1)) 1 hS rfl rfl (pg ty_agg119)) (res_tmp (x:=.sl (.id (g+2)) 1 (v2.map cI)) rfl))
 ·refine Sq ?_
  refine Rg 3 ?_
  refine Om (.sl .no 4 (a0.map Clause.cells)) ?_
  refine o_len (n:=a0.length) (by decide) rfl (List.length_map _) ty_isl57 ?_
  refine Om (.i 0) ?_
  refine Ni ?_
  refine Ws ?_
  refine r_block ?_
  refine w_loop (V:=(List Int)×Int×Int×Int×Int×Int×Int) (fun v=>[(8,.ptr (g+0) 0),(9,.sl (.id (g+2)) 1 (v.1.map cI)),(19,.sl .no 4 (a0.map Clause.cells)),(20,.i (a0.length:Int)),(21,.i v.2.1)]) (fun v m3 H' g'=>St (·<g) H0 [(g+2,.row 3 v.1.length),(g+0,.cells [.i v.2.2.1,.i v.2.2.2.1,.i v.2.2.2.2.1,.i v.2.2.2.2.2.1,.i v.2.2.2.2.2.2])] H' g'∧shares_settle_l1 a0 m3 v.1 v.2.1 v.2.2.1 v.2.2.2.1 v.2.2.2.2.1 v.2.2.2.2.2.1 v.2.2.2.2.2.2=some r) (n:=n) (([]:List Int),0,r1.1.Split.Operator,r1.1.Split.Owner,r1.1.Split.Repaid,r1.1.rest,r1.1.owed) (.k (.k (.k (.k (.k .nil))))) ⟨(hS.keep [true,true] rfl).up (by omega),hM⟩ ?_
  rintro ⟨v11,v12,v13,v14,v15,v16,v17⟩ m3 H g3 ⟨hS,hM⟩
  obtain _ | m3:=m3
  ·exact nomatch (show none=some _ from hM)
  change wpA _ _ _ _ (Fr.of [(8,.ptr (g+0) 0),(9,.sl (.id (g+2)) 1 (v11.map cI)),(19,.sl .no 4 (a0.map Clause.cells)),(20,.i (a0.length:Int)),(21,.i v12)]) _ _
  replace hS:St (·<g) H0 [(g+2,.row 3 v11.length),(g+0,.cells [.i v13,.i v14,.i v15,.i v16,.i v17])] H g3:=hS
  replace hM:shares_settle_l1_b a0 (shares_settle_l1 a0 m3) v11 v12 v13 v14 v15 v16 v17=some r:=hM
  refine Sq ?_
  refine Rg 1 ?_
  refine Oi (.b (decide (v12<(a0.length:Int)))) ?_
  refine Ni ?_
  refine Ws ?_
  refine Sq ?_
  rcases bft (decide (v12<(a0.length:Int))) with hb18 | hb18
  ·replace hM:=ifT hM hb18
   refine Ct hb18 ?_
   refine r_skip ?_
   refine Ws ?_
   refine Sq ?_
   refine r_block ?_
   refine Sq ?_
   refine Rg 4 ?_
   obtain ⟨x19,hx19,hM⟩:=bindE hM
   refine o_index (xs:=a0) (f:=Clause.cells) (z:=v12) (u:=x19) (by decide) rfl rfl ty_es57 hx19 ?_
   refine Olg (.agg (Clause.cells x19)) ty_agg117 ?_
   refine o_alloc hS (by decide) ty_zero117 (by omega) fun H hS=>?_
   refine o_store (v:=.agg (Clause.cells x19)) (ns:=(Clause.cells x19)) (L':=[(g3+1+2,.cells (Clause.cells x19)),(g+2,.row 3 v11.length),(g+0,.cells [.i v13,.i v14,.i v15,.i v16,.i v17])]) 0 hS rfl rfl .no rfl rfl ty_var117 nlb rfl fun H hS=>?_
   refine Ni ?_
   refine w_iceE (L':=[(g+2,.row 3 v11.length),(g+0,.cells [.i v13,.i v14,.i v15,.i v16,.i v17])]) 0 11 hS rfl rfl rfl fun H hS=>?_
   refine Ws ?_
   have hS0:=hS
   refine r_draw (n:=9) rfl (by kernel_rfl) ?_
   refine Om (.sl (.id (g+2)) 1 (v11.map cI)) ?_
   refine Of ((Clause.cells x19)) ty_fo117_0 ?_
   refine Olp (.i x19.Kind) ty_agg3 ty_sc3 ?_
   rcases bft (x19.Kind==1) with hb20 | hb20
   ·replace hM:=ifT hM hb20
    refine o_call (bs:=[.i x19.Kind]) (v:=.fn (.func 145) [] []) (by decide) rfl rfl (by rw [eq_of_beq hb20];exact W_shares_rules_1) ?_
    refine Olg (.agg (Clause.cells x19)) ty_agg117 ?_
    obtain ⟨r21,hr21,hM⟩:=bindE hM
    refine o_mut (bs:=[.ptr (g+0) 0,.agg (Clause.cells x19)]) (L':=[(g+2,.row 3 v11.length),(g+0,.cells (Week_.cells r21.1))]) 1 hS (by decide) rfl rfl rfl (mok_st (by kernel_rfl) hS0 1 rfl (by omega)) ((W_shares_rules_c1 (p:=g+0) hr21).le (.k (.k .nil))) rfl fun H hS=>?_
    refine o_buildSlice (es:=[[.i r21.2]]) hS (by decide) ty_es22 ty_el22 rfl ty_ef22 rfl (by decide) (by omega) fun H hS=>?_
    obtain ⟨l22,hl22,hM⟩:=bindE hM
    refine o_append (xs:=v11) (ys:=([r21.2]:List Int)) (zs:=l22) (f:=cI) (L':=[(g3+1+4+6,.row 3 1),(g+2,.row 3 l22.length),(g+0,.cells (Week_.cells r21.1))]) 1 hS (by decide) rfl rfl rfl rfl (.st hS0 0 rfl (by omega)) ty_es22 ty_el22 ty_ef22 hl22 rfl fun H hS=>?_
    refine Oa (.sl (.id (g+2)) 1 (l22.map cI)) ?_
    refine Ni ?_
    refine r_blk_normal ?_
    replace hS:=hS.keep (L':=[(g+2,.row 3 l22.length),(g+0,.cells (Week_.cells r21.1))]) [false,true,true] rfl
    refine Ws ?_
    refine Rg 2 ?_
    refine Oi (.i (w64 (v12+1))) ?_
    refine Om (.i (w64 (v12+1))) ?_
    refine Ni ?_
    exact w_round (l22,w64 (v12+1),r21.1.Split.Operator,r21.1.Split.Owner,r21.1.Split.Repaid,r21.1.rest,r21.1.owed) (Nat.lt_succ_self _) (.k (.k (.k (.k (.k .nil))))) ⟨(hS.keep [true,true] rfl).up (by omega),hM⟩
   ·replace hM:=ifF hM hb20
    rcases bft (x19.Kind==2) with hb23 | hb23
    ·replace hM:=ifT hM hb23
     refine o_call (bs:=[.i x19.Kind]) (v:=.fn (.func 146) [] []) (by decide) rfl rfl (by rw [eq_of_beq hb23];exact W_shares_rules_2) ?_
     refine Olg (.agg (Clause.cells x19)) ty_agg117 ?_
     obtain ⟨r24,hr24,hM⟩:=bindE hM
     refine o_mut (bs:=[.ptr (g+0) 0,.agg (Clause.cells x19)]) (L':=[(g+2,.row 3 v11.length),(g+0,.cells (Week_.cells r24.1))]) 1 hS (by decide) rfl rfl rfl (mok_st (by kernel_rfl) hS0 1 rfl (by omega)) ((W_shares_week_repay (p:=g+0) hr24).le (.k (.k .nil))) rfl fun H hS=>?_
     refine o_buildSlice (es:=[[.i r24.2]]) hS (by decide) ty_es22 ty_el22 rfl ty_ef22 rfl (by decide) (by omega) fun H hS=>?_
     obtain ⟨l25,hl25,hM⟩:=bindE hM
     refine o_append (xs:=v11) (ys:=([r24.2]:List Int)) (zs:=l25) (f:=cI) (L':=[(g3+1+4+6,.row 3 1),(g+2,.row 3 l25.length),(g+0,.cells (Week_.cells r24.1))]) 1 hS (by decide) rfl rfl rfl rfl (.st hS0 0 rfl (by omega)) ty_es22 ty_el22 ty_ef22 hl25 rfl fun H hS=>?_
     refine Oa (.sl (.id (g+2)) 1 (l25.map cI)) ?_
     refine Ni ?_
     refine r_blk_normal ?_
     replace hS:=hS.keep (L':=[(g+2,.row 3 l25.length),(g+0,.cells (Week_.cells r24.1))]) [false,true,true] rfl
     refine Ws ?_
     refine Rg 2 ?_
     refine Oi (.i (w64 (v12+1))) ?_
     refine Om (.i (w64 (v12+1))) ?_
     refine Ni ?_
     exact w_round (l25,w64 (v12+1),r24.1.Split.Operator,r24.1.Split.Owner,r24.1.Split.Repaid,r24.1.rest,r24.1.owed) (Nat.lt_succ_self _) (.k (.k (.k (.k (.k .nil))))) ⟨(hS.keep [true,true] rfl).up (by omega),hM⟩
    ·replace hM:=ifF hM hb23
     rcases bft (x19.Kind==3) with hb26 | hb26
     ·replace hM:=ifT hM hb26
      refine o_call (bs:=[.i x19.Kind]) (v:=.fn (.func 147) [] []) (by decide) rfl rfl (by rw [eq_of_beq hb26];exact W_shares_rules_3) ?_
      refine Olg (.agg (Clause.cells x19)) ty_agg117 ?_
      obtain ⟨r27,hr27,hM⟩:=bindE hM
      refine o_mut (bs:=[.ptr (g+0) 0,.agg (Clause.cells x19)]) (L':=[(g+2,.row 3 v11.length),(g+0,.cells (Week_.cells r27.1))]) 1 hS (by decide) rfl rfl rfl (mok_st (by kernel_rfl) hS0 1 rfl (by omega)) ((W_shares_rules_c2 (p:=g+0) hr27).le (.k (.k .nil))) rfl fun H hS=>?_
      refine o_buildSlice (es:=[[.i r27.2]]) hS (by decide) ty_es22 ty_el22 rfl ty_ef22 rfl (by decide) (by omega) fun H hS=>?_
      obtain ⟨l28,hl28,hM⟩:=bindE hM
      refine o_append (xs:=v11) (ys:=([r27.2]:List Int)) (zs:=l28) (f:=cI) (L':=[(g3+1+4+6,.row 3 1),(g+2,.row 3 l28.length),(g+0,.cells (Week_.cells r27.1))]) 1 hS (by decide) rfl rfl rfl rfl (.st hS0 0 rfl (by omega)) ty_es22 ty_el22 ty_ef22 hl28 rfl fun H hS=>?_
      refine Oa (.sl (.id (g+2)) 1 (l28.map cI)) ?_
      refine Ni ?_
      refine r_blk_normal ?_
      replace hS:=hS.keep (L':=[(g+2,.row 3 l28.length),(g+0,.cells (Week_.cells r27.1))]) [false,true,true] rfl
      refine Ws ?_
      refine Rg 2 ?_
      refine Oi (.i (w64 (v12+1))) ?_
      refine Om (.i (w64 (v12+1))) ?_
      refine Ni ?_
      exact w_round (l28,w64 (v12+1),r27.1.Split.Operator,r27.1.Split.Owner,r27.1.Split.Repaid,r27.1.rest,r27.1.owed) (Nat.lt_succ_self _) (.k (.k (.k (.k (.k .nil))))) ⟨(hS.keep [true,true] rfl).up (by omega),hM⟩
     ·replace hM:=ifF hM hb26
      rcases bft (x19.Kind==4) with hb29 | hb29
      ·replace hM:=ifT hM hb29
       refine o_call (bs:=[.i x19.Kind]) (v:=.fn (.func 149) [] []) (by decide) rfl rfl (by rw [eq_of_beq hb29];exact W_shares_rules_4) ?_
       refine Olg (.agg (Clause.cells x19)) ty_agg117 ?_
       obtain ⟨r30,hr30,hM⟩:=bindE hM
       refine o_mut (bs:=[.ptr (g+0) 0,.agg (Clause.cells x19)]) (L':=[(g+2,.row 3 v11.length),(g+0,.cells (Week_.cells r30.1))]) 1 hS (by decide) rfl rfl rfl (mok_st (by kernel_rfl) hS0 1 rfl (by omega)) ((W_shares_rules_c3 (p:=g+0) hr30).le (.k (.k .nil))) rfl fun H hS=>?_
       refine o_buildSlice (es:=[[.i r30.2]]) hS (by decide) ty_es22 ty_el22 rfl ty_ef22 rfl (by decide) (by omega) fun H hS=>?_
       obtain ⟨l31,hl31,hM⟩:=bindE hM
       refine o_append (xs:=v11) (ys:=([r30.2]:List Int)) (zs:=l31) (f:=cI) (L':=[(g3+1+4+6,.row 3 1),(g+2,.row 3 l31.length),(g+0,.cells (Week_.cells r30.1))]) 1 hS (by decide) rfl rfl rfl rfl (.st hS0 0 rfl (by omega)) ty_es22 ty_el22 ty_ef22 hl31 rfl fun H hS=>?_
       refine Oa (.sl (.id (g+2)) 1 (l31.map cI)) ?_
       refine Ni ?_
       refine r_blk_normal ?_
       replace hS:=hS.keep (L':=[(g+2,.row 3 l31.length),(g+0,.cells (Week_.cells r30.1))]) [false,true,true] rfl
       refine Ws ?_
       refine Rg 2 ?_
       refine Oi (.i (w64 (v12+1))) ?_
       refine Om (.i (w64 (v12+1))) ?_
       refine Ni ?_
       exact w_round (l31,w64 (v12+1),r30.1.Split.Operator,r30.1.Split.Owner,r30.1.Split.Repaid,r30.1.rest,r30.1.owed) (Nat.lt_succ_self _) (.k (.k (.k (.k (.k .nil))))) ⟨(hS.keep [true,true] rfl).up (by omega),hM⟩
      ·replace hM:=ifF hM hb29
       rcases bft (x19.Kind==5) with hb32 | hb32
       ·replace hM:=ifT hM hb32
        refine o_call (bs:=[.i x19.Kind]) (v:=.fn (.func 150) [] []) (by decide) rfl rfl (by rw [eq_of_beq hb32];exact W_shares_rules_5) ?_
        refine Olg (.agg (Clause.cells x19)) ty_agg117 ?_
        obtain ⟨r33,hr33,hM⟩:=bindE hM
        refine o_mut (bs:=[.ptr (g+0) 0,.agg (Clause.cells x19)]) (L':=[(g+2,.row 3 v11.length),(g+0,.cells (Week_.cells r33.1))]) 1 hS (by decide) rfl rfl rfl (mok_st (by kernel_rfl) hS0 1 rfl (by omega)) ((W_shares_rules_c4 (p:=g+0) hr33).le (.k (.k .nil))) rfl fun H hS=>?_
        refine o_buildSlice (es:=[[.i r33.2]]) hS (by decide) ty_es22 ty_el22 rfl ty_ef22 rfl (by decide) (by omega) fun H hS=>?_
        obtain ⟨l34,hl34,hM⟩:=bindE hM
        refine o_append (xs:=v11) (ys:=([r33.2]:List Int)) (zs:=l34) (f:=cI) (L':=[(g3+1+4+6,.row 3 1),(g+2,.row 3 l34.length),(g+0,.cells (Week_.cells r33.1))]) 1 hS (by decide) rfl rfl rfl rfl (.st hS0 0 rfl (by omega)) ty_es22 ty_el22 ty_ef22 hl34 rfl fun H hS=>?_
        refine Oa (.sl (.id (g+2)) 1 (l34.map cI)) ?_
        refine Ni ?_
        refine r_blk_normal ?_
        replace hS:=hS.keep (L':=[(g+2,.row 3 l34.length),(g+0,.cells (Week_.cells r33.1))]) [false,true,true] rfl
        refine Ws ?_
        refine Rg 2 ?_
        refine Oi (.i (w64 (v12+1))) ?_
        refine Om (.i (w64 (v12+1))) ?_
        refine Ni ?_
        exact w_round (l34,w64 (v12+1),r33.1.Split.Operator,r33.1.Split.Owner,r33.1.Split.Repaid,r33.1.rest,r33.1.owed) (Nat.lt_succ_self _) (.k (.k (.k (.k (.k .nil))))) ⟨(hS.keep [true,true] rfl).up (by omega),hM⟩
       ·replace hM:=ifF hM hb32
        exact nomatch (show none=some _ from hM)
  ·replace hM:=ifF hM hb18
   refine Cf hb18 ?_
   refine r_exit ?_
   refine r_then_exit ?_
   refine w_round_exit ?_
   refine r_blk_exit ?_
   exact w_goto (v11,v13,v14,v15,v16,v17) (.k (.k .nil)) ⟨(hS.keep [true,true] rfl).up (by omega),hM⟩
theorem W_shares_within {a0:Int} {a1:Int} {a2:Int} {r:Bool} (hM:shares_within a0 a1 a2=some r):PureSat Try.prog 113 [.i a0,.i a1,.i a2] (.b r):=by
 refine pure_of_wp mixed Try.func113 rfl (by decide) Try.ntmps113 (by simp) ?pure fun H0 g hf=>?_
 case pure=>exact .v _
 rw [frame0_of]
 change wpA _ _ _ _ (Fr.of [(0,.i a0),(1,.i a1),(2,.i a2)]) H0 g
 have hS:=St.start hf
 refine Sq ?_
 refine Rg 1 ?_
 refine Oa (.b false) ?_
 refine Ni ?_
 refine Ws ?_
 refine w_join (J:=Bool) (fun j=>[(6,.b j)]) (fun j H' g'=>St (·<g) H0 [] H' g'∧shares_within_j1 j=some r) ?_ ?_
 ·rintro v1 H g1 ⟨hS,hM⟩
  change wpA _ _ _ _ (Fr.of [(6,.b v1)]) _ _
  replace hS:St (·<g) H0 [] H g1:=hS
  replace hM:shares_within_j1 v1=some r:=hM
  refine r_ret ?_
  refine w_end (x:=.b v1) (f:=fun r=>.b r) (.inr rfl) ?_ (.refl _) (Option.some.inj hM) hS
  exact (res_one (res_tmp (x:=.b v1) rfl))
 ·refine Rg 9 ?_
  refine Om (.i a1) ?_
  refine Om (.i a0) ?_
  refine Oi (.b (decide (a1≤a0))) ?_
  refine Om (.b (decide (a1≤a0))) ?_
  rcases bft (decide (a1≤a0)) with hb2 | hb2
  ·replace hM:=ifT hM hb2
   refine Oy (want:=true) hb2 ?_
   refine Om (.i a0) ?_
   refine Oy (want:=true) hb2 ?_
   refine Om (.i a2) ?_
   refine Oy (want:=true) hb2 ?_
   refine Oi (.b (decide (a0≤a2))) ?_
   refine Pt (.b (decide (a0≤a2))) hb2 ?_
   refine Oa (.b (decide (a0≤a2))) ?_
   refine Ni ?_
   exact w_goto (decide (a0≤a2)) (.k .nil) ⟨(hS.keep [] rfl).up (by omega),hM⟩
  ·replace hM:=ifF hM hb2
   refine On (want:=true) hb2 ?_
   refine On (want:=true) hb2 ?_
   refine On (want:=true) hb2 ?_
   refine Pf (.b false) hb2 ?_
   refine Oa (.b false) ?_
   refine Ni ?_
   exact w_goto false (.k .nil) ⟨(hS.keep [] rfl).up (by omega),hM⟩
theorem W_shares_isCents {a0:Int} {r:Bool} (hM:shares_isCents a0=some r):PureSat Try.prog 114 [.i a0] (.b r):=by
 refine pure_of_wp mixed Try.func114 rfl (by decide) Try.ntmps114 (by simp) ?pure fun H0 g hf=>?_
 case pure=>exact .v _
 rw [frame0_of]
 change wpA _ _ _ _ (Fr.of [(0,.i a0)]) H0 g
 have hS:=St.start hf
 refine Sq ?_
 refine Rg 1 ?_
 refine Oa (.b false) ?_
 refine Ni ?_
 refine Ws ?_
 refine Sq ?_
 refine Rg 3 ?_
 refine Om (.i a0) ?_
 obtain ⟨r1,hr1,hM⟩:=bindE hM
 refine o_call (bs:=[.i a0,.i 0,.i 9999]) (by decide) rfl rfl ((W_shares_within hr1).le (.k (.k (.k .nil)))) ?_
 refine Oa (.b r1) ?_
 refine Ni ?_
 refine w_next [(2,.b r1)] (.k .nil) ?_
 refine r_ret ?_
 refine w_end (x:=.b r1) (f:=fun r=>.b r) (.inr rfl) ?_ (.refl _) (Option.some.inj hM) hS
 exact (res_one (res_tmp (x:=.b r1) rfl))
theorem W_shares_Check_c1 {a0:Clause} {r:Bool} (hM:shares_Check_c1 a0=some r):PureSat Try.prog 112 [.agg (Clause.cells a0)] (.b r):=by
 refine pure_of_wp mixed Try.func112 rfl (by decide) Try.ntmps112 (by simp) ?pure fun H0 g hf=>?_
 case pure=>exact .v _
 rw [frame0_of]
 change wpA _ _ _ _ (Fr.of [(0,.agg (Clause.cells a0))]) H0 g
 have hS:=St.start hf
 refine Sq ?_
 refine Rg 2 ?_
 refine o_box (v:=.agg (Clause.cells a0)) (cs:=(Clause.cells a0)) hS (by decide) rfl rfl (by omega) fun H hS=>?_
 refine Oa (.b false) ?_
 refine Ni ?_
 refine w_iceE (L':=[]) 0 1 hS rfl rfl rfl fun H hS=>?_
 refine Ws ?_
 refine w_join (J:=Bool) (fun j=>[(2,.b j)]) (fun j H' g'=>St (·<g) H0 [] H' g'∧shares_Check_c1_j1 j=some r) ?_ ?_
 ·rintro v1 H g1 ⟨hS,hM⟩
  change wpA _ _ _ _ (Fr.of [(2,.b v1)]) _ _
  replace hS:St (·<g) H0 [] H g1:=hS
  replace hM:shares_Check_c1_j1 v1=some r:=hM
  refine r_ret ?_
  refine w_end (x:=.b v1) (f:=fun r=>.b r) (.inr rfl) ?_ (.refl _) (Option.some.inj hM) hS
  exact (res_one (res_tmp (x:=.b v1) rfl))
 ·refine Rg 23 ?_
  refine Of ((Clause.cells a0)) ty_fo117_0 ?_
  refine Olp (.i a0.Kind) ty_agg3 ty_sc3 ?_
  obtain ⟨r2,hr2,hM⟩:=bindE hM
  refine o_call (bs:=[.i a0.Kind,.i 1,.i 5]) (by decide) rfl rfl ((W_shares_within hr2).le (.k (.k (.k .nil)))) ?_
  refine o_not (e:=r2) (by decide) rfl ?_
  refine Om (.b (!r2)) ?_
  rcases bft (!r2) with hb3 | hb3
  ·replace hM:=ifT hM hb3
   refine On (want:=false) hb3 ?_
   refine On (want:=false) hb3 ?_
   refine On (want:=false) hb3 ?_
   refine On (want:=false) hb3 ?_
   refine Pt (.b true) hb3 ?_
   refine Om (.b true) ?_
   refine Og ?_
   refine Og ?_
   refine Og ?_
   refine Og ?_
   refine o_pickT (v:=.b true) (e:=true) (by decide) rfl rfl rfl ?_
   refine Om (.b true) ?_
   refine Og ?_
   refine Og ?_
   refine Og ?_
   refine Og ?_
   refine o_pickT (v:=.b true) (e:=true) (by decide) rfl rfl rfl ?_
   refine Oa (.b true) ?_
   refine Ni ?_
   exact w_goto true (.k .nil) ⟨(hS.keep [] rfl).up (by omega),hM⟩
  ·replace hM:=ifF hM hb3
   refine Oy (want:=false) hb3 ?_
   refine Of ((Clause.cells a0)) ty_fo117_1 ?_
   refine Oy (want:=false) hb3 ?_
   refine Olp (.i a0.Cents) ty_agg3 ty_sc3 ?_
   refine Oy (want:=false) hb3 ?_
   obtain ⟨r4,hr4,hM⟩:=bindE hM
   refine o_call (bs:=[.i a0.Cents]) (by decide) rfl rfl ((W_shares_isCents hr4).le (.k .nil)) ?_
   refine Oy (want:=false) hb3 ?_
   refine o_not (e:=r4) (by decide) rfl ?_
   refine Pf (.b (!r4)) hb3 ?_
   refine Om (.b (!r4)) ?_
   rcases bft (!r4) with hb5 | hb5
   ·replace hM:=ifT hM hb5
    refine On (want:=false) hb5 ?_
    refine On (want:=false) hb5 ?_
    refine On (want:=false) hb5 ?_
    refine On (want:=false) hb5 ?_
    refine Pt (.b true) hb5 ?_
    refine Om (.b true) ?_
    refine Og ?_
    refine Og ?_
    refine Og ?_
    refine Og ?_
    refine o_pickT (v:=.b true) (e:=true) (by decide) rfl rfl rfl ?_
    refine Oa (.b true) ?_
    refine Ni ?_
    exact w_goto true (.k .nil) ⟨(hS.keep [] rfl).up (by omega),hM⟩
   ·replace hM:=ifF hM hb5
    refine Oy (want:=false) hb5 ?_
    refine Of ((Clause.cells a0)) ty_fo117_2 ?_
    refine Oy (want:=false) hb5 ?_
    refine Olp (.i a0.Part) ty_agg3 ty_sc3 ?_
    refine Oy (want:=false) hb5 ?_
    obtain ⟨r6,hr6,hM⟩:=bindE hM
    refine o_call (bs:=[.i a0.Part,.i 0,.i 100]) (by decide) rfl rfl ((W_shares_within hr6).le (.k (.k (.k .nil)))) ?_
    refine Oy (want:=false) hb5 ?_
    refine o_not (e:=r6) (by decide) rfl ?_
    refine Pf (.b (!r6)) hb5 ?_
    refine Om (.b (!r6)) ?_
    rcases bft (!r6) with hb7 | hb7
    ·replace hM:=ifT hM hb7
     refine On (want:=false) hb7 ?_
     refine On (want:=false) hb7 ?_
     refine On (want:=false) hb7 ?_
     refine On (want:=false) hb7 ?_
     refine Pt (.b true) hb7 ?_
     refine Oa (.b true) ?_
     refine Ni ?_
     exact w_goto true (.k .nil) ⟨(hS.keep [] rfl).up (by omega),hM⟩
    ·replace hM:=ifF hM hb7
     refine Oy (want:=false) hb7 ?_
     refine Of ((Clause.cells a0)) ty_fo117_3 ?_
     refine Oy (want:=false) hb7 ?_
     refine Olp (.i a0.More) ty_agg3 ty_sc3 ?_
     refine Oy (want:=false) hb7 ?_
     obtain ⟨r8,hr8,hM⟩:=bindE hM
     refine o_call (bs:=[.i a0.More,.i 0,.i 100]) (by decide) rfl rfl ((W_shares_within hr8).le (.k (.k (.k .nil)))) ?_
     refine Oy (want:=false) hb7 ?_
     refine o_not (e:=r8) (by decide) rfl ?_
     refine Pf (.b (!r8)) hb7 ?_
     refine Oa (.b (!r8)) ?_
     refine Ni ?_
     exact w_goto (!r8) (.k .nil) ⟨(hS.keep [] rfl).up (by omega),hM⟩
theorem W_slices_IndexFunc_apiClause {S:Type} {Lo:S→BL} (hk:∀s s',KinL (Lo s) (Lo s')) (hnd:∀s,(ids (Lo s)).Nodup) (hin:∀s,InB In (Lo s)) {aF:Clause→S→Option (Bool×S)} {f0:AV} (hF:∀s H,Has H (Lo s)→In H f0) (h0:cellsOf f0=some [f0]) (hf:∀{x0:Clause} {s:S} {r:Bool×S},aF x0 s=some r→CSat Try.prog f0 [.agg (Clause.cells x0)] (Lo s) (.b r.1) (Lo r.2)) {n:Nat} {a0:List Clause} {st:S} {r:Int×S} (hM:slices_IndexFunc_apiClause n aF a0 st=some r):HSat Try.prog 144 [.sl .no 4 (a0.map Clause.cells),f0] (Lo st) (.i r.1) (Lo r.2):=by
 have hnd0:∀s,(ids (Lo s)).Nodup:=fun s=>hnd s
 refine hsat_of_wp mixed Try.func144 rfl (by decide) Try.ntmps144 (by simp) (hk _ _) (hnd st) ?pure ?cells fun H0 g hf_ hp=>?_
 case pure=>exact fun H _=>(show Go.AM.Pure _ from .v _).inH
 case cells=>exact hin _
 rw [frame0_of]
 change wpA _ _ _ _ (Fr.of [(0,.sl .no 4 (a0.map Clause.cells)),(1,f0)]) H0 g
 have hS:=St.startH (L:=([]++Lo st)) hf_ (hnd st) hp
 replace hS:St (fun i=>i<g∧i∉ids (Lo st)) H0 ([]++Lo st) H0 g:=hS
 refine Sq ?_
 refine Rg 1 ?_
 refine Oa (.i 0) ?_
 refine Ni ?_
 refine Ws ?_
 refine w_join (J:=S) (fun j=>[]) (fun j H' g'=>St (fun i=>i<g∧i∉ids (Lo st)) H0 ([]++Lo j) H' g'∧slices_IndexFunc_apiClause_j1 j=some r) ?_ ?_
 ·rintro v1 H g1 ⟨hS,hM⟩
  change wpA _ _ _ _ (Fr.of []) _ _
  replace hS:St (fun i=>i<g∧i∉ids (Lo st)) H0 ([]++Lo v1) H g1:=hS
  replace hM:slices_IndexFunc_apiClause_j1 v1=some r:=hM
  refine Sq ?_
  refine Rg 1 ?_
  refine Oa (.i (-1)) ?_
  refine Ni ?_
  refine Ws ?_
  refine r_ret ?_
  refine w_endS (x:=.i (-1)) (f:=fun r=>.i r.1) (fd:=fun r=>(Lo r.2)) (.inr rfl) ?_ (.refl _) (Option.some.inj hM) hS 0 rfl
  exact (res_one (res_tmp (x:=.i (-1)) rfl))
 ·refine Sq ?_
  refine Rg 3 ?_
  refine Om (.sl .no 4 (a0.map Clause.cells)) ?_
  refine o_len (n:=a0.length) (by decide) rfl (List.length_map _) ty_isl57 ?_
  refine Om (.i 0) ?_
  refine Ni ?_
  refine Ws ?_
  refine r_block ?_
  refine w_loop (V:=Int×S) (fun v=>[(0,.sl .no 4 (a0.map Clause.cells)),(1,f0),(7,.i (a0.length:Int)),(8,.i v.1)]) (fun v m3 H' g'=>St (fun i=>i<g∧i∉ids (Lo st)) H0 ([]++Lo v.2) H' g'∧slices_IndexFunc_apiClause_l1 a0 aF m3 v.1 v.2=some r) (n:=n) (0,st) (.k (.k (.k (.k .nil)))) ⟨(hS.keep [] rfl).up (by omega),hM⟩ ?_
  rintro ⟨v3,v4⟩ m3 H g3 ⟨hS,hM⟩
  obtain _ | m3:=m3
  ·exact nomatch (show none=some _ from hM)
  change wpA _ _ _ _ (Fr.of [(0,.sl .no 4 (a0.map Clause.cells)),(1,f0),(7,.i (a0.length:Int)),(8,.i v3)]) _ _
  replace hS:St (fun i=>i<g∧i∉ids (Lo st)) H0 ([]++Lo v4) H g3:=hS
  replace hM:slices_IndexFunc_apiClause_l1_b a0 aF (slices_IndexFunc_apiClause_l1 a0 aF m3) v3 v4=some r:=hM
  refine Sq ?_
  refine Rg 1 ?_
  refine Oi (.b (decide (v3<(a0.length:Int)))) ?_
  refine Ni ?_
  refine Ws ?_
  refine Sq ?_
  rcases bft (decide (v3<(a0.length:Int))) with hb5 | hb5
  ·replace hM:=ifT hM hb5
   refine Ct hb5 ?_
   refine r_skip ?_
   refine Ws ?_
   refine Sq ?_
   refine r_block ?_
   refine Sq ?_
   refine Rg 2 ?_
   refine Om (.i v3) ?_
   refine Oa (.i v3) ?_
   refine Ni ?_
   refine Ws ?_
   refine Sq ?_
   refine Rg 6 ?_
   refine Om (f0) ?_
   refine Om (.sl .no 4 (a0.map Clause.cells)) ?_
   refine Om (.i v3) ?_
   obtain ⟨x6,hx6,hM⟩:=bindE hM
   refine o_index (xs:=a0) (f:=Clause.cells) (z:=v3) (u:=x6) (by decide) rfl rfl ty_es57 hx6 ?_
   refine Olg (.agg (Clause.cells x6)) ty_agg117 ?_
   obtain ⟨r7,hr7,hM⟩:=bindE hM
   replace hS:St (fun i=>i<g∧i∉ids (Lo st)) H0 ([]++Lo v4) _ _:=hS
   refine o_state (bs:=[.agg (Clause.cells x6)]) (.inl rfl) hS (by decide) rfl rfl ((hf hr7).le (.k .nil)) (hk _ _).ids (by omega) fun H hS=>?_
   refine Ni ?_
   refine Ws ?_
   rcases bft r7.1 with hb8 | hb8
   ·replace hM:=ifT hM hb8
    refine Ct hb8 ?_
    refine Sq ?_
    refine Rg 2 ?_
    refine Om (.i v3) ?_
    refine Oa (.i v3) ?_
    refine Ni ?_
    refine Ws ?_
    refine r_ret ?_
    refine r_blk_ret ?_
    refine r_then_ret ?_
    refine w_round_ret ?_
    refine r_blk_ret ?_
    refine w_goto_ret ?_
    refine w_endS (x:=.i v3) (f:=fun r=>.i r.1) (fd:=fun r=>(Lo r.2)) (.inr rfl) ?_ (.refl _) (Option.some.inj hM) hS 0 rfl
    exact (res_one (res_tmp (x:=.i v3) rfl))
   ·replace hM:=ifF hM hb8
    refine Cf hb8 ?_
    refine r_skip ?_
    refine r_blk_normal ?_
    refine Ws ?_
    refine Rg 2 ?_
    refine Oi (.i (w64 (v3+1))) ?_
    refine Om (.i (w64 (v3+1))) ?_
    refine Ni ?_
    exact w_round (w64 (v3+1),r7.2) (Nat.lt_succ_self _) (.k (.k (.k (.k .nil)))) ⟨(hS.keep [] rfl).up (by omega),hM⟩
  ·replace hM:=ifF hM hb5
   refine Cf hb5 ?_
   refine r_exit ?_
   refine r_then_exit ?_
   refine w_round_exit ?_
   refine r_blk_exit ?_
   exact w_goto v4 .nil ⟨(hS.keep [] rfl).up (by omega),hM⟩
theorem W_slices_ContainsFunc_apiClause {S:Type} {Lo:S→BL} (hk:∀s s',KinL (Lo s) (Lo s')) (hnd:∀s,(ids (Lo s)).Nodup) (hin:∀s,InB In (Lo s)) {aF:Clause→S→Option (Bool×S)} {f0:AV} (hF:∀s H,Has H (Lo s)→In H f0) (h0:cellsOf f0=some [f0]) (hf:∀{x0:Clause} {s:S} {r:Bool×S},aF x0 s=some r→CSat Try.prog f0 [.agg (Clause.cells x0)] (Lo s) (.b r.1) (Lo r.2)) {n:Nat} {a0:List Clause} {st:S} {r:Bool×S} (hM:slices_ContainsFunc_apiClause n aF a0 st=some r):HSat Try.prog 115 [.sl .no 4 (a0.map Clause.cells),f0] (Lo st) (.b r.1) (Lo r.2):=by
 have hnd0:∀s,(ids (Lo s)).Nodup:=fun s=>hnd s
 refine hsat_of_wp mixed Try.func115 rfl (by decide) Try.ntmps115 (by simp) (hk _ _) (hnd st) ?pure ?cells fun H0 g hf_ hp=>?_
 case pure=>exact fun H _=>(show Go.AM.Pure _ from .v _).inH
 case cells=>exact hin _
 rw [frame0_of]
 change wpA _ _ _ _ (Fr.of [(0,.sl .no 4 (a0.map Clause.cells)),(1,f0)]) H0 g
 have hS:=St.startH (L:=([]++Lo st)) hf_ (hnd st) hp
 replace hS:St (fun i=>i<g∧i∉ids (Lo st)) H0 ([]++Lo st) H0 g:=hS
 refine Sq ?_
 refine Rg 1 ?_
 refine Oa (.b false) ?_
 refine Ni ?_
 refine Ws ?_
 refine Sq ?_
 refine Rg 5 ?_
 refine Om (.sl .no 4 (a0.map Clause.cells)) ?_
 refine Om (f0) ?_
 obtain ⟨r1,hr1,hM⟩:=bindE hM
 replace hS:St (fun i=>i<g∧i∉ids (Lo st)) H0 ([]++Lo st) _ _:=hS
 refine o_stateH (bs:=[.sl .no 4 (a0.map Clause.cells),f0]) (.inl rfl) hS (by decide) rfl rfl ((W_slices_IndexFunc_apiClause (Lo:=Lo)  hk hnd0 hin (aF:=aF) hF h0 hf hr1).le (.k (.k .nil))) (hk _ _).ids (by omega) fun H hS=>?_
 refine Oi (.b (decide (r1.1≥0))) ?_
 refine Oa (.b (decide (r1.1≥0))) ?_
 refine Ni ?_
 refine w_next [(4,.b (decide (r1.1≥0)))] (.k .nil) ?_
 refine r_ret ?_
 refine w_endS (x:=.b (decide (r1.1≥0))) (f:=fun r=>.b r.1) (fd:=fun r=>(Lo r.2)) (.inr rfl) ?_ (.refl _) (Option.some.inj hM) hS 0 rfl
 exact (res_one (res_tmp (x:=.b (decide (r1.1≥0))) rfl))
theorem W_shares_Check {n:Nat} {a0:Share} {r:Int} (hM:shares_Check n a0=some r):PureSat Try.prog 82 [.agg (Share.cells a0)] (.i r):=by
 refine pure_of_wp mixed Try.func82 rfl (by decide) Try.ntmps82 (by simp) ?pure fun H0 g hf=>?_
 case pure=>exact .v _
 rw [frame0_of]
 change wpA _ _ _ _ (Fr.of [(0,.agg (Share.cells a0))]) H0 g
 have hS:=St.start hf
 refine Sq ?_
 refine Rg 2 ?_
 refine o_box (v:=.agg (Share.cells a0)) (cs:=(Share.cells a0)) hS (by decide) rfl rfl (by omega) fun H hS=>?_
 refine Oa (.i 0) ?_
 refine Ni ?_
 refine w_iceE (L':=[]) 0 1 hS rfl rfl rfl fun H hS=>?_
 refine Ws ?_
 refine Sq ?_
 refine Rg 1 ?_
 refine Oa (.fn (.func 112) [] []) ?_
 refine Ni ?_
 refine Ws ?_
 refine Sq ?_
 refine w_join (J:=Bool) (fun j=>[(19,.b j)]) (fun j H' g'=>St (·<g) H0 [] H' g'∧shares_Check_j1 j=some r) ?_ ?_
 ·rintro v1 H g1 ⟨hS,hM⟩
  change wpA _ _ _ _ (Fr.of [(19,.b v1)]) _ _
  replace hS:St (·<g) H0 [] H g1:=hS
  replace hM:shares_Check_j1 v1=some r:=hM
  rcases bft v1 with hb2 | hb2
  ·replace hM:=ifT hM hb2
   refine Ct hb2 ?_
   refine Sq ?_
   refine Rg 1 ?_
   refine Oa (.i 90) ?_
   refine Ni ?_
   refine Ws ?_
   refine r_ret ?_
   refine r_then_ret ?_
   refine w_end (x:=.i 90) (f:=fun r=>.i r) (.inr rfl) ?_ (.refl _) (Option.some.inj hM) hS
   exact (res_one (res_tmp (x:=.i 90) rfl))
  ·replace hM:=ifF hM hb2
   refine Cf hb2 ?_
   refine r_skip ?_
   refine Ws ?_
   refine Sq ?_
   refine Rg 1 ?_
   refine Oa (.i 0) ?_
   refine Ni ?_
   refine Ws ?_
   refine r_ret ?_
   refine w_end (x:=.i 0) (f:=fun r=>.i r) (.inr rfl) ?_ (.refl _) (Option.some.inj hM) hS
   exact (res_one (res_tmp (x:=.i 0) rfl))
 ·refine Rg 16 ?_
  refine Of ((Share.cells a0)) ty_fo59_0 ?_
  refine Olp (.sl .no 4 (a0.Clauses.map Clause.cells)) ty_agg57 ty_sc57 ?_
  refine o_len (n:=a0.Clauses.length) (by decide) rfl (List.length_map _) ty_isl57 ?_
  refine Oi (.b (decide ((a0.Clauses.length:Int)>5))) ?_
  refine Om (.b (decide ((a0.Clauses.length:Int)>5))) ?_
  rcases bft (decide ((a0.Clauses.length:Int)>5)) with hb3 | hb3
  ·replace hM:=ifT hM hb3
   refine On (want:=false) hb3 ?_
   refine On (want:=false) hb3 ?_
   refine On (want:=false) hb3 ?_
   refine On (want:=false) hb3 ?_
   refine Pt (.b true) hb3 ?_
   refine Om (.b true) ?_
   refine Og ?_
   refine Og ?_
   refine Og ?_
   refine Og ?_
   refine o_pickT (v:=.b true) (e:=true) (by decide) rfl rfl rfl ?_
   refine Ni ?_
   exact w_goto true (.k .nil) ⟨(hS.keep [] rfl).up (by omega),hM⟩
  ·replace hM:=ifF hM hb3
   refine Oy (want:=false) hb3 ?_
   refine Of ((Share.cells a0)) ty_fo59_0 ?_
   refine Oy (want:=false) hb3 ?_
   refine Olp (.sl .no 4 (a0.Clauses.map Clause.cells)) ty_agg57 ty_sc57 ?_
   refine Oy (want:=false) hb3 ?_
   refine Om (.fn (.func 112) [] []) ?_
   refine Oy (want:=false) hb3 ?_
   obtain ⟨r4,hr4,hM⟩:=bindE hM
   refine o_call (bs:=[.sl .no 4 (a0.Clauses.map Clause.cells),.fn (.func 112) [] []]) (by decide) rfl rfl (pure_of_hsat ((W_slices_ContainsFunc_apiClause (Lo:=(fun (_:Unit)=>[]))  (fun _ _=>kl_nil) (fun _=>List.nodup_nil) (fun _=>inb_nil) (aF:=(fun (x0:Clause) (_:Unit)=>(shares_Check_c1 x0).map fun y=>(y,()))) (fun _ H hH=>(.fn _ _ _ ai_nil ai_nil)) rfl (fun h=>csat_val (W_shares_Check_c1 (pure_some h))) hr4).le (.k (.k .nil)))) ?_
   refine Pf (.b r4.1) hb3 ?_
   refine Om (.b r4.1) ?_
   rcases bft r4.1 with hb5 | hb5
   ·replace hM:=ifT hM hb5
    refine On (want:=false) hb5 ?_
    refine On (want:=false) hb5 ?_
    refine On (want:=false) hb5 ?_
    refine On (want:=false) hb5 ?_
    refine Pt (.b true) hb5 ?_
    refine Ni ?_
    exact w_goto true (.k .nil) ⟨(hS.keep [] rfl).up (by omega),hM⟩
   ·replace hM:=ifF hM hb5
    refine Oy (want:=false) hb5 ?_
    refine Of ((Share.cells a0)) ty_fo59_1 ?_
    refine Oy (want:=false) hb5 ?_
    refine Olp (.i a0.Loan) ty_agg3 ty_sc3 ?_
    refine Oy (want:=false) hb5 ?_
    obtain ⟨r6,hr6,hM⟩:=bindE hM
    refine o_call (bs:=[.i a0.Loan]) (by decide) rfl rfl ((W_shares_isCents hr6).le (.k .nil)) ?_
    refine Oy (want:=false) hb5 ?_
    refine o_not (e:=r6) (by decide) rfl ?_
    refine Pf (.b (!r6)) hb5 ?_
    refine Ni ?_
    exact w_goto (!r6) (.k .nil) ⟨(hS.keep [] rfl).up (by omega),hM⟩
theorem W_shares_ask {n:Nat} {a0:Share} {a1:Bool} {r:Int} (hM:shares_ask n a0 a1=some r):PureSat Try.prog 119 [.agg (Share.cells a0),.b a1] (.i r):=by
 refine pure_of_wp mixed Try.func119 rfl (by decide) Try.ntmps119 (by simp) ?pure fun H0 g hf=>?_
 case pure=>exact .v _
 rw [frame0_of]
 change wpA _ _ _ _ (Fr.of [(0,.agg (Share.cells a0)),(1,.b a1)]) H0 g
 have hS:=St.start hf
 refine Sq ?_
 refine Rg 2 ?_
 refine o_box (v:=.agg (Share.cells a0)) (cs:=(Share.cells a0)) hS (by decide) rfl rfl (by omega) fun H hS=>?_
 refine Oa (.i 0) ?_
 refine Ni ?_
 refine w_iceE (L':=[]) 0 2 hS rfl rfl rfl fun H hS=>?_
 refine Ws ?_
 refine Sq ?_
 refine Sq ?_
 refine Rg 3 ?_
 refine Olg (.agg (Share.cells a0)) ty_agg59 ?_
 obtain ⟨r1,hr1,hM⟩:=bindE hM
 refine o_call (bs:=[.agg (Share.cells a0)]) (by decide) rfl rfl ((W_shares_Check hr1).le (.k .nil)) ?_
 refine Oa (.i r1) ?_
 refine Ni ?_
 refine Ws ?_
 refine Sq ?_
 refine Rg 2 ?_
 refine Om (.i r1) ?_
 refine Oi (.b (r1 != 0)) ?_
 refine Ni ?_
 refine Ws ?_
 rcases bft (r1 != 0) with hb2 | hb2
 ·replace hM:=ifT hM hb2
  refine Ct hb2 ?_
  refine Sq ?_
  refine Rg 2 ?_
  refine Om (.i r1) ?_
  refine Oa (.i r1) ?_
  refine Ni ?_
  refine Ws ?_
  refine r_ret ?_
  refine r_then_ret ?_
  refine w_end (x:=.i r1) (f:=fun r=>.i r) (.inr rfl) ?_ (.refl _) (Option.some.inj hM) hS
  exact (res_one (res_tmp (x:=.i r1) rfl))
 ·replace hM:=ifF hM hb2
  refine Cf hb2 ?_
  refine r_skip ?_
  refine Ws ?_
  refine Sq ?_
  refine Sq ?_
  refine Rg 2 ?_
  refine Om (.b a1) ?_
  refine o_not (e:=a1) (by decide) rfl ?_
  refine Ni ?_
  refine Ws ?_
  rcases bft (!a1) with hb3 | hb3
  ·replace hM:=ifT hM hb3
   refine Ct hb3 ?_
   refine Sq ?_
   refine Rg 1 ?_
   refine Oa (.i 1) ?_
   refine Ni ?_
   refine Ws ?_
   refine r_ret ?_
   refine r_then_ret ?_
   refine w_end (x:=.i 1) (f:=fun r=>.i r) (.inr rfl) ?_ (.refl _) (Option.some.inj hM) hS
   exact (res_one (res_tmp (x:=.i 1) rfl))
  ·replace hM:=ifF hM hb3
   refine Cf hb3 ?_
   refine r_skip ?_
   refine Ws ?_
   refine Sq ?_
   refine Rg 1 ?_
   refine Oa (.i 0) ?_
   refine Ni ?_
   refine w_next [(4,.i 0)] (.k .nil) ?_
   refine r_ret ?_
   refine w_end (x:=.i 0) (f:=fun r=>.i r) (.inr rfl) ?_ (.refl _) (Option.some.inj hM) hS
   exact (res_one (res_tmp (x:=.i 0) rfl))
theorem W_shares_Gift {n:Nat} {a0:Share} {a1:Int} {a2:Int} {r:Split×Int} (hM:shares_Gift n a0 a1 a2=some r):PureSat Try.prog 85 [.agg (Share.cells a0),.i a1,.i a2] (.tup [.agg [.i r.1.Operator,.i r.1.Owner,.i r.1.Repaid],.i r.2]):=by
 refine pure_of_wp mixed Try.func85 rfl (by decide) Try.ntmps85 (by simp) ?pure fun H0 g hf=>?_
 case pure=>exact .tup _ (pl_cons (.agg _ (pl_cons (.v _) (pl_cons (.v _) (pl_cons (.v _) pl_nil)))) (pl_cons (.v _) pl_nil))
 rw [frame0_of]
 change wpA _ _ _ _ (Fr.of [(0,.agg (Share.cells a0)),(1,.i a1),(2,.i a2)]) H0 g
 have hS:=St.start hf
 refine Sq ?_
 refine Rg 3 ?_
 refine o_box (v:=.agg (Share.cells a0)) (cs:=(Share.cells a0)) hS (by decide) rfl rfl (by omega) fun H hS=>?_
 refine o_alloc hS (by decide) ty_zero62 (by omega) fun H hS=>?_
 refine Oa (.i 0) ?_
 refine Ni ?_
 refine w_iceE (L':=[(g+1,.cells [.i 0,.i 0,.i 0])]) 1 3 hS rfl rfl rfl fun H hS=>?_
 refine Ws ?_
 refine Sq ?_
 refine w_join (J:=Int) (fun j=>[(1,.i a1),(2,.i a2),(3,.ep (Share.cells a0)),(6,.ptr (g+1) 0),(8,.i j)]) (fun j H' g'=>St (·<g) H0 [(g+1,.cells [.i 0,.i 0,.i 0])] H' g'∧shares_Gift_j1 n a0 a1 a2 j=some r) ?_ ?_
 ·rintro v1 H g1 ⟨hS,hM⟩
  change wpA _ _ _ _ (Fr.of [(1,.i a1),(2,.i a2),(3,.ep (Share.cells a0)),(6,.ptr (g+1) 0),(8,.i v1)]) _ _
  replace hS:St (·<g) H0 [(g+1,.cells [.i 0,.i 0,.i 0])] H g1:=hS
  replace hM:shares_Gift_j1 n a0 a1 a2 v1=some r:=hM
  refine Sq ?_
  refine Rg 2 ?_
  refine Om (.i v1) ?_
  refine Oi (.b (v1 != 0)) ?_
  refine Ni ?_
  refine Ws ?_
  rcases bft (v1 != 0) with hb2 | hb2
  ·replace hM:=ifT hM hb2
   refine Ct hb2 ?_
   refine Sq ?_
   refine Rg 4 ?_
   refine o_build (cs:=[.i 0,.i 0,.i 0]) (by decide) ty_zero62 ty_pl62 rfl ?_
   refine Om (.i v1) ?_
   refine o_store (v:=.agg [.i 0,.i 0,.i 0]) (ns:=[.i 0,.i 0,.i 0]) (L':=[(g+1,.cells [.i 0,.i 0,.i 0])]) 0 hS rfl rfl .no rfl rfl ty_var62 nlb rfl fun H hS=>?_
   refine Oa (.i v1) ?_
   refine Ni ?_
   refine Ws ?_
   refine r_ret ?_
   refine r_then_ret ?_
   refine w_end (x:=.tup [.agg [.i 0,.i 0,.i 0],.i v1]) (f:=fun r=>.tup [.agg [.i r.1.Operator,.i r.1.Owner,.i r.1.Repaid],.i r.2]) (.inr rfl) ?_ (.refl _) (Option.some.inj hM) hS
   exact (res_two (res_cell (x:=.agg [.i 0,.i 0,.i 0]) 0 hS rfl rfl (pg ty_agg62)) (res_tmp (x:=.i v1) rfl))
  ·replace hM:=ifF hM hb2
   refine Cf hb2 ?_
   refine r_skip ?_
   refine Ws ?_
   refine Sq ?_
   refine Rg 13 ?_
   refine Of ((Share.cells a0)) ty_fo59_0 ?_
   refine Olp (.sl .no 4 (a0.Clauses.map Clause.cells)) ty_agg57 ty_sc57 ?_
   refine Of ((Share.cells a0)) ty_fo59_1 ?_
   refine Olp (.i a0.Loan) ty_agg3 ty_sc3 ?_
   refine Om (.i a1) ?_
   refine Om (.i a2) ?_
   obtain ⟨r3,hr3,hM⟩:=bindE hM
   refine o_call (bs:=[.sl .no 4 (a0.Clauses.map Clause.cells),.i a0.Loan,.i a1,.i a2]) (by decide) rfl rfl ((W_shares_settle hr3).le (.k (.k (.k (.k .nil))))) ?_
   refine Om (.tup [.agg (Week_.cells r3.1),.sl .no 1 (r3.2.map cI)]) ?_
   refine Ox (.agg (Week_.cells r3.1)) ?_
   refine Ox (.sl .no 1 (r3.2.map cI)) ?_
   refine o_alloc hS (by decide) ty_zero119 (by omega) fun H hS=>?_
   refine o_store (v:=.agg (Week_.cells r3.1)) (ns:=(Week_.cells r3.1)) (L':=[(g1+2+10,.cells (Week_.cells r3.1)),(g+1,.cells [.i 0,.i 0,.i 0])]) 0 hS rfl rfl .no rfl rfl ty_var119 nlb rfl fun H hS=>?_
   refine Oa (.sl .no 1 (r3.2.map cI)) ?_
   refine Ni ?_
   refine w_iceE (L':=[(g+1,.cells [.i 0,.i 0,.i 0])]) 0 9 hS rfl rfl rfl fun H hS=>?_
   refine Ws ?_
   refine Sq ?_
   refine Rg 4 ?_
   refine Of ((Week_.cells r3.1)) ty_fo119_0 ?_
   refine Olg (.agg (Split.cells r3.1.Split)) ty_agg62 ?_
   refine o_store (v:=.agg (Split.cells r3.1.Split)) (ns:=(Split.cells r3.1.Split)) (L':=[(g+1,.cells (Split.cells r3.1.Split))]) 0 hS rfl rfl .no rfl rfl ty_var62 nlb rfl fun H hS=>?_
   refine Oa (.i 0) ?_
   refine Ni ?_
   refine Ws ?_
   refine r_ret ?_
   refine w_end (x:=.tup [.agg (Split.cells r3.1.Split),.i 0]) (f:=fun r=>.tup [.agg [.i r.1.Operator,.i r.1.Owner,.i r.1.Repaid],.i r.2]) (.inr rfl) ?_ (.refl _) (Option.some.inj hM) hS
   exact (res_two (res_cell (x:=.agg (Split.cells r3.1.Split)) 0 hS rfl rfl (pg ty_agg62)) (res_tmp (x:=.i 0) rfl))
 ·have hS0:=hS
  refine r_draw (n:=9) rfl (by kernel_rfl) ?_
  refine Olg (.agg (Share.cells a0)) ty_agg59 ?_
  refine Om (.i a1) ?_
  obtain ⟨r4,hr4,hM⟩:=bindE hM
  refine o_call (bs:=[.i a1]) (by decide) rfl rfl ((W_shares_isCents hr4).le (.k .nil)) ?_
  refine Om (.b r4) ?_
  rcases bft r4 with hb5 | hb5
  ·replace hM:=ifT hM hb5
   refine Oy (want:=true) hb5 ?_
   refine Om (.i a2) ?_
   refine Oy (want:=true) hb5 ?_
   obtain ⟨r6,hr6,hM⟩:=bindE hM
   refine o_call (bs:=[.i a2]) (by decide) rfl rfl ((W_shares_isCents hr6).le (.k .nil)) ?_
   refine Pt (.b r6) hb5 ?_
   obtain ⟨r7,hr7,hM⟩:=bindE hM
   refine o_call (bs:=[.agg (Share.cells a0),.b r6]) (by decide) rfl rfl ((W_shares_ask hr7).le (.k (.k .nil))) ?_
   refine Oa (.i r7) ?_
   refine Ni ?_
   exact w_goto r7 (.k (.k (.k (.k (.k .nil))))) ⟨(hS.keep [true] rfl).up (by omega),hM⟩
  ·replace hM:=ifF hM hb5
   refine On (want:=true) hb5 ?_
   refine On (want:=true) hb5 ?_
   refine Pf (.b false) hb5 ?_
   obtain ⟨r8,hr8,hM⟩:=bindE hM
   refine o_call (bs:=[.agg (Share.cells a0),.b false]) (by decide) rfl rfl ((W_shares_ask hr8).le (.k (.k .nil))) ?_
   refine Oa (.i r8) ?_
   refine Ni ?_
   exact w_goto r8 (.k (.k (.k (.k (.k .nil))))) ⟨(hS.keep [true] rfl).up (by omega),hM⟩
theorem W_shares_Week {n:Nat} {a0:Share} {a1:Int} {r:Split×Int} (hM:shares_Week n a0 a1=some r):PureSat Try.prog 51 [.agg (Share.cells a0),.i a1] (.tup [.agg [.i r.1.Operator,.i r.1.Owner,.i r.1.Repaid],.i r.2]):=by
 refine pure_of_wp mixed Try.func51 rfl (by decide) Try.ntmps51 (by simp) ?pure fun H0 g hf=>?_
 case pure=>exact .tup _ (pl_cons (.agg _ (pl_cons (.v _) (pl_cons (.v _) (pl_cons (.v _) pl_nil)))) (pl_cons (.v _) pl_nil))
 rw [frame0_of]
 change wpA _ _ _ _ (Fr.of [(0,.agg (Share.cells a0)),(1,.i a1)]) H0 g
 have hS:=St.start hf
 refine Sq ?_
 refine Rg 3 ?_
 refine o_box (v:=.agg (Share.cells a0)) (cs:=(Share.cells a0)) hS (by decide) rfl rfl (by omega) fun H hS=>?_
 refine o_alloc hS (by decide) ty_zero62 (by omega) fun H hS=>?_
 refine Oa (.i 0) ?_
 refine Ni ?_
 refine w_iceE (L':=[(g+1,.cells [.i 0,.i 0,.i 0])]) 1 2 hS rfl rfl rfl fun H hS=>?_
 refine Ws ?_
 refine Sq ?_
 refine Rg 7 ?_
 refine Olg (.agg (Share.cells a0)) ty_agg59 ?_
 refine Om (.i a1) ?_
 obtain ⟨r1,hr1,hM⟩:=bindE hM
 refine o_call (bs:=[.agg (Share.cells a0),.i a1,.i 0]) (by decide) rfl rfl ((W_shares_Gift hr1).le (.k (.k (.k .nil)))) ?_
 refine Ox (.agg (Split.cells r1.1)) ?_
 refine Ox (.i r1.2) ?_
 refine o_store (v:=.agg (Split.cells r1.1)) (ns:=(Split.cells r1.1)) (L':=[(g+1,.cells (Split.cells r1.1))]) 0 hS rfl rfl .no rfl rfl ty_var62 nlb rfl fun H hS=>?_
 refine Oa (.i r1.2) ?_
 refine Ni ?_
 refine w_next [(4,.ptr (g+1) 0),(5,.i r1.2)] (.k (.k .nil)) ?_
 refine r_ret ?_
 refine w_end (x:=.tup [.agg (Split.cells r1.1),.i r1.2]) (f:=fun r=>.tup [.agg [.i r.1.Operator,.i r.1.Owner,.i r.1.Repaid],.i r.2]) (.inr rfl) ?_ (.refl _) (Option.some.inj hM) hS
 exact (res_two (res_cell (x:=.agg (Split.cells r1.1)) 0 hS rfl rfl (pg ty_agg62)) (res_tmp (x:=.i r1.2) rfl))
theorem W_top_halved {n:Nat} {r:Bool} (hM:top_halved n=some r):PureSat Try.prog 49 [] (.b r):=by
 refine pure_of_wp mixed Try.func49 rfl (by decide) Try.ntmps49 (by simp) ?pure fun H0 g hf=>?_
 case pure=>exact .v _
 rw [frame0_of]
 change wpA _ _ _ _ (Fr.of []) H0 g
 have hS:=St.start hf
 refine Sq ?_
 refine Rg 1 ?_
 refine Oa (.b false) ?_
 refine Ni ?_
 refine Ws ?_
 refine Sq ?_
 refine Rg 10 ?_
 refine o_build (cs:=[.i 3,.i 0,.i 50,.i 0]) (by decide) ty_zero117 ty_pl117 rfl ?_
 refine o_buildSlice (es:=[[.i 3,.i 0,.i 50,.i 0]]) hS (by decide) ty_es57 ty_el57 rfl ty_ef57 rfl (by decide) (by omega) fun H hS=>?_
 refine o_build (cs:=[.sl (.id (g+1+1)) 4 (([(⟨3,0,50,0⟩:Clause)]:List Clause).map Clause.cells),.i 0]) (by decide) ty_zero59 ty_pl59 rfl ?_
 obtain ⟨r1,hr1,hM⟩:=bindE hM
 refine o_call (bs:=[.agg [.sl (.id (g+1+1)) 4 (([(⟨3,0,50,0⟩:Clause)]:List Clause).map Clause.cells),.i 0],.i 110]) (by decide) rfl rfl ((W_shares_Week hr1).le (.cons (.aggL (.cons (.sl _ _ _) (.k .nil))) (.k .nil))) ?_
 refine Om (.tup [.agg (Split.cells r1.1),.i r1.2]) ?_
 refine Ox (.agg (Split.cells r1.1)) ?_
 refine Ox (.i r1.2) ?_
 refine o_alloc hS (by decide) ty_zero62 (by omega) fun H hS=>?_
 refine o_store (v:=.agg (Split.cells r1.1)) (ns:=(Split.cells r1.1)) (L':=[(g+1+7,.cells (Split.cells r1.1)),(g+1+1,.row 117 1)]) 0 hS rfl rfl .no rfl rfl ty_var62 nlb rfl fun H hS=>?_
 refine Oa (.i r1.2) ?_
 refine Ni ?_
 refine w_iceE (L':=[(g+1+1,.row 117 1)]) 0 1 hS rfl rfl rfl fun H hS=>?_
 replace hS:=hS.keep (L':=[]) [false] rfl
 refine Ws ?_
 refine w_join (J:=Bool) (fun j=>[(0,.b j)]) (fun j H' g'=>St (·<g) H0 [] H' g'∧top_halved_j1 j=some r) ?_ ?_
 ·rintro v2 H g1 ⟨hS,hM⟩
  change wpA _ _ _ _ (Fr.of [(0,.b v2)]) _ _
  replace hS:St (·<g) H0 [] H g1:=hS
  replace hM:top_halved_j1 v2=some r:=hM
  refine r_ret ?_
  refine w_end (x:=.b v2) (f:=fun r=>.b r) (.inr rfl) ?_ (.refl _) (Option.some.inj hM) hS
  exact (res_one (res_tmp (x:=.b v2) rfl))
 ·refine Rg 8 ?_
  refine Om (.i r1.2) ?_
  refine Oi (.b (r1.2==0)) ?_
  refine Om (.b (r1.2==0)) ?_
  rcases bft (r1.2==0) with hb3 | hb3
  ·replace hM:=ifT hM hb3
   refine Oy (want:=true) hb3 ?_
   refine Olg (.agg (Split.cells r1.1)) ty_agg62 ?_
   refine Oy (want:=true) hb3 ?_
   refine o_build (cs:=[.i 55,.i 55,.i 0]) (by decide) ty_zero62 ty_pl62 rfl ?_
   refine Oy (want:=true) hb3 ?_
   refine o_eqS (cs:=(Split.cells r1.1)) (ds:=[.i 55,.i 55,.i 0]) (e:=((r1.1.Operator==55)&&((r1.1.Owner==55)&&((r1.1.Repaid==0)&&true)))) (by decide) rfl rfl ty_flat62 rfl ?_
   refine Pt (.b ((r1.1.Operator==55)&&((r1.1.Owner==55)&&((r1.1.Repaid==0)&&true)))) hb3 ?_
   refine Oa (.b ((r1.1.Operator==55)&&((r1.1.Owner==55)&&((r1.1.Repaid==0)&&true)))) ?_
   refine Ni ?_
   exact w_goto ((r1.1.Operator==55)&&((r1.1.Owner==55)&&((r1.1.Repaid==0)&&true))) (.k .nil) ⟨(hS.keep [] rfl).up (by omega),hM⟩
  ·replace hM:=ifF hM hb3
   refine On (want:=true) hb3 ?_
   refine On (want:=true) hb3 ?_
   refine On (want:=true) hb3 ?_
   refine Pf (.b false) hb3 ?_
   refine Oa (.b false) ?_
   refine Ni ?_
   exact w_goto false (.k .nil) ⟨(hS.keep [] rfl).up (by omega),hM⟩
theorem W_shares_owners {n:Nat} {a0:List Clause} {a1:Int} {a2:Int} {r:Int} (hM:shares_owners n a0 a1 a2=some r):PureSat Try.prog 84 [.sl .no 4 (a0.map Clause.cells),.i a1,.i a2] (.i r):=by
 refine pure_of_wp mixed Try.func84 rfl (by decide) Try.ntmps84 (by simp) ?pure fun H0 g hf=>?_
 case pure=>exact .v _
 rw [frame0_of]
 change wpA _ _ _ _ (Fr.of [(0,.sl .no 4 (a0.map Clause.cells)),(1,.i a1),(2,.i a2)]) H0 g
 have hS:=St.start hf
 refine Sq ?_
 refine Rg 1 ?_
 refine Oa (.i 0) ?_
 refine Ni ?_
 refine Ws ?_
 refine Sq ?_
 refine Rg 10 ?_
 refine Om (.sl .no 4 (a0.map Clause.cells)) ?_
 refine Om (.i a1) ?_
 refine Om (.i a2) ?_
 obtain ⟨r1,hr1,hM⟩:=bindE hM
 refine o_call (bs:=[.sl .no 4 (a0.map Clause.cells),.i a1,.i a2,.i 0]) (by decide) rfl rfl ((W_shares_settle hr1).le (.k (.k (.k (.k .nil))))) ?_
 refine Om (.tup [.agg (Week_.cells r1.1),.sl .no 1 (r1.2.map cI)]) ?_
 refine Ox (.agg (Week_.cells r1.1)) ?_
 refine Ox (.sl .no 1 (r1.2.map cI)) ?_
 refine o_alloc hS (by decide) ty_zero119 (by omega) fun H hS=>?_
 refine o_store (v:=.agg (Week_.cells r1.1)) (ns:=(Week_.cells r1.1)) (L':=[(g+1+7,.cells (Week_.cells r1.1))]) 0 hS rfl rfl .no rfl rfl ty_var119 nlb rfl fun H hS=>?_
 refine Oa (.sl .no 1 (r1.2.map cI)) ?_
 refine Ni ?_
 refine w_iceE (L':=[]) 0 7 hS rfl rfl rfl fun H hS=>?_
 refine Ws ?_
 refine Sq ?_
 refine Rg 4 ?_
 refine Of ((Week_.cells r1.1)) ty_fo119_0 ?_
 refine Of ((Week_.cells r1.1)) ty_fo62_1 ?_
 refine Olp (.i r1.1.Split.Owner) ty_agg3 ty_sc3 ?_
 refine Oa (.i r1.1.Split.Owner) ?_
 refine Ni ?_
 refine w_next [(6,.i r1.1.Split.Owner)] (.k .nil) ?_
 refine r_ret ?_
 refine w_end (x:=.i r1.1.Split.Owner) (f:=fun r=>.i r) (.inr rfl) ?_ (.refl _) (Option.some.inj hM) hS
 exact (res_one (res_tmp (x:=.i r1.1.Split.Owner) rfl))
theorem W_shares_Box {n:Nat} {a0:Share} {a1:Box} {r:Split×Int×Int} (hM:shares_Box n a0 a1=some r):PureSat Try.prog 50 [.agg (Share.cells a0),.agg (Box.cells a1)] (.tup [.agg [.i r.1.Operator,.i r.1.Owner,.i r.1.Repaid],.i r.2.1,.i r.2.2]):=by
 refine pure_of_wp mixed Try.func50 rfl (by decide) Try.ntmps50 (by simp) ?pure fun H0 g hf=>?_
 case pure=>exact .tup _ (pl_cons (.agg _ (pl_cons (.v _) (pl_cons (.v _) (pl_cons (.v _) pl_nil)))) (pl_cons (.v _) (pl_cons (.v _) pl_nil)))
 rw [frame0_of]
 change wpA _ _ _ _ (Fr.of [(0,.agg (Share.cells a0)),(1,.agg (Box.cells a1))]) H0 g
 have hS:=St.start hf
 refine Sq ?_
 refine Rg 5 ?_
 refine o_box (v:=.agg (Share.cells a0)) (cs:=(Share.cells a0)) hS (by decide) rfl rfl (by omega) fun H hS=>?_
 refine o_box (v:=.agg (Box.cells a1)) (cs:=(Box.cells a1)) hS (by decide) rfl rfl (by omega) fun H hS=>?_
 refine o_alloc hS (by decide) ty_zero62 (by omega) fun H hS=>?_
 refine Oa (.i 0) ?_
 refine Oa (.i 0) ?_
 refine Ni ?_
 refine w_iceE (L':=[(g+2,.cells [.i 0,.i 0,.i 0]),(g+1,.cells (Box.cells a1))]) 2 2 hS rfl rfl rfl fun H hS=>?_
 refine w_iceE (L':=[(g+2,.cells [.i 0,.i 0,.i 0])]) 1 3 hS rfl rfl rfl fun H hS=>?_
 refine Ws ?_
 refine Sq ?_
 refine Sq ?_
 refine Rg 3 ?_
 refine Olg (.agg (Share.cells a0)) ty_agg59 ?_
 obtain ⟨r1,hr1,hM⟩:=bindE hM
 refine o_call (bs:=[.agg (Share.cells a0)]) (by decide) rfl rfl ((W_shares_Check hr1).le (.k .nil)) ?_
 refine Oa (.i r1) ?_
 refine Ni ?_
 refine Ws ?_
 refine Sq ?_
 refine Rg 2 ?_
 refine Om (.i r1) ?_
 refine Oi (.b (r1 != 0)) ?_
 refine Ni ?_
 refine Ws ?_
 rcases bft (r1 != 0) with hb2 | hb2
 ·replace hM:=ifT hM hb2
  refine Ct hb2 ?_
  refine Sq ?_
  refine Rg 5 ?_
  refine o_build (cs:=[.i 0,.i 0,.i 0]) (by decide) ty_zero62 ty_pl62 rfl ?_
  refine Om (.i r1) ?_
  refine o_store (v:=.agg [.i 0,.i 0,.i 0]) (ns:=[.i 0,.i 0,.i 0]) (L':=[(g+2,.cells [.i 0,.i 0,.i 0])]) 0 hS rfl rfl .no rfl rfl ty_var62 nlb rfl fun H hS=>?_
  refine Oa (.i 0) ?_
  refine Oa (.i r1) ?_
  refine Ni ?_
  refine Ws ?_
  refine r_ret ?_
  refine r_then_ret ?_
  refine w_end (x:=.tup [.agg [.i 0,.i 0,.i 0],.i 0,.i r1]) (f:=fun r=>.tup [.agg [.i r.1.Operator,.i r.1.Owner,.i r.1.Repaid],.i r.2.1,.i r.2.2]) (.inr rfl) ?_ (.refl _) (Option.some.inj hM) hS
  exact (res_three (res_cell (x:=.agg [.i 0,.i 0,.i 0]) 0 hS rfl rfl (pg ty_agg62)) (res_tmp (x:=.i 0) rfl) (res_tmp (x:=.i r1) rfl))
 ·replace hM:=ifF hM hb2
  refine Cf hb2 ?_
  refine r_skip ?_
  refine Ws ?_
  refine Sq ?_
  refine Rg 11 ?_
  refine Olg (.agg (Box.cells a1)) ty_agg26 ?_
  obtain ⟨r3,hr3,hM⟩:=bindE hM
  refine o_call (bs:=[.agg (Box.cells a1)]) (by decide) rfl rfl ((W_takings_Cash hr3).le (.k .nil)) ?_
  refine Om (.tup [.i r3.1,.i r3.2.1,.i r3.2.2.1,.i r3.2.2.2]) ?_
  refine Ox (.i r3.1) ?_
  refine Ox (.i r3.2.1) ?_
  refine Ox (.i r3.2.2.1) ?_
  refine Ox (.i r3.2.2.2) ?_
  refine Oa (.i r3.1) ?_
  refine Oa (.i r3.2.1) ?_
  refine Oa (.i r3.2.2.1) ?_
  refine Oa (.i r3.2.2.2) ?_
  refine Ni ?_
  refine Ws ?_
  refine Sq ?_
  refine Sq ?_
  refine Rg 2 ?_
  refine Om (.i r3.2.2.2) ?_
  refine Oi (.b (r3.2.2.2 != 0)) ?_
  refine Ni ?_
  refine Ws ?_
  rcases bft (r3.2.2.2 != 0) with hb4 | hb4
  ·replace hM:=ifT hM hb4
   refine Ct hb4 ?_
   refine Sq ?_
   refine Rg 5 ?_
   refine o_build (cs:=[.i 0,.i 0,.i 0]) (by decide) ty_zero62 ty_pl62 rfl ?_
   refine Om (.i r3.2.2.2) ?_
   refine o_store (v:=.agg [.i 0,.i 0,.i 0]) (ns:=[.i 0,.i 0,.i 0]) (L':=[(g+2,.cells [.i 0,.i 0,.i 0])]) 0 hS rfl rfl .no rfl rfl ty_var62 nlb rfl fun H hS=>?_
   refine Oa (.i 0) ?_
   refine Oa (.i r3.2.2.2) ?_
   refine Ni ?_
   refine Ws ?_
   refine r_ret ?_
   refine r_then_ret ?_
   refine w_end (x:=.tup [.agg [.i 0,.i 0,.i 0],.i 0,.i r3.2.2.2]) (f:=fun r=>.tup [.agg [.i r.1.Operator,.i r.1.Owner,.i r.1.Repaid],.i r.2.1,.i r.2.2]) (.inr rfl) ?_ (.refl _) (Option.some.inj hM) hS
   exact (res_three (res_cell (x:=.agg [.i 0,.i 0,.i 0]) 0 hS rfl rfl (pg ty_agg62)) (res_tmp (x:=.i 0) rfl) (res_tmp (x:=.i r3.2.2.2) rfl))
  ·replace hM:=ifF hM hb4
   refine Cf hb4 ?_
   refine r_skip ?_
   refine Ws ?_
   refine Sq ?_
   refine Rg 12 ?_
   refine Of ((Share.cells a0)) ty_fo59_0 ?_
   refine Olp (.sl .no 4 (a0.Clauses.map Clause.cells)) ty_agg57 ty_sc57 ?_
   refine Of ((Share.cells a0)) ty_fo59_1 ?_
   refine Olp (.i a0.Loan) ty_agg3 ty_sc3 ?_
   refine Om (.i r3.1) ?_
   obtain ⟨r5,hr5,hM⟩:=bindE hM
   refine o_call (bs:=[.sl .no 4 (a0.Clauses.map Clause.cells),.i a0.Loan,.i r3.1,.i 0]) (by decide) rfl rfl ((W_shares_settle hr5).le (.k (.k (.k (.k .nil))))) ?_
   refine Om (.tup [.agg (Week_.cells r5.1),.sl .no 1 (r5.2.map cI)]) ?_
   refine Ox (.agg (Week_.cells r5.1)) ?_
   refine Ox (.sl .no 1 (r5.2.map cI)) ?_
   refine o_alloc hS (by decide) ty_zero119 (by omega) fun H hS=>?_
   refine o_store (v:=.agg (Week_.cells r5.1)) (ns:=(Week_.cells r5.1)) (L':=[(g+5+3+2+11+2+9,.cells (Week_.cells r5.1)),(g+2,.cells [.i 0,.i 0,.i 0])]) 0 hS rfl rfl .no rfl rfl ty_var119 nlb rfl fun H hS=>?_
   refine Oa (.sl .no 1 (r5.2.map cI)) ?_
   refine Ni ?_
   refine w_iceE (L':=[(g+2,.cells [.i 0,.i 0,.i 0])]) 0 11 hS rfl rfl rfl fun H hS=>?_
   refine Ws ?_
   refine w_join (J:=Int) (fun j=>[(4,.ptr (g+2) 0),(5,.i j),(11,.ep (Week_.cells r5.1))]) (fun j H' g'=>St (·<g) H0 [(g+2,.cells [.i 0,.i 0,.i 0])] H' g'∧shares_Box_j1 r5 j=some r) ?_ ?_
   ·rintro v6 H g1 ⟨hS,hM⟩
    change wpA _ _ _ _ (Fr.of [(4,.ptr (g+2) 0),(5,.i v6),(11,.ep (Week_.cells r5.1))]) _ _
    replace hS:St (·<g) H0 [(g+2,.cells [.i 0,.i 0,.i 0])] H g1:=hS
    replace hM:shares_Box_j1 r5 v6=some r:=hM
    refine Sq ?_
    refine Rg 6 ?_
    refine Of ((Week_.cells r5.1)) ty_fo119_0 ?_
    refine Olg (.agg (Split.cells r5.1.Split)) ty_agg62 ?_
    refine Om (.i v6) ?_
    refine o_store (v:=.agg (Split.cells r5.1.Split)) (ns:=(Split.cells r5.1.Split)) (L':=[(g+2,.cells (Split.cells r5.1.Split))]) 0 hS rfl rfl .no rfl rfl ty_var62 nlb rfl fun H hS=>?_
    refine Oa (.i v6) ?_
    refine Oa (.i 0) ?_
    refine Ni ?_
    refine Ws ?_
    refine r_ret ?_
    refine w_end (x:=.tup [.agg (Split.cells r5.1.Split),.i v6,.i 0]) (f:=fun r=>.tup [.agg [.i r.1.Operator,.i r.1.Owner,.i r.1.Repaid],.i r.2.1,.i r.2.2]) (.inr rfl) ?_ (.refl _) (Option.some.inj hM) hS
    exact (res_three (res_cell (x:=.agg (Split.cells r5.1.Split)) 0 hS rfl rfl (pg ty_agg62)) (res_tmp (x:=.i v6) rfl) (res_tmp (x:=.i 0) rfl))
   ·refine Sq ?_
    refine Rg 7 ?_
    refine Olg (.agg (Box.cells a1)) ty_agg26 ?_
    obtain ⟨r7,hr7,hM⟩:=bindE hM
    refine o_call (bs:=[.agg (Box.cells a1)]) (by decide) rfl rfl ((W_takings_Missing hr7).le (.k .nil)) ?_
    refine Om (.tup [.i r7.1,.i r7.2]) ?_
    refine Ox (.i r7.1) ?_
    refine Ox (.i r7.2) ?_
    refine Oa (.i r7.1) ?_
    refine Oa (.i r7.2) ?_
    refine Ni ?_
    refine Ws ?_
    refine Sq ?_
    refine Rg 2 ?_
    refine Om (.i r7.2) ?_
    refine Oi (.b (r7.2==0)) ?_
    refine Ni ?_
    refine Ws ?_
    rcases bft (r7.2==0) with hb8 | hb8
    ·replace hM:=ifT hM hb8
     refine Ct hb8 ?_
     have hS0:=hS
     refine r_draw (n:=13) rfl (by kernel_rfl) ?_
     refine Of ((Share.cells a0)) ty_fo59_0 ?_
     refine Olp (.sl .no 4 (a0.Clauses.map Clause.cells)) ty_agg57 ty_sc57 ?_
     refine Of ((Share.cells a0)) ty_fo59_1 ?_
     refine Olp (.i a0.Loan) ty_agg3 ty_sc3 ?_
     refine Om (.i r3.1) ?_
     refine Om (.i r7.1) ?_
     refine Oi (.i (w64 (r3.1+r7.1))) ?_
     obtain ⟨r9,hr9,hM⟩:=bindE hM
     refine o_call (bs:=[.sl .no 4 (a0.Clauses.map Clause.cells),.i a0.Loan,.i (w64 (r3.1+r7.1))]) (by decide) rfl rfl ((W_shares_owners hr9).le (.k (.k (.k .nil)))) ?_
     refine Of ((Week_.cells r5.1)) ty_fo119_0 ?_
     refine Of ((Week_.cells r5.1)) ty_fo62_1 ?_
     refine Olp (.i r5.1.Split.Owner) ty_agg3 ty_sc3 ?_
     refine Oi (.i (w64 (r9-r5.1.Split.Owner))) ?_
     refine Oa (.i (w64 (r9-r5.1.Split.Owner))) ?_
     refine Ni ?_
     exact w_goto (w64 (r9-r5.1.Split.Owner)) (.k (.k (.k .nil))) ⟨(hS.keep [true] rfl).up (by omega),hM⟩
    ·replace hM:=ifF hM hb8
     refine Cf hb8 ?_
     refine r_skip ?_
     exact w_goto 0 (.k (.k (.k .nil))) ⟨(hS.keep [true] rfl).up (by omega),hM⟩
theorem W_top_TopOwner {n:Nat} {a0:Share} {a1:Box} {r:Bool} (hM:top_TopOwner n a0 a1=some r):PureSat Try.prog 12 [.agg (Share.cells a0),.agg (Box.cells a1)] (.b r):=by
 refine pure_of_wp mixed Try.func12 rfl (by decide) Try.ntmps12 (by simp) ?pure fun H0 g hf=>?_
 case pure=>exact .v _
 rw [frame0_of]
 change wpA _ _ _ _ (Fr.of [(0,.agg (Share.cells a0)),(1,.agg (Box.cells a1))]) H0 g
 have hS:=St.start hf
 refine Sq ?_
 refine Rg 3 ?_
 refine o_box (v:=.agg (Share.cells a0)) (cs:=(Share.cells a0)) hS (by decide) rfl rfl (by omega) fun H hS=>?_
 refine o_box (v:=.agg (Box.cells a1)) (cs:=(Box.cells a1)) hS (by decide) rfl rfl (by omega) fun H hS=>?_
 refine Oa (.b false) ?_
 refine Ni ?_
 refine w_iceE (L':=[(g+1,.cells (Box.cells a1))]) 1 2 hS rfl rfl rfl fun H hS=>?_
 refine w_iceE (L':=[]) 0 3 hS rfl rfl rfl fun H hS=>?_
 refine Ws ?_
 refine Sq ?_
 refine w_join (J:=Bool) (fun j=>[(2,.ep (Share.cells a0)),(3,.ep (Box.cells a1)),(27,.b j)]) (fun j H' g'=>St (·<g) H0 [] H' g'∧top_TopOwner_j1 n a0 a1 j=some r) ?_ ?_
 ·rintro v1 H g1 ⟨hS,hM⟩
  change wpA _ _ _ _ (Fr.of [(2,.ep (Share.cells a0)),(3,.ep (Box.cells a1)),(27,.b v1)]) _ _
  replace hS:St (·<g) H0 [] H g1:=hS
  replace hM:top_TopOwner_j1 n a0 a1 v1=some r:=hM
  rcases bft v1 with hb2 | hb2
  ·replace hM:=ifT hM hb2
   refine Ct hb2 ?_
   refine Sq ?_
   refine Rg 2 ?_
   obtain ⟨r3,hr3,hM⟩:=bindE hM
   refine o_call (bs:=[]) (by decide) rfl rfl ((W_top_halved hr3).le .nil) ?_
   refine Oa (.b r3) ?_
   refine Ni ?_
   refine Ws ?_
   refine r_ret ?_
   refine r_then_ret ?_
   refine w_end (x:=.b r3) (f:=fun r=>.b r) (.inr rfl) ?_ (.refl _) (Option.some.inj hM) hS
   exact (res_one (res_tmp (x:=.b r3) rfl))
  ·replace hM:=ifF hM hb2
   refine Cf hb2 ?_
   refine r_skip ?_
   refine Ws ?_
   refine Sq ?_
   have hS0:=hS
   refine r_draw (n:=12) rfl (by kernel_rfl) ?_
   refine Olg (.agg (Share.cells a0)) ty_agg59 ?_
   refine Olg (.agg (Box.cells a1)) ty_agg26 ?_
   obtain ⟨r4,hr4,hM⟩:=bindE hM
   refine o_call (bs:=[.agg (Box.cells a1)]) (by decide) rfl rfl ((W_ref05_Copy hr4).le (.k .nil)) ?_
   obtain ⟨r5,hr5,hM⟩:=bindE hM
   refine o_call (bs:=[.agg (Share.cells a0),.agg (Box.cells r4)]) (by decide) rfl rfl ((W_shares_Box hr5).le (.k (.k .nil))) ?_
   refine Om (.tup [.agg (Split.cells r5.1),.i r5.2.1,.i r5.2.2]) ?_
   refine Ox (.agg (Split.cells r5.1)) ?_
   refine Ox (.i r5.2.1) ?_
   refine Ox (.i r5.2.2) ?_
   refine o_alloc hS (by decide) ty_zero62 (by omega) fun H hS=>?_
   refine o_store (v:=.agg (Split.cells r5.1)) (ns:=(Split.cells r5.1)) (L':=[(g1+8,.cells (Split.cells r5.1))]) 0 hS rfl rfl (.behind (by kernel_rfl)) rfl rfl ty_var62 nlb rfl fun H hS=>?_
   refine Oa (.i r5.2.1) ?_
   refine Oa (.i r5.2.2) ?_
   refine Ni ?_
   refine w_iceE (L':=[]) 0 5 hS rfl rfl rfl fun H hS=>?_
   refine Ws ?_
   refine Sq ?_
   refine Rg 12 ?_
   refine Olg (.agg (Box.cells a1)) ty_agg26 ?_
   obtain ⟨r6,hr6,hM⟩:=bindE hM
   refine o_call (bs:=[.agg (Box.cells a1)]) (by decide) rfl rfl ((W_ref05_Copy hr6).le (.k .nil)) ?_
   obtain ⟨r7,hr7,hM⟩:=bindE hM
   refine o_call (bs:=[.agg (Box.cells r6)]) (by decide) rfl rfl ((W_takings_Cash hr7).le (.k .nil)) ?_
   refine Om (.tup [.i r7.1,.i r7.2.1,.i r7.2.2.1,.i r7.2.2.2]) ?_
   refine Ox (.i r7.1) ?_
   refine Ox (.i r7.2.1) ?_
   refine Ox (.i r7.2.2.1) ?_
   refine Ox (.i r7.2.2.2) ?_
   refine Oa (.i r7.1) ?_
   refine Oa (.i r7.2.1) ?_
   refine Oa (.i r7.2.2.1) ?_
   refine Oa (.i r7.2.2.2) ?_
   refine Ni ?_
   refine Ws ?_
   refine Sq ?_
   refine Rg 8 ?_
   refine Olg (.agg (Box.cells a1)) ty_agg26 ?_
   obtain ⟨r8,hr8,hM⟩:=bindE hM
   refine o_call (bs:=[.agg (Box.cells a1)]) (by decide) rfl rfl ((W_ref05_Copy hr8).le (.k .nil)) ?_
   obtain ⟨r9,hr9,hM⟩:=bindE hM
   refine o_call (bs:=[.agg (Box.cells r8)]) (by decide) rfl rfl ((W_takings_Missing hr9).le (.k .nil)) ?_
   refine Om (.tup [.i r9.1,.i r9.2]) ?_
   refine Ox (.i r9.1) ?_
   refine Ox (.i r9.2) ?_
   refine Oa (.i r9.1) ?_
   refine Oa (.i r9.2) ?_
   refine Ni ?_
   refine Ws ?_
   refine Sq ?_
   refine w_join (J:=Bool) (fun j=>[(2,.ep (Share.cells a0)),(5,.ep (Split.cells r5.1)),(8,.i r7.1),(80,.b j)]) (fun j H' g'=>St (·<g) H0 [] H' g'∧top_TopOwner_j2 n a0 r5 r7 j=some r) ?_ ?_
   ·rintro v10 H g2 ⟨hS,hM⟩
    change wpA _ _ _ _ (Fr.of [(2,.ep (Share.cells a0)),(5,.ep (Split.cells r5.1)),(8,.i r7.1),(80,.b v10)]) _ _
    replace hS:St (·<g) H0 [] H g2:=hS
    replace hM:top_TopOwner_j2 n a0 r5 r7 v10=some r:=hM
    rcases bft v10 with hb11 | hb11
    ·replace hM:=ifT hM hb11
     refine Ct hb11 ?_
     refine Sq ?_
     refine Rg 1 ?_
     refine Oa (.b false) ?_
     refine Ni ?_
     refine Ws ?_
     refine r_ret ?_
     refine r_then_ret ?_
     refine w_end (x:=.b false) (f:=fun r=>.b r) (.inr rfl) ?_ (.refl _) (Option.some.inj hM) hS
     exact (res_one (res_tmp (x:=.b false) rfl))
    ·replace hM:=ifF hM hb11
     refine Cf hb11 ?_
     refine r_skip ?_
     refine Ws ?_
     refine Sq ?_
     refine Rg 9 ?_
     refine Olg (.agg (Share.cells a0)) ty_agg59 ?_
     refine Om (.i r7.1) ?_
     obtain ⟨r12,hr12,hM⟩:=bindE hM
     refine o_call (bs:=[.agg (Share.cells a0),.i r7.1]) (by decide) rfl rfl ((W_shares_Week hr12).le (.k (.k .nil))) ?_
     refine Om (.tup [.agg (Split.cells r12.1),.i r12.2]) ?_
     refine Ox (.agg (Split.cells r12.1)) ?_
     refine Ox (.i r12.2) ?_
     refine o_alloc hS (by decide) ty_zero62 (by omega) fun H hS=>?_
     refine o_store (v:=.agg (Split.cells r12.1)) (ns:=(Split.cells r12.1)) (L':=[(g2+6,.cells (Split.cells r12.1))]) 0 hS rfl rfl .no rfl rfl ty_var62 nlb rfl fun H hS=>?_
     refine Oa (.i r12.2) ?_
     refine Ni ?_
     refine w_iceE (L':=[]) 0 14 hS rfl rfl rfl fun H hS=>?_
     refine Ws ?_
     refine w_join (J:=Bool) (fun j=>[(4,.b j)]) (fun j H' g'=>St (·<g) H0 [] H' g'∧top_TopOwner_j3 j=some r) ?_ ?_
     ·rintro v13 H g3 ⟨hS,hM⟩
      change wpA _ _ _ _ (Fr.of [(4,.b v13)]) _ _
      replace hS:St (·<g) H0 [] H g3:=hS
      replace hM:top_TopOwner_j3 v13=some r:=hM
      refine r_ret ?_
      refine w_end (x:=.b v13) (f:=fun r=>.b r) (.inr rfl) ?_ (.refl _) (Option.some.inj hM) hS
      exact (res_one (res_tmp (x:=.b v13) rfl))
     ·refine Rg 30 ?_
      refine Om (.i r12.2) ?_
      refine Oi (.b (r12.2==0)) ?_
      refine Om (.b (r12.2==0)) ?_
      rcases bft (r12.2==0) with hb14 | hb14
      ·replace hM:=ifT hM hb14
       refine Oy (want:=true) hb14 ?_
       refine Olg (.agg (Split.cells r5.1)) ty_agg62 ?_
       refine Oy (want:=true) hb14 ?_
       refine Olg (.agg (Split.cells r12.1)) ty_agg62 ?_
       refine Oy (want:=true) hb14 ?_
       refine o_eqS (cs:=(Split.cells r5.1)) (ds:=(Split.cells r12.1)) (e:=((r5.1.Operator==r12.1.Operator)&&((r5.1.Owner==r12.1.Owner)&&((r5.1.Repaid==r12.1.Repaid)&&true)))) (by decide) rfl rfl ty_flat62 rfl ?_
       refine Pt (.b ((r5.1.Operator==r12.1.Operator)&&((r5.1.Owner==r12.1.Owner)&&((r5.1.Repaid==r12.1.Repaid)&&true)))) hb14 ?_
       refine Om (.b ((r5.1.Operator==r12.1.Operator)&&((r5.1.Owner==r12.1.Owner)&&((r5.1.Repaid==r12.1.Repaid)&&true)))) ?_
       rcases bft ((r5.1.Operator==r12.1.Operator)&&((r5.1.Owner==r12.1.Owner)&&((r5.1.Repaid==r12.1.Repaid)&&true))) with hb15 | hb15
       ·replace hM:=ifT hM hb15
        refine Oy (want:=true) hb15 ?_
        refine Of ((Split.cells r5.1)) ty_fo62_0 ?_
        refine Oy (want:=true) hb15 ?_
        refine Olp (.i r5.1.Operator) ty_agg3 ty_sc3 ?_
        refine Oy (want:=true) hb15 ?_
        refine Oi (.b (decide (r5.1.Operator≥0))) ?_
        refine Pt (.b (decide (r5.1.Operator≥0))) hb15 ?_
        refine Om (.b (decide (r5.1.Operator≥0))) ?_
        rcases bft (decide (r5.1.Operator≥0)) with hb16 | hb16
        ·replace hM:=ifT hM hb16
         refine Oy (want:=true) hb16 ?_
         refine Of ((Split.cells r5.1)) ty_fo62_1 ?_
         refine Oy (want:=true) hb16 ?_
         refine Olp (.i r5.1.Owner) ty_agg3 ty_sc3 ?_
         refine Oy (want:=true) hb16 ?_
         refine Oi (.b (decide (r5.1.Owner≥0))) ?_
         refine Pt (.b (decide (r5.1.Owner≥0))) hb16 ?_
         refine Om (.b (decide (r5.1.Owner≥0))) ?_
         rcases bft (decide (r5.1.Owner≥0)) with hb17 | hb17
         ·replace hM:=ifT hM hb17
          refine Oy (want:=true) hb17 ?_
          refine Of ((Split.cells r5.1)) ty_fo62_0 ?_
          refine Oy (want:=true) hb17 ?_
          refine Olp (.i r5.1.Operator) ty_agg3 ty_sc3 ?_
          refine Oy (want:=true) hb17 ?_
          refine Of ((Split.cells r5.1)) ty_fo62_1 ?_
          refine Oy (want:=true) hb17 ?_
          refine Olp (.i r5.1.Owner) ty_agg3 ty_sc3 ?_
          refine Oy (want:=true) hb17 ?_
          refine Oi (.i (w64 (r5.1.Operator+r5.1.Owner))) ?_
          refine Oy (want:=true) hb17 ?_
          refine Om (.i r7.1) ?_
          refine Oy (want:=true) hb17 ?_
          refine Oi (.b ((w64 (r5.1.Operator+r5.1.Owner))==r7.1)) ?_
          refine Pt (.b ((w64 (r5.1.Operator+r5.1.Owner))==r7.1)) hb17 ?_
          refine Om (.b ((w64 (r5.1.Operator+r5.1.Owner))==r7.1)) ?_
          rcases bft ((w64 (r5.1.Operator+r5.1.Owner))==r7.1) with hb18 | hb18
          ·replace hM:=ifT hM hb18
           refine Oy (want:=true) hb18 ?_
           obtain ⟨r19,hr19,hM⟩:=bindE hM
           refine o_call (bs:=[]) (by decide) rfl rfl ((W_top_halved hr19).le .nil) ?_
           refine Pt (.b r19) hb18 ?_
           refine Oa (.b r19) ?_
           refine Ni ?_
           exact w_goto r19 (.k .nil) ⟨(hS.keep [] rfl).up (by omega),hM⟩
          ·replace hM:=ifF hM hb18
           refine On (want:=true) hb18 ?_
           refine Pf (.b false) hb18 ?_
           refine Oa (.b false) ?_
           refine Ni ?_
           exact w_goto false (.k .nil) ⟨(hS.keep [] rfl).up (by omega),hM⟩
         ·replace hM:=ifF hM hb17
          refine On (want:=true) hb17 ?_
          refine On (want:=true) hb17 ?_
          refine On (want:=true) hb17 ?_
          refine On (want:=true) hb17 ?_
          refine On (want:=true) hb17 ?_
          refine On (want:=true) hb17 ?_
          refine On (want:=true) hb17 ?_
          refine Pf (.b false) hb17 ?_
          refine Om (.b false) ?_
          refine Og ?_
          refine o_pickF (v:=.b false) (e:=false) (by decide) rfl rfl rfl ?_
          refine Oa (.b false) ?_
          refine Ni ?_
          exact w_goto false (.k .nil) ⟨(hS.keep [] rfl).up (by omega),hM⟩
        ·replace hM:=ifF hM hb16
         refine On (want:=true) hb16 ?_
         refine On (want:=true) hb16 ?_
         refine On (want:=true) hb16 ?_
         refine Pf (.b false) hb16 ?_
         refine Om (.b false) ?_
         refine Og ?_
         refine Og ?_
         refine Og ?_
         refine Og ?_
         refine Og ?_
         refine Og ?_
         refine Og ?_
         refine o_pickF (v:=.b false) (e:=false) (by decide) rfl rfl rfl ?_
         refine Om (.b false) ?_
         refine Og ?_
         refine o_pickF (v:=.b false) (e:=false) (by decide) rfl rfl rfl ?_
         refine Oa (.b false) ?_
         refine Ni ?_
         exact w_goto false (.k .nil) ⟨(hS.keep [] rfl).up (by omega),hM⟩
       ·replace hM:=ifF hM hb15
        refine On (want:=true) hb15 ?_
        refine On (want:=true) hb15 ?_
        refine On (want:=true) hb15 ?_
        refine Pf (.b false) hb15 ?_
        refine Om (.b false) ?_
        refine Og ?_
        refine Og ?_
        refine Og ?_
        refine o_pickF (v:=.b false) (e:=false) (by decide) rfl rfl rfl ?_
        refine Om (.b false) ?_
        refine Og ?_
        refine Og ?_
        refine Og ?_
        refine Og ?_
        refine Og ?_
        refine Og ?_
        refine Og ?_
        refine o_pickF (v:=.b false) (e:=false) (by decide) rfl rfl rfl ?_
        refine Om (.b false) ?_
        refine Og ?_
        refine o_pickF (v:=.b false) (e:=false) (by decide) rfl rfl rfl ?_
        refine Oa (.b false) ?_
        refine Ni ?_
        exact w_goto false (.k .nil) ⟨(hS.keep [] rfl).up (by omega),hM⟩
      ·replace hM:=ifF hM hb14
       refine On (want:=true) hb14 ?_
       refine On (want:=true) hb14 ?_
       refine On (want:=true) hb14 ?_
       refine Pf (.b false) hb14 ?_
       refine Om (.b false) ?_
       refine Og ?_
       refine Og ?_
       refine Og ?_
       refine o_pickF (v:=.b false) (e:=false) (by decide) rfl rfl rfl ?_
       refine Om (.b false) ?_
       refine Og ?_
       refine Og ?_
       refine Og ?_
       refine o_pickF (v:=.b false) (e:=false) (by decide) rfl rfl rfl ?_
       refine Om (.b false) ?_
       refine Og ?_
       refine Og ?_
       refine Og ?_
       refine Og ?_
       refine Og ?_
       refine Og ?_
       refine Og ?_
       refine o_pickF (v:=.b false) (e:=false) (by decide) rfl rfl rfl ?_
       refine Om (.b false) ?_
       refine Og ?_
       refine o_pickF (v:=.b false) (e:=false) (by decide) rfl rfl rfl ?_
       refine Oa (.b false) ?_
       refine Ni ?_
       exact w_goto false (.k .nil) ⟨(hS.keep [] rfl).up (by omega),hM⟩
   ·refine Rg 30 ?_
    refine Om (.i r5.2.2) ?_
    refine Oi (.b (r5.2.2 != 0)) ?_
    refine Om (.b (r5.2.2 != 0)) ?_
    rcases bft (r5.2.2 != 0) with hb20 | hb20
    ·replace hM:=ifT hM hb20
     refine On (want:=false) hb20 ?_
     refine On (want:=false) hb20 ?_
     refine Pt (.b true) hb20 ?_
     refine Om (.b true) ?_
     refine Og ?_
     refine Og ?_
     refine Og ?_
     refine o_guardU (j:=9) (by decide) rfl ?_
     refine o_guardU (j:=9) (by decide) rfl ?_
     refine Og ?_
     refine o_pickT (v:=.b true) (e:=true) (by decide) rfl rfl rfl ?_
     refine Om (.b true) ?_
     refine Og ?_
     refine Og ?_
     refine o_pickT (v:=.b true) (e:=true) (by decide) rfl rfl rfl ?_
     refine Om (.b true) ?_
     refine Og ?_
     refine Og ?_
     refine Og ?_
     refine o_guardU (j:=21) (by decide) rfl ?_
     refine o_guardU (j:=21) (by decide) rfl ?_
     refine Og ?_
     refine Og ?_
     refine o_guardU (j:=25) (by decide) rfl ?_
     refine o_guardU (j:=25) (by decide) rfl ?_
     refine Og ?_
     refine o_pickT (v:=.b true) (e:=true) (by decide) rfl rfl rfl ?_
     refine Ni ?_
     exact w_goto true (.k (.k (.k (.k .nil)))) ⟨(hS.keep [] rfl).up (by omega),hM⟩
    ·replace hM:=ifF hM hb20
     refine Oy (want:=false) hb20 ?_
     refine Om (.i r7.2.2.2) ?_
     refine Oy (want:=false) hb20 ?_
     refine Oi (.b (r7.2.2.2 != 0)) ?_
     refine Pf (.b (r7.2.2.2 != 0)) hb20 ?_
     refine Om (.b (r7.2.2.2 != 0)) ?_
     rcases bft (r7.2.2.2 != 0) with hb21 | hb21
     ·replace hM:=ifT hM hb21
      refine On (want:=false) hb21 ?_
      refine On (want:=false) hb21 ?_
      refine On (want:=false) hb21 ?_
      refine o_guardU (j:=9) (by decide) rfl ?_
      refine o_guardU (j:=9) (by decide) rfl ?_
      refine On (want:=false) hb21 ?_
      refine Pt (.b true) hb21 ?_
      refine Om (.b true) ?_
      refine Og ?_
      refine Og ?_
      refine o_pickT (v:=.b true) (e:=true) (by decide) rfl rfl rfl ?_
      refine Om (.b true) ?_
      refine Og ?_
      refine Og ?_
      refine Og ?_
      refine o_guardU (j:=21) (by decide) rfl ?_
      refine o_guardU (j:=21) (by decide) rfl ?_
      refine Og ?_
      refine Og ?_
      refine o_guardU (j:=25) (by decide) rfl ?_
      refine o_guardU (j:=25) (by decide) rfl ?_
      refine Og ?_
      refine o_pickT (v:=.b true) (e:=true) (by decide) rfl rfl rfl ?_
      refine Ni ?_
      exact w_goto true (.k (.k (.k (.k .nil)))) ⟨(hS.keep [] rfl).up (by omega),hM⟩
     ·replace hM:=ifF hM hb21
      refine Oy (want:=false) hb21 ?_
      refine Om (.i r9.2) ?_
      refine Oy (want:=false) hb21 ?_
      refine Oi (.b (r9.2 != 0)) ?_
      refine Oy (want:=false) hb21 ?_
      refine Om (.b (r9.2 != 0)) ?_
      rcases bft (r9.2 != 0) with hb22 | hb22
      ·replace hM:=ifT hM hb22
       refine Oy (want:=true) hb22 ?_
       refine Om (.i r9.2) ?_
       refine Oy (want:=true) hb22 ?_
       refine Oi (.b (r9.2 != 3)) ?_
       refine Oy (want:=false) hb21 ?_
       refine Pt (.b (r9.2 != 3)) hb22 ?_
       refine Pf (.b (r9.2 != 3)) hb21 ?_
       refine Om (.b (r9.2 != 3)) ?_
       rcases bft (r9.2 != 3) with hb23 | hb23
       ·replace hM:=ifT hM hb23
        refine On (want:=false) hb23 ?_
        refine On (want:=false) hb23 ?_
        refine Pt (.b true) hb23 ?_
        refine Om (.b true) ?_
        refine Og ?_
        refine Og ?_
        refine Og ?_
        refine o_guardU (j:=21) (by decide) rfl ?_
        refine o_guardU (j:=21) (by decide) rfl ?_
        refine Og ?_
        refine Og ?_
        refine o_guardU (j:=25) (by decide) rfl ?_
        refine o_guardU (j:=25) (by decide) rfl ?_
        refine Og ?_
        refine o_pickT (v:=.b true) (e:=true) (by decide) rfl rfl rfl ?_
        refine Ni ?_
        exact w_goto true (.k (.k (.k (.k .nil)))) ⟨(hS.keep [] rfl).up (by omega),hM⟩
       ·replace hM:=ifF hM hb23
        refine Oy (want:=false) hb23 ?_
        refine Om (.i r5.2.1) ?_
        refine Oy (want:=false) hb23 ?_
        refine Oi (.b (decide (r5.2.1<0))) ?_
        refine Pf (.b (decide (r5.2.1<0))) hb23 ?_
        refine Om (.b (decide (r5.2.1<0))) ?_
        rcases bft (decide (r5.2.1<0)) with hb24 | hb24
        ·replace hM:=ifT hM hb24
         refine On (want:=false) hb24 ?_
         refine On (want:=false) hb24 ?_
         refine On (want:=false) hb24 ?_
         refine o_guardU (j:=21) (by decide) rfl ?_
         refine o_guardU (j:=21) (by decide) rfl ?_
         refine On (want:=false) hb24 ?_
         refine On (want:=false) hb24 ?_
         refine o_guardU (j:=25) (by decide) rfl ?_
         refine o_guardU (j:=25) (by decide) rfl ?_
         refine On (want:=false) hb24 ?_
         refine Pt (.b true) hb24 ?_
         refine Ni ?_
         exact w_goto true (.k (.k (.k (.k .nil)))) ⟨(hS.keep [] rfl).up (by omega),hM⟩
        ·replace hM:=ifF hM hb24
         refine Oy (want:=false) hb24 ?_
         refine Om (.i r9.2) ?_
         refine Oy (want:=false) hb24 ?_
         refine Oi (.b (r9.2 != 0)) ?_
         refine Oy (want:=false) hb24 ?_
         refine Om (.b (r9.2 != 0)) ?_
         refine On (want:=false) hb22 ?_
         refine On (want:=false) hb22 ?_
         refine Oy (want:=false) hb24 ?_
         refine Pt (.b true) hb22 ?_
         refine Oy (want:=false) hb24 ?_
         refine Om (.b true) ?_
         refine Oz ?_
         refine Om (.i r5.2.1) ?_
         refine Oz ?_
         refine Oi (.b (r5.2.1 != 0)) ?_
         refine Oy (want:=false) hb24 ?_
         refine o_pickT (v:=.b (r5.2.1 != 0)) (e:=true) (by decide) rfl rfl rfl ?_
         refine Pf (.b (r5.2.1 != 0)) hb24 ?_
         refine Ni ?_
         exact w_goto (r5.2.1 != 0) (.k (.k (.k (.k .nil)))) ⟨(hS.keep [] rfl).up (by omega),hM⟩
      ·replace hM:=ifF hM hb22
       refine On (want:=true) hb22 ?_
       refine On (want:=true) hb22 ?_
       refine Oy (want:=false) hb21 ?_
       refine Pf (.b false) hb22 ?_
       refine Pf (.b false) hb21 ?_
       refine Om (.b false) ?_
       refine Oz ?_
       refine Om (.i r5.2.1) ?_
       refine Oz ?_
       refine Oi (.b (decide (r5.2.1<0))) ?_
       refine o_pickF (v:=.b (decide (r5.2.1<0))) (e:=false) (by decide) rfl rfl rfl ?_
       refine Om (.b (decide (r5.2.1<0))) ?_
       rcases bft (decide (r5.2.1<0)) with hb25 | hb25
       ·replace hM:=ifT hM hb25
        refine On (want:=false) hb25 ?_
        refine On (want:=false) hb25 ?_
        refine On (want:=false) hb25 ?_
        refine o_guardU (j:=21) (by decide) rfl ?_
        refine o_guardU (j:=21) (by decide) rfl ?_
        refine On (want:=false) hb25 ?_
        refine On (want:=false) hb25 ?_
        refine o_guardU (j:=25) (by decide) rfl ?_
        refine o_guardU (j:=25) (by decide) rfl ?_
        refine On (want:=false) hb25 ?_
        refine Pt (.b true) hb25 ?_
        refine Ni ?_
        exact w_goto true (.k (.k (.k (.k .nil)))) ⟨(hS.keep [] rfl).up (by omega),hM⟩
       ·replace hM:=ifF hM hb25
        refine Oy (want:=false) hb25 ?_
        refine Om (.i r9.2) ?_
        refine Oy (want:=false) hb25 ?_
        refine Oi (.b (r9.2 != 0)) ?_
        refine Oy (want:=false) hb25 ?_
        refine Om (.b (r9.2 != 0)) ?_
        refine Oy (want:=false) hb22 ?_
        refine Om (.i r9.1) ?_
        refine Oy (want:=false) hb22 ?_
        refine Oi (.b (r9.1==0)) ?_
        refine Oy (want:=false) hb25 ?_
        refine Pf (.b (r9.1==0)) hb22 ?_
        refine Oy (want:=false) hb25 ?_
        refine Om (.b (r9.1==0)) ?_
        rcases bft (r9.1==0) with hb26 | hb26
        ·replace hM:=ifT hM hb26
         refine Oy (want:=true) hb26 ?_
         refine Om (.i r5.2.1) ?_
         refine Oy (want:=true) hb26 ?_
         refine Oi (.b (r5.2.1 != 0)) ?_
         refine Oy (want:=false) hb25 ?_
         refine Pt (.b (r5.2.1 != 0)) hb26 ?_
         refine Pf (.b (r5.2.1 != 0)) hb25 ?_
         refine Ni ?_
         exact w_goto (r5.2.1 != 0) (.k (.k (.k (.k .nil)))) ⟨(hS.keep [] rfl).up (by omega),hM⟩
        ·replace hM:=ifF hM hb26
         refine On (want:=true) hb26 ?_
         refine On (want:=true) hb26 ?_
         refine Oy (want:=false) hb25 ?_
         refine Pf (.b false) hb26 ?_
         refine Pf (.b false) hb25 ?_
         refine Ni ?_
         exact w_goto false (.k (.k (.k (.k .nil)))) ⟨(hS.keep [] rfl).up (by omega),hM⟩
 ·refine Rg 12 ?_
  refine Olg (.agg (Share.cells a0)) ty_agg59 ?_
  obtain ⟨r27,hr27,hM⟩:=bindE hM
  refine o_call (bs:=[.agg (Share.cells a0)]) (by decide) rfl rfl ((W_top_even hr27).le (.k .nil)) ?_
  refine o_not (e:=r27) (by decide) rfl ?_
  refine Om (.b (!r27)) ?_
  rcases bft (!r27) with hb28 | hb28
  ·replace hM:=ifT hM hb28
   refine On (want:=false) hb28 ?_
   refine On (want:=false) hb28 ?_
   refine Pt (.b true) hb28 ?_
   refine Om (.b true) ?_
   refine Og ?_
   refine Og ?_
   refine Og ?_
   refine o_pickT (v:=.b true) (e:=true) (by decide) rfl rfl rfl ?_
   refine Ni ?_
   exact w_goto true (.k (.k (.k .nil))) ⟨(hS.keep [] rfl).up (by omega),hM⟩
  ·replace hM:=ifF hM hb28
   refine Oy (want:=false) hb28 ?_
   refine Olg (.agg (Box.cells a1)) ty_agg26 ?_
   refine Oy (want:=false) hb28 ?_
   obtain ⟨r29,hr29,hM⟩:=bindE hM
   refine o_call (bs:=[.agg (Box.cells a1)]) (by decide) rfl rfl ((W_law05_Far hr29).le (.k .nil)) ?_
   refine Pf (.b r29) hb28 ?_
   refine Om (.b r29) ?_
   rcases bft r29 with hb30 | hb30
   ·replace hM:=ifT hM hb30
    refine On (want:=false) hb30 ?_
    refine On (want:=false) hb30 ?_
    refine On (want:=false) hb30 ?_
    refine Pt (.b true) hb30 ?_
    refine Ni ?_
    exact w_goto true (.k (.k (.k .nil))) ⟨(hS.keep [] rfl).up (by omega),hM⟩
   ·replace hM:=ifF hM hb30
    refine Oy (want:=false) hb30 ?_
    refine Olg (.agg (Box.cells a1)) ty_agg26 ?_
    refine Oy (want:=false) hb30 ?_
    obtain ⟨r31,hr31,hM⟩:=bindE hM
    refine o_call (bs:=[.agg (Box.cells a1)]) (by decide) rfl rfl ((W_ref05_Check hr31).le (.k .nil)) ?_
    refine Oy (want:=false) hb30 ?_
    refine Oi (.b (r31 != 0)) ?_
    refine Pf (.b (r31 != 0)) hb30 ?_
    refine Ni ?_
    exact w_goto (r31 != 0) (.k (.k (.k .nil))) ⟨(hS.keep [] rfl).up (by omega),hM⟩
end Go.Proofs.Ytenogpmlhpcibaa
