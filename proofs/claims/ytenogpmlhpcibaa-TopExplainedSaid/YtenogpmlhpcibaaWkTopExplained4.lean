/-
  The code returns what the functions say (printed by gen.py).
  Conditions: none.
-/
import Derived.Test.YtenogpmlhpcibaaWkTopExplained3
import Derived.Test.YtenogpmlhpcibaaSh
import Derived.Test.YtenogpmlhpcibaaKs
import Derived.Test.YtenogpmlhpcibaaEn
set_option linter.all false
namespace Go.Proofs.Ytenogpmlhpcibaa
open Go Go.AM Go.Law
set_option linter.unusedVariables false
set_option maxRecDepth 4000
set_option maxHeartbeats 4000000
theorem zkI {n:Nat} {a0:Wheel} {a1:Int} {r:Int×Int} (hM:zeF n a0 a1=some r):zaR Try.prog 53 [.agg (Wheel.cells a0),.i a1] (.tup [.i r.1,.i r.2]):=by
 refine zau mixed Try.func53 rfl (by decide) Try.ntmps53 (by simp) ?pure fun H0 g hf=>?_
 case pure=>exact .tup _ (zac (.v _) (zac (.v _) zaQ))
 rw [zam]
 change wpA _ _ _ _ (Fr.of [(0,.agg (Wheel.cells a0)),(1,.i a1)]) H0 g
 have hS:=St.start hf
 refine Sq ?_
 refine Rg 4 ?_
 refine zcE (v:=.agg (Wheel.cells a0)) (cs:=(Wheel.cells a0)) hS (by decide) rfl rfl (by omega) fun H hS=>?_
 refine zcE (v:=.i a1) (cs:=[.i a1]) hS (by decide) rfl rfl (by omega) fun H hS=>?_
 refine Oa (.i 0) ?_
 refine Oa (.i 0) ?_
 refine Ni ?_
 refine za6 (L':=[(g+1,.cells [.i a1])]) 1 2 hS rfl rfl rfl fun H hS=>?_
 refine za6 (L':=[]) 0 3 hS rfl rfl rfl fun H hS=>?_
 refine Ws ?_
 refine Sq ?_
 refine Rg 9 ?_
 refine Olg (.agg (Wheel.cells a0)) zbS ?_
 refine zer (first:=[]) (cap:=[.ep [.i a1]]) (by decide) rfl rfl ?_
 obtain ⟨r1,hr1,hM⟩:=zak hM
 refine zaK (bs:=[.agg (Wheel.cells a0),.fn (.func 87) [] [.ep [.i a1]]]) (by decide) rfl rfl (zhT ((zgR (Lo:=(fun (_:Unit)=>[]))  (fun _ _=>zhS) (fun _=>List.nodup_nil) (fun _=>zgp) (aF:=(fun (x0:Wheel_) (_:Unit)=>(zdp x0 a1).map fun y=>(y,()))) (fun _ H hH=>(.fn _ _ _ zdU (zbI (.ep _ (zbI (show Go.AM.Pure _ from .v _).inH zdU)) zdU))) rfl (fun h=>zng (ziU (zjd h))) hr1).le (.k (.k .nil)))) ?_
 refine Om (.tup [.agg (Wheel.cells r1.1.1.Wheel),.i r1.1.2]) ?_
 refine Ox (.agg (Wheel.cells r1.1.1.Wheel)) ?_
 refine Ox (.i r1.1.2) ?_
 refine zba hS (by decide) zez (by omega) fun H hS=>?_
 refine zaE (v:=.agg (Wheel.cells r1.1.1.Wheel)) (ns:=(Wheel.cells r1.1.1.Wheel)) (L':=[(g+4+6,.cells (Wheel.cells r1.1.1.Wheel))]) 0 hS rfl rfl .no rfl rfl zgt nlb rfl fun H hS=>?_
 refine Oa (.i r1.1.2) ?_
 refine Ni ?_
 refine za6 (L':=[]) 0 6 hS rfl rfl rfl fun H hS=>?_
 refine Ws ?_
 refine Sq ?_
 refine Sq ?_
 refine Rg 2 ?_
 refine Om (.i r1.1.2) ?_
 refine Oi (.b (r1.1.2 != 0)) ?_
 refine Ni ?_
 refine Ws ?_
 rcases bft (r1.1.2 != 0) with hb2 | hb2
 ·replace hM:=ifT hM hb2
  refine Ct hb2 ?_
  refine Sq ?_
  refine Rg 3 ?_
  refine Om (.i r1.1.2) ?_
  refine Oa (.i 0) ?_
  refine Oa (.i r1.1.2) ?_
  refine Ni ?_
  refine Ws ?_
  refine za0 ?_
  refine zan ?_
  refine za8 (x:=.tup [.i 0,.i r1.1.2]) (f:=fun r=>.tup [.i r.1,.i r.2]) (.inr rfl) ?_ (.refl _) (Option.some.inj hM) hS
  exact (zcy (zaf (x:=.i 0) rfl) (zaf (x:=.i r1.1.2) rfl))
 ·replace hM:=ifF hM hb2
  refine Cf hb2 ?_
  refine zaD ?_
  refine Ws ?_
  refine Sq ?_
  refine za2 (J:=Bool) (fun j=>[(2,.ep (Wheel.cells a0)),(3,.ep [.i a1]),(6,.ep (Wheel.cells r1.1.1.Wheel)),(37,.b j)]) (fun j H' g'=>St (·<g) H0 [] H' g'/\zds n a0 a1 r1 j=some r) ?_ ?_
  ·rintro v3 H g1 ⟨hS,hM⟩
   change wpA _ _ _ _ (Fr.of [(2,.ep (Wheel.cells a0)),(3,.ep [.i a1]),(6,.ep (Wheel.cells r1.1.1.Wheel)),(37,.b v3)]) _ _
   replace hS:St (·<g) H0 [] H g1:=hS
   replace hM:zds n a0 a1 r1 v3=some r:=hM
   rcases bft v3 with hb4 | hb4
   ·replace hM:=ifT hM hb4
    refine Ct hb4 ?_
    refine Sq ?_
    refine Rg 2 ?_
    refine Oa (.i 0) ?_
    refine Oa (.i 3) ?_
    refine Ni ?_
    refine Ws ?_
    refine za0 ?_
    refine zan ?_
    refine za8 (x:=.tup [.i 0,.i 3]) (f:=fun r=>.tup [.i r.1,.i r.2]) (.inr rfl) ?_ (.refl _) (Option.some.inj hM) hS
    exact (zcy (zaf (x:=.i 0) rfl) (zaf (x:=.i 3) rfl))
   ·replace hM:=ifF hM hb4
    refine Cf hb4 ?_
    refine zaD ?_
    refine Ws ?_
    refine Sq ?_
    refine Rg 4 ?_
    refine zbE (cs:=[.i 0,.i 0,.i 0]) (by decide) zie zqp rfl ?_
    refine zaZ (es:=[[.i 0,.i 0,.i 0]]) hS (by decide) zkW znn rfl zno rfl (by decide) (by omega) fun H hS=>?_
    replace hS:St (·<g) H0 ((g1+1,.row 130 (([(⟨(⟨0,0⟩:Stand),0⟩:Point_)]:List Point_)).length)::[]) _ _:=hS
    refine zxr (u:=([(⟨(⟨0,0⟩:Stand),0⟩:Point_)]:List Point_)) (f:=Point_.cells) hS (by decide) rfl zif zqr znp (by omega) fun H hS=>?_
    refine Oa (.ms (g1+2) 0 1 1 1) ?_
    refine Ni ?_
    refine Ws ?_
    refine Sq ?_
    refine Rg 2 ?_
    refine zls (kv:=zaS) hS (by decide) zjo (by omega) fun H hS=>?_
    refine Oa (.mp (g1+4+0)) ?_
    refine Ni ?_
    refine Ws ?_
    refine Sq ?_
    refine Rg 1 ?_
    refine Oa (.i 0) ?_
    refine Ni ?_
    refine Ws ?_
    refine zaG ?_
    replace hS:St (·<g) H0 ([(g1+4+0,.obj none (zae (mpv zaS ([]:List (Point_×Int)))))]++zb7 Point_.cells 3 130 (g1+2) 1 [g1+1] ([([(⟨(⟨0,0⟩:Stand),0⟩:Point_)]:List Point_)]:List (List Point_))) _ _:=hS
    refine zcx (V:=Int×(List (Point_×Int))×(List (List Point_))×Nat×Nat×(List Nat)) (fun v=>[(2,.ep (Wheel.cells a0)),(3,.ep [.i a1]),(6,.ep (Wheel.cells r1.1.1.Wheel)),(8,.ms v.2.2.2.1 0 1 v.2.2.2.2.1 v.2.2.2.2.1),(9,.mp (g1+4+0)),(10,.i v.1)]) (fun v m3 H' g'=>St (·<g) H0 ([(g1+4+0,.obj none (zae (mpv zaS v.2.1)))]++zb7 Point_.cells 3 130 v.2.2.2.1 v.2.2.2.2.1 v.2.2.2.2.2 v.2.2.1) H' g'/\zah n a0 a1 r1 m3 v.1 v.2.1 v.2.2.1=some r) (n:=n) (0,([]:List (Point_×Int)),([([(⟨(⟨0,0⟩:Stand),0⟩:Point_)]:List Point_)]:List (List Point_)),g1+2,1,[g1+1]) (.k (.k (.k (.k (.k (.k .nil)))))) ⟨(hS.keep [true] rfl).up (by omega),hM⟩ ?_
    rintro ⟨v6,v7,v8,v9,v10,v11⟩ m3 H g3 ⟨hS,hM⟩
    obtain _ | m3:=m3
    ·exact nomatch (show none=some _ from hM)
    change wpA _ _ _ _ (Fr.of [(2,.ep (Wheel.cells a0)),(3,.ep [.i a1]),(6,.ep (Wheel.cells r1.1.1.Wheel)),(8,.ms v9 0 1 v10 v10),(9,.mp (g1+4+0)),(10,.i v6)]) _ _
    replace hS:St (·<g) H0 ([(g1+4+0,.obj none (zae (mpv zaS v7)))]++zb7 Point_.cells 3 130 v9 v10 v11 v8) H g3:=hS
    replace hM:zeS n a0 a1 r1 (zah n a0 a1 r1 m3) v6 v7 v8=some r:=hM
    refine za2 (J:=(List (Point_×Int))×(List (List Point_))×Nat×Nat×(List Nat)) (fun j=>[(2,.ep (Wheel.cells a0)),(3,.ep [.i a1]),(6,.ep (Wheel.cells r1.1.1.Wheel)),(8,.ms j.2.2.1 0 1 j.2.2.2.1 j.2.2.2.1),(9,.mp (g1+4+0)),(10,.i v6)]) (fun j H' g'=>St (·<g) H0 ([(g1+4+0,.obj none (zae (mpv zaS j.1)))]++zb7 Point_.cells 3 130 j.2.2.1 j.2.2.2.1 j.2.2.2.2 j.2.1) H' g'/\zcS (zah n a0 a1 r1 m3) v6 j.1 j.2.1=some r) ?_ ?_
    ·rintro ⟨v12,v13,v14,v15,v16⟩ H g4 ⟨hS,hM⟩
     change wpA _ _ _ _ (Fr.of [(2,.ep (Wheel.cells a0)),(3,.ep [.i a1]),(6,.ep (Wheel.cells r1.1.1.Wheel)),(8,.ms v14 0 1 v15 v15),(9,.mp (g1+4+0)),(10,.i v6)]) _ _
     replace hS:St (·<g) H0 ([(g1+4+0,.obj none (zae (mpv zaS v12)))]++zb7 Point_.cells 3 130 v14 v15 v16 v13) H g4:=hS
     replace hM:zcS (zah n a0 a1 r1 m3) v6 v12 v13=some r:=hM
     refine Rg 3 ?_
     refine Om (.i v6) ?_
     refine Oi (.i (w64 (v6+1))) ?_
     refine Oa (.i (w64 (v6+1))) ?_
     refine Ni ?_
     exact zbn (w64 (v6+1),v12,v13,v14,v15,v16) (Nat.lt_succ_self _) (.k (.k (.k (.k (.k (.k .nil)))))) ⟨(hS.keep [true] rfl).up (by omega),hM⟩
    ·refine zaG ?_
     refine za2 (J:=(List (List Point_))×Nat×Nat×(List Nat)) (fun j=>[(2,.ep (Wheel.cells a0)),(3,.ep [.i a1]),(6,.ep (Wheel.cells r1.1.1.Wheel)),(8,.ms j.2.1 0 1 j.2.2.1 j.2.2.1),(9,.mp (g1+4+0)),(10,.i v6)]) (fun j H' g'=>St (·<g) H0 ([(g1+4+0,.obj none (zae (mpv zaS v7)))]++zb7 Point_.cells 3 130 j.2.1 j.2.2.1 j.2.2.2 j.1) H' g'/\zdr n (zah n a0 a1 r1 m3) a0 a1 r1 v6 v7 j.1=some r) ?_ ?_
     ·rintro ⟨v17,v18,v19,v20⟩ H g5 ⟨hS,hM⟩
      change wpA _ _ _ _ (Fr.of [(2,.ep (Wheel.cells a0)),(3,.ep [.i a1]),(6,.ep (Wheel.cells r1.1.1.Wheel)),(8,.ms v18 0 1 v19 v19),(9,.mp (g1+4+0)),(10,.i v6)]) _ _
      replace hS:St (·<g) H0 ([(g1+4+0,.obj none (zae (mpv zaS v7)))]++zb7 Point_.cells 3 130 v18 v19 v20 v17) H g5:=hS
      replace hM:zdr n (zah n a0 a1 r1 m3) a0 a1 r1 v6 v7 v17=some r:=hM
      refine Sq ?_
      refine Rg 6 ?_
      refine Om (.ms v18 0 1 v19 v19) ?_
      refine Om (.i v6) ?_
      obtain ⟨x21,hx21,hM⟩:=zak hM
      replace hS:St (·<g) H0 ([(g1+4+0,.obj none (zae (mpv zaS v7)))]++zb7 Point_.cells 3 130 v18 v19 v20 v17) _ _:=hS
      refine zqh (ys:=v17) (z:=v6) (u:=x21) (by decide) hS rfl rfl zif hx21 ?_
      refine zs5 (f:=Point_.cells) (rs:=v20) (ys:=v17) (z:=v6) (u:=x21) hS (by decide) rfl hx21 .no zoh zqq ?_
      refine zct (n:=x21.length) (by decide) rfl (List.length_map _) ztl ?_
      refine Om (.i 0) ?_
      refine Ni ?_
      refine zgn [(2,.ep (Wheel.cells a0)),(3,.ep [.i a1]),(6,.ep (Wheel.cells r1.1.1.Wheel)),(8,.ms v18 0 1 v19 v19),(9,.mp (g1+4+0)),(10,.i v6),(55,.sl .no 3 (x21.map Point_.cells)),(56,.i (x21.length:Int)),(57,.i 0)] (.k (.k (.k (.k (.k (.k (.cons (.sl _ _ _) (.k (.k .nil))))))))) ?_
      refine zaG ?_
      replace hS:St (·<g) H0 ([(g1+4+0,.obj none (zae (mpv zaS v7)))]++zb7 Point_.cells 3 130 v18 v19 v20 v17) _ _:=hS
      refine zcx (V:=Int×(List (Point_×Int))×(List (List Point_))) (fun v=>[(2,.ep (Wheel.cells a0)),(3,.ep [.i a1]),(6,.ep (Wheel.cells r1.1.1.Wheel)),(8,.ms v18 0 1 v19 v19),(9,.mp (g1+4+0)),(10,.i v6),(55,.sl .no 3 (x21.map Point_.cells)),(56,.i (x21.length:Int)),(57,.i v.1)]) (fun v m7 H' g'=>St (·<g) H0 ([(g1+4+0,.obj none (zae (mpv zaS v.2.1)))]++zb7 Point_.cells 3 130 v18 v19 v20 v.2.2) H' g'/\zaj n (zah n a0 a1 r1 m3) a0 a1 r1 v6 x21 m7 v.1 v.2.1 v.2.2=some r) (n:=n) (0,v7,v17) (.k (.k (.k (.k (.k (.k (.k (.k (.k .nil))))))))) ⟨(hS.keep [true] rfl).up (by omega),hM⟩ ?_
      rintro ⟨v23,v24,v25⟩ m7 H g7 ⟨hS,hM⟩
      obtain _ | m7:=m7
      ·exact nomatch (show none=some _ from hM)
      change wpA _ _ _ _ (Fr.of [(2,.ep (Wheel.cells a0)),(3,.ep [.i a1]),(6,.ep (Wheel.cells r1.1.1.Wheel)),(8,.ms v18 0 1 v19 v19),(9,.mp (g1+4+0)),(10,.i v6),(55,.sl .no 3 (x21.map Point_.cells)),(56,.i (x21.length:Int)),(57,.i v23)]) _ _
      replace hS:St (·<g) H0 ([(g1+4+0,.obj none (zae (mpv zaS v24)))]++zb7 Point_.cells 3 130 v18 v19 v20 v25) H g7:=hS
      replace hM:zdJ n (zah n a0 a1 r1 m3) a0 a1 r1 v6 x21 (zaj n (zah n a0 a1 r1 m3) a0 a1 r1 v6 x21 m7) v23 v24 v25=some r:=hM
      refine Sq ?_
      refine Rg 1 ?_
      refine Oi (.b (decide (v23<(x21.length:Int)))) ?_
      refine Ni ?_
      refine Ws ?_
      refine Sq ?_
      rcases bft (decide (v23<(x21.length:Int))) with hb26 | hb26
      ·replace hM:=ifT hM hb26
       refine Ct hb26 ?_
       refine zaD ?_
       refine Ws ?_
       refine za2 (J:=(List (Point_×Int))×(List (List Point_))) (fun j=>[(2,.ep (Wheel.cells a0)),(3,.ep [.i a1]),(6,.ep (Wheel.cells r1.1.1.Wheel)),(8,.ms v18 0 1 v19 v19),(9,.mp (g1+4+0)),(10,.i v6),(55,.sl .no 3 (x21.map Point_.cells)),(56,.i (x21.length:Int)),(57,.i v23)]) (fun j H' g'=>St (·<g) H0 ([(g1+4+0,.obj none (zae (mpv zaS j.1)))]++zb7 Point_.cells 3 130 v18 v19 v20 j.2) H' g'/\zbR (zaj n (zah n a0 a1 r1 m3) a0 a1 r1 v6 x21 m7) v23 j.1 j.2=some r) ?_ ?_
       ·rintro ⟨v27,v28⟩ H g8 ⟨hS,hM⟩
        change wpA _ _ _ _ (Fr.of [(2,.ep (Wheel.cells a0)),(3,.ep [.i a1]),(6,.ep (Wheel.cells r1.1.1.Wheel)),(8,.ms v18 0 1 v19 v19),(9,.mp (g1+4+0)),(10,.i v6),(55,.sl .no 3 (x21.map Point_.cells)),(56,.i (x21.length:Int)),(57,.i v23)]) _ _
        replace hS:St (·<g) H0 ([(g1+4+0,.obj none (zae (mpv zaS v27)))]++zb7 Point_.cells 3 130 v18 v19 v20 v28) H g8:=hS
        replace hM:zbR (zaj n (zah n a0 a1 r1 m3) a0 a1 r1 v6 x21 m7) v23 v27 v28=some r:=hM
        refine Rg 2 ?_
        refine Oi (.i (w64 (v23+1))) ?_
        refine Om (.i (w64 (v23+1))) ?_
        refine Ni ?_
        exact zbn (w64 (v23+1),v27,v28) (Nat.lt_succ_self _) (.k (.k (.k (.k (.k (.k (.k (.k (.k .nil))))))))) ⟨(hS.keep [true] rfl).up (by omega),hM⟩
       ·refine zaG ?_
        refine Sq ?_
        refine Rg 4 ?_
        obtain ⟨x29,hx29,hM⟩:=zak hM
        refine zbb (xs:=x21) (f:=Point_.cells) (z:=v23) (u:=x29) (by decide) rfl rfl zkW hx29 ?_
        refine Olg (.agg (Point_.cells x29)) zjn ?_
        refine zba hS (by decide) zie (by omega) fun H hS=>?_
        refine zaE (v:=.agg (Point_.cells x29)) (ns:=(Point_.cells x29)) (L':=([(g7+1+2,.cells (Point_.cells x29)),(g1+4+0,.obj none (zae (mpv zaS v24)))]++zb7 Point_.cells 3 130 v18 v19 v20 v25)) 0 hS rfl rfl .no rfl rfl zog nlb rfl fun H hS=>?_
        refine Ni ?_
        refine za6 (L':=([(g1+4+0,.obj none (zae (mpv zaS v24)))]++zb7 Point_.cells 3 130 v18 v19 v20 v25)) 0 12 hS rfl rfl rfl fun H hS=>?_
        refine Ws ?_
        refine Sq ?_
        refine Sq ?_
        refine Rg 4 ?_
        refine Of ((Point_.cells x29)) zih ?_
        refine Olp (.i x29.bought) zag zas ?_
        refine Olp (.i a1) zag zas ?_
        refine Oi (.b (decide (x29.bought≥a1))) ?_
        refine Ni ?_
        refine Ws ?_
        rcases bft (decide (x29.bought≥a1)) with hb30 | hb30
        ·replace hM:=ifT hM hb30
         refine Ct hb30 ?_
         refine Sq ?_
         refine Rg 3 ?_
         refine Om (.i v6) ?_
         refine Oa (.i v6) ?_
         refine Oa (.i 0) ?_
         refine Ni ?_
         replace hS:=hS.keep (L':=([]++zb7 Point_.cells 3 130 v18 v19 v20 v25)) [false] rfl
         refine Ws ?_
         refine za0 ?_
         refine zan ?_
         refine za5 ?_
         refine zcG ?_
         refine zbY ?_
         refine za5 ?_
         refine za5 ?_
         refine zcG ?_
         refine zbY ?_
         refine za5 ?_
         refine za8 (x:=.tup [.i v6,.i 0]) (f:=fun r=>.tup [.i r.1,.i r.2]) (.inr rfl) ?_ (.refl _) (Option.some.inj hM) hS
         exact (zcy (zaf (x:=.i v6) rfl) (zaf (x:=.i 0) rfl))
        ·replace hM:=ifF hM hb30
         refine Cf hb30 ?_
         refine zaD ?_
         refine Ws ?_
         refine Sq ?_
         refine Sq ?_
         have hS0:=hS
         refine zcJ (n:=7) rfl (by kernel_rfl) ?_
         refine Om (.mp (g1+4+0)) ?_
         refine Olg (.agg (Point_.cells x29)) zjn ?_
         obtain ⟨x31,hx31,hM⟩:=zak hM
         refine zqc (kv:=zaS) (ok:=zd4) (M:=v24) (k:=x29) (u:=x31) 0 zpu hS (by decide) rfl rfl rfl (.st hS0 0 rfl (by omega)) zjo znq hx31 ?_
         refine Oi (.i (w64 (x31+1))) ?_
         obtain ⟨x32,hx32,hM⟩:=zak hM
         refine zrB (kv:=zaS) (ok:=zd4) (M:=v24) (k:=x29) (u:=x32) (L':=([(g1+4+0,.obj none (zae (mpv zaS (zhx v24 x29))))]++zb7 Point_.cells 3 130 v18 v19 v20 v25)) 0 zpu hS (by decide) rfl rfl rfl (.st hS0 0 rfl (by omega)) zjo znq hx32 rfl fun H hS=>?_
         refine Ox (.i ((zir v24 x29:Nat):Int)) ?_
         refine zn8 (kv:=zaS) (M:=v24) (k:=x29) (v:=(w64 (x31+1))) (L':=([(g1+4+0,.obj none (zae (mpv zaS (zcW v24 x29 (w64 (x31+1))))))]++zb7 Point_.cells 3 130 v18 v19 v20 v25)) 0 (.inr (by kernel_rfl)) hS rfl rfl rfl rfl rfl fun H hS=>?_
         refine Ni ?_
         refine Ws ?_
         refine Sq ?_
         refine Rg 4 ?_
         refine Om (.mp (g1+4+0)) ?_
         refine Olg (.agg (Point_.cells x29)) zjn ?_
         obtain ⟨x33,hx33,hM⟩:=zak hM
         refine zqc (kv:=zaS) (ok:=zd4) (M:=(zcW v24 x29 (w64 (x31+1)))) (k:=x29) (u:=x33) 0 zpu hS (by decide) rfl rfl rfl .no zjo znq hx33 ?_
         refine Oi (.b (decide (x33>1))) ?_
         refine Ni ?_
         refine Ws ?_
         rcases bft (decide (x33>1)) with hb34 | hb34
         ·replace hM:=ifT hM hb34
          refine Ct hb34 ?_
          refine zbX ?_
          refine zax ?_
          refine zaI ?_
          exact zai ((zcW v24 x29 (w64 (x31+1))),v25) (.k (.k (.k (.k (.k (.k (.k (.k (.k .nil))))))))) ⟨(hS.keep [true] rfl).up (by omega),hM⟩
         ·replace hM:=ifF hM hb34
          refine Cf hb34 ?_
          refine zaD ?_
          refine Ws ?_
          refine Sq ?_
          refine Rg 4 ?_
          refine Of ((Point_.cells x29)) zfu ?_
          refine Olg (.agg (Stand.cells x29.Stand)) zeO ?_
          refine zaZ (es:=[(Stand.cells x29.Stand)]) hS (by decide) zkX znr rfl zns rfl (by decide) (by omega) fun H hS=>?_
          refine Oa (.sl (.id (g7+1+4+4+7+4+2)) 2 (([x29.Stand]:List Stand).map Stand.cells)) ?_
          refine Ni ?_
          refine Ws ?_
          refine za2 (J:=(List Stand)) (fun j=>[(2,.ep (Wheel.cells a0)),(3,.ep [.i a1]),(6,.ep (Wheel.cells r1.1.1.Wheel)),(8,.ms v18 0 1 v19 v19),(9,.mp (g1+4+0)),(10,.i v6),(12,.ep (Point_.cells x29)),(13,.sl (.id (g7+1+4+4+7+4+2)) 2 (j.map Stand.cells)),(55,.sl .no 3 (x21.map Point_.cells)),(56,.i (x21.length:Int)),(57,.i v23)]) (fun j H' g'=>St (·<g) H0 ([(g7+1+4+4+7+4+2,.row 99 j.length),(g1+4+0,.obj none (zae (mpv zaS (zcW v24 x29 (w64 (x31+1))))))]++zb7 Point_.cells 3 130 v18 v19 v20 v25) H' g'/\zcT n (zaj n (zah n a0 a1 r1 m3) a0 a1 r1 v6 x21 m7) a0 a1 r1 v6 v23 v24 v25 x29 x31 j=some r) ?_ ?_
          ·rintro v35 H g9 ⟨hS,hM⟩
           change wpA _ _ _ _ (Fr.of [(2,.ep (Wheel.cells a0)),(3,.ep [.i a1]),(6,.ep (Wheel.cells r1.1.1.Wheel)),(8,.ms v18 0 1 v19 v19),(9,.mp (g1+4+0)),(10,.i v6),(12,.ep (Point_.cells x29)),(13,.sl (.id (g7+1+4+4+7+4+2)) 2 (v35.map Stand.cells)),(55,.sl .no 3 (x21.map Point_.cells)),(56,.i (x21.length:Int)),(57,.i v23)]) _ _
           replace hS:St (·<g) H0 ([(g7+1+4+4+7+4+2,.row 99 v35.length),(g1+4+0,.obj none (zae (mpv zaS (zcW v24 x29 (w64 (x31+1))))))]++zb7 Point_.cells 3 130 v18 v19 v20 v25) H g9:=hS
           replace hM:zcT n (zaj n (zah n a0 a1 r1 m3) a0 a1 r1 v6 x21 m7) a0 a1 r1 v6 v23 v24 v25 x29 x31 v35=some r:=hM
           refine Sq ?_
           refine Rg 3 ?_
           refine Om (.sl (.id (g7+1+4+4+7+4+2)) 2 (v35.map Stand.cells)) ?_
           refine zct (n:=v35.length) (by decide) rfl (List.length_map _) ztn ?_
           refine Om (.i 0) ?_
           refine Ni ?_
           refine Ws ?_
           refine zaG ?_
           replace hS:St (·<g) H0 ([(g7+1+4+4+7+4+2,.row 99 v35.length),(g1+4+0,.obj none (zae (mpv zaS (zcW v24 x29 (w64 (x31+1))))))]++zb7 Point_.cells 3 130 v18 v19 v20 v25) _ _:=hS
           refine zcx (V:=Int×(List (List Point_))) (fun v=>[(2,.ep (Wheel.cells a0)),(3,.ep [.i a1]),(6,.ep (Wheel.cells r1.1.1.Wheel)),(8,.ms v18 0 1 v19 v19),(9,.mp (g1+4+0)),(10,.i v6),(12,.ep (Point_.cells x29)),(55,.sl .no 3 (x21.map Point_.cells)),(56,.i (x21.length:Int)),(57,.i v23),(96,.sl (.id (g7+1+4+4+7+4+2)) 2 (v35.map Stand.cells)),(97,.i (v35.length:Int)),(98,.i v.1)]) (fun v m11 H' g'=>St (·<g) H0 ([(g7+1+4+4+7+4+2,.row 99 v35.length),(g1+4+0,.obj none (zae (mpv zaS (zcW v24 x29 (w64 (x31+1))))))]++zb7 Point_.cells 3 130 v18 v19 v20 v.2) H' g'/\zaY n (zaj n (zah n a0 a1 r1 m3) a0 a1 r1 v6 x21 m7) a0 a1 r1 v6 v23 v24 x29 x31 v35 m11 v.1 v.2=some r) (n:=n) (0,v25) (.k (.k (.k (.k (.k (.k (.k (.k (.k (.k (.k (.k (.k .nil))))))))))))) ⟨(hS.keep [true,true] rfl).up (by omega),hM⟩ ?_
           rintro ⟨v37,v38⟩ m11 H g11 ⟨hS,hM⟩
           obtain _ | m11:=m11
           ·exact nomatch (show none=some _ from hM)
           change wpA _ _ _ _ (Fr.of [(2,.ep (Wheel.cells a0)),(3,.ep [.i a1]),(6,.ep (Wheel.cells r1.1.1.Wheel)),(8,.ms v18 0 1 v19 v19),(9,.mp (g1+4+0)),(10,.i v6),(12,.ep (Point_.cells x29)),(55,.sl .no 3 (x21.map Point_.cells)),(56,.i (x21.length:Int)),(57,.i v23),(96,.sl (.id (g7+1+4+4+7+4+2)) 2 (v35.map Stand.cells)),(97,.i (v35.length:Int)),(98,.i v37)]) _ _
           replace hS:St (·<g) H0 ([(g7+1+4+4+7+4+2,.row 99 v35.length),(g1+4+0,.obj none (zae (mpv zaS (zcW v24 x29 (w64 (x31+1))))))]++zb7 Point_.cells 3 130 v18 v19 v20 v38) H g11:=hS
           replace hM:zdI n (zaj n (zah n a0 a1 r1 m3) a0 a1 r1 v6 x21 m7) a0 a1 r1 v6 v23 v24 x29 x31 v35 (zaY n (zaj n (zah n a0 a1 r1 m3) a0 a1 r1 v6 x21 m7) a0 a1 r1 v6 v23 v24 x29 x31 v35 m11) v37 v38=some r:=hM
           refine Sq ?_
           refine Rg 1 ?_
           refine Oi (.b (decide (v37<(v35.length:Int)))) ?_
           refine Ni ?_
           refine Ws ?_
           refine Sq ?_
           rcases bft (decide (v37<(v35.length:Int))) with hb39 | hb39
           ·replace hM:=ifT hM hb39
            refine Ct hb39 ?_
            refine zaD ?_
            refine Ws ?_
            refine za2 (J:=(List (List Point_))) (fun j=>[(2,.ep (Wheel.cells a0)),(3,.ep [.i a1]),(6,.ep (Wheel.cells r1.1.1.Wheel)),(8,.ms v18 0 1 v19 v19),(9,.mp (g1+4+0)),(10,.i v6),(12,.ep (Point_.cells x29)),(55,.sl .no 3 (x21.map Point_.cells)),(56,.i (x21.length:Int)),(57,.i v23),(96,.sl (.id (g7+1+4+4+7+4+2)) 2 (v35.map Stand.cells)),(97,.i (v35.length:Int)),(98,.i v37)]) (fun j H' g'=>St (·<g) H0 ([(g7+1+4+4+7+4+2,.row 99 v35.length),(g1+4+0,.obj none (zae (mpv zaS (zcW v24 x29 (w64 (x31+1))))))]++zb7 Point_.cells 3 130 v18 v19 v20 j) H' g'/\zdq (zaY n (zaj n (zah n a0 a1 r1 m3) a0 a1 r1 v6 x21 m7) a0 a1 r1 v6 v23 v24 x29 x31 v35 m11) v37 j=some r) ?_ ?_
            ·rintro v40 H g12 ⟨hS,hM⟩
             change wpA _ _ _ _ (Fr.of [(2,.ep (Wheel.cells a0)),(3,.ep [.i a1]),(6,.ep (Wheel.cells r1.1.1.Wheel)),(8,.ms v18 0 1 v19 v19),(9,.mp (g1+4+0)),(10,.i v6),(12,.ep (Point_.cells x29)),(55,.sl .no 3 (x21.map Point_.cells)),(56,.i (x21.length:Int)),(57,.i v23),(96,.sl (.id (g7+1+4+4+7+4+2)) 2 (v35.map Stand.cells)),(97,.i (v35.length:Int)),(98,.i v37)]) _ _
             replace hS:St (·<g) H0 ([(g7+1+4+4+7+4+2,.row 99 v35.length),(g1+4+0,.obj none (zae (mpv zaS (zcW v24 x29 (w64 (x31+1))))))]++zb7 Point_.cells 3 130 v18 v19 v20 v40) H g12:=hS
             replace hM:zdq (zaY n (zaj n (zah n a0 a1 r1 m3) a0 a1 r1 v6 x21 m7) a0 a1 r1 v6 v23 v24 x29 x31 v35 m11) v37 v40=some r:=hM
             refine Rg 2 ?_
             refine Oi (.i (w64 (v37+1))) ?_
             refine Om (.i (w64 (v37+1))) ?_
             refine Ni ?_
             exact zbn (w64 (v37+1),v40) (Nat.lt_succ_self _) (.k (.k (.k (.k (.k (.k (.k (.k (.k (.k (.k (.k (.k .nil))))))))))))) ⟨(hS.keep [true,true] rfl).up (by omega),hM⟩
            ·refine zaG ?_
             refine Sq ?_
             refine Rg 4 ?_
             obtain ⟨x41,hx41,hM⟩:=zak hM
             refine zbb (xs:=v35) (f:=Stand.cells) (z:=v37) (u:=x41) (by decide) rfl rfl zkX hx41 ?_
             refine Olg (.agg (Stand.cells x41)) zeO ?_
             refine zba hS (by decide) zdV (by omega) fun H hS=>?_
             refine zaE (v:=.agg (Stand.cells x41)) (ns:=(Stand.cells x41)) (L':=([(g11+1+2,.cells (Stand.cells x41)),(g7+1+4+4+7+4+2,.row 99 v35.length),(g1+4+0,.obj none (zae (mpv zaS (zcW v24 x29 (w64 (x31+1))))))]++zb7 Point_.cells 3 130 v18 v19 v20 v38)) 0 hS rfl rfl .no rfl rfl zgc nlb rfl fun H hS=>?_
             refine Ni ?_
             refine za6 (L':=([(g7+1+4+4+7+4+2,.row 99 v35.length),(g1+4+0,.obj none (zae (mpv zaS (zcW v24 x29 (w64 (x31+1))))))]++zb7 Point_.cells 3 130 v18 v19 v20 v38)) 0 15 hS rfl rfl rfl fun H hS=>?_
             refine Ws ?_
             refine Sq ?_
             refine Rg 4 ?_
             refine Of ((Wheel.cells a0)) zb8 ?_
             refine Olp (.sl .no 1 (a0.Coins.map cI)) zaC zaW ?_
             refine zct (n:=a0.Coins.length) (by decide) rfl (List.length_map _) zaT ?_
             refine Om (.i 0) ?_
             refine Ni ?_
             refine Ws ?_
             refine zaG ?_
             replace hS:St (·<g) H0 ([(g7+1+4+4+7+4+2,.row 99 v35.length),(g1+4+0,.obj none (zae (mpv zaS (zcW v24 x29 (w64 (x31+1))))))]++zb7 Point_.cells 3 130 v18 v19 v20 v38) _ _:=hS
             refine zcx (V:=Int×(List (List Point_))) (fun v=>[(2,.ep (Wheel.cells a0)),(3,.ep [.i a1]),(6,.ep (Wheel.cells r1.1.1.Wheel)),(8,.ms v18 0 1 v19 v19),(9,.mp (g1+4+0)),(10,.i v6),(12,.ep (Point_.cells x29)),(15,.ep (Stand.cells x41)),(55,.sl .no 3 (x21.map Point_.cells)),(56,.i (x21.length:Int)),(57,.i v23),(96,.sl (.id (g7+1+4+4+7+4+2)) 2 (v35.map Stand.cells)),(97,.i (v35.length:Int)),(98,.i v37),(103,.sl .no 1 (a0.Coins.map cI)),(104,.i (a0.Coins.length:Int)),(105,.i v.1)]) (fun v m14 H' g'=>St (·<g) H0 ([(g7+1+4+4+7+4+2,.row 99 v35.length),(g1+4+0,.obj none (zae (mpv zaS (zcW v24 x29 (w64 (x31+1))))))]++zb7 Point_.cells 3 130 v18 v19 v20 v.2) H' g'/\zcq n (zaY n (zaj n (zah n a0 a1 r1 m3) a0 a1 r1 v6 x21 m7) a0 a1 r1 v6 v23 v24 x29 x31 v35 m11) a0 a1 r1 v6 x29 v37 x41 m14 v.1 v.2=some r) (n:=n) (0,v38) (.k (.k (.k (.k (.k (.k (.k (.k (.k (.k (.k (.k (.k (.k (.k (.k (.k .nil))))))))))))))))) ⟨(hS.keep [true,true] rfl).up (by omega),hM⟩ ?_
             rintro ⟨v43,v44⟩ m14 H g14 ⟨hS,hM⟩
             obtain _ | m14:=m14
             ·exact nomatch (show none=some _ from hM)
             change wpA _ _ _ _ (Fr.of [(2,.ep (Wheel.cells a0)),(3,.ep [.i a1]),(6,.ep (Wheel.cells r1.1.1.Wheel)),(8,.ms v18 0 1 v19 v19),(9,.mp (g1+4+0)),(10,.i v6),(12,.ep (Point_.cells x29)),(15,.ep (Stand.cells x41)),(55,.sl .no 3 (x21.map Point_.cells)),(56,.i (x21.length:Int)),(57,.i v23),(96,.sl (.id (g7+1+4+4+7+4+2)) 2 (v35.map Stand.cells)),(97,.i (v35.length:Int)),(98,.i v37),(103,.sl .no 1 (a0.Coins.map cI)),(104,.i (a0.Coins.length:Int)),(105,.i v43)]) _ _
             replace hS:St (·<g) H0 ([(g7+1+4+4+7+4+2,.row 99 v35.length),(g1+4+0,.obj none (zae (mpv zaS (zcW v24 x29 (w64 (x31+1))))))]++zb7 Point_.cells 3 130 v18 v19 v20 v44) H g14:=hS
             replace hM:zdH n (zaY n (zaj n (zah n a0 a1 r1 m3) a0 a1 r1 v6 x21 m7) a0 a1 r1 v6 v23 v24 x29 x31 v35 m11) a0 a1 r1 v6 x29 v37 x41 (zcq n (zaY n (zaj n (zah n a0 a1 r1 m3) a0 a1 r1 v6 x21 m7) a0 a1 r1 v6 v23 v24 x29 x31 v35 m11) a0 a1 r1 v6 x29 v37 x41 m14) v43 v44=some r:=hM
             refine Sq ?_
             refine Rg 1 ?_
             refine Oi (.b (decide (v43<(a0.Coins.length:Int)))) ?_
             refine Ni ?_
             refine Ws ?_
             refine Sq ?_
             rcases bft (decide (v43<(a0.Coins.length:Int))) with hb45 | hb45
             ·replace hM:=ifT hM hb45
              refine Ct hb45 ?_
              refine zaD ?_
              refine Ws ?_
              refine Sq ?_
              refine zaG ?_
              refine Sq ?_
              refine Rg 5 ?_
              refine Om (.i v43) ?_
              obtain ⟨x46,hx46,hM⟩:=zak hM
              refine zbb (xs:=a0.Coins) (f:=cI) (z:=v43) (u:=x46) (by decide) rfl rfl zaJ hx46 ?_
              refine Olp (.i x46) zag zas ?_
              refine Oa (.i v43) ?_
              refine Oa (.i x46) ?_
              refine Ni ?_
              refine Ws ?_
              refine Sq ?_
              have hS0:=hS
              refine zcJ (n:=9) rfl (by kernel_rfl) ?_
              refine Olg (.agg (Wheel.cells r1.1.1.Wheel)) zcZ ?_
              refine Olg (.agg (Stand.cells x41)) zeO ?_
              refine Om (.i v43) ?_
              obtain ⟨r47,hr47,hM⟩:=zak hM
              refine zaK (bs:=[.agg (Wheel.cells r1.1.1.Wheel),.agg (Stand.cells x41),.i v43]) (by decide) rfl rfl ((zfw hr47).le (.k (.k (.k .nil)))) ?_
              refine Of ((Point_.cells x29)) zih ?_
              refine Olp (.i x29.bought) zag zas ?_
              refine zbE (cs:=[.i r47.Place,.i r47.Credit,.i x29.bought]) (by decide) zie zqp rfl ?_
              refine zba hS (by decide) zie (by omega) fun H hS=>?_
              refine zaE (v:=.agg [.i r47.Place,.i r47.Credit,.i x29.bought]) (ns:=[.i r47.Place,.i r47.Credit,.i x29.bought]) (L':=([(g14+1+5+7,.cells [.i r47.Place,.i r47.Credit,.i x29.bought]),(g7+1+4+4+7+4+2,.row 99 v35.length),(g1+4+0,.obj none (zae (mpv zaS (zcW v24 x29 (w64 (x31+1))))))]++zb7 Point_.cells 3 130 v18 v19 v20 v44)) 0 hS rfl rfl (.behind (by kernel_rfl)) rfl rfl zog nlb rfl fun H hS=>?_
              refine Ni ?_
              refine Ws ?_
              refine Sq ?_
              refine Rg 11 ?_
              refine zao (by decide) zih rfl ?_
              refine zaO (v:=.i x29.bought) 0 hS (by decide) rfl rfl .no (po zag zas) ?_
              refine zao (by decide) zfu rfl ?_
              refine zao (by decide) zca rfl ?_
              refine zaO (v:=.i r47.Credit) 0 hS (by decide) rfl rfl .no (po zag zas) ?_
              refine Of ((Stand.cells x41)) zca ?_
              refine Olp (.i x41.Credit) zag zas ?_
              refine Oi (.i (w64 (r47.Credit-x41.Credit))) ?_
              refine Oi (.i (w64 (x29.bought+(w64 (r47.Credit-x41.Credit))))) ?_
              refine zao (by decide) zih rfl ?_
              refine zaE (v:=.i (w64 (x29.bought+(w64 (r47.Credit-x41.Credit))))) (ns:=[.i (w64 (x29.bought+(w64 (r47.Credit-x41.Credit))))]) (L':=([(g14+1+5+7,.cells [.i r47.Place,.i r47.Credit,.i (w64 (x29.bought+(w64 (r47.Credit-x41.Credit))))]),(g7+1+4+4+7+4+2,.row 99 v35.length),(g1+4+0,.obj none (zae (mpv zaS (zcW v24 x29 (w64 (x31+1))))))]++zb7 Point_.cells 3 130 v18 v19 v20 v44)) 0 hS rfl rfl .no rfl rfl zdt nlb rfl fun H hS=>?_
              refine Ni ?_
              refine Ws ?_
              refine Sq ?_
              refine Rg 8 ?_
              refine zao (by decide) zfu rfl ?_
              refine zao (by decide) zca rfl ?_
              refine zaO (v:=.i r47.Credit) 0 hS (by decide) rfl rfl .no (po zag zas) ?_
              refine Olp (.i a1) zag zas ?_
              refine zvP (v:=.i (min r47.Credit a1)) (by decide) rfl ?_
              refine zao (by decide) zfu rfl ?_
              refine zao (by decide) zca rfl ?_
              refine zaE (v:=.i (min r47.Credit a1)) (ns:=[.i (min r47.Credit a1)]) (L':=([(g14+1+5+7,.cells [.i r47.Place,.i (min r47.Credit a1),.i (w64 (x29.bought+(w64 (r47.Credit-x41.Credit))))]),(g7+1+4+4+7+4+2,.row 99 v35.length),(g1+4+0,.obj none (zae (mpv zaS (zcW v24 x29 (w64 (x31+1))))))]++zb7 Point_.cells 3 130 v18 v19 v20 v44)) 0 hS rfl rfl .no rfl rfl zdt nlb rfl fun H hS=>?_
              refine Ni ?_
              refine Ws ?_
              have hS0:=hS
              refine zcJ (n:=15) rfl (by kernel_rfl) ?_
              refine Om (.ms v18 0 1 v19 v19) ?_
              refine Om (.i v6) ?_
              refine Om (.i x46) ?_
              refine Oi (.i (w64 (v6+x46))) ?_
              refine Om (.ms v18 0 1 v19 v19) ?_
              refine Om (.i v6) ?_
              refine Om (.i x46) ?_
              refine Oi (.i (w64 (v6+x46))) ?_
              obtain ⟨x48,hx48,hM⟩:=zak hM
              replace hS:St (·<g) H0 ([(g14+1+5+7,.cells [.i r47.Place,.i (min r47.Credit a1),.i (w64 (x29.bought+(w64 (r47.Credit-x41.Credit))))]),(g7+1+4+4+7+4+2,.row 99 v35.length),(g1+4+0,.obj none (zae (mpv zaS (zcW v24 x29 (w64 (x31+1))))))]++zb7 Point_.cells 3 130 v18 v19 v20 v44) _ _:=hS
              refine zqh (ys:=v44) (z:=(w64 (v6+x46))) (u:=x48) (by decide) hS rfl rfl zif hx48 ?_
              refine zs5 (f:=Point_.cells) (rs:=v20) (ys:=v44) (z:=(w64 (v6+x46))) (u:=x48) hS (by decide) rfl hx48 (.rr hS0 (by omega)) zoh zqq ?_
              refine zaO (v:=.agg [.i r47.Place,.i (min r47.Credit a1),.i (w64 (x29.bought+(w64 (r47.Credit-x41.Credit))))]) 0 hS (by decide) rfl rfl (.st hS0 0 rfl (by omega)) (pg zjn) ?_
              refine zaZ (es:=[[.i r47.Place,.i (min r47.Credit a1),.i (w64 (x29.bought+(w64 (r47.Credit-x41.Credit))))]]) hS (by decide) zkW znn rfl zno rfl (by decide) (by omega) fun H hS=>?_
              obtain ⟨l49,hl49,hM⟩:=zak hM
              replace hS:St (·<g) H0 ([(g14+1+5+9+11+8+11,.row 130 1),(g14+1+5+7,.cells [.i r47.Place,.i (min r47.Credit a1),.i (w64 (x29.bought+(w64 (r47.Credit-x41.Credit))))]),(g7+1+4+4+7+4+2,.row 99 v35.length),(g1+4+0,.obj none (zae (mpv zaS (zcW v24 x29 (w64 (x31+1))))))]++zb7 Point_.cells 3 130 v18 v19 v20 v44) _ _:=hS
              refine zs6 (f:=Point_.cells) (rs:=v20) (ys:=v44) (z:=(w64 (v6+x46))) (u:=x48) (w:=([(⟨(⟨r47.Place,(min r47.Credit a1)⟩:Stand),w64 (x29.bought+(w64 (r47.Credit-x41.Credit)))⟩:Point_)]:List Point_)) (u':=l49) hS (by decide) rfl rfl hx48 (.rw_ hS0 hx48 (by omega)) zkW znn zno hl49 fun H hS=>?_
              obtain ⟨x50,hx50,hM⟩:=zak hM
              refine zs4 (ys:=v44) (z:=(w64 (v6+x46))) (u:=x50) (by decide) hS rfl rfl zif hx50 ?_
              refine zuH (f:=Point_.cells) (rs:=v20) (ys:=v44) (z:=(w64 (v6+x46))) (u:=x50) (u':=l49) hS rfl hx50 (.rr hS0 (by omega)) rfl ztk fun H hS=>?_
              refine Ni ?_
              refine zaw ?_
              replace hS:=hS.keep (L':=([(g7+1+4+4+7+4+2,.row 99 v35.length),(g1+4+0,.obj none (zae (mpv zaS (zcW v24 x29 (w64 (x31+1))))))]++zb7 Point_.cells 3 130 v18 v19 v20 (v44.set (Int.toNat (w64 (v6+x46))) l49))) [false,false,true,true] rfl
              refine Ws ?_
              refine Rg 2 ?_
              refine Oi (.i (w64 (v43+1))) ?_
              refine Om (.i (w64 (v43+1))) ?_
              refine Ni ?_
              exact zbn (w64 (v43+1),(v44.set (Int.toNat (w64 (v6+x46))) l49)) (Nat.lt_succ_self _) (.k (.k (.k (.k (.k (.k (.k (.k (.k (.k (.k (.k (.k (.k (.k (.k (.k .nil))))))))))))))))) ⟨(hS.keep [true,true] rfl).up (by omega),hM⟩
             ·replace hM:=ifF hM hb45
              refine Cf hb45 ?_
              refine zbX ?_
              refine zax ?_
              refine zaA ?_
              refine zaI ?_
              refine zaw ?_
              exact zai v44 (.k (.k (.k (.k (.k (.k (.k (.k (.k (.k (.k (.k (.k .nil))))))))))))) ⟨(hS.keep [true,true] rfl).up (by omega),hM⟩
           ·replace hM:=ifF hM hb39
            refine Cf hb39 ?_
            refine zbX ?_
            refine zax ?_
            refine zaA ?_
            refine zaI ?_
            refine zaw ?_
            exact zai ((zcW v24 x29 (w64 (x31+1))),v38) (.k (.k (.k (.k (.k (.k (.k (.k (.k .nil))))))))) ⟨(hS.keep [false,true] rfl).up (by omega),hM⟩
          ·refine za2 (J:=Bool) (fun j=>[(2,.ep (Wheel.cells a0)),(3,.ep [.i a1]),(6,.ep (Wheel.cells r1.1.1.Wheel)),(8,.ms v18 0 1 v19 v19),(9,.mp (g1+4+0)),(10,.i v6),(12,.ep (Point_.cells x29)),(13,.sl (.id (g7+1+4+4+7+4+2)) 2 (([x29.Stand]:List Stand).map Stand.cells)),(55,.sl .no 3 (x21.map Point_.cells)),(56,.i (x21.length:Int)),(57,.i v23),(88,.b j)]) (fun j H' g'=>St (·<g) H0 ([(g7+1+4+4+7+4+2,.row 99 ([x29.Stand]:List Stand).length),(g1+4+0,.obj none (zae (mpv zaS (zcW v24 x29 (w64 (x31+1))))))]++zb7 Point_.cells 3 130 v18 v19 v20 v25) H' g'/\zbu n (zaj n (zah n a0 a1 r1 m3) a0 a1 r1 v6 x21 m7) a0 a1 r1 v6 v23 v24 v25 x29 x31 j=some r) ?_ ?_
           ·rintro v51 H g15 ⟨hS,hM⟩
            change wpA _ _ _ _ (Fr.of [(2,.ep (Wheel.cells a0)),(3,.ep [.i a1]),(6,.ep (Wheel.cells r1.1.1.Wheel)),(8,.ms v18 0 1 v19 v19),(9,.mp (g1+4+0)),(10,.i v6),(12,.ep (Point_.cells x29)),(13,.sl (.id (g7+1+4+4+7+4+2)) 2 (([x29.Stand]:List Stand).map Stand.cells)),(55,.sl .no 3 (x21.map Point_.cells)),(56,.i (x21.length:Int)),(57,.i v23),(88,.b v51)]) _ _
            replace hS:St (·<g) H0 ([(g7+1+4+4+7+4+2,.row 99 ([x29.Stand]:List Stand).length),(g1+4+0,.obj none (zae (mpv zaS (zcW v24 x29 (w64 (x31+1))))))]++zb7 Point_.cells 3 130 v18 v19 v20 v25) H g15:=hS
            replace hM:zbu n (zaj n (zah n a0 a1 r1 m3) a0 a1 r1 v6 x21 m7) a0 a1 r1 v6 v23 v24 v25 x29 x31 v51=some r:=hM
            rcases bft v51 with hb52 | hb52
            ·replace hM:=ifT hM hb52
             refine Ct hb52 ?_
             refine Rg 8 ?_
             refine Om (.sl (.id (g7+1+4+4+7+4+2)) 2 (([x29.Stand]:List Stand).map Stand.cells)) ?_
             refine Olg (.agg (Wheel.cells r1.1.1.Wheel)) zcZ ?_
             refine Of ((Point_.cells x29)) zfu ?_
             refine Olg (.agg (Stand.cells x29.Stand)) zeO ?_
             obtain ⟨r53,hr53,hM⟩:=zak hM
             refine zaK (bs:=[.agg (Wheel.cells r1.1.1.Wheel),.agg (Stand.cells x29.Stand),.i (-1)]) (by decide) rfl rfl ((zfw hr53).le (.k (.k (.k .nil)))) ?_
             refine zaZ (es:=[(Stand.cells r53)]) hS (by decide) zkX znr rfl zns rfl (by decide) (by omega) fun H hS=>?_
             obtain ⟨l54,hl54,hM⟩:=zak hM
             refine zes (xs:=([x29.Stand]:List Stand)) (ys:=([r53]:List Stand)) (zs:=l54) (f:=Stand.cells) (L':=([(g15+5,.row 99 1),(g7+1+4+4+7+4+2,.row 99 l54.length),(g1+4+0,.obj none (zae (mpv zaS (zcW v24 x29 (w64 (x31+1))))))]++zb7 Point_.cells 3 130 v18 v19 v20 v25)) 1 hS (by decide) rfl rfl rfl rfl .no zkX znr zns hl54 rfl fun H hS=>?_
             refine Oa (.sl (.id (g7+1+4+4+7+4+2)) 2 (l54.map Stand.cells)) ?_
             refine Ni ?_
             exact zai l54 (.k (.k (.k (.k (.k (.k (.k (.k (.k (.k (.k .nil))))))))))) ⟨(hS.keep [false,true,true] rfl).up (by omega),hM⟩
            ·replace hM:=ifF hM hb52
             refine Cf hb52 ?_
             refine zaD ?_
             exact zai ([x29.Stand]:List Stand) (.k (.k (.k (.k (.k (.k (.k (.k (.k (.k (.k .nil))))))))))) ⟨(hS.keep [true,true] rfl).up (by omega),hM⟩
           ·refine Rg 10 ?_
            refine Of ((Point_.cells x29)) zfu ?_
            refine Of ((Point_.cells x29)) zca ?_
            refine Olp (.i x29.Stand.Credit) zag zas ?_
            refine Oi (.b (decide (x29.Stand.Credit>0))) ?_
            refine Om (.b (decide (x29.Stand.Credit>0))) ?_
            rcases bft (decide (x29.Stand.Credit>0)) with hb55 | hb55
            ·replace hM:=ifT hM hb55
             refine Oy (want:=true) hb55 ?_
             refine Of ((Point_.cells x29)) zfu ?_
             refine Oy (want:=true) hb55 ?_
             refine Of ((Point_.cells x29)) zdW ?_
             refine Oy (want:=true) hb55 ?_
             refine Olp (.i x29.Stand.Place) zag zas ?_
             refine Oy (want:=true) hb55 ?_
             refine Oi (.b (decide (x29.Stand.Place>0))) ?_
             refine Pt (.b (decide (x29.Stand.Place>0))) hb55 ?_
             refine Ni ?_
             exact zai (decide (x29.Stand.Place>0)) (.k (.k (.k (.k (.k (.k (.k (.k (.k (.k (.k (.k .nil)))))))))))) ⟨(hS.keep [true,true] rfl).up (by omega),hM⟩
            ·replace hM:=ifF hM hb55
             refine On (want:=true) hb55 ?_
             refine On (want:=true) hb55 ?_
             refine On (want:=true) hb55 ?_
             refine On (want:=true) hb55 ?_
             refine Pf (.b false) hb55 ?_
             refine Ni ?_
             exact zai false (.k (.k (.k (.k (.k (.k (.k (.k (.k (.k (.k (.k .nil)))))))))))) ⟨(hS.keep [true,true] rfl).up (by omega),hM⟩
      ·replace hM:=ifF hM hb26
       refine Cf hb26 ?_
       refine zbX ?_
       refine zax ?_
       refine zaA ?_
       refine zaI ?_
       refine zaw ?_
       exact zai (v24,v25,v18,v19,v20) (.k (.k (.k (.k (.k (.k .nil)))))) ⟨(hS.keep [true] rfl).up (by omega),hM⟩
     ·refine zaG ?_
      replace hS:St (·<g) H0 ([(g1+4+0,.obj none (zae (mpv zaS v7)))]++zb7 Point_.cells 3 130 v9 v10 v11 v8) _ _:=hS
      refine zcx (V:=(List (List Point_))×Nat×Nat×(List Nat)) (fun v=>[(2,.ep (Wheel.cells a0)),(3,.ep [.i a1]),(6,.ep (Wheel.cells r1.1.1.Wheel)),(8,.ms v.2.1 0 1 v.2.2.1 v.2.2.1),(9,.mp (g1+4+0)),(10,.i v6)]) (fun v m17 H' g'=>St (·<g) H0 ([(g1+4+0,.obj none (zae (mpv zaS v7)))]++zjZ Point_.cells 3 130 v.2.1 v.2.2.1 v.2.2.2 v.1) H' g'/\zcr n (zah n a0 a1 r1 m3) a0 a1 r1 v6 v7 m17 v.1=some r) (n:=n) (v8,v9,v10,v11) (.k (.k (.k (.k (.k (.k .nil)))))) ⟨(hS.toP.keep [true] rfl).up (by omega),hM⟩ ?_
      rintro ⟨v56,v57,v58,v59⟩ m17 H g17 ⟨hS,hM⟩
      obtain _ | m17:=m17
      ·exact nomatch (show none=some _ from hM)
      change wpA _ _ _ _ (Fr.of [(2,.ep (Wheel.cells a0)),(3,.ep [.i a1]),(6,.ep (Wheel.cells r1.1.1.Wheel)),(8,.ms v57 0 1 v58 v58),(9,.mp (g1+4+0)),(10,.i v6)]) _ _
      replace hS:St (·<g) H0 ([(g1+4+0,.obj none (zae (mpv zaS v7)))]++zjZ Point_.cells 3 130 v57 v58 v59 v56) H g17:=hS
      replace hM:zdK n (zah n a0 a1 r1 m3) a0 a1 r1 v6 v7 (zcr n (zah n a0 a1 r1 m3) a0 a1 r1 v6 v7 m17) v56=some r:=hM
      refine Sq ?_
      refine Sq ?_
      refine Rg 5 ?_
      refine Om (.ms v57 0 1 v58 v58) ?_
      replace hS:St (·<g) H0 ([(g1+4+0,.obj none (zae (mpv zaS v7)))]++zjZ Point_.cells 3 130 v57 v58 v59 v56) _ _:=hS
      refine zxq (n:=v56.length) (by decide) rfl hS.lenP ztm ?_
      refine Om (.i v6) ?_
      refine Oi (.i (w64 (v6+100))) ?_
      refine Oi (.b (decide ((v56.length:Int)<=(w64 (v6+100))))) ?_
      refine Ni ?_
      replace hS:St (·<g) H0 ([(g1+4+0,.obj none (zae (mpv zaS v7)))]++zjZ Point_.cells 3 130 v57 v58 v59 v56) _ _:=hS
      refine zxs hS (by omega) (by decide) fun v60 H hS=>?_
      refine Ws ?_
      rcases bft (decide ((v56.length:Int)<=(w64 (v6+100)))) with hb61 | hb61
      ·replace hM:=ifT hM hb61
       refine Ct hb61 ?_
       refine zaD ?_
       refine Ws ?_
       refine zaG ?_
       refine Rg 4 ?_
       refine Om (.ms v57 0 1 v58 v58) ?_
       refine zaZ (es:=[[.sl .nil 0 []]]) hS (by decide) zif zqr rfl znp rfl (by decide) (by omega) fun H hS=>?_
       obtain ⟨l62,hl62,hM⟩:=zak hM
       replace hS:St (·<g) H0 ([(g17+5+1+1,.row 131 1),(g1+4+0,.obj none (zae (mpv zaS v7)))]++zb7 Point_.cells 3 130 v57 v58 v60 v56) _ _:=hS
       refine zv1 (f:=Point_.cells) (rs:=v60) (ys:=v56) (ys':=l62) hS (by decide) rfl rfl zif znp hl62 (by omega) fun H hS=>?_
       refine Oa (.ms (g17+5+1+2) 0 1 l62.length l62.length) ?_
       refine Ni ?_
       refine zaw ?_
       exact zbn (l62,g17+5+1+2,l62.length,v60) (Nat.lt_succ_self _) (.k (.k (.k (.k (.k (.k .nil)))))) ⟨(hS.keep [false,true] rfl).up (by omega),hM⟩
      ·replace hM:=ifF hM hb61
       refine Cf hb61 ?_
       refine zbX ?_
       refine zax ?_
       refine zaA ?_
       refine zaI ?_
       exact zai (v56,v57,v58,v60) (.k (.k (.k (.k (.k (.k .nil)))))) ⟨(hS.keep [true] rfl).up (by omega),hM⟩
  ·refine Rg 10 ?_
   refine Of ((Wheel.cells a0)) zb8 ?_
   refine Olp (.sl .no 1 (a0.Coins.map cI)) zaC zaW ?_
   refine zct (n:=a0.Coins.length) (by decide) rfl (List.length_map _) zaT ?_
   refine Oi (.b ((a0.Coins.length:Int)==0)) ?_
   refine Om (.b ((a0.Coins.length:Int)==0)) ?_
   rcases bft ((a0.Coins.length:Int)==0) with hb63 | hb63
   ·replace hM:=ifT hM hb63
    refine On (want:=false) hb63 ?_
    refine On (want:=false) hb63 ?_
    refine On (want:=false) hb63 ?_
    refine On (want:=false) hb63 ?_
    refine Pt (.b true) hb63 ?_
    refine Ni ?_
    exact zai true (.k (.k (.k (.k .nil)))) ⟨(hS.keep [] rfl).up (by omega),hM⟩
   ·replace hM:=ifF hM hb63
    refine Oy (want:=false) hb63 ?_
    refine Of ((Wheel.cells a0)) zgw ?_
    refine Oy (want:=false) hb63 ?_
    refine Olp (.sl .no 1 (a0.Notches.map cI)) zaC zaW ?_
    refine Oy (want:=false) hb63 ?_
    refine zct (n:=a0.Notches.length) (by decide) rfl (List.length_map _) zaT ?_
    refine Oy (want:=false) hb63 ?_
    refine Oi (.b ((a0.Notches.length:Int)==0)) ?_
    refine Pf (.b ((a0.Notches.length:Int)==0)) hb63 ?_
    refine Ni ?_
    exact zai ((a0.Notches.length:Int)==0) (.k (.k (.k (.k .nil)))) ⟨(hS.keep [] rfl).up (by omega),hM⟩
theorem zjG {n:Nat} {a0:Box} {r:Bool} (hM:zf2 n a0=some r):zaR Try.prog 13 [.agg (Box.cells a0)] (.b r):=by
 refine zau mixed Try.func13 rfl (by decide) Try.ntmps13 (by simp) ?pure fun H0 g hf=>?_
 case pure=>exact .v _
 rw [zam]
 change wpA _ _ _ _ (Fr.of [(0,.agg (Box.cells a0))]) H0 g
 have hS:=St.start hf
 refine Sq ?_
 refine Rg 2 ?_
 refine zcE (v:=.agg (Box.cells a0)) (cs:=(Box.cells a0)) hS (by decide) rfl rfl (by omega) fun H hS=>?_
 refine Oa (.b false) ?_
 refine Ni ?_
 refine za6 (L':=[]) 0 1 hS rfl rfl rfl fun H hS=>?_
 refine Ws ?_
 refine Sq ?_
 refine za2 (J:=Bool) (fun j=>[(1,.ep (Box.cells a0)),(28,.b j)]) (fun j H' g'=>St (·<g) H0 [] H' g'/\zbs n a0 j=some r) ?_ ?_
 ·rintro v1 H g1 ⟨hS,hM⟩
  change wpA _ _ _ _ (Fr.of [(1,.ep (Box.cells a0)),(28,.b v1)]) _ _
  replace hS:St (·<g) H0 [] H g1:=hS
  replace hM:zbs n a0 v1=some r:=hM
  rcases bft v1 with hb2 | hb2
  ·replace hM:=ifT hM hb2
   refine Ct hb2 ?_
   refine Sq ?_
   refine Rg 2 ?_
   obtain ⟨r3,hr3,hM⟩:=zak hM
   refine zaK (bs:=[]) (by decide) rfl rfl ((zf3 hr3).le .nil) ?_
   refine Oa (.b r3) ?_
   refine Ni ?_
   refine Ws ?_
   refine za0 ?_
   refine zan ?_
   refine za8 (x:=.b r3) (f:=fun r=>.b r) (.inr rfl) ?_ (.refl _) (Option.some.inj hM) hS
   exact (zaH (zaf (x:=.b r3) rfl))
  ·replace hM:=ifF hM hb2
   refine Cf hb2 ?_
   refine zaD ?_
   refine Ws ?_
   refine Sq ?_
   refine Rg 3 ?_
   refine Olg (.agg (Box.cells a0)) zcw ?_
   obtain ⟨r4,hr4,hM⟩:=zak hM
   refine zaK (bs:=[.agg (Box.cells a0)]) (by decide) rfl rfl ((zlG hr4).le (.k .nil)) ?_
   refine Oa (.sl .no 1 (r4.map cI)) ?_
   refine Ni ?_
   refine Ws ?_
   refine Sq ?_
   have hS0:=hS
   refine zcJ (n:=11) rfl (by kernel_rfl) ?_
   refine Of ((Box.cells a0)) zb9 ?_
   refine Olg (.agg (Wheel.cells a0.Wheel)) zbS ?_
   refine zaZ (es:=[]) hS (by decide) zaJ zbT rfl zbJ rfl (by decide) (by omega) fun H hS=>?_
   refine Om (.sl .no 1 (r4.map cI)) ?_
   obtain ⟨l5,hl5,hM⟩:=zak hM
   refine zes (xs:=([]:List Int)) (ys:=r4) (zs:=l5) (f:=cI) (L':=[(g1+3+2,.row 3 l5.length)]) 0 hS (by decide) rfl rfl rfl rfl (.behind (by kernel_rfl)) zaJ zbT zbJ hl5 rfl fun H hS=>?_
   obtain ⟨r6,hr6,hM⟩:=zak hM
   refine zaK (bs:=[.agg (Wheel.cells a0.Wheel),.sl (.id (g1+3+2)) 1 (l5.map cI)]) (by decide) rfl rfl ((zkw hr6).le (.k (.cons (.sl _ _ _) .nil))) ?_
   refine Om (.tup [.i r6.1,.i r6.2]) ?_
   refine Ox (.i r6.1) ?_
   refine Ox (.i r6.2) ?_
   refine Oa (.i r6.1) ?_
   refine Oa (.i r6.2) ?_
   refine Ni ?_
   replace hS:=hS.keep (L':=[]) [false] rfl
   refine Ws ?_
   refine Sq ?_
   have hS0:=hS
   refine zcJ (n:=11) rfl (by kernel_rfl) ?_
   refine Of ((Box.cells a0)) zb9 ?_
   refine Olg (.agg (Wheel.cells a0.Wheel)) zbS ?_
   refine zaZ (es:=[]) hS (by decide) zaJ zbT rfl zbJ rfl (by decide) (by omega) fun H hS=>?_
   refine Om (.sl .no 1 (r4.map cI)) ?_
   obtain ⟨l7,hl7,hM⟩:=zak hM
   refine zes (xs:=([]:List Int)) (ys:=r4) (zs:=l7) (f:=cI) (L':=[(g1+3+11+2,.row 3 l7.length)]) 0 hS (by decide) rfl rfl rfl rfl (.behind (by kernel_rfl)) zaJ zbT zbJ hl7 rfl fun H hS=>?_
   obtain ⟨r8,hr8,hM⟩:=zak hM
   refine zaK (bs:=[.agg (Wheel.cells a0.Wheel),.sl (.id (g1+3+11+2)) 1 (l7.map cI)]) (by decide) rfl rfl ((zny hr8).le (.k (.cons (.sl _ _ _) .nil))) ?_
   refine Om (.tup [.i r8.1,.i r8.2]) ?_
   refine Ox (.i r8.1) ?_
   refine Ox (.i r8.2) ?_
   refine Oa (.i r8.1) ?_
   refine Oa (.i r8.2) ?_
   refine Ni ?_
   replace hS:=hS.keep (L':=[]) [false] rfl
   refine Ws ?_
   refine Sq ?_
   refine za2 (J:=Bool) (fun j=>[(1,.ep (Box.cells a0)),(3,.sl .no 1 (r4.map cI)),(4,.i r6.1),(6,.i r8.1),(68,.b j)]) (fun j H' g'=>St (·<g) H0 [] H' g'/\zbr n a0 r4 r6 r8 j=some r) ?_ ?_
   ·rintro v9 H g2 ⟨hS,hM⟩
    change wpA _ _ _ _ (Fr.of [(1,.ep (Box.cells a0)),(3,.sl .no 1 (r4.map cI)),(4,.i r6.1),(6,.i r8.1),(68,.b v9)]) _ _
    replace hS:St (·<g) H0 [] H g2:=hS
    replace hM:zbr n a0 r4 r6 r8 v9=some r:=hM
    rcases bft v9 with hb10 | hb10
    ·replace hM:=ifT hM hb10
     refine Ct hb10 ?_
     refine Sq ?_
     refine Rg 1 ?_
     refine Oa (.b false) ?_
     refine Ni ?_
     refine Ws ?_
     refine za0 ?_
     refine zan ?_
     refine za8 (x:=.b false) (f:=fun r=>.b r) (.inr rfl) ?_ (.refl _) (Option.some.inj hM) hS
     exact (zaH (zaf (x:=.b false) rfl))
    ·replace hM:=ifF hM hb10
     refine Cf hb10 ?_
     refine zaD ?_
     refine Ws ?_
     refine Sq ?_
     refine Rg 4 ?_
     refine Olg (.agg (Box.cells a0)) zcw ?_
     obtain ⟨r11,hr11,hM⟩:=zak hM
     refine zaK (bs:=[.agg (Box.cells a0)]) (by decide) rfl rfl ((zos hr11).le (.k .nil)) ?_
     refine zba hS (by decide) zjj (by omega) fun H hS=>?_
     refine zaE (v:=.agg (Box.cells r11)) (ns:=(Box.cells r11)) (L':=[(g2+2,.cells (Box.cells r11))]) 0 hS rfl rfl .no rfl rfl znm nlb rfl fun H hS=>?_
     refine Ni ?_
     refine Ws ?_
     refine Sq ?_
     refine Rg 2 ?_
     refine zao (by decide) zjv rfl ?_
     refine zaE (v:=.i 0) (ns:=[.i 0]) (L':=[(g2+2,.cells [.i r11.Wheel.Round,.sl .no 1 (r11.Wheel.Notches.map cI),.sl .no 1 (r11.Wheel.Coins.map cI),.sl .no 1 (r11.Found.map cI),.sl .no 1 (r11.Marked.map cI),.sl .no 1 (r11.Slugs.map cI),.i r11.Plays,.i 0])]) 0 hS rfl rfl .no rfl rfl zdt nlb rfl fun H hS=>?_
     refine Ni ?_
     refine Ws ?_
     refine za2 (J:=Int) (fun j=>[(1,.ep (Box.cells a0)),(3,.sl .no 1 (r4.map cI)),(4,.i r6.1),(8,.ptr (g2+2) 0)]) (fun j H' g'=>St (·<g) H0 [(g2+2,.cells [.i r11.Wheel.Round,.sl .no 1 (r11.Wheel.Notches.map cI),.sl .no 1 (r11.Wheel.Coins.map cI),.sl .no 1 (r11.Found.map cI),.sl .no 1 (r11.Marked.map cI),.sl .no 1 (r11.Slugs.map cI),.i j,.i 0])] H' g'/\zcY n a0 r4 r6 r11 j=some r) ?_ ?_
     ·rintro v12 H g3 ⟨hS,hM⟩
      change wpA _ _ _ _ (Fr.of [(1,.ep (Box.cells a0)),(3,.sl .no 1 (r4.map cI)),(4,.i r6.1),(8,.ptr (g2+2) 0)]) _ _
      replace hS:St (·<g) H0 [(g2+2,.cells [.i r11.Wheel.Round,.sl .no 1 (r11.Wheel.Notches.map cI),.sl .no 1 (r11.Wheel.Coins.map cI),.sl .no 1 (r11.Found.map cI),.sl .no 1 (r11.Marked.map cI),.sl .no 1 (r11.Slugs.map cI),.i v12,.i 0])] H g3:=hS
      replace hM:zcY n a0 r4 r6 r11 v12=some r:=hM
      refine Sq ?_
      refine Rg 4 ?_
      refine Om (.i r6.1) ?_
      refine Oi (.i (w64 (r6.1+1))) ?_
      refine zao (by decide) zfg rfl ?_
      refine zaE (v:=.i (w64 (r6.1+1))) (ns:=[.i (w64 (r6.1+1))]) (L':=[(g2+2,.cells [.i r11.Wheel.Round,.sl .no 1 (r11.Wheel.Notches.map cI),.sl .no 1 (r11.Wheel.Coins.map cI),.sl .no 1 (r11.Found.map cI),.sl .no 1 (r11.Marked.map cI),.sl .no 1 (r11.Slugs.map cI),.i (w64 (r6.1+1)),.i 0])]) 0 hS rfl rfl .no rfl rfl zdt nlb rfl fun H hS=>?_
      refine Ni ?_
      refine Ws ?_
      refine Sq ?_
      refine Rg 7 ?_
      refine zaO (v:=.agg [.i r11.Wheel.Round,.sl .no 1 (r11.Wheel.Notches.map cI),.sl .no 1 (r11.Wheel.Coins.map cI),.sl .no 1 (r11.Found.map cI),.sl .no 1 (r11.Marked.map cI),.sl .no 1 (r11.Slugs.map cI),.i (w64 (r6.1+1)),.i 0]) 0 hS (by decide) rfl rfl .no (pg zcw) ?_
      obtain ⟨r13,hr13,hM⟩:=zak hM
      refine zaK (bs:=[.agg [.i r11.Wheel.Round,.sl .no 1 (r11.Wheel.Notches.map cI),.sl .no 1 (r11.Wheel.Coins.map cI),.sl .no 1 (r11.Found.map cI),.sl .no 1 (r11.Marked.map cI),.sl .no 1 (r11.Slugs.map cI),.i (w64 (r6.1+1)),.i 0]]) (by decide) rfl rfl ((zfy hr13).le (.k .nil)) ?_
      refine Om (.tup [.i r13.1,.i r13.2]) ?_
      refine Ox (.i r13.1) ?_
      refine Ox (.i r13.2) ?_
      refine Oa (.i r13.1) ?_
      refine Oa (.i r13.2) ?_
      refine Ni ?_
      refine Ws ?_
      refine Sq ?_
      refine Rg 7 ?_
      refine zaO (v:=.agg [.i r11.Wheel.Round,.sl .no 1 (r11.Wheel.Notches.map cI),.sl .no 1 (r11.Wheel.Coins.map cI),.sl .no 1 (r11.Found.map cI),.sl .no 1 (r11.Marked.map cI),.sl .no 1 (r11.Slugs.map cI),.i (w64 (r6.1+1)),.i 0]) 0 hS (by decide) rfl rfl .no (pg zcw) ?_
      obtain ⟨r14,hr14,hM⟩:=zak hM
      refine zaK (bs:=[.agg [.i r11.Wheel.Round,.sl .no 1 (r11.Wheel.Notches.map cI),.sl .no 1 (r11.Wheel.Coins.map cI),.sl .no 1 (r11.Found.map cI),.sl .no 1 (r11.Marked.map cI),.sl .no 1 (r11.Slugs.map cI),.i (w64 (r6.1+1)),.i 0]]) (by decide) rfl rfl ((zh2 hr14).le (.k .nil)) ?_
      refine Om (.tup [.i r14.1,.i r14.2]) ?_
      refine Ox (.i r14.1) ?_
      refine Ox (.i r14.2) ?_
      refine Oa (.i r14.1) ?_
      refine Oa (.i r14.2) ?_
      refine Ni ?_
      refine Ws ?_
      refine Sq ?_
      refine Rg 7 ?_
      refine zaO (v:=.agg [.i r11.Wheel.Round,.sl .no 1 (r11.Wheel.Notches.map cI),.sl .no 1 (r11.Wheel.Coins.map cI),.sl .no 1 (r11.Found.map cI),.sl .no 1 (r11.Marked.map cI),.sl .no 1 (r11.Slugs.map cI),.i (w64 (r6.1+1)),.i 0]) 0 hS (by decide) rfl rfl .no (pg zcw) ?_
      obtain ⟨r15,hr15,hM⟩:=zak hM
      refine zaK (bs:=[.agg [.i r11.Wheel.Round,.sl .no 1 (r11.Wheel.Notches.map cI),.sl .no 1 (r11.Wheel.Coins.map cI),.sl .no 1 (r11.Found.map cI),.sl .no 1 (r11.Marked.map cI),.sl .no 1 (r11.Slugs.map cI),.i (w64 (r6.1+1)),.i 0]]) (by decide) rfl rfl ((zhb hr15).le (.k .nil)) ?_
      refine Om (.tup [.i r15.1,.i r15.2]) ?_
      refine Ox (.i r15.1) ?_
      refine Ox (.i r15.2) ?_
      refine Oa (.i r15.1) ?_
      refine Oa (.i r15.2) ?_
      refine Ni ?_
      replace hS:=hS.keep (L':=[]) [false] rfl
      refine Ws ?_
      refine Sq ?_
      refine za2 (J:=Bool) (fun j=>[(1,.ep (Box.cells a0)),(3,.sl .no 1 (r4.map cI)),(4,.i r6.1),(163,.b j)]) (fun j H' g'=>St (·<g) H0 [] H' g'/\zay n a0 r4 r6 j=some r) ?_ ?_
      ·rintro v16 H g4 ⟨hS,hM⟩
       change wpA _ _ _ _ (Fr.of [(1,.ep (Box.cells a0)),(3,.sl .no 1 (r4.map cI)),(4,.i r6.1),(163,.b v16)]) _ _
       replace hS:St (·<g) H0 [] H g4:=hS
       replace hM:zay n a0 r4 r6 v16=some r:=hM
       rcases bft v16 with hb17 | hb17
       ·replace hM:=ifT hM hb17
        refine Ct hb17 ?_
        refine Sq ?_
        refine Rg 1 ?_
        refine Oa (.b false) ?_
        refine Ni ?_
        refine Ws ?_
        refine za0 ?_
        refine zan ?_
        refine za8 (x:=.b false) (f:=fun r=>.b r) (.inr rfl) ?_ (.refl _) (Option.some.inj hM) hS
        exact (zaH (zaf (x:=.b false) rfl))
       ·replace hM:=ifF hM hb17
        refine Cf hb17 ?_
        refine zaD ?_
        refine Ws ?_
        refine Sq ?_
        refine za2 (J:=Bool) (fun j=>[(1,.ep (Box.cells a0)),(3,.sl .no 1 (r4.map cI)),(4,.i r6.1),(169,.b j)]) (fun j H' g'=>St (·<g) H0 [] H' g'/\zbH n a0 r4 r6 j=some r) ?_ ?_
        ·rintro v18 H g5 ⟨hS,hM⟩
         change wpA _ _ _ _ (Fr.of [(1,.ep (Box.cells a0)),(3,.sl .no 1 (r4.map cI)),(4,.i r6.1),(169,.b v18)]) _ _
         replace hS:St (·<g) H0 [] H g5:=hS
         replace hM:zbH n a0 r4 r6 v18=some r:=hM
         rcases bft v18 with hb19 | hb19
         ·replace hM:=ifT hM hb19
          refine Ct hb19 ?_
          refine Sq ?_
          refine Rg 2 ?_
          obtain ⟨r20,hr20,hM⟩:=zak hM
          refine zaK (bs:=[]) (by decide) rfl rfl ((zf3 hr20).le .nil) ?_
          refine Oa (.b r20) ?_
          refine Ni ?_
          refine Ws ?_
          refine za0 ?_
          refine zan ?_
          refine za8 (x:=.b r20) (f:=fun r=>.b r) (.inr rfl) ?_ (.refl _) (Option.some.inj hM) hS
          exact (zaH (zaf (x:=.b r20) rfl))
         ·replace hM:=ifF hM hb19
          refine Cf hb19 ?_
          refine zaD ?_
          refine Ws ?_
          refine Sq ?_
          refine Rg 9 ?_
          refine Of ((Box.cells a0)) zb9 ?_
          refine Olg (.agg (Wheel.cells a0.Wheel)) zbS ?_
          refine Om (.i r6.1) ?_
          obtain ⟨r21,hr21,hM⟩:=zak hM
          refine zaK (bs:=[.agg (Wheel.cells a0.Wheel),.i r6.1]) (by decide) rfl rfl ((zkI hr21).le (.k (.k .nil))) ?_
          refine Om (.tup [.i r21.1,.i r21.2]) ?_
          refine Ox (.i r21.1) ?_
          refine Ox (.i r21.2) ?_
          refine Oa (.i r21.1) ?_
          refine Oa (.i r21.2) ?_
          refine Ni ?_
          refine Ws ?_
          refine za2 (J:=Bool) (fun j=>[(2,.b j)]) (fun j H' g'=>St (·<g) H0 [] H' g'/\zcs j=some r) ?_ ?_
          ·rintro v22 H g6 ⟨hS,hM⟩
           change wpA _ _ _ _ (Fr.of [(2,.b v22)]) _ _
           replace hS:St (·<g) H0 [] H g6:=hS
           replace hM:zcs v22=some r:=hM
           refine za0 ?_
           refine za8 (x:=.b v22) (f:=fun r=>.b r) (.inr rfl) ?_ (.refl _) (Option.some.inj hM) hS
           exact (zaH (zaf (x:=.b v22) rfl))
          ·refine Rg 18 ?_
           refine Om (.i r21.2) ?_
           refine Oi (.b (r21.2==0)) ?_
           refine Om (.b (r21.2==0)) ?_
           rcases bft (r21.2==0) with hb23 | hb23
           ·replace hM:=ifT hM hb23
            refine Oy (want:=true) hb23 ?_
            refine Om (.i r21.1) ?_
            refine Oy (want:=true) hb23 ?_
            refine Oi (.b (decide (r21.1≥1))) ?_
            refine Pt (.b (decide (r21.1≥1))) hb23 ?_
            refine Om (.b (decide (r21.1≥1))) ?_
            rcases bft (decide (r21.1≥1)) with hb24 | hb24
            ·replace hM:=ifT hM hb24
             refine Oy (want:=true) hb24 ?_
             refine Om (.i r21.1) ?_
             refine Oy (want:=true) hb24 ?_
             refine Of ((Box.cells a0)) zb9 ?_
             refine Oy (want:=true) hb24 ?_
             refine Olg (.agg (Wheel.cells a0.Wheel)) zbS ?_
             refine Oy (want:=true) hb24 ?_
             refine Om (.sl .no 1 (r4.map cI)) ?_
             refine Oy (want:=true) hb24 ?_
             obtain ⟨r25,hr25,hM⟩:=zak hM
             refine zaK (bs:=[.agg (Wheel.cells a0.Wheel),.sl .no 1 (r4.map cI)]) (by decide) rfl rfl ((zjF hr25).le (.k (.k .nil))) ?_
             refine Oy (want:=true) hb24 ?_
             refine Oi (.b (decide (r21.1<=r25))) ?_
             refine Pt (.b (decide (r21.1<=r25))) hb24 ?_
             refine Om (.b (decide (r21.1<=r25))) ?_
             rcases bft (decide (r21.1<=r25)) with hb26 | hb26
             ·replace hM:=ifT hM hb26
              refine Oy (want:=true) hb26 ?_
              obtain ⟨r27,hr27,hM⟩:=zak hM
              refine zaK (bs:=[]) (by decide) rfl rfl ((zf3 hr27).le .nil) ?_
              refine Pt (.b r27) hb26 ?_
              refine Oa (.b r27) ?_
              refine Ni ?_
              exact zai r27 (.k .nil) ⟨(hS.keep [] rfl).up (by omega),hM⟩
             ·replace hM:=ifF hM hb26
              refine On (want:=true) hb26 ?_
              refine Pf (.b false) hb26 ?_
              refine Oa (.b false) ?_
              refine Ni ?_
              exact zai false (.k .nil) ⟨(hS.keep [] rfl).up (by omega),hM⟩
            ·replace hM:=ifF hM hb24
             refine On (want:=true) hb24 ?_
             refine On (want:=true) hb24 ?_
             refine On (want:=true) hb24 ?_
             refine On (want:=true) hb24 ?_
             refine On (want:=true) hb24 ?_
             refine On (want:=true) hb24 ?_
             refine Pf (.b false) hb24 ?_
             refine Om (.b false) ?_
             refine Og ?_
             refine ze7 (v:=.b false) (e:=false) (by decide) rfl rfl rfl ?_
             refine Oa (.b false) ?_
             refine Ni ?_
             exact zai false (.k .nil) ⟨(hS.keep [] rfl).up (by omega),hM⟩
           ·replace hM:=ifF hM hb23
            refine On (want:=true) hb23 ?_
            refine On (want:=true) hb23 ?_
            refine Pf (.b false) hb23 ?_
            refine Om (.b false) ?_
            refine Og ?_
            refine Og ?_
            refine Og ?_
            refine Og ?_
            refine Og ?_
            refine Og ?_
            refine ze7 (v:=.b false) (e:=false) (by decide) rfl rfl rfl ?_
            refine Om (.b false) ?_
            refine Og ?_
            refine ze7 (v:=.b false) (e:=false) (by decide) rfl rfl rfl ?_
            refine Oa (.b false) ?_
            refine Ni ?_
            exact zai false (.k .nil) ⟨(hS.keep [] rfl).up (by omega),hM⟩
        ·refine Rg 6 ?_
         refine Om (.i r6.1) ?_
         refine Oi (.b (decide (r6.1<1))) ?_
         refine Om (.b (decide (r6.1<1))) ?_
         rcases bft (decide (r6.1<1)) with hb28 | hb28
         ·replace hM:=ifT hM hb28
          refine On (want:=false) hb28 ?_
          refine On (want:=false) hb28 ?_
          refine Pt (.b true) hb28 ?_
          refine Ni ?_
          exact zai true (.k (.k (.k (.k .nil)))) ⟨(hS.keep [] rfl).up (by omega),hM⟩
         ·replace hM:=ifF hM hb28
          refine Oy (want:=false) hb28 ?_
          refine Om (.i r6.1) ?_
          refine Oy (want:=false) hb28 ?_
          refine Oi (.b (decide (r6.1>20))) ?_
          refine Pf (.b (decide (r6.1>20))) hb28 ?_
          refine Ni ?_
          exact zai (decide (r6.1>20)) (.k (.k (.k (.k .nil)))) ⟨(hS.keep [] rfl).up (by omega),hM⟩
      ·refine Rg 26 ?_
       refine Om (.i r13.2) ?_
       refine Oi (.b (r13.2==0)) ?_
       refine Om (.b (r13.2==0)) ?_
       rcases bft (r13.2==0) with hb29 | hb29
       ·replace hM:=ifT hM hb29
        refine Oy (want:=true) hb29 ?_
        refine Om (.i r13.1) ?_
        refine Oy (want:=true) hb29 ?_
        refine Oi (.b (decide (r13.1<1))) ?_
        refine Pt (.b (decide (r13.1<1))) hb29 ?_
        refine Om (.b (decide (r13.1<1))) ?_
        rcases bft (decide (r13.1<1)) with hb30 | hb30
        ·replace hM:=ifT hM hb30
         refine On (want:=false) hb30 ?_
         refine On (want:=false) hb30 ?_
         refine On (want:=false) hb30 ?_
         refine zaB (j:=9) (by decide) rfl ?_
         refine zaB (j:=9) (by decide) rfl ?_
         refine On (want:=false) hb30 ?_
         refine Pt (.b true) hb30 ?_
         refine Om (.b true) ?_
         refine Og ?_
         refine Og ?_
         refine za3 (v:=.b true) (e:=true) (by decide) rfl rfl rfl ?_
         refine Om (.b true) ?_
         refine Og ?_
         refine Og ?_
         refine za3 (v:=.b true) (e:=true) (by decide) rfl rfl rfl ?_
         refine Om (.b true) ?_
         refine Og ?_
         refine Og ?_
         refine za3 (v:=.b true) (e:=true) (by decide) rfl rfl rfl ?_
         refine Ni ?_
         exact zai true (.k (.k (.k (.k .nil)))) ⟨(hS.keep [] rfl).up (by omega),hM⟩
        ·replace hM:=ifF hM hb30
         refine Oy (want:=false) hb30 ?_
         refine Om (.i r13.2) ?_
         refine Oy (want:=false) hb30 ?_
         refine Oi (.b (r13.2 != 0)) ?_
         refine Oy (want:=false) hb30 ?_
         refine Om (.b (r13.2 != 0)) ?_
         rcases bft (r13.2 != 0) with hb31 | hb31
         ·replace hM:=ifT hM hb31
          refine Oy (want:=true) hb31 ?_
          refine Om (.i r13.2) ?_
          refine Oy (want:=true) hb31 ?_
          refine Oi (.b (r13.2 != 3)) ?_
          refine Oy (want:=false) hb30 ?_
          refine Pt (.b (r13.2 != 3)) hb31 ?_
          refine Pf (.b (r13.2 != 3)) hb30 ?_
          refine Om (.b (r13.2 != 3)) ?_
          rcases bft (r13.2 != 3) with hb32 | hb32
          ·replace hM:=ifT hM hb32
           refine On (want:=false) hb32 ?_
           refine On (want:=false) hb32 ?_
           refine Pt (.b true) hb32 ?_
           refine Om (.b true) ?_
           refine Og ?_
           refine Og ?_
           refine za3 (v:=.b true) (e:=true) (by decide) rfl rfl rfl ?_
           refine Om (.b true) ?_
           refine Og ?_
           refine Og ?_
           refine za3 (v:=.b true) (e:=true) (by decide) rfl rfl rfl ?_
           refine Ni ?_
           exact zai true (.k (.k (.k (.k .nil)))) ⟨(hS.keep [] rfl).up (by omega),hM⟩
          ·replace hM:=ifF hM hb32
           refine Oy (want:=false) hb32 ?_
           refine Om (.i r14.2) ?_
           refine Oy (want:=false) hb32 ?_
           refine Oi (.b (r14.2 != 0)) ?_
           refine Pf (.b (r14.2 != 0)) hb32 ?_
           refine Om (.b (r14.2 != 0)) ?_
           rcases bft (r14.2 != 0) with hb33 | hb33
           ·replace hM:=ifT hM hb33
            refine On (want:=false) hb33 ?_
            refine On (want:=false) hb33 ?_
            refine Pt (.b true) hb33 ?_
            refine Om (.b true) ?_
            refine Og ?_
            refine Og ?_
            refine za3 (v:=.b true) (e:=true) (by decide) rfl rfl rfl ?_
            refine Ni ?_
            exact zai true (.k (.k (.k (.k .nil)))) ⟨(hS.keep [] rfl).up (by omega),hM⟩
           ·replace hM:=ifF hM hb33
            refine Oy (want:=false) hb33 ?_
            refine Om (.i r14.1) ?_
            refine Oy (want:=false) hb33 ?_
            refine Oi (.b (r14.1 != 1)) ?_
            refine Pf (.b (r14.1 != 1)) hb33 ?_
            refine Om (.b (r14.1 != 1)) ?_
            rcases bft (r14.1 != 1) with hb34 | hb34
            ·replace hM:=ifT hM hb34
             refine On (want:=false) hb34 ?_
             refine On (want:=false) hb34 ?_
             refine Pt (.b true) hb34 ?_
             refine Ni ?_
             exact zai true (.k (.k (.k (.k .nil)))) ⟨(hS.keep [] rfl).up (by omega),hM⟩
            ·replace hM:=ifF hM hb34
             refine Oy (want:=false) hb34 ?_
             refine Om (.i r15.2) ?_
             refine Oy (want:=false) hb34 ?_
             refine Oi (.b (r15.2 != 3)) ?_
             refine Pf (.b (r15.2 != 3)) hb34 ?_
             refine Ni ?_
             exact zai (r15.2 != 3) (.k (.k (.k (.k .nil)))) ⟨(hS.keep [] rfl).up (by omega),hM⟩
         ·replace hM:=ifF hM hb31
          refine On (want:=true) hb31 ?_
          refine On (want:=true) hb31 ?_
          refine Oy (want:=false) hb30 ?_
          refine Pf (.b false) hb31 ?_
          refine Pf (.b false) hb30 ?_
          refine Om (.b false) ?_
          refine Oz ?_
          refine Om (.i r14.2) ?_
          refine Oz ?_
          refine Oi (.b (r14.2 != 0)) ?_
          refine ze7 (v:=.b (r14.2 != 0)) (e:=false) (by decide) rfl rfl rfl ?_
          refine Om (.b (r14.2 != 0)) ?_
          rcases bft (r14.2 != 0) with hb35 | hb35
          ·replace hM:=ifT hM hb35
           refine On (want:=false) hb35 ?_
           refine On (want:=false) hb35 ?_
           refine Pt (.b true) hb35 ?_
           refine Om (.b true) ?_
           refine Og ?_
           refine Og ?_
           refine za3 (v:=.b true) (e:=true) (by decide) rfl rfl rfl ?_
           refine Ni ?_
           exact zai true (.k (.k (.k (.k .nil)))) ⟨(hS.keep [] rfl).up (by omega),hM⟩
          ·replace hM:=ifF hM hb35
           refine Oy (want:=false) hb35 ?_
           refine Om (.i r14.1) ?_
           refine Oy (want:=false) hb35 ?_
           refine Oi (.b (r14.1 != 1)) ?_
           refine Pf (.b (r14.1 != 1)) hb35 ?_
           refine Om (.b (r14.1 != 1)) ?_
           rcases bft (r14.1 != 1) with hb36 | hb36
           ·replace hM:=ifT hM hb36
            refine On (want:=false) hb36 ?_
            refine On (want:=false) hb36 ?_
            refine Pt (.b true) hb36 ?_
            refine Ni ?_
            exact zai true (.k (.k (.k (.k .nil)))) ⟨(hS.keep [] rfl).up (by omega),hM⟩
           ·replace hM:=ifF hM hb36
            refine Oy (want:=false) hb36 ?_
            refine Om (.i r15.2) ?_
            refine Oy (want:=false) hb36 ?_
            refine Oi (.b (r15.2 != 3)) ?_
            refine Pf (.b (r15.2 != 3)) hb36 ?_
            refine Ni ?_
            exact zai (r15.2 != 3) (.k (.k (.k (.k .nil)))) ⟨(hS.keep [] rfl).up (by omega),hM⟩
       ·replace hM:=ifF hM hb29
        refine On (want:=true) hb29 ?_
        refine On (want:=true) hb29 ?_
        refine Pf (.b false) hb29 ?_
        refine Om (.b false) ?_
        refine Oz ?_
        refine Om (.i r13.2) ?_
        refine Oz ?_
        refine Oi (.b (r13.2 != 0)) ?_
        refine Oz ?_
        refine Om (.b (r13.2 != 0)) ?_
        rcases bft (r13.2 != 0) with hb37 | hb37
        ·replace hM:=ifT hM hb37
         refine Oy (want:=true) hb37 ?_
         refine Om (.i r13.2) ?_
         refine Oy (want:=true) hb37 ?_
         refine Oi (.b (r13.2 != 3)) ?_
         refine Oz ?_
         refine Pt (.b (r13.2 != 3)) hb37 ?_
         refine ze7 (v:=.b (r13.2 != 3)) (e:=false) (by decide) rfl rfl rfl ?_
         refine Om (.b (r13.2 != 3)) ?_
         rcases bft (r13.2 != 3) with hb38 | hb38
         ·replace hM:=ifT hM hb38
          refine On (want:=false) hb38 ?_
          refine On (want:=false) hb38 ?_
          refine Pt (.b true) hb38 ?_
          refine Om (.b true) ?_
          refine Og ?_
          refine Og ?_
          refine za3 (v:=.b true) (e:=true) (by decide) rfl rfl rfl ?_
          refine Om (.b true) ?_
          refine Og ?_
          refine Og ?_
          refine za3 (v:=.b true) (e:=true) (by decide) rfl rfl rfl ?_
          refine Ni ?_
          exact zai true (.k (.k (.k (.k .nil)))) ⟨(hS.keep [] rfl).up (by omega),hM⟩
         ·replace hM:=ifF hM hb38
          refine Oy (want:=false) hb38 ?_
          refine Om (.i r14.2) ?_
          refine Oy (want:=false) hb38 ?_
          refine Oi (.b (r14.2 != 0)) ?_
          refine Pf (.b (r14.2 != 0)) hb38 ?_
          refine Om (.b (r14.2 != 0)) ?_
          rcases bft (r14.2 != 0) with hb39 | hb39
          ·replace hM:=ifT hM hb39
           refine On (want:=false) hb39 ?_
           refine On (want:=false) hb39 ?_
           refine Pt (.b true) hb39 ?_
           refine Om (.b true) ?_
           refine Og ?_
           refine Og ?_
           refine za3 (v:=.b true) (e:=true) (by decide) rfl rfl rfl ?_
           refine Ni ?_
           exact zai true (.k (.k (.k (.k .nil)))) ⟨(hS.keep [] rfl).up (by omega),hM⟩
          ·replace hM:=ifF hM hb39
           refine Oy (want:=false) hb39 ?_
           refine Om (.i r14.1) ?_
           refine Oy (want:=false) hb39 ?_
           refine Oi (.b (r14.1 != 1)) ?_
           refine Pf (.b (r14.1 != 1)) hb39 ?_
           refine Om (.b (r14.1 != 1)) ?_
           rcases bft (r14.1 != 1) with hb40 | hb40
           ·replace hM:=ifT hM hb40
            refine On (want:=false) hb40 ?_
            refine On (want:=false) hb40 ?_
            refine Pt (.b true) hb40 ?_
            refine Ni ?_
            exact zai true (.k (.k (.k (.k .nil)))) ⟨(hS.keep [] rfl).up (by omega),hM⟩
           ·replace hM:=ifF hM hb40
            refine Oy (want:=false) hb40 ?_
            refine Om (.i r15.2) ?_
            refine Oy (want:=false) hb40 ?_
            refine Oi (.b (r15.2 != 3)) ?_
            refine Pf (.b (r15.2 != 3)) hb40 ?_
            refine Ni ?_
            exact zai (r15.2 != 3) (.k (.k (.k (.k .nil)))) ⟨(hS.keep [] rfl).up (by omega),hM⟩
        ·replace hM:=ifF hM hb37
         refine On (want:=true) hb37 ?_
         refine On (want:=true) hb37 ?_
         refine Oz ?_
         refine Pf (.b false) hb37 ?_
         refine ze7 (v:=.b false) (e:=false) (by decide) rfl rfl rfl ?_
         refine Om (.b false) ?_
         refine Oz ?_
         refine Om (.i r14.2) ?_
         refine Oz ?_
         refine Oi (.b (r14.2 != 0)) ?_
         refine ze7 (v:=.b (r14.2 != 0)) (e:=false) (by decide) rfl rfl rfl ?_
         refine Om (.b (r14.2 != 0)) ?_
         rcases bft (r14.2 != 0) with hb41 | hb41
         ·replace hM:=ifT hM hb41
          refine On (want:=false) hb41 ?_
          refine On (want:=false) hb41 ?_
          refine Pt (.b true) hb41 ?_
          refine Om (.b true) ?_
          refine Og ?_
          refine Og ?_
          refine za3 (v:=.b true) (e:=true) (by decide) rfl rfl rfl ?_
          refine Ni ?_
          exact zai true (.k (.k (.k (.k .nil)))) ⟨(hS.keep [] rfl).up (by omega),hM⟩
         ·replace hM:=ifF hM hb41
          refine Oy (want:=false) hb41 ?_
          refine Om (.i r14.1) ?_
          refine Oy (want:=false) hb41 ?_
          refine Oi (.b (r14.1 != 1)) ?_
          refine Pf (.b (r14.1 != 1)) hb41 ?_
          refine Om (.b (r14.1 != 1)) ?_
          rcases bft (r14.1 != 1) with hb42 | hb42
          ·replace hM:=ifT hM hb42
           refine On (want:=false) hb42 ?_
           refine On (want:=false) hb42 ?_
           refine Pt (.b true) hb42 ?_
           refine Ni ?_
           exact zai true (.k (.k (.k (.k .nil)))) ⟨(hS.keep [] rfl).up (by omega),hM⟩
          ·replace hM:=ifF hM hb42
           refine Oy (want:=false) hb42 ?_
           refine Om (.i r15.2) ?_
           refine Oy (want:=false) hb42 ?_
           refine Oi (.b (r15.2 != 3)) ?_
           refine Pf (.b (r15.2 != 3)) hb42 ?_
           refine Ni ?_
           exact zai (r15.2 != 3) (.k (.k (.k (.k .nil)))) ⟨(hS.keep [] rfl).up (by omega),hM⟩
     ·refine Sq ?_
      refine Rg 1 ?_
      refine Oa (.i 0) ?_
      refine Ni ?_
      refine Ws ?_
      refine zaG ?_
      refine zcx (V:=Int×Int) (fun v=>[(1,.ep (Box.cells a0)),(3,.sl .no 1 (r4.map cI)),(4,.i r6.1),(6,.i r8.1),(8,.ptr (g2+2) 0),(9,.i v.1)]) (fun v m8 H' g'=>St (·<g) H0 [(g2+2,.cells [.i r11.Wheel.Round,.sl .no 1 (r11.Wheel.Notches.map cI),.sl .no 1 (r11.Wheel.Coins.map cI),.sl .no 1 (r11.Found.map cI),.sl .no 1 (r11.Marked.map cI),.sl .no 1 (r11.Slugs.map cI),.i v.2,.i 0])] H' g'/\za1 n a0 r4 r6 r8 r11 m8 v.1 v.2=some r) (n:=n) (0,r11.Plays) (.k (.k (.k (.k (.k (.k .nil)))))) ⟨(hS.keep [true] rfl).up (by omega),hM⟩ ?_
      rintro ⟨v44,v45⟩ m8 H g8 ⟨hS,hM⟩
      obtain _ | m8:=m8
      ·exact nomatch (show none=some _ from hM)
      change wpA _ _ _ _ (Fr.of [(1,.ep (Box.cells a0)),(3,.sl .no 1 (r4.map cI)),(4,.i r6.1),(6,.i r8.1),(8,.ptr (g2+2) 0),(9,.i v44)]) _ _
      replace hS:St (·<g) H0 [(g2+2,.cells [.i r11.Wheel.Round,.sl .no 1 (r11.Wheel.Notches.map cI),.sl .no 1 (r11.Wheel.Coins.map cI),.sl .no 1 (r11.Found.map cI),.sl .no 1 (r11.Marked.map cI),.sl .no 1 (r11.Slugs.map cI),.i v45,.i 0])] H g8:=hS
      replace hM:zdb n a0 r4 r6 r8 r11 (za1 n a0 r4 r6 r8 r11 m8) v44 v45=some r:=hM
      refine Sq ?_
      refine Sq ?_
      refine Rg 2 ?_
      refine Om (.i v44) ?_
      refine Oi (.b (decide (v44<2))) ?_
      refine Ni ?_
      refine Ws ?_
      rcases bft (decide (v44<2)) with hb46 | hb46
      ·replace hM:=ifT hM hb46
       refine Ct hb46 ?_
       refine zaD ?_
       refine Ws ?_
       refine Sq ?_
       refine zaG ?_
       refine Sq ?_
       refine Rg 8 ?_
       refine Om (.i r6.1) ?_
       refine Om (.i r8.1) ?_
       refine zaZ (es:=[[.i r6.1],[.i r8.1]]) hS (by decide) zaJ zbT rfl zbJ rfl (by decide) (by omega) fun H hS=>?_
       refine Om (.i v44) ?_
       obtain ⟨x47,hx47,hM⟩:=zak hM
       refine zbb (xs:=([r6.1,r8.1]:List Int)) (f:=cI) (z:=v44) (u:=x47) (by decide) rfl rfl zaJ hx47 ?_
       refine Olp (.i x47) zag zas ?_
       refine zao (by decide) zfg rfl ?_
       refine zaE (v:=.i x47) (ns:=[.i x47]) (L':=[(g8+2+2,.row 3 2),(g2+2,.cells [.i r11.Wheel.Round,.sl .no 1 (r11.Wheel.Notches.map cI),.sl .no 1 (r11.Wheel.Coins.map cI),.sl .no 1 (r11.Found.map cI),.sl .no 1 (r11.Marked.map cI),.sl .no 1 (r11.Slugs.map cI),.i x47,.i 0])]) 1 hS rfl rfl .no rfl rfl zdt nlb rfl fun H hS=>?_
       refine Ni ?_
       replace hS:=hS.keep (L':=[(g2+2,.cells [.i r11.Wheel.Round,.sl .no 1 (r11.Wheel.Notches.map cI),.sl .no 1 (r11.Wheel.Coins.map cI),.sl .no 1 (r11.Found.map cI),.sl .no 1 (r11.Marked.map cI),.sl .no 1 (r11.Slugs.map cI),.i x47,.i 0])]) [false,true] rfl
       refine Ws ?_
       refine Sq ?_
       refine Rg 7 ?_
       refine zaO (v:=.agg [.i r11.Wheel.Round,.sl .no 1 (r11.Wheel.Notches.map cI),.sl .no 1 (r11.Wheel.Coins.map cI),.sl .no 1 (r11.Found.map cI),.sl .no 1 (r11.Marked.map cI),.sl .no 1 (r11.Slugs.map cI),.i x47,.i 0]) 0 hS (by decide) rfl rfl .no (pg zcw) ?_
       obtain ⟨r48,hr48,hM⟩:=zak hM
       refine zaK (bs:=[.agg [.i r11.Wheel.Round,.sl .no 1 (r11.Wheel.Notches.map cI),.sl .no 1 (r11.Wheel.Coins.map cI),.sl .no 1 (r11.Found.map cI),.sl .no 1 (r11.Marked.map cI),.sl .no 1 (r11.Slugs.map cI),.i x47,.i 0]]) (by decide) rfl rfl ((zfy hr48).le (.k .nil)) ?_
       refine Om (.tup [.i r48.1,.i r48.2]) ?_
       refine Ox (.i r48.1) ?_
       refine Ox (.i r48.2) ?_
       refine Oa (.i r48.1) ?_
       refine Oa (.i r48.2) ?_
       refine Ni ?_
       refine Ws ?_
       refine Sq ?_
       refine Rg 7 ?_
       refine zaO (v:=.agg [.i r11.Wheel.Round,.sl .no 1 (r11.Wheel.Notches.map cI),.sl .no 1 (r11.Wheel.Coins.map cI),.sl .no 1 (r11.Found.map cI),.sl .no 1 (r11.Marked.map cI),.sl .no 1 (r11.Slugs.map cI),.i x47,.i 0]) 0 hS (by decide) rfl rfl .no (pg zcw) ?_
       obtain ⟨r49,hr49,hM⟩:=zak hM
       refine zaK (bs:=[.agg [.i r11.Wheel.Round,.sl .no 1 (r11.Wheel.Notches.map cI),.sl .no 1 (r11.Wheel.Coins.map cI),.sl .no 1 (r11.Found.map cI),.sl .no 1 (r11.Marked.map cI),.sl .no 1 (r11.Slugs.map cI),.i x47,.i 0]]) (by decide) rfl rfl ((zh2 hr49).le (.k .nil)) ?_
       refine Om (.tup [.i r49.1,.i r49.2]) ?_
       refine Ox (.i r49.1) ?_
       refine Ox (.i r49.2) ?_
       refine Oa (.i r49.1) ?_
       refine Oa (.i r49.2) ?_
       refine Ni ?_
       refine Ws ?_
       refine Sq ?_
       refine Rg 7 ?_
       refine zaO (v:=.agg [.i r11.Wheel.Round,.sl .no 1 (r11.Wheel.Notches.map cI),.sl .no 1 (r11.Wheel.Coins.map cI),.sl .no 1 (r11.Found.map cI),.sl .no 1 (r11.Marked.map cI),.sl .no 1 (r11.Slugs.map cI),.i x47,.i 0]) 0 hS (by decide) rfl rfl .no (pg zcw) ?_
       obtain ⟨r50,hr50,hM⟩:=zak hM
       refine zaK (bs:=[.agg [.i r11.Wheel.Round,.sl .no 1 (r11.Wheel.Notches.map cI),.sl .no 1 (r11.Wheel.Coins.map cI),.sl .no 1 (r11.Found.map cI),.sl .no 1 (r11.Marked.map cI),.sl .no 1 (r11.Slugs.map cI),.i x47,.i 0]]) (by decide) rfl rfl ((zhb hr50).le (.k .nil)) ?_
       refine Om (.tup [.i r50.1,.i r50.2]) ?_
       refine Ox (.i r50.1) ?_
       refine Ox (.i r50.2) ?_
       refine Oa (.i r50.1) ?_
       refine Oa (.i r50.2) ?_
       refine Ni ?_
       refine Ws ?_
       refine za2 (J:=Bool) (fun j=>[(1,.ep (Box.cells a0)),(3,.sl .no 1 (r4.map cI)),(4,.i r6.1),(6,.i r8.1),(8,.ptr (g2+2) 0),(9,.i v44),(119,.b j)]) (fun j H' g'=>St (·<g) H0 [(g2+2,.cells [.i r11.Wheel.Round,.sl .no 1 (r11.Wheel.Notches.map cI),.sl .no 1 (r11.Wheel.Coins.map cI),.sl .no 1 (r11.Found.map cI),.sl .no 1 (r11.Marked.map cI),.sl .no 1 (r11.Slugs.map cI),.i x47,.i 0])] H' g'/\zbe (za1 n a0 r4 r6 r8 r11 m8) v44 x47 j=some r) ?_ ?_
       ·rintro v51 H g9 ⟨hS,hM⟩
        change wpA _ _ _ _ (Fr.of [(1,.ep (Box.cells a0)),(3,.sl .no 1 (r4.map cI)),(4,.i r6.1),(6,.i r8.1),(8,.ptr (g2+2) 0),(9,.i v44),(119,.b v51)]) _ _
        replace hS:St (·<g) H0 [(g2+2,.cells [.i r11.Wheel.Round,.sl .no 1 (r11.Wheel.Notches.map cI),.sl .no 1 (r11.Wheel.Coins.map cI),.sl .no 1 (r11.Found.map cI),.sl .no 1 (r11.Marked.map cI),.sl .no 1 (r11.Slugs.map cI),.i x47,.i 0])] H g9:=hS
        replace hM:zbe (za1 n a0 r4 r6 r8 r11 m8) v44 x47 v51=some r:=hM
        rcases bft v51 with hb52 | hb52
        ·replace hM:=ifT hM hb52
         refine Ct hb52 ?_
         refine Sq ?_
         refine Rg 1 ?_
         refine Oa (.b false) ?_
         refine Ni ?_
         replace hS:=hS.keep (L':=[]) [false] rfl
         refine Ws ?_
         refine za0 ?_
         refine za5 ?_
         refine zan ?_
         refine zbY ?_
         refine za5 ?_
         refine zcG ?_
         refine za8 (x:=.b false) (f:=fun r=>.b r) (.inr rfl) ?_ (.refl _) (Option.some.inj hM) hS
         exact (zaH (zaf (x:=.b false) rfl))
        ·replace hM:=ifF hM hb52
         refine Cf hb52 ?_
         refine zaD ?_
         refine zaw ?_
         refine Ws ?_
         refine Rg 3 ?_
         refine Om (.i v44) ?_
         refine Oi (.i (w64 (v44+1))) ?_
         refine Oa (.i (w64 (v44+1))) ?_
         refine Ni ?_
         exact zbn (w64 (v44+1),x47) (Nat.lt_succ_self _) (.k (.k (.k (.k (.k (.k .nil)))))) ⟨(hS.keep [true] rfl).up (by omega),hM⟩
       ·refine Rg 22 ?_
        refine Om (.i r48.2) ?_
        refine Oi (.b (r48.2 != 0)) ?_
        refine Om (.b (r48.2 != 0)) ?_
        rcases bft (r48.2 != 0) with hb53 | hb53
        ·replace hM:=ifT hM hb53
         refine On (want:=false) hb53 ?_
         refine On (want:=false) hb53 ?_
         refine Pt (.b true) hb53 ?_
         refine Om (.b true) ?_
         refine Og ?_
         refine Og ?_
         refine za3 (v:=.b true) (e:=true) (by decide) rfl rfl rfl ?_
         refine Om (.b true) ?_
         refine Og ?_
         refine Og ?_
         refine za3 (v:=.b true) (e:=true) (by decide) rfl rfl rfl ?_
         refine Om (.b true) ?_
         refine Og ?_
         refine Og ?_
         refine za3 (v:=.b true) (e:=true) (by decide) rfl rfl rfl ?_
         refine Om (.b true) ?_
         refine Og ?_
         refine Og ?_
         refine za3 (v:=.b true) (e:=true) (by decide) rfl rfl rfl ?_
         refine Ni ?_
         exact zai true (.k (.k (.k (.k (.k (.k (.k .nil))))))) ⟨(hS.keep [true] rfl).up (by omega),hM⟩
        ·replace hM:=ifF hM hb53
         refine Oy (want:=false) hb53 ?_
         refine Om (.i r49.2) ?_
         refine Oy (want:=false) hb53 ?_
         refine Oi (.b (r49.2 != 0)) ?_
         refine Pf (.b (r49.2 != 0)) hb53 ?_
         refine Om (.b (r49.2 != 0)) ?_
         rcases bft (r49.2 != 0) with hb54 | hb54
         ·replace hM:=ifT hM hb54
          refine On (want:=false) hb54 ?_
          refine On (want:=false) hb54 ?_
          refine Pt (.b true) hb54 ?_
          refine Om (.b true) ?_
          refine Og ?_
          refine Og ?_
          refine za3 (v:=.b true) (e:=true) (by decide) rfl rfl rfl ?_
          refine Om (.b true) ?_
          refine Og ?_
          refine Og ?_
          refine za3 (v:=.b true) (e:=true) (by decide) rfl rfl rfl ?_
          refine Om (.b true) ?_
          refine Og ?_
          refine Og ?_
          refine za3 (v:=.b true) (e:=true) (by decide) rfl rfl rfl ?_
          refine Ni ?_
          exact zai true (.k (.k (.k (.k (.k (.k (.k .nil))))))) ⟨(hS.keep [true] rfl).up (by omega),hM⟩
         ·replace hM:=ifF hM hb54
          refine Oy (want:=false) hb54 ?_
          refine Om (.i r50.2) ?_
          refine Oy (want:=false) hb54 ?_
          refine Oi (.b (r50.2 != 0)) ?_
          refine Pf (.b (r50.2 != 0)) hb54 ?_
          refine Om (.b (r50.2 != 0)) ?_
          rcases bft (r50.2 != 0) with hb55 | hb55
          ·replace hM:=ifT hM hb55
           refine On (want:=false) hb55 ?_
           refine On (want:=false) hb55 ?_
           refine Pt (.b true) hb55 ?_
           refine Om (.b true) ?_
           refine Og ?_
           refine Og ?_
           refine za3 (v:=.b true) (e:=true) (by decide) rfl rfl rfl ?_
           refine Om (.b true) ?_
           refine Og ?_
           refine Og ?_
           refine za3 (v:=.b true) (e:=true) (by decide) rfl rfl rfl ?_
           refine Ni ?_
           exact zai true (.k (.k (.k (.k (.k (.k (.k .nil))))))) ⟨(hS.keep [true] rfl).up (by omega),hM⟩
          ·replace hM:=ifF hM hb55
           refine Oy (want:=false) hb55 ?_
           refine Om (.i r48.1) ?_
           refine Oy (want:=false) hb55 ?_
           refine Oi (.b (r48.1 != 0)) ?_
           refine Pf (.b (r48.1 != 0)) hb55 ?_
           refine Om (.b (r48.1 != 0)) ?_
           rcases bft (r48.1 != 0) with hb56 | hb56
           ·replace hM:=ifT hM hb56
            refine On (want:=false) hb56 ?_
            refine On (want:=false) hb56 ?_
            refine Pt (.b true) hb56 ?_
            refine Om (.b true) ?_
            refine Og ?_
            refine Og ?_
            refine za3 (v:=.b true) (e:=true) (by decide) rfl rfl rfl ?_
            refine Ni ?_
            exact zai true (.k (.k (.k (.k (.k (.k (.k .nil))))))) ⟨(hS.keep [true] rfl).up (by omega),hM⟩
           ·replace hM:=ifF hM hb56
            refine Oy (want:=false) hb56 ?_
            refine Om (.i r49.1) ?_
            refine Oy (want:=false) hb56 ?_
            refine Oi (.b (r49.1 != 0)) ?_
            refine Pf (.b (r49.1 != 0)) hb56 ?_
            refine Om (.b (r49.1 != 0)) ?_
            rcases bft (r49.1 != 0) with hb57 | hb57
            ·replace hM:=ifT hM hb57
             refine On (want:=false) hb57 ?_
             refine On (want:=false) hb57 ?_
             refine Pt (.b true) hb57 ?_
             refine Ni ?_
             exact zai true (.k (.k (.k (.k (.k (.k (.k .nil))))))) ⟨(hS.keep [true] rfl).up (by omega),hM⟩
            ·replace hM:=ifF hM hb57
             refine Oy (want:=false) hb57 ?_
             refine Om (.i r50.1) ?_
             refine Oy (want:=false) hb57 ?_
             refine Oi (.b (r50.1 != 0)) ?_
             refine Pf (.b (r50.1 != 0)) hb57 ?_
             refine Ni ?_
             exact zai (r50.1 != 0) (.k (.k (.k (.k (.k (.k (.k .nil))))))) ⟨(hS.keep [true] rfl).up (by omega),hM⟩
      ·replace hM:=ifF hM hb46
       refine Cf hb46 ?_
       refine zbX ?_
       refine zax ?_
       refine zaA ?_
       refine zaI ?_
       exact zai v45 (.k (.k (.k (.k .nil)))) ⟨(hS.keep [true] rfl).up (by omega),hM⟩
   ·refine Rg 19 ?_
    refine Om (.i r6.2) ?_
    refine Oi (.b (r6.2 != 0)) ?_
    refine Om (.b (r6.2 != 0)) ?_
    rcases bft (r6.2 != 0) with hb58 | hb58
    ·replace hM:=ifT hM hb58
     refine On (want:=false) hb58 ?_
     refine On (want:=false) hb58 ?_
     refine Pt (.b true) hb58 ?_
     refine Om (.b true) ?_
     refine Og ?_
     refine Og ?_
     refine za3 (v:=.b true) (e:=true) (by decide) rfl rfl rfl ?_
     refine Om (.b true) ?_
     refine Og ?_
     refine Og ?_
     refine Og ?_
     refine za3 (v:=.b true) (e:=true) (by decide) rfl rfl rfl ?_
     refine Om (.b true) ?_
     refine Og ?_
     refine Og ?_
     refine za3 (v:=.b true) (e:=true) (by decide) rfl rfl rfl ?_
     refine Ni ?_
     exact zai true (.k (.k (.k (.k (.k .nil))))) ⟨(hS.keep [] rfl).up (by omega),hM⟩
    ·replace hM:=ifF hM hb58
     refine Oy (want:=false) hb58 ?_
     refine Om (.i r8.2) ?_
     refine Oy (want:=false) hb58 ?_
     refine Oi (.b (r8.2 != 0)) ?_
     refine Pf (.b (r8.2 != 0)) hb58 ?_
     refine Om (.b (r8.2 != 0)) ?_
     rcases bft (r8.2 != 0) with hb59 | hb59
     ·replace hM:=ifT hM hb59
      refine On (want:=false) hb59 ?_
      refine On (want:=false) hb59 ?_
      refine Pt (.b true) hb59 ?_
      refine Om (.b true) ?_
      refine Og ?_
      refine Og ?_
      refine Og ?_
      refine za3 (v:=.b true) (e:=true) (by decide) rfl rfl rfl ?_
      refine Om (.b true) ?_
      refine Og ?_
      refine Og ?_
      refine za3 (v:=.b true) (e:=true) (by decide) rfl rfl rfl ?_
      refine Ni ?_
      exact zai true (.k (.k (.k (.k (.k .nil))))) ⟨(hS.keep [] rfl).up (by omega),hM⟩
     ·replace hM:=ifF hM hb59
      refine Oy (want:=false) hb59 ?_
      refine Om (.i r8.1) ?_
      refine Oy (want:=false) hb59 ?_
      refine Oi (.b (decide (r8.1<0))) ?_
      refine Pf (.b (decide (r8.1<0))) hb59 ?_
      refine Om (.b (decide (r8.1<0))) ?_
      rcases bft (decide (r8.1<0)) with hb60 | hb60
      ·replace hM:=ifT hM hb60
       refine On (want:=false) hb60 ?_
       refine On (want:=false) hb60 ?_
       refine On (want:=false) hb60 ?_
       refine Pt (.b true) hb60 ?_
       refine Om (.b true) ?_
       refine Og ?_
       refine Og ?_
       refine za3 (v:=.b true) (e:=true) (by decide) rfl rfl rfl ?_
       refine Ni ?_
       exact zai true (.k (.k (.k (.k (.k .nil))))) ⟨(hS.keep [] rfl).up (by omega),hM⟩
      ·replace hM:=ifF hM hb60
       refine Oy (want:=false) hb60 ?_
       refine Om (.i r8.1) ?_
       refine Oy (want:=false) hb60 ?_
       refine Om (.i r6.1) ?_
       refine Oy (want:=false) hb60 ?_
       refine Oi (.b (decide (r8.1>r6.1))) ?_
       refine Pf (.b (decide (r8.1>r6.1))) hb60 ?_
       refine Om (.b (decide (r8.1>r6.1))) ?_
       rcases bft (decide (r8.1>r6.1)) with hb61 | hb61
       ·replace hM:=ifT hM hb61
        refine On (want:=false) hb61 ?_
        refine On (want:=false) hb61 ?_
        refine Pt (.b true) hb61 ?_
        refine Ni ?_
        exact zai true (.k (.k (.k (.k (.k .nil))))) ⟨(hS.keep [] rfl).up (by omega),hM⟩
       ·replace hM:=ifF hM hb61
        refine Oy (want:=false) hb61 ?_
        refine Om (.i r6.1) ?_
        refine Oy (want:=false) hb61 ?_
        refine Oi (.b (decide (r6.1≥9999))) ?_
        refine Pf (.b (decide (r6.1≥9999))) hb61 ?_
        refine Ni ?_
        exact zai (decide (r6.1≥9999)) (.k (.k (.k (.k (.k .nil))))) ⟨(hS.keep [] rfl).up (by omega),hM⟩
 ·refine Rg 7 ?_
  refine Olg (.agg (Box.cells a0)) zcw ?_
  obtain ⟨r62,hr62,hM⟩:=zak hM
  refine zaK (bs:=[.agg (Box.cells a0)]) (by decide) rfl rfl ((zpv hr62).le (.k .nil)) ?_
  refine Om (.b r62) ?_
  rcases bft r62 with hb63 | hb63
  ·replace hM:=ifT hM hb63
   refine On (want:=false) hb63 ?_
   refine On (want:=false) hb63 ?_
   refine On (want:=false) hb63 ?_
   refine Pt (.b true) hb63 ?_
   refine Ni ?_
   exact zai true (.k (.k .nil)) ⟨(hS.keep [] rfl).up (by omega),hM⟩
  ·replace hM:=ifF hM hb63
   refine Oy (want:=false) hb63 ?_
   refine Olg (.agg (Box.cells a0)) zcw ?_
   refine Oy (want:=false) hb63 ?_
   obtain ⟨r64,hr64,hM⟩:=zak hM
   refine zaK (bs:=[.agg (Box.cells a0)]) (by decide) rfl rfl ((zjA hr64).le (.k .nil)) ?_
   refine Oy (want:=false) hb63 ?_
   refine Oi (.b (r64 != 0)) ?_
   refine Pf (.b (r64 != 0)) hb63 ?_
   refine Ni ?_
   exact zai (r64 != 0) (.k (.k .nil)) ⟨(hS.keep [] rfl).up (by omega),hM⟩
end Go.Proofs.Ytenogpmlhpcibaa
