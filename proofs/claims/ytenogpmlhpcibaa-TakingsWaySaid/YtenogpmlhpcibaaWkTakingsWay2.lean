/-
  The code returns what the functions say (printed by gen.py).
  Conditions: none.
-/
import Derived.Test.YtenogpmlhpcibaaWkTakingsWay1
import Derived.Test.YtenogpmlhpcibaaAmOx
import Derived.Test.YtenogpmlhpcibaaSh
import Derived.Test.YtenogpmlhpcibaaKs
import Derived.Test.YtenogpmlhpcibaaEn
set_option linter.all false
namespace Go.Proofs.Ytenogpmlhpcibaa
open Go Go.AM Go.Law
set_option linter.unusedVariables false
set_option maxRecDepth 4000
set_option maxHeartbeats 4000000
theorem zgu {n:Nat} {a0:Wheel_} {a1:Int} {a2:Int} {r:Int×Int} (hM:zdm n a0 a1 a2=some r):zaH Try.prog 120 [.agg (Wheel.cells a0.Wheel),.i a1,.i a2] (.tup [.i r.1,.i r.2]):=by
 refine zak mixed Try.func120 rfl (by decide) Try.ntmps120 (by simp) ?pure fun H0 g hf=>?_
 case pure=>exact .tup _ (zab (.v _) (zab (.v _) zaF))
 rw [zag]
 change wpA _ _ _ _ (Fr.of [(0,.agg (Wheel.cells a0.Wheel)),(1,.i a1),(2,.i a2)]) H0 g
 have hS:=St.start hf
 refine Sq ?_
 refine Rg 3 ?_
 refine zb4 (v:=.agg (Wheel.cells a0.Wheel)) (cs:=(Wheel.cells a0.Wheel)) hS (by decide) rfl rfl (by omega) fun H hS=>?_
 refine Oa (.i 0) ?_
 refine Oa (.i 0) ?_
 refine Ni ?_
 refine zaX (L':=[]) 0 3 hS rfl rfl rfl fun H hS=>?_
 refine Ws ?_
 refine Sq ?_
 refine Rg 4 ?_
 refine Om (.i a1) ?_
 refine Om (.i a2) ?_
 refine Oi (.i (w64 (a1+a2))) ?_
 refine Oa (.i (w64 (a1+a2))) ?_
 refine Ni ?_
 refine Ws ?_
 refine za1 (J:=Int) (fun j=>[(3,.ep (Wheel.cells a0.Wheel)),(7,.i j),(8,.i (w64 (a1+a2)))]) (fun j H' g'=>St (·<g) H0 [] H' g'/\zdd a0 a1 a2 j=some r) ?_ ?_
 ·rintro v1 H g1 ⟨hS,hM⟩
  change wpA _ _ _ _ (Fr.of [(3,.ep (Wheel.cells a0.Wheel)),(7,.i v1),(8,.i (w64 (a1+a2)))]) _ _
  replace hS:St (·<g) H0 [] H g1:=hS
  replace hM:zdd a0 a1 a2 v1=some r:=hM
  refine Sq ?_
  refine Rg 8 ?_
  refine Om (.i (w64 (a1+a2))) ?_
  refine Of ((Wheel.cells a0.Wheel)) zcG ?_
  refine Of ((Wheel.cells a0.Wheel)) zdq ?_
  refine Olp (.i a0.Wheel.Round) zah zar ?_
  obtain ⟨q2,hq2,hM⟩:=zai hM
  refine zni (by decide) rfl rfl (zuC hq2) ?_
  refine Om (.i v1) ?_
  refine Oa (.i q2) ?_
  refine Oa (.i v1) ?_
  refine Ni ?_
  refine Ws ?_
  refine zaR ?_
  refine zaZ (x:=.tup [.i q2,.i v1]) (f:=fun r=>.tup [.i r.1,.i r.2]) (.inr rfl) ?_ (.refl _) (Option.some.inj hM) hS
  exact (zcl (zae (x:=.i q2) rfl) (zae (x:=.i v1) rfl))
 ·refine Sq ?_
  refine Rg 5 ?_
  refine Of ((Wheel.cells a0.Wheel)) zcG ?_
  refine Of ((Wheel.cells a0.Wheel)) zfv ?_
  refine Olp (.sl .no 1 (a0.Wheel.Notches.map cI)) zau zaO ?_
  refine zbA (n:=a0.Wheel.Notches.length) (by decide) rfl (List.length_map _) zaB ?_
  refine Om (.i 0) ?_
  refine Ni ?_
  refine Ws ?_
  refine zaK ?_
  refine zct (V:=Int×Int) (fun v=>[(1,.i a1),(3,.ep (Wheel.cells a0.Wheel)),(7,.i v.1),(8,.i (w64 (a1+a2))),(16,.sl .no 1 (a0.Wheel.Notches.map cI)),(17,.i (a0.Wheel.Notches.length:Int)),(18,.i v.2)]) (fun v m2 H' g'=>St (·<g) H0 [] H' g'/\zbm a0 a1 a2 m2 v.1 v.2=some r) (n:=n) (0,0) (.k (.k (.k (.k (.k (.k (.k .nil))))))) ⟨(hS.keep [] rfl).up (by omega),hM⟩ ?_
  rintro ⟨v3,v4⟩ m2 H g2 ⟨hS,hM⟩
  obtain _ | m2:=m2
  ·exact nomatch (show none=some _ from hM)
  change wpA _ _ _ _ (Fr.of [(1,.i a1),(3,.ep (Wheel.cells a0.Wheel)),(7,.i v3),(8,.i (w64 (a1+a2))),(16,.sl .no 1 (a0.Wheel.Notches.map cI)),(17,.i (a0.Wheel.Notches.length:Int)),(18,.i v4)]) _ _
  replace hS:St (·<g) H0 [] H g2:=hS
  replace hM:zcS a0 a1 a2 (zbm a0 a1 a2 m2) v3 v4=some r:=hM
  refine Sq ?_
  refine Rg 1 ?_
  refine Oi (.b (decide (v4<(a0.Wheel.Notches.length:Int)))) ?_
  refine Ni ?_
  refine Ws ?_
  refine Sq ?_
  rcases bft (decide (v4<(a0.Wheel.Notches.length:Int))) with hb5 | hb5
  ·replace hM:=ifT hM hb5
   refine Ct hb5 ?_
   refine zaD ?_
   refine Ws ?_
   refine Sq ?_
   refine zaK ?_
   refine Sq ?_
   refine Rg 3 ?_
   obtain ⟨x6,hx6,hM⟩:=zai hM
   refine za5 (xs:=a0.Wheel.Notches) (f:=cI) (z:=v4) (u:=x6) (by decide) rfl rfl zay hx6 ?_
   refine Olp (.i x6) zah zar ?_
   refine Oa (.i x6) ?_
   refine Ni ?_
   refine Ws ?_
   have hS0:=hS
   refine zck (n:=26) rfl (by kernel_rfl) ?_
   refine Om (.i v3) ?_
   refine Om (.i (w64 (a1+a2))) ?_
   refine Om (.i x6) ?_
   refine Oi (.i (w64 ((w64 (a1+a2))-x6))) ?_
   refine Of ((Wheel.cells a0.Wheel)) zcG ?_
   refine Of ((Wheel.cells a0.Wheel)) zdq ?_
   refine Olp (.i a0.Wheel.Round) zah zar ?_
   refine Oi (.i (w64 ((w64 ((w64 (a1+a2))-x6))+a0.Wheel.Round))) ?_
   refine Of ((Wheel.cells a0.Wheel)) zcG ?_
   refine Of ((Wheel.cells a0.Wheel)) zdq ?_
   refine Olp (.i a0.Wheel.Round) zah zar ?_
   obtain ⟨q7,hq7,hM⟩:=zai hM
   refine zni (by decide) rfl rfl (zrH hq7) ?_
   refine Om (.i a1) ?_
   refine Om (.i x6) ?_
   refine Oi (.i (w64 (a1-x6))) ?_
   refine Of ((Wheel.cells a0.Wheel)) zcG ?_
   refine Of ((Wheel.cells a0.Wheel)) zdq ?_
   refine Olp (.i a0.Wheel.Round) zah zar ?_
   refine Oi (.i (w64 ((w64 (a1-x6))+a0.Wheel.Round))) ?_
   refine Of ((Wheel.cells a0.Wheel)) zcG ?_
   refine Of ((Wheel.cells a0.Wheel)) zdq ?_
   refine Olp (.i a0.Wheel.Round) zah zar ?_
   obtain ⟨q8,hq8,hM⟩:=zai hM
   refine zni (by decide) rfl rfl (zrH hq8) ?_
   refine Oi (.i (w64 (q7-q8))) ?_
   refine Oi (.i (w64 (v3+(w64 (q7-q8))))) ?_
   refine Oa (.i (w64 (v3+(w64 (q7-q8))))) ?_
   refine Ni ?_
   refine zat ?_
   refine Ws ?_
   refine Rg 2 ?_
   refine Oi (.i (w64 (v4+1))) ?_
   refine Om (.i (w64 (v4+1))) ?_
   refine Ni ?_
   exact zbq (w64 (v3+(w64 (q7-q8))),w64 (v4+1)) (Nat.lt_succ_self _) (.k (.k (.k (.k (.k (.k (.k .nil))))))) ⟨(hS.keep [] rfl).up (by omega),hM⟩
  ·replace hM:=ifF hM hb5
   refine Cf hb5 ?_
   refine zb1 ?_
   refine zaA ?_
   refine zaz ?_
   refine zaL ?_
   exact zal v3 (.k (.k (.k .nil))) ⟨(hS.keep [] rfl).up (by omega),hM⟩
theorem zjy {n:Nat} {a0:Wheel_} {a1:Stand} {a2:Int} {r:Stand} (hM:zeK n a0 a1 a2=some r):zaH Try.prog 89 [.agg (Wheel.cells a0.Wheel),.agg (Stand.cells a1),.i a2] (.agg [.i r.Place,.i r.Credit]):=by
 refine zak mixed Try.func89 rfl (by decide) Try.ntmps89 (by simp) ?pure fun H0 g hf=>?_
 case pure=>exact .agg _ (zab (.v _) (zab (.v _) zaF))
 rw [zag]
 change wpA _ _ _ _ (Fr.of [(0,.agg (Wheel.cells a0.Wheel)),(1,.agg (Stand.cells a1)),(2,.i a2)]) H0 g
 have hS:=St.start hf
 refine Sq ?_
 refine Rg 3 ?_
 refine zb4 (v:=.agg (Wheel.cells a0.Wheel)) (cs:=(Wheel.cells a0.Wheel)) hS (by decide) rfl rfl (by omega) fun H hS=>?_
 refine zb4 (v:=.agg (Stand.cells a1)) (cs:=(Stand.cells a1)) hS (by decide) rfl rfl (by omega) fun H hS=>?_
 refine za3 hS (by decide) zcz (by omega) fun H hS=>?_
 refine Ni ?_
 refine zaX (L':=[(g+2,.cells [.i 0,.i 0]),(g+1,.cells (Stand.cells a1))]) 2 3 hS rfl rfl rfl fun H hS=>?_
 refine zaX (L':=[(g+2,.cells [.i 0,.i 0])]) 1 4 hS rfl rfl rfl fun H hS=>?_
 refine Ws ?_
 refine Sq ?_
 refine zaK ?_
 refine Sq ?_
 refine Rg 3 ?_
 refine Om (.i a2) ?_
 refine Oi (.b (a2 != (-1))) ?_
 refine Oa (.b (a2 != (-1))) ?_
 refine Ni ?_
 refine Ws ?_
 rcases bft (a2 != (-1)) with hb1 | hb1
 ·replace hM:=ifT hM hb1
  refine Ct hb1 ?_
  refine Sq ?_
  have hS0:=hS
  refine zck (n:=15) rfl (by kernel_rfl) ?_
  refine Olg (.agg (Wheel.cells a0.Wheel)) zc6 ?_
  refine Of ((Stand.cells a1)) zdr ?_
  refine Olp (.i a1.Place) zah zar ?_
  refine Of ((Wheel.cells a0.Wheel)) zcG ?_
  refine Of ((Wheel.cells a0.Wheel)) zbL ?_
  refine Olp (.sl .no 1 (a0.Wheel.Coins.map cI)) zau zaO ?_
  refine Om (.i a2) ?_
  obtain ⟨x2,hx2,hM⟩:=zai hM
  refine za5 (xs:=a0.Wheel.Coins) (f:=cI) (z:=a2) (u:=x2) (by decide) rfl rfl zay hx2 ?_
  refine Olp (.i x2) zah zar ?_
  obtain ⟨r3,hr3,hM⟩:=zai hM
  refine zaE (bs:=[.agg (Wheel.cells a0.Wheel),.i a1.Place,.i x2]) (by decide) rfl rfl ((zgu hr3).le (.k (.k (.k .nil)))) ?_
  refine Om (.tup [.i r3.1,.i r3.2]) ?_
  refine Ox (.i r3.1) ?_
  refine Ox (.i r3.2) ?_
  refine Oa (.i r3.1) ?_
  refine Oa (.i r3.2) ?_
  refine Ni ?_
  refine Ws ?_
  refine Sq ?_
  refine Rg 7 ?_
  refine Om (.i r3.1) ?_
  refine Of ((Stand.cells a1)) zbV ?_
  refine Olp (.i a1.Credit) zah zar ?_
  refine Om (.i r3.2) ?_
  refine Oi (.i (w64 (a1.Credit+r3.2))) ?_
  refine zbx (cs:=[.i r3.1,.i (w64 (a1.Credit+r3.2))]) (by decide) zcz zhe rfl ?_
  refine zaJ (v:=.agg [.i r3.1,.i (w64 (a1.Credit+r3.2))]) (ns:=[.i r3.1,.i (w64 (a1.Credit+r3.2))]) (L':=[(g+2,.cells [.i r3.1,.i (w64 (a1.Credit+r3.2))])]) 0 hS rfl rfl .no rfl rfl zd1 nlb rfl fun H hS=>?_
  refine Ni ?_
  refine Ws ?_
  refine zaR ?_
  refine za2 ?_
  refine zam ?_
  refine zaZ (x:=.agg [.i r3.1,.i (w64 (a1.Credit+r3.2))]) (f:=fun r=>.agg [.i r.Place,.i r.Credit]) (.inr rfl) ?_ (.refl _) (Option.some.inj hM) hS
  exact (zax (zcA (x:=.agg [.i r3.1,.i (w64 (a1.Credit+r3.2))]) 0 hS rfl rfl (pg zdD)))
 ·replace hM:=ifF hM hb1
  refine Cf hb1 ?_
  refine Sq ?_
  refine Rg 4 ?_
  refine Of ((Stand.cells a1)) zbV ?_
  refine Olp (.i a1.Credit) zah zar ?_
  refine Oi (.b (decide (a1.Credit>0))) ?_
  refine Oa (.b (decide (a1.Credit>0))) ?_
  refine Ni ?_
  refine Ws ?_
  rcases bft (decide (a1.Credit>0)) with hb4 | hb4
  ·replace hM:=ifT hM hb4
   refine Ct hb4 ?_
   refine Sq ?_
   refine Rg 5 ?_
   refine Of ((Stand.cells a1)) zbV ?_
   refine Olp (.i a1.Credit) zah zar ?_
   refine Oi (.i (w64 (a1.Credit-1))) ?_
   refine zbx (cs:=[.i 0,.i (w64 (a1.Credit-1))]) (by decide) zcz zhe rfl ?_
   refine zaJ (v:=.agg [.i 0,.i (w64 (a1.Credit-1))]) (ns:=[.i 0,.i (w64 (a1.Credit-1))]) (L':=[(g+2,.cells [.i 0,.i (w64 (a1.Credit-1))])]) 0 hS rfl rfl .no rfl rfl zd1 nlb rfl fun H hS=>?_
   refine Ni ?_
   refine Ws ?_
   refine zaR ?_
   refine za2 ?_
   refine zam ?_
   refine zaZ (x:=.agg [.i 0,.i (w64 (a1.Credit-1))]) (f:=fun r=>.agg [.i r.Place,.i r.Credit]) (.inr rfl) ?_ (.refl _) (Option.some.inj hM) hS
   exact (zax (zcA (x:=.agg [.i 0,.i (w64 (a1.Credit-1))]) 0 hS rfl rfl (pg zdD)))
  ·replace hM:=ifF hM hb4
   refine Cf hb4 ?_
   refine zaD ?_
   refine zat ?_
   refine Ws ?_
   refine Sq ?_
   refine Rg 2 ?_
   refine Olg (.agg (Stand.cells a1)) zdD ?_
   refine zaJ (v:=.agg (Stand.cells a1)) (ns:=(Stand.cells a1)) (L':=[(g+2,.cells (Stand.cells a1))]) 0 hS rfl rfl .no rfl rfl zd1 nlb rfl fun H hS=>?_
   refine Ni ?_
   refine zeF [(6,.ptr (g+2) 0)] (.k .nil) ?_
   refine zaR ?_
   refine zaZ (x:=.agg (Stand.cells a1)) (f:=fun r=>.agg [.i r.Place,.i r.Credit]) (.inr rfl) ?_ (.refl _) (Option.some.inj hM) hS
   exact (zax (zcA (x:=.agg (Stand.cells a1)) 0 hS rfl rfl (pg zdD)))
theorem zhI {a0:Wheel_} {a1:Int} {r:Bool} (hM:zde a0 a1=some r):zaH Try.prog 158 [.agg (Wheel.cells a0.Wheel),.i a1] (.b r):=by
 refine zak mixed Try.func158 rfl (by decide) Try.ntmps158 (by simp) ?pure fun H0 g hf=>?_
 case pure=>exact .v _
 rw [zag]
 change wpA _ _ _ _ (Fr.of [(0,.agg (Wheel.cells a0.Wheel)),(1,.i a1)]) H0 g
 have hS:=St.start hf
 refine Sq ?_
 refine Rg 2 ?_
 refine zb4 (v:=.agg (Wheel.cells a0.Wheel)) (cs:=(Wheel.cells a0.Wheel)) hS (by decide) rfl rfl (by omega) fun H hS=>?_
 refine Oa (.b false) ?_
 refine Ni ?_
 refine zaX (L':=[]) 0 2 hS rfl rfl rfl fun H hS=>?_
 refine Ws ?_
 refine Sq ?_
 refine Rg 7 ?_
 refine Om (.i a1) ?_
 refine Of ((Wheel.cells a0.Wheel)) zcG ?_
 refine Of ((Wheel.cells a0.Wheel)) zdq ?_
 refine Olp (.i a0.Wheel.Round) zah zar ?_
 refine Oi (.i (w64 (a0.Wheel.Round-1))) ?_
 obtain ⟨r1,hr1,hM⟩:=zai hM
 refine zaE (bs:=[.i a1,.i 0,.i (w64 (a0.Wheel.Round-1))]) (by decide) rfl rfl ((zdw hr1).le (.k (.k (.k .nil)))) ?_
 refine Oa (.b r1) ?_
 refine Ni ?_
 refine Ws ?_
 refine zaR ?_
 refine zaZ (x:=.b r1) (f:=fun r=>.b r) (.inr rfl) ?_ (.refl _) (Option.some.inj hM) hS
 exact (zax (zae (x:=.b r1) rfl))
theorem zjd {S:Type} {Lo:S->BL} (hk:∀s s',zls (Lo s) (Lo s')) (hnd:∀s,(ids (Lo s)).Nodup) (hin:∀s,InB In (Lo s)) {aF:Int->S->Option (Bool×S)} {f0:AV} (hF:∀s H,Has H (Lo s)->In H f0) (h0:cellsOf f0=some [f0]) (hf:∀{x0:Int} {s:S} {r:Bool×S},aF x0 s=some r->zpZ Try.prog f0 [.i x0] (Lo s) (.b r.1) (Lo r.2)) {a0:Int} {st:S} {r:Bool×S} (hM:zcw aF a0 st=some r):zjZ Try.prog 175 [.i a0,.ep [f0]] (Lo st) (.b r.1) (Lo r.2):=by
 have hnd0:∀s,(ids (Lo s)).Nodup:=fun s=>hnd s
 refine zds mixed Try.func175 rfl (by decide) Try.ntmps175 (by simp) (hk _ _) (hnd st) ?pure ?cells fun H0 g hf_ hp=>?_
 case pure=>exact fun H _=>(show Go.AM.Pure _ from .v _).inH
 case cells=>exact hin _
 rw [zag]
 change wpA _ _ _ _ (Fr.of [(0,.i a0),(1,.ep [f0])]) H0 g
 have hS:=St.startH (L:=([]++Lo st)) hf_ (hnd st) hp
 replace hS:St (fun i=>i<g/\i∉ids (Lo st)) H0 ([]++Lo st) H0 g:=hS
 refine Sq ?_
 refine Rg 1 ?_
 refine Oa (.b false) ?_
 refine Ni ?_
 refine Ws ?_
 refine Sq ?_
 refine Rg 5 ?_
 refine Olp (f0) zsa ztB ?_
 refine Om (.i a0) ?_
 obtain ⟨r1,hr1,hM⟩:=zai hM
 replace hS:St (fun i=>i<g/\i∉ids (Lo st)) H0 ([]++Lo st) _ _:=hS
 refine zkK (bs:=[.i a0]) (.inl rfl) hS (by decide) rfl rfl ((hf hr1).le (.k .nil)) (hk _ _).ids (by omega) fun H hS=>?_
 refine zd4 (e:=r1.1) (by decide) rfl ?_
 refine Oa (.b (!r1.1)) ?_
 refine Ni ?_
 refine Ws ?_
 refine zaR ?_
 refine zfm (x:=.b (!r1.1)) (f:=fun r=>.b r.1) (fd:=fun r=>(Lo r.2)) (.inr rfl) ?_ (.refl _) (Option.some.inj hM) hS 0 rfl
 exact (zax (zae (x:=.b (!r1.1)) rfl))
theorem zk9 {S:Type} {Lo:S->BL} (hk:∀s s',zls (Lo s) (Lo s')) (hnd:∀s,(ids (Lo s)).Nodup) (hin:∀s,InB In (Lo s)) {aF:Int->S->Option (Bool×S)} {f0:AV} (hF:∀s H,Has H (Lo s)->In H f0) (h0:cellsOf f0=some [f0]) (hf:∀{x0:Int} {s:S} {r:Bool×S},aF x0 s=some r->zpZ Try.prog f0 [.i x0] (Lo s) (.b r.1) (Lo r.2)) {n:Nat} {a0:List Int} {st:S} {r:Bool×S} (hM:zfK n aF a0 st=some r):zjZ Try.prog 159 [.sl .no 1 (a0.map cI),f0] (Lo st) (.b r.1) (Lo r.2):=by
 have hnd0:∀s,(ids (Lo s)).Nodup:=fun s=>hnd s
 refine zds mixed Try.func159 rfl (by decide) Try.ntmps159 (by simp) (hk _ _) (hnd st) ?pure ?cells fun H0 g hf_ hp=>?_
 case pure=>exact fun H _=>(show Go.AM.Pure _ from .v _).inH
 case cells=>exact hin _
 rw [zag]
 change wpA _ _ _ _ (Fr.of [(0,.sl .no 1 (a0.map cI)),(1,f0)]) H0 g
 have hS:=St.startH (L:=([]++Lo st)) hf_ (hnd st) hp
 replace hS:St (fun i=>i<g/\i∉ids (Lo st)) H0 ([]++Lo st) H0 g:=hS
 refine Sq ?_
 refine Rg 2 ?_
 refine zb4 (v:=f0) (cs:=[f0]) hS (by decide) rfl h0 (by omega) fun H hS=>?_
 refine Oa (.b false) ?_
 refine Ni ?_
 refine zaX (L':=([]++Lo st)) 0 3 hS rfl rfl rfl fun H hS=>?_
 refine Ws ?_
 refine za1 (J:=Bool×S) (fun j=>[(4,.b j.1)]) (fun j H' g'=>St (fun i=>i<g/\i∉ids (Lo st)) H0 ([]++Lo j.2) H' g'/\zdn j.1 j.2=some r) ?_ ?_
 ·rintro ⟨v1,v2⟩ H g1 ⟨hS,hM⟩
  change wpA _ _ _ _ (Fr.of [(4,.b v1)]) _ _
  replace hS:St (fun i=>i<g/\i∉ids (Lo st)) H0 ([]++Lo v2) H g1:=hS
  replace hM:zdn v1 v2=some r:=hM
  refine zaR ?_
  refine zfm (x:=.b v1) (f:=fun r=>.b r.1) (fd:=fun r=>(Lo r.2)) (.inr rfl) ?_ (.refl _) (Option.some.inj hM) hS 0 rfl
  exact (zax (zae (x:=.b v1) rfl))
 ·refine Rg 10 ?_
  refine Om (.sl .no 1 (a0.map cI)) ?_
  refine zbA (n:=a0.length) (by decide) rfl (List.length_map _) zaB ?_
  refine Oi (.b (decide ((a0.length:Int)<=20))) ?_
  refine Om (.b (decide ((a0.length:Int)<=20))) ?_
  rcases bft (decide ((a0.length:Int)<=20)) with hb3 | hb3
  ·replace hM:=ifT hM hb3
   refine Oy (want:=true) hb3 ?_
   refine Om (.sl .no 1 (a0.map cI)) ?_
   refine Oy (want:=true) hb3 ?_
   refine zet (first:=[]) (cap:=[.ep [f0]]) (by decide) rfl rfl ?_
   refine Oy (want:=true) hb3 ?_
   obtain ⟨r4,hr4,hM⟩:=zai hM
   replace hS:St (fun i=>i<g/\i∉ids (Lo st)) H0 ([]++Lo st) _ _:=hS
   refine zpd (bs:=[.sl .no 1 (a0.map cI),.fn (.func 175) [] [.ep [f0]]]) (.inl rfl) hS (by decide) rfl rfl ((zeb (Lo:=Lo)  hk hnd0 hin (aF:=(zcw aF)) (fun s H hH=>(.fn _ _ _ zd3 (zbU (.ep _ (zbU (hF _ H hH) zd3)) zd3))) rfl (fun h=>zkS (zjd (Lo:=Lo)  hk hnd0 hin hF h0 hf h)) hr4).le (.k (.k .nil))) (hk _ _).ids (by omega) fun H hS=>?_
   refine Oy (want:=true) hb3 ?_
   refine zd4 (e:=r4.1) (by decide) rfl ?_
   refine Pt (.b (!r4.1)) hb3 ?_
   refine Oa (.b (!r4.1)) ?_
   refine Ni ?_
   exact zal ((!r4.1),r4.2) (.k .nil) ⟨(hS.keep [] rfl).up (by omega),hM⟩
  ·replace hM:=ifF hM hb3
   refine On (want:=true) hb3 ?_
   refine On (want:=true) hb3 ?_
   refine On (want:=true) hb3 ?_
   refine On (want:=true) hb3 ?_
   refine Pf (.b false) hb3 ?_
   refine Oa (.b false) ?_
   refine Ni ?_
   exact zal (false,st) (.k .nil) ⟨(hS.keep [] rfl).up (by omega),hM⟩
theorem zh3 {a0:Wheel_} {a1:Int} {r:Bool} (hM:zdA a0 a1=some r):zaH Try.prog 176 [.agg (Wheel.cells a0.Wheel),.i a1] (.b r):=by
 refine zak mixed Try.func176 rfl (by decide) Try.ntmps176 (by simp) ?pure fun H0 g hf=>?_
 case pure=>exact .v _
 rw [zag]
 change wpA _ _ _ _ (Fr.of [(0,.agg (Wheel.cells a0.Wheel)),(1,.i a1)]) H0 g
 have hS:=St.start hf
 refine Sq ?_
 refine Rg 2 ?_
 refine zb4 (v:=.agg (Wheel.cells a0.Wheel)) (cs:=(Wheel.cells a0.Wheel)) hS (by decide) rfl rfl (by omega) fun H hS=>?_
 refine Oa (.b false) ?_
 refine Ni ?_
 refine zaX (L':=[]) 0 2 hS rfl rfl rfl fun H hS=>?_
 refine Ws ?_
 refine Sq ?_
 refine Rg 8 ?_
 refine Om (.i a1) ?_
 refine Of ((Wheel.cells a0.Wheel)) zcG ?_
 refine Of ((Wheel.cells a0.Wheel)) zbL ?_
 refine Olp (.sl .no 1 (a0.Wheel.Coins.map cI)) zau zaO ?_
 refine zbA (n:=a0.Wheel.Coins.length) (by decide) rfl (List.length_map _) zaB ?_
 refine Oi (.i (w64 ((a0.Wheel.Coins.length:Int)-1))) ?_
 obtain ⟨r1,hr1,hM⟩:=zai hM
 refine zaE (bs:=[.i a1,.i 0,.i (w64 ((a0.Wheel.Coins.length:Int)-1))]) (by decide) rfl rfl ((zdw hr1).le (.k (.k (.k .nil)))) ?_
 refine Oa (.b r1) ?_
 refine Ni ?_
 refine zeF [(4,.b r1)] (.k .nil) ?_
 refine zaR ?_
 refine zaZ (x:=.b r1) (f:=fun r=>.b r) (.inr rfl) ?_ (.refl _) (Option.some.inj hM) hS
 exact (zax (zae (x:=.b r1) rfl))
theorem zir {a0:Wheel_} {a1:Int} {r:Bool} (hM:zcE a0 a1=some r):zaH Try.prog 160 [.agg (Wheel.cells a0.Wheel),.i a1] (.b r):=by
 refine zak mixed Try.func160 rfl (by decide) Try.ntmps160 (by simp) ?pure fun H0 g hf=>?_
 case pure=>exact .v _
 rw [zag]
 change wpA _ _ _ _ (Fr.of [(0,.agg (Wheel.cells a0.Wheel)),(1,.i a1)]) H0 g
 have hS:=St.start hf
 refine Sq ?_
 refine Rg 2 ?_
 refine zb4 (v:=.agg (Wheel.cells a0.Wheel)) (cs:=(Wheel.cells a0.Wheel)) hS (by decide) rfl rfl (by omega) fun H hS=>?_
 refine Oa (.b false) ?_
 refine Ni ?_
 refine zaX (L':=[]) 0 2 hS rfl rfl rfl fun H hS=>?_
 refine Ws ?_
 refine za1 (J:=Bool) (fun j=>[(4,.b j)]) (fun j H' g'=>St (·<g) H0 [] H' g'/\zcx j=some r) ?_ ?_
 ·rintro v1 H g1 ⟨hS,hM⟩
  change wpA _ _ _ _ (Fr.of [(4,.b v1)]) _ _
  replace hS:St (·<g) H0 [] H g1:=hS
  replace hM:zcx v1=some r:=hM
  refine zaR ?_
  refine zaZ (x:=.b v1) (f:=fun r=>.b r) (.inr rfl) ?_ (.refl _) (Option.some.inj hM) hS
  exact (zax (zae (x:=.b v1) rfl))
 ·refine Rg 8 ?_
  refine Om (.i a1) ?_
  refine Oi (.b (a1==(-1))) ?_
  refine Om (.b (a1==(-1))) ?_
  rcases bft (a1==(-1)) with hb2 | hb2
  ·replace hM:=ifT hM hb2
   refine On (want:=false) hb2 ?_
   refine On (want:=false) hb2 ?_
   refine On (want:=false) hb2 ?_
   refine Pt (.b true) hb2 ?_
   refine Oa (.b true) ?_
   refine Ni ?_
   exact zal true (.k .nil) ⟨(hS.keep [] rfl).up (by omega),hM⟩
  ·replace hM:=ifF hM hb2
   refine Oy (want:=false) hb2 ?_
   refine Olg (.agg (Wheel.cells a0.Wheel)) zc6 ?_
   refine Oy (want:=false) hb2 ?_
   refine Om (.i a1) ?_
   refine Oy (want:=false) hb2 ?_
   obtain ⟨r3,hr3,hM⟩:=zai hM
   refine zaE (bs:=[.agg (Wheel.cells a0.Wheel),.i a1]) (by decide) rfl rfl ((zh3 hr3).le (.k (.k .nil))) ?_
   refine Pf (.b r3) hb2 ?_
   refine Oa (.b r3) ?_
   refine Ni ?_
   exact zal r3 (.k .nil) ⟨(hS.keep [] rfl).up (by omega),hM⟩
theorem zlB {p1:Nat} (hnd:[p1].Nodup) {n:Nat} {a0:Wheel_} {a1:Stand} {a2:List Int} {r:Bool} (hM:zfn n a0 a1 a2=some r):zjZ Try.prog 157 [.agg (Wheel.cells a0.Wheel),.ptr p1 0,.ep [.sl .no 1 (a2.map cI)]] [(p1,.cells (Stand.cells a1))] (.b r) [(p1,.cells (Stand.cells a1))]:=by
 refine zds mixed Try.func157 rfl (by decide) Try.ntmps157 (by simp) (zfO zh9) hnd ?pure ?cells fun H0 g hf_ hp=>?_
 case pure=>exact fun H _=>(show Go.AM.Pure _ from .v _).inH
 case cells=>exact (zjN (zfH (zcm (.inl (.inl (.v _))) (zcm (.inl (.inl (.v _))) ziH)) zjM) zgB)
 rw [zag]
 change wpA _ _ _ _ (Fr.of [(0,.agg (Wheel.cells a0.Wheel)),(1,.ptr p1 0),(2,.ep [.sl .no 1 (a2.map cI)])]) H0 g
 have hS:=St.startH (L:=[(p1,.cells (Stand.cells a1))]) hf_ hnd hp
 replace hS:St (fun i=>i<g/\i∉ids [(p1,.cells (Stand.cells a1))]) H0 [(p1,.cells (Stand.cells a1))] H0 g:=hS
 refine Sq ?_
 refine Rg 2 ?_
 refine zb4 (v:=.agg (Wheel.cells a0.Wheel)) (cs:=(Wheel.cells a0.Wheel)) hS (by decide) rfl rfl (by omega) fun H hS=>?_
 refine Oa (.b false) ?_
 refine Ni ?_
 refine zaX (L':=[(p1,.cells (Stand.cells a1))]) 0 3 hS rfl rfl rfl fun H hS=>?_
 refine Ws ?_
 refine za1 (J:=Bool) (fun j=>[(4,.b j)]) (fun j H' g'=>St (fun i=>i<g/\i∉ids [(p1,.cells (Stand.cells a1))]) H0 [(p1,.cells (Stand.cells a1))] H' g'/\zc4 j=some r) ?_ ?_
 ·rintro v1 H g1 ⟨hS,hM⟩
  change wpA _ _ _ _ (Fr.of [(4,.b v1)]) _ _
  replace hS:St (fun i=>i<g/\i∉ids [(p1,.cells (Stand.cells a1))]) H0 [(p1,.cells (Stand.cells a1))] H g1:=hS
  replace hM:zc4 v1=some r:=hM
  refine zaR ?_
  refine zfm (x:=.b v1) (f:=fun r=>.b r) (fd:=fun r=>[(p1,.cells (Stand.cells a1))]) (.inr rfl) ?_ (.refl _) (Option.some.inj hM) hS 0 rfl
  exact (zax (zae (x:=.b v1) rfl))
 ·refine Rg 16 ?_
  refine Olg (.agg (Wheel.cells a0.Wheel)) zc6 ?_
  refine zaw (by decide) zdr rfl ?_
  refine zaV (v:=.i a1.Place) 0 hS (by decide) rfl rfl .no (po zah zar) ?_
  obtain ⟨r2,hr2,hM⟩:=zai hM
  refine zaE (bs:=[.agg (Wheel.cells a0.Wheel),.i a1.Place]) (by decide) rfl rfl ((zhI hr2).le (.k (.k .nil))) ?_
  refine Om (.b r2) ?_
  rcases bft r2 with hb3 | hb3
  ·replace hM:=ifT hM hb3
   refine Oy (want:=true) hb3 ?_
   refine zaw (by decide) zbV rfl ?_
   refine Oy (want:=true) hb3 ?_
   refine zaV (v:=.i a1.Credit) 0 hS (by decide) rfl rfl .no (po zah zar) ?_
   refine Oy (want:=true) hb3 ?_
   obtain ⟨r4,hr4,hM⟩:=zai hM
   refine zaE (bs:=[.i a1.Credit,.i 0,.i 20]) (by decide) rfl rfl ((zdw hr4).le (.k (.k (.k .nil)))) ?_
   refine Pt (.b r4) hb3 ?_
   refine Om (.b r4) ?_
   rcases bft r4 with hb5 | hb5
   ·replace hM:=ifT hM hb5
    refine Oy (want:=true) hb5 ?_
    refine Olp (.sl .no 1 (a2.map cI)) zau zaO ?_
    refine Oy (want:=true) hb5 ?_
    refine Olg (.agg (Wheel.cells a0.Wheel)) zc6 ?_
    refine Oy (want:=true) hb5 ?_
    refine zet (first:=[.agg (Wheel.cells a0.Wheel)]) (cap:=[]) (by decide) rfl rfl ?_
    refine Oy (want:=true) hb5 ?_
    obtain ⟨r6,hr6,hM⟩:=zai hM
    refine zaE (bs:=[.sl .no 1 (a2.map cI),.fn (.func 160) [.agg (Wheel.cells a0.Wheel)] []]) (by decide) rfl rfl (zjO ((zk9 (Lo:=(fun (_:Unit)=>[]))  (fun _ _=>zh9) (fun _=>List.nodup_nil) (fun _=>zgB) (aF:=(fun (x0:Int) (_:Unit)=>(zcE a0 x0).map fun y=>(y,()))) (fun _ H hH=>(.fn _ _ _ (zbU (show Go.AM.Pure _ from .agg _ (zab (.v _) (zab (.sl _ _ (zav (fun x=>(zab (.v _) zaF)))) (zab (.sl _ _ (zav (fun x=>(zab (.v _) zaF)))) zaF)))).inH zd3) zd3)) rfl (fun h=>zpl (zir (zkN h))) hr6).le (.k (.k .nil)))) ?_
    refine Pt (.b r6.1) hb5 ?_
    refine Oa (.b r6.1) ?_
    refine Ni ?_
    exact zal r6.1 (.k .nil) ⟨(hS.keep [true] rfl).up (by omega),hM⟩
   ·replace hM:=ifF hM hb5
    refine On (want:=true) hb5 ?_
    refine On (want:=true) hb5 ?_
    refine On (want:=true) hb5 ?_
    refine On (want:=true) hb5 ?_
    refine Pf (.b false) hb5 ?_
    refine Oa (.b false) ?_
    refine Ni ?_
    exact zal false (.k .nil) ⟨(hS.keep [true] rfl).up (by omega),hM⟩
  ·replace hM:=ifF hM hb3
   refine On (want:=true) hb3 ?_
   refine On (want:=true) hb3 ?_
   refine On (want:=true) hb3 ?_
   refine Pf (.b false) hb3 ?_
   refine Om (.b false) ?_
   refine Og ?_
   refine Og ?_
   refine Og ?_
   refine Og ?_
   refine zaS (v:=.b false) (e:=false) (by decide) rfl rfl rfl ?_
   refine Oa (.b false) ?_
   refine Ni ?_
   exact zal false (.k .nil) ⟨(hS.keep [true] rfl).up (by omega),hM⟩
theorem zla {n:Nat} {a0:Wheel} {a1:Stand} {a2:List Int} {r:Stand×Int×Int} (hM:zeL n a0 a1 a2=some r):zaH Try.prog 131 [.agg (Wheel.cells a0),.agg (Stand.cells a1),.sl .no 1 (a2.map cI)] (.tup [.agg [.i r.1.Place,.i r.1.Credit],.i r.2.1,.i r.2.2]):=by
 refine zak mixed Try.func131 rfl (by decide) Try.ntmps131 (by simp) ?pure fun H0 g hf=>?_
 case pure=>exact .tup _ (zab (.agg _ (zab (.v _) (zab (.v _) zaF))) (zab (.v _) (zab (.v _) zaF)))
 rw [zag]
 change wpA _ _ _ _ (Fr.of [(0,.agg (Wheel.cells a0)),(1,.agg (Stand.cells a1)),(2,.sl .no 1 (a2.map cI))]) H0 g
 have hS:=St.start hf
 refine Sq ?_
 refine Rg 6 ?_
 refine zb4 (v:=.agg (Wheel.cells a0)) (cs:=(Wheel.cells a0)) hS (by decide) rfl rfl (by omega) fun H hS=>?_
 refine zb4 (v:=.agg (Stand.cells a1)) (cs:=(Stand.cells a1)) hS (by decide) rfl rfl (by omega) fun H hS=>?_
 refine zb4 (v:=.sl .no 1 (a2.map cI)) (cs:=[.sl .no 1 (a2.map cI)]) hS (by decide) rfl rfl (by omega) fun H hS=>?_
 refine za3 hS (by decide) zcz (by omega) fun H hS=>?_
 refine Oa (.i 0) ?_
 refine Oa (.i 0) ?_
 refine Ni ?_
 refine zaX (L':=[(g+3,.cells [.i 0,.i 0]),(g+2,.cells [.sl .no 1 (a2.map cI)]),(g+1,.cells (Stand.cells a1))]) 3 3 hS rfl rfl rfl fun H hS=>?_
 refine zaX (L':=[(g+3,.cells [.i 0,.i 0]),(g+1,.cells (Stand.cells a1))]) 1 5 hS rfl rfl rfl fun H hS=>?_
 refine Ws ?_
 refine Sq ?_
 refine Rg 9 ?_
 refine Olg (.agg (Wheel.cells a0)) zbk ?_
 refine zet (first:=[]) (cap:=[.ptr (g+1) 0,.ep [.sl .no 1 (a2.map cI)]]) (by decide) rfl rfl ?_
 obtain ⟨r1,hr1,hM⟩:=zai hM
 have hndr1:=hS.nd_at (ns:=[1]) (M:=[(g+1,.cells (Stand.cells a1))]) (M':=[(g+1,.cells (Stand.cells a1))]) (.cons rfl .nil) (by decide)
 have hncr1:=hS.nd_at (ns:=[1]) (M:=[(g+1,.cells (Stand.cells a1))]) (M':=[(g+1,.cells (Stand.cells a1))]) (.cons rfl .nil) (by decide)
 refine zkJ (bs:=[.agg (Wheel.cells a0),.fn (.func 157) [] [.ptr (g+1) 0,.ep [.sl .no 1 (a2.map cI)]]]) (M:=[(g+1,.cells (Stand.cells a1))]) (M':=[(g+1,.cells (Stand.cells a1))]) (L':=[(g+3,.cells [.i 0,.i 0]),(g+1,.cells (Stand.cells a1))]) [1] (.inl rfl) hS (by decide) rfl rfl ((zhH (Lo:=(fun (_:Unit)=>[(g+1,.cells (Stand.cells a1))]))  (fun _ _=>(zfO zh9)) (fun _=>hndr1) (fun s=>(zjN (zfH (zcm (.inl (.inl (.v _))) (zcm (.inl (.inl (.v _))) ziH)) zjM) zgB)) (aF:=(fun (x0:Wheel_) (_:Unit)=>(zfn n x0 a1 a2).map fun y=>(y,()))) (fun s H hH=>(.fn _ _ _ zd3 (zbU (znl hH 0 rfl) (zbU (.ep _ (zbU (show Go.AM.Pure _ from .sl _ _ (zav (fun x=>(zab (.v _) zaF)))).inH zd3)) zd3)))) rfl (fun h=>zkS (zlB (p1:=g+1)  hncr1 (zkN h))) hr1).le (.k (.k .nil))) (.cons rfl .nil) rfl (by omega) fun H hS=>?_
 refine Om (.tup [.agg (Wheel.cells r1.1.1.Wheel),.i r1.1.2]) ?_
 refine Ox (.agg (Wheel.cells r1.1.1.Wheel)) ?_
 refine Ox (.i r1.1.2) ?_
 refine za3 hS (by decide) zez (by omega) fun H hS=>?_
 refine zaJ (v:=.agg (Wheel.cells r1.1.1.Wheel)) (ns:=(Wheel.cells r1.1.1.Wheel)) (L':=[(g+6+6,.cells (Wheel.cells r1.1.1.Wheel)),(g+3,.cells [.i 0,.i 0]),(g+1,.cells (Stand.cells a1))]) 0 hS rfl rfl .no rfl rfl zgL nlb rfl fun H hS=>?_
 refine Oa (.i r1.1.2) ?_
 refine Ni ?_
 refine zaX (L':=[(g+3,.cells [.i 0,.i 0]),(g+1,.cells (Stand.cells a1))]) 0 9 hS rfl rfl rfl fun H hS=>?_
 refine Ws ?_
 refine Sq ?_
 refine Sq ?_
 refine Rg 2 ?_
 refine Om (.i r1.1.2) ?_
 refine Oi (.b (r1.1.2 != 0)) ?_
 refine Ni ?_
 refine Ws ?_
 rcases bft (r1.1.2 != 0) with hb2 | hb2
 ·replace hM:=ifT hM hb2
  refine Ct hb2 ?_
  refine Sq ?_
  refine Rg 5 ?_
  refine zbx (cs:=[.i 0,.i 0]) (by decide) zcz zhe rfl ?_
  refine Om (.i r1.1.2) ?_
  refine zaJ (v:=.agg [.i 0,.i 0]) (ns:=[.i 0,.i 0]) (L':=[(g+3,.cells [.i 0,.i 0]),(g+1,.cells (Stand.cells a1))]) 0 hS rfl rfl .no rfl rfl zd1 nlb rfl fun H hS=>?_
  refine Oa (.i 0) ?_
  refine Oa (.i r1.1.2) ?_
  refine Ni ?_
  replace hS:=hS.keep (L':=[(g+3,.cells [.i 0,.i 0])]) [true,false] rfl
  refine Ws ?_
  refine zaR ?_
  refine zam ?_
  refine zaZ (x:=.tup [.agg [.i 0,.i 0],.i 0,.i r1.1.2]) (f:=fun r=>.tup [.agg [.i r.1.Place,.i r.1.Credit],.i r.2.1,.i r.2.2]) (.inr rfl) ?_ (.refl _) (Option.some.inj hM) hS
  exact (zfY (zcA (x:=.agg [.i 0,.i 0]) 0 hS rfl rfl (pg zdD)) (zae (x:=.i 0) rfl) (zae (x:=.i r1.1.2) rfl))
 ·replace hM:=ifF hM hb2
  refine Cf hb2 ?_
  refine zaD ?_
  refine Ws ?_
  refine za1 (J:=Int×Int×Int) (fun j=>[(4,.ptr (g+1) 0),(6,.ptr (g+3) 0),(7,.i j.1)]) (fun j H' g'=>St (·<g) H0 [(g+3,.cells [.i 0,.i 0]),(g+1,.cells [.i j.2.1,.i j.2.2])] H' g'/\zgn j.1 j.2.1 j.2.2=some r) ?_ ?_
  ·rintro ⟨v3,v4,v5⟩ H g1 ⟨hS,hM⟩
   change wpA _ _ _ _ (Fr.of [(4,.ptr (g+1) 0),(6,.ptr (g+3) 0),(7,.i v3)]) _ _
   replace hS:St (·<g) H0 [(g+3,.cells [.i 0,.i 0]),(g+1,.cells [.i v4,.i v5])] H g1:=hS
   replace hM:zgn v3 v4 v5=some r:=hM
   refine Sq ?_
   refine Rg 5 ?_
   refine zaV (v:=.agg [.i v4,.i v5]) 1 hS (by decide) rfl rfl .no (pg zdD) ?_
   refine Om (.i v3) ?_
   refine zaJ (v:=.agg [.i v4,.i v5]) (ns:=[.i v4,.i v5]) (L':=[(g+3,.cells [.i v4,.i v5]),(g+1,.cells [.i v4,.i v5])]) 0 hS rfl rfl .no rfl rfl zd1 nlb rfl fun H hS=>?_
   refine Oa (.i v3) ?_
   refine Oa (.i 0) ?_
   refine Ni ?_
   replace hS:=hS.keep (L':=[(g+3,.cells [.i v4,.i v5])]) [true,false] rfl
   refine Ws ?_
   refine zaR ?_
   refine zaZ (x:=.tup [.agg [.i v4,.i v5],.i v3,.i 0]) (f:=fun r=>.tup [.agg [.i r.1.Place,.i r.1.Credit],.i r.2.1,.i r.2.2]) (.inr rfl) ?_ (.refl _) (Option.some.inj hM) hS
   exact (zfY (zcA (x:=.agg [.i v4,.i v5]) 0 hS rfl rfl (pg zdD)) (zae (x:=.i v3) rfl) (zae (x:=.i 0) rfl))
  ·refine Sq ?_
   refine Rg 3 ?_
   refine Olp (.sl .no 1 (a2.map cI)) zau zaO ?_
   refine zbA (n:=a2.length) (by decide) rfl (List.length_map _) zaB ?_
   refine Om (.i 0) ?_
   refine Ni ?_
   refine Ws ?_
   refine zaK ?_
   refine zct (V:=Int×Int×Int×Int) (fun v=>[(4,.ptr (g+1) 0),(6,.ptr (g+3) 0),(7,.i v.1),(9,.ep (Wheel.cells r1.1.1.Wheel)),(22,.sl .no 1 (a2.map cI)),(23,.i (a2.length:Int)),(24,.i v.2.1)]) (fun v m3 H' g'=>St (·<g) H0 [(g+3,.cells [.i 0,.i 0]),(g+1,.cells [.i v.2.2.1,.i v.2.2.2])] H' g'/\zbH n a2 r1 m3 v.1 v.2.1 v.2.2.1 v.2.2.2=some r) (n:=n) (0,0,a1.Place,a1.Credit) (.k (.k (.k (.k (.k (.k (.k .nil))))))) ⟨(hS.keep [true,true] rfl).up (by omega),hM⟩ ?_
   rintro ⟨v8,v9,v10,v11⟩ m3 H g3 ⟨hS,hM⟩
   obtain _ | m3:=m3
   ·exact nomatch (show none=some _ from hM)
   change wpA _ _ _ _ (Fr.of [(4,.ptr (g+1) 0),(6,.ptr (g+3) 0),(7,.i v8),(9,.ep (Wheel.cells r1.1.1.Wheel)),(22,.sl .no 1 (a2.map cI)),(23,.i (a2.length:Int)),(24,.i v9)]) _ _
   replace hS:St (·<g) H0 [(g+3,.cells [.i 0,.i 0]),(g+1,.cells [.i v10,.i v11])] H g3:=hS
   replace hM:zfa n a2 r1 (zbH n a2 r1 m3) v8 v9 v10 v11=some r:=hM
   refine Sq ?_
   refine Rg 1 ?_
   refine Oi (.b (decide (v9<(a2.length:Int)))) ?_
   refine Ni ?_
   refine Ws ?_
   refine Sq ?_
   rcases bft (decide (v9<(a2.length:Int))) with hb12 | hb12
   ·replace hM:=ifT hM hb12
    refine Ct hb12 ?_
    refine zaD ?_
    refine Ws ?_
    refine Sq ?_
    refine zaK ?_
    refine Sq ?_
    refine Rg 3 ?_
    obtain ⟨x13,hx13,hM⟩:=zai hM
    refine za5 (xs:=a2) (f:=cI) (z:=v9) (u:=x13) (by decide) rfl rfl zay hx13 ?_
    refine Olp (.i x13) zah zar ?_
    refine Oa (.i x13) ?_
    refine Ni ?_
    refine Ws ?_
    refine za1 (J:=Int) (fun j=>[(4,.ptr (g+1) 0),(6,.ptr (g+3) 0),(7,.i j),(9,.ep (Wheel.cells r1.1.1.Wheel)),(11,.i x13),(22,.sl .no 1 (a2.map cI)),(23,.i (a2.length:Int)),(24,.i v9)]) (fun j H' g'=>St (·<g) H0 [(g+3,.cells [.i 0,.i 0]),(g+1,.cells [.i v10,.i v11])] H' g'/\zfo n (zbH n a2 r1 m3) r1 v9 v10 v11 x13 j=some r) ?_ ?_
    ·rintro v14 H g4 ⟨hS,hM⟩
     change wpA _ _ _ _ (Fr.of [(4,.ptr (g+1) 0),(6,.ptr (g+3) 0),(7,.i v14),(9,.ep (Wheel.cells r1.1.1.Wheel)),(11,.i x13),(22,.sl .no 1 (a2.map cI)),(23,.i (a2.length:Int)),(24,.i v9)]) _ _
     replace hS:St (·<g) H0 [(g+3,.cells [.i 0,.i 0]),(g+1,.cells [.i v10,.i v11])] H g4:=hS
     replace hM:zfo n (zbH n a2 r1 m3) r1 v9 v10 v11 x13 v14=some r:=hM
     refine Rg 5 ?_
     refine Olg (.agg (Wheel.cells r1.1.1.Wheel)) zc6 ?_
     refine zaV (v:=.agg [.i v10,.i v11]) 1 hS (by decide) rfl rfl .no (pg zdD) ?_
     refine Om (.i x13) ?_
     obtain ⟨r15,hr15,hM⟩:=zai hM
     refine zaE (bs:=[.agg (Wheel.cells r1.1.1.Wheel),.agg [.i v10,.i v11],.i x13]) (by decide) rfl rfl ((zjy hr15).le (.k (.k (.k .nil)))) ?_
     refine zaJ (v:=.agg (Stand.cells r15)) (ns:=(Stand.cells r15)) (L':=[(g+3,.cells [.i 0,.i 0]),(g+1,.cells (Stand.cells r15))]) 1 hS rfl rfl .no rfl rfl zd1 nlb rfl fun H hS=>?_
     refine Ni ?_
     refine zat ?_
     refine Ws ?_
     refine Rg 2 ?_
     refine Oi (.i (w64 (v9+1))) ?_
     refine Om (.i (w64 (v9+1))) ?_
     refine Ni ?_
     exact zbq (v14,w64 (v9+1),r15.Place,r15.Credit) (Nat.lt_succ_self _) (.k (.k (.k (.k (.k (.k (.k .nil))))))) ⟨(hS.keep [true,true] rfl).up (by omega),hM⟩
    ·refine za1 (J:=Bool) (fun j=>[(4,.ptr (g+1) 0),(6,.ptr (g+3) 0),(7,.i v8),(9,.ep (Wheel.cells r1.1.1.Wheel)),(11,.i x13),(22,.sl .no 1 (a2.map cI)),(23,.i (a2.length:Int)),(24,.i v9),(34,.b j)]) (fun j H' g'=>St (·<g) H0 [(g+3,.cells [.i 0,.i 0]),(g+1,.cells [.i v10,.i v11])] H' g'/\zex n (zbH n a2 r1 m3) r1 v8 v9 v10 v11 x13 j=some r) ?_ ?_
     ·rintro v16 H g5 ⟨hS,hM⟩
      change wpA _ _ _ _ (Fr.of [(4,.ptr (g+1) 0),(6,.ptr (g+3) 0),(7,.i v8),(9,.ep (Wheel.cells r1.1.1.Wheel)),(11,.i x13),(22,.sl .no 1 (a2.map cI)),(23,.i (a2.length:Int)),(24,.i v9),(34,.b v16)]) _ _
      replace hS:St (·<g) H0 [(g+3,.cells [.i 0,.i 0]),(g+1,.cells [.i v10,.i v11])] H g5:=hS
      replace hM:zex n (zbH n a2 r1 m3) r1 v8 v9 v10 v11 x13 v16=some r:=hM
      rcases bft v16 with hb17 | hb17
      ·replace hM:=ifT hM hb17
       refine Ct hb17 ?_
       refine Rg 3 ?_
       refine Om (.i v8) ?_
       refine Oi (.i (w64 (v8+1))) ?_
       refine Oa (.i (w64 (v8+1))) ?_
       refine Ni ?_
       exact zal (w64 (v8+1)) (.k (.k (.k (.k (.k (.k (.k (.k .nil)))))))) ⟨(hS.keep [true,true] rfl).up (by omega),hM⟩
      ·replace hM:=ifF hM hb17
       refine Cf hb17 ?_
       refine zaD ?_
       exact zal v8 (.k (.k (.k (.k (.k (.k (.k (.k .nil)))))))) ⟨(hS.keep [true,true] rfl).up (by omega),hM⟩
     ·refine Rg 7 ?_
      refine Om (.i x13) ?_
      refine Oi (.b (x13==(-1))) ?_
      refine Om (.b (x13==(-1))) ?_
      rcases bft (x13==(-1)) with hb18 | hb18
      ·replace hM:=ifT hM hb18
       refine Oy (want:=true) hb18 ?_
       refine zaw (by decide) zbV rfl ?_
       refine Oy (want:=true) hb18 ?_
       refine zaV (v:=.i v11) 1 hS (by decide) rfl rfl .no (po zah zar) ?_
       refine Oy (want:=true) hb18 ?_
       refine Oi (.b (decide (v11>0))) ?_
       refine Pt (.b (decide (v11>0))) hb18 ?_
       refine Ni ?_
       exact zal (decide (v11>0)) (.k (.k (.k (.k (.k (.k (.k (.k (.k .nil))))))))) ⟨(hS.keep [true,true] rfl).up (by omega),hM⟩
      ·replace hM:=ifF hM hb18
       refine On (want:=true) hb18 ?_
       refine On (want:=true) hb18 ?_
       refine On (want:=true) hb18 ?_
       refine Pf (.b false) hb18 ?_
       refine Ni ?_
       exact zal false (.k (.k (.k (.k (.k (.k (.k (.k (.k .nil))))))))) ⟨(hS.keep [true,true] rfl).up (by omega),hM⟩
   ·replace hM:=ifF hM hb12
    refine Cf hb12 ?_
    refine zb1 ?_
    refine zaA ?_
    refine zaz ?_
    refine zaL ?_
    exact zal (v8,v10,v11) (.k (.k (.k .nil))) ⟨(hS.keep [true,true] rfl).up (by omega),hM⟩
theorem zgv {n:Nat} {a0:Option Box_} {al:Bag_} {r:List (PointT_×Step_)} (hM:zdo n a0 al=some r):zua Try.prog 99 [pA Box_.cells a0,.agg (Bag_.cells al)] (zaf (mpw zad zao r)):=by
 refine zqy mixed Try.func99 rfl (by decide) Try.ntmps99 (by simp) fun H0 g hf=>?_
 rw [zag]
 change wpA _ _ _ _ (Fr.of [(0,pA Box_.cells a0),(1,.agg (Bag_.cells al))]) H0 g
 have hS:=St.start hf
 unfold zdo at hM
 obtain ⟨b,hb0,hM⟩:=zai hM
 refine Sq ?_
 refine Rg 2 ?_
 refine zb4 (v:=.agg (Bag_.cells al)) (cs:=(Bag_.cells al)) hS (by decide) rfl rfl (by omega) fun H hS=>?_
 refine Oa (.v (.map none)) ?_
 refine Ni ?_
 refine Ws ?_
 refine Sq ?_
 refine Rg 7 ?_
 refine zlZ (kv:=zad) (cv:=zao) hS (by decide) zf9 (by omega) fun H hS=>?_
 refine zbx (cs:=[.i 0,.i 0,.i 0,.i 0,.i 0,.i 0,.i 0]) (by decide) zeA zkg rfl ?_
 refine zbx (cs:=[.i (-2),.i 0,.i 0,.i 0,.i 0,.i 0,.i 0,.i 0]) (by decide) zgM zpx rfl ?_
 refine zr0 (kv:=zad) (ok:=zbG) (cv:=zao) (z0:=za7) (M:=[]) (k:=zaN) (v:=⟨-2,zaN⟩) (M':=([(zaN,(⟨-2,zaN⟩:Step_))]:List (PointT_×Step_))) (L':=[(g+2+0,.obj none (zaf (mpw zad zao ([(zaN,(⟨-2,zaN⟩:Step_))]:List (PointT_×Step_))))),(g+0,.cells (Bag_.cells al))]) 0 zk6 (.inl rfl) hS rfl rfl rfl rfl zf9 zhG (by decide) rfl fun H hS=>?_
 refine Om (.mp (g+2+0)) ?_
 refine za3 hS (by decide) zqH (by omega) fun H hS=>?_
 refine zaJ (v:=.mp (g+2+0)) (ns:=[.mp (g+2+0)]) (L':=[(g+2+5,.cells [.mp (g+2+0)]),(g+2+0,.obj none (zaf (mpw zad zao ([(zaN,(⟨-2,zaN⟩:Step_))]:List (PointT_×Step_))))),(g+0,.cells (Bag_.cells al))]) 0 hS rfl rfl .no rfl rfl zsf nlb rfl fun H hS=>?_
 refine Ni ?_
 refine Ws ?_
 refine Sq ?_
 refine Rg 4 ?_
 refine zbx (cs:=[.i 0,.i 0,.i 0,.i 0,.i 0,.i 0,.i 0]) (by decide) zeA zkg rfl ?_
 refine zwi (e:=155) (es:=[[.i 0,.i 0,.i 0,.i 0,.i 0,.i 0,.i 0]]) hS (by decide) zi3 zpy rfl zmC rfl (by decide) (by omega) fun H hS=>?_
 replace hS:St (·<g) H0 [quB PointT_.cells (g+2+7+1) [] [zaN],(g+2+5,.cells [.mp (g+2+0)]),(g+2+0,.obj none (zaf (mpw zad zao ([(zaN,(⟨-2,zaN⟩:Step_))]:List (PointT_×Step_))))),(g+0,.cells (Bag_.cells al))] H (g+2+7+1+1):=hS
 refine za3 hS (by decide) zqI (by omega) fun H hS=>?_
 refine zaJ (v:=quV 7 (g+2+7+1) [] [zaN]) (ns:=[quV 7 (g+2+7+1) [] [zaN]]) (L':=[(g+2+7+2,.cells [quV 7 (g+2+7+1) [] [zaN]]),quB PointT_.cells (g+2+7+1) [] [zaN],(g+2+5,.cells [.mp (g+2+0)]),(g+2+0,.obj none (zaf (mpw zad zao ([(zaN,(⟨-2,zaN⟩:Step_))]:List (PointT_×Step_))))),(g+0,.cells (Bag_.cells al))]) 0 hS rfl rfl .no rfl rfl zkY nlb rfl fun H hS=>?_
 refine Ni ?_
 refine Ws ?_
 replace hS:=hS.toHead (L':=[(g+2+0,.obj none (zaf (mpw zad zao ([(zaN,(⟨-2,zaN⟩:Step_))]:List (PointT_×Step_))))),(g+2+7+2,.cells [quV 7 (g+2+7+1) [] [zaN]]),quB PointT_.cells (g+2+7+1) [] [zaN],(g+2+5,.cells [.mp (g+2+0)]),(g+0,.cells (Bag_.cells al))]) 3 nlb rfl
 replace hS:=hS.toHead (L':=[(g+2+7+2,.cells [quV 7 (g+2+7+1) [] [zaN]]),(g+2+0,.obj none (zaf (mpw zad zao ([(zaN,(⟨-2,zaN⟩:Step_))]:List (PointT_×Step_))))),quB PointT_.cells (g+2+7+1) [] [zaN],(g+2+5,.cells [.mp (g+2+0)]),(g+0,.cells (Bag_.cells al))]) 1 nlb rfl
 replace hS:=hS.toHead (L':=[(g+2+5,.cells [.mp (g+2+0)]),(g+2+7+2,.cells [quV 7 (g+2+7+1) [] [zaN]]),(g+2+0,.obj none (zaf (mpw zad zao ([(zaN,(⟨-2,zaN⟩:Step_))]:List (PointT_×Step_))))),quB PointT_.cells (g+2+7+1) [] [zaN],(g+0,.cells (Bag_.cells al))]) 3 nlb rfl
 replace hS:=hS.toHead (L':=[(g+0,.cells (Bag_.cells al)),(g+2+5,.cells [.mp (g+2+0)]),(g+2+7+2,.cells [quV 7 (g+2+7+1) [] [zaN]]),(g+2+0,.obj none (zaf (mpw zad zao ([(zaN,(⟨-2,zaN⟩:Step_))]:List (PointT_×Step_))))),quB PointT_.cells (g+2+7+1) [] [zaN]]) 4 nlb rfl
 replace hS:=hS.toHead (L':=[quB PointT_.cells (g+2+7+1) [] [zaN],(g+0,.cells (Bag_.cells al)),(g+2+5,.cells [.mp (g+2+0)]),(g+2+7+2,.cells [quV 7 (g+2+7+1) [] [zaN]]),(g+2+0,.obj none (zaf (mpw zad zao ([(zaN,(⟨-2,zaN⟩:Step_))]:List (PointT_×Step_)))))]) 4 nlb rfl
 refine Sq ?_
 refine zaK ?_
 refine zct (V:=ziK×Nat×List AV) (fun v=>[(0,pA Box_.cells a0),(3,.ptr (g+0) 0),(5,.ptr (g+2+5) 0),(6,.ptr (g+2+7+2) 0)]) (fun v k H' g'=>St (·<g) H0 [quB PointT_.cells v.2.1 v.2.2 v.1.2,(g+0,.cells (Bag_.cells al)),(g+2+5,.cells [.mp (g+2+0)]),(g+2+7+2,.cells [quV 7 v.2.1 v.2.2 v.1.2]),(g+2+0,.obj none (zaf (mpw zad zao v.1.1)))] H' g'/\(∀c,c∈v.2.2->Go.AM.Pure c)/\zdu n b al k v.1=some r) (n:=n) ((([(zaN,(⟨-2,zaN⟩:Step_))]:List (PointT_×Step_)),[zaN]),(g+2+7+1),[]) (.k (.k (.k (.k .nil)))) ⟨hS.up (by omega),(fun c h=>by simp at h),hM⟩ ?_
 rintro ⟨⟨S1,S2⟩,q,pre⟩ m H g1 ⟨hS,hpre,hM⟩
 obtain _ | m:=m
 ·exact nomatch (show none=some _ from hM)
 replace hpre:∀c,c∈pre->Go.AM.Pure c:=hpre
 change wpA _ _ _ _ (Fr.of [(0,pA Box_.cells a0),(3,.ptr (g+0) 0),(5,.ptr (g+2+5) 0),(6,.ptr (g+2+7+2) 0)]) _ _
 replace hS:St (·<g) H0 [quB PointT_.cells q pre S2,(g+0,.cells (Bag_.cells al)),(g+2+5,.cells [.mp (g+2+0)]),(g+2+7+2,.cells [quV 7 q pre S2]),(g+2+0,.obj none (zaf (mpw zad zao S1)))] H g1:=hS
 refine Sq ?_
 refine Sq ?_
 refine Rg 3 ?_
 refine zaV (v:=quV 7 q pre S2) 3 hS (by decide) rfl rfl .no (po zi2 zkh) ?_
 refine zuI (n:=S2.length) (by decide) rfl zsh ?_
 refine Oi (.b (decide ((S2.length:Int)>0))) ?_
 refine Ni ?_
 refine Ws ?_
 cases S2 with
 | nil =>
  obtain rfl:S1=r:=Option.some.inj hM
  refine zg6 (e:=decide ((([]:List PointT_).length:Int)>0)) rfl (by decide) ?_
  refine zb1 ?_
  refine zaA ?_
  refine zaz ?_
  refine zaL ?_
  refine Ws ?_
  refine Sq ?_
  refine Rg 2 ?_
  refine zaV (v:=.mp (g+2+0)) 2 hS (by decide) rfl rfl .no (po zkX zmB) ?_
  refine Oa (.mp (g+2+0)) ?_
  refine Ni ?_
  refine Ws ?_
  refine zaR ?_
  exact zuJ (j:=(g+2+0)) 4 (.inr rfl) (zax (zae rfl)) hS rfl rfl
 | cons x xs =>
  replace hM:Option.bind (zfb n b al x (S1,xs)) (fun S1=>Option.bind (zby n b al x n 0 S1) fun S2=>zdu n b al m S2)=some r:=hM
  obtain ⟨SA,hSA,hM⟩:=zai hM
  obtain ⟨SB,hSB,hM⟩:=zai hM
  refine zkH (e:=decide (((x::xs).length:Int)>0)) rfl (decide_eq_true (by rw [List.length_cons];omega)) ?_
  refine zaD ?_
  refine Ws ?_
  refine zaK ?_
  refine Sq ?_
  refine Rg 5 ?_
  refine zaV (v:=quV 7 q pre (x::xs)) 3 hS (by decide) rfl rfl .no (po zi2 zkh) ?_
  refine zr1 (k:=7) (by decide) rfl rfl zi3 ?_
  refine zoA (k:=7) (f:=PointT_.cells) hS (by decide) rfl .no zfu (fun _=>rfl) ?_
  refine za3 hS (by decide) zeA (by omega) fun H hS=>?_
  refine zaJ (v:=.agg (PointT_.cells x)) (ns:=(PointT_.cells x)) (L':=[(g1+3+3,.cells (PointT_.cells x)),quB PointT_.cells q pre (x::xs),(g+0,.cells (Bag_.cells al)),(g+2+5,.cells [.mp (g+2+0)]),(g+2+7+2,.cells [quV 7 q pre (x::xs)]),(g+2+0,.obj none (zaf (mpw zad zao S1)))]) 0 hS rfl rfl .no rfl rfl ziZ nlb rfl fun H hS=>?_
  refine Ni ?_
  refine Ws ?_
  refine Sq ?_
  refine Rg 3 ?_
  refine zaV (v:=quV 7 q pre (x::xs)) 4 hS (by decide) rfl rfl .no (po zi2 zkh) ?_
  refine zqC (k:=7) (f:=PointT_.cells) (by decide) rfl rfl zi3 (fun _=>rfl) ?_
  refine zaJ (v:=quV 7 q (pre++x.cells) xs) (ns:=[quV 7 q (pre++x.cells) xs]) (L':=[(g1+3+3,.cells (PointT_.cells x)),quB PointT_.cells q pre (x::xs),(g+0,.cells (Bag_.cells al)),(g+2+5,.cells [.mp (g+2+0)]),(g+2+7+2,.cells [quV 7 q (pre++x.cells) xs]),(g+2+0,.obj none (zaf (mpw zad zao S1)))]) 4 hS rfl rfl .no rfl rfl zkY nlb rfl fun H hS=>?_
  refine Ni ?_
  rw [zuN] at hS
  have hpre1:∀c,c∈pre++x.cells->Go.AM.Pure c:=fun c hc=>by
   rcases List.mem_append.1 hc with hc | hc
   ·exact hpre c hc
   ·exact (show ∀c,c∈(PointT_.cells x)->Go.AM.Pure c from zab (.v _) (zab (.v _) (zab (.v _) (zab (.v _) (zab (.v _) (zab (.v _) (zab (.v _) zaF))))))) c hc
  generalize pre++x.cells=preX at hS hpre1 ⊢
  replace hS:=hS.perm (L':=[quB PointT_.cells q preX xs,(g+0,.cells (Bag_.cells al)),(g+2+5,.cells [.mp (g+2+0)]),(g1+3+3,.cells (PointT_.cells x)),(g+2+7+2,.cells [quV 7 q preX xs]),(g+2+0,.obj none (zaf (mpw zad zao S1)))]) (List.perm_append_comm (l₁:=[_,_,_]) (l₂:=[_]) |>.append_right _)
  refine Ws ?_
  refine Sq ?_
  refine Rg 2 ?_
  refine zet (first:=[]) (cap:=[.ptr (g+0) 0,.ptr (g+2+5) 0,.ptr (g1+3+3) 0,.ptr (g+2+7+2) 0]) (by decide) rfl rfl ?_
  refine Oa (.fn (.func 129) [] [.ptr (g+0) 0,.ptr (g+2+5) 0,.ptr (g1+3+3) 0,.ptr (g+2+7+2) 0]) ?_
  refine Ni ?_
  refine Ws ?_
  refine za1 (J:=ziK×Nat×List AV) (fun j=>[(0,pA Box_.cells a0),(3,.ptr (g+0) 0),(5,.ptr (g+2+5) 0),(6,.ptr (g+2+7+2) 0),(7,.ptr (g1+3+3) 0),(8,.fn (.func 129) [] [.ptr (g+0) 0,.ptr (g+2+5) 0,.ptr (g1+3+3) 0,.ptr (g+2+7+2) 0])]) (fun j H' g'=>St (·<g) H0 [quB PointT_.cells j.2.1 j.2.2 j.1.2,(g+0,.cells (Bag_.cells al)),(g+2+5,.cells [.mp (g+2+0)]),(g1+3+3,.cells (PointT_.cells x)),(g+2+7+2,.cells [quV 7 j.2.1 j.2.2 j.1.2]),(g+2+0,.obj none (zaf (mpw zad zao j.1.1)))] H' g'/\(∀c,c∈j.2.2->Go.AM.Pure c)/\j.1=SA) ?_ ?_
  rotate_left
  ·-- the selection
   refine Sq ?_
   refine Rg 10 ?_
   refine zaw (by decide) zcu rfl ?_
   refine zaw (by decide) zbV rfl ?_
   refine zaV (v:=.i x.Stand.Credit) 3 hS (by decide) rfl rfl .no (po zah zar) ?_
   refine Oi (.b (decide (x.Stand.Credit>0))) ?_
   refine Om (.b (decide (x.Stand.Credit>0))) ?_
   rcases bft (decide (x.Stand.Credit>0)) with hc1 | hc1
   ·replace hSA:=ifT hSA hc1
    refine Oy (want:=true) hc1 ?_
    refine zaw (by decide) zcu rfl ?_
    refine Oy (want:=true) hc1 ?_
    refine zaw (by decide) zdr rfl ?_
    refine Oy (want:=true) hc1 ?_
    refine zaV (v:=.i x.Stand.Place) 3 hS (by decide) rfl rfl .no (po zah zar) ?_
    refine Oy (want:=true) hc1 ?_
    refine Oi (.b (decide (x.Stand.Place>0))) ?_
    refine Pt (.b (decide (x.Stand.Place>0))) hc1 ?_
    refine Ni ?_
    refine Ws ?_
    rcases bft (decide (x.Stand.Place>0)) with hc2 | hc2
    ·replace hSA:=ifT hSA hc2
     refine Ct hc2 ?_
     refine Sq ?_
     have hS0:=hS
     refine zck (n:=19) rfl (by kernel_rfl) ?_
     refine Om (pA Box_.cells a0) ?_
     refine zia (f:=Box_.cells) (p:=a0) (u:=b) (by decide) rfl hb0 ?_
     refine Of ((Box.cells b.Box)) zdv ?_
     refine Of ((Box.cells b.Box)) zcH ?_
     refine Olg (.agg (Wheel.cells b.Box.Wheel)) zbk ?_
     refine zaw (by decide) zcu rfl ?_
     refine zaw (by decide) zdr rfl ?_
     refine zaV (v:=.i x.Stand.Place) 3 hS (by decide) rfl rfl (.st hS0 3 rfl (by omega)) (po zah zar) ?_
     refine zbx (cs:=[.i x.Stand.Place,.i 1]) (by decide) zcz zhe rfl ?_
     refine zaW (es:=[[.i (-1)]]) hS (by decide) zay zbn rfl zbi rfl (by decide) (by omega) fun H hS=>?_
     obtain ⟨rr,hrr,hSA⟩:=zai hSA
     refine zaE (bs:=[.agg (Wheel.cells b.Box.Wheel),.agg [.i x.Stand.Place,.i 1],.sl (.id (g1+3+5+3+2+10+9)) 1 (([-1]:List Int).map cI)]) (by decide) rfl rfl ((zla hrr).le (.k (.k (.cons (.sl _ _ _) .nil)))) ?_
     refine Om (.tup [.agg (Stand.cells rr.1),.i rr.2.1,.i rr.2.2]) ?_
     refine Ox (.agg (Stand.cells rr.1)) ?_
     refine Ox (.i rr.2.1) ?_
     refine Ox (.i rr.2.2) ?_
     refine za3 hS (by decide) zcz (by omega) fun H hS=>?_
     refine zaJ (v:=.agg (Stand.cells rr.1)) (ns:=(Stand.cells rr.1)) (L':=[(g1+3+5+3+2+10+15,.cells (Stand.cells rr.1)),(g1+3+5+3+2+10+9,.row 3 1),quB PointT_.cells q preX xs,(g+0,.cells (Bag_.cells al)),(g+2+5,.cells [.mp (g+2+0)]),(g1+3+3,.cells (PointT_.cells x)),(g+2+7+2,.cells [quV 7 q preX xs]),(g+2+0,.obj none (zaf (mpw zad zao S1)))]) 0 hS rfl rfl (.behind (by kernel_rfl)) rfl rfl zd1 nlb rfl fun H hS=>?_
     refine Oa (.i rr.2.1) ?_
     refine Oa (.i rr.2.2) ?_
     refine Ni ?_
     replace hS:=hS.keep (L':=[(g1+3+5+3+2+10+15,.cells (Stand.cells rr.1)),quB PointT_.cells q preX xs,(g+0,.cells (Bag_.cells al)),(g+2+5,.cells [.mp (g+2+0)]),(g1+3+3,.cells (PointT_.cells x)),(g+2+7+2,.cells [quV 7 q preX xs]),(g+2+0,.obj none (zaf (mpw zad zao S1)))]) [true,false,true,true,true,true,true,true] rfl
     refine zaX (L':=[quB PointT_.cells q preX xs,(g+0,.cells (Bag_.cells al)),(g+2+5,.cells [.mp (g+2+0)]),(g1+3+3,.cells (PointT_.cells x)),(g+2+7+2,.cells [quV 7 q preX xs]),(g+2+0,.obj none (zaf (mpw zad zao S1)))]) 0 9 hS rfl rfl rfl fun H hS=>?_
     refine Ws ?_
     refine Rg 14 ?_
     refine Om (.fn (.func 129) [] [.ptr (g+0) 0,.ptr (g+2+5) 0,.ptr (g1+3+3) 0,.ptr (g+2+7+2) 0]) ?_
     refine Of ((Stand.cells rr.1)) zdr ?_
     refine Olp (.i rr.1.Place) zah zar ?_
     refine zaw (by decide) zcu rfl ?_
     refine zaw (by decide) zbV rfl ?_
     refine zaV (v:=.i x.Stand.Credit) 3 hS (by decide) rfl rfl .no (po zah zar) ?_
     refine Oi (.i (w64 (x.Stand.Credit-1))) ?_
     refine zbx (cs:=[.i rr.1.Place,.i (w64 (x.Stand.Credit-1))]) (by decide) zcz zhe rfl ?_
     refine zaw (by decide) ze3 rfl ?_
     refine zaV (v:=.agg (Bag_.cells x.in_)) 3 hS (by decide) rfl rfl .no (pg zdQ) ?_
     refine zaw (by decide) zhY rfl ?_
     refine zaV (v:=.i x.bought) 3 hS (by decide) rfl rfl .no (po zah zar) ?_
     refine zbx (cs:=[.i rr.1.Place,.i (w64 (x.Stand.Credit-1)),.i x.in_.c0,.i x.in_.c1,.i x.in_.c2,.i x.in_.c3,.i x.bought]) (by decide) zeA zkg rfl ?_
     refine znq (M:=zmI al x (g+0) (g+2+5) (g1+3+3) (g+2+7+2) (g+2+0) q preX (S1,xs)) (L:=[]) (.inl rfl) hS (by decide) rfl rfl (zfx hSA hpre1 (show (ids (zmI al x (g+0) (g+2+5) (g1+3+3) (g+2+7+2) (g+2+0) q preX (S1,xs))).Nodup from hS.nd)) (by omega) ?_
     rintro v M' H g2 ⟨q2,pre2,rfl,rfl,hq2,hpr2⟩ hg2 hS
     have hpre2:∀c,c∈pre2->Go.AM.Pure c:=by rcases hpr2 with rfl | rfl;exact hpre1;exact fun c hc=>by simp at hc
     refine Ni ?_
     exact zal (SA,q2,pre2) (.k (.k (.k (.k (.k (.k .nil)))))) ⟨hS,hpre2,rfl⟩
    ·replace hSA:=ifF hSA hc2
     obtain rfl:=Option.some.inj hSA
     refine Cf hc2 ?_
     refine zaD ?_
     exact zal ((S1,xs),q,preX) (.k (.k (.k (.k (.k (.k .nil)))))) ⟨hS.up (by omega),hpre1,rfl⟩
   ·replace hSA:=ifF hSA hc1
    obtain rfl:=Option.some.inj hSA
    refine On (want:=true) hc1 ?_
    refine On (want:=true) hc1 ?_
    refine On (want:=true) hc1 ?_
    refine On (want:=true) hc1 ?_
    refine Pf (.b false) hc1 ?_
    refine Ni ?_
    refine Ws ?_
    refine zg6 (e:=false) rfl rfl ?_
    refine zaD ?_
    exact zal ((S1,xs),q,preX) (.k (.k (.k (.k (.k (.k .nil)))))) ⟨hS.up (by omega),hpre1,rfl⟩
  rintro ⟨SC,q,pre⟩ H g2 ⟨hS,hpre,rfl⟩
  replace hpre:∀c,c∈pre->Go.AM.Pure c:=hpre
  change wpA _ _ _ _ (Fr.of [(0,pA Box_.cells a0),(3,.ptr (g+0) 0),(5,.ptr (g+2+5) 0),(6,.ptr (g+2+7+2) 0),(7,.ptr (g1+3+3) 0),(8,.fn (.func 129) [] [.ptr (g+0) 0,.ptr (g+2+5) 0,.ptr (g1+3+3) 0,.ptr (g+2+7+2) 0])]) _ _
  replace hS:St (·<g) H0 [quB PointT_.cells q pre SC.2,(g+0,.cells (Bag_.cells al)),(g+2+5,.cells [.mp (g+2+0)]),(g1+3+3,.cells (PointT_.cells x)),(g+2+7+2,.cells [quV 7 q pre SC.2]),(g+2+0,.obj none (zaf (mpw zad zao SC.1)))] H g2:=hS
  refine Sq ?_
  refine Rg 8 ?_
  refine Om (pA Box_.cells a0) ?_
  refine zia (f:=Box_.cells) (p:=a0) (u:=b) (by decide) rfl hb0 ?_
  refine Of ((Box.cells b.Box)) zdv ?_
  refine Of ((Box.cells b.Box)) zcH ?_
  refine Of ((Box.cells b.Box)) zbL ?_
  refine Olp (.sl .no 1 (b.Box.Wheel.Coins.map cI)) zau zaO ?_
  refine zbA (n:=b.Box.Wheel.Coins.length) (by decide) rfl (List.length_map _) zaB ?_
  refine Om (.i 0) ?_
  refine Ni ?_
  refine Ws ?_
  refine zaK ?_
  refine zct (V:=Int×ziK×Nat×List AV) (fun v=>[(0,pA Box_.cells a0),(3,.ptr (g+0) 0),(5,.ptr (g+2+5) 0),(6,.ptr (g+2+7+2) 0),(7,.ptr (g1+3+3) 0),(8,.fn (.func 129) [] [.ptr (g+0) 0,.ptr (g+2+5) 0,.ptr (g1+3+3) 0,.ptr (g+2+7+2) 0]),(77,.i (b.Box.Wheel.Coins.length:Int)),(78,.i v.1)]) (fun v k H' g'=>St (·<g) H0 [quB PointT_.cells v.2.2.1 v.2.2.2 v.2.1.2,(g+0,.cells (Bag_.cells al)),(g+2+5,.cells [.mp (g+2+0)]),(g1+3+3,.cells (PointT_.cells x)),(g+2+7+2,.cells [quV 7 v.2.2.1 v.2.2.2 v.2.1.2]),(g+2+0,.obj none (zaf (mpw zad zao v.2.1.1)))] H' g'/\(∀c,c∈v.2.2.2->Go.AM.Pure c)/\zby n b al x k v.1 v.2.1=some SB) (n:=n) (0,SC,q,pre) (.k (.k (.k (.k (.k (.k (.k (.k .nil)))))))) ⟨hS.up (by omega),hpre,hSB⟩ ?_
  rintro ⟨k,SC,q,pre⟩ m3 H g3 ⟨hS,hpre,hSB⟩
  obtain _ | m3:=m3
  ·exact nomatch (show none=some _ from hSB)
  replace hpre:∀c,c∈pre->Go.AM.Pure c:=hpre
  change wpA _ _ _ _ (Fr.of [(0,pA Box_.cells a0),(3,.ptr (g+0) 0),(5,.ptr (g+2+5) 0),(6,.ptr (g+2+7+2) 0),(7,.ptr (g1+3+3) 0),(8,.fn (.func 129) [] [.ptr (g+0) 0,.ptr (g+2+5) 0,.ptr (g1+3+3) 0,.ptr (g+2+7+2) 0]),(77,.i (b.Box.Wheel.Coins.length:Int)),(78,.i k)]) _ _
  replace hS:St (·<g) H0 [quB PointT_.cells q pre SC.2,(g+0,.cells (Bag_.cells al)),(g+2+5,.cells [.mp (g+2+0)]),(g1+3+3,.cells (PointT_.cells x)),(g+2+7+2,.cells [quV 7 q pre SC.2]),(g+2+0,.obj none (zaf (mpw zad zao SC.1)))] H g3:=hS
  unfold zby at hSB
  refine Sq ?_
  refine Rg 1 ?_
  refine Oi (.b (decide (k<(b.Box.Wheel.Coins.length:Int)))) ?_
  refine Ni ?_
  refine Ws ?_
  refine Sq ?_
  rcases bft (decide (k<(b.Box.Wheel.Coins.length:Int))) with hk1 | hk1
  rotate_left
  ·replace hSB:=ifF hSB hk1
   obtain rfl:=Option.some.inj hSB
   refine Cf hk1 ?_
   refine zb1 ?_
   refine zaA ?_
   refine zaz ?_
   refine zaL ?_
   refine zat ?_
   exact zbq (SC,q,pre) (Nat.lt_succ_self _) (.k (.k (.k (.k .nil)))) ⟨(hS.keep (L':=[quB PointT_.cells q pre SC.2,(g+0,.cells (Bag_.cells al)),(g+2+5,.cells [.mp (g+2+0)]),(g+2+7+2,.cells [quV 7 q pre SC.2]),(g+2+0,.obj none (zaf (mpw zad zao SC.1)))]) [true,true,true,false,true,true] rfl).up (by omega),hpre,hM⟩
  replace hSB:=ifT hSB hk1
  refine Ct hk1 ?_
  refine zaD ?_
  refine Ws ?_
  obtain ⟨e1,he1,hSB⟩:=zai hSB
  obtain ⟨e2,he2,hSB⟩:=zai hSB
  refine za1 (J:=ziK×Nat×List AV) (fun j=>[(0,pA Box_.cells a0),(3,.ptr (g+0) 0),(5,.ptr (g+2+5) 0),(6,.ptr (g+2+7+2) 0),(7,.ptr (g1+3+3) 0),(8,.fn (.func 129) [] [.ptr (g+0) 0,.ptr (g+2+5) 0,.ptr (g1+3+3) 0,.ptr (g+2+7+2) 0]),(77,.i (b.Box.Wheel.Coins.length:Int)),(78,.i k)]) (fun j H' g'=>St (·<g) H0 [quB PointT_.cells j.2.1 j.2.2 j.1.2,(g+0,.cells (Bag_.cells al)),(g+2+5,.cells [.mp (g+2+0)]),(g1+3+3,.cells (PointT_.cells x)),(g+2+7+2,.cells [quV 7 j.2.1 j.2.2 j.1.2]),(g+2+0,.obj none (zaf (mpw zad zao j.1.1)))] H' g'/\(∀c,c∈j.2.2->Go.AM.Pure c)/\zby n b al x m3 (w64 (k+1)) j.1=some SB) ?_ ?_
  ·rintro ⟨SD,q4,pre4⟩ H g4 ⟨hS,hpre4,hSB⟩
   change wpA _ _ _ _ (Fr.of [(0,pA Box_.cells a0),(3,.ptr (g+0) 0),(5,.ptr (g+2+5) 0),(6,.ptr (g+2+7+2) 0),(7,.ptr (g1+3+3) 0),(8,.fn (.func 129) [] [.ptr (g+0) 0,.ptr (g+2+5) 0,.ptr (g1+3+3) 0,.ptr (g+2+7+2) 0]),(77,.i (b.Box.Wheel.Coins.length:Int)),(78,.i k)]) _ _
   refine Rg 2 ?_
   refine Oi (.i (w64 (k+1))) ?_
   refine Om (.i (w64 (k+1))) ?_
   refine Ni ?_
   exact zbq (w64 (k+1),SD,q4,pre4) (Nat.lt_succ_self _) (.k (.k (.k (.k (.k (.k (.k (.k .nil)))))))) ⟨hS.up (by omega),hpre4,hSB⟩
  refine zaK ?_
  refine Sq ?_
  refine Rg 2 ?_
  refine Om (.i k) ?_
  refine Oa (.i k) ?_
  refine Ni ?_
  refine Ws ?_
  refine Sq ?_
  refine Sq ?_
  have hS0:=hS
  refine zck (n:=8) rfl (by kernel_rfl) ?_
  refine Om (.i k) ?_
  refine zaw (by decide) ze3 rfl ?_
  refine zfg (z:=k) (by decide) rfl rfl zf8 (zfs he1) ?_
  refine zkP (xs:=([x.in_.c0,x.in_.c1,x.in_.c2,x.in_.c3]:List Int)) (z:=k) (u:=e1) (off:=0+2) 3 hS (by decide) rfl rfl (.st hS0 3 rfl (by omega)) rfl he1 zah zar ?_
  refine Om (.i k) ?_
  refine zfg (z:=k) (by decide) rfl rfl zf8 (zfs he2) ?_
  refine zkP (xs:=([al.c0,al.c1,al.c2,al.c3]:List Int)) (z:=k) (u:=e2) (off:=0) 1 hS (by decide) rfl rfl (.st hS0 1 rfl (by omega)) rfl he2 zah zar ?_
  refine Oi (.b (e1==e2)) ?_
  refine Ni ?_
  refine Ws ?_
  rcases bft (e1==e2) with he | he
  ·replace hSB:=ifT hSB he
   refine Ct he ?_
   refine zb1 ?_
   refine zaA ?_
   refine zaL ?_
   exact zal (SC,q,pre) (.k (.k (.k (.k (.k (.k (.k (.k .nil)))))))) ⟨hS.up (by omega),hpre,hSB⟩
  replace hSB:=ifF hSB he
  refine Cf he ?_
  refine zaD ?_
  refine Ws ?_
  obtain ⟨rr,hrr,hSB⟩:=zai hSB
  obtain ⟨u,hu,hSB⟩:=zai hSB
  obtain ⟨SD,hSD,hSB⟩:=zai hSB
  refine Sq ?_
  have hS0:=hS
  refine zck (n:=20) rfl (by kernel_rfl) ?_
  refine Om (pA Box_.cells a0) ?_
  refine zia (f:=Box_.cells) (p:=a0) (u:=b) (by decide) rfl hb0 ?_
  refine Of ((Box.cells b.Box)) zdv ?_
  refine Of ((Box.cells b.Box)) zcH ?_
  refine Olg (.agg (Wheel.cells b.Box.Wheel)) zbk ?_
  refine zaw (by decide) zcu rfl ?_
  refine zaw (by decide) zdr rfl ?_
  refine zaV (v:=.i x.Stand.Place) 3 hS (by decide) rfl rfl (.st hS0 3 rfl (by omega)) (po zah zar) ?_
  refine zbx (cs:=[.i x.Stand.Place,.i 0]) (by decide) zcz zhe rfl ?_
  refine Om (.i k) ?_
  refine zaW (es:=[[.i k]]) hS (by decide) zay zbn rfl zbi rfl (by decide) (by omega) fun H hS=>?_
  refine zaE (bs:=[.agg (Wheel.cells b.Box.Wheel),.agg [.i x.Stand.Place,.i 0],.sl (.id (g3+1+2+8+10)) 1 (([k]:List Int).map cI)]) (by decide) rfl rfl ((zla hrr).le (.k (.k (.cons (.sl _ _ _) .nil)))) ?_
  refine Om (.tup [.agg (Stand.cells rr.1),.i rr.2.1,.i rr.2.2]) ?_
  refine Ox (.agg (Stand.cells rr.1)) ?_
  refine Ox (.i rr.2.1) ?_
  refine Ox (.i rr.2.2) ?_
  refine za3 hS (by decide) zcz (by omega) fun H hS=>?_
  refine zaJ (v:=.agg (Stand.cells rr.1)) (ns:=(Stand.cells rr.1)) (L':=[(g3+1+2+8+16,.cells (Stand.cells rr.1)),(g3+1+2+8+10,.row 3 1),quB PointT_.cells q pre SC.2,(g+0,.cells (Bag_.cells al)),(g+2+5,.cells [.mp (g+2+0)]),(g1+3+3,.cells (PointT_.cells x)),(g+2+7+2,.cells [quV 7 q pre SC.2]),(g+2+0,.obj none (zaf (mpw zad zao SC.1)))]) 0 hS rfl rfl (.behind (by kernel_rfl)) rfl rfl zd1 nlb rfl fun H hS=>?_
  refine Oa (.i rr.2.1) ?_
  refine Oa (.i rr.2.2) ?_
  refine Ni ?_
  replace hS:=hS.keep (L':=[(g3+1+2+8+16,.cells (Stand.cells rr.1)),quB PointT_.cells q pre SC.2,(g+0,.cells (Bag_.cells al)),(g+2+5,.cells [.mp (g+2+0)]),(g1+3+3,.cells (PointT_.cells x)),(g+2+7+2,.cells [quV 7 q pre SC.2]),(g+2+0,.obj none (zaf (mpw zad zao SC.1)))]) [true,false,true,true,true,true,true,true] rfl
  refine zaX (L':=[quB PointT_.cells q pre SC.2,(g+0,.cells (Bag_.cells al)),(g+2+5,.cells [.mp (g+2+0)]),(g1+3+3,.cells (PointT_.cells x)),(g+2+7+2,.cells [quV 7 q pre SC.2]),(g+2+0,.obj none (zaf (mpw zad zao SC.1)))]) 0 13 hS rfl rfl rfl fun H hS=>?_
  refine Ws ?_
  refine Sq ?_
  refine Rg 19 ?_
  refine Of ((Stand.cells rr.1)) zdr ?_
  refine Olp (.i rr.1.Place) zah zar ?_
  refine zaw (by decide) zcu rfl ?_
  refine zaw (by decide) zbV rfl ?_
  refine zaV (v:=.i x.Stand.Credit) 3 hS (by decide) rfl rfl .no (po zah zar) ?_
  refine Of ((Stand.cells rr.1)) zbV ?_
  refine Olp (.i rr.1.Credit) zah zar ?_
  refine Oi (.i (w64 (x.Stand.Credit+rr.1.Credit))) ?_
  refine zbx (cs:=[.i rr.1.Place,.i (w64 (x.Stand.Credit+rr.1.Credit))]) (by decide) zcz zhe rfl ?_
  refine zaw (by decide) ze3 rfl ?_
  refine zaV (v:=.agg (Bag_.cells x.in_)) 3 hS (by decide) rfl rfl .no (pg zdQ) ?_
  refine zaw (by decide) zhY rfl ?_
  refine zaV (v:=.i x.bought) 3 hS (by decide) rfl rfl .no (po zah zar) ?_
  refine Of ((Stand.cells rr.1)) zbV ?_
  refine Olp (.i rr.1.Credit) zah zar ?_
  refine Oi (.i (w64 (x.bought+rr.1.Credit))) ?_
  refine zbx (cs:=[.i rr.1.Place,.i (w64 (x.Stand.Credit+rr.1.Credit)),.i x.in_.c0,.i x.in_.c1,.i x.in_.c2,.i x.in_.c3,.i (w64 (x.bought+rr.1.Credit))]) (by decide) zeA zkg rfl ?_
  refine za3 hS (by decide) zeA (by omega) fun H hS=>?_
  refine zaJ (v:=.agg [.i rr.1.Place,.i (w64 (x.Stand.Credit+rr.1.Credit)),.i x.in_.c0,.i x.in_.c1,.i x.in_.c2,.i x.in_.c3,.i (w64 (x.bought+rr.1.Credit))]) (ns:=[.i rr.1.Place,.i (w64 (x.Stand.Credit+rr.1.Credit)),.i x.in_.c0,.i x.in_.c1,.i x.in_.c2,.i x.in_.c3,.i (w64 (x.bought+rr.1.Credit))]) (L':=[(g3+1+2+8+20+17,.cells [.i rr.1.Place,.i (w64 (x.Stand.Credit+rr.1.Credit)),.i x.in_.c0,.i x.in_.c1,.i x.in_.c2,.i x.in_.c3,.i (w64 (x.bought+rr.1.Credit))]),quB PointT_.cells q pre SC.2,(g+0,.cells (Bag_.cells al)),(g+2+5,.cells [.mp (g+2+0)]),(g1+3+3,.cells (PointT_.cells x)),(g+2+7+2,.cells [quV 7 q pre SC.2]),(g+2+0,.obj none (zaf (mpw zad zao SC.1)))]) 0 hS rfl rfl .no rfl rfl ziZ nlb rfl fun H hS=>?_
  refine Ni ?_
  refine Ws ?_
  refine Sq ?_
  refine Rg 8 ?_
  refine Om (.i k) ?_
  refine zaw (by decide) ze3 rfl ?_
  refine zfg (z:=k) (by decide) rfl rfl zf8 (zfs he1) ?_
  refine zkP (xs:=([x.in_.c0,x.in_.c1,x.in_.c2,x.in_.c3]:List Int)) (z:=k) (u:=e1) (off:=0+2) 0 hS (by decide) rfl rfl .no rfl he1 zah zar ?_
  refine Oi (.i (w64 (e1+1))) ?_
  refine zaw (by decide) ze3 rfl ?_
  refine zfg (z:=k) (by decide) rfl rfl zf8 (zfs he1) ?_
  refine ziP (xs:=([x.in_.c0,x.in_.c1,x.in_.c2,x.in_.c3]:List Int)) (u:=u) (z:=k) (v:=(w64 (e1+1))) (off:=0+2) (cs':=[.i rr.1.Place,.i (w64 (x.Stand.Credit+rr.1.Credit)),.i (u.getD 0 0),.i (u.getD 1 0),.i (u.getD 2 0),.i (u.getD 3 0),.i (w64 (x.bought+rr.1.Credit))]) (L':=[(g3+1+2+8+20+17,.cells [.i rr.1.Place,.i (w64 (x.Stand.Credit+rr.1.Credit)),.i (u.getD 0 0),.i (u.getD 1 0),.i (u.getD 2 0),.i (u.getD 3 0),.i (w64 (x.bought+rr.1.Credit))]),quB PointT_.cells q pre SC.2,(g+0,.cells (Bag_.cells al)),(g+2+5,.cells [.mp (g+2+0)]),(g1+3+3,.cells (PointT_.cells x)),(g+2+7+2,.cells [quV 7 q pre SC.2]),(g+2+0,.obj none (zaf (mpw zad zao SC.1)))]) 0 hS rfl rfl .no rfl rfl hu zen rfl rfl fun H hS=>?_
  refine Ni ?_
  replace hS:=hS.perm (L':=[quB PointT_.cells q pre SC.2,(g+0,.cells (Bag_.cells al)),(g+2+5,.cells [.mp (g+2+0)]),(g1+3+3,.cells (PointT_.cells x)),(g+2+7+2,.cells [quV 7 q pre SC.2]),(g+2+0,.obj none (zaf (mpw zad zao SC.1))),(g3+1+2+8+20+17,.cells [.i rr.1.Place,.i (w64 (x.Stand.Credit+rr.1.Credit)),.i (u.getD 0 0),.i (u.getD 1 0),.i (u.getD 2 0),.i (u.getD 3 0),.i (w64 (x.bought+rr.1.Credit))])]) (List.perm_append_comm (l₁:=[_,_,_,_,_,_]) (l₂:=[_]))
  refine Ws ?_
  refine Rg 4 ?_
  refine Om (.fn (.func 129) [] [.ptr (g+0) 0,.ptr (g+2+5) 0,.ptr (g1+3+3) 0,.ptr (g+2+7+2) 0]) ?_
  refine Om (.i k) ?_
  refine zaV (v:=.agg [.i rr.1.Place,.i (w64 (x.Stand.Credit+rr.1.Credit)),.i (u.getD 0 0),.i (u.getD 1 0),.i (u.getD 2 0),.i (u.getD 3 0),.i (w64 (x.bought+rr.1.Credit))]) 6 hS (by decide) rfl rfl .no (pg zfu) ?_
  refine znq (M:=zmI al x (g+0) (g+2+5) (g1+3+3) (g+2+7+2) (g+2+0) q pre SC) (L:=[(g3+1+2+8+20+17,.cells [.i rr.1.Place,.i (w64 (x.Stand.Credit+rr.1.Credit)),.i (u.getD 0 0),.i (u.getD 1 0),.i (u.getD 2 0),.i (u.getD 3 0),.i (w64 (x.bought+rr.1.Credit))])]) (.inl rfl) hS (by decide) rfl rfl (zfx hSD hpre (show (ids (zmI al x (g+0) (g+2+5) (g1+3+3) (g+2+7+2) (g+2+0) q pre SC)).Nodup from (hS.keep (L':=zmI al x (g+0) (g+2+5) (g1+3+3) (g+2+7+2) (g+2+0) q pre SC) [true,true,true,true,true,true,false] rfl).nd)) (by omega) ?_
  rintro v M' H g4 ⟨q4,pre4,rfl,rfl,hq4,hpr4⟩ hg4 hS
  have hpre4:∀c,c∈pre4->Go.AM.Pure c:=by rcases hpr4 with rfl | rfl;exact hpre;exact fun c hc=>by simp at hc
  refine Ni ?_
  refine zat ?_
  exact zal (SD,q4,pre4) (.k (.k (.k (.k (.k (.k (.k (.k .nil)))))))) ⟨hS.keep (L':=zmI al x (g+0) (g+2+5) (g1+3+3) (g+2+7+2) (g+2+0) q4 pre4 SD) [true,true,true,true,true,true,false] rfl,hpre4,hSB⟩
theorem ze4 {n:Nat} {a0:Option Box_} {r:Bag_} (hM:zdN n a0=some r):zaH Try.prog 100 [pA Box_.cells a0] (.agg [.i r.c0,.i r.c1,.i r.c2,.i r.c3]):=by
 refine zak mixed Try.func100 rfl (by decide) Try.ntmps100 (by simp) ?pure fun H0 g hf=>?_
 case pure=>exact .agg _ (zab (.v _) (zab (.v _) (zab (.v _) (zab (.v _) zaF))))
 rw [zag]
 change wpA _ _ _ _ (Fr.of [(0,pA Box_.cells a0)]) H0 g
 have hS:=St.start hf
 refine Sq ?_
 refine Rg 1 ?_
 refine za3 hS (by decide) zjw (by omega) fun H hS=>?_
 refine Ni ?_
 refine Ws ?_
 refine Sq ?_
 refine Rg 1 ?_
 refine za3 hS (by decide) zjw (by omega) fun H hS=>?_
 refine Ni ?_
 refine Ws ?_
 refine za1 (J:=Int×Int×Int×Int) (fun j=>[(2,.ptr (g+0) 0),(3,.ptr (g+1+0) 0)]) (fun j H' g'=>St (·<g) H0 [(g+1+0,.cells [.i j.1,.i j.2.1,.i j.2.2.1,.i j.2.2.2]),(g+0,.cells [.i 0,.i 0,.i 0,.i 0])] H' g'/\zdB j.1 j.2.1 j.2.2.1 j.2.2.2=some r) ?_ ?_
 ·rintro ⟨v1,v2,v3,v4⟩ H g1 ⟨hS,hM⟩
  change wpA _ _ _ _ (Fr.of [(2,.ptr (g+0) 0),(3,.ptr (g+1+0) 0)]) _ _
  replace hS:St (·<g) H0 [(g+1+0,.cells [.i v1,.i v2,.i v3,.i v4]),(g+0,.cells [.i 0,.i 0,.i 0,.i 0])] H g1:=hS
  replace hM:zdB v1 v2 v3 v4=some r:=hM
  refine Sq ?_
  refine Rg 2 ?_
  refine zaV (v:=.agg [.i v1,.i v2,.i v3,.i v4]) 0 hS (by decide) rfl rfl .no (pg zdQ) ?_
  refine zaJ (v:=.agg [.i v1,.i v2,.i v3,.i v4]) (ns:=[.i v1,.i v2,.i v3,.i v4]) (L':=[(g+1+0,.cells [.i v1,.i v2,.i v3,.i v4]),(g+0,.cells [.i v1,.i v2,.i v3,.i v4])]) 1 hS rfl rfl .no rfl rfl znt nlb rfl fun H hS=>?_
  refine Ni ?_
  replace hS:=hS.keep (L':=[(g+0,.cells [.i v1,.i v2,.i v3,.i v4])]) [false,true] rfl
  refine Ws ?_
  refine zaR ?_
  refine zaZ (x:=.agg [.i v1,.i v2,.i v3,.i v4]) (f:=fun r=>.agg [.i r.c0,.i r.c1,.i r.c2,.i r.c3]) (.inr rfl) ?_ (.refl _) (Option.some.inj hM) hS
  exact (zax (zcA (x:=.agg [.i v1,.i v2,.i v3,.i v4]) 0 hS rfl rfl (pg zdQ)))
 ·refine Sq ?_
  refine Rg 7 ?_
  refine Om (pA Box_.cells a0) ?_
  obtain ⟨x5,hx5,hM⟩:=zai hM
  refine zia (f:=Box_.cells) (p:=a0) (u:=x5) (by decide) rfl hx5 ?_
  refine Of ((Box.cells x5.Box)) zdv ?_
  refine Of ((Box.cells x5.Box)) zcU ?_
  refine Olp (.sl .no 1 (x5.Box.Found.map cI)) zau zaO ?_
  refine zbA (n:=x5.Box.Found.length) (by decide) rfl (List.length_map _) zaB ?_
  refine Om (.i 0) ?_
  refine Ni ?_
  refine Ws ?_
  refine zaK ?_
  refine zct (V:=Int×Int×Int×Int×Int) (fun v=>[(0,pA Box_.cells a0),(2,.ptr (g+0) 0),(3,.ptr (g+1+0) 0),(10,.sl .no 1 (x5.Box.Found.map cI)),(11,.i (x5.Box.Found.length:Int)),(12,.i v.1)]) (fun v m3 H' g'=>St (·<g) H0 [(g+1+0,.cells [.i v.2.1,.i v.2.2.1,.i v.2.2.2.1,.i v.2.2.2.2]),(g+0,.cells [.i 0,.i 0,.i 0,.i 0])] H' g'/\zbR a0 x5 m3 v.1 v.2.1 v.2.2.1 v.2.2.2.1 v.2.2.2.2=some r) (n:=n) (0,0,0,0,0) (.k (.k (.k (.k (.k (.k .nil)))))) ⟨(hS.keep [true,true] rfl).up (by omega),hM⟩ ?_
  rintro ⟨v7,v8,v9,v10,v11⟩ m3 H g3 ⟨hS,hM⟩
  obtain _ | m3:=m3
  ·exact nomatch (show none=some _ from hM)
  change wpA _ _ _ _ (Fr.of [(0,pA Box_.cells a0),(2,.ptr (g+0) 0),(3,.ptr (g+1+0) 0),(10,.sl .no 1 (x5.Box.Found.map cI)),(11,.i (x5.Box.Found.length:Int)),(12,.i v7)]) _ _
  replace hS:St (·<g) H0 [(g+1+0,.cells [.i v8,.i v9,.i v10,.i v11]),(g+0,.cells [.i 0,.i 0,.i 0,.i 0])] H g3:=hS
  replace hM:zc1 a0 x5 (zbR a0 x5 m3) v7 v8 v9 v10 v11=some r:=hM
  refine Sq ?_
  refine Rg 1 ?_
  refine Oi (.b (decide (v7<(x5.Box.Found.length:Int)))) ?_
  refine Ni ?_
  refine Ws ?_
  refine Sq ?_
  rcases bft (decide (v7<(x5.Box.Found.length:Int))) with hb12 | hb12
  ·replace hM:=ifT hM hb12
   refine Ct hb12 ?_
   refine zaD ?_
   refine Ws ?_
   refine Sq ?_
   refine zaK ?_
   refine Sq ?_
   refine Rg 5 ?_
   refine Om (.i v7) ?_
   obtain ⟨x13,hx13,hM⟩:=zai hM
   refine za5 (xs:=x5.Box.Found) (f:=cI) (z:=v7) (u:=x13) (by decide) rfl rfl zay hx13 ?_
   refine Olp (.i x13) zah zar ?_
   refine Oa (.i v7) ?_
   refine Oa (.i x13) ?_
   refine Ni ?_
   refine Ws ?_
   refine Rg 13 ?_
   refine Om (.i v7) ?_
   refine Om (.i x13) ?_
   refine Om (pA Box_.cells a0) ?_
   obtain ⟨x14,hx14,hM⟩:=zai hM
   refine zia (f:=Box_.cells) (p:=a0) (u:=x14) (by decide) rfl hx14 ?_
   refine Of ((Box.cells x14.Box)) zdv ?_
   refine Of ((Box.cells x14.Box)) zd9 ?_
   refine Olp (.sl .no 1 (x14.Box.Slugs.map cI)) zau zaO ?_
   refine Om (.i v7) ?_
   obtain ⟨x15,hx15,hM⟩:=zai hM
   refine za5 (xs:=x14.Box.Slugs) (f:=cI) (z:=v7) (u:=x15) (by decide) rfl rfl zay hx15 ?_
   refine Olp (.i x15) zah zar ?_
   refine Oi (.i (w64 (x13+x15))) ?_
   obtain ⟨x16,hx16,hM⟩:=zai hM
   refine zfg (z:=v7) (by decide) rfl rfl zf8 (zfs hx16) ?_
   obtain ⟨l17,hl17,hM⟩:=zai hM
   refine ziP (xs:=([v8,v9,v10,v11]:List Int)) (u:=l17) (z:=v7) (v:=(w64 (x13+x15))) (off:=0) (cs':=[.i (l17.getD 0 0),.i (l17.getD 1 0),.i (l17.getD 2 0),.i (l17.getD 3 0)]) (L':=[(g+1+0,.cells [.i (l17.getD 0 0),.i (l17.getD 1 0),.i (l17.getD 2 0),.i (l17.getD 3 0)]),(g+0,.cells [.i 0,.i 0,.i 0,.i 0])]) 0 hS rfl rfl .no rfl rfl hl17 zen rfl rfl fun H hS=>?_
   refine Ni ?_
   refine zat ?_
   refine Ws ?_
   refine Rg 2 ?_
   refine Oi (.i (w64 (v7+1))) ?_
   refine Om (.i (w64 (v7+1))) ?_
   refine Ni ?_
   exact zbq (w64 (v7+1),(l17.getD 0 0),(l17.getD 1 0),(l17.getD 2 0),(l17.getD 3 0)) (Nat.lt_succ_self _) (.k (.k (.k (.k (.k (.k .nil)))))) ⟨(hS.keep [true,true] rfl).up (by omega),hM⟩
  ·replace hM:=ifF hM hb12
   refine Cf hb12 ?_
   refine zb1 ?_
   refine zaA ?_
   refine zaz ?_
   refine zaL ?_
   exact zal (v8,v9,v10,v11) (.k (.k .nil)) ⟨(hS.keep [true,true] rfl).up (by omega),hM⟩
theorem zpE (b:Option Box_):Go.AM.Pure (pA Box_.cells b):=zow (fun x=>zab (.v _) (zab (.sl _ _ (zav (fun x=>(zab (.v _) zaF)))) (zab (.sl _ _ (zav (fun x=>(zab (.v _) zaF)))) (zab (.sl _ _ (zav (fun x=>(zab (.v _) zaF)))) (zab (.sl _ _ (zav (fun x=>(zab (.v _) zaF)))) (zab (.sl _ _ (zav (fun x=>(zab (.v _) zaF)))) (zab (.v _) (zab (.v _) zaF)))))))) b
theorem zgQ {n:Nat} {a0:Option Box_} {r:List Int} (hM:zc5 n a0=some r):zaH Try.prog 61 [pA Box_.cells a0] (.sl .no 1 (r.map cI)):=by
 refine zak mixed Try.func61 rfl (by decide) Try.ntmps61 (by simp) ?pure fun H0 g hf=>?_
 case pure=>exact .sl _ _ (zav (fun x=>(zab (.v _) zaF)))
 rw [zag]
 change wpA _ _ _ _ (Fr.of [(0,pA Box_.cells a0)]) H0 g
 have hS:=St.start hf
 unfold zc5 at hM
 refine Sq ?_
 refine Rg 1 ?_
 refine Oa (.sl .nil 0 []) ?_
 refine Ni ?_
 refine Ws ?_
 refine Sq ?_
 refine Rg 10 ?_
 refine Om (pA Box_.cells a0) ?_
 refine Om (pA Box_.cells a0) ?_
 obtain ⟨r1,hr1,hM⟩:=zai hM
 refine zaE (bs:=[pA Box_.cells a0]) (by decide) rfl rfl ((ze4 hr1).le (.k .nil)) ?_
 obtain ⟨M,hMM,hM⟩:=zai hM
 refine zpk (bs:=[pA Box_.cells a0,.agg (Bag_.cells r1)]) (p:=zaf (mpw zad zao M)) hS (by decide) rfl rfl ((zgv hMM).le (.k (.k .nil))) (zab (zpE _) (zab (.agg _ (zab (.v _) (zab (.v _) (zab (.v _) (zab (.v _) zaF))))) zaF)) (by omega) fun H hS=>?_
 refine Om (pA Box_.cells a0) ?_
 obtain ⟨r2,hr2,hM⟩:=zai hM
 refine zaE (bs:=[pA Box_.cells a0]) (by decide) rfl rfl ((ze4 hr2).le (.k .nil)) ?_
 have hok:ziJ M=true:=by
  cases h:ziJ M with
  | true=>rfl
  | false=>rw [if_neg (by rw [h];simp)] at hM;cases hM
 rw [if_pos hok] at hM
 obtain rfl:=Option.some.inj hM
 refine znq (M:=[((g+1+3),.obj none (zaf (mpw zad zao M)))]) (L:=[]) (.inl rfl) hS (by decide) rfl rfl (zie hok) (by omega) ?_
 rintro v M' H gE ⟨l,jn,hlp,hjn,rfl,rfl⟩ hgE hS
 have hEp:(l.foldl (za8 r2) []).Perm (zew r2 M):=znB hlp
 have hEn:((l.foldl (za8 r2) []).map (·.1)).Nodup:=(zk5 r2 l).nd
 have hEk:∀x,x∈l.foldl (za8 r2) []->okI x.1=true:=(zi8 l [] (fun b=>okI b=true) (fun p hp=>by obtain ⟨x,hx,rfl⟩:=List.mem_map.1 (hlp.mem_iff.1 hp);exact List.all_eq_true.1 (Bool.and_eq_true_iff.1 hok).1 x hx) (fun p hp=>by simp at hp) (by simp)).1
 have hEl:(l.foldl (za8 r2) []).length<=1048576:=by have h1:=zkk (al:=r2) l [];have h2:=hlp.length_eq;have h3:=of_decide_eq_true (Bool.and_eq_true_iff.1 hok).2;simp only [List.length_map,List.length_nil] at h1 h2;omega
 refine zsl (.inl rfl) hS (by decide) rfl rfl zud (by omega) fun H hS=>?_
 refine zps (E:=l.foldl (za8 r2) []) (cv:=zad) 0 1 (.inl rfl) hS (by decide) rfl rfl zpC (by kernel_rfl) rfl rfl hEk hEn hEl (by omega) ?_
 rw [show zeX ((l.foldl (za8 r2) []).map (·.1))=zeX ((zew r2 M).map (·.1)) from zhb (hEp.map _)]
 refine Oa (.sl .no 1 ((zeX ((zew r2 M).map (·.1))).map cI)) ?_
 refine Ni ?_
 refine zeF [(2,.sl .no 1 ((zeX ((zew r2 M).map (·.1))).map cI))] (.k .nil) ?_
 refine zaR ?_
 refine zaZ (x:=.sl .no 1 ((zeX ((zew r2 M).map (·.1))).map cI)) (f:=fun (r:List Int)=>.sl .no 1 (r.map cI)) (.inr rfl) ?_ (.refl _) rfl hS
 exact (zax (zae rfl))
theorem zje {n:Nat} {a0:Box} {r:(List Int)×Int} (hM:zf3 n a0=some r):zaH Try.prog 18 [.agg (Box.cells a0)] (.tup [.sl .no 1 (r.1.map cI),.i r.2]):=by
 refine zak mixed Try.func18 rfl (by decide) Try.ntmps18 (by simp) ?pure fun H0 g hf=>?_
 case pure=>exact .tup _ (zab (.sl _ _ (zav (fun x=>(zab (.v _) zaF)))) (zab (.v _) zaF))
 rw [zag]
 change wpA _ _ _ _ (Fr.of [(0,.agg (Box.cells a0))]) H0 g
 have hS:=St.start hf
 refine Sq ?_
 refine Rg 3 ?_
 refine zb4 (v:=.agg (Box.cells a0)) (cs:=(Box.cells a0)) hS (by decide) rfl rfl (by omega) fun H hS=>?_
 refine Oa (.sl .nil 0 []) ?_
 refine Oa (.i 0) ?_
 refine Ni ?_
 refine zaX (L':=[]) 0 1 hS rfl rfl rfl fun H hS=>?_
 refine Ws ?_
 refine Sq ?_
 refine Rg 7 ?_
 refine Olg (.agg (Box.cells a0)) zcj ?_
 obtain ⟨r1,hr1,hM⟩:=zai hM
 refine zaE (bs:=[.agg (Box.cells a0)]) (by decide) rfl rfl ((zfi hr1).le (.k .nil)) ?_
 refine Om (.tup [pA Box_.cells r1.1,.i r1.2]) ?_
 refine Ox (pA Box_.cells r1.1) ?_
 refine Ox (.i r1.2) ?_
 refine Oa (pA Box_.cells r1.1) ?_
 refine Oa (.i r1.2) ?_
 refine Ni ?_
 refine Ws ?_
 refine Sq ?_
 refine Sq ?_
 refine Rg 2 ?_
 refine Om (.i r1.2) ?_
 refine Oi (.b (r1.2 != 0)) ?_
 refine Ni ?_
 refine Ws ?_
 rcases bft (r1.2 != 0) with hb2 | hb2
 ·replace hM:=ifT hM hb2
  refine Ct hb2 ?_
  refine Sq ?_
  refine Rg 3 ?_
  refine Om (.i r1.2) ?_
  refine Oa (.sl .nil 0 []) ?_
  refine Oa (.i r1.2) ?_
  refine Ni ?_
  refine Ws ?_
  refine zaR ?_
  refine zam ?_
  refine zaZ (x:=.tup [.sl .nil 0 [],.i r1.2]) (f:=fun r=>.tup [.sl .no 1 (r.1.map cI),.i r.2]) (.inr rfl) ?_ (.tupL (.cons (.sl0 .nil 1 0) (.k .nil))) (Option.some.inj hM) hS
  exact (zcl (zae (x:=.sl .nil 0 []) rfl) (zae (x:=.i r1.2) rfl))
 ·replace hM:=ifF hM hb2
  refine Cf hb2 ?_
  refine zaD ?_
  refine Ws ?_
  refine Sq ?_
  refine Rg 4 ?_
  refine Om (pA Box_.cells r1.1) ?_
  obtain ⟨r3,hr3,hM⟩:=zai hM
  refine zaE (bs:=[pA Box_.cells r1.1]) (by decide) rfl rfl ((zgQ hr3).le (.k .nil)) ?_
  refine Oa (.sl .no 1 (r3.map cI)) ?_
  refine Oa (.i 0) ?_
  refine Ni ?_
  refine Ws ?_
  refine zaR ?_
  refine zaZ (x:=.tup [.sl .no 1 (r3.map cI),.i 0]) (f:=fun r=>.tup [.sl .no 1 (r.1.map cI),.i r.2]) (.inr rfl) ?_ (.refl _) (Option.some.inj hM) hS
  exact (zcl (zae (x:=.sl .no 1 (r3.map cI)) rfl) (zae (x:=.i 0) rfl))
theorem zjf {a0:List Int} {r:List Int} (hM:slices_Clone_int a0=some r):zgi Try.prog 161 [.sl .no 1 (a0.map cI)] 3 1 (r.map cI):=by
 have hr:r=a0:=by
  unfold slices_Clone_int app at hM
  split at hM
  ·injection hM with hM;rw [←hM];rfl
  ·cases hM
 refine zou mixed Try.func161 rfl (by decide) Try.ntmps161 (by simp) ?pure fun H0 g hf=>?_
 case pure=>exact zav (fun x=>(zab (.v _) zaF))
 rw [zag]
 change wpA _ _ _ _ (Fr.of [(0,.sl .no 1 (a0.map cI))]) H0 g
 have hS:=St.start hf
 refine Sq ?_
 refine Rg 1 ?_
 refine Oa (.sl .nil 0 []) ?_
 refine Ni ?_
 refine Ws ?_
 refine Sq ?_
 refine Sq ?_
 refine Rg 2 ?_
 refine Om (.sl .no 1 (a0.map cI)) ?_
 refine zAj (t:=22) (tg:=.no) (k:=1) (es:=a0.map cI) (e:=true) (by decide) rfl rfl rfl rfl zaB (fun _=>?_) (fun hnil=>?_)
 ·refine Ni ?_
  refine Ws ?_
  refine zg6 (e:=false==true) rfl rfl ?_
  refine zaD ?_
  refine Ws ?_
  refine Sq ?_
  refine Rg 4 ?_
  refine zaW (es:=[]) hS (by decide) zay zbn rfl zbi rfl (by decide) (by omega) fun H hS=>?_
  refine Om (.sl .no 1 (a0.map cI)) ?_
  refine zed (xs:=([]:List Int)) (ys:=a0) (zs:=r) (f:=cI) (L':=[(g+1+2+0,.row 3 r.length)]) 0 hS (by decide) rfl rfl rfl rfl .no zay zbn zbi hM rfl fun H hS=>?_
  refine Oa (.sl (.id (g+1+2+0)) 1 (r.map cI)) ?_
  refine Ni ?_
  refine Ws ?_
  refine zaR ?_
  refine zv6 (j:=g+1+2+0) 0 (.inr rfl) ?_ hS rfl (List.length_map _).symm
  exact zax (zae rfl)
 ·refine Ni ?_
  refine Ws ?_
  refine zkH (e:=true==true) rfl rfl ?_
  refine Sq ?_
  refine Rg 1 ?_
  refine Oa (.sl .nil 0 []) ?_
  refine Ni ?_
  refine Ws ?_
  refine zaR ?_
  refine zam ?_
  refine zv7 (k':=0) (.inr rfl) ?_ hS (by decide) (by rw [hr];exact hnil)
  exact zax (zae rfl)
theorem zbo {n:Nat} {a0:Option Box_} {a1:List Int} {r:Int} (hM:zbc n a0 a1=some r):zaH Try.prog 63 [pA Box_.cells a0,.sl .no 1 (a1.map cI)] (.i r):=by
 refine zak mixed Try.func63 rfl (by decide) Try.ntmps63 (by simp) ?pure fun H0 g hf=>?_
 case pure=>exact .v _
 rw [zag]
 change wpA _ _ _ _ (Fr.of [(0,pA Box_.cells a0),(1,.sl .no 1 (a1.map cI))]) H0 g
 have hS:=St.start hf
 refine Sq ?_
 refine Rg 1 ?_
 refine Oa (.i 0) ?_
 refine Ni ?_
 refine Ws ?_
 refine Sq ?_
 refine Rg 1 ?_
 refine Oa (.i 0) ?_
 refine Ni ?_
 refine Ws ?_
 refine za1 (J:=Int) (fun j=>[(5,.i j)]) (fun j H' g'=>St (·<g) H0 [] H' g'/\zc2 j=some r) ?_ ?_
 ·rintro v1 H g1 ⟨hS,hM⟩
  change wpA _ _ _ _ (Fr.of [(5,.i v1)]) _ _
  replace hS:St (·<g) H0 [] H g1:=hS
  replace hM:zc2 v1=some r:=hM
  refine Sq ?_
  refine Rg 2 ?_
  refine Om (.i v1) ?_
  refine Oa (.i v1) ?_
  refine Ni ?_
  refine Ws ?_
  refine zaR ?_
  refine zaZ (x:=.i v1) (f:=fun r=>.i r) (.inr rfl) ?_ (.refl _) (Option.some.inj hM) hS
  exact (zax (zae (x:=.i v1) rfl))
 ·refine Sq ?_
  refine Rg 3 ?_
  refine Om (.sl .no 1 (a1.map cI)) ?_
  refine zbA (n:=a1.length) (by decide) rfl (List.length_map _) zaB ?_
  refine Om (.i 0) ?_
  refine Ni ?_
  refine Ws ?_
  refine zaK ?_
  refine zct (V:=Int×Int) (fun v=>[(0,pA Box_.cells a0),(5,.i v.1),(8,.sl .no 1 (a1.map cI)),(9,.i (a1.length:Int)),(10,.i v.2)]) (fun v m2 H' g'=>St (·<g) H0 [] H' g'/\zbs a0 a1 m2 v.1 v.2=some r) (n:=n) (0,0) (.k (.k (.k (.k (.k .nil))))) ⟨(hS.keep [] rfl).up (by omega),hM⟩ ?_
  rintro ⟨v2,v3⟩ m2 H g2 ⟨hS,hM⟩
  obtain _ | m2:=m2
  ·exact nomatch (show none=some _ from hM)
  change wpA _ _ _ _ (Fr.of [(0,pA Box_.cells a0),(5,.i v2),(8,.sl .no 1 (a1.map cI)),(9,.i (a1.length:Int)),(10,.i v3)]) _ _
  replace hS:St (·<g) H0 [] H g2:=hS
  replace hM:zcI a0 a1 (zbs a0 a1 m2) v2 v3=some r:=hM
  refine Sq ?_
  refine Rg 1 ?_
  refine Oi (.b (decide (v3<(a1.length:Int)))) ?_
  refine Ni ?_
  refine Ws ?_
  refine Sq ?_
  rcases bft (decide (v3<(a1.length:Int))) with hb4 | hb4
  ·replace hM:=ifT hM hb4
   refine Ct hb4 ?_
   refine zaD ?_
   refine Ws ?_
   refine Sq ?_
   refine zaK ?_
   refine Sq ?_
   refine Rg 5 ?_
   refine Om (.i v3) ?_
   obtain ⟨x5,hx5,hM⟩:=zai hM
   refine za5 (xs:=a1) (f:=cI) (z:=v3) (u:=x5) (by decide) rfl rfl zay hx5 ?_
   refine Olp (.i x5) zah zar ?_
   refine Oa (.i v3) ?_
   refine Oa (.i x5) ?_
   refine Ni ?_
   refine Ws ?_
   refine Rg 14 ?_
   refine Om (.i v2) ?_
   refine Om (.i x5) ?_
   refine Om (pA Box_.cells a0) ?_
   obtain ⟨x6,hx6,hM⟩:=zai hM
   refine zia (f:=Box_.cells) (p:=a0) (u:=x6) (by decide) rfl hx6 ?_
   refine Of ((Box.cells x6.Box)) zdv ?_
   refine Of ((Box.cells x6.Box)) zcH ?_
   refine Of ((Box.cells x6.Box)) zbL ?_
   refine Olp (.sl .no 1 (x6.Box.Wheel.Coins.map cI)) zau zaO ?_
   refine Om (.i v3) ?_
   obtain ⟨x7,hx7,hM⟩:=zai hM
   refine za5 (xs:=x6.Box.Wheel.Coins) (f:=cI) (z:=v3) (u:=x7) (by decide) rfl rfl zay hx7 ?_
   refine Olp (.i x7) zah zar ?_
   refine Oi (.i (w64 (x5*x7))) ?_
   refine Oi (.i (w64 (v2+(w64 (x5*x7))))) ?_
   refine Oa (.i (w64 (v2+(w64 (x5*x7))))) ?_
   refine Ni ?_
   refine zat ?_
   refine Ws ?_
   refine Rg 2 ?_
   refine Oi (.i (w64 (v3+1))) ?_
   refine Om (.i (w64 (v3+1))) ?_
   refine Ni ?_
   exact zbq (w64 (v2+(w64 (x5*x7))),w64 (v3+1)) (Nat.lt_succ_self _) (.k (.k (.k (.k (.k .nil))))) ⟨(hS.keep [] rfl).up (by omega),hM⟩
  ·replace hM:=ifF hM hb4
   refine Cf hb4 ?_
   refine zb1 ?_
   refine zaA ?_
   refine zaz ?_
   refine zaL ?_
   exact zal v2 (.k .nil) ⟨(hS.keep [] rfl).up (by omega),hM⟩
def zqQ (xs ys:List Int) (i:Nat):Prop:=ys.length=xs.length/\∀k,k<xs.length->ys[k]?=if k<i\/xs.length<=k+i then xs[xs.length-1-k]? else xs[k]?
theorem zst (xs:List Int):zqQ xs xs 0:=⟨rfl,fun k hk=>by rw [if_neg (by omega)]⟩
theorem zuT {xs ys:List Int} {i:Nat} (h:zqQ xs ys i) (hi:xs.length<=2*i+1):ys=xs.reverse:=by
 apply List.ext_getElem?
 intro k
 by_cases hk:k<xs.length
 ·rw [h.2 k hk,List.getElem?_reverse hk]
  split
  ·rfl
  ·congr 1
   omega
 ·rw [List.getElem?_eq_none (by rw [h.1];omega),List.getElem?_eq_none (by rw [List.length_reverse];omega)]
theorem ztJ {xs ys:List Int} {i:Nat} (h:zqQ xs ys i) (hi:2*i+1<xs.length) {a b:Int} (ha:ys[xs.length-1-i]?=some a) (hb:ys[i]?=some b):zqQ xs ((ys.set i a).set (xs.length-1-i) b) (i+1):=by
 have ha2:=h.2 (xs.length-1-i) (by omega)
 rw [if_neg (by omega)] at ha2
 have hb2:=h.2 i (by omega)
 rw [if_neg (by omega)] at hb2
 refine ⟨by simp [h.1],fun k hk=>?_⟩
 by_cases h1:k=xs.length-1-i
 ·subst h1
  rw [List.getElem?_set_self (by simp [h.1];omega),if_pos (by omega),←hb,hb2]
  congr 1
  omega
 ·rw [List.getElem?_set_ne (fun e=>h1 e.symm)]
  by_cases h2:k=i
  ·subst h2
   rw [List.getElem?_set_self (by rw [h.1];omega),if_pos (by omega),←ha,ha2]
  ·rw [List.getElem?_set_ne (fun e=>h2 e.symm),h.2 k hk]
   by_cases h3:k<i\/xs.length<=k+i
   ·rw [if_pos h3,if_pos (by omega)]
   ·rw [if_neg h3,if_neg (by omega)]
theorem zh4 {xs:List Int} {j:Nat} (hx:xs≠[]) (hl:xs.length<=1048576):ziy Try.prog 162 [.ms j 0 1 xs.length xs.length] j (xs.map cI).flatten (.tup []) (xs.reverse.map cI).flatten:=by
 refine zqu mixed Try.func162 rfl (by decide) Try.ntmps162 (by simp) (fun H _=>.tup _ fun c hc=>by simp at hc) (zrP (fun x=>(zab (.v _) zaF)) _) fun H0 g hf hp=>?_
 rw [zag]
 have hn0:xs.length≠0:=fun e=>hx (List.length_eq_zero_iff.1 e)
 have hms:AV.ms j 0 1 xs.length xs.length=msn j 1 xs.length:=by unfold msn;rw [if_neg hn0]
 rw [hms]
 have hTn:∀ys:List Int,ys.length=xs.length->zf6 j xs.length (ys.map cI)=[(j,.cells (ys.map cI).flatten)]:=fun ys hy=>by
  unfold zf6 zhj
  rw [if_pos (by rw [List.length_map];exact hy),if_neg (fun e=>by rw [List.map_eq_nil_iff] at e;subst e;exact hn0 hy.symm)]
 change wpA _ _ _ _ (Fr.of [(0,msn j 1 xs.length)]) H0 g
 have hS:=St.startP hf hp
 replace hS:St (fun i=>i<g/\i≠j) H0 ([]++zf6 j xs.length (xs.map cI)) H0 g:=by rw [List.nil_append,hTn xs rfl];exact hS
 refine Sq ?_
 refine Rg 5 ?_
 refine Om (msn j 1 xs.length) ?_
 refine zwd (by decide) rfl zaB ?_
 refine zni (v:=.i ((xs.length:Int)-1)) (by decide) rfl rfl (by show some (AV.i (w64 ((xs.length:Int)-1)))=_;rw [zaP (by omega) (by omega)]) ?_
 refine Oa (.i 0) ?_
 refine Oa (.i ((xs.length:Int)-1)) ?_
 refine Ni ?_
 refine Ws ?_
 refine zaK ?_
 refine zct (V:=Nat×List Int) (fun v=>[(0,msn j 1 xs.length),(2,.i (v.1:Int)),(3,.i ((xs.length:Int)-1-(v.1:Int)))]) (fun v k H' g'=>St (fun i=>i<g/\i≠j) H0 ([]++zf6 j xs.length (v.2.map cI)) H' g'/\zqQ xs v.2 v.1/\k=xs.length-v.1) (n:=xs.length) (0,xs) (.k (.k (.cons (by show Le _ (AV.i ((xs.length:Int)-1));rw [show ((xs.length:Int)-1-((0:Nat):Int))=(xs.length:Int)-1 by omega];exact .refl _) .nil))) ⟨hS.up (by omega),zst xs,by omega⟩ ?_
 rintro ⟨p,ys⟩ k H g1 ⟨hS,hR,hk⟩
 change wpA _ _ _ _ (Fr.of [(0,msn j 1 xs.length),(2,.i (p:Int)),(3,.i ((xs.length:Int)-1-(p:Int)))]) _ _
 replace hS:St (fun i=>i<g/\i≠j) H0 ([]++zf6 j xs.length (ys.map cI)) H g1:=hS
 replace hR:zqQ xs ys p:=hR
 replace hk:k=xs.length-p:=hk
 refine Sq ?_
 refine Sq ?_
 refine Rg 3 ?_
 refine Om (.i (p:Int)) ?_
 refine Om (.i ((xs.length:Int)-1-(p:Int))) ?_
 refine Oi (.b (decide ((p:Int)<(xs.length:Int)-1-(p:Int)))) ?_
 refine Ni ?_
 refine Ws ?_
 rcases bft (decide ((p:Int)<(xs.length:Int)-1-(p:Int))) with hb | hb
 rotate_left
 ·refine Cf hb ?_
  refine zb1 ?_
  refine zaA ?_
  refine zaz ?_
  refine zaL ?_
  have hb:=of_decide_eq_false hb
  obtain rfl:=zuT hR (by omega)
  refine ⟨.inl rfl,⟨_,rfl,.refl _⟩,fun i hi=>(hS.old i hi).2,?_⟩
  rw [List.nil_append,hTn _ (List.length_reverse)] at hS
  exact hS.get (n:=0) rfl
 have hb2:=of_decide_eq_true hb
 have hlt:2*p+1<xs.length:=by omega
 obtain ⟨a,ha⟩:∃a,ys[xs.length-1-p]?=some a:=⟨_,List.getElem?_eq_getElem (by rw [hR.1];omega)⟩
 obtain ⟨c,hc⟩:∃c,ys[p]?=some c:=⟨_,List.getElem?_eq_getElem (by rw [hR.1];omega)⟩
 have ez:((xs.length:Int)-1-(p:Int)).toNat=xs.length-1-p:=by omega
 have hia:idx ys ((xs.length:Int)-1-(p:Int))=some a:=by unfold idx;rw [if_pos (by omega),ez];exact ha
 have hic:idx ys (p:Int)=some c:=by unfold idx;rw [if_pos (by omega)];exact hc
 refine Ct hb ?_
 refine zaD ?_
 refine Ws ?_
 refine Sq ?_
 refine zaK ?_
 have hS0:=hS
 refine zck (n:=16) rfl (by kernel_rfl) ?_
 refine Om (msn j 1 xs.length) ?_
 refine Om (.i (p:Int)) ?_
 refine Om (msn j 1 xs.length) ?_
 refine Om (.i ((xs.length:Int)-1-(p:Int))) ?_
 refine Om (msn j 1 xs.length) ?_
 refine Om (.i ((xs.length:Int)-1-(p:Int))) ?_
 refine zkc (xs:=ys) (f:=cI) (z:=((xs.length:Int)-1-(p:Int))) (u:=a) hS (by decide) rfl rfl zay hia ?_
 refine zrO (xs:=ys) (z:=((xs.length:Int)-1-(p:Int))) (u:=a) hS (by decide) rfl hia (.tl hS0 hia (by omega)) zah zar ?_
 refine Om (msn j 1 xs.length) ?_
 refine Om (.i (p:Int)) ?_
 refine zkc (xs:=ys) (f:=cI) (z:=(p:Int)) (u:=c) hS (by decide) rfl rfl zay hic ?_
 refine zrO (xs:=ys) (z:=(p:Int)) (u:=c) hS (by decide) rfl hic (.tl hS0 hic (by omega)) zah zar ?_
 refine zkc (xs:=ys) (f:=cI) (z:=(p:Int)) (u:=c) hS (by decide) rfl rfl zay hic ?_
 refine zpg (xs:=ys) (z:=(p:Int)) (u:=c) (v:=a) hS rfl hic (.tl hS0 hic (by omega)) rfl zen fun H hS=>?_
 have hia2:idx (ys.set (p:Int).toNat a) ((xs.length:Int)-1-(p:Int))=some a:=by
  unfold idx
  rw [if_pos (by omega),ez,Int.toNat_natCast,List.getElem?_set_ne (by omega)]
  exact ha
 refine zkc (xs:=(ys.set (p:Int).toNat a)) (f:=cI) (z:=((xs.length:Int)-1-(p:Int))) (u:=a) hS (by decide) rfl rfl zay hia2 ?_
 refine zpg (xs:=(ys.set (p:Int).toNat a)) (z:=((xs.length:Int)-1-(p:Int))) (u:=a) (v:=c) hS rfl hia2 (.tl hS0 hia (by omega)) rfl zen fun H hS=>?_
 refine Ni ?_
 refine zat ?_
 refine Ws ?_
 refine Rg 6 ?_
 refine Om (.i (p:Int)) ?_
 refine zni (v:=.i ((p+1:Nat):Int)) (by decide) rfl rfl (by show some (AV.i (w64 ((p:Int)+1)))=_;rw [zaP (by omega) (by omega)];rfl) ?_
 refine Om (.i ((xs.length:Int)-1-(p:Int))) ?_
 refine zni (v:=.i ((xs.length:Int)-1-((p+1:Nat):Int))) (by decide) rfl rfl (by show some (AV.i (w64 ((xs.length:Int)-1-(p:Int)-1)))=_;rw [zaP (by omega) (by omega)];exact congrArg (fun z:Int=>some (AV.i z)) (by omega)) ?_
 refine Oa (.i ((p+1:Nat):Int)) ?_
 refine Oa (.i ((xs.length:Int)-1-((p+1:Nat):Int))) ?_
 refine Ni ?_
 refine zbq (p+1,(ys.set (p:Int).toNat a).set ((xs.length:Int)-1-(p:Int)).toNat c) (m:=xs.length-(p+1)) (by omega) (.k (.k (.k .nil))) ⟨hS.up (by omega),?_,rfl⟩
 rw [ez,Int.toNat_natCast]
 exact ztJ hR hlt ha hc
theorem zqR {κ ν:Type} [DecidableEq κ] {ok:κ->Bool} {z:ν} {M M':List (κ×ν)} (h:M.Perm M') (k:κ):zgI ok z M k=zgI ok z M' k:=by
 have e:mok ok M k=mok ok M' k:=by
  unfold mok
  rw [Bool.eq_iff_iff]
  simp only [Bool.and_eq_true,List.all_eq_true,decide_eq_true_eq]
  rw [(h.map (·.1)).nodup_iff]
  simp only [h.mem_iff]
 unfold zgI
 rw [e]
 by_cases hk:mok ok M' k=true
 ·rw [if_pos hk,if_pos hk]
  have hn:(M.map (·.1)).Nodup:=by
   rw [←e] at hk
   exact of_decide_eq_true (Bool.and_eq_true_iff.1 hk).2
  rw [(zsq z h hn k).1]
 ·rw [if_neg hk,if_neg hk]
def zeP (j:Nat) (acts:List Int):AV:=if acts=[] then .sl .nil 0 [] else .ms j 0 1 acts.length acts.length
def zeQ (j:Nat) (acts:List Int):BL:=if acts=[] then [] else [(j,.cells (acts.map cI).flatten)]
theorem zpF (acts:List Int):(acts.map cI).flatten.length=acts.length:=by rw [zhD,List.length_map]
theorem zoJ {P:Program} {N:Nat} {l:List (Nat×AV)} {H:zac} {g g0 i:Nat} {ops:Array Oper} {K:Fr->zac->Nat->Prop} {r:List Oper} {d:Nat} {ty:TypeId} {pos:String} {after:Array Edge} {O:Nat->Prop} {H0:zac} {L:BL} {b:Nat} {t:TypeId} {x y:Operand} {ja:Nat} {acts:List Int} {a:Int} (hS:St O H0 (zeQ ja acts++L) H b) (hd:d<N) (hx:evL N l x=zeP ja acts) (hy:evL N l y=.sl .clip 1 [[.i a]]) (hk:zaI P t=some 1) (hf:zaY P t=true) (hle:acts.length+1<=1048576) (hb:b<=g0+i) (h:∀H',St O H0 (zeQ (g0+i) (acts++[a])++L) H' (g0+i+1)->zaT P N none g0 ops K (i+1) r (Fr.of ((d,zeP (g0+i) (acts++[a]))::l)) H' g):zaT P N none g0 ops K i (⟨some d,.call { callee:=.builtin .append,args:=#[x,y],argTypes:=#[t,t] },ty,pos,after,none⟩::r) (Fr.of l) H g:=by
 have hsrc:zq8 H 1 (evL N l y)=some (1,[.i a]):=by rw [hy];rfl
 by_cases hn:acts=[]
 ·subst hn
  refine zrY (k:=1) (k':=0) (q:=1) (ds:=[.i a]) hS hd hx hsrc hk hf (by omega) (by omega) hb fun H' hS'=>?_
  exact h H' hS'
 ·have e1:zeQ ja acts=[(ja,.cells (acts.map cI).flatten)]:=if_neg hn
  have e2:zeP ja acts=.ms ja 0 1 acts.length acts.length:=if_neg hn
  have hn2:acts++[a]≠[]:=by simp
  have hpos:0<acts.length:=List.length_pos_iff.2 hn
  rw [e1] at hS
  rw [e2] at hx
  refine zrX (k:=1) (m:=acts.length) (q:=1) (ds:=[.i a]) hS hd hx (by rw [zpF];omega) hsrc hk hf hpos (by omega) hle hb fun H' hS'=>?_
  have e3:zeQ (g0+i) (acts++[a])=[(g0+i,.cells ((acts.map cI).flatten++[.i a]))]:=by
   unfold zeQ
   rw [if_neg hn2,List.map_append,List.flatten_append]
   rfl
  have e4:zeP (g0+i) (acts++[a])=.ms (g0+i) 0 1 (acts.length+1) (acts.length+1):=by
   unfold zeP
   rw [if_neg hn2,List.length_append,List.length_singleton]
  have:=h H'
  rw [e3,e4] at this
  exact this hS'
theorem zh5:zaH Try.prog 162 [.sl .nil 0 []] (.tup []):=by
 refine zak mixed Try.func162 rfl (by decide) Try.ntmps162 (by simp) (.tup _ zaF) fun H0 g hf=>?_
 rw [zag]
 change wpA _ _ _ _ (Fr.of [(0,.sl .nil 0 [])]) H0 g
 have hS:=St.start hf
 refine Sq ?_
 refine Rg 5 ?_
 refine Om (.sl .nil 0 []) ?_
 refine zbA (n:=0) (by decide) rfl rfl zaB ?_
 refine zni (v:=.i (-1)) (by decide) rfl rfl (by show some (AV.i (w64 (((0:Nat):Int)-1)))=_;rw [zaP (by omega) (by omega)];rfl) ?_
 refine Oa (.i 0) ?_
 refine Oa (.i (-1)) ?_
 refine Ni ?_
 refine Ws ?_
 refine zaK ?_
 refine zct (V:=Unit) (fun _=>[(0,.sl .nil 0 []),(2,.i 0),(3,.i (-1))]) (fun _ _ H' g'=>St (·<g) H0 [] H' g') (n:=0) () (.k (.k (.k .nil))) (hS.up (by omega)) ?_
 rintro _ k H g1 hS
 change wpA _ _ _ _ (Fr.of [(0,.sl .nil 0 []),(2,.i 0),(3,.i (-1))]) _ _
 refine Sq ?_
 refine Sq ?_
 refine Rg 3 ?_
 refine Om (.i 0) ?_
 refine Om (.i (-1)) ?_
 refine Oi (.b (decide ((0:Int) < -1))) ?_
 refine Ni ?_
 refine Ws ?_
 refine zg6 (e:=decide ((0:Int) < -1)) rfl (by decide) ?_
 refine zb1 ?_
 refine zaA ?_
 refine zaz ?_
 refine zaL ?_
 refine zaZ (x:=.tup []) (f:=fun (_:Unit)=>.tup []) (u:=()) (.inl rfl) rfl (.refl _) rfl hS
theorem ztK {N:Nat} {l:List (Nat×AV)} {H:zac} {g g0 i:Nat} {ops:Array Oper} {K:Fr->zac->Nat->Prop} {r:List Oper} {d:Nat} {ty:TypeId} {pos:String} {after:Array Edge} {O:Nat->Prop} {H0:zac} {L:BL} {b:Nat} {f:Operand} {args:Array Operand} {ts:Array TypeId} {ja:Nat} {acts:List Int} (hS:St O H0 (zeQ ja acts++L) H b) (hd:d<N) (ht:tgt (evL N l f)=some (162,[],[])) (ha:args.toList.map (evL N l)=[zeP ja acts]) (hle:acts.length<=1048576) (h:∀H',St O H0 (zeQ ja acts.reverse++L) H' b->zaT Try.prog N none g0 ops K (i+1) r (Fr.of ((d,.tup [])::l)) H' g):zaT Try.prog N none g0 ops K i (⟨some d,.call { callee:=.value f,args:=args,argTypes:=ts },ty,pos,after,none⟩::r) (Fr.of l) H g:=by
 by_cases hn:acts=[]
 ·subst hn
  exact zaE hd ht (by rw [ha];rfl) zh5 (h H hS)
 ·have e1:zeQ ja acts=[(ja,.cells (acts.map cI).flatten)]:=if_neg hn
  have e2:zeP ja acts=.ms ja 0 1 acts.length acts.length:=if_neg hn
  have e3:zeQ ja acts.reverse=[(ja,.cells (acts.reverse.map cI).flatten)]:=if_neg (by simpa using hn)
  rw [e1] at hS
  rw [e2] at ha
  rw [e3] at h
  exact zAi 0 hS hd ht (by rw [ha];rfl) rfl zv4 (zh4 hn hle) rfl h
theorem zfy {n:Nat} {a0:Option Box_} {purse:List Int} {r:List Int×Bool} (hM:zca n a0 purse=some r):zaH Try.prog 134 [pA Box_.cells a0,.sl .no 1 (purse.map cI)] (.tup [.sl .no 1 (r.1.map cI),.b r.2]):=by
 refine zak mixed Try.func134 rfl (by decide) Try.ntmps134 (by simp) ?pure fun H0 g hf=>?_
 case pure=>exact .tup _ (zab (.sl _ _ (zav (fun x=>(zab (.v _) zaF)))) (zab (.v _) zaF))
 rw [zag]
 change wpA _ _ _ _ (Fr.of [(0,pA Box_.cells a0),(1,.sl .no 1 (purse.map cI))]) H0 g
 have hS:=St.start hf
 unfold zca at hM
 obtain ⟨b,hb0,hM⟩:=zai hM
 obtain ⟨r1,hr1,hM⟩:=zai hM
 obtain ⟨al,hal,hM⟩:=zai hM
 obtain ⟨M,hMM,hM⟩:=zai hM
 have hok:ziJ M=true:=by
  cases h:ziJ M with
  | true=>rfl
  | false=>rw [if_neg (by rw [h];simp)] at hM;cases hM
 rw [if_pos hok] at hM
 refine Sq ?_
 refine Rg 2 ?_
 refine Oa (.sl .nil 0 []) ?_
 refine Oa (.b false) ?_
 refine Ni ?_
 refine Ws ?_
 refine Sq ?_
 refine Rg 4 ?_
 refine Om (pA Box_.cells a0) ?_
 refine zaE (bs:=[pA Box_.cells a0]) (by decide) rfl rfl ((ze4 hr1).le (.k .nil)) ?_
 refine za3 hS (by decide) zjw (by omega) fun H hS=>?_
 refine zaJ (v:=.agg (Bag_.cells r1)) (ns:=(Bag_.cells r1)) (L':=[(g+2+2,.cells (Bag_.cells r1))]) 0 hS rfl rfl .no rfl rfl znt nlb rfl fun H hS=>?_
 refine Ni ?_
 refine Ws ?_
 refine Sq ?_
 refine Sq ?_
 refine Rg 3 ?_
 refine Om (.sl .no 1 (purse.map cI)) ?_
 refine zbA (n:=purse.length) (by decide) rfl (List.length_map _) zaB ?_
 refine Om (.i 0) ?_
 refine Ni ?_
 refine Ws ?_
 refine zaK ?_
 refine zct (V:=Int×Bag_) (fun v=>[(0,pA Box_.cells a0),(6,.ptr (g+2+2) 0),(17,.sl .no 1 (purse.map cI)),(18,.i (purse.length:Int)),(19,.i v.1)]) (fun v k H' g'=>St (·<g) H0 [(g+2+2,.cells (Bag_.cells v.2))] H' g'/\zbI purse k v.1 v.2=some al) (n:=n) (0,r1) (.k (.k (.k (.k (.k .nil))))) ⟨hS.up (by omega),hal⟩ ?_
 rintro ⟨k,ar⟩ m H g1 ⟨hS,hal⟩
 obtain _ | m:=m
 ·exact nomatch (show none=some _ from hal)
 change wpA _ _ _ _ (Fr.of [(0,pA Box_.cells a0),(6,.ptr (g+2+2) 0),(17,.sl .no 1 (purse.map cI)),(18,.i (purse.length:Int)),(19,.i k)]) _ _
 replace hS:St (·<g) H0 [(g+2+2,.cells (Bag_.cells ar))] H g1:=hS
 unfold zbI at hal
 refine Sq ?_
 refine Rg 1 ?_
 refine Oi (.b (decide (k<(purse.length:Int)))) ?_
 refine Ni ?_
 refine Ws ?_
 refine Sq ?_
 rcases bft (decide (k<(purse.length:Int))) with hk1 | hk1
 ·replace hal:=ifT hal hk1
  refine Ct hk1 ?_
  refine zaD ?_
  refine Ws ?_
  obtain ⟨x,hx,hal⟩:=zai hal
  obtain ⟨e,he,hal⟩:=zai hal
  obtain ⟨u,hu,hal⟩:=zai hal
  refine Sq ?_
  refine zaK ?_
  refine Sq ?_
  refine Rg 5 ?_
  refine Om (.i k) ?_
  refine za5 (xs:=purse) (f:=cI) (z:=k) (u:=x) (by decide) rfl rfl zay hx ?_
  refine Olp (.i x) zah zar ?_
  refine Oa (.i k) ?_
  refine Oa (.i x) ?_
  refine Ni ?_
  refine Ws ?_
  refine Rg 7 ?_
  refine Om (.i k) ?_
  refine zfg (z:=k) (by decide) rfl rfl zf8 (zfs he) ?_
  refine zkP (xs:=([ar.c0,ar.c1,ar.c2,ar.c3]:List Int)) (z:=k) (u:=e) (off:=0) 0 hS (by decide) rfl rfl .no rfl he zah zar ?_
  refine Om (.i x) ?_
  refine Oi (.i (w64 (e+x))) ?_
  refine zfg (z:=k) (by decide) rfl rfl zf8 (zfs he) ?_
  refine ziP (xs:=([ar.c0,ar.c1,ar.c2,ar.c3]:List Int)) (u:=u) (z:=k) (v:=(w64 (e+x))) (off:=0) (cs':=[.i (u.getD 0 0),.i (u.getD 1 0),.i (u.getD 2 0),.i (u.getD 3 0)]) (L':=[(g+2+2,.cells [.i (u.getD 0 0),.i (u.getD 1 0),.i (u.getD 2 0),.i (u.getD 3 0)])]) 0 hS rfl rfl .no rfl rfl hu zen rfl rfl fun H hS=>?_
  refine Ni ?_
  refine zat ?_
  refine Ws ?_
  refine Rg 2 ?_
  refine Oi (.i (w64 (k+1))) ?_
  refine Om (.i (w64 (k+1))) ?_
  refine Ni ?_
  exact zbq (w64 (k+1),⟨u.getD 0 0,u.getD 1 0,u.getD 2 0,u.getD 3 0⟩) (Nat.lt_succ_self _) (.k (.k (.k (.k (.k .nil))))) ⟨hS.up (by omega),hal⟩
 replace hal:=ifF hal hk1
 obtain rfl:=Option.some.inj hal
 refine Cf hk1 ?_
 refine zb1 ?_
 refine zaA ?_
 refine zaz ?_
 refine zaL ?_
 refine Ws ?_
 refine Sq ?_
 refine Rg 4 ?_
 refine Om (pA Box_.cells a0) ?_
 refine zaV (v:=.agg (Bag_.cells ar)) 0 hS (by decide) rfl rfl .no (pg zdQ) ?_
 refine zpk (bs:=[pA Box_.cells a0,.agg (Bag_.cells ar)]) (p:=zaf (mpw zad zao M)) hS (by decide) rfl rfl ((zgv hMM).le (.k (.k .nil))) (zab (zpE _) (zab (.agg _ (zab (.v _) (zab (.v _) (zab (.v _) (zab (.v _) zaF))))) zaF)) (by omega) fun H hS=>?_
 refine Oa (.mp (g1+1+2)) ?_
 refine Ni ?_
 refine Ws ?_
 refine Sq ?_
 refine Rg 4 ?_
 refine Om (.mp (g1+1+2)) ?_
 refine zaV (v:=.agg (Bag_.cells ar)) 1 hS (by decide) rfl rfl .no (pg zdQ) ?_
 refine znq (M:=[((g1+1+2),.obj none (zaf (mpw zad zao M)))]) (L:=[(g+2+2,.cells (Bag_.cells ar))]) (.inl rfl) hS (by decide) rfl rfl (zie hok) (by omega) ?_
 rintro v M' H gE ⟨l,jn,hlp,hjn,rfl,rfl⟩ hgE hS
 have hEp:(l.foldl (za8 ar) []).Perm (zew ar M):=znB hlp
 have hEn:((l.foldl (za8 ar) []).map (·.1)).Nodup:=(zk5 ar l).nd
 have hEk:∀x,x∈l.foldl (za8 ar) []->okI x.1=true:=(zi8 l [] (fun b=>okI b=true) (fun p hp=>by obtain ⟨x,hx,rfl⟩:=List.mem_map.1 (hlp.mem_iff.1 hp);exact List.all_eq_true.1 (Bool.and_eq_true_iff.1 hok).1 x hx) (fun p hp=>by simp at hp) (by simp)).1
 have hEl:(l.foldl (za8 ar) []).length<=1048576:=by have h1:=zkk (al:=ar) l [];have h2:=hlp.length_eq;have h3:=of_decide_eq_true (Bool.and_eq_true_iff.1 hok).2;simp only [List.length_map,List.length_nil] at h1 h2;omega
 have hlk:∀x,zgI okI zaN (l.foldl (za8 ar) []) x=zgI okI zaN (zew ar M) x:=zqR hEp
 refine Oa (.mp jn) ?_
 refine Ni ?_
 replace hS:St (·<g) H0 [(jn,.obj none (zaf (mpw kvI zad (l.foldl (za8 ar) [])))),((g1+1+2),.obj none (zaf (mpw zad zao M))),(g+2+2,.cells (Bag_.cells ar))] H gE:=hS
 replace hS:=hS.keep (L':=[(jn,.obj none (zaf (mpw kvI zad (l.foldl (za8 ar) [])))),((g1+1+2),.obj none (zaf (mpw zad zao M)))]) [true,true,false] rfl
 refine Ws ?_
 refine Sq ?_
 refine Sq ?_
 refine Rg 5 ?_
 refine Om (.mp jn) ?_
 refine zsl (.inl rfl) hS (by decide) rfl rfl zud (by omega) fun H hS=>?_
 refine zps (E:=l.foldl (za8 ar) []) (cv:=zad) 0 1 (.inl rfl) hS (by decide) rfl rfl zpC (by kernel_rfl) rfl rfl hEk hEn hEl (by omega) ?_
 rw [show zeX ((l.foldl (za8 ar) []).map (·.1))=zeX ((zew ar M).map (·.1)) from zhb (hEp.map _)]
 generalize zeX ((zew ar M).map (·.1))=bs at hM ⊢
 generalize l.foldl (za8 ar) []=E at hS hlk
 generalize zew ar M=E2 at hM hlk
 refine zbA (n:=bs.length) (by decide) rfl (List.length_map _) zaB ?_
 refine Om (.i 0) ?_
 refine Ni ?_
 replace hS:=hS.keep (L':=[(jn,.obj none (zaf (mpw kvI zad E))),((g1+1+2),.obj none (zaf (mpw zad zao M)))]) [false,true,true] rfl
 refine Ws ?_
 refine zaK ?_
 refine zct (V:=Int) (fun v=>[(0,pA Box_.cells a0),(9,.mp (g1+1+2)),(10,.mp jn),(39,.sl .no 1 (bs.map cI)),(40,.i (bs.length:Int)),(41,.i v)]) (fun v k H' g'=>St (·<g) H0 [(jn,.obj none (zaf (mpw kvI zad E))),((g1+1+2),.obj none (zaf (mpw zad zao M)))] H' g'/\zbJ n b M E2 bs k v=some r) (n:=n) 0 (.k (.k (.k (.k (.k (.k .nil)))))) ⟨hS.up (by omega),hM⟩ ?_
 rintro k m3 H g3 ⟨hS,hM⟩
 obtain _ | m3:=m3
 ·exact nomatch (show none=some _ from hM)
 change wpA _ _ _ _ (Fr.of [(0,pA Box_.cells a0),(9,.mp (g1+1+2)),(10,.mp jn),(39,.sl .no 1 (bs.map cI)),(40,.i (bs.length:Int)),(41,.i k)]) _ _
 unfold zbJ at hM
 refine Sq ?_
 refine Rg 1 ?_
 refine Oi (.b (decide (k<(bs.length:Int)))) ?_
 refine Ni ?_
 refine Ws ?_
 refine Sq ?_
 rcases bft (decide (k<(bs.length:Int))) with hk2 | hk2
 rotate_left
 ·replace hM:=ifF hM hk2
  refine Cf hk2 ?_
  refine zb1 ?_
  refine zaA ?_
  refine zaz ?_
  refine zaL ?_
  refine Ws ?_
  refine Sq ?_
  refine Rg 2 ?_
  refine Oa (.sl .nil 0 []) ?_
  refine Oa (.b false) ?_
  refine Ni ?_
  refine Ws ?_
  refine zaR ?_
  obtain rfl:=Option.some.inj hM
  refine zaZ (x:=.tup [.sl .nil 0 [],.b false]) (f:=fun (r:List Int×Bool)=>.tup [.sl .no 1 (r.1.map cI),.b r.2]) (u:=([],false)) (.inr rfl) ?_ (.tupL (.cons (.sl0 _ _ _) (.k .nil))) rfl hS
  exact zcl (zae (x:=.sl .nil 0 []) rfl) (zae (x:=.b false) rfl)
 replace hM:=ifT hM hk2
 refine Ct hk2 ?_
 refine zaD ?_
 refine Ws ?_
 obtain ⟨x,hx,hM⟩:=zai hM
 obtain ⟨wi,hwi,hM⟩:=zai hM
 have hXt:(!wi)=false->∃p s acts,zgI okI zaN E2 x=some p/\zgI zbG za7 M p=some s/\zdO M n s []=some acts/\r=(acts.reverse,true):=fun h=>by
  replace hM:=ifF hM h
  obtain ⟨p,hp,hM⟩:=zai hM
  obtain ⟨s,hs,hM⟩:=zai hM
  obtain ⟨acts,hacts,hM⟩:=zai hM
  exact ⟨p,s,acts,hp,hs,hacts,(Option.some.inj hM).symm⟩
 refine za1 (J:=Unit) (fun _=>[(0,pA Box_.cells a0),(9,.mp (g1+1+2)),(10,.mp jn),(39,.sl .no 1 (bs.map cI)),(40,.i (bs.length:Int)),(41,.i k)]) (fun _ H' g'=>St (·<g) H0 [(jn,.obj none (zaf (mpw kvI zad E))),((g1+1+2),.obj none (zaf (mpw zad zao M)))] H' g'/\zbJ n b M E2 bs m3 (w64 (k+1))=some r) ?_ ?_
 ·rintro _ H g4 ⟨hS,hM⟩
  change wpA _ _ _ _ (Fr.of [(0,pA Box_.cells a0),(9,.mp (g1+1+2)),(10,.mp jn),(39,.sl .no 1 (bs.map cI)),(40,.i (bs.length:Int)),(41,.i k)]) _ _
  refine Rg 2 ?_
  refine Oi (.i (w64 (k+1))) ?_
  refine Om (.i (w64 (k+1))) ?_
  refine Ni ?_
  exact zbq (w64 (k+1)) (Nat.lt_succ_self _) (.k (.k (.k (.k (.k (.k .nil)))))) ⟨hS.up (by omega),hM⟩
 refine zaK ?_
 refine Sq ?_
 refine Rg 3 ?_
 refine za5 (xs:=bs) (f:=cI) (z:=k) (u:=x) (by decide) rfl rfl zay hx ?_
 refine Olp (.i x) zah zar ?_
 refine Oa (.i x) ?_
 refine Ni ?_
 refine Ws ?_
 refine Sq ?_
 refine Sq ?_
 have hS0:=hS
 refine zck (n:=19) rfl (by kernel_rfl) ?_
 refine Om (.i x) ?_
 refine Om (pA Box_.cells a0) ?_
 refine zia (f:=Box_.cells) (p:=a0) (u:=b) (by decide) rfl hb0 ?_
 refine Of ((Box.cells b.Box)) zdv ?_
 refine Of ((Box.cells b.Box)) zhF ?_
 refine Olp (.i b.Box.Plays) zah zar ?_
 refine Om (pA Box_.cells a0) ?_
 refine zia (f:=Box_.cells) (p:=a0) (u:=b) (by decide) rfl hb0 ?_
 refine Of ((Box.cells b.Box)) zdv ?_
 refine Of ((Box.cells b.Box)) zhF ?_
 refine Olp (.i b.Box.Plays) zah zar ?_
 refine Om (pA Box_.cells a0) ?_
 refine zia (f:=Box_.cells) (p:=a0) (u:=b) (by decide) rfl hb0 ?_
 refine Of ((Box.cells b.Box)) zdv ?_
 refine Of ((Box.cells b.Box)) zkZ ?_
 refine Olp (.i b.Box.Skips) zah zar ?_
 refine Oi (.i (w64 (b.Box.Plays+b.Box.Skips))) ?_
 refine zaE (bs:=[.i x,.i b.Box.Plays,.i (w64 (b.Box.Plays+b.Box.Skips))]) (by decide) rfl rfl ((zek hwi).le (.k (.k (.k .nil)))) ?_
 refine zd4 (by decide) rfl ?_
 refine Ni ?_
 refine Ws ?_
 rcases bft (!wi) with hw | hw
 ·replace hM:=ifT hM hw
  refine Ct hw ?_
  refine zb1 ?_
  refine zaA ?_
  refine zaL ?_
  exact zal () (.k (.k (.k (.k (.k (.k .nil)))))) ⟨hS.up (by omega),hM⟩
 obtain ⟨p,s,acts,hp,hs,hacts,rfl⟩:=hXt hw
 clear hXt hM
 refine Cf hw ?_
 refine zaD ?_
 refine Ws ?_
 refine Sq ?_
 refine Rg 1 ?_
 refine Oa (.sl .nil 0 []) ?_
 refine Ni ?_
 refine Ws ?_
 refine Sq ?_
 refine Sq ?_
 refine Rg 7 ?_
 refine Om (.mp (g1+1+2)) ?_
 refine Om (.mp jn) ?_
 refine Om (.i x) ?_
 refine zkT (kv:=kvI) (ok:=okI) (cv:=zad) (z:=zaN) (M:=E) (k:=x) (u:=p) (v':=.agg (PointT_.cells p)) 0 zuQ hS (by decide) rfl rfl rfl ziY zoH (by rw [hlk];exact hp) (zoI p) ?_
 refine zkT (kv:=zad) (ok:=zbG) (cv:=zao) (z:=za7) (M:=M) (k:=p) (u:=s) (v':=.agg (Step_.cells s)) 1 zk6 hS (by decide) rfl rfl rfl zf9 zhG hs (zk8 s) ?_
 refine za3 hS (by decide) zgM (by omega) fun H hS=>?_
 refine zaJ (v:=.agg (Step_.cells s)) (ns:=(Step_.cells s)) (L':=[(g3+1+3+19+1+5,.cells (Step_.cells s)),(jn,.obj none (zaf (mpw kvI zad E))),((g1+1+2),.obj none (zaf (mpw zad zao M)))]) 0 hS rfl rfl .no rfl rfl zi1 nlb rfl fun H hS=>?_
 refine Ni ?_
 refine Ws ?_
 refine zaK ?_
 have hSb:=hS.keep (L':=zeQ 0 []++[((g3+1+3+19+1+5),.cells (Step_.cells s)),((g1+1+2),.obj none (zaf (mpw zad zao M)))]) [true,false,true] rfl
 refine zct (V:=Step_×List Int×Nat×Nat) (fun v=>[(9,.mp (g1+1+2)),(13,zeP v.2.2.1 v.2.1),(14,.ptr v.2.2.2 0)]) (fun v k H' g'=>St (·<g) H0 (zeQ v.2.2.1 v.2.1++[(v.2.2.2,.cells (Step_.cells v.1)),((g1+1+2),.obj none (zaf (mpw zad zao M)))]) H' g'/\v.2.1.length<=1048576/\zdO M k v.1 v.2.1=some acts) (n:=n) (s,[],0,(g3+1+3+19+1+5)) (.k (.k (.k .nil))) ⟨hSb.up (by omega),by simp,hacts⟩ ?_
 rintro ⟨s,ac,ja,si⟩ m H g5 ⟨hS,hal5,hacts⟩
 obtain _ | m:=m
 ·exact nomatch (show none=some _ from hacts)
 change wpA _ _ _ _ (Fr.of [(9,.mp (g1+1+2)),(13,zeP ja ac),(14,.ptr si 0)]) _ _
 replace hS:St (·<g) H0 (zeQ ja ac++[(si,.cells (Step_.cells s)),((g1+1+2),.obj none (zaf (mpw zad zao M)))]) H g5:=hS
 replace hal5:ac.length<=1048576:=hal5
 unfold zdO at hacts
 have hSr:St (·<g) H0 ([(si,.cells (Step_.cells s)),((g1+1+2),.obj none (zaf (mpw zad zao M)))]++zeQ ja ac) H g5:=hS.perm List.perm_append_comm
 refine Sq ?_
 refine Sq ?_
 refine Rg 3 ?_
 refine zaw (by decide) zl4 rfl ?_
 refine zaV (v:=.i s.act) 0 hSr (by decide) rfl rfl .no (po zah zar) ?_
 refine Oi (.b (s.act != -2)) ?_
 refine Ni ?_
 refine Ws ?_
 rcases bft (s.act != -2) with hb5 | hb5
 ·replace hacts:=ifT hacts hb5
  have hle:ac.length+1<=1048576:=by
   by_cases h:ac.length+1<=1048576
   ·exact h
   ·rw [if_neg h] at hacts;cases hacts
  rw [if_pos hle] at hacts
  obtain ⟨s2,hs2,hacts⟩:=zai hacts
  refine Ct hb5 ?_
  refine zaD ?_
  refine Ws ?_
  refine Sq ?_
  refine zaK ?_
  refine Rg 6 ?_
  refine Om (zeP ja ac) ?_
  refine zaw (by decide) zl4 rfl ?_
  refine zaV (v:=.i s.act) 0 hSr (by decide) rfl rfl .no (po zah zar) ?_
  refine znn (e:=3) (es:=[[.i s.act]]) (by decide) zay zbn rfl zbi rfl (by decide) ?_
  refine zoJ (ja:=ja) (acts:=ac) (a:=s.act) hS (by decide) rfl rfl zay zbi hle (by omega) fun H hS=>?_
  refine Oa (zeP (g5+3+4) (ac++[s.act])) ?_
  refine Ni ?_
  refine zat ?_
  refine Ws ?_
  replace hS:=hS.perm (L':=[(si,.cells (Step_.cells s)),((g1+1+2),.obj none (zaf (mpw zad zao M)))]++zeQ (g5+3+4) (ac++[s.act])) List.perm_append_comm
  refine Sq ?_
  refine Sq ?_
  refine Rg 1 ?_
  refine zaV (v:=.agg (Step_.cells s)) 0 hS (by decide) rfl rfl .no (pg zsg) ?_
  refine Ni ?_
  refine Ws ?_
  refine Rg 2 ?_
  refine za3 hS (by decide) zgM (by omega) fun H hS=>?_
  refine zaJ (v:=.agg (Step_.cells s)) (ns:=(Step_.cells s)) (L':=((g5+3+6+1+0),.cells (Step_.cells s))::([(si,.cells (Step_.cells s)),((g1+1+2),.obj none (zaf (mpw zad zao M)))]++zeQ (g5+3+4) (ac++[s.act]))) 0 hS rfl rfl .no rfl rfl zi1 nlb rfl fun H hS=>?_
  refine Ni ?_
  refine Ws ?_
  refine Rg 5 ?_
  refine Om (.mp (g1+1+2)) ?_
  refine zaw (by decide) zqK rfl ?_
  refine zaV (v:=.agg (PointT_.cells s.from_)) 0 hS (by decide) rfl rfl .no (pg zfu) ?_
  refine zkT (kv:=zad) (ok:=zbG) (cv:=zao) (z:=za7) (M:=M) (k:=s.from_) (u:=s2) (v':=.agg (Step_.cells s2)) 2 zk6 hS (by decide) rfl rfl rfl zf9 zhG hs2 (zk8 s2) ?_
  refine zaJ (v:=.agg (Step_.cells s2)) (ns:=(Step_.cells s2)) (L':=((g5+3+6+1+0),.cells (Step_.cells s2))::([(si,.cells (Step_.cells s)),((g1+1+2),.obj none (zaf (mpw zad zao M)))]++zeQ (g5+3+4) (ac++[s.act]))) 0 hS rfl rfl .no rfl rfl zi1 nlb rfl fun H hS=>?_
  refine Ni ?_
  have hS3:=(hS.keep (L':=[((g5+3+6+1+0),.cells (Step_.cells s2)),((g1+1+2),.obj none (zaf (mpw zad zao M)))]++zeQ (g5+3+4) (ac++[s.act])) [true,false,true] rfl).perm (L':=zeQ (g5+3+4) (ac++[s.act])++[((g5+3+6+1+0),.cells (Step_.cells s2)),((g1+1+2),.obj none (zaf (mpw zad zao M)))]) List.perm_append_comm
  exact zbq (s2,ac++[s.act],(g5+3+4),(g5+3+6+1+0)) (Nat.lt_succ_self _) (.k (.k (.k .nil))) ⟨hS3.up (by omega),by rw [List.length_append,List.length_singleton];exact hle,hacts⟩
 replace hacts:=ifF hacts hb5
 obtain rfl:=Option.some.inj hacts
 refine Cf hb5 ?_
 refine zb1 ?_
 refine zaA ?_
 refine zaz ?_
 refine zaL ?_
 refine Ws ?_
 refine Sq ?_
 refine Rg 2 ?_
 refine Om (zeP ja ac) ?_
 refine ztK (ja:=ja) (acts:=ac) hS (by decide) rfl rfl hal5 fun H hS=>?_
 refine Ni ?_
 refine zeF [(13,zeP ja ac)] (.k .nil) ?_
 by_cases hn:ac=[]
 ·subst hn
  change wpA _ _ _ _ (Fr.of [(13,.sl .nil 0 [])]) _ _
  refine Sq ?_
  refine Rg 3 ?_
  refine Om (.sl .nil 0 []) ?_
  refine Oa (.sl .nil 0 []) ?_
  refine Oa (.b true) ?_
  refine Ni ?_
  refine Ws ?_
  refine zaR ?_
  refine zaZ (x:=.tup [.sl .nil 0 [],.b true]) (f:=fun (r:List Int×Bool)=>.tup [.sl .no 1 (r.1.map cI),.b r.2]) (u:=([],true)) (.inr rfl) ?_ (.tupL (.cons (.sl0 _ _ _) (.k .nil))) rfl hS
  exact zcl (zae (x:=.sl .nil 0 []) rfl) (zae (x:=.b true) rfl)
 have e1:zeP ja ac=.ms ja 0 1 ac.length ac.length:=if_neg hn
 have e2:zeQ ja ac.reverse=[(ja,.cells (ac.reverse.map cI).flatten)]:=if_neg (by simpa using hn)
 rw [e1]
 rw [e2] at hS
 refine Sq ?_
 refine Rg 3 ?_
 refine Om (.ms ja 0 1 ac.length ac.length) ?_
 refine Oa (.ms ja 0 1 ac.length ac.length) ?_
 refine Oa (.b true) ?_
 refine Ni ?_
 replace hS:=hS.perm (L':=[(si,.cells (Step_.cells s)),((g1+1+2),.obj none (zaf (mpw zad zao M)))]++[(ja,.cells (ac.reverse.map cI).flatten)]) List.perm_append_comm
 refine zwe (t:=4) (es:=ac.reverse.map cI) hS rfl (by decide) (fun e he=>by obtain ⟨z,_,rfl⟩:=List.mem_map.1 he;rfl) (zwf (fun x c hc=>by simp at hc;subst hc;exact ⟨_,rfl⟩)) (by simp) (by rw [List.take_of_length_le (by rw [zpF];simp)]) fun H hS=>?_
 refine Ws ?_
 refine zaR ?_
 refine zaZ (x:=.tup [.sl .no 1 (ac.reverse.map cI),.b true]) (f:=fun (r:List Int×Bool)=>.tup [.sl .no 1 (r.1.map cI),.b r.2]) (u:=(ac.reverse,true)) (.inr rfl) ?_ (.refl _) rfl hS
 exact zcl (zae (x:=.sl .no 1 (ac.reverse.map cI)) rfl) (zae (x:=.b true) rfl)
def zjz (t:Nat):List Gap_->AV
 | []=>.sl .nil 0 []
 | x::gs=>.sl (.id t) 2 ((x::gs).map Gap_.cells)
def zlb (t:Nat):List Gap_->BL
 | []=>[]
 | x::gs=>[(t,.row 94 (x::gs).length)]
def gM (oc t:Nat) (gs:List Gap_):BL:=(oc,.cells [zjz t gs])::zlb t gs
def gT (oc:Nat) (gs:List Gap_) (_:Nat) (v:AV) (M:BL):Prop:=∃t,v=.tup []/\M=gM oc t gs
theorem zpG (gs:List Gap_):∀e,e∈gs.map Gap_.cells->∀c,c∈e->Go.AM.Pure c:=zav (fun x=>zab (.sl _ _ (zav (fun x=>(zab (.v _) zaF)))) (zab (.sl _ _ (zav (fun x=>(zab (.v _) zaF)))) zaF))
theorem zys {oc t:Nat} {gs:List Gap_}:InB In (gM oc t gs):=fun p cs hp e c hc H hH=>by
 cases gs with
 | nil =>
  obtain rfl:=List.mem_singleton.1 hp
  obtain rfl:[AV.sl .nil 0 []]=cs:=by injection e
  obtain rfl:c=.sl .nil 0 []:=by simpa using hc
  exact .sl _ _ _ (fun t h=>by cases h) (fun e h=>by simp at h)
 | cons x gs =>
  have hr:=hH (t,.row 94 (x::gs).length) (by simp [gM,zlb])
  simp only [gM,zlb,List.mem_cons,List.not_mem_nil,or_false] at hp
  rcases hp with rfl | rfl
  ·obtain rfl:[zjz t (x::gs)]=cs:=by injection e
   obtain rfl:c=zjz t (x::gs):=by simpa using hc
   exact .sl _ _ _ (fun t2 h=>by injection h with h;subst h;exact ⟨_,_,hr⟩) (fun e he c hc=>(zpG _ e he c hc).inH)
  ·cases e
theorem zlc {oc t i:Nat} {gs:List Gap_}:i∈ids (gM oc t gs)↔i=oc\/gs≠[]/\i=t:=by
 cases gs<;>simp [gM,zlb,ids]
theorem zuf (oc t:Nat) (gs gs2:List Gap_) (g:Nat):∃v M',gT oc gs2 g v M'/\(ids M').Nodup/\∀i,i∈ids M'->i∈ids (gM oc t gs)\/g<=i:=by
 refine ⟨.tup [],_,⟨max g (oc+1),rfl,rfl⟩,?_,fun i hi=>?_⟩
 ·cases gs2<;>simp [gM,zlb,ids]<;>omega
 ·rcases zlc.1 hi with rfl | ⟨_,rfl⟩
  ·exact .inl (zlc.2 (.inl rfl))
  ·exact .inr (Nat.le_max_left _ _)
theorem zoK {P:Program} {N:Nat} {fr:Fr} {H H0:zac} {g b oc t t2:Nat} {gs gs2:List Gap_} {ex:Exit} {rs:List ResultVar} (he:ex=.normal\/ex=.ret) (hx:zhi P N fr H rs=some (.tup [])) (hS:St (fun i=>i<g/\i∉ids (gM oc t gs)) H0 (gM oc t2 gs2) H b) (hb:g<=b) (hi:∀i,i∈ids (gM oc t2 gs2)->i∈ids (gM oc t gs)\/g<=i) :
  (ex=.normal\/ex=.ret)/\∃v M' b1,gT oc gs2 g v M'/\(∃x,zhi P N fr H rs=some x/\Le v x)/\(∀H,Has H M'->In H v)/\InB In M'/\(∀i,i<g/\i∉ids (gM oc t gs)->H i=H0 i)/\Has H M'/\zba H b1/\g<=b1/\(ids M').Nodup/\(∀i,i∈ids M'->i∈ids (gM oc t gs)\/g<=i)/\(∀p,p∈gM oc t gs->p.1∉ids M'->p.2≠.ice/\∀cs,p.2≠.cells cs):=by
 refine ⟨he,.tup [],gM oc t2 gs2,b,⟨t2,rfl,rfl⟩,⟨_,hx,.refl _⟩,fun H _=>(show Go.AM.Pure _ from .tup _ zaF).inH,zys,fun i hi=>(hS.old i hi).2,fun p hp=>(hS.has p hp).2.2,hS.fr,hb,hS.nd,hi,fun p hp hn=>?_⟩
 cases gs with
 | nil =>
  obtain rfl:=List.mem_singleton.1 hp
  exact absurd (zlc.2 (.inl rfl)) hn
 | cons x gs =>
  simp only [gM,zlb,List.mem_cons,List.not_mem_nil,or_false] at hp
  rcases hp with rfl | rfl
  ·exact absurd (zlc.2 (.inl rfl)) hn
  ·exact ⟨fun h=>(by cases h),fun cs h=>(by cases h)⟩
theorem zl6 {P:Program} {N:Nat} {fr:Fr} {H H0:zac} {g b oc t t2:Nat} {gs gs2:List Gap_} {ex:Exit} {rs:List ResultVar} (he:ex=.normal\/ex=.ret) (hx:zhi P N fr H rs=some (.tup [])) (hS:St (fun i=>i<g/\i∉ids (gM oc t gs)) H0 (gM oc t2 gs2) H b) (hb:g<=b) (hi:gs2=[]\/gs≠[]/\t2=t\/g<=t2) :
  (ex=.normal\/ex=.ret)/\∃v M' b1,gT oc gs2 g v M'/\(∃x,zhi P N fr H rs=some x/\Le v x)/\(∀H,Has H M'->In H v)/\InB In M'/\(∀i,i<g/\i∉ids (gM oc t gs)->H i=H0 i)/\Has H M'/\zba H b1/\g<=b1/\(ids M').Nodup/\(∀i,i∈ids M'->i∈ids (gM oc t gs)\/g<=i)/\(∀p,p∈gM oc t gs->p.1∉ids M'->p.2≠.ice/\∀cs,p.2≠.cells cs) :=
 zoK he hx hS hb fun i hi2=>by
  rcases zlc.1 hi2 with rfl | ⟨h1,rfl⟩
  ·exact .inl (zlc.2 (.inl rfl))
  ·rcases hi with h | ⟨h2,rfl⟩ | h
   ·exact absurd h h1
   ·exact .inl (zlc.2 (.inr ⟨h2,rfl⟩))
   ·exact .inr h
theorem zgR {n:Nat} {a:Option Box_} {purse:List Int} {gs:List Gap_} {r:Unit×List Gap_} (hM:zaM n a purse gs=some r) {oc t:Nat} (hnd:(ids (gM oc t gs)).Nodup):zqB Try.prog 133 [.sl .no 1 (purse.map cI),.ptr oc 0,.ep [pA Box_.cells a]] (gM oc t gs) (gT oc r.2):=by
 refine zk2 mixed Try.func133 rfl (by decide) Try.ntmps133 (by simp) (zuf oc t gs r.2) fun H0 g hf hp=>?_
 rw [zag]
 change wpA _ _ _ _ (Fr.of [(0,.sl .no 1 (purse.map cI)),(1,.ptr oc 0),(2,.ep [pA Box_.cells a])]) H0 g
 have hS:=St.startH hf hnd hp
 have hog:oc<g:=(hS.has (oc,_) (List.mem_cons_self ..)).2.1
 cases gs with
 | nil =>
  unfold zaM at hM
  replace hS:St (fun i=>i<g/\i∉ids (gM oc t [])) H0 [(oc,.cells [.sl .nil 0 []])] H0 g:=hS
  refine Sq ?_
  refine Sq ?_
  have hS0:=hS
  refine zck (n:=15) rfl (by kernel_rfl) ?_
  refine zaV (v:=.sl .nil 0 []) 0 hS (by decide) rfl rfl (.st hS0 0 rfl (by omega)) (po zfh zgD) ?_
  refine zbA (n:=0) (by decide) rfl rfl ziV ?_
  refine Oi (.b (decide (((0:Nat):Int)>0))) ?_
  refine Om (.b (decide (((0:Nat):Int)>0))) ?_
  refine zb7 (j:=3) (e:=(decide (((0:Nat):Int)>0))) (want:=true) (by decide) rfl (by decide) ?_
  refine zb7 (j:=3) (e:=(decide (((0:Nat):Int)>0))) (want:=true) (by decide) rfl (by decide) ?_
  refine zb7 (j:=3) (e:=(decide (((0:Nat):Int)>0))) (want:=true) (by decide) rfl (by decide) ?_
  refine zb7 (j:=3) (e:=(decide (((0:Nat):Int)>0))) (want:=true) (by decide) rfl (by decide) ?_
  refine zb7 (j:=3) (e:=(decide (((0:Nat):Int)>0))) (want:=true) (by decide) rfl (by decide) ?_
  refine zb7 (j:=3) (e:=(decide (((0:Nat):Int)>0))) (want:=true) (by decide) rfl (by decide) ?_
  refine zb7 (j:=3) (e:=(decide (((0:Nat):Int)>0))) (want:=true) (by decide) rfl (by decide) ?_
  refine zb7 (j:=3) (e:=(decide (((0:Nat):Int)>0))) (want:=true) (by decide) rfl (by decide) ?_
  refine zb7 (j:=3) (e:=(decide (((0:Nat):Int)>0))) (want:=true) (by decide) rfl (by decide) ?_
  refine zb7 (j:=3) (e:=(decide (((0:Nat):Int)>0))) (want:=true) (by decide) rfl (by decide) ?_
  refine zaS (v:=.b false) (e:=(decide (((0:Nat):Int)>0))) (by decide) rfl (by decide) rfl ?_
  refine Ni ?_
  refine Ws ?_
  refine zg6 (e:=false) rfl rfl ?_
  refine zaD ?_
  refine Ws ?_
  refine Sq ?_
  refine Rg 8 ?_
  refine Olp (pA Box_.cells a) zhc zio ?_
  refine Om (.sl .no 1 (purse.map cI)) ?_
  obtain ⟨e,he,hM⟩:=zai hM
  refine zaE (bs:=[pA Box_.cells a,.sl .no 1 (purse.map cI)]) (by decide) rfl rfl ((zfy he).le (.k (.k .nil))) ?_
  refine Om (.tup [.sl .no 1 (e.1.map cI),.b e.2]) ?_
  refine Ox (.sl .no 1 (e.1.map cI)) ?_
  refine Ox (.b e.2) ?_
  refine Oa (.sl .no 1 (e.1.map cI)) ?_
  refine Oa (.b e.2) ?_
  refine Ni ?_
  refine Ws ?_
  refine Sq ?_
  refine Sq ?_
  refine Rg 2 ?_
  refine Om (.b e.2) ?_
  refine zd4 (by decide) rfl ?_
  refine Ni ?_
  refine Ws ?_
  rcases bft (!e.2) with he2 | he2
  ·replace hM:=ifT hM he2
   obtain rfl:=Option.some.inj hM
   refine Ct he2 ?_
   refine zaR ?_
   refine zam ?_
   exact zl6 (t:=t) (gs:=[]) (gs2:=[]) (t2:=t) (.inr rfl) rfl hS (by omega) (.inl rfl)
  ·replace hM:=ifF hM he2
   obtain rfl:=Option.some.inj hM
   refine Cf he2 ?_
   refine zaD ?_
   refine Ws ?_
   refine Sq ?_
   refine Sq ?_
   have hS0:=hS
   refine zck (n:=15) rfl (by kernel_rfl) ?_
   refine zaV (v:=.sl .nil 0 []) 0 hS (by decide) rfl rfl (.st hS0 0 rfl (by omega)) (po zfh zgD) ?_
   refine zbA (n:=0) (by decide) rfl rfl ziV ?_
   refine Oi (.b (decide (((0:Nat):Int)>0))) ?_
   refine Om (.b (decide (((0:Nat):Int)>0))) ?_
   refine zb7 (j:=3) (e:=(decide (((0:Nat):Int)>0))) (want:=true) (by decide) rfl (by decide) ?_
   refine zb7 (j:=3) (e:=(decide (((0:Nat):Int)>0))) (want:=true) (by decide) rfl (by decide) ?_
   refine zb7 (j:=3) (e:=(decide (((0:Nat):Int)>0))) (want:=true) (by decide) rfl (by decide) ?_
   refine zb7 (j:=3) (e:=(decide (((0:Nat):Int)>0))) (want:=true) (by decide) rfl (by decide) ?_
   refine zb7 (j:=3) (e:=(decide (((0:Nat):Int)>0))) (want:=true) (by decide) rfl (by decide) ?_
   refine zb7 (j:=3) (e:=(decide (((0:Nat):Int)>0))) (want:=true) (by decide) rfl (by decide) ?_
   refine zb7 (j:=3) (e:=(decide (((0:Nat):Int)>0))) (want:=true) (by decide) rfl (by decide) ?_
   refine zb7 (j:=3) (e:=(decide (((0:Nat):Int)>0))) (want:=true) (by decide) rfl (by decide) ?_
   refine zb7 (j:=3) (e:=(decide (((0:Nat):Int)>0))) (want:=true) (by decide) rfl (by decide) ?_
   refine zb7 (j:=3) (e:=(decide (((0:Nat):Int)>0))) (want:=true) (by decide) rfl (by decide) ?_
   refine zaS (v:=.b false) (e:=(decide (((0:Nat):Int)>0))) (by decide) rfl (by decide) rfl ?_
   refine Ni ?_
   refine Ws ?_
   refine zg6 (e:=false) rfl rfl ?_
   refine zaD ?_
   refine Ws ?_
   refine Rg 7 ?_
   refine zaV (v:=.sl .nil 0 []) 0 hS (by decide) rfl rfl .no (po zfh zgD) ?_
   refine Om (.sl .no 1 (purse.map cI)) ?_
   refine Om (.sl .no 1 (e.1.map cI)) ?_
   refine zbx (cs:=[.sl .no 1 (purse.map cI),.sl .no 1 (e.1.map cI)]) (by decide) zkW zoC rfl ?_
   refine znn (e:=94) (es:=[[.sl .no 1 (purse.map cI),.sl .no 1 (e.1.map cI)]]) (by decide) zhd zju rfl zjv rfl (by decide) ?_
   refine zk3 (k:=2) (k':=0) (e:=94) (es:=[[.sl .no 1 (purse.map cI),.sl .no 1 (e.1.map cI)]]) hS (by decide) rfl rfl zhd zju zjv nlb (by omega) fun H hS=>?_
   refine zaJ (v:=.sl (.id (g+15+8+2+15+5)) 2 ([(⟨purse,e.1⟩:Gap_)].map Gap_.cells)) (ns:=[.sl (.id (g+15+8+2+15+5)) 2 ([(⟨purse,e.1⟩:Gap_)].map Gap_.cells)]) (L':=[((g+15+8+2+15+5),.row 94 1),(oc,.cells [.sl (.id (g+15+8+2+15+5)) 2 ([(⟨purse,e.1⟩:Gap_)].map Gap_.cells)])]) 1 hS rfl rfl .no rfl rfl zke nlb rfl fun H hS=>?_
   refine Ni ?_
   replace hS:=hS.toHead (L':=gM oc (g+15+8+2+15+5) [(⟨purse,e.1⟩:Gap_)]) 1 nlb rfl
   exact zl6 (t:=t) (gs:=[]) (gs2:=[(⟨purse,e.1⟩:Gap_)]) (t2:=(g+15+8+2+15+5)) (.inl rfl) rfl hS (by omega) (.inr (.inr (by omega)))
 | cons x gs =>
  unfold zaM at hM
  replace hS:St (fun i=>i<g/\i∉ids (gM oc t (x::gs))) H0 [(oc,.cells [.sl (.id t) 2 ((x::gs).map Gap_.cells)]),(t,.row 94 (x::gs).length)] H0 g:=hS
  have hpos:decide ((((x::gs).length:Nat):Int)>0)=true:=decide_eq_true (by rw [List.length_cons];omega)
  refine Sq ?_
  refine Sq ?_
  have hS0:=hS
  refine zck (n:=15) rfl (by kernel_rfl) ?_
  refine zaV (v:=.sl (.id t) 2 ((x::gs).map Gap_.cells)) 0 hS (by decide) rfl rfl (.st hS0 0 rfl (by omega)) (po zfh zgD) ?_
  refine zbA (n:=(x::gs).length) (by decide) rfl (List.length_map _) ziV ?_
  refine Oi (.b (decide ((((x::gs).length:Nat):Int)>0))) ?_
  refine Om (.b (decide ((((x::gs).length:Nat):Int)>0))) ?_
  refine Oy (want:=true) hpos ?_
  refine Olp (pA Box_.cells a) zhc zio ?_
  refine Oy (want:=true) hpos ?_
  refine Om (.sl .no 1 (purse.map cI)) ?_
  obtain ⟨w1,hw1,hM⟩:=zai hM
  refine Oy (want:=true) hpos ?_
  refine zaE (bs:=[pA Box_.cells a,.sl .no 1 (purse.map cI)]) (by decide) rfl rfl ((zbo hw1).le (.k (.k .nil))) ?_
  refine Oy (want:=true) hpos ?_
  refine Olp (pA Box_.cells a) zhc zio ?_
  refine Oy (want:=true) hpos ?_
  refine zaV (v:=.sl (.id t) 2 ((x::gs).map Gap_.cells)) 0 hS (by decide) rfl rfl (.st hS0 0 rfl (by omega)) (po zfh zgD) ?_
  refine Oy (want:=true) hpos ?_
  refine za5 (xs:=x::gs) (f:=Gap_.cells) (z:=0) (u:=x) (by decide) rfl rfl zhd rfl ?_
  refine Oy (want:=true) hpos ?_
  refine Of ((Gap_.cells x)) zk0 ?_
  refine Oy (want:=true) hpos ?_
  refine Olp (.sl .no 1 (x.purse.map cI)) zau zaO ?_
  obtain ⟨w2,hw2,hM⟩:=zai hM
  refine Oy (want:=true) hpos ?_
  refine zaE (bs:=[pA Box_.cells a,.sl .no 1 (x.purse.map cI)]) (by decide) rfl rfl ((zbo hw2).le (.k (.k .nil))) ?_
  refine Oy (want:=true) hpos ?_
  refine Oi (.b (decide (w1>w2))) ?_
  refine Pt (.b (decide (w1>w2))) hpos ?_
  refine Ni ?_
  refine Ws ?_
  rcases bft (decide (w1>w2)) with hw | hw
  ·replace hM:=ifT hM hw
   obtain rfl:=Option.some.inj hM
   refine Ct hw ?_
   refine zaR ?_
   refine zam ?_
   exact zl6 (t:=t) (gs:=x::gs) (gs2:=x::gs) (t2:=t) (.inr rfl) rfl hS (by omega) (.inr (.inl ⟨by simp,rfl⟩))
  replace hM:=ifF hM hw
  refine Cf hw ?_
  refine zaD ?_
  refine Ws ?_
  refine Sq ?_
  refine Rg 8 ?_
  refine Olp (pA Box_.cells a) zhc zio ?_
  refine Om (.sl .no 1 (purse.map cI)) ?_
  obtain ⟨e,he,hM⟩:=zai hM
  refine zaE (bs:=[pA Box_.cells a,.sl .no 1 (purse.map cI)]) (by decide) rfl rfl ((zfy he).le (.k (.k .nil))) ?_
  refine Om (.tup [.sl .no 1 (e.1.map cI),.b e.2]) ?_
  refine Ox (.sl .no 1 (e.1.map cI)) ?_
  refine Ox (.b e.2) ?_
  refine Oa (.sl .no 1 (e.1.map cI)) ?_
  refine Oa (.b e.2) ?_
  refine Ni ?_
  refine Ws ?_
  refine Sq ?_
  refine Sq ?_
  refine Rg 2 ?_
  refine Om (.b e.2) ?_
  refine zd4 (by decide) rfl ?_
  refine Ni ?_
  refine Ws ?_
  rcases bft (!e.2) with he2 | he2
  ·replace hM:=ifT hM he2
   obtain rfl:=Option.some.inj hM
   refine Ct he2 ?_
   refine zaR ?_
   refine zam ?_
   exact zl6 (t:=t) (gs:=x::gs) (gs2:=x::gs) (t2:=t) (.inr rfl) rfl hS (by omega) (.inr (.inl ⟨by simp,rfl⟩))
  replace hM:=ifF hM he2
  refine Cf he2 ?_
  refine zaD ?_
  refine Ws ?_
  refine Sq ?_
  refine Sq ?_
  have hS0:=hS
  refine zck (n:=15) rfl (by kernel_rfl) ?_
  refine zaV (v:=.sl (.id t) 2 ((x::gs).map Gap_.cells)) 0 hS (by decide) rfl rfl (.st hS0 0 rfl (by omega)) (po zfh zgD) ?_
  refine zbA (n:=(x::gs).length) (by decide) rfl (List.length_map _) ziV ?_
  refine Oi (.b (decide ((((x::gs).length:Nat):Int)>0))) ?_
  refine Om (.b (decide ((((x::gs).length:Nat):Int)>0))) ?_
  refine Oy (want:=true) hpos ?_
  refine Olp (pA Box_.cells a) zhc zio ?_
  refine Oy (want:=true) hpos ?_
  refine Om (.sl .no 1 (purse.map cI)) ?_
  obtain ⟨w3,hw3,hM⟩:=zai hM
  refine Oy (want:=true) hpos ?_
  refine zaE (bs:=[pA Box_.cells a,.sl .no 1 (purse.map cI)]) (by decide) rfl rfl ((zbo hw3).le (.k (.k .nil))) ?_
  refine Oy (want:=true) hpos ?_
  refine Olp (pA Box_.cells a) zhc zio ?_
  refine Oy (want:=true) hpos ?_
  refine zaV (v:=.sl (.id t) 2 ((x::gs).map Gap_.cells)) 0 hS (by decide) rfl rfl (.st hS0 0 rfl (by omega)) (po zfh zgD) ?_
  refine Oy (want:=true) hpos ?_
  refine za5 (xs:=x::gs) (f:=Gap_.cells) (z:=0) (u:=x) (by decide) rfl rfl zhd rfl ?_
  refine Oy (want:=true) hpos ?_
  refine Of ((Gap_.cells x)) zk0 ?_
  refine Oy (want:=true) hpos ?_
  refine Olp (.sl .no 1 (x.purse.map cI)) zau zaO ?_
  obtain ⟨w4,hw4,hM⟩:=zai hM
  refine Oy (want:=true) hpos ?_
  refine zaE (bs:=[pA Box_.cells a,.sl .no 1 (x.purse.map cI)]) (by decide) rfl rfl ((zbo hw4).le (.k (.k .nil))) ?_
  refine Oy (want:=true) hpos ?_
  refine Oi (.b (decide (w3<w4))) ?_
  refine Pt (.b (decide (w3<w4))) hpos ?_
  refine Ni ?_
  refine Ws ?_
  rcases bft (decide (w3<w4)) with hw2 | hw2
  ·replace hM:=ifT hM hw2
   obtain rfl:=Option.some.inj hM
   refine Ct hw2 ?_
   refine Rg 1 ?_
   refine zaJ (v:=.sl .nil 0 []) (ns:=[.sl .nil 0 []]) (L':=[(oc,.cells [.sl .nil 0 []]),(t,.row 94 (x::gs).length)]) 0 hS rfl rfl .no rfl rfl zke nlb rfl fun H hS=>?_
   refine Ni ?_
   replace hS:=hS.keep (L':=[(oc,.cells [.sl .nil 0 []])]) [true,false] rfl
   refine Ws ?_
   refine Rg 7 ?_
   refine zaV (v:=.sl .nil 0 []) 0 hS (by decide) rfl rfl .no (po zfh zgD) ?_
   refine Om (.sl .no 1 (purse.map cI)) ?_
   refine Om (.sl .no 1 (e.1.map cI)) ?_
   refine zbx (cs:=[.sl .no 1 (purse.map cI),.sl .no 1 (e.1.map cI)]) (by decide) zkW zoC rfl ?_
   refine znn (e:=94) (es:=[[.sl .no 1 (purse.map cI),.sl .no 1 (e.1.map cI)]]) (by decide) zhd zju rfl zjv rfl (by decide) ?_
   refine zk3 (k:=2) (k':=0) (e:=94) (es:=[[.sl .no 1 (purse.map cI),.sl .no 1 (e.1.map cI)]]) hS (by decide) rfl rfl zhd zju zjv nlb (by omega) fun H hS=>?_
   refine zaJ (v:=.sl (.id (g+15+8+2+15+1+5)) 2 ([(⟨purse,e.1⟩:Gap_)].map Gap_.cells)) (ns:=[.sl (.id (g+15+8+2+15+1+5)) 2 ([(⟨purse,e.1⟩:Gap_)].map Gap_.cells)]) (L':=[((g+15+8+2+15+1+5),.row 94 1),(oc,.cells [.sl (.id (g+15+8+2+15+1+5)) 2 ([(⟨purse,e.1⟩:Gap_)].map Gap_.cells)])]) 1 hS rfl rfl .no rfl rfl zke nlb rfl fun H hS=>?_
   refine Ni ?_
   replace hS:=hS.toHead (L':=gM oc (g+15+8+2+15+1+5) [(⟨purse,e.1⟩:Gap_)]) 1 nlb rfl
   exact zl6 (t:=t) (gs:=x::gs) (gs2:=[(⟨purse,e.1⟩:Gap_)]) (t2:=(g+15+8+2+15+1+5)) (.inl rfl) rfl hS (by omega) (.inr (.inr (by omega)))
  replace hM:=ifF hM hw2
  obtain ⟨l,hl,hM⟩:=zai hM
  obtain rfl:=Option.some.inj hM
  have hl2:l=x::(gs++[(⟨purse,e.1⟩:Gap_)]):=by
   unfold app at hl
   split at hl
   ·exact (Option.some.inj hl).symm
   ·cases hl
  refine Cf hw2 ?_
  refine zaD ?_
  refine Ws ?_
  refine Rg 7 ?_
  refine zaV (v:=.sl (.id t) 2 ((x::gs).map Gap_.cells)) 0 hS (by decide) rfl rfl .no (po zfh zgD) ?_
  refine Om (.sl .no 1 (purse.map cI)) ?_
  refine Om (.sl .no 1 (e.1.map cI)) ?_
  refine zbx (cs:=[.sl .no 1 (purse.map cI),.sl .no 1 (e.1.map cI)]) (by decide) zkW zoC rfl ?_
  refine znn (e:=94) (es:=[[.sl .no 1 (purse.map cI),.sl .no 1 (e.1.map cI)]]) (by decide) zhd zju rfl zjv rfl (by decide) ?_
  refine zed (xs:=x::gs) (ys:=[(⟨purse,e.1⟩:Gap_)]) (zs:=l) (f:=Gap_.cells) (L':=[(oc,.cells [.sl (.id t) 2 ((x::gs).map Gap_.cells)]),(t,.row 94 l.length)]) 1 hS (by decide) rfl rfl rfl rfl .no zhd zju zjv hl rfl fun H hS=>?_
  refine zaJ (v:=.sl (.id t) 2 (l.map Gap_.cells)) (ns:=[.sl (.id t) 2 (l.map Gap_.cells)]) (L':=[(oc,.cells [.sl (.id t) 2 (l.map Gap_.cells)]),(t,.row 94 l.length)]) 0 hS rfl rfl .no rfl rfl zke nlb rfl fun H hS=>?_
  refine Ni ?_
  subst hl2
  exact zl6 (t:=t) (gs:=x::gs) (gs2:=x::(gs++[(⟨purse,e.1⟩:Gap_)])) (t2:=t) (.inl rfl) rfl hS (by omega) (.inr (.inl ⟨by simp,rfl⟩))
theorem zsu {n nn:Nat} {a:Option Box_} {rec:(Option Box_)->(List Int)->Int->List Gap_->Option (Unit×List Gap_)} (hrec:∀{a1:List Int} {a2:Int} {gs:List Gap_} {r:Unit×List Gap_},rec a a1 a2 gs=some r->∀{oc t:Nat},(ids (gM oc t gs)).Nodup->zqB Try.prog 132 [pA Box_.cells a,.sl .no 1 (a1.map cI),.i a2,.fn (.func 133) [] [.ptr oc 0,.ep [pA Box_.cells a]]] (gM oc t gs) (gT oc r.2)) {a1:List Int} {a2:Int} {gs:List Gap_} {r:Unit×List Gap_} (hM:zcT n rec (fun x0 s=>zaM nn a x0 s) a a1 a2 gs=some r) {oc t:Nat} (hnd:(ids (gM oc t gs)).Nodup):zqB Try.prog 132 [pA Box_.cells a,.sl .no 1 (a1.map cI),.i a2,.fn (.func 133) [] [.ptr oc 0,.ep [pA Box_.cells a]]] (gM oc t gs) (gT oc r.2):=by
 refine zk2 mixed Try.func132 rfl (by decide) Try.ntmps132 (by simp) (zuf oc t gs r.2) fun H0 g hf hp=>?_
 rw [zag]
 change wpA _ _ _ _ (Fr.of [(0,pA Box_.cells a),(1,.sl .no 1 (a1.map cI)),(2,.i a2),(3,.fn (.func 133) [] [.ptr oc 0,.ep [pA Box_.cells a]])]) H0 g
 have hS:=St.startH hf hnd hp
 have hog:oc<g:=(hS.has (oc,_) (List.mem_cons_self ..)).2.1
 unfold zcT at hM
 refine Sq ?_
 refine Sq ?_
 refine Rg 10 ?_
 refine Om (.sl .no 1 (a1.map cI)) ?_
 refine zbA (n:=a1.length) (by decide) rfl (List.length_map _) zaB ?_
 refine Om (pA Box_.cells a) ?_
 obtain ⟨b,hb0,hM⟩:=zai hM
 refine zia (f:=Box_.cells) (p:=a) (u:=b) (by decide) rfl hb0 ?_
 refine Of ((Box.cells b.Box)) zdv ?_
 refine Of ((Box.cells b.Box)) zcH ?_
 refine Of ((Box.cells b.Box)) zbL ?_
 refine Olp (.sl .no 1 (b.Box.Wheel.Coins.map cI)) zau zaO ?_
 refine zbA (n:=b.Box.Wheel.Coins.length) (by decide) rfl (List.length_map _) zaB ?_
 refine Oi (.b ((a1.length:Int)==(b.Box.Wheel.Coins.length:Int))) ?_
 refine Ni ?_
 refine Ws ?_
 rcases bft ((a1.length:Int)==(b.Box.Wheel.Coins.length:Int)) with hb2 | hb2
 ·replace hM:=ifT hM hb2
  refine Ct hb2 ?_
  refine Sq ?_
  refine Rg 3 ?_
  refine Om (.fn (.func 133) [] [.ptr oc 0,.ep [pA Box_.cells a]]) ?_
  refine Om (.sl .no 1 (a1.map cI)) ?_
  obtain ⟨r3,hr3,hM⟩:=zai hM
  obtain rfl:=Option.some.inj hM
  refine zsm (M:=gM oc t gs) (L:=[]) (.inl rfl) (by rw [List.append_nil];exact hS) (by decide) rfl rfl (zgR hr3 hnd) (by omega) ?_
  rintro v M' H g2 ⟨t2,rfl,rfl⟩ hg2 hi hS
  rw [List.append_nil] at hS
  refine Ni ?_
  refine Ws ?_
  refine zaR ?_
  refine zam ?_
  exact zoK (.inr rfl) rfl hS (by omega) fun i h=>(hi i h).imp id fun h=>by omega
 replace hM:=ifF hM hb2
 refine Cf hb2 ?_
 refine zaD ?_
 refine Ws ?_
 refine Sq ?_
 refine Rg 3 ?_
 refine Om (.i a2) ?_
 refine Oi (.i (w64 (a2+1))) ?_
 refine Om (.i 0) ?_
 refine Ni ?_
 refine Ws ?_
 refine zaK ?_
 refine zct (V:=Int×List Gap_×Nat) (fun v=>[(0,pA Box_.cells a),(1,.sl .no 1 (a1.map cI)),(2,.i a2),(3,.fn (.func 133) [] [.ptr oc 0,.ep [pA Box_.cells a]]),(23,.i (w64 (a2+1))),(24,.i v.1)]) (fun v m2 H' g'=>St (fun i=>i<g/\i∉ids (gM oc t gs)) H0 (gM oc v.2.2 v.2.1) H' g'/\g<=g'/\(∀i,i∈ids (gM oc v.2.2 v.2.1)->i∈ids (gM oc t gs)\/g<=i)/\zbE rec a a1 a2 m2 v.1 v.2.1=some r) (n:=n) (0,gs,t) (.k (.k (.k (.k (.k (.k .nil)))))) ⟨hS.up (by omega),by omega,fun i h=>.inl h,hM⟩ ?_
 rintro ⟨k,gs2,t2⟩ m2 H g2 ⟨hS,hg2,hi,hM⟩
 obtain _ | m2:=m2
 ·exact nomatch (show none=some _ from hM)
 change wpA _ _ _ _ (Fr.of [(0,pA Box_.cells a),(1,.sl .no 1 (a1.map cI)),(2,.i a2),(3,.fn (.func 133) [] [.ptr oc 0,.ep [pA Box_.cells a]]),(23,.i (w64 (a2+1))),(24,.i k)]) _ _
 replace hS:St (fun i=>i<g/\i∉ids (gM oc t gs)) H0 (gM oc t2 gs2) H g2:=hS
 replace hM:zcp rec a a1 a2 (zbE rec a a1 a2 m2) k gs2=some r:=hM
 unfold zcp at hM
 replace hi:∀i,i∈ids (gM oc t2 gs2)->i∈ids (gM oc t gs)\/g<=i:=hi
 refine Sq ?_
 refine Rg 1 ?_
 refine Oi (.b (decide (k<(w64 (a2+1))))) ?_
 refine Ni ?_
 refine Ws ?_
 refine Sq ?_
 rcases bft (decide (k<(w64 (a2+1)))) with hk | hk
 rotate_left
 ·replace hM:=ifF hM hk
  obtain rfl:=Option.some.inj hM
  refine Cf hk ?_
  refine zb1 ?_
  refine zaA ?_
  refine zaz ?_
  refine zaL ?_
  exact zoK (.inl rfl) rfl hS (by omega) hi
 replace hM:=ifT hM hk
 refine Ct hk ?_
 refine zaD ?_
 refine Ws ?_
 refine Sq ?_
 refine zaK ?_
 refine Sq ?_
 refine Rg 2 ?_
 refine Om (.i k) ?_
 refine Oa (.i k) ?_
 refine Ni ?_
 refine Ws ?_
 refine Rg 11 ?_
 refine Om (pA Box_.cells a) ?_
 refine Om (.sl .no 1 (a1.map cI)) ?_
 obtain ⟨l8,hl8,hM⟩:=zai hM
 refine zuD (bs:=[.sl .no 1 (a1.map cI)]) hS (by decide) rfl rfl ((zjf hl8).le (.k .nil)) (by omega) fun H hS=>?_
 rw [List.length_map] at hS
 refine Om (.i k) ?_
 refine zaW (es:=[[.i k]]) hS (by decide) zay zbn rfl zbi rfl (by decide) (by omega) fun H hS=>?_
 obtain ⟨l9,hl9,hM⟩:=zai hM
 refine zed (xs:=l8) (ys:=([k]:List Int)) (zs:=l9) (f:=cI) (L':=(g2+1+2+4,.row 3 1)::(g2+1+2+2,.row 3 l9.length)::gM oc t2 gs2) 1 hS (by decide) rfl rfl rfl rfl .no zay zbn zbi hl9 rfl fun H hS=>?_
 refine Om (.i a2) ?_
 refine Om (.i k) ?_
 refine Oi (.i (w64 (a2-k))) ?_
 refine Om (.fn (.func 133) [] [.ptr oc 0,.ep [pA Box_.cells a]]) ?_
 obtain ⟨r10,hr10,hM⟩:=zai hM
 have hS2:=hS.perm (L':=gM oc t2 gs2++[(g2+1+2+4,.row 3 1),(g2+1+2+2,.row 3 l9.length)]) (List.perm_append_comm (l₁:=gM oc t2 gs2) (l₂:=[_,_]))
 refine zsm (M:=gM oc t2 gs2) (L:=[(g2+1+2+4,.row 3 1),(g2+1+2+2,.row 3 l9.length)]) (.inl rfl) hS2 (by decide) rfl rfl ((hrec hr10 (show (ids (gM oc t2 gs2)).Nodup from (hS.keep (L':=gM oc t2 gs2) [false,false] rfl).nd)).le (.k (.cons (.sl _ _ _) (.k (.k .nil))))) (by omega) ?_
 rintro v M' H g3 ⟨t3,rfl,rfl⟩ hg3 hi3 hS
 refine Ni ?_
 refine zat ?_
 replace hS:=(hS.perm (L':=[(g2+1+2+4,.row 3 1),(g2+1+2+2,.row 3 l9.length)]++gM oc t3 r10.2) List.perm_append_comm).keep (L':=gM oc t3 r10.2) [false,false] rfl
 refine Ws ?_
 refine Rg 2 ?_
 refine Oi (.i (w64 (k+1))) ?_
 refine Om (.i (w64 (k+1))) ?_
 refine Ni ?_
 exact zbq (w64 (k+1),r10.2,t3) (Nat.lt_succ_self _) (.k (.k (.k (.k (.k (.k .nil)))))) ⟨hS.up (by omega),by omega,fun i h=>(hi3 i h).elim (hi i) fun h=>.inr (by omega),hM⟩
theorem zsv:∀{m nn:Nat} {a:Option Box_} {a1:List Int} {a2:Int} {gs:List Gap_} {r:Unit×List Gap_},zbC m (fun x0 s=>zaM nn a x0 s) a a1 a2 gs=some r->∀{oc t:Nat},(ids (gM oc t gs)).Nodup->zqB Try.prog 132 [pA Box_.cells a,.sl .no 1 (a1.map cI),.i a2,.fn (.func 133) [] [.ptr oc 0,.ep [pA Box_.cells a]]] (gM oc t gs) (gT oc r.2)
 | 0,_,_,_,_,_,_,h=>nomatch (show none=some _ from h)
 | n+1,nn,a,_,_,_,_,h=>fun hnd=>zsu (n:=n) (rec:=zbC n (fun x0 s=>zaM nn a x0 s)) (fun h _ _ hnd=>zsv h hnd) h hnd
theorem zhJ {n:Nat} {a0:Option Box_} {r:List Gap_} (hM:zcb n a0=some r):zaH Try.prog 101 [pA Box_.cells a0] (.sl .no 2 (r.map Gap_.cells)):=by
 refine zak mixed Try.func101 rfl (by decide) Try.ntmps101 (by simp) ?pure fun H0 g hf=>?_
 case pure=>exact .sl _ _ (zpG _)
 rw [zag]
 change wpA _ _ _ _ (Fr.of [(0,pA Box_.cells a0)]) H0 g
 have hS:=St.start hf
 unfold zcb at hM
 obtain ⟨rr,hrr,hM⟩:=zai hM
 obtain rfl:=Option.some.inj hM
 refine Sq ?_
 refine Rg 2 ?_
 refine zb4 (v:=pA Box_.cells a0) (cs:=[pA Box_.cells a0]) hS (by decide) rfl (zqv _ _) (by omega) fun H hS=>?_
 refine Oa (.sl .nil 0 []) ?_
 refine Ni ?_
 refine zaX (L':=[]) 0 1 hS rfl rfl rfl fun H hS=>?_
 refine Ws ?_
 refine Sq ?_
 refine Rg 1 ?_
 refine za3 hS (by decide) zr8 (by omega) fun H hS=>?_
 refine Ni ?_
 refine Ws ?_
 refine Sq ?_
 refine Rg 3 ?_
 refine Olp (pA Box_.cells a0) zhc zio ?_
 refine zet (first:=[]) (cap:=[.ptr (g+2+0) 0,.ep [pA Box_.cells a0]]) (by decide) rfl rfl ?_
 refine znq (M:=gM (g+2+0) 0 []) (L:=[]) (.inl rfl) hS (by decide) rfl rfl ((zsv hrr (by simp [gM,zlb,ids])).le (.k (.cons (.sl0 _ _ _) (.k (.k .nil))))) (by omega) ?_
 rintro v M' H g2 ⟨t2,rfl,rfl⟩ hg2 hS
 refine Ni ?_
 refine Ws ?_
 refine Sq ?_
 refine Rg 2 ?_
 refine zaV (v:=zjz t2 rr.2) 0 hS (by decide) rfl rfl .no (po zfh zgD) ?_
 refine Oa (zjz t2 rr.2) ?_
 refine Ni ?_
 refine Ws ?_
 refine zaR ?_
 refine zaZ (x:=zjz t2 rr.2) (f:=fun (r:List Gap_)=>.sl .no 2 (r.map Gap_.cells)) (.inr rfl) (zax (zae rfl)) ?_ rfl hS
 cases rr.2 with
 | nil=>exact .sl0 _ _ _
 | cons x gs=>exact .sl _ _ _
theorem zj1 {n:Nat} {a0:Box} {r:(Option Box_)×(List Gap_)×Int} (hM:zd8 n a0=some r):zaH Try.prog 62 [.agg (Box.cells a0)] (.tup [pA Box_.cells r.1,.sl .no 2 (r.2.1.map Gap_.cells),.i r.2.2]):=by
 refine zak mixed Try.func62 rfl (by decide) Try.ntmps62 (by simp) ?pure fun H0 g hf=>?_
 case pure=>exact .tup _ (zab (zow (fun x=>(zab (.v _) (zab (.sl _ _ (zav (fun x=>(zab (.v _) zaF)))) (zab (.sl _ _ (zav (fun x=>(zab (.v _) zaF)))) (zab (.sl _ _ (zav (fun x=>(zab (.v _) zaF)))) (zab (.sl _ _ (zav (fun x=>(zab (.v _) zaF)))) (zab (.sl _ _ (zav (fun x=>(zab (.v _) zaF)))) (zab (.v _) (zab (.v _) zaF))))))))) _) (zab (.sl _ _ (zav (fun x=>(zab (.sl _ _ (zav (fun x=>(zab (.v _) zaF)))) (zab (.sl _ _ (zav (fun x=>(zab (.v _) zaF)))) zaF))))) (zab (.v _) zaF)))
 rw [zag]
 change wpA _ _ _ _ (Fr.of [(0,.agg (Box.cells a0))]) H0 g
 have hS:=St.start hf
 refine Sq ?_
 refine Rg 4 ?_
 refine zb4 (v:=.agg (Box.cells a0)) (cs:=(Box.cells a0)) hS (by decide) rfl rfl (by omega) fun H hS=>?_
 refine Oa (pA Box_.cells (none:Option Box_)) ?_
 refine Oa (.sl .nil 0 []) ?_
 refine Oa (.i 0) ?_
 refine Ni ?_
 refine zaX (L':=[]) 0 1 hS rfl rfl rfl fun H hS=>?_
 refine Ws ?_
 refine Sq ?_
 refine Rg 7 ?_
 refine Olg (.agg (Box.cells a0)) zcj ?_
 obtain ⟨r1,hr1,hM⟩:=zai hM
 refine zaE (bs:=[.agg (Box.cells a0)]) (by decide) rfl rfl ((zfi hr1).le (.k .nil)) ?_
 refine Om (.tup [pA Box_.cells r1.1,.i r1.2]) ?_
 refine Ox (pA Box_.cells r1.1) ?_
 refine Ox (.i r1.2) ?_
 refine Oa (pA Box_.cells r1.1) ?_
 refine Oa (.i r1.2) ?_
 refine Ni ?_
 refine Ws ?_
 refine Sq ?_
 refine Sq ?_
 refine Rg 2 ?_
 refine Om (.i r1.2) ?_
 refine Oi (.b (r1.2 != 0)) ?_
 refine Ni ?_
 refine Ws ?_
 rcases bft (r1.2 != 0) with hb2 | hb2
 ·replace hM:=ifT hM hb2
  refine Ct hb2 ?_
  refine Sq ?_
  refine Rg 4 ?_
  refine Om (.i r1.2) ?_
  refine Oa (pA Box_.cells (none:Option Box_)) ?_
  refine Oa (.sl .nil 0 []) ?_
  refine Oa (.i r1.2) ?_
  refine Ni ?_
  refine Ws ?_
  refine zaR ?_
  refine zam ?_
  refine zaZ (x:=.tup [pA Box_.cells (none:Option Box_),.sl .nil 0 [],.i r1.2]) (f:=fun r=>.tup [pA Box_.cells r.1,.sl .no 2 (r.2.1.map Gap_.cells),.i r.2.2]) (.inr rfl) ?_ (.tupL (.k (.cons (.sl0 .nil 2 0) (.k .nil)))) (Option.some.inj hM) hS
  exact (zfY (zae (x:=pA Box_.cells (none:Option Box_)) rfl) (zae (x:=.sl .nil 0 []) rfl) (zae (x:=.i r1.2) rfl))
 ·replace hM:=ifF hM hb2
  refine Cf hb2 ?_
  refine zaD ?_
  refine Ws ?_
  refine Sq ?_
  refine Rg 3 ?_
  refine Om (pA Box_.cells r1.1) ?_
  obtain ⟨r3,hr3,hM⟩:=zai hM
  refine zaE (bs:=[pA Box_.cells r1.1]) (by decide) rfl rfl ((zhJ hr3).le (.k .nil)) ?_
  refine Oa (.sl .no 2 (r3.map Gap_.cells)) ?_
  refine Ni ?_
  refine Ws ?_
  refine Sq ?_
  refine Sq ?_
  refine Rg 3 ?_
  refine Om (.sl .no 2 (r3.map Gap_.cells)) ?_
  refine zbA (n:=r3.length) (by decide) rfl (List.length_map _) ziV ?_
  refine Oi (.b ((r3.length:Int)==0)) ?_
  refine Ni ?_
  refine Ws ?_
  rcases bft ((r3.length:Int)==0) with hb4 | hb4
  ·replace hM:=ifT hM hb4
   refine Ct hb4 ?_
   refine Sq ?_
   refine Rg 3 ?_
   refine Oa (pA Box_.cells (none:Option Box_)) ?_
   refine Oa (.sl .nil 0 []) ?_
   refine Oa (.i 3) ?_
   refine Ni ?_
   refine Ws ?_
   refine zaR ?_
   refine zam ?_
   refine zaZ (x:=.tup [pA Box_.cells (none:Option Box_),.sl .nil 0 [],.i 3]) (f:=fun r=>.tup [pA Box_.cells r.1,.sl .no 2 (r.2.1.map Gap_.cells),.i r.2.2]) (.inr rfl) ?_ (.tupL (.k (.cons (.sl0 .nil 2 0) (.k .nil)))) (Option.some.inj hM) hS
   exact (zfY (zae (x:=pA Box_.cells (none:Option Box_)) rfl) (zae (x:=.sl .nil 0 []) rfl) (zae (x:=.i 3) rfl))
  ·replace hM:=ifF hM hb4
   refine Cf hb4 ?_
   refine zaD ?_
   refine Ws ?_
   refine Sq ?_
   refine Rg 5 ?_
   refine Om (pA Box_.cells r1.1) ?_
   refine Om (.sl .no 2 (r3.map Gap_.cells)) ?_
   refine Oa (pA Box_.cells r1.1) ?_
   refine Oa (.sl .no 2 (r3.map Gap_.cells)) ?_
   refine Oa (.i 0) ?_
   refine Ni ?_
   refine zeF [(2,pA Box_.cells r1.1),(3,.sl .no 2 (r3.map Gap_.cells)),(4,.i 0)] (.k (.k (.k .nil))) ?_
   refine zaR ?_
   refine zaZ (x:=.tup [pA Box_.cells r1.1,.sl .no 2 (r3.map Gap_.cells),.i 0]) (f:=fun r=>.tup [pA Box_.cells r.1,.sl .no 2 (r.2.1.map Gap_.cells),.i r.2.2]) (.inr rfl) ?_ (.refl _) (Option.some.inj hM) hS
   exact (zfY (zae (x:=pA Box_.cells r1.1) rfl) (zae (x:=.sl .no 2 (r3.map Gap_.cells)) rfl) (zae (x:=.i 0) rfl))
theorem zjA {n:Nat} {a0:Box} {r:Int×Int} (hM:zeM n a0=some r):zaH Try.prog 19 [.agg (Box.cells a0)] (.tup [.i r.1,.i r.2]):=by
 refine zak mixed Try.func19 rfl (by decide) Try.ntmps19 (by simp) ?pure fun H0 g hf=>?_
 case pure=>exact .tup _ (zab (.v _) (zab (.v _) zaF))
 rw [zag]
 change wpA _ _ _ _ (Fr.of [(0,.agg (Box.cells a0))]) H0 g
 have hS:=St.start hf
 refine Sq ?_
 refine Rg 3 ?_
 refine zb4 (v:=.agg (Box.cells a0)) (cs:=(Box.cells a0)) hS (by decide) rfl rfl (by omega) fun H hS=>?_
 refine Oa (.i 0) ?_
 refine Oa (.i 0) ?_
 refine Ni ?_
 refine zaX (L':=[]) 0 1 hS rfl rfl rfl fun H hS=>?_
 refine Ws ?_
 refine Sq ?_
 refine Rg 9 ?_
 refine Olg (.agg (Box.cells a0)) zcj ?_
 obtain ⟨r1,hr1,hM⟩:=zai hM
 refine zaE (bs:=[.agg (Box.cells a0)]) (by decide) rfl rfl ((zj1 hr1).le (.k .nil)) ?_
 refine Om (.tup [pA Box_.cells r1.1,.sl .no 2 (r1.2.1.map Gap_.cells),.i r1.2.2]) ?_
 refine Ox (pA Box_.cells r1.1) ?_
 refine Ox (.sl .no 2 (r1.2.1.map Gap_.cells)) ?_
 refine Ox (.i r1.2.2) ?_
 refine Oa (pA Box_.cells r1.1) ?_
 refine Oa (.sl .no 2 (r1.2.1.map Gap_.cells)) ?_
 refine Oa (.i r1.2.2) ?_
 refine Ni ?_
 refine Ws ?_
 refine Sq ?_
 refine Sq ?_
 refine Rg 2 ?_
 refine Om (.i r1.2.2) ?_
 refine Oi (.b (r1.2.2 != 0)) ?_
 refine Ni ?_
 refine Ws ?_
 rcases bft (r1.2.2 != 0) with hb2 | hb2
 ·replace hM:=ifT hM hb2
  refine Ct hb2 ?_
  refine Sq ?_
  refine Rg 3 ?_
  refine Om (.i r1.2.2) ?_
  refine Oa (.i 0) ?_
  refine Oa (.i r1.2.2) ?_
  refine Ni ?_
  refine Ws ?_
  refine zaR ?_
  refine zam ?_
  refine zaZ (x:=.tup [.i 0,.i r1.2.2]) (f:=fun r=>.tup [.i r.1,.i r.2]) (.inr rfl) ?_ (.refl _) (Option.some.inj hM) hS
  exact (zcl (zae (x:=.i 0) rfl) (zae (x:=.i r1.2.2) rfl))
 ·replace hM:=ifF hM hb2
  refine Cf hb2 ?_
  refine zaD ?_
  refine Ws ?_
  refine Sq ?_
  refine Rg 8 ?_
  refine Om (pA Box_.cells r1.1) ?_
  refine Om (.sl .no 2 (r1.2.1.map Gap_.cells)) ?_
  obtain ⟨x3,hx3,hM⟩:=zai hM
  refine za5 (xs:=r1.2.1) (f:=Gap_.cells) (z:=0) (u:=x3) (by decide) rfl rfl zhd hx3 ?_
  refine Of ((Gap_.cells x3)) zk0 ?_
  refine Olp (.sl .no 1 (x3.purse.map cI)) zau zaO ?_
  obtain ⟨r4,hr4,hM⟩:=zai hM
  refine zaE (bs:=[pA Box_.cells r1.1,.sl .no 1 (x3.purse.map cI)]) (by decide) rfl rfl ((zbo hr4).le (.k (.k .nil))) ?_
  refine Oa (.i r4) ?_
  refine Oa (.i 0) ?_
  refine Ni ?_
  refine Ws ?_
  refine zaR ?_
  refine zaZ (x:=.tup [.i r4,.i 0]) (f:=fun r=>.tup [.i r.1,.i r.2]) (.inr rfl) ?_ (.refl _) (Option.some.inj hM) hS
  exact (zcl (zae (x:=.i r4) rfl) (zae (x:=.i 0) rfl))
end Go.Proofs.Ytenogpmlhpcibaa
