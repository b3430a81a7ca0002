/-
  The code returns what the functions say (printed by gen.py).
  Conditions: none.
-/
import Derived.Test.YtenogpmlhpcibaaWkTakingsCash1
import Derived.Test.YtenogpmlhpcibaaAmOx
import Derived.Test.YtenogpmlhpcibaaSh
import Derived.Test.YtenogpmlhpcibaaKs
import Derived.Test.YtenogpmlhpcibaaEn
set_option linter.all false
namespace Go.Proofs.Ytenogpmlhpcibaa
open Go Go.AM Go.Law
set_option linter.unusedVariables false
set_option maxRecDepth 4000
set_option maxHeartbeats 4000000
theorem zhU {n:Nat} {a0:Wheel_} {a1:Int} {a2:Int} {r:Int×Int} (hM:zdF n a0 a1 a2=some r):zaJ Try.prog 120 [.agg (Wheel.cells a0.Wheel),.i a1,.i a2] (.tup [.i r.1,.i r.2]):=by
 refine zap mixed Try.func120 rfl (by decide) Try.ntmps120 (by simp) ?pure fun H0 g hf=>?_
 case pure=>exact .tup _ (zac (.v _) (zac (.v _) zaD))
 rw [zaj]
 change wpA _ _ _ _ (Fr.of [(0,.agg (Wheel.cells a0.Wheel)),(1,.i a1),(2,.i a2)]) H0 g
 have hS:=St.start hf
 refine Sq ?_
 refine Rg 3 ?_
 refine zcW (v:=.agg (Wheel.cells a0.Wheel)) (cs:=(Wheel.cells a0.Wheel)) hS (by decide) rfl rfl (by omega) fun H hS=>?_
 refine Oa (.i 0) ?_
 refine Oa (.i 0) ?_
 refine Ni ?_
 refine zbN (L':=[]) 0 3 hS rfl rfl rfl fun H hS=>?_
 refine Ws ?_
 refine Sq ?_
 refine Rg 4 ?_
 refine Om (.i a1) ?_
 refine Om (.i a2) ?_
 refine Oi (.i (w64 (a1+a2))) ?_
 refine Oa (.i (w64 (a1+a2))) ?_
 refine Ni ?_
 refine Ws ?_
 refine zbi (J:=Int) (fun j=>[(3,.ep (Wheel.cells a0.Wheel)),(7,.i j),(8,.i (w64 (a1+a2)))]) (fun j H' g'=>St (·<g) H0 [] H' g'/\zcC a0 a1 a2 j=some r) ?_ ?_
 ·rintro v1 H g1 ⟨hS,hM⟩
  change wpA _ _ _ _ (Fr.of [(3,.ep (Wheel.cells a0.Wheel)),(7,.i v1),(8,.i (w64 (a1+a2)))]) _ _
  replace hS:St (·<g) H0 [] H g1:=hS
  replace hM:zcC a0 a1 a2 v1=some r:=hM
  refine Sq ?_
  refine Rg 8 ?_
  refine Om (.i (w64 (a1+a2))) ?_
  refine Of ((Wheel.cells a0.Wheel)) zdp ?_
  refine Of ((Wheel.cells a0.Wheel)) zdd ?_
  refine Olp (.i a0.Wheel.Round) zag zav ?_
  obtain ⟨q2,hq2,hM⟩:=zak hM
  refine zlL (by decide) rfl rfl (zsl hq2) ?_
  refine Om (.i v1) ?_
  refine Oa (.i q2) ?_
  refine Oa (.i v1) ?_
  refine Ni ?_
  refine Ws ?_
  refine zaT ?_
  refine za5 (x:=.tup [.i q2,.i v1]) (f:=fun r=>.tup [.i r.1,.i r.2]) (.inr rfl) ?_ (.refl _) (Option.some.inj hM) hS
  exact (zdH (zae (x:=.i q2) rfl) (zae (x:=.i v1) rfl))
 ·refine Sq ?_
  refine Rg 5 ?_
  refine Of ((Wheel.cells a0.Wheel)) zdp ?_
  refine Of ((Wheel.cells a0.Wheel)) zfI ?_
  refine Olp (.sl .no 1 (a0.Wheel.Notches.map cI)) zan zaE ?_
  refine zb8 (n:=a0.Wheel.Notches.length) (by decide) rfl (List.length_map _) zaM ?_
  refine Om (.i 0) ?_
  refine Ni ?_
  refine Ws ?_
  refine zaO ?_
  refine zcx (V:=Int×Int) (fun v=>[(1,.i a1),(3,.ep (Wheel.cells a0.Wheel)),(7,.i v.1),(8,.i (w64 (a1+a2))),(16,.sl .no 1 (a0.Wheel.Notches.map cI)),(17,.i (a0.Wheel.Notches.length:Int)),(18,.i v.2)]) (fun v m2 H' g'=>St (·<g) H0 [] H' g'/\za9 a0 a1 a2 m2 v.1 v.2=some r) (n:=n) (0,0) (.k (.k (.k (.k (.k (.k (.k .nil))))))) ⟨(hS.keep [] rfl).up (by omega),hM⟩ ?_
  rintro ⟨v3,v4⟩ m2 H g2 ⟨hS,hM⟩
  obtain _ | m2:=m2
  ·exact nomatch (show none=some _ from hM)
  change wpA _ _ _ _ (Fr.of [(1,.i a1),(3,.ep (Wheel.cells a0.Wheel)),(7,.i v3),(8,.i (w64 (a1+a2))),(16,.sl .no 1 (a0.Wheel.Notches.map cI)),(17,.i (a0.Wheel.Notches.length:Int)),(18,.i v4)]) _ _
  replace hS:St (·<g) H0 [] H g2:=hS
  replace hM:zce a0 a1 a2 (za9 a0 a1 a2 m2) v3 v4=some r:=hM
  refine Sq ?_
  refine Rg 1 ?_
  refine Oi (.b (decide (v4<(a0.Wheel.Notches.length:Int)))) ?_
  refine Ni ?_
  refine Ws ?_
  refine Sq ?_
  rcases bft (decide (v4<(a0.Wheel.Notches.length:Int))) with hb5 | hb5
  ·replace hM:=ifT hM hb5
   refine Ct hb5 ?_
   refine zaN ?_
   refine Ws ?_
   refine Sq ?_
   refine zaO ?_
   refine Sq ?_
   refine Rg 3 ?_
   obtain ⟨x6,hx6,hM⟩:=zak hM
   refine zaZ (xs:=a0.Wheel.Notches) (f:=cI) (z:=v4) (u:=x6) (by decide) rfl rfl zaw hx6 ?_
   refine Olp (.i x6) zag zav ?_
   refine Oa (.i x6) ?_
   refine Ni ?_
   refine Ws ?_
   have hS0:=hS
   refine zc3 (n:=26) rfl (by kernel_rfl) ?_
   refine Om (.i v3) ?_
   refine Om (.i (w64 (a1+a2))) ?_
   refine Om (.i x6) ?_
   refine Oi (.i (w64 ((w64 (a1+a2))-x6))) ?_
   refine Of ((Wheel.cells a0.Wheel)) zdp ?_
   refine Of ((Wheel.cells a0.Wheel)) zdd ?_
   refine Olp (.i a0.Wheel.Round) zag zav ?_
   refine Oi (.i (w64 ((w64 ((w64 (a1+a2))-x6))+a0.Wheel.Round))) ?_
   refine Of ((Wheel.cells a0.Wheel)) zdp ?_
   refine Of ((Wheel.cells a0.Wheel)) zdd ?_
   refine Olp (.i a0.Wheel.Round) zag zav ?_
   obtain ⟨q7,hq7,hM⟩:=zak hM
   refine zlL (by decide) rfl rfl (zpE hq7) ?_
   refine Om (.i a1) ?_
   refine Om (.i x6) ?_
   refine Oi (.i (w64 (a1-x6))) ?_
   refine Of ((Wheel.cells a0.Wheel)) zdp ?_
   refine Of ((Wheel.cells a0.Wheel)) zdd ?_
   refine Olp (.i a0.Wheel.Round) zag zav ?_
   refine Oi (.i (w64 ((w64 (a1-x6))+a0.Wheel.Round))) ?_
   refine Of ((Wheel.cells a0.Wheel)) zdp ?_
   refine Of ((Wheel.cells a0.Wheel)) zdd ?_
   refine Olp (.i a0.Wheel.Round) zag zav ?_
   obtain ⟨q8,hq8,hM⟩:=zak hM
   refine zlL (by decide) rfl rfl (zpE hq8) ?_
   refine Oi (.i (w64 (q7-q8))) ?_
   refine Oi (.i (w64 (v3+(w64 (q7-q8))))) ?_
   refine Oa (.i (w64 (v3+(w64 (q7-q8))))) ?_
   refine Ni ?_
   refine zaH ?_
   refine Ws ?_
   refine Rg 2 ?_
   refine Oi (.i (w64 (v4+1))) ?_
   refine Om (.i (w64 (v4+1))) ?_
   refine Ni ?_
   exact zbQ (w64 (v3+(w64 (q7-q8))),w64 (v4+1)) (Nat.lt_succ_self _) (.k (.k (.k (.k (.k (.k (.k .nil))))))) ⟨(hS.keep [] rfl).up (by omega),hM⟩
  ·replace hM:=ifF hM hb5
   refine Cf hb5 ?_
   refine zcl ?_
   refine zaK ?_
   refine zaI ?_
   refine zaQ ?_
   exact zao v3 (.k (.k (.k .nil))) ⟨(hS.keep [] rfl).up (by omega),hM⟩
theorem zii {n:Nat} {a0:Wheel_} {a1:Stand} {a2:Int} {r:Stand} (hM:zd0 n a0 a1 a2=some r):zaJ Try.prog 89 [.agg (Wheel.cells a0.Wheel),.agg (Stand.cells a1),.i a2] (.agg [.i r.Place,.i r.Credit]):=by
 refine zap mixed Try.func89 rfl (by decide) Try.ntmps89 (by simp) ?pure fun H0 g hf=>?_
 case pure=>exact .agg _ (zac (.v _) (zac (.v _) zaD))
 rw [zaj]
 change wpA _ _ _ _ (Fr.of [(0,.agg (Wheel.cells a0.Wheel)),(1,.agg (Stand.cells a1)),(2,.i a2)]) H0 g
 have hS:=St.start hf
 refine Sq ?_
 refine Rg 3 ?_
 refine zcW (v:=.agg (Wheel.cells a0.Wheel)) (cs:=(Wheel.cells a0.Wheel)) hS (by decide) rfl rfl (by omega) fun H hS=>?_
 refine zcW (v:=.agg (Stand.cells a1)) (cs:=(Stand.cells a1)) hS (by decide) rfl rfl (by omega) fun H hS=>?_
 refine zbY hS (by decide) zdb (by omega) fun H hS=>?_
 refine Ni ?_
 refine zbN (L':=[(g+2,.cells [.i 0,.i 0]),(g+1,.cells (Stand.cells a1))]) 2 3 hS rfl rfl rfl fun H hS=>?_
 refine zbN (L':=[(g+2,.cells [.i 0,.i 0])]) 1 4 hS rfl rfl rfl fun H hS=>?_
 refine Ws ?_
 refine Sq ?_
 refine zaO ?_
 refine Sq ?_
 refine Rg 3 ?_
 refine Om (.i a2) ?_
 refine Oi (.b (a2 != (-1))) ?_
 refine Oa (.b (a2 != (-1))) ?_
 refine Ni ?_
 refine Ws ?_
 rcases bft (a2 != (-1)) with hb1 | hb1
 ·replace hM:=ifT hM hb1
  refine Ct hb1 ?_
  refine Sq ?_
  have hS0:=hS
  refine zc3 (n:=15) rfl (by kernel_rfl) ?_
  refine Olg (.agg (Wheel.cells a0.Wheel)) zeC ?_
  refine Of ((Stand.cells a1)) zde ?_
  refine Olp (.i a1.Place) zag zav ?_
  refine Of ((Wheel.cells a0.Wheel)) zdp ?_
  refine Of ((Wheel.cells a0.Wheel)) zb9 ?_
  refine Olp (.sl .no 1 (a0.Wheel.Coins.map cI)) zan zaE ?_
  refine Om (.i a2) ?_
  obtain ⟨x2,hx2,hM⟩:=zak hM
  refine zaZ (xs:=a0.Wheel.Coins) (f:=cI) (z:=a2) (u:=x2) (by decide) rfl rfl zaw hx2 ?_
  refine Olp (.i x2) zag zav ?_
  obtain ⟨r3,hr3,hM⟩:=zak hM
  refine zaB (bs:=[.agg (Wheel.cells a0.Wheel),.i a1.Place,.i x2]) (by decide) rfl rfl ((zhU hr3).le (.k (.k (.k .nil)))) ?_
  refine Om (.tup [.i r3.1,.i r3.2]) ?_
  refine Ox (.i r3.1) ?_
  refine Ox (.i r3.2) ?_
  refine Oa (.i r3.1) ?_
  refine Oa (.i r3.2) ?_
  refine Ni ?_
  refine Ws ?_
  refine Sq ?_
  refine Rg 7 ?_
  refine Om (.i r3.1) ?_
  refine Of ((Stand.cells a1)) zch ?_
  refine Olp (.i a1.Credit) zag zav ?_
  refine Om (.i r3.2) ?_
  refine Oi (.i (w64 (a1.Credit+r3.2))) ?_
  refine zbZ (cs:=[.i r3.1,.i (w64 (a1.Credit+r3.2))]) (by decide) zdb zhf rfl ?_
  refine zaU (v:=.agg [.i r3.1,.i (w64 (a1.Credit+r3.2))]) (ns:=[.i r3.1,.i (w64 (a1.Credit+r3.2))]) (L':=[(g+2,.cells [.i r3.1,.i (w64 (a1.Credit+r3.2))])]) 0 hS rfl rfl .no rfl rfl zfp nlb rfl fun H hS=>?_
  refine Ni ?_
  refine Ws ?_
  refine zaT ?_
  refine zbH ?_
  refine zau ?_
  refine za5 (x:=.agg [.i r3.1,.i (w64 (a1.Credit+r3.2))]) (f:=fun r=>.agg [.i r.Place,.i r.Credit]) (.inr rfl) ?_ (.refl _) (Option.some.inj hM) hS
  exact (zay (zdh (x:=.agg [.i r3.1,.i (w64 (a1.Credit+r3.2))]) 0 hS rfl rfl (pg zfo)))
 ·replace hM:=ifF hM hb1
  refine Cf hb1 ?_
  refine Sq ?_
  refine Rg 4 ?_
  refine Of ((Stand.cells a1)) zch ?_
  refine Olp (.i a1.Credit) zag zav ?_
  refine Oi (.b (decide (a1.Credit>0))) ?_
  refine Oa (.b (decide (a1.Credit>0))) ?_
  refine Ni ?_
  refine Ws ?_
  rcases bft (decide (a1.Credit>0)) with hb4 | hb4
  ·replace hM:=ifT hM hb4
   refine Ct hb4 ?_
   refine Sq ?_
   refine Rg 5 ?_
   refine Of ((Stand.cells a1)) zch ?_
   refine Olp (.i a1.Credit) zag zav ?_
   refine Oi (.i (w64 (a1.Credit-1))) ?_
   refine zbZ (cs:=[.i 0,.i (w64 (a1.Credit-1))]) (by decide) zdb zhf rfl ?_
   refine zaU (v:=.agg [.i 0,.i (w64 (a1.Credit-1))]) (ns:=[.i 0,.i (w64 (a1.Credit-1))]) (L':=[(g+2,.cells [.i 0,.i (w64 (a1.Credit-1))])]) 0 hS rfl rfl .no rfl rfl zfp nlb rfl fun H hS=>?_
   refine Ni ?_
   refine Ws ?_
   refine zaT ?_
   refine zbH ?_
   refine zau ?_
   refine za5 (x:=.agg [.i 0,.i (w64 (a1.Credit-1))]) (f:=fun r=>.agg [.i r.Place,.i r.Credit]) (.inr rfl) ?_ (.refl _) (Option.some.inj hM) hS
   exact (zay (zdh (x:=.agg [.i 0,.i (w64 (a1.Credit-1))]) 0 hS rfl rfl (pg zfo)))
  ·replace hM:=ifF hM hb4
   refine Cf hb4 ?_
   refine zaN ?_
   refine zaH ?_
   refine Ws ?_
   refine Sq ?_
   refine Rg 2 ?_
   refine Olg (.agg (Stand.cells a1)) zfo ?_
   refine zaU (v:=.agg (Stand.cells a1)) (ns:=(Stand.cells a1)) (L':=[(g+2,.cells (Stand.cells a1))]) 0 hS rfl rfl .no rfl rfl zfp nlb rfl fun H hS=>?_
   refine Ni ?_
   refine zfk [(6,.ptr (g+2) 0)] (.k .nil) ?_
   refine zaT ?_
   refine za5 (x:=.agg (Stand.cells a1)) (f:=fun r=>.agg [.i r.Place,.i r.Credit]) (.inr rfl) ?_ (.refl _) (Option.some.inj hM) hS
   exact (zay (zdh (x:=.agg (Stand.cells a1)) 0 hS rfl rfl (pg zfo)))
theorem zgA {a0:Wheel_} {a1:Int} {r:Bool} (hM:zcD a0 a1=some r):zaJ Try.prog 158 [.agg (Wheel.cells a0.Wheel),.i a1] (.b r):=by
 refine zap mixed Try.func158 rfl (by decide) Try.ntmps158 (by simp) ?pure fun H0 g hf=>?_
 case pure=>exact .v _
 rw [zaj]
 change wpA _ _ _ _ (Fr.of [(0,.agg (Wheel.cells a0.Wheel)),(1,.i a1)]) H0 g
 have hS:=St.start hf
 refine Sq ?_
 refine Rg 2 ?_
 refine zcW (v:=.agg (Wheel.cells a0.Wheel)) (cs:=(Wheel.cells a0.Wheel)) hS (by decide) rfl rfl (by omega) fun H hS=>?_
 refine Oa (.b false) ?_
 refine Ni ?_
 refine zbN (L':=[]) 0 2 hS rfl rfl rfl fun H hS=>?_
 refine Ws ?_
 refine Sq ?_
 refine Rg 7 ?_
 refine Om (.i a1) ?_
 refine Of ((Wheel.cells a0.Wheel)) zdp ?_
 refine Of ((Wheel.cells a0.Wheel)) zdd ?_
 refine Olp (.i a0.Wheel.Round) zag zav ?_
 refine Oi (.i (w64 (a0.Wheel.Round-1))) ?_
 obtain ⟨r1,hr1,hM⟩:=zak hM
 refine zaB (bs:=[.i a1,.i 0,.i (w64 (a0.Wheel.Round-1))]) (by decide) rfl rfl ((zdy hr1).le (.k (.k (.k .nil)))) ?_
 refine Oa (.b r1) ?_
 refine Ni ?_
 refine Ws ?_
 refine zaT ?_
 refine za5 (x:=.b r1) (f:=fun r=>.b r) (.inr rfl) ?_ (.refl _) (Option.some.inj hM) hS
 exact (zay (zae (x:=.b r1) rfl))
theorem zhV {S:Type} {Lo:S->BL} (hk:∀s s',zkE (Lo s) (Lo s')) (hnd:∀s,(ids (Lo s)).Nodup) (hin:∀s,InB In (Lo s)) {aF:Int->S->Option (Bool×S)} {f0:AV} (hF:∀s H,Has H (Lo s)->In H f0) (h0:cellsOf f0=some [f0]) (hf:∀{x0:Int} {s:S} {r:Bool×S},aF x0 s=some r->zo5 Try.prog f0 [.i x0] (Lo s) (.b r.1) (Lo r.2)) {a0:Int} {st:S} {r:Bool×S} (hM:zb0 aF a0 st=some r):zlt Try.prog 175 [.i a0,.ep [f0]] (Lo st) (.b r.1) (Lo r.2):=by
 have hnd0:∀s,(ids (Lo s)).Nodup:=fun s=>hnd s
 refine zeW mixed Try.func175 rfl (by decide) Try.ntmps175 (by simp) (hk _ _) (hnd st) ?pure ?cells fun H0 g hf_ hp=>?_
 case pure=>exact fun H _=>(show Go.AM.Pure _ from .v _).inH
 case cells=>exact hin _
 rw [zaj]
 change wpA _ _ _ _ (Fr.of [(0,.i a0),(1,.ep [f0])]) H0 g
 have hS:=St.startH (L:=([]++Lo st)) hf_ (hnd st) hp
 replace hS:St (fun i=>i<g/\i∉ids (Lo st)) H0 ([]++Lo st) H0 g:=hS
 refine Sq ?_
 refine Rg 1 ?_
 refine Oa (.b false) ?_
 refine Ni ?_
 refine Ws ?_
 refine Sq ?_
 refine Rg 5 ?_
 refine Olp (f0) zp2 zri ?_
 refine Om (.i a0) ?_
 obtain ⟨r1,hr1,hM⟩:=zak hM
 replace hS:St (fun i=>i<g/\i∉ids (Lo st)) H0 ([]++Lo st) _ _:=hS
 refine zmK (bs:=[.i a0]) (.inl rfl) hS (by decide) rfl rfl ((hf hr1).le (.k .nil)) (hk _ _).ids (by omega) fun H hS=>?_
 refine zd8 (e:=r1.1) (by decide) rfl ?_
 refine Oa (.b (!r1.1)) ?_
 refine Ni ?_
 refine Ws ?_
 refine zaT ?_
 refine zhy (x:=.b (!r1.1)) (f:=fun r=>.b r.1) (fd:=fun r=>(Lo r.2)) (.inr rfl) ?_ (.refl _) (Option.some.inj hM) hS 0 rfl
 exact (zay (zae (x:=.b (!r1.1)) rfl))
theorem zjJ {S:Type} {Lo:S->BL} (hk:∀s s',zkE (Lo s) (Lo s')) (hnd:∀s,(ids (Lo s)).Nodup) (hin:∀s,InB In (Lo s)) {aF:Int->S->Option (Bool×S)} {f0:AV} (hF:∀s H,Has H (Lo s)->In H f0) (h0:cellsOf f0=some [f0]) (hf:∀{x0:Int} {s:S} {r:Bool×S},aF x0 s=some r->zo5 Try.prog f0 [.i x0] (Lo s) (.b r.1) (Lo r.2)) {n:Nat} {a0:List Int} {st:S} {r:Bool×S} (hM:zeT n aF a0 st=some r):zlt Try.prog 159 [.sl .no 1 (a0.map cI),f0] (Lo st) (.b r.1) (Lo r.2):=by
 have hnd0:∀s,(ids (Lo s)).Nodup:=fun s=>hnd s
 refine zeW mixed Try.func159 rfl (by decide) Try.ntmps159 (by simp) (hk _ _) (hnd st) ?pure ?cells fun H0 g hf_ hp=>?_
 case pure=>exact fun H _=>(show Go.AM.Pure _ from .v _).inH
 case cells=>exact hin _
 rw [zaj]
 change wpA _ _ _ _ (Fr.of [(0,.sl .no 1 (a0.map cI)),(1,f0)]) H0 g
 have hS:=St.startH (L:=([]++Lo st)) hf_ (hnd st) hp
 replace hS:St (fun i=>i<g/\i∉ids (Lo st)) H0 ([]++Lo st) H0 g:=hS
 refine Sq ?_
 refine Rg 2 ?_
 refine zcW (v:=f0) (cs:=[f0]) hS (by decide) rfl h0 (by omega) fun H hS=>?_
 refine Oa (.b false) ?_
 refine Ni ?_
 refine zbN (L':=([]++Lo st)) 0 3 hS rfl rfl rfl fun H hS=>?_
 refine Ws ?_
 refine zbi (J:=Bool×S) (fun j=>[(4,.b j.1)]) (fun j H' g'=>St (fun i=>i<g/\i∉ids (Lo st)) H0 ([]++Lo j.2) H' g'/\zcL j.1 j.2=some r) ?_ ?_
 ·rintro ⟨v1,v2⟩ H g1 ⟨hS,hM⟩
  change wpA _ _ _ _ (Fr.of [(4,.b v1)]) _ _
  replace hS:St (fun i=>i<g/\i∉ids (Lo st)) H0 ([]++Lo v2) H g1:=hS
  replace hM:zcL v1 v2=some r:=hM
  refine zaT ?_
  refine zhy (x:=.b v1) (f:=fun r=>.b r.1) (fd:=fun r=>(Lo r.2)) (.inr rfl) ?_ (.refl _) (Option.some.inj hM) hS 0 rfl
  exact (zay (zae (x:=.b v1) rfl))
 ·refine Rg 10 ?_
  refine Om (.sl .no 1 (a0.map cI)) ?_
  refine zb8 (n:=a0.length) (by decide) rfl (List.length_map _) zaM ?_
  refine Oi (.b (decide ((a0.length:Int)<=20))) ?_
  refine Om (.b (decide ((a0.length:Int)<=20))) ?_
  rcases bft (decide ((a0.length:Int)<=20)) with hb3 | hb3
  ·replace hM:=ifT hM hb3
   refine Oy (want:=true) hb3 ?_
   refine Om (.sl .no 1 (a0.map cI)) ?_
   refine Oy (want:=true) hb3 ?_
   refine zfE (first:=[]) (cap:=[.ep [f0]]) (by decide) rfl rfl ?_
   refine Oy (want:=true) hb3 ?_
   obtain ⟨r4,hr4,hM⟩:=zak hM
   replace hS:St (fun i=>i<g/\i∉ids (Lo st)) H0 ([]++Lo st) _ _:=hS
   refine znr (bs:=[.sl .no 1 (a0.map cI),.fn (.func 175) [] [.ep [f0]]]) (.inl rfl) hS (by decide) rfl rfl ((zdz (Lo:=Lo)  hk hnd0 hin (aF:=(zb0 aF)) (fun s H hH=>(.fn _ _ _ zg1 (zie (.ep _ (zie (hF _ H hH) zg1)) zg1))) rfl (fun h=>zpR (zhV (Lo:=Lo)  hk hnd0 hin hF h0 hf h)) hr4).le (.k (.k .nil))) (hk _ _).ids (by omega) fun H hS=>?_
   refine Oy (want:=true) hb3 ?_
   refine zd8 (e:=r4.1) (by decide) rfl ?_
   refine Pt (.b (!r4.1)) hb3 ?_
   refine Oa (.b (!r4.1)) ?_
   refine Ni ?_
   exact zao ((!r4.1),r4.2) (.k .nil) ⟨(hS.keep [] rfl).up (by omega),hM⟩
  ·replace hM:=ifF hM hb3
   refine On (want:=true) hb3 ?_
   refine On (want:=true) hb3 ?_
   refine On (want:=true) hb3 ?_
   refine On (want:=true) hb3 ?_
   refine Pf (.b false) hb3 ?_
   refine Oa (.b false) ?_
   refine Ni ?_
   exact zao (false,st) (.k .nil) ⟨(hS.keep [] rfl).up (by omega),hM⟩
theorem zgW {a0:Wheel_} {a1:Int} {r:Bool} (hM:zcU a0 a1=some r):zaJ Try.prog 176 [.agg (Wheel.cells a0.Wheel),.i a1] (.b r):=by
 refine zap mixed Try.func176 rfl (by decide) Try.ntmps176 (by simp) ?pure fun H0 g hf=>?_
 case pure=>exact .v _
 rw [zaj]
 change wpA _ _ _ _ (Fr.of [(0,.agg (Wheel.cells a0.Wheel)),(1,.i a1)]) H0 g
 have hS:=St.start hf
 refine Sq ?_
 refine Rg 2 ?_
 refine zcW (v:=.agg (Wheel.cells a0.Wheel)) (cs:=(Wheel.cells a0.Wheel)) hS (by decide) rfl rfl (by omega) fun H hS=>?_
 refine Oa (.b false) ?_
 refine Ni ?_
 refine zbN (L':=[]) 0 2 hS rfl rfl rfl fun H hS=>?_
 refine Ws ?_
 refine Sq ?_
 refine Rg 8 ?_
 refine Om (.i a1) ?_
 refine Of ((Wheel.cells a0.Wheel)) zdp ?_
 refine Of ((Wheel.cells a0.Wheel)) zb9 ?_
 refine Olp (.sl .no 1 (a0.Wheel.Coins.map cI)) zan zaE ?_
 refine zb8 (n:=a0.Wheel.Coins.length) (by decide) rfl (List.length_map _) zaM ?_
 refine Oi (.i (w64 ((a0.Wheel.Coins.length:Int)-1))) ?_
 obtain ⟨r1,hr1,hM⟩:=zak hM
 refine zaB (bs:=[.i a1,.i 0,.i (w64 ((a0.Wheel.Coins.length:Int)-1))]) (by decide) rfl rfl ((zdy hr1).le (.k (.k (.k .nil)))) ?_
 refine Oa (.b r1) ?_
 refine Ni ?_
 refine zfk [(4,.b r1)] (.k .nil) ?_
 refine zaT ?_
 refine za5 (x:=.b r1) (f:=fun r=>.b r) (.inr rfl) ?_ (.refl _) (Option.some.inj hM) hS
 exact (zay (zae (x:=.b r1) rfl))
theorem zhj {a0:Wheel_} {a1:Int} {r:Bool} (hM:zb6 a0 a1=some r):zaJ Try.prog 160 [.agg (Wheel.cells a0.Wheel),.i a1] (.b r):=by
 refine zap mixed Try.func160 rfl (by decide) Try.ntmps160 (by simp) ?pure fun H0 g hf=>?_
 case pure=>exact .v _
 rw [zaj]
 change wpA _ _ _ _ (Fr.of [(0,.agg (Wheel.cells a0.Wheel)),(1,.i a1)]) H0 g
 have hS:=St.start hf
 refine Sq ?_
 refine Rg 2 ?_
 refine zcW (v:=.agg (Wheel.cells a0.Wheel)) (cs:=(Wheel.cells a0.Wheel)) hS (by decide) rfl rfl (by omega) fun H hS=>?_
 refine Oa (.b false) ?_
 refine Ni ?_
 refine zbN (L':=[]) 0 2 hS rfl rfl rfl fun H hS=>?_
 refine Ws ?_
 refine zbi (J:=Bool) (fun j=>[(4,.b j)]) (fun j H' g'=>St (·<g) H0 [] H' g'/\zb3 j=some r) ?_ ?_
 ·rintro v1 H g1 ⟨hS,hM⟩
  change wpA _ _ _ _ (Fr.of [(4,.b v1)]) _ _
  replace hS:St (·<g) H0 [] H g1:=hS
  replace hM:zb3 v1=some r:=hM
  refine zaT ?_
  refine za5 (x:=.b v1) (f:=fun r=>.b r) (.inr rfl) ?_ (.refl _) (Option.some.inj hM) hS
  exact (zay (zae (x:=.b v1) rfl))
 ·refine Rg 8 ?_
  refine Om (.i a1) ?_
  refine Oi (.b (a1==(-1))) ?_
  refine Om (.b (a1==(-1))) ?_
  rcases bft (a1==(-1)) with hb2 | hb2
  ·replace hM:=ifT hM hb2
   refine On (want:=false) hb2 ?_
   refine On (want:=false) hb2 ?_
   refine On (want:=false) hb2 ?_
   refine Pt (.b true) hb2 ?_
   refine Oa (.b true) ?_
   refine Ni ?_
   exact zao true (.k .nil) ⟨(hS.keep [] rfl).up (by omega),hM⟩
  ·replace hM:=ifF hM hb2
   refine Oy (want:=false) hb2 ?_
   refine Olg (.agg (Wheel.cells a0.Wheel)) zeC ?_
   refine Oy (want:=false) hb2 ?_
   refine Om (.i a1) ?_
   refine Oy (want:=false) hb2 ?_
   obtain ⟨r3,hr3,hM⟩:=zak hM
   refine zaB (bs:=[.agg (Wheel.cells a0.Wheel),.i a1]) (by decide) rfl rfl ((zgW hr3).le (.k (.k .nil))) ?_
   refine Pf (.b r3) hb2 ?_
   refine Oa (.b r3) ?_
   refine Ni ?_
   exact zao r3 (.k .nil) ⟨(hS.keep [] rfl).up (by omega),hM⟩
theorem zj7 {p1:Nat} (hnd:[p1].Nodup) {n:Nat} {a0:Wheel_} {a1:Stand} {a2:List Int} {r:Bool} (hM:zez n a0 a1 a2=some r):zlt Try.prog 157 [.agg (Wheel.cells a0.Wheel),.ptr p1 0,.ep [.sl .no 1 (a2.map cI)]] [(p1,.cells (Stand.cells a1))] (.b r) [(p1,.cells (Stand.cells a1))]:=by
 refine zeW mixed Try.func157 rfl (by decide) Try.ntmps157 (by simp) (znu znt) hnd ?pure ?cells fun H0 g hf_ hp=>?_
 case pure=>exact fun H _=>(show Go.AM.Pure _ from .v _).inH
 case cells=>exact (zrT (znq (zkV (.inl (.inl (.v _))) (zkV (.inl (.inl (.v _))) zrR)) zrS) zkW)
 rw [zaj]
 change wpA _ _ _ _ (Fr.of [(0,.agg (Wheel.cells a0.Wheel)),(1,.ptr p1 0),(2,.ep [.sl .no 1 (a2.map cI)])]) H0 g
 have hS:=St.startH (L:=[(p1,.cells (Stand.cells a1))]) hf_ hnd hp
 replace hS:St (fun i=>i<g/\i∉ids [(p1,.cells (Stand.cells a1))]) H0 [(p1,.cells (Stand.cells a1))] H0 g:=hS
 refine Sq ?_
 refine Rg 2 ?_
 refine zcW (v:=.agg (Wheel.cells a0.Wheel)) (cs:=(Wheel.cells a0.Wheel)) hS (by decide) rfl rfl (by omega) fun H hS=>?_
 refine Oa (.b false) ?_
 refine Ni ?_
 refine zbN (L':=[(p1,.cells (Stand.cells a1))]) 0 3 hS rfl rfl rfl fun H hS=>?_
 refine Ws ?_
 refine zbi (J:=Bool) (fun j=>[(4,.b j)]) (fun j H' g'=>St (fun i=>i<g/\i∉ids [(p1,.cells (Stand.cells a1))]) H0 [(p1,.cells (Stand.cells a1))] H' g'/\zcs j=some r) ?_ ?_
 ·rintro v1 H g1 ⟨hS,hM⟩
  change wpA _ _ _ _ (Fr.of [(4,.b v1)]) _ _
  replace hS:St (fun i=>i<g/\i∉ids [(p1,.cells (Stand.cells a1))]) H0 [(p1,.cells (Stand.cells a1))] H g1:=hS
  replace hM:zcs v1=some r:=hM
  refine zaT ?_
  refine zhy (x:=.b v1) (f:=fun r=>.b r) (fd:=fun r=>[(p1,.cells (Stand.cells a1))]) (.inr rfl) ?_ (.refl _) (Option.some.inj hM) hS 0 rfl
  exact (zay (zae (x:=.b v1) rfl))
 ·refine Rg 16 ?_
  refine Olg (.agg (Wheel.cells a0.Wheel)) zeC ?_
  refine zaC (by decide) zde rfl ?_
  refine zaR (v:=.i a1.Place) 0 hS (by decide) rfl rfl .no (po zag zav) ?_
  obtain ⟨r2,hr2,hM⟩:=zak hM
  refine zaB (bs:=[.agg (Wheel.cells a0.Wheel),.i a1.Place]) (by decide) rfl rfl ((zgA hr2).le (.k (.k .nil))) ?_
  refine Om (.b r2) ?_
  rcases bft r2 with hb3 | hb3
  ·replace hM:=ifT hM hb3
   refine Oy (want:=true) hb3 ?_
   refine zaC (by decide) zch rfl ?_
   refine Oy (want:=true) hb3 ?_
   refine zaR (v:=.i a1.Credit) 0 hS (by decide) rfl rfl .no (po zag zav) ?_
   refine Oy (want:=true) hb3 ?_
   obtain ⟨r4,hr4,hM⟩:=zak hM
   refine zaB (bs:=[.i a1.Credit,.i 0,.i 20]) (by decide) rfl rfl ((zdy hr4).le (.k (.k (.k .nil)))) ?_
   refine Pt (.b r4) hb3 ?_
   refine Om (.b r4) ?_
   rcases bft r4 with hb5 | hb5
   ·replace hM:=ifT hM hb5
    refine Oy (want:=true) hb5 ?_
    refine Olp (.sl .no 1 (a2.map cI)) zan zaE ?_
    refine Oy (want:=true) hb5 ?_
    refine Olg (.agg (Wheel.cells a0.Wheel)) zeC ?_
    refine Oy (want:=true) hb5 ?_
    refine zfE (first:=[.agg (Wheel.cells a0.Wheel)]) (cap:=[]) (by decide) rfl rfl ?_
    refine Oy (want:=true) hb5 ?_
    obtain ⟨r6,hr6,hM⟩:=zak hM
    refine zaB (bs:=[.sl .no 1 (a2.map cI),.fn (.func 160) [.agg (Wheel.cells a0.Wheel)] []]) (by decide) rfl rfl (ziw ((zjJ (Lo:=(fun (_:Unit)=>[]))  (fun _ _=>znt) (fun _=>List.nodup_nil) (fun _=>zkW) (aF:=(fun (x0:Int) (_:Unit)=>(zb6 a0 x0).map fun y=>(y,()))) (fun _ H hH=>(.fn _ _ _ (zie (show Go.AM.Pure _ from .agg _ (zac (.v _) (zac (.sl _ _ (zat (fun x=>(zac (.v _) zaD)))) (zac (.sl _ _ (zat (fun x=>(zac (.v _) zaD)))) zaD)))).inH zg1) zg1)) rfl (fun h=>znx (zhj (zjq h))) hr6).le (.k (.k .nil)))) ?_
    refine Pt (.b r6.1) hb5 ?_
    refine Oa (.b r6.1) ?_
    refine Ni ?_
    exact zao r6.1 (.k .nil) ⟨(hS.keep [true] rfl).up (by omega),hM⟩
   ·replace hM:=ifF hM hb5
    refine On (want:=true) hb5 ?_
    refine On (want:=true) hb5 ?_
    refine On (want:=true) hb5 ?_
    refine On (want:=true) hb5 ?_
    refine Pf (.b false) hb5 ?_
    refine Oa (.b false) ?_
    refine Ni ?_
    exact zao false (.k .nil) ⟨(hS.keep [true] rfl).up (by omega),hM⟩
  ·replace hM:=ifF hM hb3
   refine On (want:=true) hb3 ?_
   refine On (want:=true) hb3 ?_
   refine On (want:=true) hb3 ?_
   refine Pf (.b false) hb3 ?_
   refine Om (.b false) ?_
   refine Og ?_
   refine Og ?_
   refine Og ?_
   refine Og ?_
   refine zaG (v:=.b false) (e:=false) (by decide) rfl rfl rfl ?_
   refine Oa (.b false) ?_
   refine Ni ?_
   exact zao false (.k .nil) ⟨(hS.keep [true] rfl).up (by omega),hM⟩
theorem zjK {n:Nat} {a0:Wheel} {a1:Stand} {a2:List Int} {r:Stand×Int×Int} (hM:zd1 n a0 a1 a2=some r):zaJ Try.prog 131 [.agg (Wheel.cells a0),.agg (Stand.cells a1),.sl .no 1 (a2.map cI)] (.tup [.agg [.i r.1.Place,.i r.1.Credit],.i r.2.1,.i r.2.2]):=by
 refine zap mixed Try.func131 rfl (by decide) Try.ntmps131 (by simp) ?pure fun H0 g hf=>?_
 case pure=>exact .tup _ (zac (.agg _ (zac (.v _) (zac (.v _) zaD))) (zac (.v _) (zac (.v _) zaD)))
 rw [zaj]
 change wpA _ _ _ _ (Fr.of [(0,.agg (Wheel.cells a0)),(1,.agg (Stand.cells a1)),(2,.sl .no 1 (a2.map cI))]) H0 g
 have hS:=St.start hf
 refine Sq ?_
 refine Rg 6 ?_
 refine zcW (v:=.agg (Wheel.cells a0)) (cs:=(Wheel.cells a0)) hS (by decide) rfl rfl (by omega) fun H hS=>?_
 refine zcW (v:=.agg (Stand.cells a1)) (cs:=(Stand.cells a1)) hS (by decide) rfl rfl (by omega) fun H hS=>?_
 refine zcW (v:=.sl .no 1 (a2.map cI)) (cs:=[.sl .no 1 (a2.map cI)]) hS (by decide) rfl rfl (by omega) fun H hS=>?_
 refine zbY hS (by decide) zdb (by omega) fun H hS=>?_
 refine Oa (.i 0) ?_
 refine Oa (.i 0) ?_
 refine Ni ?_
 refine zbN (L':=[(g+3,.cells [.i 0,.i 0]),(g+2,.cells [.sl .no 1 (a2.map cI)]),(g+1,.cells (Stand.cells a1))]) 3 3 hS rfl rfl rfl fun H hS=>?_
 refine zbN (L':=[(g+3,.cells [.i 0,.i 0]),(g+1,.cells (Stand.cells a1))]) 1 5 hS rfl rfl rfl fun H hS=>?_
 refine Ws ?_
 refine Sq ?_
 refine Rg 9 ?_
 refine Olg (.agg (Wheel.cells a0)) zcH ?_
 refine zfE (first:=[]) (cap:=[.ptr (g+1) 0,.ep [.sl .no 1 (a2.map cI)]]) (by decide) rfl rfl ?_
 obtain ⟨r1,hr1,hM⟩:=zak hM
 have hndr1:=hS.nd_at (ns:=[1]) (M:=[(g+1,.cells (Stand.cells a1))]) (M':=[(g+1,.cells (Stand.cells a1))]) (.cons rfl .nil) (by decide)
 have hncr1:=hS.nd_at (ns:=[1]) (M:=[(g+1,.cells (Stand.cells a1))]) (M':=[(g+1,.cells (Stand.cells a1))]) (.cons rfl .nil) (by decide)
 refine ztT (bs:=[.agg (Wheel.cells a0),.fn (.func 157) [] [.ptr (g+1) 0,.ep [.sl .no 1 (a2.map cI)]]]) (M:=[(g+1,.cells (Stand.cells a1))]) (M':=[(g+1,.cells (Stand.cells a1))]) (L':=[(g+3,.cells [.i 0,.i 0]),(g+1,.cells (Stand.cells a1))]) [1] (.inl rfl) hS (by decide) rfl rfl ((zl2 (Lo:=(fun (_:Unit)=>[(g+1,.cells (Stand.cells a1))]))  (fun _ _=>(znu znt)) (fun _=>hndr1) (fun s=>(zrT (znq (zkV (.inl (.inl (.v _))) (zkV (.inl (.inl (.v _))) zrR)) zrS) zkW)) (aF:=(fun (x0:Wheel_) (_:Unit)=>(zez n x0 a1 a2).map fun y=>(y,()))) (fun s H hH=>(.fn _ _ _ zg1 (zie (ztW hH 0 rfl) (zie (.ep _ (zie (show Go.AM.Pure _ from .sl _ _ (zat (fun x=>(zac (.v _) zaD)))).inH zg1)) zg1)))) rfl (fun h=>zpR (zj7 (p1:=g+1)  hncr1 (zjq h))) hr1).le (.k (.k .nil))) (.cons rfl .nil) rfl (by omega) fun H hS=>?_
 refine Om (.tup [.agg (Wheel.cells r1.1.1.Wheel),.i r1.1.2]) ?_
 refine Ox (.agg (Wheel.cells r1.1.1.Wheel)) ?_
 refine Ox (.i r1.1.2) ?_
 refine zbY hS (by decide) zeX (by omega) fun H hS=>?_
 refine zaU (v:=.agg (Wheel.cells r1.1.1.Wheel)) (ns:=(Wheel.cells r1.1.1.Wheel)) (L':=[(g+6+6,.cells (Wheel.cells r1.1.1.Wheel)),(g+3,.cells [.i 0,.i 0]),(g+1,.cells (Stand.cells a1))]) 0 hS rfl rfl .no rfl rfl zhI nlb rfl fun H hS=>?_
 refine Oa (.i r1.1.2) ?_
 refine Ni ?_
 refine zbN (L':=[(g+3,.cells [.i 0,.i 0]),(g+1,.cells (Stand.cells a1))]) 0 9 hS rfl rfl rfl fun H hS=>?_
 refine Ws ?_
 refine Sq ?_
 refine Sq ?_
 refine Rg 2 ?_
 refine Om (.i r1.1.2) ?_
 refine Oi (.b (r1.1.2 != 0)) ?_
 refine Ni ?_
 refine Ws ?_
 rcases bft (r1.1.2 != 0) with hb2 | hb2
 ·replace hM:=ifT hM hb2
  refine Ct hb2 ?_
  refine Sq ?_
  refine Rg 5 ?_
  refine zbZ (cs:=[.i 0,.i 0]) (by decide) zdb zhf rfl ?_
  refine Om (.i r1.1.2) ?_
  refine zaU (v:=.agg [.i 0,.i 0]) (ns:=[.i 0,.i 0]) (L':=[(g+3,.cells [.i 0,.i 0]),(g+1,.cells (Stand.cells a1))]) 0 hS rfl rfl .no rfl rfl zfp nlb rfl fun H hS=>?_
  refine Oa (.i 0) ?_
  refine Oa (.i r1.1.2) ?_
  refine Ni ?_
  replace hS:=hS.keep (L':=[(g+3,.cells [.i 0,.i 0])]) [true,false] rfl
  refine Ws ?_
  refine zaT ?_
  refine zau ?_
  refine za5 (x:=.tup [.agg [.i 0,.i 0],.i 0,.i r1.1.2]) (f:=fun r=>.tup [.agg [.i r.1.Place,.i r.1.Credit],.i r.2.1,.i r.2.2]) (.inr rfl) ?_ (.refl _) (Option.some.inj hM) hS
  exact (zgt (zdh (x:=.agg [.i 0,.i 0]) 0 hS rfl rfl (pg zfo)) (zae (x:=.i 0) rfl) (zae (x:=.i r1.1.2) rfl))
 ·replace hM:=ifF hM hb2
  refine Cf hb2 ?_
  refine zaN ?_
  refine Ws ?_
  refine zbi (J:=Int×Int×Int) (fun j=>[(4,.ptr (g+1) 0),(6,.ptr (g+3) 0),(7,.i j.1)]) (fun j H' g'=>St (·<g) H0 [(g+3,.cells [.i 0,.i 0]),(g+1,.cells [.i j.2.1,.i j.2.2])] H' g'/\zfn j.1 j.2.1 j.2.2=some r) ?_ ?_
  ·rintro ⟨v3,v4,v5⟩ H g1 ⟨hS,hM⟩
   change wpA _ _ _ _ (Fr.of [(4,.ptr (g+1) 0),(6,.ptr (g+3) 0),(7,.i v3)]) _ _
   replace hS:St (·<g) H0 [(g+3,.cells [.i 0,.i 0]),(g+1,.cells [.i v4,.i v5])] H g1:=hS
   replace hM:zfn v3 v4 v5=some r:=hM
   refine Sq ?_
   refine Rg 5 ?_
   refine zaR (v:=.agg [.i v4,.i v5]) 1 hS (by decide) rfl rfl .no (pg zfo) ?_
   refine Om (.i v3) ?_
   refine zaU (v:=.agg [.i v4,.i v5]) (ns:=[.i v4,.i v5]) (L':=[(g+3,.cells [.i v4,.i v5]),(g+1,.cells [.i v4,.i v5])]) 0 hS rfl rfl .no rfl rfl zfp nlb rfl fun H hS=>?_
   refine Oa (.i v3) ?_
   refine Oa (.i 0) ?_
   refine Ni ?_
   replace hS:=hS.keep (L':=[(g+3,.cells [.i v4,.i v5])]) [true,false] rfl
   refine Ws ?_
   refine zaT ?_
   refine za5 (x:=.tup [.agg [.i v4,.i v5],.i v3,.i 0]) (f:=fun r=>.tup [.agg [.i r.1.Place,.i r.1.Credit],.i r.2.1,.i r.2.2]) (.inr rfl) ?_ (.refl _) (Option.some.inj hM) hS
   exact (zgt (zdh (x:=.agg [.i v4,.i v5]) 0 hS rfl rfl (pg zfo)) (zae (x:=.i v3) rfl) (zae (x:=.i 0) rfl))
  ·refine Sq ?_
   refine Rg 3 ?_
   refine Olp (.sl .no 1 (a2.map cI)) zan zaE ?_
   refine zb8 (n:=a2.length) (by decide) rfl (List.length_map _) zaM ?_
   refine Om (.i 0) ?_
   refine Ni ?_
   refine Ws ?_
   refine zaO ?_
   refine zcx (V:=Int×Int×Int×Int) (fun v=>[(4,.ptr (g+1) 0),(6,.ptr (g+3) 0),(7,.i v.1),(9,.ep (Wheel.cells r1.1.1.Wheel)),(22,.sl .no 1 (a2.map cI)),(23,.i (a2.length:Int)),(24,.i v.2.1)]) (fun v m3 H' g'=>St (·<g) H0 [(g+3,.cells [.i 0,.i 0]),(g+1,.cells [.i v.2.2.1,.i v.2.2.2])] H' g'/\zbq n a2 r1 m3 v.1 v.2.1 v.2.2.1 v.2.2.2=some r) (n:=n) (0,0,a1.Place,a1.Credit) (.k (.k (.k (.k (.k (.k (.k .nil))))))) ⟨(hS.keep [true,true] rfl).up (by omega),hM⟩ ?_
   rintro ⟨v8,v9,v10,v11⟩ m3 H g3 ⟨hS,hM⟩
   obtain _ | m3:=m3
   ·exact nomatch (show none=some _ from hM)
   change wpA _ _ _ _ (Fr.of [(4,.ptr (g+1) 0),(6,.ptr (g+3) 0),(7,.i v8),(9,.ep (Wheel.cells r1.1.1.Wheel)),(22,.sl .no 1 (a2.map cI)),(23,.i (a2.length:Int)),(24,.i v9)]) _ _
   replace hS:St (·<g) H0 [(g+3,.cells [.i 0,.i 0]),(g+1,.cells [.i v10,.i v11])] H g3:=hS
   replace hM:zes n a2 r1 (zbq n a2 r1 m3) v8 v9 v10 v11=some r:=hM
   refine Sq ?_
   refine Rg 1 ?_
   refine Oi (.b (decide (v9<(a2.length:Int)))) ?_
   refine Ni ?_
   refine Ws ?_
   refine Sq ?_
   rcases bft (decide (v9<(a2.length:Int))) with hb12 | hb12
   ·replace hM:=ifT hM hb12
    refine Ct hb12 ?_
    refine zaN ?_
    refine Ws ?_
    refine Sq ?_
    refine zaO ?_
    refine Sq ?_
    refine Rg 3 ?_
    obtain ⟨x13,hx13,hM⟩:=zak hM
    refine zaZ (xs:=a2) (f:=cI) (z:=v9) (u:=x13) (by decide) rfl rfl zaw hx13 ?_
    refine Olp (.i x13) zag zav ?_
    refine Oa (.i x13) ?_
    refine Ni ?_
    refine Ws ?_
    refine zbi (J:=Int) (fun j=>[(4,.ptr (g+1) 0),(6,.ptr (g+3) 0),(7,.i j),(9,.ep (Wheel.cells r1.1.1.Wheel)),(11,.i x13),(22,.sl .no 1 (a2.map cI)),(23,.i (a2.length:Int)),(24,.i v9)]) (fun j H' g'=>St (·<g) H0 [(g+3,.cells [.i 0,.i 0]),(g+1,.cells [.i v10,.i v11])] H' g'/\zeA n (zbq n a2 r1 m3) r1 v9 v10 v11 x13 j=some r) ?_ ?_
    ·rintro v14 H g4 ⟨hS,hM⟩
     change wpA _ _ _ _ (Fr.of [(4,.ptr (g+1) 0),(6,.ptr (g+3) 0),(7,.i v14),(9,.ep (Wheel.cells r1.1.1.Wheel)),(11,.i x13),(22,.sl .no 1 (a2.map cI)),(23,.i (a2.length:Int)),(24,.i v9)]) _ _
     replace hS:St (·<g) H0 [(g+3,.cells [.i 0,.i 0]),(g+1,.cells [.i v10,.i v11])] H g4:=hS
     replace hM:zeA n (zbq n a2 r1 m3) r1 v9 v10 v11 x13 v14=some r:=hM
     refine Rg 5 ?_
     refine Olg (.agg (Wheel.cells r1.1.1.Wheel)) zeC ?_
     refine zaR (v:=.agg [.i v10,.i v11]) 1 hS (by decide) rfl rfl .no (pg zfo) ?_
     refine Om (.i x13) ?_
     obtain ⟨r15,hr15,hM⟩:=zak hM
     refine zaB (bs:=[.agg (Wheel.cells r1.1.1.Wheel),.agg [.i v10,.i v11],.i x13]) (by decide) rfl rfl ((zii hr15).le (.k (.k (.k .nil)))) ?_
     refine zaU (v:=.agg (Stand.cells r15)) (ns:=(Stand.cells r15)) (L':=[(g+3,.cells [.i 0,.i 0]),(g+1,.cells (Stand.cells r15))]) 1 hS rfl rfl .no rfl rfl zfp nlb rfl fun H hS=>?_
     refine Ni ?_
     refine zaH ?_
     refine Ws ?_
     refine Rg 2 ?_
     refine Oi (.i (w64 (v9+1))) ?_
     refine Om (.i (w64 (v9+1))) ?_
     refine Ni ?_
     exact zbQ (v14,w64 (v9+1),r15.Place,r15.Credit) (Nat.lt_succ_self _) (.k (.k (.k (.k (.k (.k (.k .nil))))))) ⟨(hS.keep [true,true] rfl).up (by omega),hM⟩
    ·refine zbi (J:=Bool) (fun j=>[(4,.ptr (g+1) 0),(6,.ptr (g+3) 0),(7,.i v8),(9,.ep (Wheel.cells r1.1.1.Wheel)),(11,.i x13),(22,.sl .no 1 (a2.map cI)),(23,.i (a2.length:Int)),(24,.i v9),(34,.b j)]) (fun j H' g'=>St (·<g) H0 [(g+3,.cells [.i 0,.i 0]),(g+1,.cells [.i v10,.i v11])] H' g'/\zdQ n (zbq n a2 r1 m3) r1 v8 v9 v10 v11 x13 j=some r) ?_ ?_
     ·rintro v16 H g5 ⟨hS,hM⟩
      change wpA _ _ _ _ (Fr.of [(4,.ptr (g+1) 0),(6,.ptr (g+3) 0),(7,.i v8),(9,.ep (Wheel.cells r1.1.1.Wheel)),(11,.i x13),(22,.sl .no 1 (a2.map cI)),(23,.i (a2.length:Int)),(24,.i v9),(34,.b v16)]) _ _
      replace hS:St (·<g) H0 [(g+3,.cells [.i 0,.i 0]),(g+1,.cells [.i v10,.i v11])] H g5:=hS
      replace hM:zdQ n (zbq n a2 r1 m3) r1 v8 v9 v10 v11 x13 v16=some r:=hM
      rcases bft v16 with hb17 | hb17
      ·replace hM:=ifT hM hb17
       refine Ct hb17 ?_
       refine Rg 3 ?_
       refine Om (.i v8) ?_
       refine Oi (.i (w64 (v8+1))) ?_
       refine Oa (.i (w64 (v8+1))) ?_
       refine Ni ?_
       exact zao (w64 (v8+1)) (.k (.k (.k (.k (.k (.k (.k (.k .nil)))))))) ⟨(hS.keep [true,true] rfl).up (by omega),hM⟩
      ·replace hM:=ifF hM hb17
       refine Cf hb17 ?_
       refine zaN ?_
       exact zao v8 (.k (.k (.k (.k (.k (.k (.k (.k .nil)))))))) ⟨(hS.keep [true,true] rfl).up (by omega),hM⟩
     ·refine Rg 7 ?_
      refine Om (.i x13) ?_
      refine Oi (.b (x13==(-1))) ?_
      refine Om (.b (x13==(-1))) ?_
      rcases bft (x13==(-1)) with hb18 | hb18
      ·replace hM:=ifT hM hb18
       refine Oy (want:=true) hb18 ?_
       refine zaC (by decide) zch rfl ?_
       refine Oy (want:=true) hb18 ?_
       refine zaR (v:=.i v11) 1 hS (by decide) rfl rfl .no (po zag zav) ?_
       refine Oy (want:=true) hb18 ?_
       refine Oi (.b (decide (v11>0))) ?_
       refine Pt (.b (decide (v11>0))) hb18 ?_
       refine Ni ?_
       exact zao (decide (v11>0)) (.k (.k (.k (.k (.k (.k (.k (.k (.k .nil))))))))) ⟨(hS.keep [true,true] rfl).up (by omega),hM⟩
      ·replace hM:=ifF hM hb18
       refine On (want:=true) hb18 ?_
       refine On (want:=true) hb18 ?_
       refine On (want:=true) hb18 ?_
       refine Pf (.b false) hb18 ?_
       refine Ni ?_
       exact zao false (.k (.k (.k (.k (.k (.k (.k (.k (.k .nil))))))))) ⟨(hS.keep [true,true] rfl).up (by omega),hM⟩
   ·replace hM:=ifF hM hb12
    refine Cf hb12 ?_
    refine zcl ?_
    refine zaK ?_
    refine zaI ?_
    refine zaQ ?_
    exact zao (v8,v10,v11) (.k (.k (.k .nil))) ⟨(hS.keep [true,true] rfl).up (by omega),hM⟩
theorem zfs {n:Nat} {a0:Option Box_} {al:Bag_} {r:List (PointT_×Step_)} (hM:zcM n a0 al=some r):zrV Try.prog 99 [pA Box_.cells a0,.agg (Bag_.cells al)] (zar (mpw zad zah r)):=by
 refine zoB mixed Try.func99 rfl (by decide) Try.ntmps99 (by simp) fun H0 g hf=>?_
 rw [zaj]
 change wpA _ _ _ _ (Fr.of [(0,pA Box_.cells a0),(1,.agg (Bag_.cells al))]) H0 g
 have hS:=St.start hf
 unfold zcM at hM
 obtain ⟨b,hb0,hM⟩:=zak hM
 refine Sq ?_
 refine Rg 2 ?_
 refine zcW (v:=.agg (Bag_.cells al)) (cs:=(Bag_.cells al)) hS (by decide) rfl rfl (by omega) fun H hS=>?_
 refine Oa (.v (.map none)) ?_
 refine Ni ?_
 refine Ws ?_
 refine Sq ?_
 refine Rg 7 ?_
 refine zku (kv:=zad) (cv:=zah) hS (by decide) zfb (by omega) fun H hS=>?_
 refine zbZ (cs:=[.i 0,.i 0,.i 0,.i 0,.i 0,.i 0,.i 0]) (by decide) zdS ziS rfl ?_
 refine zbZ (cs:=[.i (-2),.i 0,.i 0,.i 0,.i 0,.i 0,.i 0,.i 0]) (by decide) zfH znE rfl ?_
 refine zpU (kv:=zad) (ok:=zbp) (cv:=zah) (z0:=zaW) (M:=[]) (k:=zaA) (v:=⟨-2,zaA⟩) (M':=([(zaA,(⟨-2,zaA⟩:Step_))]:List (PointT_×Step_))) (L':=[(g+2+0,.obj none (zar (mpw zad zah ([(zaA,(⟨-2,zaA⟩:Step_))]:List (PointT_×Step_))))),(g+0,.cells (Bag_.cells al))]) 0 zjG (.inl rfl) hS rfl rfl rfl rfl zfb zgz (by decide) rfl fun H hS=>?_
 refine Om (.mp (g+2+0)) ?_
 refine zbY hS (by decide) zoI (by omega) fun H hS=>?_
 refine zaU (v:=.mp (g+2+0)) (ns:=[.mp (g+2+0)]) (L':=[(g+2+5,.cells [.mp (g+2+0)]),(g+2+0,.obj none (zar (mpw zad zah ([(zaA,(⟨-2,zaA⟩:Step_))]:List (PointT_×Step_))))),(g+0,.cells (Bag_.cells al))]) 0 hS rfl rfl .no rfl rfl zp4 nlb rfl fun H hS=>?_
 refine Ni ?_
 refine Ws ?_
 refine Sq ?_
 refine Rg 4 ?_
 refine zbZ (cs:=[.i 0,.i 0,.i 0,.i 0,.i 0,.i 0,.i 0]) (by decide) zdS ziS rfl ?_
 refine zt3 (e:=155) (es:=[[.i 0,.i 0,.i 0,.i 0,.i 0,.i 0,.i 0]]) hS (by decide) zhN znF rfl zlb rfl (by decide) (by omega) fun H hS=>?_
 replace hS:St (·<g) H0 [quB PointT_.cells (g+2+7+1) [] [zaA],(g+2+5,.cells [.mp (g+2+0)]),(g+2+0,.obj none (zar (mpw zad zah ([(zaA,(⟨-2,zaA⟩:Step_))]:List (PointT_×Step_))))),(g+0,.cells (Bag_.cells al))] H (g+2+7+1+1):=hS
 refine zbY hS (by decide) zoJ (by omega) fun H hS=>?_
 refine zaU (v:=quV 7 (g+2+7+1) [] [zaA]) (ns:=[quV 7 (g+2+7+1) [] [zaA]]) (L':=[(g+2+7+2,.cells [quV 7 (g+2+7+1) [] [zaA]]),quB PointT_.cells (g+2+7+1) [] [zaA],(g+2+5,.cells [.mp (g+2+0)]),(g+2+0,.obj none (zar (mpw zad zah ([(zaA,(⟨-2,zaA⟩:Step_))]:List (PointT_×Step_))))),(g+0,.cells (Bag_.cells al))]) 0 hS rfl rfl .no rfl rfl zjx nlb rfl fun H hS=>?_
 refine Ni ?_
 refine Ws ?_
 replace hS:=hS.toHead (L':=[(g+2+0,.obj none (zar (mpw zad zah ([(zaA,(⟨-2,zaA⟩:Step_))]:List (PointT_×Step_))))),(g+2+7+2,.cells [quV 7 (g+2+7+1) [] [zaA]]),quB PointT_.cells (g+2+7+1) [] [zaA],(g+2+5,.cells [.mp (g+2+0)]),(g+0,.cells (Bag_.cells al))]) 3 nlb rfl
 replace hS:=hS.toHead (L':=[(g+2+7+2,.cells [quV 7 (g+2+7+1) [] [zaA]]),(g+2+0,.obj none (zar (mpw zad zah ([(zaA,(⟨-2,zaA⟩:Step_))]:List (PointT_×Step_))))),quB PointT_.cells (g+2+7+1) [] [zaA],(g+2+5,.cells [.mp (g+2+0)]),(g+0,.cells (Bag_.cells al))]) 1 nlb rfl
 replace hS:=hS.toHead (L':=[(g+2+5,.cells [.mp (g+2+0)]),(g+2+7+2,.cells [quV 7 (g+2+7+1) [] [zaA]]),(g+2+0,.obj none (zar (mpw zad zah ([(zaA,(⟨-2,zaA⟩:Step_))]:List (PointT_×Step_))))),quB PointT_.cells (g+2+7+1) [] [zaA],(g+0,.cells (Bag_.cells al))]) 3 nlb rfl
 replace hS:=hS.toHead (L':=[(g+0,.cells (Bag_.cells al)),(g+2+5,.cells [.mp (g+2+0)]),(g+2+7+2,.cells [quV 7 (g+2+7+1) [] [zaA]]),(g+2+0,.obj none (zar (mpw zad zah ([(zaA,(⟨-2,zaA⟩:Step_))]:List (PointT_×Step_))))),quB PointT_.cells (g+2+7+1) [] [zaA]]) 4 nlb rfl
 replace hS:=hS.toHead (L':=[quB PointT_.cells (g+2+7+1) [] [zaA],(g+0,.cells (Bag_.cells al)),(g+2+5,.cells [.mp (g+2+0)]),(g+2+7+2,.cells [quV 7 (g+2+7+1) [] [zaA]]),(g+2+0,.obj none (zar (mpw zad zah ([(zaA,(⟨-2,zaA⟩:Step_))]:List (PointT_×Step_)))))]) 4 nlb rfl
 refine Sq ?_
 refine zaO ?_
 refine zcx (V:=zhB×Nat×List AV) (fun v=>[(0,pA Box_.cells a0),(3,.ptr (g+0) 0),(5,.ptr (g+2+5) 0),(6,.ptr (g+2+7+2) 0)]) (fun v k H' g'=>St (·<g) H0 [quB PointT_.cells v.2.1 v.2.2 v.1.2,(g+0,.cells (Bag_.cells al)),(g+2+5,.cells [.mp (g+2+0)]),(g+2+7+2,.cells [quV 7 v.2.1 v.2.2 v.1.2]),(g+2+0,.obj none (zar (mpw zad zah v.1.1)))] H' g'/\(∀c,c∈v.2.2->Go.AM.Pure c)/\zcO n b al k v.1=some r) (n:=n) ((([(zaA,(⟨-2,zaA⟩:Step_))]:List (PointT_×Step_)),[zaA]),(g+2+7+1),[]) (.k (.k (.k (.k .nil)))) ⟨hS.up (by omega),(fun c h=>by simp at h),hM⟩ ?_
 rintro ⟨⟨S1,S2⟩,q,pre⟩ m H g1 ⟨hS,hpre,hM⟩
 obtain _ | m:=m
 ·exact nomatch (show none=some _ from hM)
 replace hpre:∀c,c∈pre->Go.AM.Pure c:=hpre
 change wpA _ _ _ _ (Fr.of [(0,pA Box_.cells a0),(3,.ptr (g+0) 0),(5,.ptr (g+2+5) 0),(6,.ptr (g+2+7+2) 0)]) _ _
 replace hS:St (·<g) H0 [quB PointT_.cells q pre S2,(g+0,.cells (Bag_.cells al)),(g+2+5,.cells [.mp (g+2+0)]),(g+2+7+2,.cells [quV 7 q pre S2]),(g+2+0,.obj none (zar (mpw zad zah S1)))] H g1:=hS
 refine Sq ?_
 refine Sq ?_
 refine Rg 3 ?_
 refine zaR (v:=quV 7 q pre S2) 3 hS (by decide) rfl rfl .no (po zhM ziT) ?_
 refine zss (n:=S2.length) (by decide) rfl zp6 ?_
 refine Oi (.b (decide ((S2.length:Int)>0))) ?_
 refine Ni ?_
 refine Ws ?_
 cases S2 with
 | nil =>
  obtain rfl:S1=r:=Option.some.inj hM
  refine zfU (e:=decide ((([]:List PointT_).length:Int)>0)) rfl (by decide) ?_
  refine zcl ?_
  refine zaK ?_
  refine zaI ?_
  refine zaQ ?_
  refine Ws ?_
  refine Sq ?_
  refine Rg 2 ?_
  refine zaR (v:=.mp (g+2+0)) 2 hS (by decide) rfl rfl .no (po zjw zla) ?_
  refine Oa (.mp (g+2+0)) ?_
  refine Ni ?_
  refine Ws ?_
  refine zaT ?_
  exact zsv (j:=(g+2+0)) 4 (.inr rfl) (zay (zae rfl)) hS rfl rfl
 | cons x xs =>
  replace hM:Option.bind (zet n b al x (S1,xs)) (fun S1=>Option.bind (zbj n b al x n 0 S1) fun S2=>zcO n b al m S2)=some r:=hM
  obtain ⟨SA,hSA,hM⟩:=zak hM
  obtain ⟨SB,hSB,hM⟩:=zak hM
  refine zjm (e:=decide (((x::xs).length:Int)>0)) rfl (decide_eq_true (by rw [List.length_cons];omega)) ?_
  refine zaN ?_
  refine Ws ?_
  refine zaO ?_
  refine Sq ?_
  refine Rg 5 ?_
  refine zaR (v:=quV 7 q pre (x::xs)) 3 hS (by decide) rfl rfl .no (po zhM ziT) ?_
  refine zpV (k:=7) (by decide) rfl rfl zhN ?_
  refine zmP (k:=7) (f:=PointT_.cells) hS (by decide) rfl .no zeD (fun _=>rfl) ?_
  refine zbY hS (by decide) zdS (by omega) fun H hS=>?_
  refine zaU (v:=.agg (PointT_.cells x)) (ns:=(PointT_.cells x)) (L':=[(g1+3+3,.cells (PointT_.cells x)),quB PointT_.cells q pre (x::xs),(g+0,.cells (Bag_.cells al)),(g+2+5,.cells [.mp (g+2+0)]),(g+2+7+2,.cells [quV 7 q pre (x::xs)]),(g+2+0,.obj none (zar (mpw zad zah S1)))]) 0 hS rfl rfl .no rfl rfl zhK nlb rfl fun H hS=>?_
  refine Ni ?_
  refine Ws ?_
  refine Sq ?_
  refine Rg 3 ?_
  refine zaR (v:=quV 7 q pre (x::xs)) 4 hS (by decide) rfl rfl .no (po zhM ziT) ?_
  refine zoD (k:=7) (f:=PointT_.cells) (by decide) rfl rfl zhN (fun _=>rfl) ?_
  refine zaU (v:=quV 7 q (pre++x.cells) xs) (ns:=[quV 7 q (pre++x.cells) xs]) (L':=[(g1+3+3,.cells (PointT_.cells x)),quB PointT_.cells q pre (x::xs),(g+0,.cells (Bag_.cells al)),(g+2+5,.cells [.mp (g+2+0)]),(g+2+7+2,.cells [quV 7 q (pre++x.cells) xs]),(g+2+0,.obj none (zar (mpw zad zah S1)))]) 4 hS rfl rfl .no rfl rfl zjx nlb rfl fun H hS=>?_
  refine Ni ?_
  rw [zsz] at hS
  have hpre1:∀c,c∈pre++x.cells->Go.AM.Pure c:=fun c hc=>by
   rcases List.mem_append.1 hc with hc | hc
   ·exact hpre c hc
   ·exact (show ∀c,c∈(PointT_.cells x)->Go.AM.Pure c from zac (.v _) (zac (.v _) (zac (.v _) (zac (.v _) (zac (.v _) (zac (.v _) (zac (.v _) zaD))))))) c hc
  generalize pre++x.cells=preX at hS hpre1 ⊢
  replace hS:=hS.perm (L':=[quB PointT_.cells q preX xs,(g+0,.cells (Bag_.cells al)),(g+2+5,.cells [.mp (g+2+0)]),(g1+3+3,.cells (PointT_.cells x)),(g+2+7+2,.cells [quV 7 q preX xs]),(g+2+0,.obj none (zar (mpw zad zah S1)))]) (List.perm_append_comm (l₁:=[_,_,_]) (l₂:=[_]) |>.append_right _)
  refine Ws ?_
  refine Sq ?_
  refine Rg 2 ?_
  refine zfE (first:=[]) (cap:=[.ptr (g+0) 0,.ptr (g+2+5) 0,.ptr (g1+3+3) 0,.ptr (g+2+7+2) 0]) (by decide) rfl rfl ?_
  refine Oa (.fn (.func 129) [] [.ptr (g+0) 0,.ptr (g+2+5) 0,.ptr (g1+3+3) 0,.ptr (g+2+7+2) 0]) ?_
  refine Ni ?_
  refine Ws ?_
  refine zbi (J:=zhB×Nat×List AV) (fun j=>[(0,pA Box_.cells a0),(3,.ptr (g+0) 0),(5,.ptr (g+2+5) 0),(6,.ptr (g+2+7+2) 0),(7,.ptr (g1+3+3) 0),(8,.fn (.func 129) [] [.ptr (g+0) 0,.ptr (g+2+5) 0,.ptr (g1+3+3) 0,.ptr (g+2+7+2) 0])]) (fun j H' g'=>St (·<g) H0 [quB PointT_.cells j.2.1 j.2.2 j.1.2,(g+0,.cells (Bag_.cells al)),(g+2+5,.cells [.mp (g+2+0)]),(g1+3+3,.cells (PointT_.cells x)),(g+2+7+2,.cells [quV 7 j.2.1 j.2.2 j.1.2]),(g+2+0,.obj none (zar (mpw zad zah j.1.1)))] H' g'/\(∀c,c∈j.2.2->Go.AM.Pure c)/\j.1=SA) ?_ ?_
  rotate_left
  ·-- the selection
   refine Sq ?_
   refine Rg 10 ?_
   refine zaC (by decide) zbX rfl ?_
   refine zaC (by decide) zch rfl ?_
   refine zaR (v:=.i x.Stand.Credit) 3 hS (by decide) rfl rfl .no (po zag zav) ?_
   refine Oi (.b (decide (x.Stand.Credit>0))) ?_
   refine Om (.b (decide (x.Stand.Credit>0))) ?_
   rcases bft (decide (x.Stand.Credit>0)) with hc1 | hc1
   ·replace hSA:=ifT hSA hc1
    refine Oy (want:=true) hc1 ?_
    refine zaC (by decide) zbX rfl ?_
    refine Oy (want:=true) hc1 ?_
    refine zaC (by decide) zde rfl ?_
    refine Oy (want:=true) hc1 ?_
    refine zaR (v:=.i x.Stand.Place) 3 hS (by decide) rfl rfl .no (po zag zav) ?_
    refine Oy (want:=true) hc1 ?_
    refine Oi (.b (decide (x.Stand.Place>0))) ?_
    refine Pt (.b (decide (x.Stand.Place>0))) hc1 ?_
    refine Ni ?_
    refine Ws ?_
    rcases bft (decide (x.Stand.Place>0)) with hc2 | hc2
    ·replace hSA:=ifT hSA hc2
     refine Ct hc2 ?_
     refine Sq ?_
     have hS0:=hS
     refine zc3 (n:=19) rfl (by kernel_rfl) ?_
     refine Om (pA Box_.cells a0) ?_
     refine zg2 (f:=Box_.cells) (p:=a0) (u:=b) (by decide) rfl hb0 ?_
     refine Of ((Box.cells b.Box)) zcP ?_
     refine Of ((Box.cells b.Box)) zbI ?_
     refine Olg (.agg (Wheel.cells b.Box.Wheel)) zcH ?_
     refine zaC (by decide) zbX rfl ?_
     refine zaC (by decide) zde rfl ?_
     refine zaR (v:=.i x.Stand.Place) 3 hS (by decide) rfl rfl (.st hS0 3 rfl (by omega)) (po zag zav) ?_
     refine zbZ (cs:=[.i x.Stand.Place,.i 1]) (by decide) zdb zhf rfl ?_
     refine za2 (es:=[[.i (-1)]]) hS (by decide) zaw zb1 rfl zbU rfl (by decide) (by omega) fun H hS=>?_
     obtain ⟨rr,hrr,hSA⟩:=zak hSA
     refine zaB (bs:=[.agg (Wheel.cells b.Box.Wheel),.agg [.i x.Stand.Place,.i 1],.sl (.id (g1+3+5+3+2+10+9)) 1 (([-1]:List Int).map cI)]) (by decide) rfl rfl ((zjK hrr).le (.k (.k (.cons (.sl _ _ _) .nil)))) ?_
     refine Om (.tup [.agg (Stand.cells rr.1),.i rr.2.1,.i rr.2.2]) ?_
     refine Ox (.agg (Stand.cells rr.1)) ?_
     refine Ox (.i rr.2.1) ?_
     refine Ox (.i rr.2.2) ?_
     refine zbY hS (by decide) zdb (by omega) fun H hS=>?_
     refine zaU (v:=.agg (Stand.cells rr.1)) (ns:=(Stand.cells rr.1)) (L':=[(g1+3+5+3+2+10+15,.cells (Stand.cells rr.1)),(g1+3+5+3+2+10+9,.row 3 1),quB PointT_.cells q preX xs,(g+0,.cells (Bag_.cells al)),(g+2+5,.cells [.mp (g+2+0)]),(g1+3+3,.cells (PointT_.cells x)),(g+2+7+2,.cells [quV 7 q preX xs]),(g+2+0,.obj none (zar (mpw zad zah S1)))]) 0 hS rfl rfl (.behind (by kernel_rfl)) rfl rfl zfp nlb rfl fun H hS=>?_
     refine Oa (.i rr.2.1) ?_
     refine Oa (.i rr.2.2) ?_
     refine Ni ?_
     replace hS:=hS.keep (L':=[(g1+3+5+3+2+10+15,.cells (Stand.cells rr.1)),quB PointT_.cells q preX xs,(g+0,.cells (Bag_.cells al)),(g+2+5,.cells [.mp (g+2+0)]),(g1+3+3,.cells (PointT_.cells x)),(g+2+7+2,.cells [quV 7 q preX xs]),(g+2+0,.obj none (zar (mpw zad zah S1)))]) [true,false,true,true,true,true,true,true] rfl
     refine zbN (L':=[quB PointT_.cells q preX xs,(g+0,.cells (Bag_.cells al)),(g+2+5,.cells [.mp (g+2+0)]),(g1+3+3,.cells (PointT_.cells x)),(g+2+7+2,.cells [quV 7 q preX xs]),(g+2+0,.obj none (zar (mpw zad zah S1)))]) 0 9 hS rfl rfl rfl fun H hS=>?_
     refine Ws ?_
     refine Rg 14 ?_
     refine Om (.fn (.func 129) [] [.ptr (g+0) 0,.ptr (g+2+5) 0,.ptr (g1+3+3) 0,.ptr (g+2+7+2) 0]) ?_
     refine Of ((Stand.cells rr.1)) zde ?_
     refine Olp (.i rr.1.Place) zag zav ?_
     refine zaC (by decide) zbX rfl ?_
     refine zaC (by decide) zch rfl ?_
     refine zaR (v:=.i x.Stand.Credit) 3 hS (by decide) rfl rfl .no (po zag zav) ?_
     refine Oi (.i (w64 (x.Stand.Credit-1))) ?_
     refine zbZ (cs:=[.i rr.1.Place,.i (w64 (x.Stand.Credit-1))]) (by decide) zdb zhf rfl ?_
     refine zaC (by decide) zek rfl ?_
     refine zaR (v:=.agg (Bag_.cells x.in_)) 3 hS (by decide) rfl rfl .no (pg zdc) ?_
     refine zaC (by decide) zgR rfl ?_
     refine zaR (v:=.i x.bought) 3 hS (by decide) rfl rfl .no (po zag zav) ?_
     refine zbZ (cs:=[.i rr.1.Place,.i (w64 (x.Stand.Credit-1)),.i x.in_.c0,.i x.in_.c1,.i x.in_.c2,.i x.in_.c3,.i x.bought]) (by decide) zdS ziS rfl ?_
     refine zlQ (M:=zlg al x (g+0) (g+2+5) (g1+3+3) (g+2+7+2) (g+2+0) q preX (S1,xs)) (L:=[]) (.inl rfl) hS (by decide) rfl rfl (zeE hSA hpre1 (show (ids (zlg al x (g+0) (g+2+5) (g1+3+3) (g+2+7+2) (g+2+0) q preX (S1,xs))).Nodup from hS.nd)) (by omega) ?_
     rintro v M' H g2 ⟨q2,pre2,rfl,rfl,hq2,hpr2⟩ hg2 hS
     have hpre2:∀c,c∈pre2->Go.AM.Pure c:=by rcases hpr2 with rfl | rfl;exact hpre1;exact fun c hc=>by simp at hc
     refine Ni ?_
     exact zao (SA,q2,pre2) (.k (.k (.k (.k (.k (.k .nil)))))) ⟨hS,hpre2,rfl⟩
    ·replace hSA:=ifF hSA hc2
     obtain rfl:=Option.some.inj hSA
     refine Cf hc2 ?_
     refine zaN ?_
     exact zao ((S1,xs),q,preX) (.k (.k (.k (.k (.k (.k .nil)))))) ⟨hS.up (by omega),hpre1,rfl⟩
   ·replace hSA:=ifF hSA hc1
    obtain rfl:=Option.some.inj hSA
    refine On (want:=true) hc1 ?_
    refine On (want:=true) hc1 ?_
    refine On (want:=true) hc1 ?_
    refine On (want:=true) hc1 ?_
    refine Pf (.b false) hc1 ?_
    refine Ni ?_
    refine Ws ?_
    refine zfU (e:=false) rfl rfl ?_
    refine zaN ?_
    exact zao ((S1,xs),q,preX) (.k (.k (.k (.k (.k (.k .nil)))))) ⟨hS.up (by omega),hpre1,rfl⟩
  rintro ⟨SC,q,pre⟩ H g2 ⟨hS,hpre,rfl⟩
  replace hpre:∀c,c∈pre->Go.AM.Pure c:=hpre
  change wpA _ _ _ _ (Fr.of [(0,pA Box_.cells a0),(3,.ptr (g+0) 0),(5,.ptr (g+2+5) 0),(6,.ptr (g+2+7+2) 0),(7,.ptr (g1+3+3) 0),(8,.fn (.func 129) [] [.ptr (g+0) 0,.ptr (g+2+5) 0,.ptr (g1+3+3) 0,.ptr (g+2+7+2) 0])]) _ _
  replace hS:St (·<g) H0 [quB PointT_.cells q pre SC.2,(g+0,.cells (Bag_.cells al)),(g+2+5,.cells [.mp (g+2+0)]),(g1+3+3,.cells (PointT_.cells x)),(g+2+7+2,.cells [quV 7 q pre SC.2]),(g+2+0,.obj none (zar (mpw zad zah SC.1)))] H g2:=hS
  refine Sq ?_
  refine Rg 8 ?_
  refine Om (pA Box_.cells a0) ?_
  refine zg2 (f:=Box_.cells) (p:=a0) (u:=b) (by decide) rfl hb0 ?_
  refine Of ((Box.cells b.Box)) zcP ?_
  refine Of ((Box.cells b.Box)) zbI ?_
  refine Of ((Box.cells b.Box)) zb9 ?_
  refine Olp (.sl .no 1 (b.Box.Wheel.Coins.map cI)) zan zaE ?_
  refine zb8 (n:=b.Box.Wheel.Coins.length) (by decide) rfl (List.length_map _) zaM ?_
  refine Om (.i 0) ?_
  refine Ni ?_
  refine Ws ?_
  refine zaO ?_
  refine zcx (V:=Int×zhB×Nat×List AV) (fun v=>[(0,pA Box_.cells a0),(3,.ptr (g+0) 0),(5,.ptr (g+2+5) 0),(6,.ptr (g+2+7+2) 0),(7,.ptr (g1+3+3) 0),(8,.fn (.func 129) [] [.ptr (g+0) 0,.ptr (g+2+5) 0,.ptr (g1+3+3) 0,.ptr (g+2+7+2) 0]),(77,.i (b.Box.Wheel.Coins.length:Int)),(78,.i v.1)]) (fun v k H' g'=>St (·<g) H0 [quB PointT_.cells v.2.2.1 v.2.2.2 v.2.1.2,(g+0,.cells (Bag_.cells al)),(g+2+5,.cells [.mp (g+2+0)]),(g1+3+3,.cells (PointT_.cells x)),(g+2+7+2,.cells [quV 7 v.2.2.1 v.2.2.2 v.2.1.2]),(g+2+0,.obj none (zar (mpw zad zah v.2.1.1)))] H' g'/\(∀c,c∈v.2.2.2->Go.AM.Pure c)/\zbj n b al x k v.1 v.2.1=some SB) (n:=n) (0,SC,q,pre) (.k (.k (.k (.k (.k (.k (.k (.k .nil)))))))) ⟨hS.up (by omega),hpre,hSB⟩ ?_
  rintro ⟨k,SC,q,pre⟩ m3 H g3 ⟨hS,hpre,hSB⟩
  obtain _ | m3:=m3
  ·exact nomatch (show none=some _ from hSB)
  replace hpre:∀c,c∈pre->Go.AM.Pure c:=hpre
  change wpA _ _ _ _ (Fr.of [(0,pA Box_.cells a0),(3,.ptr (g+0) 0),(5,.ptr (g+2+5) 0),(6,.ptr (g+2+7+2) 0),(7,.ptr (g1+3+3) 0),(8,.fn (.func 129) [] [.ptr (g+0) 0,.ptr (g+2+5) 0,.ptr (g1+3+3) 0,.ptr (g+2+7+2) 0]),(77,.i (b.Box.Wheel.Coins.length:Int)),(78,.i k)]) _ _
  replace hS:St (·<g) H0 [quB PointT_.cells q pre SC.2,(g+0,.cells (Bag_.cells al)),(g+2+5,.cells [.mp (g+2+0)]),(g1+3+3,.cells (PointT_.cells x)),(g+2+7+2,.cells [quV 7 q pre SC.2]),(g+2+0,.obj none (zar (mpw zad zah SC.1)))] H g3:=hS
  unfold zbj at hSB
  refine Sq ?_
  refine Rg 1 ?_
  refine Oi (.b (decide (k<(b.Box.Wheel.Coins.length:Int)))) ?_
  refine Ni ?_
  refine Ws ?_
  refine Sq ?_
  rcases bft (decide (k<(b.Box.Wheel.Coins.length:Int))) with hk1 | hk1
  rotate_left
  ·replace hSB:=ifF hSB hk1
   obtain rfl:=Option.some.inj hSB
   refine Cf hk1 ?_
   refine zcl ?_
   refine zaK ?_
   refine zaI ?_
   refine zaQ ?_
   refine zaH ?_
   exact zbQ (SC,q,pre) (Nat.lt_succ_self _) (.k (.k (.k (.k .nil)))) ⟨(hS.keep (L':=[quB PointT_.cells q pre SC.2,(g+0,.cells (Bag_.cells al)),(g+2+5,.cells [.mp (g+2+0)]),(g+2+7+2,.cells [quV 7 q pre SC.2]),(g+2+0,.obj none (zar (mpw zad zah SC.1)))]) [true,true,true,false,true,true] rfl).up (by omega),hpre,hM⟩
  replace hSB:=ifT hSB hk1
  refine Ct hk1 ?_
  refine zaN ?_
  refine Ws ?_
  obtain ⟨e1,he1,hSB⟩:=zak hSB
  obtain ⟨e2,he2,hSB⟩:=zak hSB
  refine zbi (J:=zhB×Nat×List AV) (fun j=>[(0,pA Box_.cells a0),(3,.ptr (g+0) 0),(5,.ptr (g+2+5) 0),(6,.ptr (g+2+7+2) 0),(7,.ptr (g1+3+3) 0),(8,.fn (.func 129) [] [.ptr (g+0) 0,.ptr (g+2+5) 0,.ptr (g1+3+3) 0,.ptr (g+2+7+2) 0]),(77,.i (b.Box.Wheel.Coins.length:Int)),(78,.i k)]) (fun j H' g'=>St (·<g) H0 [quB PointT_.cells j.2.1 j.2.2 j.1.2,(g+0,.cells (Bag_.cells al)),(g+2+5,.cells [.mp (g+2+0)]),(g1+3+3,.cells (PointT_.cells x)),(g+2+7+2,.cells [quV 7 j.2.1 j.2.2 j.1.2]),(g+2+0,.obj none (zar (mpw zad zah j.1.1)))] H' g'/\(∀c,c∈j.2.2->Go.AM.Pure c)/\zbj n b al x m3 (w64 (k+1)) j.1=some SB) ?_ ?_
  ·rintro ⟨SD,q4,pre4⟩ H g4 ⟨hS,hpre4,hSB⟩
   change wpA _ _ _ _ (Fr.of [(0,pA Box_.cells a0),(3,.ptr (g+0) 0),(5,.ptr (g+2+5) 0),(6,.ptr (g+2+7+2) 0),(7,.ptr (g1+3+3) 0),(8,.fn (.func 129) [] [.ptr (g+0) 0,.ptr (g+2+5) 0,.ptr (g1+3+3) 0,.ptr (g+2+7+2) 0]),(77,.i (b.Box.Wheel.Coins.length:Int)),(78,.i k)]) _ _
   refine Rg 2 ?_
   refine Oi (.i (w64 (k+1))) ?_
   refine Om (.i (w64 (k+1))) ?_
   refine Ni ?_
   exact zbQ (w64 (k+1),SD,q4,pre4) (Nat.lt_succ_self _) (.k (.k (.k (.k (.k (.k (.k (.k .nil)))))))) ⟨hS.up (by omega),hpre4,hSB⟩
  refine zaO ?_
  refine Sq ?_
  refine Rg 2 ?_
  refine Om (.i k) ?_
  refine Oa (.i k) ?_
  refine Ni ?_
  refine Ws ?_
  refine Sq ?_
  refine Sq ?_
  have hS0:=hS
  refine zc3 (n:=8) rfl (by kernel_rfl) ?_
  refine Om (.i k) ?_
  refine zaC (by decide) zek rfl ?_
  refine zfY (z:=k) (by decide) rfl rfl zfa (zf7 he1) ?_
  refine zk2 (xs:=([x.in_.c0,x.in_.c1,x.in_.c2,x.in_.c3]:List Int)) (z:=k) (u:=e1) (off:=0+2) 3 hS (by decide) rfl rfl (.st hS0 3 rfl (by omega)) rfl he1 zag zav ?_
  refine Om (.i k) ?_
  refine zfY (z:=k) (by decide) rfl rfl zfa (zf7 he2) ?_
  refine zk2 (xs:=([al.c0,al.c1,al.c2,al.c3]:List Int)) (z:=k) (u:=e2) (off:=0) 1 hS (by decide) rfl rfl (.st hS0 1 rfl (by omega)) rfl he2 zag zav ?_
  refine Oi (.b (e1==e2)) ?_
  refine Ni ?_
  refine Ws ?_
  rcases bft (e1==e2) with he | he
  ·replace hSB:=ifT hSB he
   refine Ct he ?_
   refine zcl ?_
   refine zaK ?_
   refine zaQ ?_
   exact zao (SC,q,pre) (.k (.k (.k (.k (.k (.k (.k (.k .nil)))))))) ⟨hS.up (by omega),hpre,hSB⟩
  replace hSB:=ifF hSB he
  refine Cf he ?_
  refine zaN ?_
  refine Ws ?_
  obtain ⟨rr,hrr,hSB⟩:=zak hSB
  obtain ⟨u,hu,hSB⟩:=zak hSB
  obtain ⟨SD,hSD,hSB⟩:=zak hSB
  refine Sq ?_
  have hS0:=hS
  refine zc3 (n:=20) rfl (by kernel_rfl) ?_
  refine Om (pA Box_.cells a0) ?_
  refine zg2 (f:=Box_.cells) (p:=a0) (u:=b) (by decide) rfl hb0 ?_
  refine Of ((Box.cells b.Box)) zcP ?_
  refine Of ((Box.cells b.Box)) zbI ?_
  refine Olg (.agg (Wheel.cells b.Box.Wheel)) zcH ?_
  refine zaC (by decide) zbX rfl ?_
  refine zaC (by decide) zde rfl ?_
  refine zaR (v:=.i x.Stand.Place) 3 hS (by decide) rfl rfl (.st hS0 3 rfl (by omega)) (po zag zav) ?_
  refine zbZ (cs:=[.i x.Stand.Place,.i 0]) (by decide) zdb zhf rfl ?_
  refine Om (.i k) ?_
  refine za2 (es:=[[.i k]]) hS (by decide) zaw zb1 rfl zbU rfl (by decide) (by omega) fun H hS=>?_
  refine zaB (bs:=[.agg (Wheel.cells b.Box.Wheel),.agg [.i x.Stand.Place,.i 0],.sl (.id (g3+1+2+8+10)) 1 (([k]:List Int).map cI)]) (by decide) rfl rfl ((zjK hrr).le (.k (.k (.cons (.sl _ _ _) .nil)))) ?_
  refine Om (.tup [.agg (Stand.cells rr.1),.i rr.2.1,.i rr.2.2]) ?_
  refine Ox (.agg (Stand.cells rr.1)) ?_
  refine Ox (.i rr.2.1) ?_
  refine Ox (.i rr.2.2) ?_
  refine zbY hS (by decide) zdb (by omega) fun H hS=>?_
  refine zaU (v:=.agg (Stand.cells rr.1)) (ns:=(Stand.cells rr.1)) (L':=[(g3+1+2+8+16,.cells (Stand.cells rr.1)),(g3+1+2+8+10,.row 3 1),quB PointT_.cells q pre SC.2,(g+0,.cells (Bag_.cells al)),(g+2+5,.cells [.mp (g+2+0)]),(g1+3+3,.cells (PointT_.cells x)),(g+2+7+2,.cells [quV 7 q pre SC.2]),(g+2+0,.obj none (zar (mpw zad zah SC.1)))]) 0 hS rfl rfl (.behind (by kernel_rfl)) rfl rfl zfp nlb rfl fun H hS=>?_
  refine Oa (.i rr.2.1) ?_
  refine Oa (.i rr.2.2) ?_
  refine Ni ?_
  replace hS:=hS.keep (L':=[(g3+1+2+8+16,.cells (Stand.cells rr.1)),quB PointT_.cells q pre SC.2,(g+0,.cells (Bag_.cells al)),(g+2+5,.cells [.mp (g+2+0)]),(g1+3+3,.cells (PointT_.cells x)),(g+2+7+2,.cells [quV 7 q pre SC.2]),(g+2+0,.obj none (zar (mpw zad zah SC.1)))]) [true,false,true,true,true,true,true,true] rfl
  refine zbN (L':=[quB PointT_.cells q pre SC.2,(g+0,.cells (Bag_.cells al)),(g+2+5,.cells [.mp (g+2+0)]),(g1+3+3,.cells (PointT_.cells x)),(g+2+7+2,.cells [quV 7 q pre SC.2]),(g+2+0,.obj none (zar (mpw zad zah SC.1)))]) 0 13 hS rfl rfl rfl fun H hS=>?_
  refine Ws ?_
  refine Sq ?_
  refine Rg 19 ?_
  refine Of ((Stand.cells rr.1)) zde ?_
  refine Olp (.i rr.1.Place) zag zav ?_
  refine zaC (by decide) zbX rfl ?_
  refine zaC (by decide) zch rfl ?_
  refine zaR (v:=.i x.Stand.Credit) 3 hS (by decide) rfl rfl .no (po zag zav) ?_
  refine Of ((Stand.cells rr.1)) zch ?_
  refine Olp (.i rr.1.Credit) zag zav ?_
  refine Oi (.i (w64 (x.Stand.Credit+rr.1.Credit))) ?_
  refine zbZ (cs:=[.i rr.1.Place,.i (w64 (x.Stand.Credit+rr.1.Credit))]) (by decide) zdb zhf rfl ?_
  refine zaC (by decide) zek rfl ?_
  refine zaR (v:=.agg (Bag_.cells x.in_)) 3 hS (by decide) rfl rfl .no (pg zdc) ?_
  refine zaC (by decide) zgR rfl ?_
  refine zaR (v:=.i x.bought) 3 hS (by decide) rfl rfl .no (po zag zav) ?_
  refine Of ((Stand.cells rr.1)) zch ?_
  refine Olp (.i rr.1.Credit) zag zav ?_
  refine Oi (.i (w64 (x.bought+rr.1.Credit))) ?_
  refine zbZ (cs:=[.i rr.1.Place,.i (w64 (x.Stand.Credit+rr.1.Credit)),.i x.in_.c0,.i x.in_.c1,.i x.in_.c2,.i x.in_.c3,.i (w64 (x.bought+rr.1.Credit))]) (by decide) zdS ziS rfl ?_
  refine zbY hS (by decide) zdS (by omega) fun H hS=>?_
  refine zaU (v:=.agg [.i rr.1.Place,.i (w64 (x.Stand.Credit+rr.1.Credit)),.i x.in_.c0,.i x.in_.c1,.i x.in_.c2,.i x.in_.c3,.i (w64 (x.bought+rr.1.Credit))]) (ns:=[.i rr.1.Place,.i (w64 (x.Stand.Credit+rr.1.Credit)),.i x.in_.c0,.i x.in_.c1,.i x.in_.c2,.i x.in_.c3,.i (w64 (x.bought+rr.1.Credit))]) (L':=[(g3+1+2+8+20+17,.cells [.i rr.1.Place,.i (w64 (x.Stand.Credit+rr.1.Credit)),.i x.in_.c0,.i x.in_.c1,.i x.in_.c2,.i x.in_.c3,.i (w64 (x.bought+rr.1.Credit))]),quB PointT_.cells q pre SC.2,(g+0,.cells (Bag_.cells al)),(g+2+5,.cells [.mp (g+2+0)]),(g1+3+3,.cells (PointT_.cells x)),(g+2+7+2,.cells [quV 7 q pre SC.2]),(g+2+0,.obj none (zar (mpw zad zah SC.1)))]) 0 hS rfl rfl .no rfl rfl zhK nlb rfl fun H hS=>?_
  refine Ni ?_
  refine Ws ?_
  refine Sq ?_
  refine Rg 8 ?_
  refine Om (.i k) ?_
  refine zaC (by decide) zek rfl ?_
  refine zfY (z:=k) (by decide) rfl rfl zfa (zf7 he1) ?_
  refine zk2 (xs:=([x.in_.c0,x.in_.c1,x.in_.c2,x.in_.c3]:List Int)) (z:=k) (u:=e1) (off:=0+2) 0 hS (by decide) rfl rfl .no rfl he1 zag zav ?_
  refine Oi (.i (w64 (e1+1))) ?_
  refine zaC (by decide) zek rfl ?_
  refine zfY (z:=k) (by decide) rfl rfl zfa (zf7 he1) ?_
  refine zk3 (xs:=([x.in_.c0,x.in_.c1,x.in_.c2,x.in_.c3]:List Int)) (u:=u) (z:=k) (v:=(w64 (e1+1))) (off:=0+2) (cs':=[.i rr.1.Place,.i (w64 (x.Stand.Credit+rr.1.Credit)),.i (u.getD 0 0),.i (u.getD 1 0),.i (u.getD 2 0),.i (u.getD 3 0),.i (w64 (x.bought+rr.1.Credit))]) (L':=[(g3+1+2+8+20+17,.cells [.i rr.1.Place,.i (w64 (x.Stand.Credit+rr.1.Credit)),.i (u.getD 0 0),.i (u.getD 1 0),.i (u.getD 2 0),.i (u.getD 3 0),.i (w64 (x.bought+rr.1.Credit))]),quB PointT_.cells q pre SC.2,(g+0,.cells (Bag_.cells al)),(g+2+5,.cells [.mp (g+2+0)]),(g1+3+3,.cells (PointT_.cells x)),(g+2+7+2,.cells [quV 7 q pre SC.2]),(g+2+0,.obj none (zar (mpw zad zah SC.1)))]) 0 hS rfl rfl .no rfl rfl hu zhd rfl rfl fun H hS=>?_
  refine Ni ?_
  replace hS:=hS.perm (L':=[quB PointT_.cells q pre SC.2,(g+0,.cells (Bag_.cells al)),(g+2+5,.cells [.mp (g+2+0)]),(g1+3+3,.cells (PointT_.cells x)),(g+2+7+2,.cells [quV 7 q pre SC.2]),(g+2+0,.obj none (zar (mpw zad zah SC.1))),(g3+1+2+8+20+17,.cells [.i rr.1.Place,.i (w64 (x.Stand.Credit+rr.1.Credit)),.i (u.getD 0 0),.i (u.getD 1 0),.i (u.getD 2 0),.i (u.getD 3 0),.i (w64 (x.bought+rr.1.Credit))])]) (List.perm_append_comm (l₁:=[_,_,_,_,_,_]) (l₂:=[_]))
  refine Ws ?_
  refine Rg 4 ?_
  refine Om (.fn (.func 129) [] [.ptr (g+0) 0,.ptr (g+2+5) 0,.ptr (g1+3+3) 0,.ptr (g+2+7+2) 0]) ?_
  refine Om (.i k) ?_
  refine zaR (v:=.agg [.i rr.1.Place,.i (w64 (x.Stand.Credit+rr.1.Credit)),.i (u.getD 0 0),.i (u.getD 1 0),.i (u.getD 2 0),.i (u.getD 3 0),.i (w64 (x.bought+rr.1.Credit))]) 6 hS (by decide) rfl rfl .no (pg zeD) ?_
  refine zlQ (M:=zlg al x (g+0) (g+2+5) (g1+3+3) (g+2+7+2) (g+2+0) q pre SC) (L:=[(g3+1+2+8+20+17,.cells [.i rr.1.Place,.i (w64 (x.Stand.Credit+rr.1.Credit)),.i (u.getD 0 0),.i (u.getD 1 0),.i (u.getD 2 0),.i (u.getD 3 0),.i (w64 (x.bought+rr.1.Credit))])]) (.inl rfl) hS (by decide) rfl rfl (zeE hSD hpre (show (ids (zlg al x (g+0) (g+2+5) (g1+3+3) (g+2+7+2) (g+2+0) q pre SC)).Nodup from (hS.keep (L':=zlg al x (g+0) (g+2+5) (g1+3+3) (g+2+7+2) (g+2+0) q pre SC) [true,true,true,true,true,true,false] rfl).nd)) (by omega) ?_
  rintro v M' H g4 ⟨q4,pre4,rfl,rfl,hq4,hpr4⟩ hg4 hS
  have hpre4:∀c,c∈pre4->Go.AM.Pure c:=by rcases hpr4 with rfl | rfl;exact hpre;exact fun c hc=>by simp at hc
  refine Ni ?_
  refine zaH ?_
  exact zao (SD,q4,pre4) (.k (.k (.k (.k (.k (.k (.k (.k .nil)))))))) ⟨hS.keep (L':=zlg al x (g+0) (g+2+5) (g1+3+3) (g+2+7+2) (g+2+0) q4 pre4 SD) [true,true,true,true,true,true,false] rfl,hpre4,hSB⟩
theorem zel {n:Nat} {a0:Option Box_} {r:Bag_} (hM:zc9 n a0=some r):zaJ Try.prog 100 [pA Box_.cells a0] (.agg [.i r.c0,.i r.c1,.i r.c2,.i r.c3]):=by
 refine zap mixed Try.func100 rfl (by decide) Try.ntmps100 (by simp) ?pure fun H0 g hf=>?_
 case pure=>exact .agg _ (zac (.v _) (zac (.v _) (zac (.v _) (zac (.v _) zaD))))
 rw [zaj]
 change wpA _ _ _ _ (Fr.of [(0,pA Box_.cells a0)]) H0 g
 have hS:=St.start hf
 refine Sq ?_
 refine Rg 1 ?_
 refine zbY hS (by decide) zih (by omega) fun H hS=>?_
 refine Ni ?_
 refine Ws ?_
 refine Sq ?_
 refine Rg 1 ?_
 refine zbY hS (by decide) zih (by omega) fun H hS=>?_
 refine Ni ?_
 refine Ws ?_
 refine zbi (J:=Int×Int×Int×Int) (fun j=>[(2,.ptr (g+0) 0),(3,.ptr (g+1+0) 0)]) (fun j H' g'=>St (·<g) H0 [(g+1+0,.cells [.i j.1,.i j.2.1,.i j.2.2.1,.i j.2.2.2]),(g+0,.cells [.i 0,.i 0,.i 0,.i 0])] H' g'/\zcV j.1 j.2.1 j.2.2.1 j.2.2.2=some r) ?_ ?_
 ·rintro ⟨v1,v2,v3,v4⟩ H g1 ⟨hS,hM⟩
  change wpA _ _ _ _ (Fr.of [(2,.ptr (g+0) 0),(3,.ptr (g+1+0) 0)]) _ _
  replace hS:St (·<g) H0 [(g+1+0,.cells [.i v1,.i v2,.i v3,.i v4]),(g+0,.cells [.i 0,.i 0,.i 0,.i 0])] H g1:=hS
  replace hM:zcV v1 v2 v3 v4=some r:=hM
  refine Sq ?_
  refine Rg 2 ?_
  refine zaR (v:=.agg [.i v1,.i v2,.i v3,.i v4]) 0 hS (by decide) rfl rfl .no (pg zdc) ?_
  refine zaU (v:=.agg [.i v1,.i v2,.i v3,.i v4]) (ns:=[.i v1,.i v2,.i v3,.i v4]) (L':=[(g+1+0,.cells [.i v1,.i v2,.i v3,.i v4]),(g+0,.cells [.i v1,.i v2,.i v3,.i v4])]) 1 hS rfl rfl .no rfl rfl zlT nlb rfl fun H hS=>?_
  refine Ni ?_
  replace hS:=hS.keep (L':=[(g+0,.cells [.i v1,.i v2,.i v3,.i v4])]) [false,true] rfl
  refine Ws ?_
  refine zaT ?_
  refine za5 (x:=.agg [.i v1,.i v2,.i v3,.i v4]) (f:=fun r=>.agg [.i r.c0,.i r.c1,.i r.c2,.i r.c3]) (.inr rfl) ?_ (.refl _) (Option.some.inj hM) hS
  exact (zay (zdh (x:=.agg [.i v1,.i v2,.i v3,.i v4]) 0 hS rfl rfl (pg zdc)))
 ·refine Sq ?_
  refine Rg 7 ?_
  refine Om (pA Box_.cells a0) ?_
  obtain ⟨x5,hx5,hM⟩:=zak hM
  refine zg2 (f:=Box_.cells) (p:=a0) (u:=x5) (by decide) rfl hx5 ?_
  refine Of ((Box.cells x5.Box)) zcP ?_
  refine Of ((Box.cells x5.Box)) zbV ?_
  refine Olp (.sl .no 1 (x5.Box.Found.map cI)) zan zaE ?_
  refine zb8 (n:=x5.Box.Found.length) (by decide) rfl (List.length_map _) zaM ?_
  refine Om (.i 0) ?_
  refine Ni ?_
  refine Ws ?_
  refine zaO ?_
  refine zcx (V:=Int×Int×Int×Int×Int) (fun v=>[(0,pA Box_.cells a0),(2,.ptr (g+0) 0),(3,.ptr (g+1+0) 0),(10,.sl .no 1 (x5.Box.Found.map cI)),(11,.i (x5.Box.Found.length:Int)),(12,.i v.1)]) (fun v m3 H' g'=>St (·<g) H0 [(g+1+0,.cells [.i v.2.1,.i v.2.2.1,.i v.2.2.2.1,.i v.2.2.2.2]),(g+0,.cells [.i 0,.i 0,.i 0,.i 0])] H' g'/\zbz a0 x5 m3 v.1 v.2.1 v.2.2.1 v.2.2.2.1 v.2.2.2.2=some r) (n:=n) (0,0,0,0,0) (.k (.k (.k (.k (.k (.k .nil)))))) ⟨(hS.keep [true,true] rfl).up (by omega),hM⟩ ?_
  rintro ⟨v7,v8,v9,v10,v11⟩ m3 H g3 ⟨hS,hM⟩
  obtain _ | m3:=m3
  ·exact nomatch (show none=some _ from hM)
  change wpA _ _ _ _ (Fr.of [(0,pA Box_.cells a0),(2,.ptr (g+0) 0),(3,.ptr (g+1+0) 0),(10,.sl .no 1 (x5.Box.Found.map cI)),(11,.i (x5.Box.Found.length:Int)),(12,.i v7)]) _ _
  replace hS:St (·<g) H0 [(g+1+0,.cells [.i v8,.i v9,.i v10,.i v11]),(g+0,.cells [.i 0,.i 0,.i 0,.i 0])] H g3:=hS
  replace hM:zco a0 x5 (zbz a0 x5 m3) v7 v8 v9 v10 v11=some r:=hM
  refine Sq ?_
  refine Rg 1 ?_
  refine Oi (.b (decide (v7<(x5.Box.Found.length:Int)))) ?_
  refine Ni ?_
  refine Ws ?_
  refine Sq ?_
  rcases bft (decide (v7<(x5.Box.Found.length:Int))) with hb12 | hb12
  ·replace hM:=ifT hM hb12
   refine Ct hb12 ?_
   refine zaN ?_
   refine Ws ?_
   refine Sq ?_
   refine zaO ?_
   refine Sq ?_
   refine Rg 5 ?_
   refine Om (.i v7) ?_
   obtain ⟨x13,hx13,hM⟩:=zak hM
   refine zaZ (xs:=x5.Box.Found) (f:=cI) (z:=v7) (u:=x13) (by decide) rfl rfl zaw hx13 ?_
   refine Olp (.i x13) zag zav ?_
   refine Oa (.i v7) ?_
   refine Oa (.i x13) ?_
   refine Ni ?_
   refine Ws ?_
   refine Rg 13 ?_
   refine Om (.i v7) ?_
   refine Om (.i x13) ?_
   refine Om (pA Box_.cells a0) ?_
   obtain ⟨x14,hx14,hM⟩:=zak hM
   refine zg2 (f:=Box_.cells) (p:=a0) (u:=x14) (by decide) rfl hx14 ?_
   refine Of ((Box.cells x14.Box)) zcP ?_
   refine Of ((Box.cells x14.Box)) zdx ?_
   refine Olp (.sl .no 1 (x14.Box.Slugs.map cI)) zan zaE ?_
   refine Om (.i v7) ?_
   obtain ⟨x15,hx15,hM⟩:=zak hM
   refine zaZ (xs:=x14.Box.Slugs) (f:=cI) (z:=v7) (u:=x15) (by decide) rfl rfl zaw hx15 ?_
   refine Olp (.i x15) zag zav ?_
   refine Oi (.i (w64 (x13+x15))) ?_
   obtain ⟨x16,hx16,hM⟩:=zak hM
   refine zfY (z:=v7) (by decide) rfl rfl zfa (zf7 hx16) ?_
   obtain ⟨l17,hl17,hM⟩:=zak hM
   refine zk3 (xs:=([v8,v9,v10,v11]:List Int)) (u:=l17) (z:=v7) (v:=(w64 (x13+x15))) (off:=0) (cs':=[.i (l17.getD 0 0),.i (l17.getD 1 0),.i (l17.getD 2 0),.i (l17.getD 3 0)]) (L':=[(g+1+0,.cells [.i (l17.getD 0 0),.i (l17.getD 1 0),.i (l17.getD 2 0),.i (l17.getD 3 0)]),(g+0,.cells [.i 0,.i 0,.i 0,.i 0])]) 0 hS rfl rfl .no rfl rfl hl17 zhd rfl rfl fun H hS=>?_
   refine Ni ?_
   refine zaH ?_
   refine Ws ?_
   refine Rg 2 ?_
   refine Oi (.i (w64 (v7+1))) ?_
   refine Om (.i (w64 (v7+1))) ?_
   refine Ni ?_
   exact zbQ (w64 (v7+1),(l17.getD 0 0),(l17.getD 1 0),(l17.getD 2 0),(l17.getD 3 0)) (Nat.lt_succ_self _) (.k (.k (.k (.k (.k (.k .nil)))))) ⟨(hS.keep [true,true] rfl).up (by omega),hM⟩
  ·replace hM:=ifF hM hb12
   refine Cf hb12 ?_
   refine zcl ?_
   refine zaK ?_
   refine zaI ?_
   refine zaQ ?_
   exact zao (v8,v9,v10,v11) (.k (.k .nil)) ⟨(hS.keep [true,true] rfl).up (by omega),hM⟩
theorem znL (b:Option Box_):Go.AM.Pure (pA Box_.cells b):=zmN (fun x=>zac (.v _) (zac (.sl _ _ (zat (fun x=>(zac (.v _) zaD)))) (zac (.sl _ _ (zat (fun x=>(zac (.v _) zaD)))) (zac (.sl _ _ (zat (fun x=>(zac (.v _) zaD)))) (zac (.sl _ _ (zat (fun x=>(zac (.v _) zaD)))) (zac (.sl _ _ (zat (fun x=>(zac (.v _) zaD)))) (zac (.v _) (zac (.v _) zaD)))))))) b
theorem zfL {n:Nat} {a0:Option Box_} {r:List Int} (hM:zct n a0=some r):zaJ Try.prog 61 [pA Box_.cells a0] (.sl .no 1 (r.map cI)):=by
 refine zap mixed Try.func61 rfl (by decide) Try.ntmps61 (by simp) ?pure fun H0 g hf=>?_
 case pure=>exact .sl _ _ (zat (fun x=>(zac (.v _) zaD)))
 rw [zaj]
 change wpA _ _ _ _ (Fr.of [(0,pA Box_.cells a0)]) H0 g
 have hS:=St.start hf
 unfold zct at hM
 refine Sq ?_
 refine Rg 1 ?_
 refine Oa (.sl .nil 0 []) ?_
 refine Ni ?_
 refine Ws ?_
 refine Sq ?_
 refine Rg 10 ?_
 refine Om (pA Box_.cells a0) ?_
 refine Om (pA Box_.cells a0) ?_
 obtain ⟨r1,hr1,hM⟩:=zak hM
 refine zaB (bs:=[pA Box_.cells a0]) (by decide) rfl rfl ((zel hr1).le (.k .nil)) ?_
 obtain ⟨M,hMM,hM⟩:=zak hM
 refine znw (bs:=[pA Box_.cells a0,.agg (Bag_.cells r1)]) (p:=zar (mpw zad zah M)) hS (by decide) rfl rfl ((zfs hMM).le (.k (.k .nil))) (zac (znL _) (zac (.agg _ (zac (.v _) (zac (.v _) (zac (.v _) (zac (.v _) zaD))))) zaD)) (by omega) fun H hS=>?_
 refine Om (pA Box_.cells a0) ?_
 obtain ⟨r2,hr2,hM⟩:=zak hM
 refine zaB (bs:=[pA Box_.cells a0]) (by decide) rfl rfl ((zel hr2).le (.k .nil)) ?_
 have hok:zhA M=true:=by
  cases h:zhA M with
  | true=>rfl
  | false=>rw [if_neg (by rw [h];simp)] at hM;cases hM
 rw [if_pos hok] at hM
 obtain rfl:=Option.some.inj hM
 refine zlQ (M:=[((g+1+3),.obj none (zar (mpw zad zah M)))]) (L:=[]) (.inl rfl) hS (by decide) rfl rfl (zg6 hok) (by omega) ?_
 rintro v M' H gE ⟨l,jn,hlp,hjn,rfl,rfl⟩ hgE hS
 have hEp:(l.foldl (zaX r2) []).Perm (zdP r2 M):=zl1 hlp
 have hEn:((l.foldl (zaX r2) []).map (·.1)).Nodup:=(zjF r2 l).nd
 have hEk:∀x,x∈l.foldl (zaX r2) []->okI x.1=true:=(zhQ l [] (fun b=>okI b=true) (fun p hp=>by obtain ⟨x,hx,rfl⟩:=List.mem_map.1 (hlp.mem_iff.1 hp);exact List.all_eq_true.1 (Bool.and_eq_true_iff.1 hok).1 x hx) (fun p hp=>by simp at hp) (by simp)).1
 have hEl:(l.foldl (zaX r2) []).length<=1048576:=by have h1:=ziW (al:=r2) l [];have h2:=hlp.length_eq;have h3:=of_decide_eq_true (Bool.and_eq_true_iff.1 hok).2;simp only [List.length_map,List.length_nil] at h1 h2;omega
 refine zp7 (.inl rfl) hS (by decide) rfl rfl zrZ (by omega) fun H hS=>?_
 refine znD (E:=l.foldl (zaX r2) []) (cv:=zad) 0 1 (.inl rfl) hS (by decide) rfl rfl znK (by kernel_rfl) rfl rfl hEk hEn hEl (by omega) ?_
 rw [show zef ((l.foldl (zaX r2) []).map (·.1))=zef ((zdP r2 M).map (·.1)) from zfZ (hEp.map _)]
 refine Oa (.sl .no 1 ((zef ((zdP r2 M).map (·.1))).map cI)) ?_
 refine Ni ?_
 refine zfk [(2,.sl .no 1 ((zef ((zdP r2 M).map (·.1))).map cI))] (.k .nil) ?_
 refine zaT ?_
 refine za5 (x:=.sl .no 1 ((zef ((zdP r2 M).map (·.1))).map cI)) (f:=fun (r:List Int)=>.sl .no 1 (r.map cI)) (.inr rfl) ?_ (.refl _) rfl hS
 exact (zay (zae rfl))
theorem zf2 {n:Nat} {a0:Box} {r:(List Int)×Int} (hM:zeh n a0=some r):zaJ Try.prog 18 [.agg (Box.cells a0)] (.tup [.sl .no 1 (r.1.map cI),.i r.2]):=by
 refine zap mixed Try.func18 rfl (by decide) Try.ntmps18 (by simp) ?pure fun H0 g hf=>?_
 case pure=>exact .tup _ (zac (.sl _ _ (zat (fun x=>(zac (.v _) zaD)))) (zac (.v _) zaD))
 rw [zaj]
 change wpA _ _ _ _ (Fr.of [(0,.agg (Box.cells a0))]) H0 g
 have hS:=St.start hf
 refine Sq ?_
 refine Rg 3 ?_
 refine zcW (v:=.agg (Box.cells a0)) (cs:=(Box.cells a0)) hS (by decide) rfl rfl (by omega) fun H hS=>?_
 refine Oa (.sl .nil 0 []) ?_
 refine Oa (.i 0) ?_
 refine Ni ?_
 refine zbN (L':=[]) 0 1 hS rfl rfl rfl fun H hS=>?_
 refine Ws ?_
 refine Sq ?_
 refine Rg 7 ?_
 refine Olg (.agg (Box.cells a0)) zbf ?_
 obtain ⟨r1,hr1,hM⟩:=zak hM
 refine zaB (bs:=[.agg (Box.cells a0)]) (by decide) rfl rfl ((zew hr1).le (.k .nil)) ?_
 refine Om (.tup [pA Box_.cells r1.1,.i r1.2]) ?_
 refine Ox (pA Box_.cells r1.1) ?_
 refine Ox (.i r1.2) ?_
 refine Oa (pA Box_.cells r1.1) ?_
 refine Oa (.i r1.2) ?_
 refine Ni ?_
 refine Ws ?_
 refine Sq ?_
 refine Sq ?_
 refine Rg 2 ?_
 refine Om (.i r1.2) ?_
 refine Oi (.b (r1.2 != 0)) ?_
 refine Ni ?_
 refine Ws ?_
 rcases bft (r1.2 != 0) with hb2 | hb2
 ·replace hM:=ifT hM hb2
  refine Ct hb2 ?_
  refine Sq ?_
  refine Rg 3 ?_
  refine Om (.i r1.2) ?_
  refine Oa (.sl .nil 0 []) ?_
  refine Oa (.i r1.2) ?_
  refine Ni ?_
  refine Ws ?_
  refine zaT ?_
  refine zau ?_
  refine za5 (x:=.tup [.sl .nil 0 [],.i r1.2]) (f:=fun r=>.tup [.sl .no 1 (r.1.map cI),.i r.2]) (.inr rfl) ?_ (.tupL (.cons (.sl0 .nil 1 0) (.k .nil))) (Option.some.inj hM) hS
  exact (zdH (zae (x:=.sl .nil 0 []) rfl) (zae (x:=.i r1.2) rfl))
 ·replace hM:=ifF hM hb2
  refine Cf hb2 ?_
  refine zaN ?_
  refine Ws ?_
  refine Sq ?_
  refine Rg 4 ?_
  refine Om (pA Box_.cells r1.1) ?_
  obtain ⟨r3,hr3,hM⟩:=zak hM
  refine zaB (bs:=[pA Box_.cells r1.1]) (by decide) rfl rfl ((zfL hr3).le (.k .nil)) ?_
  refine Oa (.sl .no 1 (r3.map cI)) ?_
  refine Oa (.i 0) ?_
  refine Ni ?_
  refine Ws ?_
  refine zaT ?_
  refine za5 (x:=.tup [.sl .no 1 (r3.map cI),.i 0]) (f:=fun r=>.tup [.sl .no 1 (r.1.map cI),.i r.2]) (.inr rfl) ?_ (.refl _) (Option.some.inj hM) hS
  exact (zdH (zae (x:=.sl .no 1 (r3.map cI)) rfl) (zae (x:=.i 0) rfl))
theorem zhW {a0:List Int} {r:List Int} (hM:slices_Clone_int a0=some r):zfi Try.prog 161 [.sl .no 1 (a0.map cI)] 3 1 (r.map cI):=by
 have hr:r=a0:=by
  unfold slices_Clone_int app at hM
  split at hM
  ·injection hM with hM;rw [←hM];rfl
  ·cases hM
 refine zmJ mixed Try.func161 rfl (by decide) Try.ntmps161 (by simp) ?pure fun H0 g hf=>?_
 case pure=>exact zat (fun x=>(zac (.v _) zaD))
 rw [zaj]
 change wpA _ _ _ _ (Fr.of [(0,.sl .no 1 (a0.map cI))]) H0 g
 have hS:=St.start hf
 refine Sq ?_
 refine Rg 1 ?_
 refine Oa (.sl .nil 0 []) ?_
 refine Ni ?_
 refine Ws ?_
 refine Sq ?_
 refine Sq ?_
 refine Rg 2 ?_
 refine Om (.sl .no 1 (a0.map cI)) ?_
 refine zyl (t:=22) (tg:=.no) (k:=1) (es:=a0.map cI) (e:=true) (by decide) rfl rfl rfl rfl zaM (fun _=>?_) (fun hnil=>?_)
 ·refine Ni ?_
  refine Ws ?_
  refine zfU (e:=false==true) rfl rfl ?_
  refine zaN ?_
  refine Ws ?_
  refine Sq ?_
  refine Rg 4 ?_
  refine za2 (es:=[]) hS (by decide) zaw zb1 rfl zbU rfl (by decide) (by omega) fun H hS=>?_
  refine Om (.sl .no 1 (a0.map cI)) ?_
  refine zeQ (xs:=([]:List Int)) (ys:=a0) (zs:=r) (f:=cI) (L':=[(g+1+2+0,.row 3 r.length)]) 0 hS (by decide) rfl rfl rfl rfl .no zaw zb1 zbU hM rfl fun H hS=>?_
  refine Oa (.sl (.id (g+1+2+0)) 1 (r.map cI)) ?_
  refine Ni ?_
  refine Ws ?_
  refine zaT ?_
  refine ztQ (j:=g+1+2+0) 0 (.inr rfl) ?_ hS rfl (List.length_map _).symm
  exact zay (zae rfl)
 ·refine Ni ?_
  refine Ws ?_
  refine zjm (e:=true==true) rfl rfl ?_
  refine Sq ?_
  refine Rg 1 ?_
  refine Oa (.sl .nil 0 []) ?_
  refine Ni ?_
  refine Ws ?_
  refine zaT ?_
  refine zau ?_
  refine ztR (k':=0) (.inr rfl) ?_ hS (by decide) (by rw [hr];exact hnil)
  exact zay (zae rfl)
theorem zba {n:Nat} {a0:Option Box_} {a1:List Int} {r:Int} (hM:za1 n a0 a1=some r):zaJ Try.prog 63 [pA Box_.cells a0,.sl .no 1 (a1.map cI)] (.i r):=by
 refine zap mixed Try.func63 rfl (by decide) Try.ntmps63 (by simp) ?pure fun H0 g hf=>?_
 case pure=>exact .v _
 rw [zaj]
 change wpA _ _ _ _ (Fr.of [(0,pA Box_.cells a0),(1,.sl .no 1 (a1.map cI))]) H0 g
 have hS:=St.start hf
 refine Sq ?_
 refine Rg 1 ?_
 refine Oa (.i 0) ?_
 refine Ni ?_
 refine Ws ?_
 refine Sq ?_
 refine Rg 1 ?_
 refine Oa (.i 0) ?_
 refine Ni ?_
 refine Ws ?_
 refine zbi (J:=Int) (fun j=>[(5,.i j)]) (fun j H' g'=>St (·<g) H0 [] H' g'/\zcp j=some r) ?_ ?_
 ·rintro v1 H g1 ⟨hS,hM⟩
  change wpA _ _ _ _ (Fr.of [(5,.i v1)]) _ _
  replace hS:St (·<g) H0 [] H g1:=hS
  replace hM:zcp v1=some r:=hM
  refine Sq ?_
  refine Rg 2 ?_
  refine Om (.i v1) ?_
  refine Oa (.i v1) ?_
  refine Ni ?_
  refine Ws ?_
  refine zaT ?_
  refine za5 (x:=.i v1) (f:=fun r=>.i r) (.inr rfl) ?_ (.refl _) (Option.some.inj hM) hS
  exact (zay (zae (x:=.i v1) rfl))
 ·refine Sq ?_
  refine Rg 3 ?_
  refine Om (.sl .no 1 (a1.map cI)) ?_
  refine zb8 (n:=a1.length) (by decide) rfl (List.length_map _) zaM ?_
  refine Om (.i 0) ?_
  refine Ni ?_
  refine Ws ?_
  refine zaO ?_
  refine zcx (V:=Int×Int) (fun v=>[(0,pA Box_.cells a0),(5,.i v.1),(8,.sl .no 1 (a1.map cI)),(9,.i (a1.length:Int)),(10,.i v.2)]) (fun v m2 H' g'=>St (·<g) H0 [] H' g'/\zbg a0 a1 m2 v.1 v.2=some r) (n:=n) (0,0) (.k (.k (.k (.k (.k .nil))))) ⟨(hS.keep [] rfl).up (by omega),hM⟩ ?_
  rintro ⟨v2,v3⟩ m2 H g2 ⟨hS,hM⟩
  obtain _ | m2:=m2
  ·exact nomatch (show none=some _ from hM)
  change wpA _ _ _ _ (Fr.of [(0,pA Box_.cells a0),(5,.i v2),(8,.sl .no 1 (a1.map cI)),(9,.i (a1.length:Int)),(10,.i v3)]) _ _
  replace hS:St (·<g) H0 [] H g2:=hS
  replace hM:zca a0 a1 (zbg a0 a1 m2) v2 v3=some r:=hM
  refine Sq ?_
  refine Rg 1 ?_
  refine Oi (.b (decide (v3<(a1.length:Int)))) ?_
  refine Ni ?_
  refine Ws ?_
  refine Sq ?_
  rcases bft (decide (v3<(a1.length:Int))) with hb4 | hb4
  ·replace hM:=ifT hM hb4
   refine Ct hb4 ?_
   refine zaN ?_
   refine Ws ?_
   refine Sq ?_
   refine zaO ?_
   refine Sq ?_
   refine Rg 5 ?_
   refine Om (.i v3) ?_
   obtain ⟨x5,hx5,hM⟩:=zak hM
   refine zaZ (xs:=a1) (f:=cI) (z:=v3) (u:=x5) (by decide) rfl rfl zaw hx5 ?_
   refine Olp (.i x5) zag zav ?_
   refine Oa (.i v3) ?_
   refine Oa (.i x5) ?_
   refine Ni ?_
   refine Ws ?_
   refine Rg 14 ?_
   refine Om (.i v2) ?_
   refine Om (.i x5) ?_
   refine Om (pA Box_.cells a0) ?_
   obtain ⟨x6,hx6,hM⟩:=zak hM
   refine zg2 (f:=Box_.cells) (p:=a0) (u:=x6) (by decide) rfl hx6 ?_
   refine Of ((Box.cells x6.Box)) zcP ?_
   refine Of ((Box.cells x6.Box)) zbI ?_
   refine Of ((Box.cells x6.Box)) zb9 ?_
   refine Olp (.sl .no 1 (x6.Box.Wheel.Coins.map cI)) zan zaE ?_
   refine Om (.i v3) ?_
   obtain ⟨x7,hx7,hM⟩:=zak hM
   refine zaZ (xs:=x6.Box.Wheel.Coins) (f:=cI) (z:=v3) (u:=x7) (by decide) rfl rfl zaw hx7 ?_
   refine Olp (.i x7) zag zav ?_
   refine Oi (.i (w64 (x5*x7))) ?_
   refine Oi (.i (w64 (v2+(w64 (x5*x7))))) ?_
   refine Oa (.i (w64 (v2+(w64 (x5*x7))))) ?_
   refine Ni ?_
   refine zaH ?_
   refine Ws ?_
   refine Rg 2 ?_
   refine Oi (.i (w64 (v3+1))) ?_
   refine Om (.i (w64 (v3+1))) ?_
   refine Ni ?_
   exact zbQ (w64 (v2+(w64 (x5*x7))),w64 (v3+1)) (Nat.lt_succ_self _) (.k (.k (.k (.k (.k .nil))))) ⟨(hS.keep [] rfl).up (by omega),hM⟩
  ·replace hM:=ifF hM hb4
   refine Cf hb4 ?_
   refine zcl ?_
   refine zaK ?_
   refine zaI ?_
   refine zaQ ?_
   exact zao v2 (.k .nil) ⟨(hS.keep [] rfl).up (by omega),hM⟩
def zoQ (xs ys:List Int) (i:Nat):Prop:=ys.length=xs.length/\∀k,k<xs.length->ys[k]?=if k<i\/xs.length<=k+i then xs[xs.length-1-k]? else xs[k]?
theorem zqd (xs:List Int):zoQ xs xs 0:=⟨rfl,fun k hk=>by rw [if_neg (by omega)]⟩
theorem zsF {xs ys:List Int} {i:Nat} (h:zoQ xs ys i) (hi:xs.length<=2*i+1):ys=xs.reverse:=by
 apply List.ext_getElem?
 intro k
 by_cases hk:k<xs.length
 ·rw [h.2 k hk,List.getElem?_reverse hk]
  split
  ·rfl
  ·congr 1
   omega
 ·rw [List.getElem?_eq_none (by rw [h.1];omega),List.getElem?_eq_none (by rw [List.length_reverse];omega)]
theorem zrp {xs ys:List Int} {i:Nat} (h:zoQ xs ys i) (hi:2*i+1<xs.length) {a b:Int} (ha:ys[xs.length-1-i]?=some a) (hb:ys[i]?=some b):zoQ xs ((ys.set i a).set (xs.length-1-i) b) (i+1):=by
 have ha2:=h.2 (xs.length-1-i) (by omega)
 rw [if_neg (by omega)] at ha2
 have hb2:=h.2 i (by omega)
 rw [if_neg (by omega)] at hb2
 refine ⟨by simp [h.1],fun k hk=>?_⟩
 by_cases h1:k=xs.length-1-i
 ·subst h1
  rw [List.getElem?_set_self (by simp [h.1];omega),if_pos (by omega),←hb,hb2]
  congr 1
  omega
 ·rw [List.getElem?_set_ne (fun e=>h1 e.symm)]
  by_cases h2:k=i
  ·subst h2
   rw [List.getElem?_set_self (by rw [h.1];omega),if_pos (by omega),←ha,ha2]
  ·rw [List.getElem?_set_ne (fun e=>h2 e.symm),h.2 k hk]
   by_cases h3:k<i\/xs.length<=k+i
   ·rw [if_pos h3,if_pos (by omega)]
   ·rw [if_neg h3,if_neg (by omega)]
theorem zgX {xs:List Int} {j:Nat} (hx:xs≠[]) (hl:xs.length<=1048576):zhr Try.prog 162 [.ms j 0 1 xs.length xs.length] j (xs.map cI).flatten (.tup []) (xs.reverse.map cI).flatten:=by
 refine zow mixed Try.func162 rfl (by decide) Try.ntmps162 (by simp) (fun H _=>.tup _ fun c hc=>by simp at hc) (zpO (fun x=>(zac (.v _) zaD)) _) fun H0 g hf hp=>?_
 rw [zaj]
 have hn0:xs.length≠0:=fun e=>hx (List.length_eq_zero_iff.1 e)
 have hms:AV.ms j 0 1 xs.length xs.length=msn j 1 xs.length:=by unfold msn;rw [if_neg hn0]
 rw [hms]
 have hTn:∀ys:List Int,ys.length=xs.length->zeM j xs.length (ys.map cI)=[(j,.cells (ys.map cI).flatten)]:=fun ys hy=>by
  unfold zeM zfw
  rw [if_pos (by rw [List.length_map];exact hy),if_neg (fun e=>by rw [List.map_eq_nil_iff] at e;subst e;exact hn0 hy.symm)]
 change wpA _ _ _ _ (Fr.of [(0,msn j 1 xs.length)]) H0 g
 have hS:=St.startP hf hp
 replace hS:St (fun i=>i<g/\i≠j) H0 ([]++zeM j xs.length (xs.map cI)) H0 g:=by rw [List.nil_append,hTn xs rfl];exact hS
 refine Sq ?_
 refine Rg 5 ?_
 refine Om (msn j 1 xs.length) ?_
 refine ztZ (by decide) rfl zaM ?_
 refine zlL (v:=.i ((xs.length:Int)-1)) (by decide) rfl rfl (by show some (AV.i (w64 ((xs.length:Int)-1)))=_;rw [zaS (by omega) (by omega)]) ?_
 refine Oa (.i 0) ?_
 refine Oa (.i ((xs.length:Int)-1)) ?_
 refine Ni ?_
 refine Ws ?_
 refine zaO ?_
 refine zcx (V:=Nat×List Int) (fun v=>[(0,msn j 1 xs.length),(2,.i (v.1:Int)),(3,.i ((xs.length:Int)-1-(v.1:Int)))]) (fun v k H' g'=>St (fun i=>i<g/\i≠j) H0 ([]++zeM j xs.length (v.2.map cI)) H' g'/\zoQ xs v.2 v.1/\k=xs.length-v.1) (n:=xs.length) (0,xs) (.k (.k (.cons (by show Le _ (AV.i ((xs.length:Int)-1));rw [show ((xs.length:Int)-1-((0:Nat):Int))=(xs.length:Int)-1 by omega];exact .refl _) .nil))) ⟨hS.up (by omega),zqd xs,by omega⟩ ?_
 rintro ⟨p,ys⟩ k H g1 ⟨hS,hR,hk⟩
 change wpA _ _ _ _ (Fr.of [(0,msn j 1 xs.length),(2,.i (p:Int)),(3,.i ((xs.length:Int)-1-(p:Int)))]) _ _
 replace hS:St (fun i=>i<g/\i≠j) H0 ([]++zeM j xs.length (ys.map cI)) H g1:=hS
 replace hR:zoQ xs ys p:=hR
 replace hk:k=xs.length-p:=hk
 refine Sq ?_
 refine Sq ?_
 refine Rg 3 ?_
 refine Om (.i (p:Int)) ?_
 refine Om (.i ((xs.length:Int)-1-(p:Int))) ?_
 refine Oi (.b (decide ((p:Int)<(xs.length:Int)-1-(p:Int)))) ?_
 refine Ni ?_
 refine Ws ?_
 rcases bft (decide ((p:Int)<(xs.length:Int)-1-(p:Int))) with hb | hb
 rotate_left
 ·refine Cf hb ?_
  refine zcl ?_
  refine zaK ?_
  refine zaI ?_
  refine zaQ ?_
  have hb:=of_decide_eq_false hb
  obtain rfl:=zsF hR (by omega)
  refine ⟨.inl rfl,⟨_,rfl,.refl _⟩,fun i hi=>(hS.old i hi).2,?_⟩
  rw [List.nil_append,hTn _ (List.length_reverse)] at hS
  exact hS.get (n:=0) rfl
 have hb2:=of_decide_eq_true hb
 have hlt:2*p+1<xs.length:=by omega
 obtain ⟨a,ha⟩:∃a,ys[xs.length-1-p]?=some a:=⟨_,List.getElem?_eq_getElem (by rw [hR.1];omega)⟩
 obtain ⟨c,hc⟩:∃c,ys[p]?=some c:=⟨_,List.getElem?_eq_getElem (by rw [hR.1];omega)⟩
 have ez:((xs.length:Int)-1-(p:Int)).toNat=xs.length-1-p:=by omega
 have hia:idx ys ((xs.length:Int)-1-(p:Int))=some a:=by unfold idx;rw [if_pos (by omega),ez];exact ha
 have hic:idx ys (p:Int)=some c:=by unfold idx;rw [if_pos (by omega)];exact hc
 refine Ct hb ?_
 refine zaN ?_
 refine Ws ?_
 refine Sq ?_
 refine zaO ?_
 have hS0:=hS
 refine zc3 (n:=16) rfl (by kernel_rfl) ?_
 refine Om (msn j 1 xs.length) ?_
 refine Om (.i (p:Int)) ?_
 refine Om (msn j 1 xs.length) ?_
 refine Om (.i ((xs.length:Int)-1-(p:Int))) ?_
 refine Om (msn j 1 xs.length) ?_
 refine Om (.i ((xs.length:Int)-1-(p:Int))) ?_
 refine zgQ (xs:=ys) (f:=cI) (z:=((xs.length:Int)-1-(p:Int))) (u:=a) hS (by decide) rfl rfl zaw hia ?_
 refine zmM (xs:=ys) (z:=((xs.length:Int)-1-(p:Int))) (u:=a) hS (by decide) rfl hia (.tl hS0 hia (by omega)) zag zav ?_
 refine Om (msn j 1 xs.length) ?_
 refine Om (.i (p:Int)) ?_
 refine zgQ (xs:=ys) (f:=cI) (z:=(p:Int)) (u:=c) hS (by decide) rfl rfl zaw hic ?_
 refine zmM (xs:=ys) (z:=(p:Int)) (u:=c) hS (by decide) rfl hic (.tl hS0 hic (by omega)) zag zav ?_
 refine zgQ (xs:=ys) (f:=cI) (z:=(p:Int)) (u:=c) hS (by decide) rfl rfl zaw hic ?_
 refine zk1 (xs:=ys) (z:=(p:Int)) (u:=c) (v:=a) hS rfl hic (.tl hS0 hic (by omega)) rfl zhd fun H hS=>?_
 have hia2:idx (ys.set (p:Int).toNat a) ((xs.length:Int)-1-(p:Int))=some a:=by
  unfold idx
  rw [if_pos (by omega),ez,Int.toNat_natCast,List.getElem?_set_ne (by omega)]
  exact ha
 refine zgQ (xs:=(ys.set (p:Int).toNat a)) (f:=cI) (z:=((xs.length:Int)-1-(p:Int))) (u:=a) hS (by decide) rfl rfl zaw hia2 ?_
 refine zk1 (xs:=(ys.set (p:Int).toNat a)) (z:=((xs.length:Int)-1-(p:Int))) (u:=a) (v:=c) hS rfl hia2 (.tl hS0 hia (by omega)) rfl zhd fun H hS=>?_
 refine Ni ?_
 refine zaH ?_
 refine Ws ?_
 refine Rg 6 ?_
 refine Om (.i (p:Int)) ?_
 refine zlL (v:=.i ((p+1:Nat):Int)) (by decide) rfl rfl (by show some (AV.i (w64 ((p:Int)+1)))=_;rw [zaS (by omega) (by omega)];rfl) ?_
 refine Om (.i ((xs.length:Int)-1-(p:Int))) ?_
 refine zlL (v:=.i ((xs.length:Int)-1-((p+1:Nat):Int))) (by decide) rfl rfl (by show some (AV.i (w64 ((xs.length:Int)-1-(p:Int)-1)))=_;rw [zaS (by omega) (by omega)];exact congrArg (fun z:Int=>some (AV.i z)) (by omega)) ?_
 refine Oa (.i ((p+1:Nat):Int)) ?_
 refine Oa (.i ((xs.length:Int)-1-((p+1:Nat):Int))) ?_
 refine Ni ?_
 refine zbQ (p+1,(ys.set (p:Int).toNat a).set ((xs.length:Int)-1-(p:Int)).toNat c) (m:=xs.length-(p+1)) (by omega) (.k (.k (.k .nil))) ⟨hS.up (by omega),?_,rfl⟩
 rw [ez,Int.toNat_natCast]
 exact zrp hR hlt ha hc
theorem zoR {κ ν:Type} [DecidableEq κ] {ok:κ->Bool} {z:ν} {M M':List (κ×ν)} (h:M.Perm M') (k:κ):zfD ok z M k=zfD ok z M' k:=by
 have e:mok ok M k=mok ok M' k:=by
  unfold mok
  rw [Bool.eq_iff_iff]
  simp only [Bool.and_eq_true,List.all_eq_true,decide_eq_true_eq]
  rw [(h.map (·.1)).nodup_iff]
  simp only [h.mem_iff]
 unfold zfD
 rw [e]
 by_cases hk:mok ok M' k=true
 ·rw [if_pos hk,if_pos hk]
  have hn:(M.map (·.1)).Nodup:=by
   rw [←e] at hk
   exact of_decide_eq_true (Bool.and_eq_true_iff.1 hk).2
  rw [(zqb z h hn k).1]
 ·rw [if_neg hk,if_neg hk]
def zd3 (j:Nat) (acts:List Int):AV:=if acts=[] then .sl .nil 0 [] else .ms j 0 1 acts.length acts.length
def zd4 (j:Nat) (acts:List Int):BL:=if acts=[] then [] else [(j,.cells (acts.map cI).flatten)]
theorem znM (acts:List Int):(acts.map cI).flatten.length=acts.length:=by rw [zgv,List.length_map]
theorem zmY {P:Program} {N:Nat} {l:List (Nat×AV)} {H:zaa} {g g0 i:Nat} {ops:Array Oper} {K:Fr->zaa->Nat->Prop} {r:List Oper} {d:Nat} {ty:TypeId} {pos:String} {after:Array Edge} {O:Nat->Prop} {H0:zaa} {L:BL} {b:Nat} {t:TypeId} {x y:Operand} {ja:Nat} {acts:List Int} {a:Int} (hS:St O H0 (zd4 ja acts++L) H b) (hd:d<N) (hx:evL N l x=zd3 ja acts) (hy:evL N l y=.sl .clip 1 [[.i a]]) (hk:zax P t=some 1) (hf:zaV P t=true) (hle:acts.length+1<=1048576) (hb:b<=g0+i) (h:∀H',St O H0 (zd4 (g0+i) (acts++[a])++L) H' (g0+i+1)->zaL P N none g0 ops K (i+1) r (Fr.of ((d,zd3 (g0+i) (acts++[a]))::l)) H' g):zaL P N none g0 ops K i (⟨some d,.call { callee:=.builtin .append,args:=#[x,y],argTypes:=#[t,t] },ty,pos,after,none⟩::r) (Fr.of l) H g:=by
 have hsrc:zo7 H 1 (evL N l y)=some (1,[.i a]):=by rw [hy];rfl
 by_cases hn:acts=[]
 ·subst hn
  refine zpT (k:=1) (k':=0) (q:=1) (ds:=[.i a]) hS hd hx hsrc hk hf (by omega) (by omega) hb fun H' hS'=>?_
  exact h H' hS'
 ·have e1:zd4 ja acts=[(ja,.cells (acts.map cI).flatten)]:=if_neg hn
  have e2:zd3 ja acts=.ms ja 0 1 acts.length acts.length:=if_neg hn
  have hn2:acts++[a]≠[]:=by simp
  have hpos:0<acts.length:=List.length_pos_iff.2 hn
  rw [e1] at hS
  rw [e2] at hx
  refine zpS (k:=1) (m:=acts.length) (q:=1) (ds:=[.i a]) hS hd hx (by rw [znM];omega) hsrc hk hf hpos (by omega) hle hb fun H' hS'=>?_
  have e3:zd4 (g0+i) (acts++[a])=[(g0+i,.cells ((acts.map cI).flatten++[.i a]))]:=by
   unfold zd4
   rw [if_neg hn2,List.map_append,List.flatten_append]
   rfl
  have e4:zd3 (g0+i) (acts++[a])=.ms (g0+i) 0 1 (acts.length+1) (acts.length+1):=by
   unfold zd3
   rw [if_neg hn2,List.length_append,List.length_singleton]
  have:=h H'
  rw [e3,e4] at this
  exact this hS'
theorem zgY:zaJ Try.prog 162 [.sl .nil 0 []] (.tup []):=by
 refine zap mixed Try.func162 rfl (by decide) Try.ntmps162 (by simp) (.tup _ zaD) fun H0 g hf=>?_
 rw [zaj]
 change wpA _ _ _ _ (Fr.of [(0,.sl .nil 0 [])]) H0 g
 have hS:=St.start hf
 refine Sq ?_
 refine Rg 5 ?_
 refine Om (.sl .nil 0 []) ?_
 refine zb8 (n:=0) (by decide) rfl rfl zaM ?_
 refine zlL (v:=.i (-1)) (by decide) rfl rfl (by show some (AV.i (w64 (((0:Nat):Int)-1)))=_;rw [zaS (by omega) (by omega)];rfl) ?_
 refine Oa (.i 0) ?_
 refine Oa (.i (-1)) ?_
 refine Ni ?_
 refine Ws ?_
 refine zaO ?_
 refine zcx (V:=Unit) (fun _=>[(0,.sl .nil 0 []),(2,.i 0),(3,.i (-1))]) (fun _ _ H' g'=>St (·<g) H0 [] H' g') (n:=0) () (.k (.k (.k .nil))) (hS.up (by omega)) ?_
 rintro _ k H g1 hS
 change wpA _ _ _ _ (Fr.of [(0,.sl .nil 0 []),(2,.i 0),(3,.i (-1))]) _ _
 refine Sq ?_
 refine Sq ?_
 refine Rg 3 ?_
 refine Om (.i 0) ?_
 refine Om (.i (-1)) ?_
 refine Oi (.b (decide ((0:Int) < -1))) ?_
 refine Ni ?_
 refine Ws ?_
 refine zfU (e:=decide ((0:Int) < -1)) rfl (by decide) ?_
 refine zcl ?_
 refine zaK ?_
 refine zaI ?_
 refine zaQ ?_
 refine za5 (x:=.tup []) (f:=fun (_:Unit)=>.tup []) (u:=()) (.inl rfl) rfl (.refl _) rfl hS
theorem zrq {N:Nat} {l:List (Nat×AV)} {H:zaa} {g g0 i:Nat} {ops:Array Oper} {K:Fr->zaa->Nat->Prop} {r:List Oper} {d:Nat} {ty:TypeId} {pos:String} {after:Array Edge} {O:Nat->Prop} {H0:zaa} {L:BL} {b:Nat} {f:Operand} {args:Array Operand} {ts:Array TypeId} {ja:Nat} {acts:List Int} (hS:St O H0 (zd4 ja acts++L) H b) (hd:d<N) (ht:tgt (evL N l f)=some (162,[],[])) (ha:args.toList.map (evL N l)=[zd3 ja acts]) (hle:acts.length<=1048576) (h:∀H',St O H0 (zd4 ja acts.reverse++L) H' b->zaL Try.prog N none g0 ops K (i+1) r (Fr.of ((d,.tup [])::l)) H' g):zaL Try.prog N none g0 ops K i (⟨some d,.call { callee:=.value f,args:=args,argTypes:=ts },ty,pos,after,none⟩::r) (Fr.of l) H g:=by
 by_cases hn:acts=[]
 ·subst hn
  exact zaB hd ht (by rw [ha];rfl) zgY (h H hS)
 ·have e1:zd4 ja acts=[(ja,.cells (acts.map cI).flatten)]:=if_neg hn
  have e2:zd3 ja acts=.ms ja 0 1 acts.length acts.length:=if_neg hn
  have e3:zd4 ja acts.reverse=[(ja,.cells (acts.reverse.map cI).flatten)]:=if_neg (by simpa using hn)
  rw [e1] at hS
  rw [e2] at ha
  rw [e3] at h
  exact zyj 0 hS hd ht (by rw [ha];rfl) rfl ztP (zgX hn hle) rfl h
theorem zeF {n:Nat} {a0:Option Box_} {purse:List Int} {r:List Int×Bool} (hM:zbK n a0 purse=some r):zaJ Try.prog 134 [pA Box_.cells a0,.sl .no 1 (purse.map cI)] (.tup [.sl .no 1 (r.1.map cI),.b r.2]):=by
 refine zap mixed Try.func134 rfl (by decide) Try.ntmps134 (by simp) ?pure fun H0 g hf=>?_
 case pure=>exact .tup _ (zac (.sl _ _ (zat (fun x=>(zac (.v _) zaD)))) (zac (.v _) zaD))
 rw [zaj]
 change wpA _ _ _ _ (Fr.of [(0,pA Box_.cells a0),(1,.sl .no 1 (purse.map cI))]) H0 g
 have hS:=St.start hf
 unfold zbK at hM
 obtain ⟨b,hb0,hM⟩:=zak hM
 obtain ⟨r1,hr1,hM⟩:=zak hM
 obtain ⟨al,hal,hM⟩:=zak hM
 obtain ⟨M,hMM,hM⟩:=zak hM
 have hok:zhA M=true:=by
  cases h:zhA M with
  | true=>rfl
  | false=>rw [if_neg (by rw [h];simp)] at hM;cases hM
 rw [if_pos hok] at hM
 refine Sq ?_
 refine Rg 2 ?_
 refine Oa (.sl .nil 0 []) ?_
 refine Oa (.b false) ?_
 refine Ni ?_
 refine Ws ?_
 refine Sq ?_
 refine Rg 4 ?_
 refine Om (pA Box_.cells a0) ?_
 refine zaB (bs:=[pA Box_.cells a0]) (by decide) rfl rfl ((zel hr1).le (.k .nil)) ?_
 refine zbY hS (by decide) zih (by omega) fun H hS=>?_
 refine zaU (v:=.agg (Bag_.cells r1)) (ns:=(Bag_.cells r1)) (L':=[(g+2+2,.cells (Bag_.cells r1))]) 0 hS rfl rfl .no rfl rfl zlT nlb rfl fun H hS=>?_
 refine Ni ?_
 refine Ws ?_
 refine Sq ?_
 refine Sq ?_
 refine Rg 3 ?_
 refine Om (.sl .no 1 (purse.map cI)) ?_
 refine zb8 (n:=purse.length) (by decide) rfl (List.length_map _) zaM ?_
 refine Om (.i 0) ?_
 refine Ni ?_
 refine Ws ?_
 refine zaO ?_
 refine zcx (V:=Int×Bag_) (fun v=>[(0,pA Box_.cells a0),(6,.ptr (g+2+2) 0),(17,.sl .no 1 (purse.map cI)),(18,.i (purse.length:Int)),(19,.i v.1)]) (fun v k H' g'=>St (·<g) H0 [(g+2+2,.cells (Bag_.cells v.2))] H' g'/\zbr purse k v.1 v.2=some al) (n:=n) (0,r1) (.k (.k (.k (.k (.k .nil))))) ⟨hS.up (by omega),hal⟩ ?_
 rintro ⟨k,ar⟩ m H g1 ⟨hS,hal⟩
 obtain _ | m:=m
 ·exact nomatch (show none=some _ from hal)
 change wpA _ _ _ _ (Fr.of [(0,pA Box_.cells a0),(6,.ptr (g+2+2) 0),(17,.sl .no 1 (purse.map cI)),(18,.i (purse.length:Int)),(19,.i k)]) _ _
 replace hS:St (·<g) H0 [(g+2+2,.cells (Bag_.cells ar))] H g1:=hS
 unfold zbr at hal
 refine Sq ?_
 refine Rg 1 ?_
 refine Oi (.b (decide (k<(purse.length:Int)))) ?_
 refine Ni ?_
 refine Ws ?_
 refine Sq ?_
 rcases bft (decide (k<(purse.length:Int))) with hk1 | hk1
 ·replace hal:=ifT hal hk1
  refine Ct hk1 ?_
  refine zaN ?_
  refine Ws ?_
  obtain ⟨x,hx,hal⟩:=zak hal
  obtain ⟨e,he,hal⟩:=zak hal
  obtain ⟨u,hu,hal⟩:=zak hal
  refine Sq ?_
  refine zaO ?_
  refine Sq ?_
  refine Rg 5 ?_
  refine Om (.i k) ?_
  refine zaZ (xs:=purse) (f:=cI) (z:=k) (u:=x) (by decide) rfl rfl zaw hx ?_
  refine Olp (.i x) zag zav ?_
  refine Oa (.i k) ?_
  refine Oa (.i x) ?_
  refine Ni ?_
  refine Ws ?_
  refine Rg 7 ?_
  refine Om (.i k) ?_
  refine zfY (z:=k) (by decide) rfl rfl zfa (zf7 he) ?_
  refine zk2 (xs:=([ar.c0,ar.c1,ar.c2,ar.c3]:List Int)) (z:=k) (u:=e) (off:=0) 0 hS (by decide) rfl rfl .no rfl he zag zav ?_
  refine Om (.i x) ?_
  refine Oi (.i (w64 (e+x))) ?_
  refine zfY (z:=k) (by decide) rfl rfl zfa (zf7 he) ?_
  refine zk3 (xs:=([ar.c0,ar.c1,ar.c2,ar.c3]:List Int)) (u:=u) (z:=k) (v:=(w64 (e+x))) (off:=0) (cs':=[.i (u.getD 0 0),.i (u.getD 1 0),.i (u.getD 2 0),.i (u.getD 3 0)]) (L':=[(g+2+2,.cells [.i (u.getD 0 0),.i (u.getD 1 0),.i (u.getD 2 0),.i (u.getD 3 0)])]) 0 hS rfl rfl .no rfl rfl hu zhd rfl rfl fun H hS=>?_
  refine Ni ?_
  refine zaH ?_
  refine Ws ?_
  refine Rg 2 ?_
  refine Oi (.i (w64 (k+1))) ?_
  refine Om (.i (w64 (k+1))) ?_
  refine Ni ?_
  exact zbQ (w64 (k+1),⟨u.getD 0 0,u.getD 1 0,u.getD 2 0,u.getD 3 0⟩) (Nat.lt_succ_self _) (.k (.k (.k (.k (.k .nil))))) ⟨hS.up (by omega),hal⟩
 replace hal:=ifF hal hk1
 obtain rfl:=Option.some.inj hal
 refine Cf hk1 ?_
 refine zcl ?_
 refine zaK ?_
 refine zaI ?_
 refine zaQ ?_
 refine Ws ?_
 refine Sq ?_
 refine Rg 4 ?_
 refine Om (pA Box_.cells a0) ?_
 refine zaR (v:=.agg (Bag_.cells ar)) 0 hS (by decide) rfl rfl .no (pg zdc) ?_
 refine znw (bs:=[pA Box_.cells a0,.agg (Bag_.cells ar)]) (p:=zar (mpw zad zah M)) hS (by decide) rfl rfl ((zfs hMM).le (.k (.k .nil))) (zac (znL _) (zac (.agg _ (zac (.v _) (zac (.v _) (zac (.v _) (zac (.v _) zaD))))) zaD)) (by omega) fun H hS=>?_
 refine Oa (.mp (g1+1+2)) ?_
 refine Ni ?_
 refine Ws ?_
 refine Sq ?_
 refine Rg 4 ?_
 refine Om (.mp (g1+1+2)) ?_
 refine zaR (v:=.agg (Bag_.cells ar)) 1 hS (by decide) rfl rfl .no (pg zdc) ?_
 refine zlQ (M:=[((g1+1+2),.obj none (zar (mpw zad zah M)))]) (L:=[(g+2+2,.cells (Bag_.cells ar))]) (.inl rfl) hS (by decide) rfl rfl (zg6 hok) (by omega) ?_
 rintro v M' H gE ⟨l,jn,hlp,hjn,rfl,rfl⟩ hgE hS
 have hEp:(l.foldl (zaX ar) []).Perm (zdP ar M):=zl1 hlp
 have hEn:((l.foldl (zaX ar) []).map (·.1)).Nodup:=(zjF ar l).nd
 have hEk:∀x,x∈l.foldl (zaX ar) []->okI x.1=true:=(zhQ l [] (fun b=>okI b=true) (fun p hp=>by obtain ⟨x,hx,rfl⟩:=List.mem_map.1 (hlp.mem_iff.1 hp);exact List.all_eq_true.1 (Bool.and_eq_true_iff.1 hok).1 x hx) (fun p hp=>by simp at hp) (by simp)).1
 have hEl:(l.foldl (zaX ar) []).length<=1048576:=by have h1:=ziW (al:=ar) l [];have h2:=hlp.length_eq;have h3:=of_decide_eq_true (Bool.and_eq_true_iff.1 hok).2;simp only [List.length_map,List.length_nil] at h1 h2;omega
 have hlk:∀x,zfD okI zaA (l.foldl (zaX ar) []) x=zfD okI zaA (zdP ar M) x:=zoR hEp
 refine Oa (.mp jn) ?_
 refine Ni ?_
 replace hS:St (·<g) H0 [(jn,.obj none (zar (mpw kvI zad (l.foldl (zaX ar) [])))),((g1+1+2),.obj none (zar (mpw zad zah M))),(g+2+2,.cells (Bag_.cells ar))] H gE:=hS
 replace hS:=hS.keep (L':=[(jn,.obj none (zar (mpw kvI zad (l.foldl (zaX ar) [])))),((g1+1+2),.obj none (zar (mpw zad zah M)))]) [true,true,false] rfl
 refine Ws ?_
 refine Sq ?_
 refine Sq ?_
 refine Rg 5 ?_
 refine Om (.mp jn) ?_
 refine zp7 (.inl rfl) hS (by decide) rfl rfl zrZ (by omega) fun H hS=>?_
 refine znD (E:=l.foldl (zaX ar) []) (cv:=zad) 0 1 (.inl rfl) hS (by decide) rfl rfl znK (by kernel_rfl) rfl rfl hEk hEn hEl (by omega) ?_
 rw [show zef ((l.foldl (zaX ar) []).map (·.1))=zef ((zdP ar M).map (·.1)) from zfZ (hEp.map _)]
 generalize zef ((zdP ar M).map (·.1))=bs at hM ⊢
 generalize l.foldl (zaX ar) []=E at hS hlk
 generalize zdP ar M=E2 at hM hlk
 refine zb8 (n:=bs.length) (by decide) rfl (List.length_map _) zaM ?_
 refine Om (.i 0) ?_
 refine Ni ?_
 replace hS:=hS.keep (L':=[(jn,.obj none (zar (mpw kvI zad E))),((g1+1+2),.obj none (zar (mpw zad zah M)))]) [false,true,true] rfl
 refine Ws ?_
 refine zaO ?_
 refine zcx (V:=Int) (fun v=>[(0,pA Box_.cells a0),(9,.mp (g1+1+2)),(10,.mp jn),(39,.sl .no 1 (bs.map cI)),(40,.i (bs.length:Int)),(41,.i v)]) (fun v k H' g'=>St (·<g) H0 [(jn,.obj none (zar (mpw kvI zad E))),((g1+1+2),.obj none (zar (mpw zad zah M)))] H' g'/\zbs n b M E2 bs k v=some r) (n:=n) 0 (.k (.k (.k (.k (.k (.k .nil)))))) ⟨hS.up (by omega),hM⟩ ?_
 rintro k m3 H g3 ⟨hS,hM⟩
 obtain _ | m3:=m3
 ·exact nomatch (show none=some _ from hM)
 change wpA _ _ _ _ (Fr.of [(0,pA Box_.cells a0),(9,.mp (g1+1+2)),(10,.mp jn),(39,.sl .no 1 (bs.map cI)),(40,.i (bs.length:Int)),(41,.i k)]) _ _
 unfold zbs at hM
 refine Sq ?_
 refine Rg 1 ?_
 refine Oi (.b (decide (k<(bs.length:Int)))) ?_
 refine Ni ?_
 refine Ws ?_
 refine Sq ?_
 rcases bft (decide (k<(bs.length:Int))) with hk2 | hk2
 rotate_left
 ·replace hM:=ifF hM hk2
  refine Cf hk2 ?_
  refine zcl ?_
  refine zaK ?_
  refine zaI ?_
  refine zaQ ?_
  refine Ws ?_
  refine Sq ?_
  refine Rg 2 ?_
  refine Oa (.sl .nil 0 []) ?_
  refine Oa (.b false) ?_
  refine Ni ?_
  refine Ws ?_
  refine zaT ?_
  obtain rfl:=Option.some.inj hM
  refine za5 (x:=.tup [.sl .nil 0 [],.b false]) (f:=fun (r:List Int×Bool)=>.tup [.sl .no 1 (r.1.map cI),.b r.2]) (u:=([],false)) (.inr rfl) ?_ (.tupL (.cons (.sl0 _ _ _) (.k .nil))) rfl hS
  exact zdH (zae (x:=.sl .nil 0 []) rfl) (zae (x:=.b false) rfl)
 replace hM:=ifT hM hk2
 refine Ct hk2 ?_
 refine zaN ?_
 refine Ws ?_
 obtain ⟨x,hx,hM⟩:=zak hM
 obtain ⟨wi,hwi,hM⟩:=zak hM
 have hXt:(!wi)=false->∃p s acts,zfD okI zaA E2 x=some p/\zfD zbp zaW M p=some s/\zda M n s []=some acts/\r=(acts.reverse,true):=fun h=>by
  replace hM:=ifF hM h
  obtain ⟨p,hp,hM⟩:=zak hM
  obtain ⟨s,hs,hM⟩:=zak hM
  obtain ⟨acts,hacts,hM⟩:=zak hM
  exact ⟨p,s,acts,hp,hs,hacts,(Option.some.inj hM).symm⟩
 refine zbi (J:=Unit) (fun _=>[(0,pA Box_.cells a0),(9,.mp (g1+1+2)),(10,.mp jn),(39,.sl .no 1 (bs.map cI)),(40,.i (bs.length:Int)),(41,.i k)]) (fun _ H' g'=>St (·<g) H0 [(jn,.obj none (zar (mpw kvI zad E))),((g1+1+2),.obj none (zar (mpw zad zah M)))] H' g'/\zbs n b M E2 bs m3 (w64 (k+1))=some r) ?_ ?_
 ·rintro _ H g4 ⟨hS,hM⟩
  change wpA _ _ _ _ (Fr.of [(0,pA Box_.cells a0),(9,.mp (g1+1+2)),(10,.mp jn),(39,.sl .no 1 (bs.map cI)),(40,.i (bs.length:Int)),(41,.i k)]) _ _
  refine Rg 2 ?_
  refine Oi (.i (w64 (k+1))) ?_
  refine Om (.i (w64 (k+1))) ?_
  refine Ni ?_
  exact zbQ (w64 (k+1)) (Nat.lt_succ_self _) (.k (.k (.k (.k (.k (.k .nil)))))) ⟨hS.up (by omega),hM⟩
 refine zaO ?_
 refine Sq ?_
 refine Rg 3 ?_
 refine zaZ (xs:=bs) (f:=cI) (z:=k) (u:=x) (by decide) rfl rfl zaw hx ?_
 refine Olp (.i x) zag zav ?_
 refine Oa (.i x) ?_
 refine Ni ?_
 refine Ws ?_
 refine Sq ?_
 refine Sq ?_
 have hS0:=hS
 refine zc3 (n:=19) rfl (by kernel_rfl) ?_
 refine Om (.i x) ?_
 refine Om (pA Box_.cells a0) ?_
 refine zg2 (f:=Box_.cells) (p:=a0) (u:=b) (by decide) rfl hb0 ?_
 refine Of ((Box.cells b.Box)) zcP ?_
 refine Of ((Box.cells b.Box)) zgw ?_
 refine Olp (.i b.Box.Plays) zag zav ?_
 refine Om (pA Box_.cells a0) ?_
 refine zg2 (f:=Box_.cells) (p:=a0) (u:=b) (by decide) rfl hb0 ?_
 refine Of ((Box.cells b.Box)) zcP ?_
 refine Of ((Box.cells b.Box)) zgw ?_
 refine Olp (.i b.Box.Plays) zag zav ?_
 refine Om (pA Box_.cells a0) ?_
 refine zg2 (f:=Box_.cells) (p:=a0) (u:=b) (by decide) rfl hb0 ?_
 refine Of ((Box.cells b.Box)) zcP ?_
 refine Of ((Box.cells b.Box)) zjy ?_
 refine Olp (.i b.Box.Skips) zag zav ?_
 refine Oi (.i (w64 (b.Box.Plays+b.Box.Skips))) ?_
 refine zaB (bs:=[.i x,.i b.Box.Plays,.i (w64 (b.Box.Plays+b.Box.Skips))]) (by decide) rfl rfl ((zdG hwi).le (.k (.k (.k .nil)))) ?_
 refine zd8 (by decide) rfl ?_
 refine Ni ?_
 refine Ws ?_
 rcases bft (!wi) with hw | hw
 ·replace hM:=ifT hM hw
  refine Ct hw ?_
  refine zcl ?_
  refine zaK ?_
  refine zaQ ?_
  exact zao () (.k (.k (.k (.k (.k (.k .nil)))))) ⟨hS.up (by omega),hM⟩
 obtain ⟨p,s,acts,hp,hs,hacts,rfl⟩:=hXt hw
 clear hXt hM
 refine Cf hw ?_
 refine zaN ?_
 refine Ws ?_
 refine Sq ?_
 refine Rg 1 ?_
 refine Oa (.sl .nil 0 []) ?_
 refine Ni ?_
 refine Ws ?_
 refine Sq ?_
 refine Sq ?_
 refine Rg 7 ?_
 refine Om (.mp (g1+1+2)) ?_
 refine Om (.mp jn) ?_
 refine Om (.i x) ?_
 refine zjs (kv:=kvI) (ok:=okI) (cv:=zad) (z:=zaA) (M:=E) (k:=x) (u:=p) (v':=.agg (PointT_.cells p)) 0 zsC hS (by decide) rfl rfl rfl zhJ zmW (by rw [hlk];exact hp) (zmX p) ?_
 refine zjs (kv:=zad) (ok:=zbp) (cv:=zah) (z:=zaW) (M:=M) (k:=p) (u:=s) (v':=.agg (Step_.cells s)) 1 zjG hS (by decide) rfl rfl rfl zfb zgz hs (zjI s) ?_
 refine zbY hS (by decide) zfH (by omega) fun H hS=>?_
 refine zaU (v:=.agg (Step_.cells s)) (ns:=(Step_.cells s)) (L':=[(g3+1+3+19+1+5,.cells (Step_.cells s)),(jn,.obj none (zar (mpw kvI zad E))),((g1+1+2),.obj none (zar (mpw zad zah M)))]) 0 hS rfl rfl .no rfl rfl zhL nlb rfl fun H hS=>?_
 refine Ni ?_
 refine Ws ?_
 refine zaO ?_
 have hSb:=hS.keep (L':=zd4 0 []++[((g3+1+3+19+1+5),.cells (Step_.cells s)),((g1+1+2),.obj none (zar (mpw zad zah M)))]) [true,false,true] rfl
 refine zcx (V:=Step_×List Int×Nat×Nat) (fun v=>[(9,.mp (g1+1+2)),(13,zd3 v.2.2.1 v.2.1),(14,.ptr v.2.2.2 0)]) (fun v k H' g'=>St (·<g) H0 (zd4 v.2.2.1 v.2.1++[(v.2.2.2,.cells (Step_.cells v.1)),((g1+1+2),.obj none (zar (mpw zad zah M)))]) H' g'/\v.2.1.length<=1048576/\zda M k v.1 v.2.1=some acts) (n:=n) (s,[],0,(g3+1+3+19+1+5)) (.k (.k (.k .nil))) ⟨hSb.up (by omega),by simp,hacts⟩ ?_
 rintro ⟨s,ac,ja,si⟩ m H g5 ⟨hS,hal5,hacts⟩
 obtain _ | m:=m
 ·exact nomatch (show none=some _ from hacts)
 change wpA _ _ _ _ (Fr.of [(9,.mp (g1+1+2)),(13,zd3 ja ac),(14,.ptr si 0)]) _ _
 replace hS:St (·<g) H0 (zd4 ja ac++[(si,.cells (Step_.cells s)),((g1+1+2),.obj none (zar (mpw zad zah M)))]) H g5:=hS
 replace hal5:ac.length<=1048576:=hal5
 unfold zda at hacts
 have hSr:St (·<g) H0 ([(si,.cells (Step_.cells s)),((g1+1+2),.obj none (zar (mpw zad zah M)))]++zd4 ja ac) H g5:=hS.perm List.perm_append_comm
 refine Sq ?_
 refine Sq ?_
 refine Rg 3 ?_
 refine zaC (by decide) zkx rfl ?_
 refine zaR (v:=.i s.act) 0 hSr (by decide) rfl rfl .no (po zag zav) ?_
 refine Oi (.b (s.act != -2)) ?_
 refine Ni ?_
 refine Ws ?_
 rcases bft (s.act != -2) with hb5 | hb5
 ·replace hacts:=ifT hacts hb5
  have hle:ac.length+1<=1048576:=by
   by_cases h:ac.length+1<=1048576
   ·exact h
   ·rw [if_neg h] at hacts;cases hacts
  rw [if_pos hle] at hacts
  obtain ⟨s2,hs2,hacts⟩:=zak hacts
  refine Ct hb5 ?_
  refine zaN ?_
  refine Ws ?_
  refine Sq ?_
  refine zaO ?_
  refine Rg 6 ?_
  refine Om (zd3 ja ac) ?_
  refine zaC (by decide) zkx rfl ?_
  refine zaR (v:=.i s.act) 0 hSr (by decide) rfl rfl .no (po zag zav) ?_
  refine zlN (e:=3) (es:=[[.i s.act]]) (by decide) zaw zb1 rfl zbU rfl (by decide) ?_
  refine zmY (ja:=ja) (acts:=ac) (a:=s.act) hS (by decide) rfl rfl zaw zbU hle (by omega) fun H hS=>?_
  refine Oa (zd3 (g5+3+4) (ac++[s.act])) ?_
  refine Ni ?_
  refine zaH ?_
  refine Ws ?_
  replace hS:=hS.perm (L':=[(si,.cells (Step_.cells s)),((g1+1+2),.obj none (zar (mpw zad zah M)))]++zd4 (g5+3+4) (ac++[s.act])) List.perm_append_comm
  refine Sq ?_
  refine Sq ?_
  refine Rg 1 ?_
  refine zaR (v:=.agg (Step_.cells s)) 0 hS (by decide) rfl rfl .no (pg zp5) ?_
  refine Ni ?_
  refine Ws ?_
  refine Rg 2 ?_
  refine zbY hS (by decide) zfH (by omega) fun H hS=>?_
  refine zaU (v:=.agg (Step_.cells s)) (ns:=(Step_.cells s)) (L':=((g5+3+6+1+0),.cells (Step_.cells s))::([(si,.cells (Step_.cells s)),((g1+1+2),.obj none (zar (mpw zad zah M)))]++zd4 (g5+3+4) (ac++[s.act]))) 0 hS rfl rfl .no rfl rfl zhL nlb rfl fun H hS=>?_
  refine Ni ?_
  refine Ws ?_
  refine Rg 5 ?_
  refine Om (.mp (g1+1+2)) ?_
  refine zaC (by decide) zoK rfl ?_
  refine zaR (v:=.agg (PointT_.cells s.from_)) 0 hS (by decide) rfl rfl .no (pg zeD) ?_
  refine zjs (kv:=zad) (ok:=zbp) (cv:=zah) (z:=zaW) (M:=M) (k:=s.from_) (u:=s2) (v':=.agg (Step_.cells s2)) 2 zjG hS (by decide) rfl rfl rfl zfb zgz hs2 (zjI s2) ?_
  refine zaU (v:=.agg (Step_.cells s2)) (ns:=(Step_.cells s2)) (L':=((g5+3+6+1+0),.cells (Step_.cells s2))::([(si,.cells (Step_.cells s)),((g1+1+2),.obj none (zar (mpw zad zah M)))]++zd4 (g5+3+4) (ac++[s.act]))) 0 hS rfl rfl .no rfl rfl zhL nlb rfl fun H hS=>?_
  refine Ni ?_
  have hS3:=(hS.keep (L':=[((g5+3+6+1+0),.cells (Step_.cells s2)),((g1+1+2),.obj none (zar (mpw zad zah M)))]++zd4 (g5+3+4) (ac++[s.act])) [true,false,true] rfl).perm (L':=zd4 (g5+3+4) (ac++[s.act])++[((g5+3+6+1+0),.cells (Step_.cells s2)),((g1+1+2),.obj none (zar (mpw zad zah M)))]) List.perm_append_comm
  exact zbQ (s2,ac++[s.act],(g5+3+4),(g5+3+6+1+0)) (Nat.lt_succ_self _) (.k (.k (.k .nil))) ⟨hS3.up (by omega),by rw [List.length_append,List.length_singleton];exact hle,hacts⟩
 replace hacts:=ifF hacts hb5
 obtain rfl:=Option.some.inj hacts
 refine Cf hb5 ?_
 refine zcl ?_
 refine zaK ?_
 refine zaI ?_
 refine zaQ ?_
 refine Ws ?_
 refine Sq ?_
 refine Rg 2 ?_
 refine Om (zd3 ja ac) ?_
 refine zrq (ja:=ja) (acts:=ac) hS (by decide) rfl rfl hal5 fun H hS=>?_
 refine Ni ?_
 refine zfk [(13,zd3 ja ac)] (.k .nil) ?_
 by_cases hn:ac=[]
 ·subst hn
  change wpA _ _ _ _ (Fr.of [(13,.sl .nil 0 [])]) _ _
  refine Sq ?_
  refine Rg 3 ?_
  refine Om (.sl .nil 0 []) ?_
  refine Oa (.sl .nil 0 []) ?_
  refine Oa (.b true) ?_
  refine Ni ?_
  refine Ws ?_
  refine zaT ?_
  refine za5 (x:=.tup [.sl .nil 0 [],.b true]) (f:=fun (r:List Int×Bool)=>.tup [.sl .no 1 (r.1.map cI),.b r.2]) (u:=([],true)) (.inr rfl) ?_ (.tupL (.cons (.sl0 _ _ _) (.k .nil))) rfl hS
  exact zdH (zae (x:=.sl .nil 0 []) rfl) (zae (x:=.b true) rfl)
 have e1:zd3 ja ac=.ms ja 0 1 ac.length ac.length:=if_neg hn
 have e2:zd4 ja ac.reverse=[(ja,.cells (ac.reverse.map cI).flatten)]:=if_neg (by simpa using hn)
 rw [e1]
 rw [e2] at hS
 refine Sq ?_
 refine Rg 3 ?_
 refine Om (.ms ja 0 1 ac.length ac.length) ?_
 refine Oa (.ms ja 0 1 ac.length ac.length) ?_
 refine Oa (.b true) ?_
 refine Ni ?_
 replace hS:=hS.perm (L':=[(si,.cells (Step_.cells s)),((g1+1+2),.obj none (zar (mpw zad zah M)))]++[(ja,.cells (ac.reverse.map cI).flatten)]) List.perm_append_comm
 refine zt0 (t:=4) (es:=ac.reverse.map cI) hS rfl (by decide) (fun e he=>by obtain ⟨z,_,rfl⟩:=List.mem_map.1 he;rfl) (zeN (fun x c hc=>by simp at hc;subst hc;exact ⟨_,rfl⟩)) (by simp) (by rw [List.take_of_length_le (by rw [znM];simp)]) fun H hS=>?_
 refine Ws ?_
 refine zaT ?_
 refine za5 (x:=.tup [.sl .no 1 (ac.reverse.map cI),.b true]) (f:=fun (r:List Int×Bool)=>.tup [.sl .no 1 (r.1.map cI),.b r.2]) (u:=(ac.reverse,true)) (.inr rfl) ?_ (.refl _) rfl hS
 exact zdH (zae (x:=.sl .no 1 (ac.reverse.map cI)) rfl) (zae (x:=.b true) rfl)
def zij (t:Nat):List Gap_->AV
 | []=>.sl .nil 0 []
 | x::gs=>.sl (.id t) 2 ((x::gs).map Gap_.cells)
def zjL (t:Nat):List Gap_->BL
 | []=>[]
 | x::gs=>[(t,.row 94 (x::gs).length)]
def gM (oc t:Nat) (gs:List Gap_):BL:=(oc,.cells [zij t gs])::zjL t gs
def gT (oc:Nat) (gs:List Gap_) (_:Nat) (v:AV) (M:BL):Prop:=∃t,v=.tup []/\M=gM oc t gs
theorem znN (gs:List Gap_):∀e,e∈gs.map Gap_.cells->∀c,c∈e->Go.AM.Pure c:=zat (fun x=>zac (.sl _ _ (zat (fun x=>(zac (.v _) zaD)))) (zac (.sl _ _ (zat (fun x=>(zac (.v _) zaD)))) zaD))
theorem zwm {oc t:Nat} {gs:List Gap_}:InB In (gM oc t gs):=fun p cs hp e c hc H hH=>by
 cases gs with
 | nil =>
  obtain rfl:=List.mem_singleton.1 hp
  obtain rfl:[AV.sl .nil 0 []]=cs:=by injection e
  obtain rfl:c=.sl .nil 0 []:=by simpa using hc
  exact .sl _ _ _ (fun t h=>by cases h) (fun e h=>by simp at h)
 | cons x gs =>
  have hr:=hH (t,.row 94 (x::gs).length) (by simp [gM,zjL])
  simp only [gM,zjL,List.mem_cons,List.not_mem_nil,or_false] at hp
  rcases hp with rfl | rfl
  ·obtain rfl:[zij t (x::gs)]=cs:=by injection e
   obtain rfl:c=zij t (x::gs):=by simpa using hc
   exact .sl _ _ _ (fun t2 h=>by injection h with h;subst h;exact ⟨_,_,hr⟩) (fun e he c hc=>(znN _ e he c hc).inH)
  ·cases e
theorem zjM {oc t i:Nat} {gs:List Gap_}:i∈ids (gM oc t gs)↔i=oc\/gs≠[]/\i=t:=by
 cases gs<;>simp [gM,zjL,ids]
theorem zr1 (oc t:Nat) (gs gs2:List Gap_) (g:Nat):∃v M',gT oc gs2 g v M'/\(ids M').Nodup/\∀i,i∈ids M'->i∈ids (gM oc t gs)\/g<=i:=by
 refine ⟨.tup [],_,⟨max g (oc+1),rfl,rfl⟩,?_,fun i hi=>?_⟩
 ·cases gs2<;>simp [gM,zjL,ids]<;>omega
 ·rcases zjM.1 hi with rfl | ⟨_,rfl⟩
  ·exact .inl (zjM.2 (.inl rfl))
  ·exact .inr (Nat.le_max_left _ _)
theorem zmZ {P:Program} {N:Nat} {fr:Fr} {H H0:zaa} {g b oc t t2:Nat} {gs gs2:List Gap_} {ex:Exit} {rs:List ResultVar} (he:ex=.normal\/ex=.ret) (hx:zga P N fr H rs=some (.tup [])) (hS:St (fun i=>i<g/\i∉ids (gM oc t gs)) H0 (gM oc t2 gs2) H b) (hb:g<=b) (hi:∀i,i∈ids (gM oc t2 gs2)->i∈ids (gM oc t gs)\/g<=i) :
  (ex=.normal\/ex=.ret)/\∃v M' b1,gT oc gs2 g v M'/\(∃x,zga P N fr H rs=some x/\Le v x)/\(∀H,Has H M'->In H v)/\InB In M'/\(∀i,i<g/\i∉ids (gM oc t gs)->H i=H0 i)/\Has H M'/\zaY H b1/\g<=b1/\(ids M').Nodup/\(∀i,i∈ids M'->i∈ids (gM oc t gs)\/g<=i)/\(∀p,p∈gM oc t gs->p.1∉ids M'->p.2≠.ice/\∀cs,p.2≠.cells cs):=by
 refine ⟨he,.tup [],gM oc t2 gs2,b,⟨t2,rfl,rfl⟩,⟨_,hx,.refl _⟩,fun H _=>(show Go.AM.Pure _ from .tup _ zaD).inH,zwm,fun i hi=>(hS.old i hi).2,fun p hp=>(hS.has p hp).2.2,hS.fr,hb,hS.nd,hi,fun p hp hn=>?_⟩
 cases gs with
 | nil =>
  obtain rfl:=List.mem_singleton.1 hp
  exact absurd (zjM.2 (.inl rfl)) hn
 | cons x gs =>
  simp only [gM,zjL,List.mem_cons,List.not_mem_nil,or_false] at hp
  rcases hp with rfl | rfl
  ·exact absurd (zjM.2 (.inl rfl)) hn
  ·exact ⟨fun h=>(by cases h),fun cs h=>(by cases h)⟩
theorem zkA {P:Program} {N:Nat} {fr:Fr} {H H0:zaa} {g b oc t t2:Nat} {gs gs2:List Gap_} {ex:Exit} {rs:List ResultVar} (he:ex=.normal\/ex=.ret) (hx:zga P N fr H rs=some (.tup [])) (hS:St (fun i=>i<g/\i∉ids (gM oc t gs)) H0 (gM oc t2 gs2) H b) (hb:g<=b) (hi:gs2=[]\/gs≠[]/\t2=t\/g<=t2) :
  (ex=.normal\/ex=.ret)/\∃v M' b1,gT oc gs2 g v M'/\(∃x,zga P N fr H rs=some x/\Le v x)/\(∀H,Has H M'->In H v)/\InB In M'/\(∀i,i<g/\i∉ids (gM oc t gs)->H i=H0 i)/\Has H M'/\zaY H b1/\g<=b1/\(ids M').Nodup/\(∀i,i∈ids M'->i∈ids (gM oc t gs)\/g<=i)/\(∀p,p∈gM oc t gs->p.1∉ids M'->p.2≠.ice/\∀cs,p.2≠.cells cs) :=
 zmZ he hx hS hb fun i hi2=>by
  rcases zjM.1 hi2 with rfl | ⟨h1,rfl⟩
  ·exact .inl (zjM.2 (.inl rfl))
  ·rcases hi with h | ⟨h2,rfl⟩ | h
   ·exact absurd h h1
   ·exact .inl (zjM.2 (.inr ⟨h2,rfl⟩))
   ·exact .inr h
theorem zfM {n:Nat} {a:Option Box_} {purse:List Int} {gs:List Gap_} {r:Unit×List Gap_} (hM:zaz n a purse gs=some r) {oc t:Nat} (hnd:(ids (gM oc t gs)).Nodup):zoC Try.prog 133 [.sl .no 1 (purse.map cI),.ptr oc 0,.ep [pA Box_.cells a]] (gM oc t gs) (gT oc r.2):=by
 refine zjA mixed Try.func133 rfl (by decide) Try.ntmps133 (by simp) (zr1 oc t gs r.2) fun H0 g hf hp=>?_
 rw [zaj]
 change wpA _ _ _ _ (Fr.of [(0,.sl .no 1 (purse.map cI)),(1,.ptr oc 0),(2,.ep [pA Box_.cells a])]) H0 g
 have hS:=St.startH hf hnd hp
 have hog:oc<g:=(hS.has (oc,_) (List.mem_cons_self ..)).2.1
 cases gs with
 | nil =>
  unfold zaz at hM
  replace hS:St (fun i=>i<g/\i∉ids (gM oc t [])) H0 [(oc,.cells [.sl .nil 0 []])] H0 g:=hS
  refine Sq ?_
  refine Sq ?_
  have hS0:=hS
  refine zc3 (n:=15) rfl (by kernel_rfl) ?_
  refine zaR (v:=.sl .nil 0 []) 0 hS (by decide) rfl rfl (.st hS0 0 rfl (by omega)) (po zeu zfx) ?_
  refine zb8 (n:=0) (by decide) rfl rfl zhH ?_
  refine Oi (.b (decide (((0:Nat):Int)>0))) ?_
  refine Om (.b (decide (((0:Nat):Int)>0))) ?_
  refine zbE (j:=3) (e:=(decide (((0:Nat):Int)>0))) (want:=true) (by decide) rfl (by decide) ?_
  refine zbE (j:=3) (e:=(decide (((0:Nat):Int)>0))) (want:=true) (by decide) rfl (by decide) ?_
  refine zbE (j:=3) (e:=(decide (((0:Nat):Int)>0))) (want:=true) (by decide) rfl (by decide) ?_
  refine zbE (j:=3) (e:=(decide (((0:Nat):Int)>0))) (want:=true) (by decide) rfl (by decide) ?_
  refine zbE (j:=3) (e:=(decide (((0:Nat):Int)>0))) (want:=true) (by decide) rfl (by decide) ?_
  refine zbE (j:=3) (e:=(decide (((0:Nat):Int)>0))) (want:=true) (by decide) rfl (by decide) ?_
  refine zbE (j:=3) (e:=(decide (((0:Nat):Int)>0))) (want:=true) (by decide) rfl (by decide) ?_
  refine zbE (j:=3) (e:=(decide (((0:Nat):Int)>0))) (want:=true) (by decide) rfl (by decide) ?_
  refine zbE (j:=3) (e:=(decide (((0:Nat):Int)>0))) (want:=true) (by decide) rfl (by decide) ?_
  refine zbE (j:=3) (e:=(decide (((0:Nat):Int)>0))) (want:=true) (by decide) rfl (by decide) ?_
  refine zaG (v:=.b false) (e:=(decide (((0:Nat):Int)>0))) (by decide) rfl (by decide) rfl ?_
  refine Ni ?_
  refine Ws ?_
  refine zfU (e:=false) rfl rfl ?_
  refine zaN ?_
  refine Ws ?_
  refine Sq ?_
  refine Rg 8 ?_
  refine Olp (pA Box_.cells a) zf0 zhe ?_
  refine Om (.sl .no 1 (purse.map cI)) ?_
  obtain ⟨e,he,hM⟩:=zak hM
  refine zaB (bs:=[pA Box_.cells a,.sl .no 1 (purse.map cI)]) (by decide) rfl rfl ((zeF he).le (.k (.k .nil))) ?_
  refine Om (.tup [.sl .no 1 (e.1.map cI),.b e.2]) ?_
  refine Ox (.sl .no 1 (e.1.map cI)) ?_
  refine Ox (.b e.2) ?_
  refine Oa (.sl .no 1 (e.1.map cI)) ?_
  refine Oa (.b e.2) ?_
  refine Ni ?_
  refine Ws ?_
  refine Sq ?_
  refine Sq ?_
  refine Rg 2 ?_
  refine Om (.b e.2) ?_
  refine zd8 (by decide) rfl ?_
  refine Ni ?_
  refine Ws ?_
  rcases bft (!e.2) with he2 | he2
  ·replace hM:=ifT hM he2
   obtain rfl:=Option.some.inj hM
   refine Ct he2 ?_
   refine zaT ?_
   refine zau ?_
   exact zkA (t:=t) (gs:=[]) (gs2:=[]) (t2:=t) (.inr rfl) rfl hS (by omega) (.inl rfl)
  ·replace hM:=ifF hM he2
   obtain rfl:=Option.some.inj hM
   refine Cf he2 ?_
   refine zaN ?_
   refine Ws ?_
   refine Sq ?_
   refine Sq ?_
   have hS0:=hS
   refine zc3 (n:=15) rfl (by kernel_rfl) ?_
   refine zaR (v:=.sl .nil 0 []) 0 hS (by decide) rfl rfl (.st hS0 0 rfl (by omega)) (po zeu zfx) ?_
   refine zb8 (n:=0) (by decide) rfl rfl zhH ?_
   refine Oi (.b (decide (((0:Nat):Int)>0))) ?_
   refine Om (.b (decide (((0:Nat):Int)>0))) ?_
   refine zbE (j:=3) (e:=(decide (((0:Nat):Int)>0))) (want:=true) (by decide) rfl (by decide) ?_
   refine zbE (j:=3) (e:=(decide (((0:Nat):Int)>0))) (want:=true) (by decide) rfl (by decide) ?_
   refine zbE (j:=3) (e:=(decide (((0:Nat):Int)>0))) (want:=true) (by decide) rfl (by decide) ?_
   refine zbE (j:=3) (e:=(decide (((0:Nat):Int)>0))) (want:=true) (by decide) rfl (by decide) ?_
   refine zbE (j:=3) (e:=(decide (((0:Nat):Int)>0))) (want:=true) (by decide) rfl (by decide) ?_
   refine zbE (j:=3) (e:=(decide (((0:Nat):Int)>0))) (want:=true) (by decide) rfl (by decide) ?_
   refine zbE (j:=3) (e:=(decide (((0:Nat):Int)>0))) (want:=true) (by decide) rfl (by decide) ?_
   refine zbE (j:=3) (e:=(decide (((0:Nat):Int)>0))) (want:=true) (by decide) rfl (by decide) ?_
   refine zbE (j:=3) (e:=(decide (((0:Nat):Int)>0))) (want:=true) (by decide) rfl (by decide) ?_
   refine zbE (j:=3) (e:=(decide (((0:Nat):Int)>0))) (want:=true) (by decide) rfl (by decide) ?_
   refine zaG (v:=.b false) (e:=(decide (((0:Nat):Int)>0))) (by decide) rfl (by decide) rfl ?_
   refine Ni ?_
   refine Ws ?_
   refine zfU (e:=false) rfl rfl ?_
   refine zaN ?_
   refine Ws ?_
   refine Rg 7 ?_
   refine zaR (v:=.sl .nil 0 []) 0 hS (by decide) rfl rfl .no (po zeu zfx) ?_
   refine Om (.sl .no 1 (purse.map cI)) ?_
   refine Om (.sl .no 1 (e.1.map cI)) ?_
   refine zbZ (cs:=[.sl .no 1 (purse.map cI),.sl .no 1 (e.1.map cI)]) (by decide) zjv zmR rfl ?_
   refine zlN (e:=94) (es:=[[.sl .no 1 (purse.map cI),.sl .no 1 (e.1.map cI)]]) (by decide) zf1 zif rfl zig rfl (by decide) ?_
   refine zjB (k:=2) (k':=0) (e:=94) (es:=[[.sl .no 1 (purse.map cI),.sl .no 1 (e.1.map cI)]]) hS (by decide) rfl rfl zf1 zif zig nlb (by omega) fun H hS=>?_
   refine zaU (v:=.sl (.id (g+15+8+2+15+5)) 2 ([(⟨purse,e.1⟩:Gap_)].map Gap_.cells)) (ns:=[.sl (.id (g+15+8+2+15+5)) 2 ([(⟨purse,e.1⟩:Gap_)].map Gap_.cells)]) (L':=[((g+15+8+2+15+5),.row 94 1),(oc,.cells [.sl (.id (g+15+8+2+15+5)) 2 ([(⟨purse,e.1⟩:Gap_)].map Gap_.cells)])]) 1 hS rfl rfl .no rfl rfl ziQ nlb rfl fun H hS=>?_
   refine Ni ?_
   replace hS:=hS.toHead (L':=gM oc (g+15+8+2+15+5) [(⟨purse,e.1⟩:Gap_)]) 1 nlb rfl
   exact zkA (t:=t) (gs:=[]) (gs2:=[(⟨purse,e.1⟩:Gap_)]) (t2:=(g+15+8+2+15+5)) (.inl rfl) rfl hS (by omega) (.inr (.inr (by omega)))
 | cons x gs =>
  unfold zaz at hM
  replace hS:St (fun i=>i<g/\i∉ids (gM oc t (x::gs))) H0 [(oc,.cells [.sl (.id t) 2 ((x::gs).map Gap_.cells)]),(t,.row 94 (x::gs).length)] H0 g:=hS
  have hpos:decide ((((x::gs).length:Nat):Int)>0)=true:=decide_eq_true (by rw [List.length_cons];omega)
  refine Sq ?_
  refine Sq ?_
  have hS0:=hS
  refine zc3 (n:=15) rfl (by kernel_rfl) ?_
  refine zaR (v:=.sl (.id t) 2 ((x::gs).map Gap_.cells)) 0 hS (by decide) rfl rfl (.st hS0 0 rfl (by omega)) (po zeu zfx) ?_
  refine zb8 (n:=(x::gs).length) (by decide) rfl (List.length_map _) zhH ?_
  refine Oi (.b (decide ((((x::gs).length:Nat):Int)>0))) ?_
  refine Om (.b (decide ((((x::gs).length:Nat):Int)>0))) ?_
  refine Oy (want:=true) hpos ?_
  refine Olp (pA Box_.cells a) zf0 zhe ?_
  refine Oy (want:=true) hpos ?_
  refine Om (.sl .no 1 (purse.map cI)) ?_
  obtain ⟨w1,hw1,hM⟩:=zak hM
  refine Oy (want:=true) hpos ?_
  refine zaB (bs:=[pA Box_.cells a,.sl .no 1 (purse.map cI)]) (by decide) rfl rfl ((zba hw1).le (.k (.k .nil))) ?_
  refine Oy (want:=true) hpos ?_
  refine Olp (pA Box_.cells a) zf0 zhe ?_
  refine Oy (want:=true) hpos ?_
  refine zaR (v:=.sl (.id t) 2 ((x::gs).map Gap_.cells)) 0 hS (by decide) rfl rfl (.st hS0 0 rfl (by omega)) (po zeu zfx) ?_
  refine Oy (want:=true) hpos ?_
  refine zaZ (xs:=x::gs) (f:=Gap_.cells) (z:=0) (u:=x) (by decide) rfl rfl zf1 rfl ?_
  refine Oy (want:=true) hpos ?_
  refine Of ((Gap_.cells x)) zjz ?_
  refine Oy (want:=true) hpos ?_
  refine Olp (.sl .no 1 (x.purse.map cI)) zan zaE ?_
  obtain ⟨w2,hw2,hM⟩:=zak hM
  refine Oy (want:=true) hpos ?_
  refine zaB (bs:=[pA Box_.cells a,.sl .no 1 (x.purse.map cI)]) (by decide) rfl rfl ((zba hw2).le (.k (.k .nil))) ?_
  refine Oy (want:=true) hpos ?_
  refine Oi (.b (decide (w1>w2))) ?_
  refine Pt (.b (decide (w1>w2))) hpos ?_
  refine Ni ?_
  refine Ws ?_
  rcases bft (decide (w1>w2)) with hw | hw
  ·replace hM:=ifT hM hw
   obtain rfl:=Option.some.inj hM
   refine Ct hw ?_
   refine zaT ?_
   refine zau ?_
   exact zkA (t:=t) (gs:=x::gs) (gs2:=x::gs) (t2:=t) (.inr rfl) rfl hS (by omega) (.inr (.inl ⟨by simp,rfl⟩))
  replace hM:=ifF hM hw
  refine Cf hw ?_
  refine zaN ?_
  refine Ws ?_
  refine Sq ?_
  refine Rg 8 ?_
  refine Olp (pA Box_.cells a) zf0 zhe ?_
  refine Om (.sl .no 1 (purse.map cI)) ?_
  obtain ⟨e,he,hM⟩:=zak hM
  refine zaB (bs:=[pA Box_.cells a,.sl .no 1 (purse.map cI)]) (by decide) rfl rfl ((zeF he).le (.k (.k .nil))) ?_
  refine Om (.tup [.sl .no 1 (e.1.map cI),.b e.2]) ?_
  refine Ox (.sl .no 1 (e.1.map cI)) ?_
  refine Ox (.b e.2) ?_
  refine Oa (.sl .no 1 (e.1.map cI)) ?_
  refine Oa (.b e.2) ?_
  refine Ni ?_
  refine Ws ?_
  refine Sq ?_
  refine Sq ?_
  refine Rg 2 ?_
  refine Om (.b e.2) ?_
  refine zd8 (by decide) rfl ?_
  refine Ni ?_
  refine Ws ?_
  rcases bft (!e.2) with he2 | he2
  ·replace hM:=ifT hM he2
   obtain rfl:=Option.some.inj hM
   refine Ct he2 ?_
   refine zaT ?_
   refine zau ?_
   exact zkA (t:=t) (gs:=x::gs) (gs2:=x::gs) (t2:=t) (.inr rfl) rfl hS (by omega) (.inr (.inl ⟨by simp,rfl⟩))
  replace hM:=ifF hM he2
  refine Cf he2 ?_
  refine zaN ?_
  refine Ws ?_
  refine Sq ?_
  refine Sq ?_
  have hS0:=hS
  refine zc3 (n:=15) rfl (by kernel_rfl) ?_
  refine zaR (v:=.sl (.id t) 2 ((x::gs).map Gap_.cells)) 0 hS (by decide) rfl rfl (.st hS0 0 rfl (by omega)) (po zeu zfx) ?_
  refine zb8 (n:=(x::gs).length) (by decide) rfl (List.length_map _) zhH ?_
  refine Oi (.b (decide ((((x::gs).length:Nat):Int)>0))) ?_
  refine Om (.b (decide ((((x::gs).length:Nat):Int)>0))) ?_
  refine Oy (want:=true) hpos ?_
  refine Olp (pA Box_.cells a) zf0 zhe ?_
  refine Oy (want:=true) hpos ?_
  refine Om (.sl .no 1 (purse.map cI)) ?_
  obtain ⟨w3,hw3,hM⟩:=zak hM
  refine Oy (want:=true) hpos ?_
  refine zaB (bs:=[pA Box_.cells a,.sl .no 1 (purse.map cI)]) (by decide) rfl rfl ((zba hw3).le (.k (.k .nil))) ?_
  refine Oy (want:=true) hpos ?_
  refine Olp (pA Box_.cells a) zf0 zhe ?_
  refine Oy (want:=true) hpos ?_
  refine zaR (v:=.sl (.id t) 2 ((x::gs).map Gap_.cells)) 0 hS (by decide) rfl rfl (.st hS0 0 rfl (by omega)) (po zeu zfx) ?_
  refine Oy (want:=true) hpos ?_
  refine zaZ (xs:=x::gs) (f:=Gap_.cells) (z:=0) (u:=x) (by decide) rfl rfl zf1 rfl ?_
  refine Oy (want:=true) hpos ?_
  refine Of ((Gap_.cells x)) zjz ?_
  refine Oy (want:=true) hpos ?_
  refine Olp (.sl .no 1 (x.purse.map cI)) zan zaE ?_
  obtain ⟨w4,hw4,hM⟩:=zak hM
  refine Oy (want:=true) hpos ?_
  refine zaB (bs:=[pA Box_.cells a,.sl .no 1 (x.purse.map cI)]) (by decide) rfl rfl ((zba hw4).le (.k (.k .nil))) ?_
  refine Oy (want:=true) hpos ?_
  refine Oi (.b (decide (w3<w4))) ?_
  refine Pt (.b (decide (w3<w4))) hpos ?_
  refine Ni ?_
  refine Ws ?_
  rcases bft (decide (w3<w4)) with hw2 | hw2
  ·replace hM:=ifT hM hw2
   obtain rfl:=Option.some.inj hM
   refine Ct hw2 ?_
   refine Rg 1 ?_
   refine zaU (v:=.sl .nil 0 []) (ns:=[.sl .nil 0 []]) (L':=[(oc,.cells [.sl .nil 0 []]),(t,.row 94 (x::gs).length)]) 0 hS rfl rfl .no rfl rfl ziQ nlb rfl fun H hS=>?_
   refine Ni ?_
   replace hS:=hS.keep (L':=[(oc,.cells [.sl .nil 0 []])]) [true,false] rfl
   refine Ws ?_
   refine Rg 7 ?_
   refine zaR (v:=.sl .nil 0 []) 0 hS (by decide) rfl rfl .no (po zeu zfx) ?_
   refine Om (.sl .no 1 (purse.map cI)) ?_
   refine Om (.sl .no 1 (e.1.map cI)) ?_
   refine zbZ (cs:=[.sl .no 1 (purse.map cI),.sl .no 1 (e.1.map cI)]) (by decide) zjv zmR rfl ?_
   refine zlN (e:=94) (es:=[[.sl .no 1 (purse.map cI),.sl .no 1 (e.1.map cI)]]) (by decide) zf1 zif rfl zig rfl (by decide) ?_
   refine zjB (k:=2) (k':=0) (e:=94) (es:=[[.sl .no 1 (purse.map cI),.sl .no 1 (e.1.map cI)]]) hS (by decide) rfl rfl zf1 zif zig nlb (by omega) fun H hS=>?_
   refine zaU (v:=.sl (.id (g+15+8+2+15+1+5)) 2 ([(⟨purse,e.1⟩:Gap_)].map Gap_.cells)) (ns:=[.sl (.id (g+15+8+2+15+1+5)) 2 ([(⟨purse,e.1⟩:Gap_)].map Gap_.cells)]) (L':=[((g+15+8+2+15+1+5),.row 94 1),(oc,.cells [.sl (.id (g+15+8+2+15+1+5)) 2 ([(⟨purse,e.1⟩:Gap_)].map Gap_.cells)])]) 1 hS rfl rfl .no rfl rfl ziQ nlb rfl fun H hS=>?_
   refine Ni ?_
   replace hS:=hS.toHead (L':=gM oc (g+15+8+2+15+1+5) [(⟨purse,e.1⟩:Gap_)]) 1 nlb rfl
   exact zkA (t:=t) (gs:=x::gs) (gs2:=[(⟨purse,e.1⟩:Gap_)]) (t2:=(g+15+8+2+15+1+5)) (.inl rfl) rfl hS (by omega) (.inr (.inr (by omega)))
  replace hM:=ifF hM hw2
  obtain ⟨l,hl,hM⟩:=zak hM
  obtain rfl:=Option.some.inj hM
  have hl2:l=x::(gs++[(⟨purse,e.1⟩:Gap_)]):=by
   unfold app at hl
   split at hl
   ·exact (Option.some.inj hl).symm
   ·cases hl
  refine Cf hw2 ?_
  refine zaN ?_
  refine Ws ?_
  refine Rg 7 ?_
  refine zaR (v:=.sl (.id t) 2 ((x::gs).map Gap_.cells)) 0 hS (by decide) rfl rfl .no (po zeu zfx) ?_
  refine Om (.sl .no 1 (purse.map cI)) ?_
  refine Om (.sl .no 1 (e.1.map cI)) ?_
  refine zbZ (cs:=[.sl .no 1 (purse.map cI),.sl .no 1 (e.1.map cI)]) (by decide) zjv zmR rfl ?_
  refine zlN (e:=94) (es:=[[.sl .no 1 (purse.map cI),.sl .no 1 (e.1.map cI)]]) (by decide) zf1 zif rfl zig rfl (by decide) ?_
  refine zeQ (xs:=x::gs) (ys:=[(⟨purse,e.1⟩:Gap_)]) (zs:=l) (f:=Gap_.cells) (L':=[(oc,.cells [.sl (.id t) 2 ((x::gs).map Gap_.cells)]),(t,.row 94 l.length)]) 1 hS (by decide) rfl rfl rfl rfl .no zf1 zif zig hl rfl fun H hS=>?_
  refine zaU (v:=.sl (.id t) 2 (l.map Gap_.cells)) (ns:=[.sl (.id t) 2 (l.map Gap_.cells)]) (L':=[(oc,.cells [.sl (.id t) 2 (l.map Gap_.cells)]),(t,.row 94 l.length)]) 0 hS rfl rfl .no rfl rfl ziQ nlb rfl fun H hS=>?_
  refine Ni ?_
  subst hl2
  exact zkA (t:=t) (gs:=x::gs) (gs2:=x::(gs++[(⟨purse,e.1⟩:Gap_)])) (t2:=t) (.inl rfl) rfl hS (by omega) (.inr (.inl ⟨by simp,rfl⟩))
theorem zqe {n nn:Nat} {a:Option Box_} {rec:(Option Box_)->(List Int)->Int->List Gap_->Option (Unit×List Gap_)} (hrec:∀{a1:List Int} {a2:Int} {gs:List Gap_} {r:Unit×List Gap_},rec a a1 a2 gs=some r->∀{oc t:Nat},(ids (gM oc t gs)).Nodup->zoC Try.prog 132 [pA Box_.cells a,.sl .no 1 (a1.map cI),.i a2,.fn (.func 133) [] [.ptr oc 0,.ep [pA Box_.cells a]]] (gM oc t gs) (gT oc r.2)) {a1:List Int} {a2:Int} {gs:List Gap_} {r:Unit×List Gap_} (hM:zcf n rec (fun x0 s=>zaz nn a x0 s) a a1 a2 gs=some r) {oc t:Nat} (hnd:(ids (gM oc t gs)).Nodup):zoC Try.prog 132 [pA Box_.cells a,.sl .no 1 (a1.map cI),.i a2,.fn (.func 133) [] [.ptr oc 0,.ep [pA Box_.cells a]]] (gM oc t gs) (gT oc r.2):=by
 refine zjA mixed Try.func132 rfl (by decide) Try.ntmps132 (by simp) (zr1 oc t gs r.2) fun H0 g hf hp=>?_
 rw [zaj]
 change wpA _ _ _ _ (Fr.of [(0,pA Box_.cells a),(1,.sl .no 1 (a1.map cI)),(2,.i a2),(3,.fn (.func 133) [] [.ptr oc 0,.ep [pA Box_.cells a]])]) H0 g
 have hS:=St.startH hf hnd hp
 have hog:oc<g:=(hS.has (oc,_) (List.mem_cons_self ..)).2.1
 unfold zcf at hM
 refine Sq ?_
 refine Sq ?_
 refine Rg 10 ?_
 refine Om (.sl .no 1 (a1.map cI)) ?_
 refine zb8 (n:=a1.length) (by decide) rfl (List.length_map _) zaM ?_
 refine Om (pA Box_.cells a) ?_
 obtain ⟨b,hb0,hM⟩:=zak hM
 refine zg2 (f:=Box_.cells) (p:=a) (u:=b) (by decide) rfl hb0 ?_
 refine Of ((Box.cells b.Box)) zcP ?_
 refine Of ((Box.cells b.Box)) zbI ?_
 refine Of ((Box.cells b.Box)) zb9 ?_
 refine Olp (.sl .no 1 (b.Box.Wheel.Coins.map cI)) zan zaE ?_
 refine zb8 (n:=b.Box.Wheel.Coins.length) (by decide) rfl (List.length_map _) zaM ?_
 refine Oi (.b ((a1.length:Int)==(b.Box.Wheel.Coins.length:Int))) ?_
 refine Ni ?_
 refine Ws ?_
 rcases bft ((a1.length:Int)==(b.Box.Wheel.Coins.length:Int)) with hb2 | hb2
 ·replace hM:=ifT hM hb2
  refine Ct hb2 ?_
  refine Sq ?_
  refine Rg 3 ?_
  refine Om (.fn (.func 133) [] [.ptr oc 0,.ep [pA Box_.cells a]]) ?_
  refine Om (.sl .no 1 (a1.map cI)) ?_
  obtain ⟨r3,hr3,hM⟩:=zak hM
  obtain rfl:=Option.some.inj hM
  refine zp8 (M:=gM oc t gs) (L:=[]) (.inl rfl) (by rw [List.append_nil];exact hS) (by decide) rfl rfl (zfM hr3 hnd) (by omega) ?_
  rintro v M' H g2 ⟨t2,rfl,rfl⟩ hg2 hi hS
  rw [List.append_nil] at hS
  refine Ni ?_
  refine Ws ?_
  refine zaT ?_
  refine zau ?_
  exact zmZ (.inr rfl) rfl hS (by omega) fun i h=>(hi i h).imp id fun h=>by omega
 replace hM:=ifF hM hb2
 refine Cf hb2 ?_
 refine zaN ?_
 refine Ws ?_
 refine Sq ?_
 refine Rg 3 ?_
 refine Om (.i a2) ?_
 refine Oi (.i (w64 (a2+1))) ?_
 refine Om (.i 0) ?_
 refine Ni ?_
 refine Ws ?_
 refine zaO ?_
 refine zcx (V:=Int×List Gap_×Nat) (fun v=>[(0,pA Box_.cells a),(1,.sl .no 1 (a1.map cI)),(2,.i a2),(3,.fn (.func 133) [] [.ptr oc 0,.ep [pA Box_.cells a]]),(23,.i (w64 (a2+1))),(24,.i v.1)]) (fun v m2 H' g'=>St (fun i=>i<g/\i∉ids (gM oc t gs)) H0 (gM oc v.2.2 v.2.1) H' g'/\g<=g'/\(∀i,i∈ids (gM oc v.2.2 v.2.1)->i∈ids (gM oc t gs)\/g<=i)/\zbn rec a a1 a2 m2 v.1 v.2.1=some r) (n:=n) (0,gs,t) (.k (.k (.k (.k (.k (.k .nil)))))) ⟨hS.up (by omega),by omega,fun i h=>.inl h,hM⟩ ?_
 rintro ⟨k,gs2,t2⟩ m2 H g2 ⟨hS,hg2,hi,hM⟩
 obtain _ | m2:=m2
 ·exact nomatch (show none=some _ from hM)
 change wpA _ _ _ _ (Fr.of [(0,pA Box_.cells a),(1,.sl .no 1 (a1.map cI)),(2,.i a2),(3,.fn (.func 133) [] [.ptr oc 0,.ep [pA Box_.cells a]]),(23,.i (w64 (a2+1))),(24,.i k)]) _ _
 replace hS:St (fun i=>i<g/\i∉ids (gM oc t gs)) H0 (gM oc t2 gs2) H g2:=hS
 replace hM:zbT rec a a1 a2 (zbn rec a a1 a2 m2) k gs2=some r:=hM
 unfold zbT at hM
 replace hi:∀i,i∈ids (gM oc t2 gs2)->i∈ids (gM oc t gs)\/g<=i:=hi
 refine Sq ?_
 refine Rg 1 ?_
 refine Oi (.b (decide (k<(w64 (a2+1))))) ?_
 refine Ni ?_
 refine Ws ?_
 refine Sq ?_
 rcases bft (decide (k<(w64 (a2+1)))) with hk | hk
 rotate_left
 ·replace hM:=ifF hM hk
  obtain rfl:=Option.some.inj hM
  refine Cf hk ?_
  refine zcl ?_
  refine zaK ?_
  refine zaI ?_
  refine zaQ ?_
  exact zmZ (.inl rfl) rfl hS (by omega) hi
 replace hM:=ifT hM hk
 refine Ct hk ?_
 refine zaN ?_
 refine Ws ?_
 refine Sq ?_
 refine zaO ?_
 refine Sq ?_
 refine Rg 2 ?_
 refine Om (.i k) ?_
 refine Oa (.i k) ?_
 refine Ni ?_
 refine Ws ?_
 refine Rg 11 ?_
 refine Om (pA Box_.cells a) ?_
 refine Om (.sl .no 1 (a1.map cI)) ?_
 obtain ⟨l8,hl8,hM⟩:=zak hM
 refine zsn (bs:=[.sl .no 1 (a1.map cI)]) hS (by decide) rfl rfl ((zhW hl8).le (.k .nil)) (by omega) fun H hS=>?_
 rw [List.length_map] at hS
 refine Om (.i k) ?_
 refine za2 (es:=[[.i k]]) hS (by decide) zaw zb1 rfl zbU rfl (by decide) (by omega) fun H hS=>?_
 obtain ⟨l9,hl9,hM⟩:=zak hM
 refine zeQ (xs:=l8) (ys:=([k]:List Int)) (zs:=l9) (f:=cI) (L':=(g2+1+2+4,.row 3 1)::(g2+1+2+2,.row 3 l9.length)::gM oc t2 gs2) 1 hS (by decide) rfl rfl rfl rfl .no zaw zb1 zbU hl9 rfl fun H hS=>?_
 refine Om (.i a2) ?_
 refine Om (.i k) ?_
 refine Oi (.i (w64 (a2-k))) ?_
 refine Om (.fn (.func 133) [] [.ptr oc 0,.ep [pA Box_.cells a]]) ?_
 obtain ⟨r10,hr10,hM⟩:=zak hM
 have hS2:=hS.perm (L':=gM oc t2 gs2++[(g2+1+2+4,.row 3 1),(g2+1+2+2,.row 3 l9.length)]) (List.perm_append_comm (l₁:=gM oc t2 gs2) (l₂:=[_,_]))
 refine zp8 (M:=gM oc t2 gs2) (L:=[(g2+1+2+4,.row 3 1),(g2+1+2+2,.row 3 l9.length)]) (.inl rfl) hS2 (by decide) rfl rfl ((hrec hr10 (show (ids (gM oc t2 gs2)).Nodup from (hS.keep (L':=gM oc t2 gs2) [false,false] rfl).nd)).le (.k (.cons (.sl _ _ _) (.k (.k .nil))))) (by omega) ?_
 rintro v M' H g3 ⟨t3,rfl,rfl⟩ hg3 hi3 hS
 refine Ni ?_
 refine zaH ?_
 replace hS:=(hS.perm (L':=[(g2+1+2+4,.row 3 1),(g2+1+2+2,.row 3 l9.length)]++gM oc t3 r10.2) List.perm_append_comm).keep (L':=gM oc t3 r10.2) [false,false] rfl
 refine Ws ?_
 refine Rg 2 ?_
 refine Oi (.i (w64 (k+1))) ?_
 refine Om (.i (w64 (k+1))) ?_
 refine Ni ?_
 exact zbQ (w64 (k+1),r10.2,t3) (Nat.lt_succ_self _) (.k (.k (.k (.k (.k (.k .nil)))))) ⟨hS.up (by omega),by omega,fun i h=>(hi3 i h).elim (hi i) fun h=>.inr (by omega),hM⟩
theorem zqf:∀{m nn:Nat} {a:Option Box_} {a1:List Int} {a2:Int} {gs:List Gap_} {r:Unit×List Gap_},zbm m (fun x0 s=>zaz nn a x0 s) a a1 a2 gs=some r->∀{oc t:Nat},(ids (gM oc t gs)).Nodup->zoC Try.prog 132 [pA Box_.cells a,.sl .no 1 (a1.map cI),.i a2,.fn (.func 133) [] [.ptr oc 0,.ep [pA Box_.cells a]]] (gM oc t gs) (gT oc r.2)
 | 0,_,_,_,_,_,_,h=>nomatch (show none=some _ from h)
 | n+1,nn,a,_,_,_,_,h=>fun hnd=>zqe (n:=n) (rec:=zbm n (fun x0 s=>zaz nn a x0 s)) (fun h _ _ hnd=>zqf h hnd) h hnd
theorem zgB {n:Nat} {a0:Option Box_} {r:List Gap_} (hM:zbL n a0=some r):zaJ Try.prog 101 [pA Box_.cells a0] (.sl .no 2 (r.map Gap_.cells)):=by
 refine zap mixed Try.func101 rfl (by decide) Try.ntmps101 (by simp) ?pure fun H0 g hf=>?_
 case pure=>exact .sl _ _ (znN _)
 rw [zaj]
 change wpA _ _ _ _ (Fr.of [(0,pA Box_.cells a0)]) H0 g
 have hS:=St.start hf
 unfold zbL at hM
 obtain ⟨rr,hrr,hM⟩:=zak hM
 obtain rfl:=Option.some.inj hM
 refine Sq ?_
 refine Rg 2 ?_
 refine zcW (v:=pA Box_.cells a0) (cs:=[pA Box_.cells a0]) hS (by decide) rfl (zox _ _) (by omega) fun H hS=>?_
 refine Oa (.sl .nil 0 []) ?_
 refine Ni ?_
 refine zbN (L':=[]) 0 1 hS rfl rfl rfl fun H hS=>?_
 refine Ws ?_
 refine Sq ?_
 refine Rg 1 ?_
 refine zbY hS (by decide) zp0 (by omega) fun H hS=>?_
 refine Ni ?_
 refine Ws ?_
 refine Sq ?_
 refine Rg 3 ?_
 refine Olp (pA Box_.cells a0) zf0 zhe ?_
 refine zfE (first:=[]) (cap:=[.ptr (g+2+0) 0,.ep [pA Box_.cells a0]]) (by decide) rfl rfl ?_
 refine zlQ (M:=gM (g+2+0) 0 []) (L:=[]) (.inl rfl) hS (by decide) rfl rfl ((zqf hrr (by simp [gM,zjL,ids])).le (.k (.cons (.sl0 _ _ _) (.k (.k .nil))))) (by omega) ?_
 rintro v M' H g2 ⟨t2,rfl,rfl⟩ hg2 hS
 refine Ni ?_
 refine Ws ?_
 refine Sq ?_
 refine Rg 2 ?_
 refine zaR (v:=zij t2 rr.2) 0 hS (by decide) rfl rfl .no (po zeu zfx) ?_
 refine Oa (zij t2 rr.2) ?_
 refine Ni ?_
 refine Ws ?_
 refine zaT ?_
 refine za5 (x:=zij t2 rr.2) (f:=fun (r:List Gap_)=>.sl .no 2 (r.map Gap_.cells)) (.inr rfl) (zay (zae rfl)) ?_ rfl hS
 cases rr.2 with
 | nil=>exact .sl0 _ _ _
 | cons x gs=>exact .sl _ _ _
theorem ziH {n:Nat} {a0:Box} {r:(Option Box_)×(List Gap_)×Int} (hM:zdu n a0=some r):zaJ Try.prog 62 [.agg (Box.cells a0)] (.tup [pA Box_.cells r.1,.sl .no 2 (r.2.1.map Gap_.cells),.i r.2.2]):=by
 refine zap mixed Try.func62 rfl (by decide) Try.ntmps62 (by simp) ?pure fun H0 g hf=>?_
 case pure=>exact .tup _ (zac (zmN (fun x=>(zac (.v _) (zac (.sl _ _ (zat (fun x=>(zac (.v _) zaD)))) (zac (.sl _ _ (zat (fun x=>(zac (.v _) zaD)))) (zac (.sl _ _ (zat (fun x=>(zac (.v _) zaD)))) (zac (.sl _ _ (zat (fun x=>(zac (.v _) zaD)))) (zac (.sl _ _ (zat (fun x=>(zac (.v _) zaD)))) (zac (.v _) (zac (.v _) zaD))))))))) _) (zac (.sl _ _ (zat (fun x=>(zac (.sl _ _ (zat (fun x=>(zac (.v _) zaD)))) (zac (.sl _ _ (zat (fun x=>(zac (.v _) zaD)))) zaD))))) (zac (.v _) zaD)))
 rw [zaj]
 change wpA _ _ _ _ (Fr.of [(0,.agg (Box.cells a0))]) H0 g
 have hS:=St.start hf
 refine Sq ?_
 refine Rg 4 ?_
 refine zcW (v:=.agg (Box.cells a0)) (cs:=(Box.cells a0)) hS (by decide) rfl rfl (by omega) fun H hS=>?_
 refine Oa (pA Box_.cells (none:Option Box_)) ?_
 refine Oa (.sl .nil 0 []) ?_
 refine Oa (.i 0) ?_
 refine Ni ?_
 refine zbN (L':=[]) 0 1 hS rfl rfl rfl fun H hS=>?_
 refine Ws ?_
 refine Sq ?_
 refine Rg 7 ?_
 refine Olg (.agg (Box.cells a0)) zbf ?_
 obtain ⟨r1,hr1,hM⟩:=zak hM
 refine zaB (bs:=[.agg (Box.cells a0)]) (by decide) rfl rfl ((zew hr1).le (.k .nil)) ?_
 refine Om (.tup [pA Box_.cells r1.1,.i r1.2]) ?_
 refine Ox (pA Box_.cells r1.1) ?_
 refine Ox (.i r1.2) ?_
 refine Oa (pA Box_.cells r1.1) ?_
 refine Oa (.i r1.2) ?_
 refine Ni ?_
 refine Ws ?_
 refine Sq ?_
 refine Sq ?_
 refine Rg 2 ?_
 refine Om (.i r1.2) ?_
 refine Oi (.b (r1.2 != 0)) ?_
 refine Ni ?_
 refine Ws ?_
 rcases bft (r1.2 != 0) with hb2 | hb2
 ·replace hM:=ifT hM hb2
  refine Ct hb2 ?_
  refine Sq ?_
  refine Rg 4 ?_
  refine Om (.i r1.2) ?_
  refine Oa (pA Box_.cells (none:Option Box_)) ?_
  refine Oa (.sl .nil 0 []) ?_
  refine Oa (.i r1.2) ?_
  refine Ni ?_
  refine Ws ?_
  refine zaT ?_
  refine zau ?_
  refine za5 (x:=.tup [pA Box_.cells (none:Option Box_),.sl .nil 0 [],.i r1.2]) (f:=fun r=>.tup [pA Box_.cells r.1,.sl .no 2 (r.2.1.map Gap_.cells),.i r.2.2]) (.inr rfl) ?_ (.tupL (.k (.cons (.sl0 .nil 2 0) (.k .nil)))) (Option.some.inj hM) hS
  exact (zgt (zae (x:=pA Box_.cells (none:Option Box_)) rfl) (zae (x:=.sl .nil 0 []) rfl) (zae (x:=.i r1.2) rfl))
 ·replace hM:=ifF hM hb2
  refine Cf hb2 ?_
  refine zaN ?_
  refine Ws ?_
  refine Sq ?_
  refine Rg 3 ?_
  refine Om (pA Box_.cells r1.1) ?_
  obtain ⟨r3,hr3,hM⟩:=zak hM
  refine zaB (bs:=[pA Box_.cells r1.1]) (by decide) rfl rfl ((zgB hr3).le (.k .nil)) ?_
  refine Oa (.sl .no 2 (r3.map Gap_.cells)) ?_
  refine Ni ?_
  refine Ws ?_
  refine Sq ?_
  refine Sq ?_
  refine Rg 3 ?_
  refine Om (.sl .no 2 (r3.map Gap_.cells)) ?_
  refine zb8 (n:=r3.length) (by decide) rfl (List.length_map _) zhH ?_
  refine Oi (.b ((r3.length:Int)==0)) ?_
  refine Ni ?_
  refine Ws ?_
  rcases bft ((r3.length:Int)==0) with hb4 | hb4
  ·replace hM:=ifT hM hb4
   refine Ct hb4 ?_
   refine Sq ?_
   refine Rg 3 ?_
   refine Oa (pA Box_.cells (none:Option Box_)) ?_
   refine Oa (.sl .nil 0 []) ?_
   refine Oa (.i 3) ?_
   refine Ni ?_
   refine Ws ?_
   refine zaT ?_
   refine zau ?_
   refine za5 (x:=.tup [pA Box_.cells (none:Option Box_),.sl .nil 0 [],.i 3]) (f:=fun r=>.tup [pA Box_.cells r.1,.sl .no 2 (r.2.1.map Gap_.cells),.i r.2.2]) (.inr rfl) ?_ (.tupL (.k (.cons (.sl0 .nil 2 0) (.k .nil)))) (Option.some.inj hM) hS
   exact (zgt (zae (x:=pA Box_.cells (none:Option Box_)) rfl) (zae (x:=.sl .nil 0 []) rfl) (zae (x:=.i 3) rfl))
  ·replace hM:=ifF hM hb4
   refine Cf hb4 ?_
   refine zaN ?_
   refine Ws ?_
   refine Sq ?_
   refine Rg 5 ?_
   refine Om (pA Box_.cells r1.1) ?_
   refine Om (.sl .no 2 (r3.map Gap_.cells)) ?_
   refine Oa (pA Box_.cells r1.1) ?_
   refine Oa (.sl .no 2 (r3.map Gap_.cells)) ?_
   refine Oa (.i 0) ?_
   refine Ni ?_
   refine zfk [(2,pA Box_.cells r1.1),(3,.sl .no 2 (r3.map Gap_.cells)),(4,.i 0)] (.k (.k (.k .nil))) ?_
   refine zaT ?_
   refine za5 (x:=.tup [pA Box_.cells r1.1,.sl .no 2 (r3.map Gap_.cells),.i 0]) (f:=fun r=>.tup [pA Box_.cells r.1,.sl .no 2 (r.2.1.map Gap_.cells),.i r.2.2]) (.inr rfl) ?_ (.refl _) (Option.some.inj hM) hS
   exact (zgt (zae (x:=pA Box_.cells r1.1) rfl) (zae (x:=.sl .no 2 (r3.map Gap_.cells)) rfl) (zae (x:=.i 0) rfl))
theorem zem {n:Nat} {a0:Box} {r:Int×Int} (hM:zcu n a0=some r):zaJ Try.prog 19 [.agg (Box.cells a0)] (.tup [.i r.1,.i r.2]):=by
 refine zap mixed Try.func19 rfl (by decide) Try.ntmps19 (by simp) ?pure fun H0 g hf=>?_
 case pure=>exact .tup _ (zac (.v _) (zac (.v _) zaD))
 rw [zaj]
 change wpA _ _ _ _ (Fr.of [(0,.agg (Box.cells a0))]) H0 g
 have hS:=St.start hf
 refine Sq ?_
 refine Rg 3 ?_
 refine zcW (v:=.agg (Box.cells a0)) (cs:=(Box.cells a0)) hS (by decide) rfl rfl (by omega) fun H hS=>?_
 refine Oa (.i 0) ?_
 refine Oa (.i 0) ?_
 refine Ni ?_
 refine zbN (L':=[]) 0 1 hS rfl rfl rfl fun H hS=>?_
 refine Ws ?_
 refine Sq ?_
 refine Rg 9 ?_
 refine Olg (.agg (Box.cells a0)) zbf ?_
 obtain ⟨r1,hr1,hM⟩:=zak hM
 refine zaB (bs:=[.agg (Box.cells a0)]) (by decide) rfl rfl ((ziH hr1).le (.k .nil)) ?_
 refine Om (.tup [pA Box_.cells r1.1,.sl .no 2 (r1.2.1.map Gap_.cells),.i r1.2.2]) ?_
 refine Ox (pA Box_.cells r1.1) ?_
 refine Ox (.sl .no 2 (r1.2.1.map Gap_.cells)) ?_
 refine Ox (.i r1.2.2) ?_
 refine Oa (pA Box_.cells r1.1) ?_
 refine Oa (.sl .no 2 (r1.2.1.map Gap_.cells)) ?_
 refine Oa (.i r1.2.2) ?_
 refine Ni ?_
 refine Ws ?_
 refine Sq ?_
 refine Sq ?_
 refine Rg 2 ?_
 refine Om (.i r1.2.2) ?_
 refine Oi (.b (r1.2.2 != 0)) ?_
 refine Ni ?_
 refine Ws ?_
 rcases bft (r1.2.2 != 0) with hb2 | hb2
 ·replace hM:=ifT hM hb2
  refine Ct hb2 ?_
  refine Sq ?_
  refine Rg 3 ?_
  refine Om (.i r1.2.2) ?_
  refine Oa (.i 0) ?_
  refine Oa (.i r1.2.2) ?_
  refine Ni ?_
  refine Ws ?_
  refine zaT ?_
  refine zau ?_
  refine za5 (x:=.tup [.i 0,.i r1.2.2]) (f:=fun r=>.tup [.i r.1,.i r.2]) (.inr rfl) ?_ (.refl _) (Option.some.inj hM) hS
  exact (zdH (zae (x:=.i 0) rfl) (zae (x:=.i r1.2.2) rfl))
 ·replace hM:=ifF hM hb2
  refine Cf hb2 ?_
  refine zaN ?_
  refine Ws ?_
  refine Sq ?_
  refine Rg 8 ?_
  refine Om (pA Box_.cells r1.1) ?_
  refine Om (.sl .no 2 (r1.2.1.map Gap_.cells)) ?_
  obtain ⟨x3,hx3,hM⟩:=zak hM
  refine zaZ (xs:=r1.2.1) (f:=Gap_.cells) (z:=0) (u:=x3) (by decide) rfl rfl zf1 hx3 ?_
  refine Of ((Gap_.cells x3)) zjz ?_
  refine Olp (.sl .no 1 (x3.purse.map cI)) zan zaE ?_
  obtain ⟨r4,hr4,hM⟩:=zak hM
  refine zaB (bs:=[pA Box_.cells r1.1,.sl .no 1 (x3.purse.map cI)]) (by decide) rfl rfl ((zba hr4).le (.k (.k .nil))) ?_
  refine Oa (.i r4) ?_
  refine Oa (.i 0) ?_
  refine Ni ?_
  refine Ws ?_
  refine zaT ?_
  refine za5 (x:=.tup [.i r4,.i 0]) (f:=fun r=>.tup [.i r.1,.i r.2]) (.inr rfl) ?_ (.refl _) (Option.some.inj hM) hS
  exact (zdH (zae (x:=.i r4) rfl) (zae (x:=.i 0) rfl))
end Go.Proofs.Ytenogpmlhpcibaa
