/-
  The code returns what the functions say (printed by gen.py).
  Conditions: none.
-/
import Derived.Test.YtenogpmlhpcibaaWkTakingsSlugs1
import Derived.Test.YtenogpmlhpcibaaAmOx
import Derived.Test.YtenogpmlhpcibaaSh
import Derived.Test.YtenogpmlhpcibaaKs
import Derived.Test.YtenogpmlhpcibaaEn
set_option linter.all false
namespace Go.Proofs.Ytenogpmlhpcibaa
open Go Go.AM Go.Law
set_option linter.unusedVariables false
set_option maxRecDepth 4000
set_option maxHeartbeats 4000000
theorem zhR {n:Nat} {a0:Wheel_} {a1:Int} {a2:Int} {r:Int×Int} (hM:zdC n a0 a1 a2=some r):zaL Try.prog 120 [.agg (Wheel.cells a0.Wheel),.i a1,.i a2] (.tup [.i r.1,.i r.2]):=by
 refine zao mixed Try.func120 rfl (by decide) Try.ntmps120 (by simp) ?pure fun H0 g hf=>?_
 case pure=>exact .tup _ (zac (.v _) (zac (.v _) zaE))
 rw [zaj]
 change wpA _ _ _ _ (Fr.of [(0,.agg (Wheel.cells a0.Wheel)),(1,.i a1),(2,.i a2)]) H0 g
 have hS:=St.start hf
 refine Sq ?_
 refine Rg 3 ?_
 refine zcZ (v:=.agg (Wheel.cells a0.Wheel)) (cs:=(Wheel.cells a0.Wheel)) hS (by decide) rfl rfl (by omega) fun H hS=>?_
 refine Oa (.i 0) ?_
 refine Oa (.i 0) ?_
 refine Ni ?_
 refine zbO (L':=[]) 0 3 hS rfl rfl rfl fun H hS=>?_
 refine Ws ?_
 refine Sq ?_
 refine Rg 4 ?_
 refine Om (.i a1) ?_
 refine Om (.i a2) ?_
 refine Oi (.i (w64 (a1+a2))) ?_
 refine Oa (.i (w64 (a1+a2))) ?_
 refine Ni ?_
 refine Ws ?_
 refine zbm (J:=Int) (fun j=>[(3,.ep (Wheel.cells a0.Wheel)),(7,.i j),(8,.i (w64 (a1+a2)))]) (fun j H' g'=>St (·<g) H0 [] H' g'/\zcA a0 a1 a2 j=some r) ?_ ?_
 ·rintro v1 H g1 ⟨hS,hM⟩
  change wpA _ _ _ _ (Fr.of [(3,.ep (Wheel.cells a0.Wheel)),(7,.i v1),(8,.i (w64 (a1+a2)))]) _ _
  replace hS:St (·<g) H0 [] H g1:=hS
  replace hM:zcA a0 a1 a2 v1=some r:=hM
  refine Sq ?_
  refine Rg 8 ?_
  refine Om (.i (w64 (a1+a2))) ?_
  refine Of ((Wheel.cells a0.Wheel)) zdk ?_
  refine Of ((Wheel.cells a0.Wheel)) zc8 ?_
  refine Olp (.i a0.Wheel.Round) zah zaw ?_
  obtain ⟨q2,hq2,hM⟩:=zal hM
  refine zlD (by decide) rfl rfl (zsj hq2) ?_
  refine Om (.i v1) ?_
  refine Oa (.i q2) ?_
  refine Oa (.i v1) ?_
  refine Ni ?_
  refine Ws ?_
  refine zaT ?_
  refine za5 (x:=.tup [.i q2,.i v1]) (f:=fun r=>.tup [.i r.1,.i r.2]) (.inr rfl) ?_ (.refl _) (Option.some.inj hM) hS
  exact (zdE (zae (x:=.i q2) rfl) (zae (x:=.i v1) rfl))
 ·refine Sq ?_
  refine Rg 5 ?_
  refine Of ((Wheel.cells a0.Wheel)) zdk ?_
  refine Of ((Wheel.cells a0.Wheel)) zfJ ?_
  refine Olp (.sl .no 1 (a0.Wheel.Notches.map cI)) zar zaH ?_
  refine zb7 (n:=a0.Wheel.Notches.length) (by decide) rfl (List.length_map _) zaN ?_
  refine Om (.i 0) ?_
  refine Ni ?_
  refine Ws ?_
  refine zaP ?_
  refine zcE (V:=Int×Int) (fun v=>[(1,.i a1),(3,.ep (Wheel.cells a0.Wheel)),(7,.i v.1),(8,.i (w64 (a1+a2))),(16,.sl .no 1 (a0.Wheel.Notches.map cI)),(17,.i (a0.Wheel.Notches.length:Int)),(18,.i v.2)]) (fun v m2 H' g'=>St (·<g) H0 [] H' g'/\za7 a0 a1 a2 m2 v.1 v.2=some r) (n:=n) (0,0) (.k (.k (.k (.k (.k (.k (.k .nil))))))) ⟨(hS.keep [] rfl).up (by omega),hM⟩ ?_
  rintro ⟨v3,v4⟩ m2 H g2 ⟨hS,hM⟩
  obtain _ | m2:=m2
  ·exact nomatch (show none=some _ from hM)
  change wpA _ _ _ _ (Fr.of [(1,.i a1),(3,.ep (Wheel.cells a0.Wheel)),(7,.i v3),(8,.i (w64 (a1+a2))),(16,.sl .no 1 (a0.Wheel.Notches.map cI)),(17,.i (a0.Wheel.Notches.length:Int)),(18,.i v4)]) _ _
  replace hS:St (·<g) H0 [] H g2:=hS
  replace hM:zcb a0 a1 a2 (za7 a0 a1 a2 m2) v3 v4=some r:=hM
  refine Sq ?_
  refine Rg 1 ?_
  refine Oi (.b (decide (v4<(a0.Wheel.Notches.length:Int)))) ?_
  refine Ni ?_
  refine Ws ?_
  refine Sq ?_
  rcases bft (decide (v4<(a0.Wheel.Notches.length:Int))) with hb5 | hb5
  ·replace hM:=ifT hM hb5
   refine Ct hb5 ?_
   refine zaO ?_
   refine Ws ?_
   refine Sq ?_
   refine zaP ?_
   refine Sq ?_
   refine Rg 3 ?_
   obtain ⟨x6,hx6,hM⟩:=zal hM
   refine zbb (xs:=a0.Wheel.Notches) (f:=cI) (z:=v4) (u:=x6) (by decide) rfl rfl zaA hx6 ?_
   refine Olp (.i x6) zah zaw ?_
   refine Oa (.i x6) ?_
   refine Ni ?_
   refine Ws ?_
   have hS0:=hS
   refine zdq (n:=26) rfl (by kernel_rfl) ?_
   refine Om (.i v3) ?_
   refine Om (.i (w64 (a1+a2))) ?_
   refine Om (.i x6) ?_
   refine Oi (.i (w64 ((w64 (a1+a2))-x6))) ?_
   refine Of ((Wheel.cells a0.Wheel)) zdk ?_
   refine Of ((Wheel.cells a0.Wheel)) zc8 ?_
   refine Olp (.i a0.Wheel.Round) zah zaw ?_
   refine Oi (.i (w64 ((w64 ((w64 (a1+a2))-x6))+a0.Wheel.Round))) ?_
   refine Of ((Wheel.cells a0.Wheel)) zdk ?_
   refine Of ((Wheel.cells a0.Wheel)) zc8 ?_
   refine Olp (.i a0.Wheel.Round) zah zaw ?_
   obtain ⟨q7,hq7,hM⟩:=zal hM
   refine zlD (by decide) rfl rfl (zpz hq7) ?_
   refine Om (.i a1) ?_
   refine Om (.i x6) ?_
   refine Oi (.i (w64 (a1-x6))) ?_
   refine Of ((Wheel.cells a0.Wheel)) zdk ?_
   refine Of ((Wheel.cells a0.Wheel)) zc8 ?_
   refine Olp (.i a0.Wheel.Round) zah zaw ?_
   refine Oi (.i (w64 ((w64 (a1-x6))+a0.Wheel.Round))) ?_
   refine Of ((Wheel.cells a0.Wheel)) zdk ?_
   refine Of ((Wheel.cells a0.Wheel)) zc8 ?_
   refine Olp (.i a0.Wheel.Round) zah zaw ?_
   obtain ⟨q8,hq8,hM⟩:=zal hM
   refine zlD (by decide) rfl rfl (zpz hq8) ?_
   refine Oi (.i (w64 (q7-q8))) ?_
   refine Oi (.i (w64 (v3+(w64 (q7-q8))))) ?_
   refine Oa (.i (w64 (v3+(w64 (q7-q8))))) ?_
   refine Ni ?_
   refine zaI ?_
   refine Ws ?_
   refine Rg 2 ?_
   refine Oi (.i (w64 (v4+1))) ?_
   refine Om (.i (w64 (v4+1))) ?_
   refine Ni ?_
   exact zbS (w64 (v3+(w64 (q7-q8))),w64 (v4+1)) (Nat.lt_succ_self _) (.k (.k (.k (.k (.k (.k (.k .nil))))))) ⟨(hS.keep [] rfl).up (by omega),hM⟩
  ·replace hM:=ifF hM hb5
   refine Cf hb5 ?_
   refine zcl ?_
   refine zaM ?_
   refine zaJ ?_
   refine zaR ?_
   exact zap v3 (.k (.k (.k .nil))) ⟨(hS.keep [] rfl).up (by omega),hM⟩
theorem zid {n:Nat} {a0:Wheel_} {a1:Stand} {a2:Int} {r:Stand} (hM:zdW n a0 a1 a2=some r):zaL Try.prog 89 [.agg (Wheel.cells a0.Wheel),.agg (Stand.cells a1),.i a2] (.agg [.i r.Place,.i r.Credit]):=by
 refine zao mixed Try.func89 rfl (by decide) Try.ntmps89 (by simp) ?pure fun H0 g hf=>?_
 case pure=>exact .agg _ (zac (.v _) (zac (.v _) zaE))
 rw [zaj]
 change wpA _ _ _ _ (Fr.of [(0,.agg (Wheel.cells a0.Wheel)),(1,.agg (Stand.cells a1)),(2,.i a2)]) H0 g
 have hS:=St.start hf
 refine Sq ?_
 refine Rg 3 ?_
 refine zcZ (v:=.agg (Wheel.cells a0.Wheel)) (cs:=(Wheel.cells a0.Wheel)) hS (by decide) rfl rfl (by omega) fun H hS=>?_
 refine zcZ (v:=.agg (Stand.cells a1)) (cs:=(Stand.cells a1)) hS (by decide) rfl rfl (by omega) fun H hS=>?_
 refine zbT hS (by decide) zc6 (by omega) fun H hS=>?_
 refine Ni ?_
 refine zbO (L':=[(g+2,.cells [.i 0,.i 0]),(g+1,.cells (Stand.cells a1))]) 2 3 hS rfl rfl rfl fun H hS=>?_
 refine zbO (L':=[(g+2,.cells [.i 0,.i 0])]) 1 4 hS rfl rfl rfl fun H hS=>?_
 refine Ws ?_
 refine Sq ?_
 refine zaP ?_
 refine Sq ?_
 refine Rg 3 ?_
 refine Om (.i a2) ?_
 refine Oi (.b (a2 != (-1))) ?_
 refine Oa (.b (a2 != (-1))) ?_
 refine Ni ?_
 refine Ws ?_
 rcases bft (a2 != (-1)) with hb1 | hb1
 ·replace hM:=ifT hM hb1
  refine Ct hb1 ?_
  refine Sq ?_
  have hS0:=hS
  refine zdq (n:=15) rfl (by kernel_rfl) ?_
  refine Olg (.agg (Wheel.cells a0.Wheel)) zey ?_
  refine Of ((Stand.cells a1)) zc9 ?_
  refine Olp (.i a1.Place) zah zaw ?_
  refine Of ((Wheel.cells a0.Wheel)) zdk ?_
  refine Of ((Wheel.cells a0.Wheel)) zcq ?_
  refine Olp (.sl .no 1 (a0.Wheel.Coins.map cI)) zar zaH ?_
  refine Om (.i a2) ?_
  obtain ⟨x2,hx2,hM⟩:=zal hM
  refine zbb (xs:=a0.Wheel.Coins) (f:=cI) (z:=a2) (u:=x2) (by decide) rfl rfl zaA hx2 ?_
  refine Olp (.i x2) zah zaw ?_
  obtain ⟨r3,hr3,hM⟩:=zal hM
  refine zaD (bs:=[.agg (Wheel.cells a0.Wheel),.i a1.Place,.i x2]) (by decide) rfl rfl ((zhR hr3).le (.k (.k (.k .nil)))) ?_
  refine Om (.tup [.i r3.1,.i r3.2]) ?_
  refine Ox (.i r3.1) ?_
  refine Ox (.i r3.2) ?_
  refine Oa (.i r3.1) ?_
  refine Oa (.i r3.2) ?_
  refine Ni ?_
  refine Ws ?_
  refine Sq ?_
  refine Rg 7 ?_
  refine Om (.i r3.1) ?_
  refine Of ((Stand.cells a1)) zcd ?_
  refine Olp (.i a1.Credit) zah zaw ?_
  refine Om (.i r3.2) ?_
  refine Oi (.i (w64 (a1.Credit+r3.2))) ?_
  refine zbU (cs:=[.i r3.1,.i (w64 (a1.Credit+r3.2))]) (by decide) zc6 zhd rfl ?_
  refine zaV (v:=.agg [.i r3.1,.i (w64 (a1.Credit+r3.2))]) (ns:=[.i r3.1,.i (w64 (a1.Credit+r3.2))]) (L':=[(g+2,.cells [.i r3.1,.i (w64 (a1.Credit+r3.2))])]) 0 hS rfl rfl .no rfl rfl zfp nlb rfl fun H hS=>?_
  refine Ni ?_
  refine Ws ?_
  refine zaT ?_
  refine zbF ?_
  refine zax ?_
  refine za5 (x:=.agg [.i r3.1,.i (w64 (a1.Credit+r3.2))]) (f:=fun r=>.agg [.i r.Place,.i r.Credit]) (.inr rfl) ?_ (.refl _) (Option.some.inj hM) hS
  exact (zaC (zdc (x:=.agg [.i r3.1,.i (w64 (a1.Credit+r3.2))]) 0 hS rfl rfl (pg zfo)))
 ·replace hM:=ifF hM hb1
  refine Cf hb1 ?_
  refine Sq ?_
  refine Rg 4 ?_
  refine Of ((Stand.cells a1)) zcd ?_
  refine Olp (.i a1.Credit) zah zaw ?_
  refine Oi (.b (decide (a1.Credit>0))) ?_
  refine Oa (.b (decide (a1.Credit>0))) ?_
  refine Ni ?_
  refine Ws ?_
  rcases bft (decide (a1.Credit>0)) with hb4 | hb4
  ·replace hM:=ifT hM hb4
   refine Ct hb4 ?_
   refine Sq ?_
   refine Rg 5 ?_
   refine Of ((Stand.cells a1)) zcd ?_
   refine Olp (.i a1.Credit) zah zaw ?_
   refine Oi (.i (w64 (a1.Credit-1))) ?_
   refine zbU (cs:=[.i 0,.i (w64 (a1.Credit-1))]) (by decide) zc6 zhd rfl ?_
   refine zaV (v:=.agg [.i 0,.i (w64 (a1.Credit-1))]) (ns:=[.i 0,.i (w64 (a1.Credit-1))]) (L':=[(g+2,.cells [.i 0,.i (w64 (a1.Credit-1))])]) 0 hS rfl rfl .no rfl rfl zfp nlb rfl fun H hS=>?_
   refine Ni ?_
   refine Ws ?_
   refine zaT ?_
   refine zbF ?_
   refine zax ?_
   refine za5 (x:=.agg [.i 0,.i (w64 (a1.Credit-1))]) (f:=fun r=>.agg [.i r.Place,.i r.Credit]) (.inr rfl) ?_ (.refl _) (Option.some.inj hM) hS
   exact (zaC (zdc (x:=.agg [.i 0,.i (w64 (a1.Credit-1))]) 0 hS rfl rfl (pg zfo)))
  ·replace hM:=ifF hM hb4
   refine Cf hb4 ?_
   refine zaO ?_
   refine zaI ?_
   refine Ws ?_
   refine Sq ?_
   refine Rg 2 ?_
   refine Olg (.agg (Stand.cells a1)) zfo ?_
   refine zaV (v:=.agg (Stand.cells a1)) (ns:=(Stand.cells a1)) (L':=[(g+2,.cells (Stand.cells a1))]) 0 hS rfl rfl .no rfl rfl zfp nlb rfl fun H hS=>?_
   refine Ni ?_
   refine zfj [(6,.ptr (g+2) 0)] (.k .nil) ?_
   refine zaT ?_
   refine za5 (x:=.agg (Stand.cells a1)) (f:=fun r=>.agg [.i r.Place,.i r.Credit]) (.inr rfl) ?_ (.refl _) (Option.some.inj hM) hS
   exact (zaC (zdc (x:=.agg (Stand.cells a1)) 0 hS rfl rfl (pg zfo)))
theorem zgy {a0:Wheel_} {a1:Int} {r:Bool} (hM:zcB a0 a1=some r):zaL Try.prog 158 [.agg (Wheel.cells a0.Wheel),.i a1] (.b r):=by
 refine zao mixed Try.func158 rfl (by decide) Try.ntmps158 (by simp) ?pure fun H0 g hf=>?_
 case pure=>exact .v _
 rw [zaj]
 change wpA _ _ _ _ (Fr.of [(0,.agg (Wheel.cells a0.Wheel)),(1,.i a1)]) H0 g
 have hS:=St.start hf
 refine Sq ?_
 refine Rg 2 ?_
 refine zcZ (v:=.agg (Wheel.cells a0.Wheel)) (cs:=(Wheel.cells a0.Wheel)) hS (by decide) rfl rfl (by omega) fun H hS=>?_
 refine Oa (.b false) ?_
 refine Ni ?_
 refine zbO (L':=[]) 0 2 hS rfl rfl rfl fun H hS=>?_
 refine Ws ?_
 refine Sq ?_
 refine Rg 7 ?_
 refine Om (.i a1) ?_
 refine Of ((Wheel.cells a0.Wheel)) zdk ?_
 refine Of ((Wheel.cells a0.Wheel)) zc8 ?_
 refine Olp (.i a0.Wheel.Round) zah zaw ?_
 refine Oi (.i (w64 (a0.Wheel.Round-1))) ?_
 obtain ⟨r1,hr1,hM⟩:=zal hM
 refine zaD (bs:=[.i a1,.i 0,.i (w64 (a0.Wheel.Round-1))]) (by decide) rfl rfl ((zdv hr1).le (.k (.k (.k .nil)))) ?_
 refine Oa (.b r1) ?_
 refine Ni ?_
 refine Ws ?_
 refine zaT ?_
 refine za5 (x:=.b r1) (f:=fun r=>.b r) (.inr rfl) ?_ (.refl _) (Option.some.inj hM) hS
 exact (zaC (zae (x:=.b r1) rfl))
theorem zhS {S:Type} {Lo:S->BL} (hk:∀s s',zkw (Lo s) (Lo s')) (hnd:∀s,(ids (Lo s)).Nodup) (hin:∀s,InB In (Lo s)) {aF:Int->S->Option (Bool×S)} {f0:AV} (hF:∀s H,Has H (Lo s)->In H f0) (h0:cellsOf f0=some [f0]) (hf:∀{x0:Int} {s:S} {r:Bool×S},aF x0 s=some r->zo0 Try.prog f0 [.i x0] (Lo s) (.b r.1) (Lo r.2)) {a0:Int} {st:S} {r:Bool×S} (hM:zbV aF a0 st=some r):zll Try.prog 175 [.i a0,.ep [f0]] (Lo st) (.b r.1) (Lo r.2):=by
 have hnd0:∀s,(ids (Lo s)).Nodup:=fun s=>hnd s
 refine zeU mixed Try.func175 rfl (by decide) Try.ntmps175 (by simp) (hk _ _) (hnd st) ?pure ?cells fun H0 g hf_ hp=>?_
 case pure=>exact fun H _=>(show Go.AM.Pure _ from .v _).inH
 case cells=>exact hin _
 rw [zaj]
 change wpA _ _ _ _ (Fr.of [(0,.i a0),(1,.ep [f0])]) H0 g
 have hS:=St.startH (L:=([]++Lo st)) hf_ (hnd st) hp
 replace hS:St (fun i=>i<g/\i∉ids (Lo st)) H0 ([]++Lo st) H0 g:=hS
 refine Sq ?_
 refine Rg 1 ?_
 refine Oa (.b false) ?_
 refine Ni ?_
 refine Ws ?_
 refine Sq ?_
 refine Rg 5 ?_
 refine Olp (f0) zpY zrd ?_
 refine Om (.i a0) ?_
 obtain ⟨r1,hr1,hM⟩:=zal hM
 replace hS:St (fun i=>i<g/\i∉ids (Lo st)) H0 ([]++Lo st) _ _:=hS
 refine zmD (bs:=[.i a0]) (.inl rfl) hS (by decide) rfl rfl ((hf hr1).le (.k .nil)) (hk _ _).ids (by omega) fun H hS=>?_
 refine zd4 (e:=r1.1) (by decide) rfl ?_
 refine Oa (.b (!r1.1)) ?_
 refine Ni ?_
 refine Ws ?_
 refine zaT ?_
 refine zhv (x:=.b (!r1.1)) (f:=fun r=>.b r.1) (fd:=fun r=>(Lo r.2)) (.inr rfl) ?_ (.refl _) (Option.some.inj hM) hS 0 rfl
 exact (zaC (zae (x:=.b (!r1.1)) rfl))
theorem zjF {S:Type} {Lo:S->BL} (hk:∀s s',zkw (Lo s) (Lo s')) (hnd:∀s,(ids (Lo s)).Nodup) (hin:∀s,InB In (Lo s)) {aF:Int->S->Option (Bool×S)} {f0:AV} (hF:∀s H,Has H (Lo s)->In H f0) (h0:cellsOf f0=some [f0]) (hf:∀{x0:Int} {s:S} {r:Bool×S},aF x0 s=some r->zo0 Try.prog f0 [.i x0] (Lo s) (.b r.1) (Lo r.2)) {n:Nat} {a0:List Int} {st:S} {r:Bool×S} (hM:zeQ n aF a0 st=some r):zll Try.prog 159 [.sl .no 1 (a0.map cI),f0] (Lo st) (.b r.1) (Lo r.2):=by
 have hnd0:∀s,(ids (Lo s)).Nodup:=fun s=>hnd s
 refine zeU mixed Try.func159 rfl (by decide) Try.ntmps159 (by simp) (hk _ _) (hnd st) ?pure ?cells fun H0 g hf_ hp=>?_
 case pure=>exact fun H _=>(show Go.AM.Pure _ from .v _).inH
 case cells=>exact hin _
 rw [zaj]
 change wpA _ _ _ _ (Fr.of [(0,.sl .no 1 (a0.map cI)),(1,f0)]) H0 g
 have hS:=St.startH (L:=([]++Lo st)) hf_ (hnd st) hp
 replace hS:St (fun i=>i<g/\i∉ids (Lo st)) H0 ([]++Lo st) H0 g:=hS
 refine Sq ?_
 refine Rg 2 ?_
 refine zcZ (v:=f0) (cs:=[f0]) hS (by decide) rfl h0 (by omega) fun H hS=>?_
 refine Oa (.b false) ?_
 refine Ni ?_
 refine zbO (L':=([]++Lo st)) 0 3 hS rfl rfl rfl fun H hS=>?_
 refine Ws ?_
 refine zbm (J:=Bool×S) (fun j=>[(4,.b j.1)]) (fun j H' g'=>St (fun i=>i<g/\i∉ids (Lo st)) H0 ([]++Lo j.2) H' g'/\zcI j.1 j.2=some r) ?_ ?_
 ·rintro ⟨v1,v2⟩ H g1 ⟨hS,hM⟩
  change wpA _ _ _ _ (Fr.of [(4,.b v1)]) _ _
  replace hS:St (fun i=>i<g/\i∉ids (Lo st)) H0 ([]++Lo v2) H g1:=hS
  replace hM:zcI v1 v2=some r:=hM
  refine zaT ?_
  refine zhv (x:=.b v1) (f:=fun r=>.b r.1) (fd:=fun r=>(Lo r.2)) (.inr rfl) ?_ (.refl _) (Option.some.inj hM) hS 0 rfl
  exact (zaC (zae (x:=.b v1) rfl))
 ·refine Rg 10 ?_
  refine Om (.sl .no 1 (a0.map cI)) ?_
  refine zb7 (n:=a0.length) (by decide) rfl (List.length_map _) zaN ?_
  refine Oi (.b (decide ((a0.length:Int)<=20))) ?_
  refine Om (.b (decide ((a0.length:Int)<=20))) ?_
  rcases bft (decide ((a0.length:Int)<=20)) with hb3 | hb3
  ·replace hM:=ifT hM hb3
   refine Oy (want:=true) hb3 ?_
   refine Om (.sl .no 1 (a0.map cI)) ?_
   refine Oy (want:=true) hb3 ?_
   refine zfF (first:=[]) (cap:=[.ep [f0]]) (by decide) rfl rfl ?_
   refine Oy (want:=true) hb3 ?_
   obtain ⟨r4,hr4,hM⟩:=zal hM
   replace hS:St (fun i=>i<g/\i∉ids (Lo st)) H0 ([]++Lo st) _ _:=hS
   refine znj (bs:=[.sl .no 1 (a0.map cI),.fn (.func 175) [] [.ep [f0]]]) (.inl rfl) hS (by decide) rfl rfl ((zdw (Lo:=Lo)  hk hnd0 hin (aF:=(zbV aF)) (fun s H hH=>(.fn _ _ _ zg0 (zh9 (.ep _ (zh9 (hF _ H hH) zg0)) zg0))) rfl (fun h=>zpN (zhS (Lo:=Lo)  hk hnd0 hin hF h0 hf h)) hr4).le (.k (.k .nil))) (hk _ _).ids (by omega) fun H hS=>?_
   refine Oy (want:=true) hb3 ?_
   refine zd4 (e:=r4.1) (by decide) rfl ?_
   refine Pt (.b (!r4.1)) hb3 ?_
   refine Oa (.b (!r4.1)) ?_
   refine Ni ?_
   exact zap ((!r4.1),r4.2) (.k .nil) ⟨(hS.keep [] rfl).up (by omega),hM⟩
  ·replace hM:=ifF hM hb3
   refine On (want:=true) hb3 ?_
   refine On (want:=true) hb3 ?_
   refine On (want:=true) hb3 ?_
   refine On (want:=true) hb3 ?_
   refine Pf (.b false) hb3 ?_
   refine Oa (.b false) ?_
   refine Ni ?_
   exact zap (false,st) (.k .nil) ⟨(hS.keep [] rfl).up (by omega),hM⟩
theorem zgU {a0:Wheel_} {a1:Int} {r:Bool} (hM:zcP a0 a1=some r):zaL Try.prog 176 [.agg (Wheel.cells a0.Wheel),.i a1] (.b r):=by
 refine zao mixed Try.func176 rfl (by decide) Try.ntmps176 (by simp) ?pure fun H0 g hf=>?_
 case pure=>exact .v _
 rw [zaj]
 change wpA _ _ _ _ (Fr.of [(0,.agg (Wheel.cells a0.Wheel)),(1,.i a1)]) H0 g
 have hS:=St.start hf
 refine Sq ?_
 refine Rg 2 ?_
 refine zcZ (v:=.agg (Wheel.cells a0.Wheel)) (cs:=(Wheel.cells a0.Wheel)) hS (by decide) rfl rfl (by omega) fun H hS=>?_
 refine Oa (.b false) ?_
 refine Ni ?_
 refine zbO (L':=[]) 0 2 hS rfl rfl rfl fun H hS=>?_
 refine Ws ?_
 refine Sq ?_
 refine Rg 8 ?_
 refine Om (.i a1) ?_
 refine Of ((Wheel.cells a0.Wheel)) zdk ?_
 refine Of ((Wheel.cells a0.Wheel)) zcq ?_
 refine Olp (.sl .no 1 (a0.Wheel.Coins.map cI)) zar zaH ?_
 refine zb7 (n:=a0.Wheel.Coins.length) (by decide) rfl (List.length_map _) zaN ?_
 refine Oi (.i (w64 ((a0.Wheel.Coins.length:Int)-1))) ?_
 obtain ⟨r1,hr1,hM⟩:=zal hM
 refine zaD (bs:=[.i a1,.i 0,.i (w64 ((a0.Wheel.Coins.length:Int)-1))]) (by decide) rfl rfl ((zdv hr1).le (.k (.k (.k .nil)))) ?_
 refine Oa (.b r1) ?_
 refine Ni ?_
 refine zfj [(4,.b r1)] (.k .nil) ?_
 refine zaT ?_
 refine za5 (x:=.b r1) (f:=fun r=>.b r) (.inr rfl) ?_ (.refl _) (Option.some.inj hM) hS
 exact (zaC (zae (x:=.b r1) rfl))
theorem zhh {a0:Wheel_} {a1:Int} {r:Bool} (hM:zb2 a0 a1=some r):zaL Try.prog 160 [.agg (Wheel.cells a0.Wheel),.i a1] (.b r):=by
 refine zao mixed Try.func160 rfl (by decide) Try.ntmps160 (by simp) ?pure fun H0 g hf=>?_
 case pure=>exact .v _
 rw [zaj]
 change wpA _ _ _ _ (Fr.of [(0,.agg (Wheel.cells a0.Wheel)),(1,.i a1)]) H0 g
 have hS:=St.start hf
 refine Sq ?_
 refine Rg 2 ?_
 refine zcZ (v:=.agg (Wheel.cells a0.Wheel)) (cs:=(Wheel.cells a0.Wheel)) hS (by decide) rfl rfl (by omega) fun H hS=>?_
 refine Oa (.b false) ?_
 refine Ni ?_
 refine zbO (L':=[]) 0 2 hS rfl rfl rfl fun H hS=>?_
 refine Ws ?_
 refine zbm (J:=Bool) (fun j=>[(4,.b j)]) (fun j H' g'=>St (·<g) H0 [] H' g'/\zbZ j=some r) ?_ ?_
 ·rintro v1 H g1 ⟨hS,hM⟩
  change wpA _ _ _ _ (Fr.of [(4,.b v1)]) _ _
  replace hS:St (·<g) H0 [] H g1:=hS
  replace hM:zbZ v1=some r:=hM
  refine zaT ?_
  refine za5 (x:=.b v1) (f:=fun r=>.b r) (.inr rfl) ?_ (.refl _) (Option.some.inj hM) hS
  exact (zaC (zae (x:=.b v1) rfl))
 ·refine Rg 8 ?_
  refine Om (.i a1) ?_
  refine Oi (.b (a1==(-1))) ?_
  refine Om (.b (a1==(-1))) ?_
  rcases bft (a1==(-1)) with hb2 | hb2
  ·replace hM:=ifT hM hb2
   refine On (want:=false) hb2 ?_
   refine On (want:=false) hb2 ?_
   refine On (want:=false) hb2 ?_
   refine Pt (.b true) hb2 ?_
   refine Oa (.b true) ?_
   refine Ni ?_
   exact zap true (.k .nil) ⟨(hS.keep [] rfl).up (by omega),hM⟩
  ·replace hM:=ifF hM hb2
   refine Oy (want:=false) hb2 ?_
   refine Olg (.agg (Wheel.cells a0.Wheel)) zey ?_
   refine Oy (want:=false) hb2 ?_
   refine Om (.i a1) ?_
   refine Oy (want:=false) hb2 ?_
   obtain ⟨r3,hr3,hM⟩:=zal hM
   refine zaD (bs:=[.agg (Wheel.cells a0.Wheel),.i a1]) (by decide) rfl rfl ((zgU hr3).le (.k (.k .nil))) ?_
   refine Pf (.b r3) hb2 ?_
   refine Oa (.b r3) ?_
   refine Ni ?_
   exact zap r3 (.k .nil) ⟨(hS.keep [] rfl).up (by omega),hM⟩
theorem zj1 {p1:Nat} (hnd:[p1].Nodup) {n:Nat} {a0:Wheel_} {a1:Stand} {a2:List Int} {r:Bool} (hM:zeu n a0 a1 a2=some r):zll Try.prog 157 [.agg (Wheel.cells a0.Wheel),.ptr p1 0,.ep [.sl .no 1 (a2.map cI)]] [(p1,.cells (Stand.cells a1))] (.b r) [(p1,.cells (Stand.cells a1))]:=by
 refine zeU mixed Try.func157 rfl (by decide) Try.ntmps157 (by simp) (znm znl) hnd ?pure ?cells fun H0 g hf_ hp=>?_
 case pure=>exact fun H _=>(show Go.AM.Pure _ from .v _).inH
 case cells=>exact (zrQ (zni (zkN (.inl (.inl (.v _))) (zkN (.inl (.inl (.v _))) zrO)) zrP) zkO)
 rw [zaj]
 change wpA _ _ _ _ (Fr.of [(0,.agg (Wheel.cells a0.Wheel)),(1,.ptr p1 0),(2,.ep [.sl .no 1 (a2.map cI)])]) H0 g
 have hS:=St.startH (L:=[(p1,.cells (Stand.cells a1))]) hf_ hnd hp
 replace hS:St (fun i=>i<g/\i∉ids [(p1,.cells (Stand.cells a1))]) H0 [(p1,.cells (Stand.cells a1))] H0 g:=hS
 refine Sq ?_
 refine Rg 2 ?_
 refine zcZ (v:=.agg (Wheel.cells a0.Wheel)) (cs:=(Wheel.cells a0.Wheel)) hS (by decide) rfl rfl (by omega) fun H hS=>?_
 refine Oa (.b false) ?_
 refine Ni ?_
 refine zbO (L':=[(p1,.cells (Stand.cells a1))]) 0 3 hS rfl rfl rfl fun H hS=>?_
 refine Ws ?_
 refine zbm (J:=Bool) (fun j=>[(4,.b j)]) (fun j H' g'=>St (fun i=>i<g/\i∉ids [(p1,.cells (Stand.cells a1))]) H0 [(p1,.cells (Stand.cells a1))] H' g'/\zcn j=some r) ?_ ?_
 ·rintro v1 H g1 ⟨hS,hM⟩
  change wpA _ _ _ _ (Fr.of [(4,.b v1)]) _ _
  replace hS:St (fun i=>i<g/\i∉ids [(p1,.cells (Stand.cells a1))]) H0 [(p1,.cells (Stand.cells a1))] H g1:=hS
  replace hM:zcn v1=some r:=hM
  refine zaT ?_
  refine zhv (x:=.b v1) (f:=fun r=>.b r) (fd:=fun r=>[(p1,.cells (Stand.cells a1))]) (.inr rfl) ?_ (.refl _) (Option.some.inj hM) hS 0 rfl
  exact (zaC (zae (x:=.b v1) rfl))
 ·refine Rg 16 ?_
  refine Olg (.agg (Wheel.cells a0.Wheel)) zey ?_
  refine zaB (by decide) zc9 rfl ?_
  refine zaQ (v:=.i a1.Place) 0 hS (by decide) rfl rfl .no (po zah zaw) ?_
  obtain ⟨r2,hr2,hM⟩:=zal hM
  refine zaD (bs:=[.agg (Wheel.cells a0.Wheel),.i a1.Place]) (by decide) rfl rfl ((zgy hr2).le (.k (.k .nil))) ?_
  refine Om (.b r2) ?_
  rcases bft r2 with hb3 | hb3
  ·replace hM:=ifT hM hb3
   refine Oy (want:=true) hb3 ?_
   refine zaB (by decide) zcd rfl ?_
   refine Oy (want:=true) hb3 ?_
   refine zaQ (v:=.i a1.Credit) 0 hS (by decide) rfl rfl .no (po zah zaw) ?_
   refine Oy (want:=true) hb3 ?_
   obtain ⟨r4,hr4,hM⟩:=zal hM
   refine zaD (bs:=[.i a1.Credit,.i 0,.i 20]) (by decide) rfl rfl ((zdv hr4).le (.k (.k (.k .nil)))) ?_
   refine Pt (.b r4) hb3 ?_
   refine Om (.b r4) ?_
   rcases bft r4 with hb5 | hb5
   ·replace hM:=ifT hM hb5
    refine Oy (want:=true) hb5 ?_
    refine Olp (.sl .no 1 (a2.map cI)) zar zaH ?_
    refine Oy (want:=true) hb5 ?_
    refine Olg (.agg (Wheel.cells a0.Wheel)) zey ?_
    refine Oy (want:=true) hb5 ?_
    refine zfF (first:=[.agg (Wheel.cells a0.Wheel)]) (cap:=[]) (by decide) rfl rfl ?_
    refine Oy (want:=true) hb5 ?_
    obtain ⟨r6,hr6,hM⟩:=zal hM
    refine zaD (bs:=[.sl .no 1 (a2.map cI),.fn (.func 160) [.agg (Wheel.cells a0.Wheel)] []]) (by decide) rfl rfl (zir ((zjF (Lo:=(fun (_:Unit)=>[]))  (fun _ _=>znl) (fun _=>List.nodup_nil) (fun _=>zkO) (aF:=(fun (x0:Int) (_:Unit)=>(zb2 a0 x0).map fun y=>(y,()))) (fun _ H hH=>(.fn _ _ _ (zh9 (show Go.AM.Pure _ from .agg _ (zac (.v _) (zac (.sl _ _ (zau (fun x=>(zac (.v _) zaE)))) (zac (.sl _ _ (zau (fun x=>(zac (.v _) zaE)))) zaE)))).inH zg0) zg0)) rfl (fun h=>znq (zhh (zjm h))) hr6).le (.k (.k .nil)))) ?_
    refine Pt (.b r6.1) hb5 ?_
    refine Oa (.b r6.1) ?_
    refine Ni ?_
    exact zap r6.1 (.k .nil) ⟨(hS.keep [true] rfl).up (by omega),hM⟩
   ·replace hM:=ifF hM hb5
    refine On (want:=true) hb5 ?_
    refine On (want:=true) hb5 ?_
    refine On (want:=true) hb5 ?_
    refine On (want:=true) hb5 ?_
    refine Pf (.b false) hb5 ?_
    refine Oa (.b false) ?_
    refine Ni ?_
    exact zap false (.k .nil) ⟨(hS.keep [true] rfl).up (by omega),hM⟩
  ·replace hM:=ifF hM hb3
   refine On (want:=true) hb3 ?_
   refine On (want:=true) hb3 ?_
   refine On (want:=true) hb3 ?_
   refine Pf (.b false) hb3 ?_
   refine Om (.b false) ?_
   refine Og ?_
   refine Og ?_
   refine Og ?_
   refine Og ?_
   refine zan (v:=.b false) (e:=false) (by decide) rfl rfl rfl ?_
   refine Oa (.b false) ?_
   refine Ni ?_
   exact zap false (.k .nil) ⟨(hS.keep [true] rfl).up (by omega),hM⟩
theorem zjG {n:Nat} {a0:Wheel} {a1:Stand} {a2:List Int} {r:Stand×Int×Int} (hM:zdX n a0 a1 a2=some r):zaL Try.prog 131 [.agg (Wheel.cells a0),.agg (Stand.cells a1),.sl .no 1 (a2.map cI)] (.tup [.agg [.i r.1.Place,.i r.1.Credit],.i r.2.1,.i r.2.2]):=by
 refine zao mixed Try.func131 rfl (by decide) Try.ntmps131 (by simp) ?pure fun H0 g hf=>?_
 case pure=>exact .tup _ (zac (.agg _ (zac (.v _) (zac (.v _) zaE))) (zac (.v _) (zac (.v _) zaE)))
 rw [zaj]
 change wpA _ _ _ _ (Fr.of [(0,.agg (Wheel.cells a0)),(1,.agg (Stand.cells a1)),(2,.sl .no 1 (a2.map cI))]) H0 g
 have hS:=St.start hf
 refine Sq ?_
 refine Rg 6 ?_
 refine zcZ (v:=.agg (Wheel.cells a0)) (cs:=(Wheel.cells a0)) hS (by decide) rfl rfl (by omega) fun H hS=>?_
 refine zcZ (v:=.agg (Stand.cells a1)) (cs:=(Stand.cells a1)) hS (by decide) rfl rfl (by omega) fun H hS=>?_
 refine zcZ (v:=.sl .no 1 (a2.map cI)) (cs:=[.sl .no 1 (a2.map cI)]) hS (by decide) rfl rfl (by omega) fun H hS=>?_
 refine zbT hS (by decide) zc6 (by omega) fun H hS=>?_
 refine Oa (.i 0) ?_
 refine Oa (.i 0) ?_
 refine Ni ?_
 refine zbO (L':=[(g+3,.cells [.i 0,.i 0]),(g+2,.cells [.sl .no 1 (a2.map cI)]),(g+1,.cells (Stand.cells a1))]) 3 3 hS rfl rfl rfl fun H hS=>?_
 refine zbO (L':=[(g+3,.cells [.i 0,.i 0]),(g+1,.cells (Stand.cells a1))]) 1 5 hS rfl rfl rfl fun H hS=>?_
 refine Ws ?_
 refine Sq ?_
 refine Rg 9 ?_
 refine Olg (.agg (Wheel.cells a0)) zcR ?_
 refine zfF (first:=[]) (cap:=[.ptr (g+1) 0,.ep [.sl .no 1 (a2.map cI)]]) (by decide) rfl rfl ?_
 obtain ⟨r1,hr1,hM⟩:=zal hM
 have hndr1:=hS.nd_at (ns:=[1]) (M:=[(g+1,.cells (Stand.cells a1))]) (M':=[(g+1,.cells (Stand.cells a1))]) (.cons rfl .nil) (by decide)
 have hncr1:=hS.nd_at (ns:=[1]) (M:=[(g+1,.cells (Stand.cells a1))]) (M':=[(g+1,.cells (Stand.cells a1))]) (.cons rfl .nil) (by decide)
 refine ztO (bs:=[.agg (Wheel.cells a0),.fn (.func 157) [] [.ptr (g+1) 0,.ep [.sl .no 1 (a2.map cI)]]]) (M:=[(g+1,.cells (Stand.cells a1))]) (M':=[(g+1,.cells (Stand.cells a1))]) (L':=[(g+3,.cells [.i 0,.i 0]),(g+1,.cells (Stand.cells a1))]) [1] (.inl rfl) hS (by decide) rfl rfl ((zlU (Lo:=(fun (_:Unit)=>[(g+1,.cells (Stand.cells a1))]))  (fun _ _=>(znm znl)) (fun _=>hndr1) (fun s=>(zrQ (zni (zkN (.inl (.inl (.v _))) (zkN (.inl (.inl (.v _))) zrO)) zrP) zkO)) (aF:=(fun (x0:Wheel_) (_:Unit)=>(zeu n x0 a1 a2).map fun y=>(y,()))) (fun s H hH=>(.fn _ _ _ zg0 (zh9 (ztR hH 0 rfl) (zh9 (.ep _ (zh9 (show Go.AM.Pure _ from .sl _ _ (zau (fun x=>(zac (.v _) zaE)))).inH zg0)) zg0)))) rfl (fun h=>zpN (zj1 (p1:=g+1)  hncr1 (zjm h))) hr1).le (.k (.k .nil))) (.cons rfl .nil) rfl (by omega) fun H hS=>?_
 refine Om (.tup [.agg (Wheel.cells r1.1.1.Wheel),.i r1.1.2]) ?_
 refine Ox (.agg (Wheel.cells r1.1.1.Wheel)) ?_
 refine Ox (.i r1.1.2) ?_
 refine zbT hS (by decide) zeV (by omega) fun H hS=>?_
 refine zaV (v:=.agg (Wheel.cells r1.1.1.Wheel)) (ns:=(Wheel.cells r1.1.1.Wheel)) (L':=[(g+6+6,.cells (Wheel.cells r1.1.1.Wheel)),(g+3,.cells [.i 0,.i 0]),(g+1,.cells (Stand.cells a1))]) 0 hS rfl rfl .no rfl rfl zhF nlb rfl fun H hS=>?_
 refine Oa (.i r1.1.2) ?_
 refine Ni ?_
 refine zbO (L':=[(g+3,.cells [.i 0,.i 0]),(g+1,.cells (Stand.cells a1))]) 0 9 hS rfl rfl rfl fun H hS=>?_
 refine Ws ?_
 refine Sq ?_
 refine Sq ?_
 refine Rg 2 ?_
 refine Om (.i r1.1.2) ?_
 refine Oi (.b (r1.1.2 != 0)) ?_
 refine Ni ?_
 refine Ws ?_
 rcases bft (r1.1.2 != 0) with hb2 | hb2
 ·replace hM:=ifT hM hb2
  refine Ct hb2 ?_
  refine Sq ?_
  refine Rg 5 ?_
  refine zbU (cs:=[.i 0,.i 0]) (by decide) zc6 zhd rfl ?_
  refine Om (.i r1.1.2) ?_
  refine zaV (v:=.agg [.i 0,.i 0]) (ns:=[.i 0,.i 0]) (L':=[(g+3,.cells [.i 0,.i 0]),(g+1,.cells (Stand.cells a1))]) 0 hS rfl rfl .no rfl rfl zfp nlb rfl fun H hS=>?_
  refine Oa (.i 0) ?_
  refine Oa (.i r1.1.2) ?_
  refine Ni ?_
  replace hS:=hS.keep (L':=[(g+3,.cells [.i 0,.i 0])]) [true,false] rfl
  refine Ws ?_
  refine zaT ?_
  refine zax ?_
  refine za5 (x:=.tup [.agg [.i 0,.i 0],.i 0,.i r1.1.2]) (f:=fun r=>.tup [.agg [.i r.1.Place,.i r.1.Credit],.i r.2.1,.i r.2.2]) (.inr rfl) ?_ (.refl _) (Option.some.inj hM) hS
  exact (zgq (zdc (x:=.agg [.i 0,.i 0]) 0 hS rfl rfl (pg zfo)) (zae (x:=.i 0) rfl) (zae (x:=.i r1.1.2) rfl))
 ·replace hM:=ifF hM hb2
  refine Cf hb2 ?_
  refine zaO ?_
  refine Ws ?_
  refine zbm (J:=Int×Int×Int) (fun j=>[(4,.ptr (g+1) 0),(6,.ptr (g+3) 0),(7,.i j.1)]) (fun j H' g'=>St (·<g) H0 [(g+3,.cells [.i 0,.i 0]),(g+1,.cells [.i j.2.1,.i j.2.2])] H' g'/\zfm j.1 j.2.1 j.2.2=some r) ?_ ?_
  ·rintro ⟨v3,v4,v5⟩ H g1 ⟨hS,hM⟩
   change wpA _ _ _ _ (Fr.of [(4,.ptr (g+1) 0),(6,.ptr (g+3) 0),(7,.i v3)]) _ _
   replace hS:St (·<g) H0 [(g+3,.cells [.i 0,.i 0]),(g+1,.cells [.i v4,.i v5])] H g1:=hS
   replace hM:zfm v3 v4 v5=some r:=hM
   refine Sq ?_
   refine Rg 5 ?_
   refine zaQ (v:=.agg [.i v4,.i v5]) 1 hS (by decide) rfl rfl .no (pg zfo) ?_
   refine Om (.i v3) ?_
   refine zaV (v:=.agg [.i v4,.i v5]) (ns:=[.i v4,.i v5]) (L':=[(g+3,.cells [.i v4,.i v5]),(g+1,.cells [.i v4,.i v5])]) 0 hS rfl rfl .no rfl rfl zfp nlb rfl fun H hS=>?_
   refine Oa (.i v3) ?_
   refine Oa (.i 0) ?_
   refine Ni ?_
   replace hS:=hS.keep (L':=[(g+3,.cells [.i v4,.i v5])]) [true,false] rfl
   refine Ws ?_
   refine zaT ?_
   refine za5 (x:=.tup [.agg [.i v4,.i v5],.i v3,.i 0]) (f:=fun r=>.tup [.agg [.i r.1.Place,.i r.1.Credit],.i r.2.1,.i r.2.2]) (.inr rfl) ?_ (.refl _) (Option.some.inj hM) hS
   exact (zgq (zdc (x:=.agg [.i v4,.i v5]) 0 hS rfl rfl (pg zfo)) (zae (x:=.i v3) rfl) (zae (x:=.i 0) rfl))
  ·refine Sq ?_
   refine Rg 3 ?_
   refine Olp (.sl .no 1 (a2.map cI)) zar zaH ?_
   refine zb7 (n:=a2.length) (by decide) rfl (List.length_map _) zaN ?_
   refine Om (.i 0) ?_
   refine Ni ?_
   refine Ws ?_
   refine zaP ?_
   refine zcE (V:=Int×Int×Int×Int) (fun v=>[(4,.ptr (g+1) 0),(6,.ptr (g+3) 0),(7,.i v.1),(9,.ep (Wheel.cells r1.1.1.Wheel)),(22,.sl .no 1 (a2.map cI)),(23,.i (a2.length:Int)),(24,.i v.2.1)]) (fun v m3 H' g'=>St (·<g) H0 [(g+3,.cells [.i 0,.i 0]),(g+1,.cells [.i v.2.2.1,.i v.2.2.2])] H' g'/\zbo n a2 r1 m3 v.1 v.2.1 v.2.2.1 v.2.2.2=some r) (n:=n) (0,0,a1.Place,a1.Credit) (.k (.k (.k (.k (.k (.k (.k .nil))))))) ⟨(hS.keep [true,true] rfl).up (by omega),hM⟩ ?_
   rintro ⟨v8,v9,v10,v11⟩ m3 H g3 ⟨hS,hM⟩
   obtain _ | m3:=m3
   ·exact nomatch (show none=some _ from hM)
   change wpA _ _ _ _ (Fr.of [(4,.ptr (g+1) 0),(6,.ptr (g+3) 0),(7,.i v8),(9,.ep (Wheel.cells r1.1.1.Wheel)),(22,.sl .no 1 (a2.map cI)),(23,.i (a2.length:Int)),(24,.i v9)]) _ _
   replace hS:St (·<g) H0 [(g+3,.cells [.i 0,.i 0]),(g+1,.cells [.i v10,.i v11])] H g3:=hS
   replace hM:zen n a2 r1 (zbo n a2 r1 m3) v8 v9 v10 v11=some r:=hM
   refine Sq ?_
   refine Rg 1 ?_
   refine Oi (.b (decide (v9<(a2.length:Int)))) ?_
   refine Ni ?_
   refine Ws ?_
   refine Sq ?_
   rcases bft (decide (v9<(a2.length:Int))) with hb12 | hb12
   ·replace hM:=ifT hM hb12
    refine Ct hb12 ?_
    refine zaO ?_
    refine Ws ?_
    refine Sq ?_
    refine zaP ?_
    refine Sq ?_
    refine Rg 3 ?_
    obtain ⟨x13,hx13,hM⟩:=zal hM
    refine zbb (xs:=a2) (f:=cI) (z:=v9) (u:=x13) (by decide) rfl rfl zaA hx13 ?_
    refine Olp (.i x13) zah zaw ?_
    refine Oa (.i x13) ?_
    refine Ni ?_
    refine Ws ?_
    refine zbm (J:=Int) (fun j=>[(4,.ptr (g+1) 0),(6,.ptr (g+3) 0),(7,.i j),(9,.ep (Wheel.cells r1.1.1.Wheel)),(11,.i x13),(22,.sl .no 1 (a2.map cI)),(23,.i (a2.length:Int)),(24,.i v9)]) (fun j H' g'=>St (·<g) H0 [(g+3,.cells [.i 0,.i 0]),(g+1,.cells [.i v10,.i v11])] H' g'/\zev n (zbo n a2 r1 m3) r1 v9 v10 v11 x13 j=some r) ?_ ?_
    ·rintro v14 H g4 ⟨hS,hM⟩
     change wpA _ _ _ _ (Fr.of [(4,.ptr (g+1) 0),(6,.ptr (g+3) 0),(7,.i v14),(9,.ep (Wheel.cells r1.1.1.Wheel)),(11,.i x13),(22,.sl .no 1 (a2.map cI)),(23,.i (a2.length:Int)),(24,.i v9)]) _ _
     replace hS:St (·<g) H0 [(g+3,.cells [.i 0,.i 0]),(g+1,.cells [.i v10,.i v11])] H g4:=hS
     replace hM:zev n (zbo n a2 r1 m3) r1 v9 v10 v11 x13 v14=some r:=hM
     refine Rg 5 ?_
     refine Olg (.agg (Wheel.cells r1.1.1.Wheel)) zey ?_
     refine zaQ (v:=.agg [.i v10,.i v11]) 1 hS (by decide) rfl rfl .no (pg zfo) ?_
     refine Om (.i x13) ?_
     obtain ⟨r15,hr15,hM⟩:=zal hM
     refine zaD (bs:=[.agg (Wheel.cells r1.1.1.Wheel),.agg [.i v10,.i v11],.i x13]) (by decide) rfl rfl ((zid hr15).le (.k (.k (.k .nil)))) ?_
     refine zaV (v:=.agg (Stand.cells r15)) (ns:=(Stand.cells r15)) (L':=[(g+3,.cells [.i 0,.i 0]),(g+1,.cells (Stand.cells r15))]) 1 hS rfl rfl .no rfl rfl zfp nlb rfl fun H hS=>?_
     refine Ni ?_
     refine zaI ?_
     refine Ws ?_
     refine Rg 2 ?_
     refine Oi (.i (w64 (v9+1))) ?_
     refine Om (.i (w64 (v9+1))) ?_
     refine Ni ?_
     exact zbS (v14,w64 (v9+1),r15.Place,r15.Credit) (Nat.lt_succ_self _) (.k (.k (.k (.k (.k (.k (.k .nil))))))) ⟨(hS.keep [true,true] rfl).up (by omega),hM⟩
    ·refine zbm (J:=Bool) (fun j=>[(4,.ptr (g+1) 0),(6,.ptr (g+3) 0),(7,.i v8),(9,.ep (Wheel.cells r1.1.1.Wheel)),(11,.i x13),(22,.sl .no 1 (a2.map cI)),(23,.i (a2.length:Int)),(24,.i v9),(34,.b j)]) (fun j H' g'=>St (·<g) H0 [(g+3,.cells [.i 0,.i 0]),(g+1,.cells [.i v10,.i v11])] H' g'/\zdM n (zbo n a2 r1 m3) r1 v8 v9 v10 v11 x13 j=some r) ?_ ?_
     ·rintro v16 H g5 ⟨hS,hM⟩
      change wpA _ _ _ _ (Fr.of [(4,.ptr (g+1) 0),(6,.ptr (g+3) 0),(7,.i v8),(9,.ep (Wheel.cells r1.1.1.Wheel)),(11,.i x13),(22,.sl .no 1 (a2.map cI)),(23,.i (a2.length:Int)),(24,.i v9),(34,.b v16)]) _ _
      replace hS:St (·<g) H0 [(g+3,.cells [.i 0,.i 0]),(g+1,.cells [.i v10,.i v11])] H g5:=hS
      replace hM:zdM n (zbo n a2 r1 m3) r1 v8 v9 v10 v11 x13 v16=some r:=hM
      rcases bft v16 with hb17 | hb17
      ·replace hM:=ifT hM hb17
       refine Ct hb17 ?_
       refine Rg 3 ?_
       refine Om (.i v8) ?_
       refine Oi (.i (w64 (v8+1))) ?_
       refine Oa (.i (w64 (v8+1))) ?_
       refine Ni ?_
       exact zap (w64 (v8+1)) (.k (.k (.k (.k (.k (.k (.k (.k .nil)))))))) ⟨(hS.keep [true,true] rfl).up (by omega),hM⟩
      ·replace hM:=ifF hM hb17
       refine Cf hb17 ?_
       refine zaO ?_
       exact zap v8 (.k (.k (.k (.k (.k (.k (.k (.k .nil)))))))) ⟨(hS.keep [true,true] rfl).up (by omega),hM⟩
     ·refine Rg 7 ?_
      refine Om (.i x13) ?_
      refine Oi (.b (x13==(-1))) ?_
      refine Om (.b (x13==(-1))) ?_
      rcases bft (x13==(-1)) with hb18 | hb18
      ·replace hM:=ifT hM hb18
       refine Oy (want:=true) hb18 ?_
       refine zaB (by decide) zcd rfl ?_
       refine Oy (want:=true) hb18 ?_
       refine zaQ (v:=.i v11) 1 hS (by decide) rfl rfl .no (po zah zaw) ?_
       refine Oy (want:=true) hb18 ?_
       refine Oi (.b (decide (v11>0))) ?_
       refine Pt (.b (decide (v11>0))) hb18 ?_
       refine Ni ?_
       exact zap (decide (v11>0)) (.k (.k (.k (.k (.k (.k (.k (.k (.k .nil))))))))) ⟨(hS.keep [true,true] rfl).up (by omega),hM⟩
      ·replace hM:=ifF hM hb18
       refine On (want:=true) hb18 ?_
       refine On (want:=true) hb18 ?_
       refine On (want:=true) hb18 ?_
       refine Pf (.b false) hb18 ?_
       refine Ni ?_
       exact zap false (.k (.k (.k (.k (.k (.k (.k (.k (.k .nil))))))))) ⟨(hS.keep [true,true] rfl).up (by omega),hM⟩
   ·replace hM:=ifF hM hb12
    refine Cf hb12 ?_
    refine zcl ?_
    refine zaM ?_
    refine zaJ ?_
    refine zaR ?_
    exact zap (v8,v10,v11) (.k (.k (.k .nil))) ⟨(hS.keep [true,true] rfl).up (by omega),hM⟩
theorem zfs {n:Nat} {a0:Option Box_} {al:Bag_} {r:List (PointT_×Step_)} (hM:zcJ n a0 al=some r):zrT Try.prog 99 [pA Box_.cells a0,.agg (Bag_.cells al)] (zas (mpw zad zag r)):=by
 refine zov mixed Try.func99 rfl (by decide) Try.ntmps99 (by simp) fun H0 g hf=>?_
 rw [zaj]
 change wpA _ _ _ _ (Fr.of [(0,pA Box_.cells a0),(1,.agg (Bag_.cells al))]) H0 g
 have hS:=St.start hf
 unfold zcJ at hM
 obtain ⟨b,hb0,hM⟩:=zal hM
 refine Sq ?_
 refine Rg 2 ?_
 refine zcZ (v:=.agg (Bag_.cells al)) (cs:=(Bag_.cells al)) hS (by decide) rfl rfl (by omega) fun H hS=>?_
 refine Oa (.v (.map none)) ?_
 refine Ni ?_
 refine Ws ?_
 refine Sq ?_
 refine Rg 7 ?_
 refine zkn (kv:=zad) (cv:=zag) hS (by decide) ze9 (by omega) fun H hS=>?_
 refine zbU (cs:=[.i 0,.i 0,.i 0,.i 0,.i 0,.i 0,.i 0]) (by decide) zdO ziP rfl ?_
 refine zbU (cs:=[.i (-2),.i 0,.i 0,.i 0,.i 0,.i 0,.i 0,.i 0]) (by decide) zfI znx rfl ?_
 refine zpQ (kv:=zad) (ok:=zbn) (cv:=zag) (z0:=zaX) (M:=[]) (k:=zaz) (v:=⟨-2,zaz⟩) (M':=([(zaz,(⟨-2,zaz⟩:Step_))]:List (PointT_×Step_))) (L':=[(g+2+0,.obj none (zas (mpw zad zag ([(zaz,(⟨-2,zaz⟩:Step_))]:List (PointT_×Step_))))),(g+0,.cells (Bag_.cells al))]) 0 zjC (.inl rfl) hS rfl rfl rfl rfl ze9 zgx (by decide) rfl fun H hS=>?_
 refine Om (.mp (g+2+0)) ?_
 refine zbT hS (by decide) zoC (by omega) fun H hS=>?_
 refine zaV (v:=.mp (g+2+0)) (ns:=[.mp (g+2+0)]) (L':=[(g+2+5,.cells [.mp (g+2+0)]),(g+2+0,.obj none (zas (mpw zad zag ([(zaz,(⟨-2,zaz⟩:Step_))]:List (PointT_×Step_))))),(g+0,.cells (Bag_.cells al))]) 0 hS rfl rfl .no rfl rfl zp0 nlb rfl fun H hS=>?_
 refine Ni ?_
 refine Ws ?_
 refine Sq ?_
 refine Rg 4 ?_
 refine zbU (cs:=[.i 0,.i 0,.i 0,.i 0,.i 0,.i 0,.i 0]) (by decide) zdO ziP rfl ?_
 refine ztX (e:=155) (es:=[[.i 0,.i 0,.i 0,.i 0,.i 0,.i 0,.i 0]]) hS (by decide) zhK zny rfl zk3 rfl (by decide) (by omega) fun H hS=>?_
 replace hS:St (·<g) H0 [quB PointT_.cells (g+2+7+1) [] [zaz],(g+2+5,.cells [.mp (g+2+0)]),(g+2+0,.obj none (zas (mpw zad zag ([(zaz,(⟨-2,zaz⟩:Step_))]:List (PointT_×Step_))))),(g+0,.cells (Bag_.cells al))] H (g+2+7+1+1):=hS
 refine zbT hS (by decide) zoD (by omega) fun H hS=>?_
 refine zaV (v:=quV 7 (g+2+7+1) [] [zaz]) (ns:=[quV 7 (g+2+7+1) [] [zaz]]) (L':=[(g+2+7+2,.cells [quV 7 (g+2+7+1) [] [zaz]]),quB PointT_.cells (g+2+7+1) [] [zaz],(g+2+5,.cells [.mp (g+2+0)]),(g+2+0,.obj none (zas (mpw zad zag ([(zaz,(⟨-2,zaz⟩:Step_))]:List (PointT_×Step_))))),(g+0,.cells (Bag_.cells al))]) 0 hS rfl rfl .no rfl rfl zjt nlb rfl fun H hS=>?_
 refine Ni ?_
 refine Ws ?_
 replace hS:=hS.toHead (L':=[(g+2+0,.obj none (zas (mpw zad zag ([(zaz,(⟨-2,zaz⟩:Step_))]:List (PointT_×Step_))))),(g+2+7+2,.cells [quV 7 (g+2+7+1) [] [zaz]]),quB PointT_.cells (g+2+7+1) [] [zaz],(g+2+5,.cells [.mp (g+2+0)]),(g+0,.cells (Bag_.cells al))]) 3 nlb rfl
 replace hS:=hS.toHead (L':=[(g+2+7+2,.cells [quV 7 (g+2+7+1) [] [zaz]]),(g+2+0,.obj none (zas (mpw zad zag ([(zaz,(⟨-2,zaz⟩:Step_))]:List (PointT_×Step_))))),quB PointT_.cells (g+2+7+1) [] [zaz],(g+2+5,.cells [.mp (g+2+0)]),(g+0,.cells (Bag_.cells al))]) 1 nlb rfl
 replace hS:=hS.toHead (L':=[(g+2+5,.cells [.mp (g+2+0)]),(g+2+7+2,.cells [quV 7 (g+2+7+1) [] [zaz]]),(g+2+0,.obj none (zas (mpw zad zag ([(zaz,(⟨-2,zaz⟩:Step_))]:List (PointT_×Step_))))),quB PointT_.cells (g+2+7+1) [] [zaz],(g+0,.cells (Bag_.cells al))]) 3 nlb rfl
 replace hS:=hS.toHead (L':=[(g+0,.cells (Bag_.cells al)),(g+2+5,.cells [.mp (g+2+0)]),(g+2+7+2,.cells [quV 7 (g+2+7+1) [] [zaz]]),(g+2+0,.obj none (zas (mpw zad zag ([(zaz,(⟨-2,zaz⟩:Step_))]:List (PointT_×Step_))))),quB PointT_.cells (g+2+7+1) [] [zaz]]) 4 nlb rfl
 replace hS:=hS.toHead (L':=[quB PointT_.cells (g+2+7+1) [] [zaz],(g+0,.cells (Bag_.cells al)),(g+2+5,.cells [.mp (g+2+0)]),(g+2+7+2,.cells [quV 7 (g+2+7+1) [] [zaz]]),(g+2+0,.obj none (zas (mpw zad zag ([(zaz,(⟨-2,zaz⟩:Step_))]:List (PointT_×Step_)))))]) 4 nlb rfl
 refine Sq ?_
 refine zaP ?_
 refine zcE (V:=zhy×Nat×List AV) (fun v=>[(0,pA Box_.cells a0),(3,.ptr (g+0) 0),(5,.ptr (g+2+5) 0),(6,.ptr (g+2+7+2) 0)]) (fun v k H' g'=>St (·<g) H0 [quB PointT_.cells v.2.1 v.2.2 v.1.2,(g+0,.cells (Bag_.cells al)),(g+2+5,.cells [.mp (g+2+0)]),(g+2+7+2,.cells [quV 7 v.2.1 v.2.2 v.1.2]),(g+2+0,.obj none (zas (mpw zad zag v.1.1)))] H' g'/\(∀c,c∈v.2.2->Go.AM.Pure c)/\zcL n b al k v.1=some r) (n:=n) ((([(zaz,(⟨-2,zaz⟩:Step_))]:List (PointT_×Step_)),[zaz]),(g+2+7+1),[]) (.k (.k (.k (.k .nil)))) ⟨hS.up (by omega),(fun c h=>by simp at h),hM⟩ ?_
 rintro ⟨⟨S1,S2⟩,q,pre⟩ m H g1 ⟨hS,hpre,hM⟩
 obtain _ | m:=m
 ·exact nomatch (show none=some _ from hM)
 replace hpre:∀c,c∈pre->Go.AM.Pure c:=hpre
 change wpA _ _ _ _ (Fr.of [(0,pA Box_.cells a0),(3,.ptr (g+0) 0),(5,.ptr (g+2+5) 0),(6,.ptr (g+2+7+2) 0)]) _ _
 replace hS:St (·<g) H0 [quB PointT_.cells q pre S2,(g+0,.cells (Bag_.cells al)),(g+2+5,.cells [.mp (g+2+0)]),(g+2+7+2,.cells [quV 7 q pre S2]),(g+2+0,.obj none (zas (mpw zad zag S1)))] H g1:=hS
 refine Sq ?_
 refine Sq ?_
 refine Rg 3 ?_
 refine zaQ (v:=quV 7 q pre S2) 3 hS (by decide) rfl rfl .no (po zhJ ziQ) ?_
 refine zsp (n:=S2.length) (by decide) rfl zp2 ?_
 refine Oi (.b (decide ((S2.length:Int)>0))) ?_
 refine Ni ?_
 refine Ws ?_
 cases S2 with
 | nil =>
  obtain rfl:S1=r:=Option.some.inj hM
  refine zfU (e:=decide ((([]:List PointT_).length:Int)>0)) rfl (by decide) ?_
  refine zcl ?_
  refine zaM ?_
  refine zaJ ?_
  refine zaR ?_
  refine Ws ?_
  refine Sq ?_
  refine Rg 2 ?_
  refine zaQ (v:=.mp (g+2+0)) 2 hS (by decide) rfl rfl .no (po zjs zk2) ?_
  refine Oa (.mp (g+2+0)) ?_
  refine Ni ?_
  refine Ws ?_
  refine zaT ?_
  exact zss (j:=(g+2+0)) 4 (.inr rfl) (zaC (zae rfl)) hS rfl rfl
 | cons x xs =>
  replace hM:Option.bind (zeo n b al x (S1,xs)) (fun S1=>Option.bind (zbg n b al x n 0 S1) fun S2=>zcL n b al m S2)=some r:=hM
  obtain ⟨SA,hSA,hM⟩:=zal hM
  obtain ⟨SB,hSB,hM⟩:=zal hM
  refine zji (e:=decide (((x::xs).length:Int)>0)) rfl (decide_eq_true (by rw [List.length_cons];omega)) ?_
  refine zaO ?_
  refine Ws ?_
  refine zaP ?_
  refine Sq ?_
  refine Rg 5 ?_
  refine zaQ (v:=quV 7 q pre (x::xs)) 3 hS (by decide) rfl rfl .no (po zhJ ziQ) ?_
  refine zpR (k:=7) (by decide) rfl rfl zhK ?_
  refine zmH (k:=7) (f:=PointT_.cells) hS (by decide) rfl .no zez (fun _=>rfl) ?_
  refine zbT hS (by decide) zdO (by omega) fun H hS=>?_
  refine zaV (v:=.agg (PointT_.cells x)) (ns:=(PointT_.cells x)) (L':=[(g1+3+3,.cells (PointT_.cells x)),quB PointT_.cells q pre (x::xs),(g+0,.cells (Bag_.cells al)),(g+2+5,.cells [.mp (g+2+0)]),(g+2+7+2,.cells [quV 7 q pre (x::xs)]),(g+2+0,.obj none (zas (mpw zad zag S1)))]) 0 hS rfl rfl .no rfl rfl zhH nlb rfl fun H hS=>?_
  refine Ni ?_
  refine Ws ?_
  refine Sq ?_
  refine Rg 3 ?_
  refine zaQ (v:=quV 7 q pre (x::xs)) 4 hS (by decide) rfl rfl .no (po zhJ ziQ) ?_
  refine zox (k:=7) (f:=PointT_.cells) (by decide) rfl rfl zhK (fun _=>rfl) ?_
  refine zaV (v:=quV 7 q (pre++x.cells) xs) (ns:=[quV 7 q (pre++x.cells) xs]) (L':=[(g1+3+3,.cells (PointT_.cells x)),quB PointT_.cells q pre (x::xs),(g+0,.cells (Bag_.cells al)),(g+2+5,.cells [.mp (g+2+0)]),(g+2+7+2,.cells [quV 7 q (pre++x.cells) xs]),(g+2+0,.obj none (zas (mpw zad zag S1)))]) 4 hS rfl rfl .no rfl rfl zjt nlb rfl fun H hS=>?_
  refine Ni ?_
  rw [zsw] at hS
  have hpre1:∀c,c∈pre++x.cells->Go.AM.Pure c:=fun c hc=>by
   rcases List.mem_append.1 hc with hc | hc
   ·exact hpre c hc
   ·exact (show ∀c,c∈(PointT_.cells x)->Go.AM.Pure c from zac (.v _) (zac (.v _) (zac (.v _) (zac (.v _) (zac (.v _) (zac (.v _) (zac (.v _) zaE))))))) c hc
  generalize pre++x.cells=preX at hS hpre1 ⊢
  replace hS:=hS.perm (L':=[quB PointT_.cells q preX xs,(g+0,.cells (Bag_.cells al)),(g+2+5,.cells [.mp (g+2+0)]),(g1+3+3,.cells (PointT_.cells x)),(g+2+7+2,.cells [quV 7 q preX xs]),(g+2+0,.obj none (zas (mpw zad zag S1)))]) (List.perm_append_comm (l₁:=[_,_,_]) (l₂:=[_]) |>.append_right _)
  refine Ws ?_
  refine Sq ?_
  refine Rg 2 ?_
  refine zfF (first:=[]) (cap:=[.ptr (g+0) 0,.ptr (g+2+5) 0,.ptr (g1+3+3) 0,.ptr (g+2+7+2) 0]) (by decide) rfl rfl ?_
  refine Oa (.fn (.func 129) [] [.ptr (g+0) 0,.ptr (g+2+5) 0,.ptr (g1+3+3) 0,.ptr (g+2+7+2) 0]) ?_
  refine Ni ?_
  refine Ws ?_
  refine zbm (J:=zhy×Nat×List AV) (fun j=>[(0,pA Box_.cells a0),(3,.ptr (g+0) 0),(5,.ptr (g+2+5) 0),(6,.ptr (g+2+7+2) 0),(7,.ptr (g1+3+3) 0),(8,.fn (.func 129) [] [.ptr (g+0) 0,.ptr (g+2+5) 0,.ptr (g1+3+3) 0,.ptr (g+2+7+2) 0])]) (fun j H' g'=>St (·<g) H0 [quB PointT_.cells j.2.1 j.2.2 j.1.2,(g+0,.cells (Bag_.cells al)),(g+2+5,.cells [.mp (g+2+0)]),(g1+3+3,.cells (PointT_.cells x)),(g+2+7+2,.cells [quV 7 j.2.1 j.2.2 j.1.2]),(g+2+0,.obj none (zas (mpw zad zag j.1.1)))] H' g'/\(∀c,c∈j.2.2->Go.AM.Pure c)/\j.1=SA) ?_ ?_
  rotate_left
  ·-- the selection
   refine Sq ?_
   refine Rg 10 ?_
   refine zaB (by decide) zbR rfl ?_
   refine zaB (by decide) zcd rfl ?_
   refine zaQ (v:=.i x.Stand.Credit) 3 hS (by decide) rfl rfl .no (po zah zaw) ?_
   refine Oi (.b (decide (x.Stand.Credit>0))) ?_
   refine Om (.b (decide (x.Stand.Credit>0))) ?_
   rcases bft (decide (x.Stand.Credit>0)) with hc1 | hc1
   ·replace hSA:=ifT hSA hc1
    refine Oy (want:=true) hc1 ?_
    refine zaB (by decide) zbR rfl ?_
    refine Oy (want:=true) hc1 ?_
    refine zaB (by decide) zc9 rfl ?_
    refine Oy (want:=true) hc1 ?_
    refine zaQ (v:=.i x.Stand.Place) 3 hS (by decide) rfl rfl .no (po zah zaw) ?_
    refine Oy (want:=true) hc1 ?_
    refine Oi (.b (decide (x.Stand.Place>0))) ?_
    refine Pt (.b (decide (x.Stand.Place>0))) hc1 ?_
    refine Ni ?_
    refine Ws ?_
    rcases bft (decide (x.Stand.Place>0)) with hc2 | hc2
    ·replace hSA:=ifT hSA hc2
     refine Ct hc2 ?_
     refine Sq ?_
     have hS0:=hS
     refine zdq (n:=19) rfl (by kernel_rfl) ?_
     refine Om (pA Box_.cells a0) ?_
     refine zg1 (f:=Box_.cells) (p:=a0) (u:=b) (by decide) rfl hb0 ?_
     refine Of ((Box.cells b.Box)) zcM ?_
     refine Of ((Box.cells b.Box)) zb0 ?_
     refine Olg (.agg (Wheel.cells b.Box.Wheel)) zcR ?_
     refine zaB (by decide) zbR rfl ?_
     refine zaB (by decide) zc9 rfl ?_
     refine zaQ (v:=.i x.Stand.Place) 3 hS (by decide) rfl rfl (.st hS0 3 rfl (by omega)) (po zah zaw) ?_
     refine zbU (cs:=[.i x.Stand.Place,.i 1]) (by decide) zc6 zhd rfl ?_
     refine za2 (es:=[[.i (-1)]]) hS (by decide) zaA zbW rfl zbP rfl (by decide) (by omega) fun H hS=>?_
     obtain ⟨rr,hrr,hSA⟩:=zal hSA
     refine zaD (bs:=[.agg (Wheel.cells b.Box.Wheel),.agg [.i x.Stand.Place,.i 1],.sl (.id (g1+3+5+3+2+10+9)) 1 (([-1]:List Int).map cI)]) (by decide) rfl rfl ((zjG hrr).le (.k (.k (.cons (.sl _ _ _) .nil)))) ?_
     refine Om (.tup [.agg (Stand.cells rr.1),.i rr.2.1,.i rr.2.2]) ?_
     refine Ox (.agg (Stand.cells rr.1)) ?_
     refine Ox (.i rr.2.1) ?_
     refine Ox (.i rr.2.2) ?_
     refine zbT hS (by decide) zc6 (by omega) fun H hS=>?_
     refine zaV (v:=.agg (Stand.cells rr.1)) (ns:=(Stand.cells rr.1)) (L':=[(g1+3+5+3+2+10+15,.cells (Stand.cells rr.1)),(g1+3+5+3+2+10+9,.row 3 1),quB PointT_.cells q preX xs,(g+0,.cells (Bag_.cells al)),(g+2+5,.cells [.mp (g+2+0)]),(g1+3+3,.cells (PointT_.cells x)),(g+2+7+2,.cells [quV 7 q preX xs]),(g+2+0,.obj none (zas (mpw zad zag S1)))]) 0 hS rfl rfl (.behind (by kernel_rfl)) rfl rfl zfp nlb rfl fun H hS=>?_
     refine Oa (.i rr.2.1) ?_
     refine Oa (.i rr.2.2) ?_
     refine Ni ?_
     replace hS:=hS.keep (L':=[(g1+3+5+3+2+10+15,.cells (Stand.cells rr.1)),quB PointT_.cells q preX xs,(g+0,.cells (Bag_.cells al)),(g+2+5,.cells [.mp (g+2+0)]),(g1+3+3,.cells (PointT_.cells x)),(g+2+7+2,.cells [quV 7 q preX xs]),(g+2+0,.obj none (zas (mpw zad zag S1)))]) [true,false,true,true,true,true,true,true] rfl
     refine zbO (L':=[quB PointT_.cells q preX xs,(g+0,.cells (Bag_.cells al)),(g+2+5,.cells [.mp (g+2+0)]),(g1+3+3,.cells (PointT_.cells x)),(g+2+7+2,.cells [quV 7 q preX xs]),(g+2+0,.obj none (zas (mpw zad zag S1)))]) 0 9 hS rfl rfl rfl fun H hS=>?_
     refine Ws ?_
     refine Rg 14 ?_
     refine Om (.fn (.func 129) [] [.ptr (g+0) 0,.ptr (g+2+5) 0,.ptr (g1+3+3) 0,.ptr (g+2+7+2) 0]) ?_
     refine Of ((Stand.cells rr.1)) zc9 ?_
     refine Olp (.i rr.1.Place) zah zaw ?_
     refine zaB (by decide) zbR rfl ?_
     refine zaB (by decide) zcd rfl ?_
     refine zaQ (v:=.i x.Stand.Credit) 3 hS (by decide) rfl rfl .no (po zah zaw) ?_
     refine Oi (.i (w64 (x.Stand.Credit-1))) ?_
     refine zbU (cs:=[.i rr.1.Place,.i (w64 (x.Stand.Credit-1))]) (by decide) zc6 zhd rfl ?_
     refine zaB (by decide) zef rfl ?_
     refine zaQ (v:=.agg (Bag_.cells x.in_)) 3 hS (by decide) rfl rfl .no (pg zc7) ?_
     refine zaB (by decide) zgP rfl ?_
     refine zaQ (v:=.i x.bought) 3 hS (by decide) rfl rfl .no (po zah zaw) ?_
     refine zbU (cs:=[.i rr.1.Place,.i (w64 (x.Stand.Credit-1)),.i x.in_.c0,.i x.in_.c1,.i x.in_.c2,.i x.in_.c3,.i x.bought]) (by decide) zdO ziP rfl ?_
     refine zlI (M:=zk8 al x (g+0) (g+2+5) (g1+3+3) (g+2+7+2) (g+2+0) q preX (S1,xs)) (L:=[]) (.inl rfl) hS (by decide) rfl rfl (zeB hSA hpre1 (show (ids (zk8 al x (g+0) (g+2+5) (g1+3+3) (g+2+7+2) (g+2+0) q preX (S1,xs))).Nodup from hS.nd)) (by omega) ?_
     rintro v M' H g2 ⟨q2,pre2,rfl,rfl,hq2,hpr2⟩ hg2 hS
     have hpre2:∀c,c∈pre2->Go.AM.Pure c:=by rcases hpr2 with rfl | rfl;exact hpre1;exact fun c hc=>by simp at hc
     refine Ni ?_
     exact zap (SA,q2,pre2) (.k (.k (.k (.k (.k (.k .nil)))))) ⟨hS,hpre2,rfl⟩
    ·replace hSA:=ifF hSA hc2
     obtain rfl:=Option.some.inj hSA
     refine Cf hc2 ?_
     refine zaO ?_
     exact zap ((S1,xs),q,preX) (.k (.k (.k (.k (.k (.k .nil)))))) ⟨hS.up (by omega),hpre1,rfl⟩
   ·replace hSA:=ifF hSA hc1
    obtain rfl:=Option.some.inj hSA
    refine On (want:=true) hc1 ?_
    refine On (want:=true) hc1 ?_
    refine On (want:=true) hc1 ?_
    refine On (want:=true) hc1 ?_
    refine Pf (.b false) hc1 ?_
    refine Ni ?_
    refine Ws ?_
    refine zfU (e:=false) rfl rfl ?_
    refine zaO ?_
    exact zap ((S1,xs),q,preX) (.k (.k (.k (.k (.k (.k .nil)))))) ⟨hS.up (by omega),hpre1,rfl⟩
  rintro ⟨SC,q,pre⟩ H g2 ⟨hS,hpre,rfl⟩
  replace hpre:∀c,c∈pre->Go.AM.Pure c:=hpre
  change wpA _ _ _ _ (Fr.of [(0,pA Box_.cells a0),(3,.ptr (g+0) 0),(5,.ptr (g+2+5) 0),(6,.ptr (g+2+7+2) 0),(7,.ptr (g1+3+3) 0),(8,.fn (.func 129) [] [.ptr (g+0) 0,.ptr (g+2+5) 0,.ptr (g1+3+3) 0,.ptr (g+2+7+2) 0])]) _ _
  replace hS:St (·<g) H0 [quB PointT_.cells q pre SC.2,(g+0,.cells (Bag_.cells al)),(g+2+5,.cells [.mp (g+2+0)]),(g1+3+3,.cells (PointT_.cells x)),(g+2+7+2,.cells [quV 7 q pre SC.2]),(g+2+0,.obj none (zas (mpw zad zag SC.1)))] H g2:=hS
  refine Sq ?_
  refine Rg 8 ?_
  refine Om (pA Box_.cells a0) ?_
  refine zg1 (f:=Box_.cells) (p:=a0) (u:=b) (by decide) rfl hb0 ?_
  refine Of ((Box.cells b.Box)) zcM ?_
  refine Of ((Box.cells b.Box)) zb0 ?_
  refine Of ((Box.cells b.Box)) zcq ?_
  refine Olp (.sl .no 1 (b.Box.Wheel.Coins.map cI)) zar zaH ?_
  refine zb7 (n:=b.Box.Wheel.Coins.length) (by decide) rfl (List.length_map _) zaN ?_
  refine Om (.i 0) ?_
  refine Ni ?_
  refine Ws ?_
  refine zaP ?_
  refine zcE (V:=Int×zhy×Nat×List AV) (fun v=>[(0,pA Box_.cells a0),(3,.ptr (g+0) 0),(5,.ptr (g+2+5) 0),(6,.ptr (g+2+7+2) 0),(7,.ptr (g1+3+3) 0),(8,.fn (.func 129) [] [.ptr (g+0) 0,.ptr (g+2+5) 0,.ptr (g1+3+3) 0,.ptr (g+2+7+2) 0]),(77,.i (b.Box.Wheel.Coins.length:Int)),(78,.i v.1)]) (fun v k H' g'=>St (·<g) H0 [quB PointT_.cells v.2.2.1 v.2.2.2 v.2.1.2,(g+0,.cells (Bag_.cells al)),(g+2+5,.cells [.mp (g+2+0)]),(g1+3+3,.cells (PointT_.cells x)),(g+2+7+2,.cells [quV 7 v.2.2.1 v.2.2.2 v.2.1.2]),(g+2+0,.obj none (zas (mpw zad zag v.2.1.1)))] H' g'/\(∀c,c∈v.2.2.2->Go.AM.Pure c)/\zbg n b al x k v.1 v.2.1=some SB) (n:=n) (0,SC,q,pre) (.k (.k (.k (.k (.k (.k (.k (.k .nil)))))))) ⟨hS.up (by omega),hpre,hSB⟩ ?_
  rintro ⟨k,SC,q,pre⟩ m3 H g3 ⟨hS,hpre,hSB⟩
  obtain _ | m3:=m3
  ·exact nomatch (show none=some _ from hSB)
  replace hpre:∀c,c∈pre->Go.AM.Pure c:=hpre
  change wpA _ _ _ _ (Fr.of [(0,pA Box_.cells a0),(3,.ptr (g+0) 0),(5,.ptr (g+2+5) 0),(6,.ptr (g+2+7+2) 0),(7,.ptr (g1+3+3) 0),(8,.fn (.func 129) [] [.ptr (g+0) 0,.ptr (g+2+5) 0,.ptr (g1+3+3) 0,.ptr (g+2+7+2) 0]),(77,.i (b.Box.Wheel.Coins.length:Int)),(78,.i k)]) _ _
  replace hS:St (·<g) H0 [quB PointT_.cells q pre SC.2,(g+0,.cells (Bag_.cells al)),(g+2+5,.cells [.mp (g+2+0)]),(g1+3+3,.cells (PointT_.cells x)),(g+2+7+2,.cells [quV 7 q pre SC.2]),(g+2+0,.obj none (zas (mpw zad zag SC.1)))] H g3:=hS
  unfold zbg at hSB
  refine Sq ?_
  refine Rg 1 ?_
  refine Oi (.b (decide (k<(b.Box.Wheel.Coins.length:Int)))) ?_
  refine Ni ?_
  refine Ws ?_
  refine Sq ?_
  rcases bft (decide (k<(b.Box.Wheel.Coins.length:Int))) with hk1 | hk1
  rotate_left
  ·replace hSB:=ifF hSB hk1
   obtain rfl:=Option.some.inj hSB
   refine Cf hk1 ?_
   refine zcl ?_
   refine zaM ?_
   refine zaJ ?_
   refine zaR ?_
   refine zaI ?_
   exact zbS (SC,q,pre) (Nat.lt_succ_self _) (.k (.k (.k (.k .nil)))) ⟨(hS.keep (L':=[quB PointT_.cells q pre SC.2,(g+0,.cells (Bag_.cells al)),(g+2+5,.cells [.mp (g+2+0)]),(g+2+7+2,.cells [quV 7 q pre SC.2]),(g+2+0,.obj none (zas (mpw zad zag SC.1)))]) [true,true,true,false,true,true] rfl).up (by omega),hpre,hM⟩
  replace hSB:=ifT hSB hk1
  refine Ct hk1 ?_
  refine zaO ?_
  refine Ws ?_
  obtain ⟨e1,he1,hSB⟩:=zal hSB
  obtain ⟨e2,he2,hSB⟩:=zal hSB
  refine zbm (J:=zhy×Nat×List AV) (fun j=>[(0,pA Box_.cells a0),(3,.ptr (g+0) 0),(5,.ptr (g+2+5) 0),(6,.ptr (g+2+7+2) 0),(7,.ptr (g1+3+3) 0),(8,.fn (.func 129) [] [.ptr (g+0) 0,.ptr (g+2+5) 0,.ptr (g1+3+3) 0,.ptr (g+2+7+2) 0]),(77,.i (b.Box.Wheel.Coins.length:Int)),(78,.i k)]) (fun j H' g'=>St (·<g) H0 [quB PointT_.cells j.2.1 j.2.2 j.1.2,(g+0,.cells (Bag_.cells al)),(g+2+5,.cells [.mp (g+2+0)]),(g1+3+3,.cells (PointT_.cells x)),(g+2+7+2,.cells [quV 7 j.2.1 j.2.2 j.1.2]),(g+2+0,.obj none (zas (mpw zad zag j.1.1)))] H' g'/\(∀c,c∈j.2.2->Go.AM.Pure c)/\zbg n b al x m3 (w64 (k+1)) j.1=some SB) ?_ ?_
  ·rintro ⟨SD,q4,pre4⟩ H g4 ⟨hS,hpre4,hSB⟩
   change wpA _ _ _ _ (Fr.of [(0,pA Box_.cells a0),(3,.ptr (g+0) 0),(5,.ptr (g+2+5) 0),(6,.ptr (g+2+7+2) 0),(7,.ptr (g1+3+3) 0),(8,.fn (.func 129) [] [.ptr (g+0) 0,.ptr (g+2+5) 0,.ptr (g1+3+3) 0,.ptr (g+2+7+2) 0]),(77,.i (b.Box.Wheel.Coins.length:Int)),(78,.i k)]) _ _
   refine Rg 2 ?_
   refine Oi (.i (w64 (k+1))) ?_
   refine Om (.i (w64 (k+1))) ?_
   refine Ni ?_
   exact zbS (w64 (k+1),SD,q4,pre4) (Nat.lt_succ_self _) (.k (.k (.k (.k (.k (.k (.k (.k .nil)))))))) ⟨hS.up (by omega),hpre4,hSB⟩
  refine zaP ?_
  refine Sq ?_
  refine Rg 2 ?_
  refine Om (.i k) ?_
  refine Oa (.i k) ?_
  refine Ni ?_
  refine Ws ?_
  refine Sq ?_
  refine Sq ?_
  have hS0:=hS
  refine zdq (n:=8) rfl (by kernel_rfl) ?_
  refine Om (.i k) ?_
  refine zaB (by decide) zef rfl ?_
  refine zfY (z:=k) (by decide) rfl rfl ze8 (zf6 he1) ?_
  refine zkU (xs:=([x.in_.c0,x.in_.c1,x.in_.c2,x.in_.c3]:List Int)) (z:=k) (u:=e1) (off:=0+2) 3 hS (by decide) rfl rfl (.st hS0 3 rfl (by omega)) rfl he1 zah zaw ?_
  refine Om (.i k) ?_
  refine zfY (z:=k) (by decide) rfl rfl ze8 (zf6 he2) ?_
  refine zkU (xs:=([al.c0,al.c1,al.c2,al.c3]:List Int)) (z:=k) (u:=e2) (off:=0) 1 hS (by decide) rfl rfl (.st hS0 1 rfl (by omega)) rfl he2 zah zaw ?_
  refine Oi (.b (e1==e2)) ?_
  refine Ni ?_
  refine Ws ?_
  rcases bft (e1==e2) with he | he
  ·replace hSB:=ifT hSB he
   refine Ct he ?_
   refine zcl ?_
   refine zaM ?_
   refine zaR ?_
   exact zap (SC,q,pre) (.k (.k (.k (.k (.k (.k (.k (.k .nil)))))))) ⟨hS.up (by omega),hpre,hSB⟩
  replace hSB:=ifF hSB he
  refine Cf he ?_
  refine zaO ?_
  refine Ws ?_
  obtain ⟨rr,hrr,hSB⟩:=zal hSB
  obtain ⟨u,hu,hSB⟩:=zal hSB
  obtain ⟨SD,hSD,hSB⟩:=zal hSB
  refine Sq ?_
  have hS0:=hS
  refine zdq (n:=20) rfl (by kernel_rfl) ?_
  refine Om (pA Box_.cells a0) ?_
  refine zg1 (f:=Box_.cells) (p:=a0) (u:=b) (by decide) rfl hb0 ?_
  refine Of ((Box.cells b.Box)) zcM ?_
  refine Of ((Box.cells b.Box)) zb0 ?_
  refine Olg (.agg (Wheel.cells b.Box.Wheel)) zcR ?_
  refine zaB (by decide) zbR rfl ?_
  refine zaB (by decide) zc9 rfl ?_
  refine zaQ (v:=.i x.Stand.Place) 3 hS (by decide) rfl rfl (.st hS0 3 rfl (by omega)) (po zah zaw) ?_
  refine zbU (cs:=[.i x.Stand.Place,.i 0]) (by decide) zc6 zhd rfl ?_
  refine Om (.i k) ?_
  refine za2 (es:=[[.i k]]) hS (by decide) zaA zbW rfl zbP rfl (by decide) (by omega) fun H hS=>?_
  refine zaD (bs:=[.agg (Wheel.cells b.Box.Wheel),.agg [.i x.Stand.Place,.i 0],.sl (.id (g3+1+2+8+10)) 1 (([k]:List Int).map cI)]) (by decide) rfl rfl ((zjG hrr).le (.k (.k (.cons (.sl _ _ _) .nil)))) ?_
  refine Om (.tup [.agg (Stand.cells rr.1),.i rr.2.1,.i rr.2.2]) ?_
  refine Ox (.agg (Stand.cells rr.1)) ?_
  refine Ox (.i rr.2.1) ?_
  refine Ox (.i rr.2.2) ?_
  refine zbT hS (by decide) zc6 (by omega) fun H hS=>?_
  refine zaV (v:=.agg (Stand.cells rr.1)) (ns:=(Stand.cells rr.1)) (L':=[(g3+1+2+8+16,.cells (Stand.cells rr.1)),(g3+1+2+8+10,.row 3 1),quB PointT_.cells q pre SC.2,(g+0,.cells (Bag_.cells al)),(g+2+5,.cells [.mp (g+2+0)]),(g1+3+3,.cells (PointT_.cells x)),(g+2+7+2,.cells [quV 7 q pre SC.2]),(g+2+0,.obj none (zas (mpw zad zag SC.1)))]) 0 hS rfl rfl (.behind (by kernel_rfl)) rfl rfl zfp nlb rfl fun H hS=>?_
  refine Oa (.i rr.2.1) ?_
  refine Oa (.i rr.2.2) ?_
  refine Ni ?_
  replace hS:=hS.keep (L':=[(g3+1+2+8+16,.cells (Stand.cells rr.1)),quB PointT_.cells q pre SC.2,(g+0,.cells (Bag_.cells al)),(g+2+5,.cells [.mp (g+2+0)]),(g1+3+3,.cells (PointT_.cells x)),(g+2+7+2,.cells [quV 7 q pre SC.2]),(g+2+0,.obj none (zas (mpw zad zag SC.1)))]) [true,false,true,true,true,true,true,true] rfl
  refine zbO (L':=[quB PointT_.cells q pre SC.2,(g+0,.cells (Bag_.cells al)),(g+2+5,.cells [.mp (g+2+0)]),(g1+3+3,.cells (PointT_.cells x)),(g+2+7+2,.cells [quV 7 q pre SC.2]),(g+2+0,.obj none (zas (mpw zad zag SC.1)))]) 0 13 hS rfl rfl rfl fun H hS=>?_
  refine Ws ?_
  refine Sq ?_
  refine Rg 19 ?_
  refine Of ((Stand.cells rr.1)) zc9 ?_
  refine Olp (.i rr.1.Place) zah zaw ?_
  refine zaB (by decide) zbR rfl ?_
  refine zaB (by decide) zcd rfl ?_
  refine zaQ (v:=.i x.Stand.Credit) 3 hS (by decide) rfl rfl .no (po zah zaw) ?_
  refine Of ((Stand.cells rr.1)) zcd ?_
  refine Olp (.i rr.1.Credit) zah zaw ?_
  refine Oi (.i (w64 (x.Stand.Credit+rr.1.Credit))) ?_
  refine zbU (cs:=[.i rr.1.Place,.i (w64 (x.Stand.Credit+rr.1.Credit))]) (by decide) zc6 zhd rfl ?_
  refine zaB (by decide) zef rfl ?_
  refine zaQ (v:=.agg (Bag_.cells x.in_)) 3 hS (by decide) rfl rfl .no (pg zc7) ?_
  refine zaB (by decide) zgP rfl ?_
  refine zaQ (v:=.i x.bought) 3 hS (by decide) rfl rfl .no (po zah zaw) ?_
  refine Of ((Stand.cells rr.1)) zcd ?_
  refine Olp (.i rr.1.Credit) zah zaw ?_
  refine Oi (.i (w64 (x.bought+rr.1.Credit))) ?_
  refine zbU (cs:=[.i rr.1.Place,.i (w64 (x.Stand.Credit+rr.1.Credit)),.i x.in_.c0,.i x.in_.c1,.i x.in_.c2,.i x.in_.c3,.i (w64 (x.bought+rr.1.Credit))]) (by decide) zdO ziP rfl ?_
  refine zbT hS (by decide) zdO (by omega) fun H hS=>?_
  refine zaV (v:=.agg [.i rr.1.Place,.i (w64 (x.Stand.Credit+rr.1.Credit)),.i x.in_.c0,.i x.in_.c1,.i x.in_.c2,.i x.in_.c3,.i (w64 (x.bought+rr.1.Credit))]) (ns:=[.i rr.1.Place,.i (w64 (x.Stand.Credit+rr.1.Credit)),.i x.in_.c0,.i x.in_.c1,.i x.in_.c2,.i x.in_.c3,.i (w64 (x.bought+rr.1.Credit))]) (L':=[(g3+1+2+8+20+17,.cells [.i rr.1.Place,.i (w64 (x.Stand.Credit+rr.1.Credit)),.i x.in_.c0,.i x.in_.c1,.i x.in_.c2,.i x.in_.c3,.i (w64 (x.bought+rr.1.Credit))]),quB PointT_.cells q pre SC.2,(g+0,.cells (Bag_.cells al)),(g+2+5,.cells [.mp (g+2+0)]),(g1+3+3,.cells (PointT_.cells x)),(g+2+7+2,.cells [quV 7 q pre SC.2]),(g+2+0,.obj none (zas (mpw zad zag SC.1)))]) 0 hS rfl rfl .no rfl rfl zhH nlb rfl fun H hS=>?_
  refine Ni ?_
  refine Ws ?_
  refine Sq ?_
  refine Rg 8 ?_
  refine Om (.i k) ?_
  refine zaB (by decide) zef rfl ?_
  refine zfY (z:=k) (by decide) rfl rfl ze8 (zf6 he1) ?_
  refine zkU (xs:=([x.in_.c0,x.in_.c1,x.in_.c2,x.in_.c3]:List Int)) (z:=k) (u:=e1) (off:=0+2) 0 hS (by decide) rfl rfl .no rfl he1 zah zaw ?_
  refine Oi (.i (w64 (e1+1))) ?_
  refine zaB (by decide) zef rfl ?_
  refine zfY (z:=k) (by decide) rfl rfl ze8 (zf6 he1) ?_
  refine zkV (xs:=([x.in_.c0,x.in_.c1,x.in_.c2,x.in_.c3]:List Int)) (u:=u) (z:=k) (v:=(w64 (e1+1))) (off:=0+2) (cs':=[.i rr.1.Place,.i (w64 (x.Stand.Credit+rr.1.Credit)),.i (u.getD 0 0),.i (u.getD 1 0),.i (u.getD 2 0),.i (u.getD 3 0),.i (w64 (x.bought+rr.1.Credit))]) (L':=[(g3+1+2+8+20+17,.cells [.i rr.1.Place,.i (w64 (x.Stand.Credit+rr.1.Credit)),.i (u.getD 0 0),.i (u.getD 1 0),.i (u.getD 2 0),.i (u.getD 3 0),.i (w64 (x.bought+rr.1.Credit))]),quB PointT_.cells q pre SC.2,(g+0,.cells (Bag_.cells al)),(g+2+5,.cells [.mp (g+2+0)]),(g1+3+3,.cells (PointT_.cells x)),(g+2+7+2,.cells [quV 7 q pre SC.2]),(g+2+0,.obj none (zas (mpw zad zag SC.1)))]) 0 hS rfl rfl .no rfl rfl hu zgt rfl rfl fun H hS=>?_
  refine Ni ?_
  replace hS:=hS.perm (L':=[quB PointT_.cells q pre SC.2,(g+0,.cells (Bag_.cells al)),(g+2+5,.cells [.mp (g+2+0)]),(g1+3+3,.cells (PointT_.cells x)),(g+2+7+2,.cells [quV 7 q pre SC.2]),(g+2+0,.obj none (zas (mpw zad zag SC.1))),(g3+1+2+8+20+17,.cells [.i rr.1.Place,.i (w64 (x.Stand.Credit+rr.1.Credit)),.i (u.getD 0 0),.i (u.getD 1 0),.i (u.getD 2 0),.i (u.getD 3 0),.i (w64 (x.bought+rr.1.Credit))])]) (List.perm_append_comm (l₁:=[_,_,_,_,_,_]) (l₂:=[_]))
  refine Ws ?_
  refine Rg 4 ?_
  refine Om (.fn (.func 129) [] [.ptr (g+0) 0,.ptr (g+2+5) 0,.ptr (g1+3+3) 0,.ptr (g+2+7+2) 0]) ?_
  refine Om (.i k) ?_
  refine zaQ (v:=.agg [.i rr.1.Place,.i (w64 (x.Stand.Credit+rr.1.Credit)),.i (u.getD 0 0),.i (u.getD 1 0),.i (u.getD 2 0),.i (u.getD 3 0),.i (w64 (x.bought+rr.1.Credit))]) 6 hS (by decide) rfl rfl .no (pg zez) ?_
  refine zlI (M:=zk8 al x (g+0) (g+2+5) (g1+3+3) (g+2+7+2) (g+2+0) q pre SC) (L:=[(g3+1+2+8+20+17,.cells [.i rr.1.Place,.i (w64 (x.Stand.Credit+rr.1.Credit)),.i (u.getD 0 0),.i (u.getD 1 0),.i (u.getD 2 0),.i (u.getD 3 0),.i (w64 (x.bought+rr.1.Credit))])]) (.inl rfl) hS (by decide) rfl rfl (zeB hSD hpre (show (ids (zk8 al x (g+0) (g+2+5) (g1+3+3) (g+2+7+2) (g+2+0) q pre SC)).Nodup from (hS.keep (L':=zk8 al x (g+0) (g+2+5) (g1+3+3) (g+2+7+2) (g+2+0) q pre SC) [true,true,true,true,true,true,false] rfl).nd)) (by omega) ?_
  rintro v M' H g4 ⟨q4,pre4,rfl,rfl,hq4,hpr4⟩ hg4 hS
  have hpre4:∀c,c∈pre4->Go.AM.Pure c:=by rcases hpr4 with rfl | rfl;exact hpre;exact fun c hc=>by simp at hc
  refine Ni ?_
  refine zaI ?_
  exact zap (SD,q4,pre4) (.k (.k (.k (.k (.k (.k (.k (.k .nil)))))))) ⟨hS.keep (L':=zk8 al x (g+0) (g+2+5) (g1+3+3) (g+2+7+2) (g+2+0) q4 pre4 SD) [true,true,true,true,true,true,false] rfl,hpre4,hSB⟩
theorem zeg {n:Nat} {a0:Option Box_} {r:Bag_} (hM:zc4 n a0=some r):zaL Try.prog 100 [pA Box_.cells a0] (.agg [.i r.c0,.i r.c1,.i r.c2,.i r.c3]):=by
 refine zao mixed Try.func100 rfl (by decide) Try.ntmps100 (by simp) ?pure fun H0 g hf=>?_
 case pure=>exact .agg _ (zac (.v _) (zac (.v _) (zac (.v _) (zac (.v _) zaE))))
 rw [zaj]
 change wpA _ _ _ _ (Fr.of [(0,pA Box_.cells a0)]) H0 g
 have hS:=St.start hf
 refine Sq ?_
 refine Rg 1 ?_
 refine zbT hS (by decide) zic (by omega) fun H hS=>?_
 refine Ni ?_
 refine Ws ?_
 refine Sq ?_
 refine Rg 1 ?_
 refine zbT hS (by decide) zic (by omega) fun H hS=>?_
 refine Ni ?_
 refine Ws ?_
 refine zbm (J:=Int×Int×Int×Int) (fun j=>[(2,.ptr (g+0) 0),(3,.ptr (g+1+0) 0)]) (fun j H' g'=>St (·<g) H0 [(g+1+0,.cells [.i j.1,.i j.2.1,.i j.2.2.1,.i j.2.2.2]),(g+0,.cells [.i 0,.i 0,.i 0,.i 0])] H' g'/\zcQ j.1 j.2.1 j.2.2.1 j.2.2.2=some r) ?_ ?_
 ·rintro ⟨v1,v2,v3,v4⟩ H g1 ⟨hS,hM⟩
  change wpA _ _ _ _ (Fr.of [(2,.ptr (g+0) 0),(3,.ptr (g+1+0) 0)]) _ _
  replace hS:St (·<g) H0 [(g+1+0,.cells [.i v1,.i v2,.i v3,.i v4]),(g+0,.cells [.i 0,.i 0,.i 0,.i 0])] H g1:=hS
  replace hM:zcQ v1 v2 v3 v4=some r:=hM
  refine Sq ?_
  refine Rg 2 ?_
  refine zaQ (v:=.agg [.i v1,.i v2,.i v3,.i v4]) 0 hS (by decide) rfl rfl .no (pg zc7) ?_
  refine zaV (v:=.agg [.i v1,.i v2,.i v3,.i v4]) (ns:=[.i v1,.i v2,.i v3,.i v4]) (L':=[(g+1+0,.cells [.i v1,.i v2,.i v3,.i v4]),(g+0,.cells [.i v1,.i v2,.i v3,.i v4])]) 1 hS rfl rfl .no rfl rfl zlL nlb rfl fun H hS=>?_
  refine Ni ?_
  replace hS:=hS.keep (L':=[(g+0,.cells [.i v1,.i v2,.i v3,.i v4])]) [false,true] rfl
  refine Ws ?_
  refine zaT ?_
  refine za5 (x:=.agg [.i v1,.i v2,.i v3,.i v4]) (f:=fun r=>.agg [.i r.c0,.i r.c1,.i r.c2,.i r.c3]) (.inr rfl) ?_ (.refl _) (Option.some.inj hM) hS
  exact (zaC (zdc (x:=.agg [.i v1,.i v2,.i v3,.i v4]) 0 hS rfl rfl (pg zc7)))
 ·refine Sq ?_
  refine Rg 7 ?_
  refine Om (pA Box_.cells a0) ?_
  obtain ⟨x5,hx5,hM⟩:=zal hM
  refine zg1 (f:=Box_.cells) (p:=a0) (u:=x5) (by decide) rfl hx5 ?_
  refine Of ((Box.cells x5.Box)) zcM ?_
  refine Of ((Box.cells x5.Box)) zb5 ?_
  refine Olp (.sl .no 1 (x5.Box.Found.map cI)) zar zaH ?_
  refine zb7 (n:=x5.Box.Found.length) (by decide) rfl (List.length_map _) zaN ?_
  refine Om (.i 0) ?_
  refine Ni ?_
  refine Ws ?_
  refine zaP ?_
  refine zcE (V:=Int×Int×Int×Int×Int) (fun v=>[(0,pA Box_.cells a0),(2,.ptr (g+0) 0),(3,.ptr (g+1+0) 0),(10,.sl .no 1 (x5.Box.Found.map cI)),(11,.i (x5.Box.Found.length:Int)),(12,.i v.1)]) (fun v m3 H' g'=>St (·<g) H0 [(g+1+0,.cells [.i v.2.1,.i v.2.2.1,.i v.2.2.2.1,.i v.2.2.2.2]),(g+0,.cells [.i 0,.i 0,.i 0,.i 0])] H' g'/\zbx a0 x5 m3 v.1 v.2.1 v.2.2.1 v.2.2.2.1 v.2.2.2.2=some r) (n:=n) (0,0,0,0,0) (.k (.k (.k (.k (.k (.k .nil)))))) ⟨(hS.keep [true,true] rfl).up (by omega),hM⟩ ?_
  rintro ⟨v7,v8,v9,v10,v11⟩ m3 H g3 ⟨hS,hM⟩
  obtain _ | m3:=m3
  ·exact nomatch (show none=some _ from hM)
  change wpA _ _ _ _ (Fr.of [(0,pA Box_.cells a0),(2,.ptr (g+0) 0),(3,.ptr (g+1+0) 0),(10,.sl .no 1 (x5.Box.Found.map cI)),(11,.i (x5.Box.Found.length:Int)),(12,.i v7)]) _ _
  replace hS:St (·<g) H0 [(g+1+0,.cells [.i v8,.i v9,.i v10,.i v11]),(g+0,.cells [.i 0,.i 0,.i 0,.i 0])] H g3:=hS
  replace hM:zci a0 x5 (zbx a0 x5 m3) v7 v8 v9 v10 v11=some r:=hM
  refine Sq ?_
  refine Rg 1 ?_
  refine Oi (.b (decide (v7<(x5.Box.Found.length:Int)))) ?_
  refine Ni ?_
  refine Ws ?_
  refine Sq ?_
  rcases bft (decide (v7<(x5.Box.Found.length:Int))) with hb12 | hb12
  ·replace hM:=ifT hM hb12
   refine Ct hb12 ?_
   refine zaO ?_
   refine Ws ?_
   refine Sq ?_
   refine zaP ?_
   refine Sq ?_
   refine Rg 5 ?_
   refine Om (.i v7) ?_
   obtain ⟨x13,hx13,hM⟩:=zal hM
   refine zbb (xs:=x5.Box.Found) (f:=cI) (z:=v7) (u:=x13) (by decide) rfl rfl zaA hx13 ?_
   refine Olp (.i x13) zah zaw ?_
   refine Oa (.i v7) ?_
   refine Oa (.i x13) ?_
   refine Ni ?_
   refine Ws ?_
   refine Rg 13 ?_
   refine Om (.i v7) ?_
   refine Om (.i x13) ?_
   refine Om (pA Box_.cells a0) ?_
   obtain ⟨x14,hx14,hM⟩:=zal hM
   refine zg1 (f:=Box_.cells) (p:=a0) (u:=x14) (by decide) rfl hx14 ?_
   refine Of ((Box.cells x14.Box)) zcM ?_
   refine Of ((Box.cells x14.Box)) zcr ?_
   refine Olp (.sl .no 1 (x14.Box.Slugs.map cI)) zar zaH ?_
   refine Om (.i v7) ?_
   obtain ⟨x15,hx15,hM⟩:=zal hM
   refine zbb (xs:=x14.Box.Slugs) (f:=cI) (z:=v7) (u:=x15) (by decide) rfl rfl zaA hx15 ?_
   refine Olp (.i x15) zah zaw ?_
   refine Oi (.i (w64 (x13+x15))) ?_
   obtain ⟨x16,hx16,hM⟩:=zal hM
   refine zfY (z:=v7) (by decide) rfl rfl ze8 (zf6 hx16) ?_
   obtain ⟨l17,hl17,hM⟩:=zal hM
   refine zkV (xs:=([v8,v9,v10,v11]:List Int)) (u:=l17) (z:=v7) (v:=(w64 (x13+x15))) (off:=0) (cs':=[.i (l17.getD 0 0),.i (l17.getD 1 0),.i (l17.getD 2 0),.i (l17.getD 3 0)]) (L':=[(g+1+0,.cells [.i (l17.getD 0 0),.i (l17.getD 1 0),.i (l17.getD 2 0),.i (l17.getD 3 0)]),(g+0,.cells [.i 0,.i 0,.i 0,.i 0])]) 0 hS rfl rfl .no rfl rfl hl17 zgt rfl rfl fun H hS=>?_
   refine Ni ?_
   refine zaI ?_
   refine Ws ?_
   refine Rg 2 ?_
   refine Oi (.i (w64 (v7+1))) ?_
   refine Om (.i (w64 (v7+1))) ?_
   refine Ni ?_
   exact zbS (w64 (v7+1),(l17.getD 0 0),(l17.getD 1 0),(l17.getD 2 0),(l17.getD 3 0)) (Nat.lt_succ_self _) (.k (.k (.k (.k (.k (.k .nil)))))) ⟨(hS.keep [true,true] rfl).up (by omega),hM⟩
  ·replace hM:=ifF hM hb12
   refine Cf hb12 ?_
   refine zcl ?_
   refine zaM ?_
   refine zaJ ?_
   refine zaR ?_
   exact zap (v8,v9,v10,v11) (.k (.k .nil)) ⟨(hS.keep [true,true] rfl).up (by omega),hM⟩
theorem znE (b:Option Box_):Go.AM.Pure (pA Box_.cells b):=zmF (fun x=>zac (.v _) (zac (.sl _ _ (zau (fun x=>(zac (.v _) zaE)))) (zac (.sl _ _ (zau (fun x=>(zac (.v _) zaE)))) (zac (.sl _ _ (zau (fun x=>(zac (.v _) zaE)))) (zac (.sl _ _ (zau (fun x=>(zac (.v _) zaE)))) (zac (.sl _ _ (zau (fun x=>(zac (.v _) zaE)))) (zac (.v _) (zac (.v _) zaE)))))))) b
theorem zfM {n:Nat} {a0:Option Box_} {r:List Int} (hM:zco n a0=some r):zaL Try.prog 61 [pA Box_.cells a0] (.sl .no 1 (r.map cI)):=by
 refine zao mixed Try.func61 rfl (by decide) Try.ntmps61 (by simp) ?pure fun H0 g hf=>?_
 case pure=>exact .sl _ _ (zau (fun x=>(zac (.v _) zaE)))
 rw [zaj]
 change wpA _ _ _ _ (Fr.of [(0,pA Box_.cells a0)]) H0 g
 have hS:=St.start hf
 unfold zco at hM
 refine Sq ?_
 refine Rg 1 ?_
 refine Oa (.sl .nil 0 []) ?_
 refine Ni ?_
 refine Ws ?_
 refine Sq ?_
 refine Rg 10 ?_
 refine Om (pA Box_.cells a0) ?_
 refine Om (pA Box_.cells a0) ?_
 obtain ⟨r1,hr1,hM⟩:=zal hM
 refine zaD (bs:=[pA Box_.cells a0]) (by decide) rfl rfl ((zeg hr1).le (.k .nil)) ?_
 obtain ⟨M,hMM,hM⟩:=zal hM
 refine znp (bs:=[pA Box_.cells a0,.agg (Bag_.cells r1)]) (p:=zas (mpw zad zag M)) hS (by decide) rfl rfl ((zfs hMM).le (.k (.k .nil))) (zac (znE _) (zac (.agg _ (zac (.v _) (zac (.v _) (zac (.v _) (zac (.v _) zaE))))) zaE)) (by omega) fun H hS=>?_
 refine Om (pA Box_.cells a0) ?_
 obtain ⟨r2,hr2,hM⟩:=zal hM
 refine zaD (bs:=[pA Box_.cells a0]) (by decide) rfl rfl ((zeg hr2).le (.k .nil)) ?_
 have hok:zhx M=true:=by
  cases h:zhx M with
  | true=>rfl
  | false=>rw [if_neg (by rw [h];simp)] at hM;cases hM
 rw [if_pos hok] at hM
 obtain rfl:=Option.some.inj hM
 refine zlI (M:=[((g+1+3),.obj none (zas (mpw zad zag M)))]) (L:=[]) (.inl rfl) hS (by decide) rfl rfl (zg5 hok) (by omega) ?_
 rintro v M' H gE ⟨l,jn,hlp,hjn,rfl,rfl⟩ hgE hS
 have hEp:(l.foldl (zaY r2) []).Perm (zdL r2 M):=zlT hlp
 have hEn:((l.foldl (zaY r2) []).map (·.1)).Nodup:=(zjB r2 l).nd
 have hEk:∀x,x∈l.foldl (zaY r2) []->okI x.1=true:=(zhN l [] (fun b=>okI b=true) (fun p hp=>by obtain ⟨x,hx,rfl⟩:=List.mem_map.1 (hlp.mem_iff.1 hp);exact List.all_eq_true.1 (Bool.and_eq_true_iff.1 hok).1 x hx) (fun p hp=>by simp at hp) (by simp)).1
 have hEl:(l.foldl (zaY r2) []).length<=1048576:=by have h1:=ziT (al:=r2) l [];have h2:=hlp.length_eq;have h3:=of_decide_eq_true (Bool.and_eq_true_iff.1 hok).2;simp only [List.length_map,List.length_nil] at h1 h2;omega
 refine zp3 (.inl rfl) hS (by decide) rfl rfl zrX (by omega) fun H hS=>?_
 refine znw (E:=l.foldl (zaY r2) []) (cv:=zad) 0 1 (.inl rfl) hS (by decide) rfl rfl znD (by kernel_rfl) rfl rfl hEk hEn hEl (by omega) ?_
 rw [show zec ((l.foldl (zaY r2) []).map (·.1))=zec ((zdL r2 M).map (·.1)) from zfZ (hEp.map _)]
 refine Oa (.sl .no 1 ((zec ((zdL r2 M).map (·.1))).map cI)) ?_
 refine Ni ?_
 refine zfj [(2,.sl .no 1 ((zec ((zdL r2 M).map (·.1))).map cI))] (.k .nil) ?_
 refine zaT ?_
 refine za5 (x:=.sl .no 1 ((zec ((zdL r2 M).map (·.1))).map cI)) (f:=fun (r:List Int)=>.sl .no 1 (r.map cI)) (.inr rfl) ?_ (.refl _) rfl hS
 exact (zaC (zae rfl))
theorem zf2 {n:Nat} {a0:Box} {r:(List Int)×Int} (hM:zee n a0=some r):zaL Try.prog 18 [.agg (Box.cells a0)] (.tup [.sl .no 1 (r.1.map cI),.i r.2]):=by
 refine zao mixed Try.func18 rfl (by decide) Try.ntmps18 (by simp) ?pure fun H0 g hf=>?_
 case pure=>exact .tup _ (zac (.sl _ _ (zau (fun x=>(zac (.v _) zaE)))) (zac (.v _) zaE))
 rw [zaj]
 change wpA _ _ _ _ (Fr.of [(0,.agg (Box.cells a0))]) H0 g
 have hS:=St.start hf
 refine Sq ?_
 refine Rg 3 ?_
 refine zcZ (v:=.agg (Box.cells a0)) (cs:=(Box.cells a0)) hS (by decide) rfl rfl (by omega) fun H hS=>?_
 refine Oa (.sl .nil 0 []) ?_
 refine Oa (.i 0) ?_
 refine Ni ?_
 refine zbO (L':=[]) 0 1 hS rfl rfl rfl fun H hS=>?_
 refine Ws ?_
 refine Sq ?_
 refine Rg 7 ?_
 refine Olg (.agg (Box.cells a0)) zbd ?_
 obtain ⟨r1,hr1,hM⟩:=zal hM
 refine zaD (bs:=[.agg (Box.cells a0)]) (by decide) rfl rfl ((zer hr1).le (.k .nil)) ?_
 refine Om (.tup [pA Box_.cells r1.1,.i r1.2]) ?_
 refine Ox (pA Box_.cells r1.1) ?_
 refine Ox (.i r1.2) ?_
 refine Oa (pA Box_.cells r1.1) ?_
 refine Oa (.i r1.2) ?_
 refine Ni ?_
 refine Ws ?_
 refine Sq ?_
 refine Sq ?_
 refine Rg 2 ?_
 refine Om (.i r1.2) ?_
 refine Oi (.b (r1.2 != 0)) ?_
 refine Ni ?_
 refine Ws ?_
 rcases bft (r1.2 != 0) with hb2 | hb2
 ·replace hM:=ifT hM hb2
  refine Ct hb2 ?_
  refine Sq ?_
  refine Rg 3 ?_
  refine Om (.i r1.2) ?_
  refine Oa (.sl .nil 0 []) ?_
  refine Oa (.i r1.2) ?_
  refine Ni ?_
  refine Ws ?_
  refine zaT ?_
  refine zax ?_
  refine za5 (x:=.tup [.sl .nil 0 [],.i r1.2]) (f:=fun r=>.tup [.sl .no 1 (r.1.map cI),.i r.2]) (.inr rfl) ?_ (.tupL (.cons (.sl0 .nil 1 0) (.k .nil))) (Option.some.inj hM) hS
  exact (zdE (zae (x:=.sl .nil 0 []) rfl) (zae (x:=.i r1.2) rfl))
 ·replace hM:=ifF hM hb2
  refine Cf hb2 ?_
  refine zaO ?_
  refine Ws ?_
  refine Sq ?_
  refine Rg 4 ?_
  refine Om (pA Box_.cells r1.1) ?_
  obtain ⟨r3,hr3,hM⟩:=zal hM
  refine zaD (bs:=[pA Box_.cells r1.1]) (by decide) rfl rfl ((zfM hr3).le (.k .nil)) ?_
  refine Oa (.sl .no 1 (r3.map cI)) ?_
  refine Oa (.i 0) ?_
  refine Ni ?_
  refine Ws ?_
  refine zaT ?_
  refine za5 (x:=.tup [.sl .no 1 (r3.map cI),.i 0]) (f:=fun r=>.tup [.sl .no 1 (r.1.map cI),.i r.2]) (.inr rfl) ?_ (.refl _) (Option.some.inj hM) hS
  exact (zdE (zae (x:=.sl .no 1 (r3.map cI)) rfl) (zae (x:=.i 0) rfl))
theorem zhT {a0:List Int} {r:List Int} (hM:slices_Clone_int a0=some r):zfh Try.prog 161 [.sl .no 1 (a0.map cI)] 3 1 (r.map cI):=by
 have hr:r=a0:=by
  unfold slices_Clone_int app at hM
  split at hM
  ·injection hM with hM;rw [←hM];rfl
  ·cases hM
 refine zmC mixed Try.func161 rfl (by decide) Try.ntmps161 (by simp) ?pure fun H0 g hf=>?_
 case pure=>exact zau (fun x=>(zac (.v _) zaE))
 rw [zaj]
 change wpA _ _ _ _ (Fr.of [(0,.sl .no 1 (a0.map cI))]) H0 g
 have hS:=St.start hf
 refine Sq ?_
 refine Rg 1 ?_
 refine Oa (.sl .nil 0 []) ?_
 refine Ni ?_
 refine Ws ?_
 refine Sq ?_
 refine Sq ?_
 refine Rg 2 ?_
 refine Om (.sl .no 1 (a0.map cI)) ?_
 refine zyg (t:=22) (tg:=.no) (k:=1) (es:=a0.map cI) (e:=true) (by decide) rfl rfl rfl rfl zaN (fun _=>?_) (fun hnil=>?_)
 ·refine Ni ?_
  refine Ws ?_
  refine zfU (e:=false==true) rfl rfl ?_
  refine zaO ?_
  refine Ws ?_
  refine Sq ?_
  refine Rg 4 ?_
  refine za2 (es:=[]) hS (by decide) zaA zbW rfl zbP rfl (by decide) (by omega) fun H hS=>?_
  refine Om (.sl .no 1 (a0.map cI)) ?_
  refine zeN (xs:=([]:List Int)) (ys:=a0) (zs:=r) (f:=cI) (L':=[(g+1+2+0,.row 3 r.length)]) 0 hS (by decide) rfl rfl rfl rfl .no zaA zbW zbP hM rfl fun H hS=>?_
  refine Oa (.sl (.id (g+1+2+0)) 1 (r.map cI)) ?_
  refine Ni ?_
  refine Ws ?_
  refine zaT ?_
  refine ztL (j:=g+1+2+0) 0 (.inr rfl) ?_ hS rfl (List.length_map _).symm
  exact zaC (zae rfl)
 ·refine Ni ?_
  refine Ws ?_
  refine zji (e:=true==true) rfl rfl ?_
  refine Sq ?_
  refine Rg 1 ?_
  refine Oa (.sl .nil 0 []) ?_
  refine Ni ?_
  refine Ws ?_
  refine zaT ?_
  refine zax ?_
  refine ztM (k':=0) (.inr rfl) ?_ hS (by decide) (by rw [hr];exact hnil)
  exact zaC (zae rfl)
theorem za8 {n:Nat} {a0:Option Box_} {a1:List Int} {r:Int} (hM:za1 n a0 a1=some r):zaL Try.prog 63 [pA Box_.cells a0,.sl .no 1 (a1.map cI)] (.i r):=by
 refine zao mixed Try.func63 rfl (by decide) Try.ntmps63 (by simp) ?pure fun H0 g hf=>?_
 case pure=>exact .v _
 rw [zaj]
 change wpA _ _ _ _ (Fr.of [(0,pA Box_.cells a0),(1,.sl .no 1 (a1.map cI))]) H0 g
 have hS:=St.start hf
 refine Sq ?_
 refine Rg 1 ?_
 refine Oa (.i 0) ?_
 refine Ni ?_
 refine Ws ?_
 refine Sq ?_
 refine Rg 1 ?_
 refine Oa (.i 0) ?_
 refine Ni ?_
 refine Ws ?_
 refine zbm (J:=Int) (fun j=>[(5,.i j)]) (fun j H' g'=>St (·<g) H0 [] H' g'/\zcj j=some r) ?_ ?_
 ·rintro v1 H g1 ⟨hS,hM⟩
  change wpA _ _ _ _ (Fr.of [(5,.i v1)]) _ _
  replace hS:St (·<g) H0 [] H g1:=hS
  replace hM:zcj v1=some r:=hM
  refine Sq ?_
  refine Rg 2 ?_
  refine Om (.i v1) ?_
  refine Oa (.i v1) ?_
  refine Ni ?_
  refine Ws ?_
  refine zaT ?_
  refine za5 (x:=.i v1) (f:=fun r=>.i r) (.inr rfl) ?_ (.refl _) (Option.some.inj hM) hS
  exact (zaC (zae (x:=.i v1) rfl))
 ·refine Sq ?_
  refine Rg 3 ?_
  refine Om (.sl .no 1 (a1.map cI)) ?_
  refine zb7 (n:=a1.length) (by decide) rfl (List.length_map _) zaN ?_
  refine Om (.i 0) ?_
  refine Ni ?_
  refine Ws ?_
  refine zaP ?_
  refine zcE (V:=Int×Int) (fun v=>[(0,pA Box_.cells a0),(5,.i v.1),(8,.sl .no 1 (a1.map cI)),(9,.i (a1.length:Int)),(10,.i v.2)]) (fun v m2 H' g'=>St (·<g) H0 [] H' g'/\zbe a0 a1 m2 v.1 v.2=some r) (n:=n) (0,0) (.k (.k (.k (.k (.k .nil))))) ⟨(hS.keep [] rfl).up (by omega),hM⟩ ?_
  rintro ⟨v2,v3⟩ m2 H g2 ⟨hS,hM⟩
  obtain _ | m2:=m2
  ·exact nomatch (show none=some _ from hM)
  change wpA _ _ _ _ (Fr.of [(0,pA Box_.cells a0),(5,.i v2),(8,.sl .no 1 (a1.map cI)),(9,.i (a1.length:Int)),(10,.i v3)]) _ _
  replace hS:St (·<g) H0 [] H g2:=hS
  replace hM:zb6 a0 a1 (zbe a0 a1 m2) v2 v3=some r:=hM
  refine Sq ?_
  refine Rg 1 ?_
  refine Oi (.b (decide (v3<(a1.length:Int)))) ?_
  refine Ni ?_
  refine Ws ?_
  refine Sq ?_
  rcases bft (decide (v3<(a1.length:Int))) with hb4 | hb4
  ·replace hM:=ifT hM hb4
   refine Ct hb4 ?_
   refine zaO ?_
   refine Ws ?_
   refine Sq ?_
   refine zaP ?_
   refine Sq ?_
   refine Rg 5 ?_
   refine Om (.i v3) ?_
   obtain ⟨x5,hx5,hM⟩:=zal hM
   refine zbb (xs:=a1) (f:=cI) (z:=v3) (u:=x5) (by decide) rfl rfl zaA hx5 ?_
   refine Olp (.i x5) zah zaw ?_
   refine Oa (.i v3) ?_
   refine Oa (.i x5) ?_
   refine Ni ?_
   refine Ws ?_
   refine Rg 14 ?_
   refine Om (.i v2) ?_
   refine Om (.i x5) ?_
   refine Om (pA Box_.cells a0) ?_
   obtain ⟨x6,hx6,hM⟩:=zal hM
   refine zg1 (f:=Box_.cells) (p:=a0) (u:=x6) (by decide) rfl hx6 ?_
   refine Of ((Box.cells x6.Box)) zcM ?_
   refine Of ((Box.cells x6.Box)) zb0 ?_
   refine Of ((Box.cells x6.Box)) zcq ?_
   refine Olp (.sl .no 1 (x6.Box.Wheel.Coins.map cI)) zar zaH ?_
   refine Om (.i v3) ?_
   obtain ⟨x7,hx7,hM⟩:=zal hM
   refine zbb (xs:=x6.Box.Wheel.Coins) (f:=cI) (z:=v3) (u:=x7) (by decide) rfl rfl zaA hx7 ?_
   refine Olp (.i x7) zah zaw ?_
   refine Oi (.i (w64 (x5*x7))) ?_
   refine Oi (.i (w64 (v2+(w64 (x5*x7))))) ?_
   refine Oa (.i (w64 (v2+(w64 (x5*x7))))) ?_
   refine Ni ?_
   refine zaI ?_
   refine Ws ?_
   refine Rg 2 ?_
   refine Oi (.i (w64 (v3+1))) ?_
   refine Om (.i (w64 (v3+1))) ?_
   refine Ni ?_
   exact zbS (w64 (v2+(w64 (x5*x7))),w64 (v3+1)) (Nat.lt_succ_self _) (.k (.k (.k (.k (.k .nil))))) ⟨(hS.keep [] rfl).up (by omega),hM⟩
  ·replace hM:=ifF hM hb4
   refine Cf hb4 ?_
   refine zcl ?_
   refine zaM ?_
   refine zaJ ?_
   refine zaR ?_
   exact zap v2 (.k .nil) ⟨(hS.keep [] rfl).up (by omega),hM⟩
def zoK (xs ys:List Int) (i:Nat):Prop:=ys.length=xs.length/\∀k,k<xs.length->ys[k]?=if k<i\/xs.length<=k+i then xs[xs.length-1-k]? else xs[k]?
theorem zp9 (xs:List Int):zoK xs xs 0:=⟨rfl,fun k hk=>by rw [if_neg (by omega)]⟩
theorem zsC {xs ys:List Int} {i:Nat} (h:zoK xs ys i) (hi:xs.length<=2*i+1):ys=xs.reverse:=by
 apply List.ext_getElem?
 intro k
 by_cases hk:k<xs.length
 ·rw [h.2 k hk,List.getElem?_reverse hk]
  split
  ·rfl
  ·congr 1
   omega
 ·rw [List.getElem?_eq_none (by rw [h.1];omega),List.getElem?_eq_none (by rw [List.length_reverse];omega)]
theorem zrk {xs ys:List Int} {i:Nat} (h:zoK xs ys i) (hi:2*i+1<xs.length) {a b:Int} (ha:ys[xs.length-1-i]?=some a) (hb:ys[i]?=some b):zoK xs ((ys.set i a).set (xs.length-1-i) b) (i+1):=by
 have ha2:=h.2 (xs.length-1-i) (by omega)
 rw [if_neg (by omega)] at ha2
 have hb2:=h.2 i (by omega)
 rw [if_neg (by omega)] at hb2
 refine ⟨by simp [h.1],fun k hk=>?_⟩
 by_cases h1:k=xs.length-1-i
 ·subst h1
  rw [List.getElem?_set_self (by simp [h.1];omega),if_pos (by omega),←hb,hb2]
  congr 1
  omega
 ·rw [List.getElem?_set_ne (fun e=>h1 e.symm)]
  by_cases h2:k=i
  ·subst h2
   rw [List.getElem?_set_self (by rw [h.1];omega),if_pos (by omega),←ha,ha2]
  ·rw [List.getElem?_set_ne (fun e=>h2 e.symm),h.2 k hk]
   by_cases h3:k<i\/xs.length<=k+i
   ·rw [if_pos h3,if_pos (by omega)]
   ·rw [if_neg h3,if_neg (by omega)]
theorem zgV {xs:List Int} {j:Nat} (hx:xs≠[]) (hl:xs.length<=1048576):zho Try.prog 162 [.ms j 0 1 xs.length xs.length] j (xs.map cI).flatten (.tup []) (xs.reverse.map cI).flatten:=by
 refine zoq mixed Try.func162 rfl (by decide) Try.ntmps162 (by simp) (fun H _=>.tup _ fun c hc=>by simp at hc) (zpK (fun x=>(zac (.v _) zaE)) _) fun H0 g hf hp=>?_
 rw [zaj]
 have hn0:xs.length≠0:=fun e=>hx (List.length_eq_zero_iff.1 e)
 have hms:AV.ms j 0 1 xs.length xs.length=msn j 1 xs.length:=by unfold msn;rw [if_neg hn0]
 rw [hms]
 have hTn:∀ys:List Int,ys.length=xs.length->zd5 j xs.length (ys.map cI)=[(j,.cells (ys.map cI).flatten)]:=fun ys hy=>by
  unfold zd5 zfx
  rw [if_pos (by rw [List.length_map];exact hy),if_neg (fun e=>by rw [List.map_eq_nil_iff] at e;subst e;exact hn0 hy.symm)]
 change wpA _ _ _ _ (Fr.of [(0,msn j 1 xs.length)]) H0 g
 have hS:=St.startP hf hp
 replace hS:St (fun i=>i<g/\i≠j) H0 ([]++zd5 j xs.length (xs.map cI)) H0 g:=by rw [List.nil_append,hTn xs rfl];exact hS
 refine Sq ?_
 refine Rg 5 ?_
 refine Om (msn j 1 xs.length) ?_
 refine ztT (by decide) rfl zaN ?_
 refine zlD (v:=.i ((xs.length:Int)-1)) (by decide) rfl rfl (by show some (AV.i (w64 ((xs.length:Int)-1)))=_;rw [zaS (by omega) (by omega)]) ?_
 refine Oa (.i 0) ?_
 refine Oa (.i ((xs.length:Int)-1)) ?_
 refine Ni ?_
 refine Ws ?_
 refine zaP ?_
 refine zcE (V:=Nat×List Int) (fun v=>[(0,msn j 1 xs.length),(2,.i (v.1:Int)),(3,.i ((xs.length:Int)-1-(v.1:Int)))]) (fun v k H' g'=>St (fun i=>i<g/\i≠j) H0 ([]++zd5 j xs.length (v.2.map cI)) H' g'/\zoK xs v.2 v.1/\k=xs.length-v.1) (n:=xs.length) (0,xs) (.k (.k (.cons (by show Le _ (AV.i ((xs.length:Int)-1));rw [show ((xs.length:Int)-1-((0:Nat):Int))=(xs.length:Int)-1 by omega];exact .refl _) .nil))) ⟨hS.up (by omega),zp9 xs,by omega⟩ ?_
 rintro ⟨p,ys⟩ k H g1 ⟨hS,hR,hk⟩
 change wpA _ _ _ _ (Fr.of [(0,msn j 1 xs.length),(2,.i (p:Int)),(3,.i ((xs.length:Int)-1-(p:Int)))]) _ _
 replace hS:St (fun i=>i<g/\i≠j) H0 ([]++zd5 j xs.length (ys.map cI)) H g1:=hS
 replace hR:zoK xs ys p:=hR
 replace hk:k=xs.length-p:=hk
 refine Sq ?_
 refine Sq ?_
 refine Rg 3 ?_
 refine Om (.i (p:Int)) ?_
 refine Om (.i ((xs.length:Int)-1-(p:Int))) ?_
 refine Oi (.b (decide ((p:Int)<(xs.length:Int)-1-(p:Int)))) ?_
 refine Ni ?_
 refine Ws ?_
 rcases bft (decide ((p:Int)<(xs.length:Int)-1-(p:Int))) with hb | hb
 rotate_left
 ·refine Cf hb ?_
  refine zcl ?_
  refine zaM ?_
  refine zaJ ?_
  refine zaR ?_
  have hb:=of_decide_eq_false hb
  obtain rfl:=zsC hR (by omega)
  refine ⟨.inl rfl,⟨_,rfl,.refl _⟩,fun i hi=>(hS.old i hi).2,?_⟩
  rw [List.nil_append,hTn _ (List.length_reverse)] at hS
  exact hS.get (n:=0) rfl
 have hb2:=of_decide_eq_true hb
 have hlt:2*p+1<xs.length:=by omega
 obtain ⟨a,ha⟩:∃a,ys[xs.length-1-p]?=some a:=⟨_,List.getElem?_eq_getElem (by rw [hR.1];omega)⟩
 obtain ⟨c,hc⟩:∃c,ys[p]?=some c:=⟨_,List.getElem?_eq_getElem (by rw [hR.1];omega)⟩
 have ez:((xs.length:Int)-1-(p:Int)).toNat=xs.length-1-p:=by omega
 have hia:idx ys ((xs.length:Int)-1-(p:Int))=some a:=by unfold idx;rw [if_pos (by omega),ez];exact ha
 have hic:idx ys (p:Int)=some c:=by unfold idx;rw [if_pos (by omega)];exact hc
 refine Ct hb ?_
 refine zaO ?_
 refine Ws ?_
 refine Sq ?_
 refine zaP ?_
 have hS0:=hS
 refine zdq (n:=16) rfl (by kernel_rfl) ?_
 refine Om (msn j 1 xs.length) ?_
 refine Om (.i (p:Int)) ?_
 refine Om (msn j 1 xs.length) ?_
 refine Om (.i ((xs.length:Int)-1-(p:Int))) ?_
 refine Om (msn j 1 xs.length) ?_
 refine Om (.i ((xs.length:Int)-1-(p:Int))) ?_
 refine zfn (xs:=ys) (f:=cI) (z:=((xs.length:Int)-1-(p:Int))) (u:=a) hS (by decide) rfl rfl zaA hia ?_
 refine zkT (xs:=ys) (z:=((xs.length:Int)-1-(p:Int))) (u:=a) hS (by decide) rfl hia (.tl hS0 hia (by omega)) zah zaw ?_
 refine Om (msn j 1 xs.length) ?_
 refine Om (.i (p:Int)) ?_
 refine zfn (xs:=ys) (f:=cI) (z:=(p:Int)) (u:=c) hS (by decide) rfl rfl zaA hic ?_
 refine zkT (xs:=ys) (z:=(p:Int)) (u:=c) hS (by decide) rfl hic (.tl hS0 hic (by omega)) zah zaw ?_
 refine zfn (xs:=ys) (f:=cI) (z:=(p:Int)) (u:=c) hS (by decide) rfl rfl zaA hic ?_
 refine ziL (xs:=ys) (z:=(p:Int)) (u:=c) (v:=a) hS rfl hic (.tl hS0 hic (by omega)) rfl zgt fun H hS=>?_
 have hia2:idx (ys.set (p:Int).toNat a) ((xs.length:Int)-1-(p:Int))=some a:=by
  unfold idx
  rw [if_pos (by omega),ez,Int.toNat_natCast,List.getElem?_set_ne (by omega)]
  exact ha
 refine zfn (xs:=(ys.set (p:Int).toNat a)) (f:=cI) (z:=((xs.length:Int)-1-(p:Int))) (u:=a) hS (by decide) rfl rfl zaA hia2 ?_
 refine ziL (xs:=(ys.set (p:Int).toNat a)) (z:=((xs.length:Int)-1-(p:Int))) (u:=a) (v:=c) hS rfl hia2 (.tl hS0 hia (by omega)) rfl zgt fun H hS=>?_
 refine Ni ?_
 refine zaI ?_
 refine Ws ?_
 refine Rg 6 ?_
 refine Om (.i (p:Int)) ?_
 refine zlD (v:=.i ((p+1:Nat):Int)) (by decide) rfl rfl (by show some (AV.i (w64 ((p:Int)+1)))=_;rw [zaS (by omega) (by omega)];rfl) ?_
 refine Om (.i ((xs.length:Int)-1-(p:Int))) ?_
 refine zlD (v:=.i ((xs.length:Int)-1-((p+1:Nat):Int))) (by decide) rfl rfl (by show some (AV.i (w64 ((xs.length:Int)-1-(p:Int)-1)))=_;rw [zaS (by omega) (by omega)];exact congrArg (fun z:Int=>some (AV.i z)) (by omega)) ?_
 refine Oa (.i ((p+1:Nat):Int)) ?_
 refine Oa (.i ((xs.length:Int)-1-((p+1:Nat):Int))) ?_
 refine Ni ?_
 refine zbS (p+1,(ys.set (p:Int).toNat a).set ((xs.length:Int)-1-(p:Int)).toNat c) (m:=xs.length-(p+1)) (by omega) (.k (.k (.k .nil))) ⟨hS.up (by omega),?_,rfl⟩
 rw [ez,Int.toNat_natCast]
 exact zrk hR hlt ha hc
theorem zoL {κ ν:Type} [DecidableEq κ] {ok:κ->Bool} {z:ν} {M M':List (κ×ν)} (h:M.Perm M') (k:κ):zfE ok z M k=zfE ok z M' k:=by
 have e:mok ok M k=mok ok M' k:=by
  unfold mok
  rw [Bool.eq_iff_iff]
  simp only [Bool.and_eq_true,List.all_eq_true,decide_eq_true_eq]
  rw [(h.map (·.1)).nodup_iff]
  simp only [h.mem_iff]
 unfold zfE
 rw [e]
 by_cases hk:mok ok M' k=true
 ·rw [if_pos hk,if_pos hk]
  have hn:(M.map (·.1)).Nodup:=by
   rw [←e] at hk
   exact of_decide_eq_true (Bool.and_eq_true_iff.1 hk).2
  rw [(zp7 z h hn k).1]
 ·rw [if_neg hk,if_neg hk]
def zd0 (j:Nat) (acts:List Int):AV:=if acts=[] then .sl .nil 0 [] else .ms j 0 1 acts.length acts.length
def zd1 (j:Nat) (acts:List Int):BL:=if acts=[] then [] else [(j,.cells (acts.map cI).flatten)]
theorem znF (acts:List Int):(acts.map cI).flatten.length=acts.length:=by rw [zgs,List.length_map]
theorem zmQ {P:Program} {N:Nat} {l:List (Nat×AV)} {H:zaa} {g g0 i:Nat} {ops:Array Oper} {K:Fr->zaa->Nat->Prop} {r:List Oper} {d:Nat} {ty:TypeId} {pos:String} {after:Array Edge} {O:Nat->Prop} {H0:zaa} {L:BL} {b:Nat} {t:TypeId} {x y:Operand} {ja:Nat} {acts:List Int} {a:Int} (hS:St O H0 (zd1 ja acts++L) H b) (hd:d<N) (hx:evL N l x=zd0 ja acts) (hy:evL N l y=.sl .clip 1 [[.i a]]) (hk:zav P t=some 1) (hf:zaW P t=true) (hle:acts.length+1<=1048576) (hb:b<=g0+i) (h:∀H',St O H0 (zd1 (g0+i) (acts++[a])++L) H' (g0+i+1)->zaK P N none g0 ops K (i+1) r (Fr.of ((d,zd0 (g0+i) (acts++[a]))::l)) H' g):zaK P N none g0 ops K i (⟨some d,.call { callee:=.builtin .append,args:=#[x,y],argTypes:=#[t,t] },ty,pos,after,none⟩::r) (Fr.of l) H g:=by
 have hsrc:zo2 H 1 (evL N l y)=some (1,[.i a]):=by rw [hy];rfl
 by_cases hn:acts=[]
 ·subst hn
  refine zpP (k:=1) (k':=0) (q:=1) (ds:=[.i a]) hS hd hx hsrc hk hf (by omega) (by omega) hb fun H' hS'=>?_
  exact h H' hS'
 ·have e1:zd1 ja acts=[(ja,.cells (acts.map cI).flatten)]:=if_neg hn
  have e2:zd0 ja acts=.ms ja 0 1 acts.length acts.length:=if_neg hn
  have hn2:acts++[a]≠[]:=by simp
  have hpos:0<acts.length:=List.length_pos_iff.2 hn
  rw [e1] at hS
  rw [e2] at hx
  refine zpO (k:=1) (m:=acts.length) (q:=1) (ds:=[.i a]) hS hd hx (by rw [znF];omega) hsrc hk hf hpos (by omega) hle hb fun H' hS'=>?_
  have e3:zd1 (g0+i) (acts++[a])=[(g0+i,.cells ((acts.map cI).flatten++[.i a]))]:=by
   unfold zd1
   rw [if_neg hn2,List.map_append,List.flatten_append]
   rfl
  have e4:zd0 (g0+i) (acts++[a])=.ms (g0+i) 0 1 (acts.length+1) (acts.length+1):=by
   unfold zd0
   rw [if_neg hn2,List.length_append,List.length_singleton]
  have:=h H'
  rw [e3,e4] at this
  exact this hS'
theorem zgW:zaL Try.prog 162 [.sl .nil 0 []] (.tup []):=by
 refine zao mixed Try.func162 rfl (by decide) Try.ntmps162 (by simp) (.tup _ zaE) fun H0 g hf=>?_
 rw [zaj]
 change wpA _ _ _ _ (Fr.of [(0,.sl .nil 0 [])]) H0 g
 have hS:=St.start hf
 refine Sq ?_
 refine Rg 5 ?_
 refine Om (.sl .nil 0 []) ?_
 refine zb7 (n:=0) (by decide) rfl rfl zaN ?_
 refine zlD (v:=.i (-1)) (by decide) rfl rfl (by show some (AV.i (w64 (((0:Nat):Int)-1)))=_;rw [zaS (by omega) (by omega)];rfl) ?_
 refine Oa (.i 0) ?_
 refine Oa (.i (-1)) ?_
 refine Ni ?_
 refine Ws ?_
 refine zaP ?_
 refine zcE (V:=Unit) (fun _=>[(0,.sl .nil 0 []),(2,.i 0),(3,.i (-1))]) (fun _ _ H' g'=>St (·<g) H0 [] H' g') (n:=0) () (.k (.k (.k .nil))) (hS.up (by omega)) ?_
 rintro _ k H g1 hS
 change wpA _ _ _ _ (Fr.of [(0,.sl .nil 0 []),(2,.i 0),(3,.i (-1))]) _ _
 refine Sq ?_
 refine Sq ?_
 refine Rg 3 ?_
 refine Om (.i 0) ?_
 refine Om (.i (-1)) ?_
 refine Oi (.b (decide ((0:Int) < -1))) ?_
 refine Ni ?_
 refine Ws ?_
 refine zfU (e:=decide ((0:Int) < -1)) rfl (by decide) ?_
 refine zcl ?_
 refine zaM ?_
 refine zaJ ?_
 refine zaR ?_
 refine za5 (x:=.tup []) (f:=fun (_:Unit)=>.tup []) (u:=()) (.inl rfl) rfl (.refl _) rfl hS
theorem zrl {N:Nat} {l:List (Nat×AV)} {H:zaa} {g g0 i:Nat} {ops:Array Oper} {K:Fr->zaa->Nat->Prop} {r:List Oper} {d:Nat} {ty:TypeId} {pos:String} {after:Array Edge} {O:Nat->Prop} {H0:zaa} {L:BL} {b:Nat} {f:Operand} {args:Array Operand} {ts:Array TypeId} {ja:Nat} {acts:List Int} (hS:St O H0 (zd1 ja acts++L) H b) (hd:d<N) (ht:tgt (evL N l f)=some (162,[],[])) (ha:args.toList.map (evL N l)=[zd0 ja acts]) (hle:acts.length<=1048576) (h:∀H',St O H0 (zd1 ja acts.reverse++L) H' b->zaK Try.prog N none g0 ops K (i+1) r (Fr.of ((d,.tup [])::l)) H' g):zaK Try.prog N none g0 ops K i (⟨some d,.call { callee:=.value f,args:=args,argTypes:=ts },ty,pos,after,none⟩::r) (Fr.of l) H g:=by
 by_cases hn:acts=[]
 ·subst hn
  exact zaD hd ht (by rw [ha];rfl) zgW (h H hS)
 ·have e1:zd1 ja acts=[(ja,.cells (acts.map cI).flatten)]:=if_neg hn
  have e2:zd0 ja acts=.ms ja 0 1 acts.length acts.length:=if_neg hn
  have e3:zd1 ja acts.reverse=[(ja,.cells (acts.reverse.map cI).flatten)]:=if_neg (by simpa using hn)
  rw [e1] at hS
  rw [e2] at ha
  rw [e3] at h
  exact zye 0 hS hd ht (by rw [ha];rfl) rfl ztK (zgV hn hle) rfl h
theorem zeC {n:Nat} {a0:Option Box_} {purse:List Int} {r:List Int×Bool} (hM:zbG n a0 purse=some r):zaL Try.prog 134 [pA Box_.cells a0,.sl .no 1 (purse.map cI)] (.tup [.sl .no 1 (r.1.map cI),.b r.2]):=by
 refine zao mixed Try.func134 rfl (by decide) Try.ntmps134 (by simp) ?pure fun H0 g hf=>?_
 case pure=>exact .tup _ (zac (.sl _ _ (zau (fun x=>(zac (.v _) zaE)))) (zac (.v _) zaE))
 rw [zaj]
 change wpA _ _ _ _ (Fr.of [(0,pA Box_.cells a0),(1,.sl .no 1 (purse.map cI))]) H0 g
 have hS:=St.start hf
 unfold zbG at hM
 obtain ⟨b,hb0,hM⟩:=zal hM
 obtain ⟨r1,hr1,hM⟩:=zal hM
 obtain ⟨al,hal,hM⟩:=zal hM
 obtain ⟨M,hMM,hM⟩:=zal hM
 have hok:zhx M=true:=by
  cases h:zhx M with
  | true=>rfl
  | false=>rw [if_neg (by rw [h];simp)] at hM;cases hM
 rw [if_pos hok] at hM
 refine Sq ?_
 refine Rg 2 ?_
 refine Oa (.sl .nil 0 []) ?_
 refine Oa (.b false) ?_
 refine Ni ?_
 refine Ws ?_
 refine Sq ?_
 refine Rg 4 ?_
 refine Om (pA Box_.cells a0) ?_
 refine zaD (bs:=[pA Box_.cells a0]) (by decide) rfl rfl ((zeg hr1).le (.k .nil)) ?_
 refine zbT hS (by decide) zic (by omega) fun H hS=>?_
 refine zaV (v:=.agg (Bag_.cells r1)) (ns:=(Bag_.cells r1)) (L':=[(g+2+2,.cells (Bag_.cells r1))]) 0 hS rfl rfl .no rfl rfl zlL nlb rfl fun H hS=>?_
 refine Ni ?_
 refine Ws ?_
 refine Sq ?_
 refine Sq ?_
 refine Rg 3 ?_
 refine Om (.sl .no 1 (purse.map cI)) ?_
 refine zb7 (n:=purse.length) (by decide) rfl (List.length_map _) zaN ?_
 refine Om (.i 0) ?_
 refine Ni ?_
 refine Ws ?_
 refine zaP ?_
 refine zcE (V:=Int×Bag_) (fun v=>[(0,pA Box_.cells a0),(6,.ptr (g+2+2) 0),(17,.sl .no 1 (purse.map cI)),(18,.i (purse.length:Int)),(19,.i v.1)]) (fun v k H' g'=>St (·<g) H0 [(g+2+2,.cells (Bag_.cells v.2))] H' g'/\zbp purse k v.1 v.2=some al) (n:=n) (0,r1) (.k (.k (.k (.k (.k .nil))))) ⟨hS.up (by omega),hal⟩ ?_
 rintro ⟨k,ar⟩ m H g1 ⟨hS,hal⟩
 obtain _ | m:=m
 ·exact nomatch (show none=some _ from hal)
 change wpA _ _ _ _ (Fr.of [(0,pA Box_.cells a0),(6,.ptr (g+2+2) 0),(17,.sl .no 1 (purse.map cI)),(18,.i (purse.length:Int)),(19,.i k)]) _ _
 replace hS:St (·<g) H0 [(g+2+2,.cells (Bag_.cells ar))] H g1:=hS
 unfold zbp at hal
 refine Sq ?_
 refine Rg 1 ?_
 refine Oi (.b (decide (k<(purse.length:Int)))) ?_
 refine Ni ?_
 refine Ws ?_
 refine Sq ?_
 rcases bft (decide (k<(purse.length:Int))) with hk1 | hk1
 ·replace hal:=ifT hal hk1
  refine Ct hk1 ?_
  refine zaO ?_
  refine Ws ?_
  obtain ⟨x,hx,hal⟩:=zal hal
  obtain ⟨e,he,hal⟩:=zal hal
  obtain ⟨u,hu,hal⟩:=zal hal
  refine Sq ?_
  refine zaP ?_
  refine Sq ?_
  refine Rg 5 ?_
  refine Om (.i k) ?_
  refine zbb (xs:=purse) (f:=cI) (z:=k) (u:=x) (by decide) rfl rfl zaA hx ?_
  refine Olp (.i x) zah zaw ?_
  refine Oa (.i k) ?_
  refine Oa (.i x) ?_
  refine Ni ?_
  refine Ws ?_
  refine Rg 7 ?_
  refine Om (.i k) ?_
  refine zfY (z:=k) (by decide) rfl rfl ze8 (zf6 he) ?_
  refine zkU (xs:=([ar.c0,ar.c1,ar.c2,ar.c3]:List Int)) (z:=k) (u:=e) (off:=0) 0 hS (by decide) rfl rfl .no rfl he zah zaw ?_
  refine Om (.i x) ?_
  refine Oi (.i (w64 (e+x))) ?_
  refine zfY (z:=k) (by decide) rfl rfl ze8 (zf6 he) ?_
  refine zkV (xs:=([ar.c0,ar.c1,ar.c2,ar.c3]:List Int)) (u:=u) (z:=k) (v:=(w64 (e+x))) (off:=0) (cs':=[.i (u.getD 0 0),.i (u.getD 1 0),.i (u.getD 2 0),.i (u.getD 3 0)]) (L':=[(g+2+2,.cells [.i (u.getD 0 0),.i (u.getD 1 0),.i (u.getD 2 0),.i (u.getD 3 0)])]) 0 hS rfl rfl .no rfl rfl hu zgt rfl rfl fun H hS=>?_
  refine Ni ?_
  refine zaI ?_
  refine Ws ?_
  refine Rg 2 ?_
  refine Oi (.i (w64 (k+1))) ?_
  refine Om (.i (w64 (k+1))) ?_
  refine Ni ?_
  exact zbS (w64 (k+1),⟨u.getD 0 0,u.getD 1 0,u.getD 2 0,u.getD 3 0⟩) (Nat.lt_succ_self _) (.k (.k (.k (.k (.k .nil))))) ⟨hS.up (by omega),hal⟩
 replace hal:=ifF hal hk1
 obtain rfl:=Option.some.inj hal
 refine Cf hk1 ?_
 refine zcl ?_
 refine zaM ?_
 refine zaJ ?_
 refine zaR ?_
 refine Ws ?_
 refine Sq ?_
 refine Rg 4 ?_
 refine Om (pA Box_.cells a0) ?_
 refine zaQ (v:=.agg (Bag_.cells ar)) 0 hS (by decide) rfl rfl .no (pg zc7) ?_
 refine znp (bs:=[pA Box_.cells a0,.agg (Bag_.cells ar)]) (p:=zas (mpw zad zag M)) hS (by decide) rfl rfl ((zfs hMM).le (.k (.k .nil))) (zac (znE _) (zac (.agg _ (zac (.v _) (zac (.v _) (zac (.v _) (zac (.v _) zaE))))) zaE)) (by omega) fun H hS=>?_
 refine Oa (.mp (g1+1+2)) ?_
 refine Ni ?_
 refine Ws ?_
 refine Sq ?_
 refine Rg 4 ?_
 refine Om (.mp (g1+1+2)) ?_
 refine zaQ (v:=.agg (Bag_.cells ar)) 1 hS (by decide) rfl rfl .no (pg zc7) ?_
 refine zlI (M:=[((g1+1+2),.obj none (zas (mpw zad zag M)))]) (L:=[(g+2+2,.cells (Bag_.cells ar))]) (.inl rfl) hS (by decide) rfl rfl (zg5 hok) (by omega) ?_
 rintro v M' H gE ⟨l,jn,hlp,hjn,rfl,rfl⟩ hgE hS
 have hEp:(l.foldl (zaY ar) []).Perm (zdL ar M):=zlT hlp
 have hEn:((l.foldl (zaY ar) []).map (·.1)).Nodup:=(zjB ar l).nd
 have hEk:∀x,x∈l.foldl (zaY ar) []->okI x.1=true:=(zhN l [] (fun b=>okI b=true) (fun p hp=>by obtain ⟨x,hx,rfl⟩:=List.mem_map.1 (hlp.mem_iff.1 hp);exact List.all_eq_true.1 (Bool.and_eq_true_iff.1 hok).1 x hx) (fun p hp=>by simp at hp) (by simp)).1
 have hEl:(l.foldl (zaY ar) []).length<=1048576:=by have h1:=ziT (al:=ar) l [];have h2:=hlp.length_eq;have h3:=of_decide_eq_true (Bool.and_eq_true_iff.1 hok).2;simp only [List.length_map,List.length_nil] at h1 h2;omega
 have hlk:∀x,zfE okI zaz (l.foldl (zaY ar) []) x=zfE okI zaz (zdL ar M) x:=zoL hEp
 refine Oa (.mp jn) ?_
 refine Ni ?_
 replace hS:St (·<g) H0 [(jn,.obj none (zas (mpw kvI zad (l.foldl (zaY ar) [])))),((g1+1+2),.obj none (zas (mpw zad zag M))),(g+2+2,.cells (Bag_.cells ar))] H gE:=hS
 replace hS:=hS.keep (L':=[(jn,.obj none (zas (mpw kvI zad (l.foldl (zaY ar) [])))),((g1+1+2),.obj none (zas (mpw zad zag M)))]) [true,true,false] rfl
 refine Ws ?_
 refine Sq ?_
 refine Sq ?_
 refine Rg 5 ?_
 refine Om (.mp jn) ?_
 refine zp3 (.inl rfl) hS (by decide) rfl rfl zrX (by omega) fun H hS=>?_
 refine znw (E:=l.foldl (zaY ar) []) (cv:=zad) 0 1 (.inl rfl) hS (by decide) rfl rfl znD (by kernel_rfl) rfl rfl hEk hEn hEl (by omega) ?_
 rw [show zec ((l.foldl (zaY ar) []).map (·.1))=zec ((zdL ar M).map (·.1)) from zfZ (hEp.map _)]
 generalize zec ((zdL ar M).map (·.1))=bs at hM ⊢
 generalize l.foldl (zaY ar) []=E at hS hlk
 generalize zdL ar M=E2 at hM hlk
 refine zb7 (n:=bs.length) (by decide) rfl (List.length_map _) zaN ?_
 refine Om (.i 0) ?_
 refine Ni ?_
 replace hS:=hS.keep (L':=[(jn,.obj none (zas (mpw kvI zad E))),((g1+1+2),.obj none (zas (mpw zad zag M)))]) [false,true,true] rfl
 refine Ws ?_
 refine zaP ?_
 refine zcE (V:=Int) (fun v=>[(0,pA Box_.cells a0),(9,.mp (g1+1+2)),(10,.mp jn),(39,.sl .no 1 (bs.map cI)),(40,.i (bs.length:Int)),(41,.i v)]) (fun v k H' g'=>St (·<g) H0 [(jn,.obj none (zas (mpw kvI zad E))),((g1+1+2),.obj none (zas (mpw zad zag M)))] H' g'/\zbq n b M E2 bs k v=some r) (n:=n) 0 (.k (.k (.k (.k (.k (.k .nil)))))) ⟨hS.up (by omega),hM⟩ ?_
 rintro k m3 H g3 ⟨hS,hM⟩
 obtain _ | m3:=m3
 ·exact nomatch (show none=some _ from hM)
 change wpA _ _ _ _ (Fr.of [(0,pA Box_.cells a0),(9,.mp (g1+1+2)),(10,.mp jn),(39,.sl .no 1 (bs.map cI)),(40,.i (bs.length:Int)),(41,.i k)]) _ _
 unfold zbq at hM
 refine Sq ?_
 refine Rg 1 ?_
 refine Oi (.b (decide (k<(bs.length:Int)))) ?_
 refine Ni ?_
 refine Ws ?_
 refine Sq ?_
 rcases bft (decide (k<(bs.length:Int))) with hk2 | hk2
 rotate_left
 ·replace hM:=ifF hM hk2
  refine Cf hk2 ?_
  refine zcl ?_
  refine zaM ?_
  refine zaJ ?_
  refine zaR ?_
  refine Ws ?_
  refine Sq ?_
  refine Rg 2 ?_
  refine Oa (.sl .nil 0 []) ?_
  refine Oa (.b false) ?_
  refine Ni ?_
  refine Ws ?_
  refine zaT ?_
  obtain rfl:=Option.some.inj hM
  refine za5 (x:=.tup [.sl .nil 0 [],.b false]) (f:=fun (r:List Int×Bool)=>.tup [.sl .no 1 (r.1.map cI),.b r.2]) (u:=([],false)) (.inr rfl) ?_ (.tupL (.cons (.sl0 _ _ _) (.k .nil))) rfl hS
  exact zdE (zae (x:=.sl .nil 0 []) rfl) (zae (x:=.b false) rfl)
 replace hM:=ifT hM hk2
 refine Ct hk2 ?_
 refine zaO ?_
 refine Ws ?_
 obtain ⟨x,hx,hM⟩:=zal hM
 obtain ⟨wi,hwi,hM⟩:=zal hM
 have hXt:(!wi)=false->∃p s acts,zfE okI zaz E2 x=some p/\zfE zbn zaX M p=some s/\zc5 M n s []=some acts/\r=(acts.reverse,true):=fun h=>by
  replace hM:=ifF hM h
  obtain ⟨p,hp,hM⟩:=zal hM
  obtain ⟨s,hs,hM⟩:=zal hM
  obtain ⟨acts,hacts,hM⟩:=zal hM
  exact ⟨p,s,acts,hp,hs,hacts,(Option.some.inj hM).symm⟩
 refine zbm (J:=Unit) (fun _=>[(0,pA Box_.cells a0),(9,.mp (g1+1+2)),(10,.mp jn),(39,.sl .no 1 (bs.map cI)),(40,.i (bs.length:Int)),(41,.i k)]) (fun _ H' g'=>St (·<g) H0 [(jn,.obj none (zas (mpw kvI zad E))),((g1+1+2),.obj none (zas (mpw zad zag M)))] H' g'/\zbq n b M E2 bs m3 (w64 (k+1))=some r) ?_ ?_
 ·rintro _ H g4 ⟨hS,hM⟩
  change wpA _ _ _ _ (Fr.of [(0,pA Box_.cells a0),(9,.mp (g1+1+2)),(10,.mp jn),(39,.sl .no 1 (bs.map cI)),(40,.i (bs.length:Int)),(41,.i k)]) _ _
  refine Rg 2 ?_
  refine Oi (.i (w64 (k+1))) ?_
  refine Om (.i (w64 (k+1))) ?_
  refine Ni ?_
  exact zbS (w64 (k+1)) (Nat.lt_succ_self _) (.k (.k (.k (.k (.k (.k .nil)))))) ⟨hS.up (by omega),hM⟩
 refine zaP ?_
 refine Sq ?_
 refine Rg 3 ?_
 refine zbb (xs:=bs) (f:=cI) (z:=k) (u:=x) (by decide) rfl rfl zaA hx ?_
 refine Olp (.i x) zah zaw ?_
 refine Oa (.i x) ?_
 refine Ni ?_
 refine Ws ?_
 refine Sq ?_
 refine Sq ?_
 have hS0:=hS
 refine zdq (n:=19) rfl (by kernel_rfl) ?_
 refine Om (.i x) ?_
 refine Om (pA Box_.cells a0) ?_
 refine zg1 (f:=Box_.cells) (p:=a0) (u:=b) (by decide) rfl hb0 ?_
 refine Of ((Box.cells b.Box)) zcM ?_
 refine Of ((Box.cells b.Box)) zgu ?_
 refine Olp (.i b.Box.Plays) zah zaw ?_
 refine Om (pA Box_.cells a0) ?_
 refine zg1 (f:=Box_.cells) (p:=a0) (u:=b) (by decide) rfl hb0 ?_
 refine Of ((Box.cells b.Box)) zcM ?_
 refine Of ((Box.cells b.Box)) zgu ?_
 refine Olp (.i b.Box.Plays) zah zaw ?_
 refine Om (pA Box_.cells a0) ?_
 refine zg1 (f:=Box_.cells) (p:=a0) (u:=b) (by decide) rfl hb0 ?_
 refine Of ((Box.cells b.Box)) zcM ?_
 refine Of ((Box.cells b.Box)) zju ?_
 refine Olp (.i b.Box.Skips) zah zaw ?_
 refine Oi (.i (w64 (b.Box.Plays+b.Box.Skips))) ?_
 refine zaD (bs:=[.i x,.i b.Box.Plays,.i (w64 (b.Box.Plays+b.Box.Skips))]) (by decide) rfl rfl ((zdD hwi).le (.k (.k (.k .nil)))) ?_
 refine zd4 (by decide) rfl ?_
 refine Ni ?_
 refine Ws ?_
 rcases bft (!wi) with hw | hw
 ·replace hM:=ifT hM hw
  refine Ct hw ?_
  refine zcl ?_
  refine zaM ?_
  refine zaR ?_
  exact zap () (.k (.k (.k (.k (.k (.k .nil)))))) ⟨hS.up (by omega),hM⟩
 obtain ⟨p,s,acts,hp,hs,hacts,rfl⟩:=hXt hw
 clear hXt hM
 refine Cf hw ?_
 refine zaO ?_
 refine Ws ?_
 refine Sq ?_
 refine Rg 1 ?_
 refine Oa (.sl .nil 0 []) ?_
 refine Ni ?_
 refine Ws ?_
 refine Sq ?_
 refine Sq ?_
 refine Rg 7 ?_
 refine Om (.mp (g1+1+2)) ?_
 refine Om (.mp jn) ?_
 refine Om (.i x) ?_
 refine zjo (kv:=kvI) (ok:=okI) (cv:=zad) (z:=zaz) (M:=E) (k:=x) (u:=p) (v':=.agg (PointT_.cells p)) 0 zsz hS (by decide) rfl rfl rfl zhG zmO (by rw [hlk];exact hp) (zmP p) ?_
 refine zjo (kv:=zad) (ok:=zbn) (cv:=zag) (z:=zaX) (M:=M) (k:=p) (u:=s) (v':=.agg (Step_.cells s)) 1 zjC hS (by decide) rfl rfl rfl ze9 zgx hs (zjE s) ?_
 refine zbT hS (by decide) zfI (by omega) fun H hS=>?_
 refine zaV (v:=.agg (Step_.cells s)) (ns:=(Step_.cells s)) (L':=[(g3+1+3+19+1+5,.cells (Step_.cells s)),(jn,.obj none (zas (mpw kvI zad E))),((g1+1+2),.obj none (zas (mpw zad zag M)))]) 0 hS rfl rfl .no rfl rfl zhI nlb rfl fun H hS=>?_
 refine Ni ?_
 refine Ws ?_
 refine zaP ?_
 have hSb:=hS.keep (L':=zd1 0 []++[((g3+1+3+19+1+5),.cells (Step_.cells s)),((g1+1+2),.obj none (zas (mpw zad zag M)))]) [true,false,true] rfl
 refine zcE (V:=Step_×List Int×Nat×Nat) (fun v=>[(9,.mp (g1+1+2)),(13,zd0 v.2.2.1 v.2.1),(14,.ptr v.2.2.2 0)]) (fun v k H' g'=>St (·<g) H0 (zd1 v.2.2.1 v.2.1++[(v.2.2.2,.cells (Step_.cells v.1)),((g1+1+2),.obj none (zas (mpw zad zag M)))]) H' g'/\v.2.1.length<=1048576/\zc5 M k v.1 v.2.1=some acts) (n:=n) (s,[],0,(g3+1+3+19+1+5)) (.k (.k (.k .nil))) ⟨hSb.up (by omega),by simp,hacts⟩ ?_
 rintro ⟨s,ac,ja,si⟩ m H g5 ⟨hS,hal5,hacts⟩
 obtain _ | m:=m
 ·exact nomatch (show none=some _ from hacts)
 change wpA _ _ _ _ (Fr.of [(9,.mp (g1+1+2)),(13,zd0 ja ac),(14,.ptr si 0)]) _ _
 replace hS:St (·<g) H0 (zd1 ja ac++[(si,.cells (Step_.cells s)),((g1+1+2),.obj none (zas (mpw zad zag M)))]) H g5:=hS
 replace hal5:ac.length<=1048576:=hal5
 unfold zc5 at hacts
 have hSr:St (·<g) H0 ([(si,.cells (Step_.cells s)),((g1+1+2),.obj none (zas (mpw zad zag M)))]++zd1 ja ac) H g5:=hS.perm List.perm_append_comm
 refine Sq ?_
 refine Sq ?_
 refine Rg 3 ?_
 refine zaB (by decide) zkq rfl ?_
 refine zaQ (v:=.i s.act) 0 hSr (by decide) rfl rfl .no (po zah zaw) ?_
 refine Oi (.b (s.act != -2)) ?_
 refine Ni ?_
 refine Ws ?_
 rcases bft (s.act != -2) with hb5 | hb5
 ·replace hacts:=ifT hacts hb5
  have hle:ac.length+1<=1048576:=by
   by_cases h:ac.length+1<=1048576
   ·exact h
   ·rw [if_neg h] at hacts;cases hacts
  rw [if_pos hle] at hacts
  obtain ⟨s2,hs2,hacts⟩:=zal hacts
  refine Ct hb5 ?_
  refine zaO ?_
  refine Ws ?_
  refine Sq ?_
  refine zaP ?_
  refine Rg 6 ?_
  refine Om (zd0 ja ac) ?_
  refine zaB (by decide) zkq rfl ?_
  refine zaQ (v:=.i s.act) 0 hSr (by decide) rfl rfl .no (po zah zaw) ?_
  refine zlF (e:=3) (es:=[[.i s.act]]) (by decide) zaA zbW rfl zbP rfl (by decide) ?_
  refine zmQ (ja:=ja) (acts:=ac) (a:=s.act) hS (by decide) rfl rfl zaA zbP hle (by omega) fun H hS=>?_
  refine Oa (zd0 (g5+3+4) (ac++[s.act])) ?_
  refine Ni ?_
  refine zaI ?_
  refine Ws ?_
  replace hS:=hS.perm (L':=[(si,.cells (Step_.cells s)),((g1+1+2),.obj none (zas (mpw zad zag M)))]++zd1 (g5+3+4) (ac++[s.act])) List.perm_append_comm
  refine Sq ?_
  refine Sq ?_
  refine Rg 1 ?_
  refine zaQ (v:=.agg (Step_.cells s)) 0 hS (by decide) rfl rfl .no (pg zp1) ?_
  refine Ni ?_
  refine Ws ?_
  refine Rg 2 ?_
  refine zbT hS (by decide) zfI (by omega) fun H hS=>?_
  refine zaV (v:=.agg (Step_.cells s)) (ns:=(Step_.cells s)) (L':=((g5+3+6+1+0),.cells (Step_.cells s))::([(si,.cells (Step_.cells s)),((g1+1+2),.obj none (zas (mpw zad zag M)))]++zd1 (g5+3+4) (ac++[s.act]))) 0 hS rfl rfl .no rfl rfl zhI nlb rfl fun H hS=>?_
  refine Ni ?_
  refine Ws ?_
  refine Rg 5 ?_
  refine Om (.mp (g1+1+2)) ?_
  refine zaB (by decide) zoE rfl ?_
  refine zaQ (v:=.agg (PointT_.cells s.from_)) 0 hS (by decide) rfl rfl .no (pg zez) ?_
  refine zjo (kv:=zad) (ok:=zbn) (cv:=zag) (z:=zaX) (M:=M) (k:=s.from_) (u:=s2) (v':=.agg (Step_.cells s2)) 2 zjC hS (by decide) rfl rfl rfl ze9 zgx hs2 (zjE s2) ?_
  refine zaV (v:=.agg (Step_.cells s2)) (ns:=(Step_.cells s2)) (L':=((g5+3+6+1+0),.cells (Step_.cells s2))::([(si,.cells (Step_.cells s)),((g1+1+2),.obj none (zas (mpw zad zag M)))]++zd1 (g5+3+4) (ac++[s.act]))) 0 hS rfl rfl .no rfl rfl zhI nlb rfl fun H hS=>?_
  refine Ni ?_
  have hS3:=(hS.keep (L':=[((g5+3+6+1+0),.cells (Step_.cells s2)),((g1+1+2),.obj none (zas (mpw zad zag M)))]++zd1 (g5+3+4) (ac++[s.act])) [true,false,true] rfl).perm (L':=zd1 (g5+3+4) (ac++[s.act])++[((g5+3+6+1+0),.cells (Step_.cells s2)),((g1+1+2),.obj none (zas (mpw zad zag M)))]) List.perm_append_comm
  exact zbS (s2,ac++[s.act],(g5+3+4),(g5+3+6+1+0)) (Nat.lt_succ_self _) (.k (.k (.k .nil))) ⟨hS3.up (by omega),by rw [List.length_append,List.length_singleton];exact hle,hacts⟩
 replace hacts:=ifF hacts hb5
 obtain rfl:=Option.some.inj hacts
 refine Cf hb5 ?_
 refine zcl ?_
 refine zaM ?_
 refine zaJ ?_
 refine zaR ?_
 refine Ws ?_
 refine Sq ?_
 refine Rg 2 ?_
 refine Om (zd0 ja ac) ?_
 refine zrl (ja:=ja) (acts:=ac) hS (by decide) rfl rfl hal5 fun H hS=>?_
 refine Ni ?_
 refine zfj [(13,zd0 ja ac)] (.k .nil) ?_
 by_cases hn:ac=[]
 ·subst hn
  change wpA _ _ _ _ (Fr.of [(13,.sl .nil 0 [])]) _ _
  refine Sq ?_
  refine Rg 3 ?_
  refine Om (.sl .nil 0 []) ?_
  refine Oa (.sl .nil 0 []) ?_
  refine Oa (.b true) ?_
  refine Ni ?_
  refine Ws ?_
  refine zaT ?_
  refine za5 (x:=.tup [.sl .nil 0 [],.b true]) (f:=fun (r:List Int×Bool)=>.tup [.sl .no 1 (r.1.map cI),.b r.2]) (u:=([],true)) (.inr rfl) ?_ (.tupL (.cons (.sl0 _ _ _) (.k .nil))) rfl hS
  exact zdE (zae (x:=.sl .nil 0 []) rfl) (zae (x:=.b true) rfl)
 have e1:zd0 ja ac=.ms ja 0 1 ac.length ac.length:=if_neg hn
 have e2:zd1 ja ac.reverse=[(ja,.cells (ac.reverse.map cI).flatten)]:=if_neg (by simpa using hn)
 rw [e1]
 rw [e2] at hS
 refine Sq ?_
 refine Rg 3 ?_
 refine Om (.ms ja 0 1 ac.length ac.length) ?_
 refine Oa (.ms ja 0 1 ac.length ac.length) ?_
 refine Oa (.b true) ?_
 refine Ni ?_
 replace hS:=hS.perm (L':=[(si,.cells (Step_.cells s)),((g1+1+2),.obj none (zas (mpw zad zag M)))]++[(ja,.cells (ac.reverse.map cI).flatten)]) List.perm_append_comm
 refine ztU (t:=4) (es:=ac.reverse.map cI) hS rfl (by decide) (fun e he=>by obtain ⟨z,_,rfl⟩:=List.mem_map.1 he;rfl) (zew (fun x c hc=>by simp at hc;subst hc;exact ⟨_,rfl⟩)) (by simp) (by rw [List.take_of_length_le (by rw [znF];simp)]) fun H hS=>?_
 refine Ws ?_
 refine zaT ?_
 refine za5 (x:=.tup [.sl .no 1 (ac.reverse.map cI),.b true]) (f:=fun (r:List Int×Bool)=>.tup [.sl .no 1 (r.1.map cI),.b r.2]) (u:=(ac.reverse,true)) (.inr rfl) ?_ (.refl _) rfl hS
 exact zdE (zae (x:=.sl .no 1 (ac.reverse.map cI)) rfl) (zae (x:=.b true) rfl)
def zie (t:Nat):List Gap_->AV
 | []=>.sl .nil 0 []
 | x::gs=>.sl (.id t) 2 ((x::gs).map Gap_.cells)
def zjH (t:Nat):List Gap_->BL
 | []=>[]
 | x::gs=>[(t,.row 94 (x::gs).length)]
def gM (oc t:Nat) (gs:List Gap_):BL:=(oc,.cells [zie t gs])::zjH t gs
def gT (oc:Nat) (gs:List Gap_) (_:Nat) (v:AV) (M:BL):Prop:=∃t,v=.tup []/\M=gM oc t gs
theorem znG (gs:List Gap_):∀e,e∈gs.map Gap_.cells->∀c,c∈e->Go.AM.Pure c:=zau (fun x=>zac (.sl _ _ (zau (fun x=>(zac (.v _) zaE)))) (zac (.sl _ _ (zau (fun x=>(zac (.v _) zaE)))) zaE))
theorem zwg {oc t:Nat} {gs:List Gap_}:InB In (gM oc t gs):=fun p cs hp e c hc H hH=>by
 cases gs with
 | nil =>
  obtain rfl:=List.mem_singleton.1 hp
  obtain rfl:[AV.sl .nil 0 []]=cs:=by injection e
  obtain rfl:c=.sl .nil 0 []:=by simpa using hc
  exact .sl _ _ _ (fun t h=>by cases h) (fun e h=>by simp at h)
 | cons x gs =>
  have hr:=hH (t,.row 94 (x::gs).length) (by simp [gM,zjH])
  simp only [gM,zjH,List.mem_cons,List.not_mem_nil,or_false] at hp
  rcases hp with rfl | rfl
  ·obtain rfl:[zie t (x::gs)]=cs:=by injection e
   obtain rfl:c=zie t (x::gs):=by simpa using hc
   exact .sl _ _ _ (fun t2 h=>by injection h with h;subst h;exact ⟨_,_,hr⟩) (fun e he c hc=>(znG _ e he c hc).inH)
  ·cases e
theorem zjI {oc t i:Nat} {gs:List Gap_}:i∈ids (gM oc t gs)↔i=oc\/gs≠[]/\i=t:=by
 cases gs<;>simp [gM,zjH,ids]
theorem zrZ (oc t:Nat) (gs gs2:List Gap_) (g:Nat):∃v M',gT oc gs2 g v M'/\(ids M').Nodup/\∀i,i∈ids M'->i∈ids (gM oc t gs)\/g<=i:=by
 refine ⟨.tup [],_,⟨max g (oc+1),rfl,rfl⟩,?_,fun i hi=>?_⟩
 ·cases gs2<;>simp [gM,zjH,ids]<;>omega
 ·rcases zjI.1 hi with rfl | ⟨_,rfl⟩
  ·exact .inl (zjI.2 (.inl rfl))
  ·exact .inr (Nat.le_max_left _ _)
theorem zmR {P:Program} {N:Nat} {fr:Fr} {H H0:zaa} {g b oc t t2:Nat} {gs gs2:List Gap_} {ex:Exit} {rs:List ResultVar} (he:ex=.normal\/ex=.ret) (hx:zf8 P N fr H rs=some (.tup [])) (hS:St (fun i=>i<g/\i∉ids (gM oc t gs)) H0 (gM oc t2 gs2) H b) (hb:g<=b) (hi:∀i,i∈ids (gM oc t2 gs2)->i∈ids (gM oc t gs)\/g<=i) :
  (ex=.normal\/ex=.ret)/\∃v M' b1,gT oc gs2 g v M'/\(∃x,zf8 P N fr H rs=some x/\Le v x)/\(∀H,Has H M'->In H v)/\InB In M'/\(∀i,i<g/\i∉ids (gM oc t gs)->H i=H0 i)/\Has H M'/\zaZ H b1/\g<=b1/\(ids M').Nodup/\(∀i,i∈ids M'->i∈ids (gM oc t gs)\/g<=i)/\(∀p,p∈gM oc t gs->p.1∉ids M'->p.2≠.ice/\∀cs,p.2≠.cells cs):=by
 refine ⟨he,.tup [],gM oc t2 gs2,b,⟨t2,rfl,rfl⟩,⟨_,hx,.refl _⟩,fun H _=>(show Go.AM.Pure _ from .tup _ zaE).inH,zwg,fun i hi=>(hS.old i hi).2,fun p hp=>(hS.has p hp).2.2,hS.fr,hb,hS.nd,hi,fun p hp hn=>?_⟩
 cases gs with
 | nil =>
  obtain rfl:=List.mem_singleton.1 hp
  exact absurd (zjI.2 (.inl rfl)) hn
 | cons x gs =>
  simp only [gM,zjH,List.mem_cons,List.not_mem_nil,or_false] at hp
  rcases hp with rfl | rfl
  ·exact absurd (zjI.2 (.inl rfl)) hn
  ·exact ⟨fun h=>(by cases h),fun cs h=>(by cases h)⟩
theorem zkt {P:Program} {N:Nat} {fr:Fr} {H H0:zaa} {g b oc t t2:Nat} {gs gs2:List Gap_} {ex:Exit} {rs:List ResultVar} (he:ex=.normal\/ex=.ret) (hx:zf8 P N fr H rs=some (.tup [])) (hS:St (fun i=>i<g/\i∉ids (gM oc t gs)) H0 (gM oc t2 gs2) H b) (hb:g<=b) (hi:gs2=[]\/gs≠[]/\t2=t\/g<=t2) :
  (ex=.normal\/ex=.ret)/\∃v M' b1,gT oc gs2 g v M'/\(∃x,zf8 P N fr H rs=some x/\Le v x)/\(∀H,Has H M'->In H v)/\InB In M'/\(∀i,i<g/\i∉ids (gM oc t gs)->H i=H0 i)/\Has H M'/\zaZ H b1/\g<=b1/\(ids M').Nodup/\(∀i,i∈ids M'->i∈ids (gM oc t gs)\/g<=i)/\(∀p,p∈gM oc t gs->p.1∉ids M'->p.2≠.ice/\∀cs,p.2≠.cells cs) :=
 zmR he hx hS hb fun i hi2=>by
  rcases zjI.1 hi2 with rfl | ⟨h1,rfl⟩
  ·exact .inl (zjI.2 (.inl rfl))
  ·rcases hi with h | ⟨h2,rfl⟩ | h
   ·exact absurd h h1
   ·exact .inl (zjI.2 (.inr ⟨h2,rfl⟩))
   ·exact .inr h
theorem zfN {n:Nat} {a:Option Box_} {purse:List Int} {gs:List Gap_} {r:Unit×List Gap_} (hM:zay n a purse gs=some r) {oc t:Nat} (hnd:(ids (gM oc t gs)).Nodup):zow Try.prog 133 [.sl .no 1 (purse.map cI),.ptr oc 0,.ep [pA Box_.cells a]] (gM oc t gs) (gT oc r.2):=by
 refine zjw mixed Try.func133 rfl (by decide) Try.ntmps133 (by simp) (zrZ oc t gs r.2) fun H0 g hf hp=>?_
 rw [zaj]
 change wpA _ _ _ _ (Fr.of [(0,.sl .no 1 (purse.map cI)),(1,.ptr oc 0),(2,.ep [pA Box_.cells a])]) H0 g
 have hS:=St.startH hf hnd hp
 have hog:oc<g:=(hS.has (oc,_) (List.mem_cons_self ..)).2.1
 cases gs with
 | nil =>
  unfold zay at hM
  replace hS:St (fun i=>i<g/\i∉ids (gM oc t [])) H0 [(oc,.cells [.sl .nil 0 []])] H0 g:=hS
  refine Sq ?_
  refine Sq ?_
  have hS0:=hS
  refine zdq (n:=15) rfl (by kernel_rfl) ?_
  refine zaQ (v:=.sl .nil 0 []) 0 hS (by decide) rfl rfl (.st hS0 0 rfl (by omega)) (po zep zfy) ?_
  refine zb7 (n:=0) (by decide) rfl rfl zhE ?_
  refine Oi (.b (decide (((0:Nat):Int)>0))) ?_
  refine Om (.b (decide (((0:Nat):Int)>0))) ?_
  refine zbC (j:=3) (e:=(decide (((0:Nat):Int)>0))) (want:=true) (by decide) rfl (by decide) ?_
  refine zbC (j:=3) (e:=(decide (((0:Nat):Int)>0))) (want:=true) (by decide) rfl (by decide) ?_
  refine zbC (j:=3) (e:=(decide (((0:Nat):Int)>0))) (want:=true) (by decide) rfl (by decide) ?_
  refine zbC (j:=3) (e:=(decide (((0:Nat):Int)>0))) (want:=true) (by decide) rfl (by decide) ?_
  refine zbC (j:=3) (e:=(decide (((0:Nat):Int)>0))) (want:=true) (by decide) rfl (by decide) ?_
  refine zbC (j:=3) (e:=(decide (((0:Nat):Int)>0))) (want:=true) (by decide) rfl (by decide) ?_
  refine zbC (j:=3) (e:=(decide (((0:Nat):Int)>0))) (want:=true) (by decide) rfl (by decide) ?_
  refine zbC (j:=3) (e:=(decide (((0:Nat):Int)>0))) (want:=true) (by decide) rfl (by decide) ?_
  refine zbC (j:=3) (e:=(decide (((0:Nat):Int)>0))) (want:=true) (by decide) rfl (by decide) ?_
  refine zbC (j:=3) (e:=(decide (((0:Nat):Int)>0))) (want:=true) (by decide) rfl (by decide) ?_
  refine zan (v:=.b false) (e:=(decide (((0:Nat):Int)>0))) (by decide) rfl (by decide) rfl ?_
  refine Ni ?_
  refine Ws ?_
  refine zfU (e:=false) rfl rfl ?_
  refine zaO ?_
  refine Ws ?_
  refine Sq ?_
  refine Rg 8 ?_
  refine Olp (pA Box_.cells a) zf0 zhc ?_
  refine Om (.sl .no 1 (purse.map cI)) ?_
  obtain ⟨e,he,hM⟩:=zal hM
  refine zaD (bs:=[pA Box_.cells a,.sl .no 1 (purse.map cI)]) (by decide) rfl rfl ((zeC he).le (.k (.k .nil))) ?_
  refine Om (.tup [.sl .no 1 (e.1.map cI),.b e.2]) ?_
  refine Ox (.sl .no 1 (e.1.map cI)) ?_
  refine Ox (.b e.2) ?_
  refine Oa (.sl .no 1 (e.1.map cI)) ?_
  refine Oa (.b e.2) ?_
  refine Ni ?_
  refine Ws ?_
  refine Sq ?_
  refine Sq ?_
  refine Rg 2 ?_
  refine Om (.b e.2) ?_
  refine zd4 (by decide) rfl ?_
  refine Ni ?_
  refine Ws ?_
  rcases bft (!e.2) with he2 | he2
  ·replace hM:=ifT hM he2
   obtain rfl:=Option.some.inj hM
   refine Ct he2 ?_
   refine zaT ?_
   refine zax ?_
   exact zkt (t:=t) (gs:=[]) (gs2:=[]) (t2:=t) (.inr rfl) rfl hS (by omega) (.inl rfl)
  ·replace hM:=ifF hM he2
   obtain rfl:=Option.some.inj hM
   refine Cf he2 ?_
   refine zaO ?_
   refine Ws ?_
   refine Sq ?_
   refine Sq ?_
   have hS0:=hS
   refine zdq (n:=15) rfl (by kernel_rfl) ?_
   refine zaQ (v:=.sl .nil 0 []) 0 hS (by decide) rfl rfl (.st hS0 0 rfl (by omega)) (po zep zfy) ?_
   refine zb7 (n:=0) (by decide) rfl rfl zhE ?_
   refine Oi (.b (decide (((0:Nat):Int)>0))) ?_
   refine Om (.b (decide (((0:Nat):Int)>0))) ?_
   refine zbC (j:=3) (e:=(decide (((0:Nat):Int)>0))) (want:=true) (by decide) rfl (by decide) ?_
   refine zbC (j:=3) (e:=(decide (((0:Nat):Int)>0))) (want:=true) (by decide) rfl (by decide) ?_
   refine zbC (j:=3) (e:=(decide (((0:Nat):Int)>0))) (want:=true) (by decide) rfl (by decide) ?_
   refine zbC (j:=3) (e:=(decide (((0:Nat):Int)>0))) (want:=true) (by decide) rfl (by decide) ?_
   refine zbC (j:=3) (e:=(decide (((0:Nat):Int)>0))) (want:=true) (by decide) rfl (by decide) ?_
   refine zbC (j:=3) (e:=(decide (((0:Nat):Int)>0))) (want:=true) (by decide) rfl (by decide) ?_
   refine zbC (j:=3) (e:=(decide (((0:Nat):Int)>0))) (want:=true) (by decide) rfl (by decide) ?_
   refine zbC (j:=3) (e:=(decide (((0:Nat):Int)>0))) (want:=true) (by decide) rfl (by decide) ?_
   refine zbC (j:=3) (e:=(decide (((0:Nat):Int)>0))) (want:=true) (by decide) rfl (by decide) ?_
   refine zbC (j:=3) (e:=(decide (((0:Nat):Int)>0))) (want:=true) (by decide) rfl (by decide) ?_
   refine zan (v:=.b false) (e:=(decide (((0:Nat):Int)>0))) (by decide) rfl (by decide) rfl ?_
   refine Ni ?_
   refine Ws ?_
   refine zfU (e:=false) rfl rfl ?_
   refine zaO ?_
   refine Ws ?_
   refine Rg 7 ?_
   refine zaQ (v:=.sl .nil 0 []) 0 hS (by decide) rfl rfl .no (po zep zfy) ?_
   refine Om (.sl .no 1 (purse.map cI)) ?_
   refine Om (.sl .no 1 (e.1.map cI)) ?_
   refine zbU (cs:=[.sl .no 1 (purse.map cI),.sl .no 1 (e.1.map cI)]) (by decide) zjr zmJ rfl ?_
   refine zlF (e:=94) (es:=[[.sl .no 1 (purse.map cI),.sl .no 1 (e.1.map cI)]]) (by decide) zf1 zia rfl zib rfl (by decide) ?_
   refine zjx (k:=2) (k':=0) (e:=94) (es:=[[.sl .no 1 (purse.map cI),.sl .no 1 (e.1.map cI)]]) hS (by decide) rfl rfl zf1 zia zib nlb (by omega) fun H hS=>?_
   refine zaV (v:=.sl (.id (g+15+8+2+15+5)) 2 ([(⟨purse,e.1⟩:Gap_)].map Gap_.cells)) (ns:=[.sl (.id (g+15+8+2+15+5)) 2 ([(⟨purse,e.1⟩:Gap_)].map Gap_.cells)]) (L':=[((g+15+8+2+15+5),.row 94 1),(oc,.cells [.sl (.id (g+15+8+2+15+5)) 2 ([(⟨purse,e.1⟩:Gap_)].map Gap_.cells)])]) 1 hS rfl rfl .no rfl rfl ziN nlb rfl fun H hS=>?_
   refine Ni ?_
   replace hS:=hS.toHead (L':=gM oc (g+15+8+2+15+5) [(⟨purse,e.1⟩:Gap_)]) 1 nlb rfl
   exact zkt (t:=t) (gs:=[]) (gs2:=[(⟨purse,e.1⟩:Gap_)]) (t2:=(g+15+8+2+15+5)) (.inl rfl) rfl hS (by omega) (.inr (.inr (by omega)))
 | cons x gs =>
  unfold zay at hM
  replace hS:St (fun i=>i<g/\i∉ids (gM oc t (x::gs))) H0 [(oc,.cells [.sl (.id t) 2 ((x::gs).map Gap_.cells)]),(t,.row 94 (x::gs).length)] H0 g:=hS
  have hpos:decide ((((x::gs).length:Nat):Int)>0)=true:=decide_eq_true (by rw [List.length_cons];omega)
  refine Sq ?_
  refine Sq ?_
  have hS0:=hS
  refine zdq (n:=15) rfl (by kernel_rfl) ?_
  refine zaQ (v:=.sl (.id t) 2 ((x::gs).map Gap_.cells)) 0 hS (by decide) rfl rfl (.st hS0 0 rfl (by omega)) (po zep zfy) ?_
  refine zb7 (n:=(x::gs).length) (by decide) rfl (List.length_map _) zhE ?_
  refine Oi (.b (decide ((((x::gs).length:Nat):Int)>0))) ?_
  refine Om (.b (decide ((((x::gs).length:Nat):Int)>0))) ?_
  refine Oy (want:=true) hpos ?_
  refine Olp (pA Box_.cells a) zf0 zhc ?_
  refine Oy (want:=true) hpos ?_
  refine Om (.sl .no 1 (purse.map cI)) ?_
  obtain ⟨w1,hw1,hM⟩:=zal hM
  refine Oy (want:=true) hpos ?_
  refine zaD (bs:=[pA Box_.cells a,.sl .no 1 (purse.map cI)]) (by decide) rfl rfl ((za8 hw1).le (.k (.k .nil))) ?_
  refine Oy (want:=true) hpos ?_
  refine Olp (pA Box_.cells a) zf0 zhc ?_
  refine Oy (want:=true) hpos ?_
  refine zaQ (v:=.sl (.id t) 2 ((x::gs).map Gap_.cells)) 0 hS (by decide) rfl rfl (.st hS0 0 rfl (by omega)) (po zep zfy) ?_
  refine Oy (want:=true) hpos ?_
  refine zbb (xs:=x::gs) (f:=Gap_.cells) (z:=0) (u:=x) (by decide) rfl rfl zf1 rfl ?_
  refine Oy (want:=true) hpos ?_
  refine Of ((Gap_.cells x)) zjv ?_
  refine Oy (want:=true) hpos ?_
  refine Olp (.sl .no 1 (x.purse.map cI)) zar zaH ?_
  obtain ⟨w2,hw2,hM⟩:=zal hM
  refine Oy (want:=true) hpos ?_
  refine zaD (bs:=[pA Box_.cells a,.sl .no 1 (x.purse.map cI)]) (by decide) rfl rfl ((za8 hw2).le (.k (.k .nil))) ?_
  refine Oy (want:=true) hpos ?_
  refine Oi (.b (decide (w1>w2))) ?_
  refine Pt (.b (decide (w1>w2))) hpos ?_
  refine Ni ?_
  refine Ws ?_
  rcases bft (decide (w1>w2)) with hw | hw
  ·replace hM:=ifT hM hw
   obtain rfl:=Option.some.inj hM
   refine Ct hw ?_
   refine zaT ?_
   refine zax ?_
   exact zkt (t:=t) (gs:=x::gs) (gs2:=x::gs) (t2:=t) (.inr rfl) rfl hS (by omega) (.inr (.inl ⟨by simp,rfl⟩))
  replace hM:=ifF hM hw
  refine Cf hw ?_
  refine zaO ?_
  refine Ws ?_
  refine Sq ?_
  refine Rg 8 ?_
  refine Olp (pA Box_.cells a) zf0 zhc ?_
  refine Om (.sl .no 1 (purse.map cI)) ?_
  obtain ⟨e,he,hM⟩:=zal hM
  refine zaD (bs:=[pA Box_.cells a,.sl .no 1 (purse.map cI)]) (by decide) rfl rfl ((zeC he).le (.k (.k .nil))) ?_
  refine Om (.tup [.sl .no 1 (e.1.map cI),.b e.2]) ?_
  refine Ox (.sl .no 1 (e.1.map cI)) ?_
  refine Ox (.b e.2) ?_
  refine Oa (.sl .no 1 (e.1.map cI)) ?_
  refine Oa (.b e.2) ?_
  refine Ni ?_
  refine Ws ?_
  refine Sq ?_
  refine Sq ?_
  refine Rg 2 ?_
  refine Om (.b e.2) ?_
  refine zd4 (by decide) rfl ?_
  refine Ni ?_
  refine Ws ?_
  rcases bft (!e.2) with he2 | he2
  ·replace hM:=ifT hM he2
   obtain rfl:=Option.some.inj hM
   refine Ct he2 ?_
   refine zaT ?_
   refine zax ?_
   exact zkt (t:=t) (gs:=x::gs) (gs2:=x::gs) (t2:=t) (.inr rfl) rfl hS (by omega) (.inr (.inl ⟨by simp,rfl⟩))
  replace hM:=ifF hM he2
  refine Cf he2 ?_
  refine zaO ?_
  refine Ws ?_
  refine Sq ?_
  refine Sq ?_
  have hS0:=hS
  refine zdq (n:=15) rfl (by kernel_rfl) ?_
  refine zaQ (v:=.sl (.id t) 2 ((x::gs).map Gap_.cells)) 0 hS (by decide) rfl rfl (.st hS0 0 rfl (by omega)) (po zep zfy) ?_
  refine zb7 (n:=(x::gs).length) (by decide) rfl (List.length_map _) zhE ?_
  refine Oi (.b (decide ((((x::gs).length:Nat):Int)>0))) ?_
  refine Om (.b (decide ((((x::gs).length:Nat):Int)>0))) ?_
  refine Oy (want:=true) hpos ?_
  refine Olp (pA Box_.cells a) zf0 zhc ?_
  refine Oy (want:=true) hpos ?_
  refine Om (.sl .no 1 (purse.map cI)) ?_
  obtain ⟨w3,hw3,hM⟩:=zal hM
  refine Oy (want:=true) hpos ?_
  refine zaD (bs:=[pA Box_.cells a,.sl .no 1 (purse.map cI)]) (by decide) rfl rfl ((za8 hw3).le (.k (.k .nil))) ?_
  refine Oy (want:=true) hpos ?_
  refine Olp (pA Box_.cells a) zf0 zhc ?_
  refine Oy (want:=true) hpos ?_
  refine zaQ (v:=.sl (.id t) 2 ((x::gs).map Gap_.cells)) 0 hS (by decide) rfl rfl (.st hS0 0 rfl (by omega)) (po zep zfy) ?_
  refine Oy (want:=true) hpos ?_
  refine zbb (xs:=x::gs) (f:=Gap_.cells) (z:=0) (u:=x) (by decide) rfl rfl zf1 rfl ?_
  refine Oy (want:=true) hpos ?_
  refine Of ((Gap_.cells x)) zjv ?_
  refine Oy (want:=true) hpos ?_
  refine Olp (.sl .no 1 (x.purse.map cI)) zar zaH ?_
  obtain ⟨w4,hw4,hM⟩:=zal hM
  refine Oy (want:=true) hpos ?_
  refine zaD (bs:=[pA Box_.cells a,.sl .no 1 (x.purse.map cI)]) (by decide) rfl rfl ((za8 hw4).le (.k (.k .nil))) ?_
  refine Oy (want:=true) hpos ?_
  refine Oi (.b (decide (w3<w4))) ?_
  refine Pt (.b (decide (w3<w4))) hpos ?_
  refine Ni ?_
  refine Ws ?_
  rcases bft (decide (w3<w4)) with hw2 | hw2
  ·replace hM:=ifT hM hw2
   obtain rfl:=Option.some.inj hM
   refine Ct hw2 ?_
   refine Rg 1 ?_
   refine zaV (v:=.sl .nil 0 []) (ns:=[.sl .nil 0 []]) (L':=[(oc,.cells [.sl .nil 0 []]),(t,.row 94 (x::gs).length)]) 0 hS rfl rfl .no rfl rfl ziN nlb rfl fun H hS=>?_
   refine Ni ?_
   replace hS:=hS.keep (L':=[(oc,.cells [.sl .nil 0 []])]) [true,false] rfl
   refine Ws ?_
   refine Rg 7 ?_
   refine zaQ (v:=.sl .nil 0 []) 0 hS (by decide) rfl rfl .no (po zep zfy) ?_
   refine Om (.sl .no 1 (purse.map cI)) ?_
   refine Om (.sl .no 1 (e.1.map cI)) ?_
   refine zbU (cs:=[.sl .no 1 (purse.map cI),.sl .no 1 (e.1.map cI)]) (by decide) zjr zmJ rfl ?_
   refine zlF (e:=94) (es:=[[.sl .no 1 (purse.map cI),.sl .no 1 (e.1.map cI)]]) (by decide) zf1 zia rfl zib rfl (by decide) ?_
   refine zjx (k:=2) (k':=0) (e:=94) (es:=[[.sl .no 1 (purse.map cI),.sl .no 1 (e.1.map cI)]]) hS (by decide) rfl rfl zf1 zia zib nlb (by omega) fun H hS=>?_
   refine zaV (v:=.sl (.id (g+15+8+2+15+1+5)) 2 ([(⟨purse,e.1⟩:Gap_)].map Gap_.cells)) (ns:=[.sl (.id (g+15+8+2+15+1+5)) 2 ([(⟨purse,e.1⟩:Gap_)].map Gap_.cells)]) (L':=[((g+15+8+2+15+1+5),.row 94 1),(oc,.cells [.sl (.id (g+15+8+2+15+1+5)) 2 ([(⟨purse,e.1⟩:Gap_)].map Gap_.cells)])]) 1 hS rfl rfl .no rfl rfl ziN nlb rfl fun H hS=>?_
   refine Ni ?_
   replace hS:=hS.toHead (L':=gM oc (g+15+8+2+15+1+5) [(⟨purse,e.1⟩:Gap_)]) 1 nlb rfl
   exact zkt (t:=t) (gs:=x::gs) (gs2:=[(⟨purse,e.1⟩:Gap_)]) (t2:=(g+15+8+2+15+1+5)) (.inl rfl) rfl hS (by omega) (.inr (.inr (by omega)))
  replace hM:=ifF hM hw2
  obtain ⟨l,hl,hM⟩:=zal hM
  obtain rfl:=Option.some.inj hM
  have hl2:l=x::(gs++[(⟨purse,e.1⟩:Gap_)]):=by
   unfold app at hl
   split at hl
   ·exact (Option.some.inj hl).symm
   ·cases hl
  refine Cf hw2 ?_
  refine zaO ?_
  refine Ws ?_
  refine Rg 7 ?_
  refine zaQ (v:=.sl (.id t) 2 ((x::gs).map Gap_.cells)) 0 hS (by decide) rfl rfl .no (po zep zfy) ?_
  refine Om (.sl .no 1 (purse.map cI)) ?_
  refine Om (.sl .no 1 (e.1.map cI)) ?_
  refine zbU (cs:=[.sl .no 1 (purse.map cI),.sl .no 1 (e.1.map cI)]) (by decide) zjr zmJ rfl ?_
  refine zlF (e:=94) (es:=[[.sl .no 1 (purse.map cI),.sl .no 1 (e.1.map cI)]]) (by decide) zf1 zia rfl zib rfl (by decide) ?_
  refine zeN (xs:=x::gs) (ys:=[(⟨purse,e.1⟩:Gap_)]) (zs:=l) (f:=Gap_.cells) (L':=[(oc,.cells [.sl (.id t) 2 ((x::gs).map Gap_.cells)]),(t,.row 94 l.length)]) 1 hS (by decide) rfl rfl rfl rfl .no zf1 zia zib hl rfl fun H hS=>?_
  refine zaV (v:=.sl (.id t) 2 (l.map Gap_.cells)) (ns:=[.sl (.id t) 2 (l.map Gap_.cells)]) (L':=[(oc,.cells [.sl (.id t) 2 (l.map Gap_.cells)]),(t,.row 94 l.length)]) 0 hS rfl rfl .no rfl rfl ziN nlb rfl fun H hS=>?_
  refine Ni ?_
  subst hl2
  exact zkt (t:=t) (gs:=x::gs) (gs2:=x::(gs++[(⟨purse,e.1⟩:Gap_)])) (t2:=t) (.inl rfl) rfl hS (by omega) (.inr (.inl ⟨by simp,rfl⟩))
theorem zqa {n nn:Nat} {a:Option Box_} {rec:(Option Box_)->(List Int)->Int->List Gap_->Option (Unit×List Gap_)} (hrec:∀{a1:List Int} {a2:Int} {gs:List Gap_} {r:Unit×List Gap_},rec a a1 a2 gs=some r->∀{oc t:Nat},(ids (gM oc t gs)).Nodup->zow Try.prog 132 [pA Box_.cells a,.sl .no 1 (a1.map cI),.i a2,.fn (.func 133) [] [.ptr oc 0,.ep [pA Box_.cells a]]] (gM oc t gs) (gT oc r.2)) {a1:List Int} {a2:Int} {gs:List Gap_} {r:Unit×List Gap_} (hM:zcc n rec (fun x0 s=>zay nn a x0 s) a a1 a2 gs=some r) {oc t:Nat} (hnd:(ids (gM oc t gs)).Nodup):zow Try.prog 132 [pA Box_.cells a,.sl .no 1 (a1.map cI),.i a2,.fn (.func 133) [] [.ptr oc 0,.ep [pA Box_.cells a]]] (gM oc t gs) (gT oc r.2):=by
 refine zjw mixed Try.func132 rfl (by decide) Try.ntmps132 (by simp) (zrZ oc t gs r.2) fun H0 g hf hp=>?_
 rw [zaj]
 change wpA _ _ _ _ (Fr.of [(0,pA Box_.cells a),(1,.sl .no 1 (a1.map cI)),(2,.i a2),(3,.fn (.func 133) [] [.ptr oc 0,.ep [pA Box_.cells a]])]) H0 g
 have hS:=St.startH hf hnd hp
 have hog:oc<g:=(hS.has (oc,_) (List.mem_cons_self ..)).2.1
 unfold zcc at hM
 refine Sq ?_
 refine Sq ?_
 refine Rg 10 ?_
 refine Om (.sl .no 1 (a1.map cI)) ?_
 refine zb7 (n:=a1.length) (by decide) rfl (List.length_map _) zaN ?_
 refine Om (pA Box_.cells a) ?_
 obtain ⟨b,hb0,hM⟩:=zal hM
 refine zg1 (f:=Box_.cells) (p:=a) (u:=b) (by decide) rfl hb0 ?_
 refine Of ((Box.cells b.Box)) zcM ?_
 refine Of ((Box.cells b.Box)) zb0 ?_
 refine Of ((Box.cells b.Box)) zcq ?_
 refine Olp (.sl .no 1 (b.Box.Wheel.Coins.map cI)) zar zaH ?_
 refine zb7 (n:=b.Box.Wheel.Coins.length) (by decide) rfl (List.length_map _) zaN ?_
 refine Oi (.b ((a1.length:Int)==(b.Box.Wheel.Coins.length:Int))) ?_
 refine Ni ?_
 refine Ws ?_
 rcases bft ((a1.length:Int)==(b.Box.Wheel.Coins.length:Int)) with hb2 | hb2
 ·replace hM:=ifT hM hb2
  refine Ct hb2 ?_
  refine Sq ?_
  refine Rg 3 ?_
  refine Om (.fn (.func 133) [] [.ptr oc 0,.ep [pA Box_.cells a]]) ?_
  refine Om (.sl .no 1 (a1.map cI)) ?_
  obtain ⟨r3,hr3,hM⟩:=zal hM
  obtain rfl:=Option.some.inj hM
  refine zp4 (M:=gM oc t gs) (L:=[]) (.inl rfl) (by rw [List.append_nil];exact hS) (by decide) rfl rfl (zfN hr3 hnd) (by omega) ?_
  rintro v M' H g2 ⟨t2,rfl,rfl⟩ hg2 hi hS
  rw [List.append_nil] at hS
  refine Ni ?_
  refine Ws ?_
  refine zaT ?_
  refine zax ?_
  exact zmR (.inr rfl) rfl hS (by omega) fun i h=>(hi i h).imp id fun h=>by omega
 replace hM:=ifF hM hb2
 refine Cf hb2 ?_
 refine zaO ?_
 refine Ws ?_
 refine Sq ?_
 refine Rg 3 ?_
 refine Om (.i a2) ?_
 refine Oi (.i (w64 (a2+1))) ?_
 refine Om (.i 0) ?_
 refine Ni ?_
 refine Ws ?_
 refine zaP ?_
 refine zcE (V:=Int×List Gap_×Nat) (fun v=>[(0,pA Box_.cells a),(1,.sl .no 1 (a1.map cI)),(2,.i a2),(3,.fn (.func 133) [] [.ptr oc 0,.ep [pA Box_.cells a]]),(23,.i (w64 (a2+1))),(24,.i v.1)]) (fun v m2 H' g'=>St (fun i=>i<g/\i∉ids (gM oc t gs)) H0 (gM oc v.2.2 v.2.1) H' g'/\g<=g'/\(∀i,i∈ids (gM oc v.2.2 v.2.1)->i∈ids (gM oc t gs)\/g<=i)/\zbl rec a a1 a2 m2 v.1 v.2.1=some r) (n:=n) (0,gs,t) (.k (.k (.k (.k (.k (.k .nil)))))) ⟨hS.up (by omega),by omega,fun i h=>.inl h,hM⟩ ?_
 rintro ⟨k,gs2,t2⟩ m2 H g2 ⟨hS,hg2,hi,hM⟩
 obtain _ | m2:=m2
 ·exact nomatch (show none=some _ from hM)
 change wpA _ _ _ _ (Fr.of [(0,pA Box_.cells a),(1,.sl .no 1 (a1.map cI)),(2,.i a2),(3,.fn (.func 133) [] [.ptr oc 0,.ep [pA Box_.cells a]]),(23,.i (w64 (a2+1))),(24,.i k)]) _ _
 replace hS:St (fun i=>i<g/\i∉ids (gM oc t gs)) H0 (gM oc t2 gs2) H g2:=hS
 replace hM:zbN rec a a1 a2 (zbl rec a a1 a2 m2) k gs2=some r:=hM
 unfold zbN at hM
 replace hi:∀i,i∈ids (gM oc t2 gs2)->i∈ids (gM oc t gs)\/g<=i:=hi
 refine Sq ?_
 refine Rg 1 ?_
 refine Oi (.b (decide (k<(w64 (a2+1))))) ?_
 refine Ni ?_
 refine Ws ?_
 refine Sq ?_
 rcases bft (decide (k<(w64 (a2+1)))) with hk | hk
 rotate_left
 ·replace hM:=ifF hM hk
  obtain rfl:=Option.some.inj hM
  refine Cf hk ?_
  refine zcl ?_
  refine zaM ?_
  refine zaJ ?_
  refine zaR ?_
  exact zmR (.inl rfl) rfl hS (by omega) hi
 replace hM:=ifT hM hk
 refine Ct hk ?_
 refine zaO ?_
 refine Ws ?_
 refine Sq ?_
 refine zaP ?_
 refine Sq ?_
 refine Rg 2 ?_
 refine Om (.i k) ?_
 refine Oa (.i k) ?_
 refine Ni ?_
 refine Ws ?_
 refine Rg 11 ?_
 refine Om (pA Box_.cells a) ?_
 refine Om (.sl .no 1 (a1.map cI)) ?_
 obtain ⟨l8,hl8,hM⟩:=zal hM
 refine zsl (bs:=[.sl .no 1 (a1.map cI)]) hS (by decide) rfl rfl ((zhT hl8).le (.k .nil)) (by omega) fun H hS=>?_
 rw [List.length_map] at hS
 refine Om (.i k) ?_
 refine za2 (es:=[[.i k]]) hS (by decide) zaA zbW rfl zbP rfl (by decide) (by omega) fun H hS=>?_
 obtain ⟨l9,hl9,hM⟩:=zal hM
 refine zeN (xs:=l8) (ys:=([k]:List Int)) (zs:=l9) (f:=cI) (L':=(g2+1+2+4,.row 3 1)::(g2+1+2+2,.row 3 l9.length)::gM oc t2 gs2) 1 hS (by decide) rfl rfl rfl rfl .no zaA zbW zbP hl9 rfl fun H hS=>?_
 refine Om (.i a2) ?_
 refine Om (.i k) ?_
 refine Oi (.i (w64 (a2-k))) ?_
 refine Om (.fn (.func 133) [] [.ptr oc 0,.ep [pA Box_.cells a]]) ?_
 obtain ⟨r10,hr10,hM⟩:=zal hM
 have hS2:=hS.perm (L':=gM oc t2 gs2++[(g2+1+2+4,.row 3 1),(g2+1+2+2,.row 3 l9.length)]) (List.perm_append_comm (l₁:=gM oc t2 gs2) (l₂:=[_,_]))
 refine zp4 (M:=gM oc t2 gs2) (L:=[(g2+1+2+4,.row 3 1),(g2+1+2+2,.row 3 l9.length)]) (.inl rfl) hS2 (by decide) rfl rfl ((hrec hr10 (show (ids (gM oc t2 gs2)).Nodup from (hS.keep (L':=gM oc t2 gs2) [false,false] rfl).nd)).le (.k (.cons (.sl _ _ _) (.k (.k .nil))))) (by omega) ?_
 rintro v M' H g3 ⟨t3,rfl,rfl⟩ hg3 hi3 hS
 refine Ni ?_
 refine zaI ?_
 replace hS:=(hS.perm (L':=[(g2+1+2+4,.row 3 1),(g2+1+2+2,.row 3 l9.length)]++gM oc t3 r10.2) List.perm_append_comm).keep (L':=gM oc t3 r10.2) [false,false] rfl
 refine Ws ?_
 refine Rg 2 ?_
 refine Oi (.i (w64 (k+1))) ?_
 refine Om (.i (w64 (k+1))) ?_
 refine Ni ?_
 exact zbS (w64 (k+1),r10.2,t3) (Nat.lt_succ_self _) (.k (.k (.k (.k (.k (.k .nil)))))) ⟨hS.up (by omega),by omega,fun i h=>(hi3 i h).elim (hi i) fun h=>.inr (by omega),hM⟩
theorem zqb:∀{m nn:Nat} {a:Option Box_} {a1:List Int} {a2:Int} {gs:List Gap_} {r:Unit×List Gap_},zbj m (fun x0 s=>zay nn a x0 s) a a1 a2 gs=some r->∀{oc t:Nat},(ids (gM oc t gs)).Nodup->zow Try.prog 132 [pA Box_.cells a,.sl .no 1 (a1.map cI),.i a2,.fn (.func 133) [] [.ptr oc 0,.ep [pA Box_.cells a]]] (gM oc t gs) (gT oc r.2)
 | 0,_,_,_,_,_,_,h=>nomatch (show none=some _ from h)
 | n+1,nn,a,_,_,_,_,h=>fun hnd=>zqa (n:=n) (rec:=zbj n (fun x0 s=>zay nn a x0 s)) (fun h _ _ hnd=>zqb h hnd) h hnd
theorem zgz {n:Nat} {a0:Option Box_} {r:List Gap_} (hM:zbH n a0=some r):zaL Try.prog 101 [pA Box_.cells a0] (.sl .no 2 (r.map Gap_.cells)):=by
 refine zao mixed Try.func101 rfl (by decide) Try.ntmps101 (by simp) ?pure fun H0 g hf=>?_
 case pure=>exact .sl _ _ (znG _)
 rw [zaj]
 change wpA _ _ _ _ (Fr.of [(0,pA Box_.cells a0)]) H0 g
 have hS:=St.start hf
 unfold zbH at hM
 obtain ⟨rr,hrr,hM⟩:=zal hM
 obtain rfl:=Option.some.inj hM
 refine Sq ?_
 refine Rg 2 ?_
 refine zcZ (v:=pA Box_.cells a0) (cs:=[pA Box_.cells a0]) hS (by decide) rfl (zor _ _) (by omega) fun H hS=>?_
 refine Oa (.sl .nil 0 []) ?_
 refine Ni ?_
 refine zbO (L':=[]) 0 1 hS rfl rfl rfl fun H hS=>?_
 refine Ws ?_
 refine Sq ?_
 refine Rg 1 ?_
 refine zbT hS (by decide) zpW (by omega) fun H hS=>?_
 refine Ni ?_
 refine Ws ?_
 refine Sq ?_
 refine Rg 3 ?_
 refine Olp (pA Box_.cells a0) zf0 zhc ?_
 refine zfF (first:=[]) (cap:=[.ptr (g+2+0) 0,.ep [pA Box_.cells a0]]) (by decide) rfl rfl ?_
 refine zlI (M:=gM (g+2+0) 0 []) (L:=[]) (.inl rfl) hS (by decide) rfl rfl ((zqb hrr (by simp [gM,zjH,ids])).le (.k (.cons (.sl0 _ _ _) (.k (.k .nil))))) (by omega) ?_
 rintro v M' H g2 ⟨t2,rfl,rfl⟩ hg2 hS
 refine Ni ?_
 refine Ws ?_
 refine Sq ?_
 refine Rg 2 ?_
 refine zaQ (v:=zie t2 rr.2) 0 hS (by decide) rfl rfl .no (po zep zfy) ?_
 refine Oa (zie t2 rr.2) ?_
 refine Ni ?_
 refine Ws ?_
 refine zaT ?_
 refine za5 (x:=zie t2 rr.2) (f:=fun (r:List Gap_)=>.sl .no 2 (r.map Gap_.cells)) (.inr rfl) (zaC (zae rfl)) ?_ rfl hS
 cases rr.2 with
 | nil=>exact .sl0 _ _ _
 | cons x gs=>exact .sl _ _ _
theorem ziC {n:Nat} {a0:Box} {r:(Option Box_)×(List Gap_)×Int} (hM:zdt n a0=some r):zaL Try.prog 62 [.agg (Box.cells a0)] (.tup [pA Box_.cells r.1,.sl .no 2 (r.2.1.map Gap_.cells),.i r.2.2]):=by
 refine zao mixed Try.func62 rfl (by decide) Try.ntmps62 (by simp) ?pure fun H0 g hf=>?_
 case pure=>exact .tup _ (zac (zmF (fun x=>(zac (.v _) (zac (.sl _ _ (zau (fun x=>(zac (.v _) zaE)))) (zac (.sl _ _ (zau (fun x=>(zac (.v _) zaE)))) (zac (.sl _ _ (zau (fun x=>(zac (.v _) zaE)))) (zac (.sl _ _ (zau (fun x=>(zac (.v _) zaE)))) (zac (.sl _ _ (zau (fun x=>(zac (.v _) zaE)))) (zac (.v _) (zac (.v _) zaE))))))))) _) (zac (.sl _ _ (zau (fun x=>(zac (.sl _ _ (zau (fun x=>(zac (.v _) zaE)))) (zac (.sl _ _ (zau (fun x=>(zac (.v _) zaE)))) zaE))))) (zac (.v _) zaE)))
 rw [zaj]
 change wpA _ _ _ _ (Fr.of [(0,.agg (Box.cells a0))]) H0 g
 have hS:=St.start hf
 refine Sq ?_
 refine Rg 4 ?_
 refine zcZ (v:=.agg (Box.cells a0)) (cs:=(Box.cells a0)) hS (by decide) rfl rfl (by omega) fun H hS=>?_
 refine Oa (pA Box_.cells (none:Option Box_)) ?_
 refine Oa (.sl .nil 0 []) ?_
 refine Oa (.i 0) ?_
 refine Ni ?_
 refine zbO (L':=[]) 0 1 hS rfl rfl rfl fun H hS=>?_
 refine Ws ?_
 refine Sq ?_
 refine Rg 7 ?_
 refine Olg (.agg (Box.cells a0)) zbd ?_
 obtain ⟨r1,hr1,hM⟩:=zal hM
 refine zaD (bs:=[.agg (Box.cells a0)]) (by decide) rfl rfl ((zer hr1).le (.k .nil)) ?_
 refine Om (.tup [pA Box_.cells r1.1,.i r1.2]) ?_
 refine Ox (pA Box_.cells r1.1) ?_
 refine Ox (.i r1.2) ?_
 refine Oa (pA Box_.cells r1.1) ?_
 refine Oa (.i r1.2) ?_
 refine Ni ?_
 refine Ws ?_
 refine Sq ?_
 refine Sq ?_
 refine Rg 2 ?_
 refine Om (.i r1.2) ?_
 refine Oi (.b (r1.2 != 0)) ?_
 refine Ni ?_
 refine Ws ?_
 rcases bft (r1.2 != 0) with hb2 | hb2
 ·replace hM:=ifT hM hb2
  refine Ct hb2 ?_
  refine Sq ?_
  refine Rg 4 ?_
  refine Om (.i r1.2) ?_
  refine Oa (pA Box_.cells (none:Option Box_)) ?_
  refine Oa (.sl .nil 0 []) ?_
  refine Oa (.i r1.2) ?_
  refine Ni ?_
  refine Ws ?_
  refine zaT ?_
  refine zax ?_
  refine za5 (x:=.tup [pA Box_.cells (none:Option Box_),.sl .nil 0 [],.i r1.2]) (f:=fun r=>.tup [pA Box_.cells r.1,.sl .no 2 (r.2.1.map Gap_.cells),.i r.2.2]) (.inr rfl) ?_ (.tupL (.k (.cons (.sl0 .nil 2 0) (.k .nil)))) (Option.some.inj hM) hS
  exact (zgq (zae (x:=pA Box_.cells (none:Option Box_)) rfl) (zae (x:=.sl .nil 0 []) rfl) (zae (x:=.i r1.2) rfl))
 ·replace hM:=ifF hM hb2
  refine Cf hb2 ?_
  refine zaO ?_
  refine Ws ?_
  refine Sq ?_
  refine Rg 3 ?_
  refine Om (pA Box_.cells r1.1) ?_
  obtain ⟨r3,hr3,hM⟩:=zal hM
  refine zaD (bs:=[pA Box_.cells r1.1]) (by decide) rfl rfl ((zgz hr3).le (.k .nil)) ?_
  refine Oa (.sl .no 2 (r3.map Gap_.cells)) ?_
  refine Ni ?_
  refine Ws ?_
  refine Sq ?_
  refine Sq ?_
  refine Rg 3 ?_
  refine Om (.sl .no 2 (r3.map Gap_.cells)) ?_
  refine zb7 (n:=r3.length) (by decide) rfl (List.length_map _) zhE ?_
  refine Oi (.b ((r3.length:Int)==0)) ?_
  refine Ni ?_
  refine Ws ?_
  rcases bft ((r3.length:Int)==0) with hb4 | hb4
  ·replace hM:=ifT hM hb4
   refine Ct hb4 ?_
   refine Sq ?_
   refine Rg 3 ?_
   refine Oa (pA Box_.cells (none:Option Box_)) ?_
   refine Oa (.sl .nil 0 []) ?_
   refine Oa (.i 3) ?_
   refine Ni ?_
   refine Ws ?_
   refine zaT ?_
   refine zax ?_
   refine za5 (x:=.tup [pA Box_.cells (none:Option Box_),.sl .nil 0 [],.i 3]) (f:=fun r=>.tup [pA Box_.cells r.1,.sl .no 2 (r.2.1.map Gap_.cells),.i r.2.2]) (.inr rfl) ?_ (.tupL (.k (.cons (.sl0 .nil 2 0) (.k .nil)))) (Option.some.inj hM) hS
   exact (zgq (zae (x:=pA Box_.cells (none:Option Box_)) rfl) (zae (x:=.sl .nil 0 []) rfl) (zae (x:=.i 3) rfl))
  ·replace hM:=ifF hM hb4
   refine Cf hb4 ?_
   refine zaO ?_
   refine Ws ?_
   refine Sq ?_
   refine Rg 5 ?_
   refine Om (pA Box_.cells r1.1) ?_
   refine Om (.sl .no 2 (r3.map Gap_.cells)) ?_
   refine Oa (pA Box_.cells r1.1) ?_
   refine Oa (.sl .no 2 (r3.map Gap_.cells)) ?_
   refine Oa (.i 0) ?_
   refine Ni ?_
   refine zfj [(2,pA Box_.cells r1.1),(3,.sl .no 2 (r3.map Gap_.cells)),(4,.i 0)] (.k (.k (.k .nil))) ?_
   refine zaT ?_
   refine za5 (x:=.tup [pA Box_.cells r1.1,.sl .no 2 (r3.map Gap_.cells),.i 0]) (f:=fun r=>.tup [pA Box_.cells r.1,.sl .no 2 (r.2.1.map Gap_.cells),.i r.2.2]) (.inr rfl) ?_ (.refl _) (Option.some.inj hM) hS
   exact (zgq (zae (x:=pA Box_.cells r1.1) rfl) (zae (x:=.sl .no 2 (r3.map Gap_.cells)) rfl) (zae (x:=.i 0) rfl))
theorem zeh {n:Nat} {a0:Box} {r:Int×Int} (hM:zcp n a0=some r):zaL Try.prog 19 [.agg (Box.cells a0)] (.tup [.i r.1,.i r.2]):=by
 refine zao mixed Try.func19 rfl (by decide) Try.ntmps19 (by simp) ?pure fun H0 g hf=>?_
 case pure=>exact .tup _ (zac (.v _) (zac (.v _) zaE))
 rw [zaj]
 change wpA _ _ _ _ (Fr.of [(0,.agg (Box.cells a0))]) H0 g
 have hS:=St.start hf
 refine Sq ?_
 refine Rg 3 ?_
 refine zcZ (v:=.agg (Box.cells a0)) (cs:=(Box.cells a0)) hS (by decide) rfl rfl (by omega) fun H hS=>?_
 refine Oa (.i 0) ?_
 refine Oa (.i 0) ?_
 refine Ni ?_
 refine zbO (L':=[]) 0 1 hS rfl rfl rfl fun H hS=>?_
 refine Ws ?_
 refine Sq ?_
 refine Rg 9 ?_
 refine Olg (.agg (Box.cells a0)) zbd ?_
 obtain ⟨r1,hr1,hM⟩:=zal hM
 refine zaD (bs:=[.agg (Box.cells a0)]) (by decide) rfl rfl ((ziC hr1).le (.k .nil)) ?_
 refine Om (.tup [pA Box_.cells r1.1,.sl .no 2 (r1.2.1.map Gap_.cells),.i r1.2.2]) ?_
 refine Ox (pA Box_.cells r1.1) ?_
 refine Ox (.sl .no 2 (r1.2.1.map Gap_.cells)) ?_
 refine Ox (.i r1.2.2) ?_
 refine Oa (pA Box_.cells r1.1) ?_
 refine Oa (.sl .no 2 (r1.2.1.map Gap_.cells)) ?_
 refine Oa (.i r1.2.2) ?_
 refine Ni ?_
 refine Ws ?_
 refine Sq ?_
 refine Sq ?_
 refine Rg 2 ?_
 refine Om (.i r1.2.2) ?_
 refine Oi (.b (r1.2.2 != 0)) ?_
 refine Ni ?_
 refine Ws ?_
 rcases bft (r1.2.2 != 0) with hb2 | hb2
 ·replace hM:=ifT hM hb2
  refine Ct hb2 ?_
  refine Sq ?_
  refine Rg 3 ?_
  refine Om (.i r1.2.2) ?_
  refine Oa (.i 0) ?_
  refine Oa (.i r1.2.2) ?_
  refine Ni ?_
  refine Ws ?_
  refine zaT ?_
  refine zax ?_
  refine za5 (x:=.tup [.i 0,.i r1.2.2]) (f:=fun r=>.tup [.i r.1,.i r.2]) (.inr rfl) ?_ (.refl _) (Option.some.inj hM) hS
  exact (zdE (zae (x:=.i 0) rfl) (zae (x:=.i r1.2.2) rfl))
 ·replace hM:=ifF hM hb2
  refine Cf hb2 ?_
  refine zaO ?_
  refine Ws ?_
  refine Sq ?_
  refine Rg 8 ?_
  refine Om (pA Box_.cells r1.1) ?_
  refine Om (.sl .no 2 (r1.2.1.map Gap_.cells)) ?_
  obtain ⟨x3,hx3,hM⟩:=zal hM
  refine zbb (xs:=r1.2.1) (f:=Gap_.cells) (z:=0) (u:=x3) (by decide) rfl rfl zf1 hx3 ?_
  refine Of ((Gap_.cells x3)) zjv ?_
  refine Olp (.sl .no 1 (x3.purse.map cI)) zar zaH ?_
  obtain ⟨r4,hr4,hM⟩:=zal hM
  refine zaD (bs:=[pA Box_.cells r1.1,.sl .no 1 (x3.purse.map cI)]) (by decide) rfl rfl ((za8 hr4).le (.k (.k .nil))) ?_
  refine Oa (.i r4) ?_
  refine Oa (.i 0) ?_
  refine Ni ?_
  refine Ws ?_
  refine zaT ?_
  refine za5 (x:=.tup [.i r4,.i 0]) (f:=fun r=>.tup [.i r.1,.i r.2]) (.inr rfl) ?_ (.refl _) (Option.some.inj hM) hS
  exact (zdE (zae (x:=.i r4) rfl) (zae (x:=.i 0) rfl))
end Go.Proofs.Ytenogpmlhpcibaa
