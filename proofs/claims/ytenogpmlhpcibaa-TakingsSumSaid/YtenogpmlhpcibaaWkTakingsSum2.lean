/-
  The code returns what the functions say (printed by gen.py).
  Conditions: none.
-/
import Derived.Test.YtenogpmlhpcibaaWkTakingsSum1
import Derived.Test.YtenogpmlhpcibaaSh
import Derived.Test.YtenogpmlhpcibaaKs
import Derived.Test.YtenogpmlhpcibaaEn
set_option linter.all false
namespace Go.Proofs.Ytenogpmlhpcibaa
open Go Go.AM Go.Law
set_option linter.unusedVariables false
set_option maxRecDepth 4000
set_option maxHeartbeats 4000000
theorem zkk {n:Nat} {a0:Wheel_} {a1:Stand} {a2:Int} {r:Stand} (hM:zfm n a0 a1 a2=some r):zaD Try.prog 89 [.agg (Wheel.cells a0.Wheel),.agg (Stand.cells a1),.i a2] (.agg [.i r.Place,.i r.Credit]):=by
 refine zak mixed Try.func89 rfl (by decide) Try.ntmps89 (by simp) ?pure fun H0 g hf=>?_
 case pure=>exact .agg _ (zab (.v _) (zab (.v _) zaG))
 rw [zai]
 change wpA _ _ _ _ (Fr.of [(0,.agg (Wheel.cells a0.Wheel)),(1,.agg (Stand.cells a1)),(2,.i a2)]) H0 g
 have hS:=St.start hf
 refine Sq ?_
 refine Rg 3 ?_
 refine zcI (v:=.agg (Wheel.cells a0.Wheel)) (cs:=(Wheel.cells a0.Wheel)) hS (by decide) rfl rfl (by omega) fun H hS=>?_
 refine zcI (v:=.agg (Stand.cells a1)) (cs:=(Stand.cells a1)) hS (by decide) rfl rfl (by omega) fun H hS=>?_
 refine zbP hS (by decide) zcB (by omega) fun H hS=>?_
 refine Ni ?_
 refine zbd (L':=[(g+2,.cells [.i 0,.i 0]),(g+1,.cells (Stand.cells a1))]) 2 3 hS rfl rfl rfl fun H hS=>?_
 refine zbd (L':=[(g+2,.cells [.i 0,.i 0])]) 1 4 hS rfl rfl rfl fun H hS=>?_
 refine Ws ?_
 refine Sq ?_
 refine zao ?_
 refine Sq ?_
 refine Rg 3 ?_
 refine Om (.i a2) ?_
 refine Oi (.b (a2 != (-1))) ?_
 refine Oa (.b (a2 != (-1))) ?_
 refine Ni ?_
 refine Ws ?_
 rcases bft (a2 != (-1)) with hb1 | hb1
 ·replace hM:=ifT hM hb1
  refine Ct hb1 ?_
  refine Sq ?_
  have hS0:=hS
  refine zcg (n:=15) rfl (by kernel_rfl) ?_
  refine Olg (.agg (Wheel.cells a0.Wheel)) zgn ?_
  refine Of ((Stand.cells a1)) zds ?_
  refine Olp (.i a1.Place) zah zas ?_
  refine Of ((Wheel.cells a0.Wheel)) zeE ?_
  refine Of ((Wheel.cells a0.Wheel)) zcC ?_
  refine Olp (.sl .no 1 (a0.Wheel.Coins.map cI)) zaq zaE ?_
  refine Om (.i a2) ?_
  obtain ⟨x2,hx2,hM⟩:=zaf hM
  refine zaL (xs:=a0.Wheel.Coins) (f:=cI) (z:=a2) (u:=x2) (by decide) rfl rfl zaw hx2 ?_
  refine Olp (.i x2) zah zas ?_
  obtain ⟨r3,hr3,hM⟩:=zaf hM
  refine zau (bs:=[.agg (Wheel.cells a0.Wheel),.i a1.Place,.i x2]) (by decide) rfl rfl ((zjS hr3).le (.k (.k (.k .nil)))) ?_
  refine Om (.tup [.i r3.1,.i r3.2]) ?_
  refine Ox (.i r3.1) ?_
  refine Ox (.i r3.2) ?_
  refine Oa (.i r3.1) ?_
  refine Oa (.i r3.2) ?_
  refine Ni ?_
  refine Ws ?_
  refine Sq ?_
  refine Rg 7 ?_
  refine Om (.i r3.1) ?_
  refine Of ((Stand.cells a1)) zb1 ?_
  refine Olp (.i a1.Credit) zah zas ?_
  refine Om (.i r3.2) ?_
  refine Oi (.i (w64 (a1.Credit+r3.2))) ?_
  refine zbQ (cs:=[.i r3.1,.i (w64 (a1.Credit+r3.2))]) (by decide) zcB zhT rfl ?_
  refine za2 (v:=.agg [.i r3.1,.i (w64 (a1.Credit+r3.2))]) (ns:=[.i r3.1,.i (w64 (a1.Credit+r3.2))]) (L':=[(g+2,.cells [.i r3.1,.i (w64 (a1.Credit+r3.2))])]) 0 hS rfl rfl .no rfl rfl zeD nlb rfl fun H hS=>?_
  refine Ni ?_
  refine Ws ?_
  refine zaQ ?_
  refine zaZ ?_
  refine zap ?_
  refine zaY (x:=.agg [.i r3.1,.i (w64 (a1.Credit+r3.2))]) (f:=fun r=>.agg [.i r.Place,.i r.Credit]) (.inr rfl) ?_ (.refl _) (Option.some.inj hM) hS
  exact (zaA (zde (x:=.agg [.i r3.1,.i (w64 (a1.Credit+r3.2))]) 0 hS rfl rfl (pg zdm)))
 ·replace hM:=ifF hM hb1
  refine Cf hb1 ?_
  refine Sq ?_
  refine Rg 4 ?_
  refine Of ((Stand.cells a1)) zb1 ?_
  refine Olp (.i a1.Credit) zah zas ?_
  refine Oi (.b (decide (a1.Credit>0))) ?_
  refine Oa (.b (decide (a1.Credit>0))) ?_
  refine Ni ?_
  refine Ws ?_
  rcases bft (decide (a1.Credit>0)) with hb4 | hb4
  ·replace hM:=ifT hM hb4
   refine Ct hb4 ?_
   refine Sq ?_
   refine Rg 5 ?_
   refine Of ((Stand.cells a1)) zb1 ?_
   refine Olp (.i a1.Credit) zah zas ?_
   refine Oi (.i (w64 (a1.Credit-1))) ?_
   refine zbQ (cs:=[.i 0,.i (w64 (a1.Credit-1))]) (by decide) zcB zhT rfl ?_
   refine za2 (v:=.agg [.i 0,.i (w64 (a1.Credit-1))]) (ns:=[.i 0,.i (w64 (a1.Credit-1))]) (L':=[(g+2,.cells [.i 0,.i (w64 (a1.Credit-1))])]) 0 hS rfl rfl .no rfl rfl zeD nlb rfl fun H hS=>?_
   refine Ni ?_
   refine Ws ?_
   refine zaQ ?_
   refine zaZ ?_
   refine zap ?_
   refine zaY (x:=.agg [.i 0,.i (w64 (a1.Credit-1))]) (f:=fun r=>.agg [.i r.Place,.i r.Credit]) (.inr rfl) ?_ (.refl _) (Option.some.inj hM) hS
   exact (zaA (zde (x:=.agg [.i 0,.i (w64 (a1.Credit-1))]) 0 hS rfl rfl (pg zdm)))
  ·replace hM:=ifF hM hb4
   refine Cf hb4 ?_
   refine zax ?_
   refine zag ?_
   refine Ws ?_
   refine Sq ?_
   refine Rg 2 ?_
   refine Olg (.agg (Stand.cells a1)) zdm ?_
   refine za2 (v:=.agg (Stand.cells a1)) (ns:=(Stand.cells a1)) (L':=[(g+2,.cells (Stand.cells a1))]) 0 hS rfl rfl .no rfl rfl zeD nlb rfl fun H hS=>?_
   refine Ni ?_
   refine zeJ [(6,.ptr (g+2) 0)] (.k .nil) ?_
   refine zaQ ?_
   refine zaY (x:=.agg (Stand.cells a1)) (f:=fun r=>.agg [.i r.Place,.i r.Credit]) (.inr rfl) ?_ (.refl _) (Option.some.inj hM) hS
   exact (zaA (zde (x:=.agg (Stand.cells a1)) 0 hS rfl rfl (pg zdm)))
theorem ziq {a0:Wheel_} {a1:Int} {r:Bool} (hM:zdD a0 a1=some r):zaD Try.prog 158 [.agg (Wheel.cells a0.Wheel),.i a1] (.b r):=by
 refine zak mixed Try.func158 rfl (by decide) Try.ntmps158 (by simp) ?pure fun H0 g hf=>?_
 case pure=>exact .v _
 rw [zai]
 change wpA _ _ _ _ (Fr.of [(0,.agg (Wheel.cells a0.Wheel)),(1,.i a1)]) H0 g
 have hS:=St.start hf
 refine Sq ?_
 refine Rg 2 ?_
 refine zcI (v:=.agg (Wheel.cells a0.Wheel)) (cs:=(Wheel.cells a0.Wheel)) hS (by decide) rfl rfl (by omega) fun H hS=>?_
 refine Oa (.b false) ?_
 refine Ni ?_
 refine zbd (L':=[]) 0 2 hS rfl rfl rfl fun H hS=>?_
 refine Ws ?_
 refine Sq ?_
 refine Rg 7 ?_
 refine Om (.i a1) ?_
 refine Of ((Wheel.cells a0.Wheel)) zeE ?_
 refine Of ((Wheel.cells a0.Wheel)) zc1 ?_
 refine Olp (.i a0.Wheel.Round) zah zas ?_
 refine Oi (.i (w64 (a0.Wheel.Round-1))) ?_
 obtain ⟨r1,hr1,hM⟩:=zaf hM
 refine zau (bs:=[.i a1,.i 0,.i (w64 (a0.Wheel.Round-1))]) (by decide) rfl rfl ((zeP hr1).le (.k (.k (.k .nil)))) ?_
 refine Oa (.b r1) ?_
 refine Ni ?_
 refine Ws ?_
 refine zaQ ?_
 refine zaY (x:=.b r1) (f:=fun r=>.b r) (.inr rfl) ?_ (.refl _) (Option.some.inj hM) hS
 exact (zaA (zae (x:=.b r1) rfl))
theorem zjT {S:Type} {Lo:S->BL} (hk:∀s s',zmj (Lo s) (Lo s')) (hnd:∀s,(ids (Lo s)).Nodup) (hin:∀s,InB In (Lo s)) {aF:Int->S->Option (Bool×S)} {f0:AV} (hF:∀s H,Has H (Lo s)->In H f0) (h0:cellsOf f0=some [f0]) (hf:∀{x0:Int} {s:S} {r:Bool×S},aF x0 s=some r->zrL Try.prog f0 [.i x0] (Lo s) (.b r.1) (Lo r.2)) {a0:Int} {st:S} {r:Bool×S} (hM:zcv aF a0 st=some r):zk2 Try.prog 175 [.i a0,.ep [f0]] (Lo st) (.b r.1) (Lo r.2):=by
 have hnd0:∀s,(ids (Lo s)).Nodup:=fun s=>hnd s
 refine zfL mixed Try.func175 rfl (by decide) Try.ntmps175 (by simp) (hk _ _) (hnd st) ?pure ?cells fun H0 g hf_ hp=>?_
 case pure=>exact fun H _=>(show Go.AM.Pure _ from .v _).inH
 case cells=>exact hin _
 rw [zai]
 change wpA _ _ _ _ (Fr.of [(0,.i a0),(1,.ep [f0])]) H0 g
 have hS:=St.startH (L:=([]++Lo st)) hf_ (hnd st) hp
 replace hS:St (fun i=>i<g/\i∉ids (Lo st)) H0 ([]++Lo st) H0 g:=hS
 refine Sq ?_
 refine Rg 1 ?_
 refine Oa (.b false) ?_
 refine Ni ?_
 refine Ws ?_
 refine Sq ?_
 refine Rg 5 ?_
 refine Olp (f0) zsO zuc ?_
 refine Om (.i a0) ?_
 obtain ⟨r1,hr1,hM⟩:=zaf hM
 replace hS:St (fun i=>i<g/\i∉ids (Lo st)) H0 ([]++Lo st) _ _:=hS
 refine zpi (bs:=[.i a0]) (.inl rfl) hS (by decide) rfl rfl ((hf hr1).le (.k .nil)) (hk _ _).ids (by omega) fun H hS=>?_
 refine zfF (e:=r1.1) (by decide) rfl ?_
 refine Oa (.b (!r1.1)) ?_
 refine Ni ?_
 refine Ws ?_
 refine zaQ ?_
 refine zhZ (x:=.b (!r1.1)) (f:=fun r=>.b r.1) (fd:=fun r=>(Lo r.2)) (.inr rfl) ?_ (.refl _) (Option.some.inj hM) hS 0 rfl
 exact (zaA (zae (x:=.b (!r1.1)) rfl))
theorem zlI {S:Type} {Lo:S->BL} (hk:∀s s',zmj (Lo s) (Lo s')) (hnd:∀s,(ids (Lo s)).Nodup) (hin:∀s,InB In (Lo s)) {aF:Int->S->Option (Bool×S)} {f0:AV} (hF:∀s H,Has H (Lo s)->In H f0) (h0:cellsOf f0=some [f0]) (hf:∀{x0:Int} {s:S} {r:Bool×S},aF x0 s=some r->zrL Try.prog f0 [.i x0] (Lo s) (.b r.1) (Lo r.2)) {n:Nat} {a0:List Int} {st:S} {r:Bool×S} (hM:zgC n aF a0 st=some r):zk2 Try.prog 159 [.sl .no 1 (a0.map cI),f0] (Lo st) (.b r.1) (Lo r.2):=by
 have hnd0:∀s,(ids (Lo s)).Nodup:=fun s=>hnd s
 refine zfL mixed Try.func159 rfl (by decide) Try.ntmps159 (by simp) (hk _ _) (hnd st) ?pure ?cells fun H0 g hf_ hp=>?_
 case pure=>exact fun H _=>(show Go.AM.Pure _ from .v _).inH
 case cells=>exact hin _
 rw [zai]
 change wpA _ _ _ _ (Fr.of [(0,.sl .no 1 (a0.map cI)),(1,f0)]) H0 g
 have hS:=St.startH (L:=([]++Lo st)) hf_ (hnd st) hp
 replace hS:St (fun i=>i<g/\i∉ids (Lo st)) H0 ([]++Lo st) H0 g:=hS
 refine Sq ?_
 refine Rg 2 ?_
 refine zcI (v:=f0) (cs:=[f0]) hS (by decide) rfl h0 (by omega) fun H hS=>?_
 refine Oa (.b false) ?_
 refine Ni ?_
 refine zbd (L':=([]++Lo st)) 0 3 hS rfl rfl rfl fun H hS=>?_
 refine Ws ?_
 refine zaW (J:=Bool×S) (fun j=>[(4,.b j.1)]) (fun j H' g'=>St (fun i=>i<g/\i∉ids (Lo st)) H0 ([]++Lo j.2) H' g'/\zdN j.1 j.2=some r) ?_ ?_
 ·rintro ⟨v1,v2⟩ H g1 ⟨hS,hM⟩
  change wpA _ _ _ _ (Fr.of [(4,.b v1)]) _ _
  replace hS:St (fun i=>i<g/\i∉ids (Lo st)) H0 ([]++Lo v2) H g1:=hS
  replace hM:zdN v1 v2=some r:=hM
  refine zaQ ?_
  refine zhZ (x:=.b v1) (f:=fun r=>.b r.1) (fd:=fun r=>(Lo r.2)) (.inr rfl) ?_ (.refl _) (Option.some.inj hM) hS 0 rfl
  exact (zaA (zae (x:=.b v1) rfl))
 ·refine Rg 10 ?_
  refine Om (.sl .no 1 (a0.map cI)) ?_
  refine zbi (n:=a0.length) (by decide) rfl (List.length_map _) zaM ?_
  refine Oi (.b (decide ((a0.length:Int)<=20))) ?_
  refine Om (.b (decide ((a0.length:Int)<=20))) ?_
  rcases bft (decide ((a0.length:Int)<=20)) with hb3 | hb3
  ·replace hM:=ifT hM hb3
   refine Oy (want:=true) hb3 ?_
   refine Om (.sl .no 1 (a0.map cI)) ?_
   refine Oy (want:=true) hb3 ?_
   refine zhq (first:=[]) (cap:=[.ep [f0]]) (by decide) rfl rfl ?_
   refine Oy (want:=true) hb3 ?_
   obtain ⟨r4,hr4,hM⟩:=zaf hM
   replace hS:St (fun i=>i<g/\i∉ids (Lo st)) H0 ([]++Lo st) _ _:=hS
   refine zpX (bs:=[.sl .no 1 (a0.map cI),.fn (.func 175) [] [.ep [f0]]]) (.inl rfl) hS (by decide) rfl rfl ((zeQ (Lo:=Lo)  hk hnd0 hin (aF:=(zcv aF)) (fun s H hH=>(.fn _ _ _ ziY (zkf (.ep _ (zkf (hF _ H hH) ziY)) ziY))) rfl (fun h=>zsA (zjT (Lo:=Lo)  hk hnd0 hin hF h0 hf h)) hr4).le (.k (.k .nil))) (hk _ _).ids (by omega) fun H hS=>?_
   refine Oy (want:=true) hb3 ?_
   refine zfF (e:=r4.1) (by decide) rfl ?_
   refine Pt (.b (!r4.1)) hb3 ?_
   refine Oa (.b (!r4.1)) ?_
   refine Ni ?_
   exact zam ((!r4.1),r4.2) (.k .nil) ⟨(hS.keep [] rfl).up (by omega),hM⟩
  ·replace hM:=ifF hM hb3
   refine On (want:=true) hb3 ?_
   refine On (want:=true) hb3 ?_
   refine On (want:=true) hb3 ?_
   refine On (want:=true) hb3 ?_
   refine Pf (.b false) hb3 ?_
   refine Oa (.b false) ?_
   refine Ni ?_
   exact zam (false,st) (.k .nil) ⟨(hS.keep [] rfl).up (by omega),hM⟩
theorem ziT {a0:Wheel_} {a1:Int} {r:Bool} (hM:zd2 a0 a1=some r):zaD Try.prog 176 [.agg (Wheel.cells a0.Wheel),.i a1] (.b r):=by
 refine zak mixed Try.func176 rfl (by decide) Try.ntmps176 (by simp) ?pure fun H0 g hf=>?_
 case pure=>exact .v _
 rw [zai]
 change wpA _ _ _ _ (Fr.of [(0,.agg (Wheel.cells a0.Wheel)),(1,.i a1)]) H0 g
 have hS:=St.start hf
 refine Sq ?_
 refine Rg 2 ?_
 refine zcI (v:=.agg (Wheel.cells a0.Wheel)) (cs:=(Wheel.cells a0.Wheel)) hS (by decide) rfl rfl (by omega) fun H hS=>?_
 refine Oa (.b false) ?_
 refine Ni ?_
 refine zbd (L':=[]) 0 2 hS rfl rfl rfl fun H hS=>?_
 refine Ws ?_
 refine Sq ?_
 refine Rg 8 ?_
 refine Om (.i a1) ?_
 refine Of ((Wheel.cells a0.Wheel)) zeE ?_
 refine Of ((Wheel.cells a0.Wheel)) zcC ?_
 refine Olp (.sl .no 1 (a0.Wheel.Coins.map cI)) zaq zaE ?_
 refine zbi (n:=a0.Wheel.Coins.length) (by decide) rfl (List.length_map _) zaM ?_
 refine Oi (.i (w64 ((a0.Wheel.Coins.length:Int)-1))) ?_
 obtain ⟨r1,hr1,hM⟩:=zaf hM
 refine zau (bs:=[.i a1,.i 0,.i (w64 ((a0.Wheel.Coins.length:Int)-1))]) (by decide) rfl rfl ((zeP hr1).le (.k (.k (.k .nil)))) ?_
 refine Oa (.b r1) ?_
 refine Ni ?_
 refine zeJ [(4,.b r1)] (.k .nil) ?_
 refine zaQ ?_
 refine zaY (x:=.b r1) (f:=fun r=>.b r) (.inr rfl) ?_ (.refl _) (Option.some.inj hM) hS
 exact (zaA (zae (x:=.b r1) rfl))
theorem zjg {a0:Wheel_} {a1:Int} {r:Bool} (hM:zcH a0 a1=some r):zaD Try.prog 160 [.agg (Wheel.cells a0.Wheel),.i a1] (.b r):=by
 refine zak mixed Try.func160 rfl (by decide) Try.ntmps160 (by simp) ?pure fun H0 g hf=>?_
 case pure=>exact .v _
 rw [zai]
 change wpA _ _ _ _ (Fr.of [(0,.agg (Wheel.cells a0.Wheel)),(1,.i a1)]) H0 g
 have hS:=St.start hf
 refine Sq ?_
 refine Rg 2 ?_
 refine zcI (v:=.agg (Wheel.cells a0.Wheel)) (cs:=(Wheel.cells a0.Wheel)) hS (by decide) rfl rfl (by omega) fun H hS=>?_
 refine Oa (.b false) ?_
 refine Ni ?_
 refine zbd (L':=[]) 0 2 hS rfl rfl rfl fun H hS=>?_
 refine Ws ?_
 refine zaW (J:=Bool) (fun j=>[(4,.b j)]) (fun j H' g'=>St (·<g) H0 [] H' g'/\zcA j=some r) ?_ ?_
 ·rintro v1 H g1 ⟨hS,hM⟩
  change wpA _ _ _ _ (Fr.of [(4,.b v1)]) _ _
  replace hS:St (·<g) H0 [] H g1:=hS
  replace hM:zcA v1=some r:=hM
  refine zaQ ?_
  refine zaY (x:=.b v1) (f:=fun r=>.b r) (.inr rfl) ?_ (.refl _) (Option.some.inj hM) hS
  exact (zaA (zae (x:=.b v1) rfl))
 ·refine Rg 8 ?_
  refine Om (.i a1) ?_
  refine Oi (.b (a1==(-1))) ?_
  refine Om (.b (a1==(-1))) ?_
  rcases bft (a1==(-1)) with hb2 | hb2
  ·replace hM:=ifT hM hb2
   refine On (want:=false) hb2 ?_
   refine On (want:=false) hb2 ?_
   refine On (want:=false) hb2 ?_
   refine Pt (.b true) hb2 ?_
   refine Oa (.b true) ?_
   refine Ni ?_
   exact zam true (.k .nil) ⟨(hS.keep [] rfl).up (by omega),hM⟩
  ·replace hM:=ifF hM hb2
   refine Oy (want:=false) hb2 ?_
   refine Olg (.agg (Wheel.cells a0.Wheel)) zgn ?_
   refine Oy (want:=false) hb2 ?_
   refine Om (.i a1) ?_
   refine Oy (want:=false) hb2 ?_
   obtain ⟨r3,hr3,hM⟩:=zaf hM
   refine zau (bs:=[.agg (Wheel.cells a0.Wheel),.i a1]) (by decide) rfl rfl ((ziT hr3).le (.k (.k .nil))) ?_
   refine Pf (.b r3) hb2 ?_
   refine Oa (.b r3) ?_
   refine Ni ?_
   exact zam r3 (.k .nil) ⟨(hS.keep [] rfl).up (by omega),hM⟩
theorem zmo {p1:Nat} (hnd:[p1].Nodup) {n:Nat} {a0:Wheel_} {a1:Stand} {a2:List Int} {r:Bool} (hM:zgg n a0 a1 a2=some r):zk2 Try.prog 157 [.agg (Wheel.cells a0.Wheel),.ptr p1 0,.ep [.sl .no 1 (a2.map cI)]] [(p1,.cells (Stand.cells a1))] (.b r) [(p1,.cells (Stand.cells a1))]:=by
 refine zfL mixed Try.func157 rfl (by decide) Try.ntmps157 (by simp) (zpZ zoa) hnd ?pure ?cells fun H0 g hf_ hp=>?_
 case pure=>exact fun H _=>(show Go.AM.Pure _ from .v _).inH
 case cells=>exact (zsp (zpW (zm9 (.inl (.inl (.v _))) (zm9 (.inl (.inl (.v _))) zuT)) zso) zlo)
 rw [zai]
 change wpA _ _ _ _ (Fr.of [(0,.agg (Wheel.cells a0.Wheel)),(1,.ptr p1 0),(2,.ep [.sl .no 1 (a2.map cI)])]) H0 g
 have hS:=St.startH (L:=[(p1,.cells (Stand.cells a1))]) hf_ hnd hp
 replace hS:St (fun i=>i<g/\i∉ids [(p1,.cells (Stand.cells a1))]) H0 [(p1,.cells (Stand.cells a1))] H0 g:=hS
 refine Sq ?_
 refine Rg 2 ?_
 refine zcI (v:=.agg (Wheel.cells a0.Wheel)) (cs:=(Wheel.cells a0.Wheel)) hS (by decide) rfl rfl (by omega) fun H hS=>?_
 refine Oa (.b false) ?_
 refine Ni ?_
 refine zbd (L':=[(p1,.cells (Stand.cells a1))]) 0 3 hS rfl rfl rfl fun H hS=>?_
 refine Ws ?_
 refine zaW (J:=Bool) (fun j=>[(4,.b j)]) (fun j H' g'=>St (fun i=>i<g/\i∉ids [(p1,.cells (Stand.cells a1))]) H0 [(p1,.cells (Stand.cells a1))] H' g'/\zdp j=some r) ?_ ?_
 ·rintro v1 H g1 ⟨hS,hM⟩
  change wpA _ _ _ _ (Fr.of [(4,.b v1)]) _ _
  replace hS:St (fun i=>i<g/\i∉ids [(p1,.cells (Stand.cells a1))]) H0 [(p1,.cells (Stand.cells a1))] H g1:=hS
  replace hM:zdp v1=some r:=hM
  refine zaQ ?_
  refine zhZ (x:=.b v1) (f:=fun r=>.b r) (fd:=fun r=>[(p1,.cells (Stand.cells a1))]) (.inr rfl) ?_ (.refl _) (Option.some.inj hM) hS 0 rfl
  exact (zaA (zae (x:=.b v1) rfl))
 ·refine Rg 16 ?_
  refine Olg (.agg (Wheel.cells a0.Wheel)) zgn ?_
  refine zaR (by decide) zds rfl ?_
  refine za4 (v:=.i a1.Place) 0 hS (by decide) rfl rfl .no (po zah zas) ?_
  obtain ⟨r2,hr2,hM⟩:=zaf hM
  refine zau (bs:=[.agg (Wheel.cells a0.Wheel),.i a1.Place]) (by decide) rfl rfl ((ziq hr2).le (.k (.k .nil))) ?_
  refine Om (.b r2) ?_
  rcases bft r2 with hb3 | hb3
  ·replace hM:=ifT hM hb3
   refine Oy (want:=true) hb3 ?_
   refine zaR (by decide) zb1 rfl ?_
   refine Oy (want:=true) hb3 ?_
   refine za4 (v:=.i a1.Credit) 0 hS (by decide) rfl rfl .no (po zah zas) ?_
   refine Oy (want:=true) hb3 ?_
   obtain ⟨r4,hr4,hM⟩:=zaf hM
   refine zau (bs:=[.i a1.Credit,.i 0,.i 20]) (by decide) rfl rfl ((zeP hr4).le (.k (.k (.k .nil)))) ?_
   refine Pt (.b r4) hb3 ?_
   refine Om (.b r4) ?_
   rcases bft r4 with hb5 | hb5
   ·replace hM:=ifT hM hb5
    refine Oy (want:=true) hb5 ?_
    refine Olp (.sl .no 1 (a2.map cI)) zaq zaE ?_
    refine Oy (want:=true) hb5 ?_
    refine Olg (.agg (Wheel.cells a0.Wheel)) zgn ?_
    refine Oy (want:=true) hb5 ?_
    refine zhq (first:=[.agg (Wheel.cells a0.Wheel)]) (cap:=[]) (by decide) rfl rfl ?_
    refine Oy (want:=true) hb5 ?_
    obtain ⟨r6,hr6,hM⟩:=zaf hM
    refine zau (bs:=[.sl .no 1 (a2.map cI),.fn (.func 160) [.agg (Wheel.cells a0.Wheel)] []]) (by decide) rfl rfl (zkz ((zlI (Lo:=(fun (_:Unit)=>[]))  (fun _ _=>zoa) (fun _=>List.nodup_nil) (fun _=>zlo) (aF:=(fun (x0:Int) (_:Unit)=>(zcH a0 x0).map fun y=>(y,()))) (fun _ H hH=>(.fn _ _ _ (zkf (show Go.AM.Pure _ from .agg _ (zab (.v _) (zab (.sl _ _ (zaC (fun x=>(zab (.v _) zaG)))) (zab (.sl _ _ (zaC (fun x=>(zab (.v _) zaG)))) zaG)))).inH ziY) ziY)) rfl (fun h=>zp2 (zjg (zlt h))) hr6).le (.k (.k .nil)))) ?_
    refine Pt (.b r6.1) hb5 ?_
    refine Oa (.b r6.1) ?_
    refine Ni ?_
    exact zam r6.1 (.k .nil) ⟨(hS.keep [true] rfl).up (by omega),hM⟩
   ·replace hM:=ifF hM hb5
    refine On (want:=true) hb5 ?_
    refine On (want:=true) hb5 ?_
    refine On (want:=true) hb5 ?_
    refine On (want:=true) hb5 ?_
    refine Pf (.b false) hb5 ?_
    refine Oa (.b false) ?_
    refine Ni ?_
    exact zam false (.k .nil) ⟨(hS.keep [true] rfl).up (by omega),hM⟩
  ·replace hM:=ifF hM hb3
   refine On (want:=true) hb3 ?_
   refine On (want:=true) hb3 ?_
   refine On (want:=true) hb3 ?_
   refine Pf (.b false) hb3 ?_
   refine Om (.b false) ?_
   refine Og ?_
   refine Og ?_
   refine Og ?_
   refine Og ?_
   refine zaT (v:=.b false) (e:=false) (by decide) rfl rfl rfl ?_
   refine Oa (.b false) ?_
   refine Ni ?_
   exact zam false (.k .nil) ⟨(hS.keep [true] rfl).up (by omega),hM⟩
theorem zlJ {n:Nat} {a0:Wheel} {a1:Stand} {a2:List Int} {r:Stand×Int×Int} (hM:zfn n a0 a1 a2=some r):zaD Try.prog 131 [.agg (Wheel.cells a0),.agg (Stand.cells a1),.sl .no 1 (a2.map cI)] (.tup [.agg [.i r.1.Place,.i r.1.Credit],.i r.2.1,.i r.2.2]):=by
 refine zak mixed Try.func131 rfl (by decide) Try.ntmps131 (by simp) ?pure fun H0 g hf=>?_
 case pure=>exact .tup _ (zab (.agg _ (zab (.v _) (zab (.v _) zaG))) (zab (.v _) (zab (.v _) zaG)))
 rw [zai]
 change wpA _ _ _ _ (Fr.of [(0,.agg (Wheel.cells a0)),(1,.agg (Stand.cells a1)),(2,.sl .no 1 (a2.map cI))]) H0 g
 have hS:=St.start hf
 refine Sq ?_
 refine Rg 6 ?_
 refine zcI (v:=.agg (Wheel.cells a0)) (cs:=(Wheel.cells a0)) hS (by decide) rfl rfl (by omega) fun H hS=>?_
 refine zcI (v:=.agg (Stand.cells a1)) (cs:=(Stand.cells a1)) hS (by decide) rfl rfl (by omega) fun H hS=>?_
 refine zcI (v:=.sl .no 1 (a2.map cI)) (cs:=[.sl .no 1 (a2.map cI)]) hS (by decide) rfl rfl (by omega) fun H hS=>?_
 refine zbP hS (by decide) zcB (by omega) fun H hS=>?_
 refine Oa (.i 0) ?_
 refine Oa (.i 0) ?_
 refine Ni ?_
 refine zbd (L':=[(g+3,.cells [.i 0,.i 0]),(g+2,.cells [.sl .no 1 (a2.map cI)]),(g+1,.cells (Stand.cells a1))]) 3 3 hS rfl rfl rfl fun H hS=>?_
 refine zbd (L':=[(g+3,.cells [.i 0,.i 0]),(g+1,.cells (Stand.cells a1))]) 1 5 hS rfl rfl rfl fun H hS=>?_
 refine Ws ?_
 refine Sq ?_
 refine Rg 9 ?_
 refine Olg (.agg (Wheel.cells a0)) zbw ?_
 refine zhq (first:=[]) (cap:=[.ptr (g+1) 0,.ep [.sl .no 1 (a2.map cI)]]) (by decide) rfl rfl ?_
 obtain ⟨r1,hr1,hM⟩:=zaf hM
 have hndr1:=hS.nd_at (ns:=[1]) (M:=[(g+1,.cells (Stand.cells a1))]) (M':=[(g+1,.cells (Stand.cells a1))]) (.cons rfl .nil) (by decide)
 have hncr1:=hS.nd_at (ns:=[1]) (M:=[(g+1,.cells (Stand.cells a1))]) (M':=[(g+1,.cells (Stand.cells a1))]) (.cons rfl .nil) (by decide)
 refine zsr (bs:=[.agg (Wheel.cells a0),.fn (.func 157) [] [.ptr (g+1) 0,.ep [.sl .no 1 (a2.map cI)]]]) (M:=[(g+1,.cells (Stand.cells a1))]) (M':=[(g+1,.cells (Stand.cells a1))]) (L':=[(g+3,.cells [.i 0,.i 0]),(g+1,.cells (Stand.cells a1))]) [1] (.inl rfl) hS (by decide) rfl rfl ((zom (Lo:=(fun (_:Unit)=>[(g+1,.cells (Stand.cells a1))]))  (fun _ _=>(zpZ zoa)) (fun _=>hndr1) (fun s=>(zsp (zpW (zm9 (.inl (.inl (.v _))) (zm9 (.inl (.inl (.v _))) zuT)) zso) zlo)) (aF:=(fun (x0:Wheel_) (_:Unit)=>(zgg n x0 a1 a2).map fun y=>(y,()))) (fun s H hH=>(.fn _ _ _ ziY (zkf (zwX hH 0 rfl) (zkf (.ep _ (zkf (show Go.AM.Pure _ from .sl _ _ (zaC (fun x=>(zab (.v _) zaG)))).inH ziY)) ziY)))) rfl (fun h=>zsA (zmo (p1:=g+1)  hncr1 (zlt h))) hr1).le (.k (.k .nil))) (.cons rfl .nil) rfl (by omega) fun H hS=>?_
 refine Om (.tup [.agg (Wheel.cells r1.1.1.Wheel),.i r1.1.2]) ?_
 refine Ox (.agg (Wheel.cells r1.1.1.Wheel)) ?_
 refine Ox (.i r1.1.2) ?_
 refine zbP hS (by decide) zgL (by omega) fun H hS=>?_
 refine za2 (v:=.agg (Wheel.cells r1.1.1.Wheel)) (ns:=(Wheel.cells r1.1.1.Wheel)) (L':=[(g+6+6,.cells (Wheel.cells r1.1.1.Wheel)),(g+3,.cells [.i 0,.i 0]),(g+1,.cells (Stand.cells a1))]) 0 hS rfl rfl .no rfl rfl zjF nlb rfl fun H hS=>?_
 refine Oa (.i r1.1.2) ?_
 refine Ni ?_
 refine zbd (L':=[(g+3,.cells [.i 0,.i 0]),(g+1,.cells (Stand.cells a1))]) 0 9 hS rfl rfl rfl fun H hS=>?_
 refine Ws ?_
 refine Sq ?_
 refine Sq ?_
 refine Rg 2 ?_
 refine Om (.i r1.1.2) ?_
 refine Oi (.b (r1.1.2 != 0)) ?_
 refine Ni ?_
 refine Ws ?_
 rcases bft (r1.1.2 != 0) with hb2 | hb2
 ·replace hM:=ifT hM hb2
  refine Ct hb2 ?_
  refine Sq ?_
  refine Rg 5 ?_
  refine zbQ (cs:=[.i 0,.i 0]) (by decide) zcB zhT rfl ?_
  refine Om (.i r1.1.2) ?_
  refine za2 (v:=.agg [.i 0,.i 0]) (ns:=[.i 0,.i 0]) (L':=[(g+3,.cells [.i 0,.i 0]),(g+1,.cells (Stand.cells a1))]) 0 hS rfl rfl .no rfl rfl zeD nlb rfl fun H hS=>?_
  refine Oa (.i 0) ?_
  refine Oa (.i r1.1.2) ?_
  refine Ni ?_
  replace hS:=hS.keep (L':=[(g+3,.cells [.i 0,.i 0])]) [true,false] rfl
  refine Ws ?_
  refine zaQ ?_
  refine zap ?_
  refine zaY (x:=.tup [.agg [.i 0,.i 0],.i 0,.i r1.1.2]) (f:=fun r=>.tup [.agg [.i r.1.Place,.i r.1.Credit],.i r.2.1,.i r.2.2]) (.inr rfl) ?_ (.refl _) (Option.some.inj hM) hS
  exact (zih (zde (x:=.agg [.i 0,.i 0]) 0 hS rfl rfl (pg zdm)) (zae (x:=.i 0) rfl) (zae (x:=.i r1.1.2) rfl))
 ·replace hM:=ifF hM hb2
  refine Cf hb2 ?_
  refine zax ?_
  refine Ws ?_
  refine zaW (J:=Int×Int×Int) (fun j=>[(4,.ptr (g+1) 0),(6,.ptr (g+3) 0),(7,.i j.1)]) (fun j H' g'=>St (·<g) H0 [(g+3,.cells [.i 0,.i 0]),(g+1,.cells [.i j.2.1,.i j.2.2])] H' g'/\zg7 j.1 j.2.1 j.2.2=some r) ?_ ?_
  ·rintro ⟨v3,v4,v5⟩ H g1 ⟨hS,hM⟩
   change wpA _ _ _ _ (Fr.of [(4,.ptr (g+1) 0),(6,.ptr (g+3) 0),(7,.i v3)]) _ _
   replace hS:St (·<g) H0 [(g+3,.cells [.i 0,.i 0]),(g+1,.cells [.i v4,.i v5])] H g1:=hS
   replace hM:zg7 v3 v4 v5=some r:=hM
   refine Sq ?_
   refine Rg 5 ?_
   refine za4 (v:=.agg [.i v4,.i v5]) 1 hS (by decide) rfl rfl .no (pg zdm) ?_
   refine Om (.i v3) ?_
   refine za2 (v:=.agg [.i v4,.i v5]) (ns:=[.i v4,.i v5]) (L':=[(g+3,.cells [.i v4,.i v5]),(g+1,.cells [.i v4,.i v5])]) 0 hS rfl rfl .no rfl rfl zeD nlb rfl fun H hS=>?_
   refine Oa (.i v3) ?_
   refine Oa (.i 0) ?_
   refine Ni ?_
   replace hS:=hS.keep (L':=[(g+3,.cells [.i v4,.i v5])]) [true,false] rfl
   refine Ws ?_
   refine zaQ ?_
   refine zaY (x:=.tup [.agg [.i v4,.i v5],.i v3,.i 0]) (f:=fun r=>.tup [.agg [.i r.1.Place,.i r.1.Credit],.i r.2.1,.i r.2.2]) (.inr rfl) ?_ (.refl _) (Option.some.inj hM) hS
   exact (zih (zde (x:=.agg [.i v4,.i v5]) 0 hS rfl rfl (pg zdm)) (zae (x:=.i v3) rfl) (zae (x:=.i 0) rfl))
  ·refine Sq ?_
   refine Rg 3 ?_
   refine Olp (.sl .no 1 (a2.map cI)) zaq zaE ?_
   refine zbi (n:=a2.length) (by decide) rfl (List.length_map _) zaM ?_
   refine Om (.i 0) ?_
   refine Ni ?_
   refine Ws ?_
   refine zao ?_
   refine zbj (V:=Int×Int×Int×Int) (fun v=>[(4,.ptr (g+1) 0),(6,.ptr (g+3) 0),(7,.i v.1),(9,.ep (Wheel.cells r1.1.1.Wheel)),(22,.sl .no 1 (a2.map cI)),(23,.i (a2.length:Int)),(24,.i v.2.1)]) (fun v m3 H' g'=>St (·<g) H0 [(g+3,.cells [.i 0,.i 0]),(g+1,.cells [.i v.2.2.1,.i v.2.2.2])] H' g'/\zbL n a2 r1 m3 v.1 v.2.1 v.2.2.1 v.2.2.2=some r) (n:=n) (0,0,a1.Place,a1.Credit) (.k (.k (.k (.k (.k (.k (.k .nil))))))) ⟨(hS.keep [true,true] rfl).up (by omega),hM⟩ ?_
   rintro ⟨v8,v9,v10,v11⟩ m3 H g3 ⟨hS,hM⟩
   obtain _ | m3:=m3
   ·exact nomatch (show none=some _ from hM)
   change wpA _ _ _ _ (Fr.of [(4,.ptr (g+1) 0),(6,.ptr (g+3) 0),(7,.i v8),(9,.ep (Wheel.cells r1.1.1.Wheel)),(22,.sl .no 1 (a2.map cI)),(23,.i (a2.length:Int)),(24,.i v9)]) _ _
   replace hS:St (·<g) H0 [(g+3,.cells [.i 0,.i 0]),(g+1,.cells [.i v10,.i v11])] H g3:=hS
   replace hM:zfZ n a2 r1 (zbL n a2 r1 m3) v8 v9 v10 v11=some r:=hM
   refine Sq ?_
   refine Rg 1 ?_
   refine Oi (.b (decide (v9<(a2.length:Int)))) ?_
   refine Ni ?_
   refine Ws ?_
   refine Sq ?_
   rcases bft (decide (v9<(a2.length:Int))) with hb12 | hb12
   ·replace hM:=ifT hM hb12
    refine Ct hb12 ?_
    refine zax ?_
    refine Ws ?_
    refine Sq ?_
    refine zao ?_
    refine Sq ?_
    refine Rg 3 ?_
    obtain ⟨x13,hx13,hM⟩:=zaf hM
    refine zaL (xs:=a2) (f:=cI) (z:=v9) (u:=x13) (by decide) rfl rfl zaw hx13 ?_
    refine Olp (.i x13) zah zas ?_
    refine Oa (.i x13) ?_
    refine Ni ?_
    refine Ws ?_
    refine zaW (J:=Int) (fun j=>[(4,.ptr (g+1) 0),(6,.ptr (g+3) 0),(7,.i j),(9,.ep (Wheel.cells r1.1.1.Wheel)),(11,.i x13),(22,.sl .no 1 (a2.map cI)),(23,.i (a2.length:Int)),(24,.i v9)]) (fun j H' g'=>St (·<g) H0 [(g+3,.cells [.i 0,.i 0]),(g+1,.cells [.i v10,.i v11])] H' g'/\zgh n (zbL n a2 r1 m3) r1 v9 v10 v11 x13 j=some r) ?_ ?_
    ·rintro v14 H g4 ⟨hS,hM⟩
     change wpA _ _ _ _ (Fr.of [(4,.ptr (g+1) 0),(6,.ptr (g+3) 0),(7,.i v14),(9,.ep (Wheel.cells r1.1.1.Wheel)),(11,.i x13),(22,.sl .no 1 (a2.map cI)),(23,.i (a2.length:Int)),(24,.i v9)]) _ _
     replace hS:St (·<g) H0 [(g+3,.cells [.i 0,.i 0]),(g+1,.cells [.i v10,.i v11])] H g4:=hS
     replace hM:zgh n (zbL n a2 r1 m3) r1 v9 v10 v11 x13 v14=some r:=hM
     refine Rg 5 ?_
     refine Olg (.agg (Wheel.cells r1.1.1.Wheel)) zgn ?_
     refine za4 (v:=.agg [.i v10,.i v11]) 1 hS (by decide) rfl rfl .no (pg zdm) ?_
     refine Om (.i x13) ?_
     obtain ⟨r15,hr15,hM⟩:=zaf hM
     refine zau (bs:=[.agg (Wheel.cells r1.1.1.Wheel),.agg [.i v10,.i v11],.i x13]) (by decide) rfl rfl ((zkk hr15).le (.k (.k (.k .nil)))) ?_
     refine za2 (v:=.agg (Stand.cells r15)) (ns:=(Stand.cells r15)) (L':=[(g+3,.cells [.i 0,.i 0]),(g+1,.cells (Stand.cells r15))]) 1 hS rfl rfl .no rfl rfl zeD nlb rfl fun H hS=>?_
     refine Ni ?_
     refine zag ?_
     refine Ws ?_
     refine Rg 2 ?_
     refine Oi (.i (w64 (v9+1))) ?_
     refine Om (.i (w64 (v9+1))) ?_
     refine Ni ?_
     exact za1 (v14,w64 (v9+1),r15.Place,r15.Credit) (Nat.lt_succ_self _) (.k (.k (.k (.k (.k (.k (.k .nil))))))) ⟨(hS.keep [true,true] rfl).up (by omega),hM⟩
    ·refine zaW (J:=Bool) (fun j=>[(4,.ptr (g+1) 0),(6,.ptr (g+3) 0),(7,.i v8),(9,.ep (Wheel.cells r1.1.1.Wheel)),(11,.i x13),(22,.sl .no 1 (a2.map cI)),(23,.i (a2.length:Int)),(24,.i v9),(34,.b j)]) (fun j H' g'=>St (·<g) H0 [(g+3,.cells [.i 0,.i 0]),(g+1,.cells [.i v10,.i v11])] H' g'/\zfc n (zbL n a2 r1 m3) r1 v8 v9 v10 v11 x13 j=some r) ?_ ?_
     ·rintro v16 H g5 ⟨hS,hM⟩
      change wpA _ _ _ _ (Fr.of [(4,.ptr (g+1) 0),(6,.ptr (g+3) 0),(7,.i v8),(9,.ep (Wheel.cells r1.1.1.Wheel)),(11,.i x13),(22,.sl .no 1 (a2.map cI)),(23,.i (a2.length:Int)),(24,.i v9),(34,.b v16)]) _ _
      replace hS:St (·<g) H0 [(g+3,.cells [.i 0,.i 0]),(g+1,.cells [.i v10,.i v11])] H g5:=hS
      replace hM:zfc n (zbL n a2 r1 m3) r1 v8 v9 v10 v11 x13 v16=some r:=hM
      rcases bft v16 with hb17 | hb17
      ·replace hM:=ifT hM hb17
       refine Ct hb17 ?_
       refine Rg 3 ?_
       refine Om (.i v8) ?_
       refine Oi (.i (w64 (v8+1))) ?_
       refine Oa (.i (w64 (v8+1))) ?_
       refine Ni ?_
       exact zam (w64 (v8+1)) (.k (.k (.k (.k (.k (.k (.k (.k .nil)))))))) ⟨(hS.keep [true,true] rfl).up (by omega),hM⟩
      ·replace hM:=ifF hM hb17
       refine Cf hb17 ?_
       refine zax ?_
       exact zam v8 (.k (.k (.k (.k (.k (.k (.k (.k .nil)))))))) ⟨(hS.keep [true,true] rfl).up (by omega),hM⟩
     ·refine Rg 7 ?_
      refine Om (.i x13) ?_
      refine Oi (.b (x13==(-1))) ?_
      refine Om (.b (x13==(-1))) ?_
      rcases bft (x13==(-1)) with hb18 | hb18
      ·replace hM:=ifT hM hb18
       refine Oy (want:=true) hb18 ?_
       refine zaR (by decide) zb1 rfl ?_
       refine Oy (want:=true) hb18 ?_
       refine za4 (v:=.i v11) 1 hS (by decide) rfl rfl .no (po zah zas) ?_
       refine Oy (want:=true) hb18 ?_
       refine Oi (.b (decide (v11>0))) ?_
       refine Pt (.b (decide (v11>0))) hb18 ?_
       refine Ni ?_
       exact zam (decide (v11>0)) (.k (.k (.k (.k (.k (.k (.k (.k (.k .nil))))))))) ⟨(hS.keep [true,true] rfl).up (by omega),hM⟩
      ·replace hM:=ifF hM hb18
       refine On (want:=true) hb18 ?_
       refine On (want:=true) hb18 ?_
       refine On (want:=true) hb18 ?_
       refine Pf (.b false) hb18 ?_
       refine Ni ?_
       exact zam false (.k (.k (.k (.k (.k (.k (.k (.k (.k .nil))))))))) ⟨(hS.keep [true,true] rfl).up (by omega),hM⟩
   ·replace hM:=ifF hM hb12
    refine Cf hb12 ?_
    refine za8 ?_
    refine zal ?_
    refine zaj ?_
    refine zar ?_
    exact zam (v8,v10,v11) (.k (.k (.k .nil))) ⟨(hS.keep [true,true] rfl).up (by omega),hM⟩
theorem zhc {n:Nat} {a0:Option Box_} {al:Bag_} {r:List (PointT_×Step_)} (hM:zdO n a0 al=some r):zuX Try.prog 99 [pA Box_.cells a0,.agg (Bag_.cells al)] (zaH (mpw zad zat r)):=by
 refine zrh mixed Try.func99 rfl (by decide) Try.ntmps99 (by simp) fun H0 g hf=>?_
 rw [zai]
 change wpA _ _ _ _ (Fr.of [(0,pA Box_.cells a0),(1,.agg (Bag_.cells al))]) H0 g
 have hS:=St.start hf
 unfold zdO at hM
 obtain ⟨b,hb0,hM⟩:=zaf hM
 refine Sq ?_
 refine Rg 2 ?_
 refine zcI (v:=.agg (Bag_.cells al)) (cs:=(Bag_.cells al)) hS (by decide) rfl rfl (by omega) fun H hS=>?_
 refine Oa (.v (.map none)) ?_
 refine Ni ?_
 refine Ws ?_
 refine Sq ?_
 refine Rg 7 ?_
 refine zmK (kv:=zad) (cv:=zat) hS (by decide) zgW (by omega) fun H hS=>?_
 refine zbQ (cs:=[.i 0,.i 0,.i 0,.i 0,.i 0,.i 0,.i 0]) (by decide) zfd zkW rfl ?_
 refine zbQ (cs:=[.i (-2),.i 0,.i 0,.i 0,.i 0,.i 0,.i 0,.i 0]) (by decide) zhu zqb rfl ?_
 refine zsE (kv:=zad) (ok:=zbK) (cv:=zat) (z0:=zba) (M:=[]) (k:=zaP) (v:=⟨-2,zaP⟩) (M':=([(zaP,(⟨-2,zaP⟩:Step_))]:List (PointT_×Step_))) (L':=[(g+2+0,.obj none (zaH (mpw zad zat ([(zaP,(⟨-2,zaP⟩:Step_))]:List (PointT_×Step_))))),(g+0,.cells (Bag_.cells al))]) 0 zlF (.inl rfl) hS rfl rfl rfl rfl zgW zio (by decide) rfl fun H hS=>?_
 refine Om (.mp (g+2+0)) ?_
 refine zbP hS (by decide) zro (by omega) fun H hS=>?_
 refine za2 (v:=.mp (g+2+0)) (ns:=[.mp (g+2+0)]) (L':=[(g+2+5,.cells [.mp (g+2+0)]),(g+2+0,.obj none (zaH (mpw zad zat ([(zaP,(⟨-2,zaP⟩:Step_))]:List (PointT_×Step_))))),(g+0,.cells (Bag_.cells al))]) 0 hS rfl rfl .no rfl rfl zsQ nlb rfl fun H hS=>?_
 refine Ni ?_
 refine Ws ?_
 refine Sq ?_
 refine Rg 4 ?_
 refine zbQ (cs:=[.i 0,.i 0,.i 0,.i 0,.i 0,.i 0,.i 0]) (by decide) zfd zkW rfl ?_
 refine zw6 (e:=155) (es:=[[.i 0,.i 0,.i 0,.i 0,.i 0,.i 0,.i 0]]) hS (by decide) zjL zqc rfl znp rfl (by decide) (by omega) fun H hS=>?_
 replace hS:St (·<g) H0 [quB PointT_.cells (g+2+7+1) [] [zaP],(g+2+5,.cells [.mp (g+2+0)]),(g+2+0,.obj none (zaH (mpw zad zat ([(zaP,(⟨-2,zaP⟩:Step_))]:List (PointT_×Step_))))),(g+0,.cells (Bag_.cells al))] H (g+2+7+1+1):=hS
 refine zbP hS (by decide) zrp (by omega) fun H hS=>?_
 refine za2 (v:=quV 7 (g+2+7+1) [] [zaP]) (ns:=[quV 7 (g+2+7+1) [] [zaP]]) (L':=[(g+2+7+2,.cells [quV 7 (g+2+7+1) [] [zaP]]),quB PointT_.cells (g+2+7+1) [] [zaP],(g+2+5,.cells [.mp (g+2+0)]),(g+2+0,.obj none (zaH (mpw zad zat ([(zaP,(⟨-2,zaP⟩:Step_))]:List (PointT_×Step_))))),(g+0,.cells (Bag_.cells al))]) 0 hS rfl rfl .no rfl rfl zlz nlb rfl fun H hS=>?_
 refine Ni ?_
 refine Ws ?_
 replace hS:=hS.toHead (L':=[(g+2+0,.obj none (zaH (mpw zad zat ([(zaP,(⟨-2,zaP⟩:Step_))]:List (PointT_×Step_))))),(g+2+7+2,.cells [quV 7 (g+2+7+1) [] [zaP]]),quB PointT_.cells (g+2+7+1) [] [zaP],(g+2+5,.cells [.mp (g+2+0)]),(g+0,.cells (Bag_.cells al))]) 3 nlb rfl
 replace hS:=hS.toHead (L':=[(g+2+7+2,.cells [quV 7 (g+2+7+1) [] [zaP]]),(g+2+0,.obj none (zaH (mpw zad zat ([(zaP,(⟨-2,zaP⟩:Step_))]:List (PointT_×Step_))))),quB PointT_.cells (g+2+7+1) [] [zaP],(g+2+5,.cells [.mp (g+2+0)]),(g+0,.cells (Bag_.cells al))]) 1 nlb rfl
 replace hS:=hS.toHead (L':=[(g+2+5,.cells [.mp (g+2+0)]),(g+2+7+2,.cells [quV 7 (g+2+7+1) [] [zaP]]),(g+2+0,.obj none (zaH (mpw zad zat ([(zaP,(⟨-2,zaP⟩:Step_))]:List (PointT_×Step_))))),quB PointT_.cells (g+2+7+1) [] [zaP],(g+0,.cells (Bag_.cells al))]) 3 nlb rfl
 replace hS:=hS.toHead (L':=[(g+0,.cells (Bag_.cells al)),(g+2+5,.cells [.mp (g+2+0)]),(g+2+7+2,.cells [quV 7 (g+2+7+1) [] [zaP]]),(g+2+0,.obj none (zaH (mpw zad zat ([(zaP,(⟨-2,zaP⟩:Step_))]:List (PointT_×Step_))))),quB PointT_.cells (g+2+7+1) [] [zaP]]) 4 nlb rfl
 replace hS:=hS.toHead (L':=[quB PointT_.cells (g+2+7+1) [] [zaP],(g+0,.cells (Bag_.cells al)),(g+2+5,.cells [.mp (g+2+0)]),(g+2+7+2,.cells [quV 7 (g+2+7+1) [] [zaP]]),(g+2+0,.obj none (zaH (mpw zad zat ([(zaP,(⟨-2,zaP⟩:Step_))]:List (PointT_×Step_)))))]) 4 nlb rfl
 refine Sq ?_
 refine zao ?_
 refine zbj (V:=zjx×Nat×List AV) (fun v=>[(0,pA Box_.cells a0),(3,.ptr (g+0) 0),(5,.ptr (g+2+5) 0),(6,.ptr (g+2+7+2) 0)]) (fun v k H' g'=>St (·<g) H0 [quB PointT_.cells v.2.1 v.2.2 v.1.2,(g+0,.cells (Bag_.cells al)),(g+2+5,.cells [.mp (g+2+0)]),(g+2+7+2,.cells [quV 7 v.2.1 v.2.2 v.1.2]),(g+2+0,.obj none (zaH (mpw zad zat v.1.1)))] H' g'/\(∀c,c∈v.2.2->Go.AM.Pure c)/\zdT n b al k v.1=some r) (n:=n) ((([(zaP,(⟨-2,zaP⟩:Step_))]:List (PointT_×Step_)),[zaP]),(g+2+7+1),[]) (.k (.k (.k (.k .nil)))) ⟨hS.up (by omega),(fun c h=>by simp at h),hM⟩ ?_
 rintro ⟨⟨S1,S2⟩,q,pre⟩ m H g1 ⟨hS,hpre,hM⟩
 obtain _ | m:=m
 ·exact nomatch (show none=some _ from hM)
 replace hpre:∀c,c∈pre->Go.AM.Pure c:=hpre
 change wpA _ _ _ _ (Fr.of [(0,pA Box_.cells a0),(3,.ptr (g+0) 0),(5,.ptr (g+2+5) 0),(6,.ptr (g+2+7+2) 0)]) _ _
 replace hS:St (·<g) H0 [quB PointT_.cells q pre S2,(g+0,.cells (Bag_.cells al)),(g+2+5,.cells [.mp (g+2+0)]),(g+2+7+2,.cells [quV 7 q pre S2]),(g+2+0,.obj none (zaH (mpw zad zat S1)))] H g1:=hS
 refine Sq ?_
 refine Sq ?_
 refine Rg 3 ?_
 refine za4 (v:=quV 7 q pre S2) 3 hS (by decide) rfl rfl .no (po zjK zkX) ?_
 refine zvt (n:=S2.length) (by decide) rfl zsS ?_
 refine Oi (.b (decide ((S2.length:Int)>0))) ?_
 refine Ni ?_
 refine Ws ?_
 cases S2 with
 | nil =>
  obtain rfl:S1=r:=Option.some.inj hM
  refine zhI (e:=decide ((([]:List PointT_).length:Int)>0)) rfl (by decide) ?_
  refine za8 ?_
  refine zal ?_
  refine zaj ?_
  refine zar ?_
  refine Ws ?_
  refine Sq ?_
  refine Rg 2 ?_
  refine za4 (v:=.mp (g+2+0)) 2 hS (by decide) rfl rfl .no (po zly zno) ?_
  refine Oa (.mp (g+2+0)) ?_
  refine Ni ?_
  refine Ws ?_
  refine zaQ ?_
  exact zvw (j:=(g+2+0)) 4 (.inr rfl) (zaA (zae rfl)) hS rfl rfl
 | cons x xs =>
  replace hM:Option.bind (zf0 n b al x (S1,xs)) (fun S1=>Option.bind (zby n b al x n 0 S1) fun S2=>zdT n b al m S2)=some r:=hM
  obtain ⟨SA,hSA,hM⟩:=zaf hM
  obtain ⟨SB,hSB,hM⟩:=zaf hM
  refine zln (e:=decide (((x::xs).length:Int)>0)) rfl (decide_eq_true (by rw [List.length_cons];omega)) ?_
  refine zax ?_
  refine Ws ?_
  refine zao ?_
  refine Sq ?_
  refine Rg 5 ?_
  refine za4 (v:=quV 7 q pre (x::xs)) 3 hS (by decide) rfl rfl .no (po zjK zkX) ?_
  refine zsF (k:=7) (by decide) rfl rfl zjL ?_
  refine zpn (k:=7) (f:=PointT_.cells) hS (by decide) rfl .no zgo (fun _=>rfl) ?_
  refine zbP hS (by decide) zfd (by omega) fun H hS=>?_
  refine za2 (v:=.agg (PointT_.cells x)) (ns:=(PointT_.cells x)) (L':=[(g1+3+3,.cells (PointT_.cells x)),quB PointT_.cells q pre (x::xs),(g+0,.cells (Bag_.cells al)),(g+2+5,.cells [.mp (g+2+0)]),(g+2+7+2,.cells [quV 7 q pre (x::xs)]),(g+2+0,.obj none (zaH (mpw zad zat S1)))]) 0 hS rfl rfl .no rfl rfl zjH nlb rfl fun H hS=>?_
  refine Ni ?_
  refine Ws ?_
  refine Sq ?_
  refine Rg 3 ?_
  refine za4 (v:=quV 7 q pre (x::xs)) 4 hS (by decide) rfl rfl .no (po zjK zkX) ?_
  refine zrj (k:=7) (f:=PointT_.cells) (by decide) rfl rfl zjL (fun _=>rfl) ?_
  refine za2 (v:=quV 7 q (pre++x.cells) xs) (ns:=[quV 7 q (pre++x.cells) xs]) (L':=[(g1+3+3,.cells (PointT_.cells x)),quB PointT_.cells q pre (x::xs),(g+0,.cells (Bag_.cells al)),(g+2+5,.cells [.mp (g+2+0)]),(g+2+7+2,.cells [quV 7 q (pre++x.cells) xs]),(g+2+0,.obj none (zaH (mpw zad zat S1)))]) 4 hS rfl rfl .no rfl rfl zlz nlb rfl fun H hS=>?_
  refine Ni ?_
  rw [zvA] at hS
  have hpre1:∀c,c∈pre++x.cells->Go.AM.Pure c:=fun c hc=>by
   rcases List.mem_append.1 hc with hc | hc
   ·exact hpre c hc
   ·exact (show ∀c,c∈(PointT_.cells x)->Go.AM.Pure c from zab (.v _) (zab (.v _) (zab (.v _) (zab (.v _) (zab (.v _) (zab (.v _) (zab (.v _) zaG))))))) c hc
  generalize pre++x.cells=preX at hS hpre1 ⊢
  replace hS:=hS.perm (L':=[quB PointT_.cells q preX xs,(g+0,.cells (Bag_.cells al)),(g+2+5,.cells [.mp (g+2+0)]),(g1+3+3,.cells (PointT_.cells x)),(g+2+7+2,.cells [quV 7 q preX xs]),(g+2+0,.obj none (zaH (mpw zad zat S1)))]) (List.perm_append_comm (l₁:=[_,_,_]) (l₂:=[_]) |>.append_right _)
  refine Ws ?_
  refine Sq ?_
  refine Rg 2 ?_
  refine zhq (first:=[]) (cap:=[.ptr (g+0) 0,.ptr (g+2+5) 0,.ptr (g1+3+3) 0,.ptr (g+2+7+2) 0]) (by decide) rfl rfl ?_
  refine Oa (.fn (.func 129) [] [.ptr (g+0) 0,.ptr (g+2+5) 0,.ptr (g1+3+3) 0,.ptr (g+2+7+2) 0]) ?_
  refine Ni ?_
  refine Ws ?_
  refine zaW (J:=zjx×Nat×List AV) (fun j=>[(0,pA Box_.cells a0),(3,.ptr (g+0) 0),(5,.ptr (g+2+5) 0),(6,.ptr (g+2+7+2) 0),(7,.ptr (g1+3+3) 0),(8,.fn (.func 129) [] [.ptr (g+0) 0,.ptr (g+2+5) 0,.ptr (g1+3+3) 0,.ptr (g+2+7+2) 0])]) (fun j H' g'=>St (·<g) H0 [quB PointT_.cells j.2.1 j.2.2 j.1.2,(g+0,.cells (Bag_.cells al)),(g+2+5,.cells [.mp (g+2+0)]),(g1+3+3,.cells (PointT_.cells x)),(g+2+7+2,.cells [quV 7 j.2.1 j.2.2 j.1.2]),(g+2+0,.obj none (zaH (mpw zad zat j.1.1)))] H' g'/\(∀c,c∈j.2.2->Go.AM.Pure c)/\j.1=SA) ?_ ?_
  rotate_left
  ·-- the selection
   refine Sq ?_
   refine Rg 10 ?_
   refine zaR (by decide) zcu rfl ?_
   refine zaR (by decide) zb1 rfl ?_
   refine za4 (v:=.i x.Stand.Credit) 3 hS (by decide) rfl rfl .no (po zah zas) ?_
   refine Oi (.b (decide (x.Stand.Credit>0))) ?_
   refine Om (.b (decide (x.Stand.Credit>0))) ?_
   rcases bft (decide (x.Stand.Credit>0)) with hc1 | hc1
   ·replace hSA:=ifT hSA hc1
    refine Oy (want:=true) hc1 ?_
    refine zaR (by decide) zcu rfl ?_
    refine Oy (want:=true) hc1 ?_
    refine zaR (by decide) zds rfl ?_
    refine Oy (want:=true) hc1 ?_
    refine za4 (v:=.i x.Stand.Place) 3 hS (by decide) rfl rfl .no (po zah zas) ?_
    refine Oy (want:=true) hc1 ?_
    refine Oi (.b (decide (x.Stand.Place>0))) ?_
    refine Pt (.b (decide (x.Stand.Place>0))) hc1 ?_
    refine Ni ?_
    refine Ws ?_
    rcases bft (decide (x.Stand.Place>0)) with hc2 | hc2
    ·replace hSA:=ifT hSA hc2
     refine Ct hc2 ?_
     refine Sq ?_
     have hS0:=hS
     refine zcg (n:=19) rfl (by kernel_rfl) ?_
     refine Om (pA Box_.cells a0) ?_
     refine ziZ (f:=Box_.cells) (p:=a0) (u:=b) (by decide) rfl hb0 ?_
     refine Of ((Box.cells b.Box)) zdV ?_
     refine Of ((Box.cells b.Box)) za7 ?_
     refine Olg (.agg (Wheel.cells b.Box.Wheel)) zbw ?_
     refine zaR (by decide) zcu rfl ?_
     refine zaR (by decide) zds rfl ?_
     refine za4 (v:=.i x.Stand.Place) 3 hS (by decide) rfl rfl (.st hS0 3 rfl (by omega)) (po zah zas) ?_
     refine zbQ (cs:=[.i x.Stand.Place,.i 1]) (by decide) zcB zhT rfl ?_
     refine zaV (es:=[[.i (-1)]]) hS (by decide) zaw zbm rfl zbe rfl (by decide) (by omega) fun H hS=>?_
     obtain ⟨rr,hrr,hSA⟩:=zaf hSA
     refine zau (bs:=[.agg (Wheel.cells b.Box.Wheel),.agg [.i x.Stand.Place,.i 1],.sl (.id (g1+3+5+3+2+10+9)) 1 (([-1]:List Int).map cI)]) (by decide) rfl rfl ((zlJ hrr).le (.k (.k (.cons (.sl _ _ _) .nil)))) ?_
     refine Om (.tup [.agg (Stand.cells rr.1),.i rr.2.1,.i rr.2.2]) ?_
     refine Ox (.agg (Stand.cells rr.1)) ?_
     refine Ox (.i rr.2.1) ?_
     refine Ox (.i rr.2.2) ?_
     refine zbP hS (by decide) zcB (by omega) fun H hS=>?_
     refine za2 (v:=.agg (Stand.cells rr.1)) (ns:=(Stand.cells rr.1)) (L':=[(g1+3+5+3+2+10+15,.cells (Stand.cells rr.1)),(g1+3+5+3+2+10+9,.row 3 1),quB PointT_.cells q preX xs,(g+0,.cells (Bag_.cells al)),(g+2+5,.cells [.mp (g+2+0)]),(g1+3+3,.cells (PointT_.cells x)),(g+2+7+2,.cells [quV 7 q preX xs]),(g+2+0,.obj none (zaH (mpw zad zat S1)))]) 0 hS rfl rfl (.behind (by kernel_rfl)) rfl rfl zeD nlb rfl fun H hS=>?_
     refine Oa (.i rr.2.1) ?_
     refine Oa (.i rr.2.2) ?_
     refine Ni ?_
     replace hS:=hS.keep (L':=[(g1+3+5+3+2+10+15,.cells (Stand.cells rr.1)),quB PointT_.cells q preX xs,(g+0,.cells (Bag_.cells al)),(g+2+5,.cells [.mp (g+2+0)]),(g1+3+3,.cells (PointT_.cells x)),(g+2+7+2,.cells [quV 7 q preX xs]),(g+2+0,.obj none (zaH (mpw zad zat S1)))]) [true,false,true,true,true,true,true,true] rfl
     refine zbd (L':=[quB PointT_.cells q preX xs,(g+0,.cells (Bag_.cells al)),(g+2+5,.cells [.mp (g+2+0)]),(g1+3+3,.cells (PointT_.cells x)),(g+2+7+2,.cells [quV 7 q preX xs]),(g+2+0,.obj none (zaH (mpw zad zat S1)))]) 0 9 hS rfl rfl rfl fun H hS=>?_
     refine Ws ?_
     refine Rg 14 ?_
     refine Om (.fn (.func 129) [] [.ptr (g+0) 0,.ptr (g+2+5) 0,.ptr (g1+3+3) 0,.ptr (g+2+7+2) 0]) ?_
     refine Of ((Stand.cells rr.1)) zds ?_
     refine Olp (.i rr.1.Place) zah zas ?_
     refine zaR (by decide) zcu rfl ?_
     refine zaR (by decide) zb1 rfl ?_
     refine za4 (v:=.i x.Stand.Credit) 3 hS (by decide) rfl rfl .no (po zah zas) ?_
     refine Oi (.i (w64 (x.Stand.Credit-1))) ?_
     refine zbQ (cs:=[.i rr.1.Place,.i (w64 (x.Stand.Credit-1))]) (by decide) zcB zhT rfl ?_
     refine zaR (by decide) zfR rfl ?_
     refine za4 (v:=.agg (Bag_.cells x.in_)) 3 hS (by decide) rfl rfl .no (pg zep) ?_
     refine zaR (by decide) ziL rfl ?_
     refine za4 (v:=.i x.bought) 3 hS (by decide) rfl rfl .no (po zah zas) ?_
     refine zbQ (cs:=[.i rr.1.Place,.i (w64 (x.Stand.Credit-1)),.i x.in_.c0,.i x.in_.c1,.i x.in_.c2,.i x.in_.c3,.i x.bought]) (by decide) zfd zkW rfl ?_
     refine zod (M:=znt al x (g+0) (g+2+5) (g1+3+3) (g+2+7+2) (g+2+0) q preX (S1,xs)) (L:=[]) (.inl rfl) hS (by decide) rfl rfl (zgq hSA hpre1 (show (ids (znt al x (g+0) (g+2+5) (g1+3+3) (g+2+7+2) (g+2+0) q preX (S1,xs))).Nodup from hS.nd)) (by omega) ?_
     rintro v M' H g2 ⟨q2,pre2,rfl,rfl,hq2,hpr2⟩ hg2 hS
     have hpre2:∀c,c∈pre2->Go.AM.Pure c:=by rcases hpr2 with rfl | rfl;exact hpre1;exact fun c hc=>by simp at hc
     refine Ni ?_
     exact zam (SA,q2,pre2) (.k (.k (.k (.k (.k (.k .nil)))))) ⟨hS,hpre2,rfl⟩
    ·replace hSA:=ifF hSA hc2
     obtain rfl:=Option.some.inj hSA
     refine Cf hc2 ?_
     refine zax ?_
     exact zam ((S1,xs),q,preX) (.k (.k (.k (.k (.k (.k .nil)))))) ⟨hS.up (by omega),hpre1,rfl⟩
   ·replace hSA:=ifF hSA hc1
    obtain rfl:=Option.some.inj hSA
    refine On (want:=true) hc1 ?_
    refine On (want:=true) hc1 ?_
    refine On (want:=true) hc1 ?_
    refine On (want:=true) hc1 ?_
    refine Pf (.b false) hc1 ?_
    refine Ni ?_
    refine Ws ?_
    refine zhI (e:=false) rfl rfl ?_
    refine zax ?_
    exact zam ((S1,xs),q,preX) (.k (.k (.k (.k (.k (.k .nil)))))) ⟨hS.up (by omega),hpre1,rfl⟩
  rintro ⟨SC,q,pre⟩ H g2 ⟨hS,hpre,rfl⟩
  replace hpre:∀c,c∈pre->Go.AM.Pure c:=hpre
  change wpA _ _ _ _ (Fr.of [(0,pA Box_.cells a0),(3,.ptr (g+0) 0),(5,.ptr (g+2+5) 0),(6,.ptr (g+2+7+2) 0),(7,.ptr (g1+3+3) 0),(8,.fn (.func 129) [] [.ptr (g+0) 0,.ptr (g+2+5) 0,.ptr (g1+3+3) 0,.ptr (g+2+7+2) 0])]) _ _
  replace hS:St (·<g) H0 [quB PointT_.cells q pre SC.2,(g+0,.cells (Bag_.cells al)),(g+2+5,.cells [.mp (g+2+0)]),(g1+3+3,.cells (PointT_.cells x)),(g+2+7+2,.cells [quV 7 q pre SC.2]),(g+2+0,.obj none (zaH (mpw zad zat SC.1)))] H g2:=hS
  refine Sq ?_
  refine Rg 8 ?_
  refine Om (pA Box_.cells a0) ?_
  refine ziZ (f:=Box_.cells) (p:=a0) (u:=b) (by decide) rfl hb0 ?_
  refine Of ((Box.cells b.Box)) zdV ?_
  refine Of ((Box.cells b.Box)) za7 ?_
  refine Of ((Box.cells b.Box)) zcC ?_
  refine Olp (.sl .no 1 (b.Box.Wheel.Coins.map cI)) zaq zaE ?_
  refine zbi (n:=b.Box.Wheel.Coins.length) (by decide) rfl (List.length_map _) zaM ?_
  refine Om (.i 0) ?_
  refine Ni ?_
  refine Ws ?_
  refine zao ?_
  refine zbj (V:=Int×zjx×Nat×List AV) (fun v=>[(0,pA Box_.cells a0),(3,.ptr (g+0) 0),(5,.ptr (g+2+5) 0),(6,.ptr (g+2+7+2) 0),(7,.ptr (g1+3+3) 0),(8,.fn (.func 129) [] [.ptr (g+0) 0,.ptr (g+2+5) 0,.ptr (g1+3+3) 0,.ptr (g+2+7+2) 0]),(77,.i (b.Box.Wheel.Coins.length:Int)),(78,.i v.1)]) (fun v k H' g'=>St (·<g) H0 [quB PointT_.cells v.2.2.1 v.2.2.2 v.2.1.2,(g+0,.cells (Bag_.cells al)),(g+2+5,.cells [.mp (g+2+0)]),(g1+3+3,.cells (PointT_.cells x)),(g+2+7+2,.cells [quV 7 v.2.2.1 v.2.2.2 v.2.1.2]),(g+2+0,.obj none (zaH (mpw zad zat v.2.1.1)))] H' g'/\(∀c,c∈v.2.2.2->Go.AM.Pure c)/\zby n b al x k v.1 v.2.1=some SB) (n:=n) (0,SC,q,pre) (.k (.k (.k (.k (.k (.k (.k (.k .nil)))))))) ⟨hS.up (by omega),hpre,hSB⟩ ?_
  rintro ⟨k,SC,q,pre⟩ m3 H g3 ⟨hS,hpre,hSB⟩
  obtain _ | m3:=m3
  ·exact nomatch (show none=some _ from hSB)
  replace hpre:∀c,c∈pre->Go.AM.Pure c:=hpre
  change wpA _ _ _ _ (Fr.of [(0,pA Box_.cells a0),(3,.ptr (g+0) 0),(5,.ptr (g+2+5) 0),(6,.ptr (g+2+7+2) 0),(7,.ptr (g1+3+3) 0),(8,.fn (.func 129) [] [.ptr (g+0) 0,.ptr (g+2+5) 0,.ptr (g1+3+3) 0,.ptr (g+2+7+2) 0]),(77,.i (b.Box.Wheel.Coins.length:Int)),(78,.i k)]) _ _
  replace hS:St (·<g) H0 [quB PointT_.cells q pre SC.2,(g+0,.cells (Bag_.cells al)),(g+2+5,.cells [.mp (g+2+0)]),(g1+3+3,.cells (PointT_.cells x)),(g+2+7+2,.cells [quV 7 q pre SC.2]),(g+2+0,.obj none (zaH (mpw zad zat SC.1)))] H g3:=hS
  unfold zby at hSB
  refine Sq ?_
  refine Rg 1 ?_
  refine Oi (.b (decide (k<(b.Box.Wheel.Coins.length:Int)))) ?_
  refine Ni ?_
  refine Ws ?_
  refine Sq ?_
  rcases bft (decide (k<(b.Box.Wheel.Coins.length:Int))) with hk1 | hk1
  rotate_left
  ·replace hSB:=ifF hSB hk1
   obtain rfl:=Option.some.inj hSB
   refine Cf hk1 ?_
   refine za8 ?_
   refine zal ?_
   refine zaj ?_
   refine zar ?_
   refine zag ?_
   exact za1 (SC,q,pre) (Nat.lt_succ_self _) (.k (.k (.k (.k .nil)))) ⟨(hS.keep (L':=[quB PointT_.cells q pre SC.2,(g+0,.cells (Bag_.cells al)),(g+2+5,.cells [.mp (g+2+0)]),(g+2+7+2,.cells [quV 7 q pre SC.2]),(g+2+0,.obj none (zaH (mpw zad zat SC.1)))]) [true,true,true,false,true,true] rfl).up (by omega),hpre,hM⟩
  replace hSB:=ifT hSB hk1
  refine Ct hk1 ?_
  refine zax ?_
  refine Ws ?_
  obtain ⟨e1,he1,hSB⟩:=zaf hSB
  obtain ⟨e2,he2,hSB⟩:=zaf hSB
  refine zaW (J:=zjx×Nat×List AV) (fun j=>[(0,pA Box_.cells a0),(3,.ptr (g+0) 0),(5,.ptr (g+2+5) 0),(6,.ptr (g+2+7+2) 0),(7,.ptr (g1+3+3) 0),(8,.fn (.func 129) [] [.ptr (g+0) 0,.ptr (g+2+5) 0,.ptr (g1+3+3) 0,.ptr (g+2+7+2) 0]),(77,.i (b.Box.Wheel.Coins.length:Int)),(78,.i k)]) (fun j H' g'=>St (·<g) H0 [quB PointT_.cells j.2.1 j.2.2 j.1.2,(g+0,.cells (Bag_.cells al)),(g+2+5,.cells [.mp (g+2+0)]),(g1+3+3,.cells (PointT_.cells x)),(g+2+7+2,.cells [quV 7 j.2.1 j.2.2 j.1.2]),(g+2+0,.obj none (zaH (mpw zad zat j.1.1)))] H' g'/\(∀c,c∈j.2.2->Go.AM.Pure c)/\zby n b al x m3 (w64 (k+1)) j.1=some SB) ?_ ?_
  ·rintro ⟨SD,q4,pre4⟩ H g4 ⟨hS,hpre4,hSB⟩
   change wpA _ _ _ _ (Fr.of [(0,pA Box_.cells a0),(3,.ptr (g+0) 0),(5,.ptr (g+2+5) 0),(6,.ptr (g+2+7+2) 0),(7,.ptr (g1+3+3) 0),(8,.fn (.func 129) [] [.ptr (g+0) 0,.ptr (g+2+5) 0,.ptr (g1+3+3) 0,.ptr (g+2+7+2) 0]),(77,.i (b.Box.Wheel.Coins.length:Int)),(78,.i k)]) _ _
   refine Rg 2 ?_
   refine Oi (.i (w64 (k+1))) ?_
   refine Om (.i (w64 (k+1))) ?_
   refine Ni ?_
   exact za1 (w64 (k+1),SD,q4,pre4) (Nat.lt_succ_self _) (.k (.k (.k (.k (.k (.k (.k (.k .nil)))))))) ⟨hS.up (by omega),hpre4,hSB⟩
  refine zao ?_
  refine Sq ?_
  refine Rg 2 ?_
  refine Om (.i k) ?_
  refine Oa (.i k) ?_
  refine Ni ?_
  refine Ws ?_
  refine Sq ?_
  refine Sq ?_
  have hS0:=hS
  refine zcg (n:=8) rfl (by kernel_rfl) ?_
  refine Om (.i k) ?_
  refine zaR (by decide) zfR rfl ?_
  refine zhP (z:=k) (by decide) rfl rfl zgV (zh0 he1) ?_
  refine zng (xs:=([x.in_.c0,x.in_.c1,x.in_.c2,x.in_.c3]:List Int)) (z:=k) (u:=e1) (off:=0+2) 3 hS (by decide) rfl rfl (.st hS0 3 rfl (by omega)) rfl he1 zah zas ?_
  refine Om (.i k) ?_
  refine zhP (z:=k) (by decide) rfl rfl zgV (zh0 he2) ?_
  refine zng (xs:=([al.c0,al.c1,al.c2,al.c3]:List Int)) (z:=k) (u:=e2) (off:=0) 1 hS (by decide) rfl rfl (.st hS0 1 rfl (by omega)) rfl he2 zah zas ?_
  refine Oi (.b (e1==e2)) ?_
  refine Ni ?_
  refine Ws ?_
  rcases bft (e1==e2) with he | he
  ·replace hSB:=ifT hSB he
   refine Ct he ?_
   refine za8 ?_
   refine zal ?_
   refine zar ?_
   exact zam (SC,q,pre) (.k (.k (.k (.k (.k (.k (.k (.k .nil)))))))) ⟨hS.up (by omega),hpre,hSB⟩
  replace hSB:=ifF hSB he
  refine Cf he ?_
  refine zax ?_
  refine Ws ?_
  obtain ⟨rr,hrr,hSB⟩:=zaf hSB
  obtain ⟨u,hu,hSB⟩:=zaf hSB
  obtain ⟨SD,hSD,hSB⟩:=zaf hSB
  refine Sq ?_
  have hS0:=hS
  refine zcg (n:=20) rfl (by kernel_rfl) ?_
  refine Om (pA Box_.cells a0) ?_
  refine ziZ (f:=Box_.cells) (p:=a0) (u:=b) (by decide) rfl hb0 ?_
  refine Of ((Box.cells b.Box)) zdV ?_
  refine Of ((Box.cells b.Box)) za7 ?_
  refine Olg (.agg (Wheel.cells b.Box.Wheel)) zbw ?_
  refine zaR (by decide) zcu rfl ?_
  refine zaR (by decide) zds rfl ?_
  refine za4 (v:=.i x.Stand.Place) 3 hS (by decide) rfl rfl (.st hS0 3 rfl (by omega)) (po zah zas) ?_
  refine zbQ (cs:=[.i x.Stand.Place,.i 0]) (by decide) zcB zhT rfl ?_
  refine Om (.i k) ?_
  refine zaV (es:=[[.i k]]) hS (by decide) zaw zbm rfl zbe rfl (by decide) (by omega) fun H hS=>?_
  refine zau (bs:=[.agg (Wheel.cells b.Box.Wheel),.agg [.i x.Stand.Place,.i 0],.sl (.id (g3+1+2+8+10)) 1 (([k]:List Int).map cI)]) (by decide) rfl rfl ((zlJ hrr).le (.k (.k (.cons (.sl _ _ _) .nil)))) ?_
  refine Om (.tup [.agg (Stand.cells rr.1),.i rr.2.1,.i rr.2.2]) ?_
  refine Ox (.agg (Stand.cells rr.1)) ?_
  refine Ox (.i rr.2.1) ?_
  refine Ox (.i rr.2.2) ?_
  refine zbP hS (by decide) zcB (by omega) fun H hS=>?_
  refine za2 (v:=.agg (Stand.cells rr.1)) (ns:=(Stand.cells rr.1)) (L':=[(g3+1+2+8+16,.cells (Stand.cells rr.1)),(g3+1+2+8+10,.row 3 1),quB PointT_.cells q pre SC.2,(g+0,.cells (Bag_.cells al)),(g+2+5,.cells [.mp (g+2+0)]),(g1+3+3,.cells (PointT_.cells x)),(g+2+7+2,.cells [quV 7 q pre SC.2]),(g+2+0,.obj none (zaH (mpw zad zat SC.1)))]) 0 hS rfl rfl (.behind (by kernel_rfl)) rfl rfl zeD nlb rfl fun H hS=>?_
  refine Oa (.i rr.2.1) ?_
  refine Oa (.i rr.2.2) ?_
  refine Ni ?_
  replace hS:=hS.keep (L':=[(g3+1+2+8+16,.cells (Stand.cells rr.1)),quB PointT_.cells q pre SC.2,(g+0,.cells (Bag_.cells al)),(g+2+5,.cells [.mp (g+2+0)]),(g1+3+3,.cells (PointT_.cells x)),(g+2+7+2,.cells [quV 7 q pre SC.2]),(g+2+0,.obj none (zaH (mpw zad zat SC.1)))]) [true,false,true,true,true,true,true,true] rfl
  refine zbd (L':=[quB PointT_.cells q pre SC.2,(g+0,.cells (Bag_.cells al)),(g+2+5,.cells [.mp (g+2+0)]),(g1+3+3,.cells (PointT_.cells x)),(g+2+7+2,.cells [quV 7 q pre SC.2]),(g+2+0,.obj none (zaH (mpw zad zat SC.1)))]) 0 13 hS rfl rfl rfl fun H hS=>?_
  refine Ws ?_
  refine Sq ?_
  refine Rg 19 ?_
  refine Of ((Stand.cells rr.1)) zds ?_
  refine Olp (.i rr.1.Place) zah zas ?_
  refine zaR (by decide) zcu rfl ?_
  refine zaR (by decide) zb1 rfl ?_
  refine za4 (v:=.i x.Stand.Credit) 3 hS (by decide) rfl rfl .no (po zah zas) ?_
  refine Of ((Stand.cells rr.1)) zb1 ?_
  refine Olp (.i rr.1.Credit) zah zas ?_
  refine Oi (.i (w64 (x.Stand.Credit+rr.1.Credit))) ?_
  refine zbQ (cs:=[.i rr.1.Place,.i (w64 (x.Stand.Credit+rr.1.Credit))]) (by decide) zcB zhT rfl ?_
  refine zaR (by decide) zfR rfl ?_
  refine za4 (v:=.agg (Bag_.cells x.in_)) 3 hS (by decide) rfl rfl .no (pg zep) ?_
  refine zaR (by decide) ziL rfl ?_
  refine za4 (v:=.i x.bought) 3 hS (by decide) rfl rfl .no (po zah zas) ?_
  refine Of ((Stand.cells rr.1)) zb1 ?_
  refine Olp (.i rr.1.Credit) zah zas ?_
  refine Oi (.i (w64 (x.bought+rr.1.Credit))) ?_
  refine zbQ (cs:=[.i rr.1.Place,.i (w64 (x.Stand.Credit+rr.1.Credit)),.i x.in_.c0,.i x.in_.c1,.i x.in_.c2,.i x.in_.c3,.i (w64 (x.bought+rr.1.Credit))]) (by decide) zfd zkW rfl ?_
  refine zbP hS (by decide) zfd (by omega) fun H hS=>?_
  refine za2 (v:=.agg [.i rr.1.Place,.i (w64 (x.Stand.Credit+rr.1.Credit)),.i x.in_.c0,.i x.in_.c1,.i x.in_.c2,.i x.in_.c3,.i (w64 (x.bought+rr.1.Credit))]) (ns:=[.i rr.1.Place,.i (w64 (x.Stand.Credit+rr.1.Credit)),.i x.in_.c0,.i x.in_.c1,.i x.in_.c2,.i x.in_.c3,.i (w64 (x.bought+rr.1.Credit))]) (L':=[(g3+1+2+8+20+17,.cells [.i rr.1.Place,.i (w64 (x.Stand.Credit+rr.1.Credit)),.i x.in_.c0,.i x.in_.c1,.i x.in_.c2,.i x.in_.c3,.i (w64 (x.bought+rr.1.Credit))]),quB PointT_.cells q pre SC.2,(g+0,.cells (Bag_.cells al)),(g+2+5,.cells [.mp (g+2+0)]),(g1+3+3,.cells (PointT_.cells x)),(g+2+7+2,.cells [quV 7 q pre SC.2]),(g+2+0,.obj none (zaH (mpw zad zat SC.1)))]) 0 hS rfl rfl .no rfl rfl zjH nlb rfl fun H hS=>?_
  refine Ni ?_
  refine Ws ?_
  refine Sq ?_
  refine Rg 8 ?_
  refine Om (.i k) ?_
  refine zaR (by decide) zfR rfl ?_
  refine zhP (z:=k) (by decide) rfl rfl zgV (zh0 he1) ?_
  refine zng (xs:=([x.in_.c0,x.in_.c1,x.in_.c2,x.in_.c3]:List Int)) (z:=k) (u:=e1) (off:=0+2) 0 hS (by decide) rfl rfl .no rfl he1 zah zas ?_
  refine Oi (.i (w64 (e1+1))) ?_
  refine zaR (by decide) zfR rfl ?_
  refine zhP (z:=k) (by decide) rfl rfl zgV (zh0 he1) ?_
  refine znh (xs:=([x.in_.c0,x.in_.c1,x.in_.c2,x.in_.c3]:List Int)) (u:=u) (z:=k) (v:=(w64 (e1+1))) (off:=0+2) (cs':=[.i rr.1.Place,.i (w64 (x.Stand.Credit+rr.1.Credit)),.i (u.getD 0 0),.i (u.getD 1 0),.i (u.getD 2 0),.i (u.getD 3 0),.i (w64 (x.bought+rr.1.Credit))]) (L':=[(g3+1+2+8+20+17,.cells [.i rr.1.Place,.i (w64 (x.Stand.Credit+rr.1.Credit)),.i (u.getD 0 0),.i (u.getD 1 0),.i (u.getD 2 0),.i (u.getD 3 0),.i (w64 (x.bought+rr.1.Credit))]),quB PointT_.cells q pre SC.2,(g+0,.cells (Bag_.cells al)),(g+2+5,.cells [.mp (g+2+0)]),(g1+3+3,.cells (PointT_.cells x)),(g+2+7+2,.cells [quV 7 q pre SC.2]),(g+2+0,.obj none (zaH (mpw zad zat SC.1)))]) 0 hS rfl rfl .no rfl rfl hu zjd rfl rfl fun H hS=>?_
  refine Ni ?_
  replace hS:=hS.perm (L':=[quB PointT_.cells q pre SC.2,(g+0,.cells (Bag_.cells al)),(g+2+5,.cells [.mp (g+2+0)]),(g1+3+3,.cells (PointT_.cells x)),(g+2+7+2,.cells [quV 7 q pre SC.2]),(g+2+0,.obj none (zaH (mpw zad zat SC.1))),(g3+1+2+8+20+17,.cells [.i rr.1.Place,.i (w64 (x.Stand.Credit+rr.1.Credit)),.i (u.getD 0 0),.i (u.getD 1 0),.i (u.getD 2 0),.i (u.getD 3 0),.i (w64 (x.bought+rr.1.Credit))])]) (List.perm_append_comm (l₁:=[_,_,_,_,_,_]) (l₂:=[_]))
  refine Ws ?_
  refine Rg 4 ?_
  refine Om (.fn (.func 129) [] [.ptr (g+0) 0,.ptr (g+2+5) 0,.ptr (g1+3+3) 0,.ptr (g+2+7+2) 0]) ?_
  refine Om (.i k) ?_
  refine za4 (v:=.agg [.i rr.1.Place,.i (w64 (x.Stand.Credit+rr.1.Credit)),.i (u.getD 0 0),.i (u.getD 1 0),.i (u.getD 2 0),.i (u.getD 3 0),.i (w64 (x.bought+rr.1.Credit))]) 6 hS (by decide) rfl rfl .no (pg zgo) ?_
  refine zod (M:=znt al x (g+0) (g+2+5) (g1+3+3) (g+2+7+2) (g+2+0) q pre SC) (L:=[(g3+1+2+8+20+17,.cells [.i rr.1.Place,.i (w64 (x.Stand.Credit+rr.1.Credit)),.i (u.getD 0 0),.i (u.getD 1 0),.i (u.getD 2 0),.i (u.getD 3 0),.i (w64 (x.bought+rr.1.Credit))])]) (.inl rfl) hS (by decide) rfl rfl (zgq hSD hpre (show (ids (znt al x (g+0) (g+2+5) (g1+3+3) (g+2+7+2) (g+2+0) q pre SC)).Nodup from (hS.keep (L':=znt al x (g+0) (g+2+5) (g1+3+3) (g+2+7+2) (g+2+0) q pre SC) [true,true,true,true,true,true,false] rfl).nd)) (by omega) ?_
  rintro v M' H g4 ⟨q4,pre4,rfl,rfl,hq4,hpr4⟩ hg4 hS
  have hpre4:∀c,c∈pre4->Go.AM.Pure c:=by rcases hpr4 with rfl | rfl;exact hpre;exact fun c hc=>by simp at hc
  refine Ni ?_
  refine zag ?_
  exact zam (SD,q4,pre4) (.k (.k (.k (.k (.k (.k (.k (.k .nil)))))))) ⟨hS.keep (L':=znt al x (g+0) (g+2+5) (g1+3+3) (g+2+7+2) (g+2+0) q4 pre4 SD) [true,true,true,true,true,true,false] rfl,hpre4,hSB⟩
theorem zfS {n:Nat} {a0:Option Box_} {r:Bag_} (hM:zek n a0=some r):zaD Try.prog 100 [pA Box_.cells a0] (.agg [.i r.c0,.i r.c1,.i r.c2,.i r.c3]):=by
 refine zak mixed Try.func100 rfl (by decide) Try.ntmps100 (by simp) ?pure fun H0 g hf=>?_
 case pure=>exact .agg _ (zab (.v _) (zab (.v _) (zab (.v _) (zab (.v _) zaG))))
 rw [zai]
 change wpA _ _ _ _ (Fr.of [(0,pA Box_.cells a0)]) H0 g
 have hS:=St.start hf
 refine Sq ?_
 refine Rg 1 ?_
 refine zbP hS (by decide) zki (by omega) fun H hS=>?_
 refine Ni ?_
 refine Ws ?_
 refine Sq ?_
 refine Rg 1 ?_
 refine zbP hS (by decide) zki (by omega) fun H hS=>?_
 refine Ni ?_
 refine Ws ?_
 refine zaW (J:=Int×Int×Int×Int) (fun j=>[(2,.ptr (g+0) 0),(3,.ptr (g+1+0) 0)]) (fun j H' g'=>St (·<g) H0 [(g+1+0,.cells [.i j.1,.i j.2.1,.i j.2.2.1,.i j.2.2.2]),(g+0,.cells [.i 0,.i 0,.i 0,.i 0])] H' g'/\zd3 j.1 j.2.1 j.2.2.1 j.2.2.2=some r) ?_ ?_
 ·rintro ⟨v1,v2,v3,v4⟩ H g1 ⟨hS,hM⟩
  change wpA _ _ _ _ (Fr.of [(2,.ptr (g+0) 0),(3,.ptr (g+1+0) 0)]) _ _
  replace hS:St (·<g) H0 [(g+1+0,.cells [.i v1,.i v2,.i v3,.i v4]),(g+0,.cells [.i 0,.i 0,.i 0,.i 0])] H g1:=hS
  replace hM:zd3 v1 v2 v3 v4=some r:=hM
  refine Sq ?_
  refine Rg 2 ?_
  refine za4 (v:=.agg [.i v1,.i v2,.i v3,.i v4]) 0 hS (by decide) rfl rfl .no (pg zep) ?_
  refine za2 (v:=.agg [.i v1,.i v2,.i v3,.i v4]) (ns:=[.i v1,.i v2,.i v3,.i v4]) (L':=[(g+1+0,.cells [.i v1,.i v2,.i v3,.i v4]),(g+0,.cells [.i v1,.i v2,.i v3,.i v4])]) 1 hS rfl rfl .no rfl rfl zog nlb rfl fun H hS=>?_
  refine Ni ?_
  replace hS:=hS.keep (L':=[(g+0,.cells [.i v1,.i v2,.i v3,.i v4])]) [false,true] rfl
  refine Ws ?_
  refine zaQ ?_
  refine zaY (x:=.agg [.i v1,.i v2,.i v3,.i v4]) (f:=fun r=>.agg [.i r.c0,.i r.c1,.i r.c2,.i r.c3]) (.inr rfl) ?_ (.refl _) (Option.some.inj hM) hS
  exact (zaA (zde (x:=.agg [.i v1,.i v2,.i v3,.i v4]) 0 hS rfl rfl (pg zep)))
 ·refine Sq ?_
  refine Rg 7 ?_
  refine Om (pA Box_.cells a0) ?_
  obtain ⟨x5,hx5,hM⟩:=zaf hM
  refine ziZ (f:=Box_.cells) (p:=a0) (u:=x5) (by decide) rfl hx5 ?_
  refine Of ((Box.cells x5.Box)) zdV ?_
  refine Of ((Box.cells x5.Box)) zco ?_
  refine Olp (.sl .no 1 (x5.Box.Found.map cI)) zaq zaE ?_
  refine zbi (n:=x5.Box.Found.length) (by decide) rfl (List.length_map _) zaM ?_
  refine Om (.i 0) ?_
  refine Ni ?_
  refine Ws ?_
  refine zao ?_
  refine zbj (V:=Int×Int×Int×Int×Int) (fun v=>[(0,pA Box_.cells a0),(2,.ptr (g+0) 0),(3,.ptr (g+1+0) 0),(10,.sl .no 1 (x5.Box.Found.map cI)),(11,.i (x5.Box.Found.length:Int)),(12,.i v.1)]) (fun v m3 H' g'=>St (·<g) H0 [(g+1+0,.cells [.i v.2.1,.i v.2.2.1,.i v.2.2.2.1,.i v.2.2.2.2]),(g+0,.cells [.i 0,.i 0,.i 0,.i 0])] H' g'/\zbY a0 x5 m3 v.1 v.2.1 v.2.2.1 v.2.2.2.1 v.2.2.2.2=some r) (n:=n) (0,0,0,0,0) (.k (.k (.k (.k (.k (.k .nil)))))) ⟨(hS.keep [true,true] rfl).up (by omega),hM⟩ ?_
  rintro ⟨v7,v8,v9,v10,v11⟩ m3 H g3 ⟨hS,hM⟩
  obtain _ | m3:=m3
  ·exact nomatch (show none=some _ from hM)
  change wpA _ _ _ _ (Fr.of [(0,pA Box_.cells a0),(2,.ptr (g+0) 0),(3,.ptr (g+1+0) 0),(10,.sl .no 1 (x5.Box.Found.map cI)),(11,.i (x5.Box.Found.length:Int)),(12,.i v7)]) _ _
  replace hS:St (·<g) H0 [(g+1+0,.cells [.i v8,.i v9,.i v10,.i v11]),(g+0,.cells [.i 0,.i 0,.i 0,.i 0])] H g3:=hS
  replace hM:zdg a0 x5 (zbY a0 x5 m3) v7 v8 v9 v10 v11=some r:=hM
  refine Sq ?_
  refine Rg 1 ?_
  refine Oi (.b (decide (v7<(x5.Box.Found.length:Int)))) ?_
  refine Ni ?_
  refine Ws ?_
  refine Sq ?_
  rcases bft (decide (v7<(x5.Box.Found.length:Int))) with hb12 | hb12
  ·replace hM:=ifT hM hb12
   refine Ct hb12 ?_
   refine zax ?_
   refine Ws ?_
   refine Sq ?_
   refine zao ?_
   refine Sq ?_
   refine Rg 5 ?_
   refine Om (.i v7) ?_
   obtain ⟨x13,hx13,hM⟩:=zaf hM
   refine zaL (xs:=x5.Box.Found) (f:=cI) (z:=v7) (u:=x13) (by decide) rfl rfl zaw hx13 ?_
   refine Olp (.i x13) zah zas ?_
   refine Oa (.i v7) ?_
   refine Oa (.i x13) ?_
   refine Ni ?_
   refine Ws ?_
   refine Rg 13 ?_
   refine Om (.i v7) ?_
   refine Om (.i x13) ?_
   refine Om (pA Box_.cells a0) ?_
   obtain ⟨x14,hx14,hM⟩:=zaf hM
   refine ziZ (f:=Box_.cells) (p:=a0) (u:=x14) (by decide) rfl hx14 ?_
   refine Of ((Box.cells x14.Box)) zdV ?_
   refine Of ((Box.cells x14.Box)) zdr ?_
   refine Olp (.sl .no 1 (x14.Box.Slugs.map cI)) zaq zaE ?_
   refine Om (.i v7) ?_
   obtain ⟨x15,hx15,hM⟩:=zaf hM
   refine zaL (xs:=x14.Box.Slugs) (f:=cI) (z:=v7) (u:=x15) (by decide) rfl rfl zaw hx15 ?_
   refine Olp (.i x15) zah zas ?_
   refine Oi (.i (w64 (x13+x15))) ?_
   obtain ⟨x16,hx16,hM⟩:=zaf hM
   refine zhP (z:=v7) (by decide) rfl rfl zgV (zh0 hx16) ?_
   obtain ⟨l17,hl17,hM⟩:=zaf hM
   refine znh (xs:=([v8,v9,v10,v11]:List Int)) (u:=l17) (z:=v7) (v:=(w64 (x13+x15))) (off:=0) (cs':=[.i (l17.getD 0 0),.i (l17.getD 1 0),.i (l17.getD 2 0),.i (l17.getD 3 0)]) (L':=[(g+1+0,.cells [.i (l17.getD 0 0),.i (l17.getD 1 0),.i (l17.getD 2 0),.i (l17.getD 3 0)]),(g+0,.cells [.i 0,.i 0,.i 0,.i 0])]) 0 hS rfl rfl .no rfl rfl hl17 zjd rfl rfl fun H hS=>?_
   refine Ni ?_
   refine zag ?_
   refine Ws ?_
   refine Rg 2 ?_
   refine Oi (.i (w64 (v7+1))) ?_
   refine Om (.i (w64 (v7+1))) ?_
   refine Ni ?_
   exact za1 (w64 (v7+1),(l17.getD 0 0),(l17.getD 1 0),(l17.getD 2 0),(l17.getD 3 0)) (Nat.lt_succ_self _) (.k (.k (.k (.k (.k (.k .nil)))))) ⟨(hS.keep [true,true] rfl).up (by omega),hM⟩
  ·replace hM:=ifF hM hb12
   refine Cf hb12 ?_
   refine za8 ?_
   refine zal ?_
   refine zaj ?_
   refine zar ?_
   exact zam (v8,v9,v10,v11) (.k (.k .nil)) ⟨(hS.keep [true,true] rfl).up (by omega),hM⟩
theorem zql (b:Option Box_):Go.AM.Pure (pA Box_.cells b):=zpl (fun x=>zab (.v _) (zab (.sl _ _ (zaC (fun x=>(zab (.v _) zaG)))) (zab (.sl _ _ (zaC (fun x=>(zab (.v _) zaG)))) (zab (.sl _ _ (zaC (fun x=>(zab (.v _) zaG)))) (zab (.sl _ _ (zaC (fun x=>(zab (.v _) zaG)))) (zab (.sl _ _ (zaC (fun x=>(zab (.v _) zaG)))) (zab (.v _) (zab (.v _) zaG)))))))) b
theorem zhy {n:Nat} {a0:Option Box_} {r:List Int} (hM:zdq n a0=some r):zaD Try.prog 61 [pA Box_.cells a0] (.sl .no 1 (r.map cI)):=by
 refine zak mixed Try.func61 rfl (by decide) Try.ntmps61 (by simp) ?pure fun H0 g hf=>?_
 case pure=>exact .sl _ _ (zaC (fun x=>(zab (.v _) zaG)))
 rw [zai]
 change wpA _ _ _ _ (Fr.of [(0,pA Box_.cells a0)]) H0 g
 have hS:=St.start hf
 unfold zdq at hM
 refine Sq ?_
 refine Rg 1 ?_
 refine Oa (.sl .nil 0 []) ?_
 refine Ni ?_
 refine Ws ?_
 refine Sq ?_
 refine Rg 10 ?_
 refine Om (pA Box_.cells a0) ?_
 refine Om (pA Box_.cells a0) ?_
 obtain ⟨r1,hr1,hM⟩:=zaf hM
 refine zau (bs:=[pA Box_.cells a0]) (by decide) rfl rfl ((zfS hr1).le (.k .nil)) ?_
 obtain ⟨M,hMM,hM⟩:=zaf hM
 refine zp1 (bs:=[pA Box_.cells a0,.agg (Bag_.cells r1)]) (p:=zaH (mpw zad zat M)) hS (by decide) rfl rfl ((zhc hMM).le (.k (.k .nil))) (zab (zql _) (zab (.agg _ (zab (.v _) (zab (.v _) (zab (.v _) (zab (.v _) zaG))))) zaG)) (by omega) fun H hS=>?_
 refine Om (pA Box_.cells a0) ?_
 obtain ⟨r2,hr2,hM⟩:=zaf hM
 refine zau (bs:=[pA Box_.cells a0]) (by decide) rfl rfl ((zfS hr2).le (.k .nil)) ?_
 have hok:zjw M=true:=by
  cases h:zjw M with
  | true=>rfl
  | false=>rw [if_neg (by rw [h];simp)] at hM;cases hM
 rw [if_pos hok] at hM
 obtain rfl:=Option.some.inj hM
 refine zod (M:=[((g+1+3),.obj none (zaH (mpw zad zat M)))]) (L:=[]) (.inl rfl) hS (by decide) rfl rfl (zi3 hok) (by omega) ?_
 rintro v M' H gE ⟨l,jn,hlp,hjn,rfl,rfl⟩ hgE hS
 have hEp:(l.foldl (zbb r2) []).Perm (zfb r2 M):=zol hlp
 have hEn:((l.foldl (zbb r2) []).map (·.1)).Nodup:=(zlE r2 l).nd
 have hEk:∀x,x∈l.foldl (zbb r2) []->okI x.1=true:=(zjP l [] (fun b=>okI b=true) (fun p hp=>by obtain ⟨x,hx,rfl⟩:=List.mem_map.1 (hlp.mem_iff.1 hp);exact List.all_eq_true.1 (Bool.and_eq_true_iff.1 hok).1 x hx) (fun p hp=>by simp at hp) (by simp)).1
 have hEl:(l.foldl (zbb r2) []).length<=1048576:=by have h1:=zkY (al:=r2) l [];have h2:=hlp.length_eq;have h3:=of_decide_eq_true (Bool.and_eq_true_iff.1 hok).2;simp only [List.length_map,List.length_nil] at h1 h2;omega
 refine zsU (.inl rfl) hS (by decide) rfl rfl zuZ (by omega) fun H hS=>?_
 refine zqa (E:=l.foldl (zbb r2) []) (cv:=zad) 0 1 (.inl rfl) hS (by decide) rfl rfl zqj (by kernel_rfl) rfl rfl hEk hEn hEl (by omega) ?_
 rw [show zfK ((l.foldl (zbb r2) []).map (·.1))=zfK ((zfb r2 M).map (·.1)) from zhQ (hEp.map _)]
 refine Oa (.sl .no 1 ((zfK ((zfb r2 M).map (·.1))).map cI)) ?_
 refine Ni ?_
 refine zeJ [(2,.sl .no 1 ((zfK ((zfb r2 M).map (·.1))).map cI))] (.k .nil) ?_
 refine zaQ ?_
 refine zaY (x:=.sl .no 1 ((zfK ((zfb r2 M).map (·.1))).map cI)) (f:=fun (r:List Int)=>.sl .no 1 (r.map cI)) (.inr rfl) ?_ (.refl _) rfl hS
 exact (zaA (zae rfl))
theorem znu {n:Nat} {a0:Box} {r:(List Int)×Int} (hM:zhK n a0=some r):zaD Try.prog 18 [.agg (Box.cells a0)] (.tup [.sl .no 1 (r.1.map cI),.i r.2]):=by
 refine zak mixed Try.func18 rfl (by decide) Try.ntmps18 (by simp) ?pure fun H0 g hf=>?_
 case pure=>exact .tup _ (zab (.sl _ _ (zaC (fun x=>(zab (.v _) zaG)))) (zab (.v _) zaG))
 rw [zai]
 change wpA _ _ _ _ (Fr.of [(0,.agg (Box.cells a0))]) H0 g
 have hS:=St.start hf
 refine Sq ?_
 refine Rg 3 ?_
 refine zcI (v:=.agg (Box.cells a0)) (cs:=(Box.cells a0)) hS (by decide) rfl rfl (by omega) fun H hS=>?_
 refine Oa (.sl .nil 0 []) ?_
 refine Oa (.i 0) ?_
 refine Ni ?_
 refine zbd (L':=[]) 0 1 hS rfl rfl rfl fun H hS=>?_
 refine Ws ?_
 refine Sq ?_
 refine Rg 7 ?_
 refine Olg (.agg (Box.cells a0)) za5 ?_
 obtain ⟨r1,hr1,hM⟩:=zaf hM
 refine zau (bs:=[.agg (Box.cells a0)]) (by decide) rfl rfl ((zgd hr1).le (.k .nil)) ?_
 refine Om (.tup [pA Box_.cells r1.1,.i r1.2]) ?_
 refine Ox (pA Box_.cells r1.1) ?_
 refine Ox (.i r1.2) ?_
 refine Oa (pA Box_.cells r1.1) ?_
 refine Oa (.i r1.2) ?_
 refine Ni ?_
 refine Ws ?_
 refine Sq ?_
 refine Sq ?_
 refine Rg 2 ?_
 refine Om (.i r1.2) ?_
 refine Oi (.b (r1.2 != 0)) ?_
 refine Ni ?_
 refine Ws ?_
 rcases bft (r1.2 != 0) with hb2 | hb2
 ·replace hM:=ifT hM hb2
  refine Ct hb2 ?_
  refine Sq ?_
  refine Rg 3 ?_
  refine Om (.i r1.2) ?_
  refine Oa (.sl .nil 0 []) ?_
  refine Oa (.i r1.2) ?_
  refine Ni ?_
  refine Ws ?_
  refine zaQ ?_
  refine zap ?_
  refine zaY (x:=.tup [.sl .nil 0 [],.i r1.2]) (f:=fun r=>.tup [.sl .no 1 (r.1.map cI),.i r.2]) (.inr rfl) ?_ (.tupL (.cons (.sl0 .nil 1 0) (.k .nil))) (Option.some.inj hM) hS
  exact (zcP (zae (x:=.sl .nil 0 []) rfl) (zae (x:=.i r1.2) rfl))
 ·replace hM:=ifF hM hb2
  refine Cf hb2 ?_
  refine zax ?_
  refine Ws ?_
  refine Sq ?_
  refine Rg 4 ?_
  refine Om (pA Box_.cells r1.1) ?_
  obtain ⟨r3,hr3,hM⟩:=zaf hM
  refine zau (bs:=[pA Box_.cells r1.1]) (by decide) rfl rfl ((zhy hr3).le (.k .nil)) ?_
  refine Oa (.sl .no 1 (r3.map cI)) ?_
  refine Oa (.i 0) ?_
  refine Ni ?_
  refine Ws ?_
  refine zaQ ?_
  refine zaY (x:=.tup [.sl .no 1 (r3.map cI),.i 0]) (f:=fun r=>.tup [.sl .no 1 (r.1.map cI),.i r.2]) (.inr rfl) ?_ (.refl _) (Option.some.inj hM) hS
  exact (zcP (zae (x:=.sl .no 1 (r3.map cI)) rfl) (zae (x:=.i 0) rfl))
theorem zjU {a0:List Int} {r:List Int} (hM:slices_Clone_int a0=some r):zg3 Try.prog 161 [.sl .no 1 (a0.map cI)] 3 1 (r.map cI):=by
 have hr:r=a0:=by
  unfold slices_Clone_int app at hM
  split at hM
  ·injection hM with hM;rw [←hM];rfl
  ·cases hM
 refine zph mixed Try.func161 rfl (by decide) Try.ntmps161 (by simp) ?pure fun H0 g hf=>?_
 case pure=>exact zaC (fun x=>(zab (.v _) zaG))
 rw [zai]
 change wpA _ _ _ _ (Fr.of [(0,.sl .no 1 (a0.map cI))]) H0 g
 have hS:=St.start hf
 refine Sq ?_
 refine Rg 1 ?_
 refine Oa (.sl .nil 0 []) ?_
 refine Ni ?_
 refine Ws ?_
 refine Sq ?_
 refine Sq ?_
 refine Rg 2 ?_
 refine Om (.sl .no 1 (a0.map cI)) ?_
 refine zA4 (t:=22) (tg:=.no) (k:=1) (es:=a0.map cI) (e:=true) (by decide) rfl rfl rfl rfl zaM (fun _=>?_) (fun hnil=>?_)
 ·refine Ni ?_
  refine Ws ?_
  refine zhI (e:=false==true) rfl rfl ?_
  refine zax ?_
  refine Ws ?_
  refine Sq ?_
  refine Rg 4 ?_
  refine zaV (es:=[]) hS (by decide) zaw zbm rfl zbe rfl (by decide) (by omega) fun H hS=>?_
  refine Om (.sl .no 1 (a0.map cI)) ?_
  refine zcp (xs:=([]:List Int)) (ys:=a0) (zs:=r) (f:=cI) (L':=[(g+1+2+0,.row 3 r.length)]) 0 hS (by decide) rfl rfl rfl rfl .no zaw zbm zbe hM rfl fun H hS=>?_
  refine Oa (.sl (.id (g+1+2+0)) 1 (r.map cI)) ?_
  refine Ni ?_
  refine Ws ?_
  refine zaQ ?_
  refine zwR (j:=g+1+2+0) 0 (.inr rfl) ?_ hS rfl (List.length_map _).symm
  exact zaA (zae rfl)
 ·refine Ni ?_
  refine Ws ?_
  refine zln (e:=true==true) rfl rfl ?_
  refine Sq ?_
  refine Rg 1 ?_
  refine Oa (.sl .nil 0 []) ?_
  refine Ni ?_
  refine Ws ?_
  refine zaQ ?_
  refine zap ?_
  refine zwS (k':=0) (.inr rfl) ?_ hS (by decide) (by rw [hr];exact hnil)
  exact zaA (zae rfl)
theorem zbp {n:Nat} {a0:Option Box_} {a1:List Int} {r:Int} (hM:zbg n a0 a1=some r):zaD Try.prog 63 [pA Box_.cells a0,.sl .no 1 (a1.map cI)] (.i r):=by
 refine zak mixed Try.func63 rfl (by decide) Try.ntmps63 (by simp) ?pure fun H0 g hf=>?_
 case pure=>exact .v _
 rw [zai]
 change wpA _ _ _ _ (Fr.of [(0,pA Box_.cells a0),(1,.sl .no 1 (a1.map cI))]) H0 g
 have hS:=St.start hf
 refine Sq ?_
 refine Rg 1 ?_
 refine Oa (.i 0) ?_
 refine Ni ?_
 refine Ws ?_
 refine Sq ?_
 refine Rg 1 ?_
 refine Oa (.i 0) ?_
 refine Ni ?_
 refine Ws ?_
 refine zaW (J:=Int) (fun j=>[(5,.i j)]) (fun j H' g'=>St (·<g) H0 [] H' g'/\zdh j=some r) ?_ ?_
 ·rintro v1 H g1 ⟨hS,hM⟩
  change wpA _ _ _ _ (Fr.of [(5,.i v1)]) _ _
  replace hS:St (·<g) H0 [] H g1:=hS
  replace hM:zdh v1=some r:=hM
  refine Sq ?_
  refine Rg 2 ?_
  refine Om (.i v1) ?_
  refine Oa (.i v1) ?_
  refine Ni ?_
  refine Ws ?_
  refine zaQ ?_
  refine zaY (x:=.i v1) (f:=fun r=>.i r) (.inr rfl) ?_ (.refl _) (Option.some.inj hM) hS
  exact (zaA (zae (x:=.i v1) rfl))
 ·refine Sq ?_
  refine Rg 3 ?_
  refine Om (.sl .no 1 (a1.map cI)) ?_
  refine zbi (n:=a1.length) (by decide) rfl (List.length_map _) zaM ?_
  refine Om (.i 0) ?_
  refine Ni ?_
  refine Ws ?_
  refine zao ?_
  refine zbj (V:=Int×Int) (fun v=>[(0,pA Box_.cells a0),(5,.i v.1),(8,.sl .no 1 (a1.map cI)),(9,.i (a1.length:Int)),(10,.i v.2)]) (fun v m2 H' g'=>St (·<g) H0 [] H' g'/\zbt a0 a1 m2 v.1 v.2=some r) (n:=n) (0,0) (.k (.k (.k (.k (.k .nil))))) ⟨(hS.keep [] rfl).up (by omega),hM⟩ ?_
  rintro ⟨v2,v3⟩ m2 H g2 ⟨hS,hM⟩
  obtain _ | m2:=m2
  ·exact nomatch (show none=some _ from hM)
  change wpA _ _ _ _ (Fr.of [(0,pA Box_.cells a0),(5,.i v2),(8,.sl .no 1 (a1.map cI)),(9,.i (a1.length:Int)),(10,.i v3)]) _ _
  replace hS:St (·<g) H0 [] H g2:=hS
  replace hM:zcO a0 a1 (zbt a0 a1 m2) v2 v3=some r:=hM
  refine Sq ?_
  refine Rg 1 ?_
  refine Oi (.b (decide (v3<(a1.length:Int)))) ?_
  refine Ni ?_
  refine Ws ?_
  refine Sq ?_
  rcases bft (decide (v3<(a1.length:Int))) with hb4 | hb4
  ·replace hM:=ifT hM hb4
   refine Ct hb4 ?_
   refine zax ?_
   refine Ws ?_
   refine Sq ?_
   refine zao ?_
   refine Sq ?_
   refine Rg 5 ?_
   refine Om (.i v3) ?_
   obtain ⟨x5,hx5,hM⟩:=zaf hM
   refine zaL (xs:=a1) (f:=cI) (z:=v3) (u:=x5) (by decide) rfl rfl zaw hx5 ?_
   refine Olp (.i x5) zah zas ?_
   refine Oa (.i v3) ?_
   refine Oa (.i x5) ?_
   refine Ni ?_
   refine Ws ?_
   refine Rg 14 ?_
   refine Om (.i v2) ?_
   refine Om (.i x5) ?_
   refine Om (pA Box_.cells a0) ?_
   obtain ⟨x6,hx6,hM⟩:=zaf hM
   refine ziZ (f:=Box_.cells) (p:=a0) (u:=x6) (by decide) rfl hx6 ?_
   refine Of ((Box.cells x6.Box)) zdV ?_
   refine Of ((Box.cells x6.Box)) za7 ?_
   refine Of ((Box.cells x6.Box)) zcC ?_
   refine Olp (.sl .no 1 (x6.Box.Wheel.Coins.map cI)) zaq zaE ?_
   refine Om (.i v3) ?_
   obtain ⟨x7,hx7,hM⟩:=zaf hM
   refine zaL (xs:=x6.Box.Wheel.Coins) (f:=cI) (z:=v3) (u:=x7) (by decide) rfl rfl zaw hx7 ?_
   refine Olp (.i x7) zah zas ?_
   refine Oi (.i (w64 (x5*x7))) ?_
   refine Oi (.i (w64 (v2+(w64 (x5*x7))))) ?_
   refine Oa (.i (w64 (v2+(w64 (x5*x7))))) ?_
   refine Ni ?_
   refine zag ?_
   refine Ws ?_
   refine Rg 2 ?_
   refine Oi (.i (w64 (v3+1))) ?_
   refine Om (.i (w64 (v3+1))) ?_
   refine Ni ?_
   exact za1 (w64 (v2+(w64 (x5*x7))),w64 (v3+1)) (Nat.lt_succ_self _) (.k (.k (.k (.k (.k .nil))))) ⟨(hS.keep [] rfl).up (by omega),hM⟩
  ·replace hM:=ifF hM hb4
   refine Cf hb4 ?_
   refine za8 ?_
   refine zal ?_
   refine zaj ?_
   refine zar ?_
   exact zam v2 (.k .nil) ⟨(hS.keep [] rfl).up (by omega),hM⟩
def zrx (xs ys:List Int) (i:Nat):Prop:=ys.length=xs.length/\∀k,k<xs.length->ys[k]?=if k<i\/xs.length<=k+i then xs[xs.length-1-k]? else xs[k]?
theorem zsZ (xs:List Int):zrx xs xs 0:=⟨rfl,fun k hk=>by rw [if_neg (by omega)]⟩
theorem zvH {xs ys:List Int} {i:Nat} (h:zrx xs ys i) (hi:xs.length<=2*i+1):ys=xs.reverse:=by
 apply List.ext_getElem?
 intro k
 by_cases hk:k<xs.length
 ·rw [h.2 k hk,List.getElem?_reverse hk]
  split
  ·rfl
  ·congr 1
   omega
 ·rw [List.getElem?_eq_none (by rw [h.1];omega),List.getElem?_eq_none (by rw [List.length_reverse];omega)]
theorem zui {xs ys:List Int} {i:Nat} (h:zrx xs ys i) (hi:2*i+1<xs.length) {a b:Int} (ha:ys[xs.length-1-i]?=some a) (hb:ys[i]?=some b):zrx xs ((ys.set i a).set (xs.length-1-i) b) (i+1):=by
 have ha2:=h.2 (xs.length-1-i) (by omega)
 rw [if_neg (by omega)] at ha2
 have hb2:=h.2 i (by omega)
 rw [if_neg (by omega)] at hb2
 refine ⟨by simp [h.1],fun k hk=>?_⟩
 by_cases h1:k=xs.length-1-i
 ·subst h1
  rw [List.getElem?_set_self (by simp [h.1];omega),if_pos (by omega),←hb,hb2]
  congr 1
  omega
 ·rw [List.getElem?_set_ne (fun e=>h1 e.symm)]
  by_cases h2:k=i
  ·subst h2
   rw [List.getElem?_set_self (by rw [h.1];omega),if_pos (by omega),←ha,ha2]
  ·rw [List.getElem?_set_ne (fun e=>h2 e.symm),h.2 k hk]
   by_cases h3:k<i\/xs.length<=k+i
   ·rw [if_pos h3,if_pos (by omega)]
   ·rw [if_neg h3,if_neg (by omega)]
theorem ziU {xs:List Int} {j:Nat} (hx:xs≠[]) (hl:xs.length<=1048576):zjn Try.prog 162 [.ms j 0 1 xs.length xs.length] j (xs.map cI).flatten (.tup []) (xs.reverse.map cI).flatten:=by
 refine zrc mixed Try.func162 rfl (by decide) Try.ntmps162 (by simp) (fun H _=>.tup _ fun c hc=>by simp at hc) (zsx (fun x=>(zab (.v _) zaG)) _) fun H0 g hf hp=>?_
 rw [zai]
 have hn0:xs.length≠0:=fun e=>hx (List.length_eq_zero_iff.1 e)
 have hms:AV.ms j 0 1 xs.length xs.length=msn j 1 xs.length:=by unfold msn;rw [if_neg hn0]
 rw [hms]
 have hTn:∀ys:List Int,ys.length=xs.length->zil j xs.length (ys.map cI)=[(j,.cells (ys.map cI).flatten)]:=fun ys hy=>by
  unfold zil zhh
  rw [if_pos (by rw [List.length_map];exact hy),if_neg (fun e=>by rw [List.map_eq_nil_iff] at e;subst e;exact hn0 hy.symm)]
 change wpA _ _ _ _ (Fr.of [(0,msn j 1 xs.length)]) H0 g
 have hS:=St.startP hf hp
 replace hS:St (fun i=>i<g/\i≠j) H0 ([]++zil j xs.length (xs.map cI)) H0 g:=by rw [List.nil_append,hTn xs rfl];exact hS
 refine Sq ?_
 refine Rg 5 ?_
 refine Om (msn j 1 xs.length) ?_
 refine zw1 (by decide) rfl zaM ?_
 refine zn8 (v:=.i ((xs.length:Int)-1)) (by decide) rfl rfl (by show some (AV.i (w64 ((xs.length:Int)-1)))=_;rw [zaI (by omega) (by omega)]) ?_
 refine Oa (.i 0) ?_
 refine Oa (.i ((xs.length:Int)-1)) ?_
 refine Ni ?_
 refine Ws ?_
 refine zao ?_
 refine zbj (V:=Nat×List Int) (fun v=>[(0,msn j 1 xs.length),(2,.i (v.1:Int)),(3,.i ((xs.length:Int)-1-(v.1:Int)))]) (fun v k H' g'=>St (fun i=>i<g/\i≠j) H0 ([]++zil j xs.length (v.2.map cI)) H' g'/\zrx xs v.2 v.1/\k=xs.length-v.1) (n:=xs.length) (0,xs) (.k (.k (.cons (by show Le _ (AV.i ((xs.length:Int)-1));rw [show ((xs.length:Int)-1-((0:Nat):Int))=(xs.length:Int)-1 by omega];exact .refl _) .nil))) ⟨hS.up (by omega),zsZ xs,by omega⟩ ?_
 rintro ⟨p,ys⟩ k H g1 ⟨hS,hR,hk⟩
 change wpA _ _ _ _ (Fr.of [(0,msn j 1 xs.length),(2,.i (p:Int)),(3,.i ((xs.length:Int)-1-(p:Int)))]) _ _
 replace hS:St (fun i=>i<g/\i≠j) H0 ([]++zil j xs.length (ys.map cI)) H g1:=hS
 replace hR:zrx xs ys p:=hR
 replace hk:k=xs.length-p:=hk
 refine Sq ?_
 refine Sq ?_
 refine Rg 3 ?_
 refine Om (.i (p:Int)) ?_
 refine Om (.i ((xs.length:Int)-1-(p:Int))) ?_
 refine Oi (.b (decide ((p:Int)<(xs.length:Int)-1-(p:Int)))) ?_
 refine Ni ?_
 refine Ws ?_
 rcases bft (decide ((p:Int)<(xs.length:Int)-1-(p:Int))) with hb | hb
 rotate_left
 ·refine Cf hb ?_
  refine za8 ?_
  refine zal ?_
  refine zaj ?_
  refine zar ?_
  have hb:=of_decide_eq_false hb
  obtain rfl:=zvH hR (by omega)
  refine ⟨.inl rfl,⟨_,rfl,.refl _⟩,fun i hi=>(hS.old i hi).2,?_⟩
  rw [List.nil_append,hTn _ (List.length_reverse)] at hS
  exact hS.get (n:=0) rfl
 have hb2:=of_decide_eq_true hb
 have hlt:2*p+1<xs.length:=by omega
 obtain ⟨a,ha⟩:∃a,ys[xs.length-1-p]?=some a:=⟨_,List.getElem?_eq_getElem (by rw [hR.1];omega)⟩
 obtain ⟨c,hc⟩:∃c,ys[p]?=some c:=⟨_,List.getElem?_eq_getElem (by rw [hR.1];omega)⟩
 have ez:((xs.length:Int)-1-(p:Int)).toNat=xs.length-1-p:=by omega
 have hia:idx ys ((xs.length:Int)-1-(p:Int))=some a:=by unfold idx;rw [if_pos (by omega),ez];exact ha
 have hic:idx ys (p:Int)=some c:=by unfold idx;rw [if_pos (by omega)];exact hc
 refine Ct hb ?_
 refine zax ?_
 refine Ws ?_
 refine Sq ?_
 refine zao ?_
 have hS0:=hS
 refine zcg (n:=16) rfl (by kernel_rfl) ?_
 refine Om (msn j 1 xs.length) ?_
 refine Om (.i (p:Int)) ?_
 refine Om (msn j 1 xs.length) ?_
 refine Om (.i ((xs.length:Int)-1-(p:Int))) ?_
 refine Om (msn j 1 xs.length) ?_
 refine Om (.i ((xs.length:Int)-1-(p:Int))) ?_
 refine ziH (xs:=ys) (f:=cI) (z:=((xs.length:Int)-1-(p:Int))) (u:=a) hS (by decide) rfl rfl zaw hia ?_
 refine zpk (xs:=ys) (z:=((xs.length:Int)-1-(p:Int))) (u:=a) hS (by decide) rfl hia (.tl hS0 hia (by omega)) zah zas ?_
 refine Om (msn j 1 xs.length) ?_
 refine Om (.i (p:Int)) ?_
 refine ziH (xs:=ys) (f:=cI) (z:=(p:Int)) (u:=c) hS (by decide) rfl rfl zaw hic ?_
 refine zpk (xs:=ys) (z:=(p:Int)) (u:=c) hS (by decide) rfl hic (.tl hS0 hic (by omega)) zah zas ?_
 refine ziH (xs:=ys) (f:=cI) (z:=(p:Int)) (u:=c) hS (by decide) rfl rfl zaw hic ?_
 refine znf (xs:=ys) (z:=(p:Int)) (u:=c) (v:=a) hS rfl hic (.tl hS0 hic (by omega)) rfl zjd fun H hS=>?_
 have hia2:idx (ys.set (p:Int).toNat a) ((xs.length:Int)-1-(p:Int))=some a:=by
  unfold idx
  rw [if_pos (by omega),ez,Int.toNat_natCast,List.getElem?_set_ne (by omega)]
  exact ha
 refine ziH (xs:=(ys.set (p:Int).toNat a)) (f:=cI) (z:=((xs.length:Int)-1-(p:Int))) (u:=a) hS (by decide) rfl rfl zaw hia2 ?_
 refine znf (xs:=(ys.set (p:Int).toNat a)) (z:=((xs.length:Int)-1-(p:Int))) (u:=a) (v:=c) hS rfl hia2 (.tl hS0 hia (by omega)) rfl zjd fun H hS=>?_
 refine Ni ?_
 refine zag ?_
 refine Ws ?_
 refine Rg 6 ?_
 refine Om (.i (p:Int)) ?_
 refine zn8 (v:=.i ((p+1:Nat):Int)) (by decide) rfl rfl (by show some (AV.i (w64 ((p:Int)+1)))=_;rw [zaI (by omega) (by omega)];rfl) ?_
 refine Om (.i ((xs.length:Int)-1-(p:Int))) ?_
 refine zn8 (v:=.i ((xs.length:Int)-1-((p+1:Nat):Int))) (by decide) rfl rfl (by show some (AV.i (w64 ((xs.length:Int)-1-(p:Int)-1)))=_;rw [zaI (by omega) (by omega)];exact congrArg (fun z:Int=>some (AV.i z)) (by omega)) ?_
 refine Oa (.i ((p+1:Nat):Int)) ?_
 refine Oa (.i ((xs.length:Int)-1-((p+1:Nat):Int))) ?_
 refine Ni ?_
 refine za1 (p+1,(ys.set (p:Int).toNat a).set ((xs.length:Int)-1-(p:Int)).toNat c) (m:=xs.length-(p+1)) (by omega) (.k (.k (.k .nil))) ⟨hS.up (by omega),?_,rfl⟩
 rw [ez,Int.toNat_natCast]
 exact zui hR hlt ha hc
theorem zry {κ ν:Type} [DecidableEq κ] {ok:κ->Bool} {z:ν} {M M':List (κ×ν)} (h:M.Perm M') (k:κ):zhp ok z M k=zhp ok z M' k:=by
 have e:mok ok M k=mok ok M' k:=by
  unfold mok
  rw [Bool.eq_iff_iff]
  simp only [Bool.and_eq_true,List.all_eq_true,decide_eq_true_eq]
  rw [(h.map (·.1)).nodup_iff]
  simp only [h.mem_iff]
 unfold zhp
 rw [e]
 by_cases hk:mok ok M' k=true
 ·rw [if_pos hk,if_pos hk]
  have hn:(M.map (·.1)).Nodup:=by
   rw [←e] at hk
   exact of_decide_eq_true (Bool.and_eq_true_iff.1 hk).2
  rw [(zsX z h hn k).1]
 ·rw [if_neg hk,if_neg hk]
def zfw (j:Nat) (acts:List Int):AV:=if acts=[] then .sl .nil 0 [] else .ms j 0 1 acts.length acts.length
def zfx (j:Nat) (acts:List Int):BL:=if acts=[] then [] else [(j,.cells (acts.map cI).flatten)]
theorem zqm (acts:List Int):(acts.map cI).flatten.length=acts.length:=by rw [zim,List.length_map]
theorem zpu {P:Program} {N:Nat} {l:List (Nat×AV)} {H:zac} {g g0 i:Nat} {ops:Array Oper} {K:Fr->zac->Nat->Prop} {r:List Oper} {d:Nat} {ty:TypeId} {pos:String} {after:Array Edge} {O:Nat->Prop} {H0:zac} {L:BL} {b:Nat} {t:TypeId} {x y:Operand} {ja:Nat} {acts:List Int} {a:Int} (hS:St O H0 (zfx ja acts++L) H b) (hd:d<N) (hx:evL N l x=zfw ja acts) (hy:evL N l y=.sl .clip 1 [[.i a]]) (hk:zaK P t=some 1) (hf:za3 P t=true) (hle:acts.length+1<=1048576) (hb:b<=g0+i) (h:∀H',St O H0 (zfx (g0+i) (acts++[a])++L) H' (g0+i+1)->zaU P N none g0 ops K (i+1) r (Fr.of ((d,zfw (g0+i) (acts++[a]))::l)) H' g):zaU P N none g0 ops K i (⟨some d,.call { callee:=.builtin .append,args:=#[x,y],argTypes:=#[t,t] },ty,pos,after,none⟩::r) (Fr.of l) H g:=by
 have hsrc:zpK H 1 (evL N l y)=some (1,[.i a]):=by rw [hy];rfl
 by_cases hn:acts=[]
 ·subst hn
  refine zsD (k:=1) (k':=0) (q:=1) (ds:=[.i a]) hS hd hx hsrc hk hf (by omega) (by omega) hb fun H' hS'=>?_
  exact h H' hS'
 ·have e1:zfx ja acts=[(ja,.cells (acts.map cI).flatten)]:=if_neg hn
  have e2:zfw ja acts=.ms ja 0 1 acts.length acts.length:=if_neg hn
  have hn2:acts++[a]≠[]:=by simp
  have hpos:0<acts.length:=List.length_pos_iff.2 hn
  rw [e1] at hS
  rw [e2] at hx
  refine zsB (k:=1) (m:=acts.length) (q:=1) (ds:=[.i a]) hS hd hx (by rw [zqm];omega) hsrc hk hf hpos (by omega) hle hb fun H' hS'=>?_
  have e3:zfx (g0+i) (acts++[a])=[(g0+i,.cells ((acts.map cI).flatten++[.i a]))]:=by
   unfold zfx
   rw [if_neg hn2,List.map_append,List.flatten_append]
   rfl
  have e4:zfw (g0+i) (acts++[a])=.ms (g0+i) 0 1 (acts.length+1) (acts.length+1):=by
   unfold zfw
   rw [if_neg hn2,List.length_append,List.length_singleton]
  have:=h H'
  rw [e3,e4] at this
  exact this hS'
theorem ziV:zaD Try.prog 162 [.sl .nil 0 []] (.tup []):=by
 refine zak mixed Try.func162 rfl (by decide) Try.ntmps162 (by simp) (.tup _ zaG) fun H0 g hf=>?_
 rw [zai]
 change wpA _ _ _ _ (Fr.of [(0,.sl .nil 0 [])]) H0 g
 have hS:=St.start hf
 refine Sq ?_
 refine Rg 5 ?_
 refine Om (.sl .nil 0 []) ?_
 refine zbi (n:=0) (by decide) rfl rfl zaM ?_
 refine zn8 (v:=.i (-1)) (by decide) rfl rfl (by show some (AV.i (w64 (((0:Nat):Int)-1)))=_;rw [zaI (by omega) (by omega)];rfl) ?_
 refine Oa (.i 0) ?_
 refine Oa (.i (-1)) ?_
 refine Ni ?_
 refine Ws ?_
 refine zao ?_
 refine zbj (V:=Unit) (fun _=>[(0,.sl .nil 0 []),(2,.i 0),(3,.i (-1))]) (fun _ _ H' g'=>St (·<g) H0 [] H' g') (n:=0) () (.k (.k (.k .nil))) (hS.up (by omega)) ?_
 rintro _ k H g1 hS
 change wpA _ _ _ _ (Fr.of [(0,.sl .nil 0 []),(2,.i 0),(3,.i (-1))]) _ _
 refine Sq ?_
 refine Sq ?_
 refine Rg 3 ?_
 refine Om (.i 0) ?_
 refine Om (.i (-1)) ?_
 refine Oi (.b (decide ((0:Int) < -1))) ?_
 refine Ni ?_
 refine Ws ?_
 refine zhI (e:=decide ((0:Int) < -1)) rfl (by decide) ?_
 refine za8 ?_
 refine zal ?_
 refine zaj ?_
 refine zar ?_
 refine zaY (x:=.tup []) (f:=fun (_:Unit)=>.tup []) (u:=()) (.inl rfl) rfl (.refl _) rfl hS
theorem zuj {N:Nat} {l:List (Nat×AV)} {H:zac} {g g0 i:Nat} {ops:Array Oper} {K:Fr->zac->Nat->Prop} {r:List Oper} {d:Nat} {ty:TypeId} {pos:String} {after:Array Edge} {O:Nat->Prop} {H0:zac} {L:BL} {b:Nat} {f:Operand} {args:Array Operand} {ts:Array TypeId} {ja:Nat} {acts:List Int} (hS:St O H0 (zfx ja acts++L) H b) (hd:d<N) (ht:tgt (evL N l f)=some (162,[],[])) (ha:args.toList.map (evL N l)=[zfw ja acts]) (hle:acts.length<=1048576) (h:∀H',St O H0 (zfx ja acts.reverse++L) H' b->zaU Try.prog N none g0 ops K (i+1) r (Fr.of ((d,.tup [])::l)) H' g):zaU Try.prog N none g0 ops K i (⟨some d,.call { callee:=.value f,args:=args,argTypes:=ts },ty,pos,after,none⟩::r) (Fr.of l) H g:=by
 by_cases hn:acts=[]
 ·subst hn
  exact zau hd ht (by rw [ha];rfl) ziV (h H hS)
 ·have e1:zfx ja acts=[(ja,.cells (acts.map cI).flatten)]:=if_neg hn
  have e2:zfw ja acts=.ms ja 0 1 acts.length acts.length:=if_neg hn
  have e3:zfx ja acts.reverse=[(ja,.cells (acts.reverse.map cI).flatten)]:=if_neg (by simpa using hn)
  rw [e1] at hS
  rw [e2] at ha
  rw [e3] at h
  exact zA3 0 hS hd ht (by rw [ha];rfl) rfl zwP (ziU hn hle) rfl h
theorem zgr {n:Nat} {a0:Option Box_} {purse:List Int} {r:List Int×Bool} (hM:zcc n a0 purse=some r):zaD Try.prog 134 [pA Box_.cells a0,.sl .no 1 (purse.map cI)] (.tup [.sl .no 1 (r.1.map cI),.b r.2]):=by
 refine zak mixed Try.func134 rfl (by decide) Try.ntmps134 (by simp) ?pure fun H0 g hf=>?_
 case pure=>exact .tup _ (zab (.sl _ _ (zaC (fun x=>(zab (.v _) zaG)))) (zab (.v _) zaG))
 rw [zai]
 change wpA _ _ _ _ (Fr.of [(0,pA Box_.cells a0),(1,.sl .no 1 (purse.map cI))]) H0 g
 have hS:=St.start hf
 unfold zcc at hM
 obtain ⟨b,hb0,hM⟩:=zaf hM
 obtain ⟨r1,hr1,hM⟩:=zaf hM
 obtain ⟨al,hal,hM⟩:=zaf hM
 obtain ⟨M,hMM,hM⟩:=zaf hM
 have hok:zjw M=true:=by
  cases h:zjw M with
  | true=>rfl
  | false=>rw [if_neg (by rw [h];simp)] at hM;cases hM
 rw [if_pos hok] at hM
 refine Sq ?_
 refine Rg 2 ?_
 refine Oa (.sl .nil 0 []) ?_
 refine Oa (.b false) ?_
 refine Ni ?_
 refine Ws ?_
 refine Sq ?_
 refine Rg 4 ?_
 refine Om (pA Box_.cells a0) ?_
 refine zau (bs:=[pA Box_.cells a0]) (by decide) rfl rfl ((zfS hr1).le (.k .nil)) ?_
 refine zbP hS (by decide) zki (by omega) fun H hS=>?_
 refine za2 (v:=.agg (Bag_.cells r1)) (ns:=(Bag_.cells r1)) (L':=[(g+2+2,.cells (Bag_.cells r1))]) 0 hS rfl rfl .no rfl rfl zog nlb rfl fun H hS=>?_
 refine Ni ?_
 refine Ws ?_
 refine Sq ?_
 refine Sq ?_
 refine Rg 3 ?_
 refine Om (.sl .no 1 (purse.map cI)) ?_
 refine zbi (n:=purse.length) (by decide) rfl (List.length_map _) zaM ?_
 refine Om (.i 0) ?_
 refine Ni ?_
 refine Ws ?_
 refine zao ?_
 refine zbj (V:=Int×Bag_) (fun v=>[(0,pA Box_.cells a0),(6,.ptr (g+2+2) 0),(17,.sl .no 1 (purse.map cI)),(18,.i (purse.length:Int)),(19,.i v.1)]) (fun v k H' g'=>St (·<g) H0 [(g+2+2,.cells (Bag_.cells v.2))] H' g'/\zbM purse k v.1 v.2=some al) (n:=n) (0,r1) (.k (.k (.k (.k (.k .nil))))) ⟨hS.up (by omega),hal⟩ ?_
 rintro ⟨k,ar⟩ m H g1 ⟨hS,hal⟩
 obtain _ | m:=m
 ·exact nomatch (show none=some _ from hal)
 change wpA _ _ _ _ (Fr.of [(0,pA Box_.cells a0),(6,.ptr (g+2+2) 0),(17,.sl .no 1 (purse.map cI)),(18,.i (purse.length:Int)),(19,.i k)]) _ _
 replace hS:St (·<g) H0 [(g+2+2,.cells (Bag_.cells ar))] H g1:=hS
 unfold zbM at hal
 refine Sq ?_
 refine Rg 1 ?_
 refine Oi (.b (decide (k<(purse.length:Int)))) ?_
 refine Ni ?_
 refine Ws ?_
 refine Sq ?_
 rcases bft (decide (k<(purse.length:Int))) with hk1 | hk1
 ·replace hal:=ifT hal hk1
  refine Ct hk1 ?_
  refine zax ?_
  refine Ws ?_
  obtain ⟨x,hx,hal⟩:=zaf hal
  obtain ⟨e,he,hal⟩:=zaf hal
  obtain ⟨u,hu,hal⟩:=zaf hal
  refine Sq ?_
  refine zao ?_
  refine Sq ?_
  refine Rg 5 ?_
  refine Om (.i k) ?_
  refine zaL (xs:=purse) (f:=cI) (z:=k) (u:=x) (by decide) rfl rfl zaw hx ?_
  refine Olp (.i x) zah zas ?_
  refine Oa (.i k) ?_
  refine Oa (.i x) ?_
  refine Ni ?_
  refine Ws ?_
  refine Rg 7 ?_
  refine Om (.i k) ?_
  refine zhP (z:=k) (by decide) rfl rfl zgV (zh0 he) ?_
  refine zng (xs:=([ar.c0,ar.c1,ar.c2,ar.c3]:List Int)) (z:=k) (u:=e) (off:=0) 0 hS (by decide) rfl rfl .no rfl he zah zas ?_
  refine Om (.i x) ?_
  refine Oi (.i (w64 (e+x))) ?_
  refine zhP (z:=k) (by decide) rfl rfl zgV (zh0 he) ?_
  refine znh (xs:=([ar.c0,ar.c1,ar.c2,ar.c3]:List Int)) (u:=u) (z:=k) (v:=(w64 (e+x))) (off:=0) (cs':=[.i (u.getD 0 0),.i (u.getD 1 0),.i (u.getD 2 0),.i (u.getD 3 0)]) (L':=[(g+2+2,.cells [.i (u.getD 0 0),.i (u.getD 1 0),.i (u.getD 2 0),.i (u.getD 3 0)])]) 0 hS rfl rfl .no rfl rfl hu zjd rfl rfl fun H hS=>?_
  refine Ni ?_
  refine zag ?_
  refine Ws ?_
  refine Rg 2 ?_
  refine Oi (.i (w64 (k+1))) ?_
  refine Om (.i (w64 (k+1))) ?_
  refine Ni ?_
  exact za1 (w64 (k+1),⟨u.getD 0 0,u.getD 1 0,u.getD 2 0,u.getD 3 0⟩) (Nat.lt_succ_self _) (.k (.k (.k (.k (.k .nil))))) ⟨hS.up (by omega),hal⟩
 replace hal:=ifF hal hk1
 obtain rfl:=Option.some.inj hal
 refine Cf hk1 ?_
 refine za8 ?_
 refine zal ?_
 refine zaj ?_
 refine zar ?_
 refine Ws ?_
 refine Sq ?_
 refine Rg 4 ?_
 refine Om (pA Box_.cells a0) ?_
 refine za4 (v:=.agg (Bag_.cells ar)) 0 hS (by decide) rfl rfl .no (pg zep) ?_
 refine zp1 (bs:=[pA Box_.cells a0,.agg (Bag_.cells ar)]) (p:=zaH (mpw zad zat M)) hS (by decide) rfl rfl ((zhc hMM).le (.k (.k .nil))) (zab (zql _) (zab (.agg _ (zab (.v _) (zab (.v _) (zab (.v _) (zab (.v _) zaG))))) zaG)) (by omega) fun H hS=>?_
 refine Oa (.mp (g1+1+2)) ?_
 refine Ni ?_
 refine Ws ?_
 refine Sq ?_
 refine Rg 4 ?_
 refine Om (.mp (g1+1+2)) ?_
 refine za4 (v:=.agg (Bag_.cells ar)) 1 hS (by decide) rfl rfl .no (pg zep) ?_
 refine zod (M:=[((g1+1+2),.obj none (zaH (mpw zad zat M)))]) (L:=[(g+2+2,.cells (Bag_.cells ar))]) (.inl rfl) hS (by decide) rfl rfl (zi3 hok) (by omega) ?_
 rintro v M' H gE ⟨l,jn,hlp,hjn,rfl,rfl⟩ hgE hS
 have hEp:(l.foldl (zbb ar) []).Perm (zfb ar M):=zol hlp
 have hEn:((l.foldl (zbb ar) []).map (·.1)).Nodup:=(zlE ar l).nd
 have hEk:∀x,x∈l.foldl (zbb ar) []->okI x.1=true:=(zjP l [] (fun b=>okI b=true) (fun p hp=>by obtain ⟨x,hx,rfl⟩:=List.mem_map.1 (hlp.mem_iff.1 hp);exact List.all_eq_true.1 (Bool.and_eq_true_iff.1 hok).1 x hx) (fun p hp=>by simp at hp) (by simp)).1
 have hEl:(l.foldl (zbb ar) []).length<=1048576:=by have h1:=zkY (al:=ar) l [];have h2:=hlp.length_eq;have h3:=of_decide_eq_true (Bool.and_eq_true_iff.1 hok).2;simp only [List.length_map,List.length_nil] at h1 h2;omega
 have hlk:∀x,zhp okI zaP (l.foldl (zbb ar) []) x=zhp okI zaP (zfb ar M) x:=zry hEp
 refine Oa (.mp jn) ?_
 refine Ni ?_
 replace hS:St (·<g) H0 [(jn,.obj none (zaH (mpw kvI zad (l.foldl (zbb ar) [])))),((g1+1+2),.obj none (zaH (mpw zad zat M))),(g+2+2,.cells (Bag_.cells ar))] H gE:=hS
 replace hS:=hS.keep (L':=[(jn,.obj none (zaH (mpw kvI zad (l.foldl (zbb ar) [])))),((g1+1+2),.obj none (zaH (mpw zad zat M)))]) [true,true,false] rfl
 refine Ws ?_
 refine Sq ?_
 refine Sq ?_
 refine Rg 5 ?_
 refine Om (.mp jn) ?_
 refine zsU (.inl rfl) hS (by decide) rfl rfl zuZ (by omega) fun H hS=>?_
 refine zqa (E:=l.foldl (zbb ar) []) (cv:=zad) 0 1 (.inl rfl) hS (by decide) rfl rfl zqj (by kernel_rfl) rfl rfl hEk hEn hEl (by omega) ?_
 rw [show zfK ((l.foldl (zbb ar) []).map (·.1))=zfK ((zfb ar M).map (·.1)) from zhQ (hEp.map _)]
 generalize zfK ((zfb ar M).map (·.1))=bs at hM ⊢
 generalize l.foldl (zbb ar) []=E at hS hlk
 generalize zfb ar M=E2 at hM hlk
 refine zbi (n:=bs.length) (by decide) rfl (List.length_map _) zaM ?_
 refine Om (.i 0) ?_
 refine Ni ?_
 replace hS:=hS.keep (L':=[(jn,.obj none (zaH (mpw kvI zad E))),((g1+1+2),.obj none (zaH (mpw zad zat M)))]) [false,true,true] rfl
 refine Ws ?_
 refine zao ?_
 refine zbj (V:=Int) (fun v=>[(0,pA Box_.cells a0),(9,.mp (g1+1+2)),(10,.mp jn),(39,.sl .no 1 (bs.map cI)),(40,.i (bs.length:Int)),(41,.i v)]) (fun v k H' g'=>St (·<g) H0 [(jn,.obj none (zaH (mpw kvI zad E))),((g1+1+2),.obj none (zaH (mpw zad zat M)))] H' g'/\zbN n b M E2 bs k v=some r) (n:=n) 0 (.k (.k (.k (.k (.k (.k .nil)))))) ⟨hS.up (by omega),hM⟩ ?_
 rintro k m3 H g3 ⟨hS,hM⟩
 obtain _ | m3:=m3
 ·exact nomatch (show none=some _ from hM)
 change wpA _ _ _ _ (Fr.of [(0,pA Box_.cells a0),(9,.mp (g1+1+2)),(10,.mp jn),(39,.sl .no 1 (bs.map cI)),(40,.i (bs.length:Int)),(41,.i k)]) _ _
 unfold zbN at hM
 refine Sq ?_
 refine Rg 1 ?_
 refine Oi (.b (decide (k<(bs.length:Int)))) ?_
 refine Ni ?_
 refine Ws ?_
 refine Sq ?_
 rcases bft (decide (k<(bs.length:Int))) with hk2 | hk2
 rotate_left
 ·replace hM:=ifF hM hk2
  refine Cf hk2 ?_
  refine za8 ?_
  refine zal ?_
  refine zaj ?_
  refine zar ?_
  refine Ws ?_
  refine Sq ?_
  refine Rg 2 ?_
  refine Oa (.sl .nil 0 []) ?_
  refine Oa (.b false) ?_
  refine Ni ?_
  refine Ws ?_
  refine zaQ ?_
  obtain rfl:=Option.some.inj hM
  refine zaY (x:=.tup [.sl .nil 0 [],.b false]) (f:=fun (r:List Int×Bool)=>.tup [.sl .no 1 (r.1.map cI),.b r.2]) (u:=([],false)) (.inr rfl) ?_ (.tupL (.cons (.sl0 _ _ _) (.k .nil))) rfl hS
  exact zcP (zae (x:=.sl .nil 0 []) rfl) (zae (x:=.b false) rfl)
 replace hM:=ifT hM hk2
 refine Ct hk2 ?_
 refine zax ?_
 refine Ws ?_
 obtain ⟨x,hx,hM⟩:=zaf hM
 obtain ⟨wi,hwi,hM⟩:=zaf hM
 have hXt:(!wi)=false->∃p s acts,zhp okI zaP E2 x=some p/\zhp zbK zba M p=some s/\zel M n s []=some acts/\r=(acts.reverse,true):=fun h=>by
  replace hM:=ifF hM h
  obtain ⟨p,hp,hM⟩:=zaf hM
  obtain ⟨s,hs,hM⟩:=zaf hM
  obtain ⟨acts,hacts,hM⟩:=zaf hM
  exact ⟨p,s,acts,hp,hs,hacts,(Option.some.inj hM).symm⟩
 refine zaW (J:=Unit) (fun _=>[(0,pA Box_.cells a0),(9,.mp (g1+1+2)),(10,.mp jn),(39,.sl .no 1 (bs.map cI)),(40,.i (bs.length:Int)),(41,.i k)]) (fun _ H' g'=>St (·<g) H0 [(jn,.obj none (zaH (mpw kvI zad E))),((g1+1+2),.obj none (zaH (mpw zad zat M)))] H' g'/\zbN n b M E2 bs m3 (w64 (k+1))=some r) ?_ ?_
 ·rintro _ H g4 ⟨hS,hM⟩
  change wpA _ _ _ _ (Fr.of [(0,pA Box_.cells a0),(9,.mp (g1+1+2)),(10,.mp jn),(39,.sl .no 1 (bs.map cI)),(40,.i (bs.length:Int)),(41,.i k)]) _ _
  refine Rg 2 ?_
  refine Oi (.i (w64 (k+1))) ?_
  refine Om (.i (w64 (k+1))) ?_
  refine Ni ?_
  exact za1 (w64 (k+1)) (Nat.lt_succ_self _) (.k (.k (.k (.k (.k (.k .nil)))))) ⟨hS.up (by omega),hM⟩
 refine zao ?_
 refine Sq ?_
 refine Rg 3 ?_
 refine zaL (xs:=bs) (f:=cI) (z:=k) (u:=x) (by decide) rfl rfl zaw hx ?_
 refine Olp (.i x) zah zas ?_
 refine Oa (.i x) ?_
 refine Ni ?_
 refine Ws ?_
 refine Sq ?_
 refine Sq ?_
 have hS0:=hS
 refine zcg (n:=19) rfl (by kernel_rfl) ?_
 refine Om (.i x) ?_
 refine Om (pA Box_.cells a0) ?_
 refine ziZ (f:=Box_.cells) (p:=a0) (u:=b) (by decide) rfl hb0 ?_
 refine Of ((Box.cells b.Box)) zdV ?_
 refine Of ((Box.cells b.Box)) zfv ?_
 refine Olp (.i b.Box.Plays) zah zas ?_
 refine Om (pA Box_.cells a0) ?_
 refine ziZ (f:=Box_.cells) (p:=a0) (u:=b) (by decide) rfl hb0 ?_
 refine Of ((Box.cells b.Box)) zdV ?_
 refine Of ((Box.cells b.Box)) zfv ?_
 refine Olp (.i b.Box.Plays) zah zas ?_
 refine Om (pA Box_.cells a0) ?_
 refine ziZ (f:=Box_.cells) (p:=a0) (u:=b) (by decide) rfl hb0 ?_
 refine Of ((Box.cells b.Box)) zdV ?_
 refine Of ((Box.cells b.Box)) zhv ?_
 refine Olp (.i b.Box.Skips) zah zas ?_
 refine Oi (.i (w64 (b.Box.Plays+b.Box.Skips))) ?_
 refine zau (bs:=[.i x,.i b.Box.Plays,.i (w64 (b.Box.Plays+b.Box.Skips))]) (by decide) rfl rfl ((ze4 hwi).le (.k (.k (.k .nil)))) ?_
 refine zfF (by decide) rfl ?_
 refine Ni ?_
 refine Ws ?_
 rcases bft (!wi) with hw | hw
 ·replace hM:=ifT hM hw
  refine Ct hw ?_
  refine za8 ?_
  refine zal ?_
  refine zar ?_
  exact zam () (.k (.k (.k (.k (.k (.k .nil)))))) ⟨hS.up (by omega),hM⟩
 obtain ⟨p,s,acts,hp,hs,hacts,rfl⟩:=hXt hw
 clear hXt hM
 refine Cf hw ?_
 refine zax ?_
 refine Ws ?_
 refine Sq ?_
 refine Rg 1 ?_
 refine Oa (.sl .nil 0 []) ?_
 refine Ni ?_
 refine Ws ?_
 refine Sq ?_
 refine Sq ?_
 refine Rg 7 ?_
 refine Om (.mp (g1+1+2)) ?_
 refine Om (.mp jn) ?_
 refine Om (.i x) ?_
 refine zlu (kv:=kvI) (ok:=okI) (cv:=zad) (z:=zaP) (M:=E) (k:=x) (u:=p) (v':=.agg (PointT_.cells p)) 0 zvE hS (by decide) rfl rfl rfl zjG zps (by rw [hlk];exact hp) (zpt p) ?_
 refine zlu (kv:=zad) (ok:=zbK) (cv:=zat) (z:=zba) (M:=M) (k:=p) (u:=s) (v':=.agg (Step_.cells s)) 1 zlF hS (by decide) rfl rfl rfl zgW zio hs (zlH s) ?_
 refine zbP hS (by decide) zhu (by omega) fun H hS=>?_
 refine za2 (v:=.agg (Step_.cells s)) (ns:=(Step_.cells s)) (L':=[(g3+1+3+19+1+5,.cells (Step_.cells s)),(jn,.obj none (zaH (mpw kvI zad E))),((g1+1+2),.obj none (zaH (mpw zad zat M)))]) 0 hS rfl rfl .no rfl rfl zjJ nlb rfl fun H hS=>?_
 refine Ni ?_
 refine Ws ?_
 refine zao ?_
 have hSb:=hS.keep (L':=zfx 0 []++[((g3+1+3+19+1+5),.cells (Step_.cells s)),((g1+1+2),.obj none (zaH (mpw zad zat M)))]) [true,false,true] rfl
 refine zbj (V:=Step_×List Int×Nat×Nat) (fun v=>[(9,.mp (g1+1+2)),(13,zfw v.2.2.1 v.2.1),(14,.ptr v.2.2.2 0)]) (fun v k H' g'=>St (·<g) H0 (zfx v.2.2.1 v.2.1++[(v.2.2.2,.cells (Step_.cells v.1)),((g1+1+2),.obj none (zaH (mpw zad zat M)))]) H' g'/\v.2.1.length<=1048576/\zel M k v.1 v.2.1=some acts) (n:=n) (s,[],0,(g3+1+3+19+1+5)) (.k (.k (.k .nil))) ⟨hSb.up (by omega),by simp,hacts⟩ ?_
 rintro ⟨s,ac,ja,si⟩ m H g5 ⟨hS,hal5,hacts⟩
 obtain _ | m:=m
 ·exact nomatch (show none=some _ from hacts)
 change wpA _ _ _ _ (Fr.of [(9,.mp (g1+1+2)),(13,zfw ja ac),(14,.ptr si 0)]) _ _
 replace hS:St (·<g) H0 (zfx ja ac++[(si,.cells (Step_.cells s)),((g1+1+2),.obj none (zaH (mpw zad zat M)))]) H g5:=hS
 replace hal5:ac.length<=1048576:=hal5
 unfold zel at hacts
 have hSr:St (·<g) H0 ([(si,.cells (Step_.cells s)),((g1+1+2),.obj none (zaH (mpw zad zat M)))]++zfx ja ac) H g5:=hS.perm List.perm_append_comm
 refine Sq ?_
 refine Sq ?_
 refine Rg 3 ?_
 refine zaR (by decide) zmN rfl ?_
 refine za4 (v:=.i s.act) 0 hSr (by decide) rfl rfl .no (po zah zas) ?_
 refine Oi (.b (s.act != -2)) ?_
 refine Ni ?_
 refine Ws ?_
 rcases bft (s.act != -2) with hb5 | hb5
 ·replace hacts:=ifT hacts hb5
  have hle:ac.length+1<=1048576:=by
   by_cases h:ac.length+1<=1048576
   ·exact h
   ·rw [if_neg h] at hacts;cases hacts
  rw [if_pos hle] at hacts
  obtain ⟨s2,hs2,hacts⟩:=zaf hacts
  refine Ct hb5 ?_
  refine zax ?_
  refine Ws ?_
  refine Sq ?_
  refine zao ?_
  refine Rg 6 ?_
  refine Om (zfw ja ac) ?_
  refine zaR (by decide) zmN rfl ?_
  refine za4 (v:=.i s.act) 0 hSr (by decide) rfl rfl .no (po zah zas) ?_
  refine zmJ (e:=3) (es:=[[.i s.act]]) (by decide) zaw zbm rfl zbe rfl (by decide) ?_
  refine zpu (ja:=ja) (acts:=ac) (a:=s.act) hS (by decide) rfl rfl zaw zbe hle (by omega) fun H hS=>?_
  refine Oa (zfw (g5+3+4) (ac++[s.act])) ?_
  refine Ni ?_
  refine zag ?_
  refine Ws ?_
  replace hS:=hS.perm (L':=[(si,.cells (Step_.cells s)),((g1+1+2),.obj none (zaH (mpw zad zat M)))]++zfx (g5+3+4) (ac++[s.act])) List.perm_append_comm
  refine Sq ?_
  refine Sq ?_
  refine Rg 1 ?_
  refine za4 (v:=.agg (Step_.cells s)) 0 hS (by decide) rfl rfl .no (pg zsR) ?_
  refine Ni ?_
  refine Ws ?_
  refine Rg 2 ?_
  refine zbP hS (by decide) zhu (by omega) fun H hS=>?_
  refine za2 (v:=.agg (Step_.cells s)) (ns:=(Step_.cells s)) (L':=((g5+3+6+1+0),.cells (Step_.cells s))::([(si,.cells (Step_.cells s)),((g1+1+2),.obj none (zaH (mpw zad zat M)))]++zfx (g5+3+4) (ac++[s.act]))) 0 hS rfl rfl .no rfl rfl zjJ nlb rfl fun H hS=>?_
  refine Ni ?_
  refine Ws ?_
  refine Rg 5 ?_
  refine Om (.mp (g1+1+2)) ?_
  refine zaR (by decide) zrr rfl ?_
  refine za4 (v:=.agg (PointT_.cells s.from_)) 0 hS (by decide) rfl rfl .no (pg zgo) ?_
  refine zlu (kv:=zad) (ok:=zbK) (cv:=zat) (z:=zba) (M:=M) (k:=s.from_) (u:=s2) (v':=.agg (Step_.cells s2)) 2 zlF hS (by decide) rfl rfl rfl zgW zio hs2 (zlH s2) ?_
  refine za2 (v:=.agg (Step_.cells s2)) (ns:=(Step_.cells s2)) (L':=((g5+3+6+1+0),.cells (Step_.cells s2))::([(si,.cells (Step_.cells s)),((g1+1+2),.obj none (zaH (mpw zad zat M)))]++zfx (g5+3+4) (ac++[s.act]))) 0 hS rfl rfl .no rfl rfl zjJ nlb rfl fun H hS=>?_
  refine Ni ?_
  have hS3:=(hS.keep (L':=[((g5+3+6+1+0),.cells (Step_.cells s2)),((g1+1+2),.obj none (zaH (mpw zad zat M)))]++zfx (g5+3+4) (ac++[s.act])) [true,false,true] rfl).perm (L':=zfx (g5+3+4) (ac++[s.act])++[((g5+3+6+1+0),.cells (Step_.cells s2)),((g1+1+2),.obj none (zaH (mpw zad zat M)))]) List.perm_append_comm
  exact za1 (s2,ac++[s.act],(g5+3+4),(g5+3+6+1+0)) (Nat.lt_succ_self _) (.k (.k (.k .nil))) ⟨hS3.up (by omega),by rw [List.length_append,List.length_singleton];exact hle,hacts⟩
 replace hacts:=ifF hacts hb5
 obtain rfl:=Option.some.inj hacts
 refine Cf hb5 ?_
 refine za8 ?_
 refine zal ?_
 refine zaj ?_
 refine zar ?_
 refine Ws ?_
 refine Sq ?_
 refine Rg 2 ?_
 refine Om (zfw ja ac) ?_
 refine zuj (ja:=ja) (acts:=ac) hS (by decide) rfl rfl hal5 fun H hS=>?_
 refine Ni ?_
 refine zeJ [(13,zfw ja ac)] (.k .nil) ?_
 by_cases hn:ac=[]
 ·subst hn
  change wpA _ _ _ _ (Fr.of [(13,.sl .nil 0 [])]) _ _
  refine Sq ?_
  refine Rg 3 ?_
  refine Om (.sl .nil 0 []) ?_
  refine Oa (.sl .nil 0 []) ?_
  refine Oa (.b true) ?_
  refine Ni ?_
  refine Ws ?_
  refine zaQ ?_
  refine zaY (x:=.tup [.sl .nil 0 [],.b true]) (f:=fun (r:List Int×Bool)=>.tup [.sl .no 1 (r.1.map cI),.b r.2]) (u:=([],true)) (.inr rfl) ?_ (.tupL (.cons (.sl0 _ _ _) (.k .nil))) rfl hS
  exact zcP (zae (x:=.sl .nil 0 []) rfl) (zae (x:=.b true) rfl)
 have e1:zfw ja ac=.ms ja 0 1 ac.length ac.length:=if_neg hn
 have e2:zfx ja ac.reverse=[(ja,.cells (ac.reverse.map cI).flatten)]:=if_neg (by simpa using hn)
 rw [e1]
 rw [e2] at hS
 refine Sq ?_
 refine Rg 3 ?_
 refine Om (.ms ja 0 1 ac.length ac.length) ?_
 refine Oa (.ms ja 0 1 ac.length ac.length) ?_
 refine Oa (.b true) ?_
 refine Ni ?_
 replace hS:=hS.perm (L':=[(si,.cells (Step_.cells s)),((g1+1+2),.obj none (zaH (mpw zad zat M)))]++[(ja,.cells (ac.reverse.map cI).flatten)]) List.perm_append_comm
 refine zw2 (t:=4) (es:=ac.reverse.map cI) hS rfl (by decide) (fun e he=>by obtain ⟨z,_,rfl⟩:=List.mem_map.1 he;rfl) (zuW (fun x c hc=>by simp at hc;subst hc;exact ⟨_,rfl⟩)) (by simp) (by rw [List.take_of_length_le (by rw [zqm];simp)]) fun H hS=>?_
 refine Ws ?_
 refine zaQ ?_
 refine zaY (x:=.tup [.sl .no 1 (ac.reverse.map cI),.b true]) (f:=fun (r:List Int×Bool)=>.tup [.sl .no 1 (r.1.map cI),.b r.2]) (u:=(ac.reverse,true)) (.inr rfl) ?_ (.refl _) rfl hS
 exact zcP (zae (x:=.sl .no 1 (ac.reverse.map cI)) rfl) (zae (x:=.b true) rfl)
def zkl (t:Nat):List Gap_->AV
 | []=>.sl .nil 0 []
 | x::gs=>.sl (.id t) 2 ((x::gs).map Gap_.cells)
def zlK (t:Nat):List Gap_->BL
 | []=>[]
 | x::gs=>[(t,.row 94 (x::gs).length)]
def gM (oc t:Nat) (gs:List Gap_):BL:=(oc,.cells [zkl t gs])::zlK t gs
def gT (oc:Nat) (gs:List Gap_) (_:Nat) (v:AV) (M:BL):Prop:=∃t,v=.tup []/\M=gM oc t gs
theorem zqn (gs:List Gap_):∀e,e∈gs.map Gap_.cells->∀c,c∈e->Go.AM.Pure c:=zaC (fun x=>zab (.sl _ _ (zaC (fun x=>(zab (.v _) zaG)))) (zab (.sl _ _ (zaC (fun x=>(zab (.v _) zaG)))) zaG))
theorem zzj {oc t:Nat} {gs:List Gap_}:InB In (gM oc t gs):=fun p cs hp e c hc H hH=>by
 cases gs with
 | nil =>
  obtain rfl:=List.mem_singleton.1 hp
  obtain rfl:[AV.sl .nil 0 []]=cs:=by injection e
  obtain rfl:c=.sl .nil 0 []:=by simpa using hc
  exact .sl _ _ _ (fun t h=>by cases h) (fun e h=>by simp at h)
 | cons x gs =>
  have hr:=hH (t,.row 94 (x::gs).length) (by simp [gM,zlK])
  simp only [gM,zlK,List.mem_cons,List.not_mem_nil,or_false] at hp
  rcases hp with rfl | rfl
  ·obtain rfl:[zkl t (x::gs)]=cs:=by injection e
   obtain rfl:c=zkl t (x::gs):=by simpa using hc
   exact .sl _ _ _ (fun t2 h=>by injection h with h;subst h;exact ⟨_,_,hr⟩) (fun e he c hc=>(zqn _ e he c hc).inH)
  ·cases e
theorem zlL {oc t i:Nat} {gs:List Gap_}:i∈ids (gM oc t gs)↔i=oc\/gs≠[]/\i=t:=by
 cases gs<;>simp [gM,zlK,ids]
theorem zu2 (oc t:Nat) (gs gs2:List Gap_) (g:Nat):∃v M',gT oc gs2 g v M'/\(ids M').Nodup/\∀i,i∈ids M'->i∈ids (gM oc t gs)\/g<=i:=by
 refine ⟨.tup [],_,⟨max g (oc+1),rfl,rfl⟩,?_,fun i hi=>?_⟩
 ·cases gs2<;>simp [gM,zlK,ids]<;>omega
 ·rcases zlL.1 hi with rfl | ⟨_,rfl⟩
  ·exact .inl (zlL.2 (.inl rfl))
  ·exact .inr (Nat.le_max_left _ _)
theorem zpv {P:Program} {N:Nat} {fr:Fr} {H H0:zac} {g b oc t t2:Nat} {gs gs2:List Gap_} {ex:Exit} {rs:List ResultVar} (he:ex=.normal\/ex=.ret) (hx:zix P N fr H rs=some (.tup [])) (hS:St (fun i=>i<g/\i∉ids (gM oc t gs)) H0 (gM oc t2 gs2) H b) (hb:g<=b) (hi:∀i,i∈ids (gM oc t2 gs2)->i∈ids (gM oc t gs)\/g<=i) :
  (ex=.normal\/ex=.ret)/\∃v M' b1,gT oc gs2 g v M'/\(∃x,zix P N fr H rs=some x/\Le v x)/\(∀H,Has H M'->In H v)/\InB In M'/\(∀i,i<g/\i∉ids (gM oc t gs)->H i=H0 i)/\Has H M'/\zbh H b1/\g<=b1/\(ids M').Nodup/\(∀i,i∈ids M'->i∈ids (gM oc t gs)\/g<=i)/\(∀p,p∈gM oc t gs->p.1∉ids M'->p.2≠.ice/\∀cs,p.2≠.cells cs):=by
 refine ⟨he,.tup [],gM oc t2 gs2,b,⟨t2,rfl,rfl⟩,⟨_,hx,.refl _⟩,fun H _=>(show Go.AM.Pure _ from .tup _ zaG).inH,zzj,fun i hi=>(hS.old i hi).2,fun p hp=>(hS.has p hp).2.2,hS.fr,hb,hS.nd,hi,fun p hp hn=>?_⟩
 cases gs with
 | nil =>
  obtain rfl:=List.mem_singleton.1 hp
  exact absurd (zlL.2 (.inl rfl)) hn
 | cons x gs =>
  simp only [gM,zlK,List.mem_cons,List.not_mem_nil,or_false] at hp
  rcases hp with rfl | rfl
  ·exact absurd (zlL.2 (.inl rfl)) hn
  ·exact ⟨fun h=>(by cases h),fun cs h=>(by cases h)⟩
theorem zmO {P:Program} {N:Nat} {fr:Fr} {H H0:zac} {g b oc t t2:Nat} {gs gs2:List Gap_} {ex:Exit} {rs:List ResultVar} (he:ex=.normal\/ex=.ret) (hx:zix P N fr H rs=some (.tup [])) (hS:St (fun i=>i<g/\i∉ids (gM oc t gs)) H0 (gM oc t2 gs2) H b) (hb:g<=b) (hi:gs2=[]\/gs≠[]/\t2=t\/g<=t2) :
  (ex=.normal\/ex=.ret)/\∃v M' b1,gT oc gs2 g v M'/\(∃x,zix P N fr H rs=some x/\Le v x)/\(∀H,Has H M'->In H v)/\InB In M'/\(∀i,i<g/\i∉ids (gM oc t gs)->H i=H0 i)/\Has H M'/\zbh H b1/\g<=b1/\(ids M').Nodup/\(∀i,i∈ids M'->i∈ids (gM oc t gs)\/g<=i)/\(∀p,p∈gM oc t gs->p.1∉ids M'->p.2≠.ice/\∀cs,p.2≠.cells cs) :=
 zpv he hx hS hb fun i hi2=>by
  rcases zlL.1 hi2 with rfl | ⟨h1,rfl⟩
  ·exact .inl (zlL.2 (.inl rfl))
  ·rcases hi with h | ⟨h2,rfl⟩ | h
   ·exact absurd h h1
   ·exact .inl (zlL.2 (.inr ⟨h2,rfl⟩))
   ·exact .inr h
theorem zhz {n:Nat} {a:Option Box_} {purse:List Int} {gs:List Gap_} {r:Unit×List Gap_} (hM:zaO n a purse gs=some r) {oc t:Nat} (hnd:(ids (gM oc t gs)).Nodup):zri Try.prog 133 [.sl .no 1 (purse.map cI),.ptr oc 0,.ep [pA Box_.cells a]] (gM oc t gs) (gT oc r.2):=by
 refine zlC mixed Try.func133 rfl (by decide) Try.ntmps133 (by simp) (zu2 oc t gs r.2) fun H0 g hf hp=>?_
 rw [zai]
 change wpA _ _ _ _ (Fr.of [(0,.sl .no 1 (purse.map cI)),(1,.ptr oc 0),(2,.ep [pA Box_.cells a])]) H0 g
 have hS:=St.startH hf hnd hp
 have hog:oc<g:=(hS.has (oc,_) (List.mem_cons_self ..)).2.1
 cases gs with
 | nil =>
  unfold zaO at hM
  replace hS:St (fun i=>i<g/\i∉ids (gM oc t [])) H0 [(oc,.cells [.sl .nil 0 []])] H0 g:=hS
  refine Sq ?_
  refine Sq ?_
  have hS0:=hS
  refine zcg (n:=15) rfl (by kernel_rfl) ?_
  refine za4 (v:=.sl .nil 0 []) 0 hS (by decide) rfl rfl (.st hS0 0 rfl (by omega)) (po zga zhj) ?_
  refine zbi (n:=0) (by decide) rfl rfl zjE ?_
  refine Oi (.b (decide (((0:Nat):Int)>0))) ?_
  refine Om (.b (decide (((0:Nat):Int)>0))) ?_
  refine zca (j:=3) (e:=(decide (((0:Nat):Int)>0))) (want:=true) (by decide) rfl (by decide) ?_
  refine zca (j:=3) (e:=(decide (((0:Nat):Int)>0))) (want:=true) (by decide) rfl (by decide) ?_
  refine zca (j:=3) (e:=(decide (((0:Nat):Int)>0))) (want:=true) (by decide) rfl (by decide) ?_
  refine zca (j:=3) (e:=(decide (((0:Nat):Int)>0))) (want:=true) (by decide) rfl (by decide) ?_
  refine zca (j:=3) (e:=(decide (((0:Nat):Int)>0))) (want:=true) (by decide) rfl (by decide) ?_
  refine zca (j:=3) (e:=(decide (((0:Nat):Int)>0))) (want:=true) (by decide) rfl (by decide) ?_
  refine zca (j:=3) (e:=(decide (((0:Nat):Int)>0))) (want:=true) (by decide) rfl (by decide) ?_
  refine zca (j:=3) (e:=(decide (((0:Nat):Int)>0))) (want:=true) (by decide) rfl (by decide) ?_
  refine zca (j:=3) (e:=(decide (((0:Nat):Int)>0))) (want:=true) (by decide) rfl (by decide) ?_
  refine zca (j:=3) (e:=(decide (((0:Nat):Int)>0))) (want:=true) (by decide) rfl (by decide) ?_
  refine zaT (v:=.b false) (e:=(decide (((0:Nat):Int)>0))) (by decide) rfl (by decide) rfl ?_
  refine Ni ?_
  refine Ws ?_
  refine zhI (e:=false) rfl rfl ?_
  refine zax ?_
  refine Ws ?_
  refine Sq ?_
  refine Rg 8 ?_
  refine Olp (pA Box_.cells a) zhR zje ?_
  refine Om (.sl .no 1 (purse.map cI)) ?_
  obtain ⟨e,he,hM⟩:=zaf hM
  refine zau (bs:=[pA Box_.cells a,.sl .no 1 (purse.map cI)]) (by decide) rfl rfl ((zgr he).le (.k (.k .nil))) ?_
  refine Om (.tup [.sl .no 1 (e.1.map cI),.b e.2]) ?_
  refine Ox (.sl .no 1 (e.1.map cI)) ?_
  refine Ox (.b e.2) ?_
  refine Oa (.sl .no 1 (e.1.map cI)) ?_
  refine Oa (.b e.2) ?_
  refine Ni ?_
  refine Ws ?_
  refine Sq ?_
  refine Sq ?_
  refine Rg 2 ?_
  refine Om (.b e.2) ?_
  refine zfF (by decide) rfl ?_
  refine Ni ?_
  refine Ws ?_
  rcases bft (!e.2) with he2 | he2
  ·replace hM:=ifT hM he2
   obtain rfl:=Option.some.inj hM
   refine Ct he2 ?_
   refine zaQ ?_
   refine zap ?_
   exact zmO (t:=t) (gs:=[]) (gs2:=[]) (t2:=t) (.inr rfl) rfl hS (by omega) (.inl rfl)
  ·replace hM:=ifF hM he2
   obtain rfl:=Option.some.inj hM
   refine Cf he2 ?_
   refine zax ?_
   refine Ws ?_
   refine Sq ?_
   refine Sq ?_
   have hS0:=hS
   refine zcg (n:=15) rfl (by kernel_rfl) ?_
   refine za4 (v:=.sl .nil 0 []) 0 hS (by decide) rfl rfl (.st hS0 0 rfl (by omega)) (po zga zhj) ?_
   refine zbi (n:=0) (by decide) rfl rfl zjE ?_
   refine Oi (.b (decide (((0:Nat):Int)>0))) ?_
   refine Om (.b (decide (((0:Nat):Int)>0))) ?_
   refine zca (j:=3) (e:=(decide (((0:Nat):Int)>0))) (want:=true) (by decide) rfl (by decide) ?_
   refine zca (j:=3) (e:=(decide (((0:Nat):Int)>0))) (want:=true) (by decide) rfl (by decide) ?_
   refine zca (j:=3) (e:=(decide (((0:Nat):Int)>0))) (want:=true) (by decide) rfl (by decide) ?_
   refine zca (j:=3) (e:=(decide (((0:Nat):Int)>0))) (want:=true) (by decide) rfl (by decide) ?_
   refine zca (j:=3) (e:=(decide (((0:Nat):Int)>0))) (want:=true) (by decide) rfl (by decide) ?_
   refine zca (j:=3) (e:=(decide (((0:Nat):Int)>0))) (want:=true) (by decide) rfl (by decide) ?_
   refine zca (j:=3) (e:=(decide (((0:Nat):Int)>0))) (want:=true) (by decide) rfl (by decide) ?_
   refine zca (j:=3) (e:=(decide (((0:Nat):Int)>0))) (want:=true) (by decide) rfl (by decide) ?_
   refine zca (j:=3) (e:=(decide (((0:Nat):Int)>0))) (want:=true) (by decide) rfl (by decide) ?_
   refine zca (j:=3) (e:=(decide (((0:Nat):Int)>0))) (want:=true) (by decide) rfl (by decide) ?_
   refine zaT (v:=.b false) (e:=(decide (((0:Nat):Int)>0))) (by decide) rfl (by decide) rfl ?_
   refine Ni ?_
   refine Ws ?_
   refine zhI (e:=false) rfl rfl ?_
   refine zax ?_
   refine Ws ?_
   refine Rg 7 ?_
   refine za4 (v:=.sl .nil 0 []) 0 hS (by decide) rfl rfl .no (po zga zhj) ?_
   refine Om (.sl .no 1 (purse.map cI)) ?_
   refine Om (.sl .no 1 (e.1.map cI)) ?_
   refine zbQ (cs:=[.sl .no 1 (purse.map cI),.sl .no 1 (e.1.map cI)]) (by decide) zlx zpp rfl ?_
   refine zmJ (e:=94) (es:=[[.sl .no 1 (purse.map cI),.sl .no 1 (e.1.map cI)]]) (by decide) zhS zkg rfl zkh rfl (by decide) ?_
   refine zlD (k:=2) (k':=0) (e:=94) (es:=[[.sl .no 1 (purse.map cI),.sl .no 1 (e.1.map cI)]]) hS (by decide) rfl rfl zhS zkg zkh nlb (by omega) fun H hS=>?_
   refine za2 (v:=.sl (.id (g+15+8+2+15+5)) 2 ([(⟨purse,e.1⟩:Gap_)].map Gap_.cells)) (ns:=[.sl (.id (g+15+8+2+15+5)) 2 ([(⟨purse,e.1⟩:Gap_)].map Gap_.cells)]) (L':=[((g+15+8+2+15+5),.row 94 1),(oc,.cells [.sl (.id (g+15+8+2+15+5)) 2 ([(⟨purse,e.1⟩:Gap_)].map Gap_.cells)])]) 1 hS rfl rfl .no rfl rfl zkU nlb rfl fun H hS=>?_
   refine Ni ?_
   replace hS:=hS.toHead (L':=gM oc (g+15+8+2+15+5) [(⟨purse,e.1⟩:Gap_)]) 1 nlb rfl
   exact zmO (t:=t) (gs:=[]) (gs2:=[(⟨purse,e.1⟩:Gap_)]) (t2:=(g+15+8+2+15+5)) (.inl rfl) rfl hS (by omega) (.inr (.inr (by omega)))
 | cons x gs =>
  unfold zaO at hM
  replace hS:St (fun i=>i<g/\i∉ids (gM oc t (x::gs))) H0 [(oc,.cells [.sl (.id t) 2 ((x::gs).map Gap_.cells)]),(t,.row 94 (x::gs).length)] H0 g:=hS
  have hpos:decide ((((x::gs).length:Nat):Int)>0)=true:=decide_eq_true (by rw [List.length_cons];omega)
  refine Sq ?_
  refine Sq ?_
  have hS0:=hS
  refine zcg (n:=15) rfl (by kernel_rfl) ?_
  refine za4 (v:=.sl (.id t) 2 ((x::gs).map Gap_.cells)) 0 hS (by decide) rfl rfl (.st hS0 0 rfl (by omega)) (po zga zhj) ?_
  refine zbi (n:=(x::gs).length) (by decide) rfl (List.length_map _) zjE ?_
  refine Oi (.b (decide ((((x::gs).length:Nat):Int)>0))) ?_
  refine Om (.b (decide ((((x::gs).length:Nat):Int)>0))) ?_
  refine Oy (want:=true) hpos ?_
  refine Olp (pA Box_.cells a) zhR zje ?_
  refine Oy (want:=true) hpos ?_
  refine Om (.sl .no 1 (purse.map cI)) ?_
  obtain ⟨w1,hw1,hM⟩:=zaf hM
  refine Oy (want:=true) hpos ?_
  refine zau (bs:=[pA Box_.cells a,.sl .no 1 (purse.map cI)]) (by decide) rfl rfl ((zbp hw1).le (.k (.k .nil))) ?_
  refine Oy (want:=true) hpos ?_
  refine Olp (pA Box_.cells a) zhR zje ?_
  refine Oy (want:=true) hpos ?_
  refine za4 (v:=.sl (.id t) 2 ((x::gs).map Gap_.cells)) 0 hS (by decide) rfl rfl (.st hS0 0 rfl (by omega)) (po zga zhj) ?_
  refine Oy (want:=true) hpos ?_
  refine zaL (xs:=x::gs) (f:=Gap_.cells) (z:=0) (u:=x) (by decide) rfl rfl zhS rfl ?_
  refine Oy (want:=true) hpos ?_
  refine Of ((Gap_.cells x)) zlB ?_
  refine Oy (want:=true) hpos ?_
  refine Olp (.sl .no 1 (x.purse.map cI)) zaq zaE ?_
  obtain ⟨w2,hw2,hM⟩:=zaf hM
  refine Oy (want:=true) hpos ?_
  refine zau (bs:=[pA Box_.cells a,.sl .no 1 (x.purse.map cI)]) (by decide) rfl rfl ((zbp hw2).le (.k (.k .nil))) ?_
  refine Oy (want:=true) hpos ?_
  refine Oi (.b (decide (w1>w2))) ?_
  refine Pt (.b (decide (w1>w2))) hpos ?_
  refine Ni ?_
  refine Ws ?_
  rcases bft (decide (w1>w2)) with hw | hw
  ·replace hM:=ifT hM hw
   obtain rfl:=Option.some.inj hM
   refine Ct hw ?_
   refine zaQ ?_
   refine zap ?_
   exact zmO (t:=t) (gs:=x::gs) (gs2:=x::gs) (t2:=t) (.inr rfl) rfl hS (by omega) (.inr (.inl ⟨by simp,rfl⟩))
  replace hM:=ifF hM hw
  refine Cf hw ?_
  refine zax ?_
  refine Ws ?_
  refine Sq ?_
  refine Rg 8 ?_
  refine Olp (pA Box_.cells a) zhR zje ?_
  refine Om (.sl .no 1 (purse.map cI)) ?_
  obtain ⟨e,he,hM⟩:=zaf hM
  refine zau (bs:=[pA Box_.cells a,.sl .no 1 (purse.map cI)]) (by decide) rfl rfl ((zgr he).le (.k (.k .nil))) ?_
  refine Om (.tup [.sl .no 1 (e.1.map cI),.b e.2]) ?_
  refine Ox (.sl .no 1 (e.1.map cI)) ?_
  refine Ox (.b e.2) ?_
  refine Oa (.sl .no 1 (e.1.map cI)) ?_
  refine Oa (.b e.2) ?_
  refine Ni ?_
  refine Ws ?_
  refine Sq ?_
  refine Sq ?_
  refine Rg 2 ?_
  refine Om (.b e.2) ?_
  refine zfF (by decide) rfl ?_
  refine Ni ?_
  refine Ws ?_
  rcases bft (!e.2) with he2 | he2
  ·replace hM:=ifT hM he2
   obtain rfl:=Option.some.inj hM
   refine Ct he2 ?_
   refine zaQ ?_
   refine zap ?_
   exact zmO (t:=t) (gs:=x::gs) (gs2:=x::gs) (t2:=t) (.inr rfl) rfl hS (by omega) (.inr (.inl ⟨by simp,rfl⟩))
  replace hM:=ifF hM he2
  refine Cf he2 ?_
  refine zax ?_
  refine Ws ?_
  refine Sq ?_
  refine Sq ?_
  have hS0:=hS
  refine zcg (n:=15) rfl (by kernel_rfl) ?_
  refine za4 (v:=.sl (.id t) 2 ((x::gs).map Gap_.cells)) 0 hS (by decide) rfl rfl (.st hS0 0 rfl (by omega)) (po zga zhj) ?_
  refine zbi (n:=(x::gs).length) (by decide) rfl (List.length_map _) zjE ?_
  refine Oi (.b (decide ((((x::gs).length:Nat):Int)>0))) ?_
  refine Om (.b (decide ((((x::gs).length:Nat):Int)>0))) ?_
  refine Oy (want:=true) hpos ?_
  refine Olp (pA Box_.cells a) zhR zje ?_
  refine Oy (want:=true) hpos ?_
  refine Om (.sl .no 1 (purse.map cI)) ?_
  obtain ⟨w3,hw3,hM⟩:=zaf hM
  refine Oy (want:=true) hpos ?_
  refine zau (bs:=[pA Box_.cells a,.sl .no 1 (purse.map cI)]) (by decide) rfl rfl ((zbp hw3).le (.k (.k .nil))) ?_
  refine Oy (want:=true) hpos ?_
  refine Olp (pA Box_.cells a) zhR zje ?_
  refine Oy (want:=true) hpos ?_
  refine za4 (v:=.sl (.id t) 2 ((x::gs).map Gap_.cells)) 0 hS (by decide) rfl rfl (.st hS0 0 rfl (by omega)) (po zga zhj) ?_
  refine Oy (want:=true) hpos ?_
  refine zaL (xs:=x::gs) (f:=Gap_.cells) (z:=0) (u:=x) (by decide) rfl rfl zhS rfl ?_
  refine Oy (want:=true) hpos ?_
  refine Of ((Gap_.cells x)) zlB ?_
  refine Oy (want:=true) hpos ?_
  refine Olp (.sl .no 1 (x.purse.map cI)) zaq zaE ?_
  obtain ⟨w4,hw4,hM⟩:=zaf hM
  refine Oy (want:=true) hpos ?_
  refine zau (bs:=[pA Box_.cells a,.sl .no 1 (x.purse.map cI)]) (by decide) rfl rfl ((zbp hw4).le (.k (.k .nil))) ?_
  refine Oy (want:=true) hpos ?_
  refine Oi (.b (decide (w3<w4))) ?_
  refine Pt (.b (decide (w3<w4))) hpos ?_
  refine Ni ?_
  refine Ws ?_
  rcases bft (decide (w3<w4)) with hw2 | hw2
  ·replace hM:=ifT hM hw2
   obtain rfl:=Option.some.inj hM
   refine Ct hw2 ?_
   refine Rg 1 ?_
   refine za2 (v:=.sl .nil 0 []) (ns:=[.sl .nil 0 []]) (L':=[(oc,.cells [.sl .nil 0 []]),(t,.row 94 (x::gs).length)]) 0 hS rfl rfl .no rfl rfl zkU nlb rfl fun H hS=>?_
   refine Ni ?_
   replace hS:=hS.keep (L':=[(oc,.cells [.sl .nil 0 []])]) [true,false] rfl
   refine Ws ?_
   refine Rg 7 ?_
   refine za4 (v:=.sl .nil 0 []) 0 hS (by decide) rfl rfl .no (po zga zhj) ?_
   refine Om (.sl .no 1 (purse.map cI)) ?_
   refine Om (.sl .no 1 (e.1.map cI)) ?_
   refine zbQ (cs:=[.sl .no 1 (purse.map cI),.sl .no 1 (e.1.map cI)]) (by decide) zlx zpp rfl ?_
   refine zmJ (e:=94) (es:=[[.sl .no 1 (purse.map cI),.sl .no 1 (e.1.map cI)]]) (by decide) zhS zkg rfl zkh rfl (by decide) ?_
   refine zlD (k:=2) (k':=0) (e:=94) (es:=[[.sl .no 1 (purse.map cI),.sl .no 1 (e.1.map cI)]]) hS (by decide) rfl rfl zhS zkg zkh nlb (by omega) fun H hS=>?_
   refine za2 (v:=.sl (.id (g+15+8+2+15+1+5)) 2 ([(⟨purse,e.1⟩:Gap_)].map Gap_.cells)) (ns:=[.sl (.id (g+15+8+2+15+1+5)) 2 ([(⟨purse,e.1⟩:Gap_)].map Gap_.cells)]) (L':=[((g+15+8+2+15+1+5),.row 94 1),(oc,.cells [.sl (.id (g+15+8+2+15+1+5)) 2 ([(⟨purse,e.1⟩:Gap_)].map Gap_.cells)])]) 1 hS rfl rfl .no rfl rfl zkU nlb rfl fun H hS=>?_
   refine Ni ?_
   replace hS:=hS.toHead (L':=gM oc (g+15+8+2+15+1+5) [(⟨purse,e.1⟩:Gap_)]) 1 nlb rfl
   exact zmO (t:=t) (gs:=x::gs) (gs2:=[(⟨purse,e.1⟩:Gap_)]) (t2:=(g+15+8+2+15+1+5)) (.inl rfl) rfl hS (by omega) (.inr (.inr (by omega)))
  replace hM:=ifF hM hw2
  obtain ⟨l,hl,hM⟩:=zaf hM
  obtain rfl:=Option.some.inj hM
  have hl2:l=x::(gs++[(⟨purse,e.1⟩:Gap_)]):=by
   unfold app at hl
   split at hl
   ·exact (Option.some.inj hl).symm
   ·cases hl
  refine Cf hw2 ?_
  refine zax ?_
  refine Ws ?_
  refine Rg 7 ?_
  refine za4 (v:=.sl (.id t) 2 ((x::gs).map Gap_.cells)) 0 hS (by decide) rfl rfl .no (po zga zhj) ?_
  refine Om (.sl .no 1 (purse.map cI)) ?_
  refine Om (.sl .no 1 (e.1.map cI)) ?_
  refine zbQ (cs:=[.sl .no 1 (purse.map cI),.sl .no 1 (e.1.map cI)]) (by decide) zlx zpp rfl ?_
  refine zmJ (e:=94) (es:=[[.sl .no 1 (purse.map cI),.sl .no 1 (e.1.map cI)]]) (by decide) zhS zkg rfl zkh rfl (by decide) ?_
  refine zcp (xs:=x::gs) (ys:=[(⟨purse,e.1⟩:Gap_)]) (zs:=l) (f:=Gap_.cells) (L':=[(oc,.cells [.sl (.id t) 2 ((x::gs).map Gap_.cells)]),(t,.row 94 l.length)]) 1 hS (by decide) rfl rfl rfl rfl .no zhS zkg zkh hl rfl fun H hS=>?_
  refine za2 (v:=.sl (.id t) 2 (l.map Gap_.cells)) (ns:=[.sl (.id t) 2 (l.map Gap_.cells)]) (L':=[(oc,.cells [.sl (.id t) 2 (l.map Gap_.cells)]),(t,.row 94 l.length)]) 0 hS rfl rfl .no rfl rfl zkU nlb rfl fun H hS=>?_
  refine Ni ?_
  subst hl2
  exact zmO (t:=t) (gs:=x::gs) (gs2:=x::(gs++[(⟨purse,e.1⟩:Gap_)])) (t2:=t) (.inl rfl) rfl hS (by omega) (.inr (.inl ⟨by simp,rfl⟩))
theorem zs0 {n nn:Nat} {a:Option Box_} {rec:(Option Box_)->(List Int)->Int->List Gap_->Option (Unit×List Gap_)} (hrec:∀{a1:List Int} {a2:Int} {gs:List Gap_} {r:Unit×List Gap_},rec a a1 a2 gs=some r->∀{oc t:Nat},(ids (gM oc t gs)).Nodup->zri Try.prog 132 [pA Box_.cells a,.sl .no 1 (a1.map cI),.i a2,.fn (.func 133) [] [.ptr oc 0,.ep [pA Box_.cells a]]] (gM oc t gs) (gT oc r.2)) {a1:List Int} {a2:Int} {gs:List Gap_} {r:Unit×List Gap_} (hM:zcV n rec (fun x0 s=>zaO nn a x0 s) a a1 a2 gs=some r) {oc t:Nat} (hnd:(ids (gM oc t gs)).Nodup):zri Try.prog 132 [pA Box_.cells a,.sl .no 1 (a1.map cI),.i a2,.fn (.func 133) [] [.ptr oc 0,.ep [pA Box_.cells a]]] (gM oc t gs) (gT oc r.2):=by
 refine zlC mixed Try.func132 rfl (by decide) Try.ntmps132 (by simp) (zu2 oc t gs r.2) fun H0 g hf hp=>?_
 rw [zai]
 change wpA _ _ _ _ (Fr.of [(0,pA Box_.cells a),(1,.sl .no 1 (a1.map cI)),(2,.i a2),(3,.fn (.func 133) [] [.ptr oc 0,.ep [pA Box_.cells a]])]) H0 g
 have hS:=St.startH hf hnd hp
 have hog:oc<g:=(hS.has (oc,_) (List.mem_cons_self ..)).2.1
 unfold zcV at hM
 refine Sq ?_
 refine Sq ?_
 refine Rg 10 ?_
 refine Om (.sl .no 1 (a1.map cI)) ?_
 refine zbi (n:=a1.length) (by decide) rfl (List.length_map _) zaM ?_
 refine Om (pA Box_.cells a) ?_
 obtain ⟨b,hb0,hM⟩:=zaf hM
 refine ziZ (f:=Box_.cells) (p:=a) (u:=b) (by decide) rfl hb0 ?_
 refine Of ((Box.cells b.Box)) zdV ?_
 refine Of ((Box.cells b.Box)) za7 ?_
 refine Of ((Box.cells b.Box)) zcC ?_
 refine Olp (.sl .no 1 (b.Box.Wheel.Coins.map cI)) zaq zaE ?_
 refine zbi (n:=b.Box.Wheel.Coins.length) (by decide) rfl (List.length_map _) zaM ?_
 refine Oi (.b ((a1.length:Int)==(b.Box.Wheel.Coins.length:Int))) ?_
 refine Ni ?_
 refine Ws ?_
 rcases bft ((a1.length:Int)==(b.Box.Wheel.Coins.length:Int)) with hb2 | hb2
 ·replace hM:=ifT hM hb2
  refine Ct hb2 ?_
  refine Sq ?_
  refine Rg 3 ?_
  refine Om (.fn (.func 133) [] [.ptr oc 0,.ep [pA Box_.cells a]]) ?_
  refine Om (.sl .no 1 (a1.map cI)) ?_
  obtain ⟨r3,hr3,hM⟩:=zaf hM
  obtain rfl:=Option.some.inj hM
  refine zsV (M:=gM oc t gs) (L:=[]) (.inl rfl) (by rw [List.append_nil];exact hS) (by decide) rfl rfl (zhz hr3 hnd) (by omega) ?_
  rintro v M' H g2 ⟨t2,rfl,rfl⟩ hg2 hi hS
  rw [List.append_nil] at hS
  refine Ni ?_
  refine Ws ?_
  refine zaQ ?_
  refine zap ?_
  exact zpv (.inr rfl) rfl hS (by omega) fun i h=>(hi i h).imp id fun h=>by omega
 replace hM:=ifF hM hb2
 refine Cf hb2 ?_
 refine zax ?_
 refine Ws ?_
 refine Sq ?_
 refine Rg 3 ?_
 refine Om (.i a2) ?_
 refine Oi (.i (w64 (a2+1))) ?_
 refine Om (.i 0) ?_
 refine Ni ?_
 refine Ws ?_
 refine zao ?_
 refine zbj (V:=Int×List Gap_×Nat) (fun v=>[(0,pA Box_.cells a),(1,.sl .no 1 (a1.map cI)),(2,.i a2),(3,.fn (.func 133) [] [.ptr oc 0,.ep [pA Box_.cells a]]),(23,.i (w64 (a2+1))),(24,.i v.1)]) (fun v m2 H' g'=>St (fun i=>i<g/\i∉ids (gM oc t gs)) H0 (gM oc v.2.2 v.2.1) H' g'/\g<=g'/\(∀i,i∈ids (gM oc v.2.2 v.2.1)->i∈ids (gM oc t gs)\/g<=i)/\zbC rec a a1 a2 m2 v.1 v.2.1=some r) (n:=n) (0,gs,t) (.k (.k (.k (.k (.k (.k .nil)))))) ⟨hS.up (by omega),by omega,fun i h=>.inl h,hM⟩ ?_
 rintro ⟨k,gs2,t2⟩ m2 H g2 ⟨hS,hg2,hi,hM⟩
 obtain _ | m2:=m2
 ·exact nomatch (show none=some _ from hM)
 change wpA _ _ _ _ (Fr.of [(0,pA Box_.cells a),(1,.sl .no 1 (a1.map cI)),(2,.i a2),(3,.fn (.func 133) [] [.ptr oc 0,.ep [pA Box_.cells a]]),(23,.i (w64 (a2+1))),(24,.i k)]) _ _
 replace hS:St (fun i=>i<g/\i∉ids (gM oc t gs)) H0 (gM oc t2 gs2) H g2:=hS
 replace hM:zcm rec a a1 a2 (zbC rec a a1 a2 m2) k gs2=some r:=hM
 unfold zcm at hM
 replace hi:∀i,i∈ids (gM oc t2 gs2)->i∈ids (gM oc t gs)\/g<=i:=hi
 refine Sq ?_
 refine Rg 1 ?_
 refine Oi (.b (decide (k<(w64 (a2+1))))) ?_
 refine Ni ?_
 refine Ws ?_
 refine Sq ?_
 rcases bft (decide (k<(w64 (a2+1)))) with hk | hk
 rotate_left
 ·replace hM:=ifF hM hk
  obtain rfl:=Option.some.inj hM
  refine Cf hk ?_
  refine za8 ?_
  refine zal ?_
  refine zaj ?_
  refine zar ?_
  exact zpv (.inl rfl) rfl hS (by omega) hi
 replace hM:=ifT hM hk
 refine Ct hk ?_
 refine zax ?_
 refine Ws ?_
 refine Sq ?_
 refine zao ?_
 refine Sq ?_
 refine Rg 2 ?_
 refine Om (.i k) ?_
 refine Oa (.i k) ?_
 refine Ni ?_
 refine Ws ?_
 refine Rg 11 ?_
 refine Om (pA Box_.cells a) ?_
 refine Om (.sl .no 1 (a1.map cI)) ?_
 obtain ⟨l8,hl8,hM⟩:=zaf hM
 refine zvn (bs:=[.sl .no 1 (a1.map cI)]) hS (by decide) rfl rfl ((zjU hl8).le (.k .nil)) (by omega) fun H hS=>?_
 rw [List.length_map] at hS
 refine Om (.i k) ?_
 refine zaV (es:=[[.i k]]) hS (by decide) zaw zbm rfl zbe rfl (by decide) (by omega) fun H hS=>?_
 obtain ⟨l9,hl9,hM⟩:=zaf hM
 refine zcp (xs:=l8) (ys:=([k]:List Int)) (zs:=l9) (f:=cI) (L':=(g2+1+2+4,.row 3 1)::(g2+1+2+2,.row 3 l9.length)::gM oc t2 gs2) 1 hS (by decide) rfl rfl rfl rfl .no zaw zbm zbe hl9 rfl fun H hS=>?_
 refine Om (.i a2) ?_
 refine Om (.i k) ?_
 refine Oi (.i (w64 (a2-k))) ?_
 refine Om (.fn (.func 133) [] [.ptr oc 0,.ep [pA Box_.cells a]]) ?_
 obtain ⟨r10,hr10,hM⟩:=zaf hM
 have hS2:=hS.perm (L':=gM oc t2 gs2++[(g2+1+2+4,.row 3 1),(g2+1+2+2,.row 3 l9.length)]) (List.perm_append_comm (l₁:=gM oc t2 gs2) (l₂:=[_,_]))
 refine zsV (M:=gM oc t2 gs2) (L:=[(g2+1+2+4,.row 3 1),(g2+1+2+2,.row 3 l9.length)]) (.inl rfl) hS2 (by decide) rfl rfl ((hrec hr10 (show (ids (gM oc t2 gs2)).Nodup from (hS.keep (L':=gM oc t2 gs2) [false,false] rfl).nd)).le (.k (.cons (.sl _ _ _) (.k (.k .nil))))) (by omega) ?_
 rintro v M' H g3 ⟨t3,rfl,rfl⟩ hg3 hi3 hS
 refine Ni ?_
 refine zag ?_
 replace hS:=(hS.perm (L':=[(g2+1+2+4,.row 3 1),(g2+1+2+2,.row 3 l9.length)]++gM oc t3 r10.2) List.perm_append_comm).keep (L':=gM oc t3 r10.2) [false,false] rfl
 refine Ws ?_
 refine Rg 2 ?_
 refine Oi (.i (w64 (k+1))) ?_
 refine Om (.i (w64 (k+1))) ?_
 refine Ni ?_
 exact za1 (w64 (k+1),r10.2,t3) (Nat.lt_succ_self _) (.k (.k (.k (.k (.k (.k .nil)))))) ⟨hS.up (by omega),by omega,fun i h=>(hi3 i h).elim (hi i) fun h=>.inr (by omega),hM⟩
theorem zs1:∀{m nn:Nat} {a:Option Box_} {a1:List Int} {a2:Int} {gs:List Gap_} {r:Unit×List Gap_},zbB m (fun x0 s=>zaO nn a x0 s) a a1 a2 gs=some r->∀{oc t:Nat},(ids (gM oc t gs)).Nodup->zri Try.prog 132 [pA Box_.cells a,.sl .no 1 (a1.map cI),.i a2,.fn (.func 133) [] [.ptr oc 0,.ep [pA Box_.cells a]]] (gM oc t gs) (gT oc r.2)
 | 0,_,_,_,_,_,_,h=>nomatch (show none=some _ from h)
 | n+1,nn,a,_,_,_,_,h=>fun hnd=>zs0 (n:=n) (rec:=zbB n (fun x0 s=>zaO nn a x0 s)) (fun h _ _ hnd=>zs1 h hnd) h hnd
theorem zir {n:Nat} {a0:Option Box_} {r:List Gap_} (hM:zcd n a0=some r):zaD Try.prog 101 [pA Box_.cells a0] (.sl .no 2 (r.map Gap_.cells)):=by
 refine zak mixed Try.func101 rfl (by decide) Try.ntmps101 (by simp) ?pure fun H0 g hf=>?_
 case pure=>exact .sl _ _ (zqn _)
 rw [zai]
 change wpA _ _ _ _ (Fr.of [(0,pA Box_.cells a0)]) H0 g
 have hS:=St.start hf
 unfold zcd at hM
 obtain ⟨rr,hrr,hM⟩:=zaf hM
 obtain rfl:=Option.some.inj hM
 refine Sq ?_
 refine Rg 2 ?_
 refine zcI (v:=pA Box_.cells a0) (cs:=[pA Box_.cells a0]) hS (by decide) rfl (zrd _ _) (by omega) fun H hS=>?_
 refine Oa (.sl .nil 0 []) ?_
 refine Ni ?_
 refine zbd (L':=[]) 0 1 hS rfl rfl rfl fun H hS=>?_
 refine Ws ?_
 refine Sq ?_
 refine Rg 1 ?_
 refine zbP hS (by decide) zsM (by omega) fun H hS=>?_
 refine Ni ?_
 refine Ws ?_
 refine Sq ?_
 refine Rg 3 ?_
 refine Olp (pA Box_.cells a0) zhR zje ?_
 refine zhq (first:=[]) (cap:=[.ptr (g+2+0) 0,.ep [pA Box_.cells a0]]) (by decide) rfl rfl ?_
 refine zod (M:=gM (g+2+0) 0 []) (L:=[]) (.inl rfl) hS (by decide) rfl rfl ((zs1 hrr (by simp [gM,zlK,ids])).le (.k (.cons (.sl0 _ _ _) (.k (.k .nil))))) (by omega) ?_
 rintro v M' H g2 ⟨t2,rfl,rfl⟩ hg2 hS
 refine Ni ?_
 refine Ws ?_
 refine Sq ?_
 refine Rg 2 ?_
 refine za4 (v:=zkl t2 rr.2) 0 hS (by decide) rfl rfl .no (po zga zhj) ?_
 refine Oa (zkl t2 rr.2) ?_
 refine Ni ?_
 refine Ws ?_
 refine zaQ ?_
 refine zaY (x:=zkl t2 rr.2) (f:=fun (r:List Gap_)=>.sl .no 2 (r.map Gap_.cells)) (.inr rfl) (zaA (zae rfl)) ?_ rfl hS
 cases rr.2 with
 | nil=>exact .sl0 _ _ _
 | cons x gs=>exact .sl _ _ _
theorem zkJ {n:Nat} {a0:Box} {r:(Option Box_)×(List Gap_)×Int} (hM:zeM n a0=some r):zaD Try.prog 62 [.agg (Box.cells a0)] (.tup [pA Box_.cells r.1,.sl .no 2 (r.2.1.map Gap_.cells),.i r.2.2]):=by
 refine zak mixed Try.func62 rfl (by decide) Try.ntmps62 (by simp) ?pure fun H0 g hf=>?_
 case pure=>exact .tup _ (zab (zpl (fun x=>(zab (.v _) (zab (.sl _ _ (zaC (fun x=>(zab (.v _) zaG)))) (zab (.sl _ _ (zaC (fun x=>(zab (.v _) zaG)))) (zab (.sl _ _ (zaC (fun x=>(zab (.v _) zaG)))) (zab (.sl _ _ (zaC (fun x=>(zab (.v _) zaG)))) (zab (.sl _ _ (zaC (fun x=>(zab (.v _) zaG)))) (zab (.v _) (zab (.v _) zaG))))))))) _) (zab (.sl _ _ (zaC (fun x=>(zab (.sl _ _ (zaC (fun x=>(zab (.v _) zaG)))) (zab (.sl _ _ (zaC (fun x=>(zab (.v _) zaG)))) zaG))))) (zab (.v _) zaG)))
 rw [zai]
 change wpA _ _ _ _ (Fr.of [(0,.agg (Box.cells a0))]) H0 g
 have hS:=St.start hf
 refine Sq ?_
 refine Rg 4 ?_
 refine zcI (v:=.agg (Box.cells a0)) (cs:=(Box.cells a0)) hS (by decide) rfl rfl (by omega) fun H hS=>?_
 refine Oa (pA Box_.cells (none:Option Box_)) ?_
 refine Oa (.sl .nil 0 []) ?_
 refine Oa (.i 0) ?_
 refine Ni ?_
 refine zbd (L':=[]) 0 1 hS rfl rfl rfl fun H hS=>?_
 refine Ws ?_
 refine Sq ?_
 refine Rg 7 ?_
 refine Olg (.agg (Box.cells a0)) za5 ?_
 obtain ⟨r1,hr1,hM⟩:=zaf hM
 refine zau (bs:=[.agg (Box.cells a0)]) (by decide) rfl rfl ((zgd hr1).le (.k .nil)) ?_
 refine Om (.tup [pA Box_.cells r1.1,.i r1.2]) ?_
 refine Ox (pA Box_.cells r1.1) ?_
 refine Ox (.i r1.2) ?_
 refine Oa (pA Box_.cells r1.1) ?_
 refine Oa (.i r1.2) ?_
 refine Ni ?_
 refine Ws ?_
 refine Sq ?_
 refine Sq ?_
 refine Rg 2 ?_
 refine Om (.i r1.2) ?_
 refine Oi (.b (r1.2 != 0)) ?_
 refine Ni ?_
 refine Ws ?_
 rcases bft (r1.2 != 0) with hb2 | hb2
 ·replace hM:=ifT hM hb2
  refine Ct hb2 ?_
  refine Sq ?_
  refine Rg 4 ?_
  refine Om (.i r1.2) ?_
  refine Oa (pA Box_.cells (none:Option Box_)) ?_
  refine Oa (.sl .nil 0 []) ?_
  refine Oa (.i r1.2) ?_
  refine Ni ?_
  refine Ws ?_
  refine zaQ ?_
  refine zap ?_
  refine zaY (x:=.tup [pA Box_.cells (none:Option Box_),.sl .nil 0 [],.i r1.2]) (f:=fun r=>.tup [pA Box_.cells r.1,.sl .no 2 (r.2.1.map Gap_.cells),.i r.2.2]) (.inr rfl) ?_ (.tupL (.k (.cons (.sl0 .nil 2 0) (.k .nil)))) (Option.some.inj hM) hS
  exact (zih (zae (x:=pA Box_.cells (none:Option Box_)) rfl) (zae (x:=.sl .nil 0 []) rfl) (zae (x:=.i r1.2) rfl))
 ·replace hM:=ifF hM hb2
  refine Cf hb2 ?_
  refine zax ?_
  refine Ws ?_
  refine Sq ?_
  refine Rg 3 ?_
  refine Om (pA Box_.cells r1.1) ?_
  obtain ⟨r3,hr3,hM⟩:=zaf hM
  refine zau (bs:=[pA Box_.cells r1.1]) (by decide) rfl rfl ((zir hr3).le (.k .nil)) ?_
  refine Oa (.sl .no 2 (r3.map Gap_.cells)) ?_
  refine Ni ?_
  refine Ws ?_
  refine Sq ?_
  refine Sq ?_
  refine Rg 3 ?_
  refine Om (.sl .no 2 (r3.map Gap_.cells)) ?_
  refine zbi (n:=r3.length) (by decide) rfl (List.length_map _) zjE ?_
  refine Oi (.b ((r3.length:Int)==0)) ?_
  refine Ni ?_
  refine Ws ?_
  rcases bft ((r3.length:Int)==0) with hb4 | hb4
  ·replace hM:=ifT hM hb4
   refine Ct hb4 ?_
   refine Sq ?_
   refine Rg 3 ?_
   refine Oa (pA Box_.cells (none:Option Box_)) ?_
   refine Oa (.sl .nil 0 []) ?_
   refine Oa (.i 3) ?_
   refine Ni ?_
   refine Ws ?_
   refine zaQ ?_
   refine zap ?_
   refine zaY (x:=.tup [pA Box_.cells (none:Option Box_),.sl .nil 0 [],.i 3]) (f:=fun r=>.tup [pA Box_.cells r.1,.sl .no 2 (r.2.1.map Gap_.cells),.i r.2.2]) (.inr rfl) ?_ (.tupL (.k (.cons (.sl0 .nil 2 0) (.k .nil)))) (Option.some.inj hM) hS
   exact (zih (zae (x:=pA Box_.cells (none:Option Box_)) rfl) (zae (x:=.sl .nil 0 []) rfl) (zae (x:=.i 3) rfl))
  ·replace hM:=ifF hM hb4
   refine Cf hb4 ?_
   refine zax ?_
   refine Ws ?_
   refine Sq ?_
   refine Rg 5 ?_
   refine Om (pA Box_.cells r1.1) ?_
   refine Om (.sl .no 2 (r3.map Gap_.cells)) ?_
   refine Oa (pA Box_.cells r1.1) ?_
   refine Oa (.sl .no 2 (r3.map Gap_.cells)) ?_
   refine Oa (.i 0) ?_
   refine Ni ?_
   refine zeJ [(2,pA Box_.cells r1.1),(3,.sl .no 2 (r3.map Gap_.cells)),(4,.i 0)] (.k (.k (.k .nil))) ?_
   refine zaQ ?_
   refine zaY (x:=.tup [pA Box_.cells r1.1,.sl .no 2 (r3.map Gap_.cells),.i 0]) (f:=fun r=>.tup [pA Box_.cells r.1,.sl .no 2 (r.2.1.map Gap_.cells),.i r.2.2]) (.inr rfl) ?_ (.refl _) (Option.some.inj hM) hS
   exact (zih (zae (x:=pA Box_.cells r1.1) rfl) (zae (x:=.sl .no 2 (r3.map Gap_.cells)) rfl) (zae (x:=.i 0) rfl))
theorem zhA {n:Nat} {a0:Box} {r:Int×Int} (hM:zcJ n a0=some r):zaD Try.prog 19 [.agg (Box.cells a0)] (.tup [.i r.1,.i r.2]):=by
 refine zak mixed Try.func19 rfl (by decide) Try.ntmps19 (by simp) ?pure fun H0 g hf=>?_
 case pure=>exact .tup _ (zab (.v _) (zab (.v _) zaG))
 rw [zai]
 change wpA _ _ _ _ (Fr.of [(0,.agg (Box.cells a0))]) H0 g
 have hS:=St.start hf
 refine Sq ?_
 refine Rg 3 ?_
 refine zcI (v:=.agg (Box.cells a0)) (cs:=(Box.cells a0)) hS (by decide) rfl rfl (by omega) fun H hS=>?_
 refine Oa (.i 0) ?_
 refine Oa (.i 0) ?_
 refine Ni ?_
 refine zbd (L':=[]) 0 1 hS rfl rfl rfl fun H hS=>?_
 refine Ws ?_
 refine Sq ?_
 refine Rg 9 ?_
 refine Olg (.agg (Box.cells a0)) za5 ?_
 obtain ⟨r1,hr1,hM⟩:=zaf hM
 refine zau (bs:=[.agg (Box.cells a0)]) (by decide) rfl rfl ((zkJ hr1).le (.k .nil)) ?_
 refine Om (.tup [pA Box_.cells r1.1,.sl .no 2 (r1.2.1.map Gap_.cells),.i r1.2.2]) ?_
 refine Ox (pA Box_.cells r1.1) ?_
 refine Ox (.sl .no 2 (r1.2.1.map Gap_.cells)) ?_
 refine Ox (.i r1.2.2) ?_
 refine Oa (pA Box_.cells r1.1) ?_
 refine Oa (.sl .no 2 (r1.2.1.map Gap_.cells)) ?_
 refine Oa (.i r1.2.2) ?_
 refine Ni ?_
 refine Ws ?_
 refine Sq ?_
 refine Sq ?_
 refine Rg 2 ?_
 refine Om (.i r1.2.2) ?_
 refine Oi (.b (r1.2.2 != 0)) ?_
 refine Ni ?_
 refine Ws ?_
 rcases bft (r1.2.2 != 0) with hb2 | hb2
 ·replace hM:=ifT hM hb2
  refine Ct hb2 ?_
  refine Sq ?_
  refine Rg 3 ?_
  refine Om (.i r1.2.2) ?_
  refine Oa (.i 0) ?_
  refine Oa (.i r1.2.2) ?_
  refine Ni ?_
  refine Ws ?_
  refine zaQ ?_
  refine zap ?_
  refine zaY (x:=.tup [.i 0,.i r1.2.2]) (f:=fun r=>.tup [.i r.1,.i r.2]) (.inr rfl) ?_ (.refl _) (Option.some.inj hM) hS
  exact (zcP (zae (x:=.i 0) rfl) (zae (x:=.i r1.2.2) rfl))
 ·replace hM:=ifF hM hb2
  refine Cf hb2 ?_
  refine zax ?_
  refine Ws ?_
  refine Sq ?_
  refine Rg 8 ?_
  refine Om (pA Box_.cells r1.1) ?_
  refine Om (.sl .no 2 (r1.2.1.map Gap_.cells)) ?_
  obtain ⟨x3,hx3,hM⟩:=zaf hM
  refine zaL (xs:=r1.2.1) (f:=Gap_.cells) (z:=0) (u:=x3) (by decide) rfl rfl zhS hx3 ?_
  refine Of ((Gap_.cells x3)) zlB ?_
  refine Olp (.sl .no 1 (x3.purse.map cI)) zaq zaE ?_
  obtain ⟨r4,hr4,hM⟩:=zaf hM
  refine zau (bs:=[pA Box_.cells r1.1,.sl .no 1 (x3.purse.map cI)]) (by decide) rfl rfl ((zbp hr4).le (.k (.k .nil))) ?_
  refine Oa (.i r4) ?_
  refine Oa (.i 0) ?_
  refine Ni ?_
  refine zeJ [(2,.i r4),(3,.i 0)] (.k (.k .nil)) ?_
  refine zaQ ?_
  refine zaY (x:=.tup [.i r4,.i 0]) (f:=fun r=>.tup [.i r.1,.i r.2]) (.inr rfl) ?_ (.refl _) (Option.some.inj hM) hS
  exact (zcP (zae (x:=.i r4) rfl) (zae (x:=.i 0) rfl))
theorem zi4 {n:Nat} {a0:Box} {r:Int×Int×Int×Int} (hM:zgi n a0=some r):zaD Try.prog 20 [.agg (Box.cells a0)] (.tup [.i r.1,.i r.2.1,.i r.2.2.1,.i r.2.2.2]):=by
 refine zak mixed Try.func20 rfl (by decide) Try.ntmps20 (by simp) ?pure fun H0 g hf=>?_
 case pure=>exact .tup _ (zab (.v _) (zab (.v _) (zab (.v _) (zab (.v _) zaG))))
 rw [zai]
 change wpA _ _ _ _ (Fr.of [(0,.agg (Box.cells a0))]) H0 g
 have hS:=St.start hf
 refine Sq ?_
 refine Rg 5 ?_
 refine zcI (v:=.agg (Box.cells a0)) (cs:=(Box.cells a0)) hS (by decide) rfl rfl (by omega) fun H hS=>?_
 refine Oa (.i 0) ?_
 refine Oa (.i 0) ?_
 refine Oa (.i 0) ?_
 refine Oa (.i 0) ?_
 refine Ni ?_
 refine zbd (L':=[]) 0 1 hS rfl rfl rfl fun H hS=>?_
 refine Ws ?_
 refine Sq ?_
 refine Rg 7 ?_
 refine Olg (.agg (Box.cells a0)) za5 ?_
 obtain ⟨r1,hr1,hM⟩:=zaf hM
 refine zau (bs:=[.agg (Box.cells a0)]) (by decide) rfl rfl ((zgd hr1).le (.k .nil)) ?_
 refine Om (.tup [pA Box_.cells r1.1,.i r1.2]) ?_
 refine Ox (pA Box_.cells r1.1) ?_
 refine Ox (.i r1.2) ?_
 refine Oa (pA Box_.cells r1.1) ?_
 refine Oa (.i r1.2) ?_
 refine Ni ?_
 refine Ws ?_
 refine Sq ?_
 refine Sq ?_
 refine Rg 2 ?_
 refine Om (.i r1.2) ?_
 refine Oi (.b (r1.2 != 0)) ?_
 refine Ni ?_
 refine Ws ?_
 rcases bft (r1.2 != 0) with hb2 | hb2
 ·replace hM:=ifT hM hb2
  refine Ct hb2 ?_
  refine Sq ?_
  refine Rg 5 ?_
  refine Om (.i r1.2) ?_
  refine Oa (.i 0) ?_
  refine Oa (.i 0) ?_
  refine Oa (.i 0) ?_
  refine Oa (.i r1.2) ?_
  refine Ni ?_
  refine Ws ?_
  refine zaQ ?_
  refine zap ?_
  refine zaY (x:=.tup [.i 0,.i 0,.i 0,.i r1.2]) (f:=fun r=>.tup [.i r.1,.i r.2.1,.i r.2.2.1,.i r.2.2.2]) (.inr rfl) ?_ (.refl _) (Option.some.inj hM) hS
  exact (zfX (zae (x:=.i 0) rfl) (zae (x:=.i 0) rfl) (zae (x:=.i 0) rfl) (zae (x:=.i r1.2) rfl))
 ·replace hM:=ifF hM hb2
  refine Cf hb2 ?_
  refine zax ?_
  refine Ws ?_
  refine Sq ?_
  refine Rg 5 ?_
  refine Om (pA Box_.cells r1.1) ?_
  refine Of ((Box.cells a0)) zeq ?_
  refine Olp (.sl .no 1 (a0.Marked.map cI)) zaq zaE ?_
  obtain ⟨r3,hr3,hM⟩:=zaf hM
  refine zau (bs:=[pA Box_.cells r1.1,.sl .no 1 (a0.Marked.map cI)]) (by decide) rfl rfl ((zbp hr3).le (.k (.k .nil))) ?_
  refine Oa (.i r3) ?_
  refine Ni ?_
  refine Ws ?_
  refine Sq ?_
  have hS0:=hS
  refine zcg (n:=15) rfl (by kernel_rfl) ?_
  refine Om (pA Box_.cells r1.1) ?_
  refine Of ((Box.cells a0)) zco ?_
  refine Olp (.sl .no 1 (a0.Found.map cI)) zaq zaE ?_
  obtain ⟨r4,hr4,hM⟩:=zaf hM
  refine zau (bs:=[pA Box_.cells r1.1,.sl .no 1 (a0.Found.map cI)]) (by decide) rfl rfl ((zbp hr4).le (.k (.k .nil))) ?_
  refine Om (.i r3) ?_
  refine Oi (.i (w64 (r4-r3))) ?_
  refine Om (.i r3) ?_
  refine Om (pA Box_.cells r1.1) ?_
  refine Of ((Box.cells a0)) zdr ?_
  refine Olp (.sl .no 1 (a0.Slugs.map cI)) zaq zaE ?_
  obtain ⟨r5,hr5,hM⟩:=zaf hM
  refine zau (bs:=[pA Box_.cells r1.1,.sl .no 1 (a0.Slugs.map cI)]) (by decide) rfl rfl ((zbp hr5).le (.k (.k .nil))) ?_
  refine Oa (.i (w64 (r4-r3))) ?_
  refine Oa (.i r3) ?_
  refine Oa (.i r5) ?_
  refine Oa (.i 0) ?_
  refine Ni ?_
  refine zeJ [(2,.i (w64 (r4-r3))),(3,.i r3),(4,.i r5),(5,.i 0)] (.k (.k (.k (.k .nil)))) ?_
  refine zaQ ?_
  refine zaY (x:=.tup [.i (w64 (r4-r3)),.i r3,.i r5,.i 0]) (f:=fun r=>.tup [.i r.1,.i r.2.1,.i r.2.2.1,.i r.2.2.2]) (.inr rfl) ?_ (.refl _) (Option.some.inj hM) hS
  exact (zfX (zae (x:=.i (w64 (r4-r3))) rfl) (zae (x:=.i r3) rfl) (zae (x:=.i r5) rfl) (zae (x:=.i 0) rfl))
theorem zcR {n:Nat} {a0:List Int} {a1:List Int} {r:Bool} (hM:zbR n a0 a1=some r):zaD Try.prog 21 [.sl .no 1 (a0.map cI),.sl .no 1 (a1.map cI)] (.b r):=by
 refine zak mixed Try.func21 rfl (by decide) Try.ntmps21 (by simp) ?pure fun H0 g hf=>?_
 case pure=>exact .v _
 rw [zai]
 change wpA _ _ _ _ (Fr.of [(0,.sl .no 1 (a0.map cI)),(1,.sl .no 1 (a1.map cI))]) H0 g
 have hS:=St.start hf
 refine Sq ?_
 refine Rg 1 ?_
 refine Oa (.b false) ?_
 refine Ni ?_
 refine Ws ?_
 refine Sq ?_
 refine Sq ?_
 refine Rg 5 ?_
 refine Om (.sl .no 1 (a0.map cI)) ?_
 refine zbi (n:=a0.length) (by decide) rfl (List.length_map _) zaM ?_
 refine Om (.sl .no 1 (a1.map cI)) ?_
 refine zbi (n:=a1.length) (by decide) rfl (List.length_map _) zaM ?_
 refine Oi (.b ((a0.length:Int) != (a1.length:Int))) ?_
 refine Ni ?_
 refine Ws ?_
 rcases bft ((a0.length:Int) != (a1.length:Int)) with hb1 | hb1
 ·replace hM:=ifT hM hb1
  refine Ct hb1 ?_
  refine Sq ?_
  refine Rg 1 ?_
  refine Oa (.b false) ?_
  refine Ni ?_
  refine Ws ?_
  refine zaQ ?_
  refine zap ?_
  refine zaY (x:=.b false) (f:=fun r=>.b r) (.inr rfl) ?_ (.refl _) (Option.some.inj hM) hS
  exact (zaA (zae (x:=.b false) rfl))
 ·replace hM:=ifF hM hb1
  refine Cf hb1 ?_
  refine zax ?_
  refine Ws ?_
  refine zaW (J:=Unit) (fun j=>[]) (fun j H' g'=>St (·<g) H0 [] H' g'/\zey=some r) ?_ ?_
  ·rintro _ H g1 ⟨hS,hM⟩
   change wpA _ _ _ _ (Fr.of []) _ _
   replace hS:St (·<g) H0 [] H g1:=hS
   replace hM:zey=some r:=hM
   refine Sq ?_
   refine Rg 1 ?_
   refine Oa (.b true) ?_
   refine Ni ?_
   refine Ws ?_
   refine zaQ ?_
   refine zaY (x:=.b true) (f:=fun r=>.b r) (.inr rfl) ?_ (.refl _) (Option.some.inj hM) hS
   exact (zaA (zae (x:=.b true) rfl))
  ·refine Sq ?_
   refine Rg 1 ?_
   refine Oa (.i 0) ?_
   refine Ni ?_
   refine Ws ?_
   refine zao ?_
   refine zbj (V:=Int) (fun v=>[(0,.sl .no 1 (a0.map cI)),(1,.sl .no 1 (a1.map cI)),(5,.i v)]) (fun v m2 H' g'=>St (·<g) H0 [] H' g'/\zbO a0 a1 m2 v=some r) (n:=n) 0 (.k (.k (.k .nil))) ⟨(hS.keep [] rfl).up (by omega),hM⟩ ?_
   rintro v2 m2 H g2 ⟨hS,hM⟩
   obtain _ | m2:=m2
   ·exact nomatch (show none=some _ from hM)
   change wpA _ _ _ _ (Fr.of [(0,.sl .no 1 (a0.map cI)),(1,.sl .no 1 (a1.map cI)),(5,.i v2)]) _ _
   replace hS:St (·<g) H0 [] H g2:=hS
   replace hM:zdE a0 a1 (zbO a0 a1 m2) v2=some r:=hM
   refine Sq ?_
   refine Sq ?_
   refine Rg 4 ?_
   refine Om (.i v2) ?_
   refine Om (.sl .no 1 (a0.map cI)) ?_
   refine zbi (n:=a0.length) (by decide) rfl (List.length_map _) zaM ?_
   refine Oi (.b (decide (v2<(a0.length:Int)))) ?_
   refine Ni ?_
   refine Ws ?_
   rcases bft (decide (v2<(a0.length:Int))) with hb3 | hb3
   ·replace hM:=ifT hM hb3
    refine Ct hb3 ?_
    refine zax ?_
    refine Ws ?_
    refine Sq ?_
    refine zao ?_
    refine Sq ?_
    have hS0:=hS
    refine zcg (n:=9) rfl (by kernel_rfl) ?_
    refine Om (.sl .no 1 (a0.map cI)) ?_
    refine Om (.i v2) ?_
    obtain ⟨x4,hx4,hM⟩:=zaf hM
    refine zaL (xs:=a0) (f:=cI) (z:=v2) (u:=x4) (by decide) rfl rfl zaw hx4 ?_
    refine Olp (.i x4) zah zas ?_
    refine Om (.sl .no 1 (a1.map cI)) ?_
    refine Om (.i v2) ?_
    obtain ⟨x5,hx5,hM⟩:=zaf hM
    refine zaL (xs:=a1) (f:=cI) (z:=v2) (u:=x5) (by decide) rfl rfl zaw hx5 ?_
    refine Olp (.i x5) zah zas ?_
    refine Oi (.b (x4 != x5)) ?_
    refine Ni ?_
    refine Ws ?_
    rcases bft (x4 != x5) with hb6 | hb6
    ·replace hM:=ifT hM hb6
     refine Ct hb6 ?_
     refine Sq ?_
     refine Rg 1 ?_
     refine Oa (.b false) ?_
     refine Ni ?_
     refine Ws ?_
     refine zaQ ?_
     refine zaZ ?_
     refine zap ?_
     refine zbs ?_
     refine zaZ ?_
     refine zbJ ?_
     refine zaY (x:=.b false) (f:=fun r=>.b r) (.inr rfl) ?_ (.refl _) (Option.some.inj hM) hS
     exact (zaA (zae (x:=.b false) rfl))
    ·replace hM:=ifF hM hb6
     refine Cf hb6 ?_
     refine zax ?_
     refine zag ?_
     refine Ws ?_
     refine Rg 3 ?_
     refine Om (.i v2) ?_
     refine Oi (.i (w64 (v2+1))) ?_
     refine Oa (.i (w64 (v2+1))) ?_
     refine Ni ?_
     exact za1 (w64 (v2+1)) (Nat.lt_succ_self _) (.k (.k (.k .nil))) ⟨(hS.keep [] rfl).up (by omega),hM⟩
   ·replace hM:=ifF hM hb3
    refine Cf hb3 ?_
    refine za8 ?_
    refine zal ?_
    refine zaj ?_
    refine zar ?_
    exact zam () .nil ⟨(hS.keep [] rfl).up (by omega),hM⟩
end Go.Proofs.Ytenogpmlhpcibaa
