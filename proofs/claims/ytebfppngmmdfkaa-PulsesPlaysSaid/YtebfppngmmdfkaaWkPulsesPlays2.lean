/-
  The code returns what the functions say (printed by gen.py).
  Conditions: none.
-/
import Derived.Test.YtebfppngmmdfkaaWkPulsesPlays1
import Derived.Test.YtebfppngmmdfkaaAmPg
set_option linter.all false
namespace Go.Proofs.Ytebfppngmmdfkaa
open Go Go.AM Go.Law
set_option linter.unusedVariables false
set_option maxRecDepth 4000
set_option maxHeartbeats 4000000
theorem zfC {a0:Train_} {r:Bool} (hM:zcR a0=some r):zav Try.prog 30 [.agg (Train_.cells a0)] (.b r):=by
 refine zaj mixed Try.func30 rfl (by decide) Try.ntmps30 (by simp) ?pure fun H0 g hf=>?_
 case pure=>exact .v _
 rw [zah]
 change wpA _ _ _ _ (Fr.of [(0,.agg (Train_.cells a0))]) H0 g
 have hS:=St.start hf
 refine Sq ?_
 refine Rg 2 ?_
 refine zbX (v:=.agg (Train_.cells a0)) (cs:=(Train_.cells a0)) hS (by decide) rfl rfl (by omega) fun H hS=>?_
 refine Oa (.b false) ?_
 refine Ni ?_
 replace hS:=hS.keep (L':=[]) [false] rfl
 refine Ws ?_
 refine Sq ?_
 refine Rg 1 ?_
 refine Oa (.b true) ?_
 refine Ni ?_
 refine zdz [(2,.b true)] (.k .nil) ?_
 refine zaA ?_
 refine zaJ (x:=.b true) (f:=fun r=>.b r) (.inr rfl) ?_ (.refl _) (Option.some.inj hM) hS
 exact (zao (zac (x:=.b true) rfl))
theorem zmk {n:Nat} {a0:Pulse} {r:Int×Int} (hM:zkI n a0=some r):zav Try.prog 13 [.agg (Pulse.cells a0)] (.tup [.i r.1,.i r.2]):=by
 refine zaj mixed Try.func13 rfl (by decide) Try.ntmps13 (by simp) ?pure fun H0 g hf=>?_
 case pure=>exact .tup _ (zad (.v _) (zad (.v _) zaG))
 rw [zah]
 change wpA _ _ _ _ (Fr.of [(0,.agg (Pulse.cells a0))]) H0 g
 have hS:=St.start hf
 refine Sq ?_
 refine Rg 3 ?_
 refine zbX (v:=.agg (Pulse.cells a0)) (cs:=(Pulse.cells a0)) hS (by decide) rfl rfl (by omega) fun H hS=>?_
 refine Oa (.i 0) ?_
 refine Oa (.i 0) ?_
 refine Ni ?_
 refine zaZ (L':=[]) 0 1 hS rfl rfl rfl fun H hS=>?_
 refine Ws ?_
 refine Sq ?_
 refine Rg 7 ?_
 refine Olg (.agg (Pulse.cells a0)) za0 ?_
 obtain ⟨r1,hr1,hM⟩:=zai hM
 refine zau (bs:=[.agg (Pulse.cells a0),.fn (.func 30) [] []]) (by decide) rfl rfl (zee ((zfq (Lo:=(fun (_:Unit)=>[]))  (fun _ _=>zdJ) (fun _=>List.nodup_nil) (fun _=>zdi) (aF:=(fun (x0:Train_) (_:Unit)=>(zcR x0).map fun y=>(y,()))) (fun _ H hH=>(.fn _ _ _ zcq zcq)) rfl (fun h=>zhm (zfC (zdK h))) hr1).le (.k (.k .nil)))) ?_
 refine Om (.tup [.sl .no 2 (r1.1.1.map Reading_.cells),.i r1.1.2]) ?_
 refine Ox (.sl .no 2 (r1.1.1.map Reading_.cells)) ?_
 refine Ox (.i r1.1.2) ?_
 refine Oa (.sl .no 2 (r1.1.1.map Reading_.cells)) ?_
 refine Oa (.i r1.1.2) ?_
 refine Ni ?_
 refine Ws ?_
 refine Sq ?_
 refine Rg 5 ?_
 refine Om (.sl .no 2 (r1.1.1.map Reading_.cells)) ?_
 refine zcj (n:=r1.1.1.length) (by decide) rfl (List.length_map _) zka ?_
 refine Om (.i r1.1.2) ?_
 refine Oa (.i (r1.1.1.length:Int)) ?_
 refine Oa (.i r1.1.2) ?_
 refine Ni ?_
 refine Ws ?_
 refine zaA ?_
 refine zaJ (x:=.tup [.i (r1.1.1.length:Int),.i r1.1.2]) (f:=fun r=>.tup [.i r.1,.i r.2]) (.inr rfl) ?_ (.refl _) (Option.some.inj hM) hS
 exact (za2 (zac (x:=.i (r1.1.1.length:Int)) rfl) (zac (x:=.i r1.1.2) rfl))
theorem zhB {S:Type} {Lo:S->BL} (hk:∀s s',zhi (Lo s) (Lo s')) (hnd:∀s,(ids (Lo s)).Nodup) (hin:∀s,InB In (Lo s)) {aF:(List Int)->S->Option (Bool×S)} {f0:AV} (hF:∀s H,Has H (Lo s)->In H f0) (h0:cellsOf f0=some [f0]) (hf:∀{x0:List Int} {s:S} {r:Bool×S},aF x0 s=some r->zkh Try.prog f0 [.sl .no 1 (x0.map cI)] (Lo s) (.b r.1) (Lo r.2)) {n:Nat} {a0:List (List Int)} {st:S} {r:Int×S} (hM:zeh n aF a0 st=some r):zhD Try.prog 78 [.sl .no 1 (a0.map (cLf 1 cI)),f0] (Lo st) (.i r.1) (Lo r.2):=by
 have hnd0:∀s,(ids (Lo s)).Nodup:=fun s=>hnd s
 refine zbk mixed Try.func78 rfl (by decide) Try.ntmps78 (by simp) (hk _ _) (hnd st) ?pure ?cells fun H0 g hf_ hp=>?_
 case pure=>exact fun H _=>(show Go.AM.Pure _ from .v _).inH
 case cells=>exact hin _
 rw [zah]
 change wpA _ _ _ _ (Fr.of [(0,.sl .no 1 (a0.map (cLf 1 cI))),(1,f0)]) H0 g
 have hS:=St.startH (L:=([]++Lo st)) hf_ (hnd st) hp
 replace hS:St (fun i=>i<g/\i∉ids (Lo st)) H0 ([]++Lo st) H0 g:=hS
 refine Sq ?_
 refine Rg 1 ?_
 refine Oa (.i 0) ?_
 refine Ni ?_
 refine Ws ?_
 refine zaC (J:=S) (fun j=>[]) (fun j H' g'=>St (fun i=>i<g/\i∉ids (Lo st)) H0 ([]++Lo j) H' g'/\zcx j=some r) ?_ ?_
 ·rintro v1 H g1 ⟨hS,hM⟩
  change wpA _ _ _ _ (Fr.of []) _ _
  replace hS:St (fun i=>i<g/\i∉ids (Lo st)) H0 ([]++Lo v1) H g1:=hS
  replace hM:zcx v1=some r:=hM
  refine Sq ?_
  refine Rg 1 ?_
  refine Oa (.i (-1)) ?_
  refine Ni ?_
  refine Ws ?_
  refine zaA ?_
  refine zc2 (x:=.i (-1)) (f:=fun r=>.i r.1) (fd:=fun r=>(Lo r.2)) (.inr rfl) ?_ (.refl _) (Option.some.inj hM) hS 0 rfl
  exact (zao (zac (x:=.i (-1)) rfl))
 ·refine Sq ?_
  refine Rg 3 ?_
  refine Om (.sl .no 1 (a0.map (cLf 1 cI))) ?_
  refine zcj (n:=a0.length) (by decide) rfl (List.length_map _) zkb ?_
  refine Om (.i 0) ?_
  refine Ni ?_
  refine Ws ?_
  refine zaq ?_
  refine zbr (V:=Int×S) (fun v=>[(0,.sl .no 1 (a0.map (cLf 1 cI))),(1,f0),(7,.i (a0.length:Int)),(8,.i v.1)]) (fun v m3 H' g'=>St (fun i=>i<g/\i∉ids (Lo st)) H0 ([]++Lo v.2) H' g'/\zbc a0 aF m3 v.1 v.2=some r) (n:=n) (0,st) (.k (.k (.k (.k .nil)))) ⟨(hS.keep [] rfl).up (by omega),hM⟩ ?_
  rintro ⟨v3,v4⟩ m3 H g3 ⟨hS,hM⟩
  obtain _ | m3:=m3
  ·exact nomatch (show none=some _ from hM)
  change wpA _ _ _ _ (Fr.of [(0,.sl .no 1 (a0.map (cLf 1 cI))),(1,f0),(7,.i (a0.length:Int)),(8,.i v3)]) _ _
  replace hS:St (fun i=>i<g/\i∉ids (Lo st)) H0 ([]++Lo v4) H g3:=hS
  replace hM:zcg a0 aF (zbc a0 aF m3) v3 v4=some r:=hM
  refine Sq ?_
  refine Rg 1 ?_
  refine Oi (.b (decide (v3<(a0.length:Int)))) ?_
  refine Ni ?_
  refine Ws ?_
  refine Sq ?_
  rcases bft (decide (v3<(a0.length:Int))) with hb5 | hb5
  ·replace hM:=ifT hM hb5
   refine Ct hb5 ?_
   refine zar ?_
   refine Ws ?_
   refine Sq ?_
   refine zaq ?_
   refine Sq ?_
   refine Rg 2 ?_
   refine Om (.i v3) ?_
   refine Oa (.i v3) ?_
   refine Ni ?_
   refine Ws ?_
   refine Sq ?_
   refine Rg 6 ?_
   refine Om (f0) ?_
   refine Om (.sl .no 1 (a0.map (cLf 1 cI))) ?_
   refine Om (.i v3) ?_
   obtain ⟨x6,hx6,hM⟩:=zai hM
   refine zaU (xs:=a0) (f:=(cLf 1 cI)) (z:=v3) (u:=x6) (by decide) rfl rfl zia hx6 ?_
   refine Olp (.sl .fr 1 (x6.map cI)) za6 zbx ?_
   obtain ⟨r7,hr7,hM⟩:=zai hM
   replace hS:St (fun i=>i<g/\i∉ids (Lo st)) H0 ([]++Lo v4) _ _:=hS
   refine zhZ (bs:=[.sl .fr 1 (x6.map cI)]) (.inl rfl) hS (by decide) rfl rfl ((hf hr7).le (.cons (.sl _ _ _) .nil)) (hk _ _).ids (by omega) fun H hS=>?_
   refine Ni ?_
   refine Ws ?_
   rcases bft r7.1 with hb8 | hb8
   ·replace hM:=ifT hM hb8
    refine Ct hb8 ?_
    refine Sq ?_
    refine Rg 2 ?_
    refine Om (.i v3) ?_
    refine Oa (.i v3) ?_
    refine Ni ?_
    refine Ws ?_
    refine zaA ?_
    refine zas ?_
    refine zam ?_
    refine zaL ?_
    refine zas ?_
    refine zaI ?_
    refine zc2 (x:=.i v3) (f:=fun r=>.i r.1) (fd:=fun r=>(Lo r.2)) (.inr rfl) ?_ (.refl _) (Option.some.inj hM) hS 0 rfl
    exact (zao (zac (x:=.i v3) rfl))
   ·replace hM:=ifF hM hb8
    refine Cf hb8 ?_
    refine zar ?_
    refine zae ?_
    refine Ws ?_
    refine Rg 2 ?_
    refine Oi (.i (w64 (v3+1))) ?_
    refine Om (.i (w64 (v3+1))) ?_
    refine Ni ?_
    exact zaW (w64 (v3+1),r7.2) (Nat.lt_succ_self _) (.k (.k (.k (.k .nil)))) ⟨(hS.keep [] rfl).up (by omega),hM⟩
  ·replace hM:=ifF hM hb5
   refine Cf hb5 ?_
   refine zbl ?_
   refine zap ?_
   refine zan ?_
   refine zat ?_
   exact zag v4 .nil ⟨(hS.keep [] rfl).up (by omega),hM⟩
theorem zgS {S:Type} {Lo:S->BL} (hk:∀s s',zhi (Lo s) (Lo s')) (hnd:∀s,(ids (Lo s)).Nodup) (hin:∀s,InB In (Lo s)) {aF:(List Int)->S->Option (Bool×S)} {f0:AV} (hF:∀s H,Has H (Lo s)->In H f0) (h0:cellsOf f0=some [f0]) (hf:∀{x0:List Int} {s:S} {r:Bool×S},aF x0 s=some r->zkh Try.prog f0 [.sl .no 1 (x0.map cI)] (Lo s) (.b r.1) (Lo r.2)) {n:Nat} {a0:List (List Int)} {st:S} {r:Bool×S} (hM:zcy n aF a0 st=some r):zhD Try.prog 57 [.sl .no 1 (a0.map (cLf 1 cI)),f0] (Lo st) (.b r.1) (Lo r.2):=by
 have hnd0:∀s,(ids (Lo s)).Nodup:=fun s=>hnd s
 refine zbk mixed Try.func57 rfl (by decide) Try.ntmps57 (by simp) (hk _ _) (hnd st) ?pure ?cells fun H0 g hf_ hp=>?_
 case pure=>exact fun H _=>(show Go.AM.Pure _ from .v _).inH
 case cells=>exact hin _
 rw [zah]
 change wpA _ _ _ _ (Fr.of [(0,.sl .no 1 (a0.map (cLf 1 cI))),(1,f0)]) H0 g
 have hS:=St.startH (L:=([]++Lo st)) hf_ (hnd st) hp
 replace hS:St (fun i=>i<g/\i∉ids (Lo st)) H0 ([]++Lo st) H0 g:=hS
 refine Sq ?_
 refine Rg 1 ?_
 refine Oa (.b false) ?_
 refine Ni ?_
 refine Ws ?_
 refine Sq ?_
 refine Rg 5 ?_
 refine Om (.sl .no 1 (a0.map (cLf 1 cI))) ?_
 refine Om (f0) ?_
 obtain ⟨r1,hr1,hM⟩:=zai hM
 replace hS:St (fun i=>i<g/\i∉ids (Lo st)) H0 ([]++Lo st) _ _:=hS
 refine ziW (bs:=[.sl .no 1 (a0.map (cLf 1 cI)),f0]) (.inl rfl) hS (by decide) rfl rfl ((zhB (Lo:=Lo)  hk hnd0 hin (aF:=aF) hF h0 hf hr1).le (.k (.k .nil))) (hk _ _).ids (by omega) fun H hS=>?_
 refine Oi (.b (decide (r1.1≥0))) ?_
 refine Oa (.b (decide (r1.1≥0))) ?_
 refine Ni ?_
 refine zdz [(4,.b (decide (r1.1≥0)))] (.k .nil) ?_
 refine zaA ?_
 refine zc2 (x:=.b (decide (r1.1≥0))) (f:=fun r=>.b r.1) (fd:=fun r=>(Lo r.2)) (.inr rfl) ?_ (.refl _) (Option.some.inj hM) hS 0 rfl
 exact (zao (zac (x:=.b (decide (r1.1≥0))) rfl))
theorem zi8 {n:Nat} {a0:List Int} {a1:List Int} {r:Bool} (hM:slices_Equal_int n a0 a1=some r):zav Try.prog 59 [.sl .no 1 (a0.map cI),.sl .no 1 (a1.map cI)] (.b r):=by
 refine zaj mixed Try.func59 rfl (by decide) Try.ntmps59 (by simp) ?pure fun H0 g hf=>?_
 case pure=>exact .v _
 rw [zah]
 change wpA _ _ _ _ (Fr.of [(0,.sl .no 1 (a0.map cI)),(1,.sl .no 1 (a1.map cI))]) H0 g
 have hS:=St.start hf
 refine Sq ?_
 refine Rg 1 ?_
 refine Oa (.b false) ?_
 refine Ni ?_
 refine Ws ?_
 refine Sq ?_
 refine Sq ?_
 refine Rg 5 ?_
 refine Om (.sl .no 1 (a0.map cI)) ?_
 refine zcj (n:=a0.length) (by decide) rfl (List.length_map _) za9 ?_
 refine Om (.sl .no 1 (a1.map cI)) ?_
 refine zcj (n:=a1.length) (by decide) rfl (List.length_map _) za9 ?_
 refine Oi (.b ((a0.length:Int) != (a1.length:Int))) ?_
 refine Ni ?_
 refine Ws ?_
 rcases bft ((a0.length:Int) != (a1.length:Int)) with hb1 | hb1
 ·replace hM:=ifT hM hb1
  refine Ct hb1 ?_
  refine Sq ?_
  refine Rg 1 ?_
  refine Oa (.b false) ?_
  refine Ni ?_
  refine Ws ?_
  refine zaA ?_
  refine zam ?_
  refine zaJ (x:=.b false) (f:=fun r=>.b r) (.inr rfl) ?_ (.refl _) (Option.some.inj hM) hS
  exact (zao (zac (x:=.b false) rfl))
 ·replace hM:=ifF hM hb1
  refine Cf hb1 ?_
  refine zar ?_
  refine Ws ?_
  refine zaC (J:=Unit) (fun j=>[]) (fun j H' g'=>St (·<g) H0 [] H' g'/\zdD=some r) ?_ ?_
  ·rintro _ H g1 ⟨hS,hM⟩
   change wpA _ _ _ _ (Fr.of []) _ _
   replace hS:St (·<g) H0 [] H g1:=hS
   replace hM:zdD=some r:=hM
   refine Sq ?_
   refine Rg 1 ?_
   refine Oa (.b true) ?_
   refine Ni ?_
   refine Ws ?_
   refine zaA ?_
   refine zaJ (x:=.b true) (f:=fun r=>.b r) (.inr rfl) ?_ (.refl _) (Option.some.inj hM) hS
   exact (zao (zac (x:=.b true) rfl))
  ·refine Sq ?_
   refine Rg 3 ?_
   refine Om (.sl .no 1 (a0.map cI)) ?_
   refine zcj (n:=a0.length) (by decide) rfl (List.length_map _) za9 ?_
   refine Om (.i 0) ?_
   refine Ni ?_
   refine Ws ?_
   refine zaq ?_
   refine zbr (V:=Int) (fun v=>[(0,.sl .no 1 (a0.map cI)),(1,.sl .no 1 (a1.map cI)),(12,.i (a0.length:Int)),(13,.i v)]) (fun v m2 H' g'=>St (·<g) H0 [] H' g'/\zbQ a0 a1 m2 v=some r) (n:=n) 0 (.k (.k (.k (.k .nil)))) ⟨(hS.keep [] rfl).up (by omega),hM⟩ ?_
   rintro v2 m2 H g2 ⟨hS,hM⟩
   obtain _ | m2:=m2
   ·exact nomatch (show none=some _ from hM)
   change wpA _ _ _ _ (Fr.of [(0,.sl .no 1 (a0.map cI)),(1,.sl .no 1 (a1.map cI)),(12,.i (a0.length:Int)),(13,.i v2)]) _ _
   replace hS:St (·<g) H0 [] H g2:=hS
   replace hM:zc7 a0 a1 (zbQ a0 a1 m2) v2=some r:=hM
   refine Sq ?_
   refine Rg 1 ?_
   refine Oi (.b (decide (v2<(a0.length:Int)))) ?_
   refine Ni ?_
   refine Ws ?_
   refine Sq ?_
   rcases bft (decide (v2<(a0.length:Int))) with hb3 | hb3
   ·replace hM:=ifT hM hb3
    refine Ct hb3 ?_
    refine zar ?_
    refine Ws ?_
    refine Sq ?_
    refine zaq ?_
    refine Sq ?_
    refine Rg 2 ?_
    refine Om (.i v2) ?_
    refine Oa (.i v2) ?_
    refine Ni ?_
    refine Ws ?_
    refine Sq ?_
    have hS0:=hS
    refine zd1 (n:=9) rfl (by kernel_rfl) ?_
    refine Om (.sl .no 1 (a0.map cI)) ?_
    refine Om (.i v2) ?_
    obtain ⟨x4,hx4,hM⟩:=zai hM
    refine zaU (xs:=a0) (f:=cI) (z:=v2) (u:=x4) (by decide) rfl rfl zaR hx4 ?_
    refine Olp (.i x4) zab zaf ?_
    refine Om (.sl .no 1 (a1.map cI)) ?_
    refine Om (.i v2) ?_
    obtain ⟨x5,hx5,hM⟩:=zai hM
    refine zaU (xs:=a1) (f:=cI) (z:=v2) (u:=x5) (by decide) rfl rfl zaR hx5 ?_
    refine Olp (.i x5) zab zaf ?_
    refine Oi (.b (x4 != x5)) ?_
    refine Ni ?_
    refine Ws ?_
    rcases bft (x4 != x5) with hb6 | hb6
    ·replace hM:=ifT hM hb6
     refine Ct hb6 ?_
     refine Sq ?_
     refine Rg 1 ?_
     refine Oa (.b false) ?_
     refine Ni ?_
     refine Ws ?_
     refine zaA ?_
     refine zas ?_
     refine zam ?_
     refine zaL ?_
     refine zas ?_
     refine zaI ?_
     refine zaJ (x:=.b false) (f:=fun r=>.b r) (.inr rfl) ?_ (.refl _) (Option.some.inj hM) hS
     exact (zao (zac (x:=.b false) rfl))
    ·replace hM:=ifF hM hb6
     refine Cf hb6 ?_
     refine zar ?_
     refine zae ?_
     refine Ws ?_
     refine Rg 2 ?_
     refine Oi (.i (w64 (v2+1))) ?_
     refine Om (.i (w64 (v2+1))) ?_
     refine Ni ?_
     exact zaW (w64 (v2+1)) (Nat.lt_succ_self _) (.k (.k (.k (.k .nil)))) ⟨(hS.keep [] rfl).up (by omega),hM⟩
   ·replace hM:=ifF hM hb3
    refine Cf hb3 ?_
    refine zbl ?_
    refine zap ?_
    refine zan ?_
    refine zat ?_
    exact zag () .nil ⟨(hS.keep [] rfl).up (by omega),hM⟩
theorem zjw {p1:Nat} (hnd:[p1].Nodup) {n:Nat} {a0:List Int} {a1:Reading_} {r:Bool} (hM:zdq n a0 a1=some r):zhD Try.prog 58 [.sl .no 1 (a0.map cI),.ptr p1 0] [(p1,.cells (Reading_.cells a1))] (.b r) [(p1,.cells (Reading_.cells a1))]:=by
 refine zbk mixed Try.func58 rfl (by decide) Try.ntmps58 (by simp) (zbP zdJ) hnd ?pure ?cells fun H0 g hf_ hp=>?_
 case pure=>exact fun H _=>(show Go.AM.Pure _ from .v _).inH
 case cells=>exact (zfT (zb2 (zaw (.inl (.inl (.v _))) (zaw (.inl (.inl (.fr _ _ (zaz (fun x=>(zad (.v _) zaG)))))) zed)) zfS) zdi)
 rw [zah]
 change wpA _ _ _ _ (Fr.of [(0,.sl .no 1 (a0.map cI)),(1,.ptr p1 0)]) H0 g
 have hS:=St.startH (L:=[(p1,.cells (Reading_.cells a1))]) hf_ hnd hp
 replace hS:St (fun i=>i<g/\i∉ids [(p1,.cells (Reading_.cells a1))]) H0 [(p1,.cells (Reading_.cells a1))] H0 g:=hS
 refine Sq ?_
 refine Rg 1 ?_
 refine Oa (.b false) ?_
 refine Ni ?_
 refine Ws ?_
 refine Sq ?_
 refine Rg 5 ?_
 refine Om (.sl .no 1 (a0.map cI)) ?_
 refine zaO (by decide) zkP rfl ?_
 refine za3 (v:=.sl .fr 1 (a1.list.map cI)) 0 hS (by decide) rfl rfl .no (po za6 zbx) ?_
 obtain ⟨r1,hr1,hM⟩:=zai hM
 refine zau (bs:=[.sl .no 1 (a0.map cI),.sl .fr 1 (a1.list.map cI)]) (by decide) rfl rfl ((zi8 hr1).le (.k (.cons (.sl _ _ _) .nil))) ?_
 refine Oa (.b r1) ?_
 refine Ni ?_
 refine zdz [(3,.b r1)] (.k .nil) ?_
 refine zaA ?_
 refine zc2 (x:=.b r1) (f:=fun r=>.b r) (fd:=fun r=>[(p1,.cells (Reading_.cells a1))]) (.inr rfl) ?_ (.refl _) (Option.some.inj hM) hS 0 rfl
 exact (zao (zac (x:=.b r1) rfl))
theorem ziz {n:Nat} {a0:List Reading_} {r:(List (List Int))} (hM:zgX n a0=some r):zav Try.prog 31 [.sl .no 2 (a0.map Reading_.cells)] (.sl .no 1 (r.map (cLf 1 cI))):=by
 refine zaj mixed Try.func31 rfl (by decide) Try.ntmps31 (by simp) ?pure fun H0 g hf=>?_
 case pure=>exact .sl _ _ (zaz (fun x=>(zad (.fr _ _ (zaz (fun x=>(zad (.v _) zaG)))) zaG)))
 rw [zah]
 change wpA _ _ _ _ (Fr.of [(0,.sl .no 2 (a0.map Reading_.cells))]) H0 g
 have hS:=St.start hf
 refine Sq ?_
 refine Rg 1 ?_
 refine Oa (.sl .nil 0 []) ?_
 refine Ni ?_
 refine Ws ?_
 refine Sq ?_
 refine Rg 1 ?_
 refine Oa (.sl .nil 0 []) ?_
 refine Ni ?_
 refine zmT [(0,.sl .no 2 (a0.map Reading_.cells)),(3,.sl (.id (g+1+1)) 1 (([]:List (List Int)).map (cLf 1 cI)))] 3 1 22 hS (by omega) (by decide) rfl (.k (.k .nil)) fun H hS=>?_
 refine zaC (J:=(List (List Int))) (fun j=>[(3,.sl (.id (g+1+1)) 1 (j.map (cLf 1 cI)))]) (fun j H' g'=>St (·<g) H0 [(g+1+1,.row 22 j.length)] H' g'/\ze1 j=some r) ?_ ?_
 ·rintro v1 H g1 ⟨hS,hM⟩
  change wpA _ _ _ _ (Fr.of [(3,.sl (.id (g+1+1)) 1 (v1.map (cLf 1 cI)))]) _ _
  replace hS:St (·<g) H0 [(g+1+1,.row 22 v1.length)] H g1:=hS
  replace hM:ze1 v1=some r:=hM
  refine Sq ?_
  refine Rg 2 ?_
  refine Om (.sl (.id (g+1+1)) 1 (v1.map (cLf 1 cI))) ?_
  refine Oa (.sl (.id (g+1+1)) 1 (v1.map (cLf 1 cI))) ?_
  refine Ni ?_
  refine Ws ?_
  refine zaA ?_
  refine zaJ (x:=.sl (.id (g+1+1)) 1 (v1.map (cLf 1 cI))) (f:=fun r=>.sl .no 1 (r.map (cLf 1 cI))) (.inr rfl) ?_ (.sl _ _ _) (Option.some.inj hM) hS
  exact (zao (zac (x:=.sl (.id (g+1+1)) 1 (v1.map (cLf 1 cI))) rfl))
 ·refine Sq ?_
  refine Rg 3 ?_
  refine Om (.sl .no 2 (a0.map Reading_.cells)) ?_
  refine zcj (n:=a0.length) (by decide) rfl (List.length_map _) zka ?_
  refine Om (.i 0) ?_
  refine Ni ?_
  refine Ws ?_
  refine zaq ?_
  refine zbr (V:=(List (List Int))×Int) (fun v=>[(3,.sl (.id (g+1+1)) 1 (v.1.map (cLf 1 cI))),(6,.sl .no 2 (a0.map Reading_.cells)),(7,.i (a0.length:Int)),(8,.i v.2)]) (fun v m2 H' g'=>St (·<g) H0 [(g+1+1,.row 22 v.1.length)] H' g'/\zb7 n a0 m2 v.1 v.2=some r) (n:=n) (([]:List (List Int)),0) (.k (.k (.k (.k .nil)))) ⟨(hS.keep [true] rfl).up (by omega),hM⟩ ?_
  rintro ⟨v2,v3⟩ m2 H g2 ⟨hS,hM⟩
  obtain _ | m2:=m2
  ·exact nomatch (show none=some _ from hM)
  change wpA _ _ _ _ (Fr.of [(3,.sl (.id (g+1+1)) 1 (v2.map (cLf 1 cI))),(6,.sl .no 2 (a0.map Reading_.cells)),(7,.i (a0.length:Int)),(8,.i v3)]) _ _
  replace hS:St (·<g) H0 [(g+1+1,.row 22 v2.length)] H g2:=hS
  replace hM:zev n a0 (zb7 n a0 m2) v2 v3=some r:=hM
  refine Sq ?_
  refine Rg 1 ?_
  refine Oi (.b (decide (v3<(a0.length:Int)))) ?_
  refine Ni ?_
  refine Ws ?_
  refine Sq ?_
  rcases bft (decide (v3<(a0.length:Int))) with hb4 | hb4
  ·replace hM:=ifT hM hb4
   refine Ct hb4 ?_
   refine zar ?_
   refine Ws ?_
   refine zaC (J:=(List (List Int))) (fun j=>[(3,.sl (.id (g+1+1)) 1 (j.map (cLf 1 cI))),(6,.sl .no 2 (a0.map Reading_.cells)),(7,.i (a0.length:Int)),(8,.i v3)]) (fun j H' g'=>St (·<g) H0 [(g+1+1,.row 22 j.length)] H' g'/\zdr (zb7 n a0 m2) v3 j=some r) ?_ ?_
   ·rintro v5 H g3 ⟨hS,hM⟩
    change wpA _ _ _ _ (Fr.of [(3,.sl (.id (g+1+1)) 1 (v5.map (cLf 1 cI))),(6,.sl .no 2 (a0.map Reading_.cells)),(7,.i (a0.length:Int)),(8,.i v3)]) _ _
    replace hS:St (·<g) H0 [(g+1+1,.row 22 v5.length)] H g3:=hS
    replace hM:zdr (zb7 n a0 m2) v3 v5=some r:=hM
    refine Rg 2 ?_
    refine Oi (.i (w64 (v3+1))) ?_
    refine Om (.i (w64 (v3+1))) ?_
    refine Ni ?_
    exact zaW (v5,w64 (v3+1)) (Nat.lt_succ_self _) (.k (.k (.k (.k .nil)))) ⟨(hS.keep [true] rfl).up (by omega),hM⟩
   ·refine zaq ?_
    refine Sq ?_
    refine Rg 4 ?_
    obtain ⟨x6,hx6,hM⟩:=zai hM
    refine zaU (xs:=a0) (f:=Reading_.cells) (z:=v3) (u:=x6) (by decide) rfl rfl zmd hx6 ?_
    refine Olg (.agg (Reading_.cells x6)) zmh ?_
    refine zcp hS (by decide) zi5 (by omega) fun H hS=>?_
    refine za1 (v:=.agg (Reading_.cells x6)) (ns:=(Reading_.cells x6)) (L':=[(g2+1+2,.cells (Reading_.cells x6)),(g+1+1,.row 22 v2.length)]) 0 hS rfl rfl .no rfl rfl zmi nlb rfl fun H hS=>?_
    refine Ni ?_
    refine Ws ?_
    refine Sq ?_
    refine Rg 4 ?_
    refine Om (.sl (.id (g+1+1)) 1 (v2.map (cLf 1 cI))) ?_
    refine zcO (first:=[]) (cap:=[.ptr (g2+1+2) 0]) (by decide) rfl rfl ?_
    obtain ⟨r7,hr7,hM⟩:=zai hM
    have hndr7:=hS.nd_at (ns:=[0]) (M:=[(g2+1+2,.cells (Reading_.cells x6))]) (M':=[(g2+1+2,.cells (Reading_.cells x6))]) (.cons rfl .nil) (by decide)
    have hncr7:=hS.nd_at (ns:=[0]) (M:=[(g2+1+2,.cells (Reading_.cells x6))]) (M':=[(g2+1+2,.cells (Reading_.cells x6))]) (.cons rfl .nil) (by decide)
    refine zit (bs:=[.sl (.id (g+1+1)) 1 (v2.map (cLf 1 cI)),.fn (.func 58) [] [.ptr (g2+1+2) 0]]) (M:=[(g2+1+2,.cells (Reading_.cells x6))]) (M':=[(g2+1+2,.cells (Reading_.cells x6))]) (L':=[(g2+1+2,.cells (Reading_.cells x6)),(g+1+1,.row 22 v2.length)]) [0] (.inl rfl) hS (by decide) rfl rfl ((zgS (Lo:=(fun (_:Unit)=>[(g2+1+2,.cells (Reading_.cells x6))]))  (fun _ _=>(zbP zdJ)) (fun _=>hndr7) (fun s=>(zfT (zb2 (zaw (.inl (.inl (.v _))) (zaw (.inl (.inl (.fr _ _ (zaz (fun x=>(zad (.v _) zaG)))))) zed)) zfS) zdi)) (aF:=(fun (x0:List Int) (_:Unit)=>(zdq n x0 x6).map fun y=>(y,()))) (fun s H hH=>(.fn _ _ _ zcq (zbo (ziX hH 0 rfl) zcq))) rfl (fun h=>zjr (zjw (p1:=g2+1+2)  hncr7 (zdK h))) hr7).le (.cons (.sl _ _ _) (.k .nil))) (.cons rfl .nil) rfl (by omega) fun H hS=>?_
    refine zd7 (e:=r7.1) (by decide) rfl ?_
    refine Ni ?_
    refine Ws ?_
    rcases bft (!r7.1) with hb8 | hb8
    ·replace hM:=ifT hM hb8
     refine Ct hb8 ?_
     refine Rg 6 ?_
     refine Om (.sl (.id (g+1+1)) 1 (v2.map (cLf 1 cI))) ?_
     refine zaO (by decide) zkP rfl ?_
     refine za3 (v:=.sl .fr 1 (x6.list.map cI)) 0 hS (by decide) rfl rfl .no (po za6 zbx) ?_
     refine zaK (es:=[[.sl .fr 1 (x6.list.map cI)]]) hS (by decide) zia zmf rfl zmg rfl (by decide) (by omega) fun H hS=>?_
     obtain ⟨l9,hl9,hM⟩:=zai hM
     refine zcv (xs:=v2) (ys:=([x6.list]:List (List Int))) (zs:=l9) (f:=(cLf 1 cI)) (L':=[(g2+1+4+4+3,.row 22 1),(g2+1+2,.cells (Reading_.cells x6)),(g+1+1,.row 22 l9.length)]) 2 hS (by decide) rfl rfl rfl rfl .no zia zmf zmg hl9 rfl fun H hS=>?_
     refine Oa (.sl (.id (g+1+1)) 1 (l9.map (cLf 1 cI))) ?_
     refine Ni ?_
     refine zae ?_
     exact zag l9 (.k (.k (.k (.k .nil)))) ⟨(hS.keep [false,false,true] rfl).up (by omega),hM⟩
    ·replace hM:=ifF hM hb8
     refine Cf hb8 ?_
     refine zar ?_
     refine zae ?_
     exact zag v2 (.k (.k (.k (.k .nil)))) ⟨(hS.keep [false,true] rfl).up (by omega),hM⟩
  ·replace hM:=ifF hM hb4
   refine Cf hb4 ?_
   refine zbl ?_
   refine zap ?_
   refine zan ?_
   refine zat ?_
   exact zag v2 (.k .nil) ⟨(hS.keep [true] rfl).up (by omega),hM⟩
theorem zld {n:Nat} {a0:Pulse} {r:Int×Int} (hM:zjN n a0=some r):zav Try.prog 14 [.agg (Pulse.cells a0)] (.tup [.i r.1,.i r.2]):=by
 refine zaj mixed Try.func14 rfl (by decide) Try.ntmps14 (by simp) ?pure fun H0 g hf=>?_
 case pure=>exact .tup _ (zad (.v _) (zad (.v _) zaG))
 rw [zah]
 change wpA _ _ _ _ (Fr.of [(0,.agg (Pulse.cells a0))]) H0 g
 have hS:=St.start hf
 refine Sq ?_
 refine Rg 3 ?_
 refine zbX (v:=.agg (Pulse.cells a0)) (cs:=(Pulse.cells a0)) hS (by decide) rfl rfl (by omega) fun H hS=>?_
 refine Oa (.i 0) ?_
 refine Oa (.i 0) ?_
 refine Ni ?_
 refine zaZ (L':=[]) 0 1 hS rfl rfl rfl fun H hS=>?_
 refine Ws ?_
 refine Sq ?_
 refine Rg 7 ?_
 refine Olg (.agg (Pulse.cells a0)) za0 ?_
 obtain ⟨r1,hr1,hM⟩:=zai hM
 refine zau (bs:=[.agg (Pulse.cells a0),.fn (.func 30) [] []]) (by decide) rfl rfl (zee ((zfq (Lo:=(fun (_:Unit)=>[]))  (fun _ _=>zdJ) (fun _=>List.nodup_nil) (fun _=>zdi) (aF:=(fun (x0:Train_) (_:Unit)=>(zcR x0).map fun y=>(y,()))) (fun _ H hH=>(.fn _ _ _ zcq zcq)) rfl (fun h=>zhm (zfC (zdK h))) hr1).le (.k (.k .nil)))) ?_
 refine Om (.tup [.sl .no 2 (r1.1.1.map Reading_.cells),.i r1.1.2]) ?_
 refine Ox (.sl .no 2 (r1.1.1.map Reading_.cells)) ?_
 refine Ox (.i r1.1.2) ?_
 refine Oa (.sl .no 2 (r1.1.1.map Reading_.cells)) ?_
 refine Oa (.i r1.1.2) ?_
 refine Ni ?_
 refine Ws ?_
 refine Sq ?_
 refine Rg 6 ?_
 refine Om (.sl .no 2 (r1.1.1.map Reading_.cells)) ?_
 obtain ⟨r2,hr2,hM⟩:=zai hM
 refine zau (bs:=[.sl .no 2 (r1.1.1.map Reading_.cells)]) (by decide) rfl rfl ((ziz hr2).le (.k .nil)) ?_
 refine zcj (n:=r2.length) (by decide) rfl (List.length_map _) zkb ?_
 refine Om (.i r1.1.2) ?_
 refine Oa (.i (r2.length:Int)) ?_
 refine Oa (.i r1.1.2) ?_
 refine Ni ?_
 refine zdz [(2,.i (r2.length:Int)),(3,.i r1.1.2)] (.k (.k .nil)) ?_
 refine zaA ?_
 refine zaJ (x:=.tup [.i (r2.length:Int),.i r1.1.2]) (f:=fun r=>.tup [.i r.1,.i r.2]) (.inr rfl) ?_ (.refl _) (Option.some.inj hM) hS
 exact (za2 (zac (x:=.i (r2.length:Int)) rfl) (zac (x:=.i r1.1.2) rfl))
theorem zeB {a0:Train_} {a1:Int} {r:Bool} (hM:zds a0 a1=some r):zav Try.prog 33 [.agg (Train_.cells a0),.i a1] (.b r):=by
 refine zaj mixed Try.func33 rfl (by decide) Try.ntmps33 (by simp) ?pure fun H0 g hf=>?_
 case pure=>exact .v _
 rw [zah]
 change wpA _ _ _ _ (Fr.of [(0,.agg (Train_.cells a0)),(1,.i a1)]) H0 g
 have hS:=St.start hf
 refine Sq ?_
 refine Rg 2 ?_
 refine zbX (v:=.agg (Train_.cells a0)) (cs:=(Train_.cells a0)) hS (by decide) rfl rfl (by omega) fun H hS=>?_
 refine Oa (.b false) ?_
 refine Ni ?_
 refine zaZ (L':=[]) 0 2 hS rfl rfl rfl fun H hS=>?_
 refine Ws ?_
 refine Sq ?_
 refine Rg 11 ?_
 refine Om (.i a1) ?_
 refine Of ((Train_.cells a0)) zcW ?_
 refine Of ((Train_.cells a0)) zfo ?_
 refine Olp (.i a0.Pulse.Letters) zab zaf ?_
 refine Of ((Train_.cells a0)) zcW ?_
 refine Of ((Train_.cells a0)) zcu ?_
 refine Olp (.i a0.Pulse.Numbers) zab zaf ?_
 refine Oi (.i (w64 (a0.Pulse.Letters*a0.Pulse.Numbers))) ?_
 refine Oi (.i (w64 ((w64 (a0.Pulse.Letters*a0.Pulse.Numbers))-1))) ?_
 obtain ⟨r1,hr1,hM⟩:=zai hM
 refine zau (bs:=[.i a1,.i 0,.i (w64 ((w64 (a0.Pulse.Letters*a0.Pulse.Numbers))-1))]) (by decide) rfl rfl ((zcX hr1).le (.k (.k (.k .nil)))) ?_
 refine Oa (.b r1) ?_
 refine Ni ?_
 refine Ws ?_
 refine zaA ?_
 refine zaJ (x:=.b r1) (f:=fun r=>.b r) (.inr rfl) ?_ (.refl _) (Option.some.inj hM) hS
 exact (zao (zac (x:=.b r1) rfl))
theorem zjx {p1:Nat} (hnd:[p1].Nodup) {a0:Train_} {a1:Int} {r:Bool} (hM:zgy a0 a1=some r):zhD Try.prog 32 [.agg (Train_.cells a0),.ptr p1 0] [(p1,.cells [.i a1])] (.b r) [(p1,.cells [.i a1])]:=by
 refine zbk mixed Try.func32 rfl (by decide) Try.ntmps32 (by simp) (zbP zdJ) hnd ?pure ?cells fun H0 g hf_ hp=>?_
 case pure=>exact fun H _=>(show Go.AM.Pure _ from .v _).inH
 case cells=>exact (zfT (zb2 (zaw (.inl (.inl (.v _))) zed) zfS) zdi)
 rw [zah]
 change wpA _ _ _ _ (Fr.of [(0,.agg (Train_.cells a0)),(1,.ptr p1 0)]) H0 g
 have hS:=St.startH (L:=[(p1,.cells [.i a1])]) hf_ hnd hp
 replace hS:St (fun i=>i<g/\i∉ids [(p1,.cells [.i a1])]) H0 [(p1,.cells [.i a1])] H0 g:=hS
 refine Sq ?_
 refine Rg 2 ?_
 refine zbX (v:=.agg (Train_.cells a0)) (cs:=(Train_.cells a0)) hS (by decide) rfl rfl (by omega) fun H hS=>?_
 refine Oa (.b false) ?_
 refine Ni ?_
 refine zaZ (L':=[(p1,.cells [.i a1])]) 0 2 hS rfl rfl rfl fun H hS=>?_
 refine Ws ?_
 refine Sq ?_
 refine Rg 4 ?_
 refine Olg (.agg (Train_.cells a0)) zgp ?_
 refine za3 (v:=.i a1) 0 hS (by decide) rfl rfl .no (po zab zaf) ?_
 obtain ⟨r1,hr1,hM⟩:=zai hM
 refine zau (bs:=[.agg (Train_.cells a0),.i a1]) (by decide) rfl rfl ((zeB hr1).le (.k (.k .nil))) ?_
 refine Oa (.b r1) ?_
 refine Ni ?_
 refine Ws ?_
 refine zaA ?_
 refine zc2 (x:=.b r1) (f:=fun r=>.b r) (fd:=fun r=>[(p1,.cells [.i a1])]) (.inr rfl) ?_ (.refl _) (Option.some.inj hM) hS 0 rfl
 exact (zao (zac (x:=.b r1) rfl))
theorem zi9 {S:Type} {Lo:S->BL} (hk:∀s s',zhi (Lo s) (Lo s')) (hnd:∀s,(ids (Lo s)).Nodup) (hin:∀s,InB In (Lo s)) {aF:Int->S->Option (Bool×S)} {f0:AV} (hF:∀s H,Has H (Lo s)->In H f0) (h0:cellsOf f0=some [f0]) (hf:∀{x0:Int} {s:S} {r:Bool×S},aF x0 s=some r->zkh Try.prog f0 [.i x0] (Lo s) (.b r.1) (Lo r.2)) {n:Nat} {a0:List Int} {st:S} {r:Int×S} (hM:zhF n aF a0 st=some r):zhD Try.prog 34 [.sl .no 1 (a0.map cI),f0] (Lo st) (.i r.1) (Lo r.2):=by
 have hnd0:∀s,(ids (Lo s)).Nodup:=fun s=>hnd s
 refine zbk mixed Try.func34 rfl (by decide) Try.ntmps34 (by simp) (hk _ _) (hnd st) ?pure ?cells fun H0 g hf_ hp=>?_
 case pure=>exact fun H _=>(show Go.AM.Pure _ from .v _).inH
 case cells=>exact hin _
 rw [zah]
 change wpA _ _ _ _ (Fr.of [(0,.sl .no 1 (a0.map cI)),(1,f0)]) H0 g
 have hS:=St.startH (L:=([]++Lo st)) hf_ (hnd st) hp
 replace hS:St (fun i=>i<g/\i∉ids (Lo st)) H0 ([]++Lo st) H0 g:=hS
 refine Sq ?_
 refine Rg 1 ?_
 refine Oa (.i 0) ?_
 refine Ni ?_
 refine Ws ?_
 refine Sq ?_
 refine Rg 1 ?_
 refine Oa (.i 0) ?_
 refine Ni ?_
 refine Ws ?_
 refine zaC (J:=Int×S) (fun j=>[(5,.i j.1)]) (fun j H' g'=>St (fun i=>i<g/\i∉ids (Lo st)) H0 ([]++Lo j.2) H' g'/\zeT j.1 j.2=some r) ?_ ?_
 ·rintro ⟨v1,v2⟩ H g1 ⟨hS,hM⟩
  change wpA _ _ _ _ (Fr.of [(5,.i v1)]) _ _
  replace hS:St (fun i=>i<g/\i∉ids (Lo st)) H0 ([]++Lo v2) H g1:=hS
  replace hM:zeT v1 v2=some r:=hM
  refine Sq ?_
  refine Rg 2 ?_
  refine Om (.i v1) ?_
  refine Oa (.i v1) ?_
  refine Ni ?_
  refine Ws ?_
  refine zaA ?_
  refine zc2 (x:=.i v1) (f:=fun r=>.i r.1) (fd:=fun r=>(Lo r.2)) (.inr rfl) ?_ (.refl _) (Option.some.inj hM) hS 0 rfl
  exact (zao (zac (x:=.i v1) rfl))
 ·refine Sq ?_
  refine Rg 3 ?_
  refine Om (.sl .no 1 (a0.map cI)) ?_
  refine zcj (n:=a0.length) (by decide) rfl (List.length_map _) za9 ?_
  refine Om (.i 0) ?_
  refine Ni ?_
  refine Ws ?_
  refine zaq ?_
  refine zbr (V:=Int×Int×S) (fun v=>[(1,f0),(5,.i v.1),(8,.sl .no 1 (a0.map cI)),(9,.i (a0.length:Int)),(10,.i v.2.1)]) (fun v m3 H' g'=>St (fun i=>i<g/\i∉ids (Lo st)) H0 ([]++Lo v.2.2) H' g'/\zci a0 aF m3 v.1 v.2.1 v.2.2=some r) (n:=n) (0,0,st) (.k (.k (.k (.k (.k .nil))))) ⟨(hS.keep [] rfl).up (by omega),hM⟩ ?_
  rintro ⟨v5,v6,v7⟩ m3 H g3 ⟨hS,hM⟩
  obtain _ | m3:=m3
  ·exact nomatch (show none=some _ from hM)
  change wpA _ _ _ _ (Fr.of [(1,f0),(5,.i v5),(8,.sl .no 1 (a0.map cI)),(9,.i (a0.length:Int)),(10,.i v6)]) _ _
  replace hS:St (fun i=>i<g/\i∉ids (Lo st)) H0 ([]++Lo v7) H g3:=hS
  replace hM:zfV a0 aF (zci a0 aF m3) v5 v6 v7=some r:=hM
  refine Sq ?_
  refine Rg 1 ?_
  refine Oi (.b (decide (v6<(a0.length:Int)))) ?_
  refine Ni ?_
  refine Ws ?_
  refine Sq ?_
  rcases bft (decide (v6<(a0.length:Int))) with hb8 | hb8
  ·replace hM:=ifT hM hb8
   refine Ct hb8 ?_
   refine zar ?_
   refine Ws ?_
   refine zaC (J:=Int×S) (fun j=>[(1,f0),(5,.i j.1),(8,.sl .no 1 (a0.map cI)),(9,.i (a0.length:Int)),(10,.i v6)]) (fun j H' g'=>St (fun i=>i<g/\i∉ids (Lo st)) H0 ([]++Lo j.2) H' g'/\zdE (zci a0 aF m3) v6 j.1 j.2=some r) ?_ ?_
   ·rintro ⟨v9,v10⟩ H g4 ⟨hS,hM⟩
    change wpA _ _ _ _ (Fr.of [(1,f0),(5,.i v9),(8,.sl .no 1 (a0.map cI)),(9,.i (a0.length:Int)),(10,.i v6)]) _ _
    replace hS:St (fun i=>i<g/\i∉ids (Lo st)) H0 ([]++Lo v10) H g4:=hS
    replace hM:zdE (zci a0 aF m3) v6 v9 v10=some r:=hM
    refine Rg 2 ?_
    refine Oi (.i (w64 (v6+1))) ?_
    refine Om (.i (w64 (v6+1))) ?_
    refine Ni ?_
    exact zaW (v9,w64 (v6+1),v10) (Nat.lt_succ_self _) (.k (.k (.k (.k (.k .nil))))) ⟨(hS.keep [] rfl).up (by omega),hM⟩
   ·refine zaq ?_
    refine Sq ?_
    refine Rg 3 ?_
    obtain ⟨x11,hx11,hM⟩:=zai hM
    refine zaU (xs:=a0) (f:=cI) (z:=v6) (u:=x11) (by decide) rfl rfl zaR hx11 ?_
    refine Olp (.i x11) zab zaf ?_
    refine Oa (.i x11) ?_
    refine Ni ?_
    refine Ws ?_
    refine Sq ?_
    refine Rg 3 ?_
    refine Om (f0) ?_
    refine Om (.i x11) ?_
    obtain ⟨r12,hr12,hM⟩:=zai hM
    replace hS:St (fun i=>i<g/\i∉ids (Lo st)) H0 ([]++Lo v7) _ _:=hS
    refine zhZ (bs:=[.i x11]) (.inl rfl) hS (by decide) rfl rfl ((hf hr12).le (.k .nil)) (hk _ _).ids (by omega) fun H hS=>?_
    refine Ni ?_
    refine Ws ?_
    rcases bft r12.1 with hb13 | hb13
    ·replace hM:=ifT hM hb13
     refine Ct hb13 ?_
     refine Rg 3 ?_
     refine Om (.i v5) ?_
     refine Oi (.i (w64 (v5+1))) ?_
     refine Oa (.i (w64 (v5+1))) ?_
     refine Ni ?_
     refine zae ?_
     exact zag (w64 (v5+1),r12.2) (.k (.k (.k (.k (.k .nil))))) ⟨(hS.keep [] rfl).up (by omega),hM⟩
    ·replace hM:=ifF hM hb13
     refine Cf hb13 ?_
     refine zar ?_
     refine zae ?_
     exact zag (v5,r12.2) (.k (.k (.k (.k (.k .nil))))) ⟨(hS.keep [] rfl).up (by omega),hM⟩
  ·replace hM:=ifF hM hb8
   refine Cf hb8 ?_
   refine zbl ?_
   refine zap ?_
   refine zan ?_
   refine zat ?_
   exact zag (v5,v7) (.k .nil) ⟨(hS.keep [] rfl).up (by omega),hM⟩
theorem zjy {p1:Nat} (hnd:[p1].Nodup) {a0:Int} {a1:Int} {r:Bool} (hM:zgz a0 a1=some r):zhD Try.prog 35 [.i a0,.ptr p1 0] [(p1,.cells [.i a1])] (.b r) [(p1,.cells [.i a1])]:=by
 refine zbk mixed Try.func35 rfl (by decide) Try.ntmps35 (by simp) (zbP zdJ) hnd ?pure ?cells fun H0 g hf_ hp=>?_
 case pure=>exact fun H _=>(show Go.AM.Pure _ from .v _).inH
 case cells=>exact (zfT (zb2 (zaw (.inl (.inl (.v _))) zed) zfS) zdi)
 rw [zah]
 change wpA _ _ _ _ (Fr.of [(0,.i a0),(1,.ptr p1 0)]) H0 g
 have hS:=St.startH (L:=[(p1,.cells [.i a1])]) hf_ hnd hp
 replace hS:St (fun i=>i<g/\i∉ids [(p1,.cells [.i a1])]) H0 [(p1,.cells [.i a1])] H0 g:=hS
 refine Sq ?_
 refine Rg 1 ?_
 refine Oa (.b false) ?_
 refine Ni ?_
 refine Ws ?_
 refine Sq ?_
 refine Rg 4 ?_
 refine Om (.i a0) ?_
 refine za3 (v:=.i a1) 0 hS (by decide) rfl rfl .no (po zab zaf) ?_
 refine Oi (.b (a0==a1)) ?_
 refine Oa (.b (a0==a1)) ?_
 refine Ni ?_
 refine zdz [(3,.b (a0==a1))] (.k .nil) ?_
 refine zaA ?_
 refine zc2 (x:=.b (a0==a1)) (f:=fun r=>.b r) (fd:=fun r=>[(p1,.cells [.i a1])]) (.inr rfl) ?_ (.refl _) (Option.some.inj hM) hS 0 rfl
 exact (zao (zac (x:=.b (a0==a1)) rfl))
theorem zle {n:Nat} {a0:Pulse} {a1:Int} {r:Span×Int} (hM:zjO n a0 a1=some r):zav Try.prog 15 [.agg (Pulse.cells a0),.i a1] (.tup [.agg [.i r.1.Low,.i r.1.High],.i r.2]):=by
 refine zaj mixed Try.func15 rfl (by decide) Try.ntmps15 (by simp) ?pure fun H0 g hf=>?_
 case pure=>exact .tup _ (zad (.agg _ (zad (.v _) (zad (.v _) zaG))) (zad (.v _) zaG))
 rw [zah]
 change wpA _ _ _ _ (Fr.of [(0,.agg (Pulse.cells a0)),(1,.i a1)]) H0 g
 have hS:=St.start hf
 refine Sq ?_
 refine Rg 4 ?_
 refine zbX (v:=.agg (Pulse.cells a0)) (cs:=(Pulse.cells a0)) hS (by decide) rfl rfl (by omega) fun H hS=>?_
 refine zbX (v:=.i a1) (cs:=[.i a1]) hS (by decide) rfl rfl (by omega) fun H hS=>?_
 refine zcp hS (by decide) zgJ (by omega) fun H hS=>?_
 refine Oa (.i 0) ?_
 refine Ni ?_
 refine zaZ (L':=[(g+2,.cells [.i 0,.i 0]),(g+1,.cells [.i a1])]) 2 2 hS rfl rfl rfl fun H hS=>?_
 refine Ws ?_
 refine Sq ?_
 refine Rg 8 ?_
 refine Olg (.agg (Pulse.cells a0)) za0 ?_
 refine zcO (first:=[]) (cap:=[.ptr (g+1) 0]) (by decide) rfl rfl ?_
 obtain ⟨r1,hr1,hM⟩:=zai hM
 have hndr1:=hS.nd_at (ns:=[1]) (M:=[(g+1,.cells [.i a1])]) (M':=[(g+1,.cells [.i a1])]) (.cons rfl .nil) (by decide)
 have hncr1:=hS.nd_at (ns:=[1]) (M:=[(g+1,.cells [.i a1])]) (M':=[(g+1,.cells [.i a1])]) (.cons rfl .nil) (by decide)
 refine zit (bs:=[.agg (Pulse.cells a0),.fn (.func 32) [] [.ptr (g+1) 0]]) (M:=[(g+1,.cells [.i a1])]) (M':=[(g+1,.cells [.i a1])]) (L':=[(g+2,.cells [.i 0,.i 0]),(g+1,.cells [.i a1])]) [1] (.inl rfl) hS (by decide) rfl rfl ((zfq (Lo:=(fun (_:Unit)=>[(g+1,.cells [.i a1])]))  (fun _ _=>(zbP zdJ)) (fun _=>hndr1) (fun s=>(zfT (zb2 (zaw (.inl (.inl (.v _))) zed) zfS) zdi)) (aF:=(fun (x0:Train_) (_:Unit)=>(zgy x0 a1).map fun y=>(y,()))) (fun s H hH=>(.fn _ _ _ zcq (zbo (ziX hH 0 rfl) zcq))) rfl (fun h=>zjr (zjx (p1:=g+1)  hncr1 (zdK h))) hr1).le (.k (.k .nil))) (.cons rfl .nil) rfl (by omega) fun H hS=>?_
 refine Om (.tup [.sl .no 2 (r1.1.1.map Reading_.cells),.i r1.1.2]) ?_
 refine Ox (.sl .no 2 (r1.1.1.map Reading_.cells)) ?_
 refine Ox (.i r1.1.2) ?_
 refine Oa (.sl .no 2 (r1.1.1.map Reading_.cells)) ?_
 refine Oa (.i r1.1.2) ?_
 refine Ni ?_
 refine Ws ?_
 refine Sq ?_
 refine Sq ?_
 refine Rg 2 ?_
 refine Om (.i r1.1.2) ?_
 refine Oi (.b (r1.1.2 != 0)) ?_
 refine Ni ?_
 refine Ws ?_
 rcases bft (r1.1.2 != 0) with hb2 | hb2
 ·replace hM:=ifT hM hb2
  refine Ct hb2 ?_
  refine Sq ?_
  refine Rg 4 ?_
  refine zbD (cs:=[.i 0,.i 0]) (by decide) zgJ zmc rfl ?_
  refine Om (.i r1.1.2) ?_
  refine za1 (v:=.agg [.i 0,.i 0]) (ns:=[.i 0,.i 0]) (L':=[(g+2,.cells [.i 0,.i 0]),(g+1,.cells [.i a1])]) 0 hS rfl rfl .no rfl rfl zi3 nlb rfl fun H hS=>?_
  refine Oa (.i r1.1.2) ?_
  refine Ni ?_
  replace hS:=hS.keep (L':=[(g+2,.cells [.i 0,.i 0])]) [true,false] rfl
  refine Ws ?_
  refine zaA ?_
  refine zam ?_
  refine zaJ (x:=.tup [.agg [.i 0,.i 0],.i r1.1.2]) (f:=fun r=>.tup [.agg [.i r.1.Low,.i r.1.High],.i r.2]) (.inr rfl) ?_ (.refl _) (Option.some.inj hM) hS
  exact (za2 (zeM (x:=.agg [.i 0,.i 0]) 0 hS rfl rfl (pg zj9)) (zac (x:=.i r1.1.2) rfl))
 ·replace hM:=ifF hM hb2
  refine Cf hb2 ?_
  refine zar ?_
  refine Ws ?_
  refine Sq ?_
  refine Rg 3 ?_
  refine zbD (cs:=[.i 24,.i 0]) (by decide) zgJ zmc rfl ?_
  refine zcp hS (by decide) zgJ (by omega) fun H hS=>?_
  refine za1 (v:=.agg [.i 24,.i 0]) (ns:=[.i 24,.i 0]) (L':=[(g+4+8+2+1,.cells [.i 24,.i 0]),(g+2,.cells [.i 0,.i 0]),(g+1,.cells [.i a1])]) 0 hS rfl rfl .no rfl rfl zi3 nlb rfl fun H hS=>?_
  refine Ni ?_
  refine Ws ?_
  refine zaC (J:=Int×Int) (fun j=>[(4,.ptr (g+2) 0),(8,.ptr (g+4+8+2+1) 0)]) (fun j H' g'=>St (·<g) H0 [(g+4+8+2+1,.cells [.i j.1,.i j.2]),(g+2,.cells [.i 0,.i 0])] H' g'/\zgA j.1 j.2=some r) ?_ ?_
  ·rintro ⟨v3,v4⟩ H g1 ⟨hS,hM⟩
   change wpA _ _ _ _ (Fr.of [(4,.ptr (g+2) 0),(8,.ptr (g+4+8+2+1) 0)]) _ _
   replace hS:St (·<g) H0 [(g+4+8+2+1,.cells [.i v3,.i v4]),(g+2,.cells [.i 0,.i 0])] H g1:=hS
   replace hM:zgA v3 v4=some r:=hM
   refine Sq ?_
   refine Rg 3 ?_
   refine za3 (v:=.agg [.i v3,.i v4]) 0 hS (by decide) rfl rfl .no (pg zj9) ?_
   refine za1 (v:=.agg [.i v3,.i v4]) (ns:=[.i v3,.i v4]) (L':=[(g+4+8+2+1,.cells [.i v3,.i v4]),(g+2,.cells [.i v3,.i v4])]) 1 hS rfl rfl .no rfl rfl zi3 nlb rfl fun H hS=>?_
   refine Oa (.i 0) ?_
   refine Ni ?_
   replace hS:=hS.keep (L':=[(g+2,.cells [.i v3,.i v4])]) [false,true] rfl
   refine Ws ?_
   refine zaA ?_
   refine zaJ (x:=.tup [.agg [.i v3,.i v4],.i 0]) (f:=fun r=>.tup [.agg [.i r.1.Low,.i r.1.High],.i r.2]) (.inr rfl) ?_ (.refl _) (Option.some.inj hM) hS
   exact (za2 (zeM (x:=.agg [.i v3,.i v4]) 0 hS rfl rfl (pg zj9)) (zac (x:=.i 0) rfl))
  ·refine Sq ?_
   refine Rg 3 ?_
   refine Om (.sl .no 2 (r1.1.1.map Reading_.cells)) ?_
   refine zcj (n:=r1.1.1.length) (by decide) rfl (List.length_map _) zka ?_
   refine Om (.i 0) ?_
   refine Ni ?_
   refine Ws ?_
   refine zaq ?_
   refine zbr (V:=Int×Int×Int) (fun v=>[(3,.ptr (g+1) 0),(4,.ptr (g+2) 0),(8,.ptr (g+4+8+2+1) 0),(23,.sl .no 2 (r1.1.1.map Reading_.cells)),(24,.i (r1.1.1.length:Int)),(25,.i v.1)]) (fun v m3 H' g'=>St (·<g) H0 [(g+4+8+2+1,.cells [.i v.2.1,.i v.2.2]),(g+2,.cells [.i 0,.i 0]),(g+1,.cells [.i a1])] H' g'/\ze2 n a1 r1 m3 v.1 v.2.1 v.2.2=some r) (n:=n) (0,24,0) (.k (.k (.k (.k (.k (.k .nil)))))) ⟨(hS.keep [true,true,true] rfl).up (by omega),hM⟩ ?_
   rintro ⟨v6,v7,v8⟩ m3 H g3 ⟨hS,hM⟩
   obtain _ | m3:=m3
   ·exact nomatch (show none=some _ from hM)
   change wpA _ _ _ _ (Fr.of [(3,.ptr (g+1) 0),(4,.ptr (g+2) 0),(8,.ptr (g+4+8+2+1) 0),(23,.sl .no 2 (r1.1.1.map Reading_.cells)),(24,.i (r1.1.1.length:Int)),(25,.i v6)]) _ _
   replace hS:St (·<g) H0 [(g+4+8+2+1,.cells [.i v7,.i v8]),(g+2,.cells [.i 0,.i 0]),(g+1,.cells [.i a1])] H g3:=hS
   replace hM:zha n a1 r1 (ze2 n a1 r1 m3) v6 v7 v8=some r:=hM
   refine Sq ?_
   refine Rg 1 ?_
   refine Oi (.b (decide (v6<(r1.1.1.length:Int)))) ?_
   refine Ni ?_
   refine Ws ?_
   refine Sq ?_
   rcases bft (decide (v6<(r1.1.1.length:Int))) with hb9 | hb9
   ·replace hM:=ifT hM hb9
    refine Ct hb9 ?_
    refine zar ?_
    refine Ws ?_
    refine Sq ?_
    refine zaq ?_
    refine Sq ?_
    refine Rg 4 ?_
    obtain ⟨x10,hx10,hM⟩:=zai hM
    refine zaU (xs:=r1.1.1) (f:=Reading_.cells) (z:=v6) (u:=x10) (by decide) rfl rfl zmd hx10 ?_
    refine Olg (.agg (Reading_.cells x10)) zmh ?_
    refine zcp hS (by decide) zi5 (by omega) fun H hS=>?_
    refine za1 (v:=.agg (Reading_.cells x10)) (ns:=(Reading_.cells x10)) (L':=[(g3+1+2,.cells (Reading_.cells x10)),(g+4+8+2+1,.cells [.i v7,.i v8]),(g+2,.cells [.i 0,.i 0]),(g+1,.cells [.i a1])]) 0 hS rfl rfl .no rfl rfl zmi nlb rfl fun H hS=>?_
    refine Ni ?_
    refine zaZ (L':=[(g+4+8+2+1,.cells [.i v7,.i v8]),(g+2,.cells [.i 0,.i 0]),(g+1,.cells [.i a1])]) 0 10 hS rfl rfl rfl fun H hS=>?_
    refine Ws ?_
    refine Sq ?_
    refine Rg 5 ?_
    refine Of ((Reading_.cells x10)) zkP ?_
    refine Olp (.sl .fr 1 (x10.list.map cI)) za6 zbx ?_
    refine zcO (first:=[]) (cap:=[.ptr (g+1) 0]) (by decide) rfl rfl ?_
    obtain ⟨r11,hr11,hM⟩:=zai hM
    have hndr11:=hS.nd_at (ns:=[2]) (M:=[(g+1,.cells [.i a1])]) (M':=[(g+1,.cells [.i a1])]) (.cons rfl .nil) (by decide)
    have hncr11:=hS.nd_at (ns:=[2]) (M:=[(g+1,.cells [.i a1])]) (M':=[(g+1,.cells [.i a1])]) (.cons rfl .nil) (by decide)
    refine zit (bs:=[.sl .fr 1 (x10.list.map cI),.fn (.func 35) [] [.ptr (g+1) 0]]) (M:=[(g+1,.cells [.i a1])]) (M':=[(g+1,.cells [.i a1])]) (L':=[(g+4+8+2+1,.cells [.i v7,.i v8]),(g+2,.cells [.i 0,.i 0]),(g+1,.cells [.i a1])]) [2] (.inl rfl) hS (by decide) rfl rfl ((zi9 (Lo:=(fun (_:Unit)=>[(g+1,.cells [.i a1])]))  (fun _ _=>(zbP zdJ)) (fun _=>hndr11) (fun s=>(zfT (zb2 (zaw (.inl (.inl (.v _))) zed) zfS) zdi)) (aF:=(fun (x0:Int) (_:Unit)=>(zgz x0 a1).map fun y=>(y,()))) (fun s H hH=>(.fn _ _ _ zcq (zbo (ziX hH 0 rfl) zcq))) rfl (fun h=>zjr (zjy (p1:=g+1)  hncr11 (zdK h))) hr11).le (.cons (.sl _ _ _) (.k .nil))) (.cons rfl .nil) rfl (by omega) fun H hS=>?_
    refine Oa (.i r11.1) ?_
    refine Ni ?_
    refine Ws ?_
    refine Rg 10 ?_
    refine zaO (by decide) zqM rfl ?_
    refine za3 (v:=.i v7) 0 hS (by decide) rfl rfl .no (po zab zaf) ?_
    refine Om (.i r11.1) ?_
    refine zvE (v:=.i (min v7 r11.1)) (by decide) rfl ?_
    refine zaO (by decide) zqN rfl ?_
    refine za3 (v:=.i v8) 0 hS (by decide) rfl rfl .no (po zab zaf) ?_
    refine Om (.i r11.1) ?_
    refine zvF (v:=.i (max v8 r11.1)) (by decide) rfl ?_
    refine zbD (cs:=[.i (min v7 r11.1),.i (max v8 r11.1)]) (by decide) zgJ zmc rfl ?_
    refine za1 (v:=.agg [.i (min v7 r11.1),.i (max v8 r11.1)]) (ns:=[.i (min v7 r11.1),.i (max v8 r11.1)]) (L':=[(g+4+8+2+1,.cells [.i (min v7 r11.1),.i (max v8 r11.1)]),(g+2,.cells [.i 0,.i 0]),(g+1,.cells [.i a1])]) 0 hS rfl rfl .no rfl rfl zi3 nlb rfl fun H hS=>?_
    refine Ni ?_
    refine zae ?_
    refine Ws ?_
    refine Rg 2 ?_
    refine Oi (.i (w64 (v6+1))) ?_
    refine Om (.i (w64 (v6+1))) ?_
    refine Ni ?_
    exact zaW (w64 (v6+1),(min v7 r11.1),(max v8 r11.1)) (Nat.lt_succ_self _) (.k (.k (.k (.k (.k (.k .nil)))))) ⟨(hS.keep [true,true,true] rfl).up (by omega),hM⟩
   ·replace hM:=ifF hM hb9
    refine Cf hb9 ?_
    refine zbl ?_
    refine zap ?_
    refine zan ?_
    refine zat ?_
    exact zag (v7,v8) (.k (.k .nil)) ⟨(hS.keep [true,true,false] rfl).up (by omega),hM⟩
theorem zic {a0:Int} {r:Bool} (hM:zho a0=some r):zav Try.prog 37 [.i a0] (.b r):=by
 refine zaj mixed Try.func37 rfl (by decide) Try.ntmps37 (by simp) ?pure fun H0 g hf=>?_
 case pure=>exact .v _
 rw [zah]
 change wpA _ _ _ _ (Fr.of [(0,.i a0)]) H0 g
 have hS:=St.start hf
 refine Sq ?_
 refine Rg 1 ?_
 refine Oa (.b false) ?_
 refine Ni ?_
 refine Ws ?_
 refine Sq ?_
 refine Rg 3 ?_
 refine Om (.i a0) ?_
 obtain ⟨r1,hr1,hM⟩:=zai hM
 refine zau (bs:=[.i a0,.i 0,.i 99999]) (by decide) rfl rfl ((zcX hr1).le (.k (.k (.k .nil)))) ?_
 refine Oa (.b r1) ?_
 refine Ni ?_
 refine Ws ?_
 refine zaA ?_
 refine zaJ (x:=.b r1) (f:=fun r=>.b r) (.inr rfl) ?_ (.refl _) (Option.some.inj hM) hS
 exact (zao (zac (x:=.b r1) rfl))
theorem zhK {S:Type} {Lo:S->BL} (hk:∀s s',zhi (Lo s) (Lo s')) (hnd:∀s,(ids (Lo s)).Nodup) (hin:∀s,InB In (Lo s)) {aF:Int->S->Option (Bool×S)} {f0:AV} (hF:∀s H,Has H (Lo s)->In H f0) (h0:cellsOf f0=some [f0]) (hf:∀{x0:Int} {s:S} {r:Bool×S},aF x0 s=some r->zkh Try.prog f0 [.i x0] (Lo s) (.b r.1) (Lo r.2)) {n:Nat} {a0:List Int} {st:S} {r:Int×S} (hM:zf3 n aF a0 st=some r):zhD Try.prog 61 [.sl .no 1 (a0.map cI),f0] (Lo st) (.i r.1) (Lo r.2):=by
 have hnd0:∀s,(ids (Lo s)).Nodup:=fun s=>hnd s
 refine zbk mixed Try.func61 rfl (by decide) Try.ntmps61 (by simp) (hk _ _) (hnd st) ?pure ?cells fun H0 g hf_ hp=>?_
 case pure=>exact fun H _=>(show Go.AM.Pure _ from .v _).inH
 case cells=>exact hin _
 rw [zah]
 change wpA _ _ _ _ (Fr.of [(0,.sl .no 1 (a0.map cI)),(1,f0)]) H0 g
 have hS:=St.startH (L:=([]++Lo st)) hf_ (hnd st) hp
 replace hS:St (fun i=>i<g/\i∉ids (Lo st)) H0 ([]++Lo st) H0 g:=hS
 refine Sq ?_
 refine Rg 1 ?_
 refine Oa (.i 0) ?_
 refine Ni ?_
 refine Ws ?_
 refine zaC (J:=S) (fun j=>[]) (fun j H' g'=>St (fun i=>i<g/\i∉ids (Lo st)) H0 ([]++Lo j) H' g'/\zdF j=some r) ?_ ?_
 ·rintro v1 H g1 ⟨hS,hM⟩
  change wpA _ _ _ _ (Fr.of []) _ _
  replace hS:St (fun i=>i<g/\i∉ids (Lo st)) H0 ([]++Lo v1) H g1:=hS
  replace hM:zdF v1=some r:=hM
  refine Sq ?_
  refine Rg 1 ?_
  refine Oa (.i (-1)) ?_
  refine Ni ?_
  refine Ws ?_
  refine zaA ?_
  refine zc2 (x:=.i (-1)) (f:=fun r=>.i r.1) (fd:=fun r=>(Lo r.2)) (.inr rfl) ?_ (.refl _) (Option.some.inj hM) hS 0 rfl
  exact (zao (zac (x:=.i (-1)) rfl))
 ·refine Sq ?_
  refine Rg 3 ?_
  refine Om (.sl .no 1 (a0.map cI)) ?_
  refine zcj (n:=a0.length) (by decide) rfl (List.length_map _) za9 ?_
  refine Om (.i 0) ?_
  refine Ni ?_
  refine Ws ?_
  refine zaq ?_
  refine zbr (V:=Int×S) (fun v=>[(0,.sl .no 1 (a0.map cI)),(1,f0),(7,.i (a0.length:Int)),(8,.i v.1)]) (fun v m3 H' g'=>St (fun i=>i<g/\i∉ids (Lo st)) H0 ([]++Lo v.2) H' g'/\zcG a0 aF m3 v.1 v.2=some r) (n:=n) (0,st) (.k (.k (.k (.k .nil)))) ⟨(hS.keep [] rfl).up (by omega),hM⟩ ?_
  rintro ⟨v3,v4⟩ m3 H g3 ⟨hS,hM⟩
  obtain _ | m3:=m3
  ·exact nomatch (show none=some _ from hM)
  change wpA _ _ _ _ (Fr.of [(0,.sl .no 1 (a0.map cI)),(1,f0),(7,.i (a0.length:Int)),(8,.i v3)]) _ _
  replace hS:St (fun i=>i<g/\i∉ids (Lo st)) H0 ([]++Lo v4) H g3:=hS
  replace hM:zeD a0 aF (zcG a0 aF m3) v3 v4=some r:=hM
  refine Sq ?_
  refine Rg 1 ?_
  refine Oi (.b (decide (v3<(a0.length:Int)))) ?_
  refine Ni ?_
  refine Ws ?_
  refine Sq ?_
  rcases bft (decide (v3<(a0.length:Int))) with hb5 | hb5
  ·replace hM:=ifT hM hb5
   refine Ct hb5 ?_
   refine zar ?_
   refine Ws ?_
   refine Sq ?_
   refine zaq ?_
   refine Sq ?_
   refine Rg 2 ?_
   refine Om (.i v3) ?_
   refine Oa (.i v3) ?_
   refine Ni ?_
   refine Ws ?_
   refine Sq ?_
   refine Rg 6 ?_
   refine Om (f0) ?_
   refine Om (.sl .no 1 (a0.map cI)) ?_
   refine Om (.i v3) ?_
   obtain ⟨x6,hx6,hM⟩:=zai hM
   refine zaU (xs:=a0) (f:=cI) (z:=v3) (u:=x6) (by decide) rfl rfl zaR hx6 ?_
   refine Olp (.i x6) zab zaf ?_
   obtain ⟨r7,hr7,hM⟩:=zai hM
   replace hS:St (fun i=>i<g/\i∉ids (Lo st)) H0 ([]++Lo v4) _ _:=hS
   refine zhZ (bs:=[.i x6]) (.inl rfl) hS (by decide) rfl rfl ((hf hr7).le (.k .nil)) (hk _ _).ids (by omega) fun H hS=>?_
   refine Ni ?_
   refine Ws ?_
   rcases bft r7.1 with hb8 | hb8
   ·replace hM:=ifT hM hb8
    refine Ct hb8 ?_
    refine Sq ?_
    refine Rg 2 ?_
    refine Om (.i v3) ?_
    refine Oa (.i v3) ?_
    refine Ni ?_
    refine Ws ?_
    refine zaA ?_
    refine zas ?_
    refine zam ?_
    refine zaL ?_
    refine zas ?_
    refine zaI ?_
    refine zc2 (x:=.i v3) (f:=fun r=>.i r.1) (fd:=fun r=>(Lo r.2)) (.inr rfl) ?_ (.refl _) (Option.some.inj hM) hS 0 rfl
    exact (zao (zac (x:=.i v3) rfl))
   ·replace hM:=ifF hM hb8
    refine Cf hb8 ?_
    refine zar ?_
    refine zae ?_
    refine Ws ?_
    refine Rg 2 ?_
    refine Oi (.i (w64 (v3+1))) ?_
    refine Om (.i (w64 (v3+1))) ?_
    refine Ni ?_
    exact zaW (w64 (v3+1),r7.2) (Nat.lt_succ_self _) (.k (.k (.k (.k .nil)))) ⟨(hS.keep [] rfl).up (by omega),hM⟩
  ·replace hM:=ifF hM hb5
   refine Cf hb5 ?_
   refine zbl ?_
   refine zap ?_
   refine zan ?_
   refine zat ?_
   exact zag v4 .nil ⟨(hS.keep [] rfl).up (by omega),hM⟩
theorem zg7 {S:Type} {Lo:S->BL} (hk:∀s s',zhi (Lo s) (Lo s')) (hnd:∀s,(ids (Lo s)).Nodup) (hin:∀s,InB In (Lo s)) {aF:Int->S->Option (Bool×S)} {f0:AV} (hF:∀s H,Has H (Lo s)->In H f0) (h0:cellsOf f0=some [f0]) (hf:∀{x0:Int} {s:S} {r:Bool×S},aF x0 s=some r->zkh Try.prog f0 [.i x0] (Lo s) (.b r.1) (Lo r.2)) {n:Nat} {a0:List Int} {st:S} {r:Bool×S} (hM:ze3 n aF a0 st=some r):zhD Try.prog 38 [.sl .no 1 (a0.map cI),f0] (Lo st) (.b r.1) (Lo r.2):=by
 have hnd0:∀s,(ids (Lo s)).Nodup:=fun s=>hnd s
 refine zbk mixed Try.func38 rfl (by decide) Try.ntmps38 (by simp) (hk _ _) (hnd st) ?pure ?cells fun H0 g hf_ hp=>?_
 case pure=>exact fun H _=>(show Go.AM.Pure _ from .v _).inH
 case cells=>exact hin _
 rw [zah]
 change wpA _ _ _ _ (Fr.of [(0,.sl .no 1 (a0.map cI)),(1,f0)]) H0 g
 have hS:=St.startH (L:=([]++Lo st)) hf_ (hnd st) hp
 replace hS:St (fun i=>i<g/\i∉ids (Lo st)) H0 ([]++Lo st) H0 g:=hS
 refine Sq ?_
 refine Rg 1 ?_
 refine Oa (.b false) ?_
 refine Ni ?_
 refine Ws ?_
 refine Sq ?_
 refine Rg 5 ?_
 refine Om (.sl .no 1 (a0.map cI)) ?_
 refine Om (f0) ?_
 obtain ⟨r1,hr1,hM⟩:=zai hM
 replace hS:St (fun i=>i<g/\i∉ids (Lo st)) H0 ([]++Lo st) _ _:=hS
 refine ziW (bs:=[.sl .no 1 (a0.map cI),f0]) (.inl rfl) hS (by decide) rfl rfl ((zhK (Lo:=Lo)  hk hnd0 hin (aF:=aF) hF h0 hf hr1).le (.k (.k .nil))) (hk _ _).ids (by omega) fun H hS=>?_
 refine Oi (.b (decide (r1.1≥0))) ?_
 refine Oa (.b (decide (r1.1≥0))) ?_
 refine Ni ?_
 refine Ws ?_
 refine zaA ?_
 refine zc2 (x:=.b (decide (r1.1≥0))) (f:=fun r=>.b r.1) (fd:=fun r=>(Lo r.2)) (.inr rfl) ?_ (.refl _) (Option.some.inj hM) hS 0 rfl
 exact (zao (zac (x:=.b (decide (r1.1≥0))) rfl))
theorem zjz {p1:Nat} (hnd:[p1].Nodup) {a0:Int} {a1:Train_} {r:Bool} (hM:zgB a0 a1=some r):zhD Try.prog 39 [.i a0,.ptr p1 0] [(p1,.cells (Train_.cells a1))] (.b r) [(p1,.cells (Train_.cells a1))]:=by
 refine zbk mixed Try.func39 rfl (by decide) Try.ntmps39 (by simp) (zbP zdJ) hnd ?pure ?cells fun H0 g hf_ hp=>?_
 case pure=>exact fun H _=>(show Go.AM.Pure _ from .v _).inH
 case cells=>exact (zfT (zb2 (zaw (.inl (.inl (.v _))) (zaw (.inl (.inl (.v _))) (zaw (.inl (.inl (.v _))) (zaw (.inl (.inl (.v _))) (zaw (.inl (.inl (.v _))) (zaw (.inl (.inl (.v _))) (zaw (.inl (.inl (.v _))) (zaw (.inl (.inl (.sl _ _ (zaz (fun x=>(zad (.v _) zaG)))))) zed)))))))) zfS) zdi)
 rw [zah]
 change wpA _ _ _ _ (Fr.of [(0,.i a0),(1,.ptr p1 0)]) H0 g
 have hS:=St.startH (L:=[(p1,.cells (Train_.cells a1))]) hf_ hnd hp
 replace hS:St (fun i=>i<g/\i∉ids [(p1,.cells (Train_.cells a1))]) H0 [(p1,.cells (Train_.cells a1))] H0 g:=hS
 refine Sq ?_
 refine Rg 1 ?_
 refine Oa (.b false) ?_
 refine Ni ?_
 refine Ws ?_
 refine Sq ?_
 refine Rg 5 ?_
 refine za3 (v:=.agg (Train_.cells a1)) 0 hS (by decide) rfl rfl .no (pg zgp) ?_
 refine Om (.i a0) ?_
 obtain ⟨r1,hr1,hM⟩:=zai hM
 refine zau (bs:=[.agg (Train_.cells a1),.i a0]) (by decide) rfl rfl ((zeB hr1).le (.k (.k .nil))) ?_
 refine zd7 (e:=r1) (by decide) rfl ?_
 refine Oa (.b (!r1)) ?_
 refine Ni ?_
 refine Ws ?_
 refine zaA ?_
 refine zc2 (x:=.b (!r1)) (f:=fun r=>.b r) (fd:=fun r=>[(p1,.cells (Train_.cells a1))]) (.inr rfl) ?_ (.refl _) (Option.some.inj hM) hS 0 rfl
 exact (zao (zac (x:=.b (!r1)) rfl))
theorem zhg {p1 w1 p2 p3:Nat} (hnd:[p1,w1,p2,p3].Nodup) {n:Nat} {a0:Int} {a1:Int} {a4:Pulse} {st:(List Int)×Int} {r:Unit×((List Int)×Int)} (hM:zgC n a0 a1 a4 st=some r):zhD Try.prog 40 [.i a0,.i a1,.ptr p1 0,.ptr p2 0,.ptr p3 0] [(p1,.cells [.sl (.id w1) 1 (st.1.map cI)]),(w1,.row 3 st.1.length),(p2,.cells [.i st.2]),(p3,.cells (Pulse.cells a4))] (.tup []) [(p1,.cells [.sl (.id w1) 1 (r.2.1.map cI)]),(w1,.row 3 r.2.1.length),(p2,.cells [.i r.2.2]),(p3,.cells (Pulse.cells a4))]:=by
 refine zbk mixed Try.func40 rfl (by decide) Try.ntmps40 (by simp) (zbP (zor (zbP (zbP zdJ)))) hnd ?pure ?cells fun H0 g hf_ hp=>?_
 case pure=>exact fun H _=>(show Go.AM.Pure _ from .tup _ zaG).inH
 case cells=>exact (zfT (zb2 (zaw (.inl (.inr ⟨_,_,_,_,_,rfl,(List.mem_of_getElem? (i:=1) rfl),zaz (fun x=>(zad (.v _) zaG))⟩)) zed) (zqb (zb2 (zaw (.inl (.inl (.v _))) zed) (zb2 (zaw (.inl (.inl (.v _))) (zaw (.inl (.inl (.v _))) (zaw (.inl (.inl (.v _))) (zaw (.inl (.inl (.v _))) (zaw (.inl (.inl (.v _))) (zaw (.inl (.inl (.v _))) (zaw (.inl (.inl (.v _))) (zaw (.inl (.inl (.sl _ _ (zaz (fun x=>(zad (.v _) zaG)))))) zed)))))))) zfS)))) zdi)
 rw [zah]
 change wpA _ _ _ _ (Fr.of [(0,.i a0),(1,.i a1),(2,.ptr p1 0),(3,.ptr p2 0),(4,.ptr p3 0)]) H0 g
 have hS:=St.startH (L:=[(p1,.cells [.sl (.id w1) 1 (st.1.map cI)]),(w1,.row 3 st.1.length),(p2,.cells [.i st.2]),(p3,.cells (Pulse.cells a4))]) hf_ hnd hp
 replace hS:St (fun i=>i<g/\i∉ids [(p1,.cells [.sl (.id w1) 1 (st.1.map cI)]),(w1,.row 3 st.1.length),(p2,.cells [.i st.2]),(p3,.cells (Pulse.cells a4))]) H0 [(p1,.cells [.sl (.id w1) 1 (st.1.map cI)]),(w1,.row 3 st.1.length),(p2,.cells [.i st.2]),(p3,.cells (Pulse.cells a4))] H0 g:=hS
 refine Sq ?_
 refine Rg 2 ?_
 refine Om (.i a1) ?_
 refine Om (.i 0) ?_
 refine Ni ?_
 refine Ws ?_
 refine zaq ?_
 refine zbr (V:=Int×Int×(List Int)×Int) (fun v=>[(0,.i v.1),(2,.ptr p1 0),(3,.ptr p2 0),(4,.ptr p3 0),(7,.i a1),(8,.i v.2.1)]) (fun v m2 H' g'=>St (fun i=>i<g/\i∉ids [(p1,.cells [.sl (.id w1) 1 (st.1.map cI)]),(w1,.row 3 st.1.length),(p2,.cells [.i st.2]),(p3,.cells (Pulse.cells a4))]) H0 [(p1,.cells [.sl (.id w1) 1 (v.2.2.1.map cI)]),(w1,.row 3 v.2.2.1.length),(p2,.cells [.i v.2.2.2]),(p3,.cells (Pulse.cells a4))] H' g'/\zcz a1 a4 m2 v.1 v.2.1 v.2.2.1 v.2.2.2=some r) (n:=n) (a0,0,st.1,st.2) (.k (.k (.k (.k (.k (.k .nil)))))) ⟨(hS.keep [true,true,true,true] rfl).up (by omega),hM⟩ ?_
 rintro ⟨v3,v4,v5,v6⟩ m2 H g2 ⟨hS,hM⟩
 obtain _ | m2:=m2
 ·exact nomatch (show none=some _ from hM)
 change wpA _ _ _ _ (Fr.of [(0,.i v3),(2,.ptr p1 0),(3,.ptr p2 0),(4,.ptr p3 0),(7,.i a1),(8,.i v4)]) _ _
 replace hS:St (fun i=>i<g/\i∉ids [(p1,.cells [.sl (.id w1) 1 (st.1.map cI)]),(w1,.row 3 st.1.length),(p2,.cells [.i st.2]),(p3,.cells (Pulse.cells a4))]) H0 [(p1,.cells [.sl (.id w1) 1 (v5.map cI)]),(w1,.row 3 v5.length),(p2,.cells [.i v6]),(p3,.cells (Pulse.cells a4))] H g2:=hS
 replace hM:zf4 a1 a4 (zcz a1 a4 m2) v3 v4 v5 v6=some r:=hM
 refine Sq ?_
 refine Rg 1 ?_
 refine Oi (.b (decide (v4<a1))) ?_
 refine Ni ?_
 refine Ws ?_
 refine Sq ?_
 rcases bft (decide (v4<a1)) with hb7 | hb7
 ·replace hM:=ifT hM hb7
  refine Ct hb7 ?_
  refine zar ?_
  refine Ws ?_
  refine Sq ?_
  refine zaq ?_
  refine zaC (J:=Int) (fun j=>[(2,.ptr p1 0),(3,.ptr p2 0),(4,.ptr p3 0),(7,.i a1),(8,.i v4)]) (fun j H' g'=>St (fun i=>i<g/\i∉ids [(p1,.cells [.sl (.id w1) 1 (st.1.map cI)]),(w1,.row 3 st.1.length),(p2,.cells [.i st.2]),(p3,.cells (Pulse.cells a4))]) H0 [(p1,.cells [.sl (.id w1) 1 (v5.map cI)]),(w1,.row 3 v5.length),(p2,.cells [.i j]),(p3,.cells (Pulse.cells a4))] H' g'/\zd2 (zcz a1 a4 m2) a4 v4 v5 j=some r) ?_ ?_
  ·rintro v8 H g3 ⟨hS,hM⟩
   change wpA _ _ _ _ (Fr.of [(2,.ptr p1 0),(3,.ptr p2 0),(4,.ptr p3 0),(7,.i a1),(8,.i v4)]) _ _
   replace hS:St (fun i=>i<g/\i∉ids [(p1,.cells [.sl (.id w1) 1 (st.1.map cI)]),(w1,.row 3 st.1.length),(p2,.cells [.i st.2]),(p3,.cells (Pulse.cells a4))]) H0 [(p1,.cells [.sl (.id w1) 1 (v5.map cI)]),(w1,.row 3 v5.length),(p2,.cells [.i v8]),(p3,.cells (Pulse.cells a4))] H g3:=hS
   replace hM:zd2 (zcz a1 a4 m2) a4 v4 v5 v8=some r:=hM
   have hS0:=hS
   refine zpZ (n:=8) [(2,20)] rfl (by kernel_rfl) (by kernel_rfl) ?_
   refine za3 (v:=.sl (.id w1) 1 (v5.map cI)) 0 hS (by decide) rfl rfl (.st hS0 0 rfl (by omega)) (po za6 zbx) ?_
   refine za3 (v:=.i v8) 2 hS (by decide) rfl rfl (.st hS0 2 rfl (by omega)) (po zab zaf) ?_
   refine zaK (es:=[[.i v8]]) hS (by decide) zaR zcT rfl zcU rfl (by decide) (by omega) fun H hS=>?_
   obtain ⟨l9,hl9,hM⟩:=zai hM
   refine zcv (xs:=v5) (ys:=([v8]:List Int)) (zs:=l9) (f:=cI) (L':=[(g3+2,.row 3 1),(p1,.cells [.sl (.id w1) 1 (v5.map cI)]),(w1,.row 3 l9.length),(p2,.cells [.i v8]),(p3,.cells (Pulse.cells a4))]) 2 hS (by decide) rfl rfl rfl rfl (.st hS0 1 rfl (by omega)) zaR zcT zcU hl9 rfl fun H hS=>?_
   refine zaO (by decide) zdw rfl ?_
   refine za3 (v:=.i a4.Pitch) 4 hS (by decide) rfl rfl (.st hS0 3 rfl (by omega)) (po zab zaf) ?_
   refine za1 (v:=.sl (.id w1) 1 (l9.map cI)) (ns:=[.sl (.id w1) 1 (l9.map cI)]) (L':=[(g3+2,.row 3 1),(p1,.cells [.sl (.id w1) 1 (l9.map cI)]),(w1,.row 3 l9.length),(p2,.cells [.i v8]),(p3,.cells (Pulse.cells a4))]) 1 hS rfl rfl (.st hS0 0 rfl (by omega)) rfl rfl zg0 nlb rfl fun H hS=>?_
   refine Oa (.i a4.Pitch) ?_
   refine Ni ?_
   refine ⟨(zl6 (hS.ne (n:=1) (m:=4) rfl rfl (by decide)) zqo),?_⟩
   refine zae ?_
   replace hS:=hS.keep (L':=[(p1,.cells [.sl (.id w1) 1 (l9.map cI)]),(w1,.row 3 l9.length),(p2,.cells [.i v8]),(p3,.cells (Pulse.cells a4))]) [false,true,true,true,true] rfl
   refine Ws ?_
   refine Rg 2 ?_
   refine Oi (.i (w64 (v4+1))) ?_
   refine Om (.i (w64 (v4+1))) ?_
   refine Ni ?_
   exact zaW (a4.Pitch,w64 (v4+1),l9,v8) (Nat.lt_succ_self _) (.k (.k (.k (.k (.k (.k .nil)))))) ⟨(hS.keep [true,true,true,true] rfl).up (by omega),hM⟩
  ·refine Sq ?_
   refine Rg 3 ?_
   refine za3 (v:=.sl (.id w1) 1 (v5.map cI)) 0 hS (by decide) rfl rfl .no (po za6 zbx) ?_
   refine zcj (n:=v5.length) (by decide) rfl (List.length_map _) za9 ?_
   refine Oi (.b (decide ((v5.length:Int)>0))) ?_
   refine Ni ?_
   refine Ws ?_
   rcases bft (decide ((v5.length:Int)>0)) with hb10 | hb10
   ·replace hM:=ifT hM hb10
    refine Ct hb10 ?_
    refine Rg 4 ?_
    refine za3 (v:=.i v6) 2 hS (by decide) rfl rfl .no (po zab zaf) ?_
    refine Om (.i v3) ?_
    refine Oi (.i (w64 (v6+v3))) ?_
    refine za1 (v:=.i (w64 (v6+v3))) (ns:=[.i (w64 (v6+v3))]) (L':=[(p1,.cells [.sl (.id w1) 1 (v5.map cI)]),(w1,.row 3 v5.length),(p2,.cells [.i (w64 (v6+v3))]),(p3,.cells (Pulse.cells a4))]) 2 hS rfl rfl .no rfl rfl zf0 nlb rfl fun H hS=>?_
    refine Ni ?_
    exact zag (w64 (v6+v3)) (.k (.k (.k (.k (.k .nil))))) ⟨(hS.keep [true,true,true,true] rfl).up (by omega),hM⟩
   ·replace hM:=ifF hM hb10
    refine Cf hb10 ?_
    refine zar ?_
    exact zag v6 (.k (.k (.k (.k (.k .nil))))) ⟨(hS.keep [true,true,true,true] rfl).up (by omega),hM⟩
 ·replace hM:=ifF hM hb7
  refine Cf hb7 ?_
  refine zbl ?_
  refine zap ?_
  refine zan ?_
  refine zat ?_
  refine zc2 (x:=.tup []) (f:=fun r=>.tup []) (fd:=fun r=>[(p1,.cells [.sl (.id w1) 1 (r.2.1.map cI)]),(w1,.row 3 r.2.1.length),(p2,.cells [.i r.2.2]),(p3,.cells (Pulse.cells a4))]) (.inl rfl) ?_ (.refl _) (Option.some.inj hM) hS 0 rfl
  exact rfl
theorem zlf {n:Nat} {a0:Pulse} {a1:List Int} {a2:Int} {r:(List Int)×Int} (hM:zjP n a0 a1 a2=some r):zav Try.prog 16 [.agg (Pulse.cells a0),.sl .no 1 (a1.map cI),.i a2] (.tup [.sl .no 1 (r.1.map cI),.i r.2]):=by
 refine zaj mixed Try.func16 rfl (by decide) Try.ntmps16 (by simp) ?pure fun H0 g hf=>?_
 case pure=>exact .tup _ (zad (.sl _ _ (zaz (fun x=>(zad (.v _) zaG)))) (zad (.v _) zaG))
 rw [zah]
 change wpA _ _ _ _ (Fr.of [(0,.agg (Pulse.cells a0)),(1,.sl .no 1 (a1.map cI)),(2,.i a2)]) H0 g
 have hS:=St.start hf
 refine Sq ?_
 refine Rg 4 ?_
 refine zbX (v:=.agg (Pulse.cells a0)) (cs:=(Pulse.cells a0)) hS (by decide) rfl rfl (by omega) fun H hS=>?_
 refine zbX (v:=.i a2) (cs:=[.i a2]) hS (by decide) rfl rfl (by omega) fun H hS=>?_
 refine Oa (.sl .nil 0 []) ?_
 refine Oa (.i 0) ?_
 refine Ni ?_
 refine Ws ?_
 refine Sq ?_
 refine Sq ?_
 refine Rg 3 ?_
 refine za3 (v:=.agg (Pulse.cells a0)) 1 hS (by decide) rfl rfl .no (pg za0) ?_
 obtain ⟨r1,hr1,hM⟩:=zai hM
 refine zau (bs:=[.agg (Pulse.cells a0)]) (by decide) rfl rfl ((ziy hr1).le (.k .nil)) ?_
 refine Oa (.i r1) ?_
 refine Ni ?_
 refine Ws ?_
 refine Sq ?_
 refine Rg 2 ?_
 refine Om (.i r1) ?_
 refine Oi (.b (r1 != 0)) ?_
 refine Ni ?_
 refine Ws ?_
 rcases bft (r1 != 0) with hb2 | hb2
 ·replace hM:=ifT hM hb2
  refine Ct hb2 ?_
  refine Sq ?_
  refine Rg 3 ?_
  refine Om (.i r1) ?_
  refine Oa (.sl .nil 0 []) ?_
  refine Oa (.i r1) ?_
  refine Ni ?_
  replace hS:=hS.keep (L':=[]) [false,false] rfl
  refine Ws ?_
  refine zaA ?_
  refine zam ?_
  refine zaJ (x:=.tup [.sl .nil 0 [],.i r1]) (f:=fun r=>.tup [.sl .no 1 (r.1.map cI),.i r.2]) (.inr rfl) ?_ (.tupL (.cons (.sl0 .nil 1 0) (.k .nil))) (Option.some.inj hM) hS
  exact (za2 (zac (x:=.sl .nil 0 []) rfl) (zac (x:=.i r1) rfl))
 ·replace hM:=ifF hM hb2
  refine Cf hb2 ?_
  refine zar ?_
  refine Ws ?_
  refine Sq ?_
  refine Rg 4 ?_
  refine za3 (v:=.agg (Pulse.cells a0)) 1 hS (by decide) rfl rfl .no (pg za0) ?_
  refine zbD (cs:=(Pulse.cells a0)) (by decide) zh9 znY rfl ?_
  refine zcp hS (by decide) zh9 (by omega) fun H hS=>?_
  refine za1 (v:=.agg (Pulse.cells a0)) (ns:=(Pulse.cells a0)) (L':=[(g+4+3+2+2,.cells (Pulse.cells a0)),(g+1,.cells [.i a2]),(g+0,.cells (Pulse.cells a0))]) 0 hS rfl rfl .no rfl rfl zoy nlb rfl fun H hS=>?_
  refine Ni ?_
  refine Ws ?_
  refine Sq ?_
  refine zaC (J:=Bool) (fun j=>[(1,.sl .no 1 (a1.map cI)),(3,.ptr (g+0) 0),(5,.ptr (g+1) 0),(33,.b j)]) (fun j H' g'=>St (·<g) H0 [(g+1,.cells [.i a2]),(g+0,.cells (Pulse.cells a0))] H' g'/\zei n a0 a1 a2 j=some r) ?_ ?_
  ·rintro v3 H g1 ⟨hS,hM⟩
   change wpA _ _ _ _ (Fr.of [(1,.sl .no 1 (a1.map cI)),(3,.ptr (g+0) 0),(5,.ptr (g+1) 0),(33,.b v3)]) _ _
   replace hS:St (·<g) H0 [(g+1,.cells [.i a2]),(g+0,.cells (Pulse.cells a0))] H g1:=hS
   replace hM:zei n a0 a1 a2 v3=some r:=hM
   rcases bft v3 with hb4 | hb4
   ·replace hM:=ifT hM hb4
    refine Ct hb4 ?_
    refine Sq ?_
    refine Rg 2 ?_
    refine Oa (.sl .nil 0 []) ?_
    refine Oa (.i 1) ?_
    refine Ni ?_
    replace hS:=hS.keep (L':=[]) [false,false] rfl
    refine Ws ?_
    refine zaA ?_
    refine zam ?_
    refine zaJ (x:=.tup [.sl .nil 0 [],.i 1]) (f:=fun r=>.tup [.sl .no 1 (r.1.map cI),.i r.2]) (.inr rfl) ?_ (.tupL (.cons (.sl0 .nil 1 0) (.k .nil))) (Option.some.inj hM) hS
    exact (za2 (zac (x:=.sl .nil 0 []) rfl) (zac (x:=.i 1) rfl))
   ·replace hM:=ifF hM hb4
    refine Cf hb4 ?_
    refine zar ?_
    refine Ws ?_
    refine Sq ?_
    refine Rg 1 ?_
    refine zcp hS (by decide) zm3 (by omega) fun H hS=>?_
    refine Ni ?_
    refine zkD (cs':=[.sl (.id (g1+1)) 1 (([]:List Int).map cI)]) (L':=[(g1+0,.cells [.sl (.id (g1+1)) 1 (([]:List Int).map cI)]),(g+1,.cells [.i a2]),(g+0,.cells (Pulse.cells a0))]) 0 0 1 3 hS (by omega) (by decide) rfl rfl rfl rfl fun H hS=>?_
    refine Ws ?_
    refine Sq ?_
    refine Rg 2 ?_
    refine zcO (first:=[]) (cap:=[.ptr (g1+0) 0,.ptr (g+1) 0,.ptr (g+0) 0]) (by decide) rfl rfl ?_
    refine Oa (.fn (.func 40) [] [.ptr (g1+0) 0,.ptr (g+1) 0,.ptr (g+0) 0]) ?_
    refine Ni ?_
    refine Ws ?_
    refine zaC (J:=(List Int)×Int) (fun j=>[(5,.ptr (g+1) 0),(10,.ptr (g1+0) 0)]) (fun j H' g'=>St (·<g) H0 [(g1+1,.row 3 j.1.length),(g1+0,.cells [.sl (.id (g1+1)) 1 (j.1.map cI)]),(g+1,.cells [.i j.2])] H' g'/\zgD j.1 j.2=some r) ?_ ?_
    ·rintro ⟨v5,v6⟩ H g2 ⟨hS,hM⟩
     change wpA _ _ _ _ (Fr.of [(5,.ptr (g+1) 0),(10,.ptr (g1+0) 0)]) _ _
     replace hS:St (·<g) H0 [(g1+1,.row 3 v5.length),(g1+0,.cells [.sl (.id (g1+1)) 1 (v5.map cI)]),(g+1,.cells [.i v6])] H g2:=hS
     replace hM:zgD v5 v6=some r:=hM
     refine Sq ?_
     refine zaC (J:=Bool) (fun j=>[(10,.ptr (g1+0) 0),(67,.b j)]) (fun j H' g'=>St (·<g) H0 [(g1+1,.row 3 v5.length),(g1+0,.cells [.sl (.id (g1+1)) 1 (v5.map cI)])] H' g'/\ze4 v5 j=some r) ?_ ?_
     ·rintro v7 H g3 ⟨hS,hM⟩
      change wpA _ _ _ _ (Fr.of [(10,.ptr (g1+0) 0),(67,.b v7)]) _ _
      replace hS:St (·<g) H0 [(g1+1,.row 3 v5.length),(g1+0,.cells [.sl (.id (g1+1)) 1 (v5.map cI)])] H g3:=hS
      replace hM:ze4 v5 v7=some r:=hM
      rcases bft v7 with hb8 | hb8
      ·replace hM:=ifT hM hb8
       refine Ct hb8 ?_
       refine Sq ?_
       refine Rg 2 ?_
       refine Oa (.sl .nil 0 []) ?_
       refine Oa (.i 131) ?_
       refine Ni ?_
       replace hS:=hS.keep (L':=[]) [false,false] rfl
       refine Ws ?_
       refine zaA ?_
       refine zam ?_
       refine zaJ (x:=.tup [.sl .nil 0 [],.i 131]) (f:=fun r=>.tup [.sl .no 1 (r.1.map cI),.i r.2]) (.inr rfl) ?_ (.tupL (.cons (.sl0 .nil 1 0) (.k .nil))) (Option.some.inj hM) hS
       exact (za2 (zac (x:=.sl .nil 0 []) rfl) (zac (x:=.i 131) rfl))
      ·replace hM:=ifF hM hb8
       refine Cf hb8 ?_
       refine zar ?_
       refine Ws ?_
       refine Sq ?_
       refine Rg 3 ?_
       refine za3 (v:=.sl (.id (g1+1)) 1 (v5.map cI)) 1 hS (by decide) rfl rfl .no (po za6 zbx) ?_
       refine Oa (.sl (.id (g1+1)) 1 (v5.map cI)) ?_
       refine Oa (.i 0) ?_
       refine Ni ?_
       replace hS:=hS.keep (L':=[(g1+1,.row 3 v5.length)]) [true,false] rfl
       refine Ws ?_
       refine zaA ?_
       refine zaJ (x:=.tup [.sl (.id (g1+1)) 1 (v5.map cI),.i 0]) (f:=fun r=>.tup [.sl .no 1 (r.1.map cI),.i r.2]) (.inr rfl) ?_ (.tupL (.cons (.sl _ _ _) (.k .nil))) (Option.some.inj hM) hS
       exact (za2 (zac (x:=.sl (.id (g1+1)) 1 (v5.map cI)) rfl) (zac (x:=.i 0) rfl))
     ·refine Rg 8 ?_
      refine za3 (v:=.sl (.id (g1+1)) 1 (v5.map cI)) 1 hS (by decide) rfl rfl .no (po za6 zbx) ?_
      refine zcj (n:=v5.length) (by decide) rfl (List.length_map _) za9 ?_
      refine Oi (.b (decide ((v5.length:Int)>24))) ?_
      refine Om (.b (decide ((v5.length:Int)>24))) ?_
      rcases bft (decide ((v5.length:Int)>24)) with hb9 | hb9
      ·replace hM:=ifT hM hb9
       refine On (want:=false) hb9 ?_
       refine On (want:=false) hb9 ?_
       refine On (want:=false) hb9 ?_
       refine Pt (.b true) hb9 ?_
       refine Ni ?_
       exact zag true (.k (.k .nil)) ⟨(hS.keep [true,true,false] rfl).up (by omega),hM⟩
      ·replace hM:=ifF hM hb9
       refine Oy (want:=false) hb9 ?_
       refine za3 (v:=.i v6) 2 hS (by decide) rfl rfl .no (po zab zaf) ?_
       refine Oy (want:=false) hb9 ?_
       obtain ⟨r10,hr10,hM⟩:=zai hM
       refine zau (bs:=[.i v6]) (by decide) rfl rfl ((zic hr10).le (.k .nil)) ?_
       refine Oy (want:=false) hb9 ?_
       refine zd7 (e:=r10) (by decide) rfl ?_
       refine Pf (.b (!r10)) hb9 ?_
       refine Ni ?_
       exact zag (!r10) (.k (.k .nil)) ⟨(hS.keep [true,true,false] rfl).up (by omega),hM⟩
    ·refine Sq ?_
     refine Rg 3 ?_
     refine Om (.sl .no 1 (a1.map cI)) ?_
     refine zcj (n:=a1.length) (by decide) rfl (List.length_map _) za9 ?_
     refine Om (.i 0) ?_
     refine Ni ?_
     refine Ws ?_
     refine zaq ?_
     refine zbr (V:=Int×(List Int)×Int) (fun v=>[(3,.ptr (g+0) 0),(5,.ptr (g+1) 0),(10,.ptr (g1+0) 0),(11,.fn (.func 40) [] [.ptr (g1+0) 0,.ptr (g+1) 0,.ptr (g+0) 0]),(35,.sl .no 1 (a1.map cI)),(36,.i (a1.length:Int)),(37,.i v.1)]) (fun v m5 H' g'=>St (·<g) H0 [(g1+1,.row 3 v.2.1.length),(g1+0,.cells [.sl (.id (g1+1)) 1 (v.2.1.map cI)]),(g+1,.cells [.i v.2.2]),(g+0,.cells (Pulse.cells a0))] H' g'/\ze5 n a0 a1 m5 v.1 v.2.1 v.2.2=some r) (n:=n) (0,([]:List Int),a2) (.k (.k (.k (.k (.k (.k (.k .nil))))))) ⟨(hS.keep [true,true,true,true] rfl).up (by omega),hM⟩ ?_
     rintro ⟨v12,v13,v14⟩ m5 H g5 ⟨hS,hM⟩
     obtain _ | m5:=m5
     ·exact nomatch (show none=some _ from hM)
     change wpA _ _ _ _ (Fr.of [(3,.ptr (g+0) 0),(5,.ptr (g+1) 0),(10,.ptr (g1+0) 0),(11,.fn (.func 40) [] [.ptr (g1+0) 0,.ptr (g+1) 0,.ptr (g+0) 0]),(35,.sl .no 1 (a1.map cI)),(36,.i (a1.length:Int)),(37,.i v12)]) _ _
     replace hS:St (·<g) H0 [(g1+1,.row 3 v13.length),(g1+0,.cells [.sl (.id (g1+1)) 1 (v13.map cI)]),(g+1,.cells [.i v14]),(g+0,.cells (Pulse.cells a0))] H g5:=hS
     replace hM:zhb n a0 a1 (ze5 n a0 a1 m5) v12 v13 v14=some r:=hM
     refine Sq ?_
     refine Rg 1 ?_
     refine Oi (.b (decide (v12<(a1.length:Int)))) ?_
     refine Ni ?_
     refine Ws ?_
     refine Sq ?_
     rcases bft (decide (v12<(a1.length:Int))) with hb15 | hb15
     ·replace hM:=ifT hM hb15
      refine Ct hb15 ?_
      refine zar ?_
      refine Ws ?_
      refine Sq ?_
      refine zaq ?_
      refine Sq ?_
      refine Rg 3 ?_
      obtain ⟨x16,hx16,hM⟩:=zai hM
      refine zaU (xs:=a1) (f:=cI) (z:=v12) (u:=x16) (by decide) rfl rfl zaR hx16 ?_
      refine Olp (.i x16) zab zaf ?_
      refine Oa (.i x16) ?_
      refine Ni ?_
      refine Ws ?_
      refine Sq ?_
      have hS0:=hS
      refine zd1 (n:=9) rfl (by kernel_rfl) ?_
      refine Om (.fn (.func 40) [] [.ptr (g1+0) 0,.ptr (g+1) 0,.ptr (g+0) 0]) ?_
      refine zaO (by decide) zeK rfl ?_
      refine za3 (v:=.i a0.Pause) 3 hS (by decide) rfl rfl (.st hS0 3 rfl (by omega)) (po zab zaf) ?_
      refine Om (.i x16) ?_
      refine zaO (by decide) zcu rfl ?_
      refine za3 (v:=.i a0.Numbers) 3 hS (by decide) rfl rfl (.st hS0 3 rfl (by omega)) (po zab zaf) ?_
      obtain ⟨q17,hq17,hM⟩:=zai hM
      refine znM (by decide) rfl rfl (znN hq17) ?_
      refine Oi (.i (w64 (q17+1))) ?_
      obtain ⟨r18,hr18,hM⟩:=zai hM
      have hndr18:=hS.nd_at (ns:=[1,0,2,3]) (M:=[(g1+0,.cells [.sl (.id (g1+1)) 1 (v13.map cI)]),(g1+1,.row 3 v13.length),(g+1,.cells [.i v14]),(g+0,.cells (Pulse.cells a0))]) (M':=[(g1+0,.cells [.sl (.id (g1+1)) 1 (r18.2.1.map cI)]),(g1+1,.row 3 r18.2.1.length),(g+1,.cells [.i r18.2.2]),(g+0,.cells (Pulse.cells a0))]) (.cons rfl (.cons rfl (.cons rfl (.cons rfl .nil)))) (by decide)
      refine zit (bs:=[.i a0.Pause,.i (w64 (q17+1)),.ptr (g1+0) 0,.ptr (g+1) 0,.ptr (g+0) 0]) (M:=[(g1+0,.cells [.sl (.id (g1+1)) 1 (v13.map cI)]),(g1+1,.row 3 v13.length),(g+1,.cells [.i v14]),(g+0,.cells (Pulse.cells a0))]) (M':=[(g1+0,.cells [.sl (.id (g1+1)) 1 (r18.2.1.map cI)]),(g1+1,.row 3 r18.2.1.length),(g+1,.cells [.i r18.2.2]),(g+0,.cells (Pulse.cells a0))]) (L':=[(g1+1,.row 3 r18.2.1.length),(g1+0,.cells [.sl (.id (g1+1)) 1 (r18.2.1.map cI)]),(g+1,.cells [.i r18.2.2]),(g+0,.cells (Pulse.cells a0))]) [1,0,2,3] (.inr (by kernel_rfl)) hS (by decide) rfl rfl ((zhg (p1:=g1+0) (w1:=g1+1) (p2:=g+1) (p3:=g+0) hndr18 hr18).le (.k (.k (.k (.k (.k .nil)))))) (.cons rfl (.cons rfl (.cons rfl (.cons rfl .nil)))) rfl (by omega) fun H hS=>?_
      refine Ni ?_
      refine Ws ?_
      have hS0:=hS
      refine zd1 (n:=9) rfl (by kernel_rfl) ?_
      refine Om (.fn (.func 40) [] [.ptr (g1+0) 0,.ptr (g+1) 0,.ptr (g+0) 0]) ?_
      refine zaO (by decide) zgK rfl ?_
      refine za3 (v:=.i a0.Gap) 3 hS (by decide) rfl rfl (.st hS0 3 rfl (by omega)) (po zab zaf) ?_
      refine Om (.i x16) ?_
      refine zaO (by decide) zcu rfl ?_
      refine za3 (v:=.i a0.Numbers) 3 hS (by decide) rfl rfl (.st hS0 3 rfl (by omega)) (po zab zaf) ?_
      obtain ⟨q19,hq19,hM⟩:=zai hM
      refine znM (by decide) rfl rfl (znO hq19) ?_
      refine Oi (.i (w64 (q19+1))) ?_
      obtain ⟨r20,hr20,hM⟩:=zai hM
      have hndr20:=hS.nd_at (ns:=[1,0,2,3]) (M:=[(g1+0,.cells [.sl (.id (g1+1)) 1 (r18.2.1.map cI)]),(g1+1,.row 3 r18.2.1.length),(g+1,.cells [.i r18.2.2]),(g+0,.cells (Pulse.cells a0))]) (M':=[(g1+0,.cells [.sl (.id (g1+1)) 1 (r20.2.1.map cI)]),(g1+1,.row 3 r20.2.1.length),(g+1,.cells [.i r20.2.2]),(g+0,.cells (Pulse.cells a0))]) (.cons rfl (.cons rfl (.cons rfl (.cons rfl .nil)))) (by decide)
      refine zit (bs:=[.i a0.Gap,.i (w64 (q19+1)),.ptr (g1+0) 0,.ptr (g+1) 0,.ptr (g+0) 0]) (M:=[(g1+0,.cells [.sl (.id (g1+1)) 1 (r18.2.1.map cI)]),(g1+1,.row 3 r18.2.1.length),(g+1,.cells [.i r18.2.2]),(g+0,.cells (Pulse.cells a0))]) (M':=[(g1+0,.cells [.sl (.id (g1+1)) 1 (r20.2.1.map cI)]),(g1+1,.row 3 r20.2.1.length),(g+1,.cells [.i r20.2.2]),(g+0,.cells (Pulse.cells a0))]) (L':=[(g1+1,.row 3 r20.2.1.length),(g1+0,.cells [.sl (.id (g1+1)) 1 (r20.2.1.map cI)]),(g+1,.cells [.i r20.2.2]),(g+0,.cells (Pulse.cells a0))]) [1,0,2,3] (.inr (by kernel_rfl)) hS (by decide) rfl rfl ((zhg (p1:=g1+0) (w1:=g1+1) (p2:=g+1) (p3:=g+0) hndr20 hr20).le (.k (.k (.k (.k (.k .nil)))))) (.cons rfl (.cons rfl (.cons rfl (.cons rfl .nil)))) rfl (by omega) fun H hS=>?_
      refine Ni ?_
      refine zae ?_
      refine Ws ?_
      refine Rg 2 ?_
      refine Oi (.i (w64 (v12+1))) ?_
      refine Om (.i (w64 (v12+1))) ?_
      refine Ni ?_
      exact zaW (w64 (v12+1),r20.2.1,r20.2.2) (Nat.lt_succ_self _) (.k (.k (.k (.k (.k (.k (.k .nil))))))) ⟨(hS.keep [true,true,true,true] rfl).up (by omega),hM⟩
     ·replace hM:=ifF hM hb15
      refine Cf hb15 ?_
      refine zbl ?_
      refine zap ?_
      refine zan ?_
      refine zat ?_
      exact zag (v13,v14) (.k (.k .nil)) ⟨(hS.keep [true,true,true,false] rfl).up (by omega),hM⟩
  ·refine Rg 13 ?_
   refine Om (.sl .no 1 (a1.map cI)) ?_
   refine zcj (n:=a1.length) (by decide) rfl (List.length_map _) za9 ?_
   refine Oi (.b (decide ((a1.length:Int)>24))) ?_
   refine Om (.b (decide ((a1.length:Int)>24))) ?_
   rcases bft (decide ((a1.length:Int)>24)) with hb21 | hb21
   ·replace hM:=ifT hM hb21
    refine On (want:=false) hb21 ?_
    refine On (want:=false) hb21 ?_
    refine On (want:=false) hb21 ?_
    refine Pt (.b true) hb21 ?_
    refine Om (.b true) ?_
    refine Og ?_
    refine Og ?_
    refine Og ?_
    refine za7 (v:=.b true) (e:=true) (by decide) rfl rfl rfl ?_
    refine Ni ?_
    exact zag true (.k (.k (.k (.k .nil)))) ⟨(hS.keep [false,true,true] rfl).up (by omega),hM⟩
   ·replace hM:=ifF hM hb21
    refine Oy (want:=false) hb21 ?_
    refine za3 (v:=.i a2) 1 hS (by decide) rfl rfl .no (po zab zaf) ?_
    refine Oy (want:=false) hb21 ?_
    obtain ⟨r22,hr22,hM⟩:=zai hM
    refine zau (bs:=[.i a2]) (by decide) rfl rfl ((zic hr22).le (.k .nil)) ?_
    refine Oy (want:=false) hb21 ?_
    refine zd7 (e:=r22) (by decide) rfl ?_
    refine Pf (.b (!r22)) hb21 ?_
    refine Om (.b (!r22)) ?_
    rcases bft (!r22) with hb23 | hb23
    ·replace hM:=ifT hM hb23
     refine On (want:=false) hb23 ?_
     refine On (want:=false) hb23 ?_
     refine On (want:=false) hb23 ?_
     refine Pt (.b true) hb23 ?_
     refine Ni ?_
     exact zag true (.k (.k (.k (.k .nil)))) ⟨(hS.keep [false,true,true] rfl).up (by omega),hM⟩
    ·replace hM:=ifF hM hb23
     refine Oy (want:=false) hb23 ?_
     refine Om (.sl .no 1 (a1.map cI)) ?_
     refine Oy (want:=false) hb23 ?_
     refine zcO (first:=[]) (cap:=[.ptr (g+4+3+2+2) 0]) (by decide) rfl rfl ?_
     refine Oy (want:=false) hb23 ?_
     obtain ⟨r24,hr24,hM⟩:=zai hM
     have hndr24:=hS.nd_at (ns:=[0]) (M:=[(g+4+3+2+2,.cells (Pulse.cells a0))]) (M':=[(g+4+3+2+2,.cells (Pulse.cells a0))]) (.cons rfl .nil) (by decide)
     have hncr24:=hS.nd_at (ns:=[0]) (M:=[(g+4+3+2+2,.cells (Pulse.cells a0))]) (M':=[(g+4+3+2+2,.cells (Pulse.cells a0))]) (.cons rfl .nil) (by decide)
     refine zit (bs:=[.sl .no 1 (a1.map cI),.fn (.func 39) [] [.ptr (g+4+3+2+2) 0]]) (M:=[(g+4+3+2+2,.cells (Pulse.cells a0))]) (M':=[(g+4+3+2+2,.cells (Pulse.cells a0))]) (L':=[(g+4+3+2+2,.cells (Pulse.cells a0)),(g+1,.cells [.i a2]),(g+0,.cells (Pulse.cells a0))]) [0] (.inl rfl) hS (by decide) rfl rfl ((zg7 (Lo:=(fun (_:Unit)=>[(g+4+3+2+2,.cells (Pulse.cells a0))]))  (fun _ _=>(zbP zdJ)) (fun _=>hndr24) (fun s=>(zfT (zb2 (zaw (.inl (.inl (.v _))) (zaw (.inl (.inl (.v _))) (zaw (.inl (.inl (.v _))) (zaw (.inl (.inl (.v _))) (zaw (.inl (.inl (.v _))) (zaw (.inl (.inl (.v _))) (zaw (.inl (.inl (.v _))) (zaw (.inl (.inl (.sl _ _ (zaz (fun x=>(zad (.v _) zaG)))))) zed)))))))) zfS) zdi)) (aF:=(fun (x0:Int) (_:Unit)=>(zgB x0 (⟨a0⟩:Train_)).map fun y=>(y,()))) (fun s H hH=>(.fn _ _ _ zcq (zbo (ziX hH 0 rfl) zcq))) rfl (fun h=>zjr (zjz (p1:=g+4+3+2+2)  hncr24 (zdK h))) hr24).le (.k (.k .nil))) (.cons rfl .nil) rfl (by omega) fun H hS=>?_
     refine Pf (.b r24.1) hb23 ?_
     refine Ni ?_
     exact zag r24.1 (.k (.k (.k (.k .nil)))) ⟨(hS.keep [false,true,true] rfl).up (by omega),hM⟩
theorem zjQ {n:Nat} {a0:List Reading_} {r:(List Int)×Int} (hM:zfz n a0=some r):zav Try.prog 22 [.sl .no 2 (a0.map Reading_.cells)] (.tup [.sl .fr 1 (r.1.map cI),.i r.2]):=by
 refine zaj mixed Try.func22 rfl (by decide) Try.ntmps22 (by simp) ?pure fun H0 g hf=>?_
 case pure=>exact .tup _ (zad (.fr _ _ (zaz (fun x=>(zad (.v _) zaG)))) (zad (.v _) zaG))
 rw [zah]
 change wpA _ _ _ _ (Fr.of [(0,.sl .no 2 (a0.map Reading_.cells))]) H0 g
 have hS:=St.start hf
 refine Sq ?_
 refine Rg 2 ?_
 refine Oa (.sl .nil 0 []) ?_
 refine Oa (.i 0) ?_
 refine Ni ?_
 refine Ws ?_
 refine Sq ?_
 refine Rg 3 ?_
 refine Om (.sl .no 2 (a0.map Reading_.cells)) ?_
 obtain ⟨r1,hr1,hM⟩:=zai hM
 refine zau (bs:=[.sl .no 2 (a0.map Reading_.cells)]) (by decide) rfl rfl ((ziz hr1).le (.k .nil)) ?_
 refine Oa (.sl .no 1 (r1.map (cLf 1 cI))) ?_
 refine Ni ?_
 refine Ws ?_
 refine Sq ?_
 refine Sq ?_
 refine Rg 3 ?_
 refine Om (.sl .no 1 (r1.map (cLf 1 cI))) ?_
 refine zcj (n:=r1.length) (by decide) rfl (List.length_map _) zkb ?_
 refine Oi (.b (decide ((r1.length:Int)>1))) ?_
 refine Ni ?_
 refine Ws ?_
 rcases bft (decide ((r1.length:Int)>1)) with hb2 | hb2
 ·replace hM:=ifT hM hb2
  refine Ct hb2 ?_
  refine Sq ?_
  refine Rg 2 ?_
  refine Oa (.sl .nil 0 []) ?_
  refine Oa (.i 2) ?_
  refine Ni ?_
  refine Ws ?_
  refine zaA ?_
  refine zam ?_
  refine zaJ (x:=.tup [.sl .nil 0 [],.i 2]) (f:=fun r=>.tup [.sl .fr 1 (r.1.map cI),.i r.2]) (.inr rfl) ?_ (.tupL (.cons (.nf _ _) (.k .nil))) (Option.some.inj hM) hS
  exact (za2 (zac (x:=.sl .nil 0 []) rfl) (zac (x:=.i 2) rfl))
 ·replace hM:=ifF hM hb2
  refine Cf hb2 ?_
  refine zar ?_
  refine Ws ?_
  refine Sq ?_
  refine Rg 5 ?_
  refine Om (.sl .no 1 (r1.map (cLf 1 cI))) ?_
  obtain ⟨x3,hx3,hM⟩:=zai hM
  refine zaU (xs:=r1) (f:=(cLf 1 cI)) (z:=0) (u:=x3) (by decide) rfl rfl zia hx3 ?_
  refine Olp (.sl .fr 1 (x3.map cI)) za6 zbx ?_
  refine Oa (.sl .fr 1 (x3.map cI)) ?_
  refine Oa (.i 0) ?_
  refine Ni ?_
  refine zdz [(2,.sl .fr 1 (x3.map cI)),(3,.i 0)] (.k (.k .nil)) ?_
  refine zaA ?_
  refine zaJ (x:=.tup [.sl .fr 1 (x3.map cI),.i 0]) (f:=fun r=>.tup [.sl .fr 1 (r.1.map cI),.i r.2]) (.inr rfl) ?_ (.refl _) (Option.some.inj hM) hS
  exact (za2 (zac (x:=.sl .fr 1 (x3.map cI)) rfl) (zac (x:=.i 0) rfl))
theorem zml {n:Nat} {a0:Pulse} {r:(List Int)×Int} (hM:zkJ n a0=some r):zav Try.prog 17 [.agg (Pulse.cells a0)] (.tup [.sl .no 1 (r.1.map cI),.i r.2]):=by
 refine zaj mixed Try.func17 rfl (by decide) Try.ntmps17 (by simp) ?pure fun H0 g hf=>?_
 case pure=>exact .tup _ (zad (.sl _ _ (zaz (fun x=>(zad (.v _) zaG)))) (zad (.v _) zaG))
 rw [zah]
 change wpA _ _ _ _ (Fr.of [(0,.agg (Pulse.cells a0))]) H0 g
 have hS:=St.start hf
 refine Sq ?_
 refine Rg 3 ?_
 refine zbX (v:=.agg (Pulse.cells a0)) (cs:=(Pulse.cells a0)) hS (by decide) rfl rfl (by omega) fun H hS=>?_
 refine Oa (.sl .nil 0 []) ?_
 refine Oa (.i 0) ?_
 refine Ni ?_
 refine zaZ (L':=[]) 0 1 hS rfl rfl rfl fun H hS=>?_
 refine Ws ?_
 refine Sq ?_
 refine Rg 7 ?_
 refine Olg (.agg (Pulse.cells a0)) za0 ?_
 obtain ⟨r1,hr1,hM⟩:=zai hM
 refine zau (bs:=[.agg (Pulse.cells a0),.fn (.func 30) [] []]) (by decide) rfl rfl (zee ((zfq (Lo:=(fun (_:Unit)=>[]))  (fun _ _=>zdJ) (fun _=>List.nodup_nil) (fun _=>zdi) (aF:=(fun (x0:Train_) (_:Unit)=>(zcR x0).map fun y=>(y,()))) (fun _ H hH=>(.fn _ _ _ zcq zcq)) rfl (fun h=>zhm (zfC (zdK h))) hr1).le (.k (.k .nil)))) ?_
 refine Om (.tup [.sl .no 2 (r1.1.1.map Reading_.cells),.i r1.1.2]) ?_
 refine Ox (.sl .no 2 (r1.1.1.map Reading_.cells)) ?_
 refine Ox (.i r1.1.2) ?_
 refine Oa (.sl .no 2 (r1.1.1.map Reading_.cells)) ?_
 refine Oa (.i r1.1.2) ?_
 refine Ni ?_
 refine Ws ?_
 refine Sq ?_
 refine Sq ?_
 refine Rg 2 ?_
 refine Om (.i r1.1.2) ?_
 refine Oi (.b (r1.1.2 != 0)) ?_
 refine Ni ?_
 refine Ws ?_
 rcases bft (r1.1.2 != 0) with hb2 | hb2
 ·replace hM:=ifT hM hb2
  refine Ct hb2 ?_
  refine Sq ?_
  refine Rg 3 ?_
  refine Om (.i r1.1.2) ?_
  refine Oa (.sl .nil 0 []) ?_
  refine Oa (.i r1.1.2) ?_
  refine Ni ?_
  refine Ws ?_
  refine zaA ?_
  refine zam ?_
  refine zaJ (x:=.tup [.sl .nil 0 [],.i r1.1.2]) (f:=fun r=>.tup [.sl .no 1 (r.1.map cI),.i r.2]) (.inr rfl) ?_ (.tupL (.cons (.sl0 .nil 1 0) (.k .nil))) (Option.some.inj hM) hS
  exact (za2 (zac (x:=.sl .nil 0 []) rfl) (zac (x:=.i r1.1.2) rfl))
 ·replace hM:=ifF hM hb2
  refine Cf hb2 ?_
  refine zar ?_
  refine Ws ?_
  refine Sq ?_
  refine Rg 6 ?_
  refine Om (.sl .no 2 (r1.1.1.map Reading_.cells)) ?_
  obtain ⟨r3,hr3,hM⟩:=zai hM
  refine zau (bs:=[.sl .no 2 (r1.1.1.map Reading_.cells)]) (by decide) rfl rfl ((zjQ hr3).le (.k .nil)) ?_
  refine Ox (.sl .fr 1 (r3.1.map cI)) ?_
  refine Ox (.i r3.2) ?_
  refine Oa (.sl .fr 1 (r3.1.map cI)) ?_
  refine Oa (.i r3.2) ?_
  refine Ni ?_
  refine zdz [(2,.sl .fr 1 (r3.1.map cI)),(3,.i r3.2)] (.k (.k .nil)) ?_
  refine zaA ?_
  refine zaJ (x:=.tup [.sl .fr 1 (r3.1.map cI),.i r3.2]) (f:=fun r=>.tup [.sl .no 1 (r.1.map cI),.i r.2]) (.inr rfl) ?_ (.tupL (.cons (.sl _ _ _) (.k .nil))) (Option.some.inj hM) hS
  exact (za2 (zac (x:=.sl .fr 1 (r3.1.map cI)) rfl) (zac (x:=.i r3.2) rfl))
theorem zja {n:Nat} {r:Bool} (hM:zhp n=some r):zav Try.prog 5 [] (.b r):=by
 refine zaj mixed Try.func5 rfl (by decide) Try.ntmps5 (by simp) ?pure fun H0 g hf=>?_
 case pure=>exact .v _
 rw [zah]
 change wpA _ _ _ _ (Fr.of []) H0 g
 have hS:=St.start hf
 refine Sq ?_
 refine Rg 1 ?_
 refine Oa (.b false) ?_
 refine Ni ?_
 refine Ws ?_
 refine Sq ?_
 refine Rg 3 ?_
 obtain ⟨r1,hr1,hM⟩:=zai hM
 refine zau (bs:=[]) (by decide) rfl rfl ((zkR hr1).le .nil) ?_
 refine zcp hS (by decide) zhe (by omega) fun H hS=>?_
 refine za1 (v:=.agg (Pulse.cells r1)) (ns:=(Pulse.cells r1)) (L':=[(g+1+1,.cells (Pulse.cells r1))]) 0 hS rfl rfl .no rfl rfl zi1 nlb rfl fun H hS=>?_
 refine Ni ?_
 refine Ws ?_
 refine Sq ?_
 refine Rg 7 ?_
 refine za3 (v:=.agg (Pulse.cells r1)) 0 hS (by decide) rfl rfl .no (pg za0) ?_
 obtain ⟨r2,hr2,hM⟩:=zai hM
 refine zau (bs:=[.agg (Pulse.cells r1)]) (by decide) rfl rfl ((zmk hr2).le (.k .nil)) ?_
 refine Om (.tup [.i r2.1,.i r2.2]) ?_
 refine Ox (.i r2.1) ?_
 refine Ox (.i r2.2) ?_
 refine Oa (.i r2.1) ?_
 refine Oa (.i r2.2) ?_
 refine Ni ?_
 refine Ws ?_
 refine Sq ?_
 refine Rg 7 ?_
 refine za3 (v:=.agg (Pulse.cells r1)) 0 hS (by decide) rfl rfl .no (pg za0) ?_
 obtain ⟨r3,hr3,hM⟩:=zai hM
 refine zau (bs:=[.agg (Pulse.cells r1)]) (by decide) rfl rfl ((zld hr3).le (.k .nil)) ?_
 refine Om (.tup [.i r3.1,.i r3.2]) ?_
 refine Ox (.i r3.1) ?_
 refine Ox (.i r3.2) ?_
 refine Oa (.i r3.1) ?_
 refine Oa (.i r3.2) ?_
 refine Ni ?_
 refine Ws ?_
 refine Sq ?_
 refine Rg 8 ?_
 refine za3 (v:=.agg (Pulse.cells r1)) 0 hS (by decide) rfl rfl .no (pg za0) ?_
 obtain ⟨r4,hr4,hM⟩:=zai hM
 refine zau (bs:=[.agg (Pulse.cells r1),.i 6]) (by decide) rfl rfl ((zle hr4).le (.k (.k .nil))) ?_
 refine Om (.tup [.agg (Span.cells r4.1),.i r4.2]) ?_
 refine Ox (.agg (Span.cells r4.1)) ?_
 refine Ox (.i r4.2) ?_
 refine zcp hS (by decide) zgJ (by omega) fun H hS=>?_
 refine za1 (v:=.agg (Span.cells r4.1)) (ns:=(Span.cells r4.1)) (L':=[(g+1+3+7+7+5,.cells (Span.cells r4.1)),(g+1+1,.cells (Pulse.cells r1))]) 0 hS rfl rfl .no rfl rfl zi3 nlb rfl fun H hS=>?_
 refine Oa (.i r4.2) ?_
 refine Ni ?_
 refine zaZ (L':=[(g+1+1,.cells (Pulse.cells r1))]) 0 6 hS rfl rfl rfl fun H hS=>?_
 refine Ws ?_
 refine Sq ?_
 refine Rg 8 ?_
 refine za3 (v:=.agg (Pulse.cells r1)) 0 hS (by decide) rfl rfl .no (pg za0) ?_
 refine zaK (es:=[[.i 1],[.i 4]]) hS (by decide) zaR zcT rfl zcU rfl (by decide) (by omega) fun H hS=>?_
 obtain ⟨r5,hr5,hM⟩:=zai hM
 refine zau (bs:=[.agg (Pulse.cells r1),.sl (.id (g+1+3+7+7+8+1)) 1 (([1,4]:List Int).map cI),.i 7]) (by decide) rfl rfl ((zlf hr5).le (.k (.cons (.sl _ _ _) (.k .nil)))) ?_
 refine Om (.tup [.sl .no 1 (r5.1.map cI),.i r5.2]) ?_
 refine Ox (.sl .no 1 (r5.1.map cI)) ?_
 refine Ox (.i r5.2) ?_
 refine Oa (.sl .no 1 (r5.1.map cI)) ?_
 refine Oa (.i r5.2) ?_
 refine Ni ?_
 replace hS:=hS.keep (L':=[(g+1+1,.cells (Pulse.cells r1))]) [false,true] rfl
 refine Ws ?_
 refine Sq ?_
 refine Rg 2 ?_
 refine zaO (by decide) zgL rfl ?_
 refine za1 (v:=.i 0) (ns:=[.i 0]) (L':=[(g+1+1,.cells [.i r1.Letters,.i r1.Numbers,.i r1.Pitch,.i r1.Slack,.i r1.Gap,.i r1.Pause,.i 0,.sl .no 1 (r1.Times.map cI)])]) 0 hS rfl rfl .no rfl rfl zf0 nlb rfl fun H hS=>?_
 refine Ni ?_
 refine Ws ?_
 refine Sq ?_
 refine Rg 7 ?_
 refine za3 (v:=.agg [.i r1.Letters,.i r1.Numbers,.i r1.Pitch,.i r1.Slack,.i r1.Gap,.i r1.Pause,.i 0,.sl .no 1 (r1.Times.map cI)]) 0 hS (by decide) rfl rfl .no (pg za0) ?_
 obtain ⟨r6,hr6,hM⟩:=zai hM
 refine zau (bs:=[.agg [.i r1.Letters,.i r1.Numbers,.i r1.Pitch,.i r1.Slack,.i r1.Gap,.i r1.Pause,.i 0,.sl .no 1 (r1.Times.map cI)]]) (by decide) rfl rfl ((zml hr6).le (.k .nil)) ?_
 refine Om (.tup [.sl .no 1 (r6.1.map cI),.i r6.2]) ?_
 refine Ox (.sl .no 1 (r6.1.map cI)) ?_
 refine Ox (.i r6.2) ?_
 refine Oa (.sl .no 1 (r6.1.map cI)) ?_
 refine Oa (.i r6.2) ?_
 refine Ni ?_
 replace hS:=hS.keep (L':=[]) [false] rfl
 refine Ws ?_
 refine zaC (J:=Bool) (fun j=>[(0,.b j)]) (fun j H' g'=>St (·<g) H0 [] H' g'/\zbz j=some r) ?_ ?_
 ·rintro v7 H g1 ⟨hS,hM⟩
  change wpA _ _ _ _ (Fr.of [(0,.b v7)]) _ _
  replace hS:St (·<g) H0 [] H g1:=hS
  replace hM:zbz v7=some r:=hM
  refine zaA ?_
  refine zaJ (x:=.b v7) (f:=fun r=>.b r) (.inr rfl) ?_ (.refl _) (Option.some.inj hM) hS
  exact (zao (zac (x:=.b v7) rfl))
 ·refine Rg 42 ?_
  refine Om (.i r2.2) ?_
  refine Oi (.b (r2.2==0)) ?_
  refine Om (.b (r2.2==0)) ?_
  rcases bft (r2.2==0) with hb8 | hb8
  ·replace hM:=ifT hM hb8
   refine Oy (want:=true) hb8 ?_
   refine Om (.i r3.2) ?_
   refine Oy (want:=true) hb8 ?_
   refine Oi (.b (r3.2==0)) ?_
   refine Pt (.b (r3.2==0)) hb8 ?_
   refine Om (.b (r3.2==0)) ?_
   rcases bft (r3.2==0) with hb9 | hb9
   ·replace hM:=ifT hM hb9
    refine Oy (want:=true) hb9 ?_
    refine Om (.i r4.2) ?_
    refine Oy (want:=true) hb9 ?_
    refine Oi (.b (r4.2==0)) ?_
    refine Pt (.b (r4.2==0)) hb9 ?_
    refine Om (.b (r4.2==0)) ?_
    rcases bft (r4.2==0) with hb10 | hb10
    ·replace hM:=ifT hM hb10
     refine Oy (want:=true) hb10 ?_
     refine Om (.i r5.2) ?_
     refine Oy (want:=true) hb10 ?_
     refine Oi (.b (r5.2==0)) ?_
     refine Pt (.b (r5.2==0)) hb10 ?_
     refine Om (.b (r5.2==0)) ?_
     rcases bft (r5.2==0) with hb11 | hb11
     ·replace hM:=ifT hM hb11
      refine Oy (want:=true) hb11 ?_
      refine Om (.i r6.2) ?_
      refine Oy (want:=true) hb11 ?_
      refine Oi (.b (r6.2==0)) ?_
      refine Pt (.b (r6.2==0)) hb11 ?_
      refine Om (.b (r6.2==0)) ?_
      rcases bft (r6.2==0) with hb12 | hb12
      ·replace hM:=ifT hM hb12
       refine Oy (want:=true) hb12 ?_
       refine Om (.i r2.1) ?_
       refine Oy (want:=true) hb12 ?_
       refine Oi (.b (r2.1==5)) ?_
       refine Pt (.b (r2.1==5)) hb12 ?_
       refine Om (.b (r2.1==5)) ?_
       rcases bft (r2.1==5) with hb13 | hb13
       ·replace hM:=ifT hM hb13
        refine Oy (want:=true) hb13 ?_
        refine Om (.i r3.1) ?_
        refine Oy (want:=true) hb13 ?_
        refine Oi (.b (r3.1==3)) ?_
        refine Pt (.b (r3.1==3)) hb13 ?_
        refine Om (.b (r3.1==3)) ?_
        rcases bft (r3.1==3) with hb14 | hb14
        ·replace hM:=ifT hM hb14
         refine Oy (want:=true) hb14 ?_
         refine Olg (.agg (Span.cells r4.1)) zj9 ?_
         refine Oy (want:=true) hb14 ?_
         refine zbD (cs:=[.i 0,.i 1]) (by decide) zgJ zmc rfl ?_
         refine Oy (want:=true) hb14 ?_
         refine zs2 (cs:=(Span.cells r4.1)) (ds:=[.i 0,.i 1]) (e:=((r4.1.Low==0)&&((r4.1.High==1)&&true))) (by decide) rfl rfl zqy rfl ?_
         refine Pt (.b ((r4.1.Low==0)&&((r4.1.High==1)&&true))) hb14 ?_
         refine Om (.b ((r4.1.Low==0)&&((r4.1.High==1)&&true))) ?_
         rcases bft ((r4.1.Low==0)&&((r4.1.High==1)&&true)) with hb15 | hb15
         ·replace hM:=ifT hM hb15
          refine Oy (want:=true) hb15 ?_
          refine Om (.sl .no 1 (r5.1.map cI)) ?_
          refine Oy (want:=true) hb15 ?_
          refine zaK (es:=[[.i 7],[.i 37],[.i 47],[.i 147],[.i 157],[.i 187]]) hS (by decide) zaR zcT rfl zcU rfl (by decide) (by omega) fun H hS=>?_
          refine Oy (want:=true) hb15 ?_
          obtain ⟨r16,hr16,hM⟩:=zai hM
          refine zau (bs:=[.sl .no 1 (r5.1.map cI),.sl (.id (g+1+3+7+7+8+8+2+7+33)) 1 (([7,37,47,147,157,187]:List Int).map cI)]) (by decide) rfl rfl ((zdR hr16).le (.k (.cons (.sl _ _ _) .nil))) ?_
          refine Pt (.b r16) hb15 ?_
          refine Om (.b r16) ?_
          rcases bft r16 with hb17 | hb17
          ·replace hM:=ifT hM hb17
           refine Oy (want:=true) hb17 ?_
           refine Om (.sl .no 1 (r6.1.map cI)) ?_
           refine Oy (want:=true) hb17 ?_
           refine zaK (es:=[[.i 6]]) hS (by decide) zaR zcT rfl zcU rfl (by decide) (by omega) fun H hS=>?_
           refine Oy (want:=true) hb17 ?_
           obtain ⟨r18,hr18,hM⟩:=zai hM
           refine zau (bs:=[.sl .no 1 (r6.1.map cI),.sl (.id (g+1+3+7+7+8+8+2+7+38)) 1 (([6]:List Int).map cI)]) (by decide) rfl rfl ((zdR hr18).le (.k (.cons (.sl _ _ _) .nil))) ?_
           refine Pt (.b r18) hb17 ?_
           refine Oa (.b r18) ?_
           refine Ni ?_
           exact zag r18 (.k .nil) ⟨(hS.keep [false,false] rfl).up (by omega),hM⟩
          ·replace hM:=ifF hM hb17
           refine On (want:=true) hb17 ?_
           refine On (want:=true) hb17 ?_
           refine On (want:=true) hb17 ?_
           refine Pf (.b false) hb17 ?_
           refine Oa (.b false) ?_
           refine Ni ?_
           exact zag false (.k .nil) ⟨(hS.keep [false] rfl).up (by omega),hM⟩
         ·replace hM:=ifF hM hb15
          refine On (want:=true) hb15 ?_
          refine On (want:=true) hb15 ?_
          refine On (want:=true) hb15 ?_
          refine Pf (.b false) hb15 ?_
          refine Om (.b false) ?_
          refine Og ?_
          refine Og ?_
          refine Og ?_
          refine zaE (v:=.b false) (e:=false) (by decide) rfl rfl rfl ?_
          refine Oa (.b false) ?_
          refine Ni ?_
          exact zag false (.k .nil) ⟨(hS.keep [] rfl).up (by omega),hM⟩
        ·replace hM:=ifF hM hb14
         refine On (want:=true) hb14 ?_
         refine On (want:=true) hb14 ?_
         refine On (want:=true) hb14 ?_
         refine Pf (.b false) hb14 ?_
         refine Om (.b false) ?_
         refine Og ?_
         refine Og ?_
         refine Og ?_
         refine zaE (v:=.b false) (e:=false) (by decide) rfl rfl rfl ?_
         refine Om (.b false) ?_
         refine Og ?_
         refine Og ?_
         refine Og ?_
         refine zaE (v:=.b false) (e:=false) (by decide) rfl rfl rfl ?_
         refine Oa (.b false) ?_
         refine Ni ?_
         exact zag false (.k .nil) ⟨(hS.keep [] rfl).up (by omega),hM⟩
       ·replace hM:=ifF hM hb13
        refine On (want:=true) hb13 ?_
        refine On (want:=true) hb13 ?_
        refine Pf (.b false) hb13 ?_
        refine Om (.b false) ?_
        refine Og ?_
        refine Og ?_
        refine Og ?_
        refine zaE (v:=.b false) (e:=false) (by decide) rfl rfl rfl ?_
        refine Om (.b false) ?_
        refine Og ?_
        refine Og ?_
        refine Og ?_
        refine zaE (v:=.b false) (e:=false) (by decide) rfl rfl rfl ?_
        refine Om (.b false) ?_
        refine Og ?_
        refine Og ?_
        refine Og ?_
        refine zaE (v:=.b false) (e:=false) (by decide) rfl rfl rfl ?_
        refine Oa (.b false) ?_
        refine Ni ?_
        exact zag false (.k .nil) ⟨(hS.keep [] rfl).up (by omega),hM⟩
      ·replace hM:=ifF hM hb12
       refine On (want:=true) hb12 ?_
       refine On (want:=true) hb12 ?_
       refine Pf (.b false) hb12 ?_
       refine Om (.b false) ?_
       refine Og ?_
       refine Og ?_
       refine zaE (v:=.b false) (e:=false) (by decide) rfl rfl rfl ?_
       refine Om (.b false) ?_
       refine Og ?_
       refine Og ?_
       refine Og ?_
       refine zaE (v:=.b false) (e:=false) (by decide) rfl rfl rfl ?_
       refine Om (.b false) ?_
       refine Og ?_
       refine Og ?_
       refine Og ?_
       refine zaE (v:=.b false) (e:=false) (by decide) rfl rfl rfl ?_
       refine Om (.b false) ?_
       refine Og ?_
       refine Og ?_
       refine Og ?_
       refine zaE (v:=.b false) (e:=false) (by decide) rfl rfl rfl ?_
       refine Oa (.b false) ?_
       refine Ni ?_
       exact zag false (.k .nil) ⟨(hS.keep [] rfl).up (by omega),hM⟩
     ·replace hM:=ifF hM hb11
      refine On (want:=true) hb11 ?_
      refine On (want:=true) hb11 ?_
      refine Pf (.b false) hb11 ?_
      refine Om (.b false) ?_
      refine Og ?_
      refine Og ?_
      refine zaE (v:=.b false) (e:=false) (by decide) rfl rfl rfl ?_
      refine Om (.b false) ?_
      refine Og ?_
      refine Og ?_
      refine zaE (v:=.b false) (e:=false) (by decide) rfl rfl rfl ?_
      refine Om (.b false) ?_
      refine Og ?_
      refine Og ?_
      refine Og ?_
      refine zaE (v:=.b false) (e:=false) (by decide) rfl rfl rfl ?_
      refine Om (.b false) ?_
      refine Og ?_
      refine Og ?_
      refine Og ?_
      refine zaE (v:=.b false) (e:=false) (by decide) rfl rfl rfl ?_
      refine Om (.b false) ?_
      refine Og ?_
      refine Og ?_
      refine Og ?_
      refine zaE (v:=.b false) (e:=false) (by decide) rfl rfl rfl ?_
      refine Oa (.b false) ?_
      refine Ni ?_
      exact zag false (.k .nil) ⟨(hS.keep [] rfl).up (by omega),hM⟩
    ·replace hM:=ifF hM hb10
     refine On (want:=true) hb10 ?_
     refine On (want:=true) hb10 ?_
     refine Pf (.b false) hb10 ?_
     refine Om (.b false) ?_
     refine Og ?_
     refine Og ?_
     refine zaE (v:=.b false) (e:=false) (by decide) rfl rfl rfl ?_
     refine Om (.b false) ?_
     refine Og ?_
     refine Og ?_
     refine zaE (v:=.b false) (e:=false) (by decide) rfl rfl rfl ?_
     refine Om (.b false) ?_
     refine Og ?_
     refine Og ?_
     refine zaE (v:=.b false) (e:=false) (by decide) rfl rfl rfl ?_
     refine Om (.b false) ?_
     refine Og ?_
     refine Og ?_
     refine Og ?_
     refine zaE (v:=.b false) (e:=false) (by decide) rfl rfl rfl ?_
     refine Om (.b false) ?_
     refine Og ?_
     refine Og ?_
     refine Og ?_
     refine zaE (v:=.b false) (e:=false) (by decide) rfl rfl rfl ?_
     refine Om (.b false) ?_
     refine Og ?_
     refine Og ?_
     refine Og ?_
     refine zaE (v:=.b false) (e:=false) (by decide) rfl rfl rfl ?_
     refine Oa (.b false) ?_
     refine Ni ?_
     exact zag false (.k .nil) ⟨(hS.keep [] rfl).up (by omega),hM⟩
   ·replace hM:=ifF hM hb9
    refine On (want:=true) hb9 ?_
    refine On (want:=true) hb9 ?_
    refine Pf (.b false) hb9 ?_
    refine Om (.b false) ?_
    refine Og ?_
    refine Og ?_
    refine zaE (v:=.b false) (e:=false) (by decide) rfl rfl rfl ?_
    refine Om (.b false) ?_
    refine Og ?_
    refine Og ?_
    refine zaE (v:=.b false) (e:=false) (by decide) rfl rfl rfl ?_
    refine Om (.b false) ?_
    refine Og ?_
    refine Og ?_
    refine zaE (v:=.b false) (e:=false) (by decide) rfl rfl rfl ?_
    refine Om (.b false) ?_
    refine Og ?_
    refine Og ?_
    refine zaE (v:=.b false) (e:=false) (by decide) rfl rfl rfl ?_
    refine Om (.b false) ?_
    refine Og ?_
    refine Og ?_
    refine Og ?_
    refine zaE (v:=.b false) (e:=false) (by decide) rfl rfl rfl ?_
    refine Om (.b false) ?_
    refine Og ?_
    refine Og ?_
    refine Og ?_
    refine zaE (v:=.b false) (e:=false) (by decide) rfl rfl rfl ?_
    refine Om (.b false) ?_
    refine Og ?_
    refine Og ?_
    refine Og ?_
    refine zaE (v:=.b false) (e:=false) (by decide) rfl rfl rfl ?_
    refine Oa (.b false) ?_
    refine Ni ?_
    exact zag false (.k .nil) ⟨(hS.keep [] rfl).up (by omega),hM⟩
  ·replace hM:=ifF hM hb8
   refine On (want:=true) hb8 ?_
   refine On (want:=true) hb8 ?_
   refine Pf (.b false) hb8 ?_
   refine Om (.b false) ?_
   refine Og ?_
   refine Og ?_
   refine zaE (v:=.b false) (e:=false) (by decide) rfl rfl rfl ?_
   refine Om (.b false) ?_
   refine Og ?_
   refine Og ?_
   refine zaE (v:=.b false) (e:=false) (by decide) rfl rfl rfl ?_
   refine Om (.b false) ?_
   refine Og ?_
   refine Og ?_
   refine zaE (v:=.b false) (e:=false) (by decide) rfl rfl rfl ?_
   refine Om (.b false) ?_
   refine Og ?_
   refine Og ?_
   refine zaE (v:=.b false) (e:=false) (by decide) rfl rfl rfl ?_
   refine Om (.b false) ?_
   refine Og ?_
   refine Og ?_
   refine zaE (v:=.b false) (e:=false) (by decide) rfl rfl rfl ?_
   refine Om (.b false) ?_
   refine Og ?_
   refine Og ?_
   refine Og ?_
   refine zaE (v:=.b false) (e:=false) (by decide) rfl rfl rfl ?_
   refine Om (.b false) ?_
   refine Og ?_
   refine Og ?_
   refine Og ?_
   refine zaE (v:=.b false) (e:=false) (by decide) rfl rfl rfl ?_
   refine Om (.b false) ?_
   refine Og ?_
   refine Og ?_
   refine Og ?_
   refine zaE (v:=.b false) (e:=false) (by decide) rfl rfl rfl ?_
   refine Oa (.b false) ?_
   refine Ni ?_
   exact zag false (.k .nil) ⟨(hS.keep [] rfl).up (by omega),hM⟩
theorem zm5 {a0:Pulse} {r:Pulse} (hM:zik a0=some r):zav Try.prog 6 [.agg (Pulse.cells a0)] (.agg [.i r.Letters,.i r.Numbers,.i r.Pitch,.i r.Slack,.i r.Gap,.i r.Pause,.i r.Sparks,.sl .no 1 (r.Times.map cI)]):=by
 refine zaj mixed Try.func6 rfl (by decide) Try.ntmps6 (by simp) ?pure fun H0 g hf=>?_
 case pure=>exact .agg _ (zad (.v _) (zad (.v _) (zad (.v _) (zad (.v _) (zad (.v _) (zad (.v _) (zad (.v _) (zad (.sl _ _ (zaz (fun x=>(zad (.v _) zaG)))) zaG))))))))
 rw [zah]
 change wpA _ _ _ _ (Fr.of [(0,.agg (Pulse.cells a0))]) H0 g
 have hS:=St.start hf
 refine Sq ?_
 refine Rg 2 ?_
 refine zbX (v:=.agg (Pulse.cells a0)) (cs:=(Pulse.cells a0)) hS (by decide) rfl rfl (by omega) fun H hS=>?_
 refine zcp hS (by decide) zhe (by omega) fun H hS=>?_
 refine Ni ?_
 refine zaZ (L':=[(g+1,.cells [.i 0,.i 0,.i 0,.i 0,.i 0,.i 0,.i 0,.sl .nil 0 []])]) 1 1 hS rfl rfl rfl fun H hS=>?_
 refine Ws ?_
 refine Sq ?_
 refine Rg 3 ?_
 refine Olg (.agg (Pulse.cells a0)) za0 ?_
 refine zcp hS (by decide) zhe (by omega) fun H hS=>?_
 refine za1 (v:=.agg (Pulse.cells a0)) (ns:=(Pulse.cells a0)) (L':=[(g+2+1,.cells (Pulse.cells a0)),(g+1,.cells [.i 0,.i 0,.i 0,.i 0,.i 0,.i 0,.i 0,.sl .nil 0 []])]) 0 hS rfl rfl .no rfl rfl zi1 nlb rfl fun H hS=>?_
 refine Ni ?_
 refine Ws ?_
 refine Sq ?_
 refine Rg 6 ?_
 refine zaK (es:=[]) hS (by decide) zaR zcT rfl zcU rfl (by decide) (by omega) fun H hS=>?_
 refine Of ((Pulse.cells a0)) zcV ?_
 refine Olp (.sl .no 1 (a0.Times.map cI)) za6 zbx ?_
 obtain ⟨l1,hl1,hM⟩:=zai hM
 refine zcv (xs:=([]:List Int)) (ys:=a0.Times) (zs:=l1) (f:=cI) (L':=[(g+2+3+0,.row 3 l1.length),(g+2+1,.cells (Pulse.cells a0)),(g+1,.cells [.i 0,.i 0,.i 0,.i 0,.i 0,.i 0,.i 0,.sl .nil 0 []])]) 0 hS (by decide) rfl rfl rfl rfl .no zaR zcT zcU hl1 rfl fun H hS=>?_
 refine zaO (by decide) zcV rfl ?_
 refine za1 (v:=.sl (.id (g+2+3+0)) 1 (l1.map cI)) (ns:=[.sl (.id (g+2+3+0)) 1 (l1.map cI)]) (L':=[(g+2+3+0,.row 3 l1.length),(g+2+1,.cells [.i a0.Letters,.i a0.Numbers,.i a0.Pitch,.i a0.Slack,.i a0.Gap,.i a0.Pause,.i a0.Sparks,.sl (.id (g+2+3+0)) 1 (l1.map cI)]),(g+1,.cells [.i 0,.i 0,.i 0,.i 0,.i 0,.i 0,.i 0,.sl .nil 0 []])]) 1 hS rfl rfl .no rfl rfl zg0 nlb rfl fun H hS=>?_
 refine Ni ?_
 refine Ws ?_
 refine Sq ?_
 refine Rg 2 ?_
 refine za3 (v:=.agg [.i a0.Letters,.i a0.Numbers,.i a0.Pitch,.i a0.Slack,.i a0.Gap,.i a0.Pause,.i a0.Sparks,.sl (.id (g+2+3+0)) 1 (l1.map cI)]) 1 hS (by decide) rfl rfl .no (pg za0) ?_
 refine za1 (v:=.agg [.i a0.Letters,.i a0.Numbers,.i a0.Pitch,.i a0.Slack,.i a0.Gap,.i a0.Pause,.i a0.Sparks,.sl (.id (g+2+3+0)) 1 (l1.map cI)]) (ns:=[.i a0.Letters,.i a0.Numbers,.i a0.Pitch,.i a0.Slack,.i a0.Gap,.i a0.Pause,.i a0.Sparks,.sl (.id (g+2+3+0)) 1 (l1.map cI)]) (L':=[(g+2+3+0,.row 3 l1.length),(g+2+1,.cells [.i a0.Letters,.i a0.Numbers,.i a0.Pitch,.i a0.Slack,.i a0.Gap,.i a0.Pause,.i a0.Sparks,.sl (.id (g+2+3+0)) 1 (l1.map cI)]),(g+1,.cells [.i a0.Letters,.i a0.Numbers,.i a0.Pitch,.i a0.Slack,.i a0.Gap,.i a0.Pause,.i a0.Sparks,.sl (.id (g+2+3+0)) 1 (l1.map cI)])]) 2 hS rfl rfl .no rfl rfl zi1 nlb rfl fun H hS=>?_
 refine Ni ?_
 replace hS:=hS.keep (L':=[(g+2+3+0,.row 3 l1.length),(g+1,.cells [.i a0.Letters,.i a0.Numbers,.i a0.Pitch,.i a0.Slack,.i a0.Gap,.i a0.Pause,.i a0.Sparks,.sl (.id (g+2+3+0)) 1 (l1.map cI)])]) [true,false,true] rfl
 refine zdz [(2,.ptr (g+1) 0)] (.k .nil) ?_
 refine zaA ?_
 refine zaJ (x:=.agg [.i a0.Letters,.i a0.Numbers,.i a0.Pitch,.i a0.Slack,.i a0.Gap,.i a0.Pause,.i a0.Sparks,.sl (.id (g+2+3+0)) 1 (l1.map cI)]) (f:=fun r=>.agg [.i r.Letters,.i r.Numbers,.i r.Pitch,.i r.Slack,.i r.Gap,.i r.Pause,.i r.Sparks,.sl .no 1 (r.Times.map cI)]) (.inr rfl) ?_ (.aggL (.k (.k (.k (.k (.k (.k (.k (.cons (.sl _ _ _) .nil))))))))) (Option.some.inj hM) hS
 exact (zao (zeM (x:=.agg [.i a0.Letters,.i a0.Numbers,.i a0.Pitch,.i a0.Slack,.i a0.Gap,.i a0.Pause,.i a0.Sparks,.sl (.id (g+2+3+0)) 1 (l1.map cI)]) 1 hS rfl rfl (pg za0)))
theorem zdY {a0:Int} {a1:Int} {a2:Int} {r:Bool} (hM:zc8 a0 a1 a2=some r):zav Try.prog 68 [.i a0,.i a1,.i a2] (.b r):=by
 refine zaj mixed Try.func68 rfl (by decide) Try.ntmps68 (by simp) ?pure fun H0 g hf=>?_
 case pure=>exact .v _
 rw [zah]
 change wpA _ _ _ _ (Fr.of [(0,.i a0),(1,.i a1),(2,.i a2)]) H0 g
 have hS:=St.start hf
 refine Sq ?_
 refine Rg 1 ?_
 refine Oa (.b false) ?_
 refine Ni ?_
 refine Ws ?_
 refine zaC (J:=Bool) (fun j=>[(6,.b j)]) (fun j H' g'=>St (·<g) H0 [] H' g'/\zej j=some r) ?_ ?_
 ·rintro v1 H g1 ⟨hS,hM⟩
  change wpA _ _ _ _ (Fr.of [(6,.b v1)]) _ _
  replace hS:St (·<g) H0 [] H g1:=hS
  replace hM:zej v1=some r:=hM
  refine zaA ?_
  refine zaJ (x:=.b v1) (f:=fun r=>.b r) (.inr rfl) ?_ (.refl _) (Option.some.inj hM) hS
  exact (zao (zac (x:=.b v1) rfl))
 ·refine Rg 9 ?_
  refine Om (.i a1) ?_
  refine Om (.i a0) ?_
  refine Oi (.b (decide (a1<=a0))) ?_
  refine Om (.b (decide (a1<=a0))) ?_
  rcases bft (decide (a1<=a0)) with hb2 | hb2
  ·replace hM:=ifT hM hb2
   refine Oy (want:=true) hb2 ?_
   refine Om (.i a0) ?_
   refine Oy (want:=true) hb2 ?_
   refine Om (.i a2) ?_
   refine Oy (want:=true) hb2 ?_
   refine Oi (.b (decide (a0<=a2))) ?_
   refine Pt (.b (decide (a0<=a2))) hb2 ?_
   refine Oa (.b (decide (a0<=a2))) ?_
   refine Ni ?_
   exact zag (decide (a0<=a2)) (.k .nil) ⟨(hS.keep [] rfl).up (by omega),hM⟩
  ·replace hM:=ifF hM hb2
   refine On (want:=true) hb2 ?_
   refine On (want:=true) hb2 ?_
   refine On (want:=true) hb2 ?_
   refine Pf (.b false) hb2 ?_
   refine Oa (.b false) ?_
   refine Ni ?_
   exact zag false (.k .nil) ⟨(hS.keep [] rfl).up (by omega),hM⟩
theorem zid {a0:Wire} {a1:Int} {a2:Int} {r:Bool} (hM:ze6 a0 a1 a2=some r):zav Try.prog 47 [.agg (Wire.cells a0),.i a1,.i a2] (.b r):=by
 refine zaj mixed Try.func47 rfl (by decide) Try.ntmps47 (by simp) ?pure fun H0 g hf=>?_
 case pure=>exact .v _
 rw [zah]
 change wpA _ _ _ _ (Fr.of [(0,.agg (Wire.cells a0)),(1,.i a1),(2,.i a2)]) H0 g
 have hS:=St.start hf
 refine Sq ?_
 refine Rg 2 ?_
 refine zbX (v:=.agg (Wire.cells a0)) (cs:=(Wire.cells a0)) hS (by decide) rfl rfl (by omega) fun H hS=>?_
 refine Oa (.b false) ?_
 refine Ni ?_
 refine zaZ (L':=[]) 0 3 hS rfl rfl rfl fun H hS=>?_
 refine Ws ?_
 refine zaC (J:=Bool) (fun j=>[(6,.b j)]) (fun j H' g'=>St (·<g) H0 [] H' g'/\zdM j=some r) ?_ ?_
 ·rintro v1 H g1 ⟨hS,hM⟩
  change wpA _ _ _ _ (Fr.of [(6,.b v1)]) _ _
  replace hS:St (·<g) H0 [] H g1:=hS
  replace hM:zdM v1=some r:=hM
  refine zaA ?_
  refine zaJ (x:=.b v1) (f:=fun r=>.b r) (.inr rfl) ?_ (.refl _) (Option.some.inj hM) hS
  exact (zao (zac (x:=.b v1) rfl))
 ·refine Rg 13 ?_
  refine Om (.i a1) ?_
  refine Of ((Wire.cells a0)) zgM ?_
  refine Olp (.i a0.Letters) zab zaf ?_
  refine Oi (.i (w64 (a0.Letters-1))) ?_
  obtain ⟨r2,hr2,hM⟩:=zai hM
  refine zau (bs:=[.i a1,.i 0,.i (w64 (a0.Letters-1))]) (by decide) rfl rfl ((zdY hr2).le (.k (.k (.k .nil)))) ?_
  refine Om (.b r2) ?_
  rcases bft r2 with hb3 | hb3
  ·replace hM:=ifT hM hb3
   refine Oy (want:=true) hb3 ?_
   refine Om (.i a2) ?_
   refine Oy (want:=true) hb3 ?_
   refine Of ((Wire.cells a0)) zfp ?_
   refine Oy (want:=true) hb3 ?_
   refine Olp (.i a0.Numbers) zab zaf ?_
   refine Oy (want:=true) hb3 ?_
   refine Oi (.i (w64 (a0.Numbers-1))) ?_
   refine Oy (want:=true) hb3 ?_
   obtain ⟨r4,hr4,hM⟩:=zai hM
   refine zau (bs:=[.i a2,.i 0,.i (w64 (a0.Numbers-1))]) (by decide) rfl rfl ((zdY hr4).le (.k (.k (.k .nil)))) ?_
   refine Pt (.b r4) hb3 ?_
   refine Oa (.b r4) ?_
   refine Ni ?_
   exact zag r4 (.k .nil) ⟨(hS.keep [] rfl).up (by omega),hM⟩
  ·replace hM:=ifF hM hb3
   refine On (want:=true) hb3 ?_
   refine On (want:=true) hb3 ?_
   refine On (want:=true) hb3 ?_
   refine On (want:=true) hb3 ?_
   refine On (want:=true) hb3 ?_
   refine Pf (.b false) hb3 ?_
   refine Oa (.b false) ?_
   refine Ni ?_
   exact zag false (.k .nil) ⟨(hS.keep [] rfl).up (by omega),hM⟩
theorem zjW {a0:WirePress} {a1:Wire} {r:Bool} (hM:zdT a0 a1=some r):zav Try.prog 67 [.agg (WirePress.cells a0),.ep (Wire.cells a1)] (.b r):=by
 refine zaj mixed Try.func67 rfl (by decide) Try.ntmps67 (by simp) ?pure fun H0 g hf=>?_
 case pure=>exact .v _
 rw [zah]
 change wpA _ _ _ _ (Fr.of [(0,.agg (WirePress.cells a0)),(1,.ep (Wire.cells a1))]) H0 g
 have hS:=St.start hf
 refine Sq ?_
 refine Rg 2 ?_
 refine zbX (v:=.agg (WirePress.cells a0)) (cs:=(WirePress.cells a0)) hS (by decide) rfl rfl (by omega) fun H hS=>?_
 refine Oa (.b false) ?_
 refine Ni ?_
 refine zaZ (L':=[]) 0 2 hS rfl rfl rfl fun H hS=>?_
 refine Ws ?_
 refine zaC (J:=Bool) (fun j=>[(3,.b j)]) (fun j H' g'=>St (·<g) H0 [] H' g'/\zdt j=some r) ?_ ?_
 ·rintro v1 H g1 ⟨hS,hM⟩
  change wpA _ _ _ _ (Fr.of [(3,.b v1)]) _ _
  replace hS:St (·<g) H0 [] H g1:=hS
  replace hM:zdt v1=some r:=hM
  refine zaA ?_
  refine zaJ (x:=.b v1) (f:=fun r=>.b r) (.inr rfl) ?_ (.refl _) (Option.some.inj hM) hS
  exact (zao (zac (x:=.b v1) rfl))
 ·refine Rg 20 ?_
  refine Olg (.agg (Wire.cells a1)) zfO ?_
  refine Of ((WirePress.cells a0)) zlE ?_
  refine Olp (.i a0.Letter) zab zaf ?_
  refine Of ((WirePress.cells a0)) zlF ?_
  refine Olp (.i a0.Number) zab zaf ?_
  obtain ⟨r2,hr2,hM⟩:=zai hM
  refine zau (bs:=[.agg (Wire.cells a1),.i a0.Letter,.i a0.Number]) (by decide) rfl rfl ((zid hr2).le (.k (.k (.k .nil)))) ?_
  refine zd7 (e:=r2) (by decide) rfl ?_
  refine Om (.b (!r2)) ?_
  rcases bft (!r2) with hb3 | hb3
  ·replace hM:=ifT hM hb3
   refine On (want:=false) hb3 ?_
   refine On (want:=false) hb3 ?_
   refine On (want:=false) hb3 ?_
   refine On (want:=false) hb3 ?_
   refine On (want:=false) hb3 ?_
   refine On (want:=false) hb3 ?_
   refine On (want:=false) hb3 ?_
   refine On (want:=false) hb3 ?_
   refine On (want:=false) hb3 ?_
   refine On (want:=false) hb3 ?_
   refine Pt (.b true) hb3 ?_
   refine Oa (.b true) ?_
   refine Ni ?_
   exact zag true (.k .nil) ⟨(hS.keep [] rfl).up (by omega),hM⟩
  ·replace hM:=ifF hM hb3
   refine Oy (want:=false) hb3 ?_
   refine Of ((WirePress.cells a0)) zlG ?_
   refine Oy (want:=false) hb3 ?_
   refine Olp (.i a0.Got) zab zaf ?_
   refine Oy (want:=false) hb3 ?_
   refine Of ((Wire.cells a1)) zgM ?_
   refine Oy (want:=false) hb3 ?_
   refine Olp (.i a1.Letters) zab zaf ?_
   refine Oy (want:=false) hb3 ?_
   refine Of ((Wire.cells a1)) zfp ?_
   refine Oy (want:=false) hb3 ?_
   refine Olp (.i a1.Numbers) zab zaf ?_
   refine Oy (want:=false) hb3 ?_
   refine Oi (.i (w64 (a1.Letters*a1.Numbers))) ?_
   refine Oy (want:=false) hb3 ?_
   refine Oi (.i (w64 ((w64 (a1.Letters*a1.Numbers))-1))) ?_
   refine Oy (want:=false) hb3 ?_
   obtain ⟨r4,hr4,hM⟩:=zai hM
   refine zau (bs:=[.i a0.Got,.i (-1),.i (w64 ((w64 (a1.Letters*a1.Numbers))-1))]) (by decide) rfl rfl ((zdY hr4).le (.k (.k (.k .nil)))) ?_
   refine Oy (want:=false) hb3 ?_
   refine zd7 (e:=r4) (by decide) rfl ?_
   refine Pf (.b (!r4)) hb3 ?_
   refine Oa (.b (!r4)) ?_
   refine Ni ?_
   exact zag (!r4) (.k .nil) ⟨(hS.keep [] rfl).up (by omega),hM⟩
theorem zfD {S:Type} {Lo:S->BL} (hk:∀s s',zhi (Lo s) (Lo s')) (hnd:∀s,(ids (Lo s)).Nodup) (hin:∀s,InB In (Lo s)) {aF:WirePress->S->Option (Bool×S)} {f0:AV} (hF:∀s H,Has H (Lo s)->In H f0) (h0:cellsOf f0=some [f0]) (hf:∀{x0:WirePress} {s:S} {r:Bool×S},aF x0 s=some r->zkh Try.prog f0 [.agg (WirePress.cells x0)] (Lo s) (.b r.1) (Lo r.2)) {n:Nat} {a0:List WirePress} {st:S} {r:Int×S} (hM:zcA n aF a0 st=some r):zhD Try.prog 81 [.sl .no 3 (a0.map WirePress.cells),f0] (Lo st) (.i r.1) (Lo r.2):=by
 have hnd0:∀s,(ids (Lo s)).Nodup:=fun s=>hnd s
 refine zbk mixed Try.func81 rfl (by decide) Try.ntmps81 (by simp) (hk _ _) (hnd st) ?pure ?cells fun H0 g hf_ hp=>?_
 case pure=>exact fun H _=>(show Go.AM.Pure _ from .v _).inH
 case cells=>exact hin _
 rw [zah]
 change wpA _ _ _ _ (Fr.of [(0,.sl .no 3 (a0.map WirePress.cells)),(1,f0)]) H0 g
 have hS:=St.startH (L:=([]++Lo st)) hf_ (hnd st) hp
 replace hS:St (fun i=>i<g/\i∉ids (Lo st)) H0 ([]++Lo st) H0 g:=hS
 refine Sq ?_
 refine Rg 1 ?_
 refine Oa (.i 0) ?_
 refine Ni ?_
 refine Ws ?_
 refine zaC (J:=S) (fun j=>[]) (fun j H' g'=>St (fun i=>i<g/\i∉ids (Lo st)) H0 ([]++Lo j) H' g'/\zbt j=some r) ?_ ?_
 ·rintro v1 H g1 ⟨hS,hM⟩
  change wpA _ _ _ _ (Fr.of []) _ _
  replace hS:St (fun i=>i<g/\i∉ids (Lo st)) H0 ([]++Lo v1) H g1:=hS
  replace hM:zbt v1=some r:=hM
  refine Sq ?_
  refine Rg 1 ?_
  refine Oa (.i (-1)) ?_
  refine Ni ?_
  refine Ws ?_
  refine zaA ?_
  refine zc2 (x:=.i (-1)) (f:=fun r=>.i r.1) (fd:=fun r=>(Lo r.2)) (.inr rfl) ?_ (.refl _) (Option.some.inj hM) hS 0 rfl
  exact (zao (zac (x:=.i (-1)) rfl))
 ·refine Sq ?_
  refine Rg 3 ?_
  refine Om (.sl .no 3 (a0.map WirePress.cells)) ?_
  refine zcj (n:=a0.length) (by decide) rfl (List.length_map _) zoz ?_
  refine Om (.i 0) ?_
  refine Ni ?_
  refine Ws ?_
  refine zaq ?_
  refine zbr (V:=Int×S) (fun v=>[(0,.sl .no 3 (a0.map WirePress.cells)),(1,f0),(7,.i (a0.length:Int)),(8,.i v.1)]) (fun v m3 H' g'=>St (fun i=>i<g/\i∉ids (Lo st)) H0 ([]++Lo v.2) H' g'/\zax a0 aF m3 v.1 v.2=some r) (n:=n) (0,st) (.k (.k (.k (.k .nil)))) ⟨(hS.keep [] rfl).up (by omega),hM⟩ ?_
  rintro ⟨v3,v4⟩ m3 H g3 ⟨hS,hM⟩
  obtain _ | m3:=m3
  ·exact nomatch (show none=some _ from hM)
  change wpA _ _ _ _ (Fr.of [(0,.sl .no 3 (a0.map WirePress.cells)),(1,f0),(7,.i (a0.length:Int)),(8,.i v3)]) _ _
  replace hS:St (fun i=>i<g/\i∉ids (Lo st)) H0 ([]++Lo v4) H g3:=hS
  replace hM:zbi a0 aF (zax a0 aF m3) v3 v4=some r:=hM
  refine Sq ?_
  refine Rg 1 ?_
  refine Oi (.b (decide (v3<(a0.length:Int)))) ?_
  refine Ni ?_
  refine Ws ?_
  refine Sq ?_
  rcases bft (decide (v3<(a0.length:Int))) with hb5 | hb5
  ·replace hM:=ifT hM hb5
   refine Ct hb5 ?_
   refine zar ?_
   refine Ws ?_
   refine Sq ?_
   refine zaq ?_
   refine Sq ?_
   refine Rg 2 ?_
   refine Om (.i v3) ?_
   refine Oa (.i v3) ?_
   refine Ni ?_
   refine Ws ?_
   refine Sq ?_
   refine Rg 6 ?_
   refine Om (f0) ?_
   refine Om (.sl .no 3 (a0.map WirePress.cells)) ?_
   refine Om (.i v3) ?_
   obtain ⟨x6,hx6,hM⟩:=zai hM
   refine zaU (xs:=a0) (f:=WirePress.cells) (z:=v3) (u:=x6) (by decide) rfl rfl zth hx6 ?_
   refine Olg (.agg (WirePress.cells x6)) zqK ?_
   obtain ⟨r7,hr7,hM⟩:=zai hM
   replace hS:St (fun i=>i<g/\i∉ids (Lo st)) H0 ([]++Lo v4) _ _:=hS
   refine zhZ (bs:=[.agg (WirePress.cells x6)]) (.inl rfl) hS (by decide) rfl rfl ((hf hr7).le (.k .nil)) (hk _ _).ids (by omega) fun H hS=>?_
   refine Ni ?_
   refine Ws ?_
   rcases bft r7.1 with hb8 | hb8
   ·replace hM:=ifT hM hb8
    refine Ct hb8 ?_
    refine Sq ?_
    refine Rg 2 ?_
    refine Om (.i v3) ?_
    refine Oa (.i v3) ?_
    refine Ni ?_
    refine Ws ?_
    refine zaA ?_
    refine zas ?_
    refine zam ?_
    refine zaL ?_
    refine zas ?_
    refine zaI ?_
    refine zc2 (x:=.i v3) (f:=fun r=>.i r.1) (fd:=fun r=>(Lo r.2)) (.inr rfl) ?_ (.refl _) (Option.some.inj hM) hS 0 rfl
    exact (zao (zac (x:=.i v3) rfl))
   ·replace hM:=ifF hM hb8
    refine Cf hb8 ?_
    refine zar ?_
    refine zae ?_
    refine Ws ?_
    refine Rg 2 ?_
    refine Oi (.i (w64 (v3+1))) ?_
    refine Om (.i (w64 (v3+1))) ?_
    refine Ni ?_
    exact zaW (w64 (v3+1),r7.2) (Nat.lt_succ_self _) (.k (.k (.k (.k .nil)))) ⟨(hS.keep [] rfl).up (by omega),hM⟩
  ·replace hM:=ifF hM hb5
   refine Cf hb5 ?_
   refine zbl ?_
   refine zap ?_
   refine zan ?_
   refine zat ?_
   exact zag v4 .nil ⟨(hS.keep [] rfl).up (by omega),hM⟩
theorem zc3 {S:Type} {Lo:S->BL} (hk:∀s s',zhi (Lo s) (Lo s')) (hnd:∀s,(ids (Lo s)).Nodup) (hin:∀s,InB In (Lo s)) {aF:WirePress->S->Option (Bool×S)} {f0:AV} (hF:∀s H,Has H (Lo s)->In H f0) (h0:cellsOf f0=some [f0]) (hf:∀{x0:WirePress} {s:S} {r:Bool×S},aF x0 s=some r->zkh Try.prog f0 [.agg (WirePress.cells x0)] (Lo s) (.b r.1) (Lo r.2)) {n:Nat} {a0:List WirePress} {st:S} {r:Bool×S} (hM:za8 n aF a0 st=some r):zhD Try.prog 69 [.sl .no 3 (a0.map WirePress.cells),f0] (Lo st) (.b r.1) (Lo r.2):=by
 have hnd0:∀s,(ids (Lo s)).Nodup:=fun s=>hnd s
 refine zbk mixed Try.func69 rfl (by decide) Try.ntmps69 (by simp) (hk _ _) (hnd st) ?pure ?cells fun H0 g hf_ hp=>?_
 case pure=>exact fun H _=>(show Go.AM.Pure _ from .v _).inH
 case cells=>exact hin _
 rw [zah]
 change wpA _ _ _ _ (Fr.of [(0,.sl .no 3 (a0.map WirePress.cells)),(1,f0)]) H0 g
 have hS:=St.startH (L:=([]++Lo st)) hf_ (hnd st) hp
 replace hS:St (fun i=>i<g/\i∉ids (Lo st)) H0 ([]++Lo st) H0 g:=hS
 refine Sq ?_
 refine Rg 1 ?_
 refine Oa (.b false) ?_
 refine Ni ?_
 refine Ws ?_
 refine Sq ?_
 refine Rg 5 ?_
 refine Om (.sl .no 3 (a0.map WirePress.cells)) ?_
 refine Om (f0) ?_
 obtain ⟨r1,hr1,hM⟩:=zai hM
 replace hS:St (fun i=>i<g/\i∉ids (Lo st)) H0 ([]++Lo st) _ _:=hS
 refine ziW (bs:=[.sl .no 3 (a0.map WirePress.cells),f0]) (.inl rfl) hS (by decide) rfl rfl ((zfD (Lo:=Lo)  hk hnd0 hin (aF:=aF) hF h0 hf hr1).le (.k (.k .nil))) (hk _ _).ids (by omega) fun H hS=>?_
 refine Oi (.b (decide (r1.1≥0))) ?_
 refine Oa (.b (decide (r1.1≥0))) ?_
 refine Ni ?_
 refine zdz [(4,.b (decide (r1.1≥0)))] (.k .nil) ?_
 refine zaA ?_
 refine zc2 (x:=.b (decide (r1.1≥0))) (f:=fun r=>.b r.1) (fd:=fun r=>(Lo r.2)) (.inr rfl) ?_ (.refl _) (Option.some.inj hM) hS 0 rfl
 exact (zao (zac (x:=.b (decide (r1.1≥0))) rfl))
theorem zjb {n:Nat} {a0:Wire} {r:Int} (hM:zgE n a0=some r):zav Try.prog 43 [.agg (Wire.cells a0)] (.i r):=by
 refine zaj mixed Try.func43 rfl (by decide) Try.ntmps43 (by simp) ?pure fun H0 g hf=>?_
 case pure=>exact .v _
 rw [zah]
 change wpA _ _ _ _ (Fr.of [(0,.agg (Wire.cells a0))]) H0 g
 have hS:=St.start hf
 refine Sq ?_
 refine Rg 2 ?_
 refine zbX (v:=.agg (Wire.cells a0)) (cs:=(Wire.cells a0)) hS (by decide) rfl rfl (by omega) fun H hS=>?_
 refine Oa (.i 0) ?_
 refine Ni ?_
 refine zaZ (L':=[]) 0 1 hS rfl rfl rfl fun H hS=>?_
 refine Ws ?_
 refine Sq ?_
 refine Rg 2 ?_
 refine zcO (first:=[]) (cap:=[.ep (Wire.cells a0)]) (by decide) rfl rfl ?_
 refine Oa (.fn (.func 67) [] [.ep (Wire.cells a0)]) ?_
 refine Ni ?_
 refine Ws ?_
 refine Sq ?_
 refine zaC (J:=Bool) (fun j=>[(32,.b j)]) (fun j H' g'=>St (·<g) H0 [] H' g'/\zbA j=some r) ?_ ?_
 ·rintro v1 H g1 ⟨hS,hM⟩
  change wpA _ _ _ _ (Fr.of [(32,.b v1)]) _ _
  replace hS:St (·<g) H0 [] H g1:=hS
  replace hM:zbA v1=some r:=hM
  rcases bft v1 with hb2 | hb2
  ·replace hM:=ifT hM hb2
   refine Ct hb2 ?_
   refine Sq ?_
   refine Rg 1 ?_
   refine Oa (.i 110) ?_
   refine Ni ?_
   refine Ws ?_
   refine zaA ?_
   refine zam ?_
   refine zaJ (x:=.i 110) (f:=fun r=>.i r) (.inr rfl) ?_ (.refl _) (Option.some.inj hM) hS
   exact (zao (zac (x:=.i 110) rfl))
  ·replace hM:=ifF hM hb2
   refine Cf hb2 ?_
   refine zar ?_
   refine Ws ?_
   refine Sq ?_
   refine Rg 1 ?_
   refine Oa (.i 0) ?_
   refine Ni ?_
   refine Ws ?_
   refine zaA ?_
   refine zaJ (x:=.i 0) (f:=fun r=>.i r) (.inr rfl) ?_ (.refl _) (Option.some.inj hM) hS
   exact (zao (zac (x:=.i 0) rfl))
 ·refine Rg 28 ?_
  refine Of ((Wire.cells a0)) zgM ?_
  refine Olp (.i a0.Letters) zab zaf ?_
  obtain ⟨r3,hr3,hM⟩:=zai hM
  refine zau (bs:=[.i a0.Letters,.i 1,.i 5]) (by decide) rfl rfl ((zdY hr3).le (.k (.k (.k .nil)))) ?_
  refine zd7 (e:=r3) (by decide) rfl ?_
  refine Om (.b (!r3)) ?_
  rcases bft (!r3) with hb4 | hb4
  ·replace hM:=ifT hM hb4
   refine On (want:=false) hb4 ?_
   refine On (want:=false) hb4 ?_
   refine On (want:=false) hb4 ?_
   refine On (want:=false) hb4 ?_
   refine Pt (.b true) hb4 ?_
   refine Om (.b true) ?_
   refine Og ?_
   refine Og ?_
   refine Og ?_
   refine Og ?_
   refine za7 (v:=.b true) (e:=true) (by decide) rfl rfl rfl ?_
   refine Om (.b true) ?_
   refine Og ?_
   refine Og ?_
   refine Og ?_
   refine Og ?_
   refine za7 (v:=.b true) (e:=true) (by decide) rfl rfl rfl ?_
   refine Om (.b true) ?_
   refine Og ?_
   refine Og ?_
   refine Og ?_
   refine Og ?_
   refine za7 (v:=.b true) (e:=true) (by decide) rfl rfl rfl ?_
   refine Ni ?_
   exact zag true (.k .nil) ⟨(hS.keep [] rfl).up (by omega),hM⟩
  ·replace hM:=ifF hM hb4
   refine Oy (want:=false) hb4 ?_
   refine Of ((Wire.cells a0)) zfp ?_
   refine Oy (want:=false) hb4 ?_
   refine Olp (.i a0.Numbers) zab zaf ?_
   refine Oy (want:=false) hb4 ?_
   obtain ⟨r5,hr5,hM⟩:=zai hM
   refine zau (bs:=[.i a0.Numbers,.i 1,.i 5]) (by decide) rfl rfl ((zdY hr5).le (.k (.k (.k .nil)))) ?_
   refine Oy (want:=false) hb4 ?_
   refine zd7 (e:=r5) (by decide) rfl ?_
   refine Pf (.b (!r5)) hb4 ?_
   refine Om (.b (!r5)) ?_
   rcases bft (!r5) with hb6 | hb6
   ·replace hM:=ifT hM hb6
    refine On (want:=false) hb6 ?_
    refine On (want:=false) hb6 ?_
    refine On (want:=false) hb6 ?_
    refine On (want:=false) hb6 ?_
    refine Pt (.b true) hb6 ?_
    refine Om (.b true) ?_
    refine Og ?_
    refine Og ?_
    refine Og ?_
    refine Og ?_
    refine za7 (v:=.b true) (e:=true) (by decide) rfl rfl rfl ?_
    refine Om (.b true) ?_
    refine Og ?_
    refine Og ?_
    refine Og ?_
    refine Og ?_
    refine za7 (v:=.b true) (e:=true) (by decide) rfl rfl rfl ?_
    refine Ni ?_
    exact zag true (.k .nil) ⟨(hS.keep [] rfl).up (by omega),hM⟩
   ·replace hM:=ifF hM hb6
    refine Oy (want:=false) hb6 ?_
    refine Of ((Wire.cells a0)) zqO ?_
    refine Oy (want:=false) hb6 ?_
    refine Olp (.i a0.Faults) zab zaf ?_
    refine Oy (want:=false) hb6 ?_
    obtain ⟨r7,hr7,hM⟩:=zai hM
    refine zau (bs:=[.i a0.Faults,.i 0,.i 3]) (by decide) rfl rfl ((zdY hr7).le (.k (.k (.k .nil)))) ?_
    refine Oy (want:=false) hb6 ?_
    refine zd7 (e:=r7) (by decide) rfl ?_
    refine Pf (.b (!r7)) hb6 ?_
    refine Om (.b (!r7)) ?_
    rcases bft (!r7) with hb8 | hb8
    ·replace hM:=ifT hM hb8
     refine On (want:=false) hb8 ?_
     refine On (want:=false) hb8 ?_
     refine On (want:=false) hb8 ?_
     refine On (want:=false) hb8 ?_
     refine Pt (.b true) hb8 ?_
     refine Om (.b true) ?_
     refine Og ?_
     refine Og ?_
     refine Og ?_
     refine Og ?_
     refine za7 (v:=.b true) (e:=true) (by decide) rfl rfl rfl ?_
     refine Ni ?_
     exact zag true (.k .nil) ⟨(hS.keep [] rfl).up (by omega),hM⟩
    ·replace hM:=ifF hM hb8
     refine Oy (want:=false) hb8 ?_
     refine Of ((Wire.cells a0)) zkO ?_
     refine Oy (want:=false) hb8 ?_
     refine Olp (.sl .no 3 (a0.Presses.map WirePress.cells)) zme znZ ?_
     refine Oy (want:=false) hb8 ?_
     refine zcj (n:=a0.Presses.length) (by decide) rfl (List.length_map _) zoz ?_
     refine Oy (want:=false) hb8 ?_
     refine Oi (.b (decide ((a0.Presses.length:Int)>8))) ?_
     refine Pf (.b (decide ((a0.Presses.length:Int)>8))) hb8 ?_
     refine Om (.b (decide ((a0.Presses.length:Int)>8))) ?_
     rcases bft (decide ((a0.Presses.length:Int)>8)) with hb9 | hb9
     ·replace hM:=ifT hM hb9
      refine On (want:=false) hb9 ?_
      refine On (want:=false) hb9 ?_
      refine On (want:=false) hb9 ?_
      refine On (want:=false) hb9 ?_
      refine Pt (.b true) hb9 ?_
      refine Ni ?_
      exact zag true (.k .nil) ⟨(hS.keep [] rfl).up (by omega),hM⟩
     ·replace hM:=ifF hM hb9
      refine Oy (want:=false) hb9 ?_
      refine Of ((Wire.cells a0)) zkO ?_
      refine Oy (want:=false) hb9 ?_
      refine Olp (.sl .no 3 (a0.Presses.map WirePress.cells)) zme znZ ?_
      refine Oy (want:=false) hb9 ?_
      refine Om (.fn (.func 67) [] [.ep (Wire.cells a0)]) ?_
      refine Oy (want:=false) hb9 ?_
      obtain ⟨r10,hr10,hM⟩:=zai hM
      refine zau (bs:=[.sl .no 3 (a0.Presses.map WirePress.cells),.fn (.func 67) [] [.ep (Wire.cells a0)]]) (by decide) rfl rfl (zee ((zc3 (Lo:=(fun (_:Unit)=>[]))  (fun _ _=>zdJ) (fun _=>List.nodup_nil) (fun _=>zdi) (aF:=(fun (x0:WirePress) (_:Unit)=>(zdT x0 a0).map fun y=>(y,()))) (fun _ H hH=>(.fn _ _ _ zcq (zbo (.ep _ (zbo (show Go.AM.Pure _ from .v _).inH (zbo (show Go.AM.Pure _ from .v _).inH (zbo (show Go.AM.Pure _ from .sl _ _ (zaz (fun x=>(zad (.v _) (zad (.v _) (zad (.v _) zaG)))))).inH (zbo (show Go.AM.Pure _ from .v _).inH zcq))))) zcq))) rfl (fun h=>zhm (zjW (zdK h))) hr10).le (.k (.k .nil)))) ?_
      refine Pf (.b r10.1) hb9 ?_
      refine Ni ?_
      exact zag r10.1 (.k .nil) ⟨(hS.keep [] rfl).up (by omega),hM⟩
end Go.Proofs.Ytebfppngmmdfkaa
