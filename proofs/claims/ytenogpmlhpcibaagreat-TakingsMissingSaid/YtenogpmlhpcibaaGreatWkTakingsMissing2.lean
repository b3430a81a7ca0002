/-
  The code returns what the functions say (printed by gen.py).
  Conditions: none.
-/
import Derived.Test.YtenogpmlhpcibaaGreatWkTakingsMissing1
import Derived.Test.YtenogpmlhpcibaaGreatSh
import Derived.Test.YtenogpmlhpcibaaGreatKs
import Derived.Test.YtenogpmlhpcibaaGreatEn
set_option linter.all false
namespace Go.Proofs.YtenogpmlhpcibaaGreat
open Go Go.AM Go.Law
set_option linter.unusedVariables false
set_option maxRecDepth 4000
set_option maxHeartbeats 4000000
theorem zks {S:Type} {Lo:S->BL} (hk:∀s s',zlH (Lo s) (Lo s')) (hnd:∀s,(ids (Lo s)).Nodup) (hin:∀s,InB In (Lo s)) {aF:Int->S->Option (Bool×S)} {f0:AV} (hF:∀s H,Has H (Lo s)->In H f0) (h0:cellsOf f0=some [f0]) (hf:∀{x0:Int} {s:S} {r:Bool×S},aF x0 s=some r->zqp Tryz.prog f0 [.i x0] (Lo s) (.b r.1) (Lo r.2)) {a0:Int} {st:S} {r:Bool×S} (hM:zcO aF a0 st=some r):zlp Tryz.prog 142 [.i a0,.ep [f0]] (Lo st) (.b r.1) (Lo r.2):=by
 have hnd0:∀s,(ids (Lo s)).Nodup:=fun s=>hnd s
 refine zeN mixed Tryz.func142 rfl (by decide) Tryz.ntmps142 (by simp) (hk _ _) (hnd st) ?pure ?cells fun H0 g hf_ hp=>?_
 case pure=>exact fun H _=>(show Go.AM.Pure _ from .v _).inH
 case cells=>exact hin _
 rw [zai]
 change wpA _ _ _ _ (Fr.of [(0,.i a0),(1,.ep [f0])]) H0 g
 have hS:=St.startH (L:=([]++Lo st)) hf_ (hnd st) hp
 replace hS:St (fun i=>i<g/\i∉ids (Lo st)) H0 ([]++Lo st) H0 g:=hS
 refine Sq ?_
 refine Rg 1 ?_
 refine Oa (.b false) ?_
 refine Ni ?_
 refine Ws ?_
 refine Sq ?_
 refine Rg 5 ?_
 refine Olp (f0) ztm zuG ?_
 refine Om (.i a0) ?_
 obtain ⟨r1,hr1,hM⟩:=zaf hM
 replace hS:St (fun i=>i<g/\i∉ids (Lo st)) H0 ([]++Lo st) _ _:=hS
 refine znM (bs:=[.i a0]) (.inl rfl) hS (by decide) rfl rfl ((hf hr1).le (.k .nil)) (hk _ _).ids (by omega) fun H hS=>?_
 refine zfw (e:=r1.1) (by decide) rfl ?_
 refine Oa (.b (!r1.1)) ?_
 refine Ni ?_
 refine Ws ?_
 refine zaM ?_
 refine zhk (x:=.b (!r1.1)) (f:=fun r=>.b r.1) (fd:=fun r=>(Lo r.2)) (.inr rfl) ?_ (.refl _) (Option.some.inj hM) hS 0 rfl
 exact (zau (zae (x:=.b (!r1.1)) rfl))
theorem zmk {S:Type} {Lo:S->BL} (hk:∀s s',zlH (Lo s) (Lo s')) (hnd:∀s,(ids (Lo s)).Nodup) (hin:∀s,InB In (Lo s)) {aF:Int->S->Option (Bool×S)} {f0:AV} (hF:∀s H,Has H (Lo s)->In H f0) (h0:cellsOf f0=some [f0]) (hf:∀{x0:Int} {s:S} {r:Bool×S},aF x0 s=some r->zqp Tryz.prog f0 [.i x0] (Lo s) (.b r.1) (Lo r.2)) {n:Nat} {a0:List Int} {st:S} {r:Bool×S} (hM:zg1 n aF a0 st=some r):zlp Tryz.prog 128 [.sl .no 1 (a0.map cI),f0] (Lo st) (.b r.1) (Lo r.2):=by
 have hnd0:∀s,(ids (Lo s)).Nodup:=fun s=>hnd s
 refine zeN mixed Tryz.func128 rfl (by decide) Tryz.ntmps128 (by simp) (hk _ _) (hnd st) ?pure ?cells fun H0 g hf_ hp=>?_
 case pure=>exact fun H _=>(show Go.AM.Pure _ from .v _).inH
 case cells=>exact hin _
 rw [zai]
 change wpA _ _ _ _ (Fr.of [(0,.sl .no 1 (a0.map cI)),(1,f0)]) H0 g
 have hS:=St.startH (L:=([]++Lo st)) hf_ (hnd st) hp
 replace hS:St (fun i=>i<g/\i∉ids (Lo st)) H0 ([]++Lo st) H0 g:=hS
 refine Sq ?_
 refine Rg 2 ?_
 refine zcu (v:=f0) (cs:=[f0]) hS (by decide) rfl h0 (by omega) fun H hS=>?_
 refine Oa (.b false) ?_
 refine Ni ?_
 refine za8 (L':=([]++Lo st)) 0 3 hS rfl rfl rfl fun H hS=>?_
 refine Ws ?_
 refine zaR (J:=Bool×S) (fun j=>[(4,.b j.1)]) (fun j H' g'=>St (fun i=>i<g/\i∉ids (Lo st)) H0 ([]++Lo j.2) H' g'/\zd4 j.1 j.2=some r) ?_ ?_
 ·rintro ⟨v1,v2⟩ H g1 ⟨hS,hM⟩
  change wpA _ _ _ _ (Fr.of [(4,.b v1)]) _ _
  replace hS:St (fun i=>i<g/\i∉ids (Lo st)) H0 ([]++Lo v2) H g1:=hS
  replace hM:zd4 v1 v2=some r:=hM
  refine zaM ?_
  refine zhk (x:=.b v1) (f:=fun r=>.b r.1) (fd:=fun r=>(Lo r.2)) (.inr rfl) ?_ (.refl _) (Option.some.inj hM) hS 0 rfl
  exact (zau (zae (x:=.b v1) rfl))
 ·refine Rg 10 ?_
  refine Om (.sl .no 1 (a0.map cI)) ?_
  refine zbf (n:=a0.length) (by decide) rfl (List.length_map _) zaz ?_
  refine Oi (.b (decide ((a0.length:Int)<=20))) ?_
  refine Om (.b (decide ((a0.length:Int)<=20))) ?_
  rcases bft (decide ((a0.length:Int)<=20)) with hb3 | hb3
  ·replace hM:=ifT hM hb3
   refine Oy (want:=true) hb3 ?_
   refine Om (.sl .no 1 (a0.map cI)) ?_
   refine Oy (want:=true) hb3 ?_
   refine zha (first:=[]) (cap:=[.ep [f0]]) (by decide) rfl rfl ?_
   refine Oy (want:=true) hb3 ?_
   obtain ⟨r4,hr4,hM⟩:=zaf hM
   replace hS:St (fun i=>i<g/\i∉ids (Lo st)) H0 ([]++Lo st) _ _:=hS
   refine znN (bs:=[.sl .no 1 (a0.map cI),.fn (.func 142) [] [.ep [f0]]]) (.inl rfl) hS (by decide) rfl rfl ((zfd (Lo:=Lo)  hk hnd0 hin (aF:=(zcO aF)) (fun s H hH=>(.fn _ _ _ zhZ (ziN (.ep _ (ziN (hF _ H hH) zhZ)) zhZ))) rfl (fun h=>zta (zks (Lo:=Lo)  hk hnd0 hin hF h0 hf h)) hr4).le (.k (.k .nil))) (hk _ _).ids (by omega) fun H hS=>?_
   refine Oy (want:=true) hb3 ?_
   refine zfw (e:=r4.1) (by decide) rfl ?_
   refine Pt (.b (!r4.1)) hb3 ?_
   refine Oa (.b (!r4.1)) ?_
   refine Ni ?_
   exact zak ((!r4.1),r4.2) (.k .nil) ⟨(hS.keep [] rfl).up (by omega),hM⟩
  ·replace hM:=ifF hM hb3
   refine On (want:=true) hb3 ?_
   refine On (want:=true) hb3 ?_
   refine On (want:=true) hb3 ?_
   refine On (want:=true) hb3 ?_
   refine Pf (.b false) hb3 ?_
   refine Oa (.b false) ?_
   refine Ni ?_
   exact zak (false,st) (.k .nil) ⟨(hS.keep [] rfl).up (by omega),hM⟩
theorem zjn {a0:Wheel_} {a1:Int} {r:Bool} (hM:zej a0 a1=some r):zaC Tryz.prog 143 [.agg (Wheel.cells a0.Wheel),.i a1] (.b r):=by
 refine zal mixed Tryz.func143 rfl (by decide) Tryz.ntmps143 (by simp) ?pure fun H0 g hf=>?_
 case pure=>exact .v _
 rw [zai]
 change wpA _ _ _ _ (Fr.of [(0,.agg (Wheel.cells a0.Wheel)),(1,.i a1)]) H0 g
 have hS:=St.start hf
 refine Sq ?_
 refine Rg 2 ?_
 refine zcu (v:=.agg (Wheel.cells a0.Wheel)) (cs:=(Wheel.cells a0.Wheel)) hS (by decide) rfl rfl (by omega) fun H hS=>?_
 refine Oa (.b false) ?_
 refine Ni ?_
 refine za8 (L':=[]) 0 2 hS rfl rfl rfl fun H hS=>?_
 refine Ws ?_
 refine Sq ?_
 refine Rg 8 ?_
 refine Om (.i a1) ?_
 refine Of ((Wheel.cells a0.Wheel)) zeX ?_
 refine Of ((Wheel.cells a0.Wheel)) zcr ?_
 refine Olp (.sl .no 1 (a0.Wheel.Coins.map cI)) zao zaB ?_
 refine zbf (n:=a0.Wheel.Coins.length) (by decide) rfl (List.length_map _) zaz ?_
 refine Oi (.i (w64 ((a0.Wheel.Coins.length:Int)-1))) ?_
 obtain ⟨r1,hr1,hM⟩:=zaf hM
 refine zat (bs:=[.i a1,.i 0,.i (w64 ((a0.Wheel.Coins.length:Int)-1))]) (by decide) rfl rfl ((zfc hr1).le (.k (.k (.k .nil)))) ?_
 refine Oa (.b r1) ?_
 refine Ni ?_
 refine ze0 [(4,.b r1)] (.k .nil) ?_
 refine zaM ?_
 refine zaX (x:=.b r1) (f:=fun r=>.b r) (.inr rfl) ?_ (.refl _) (Option.some.inj hM) hS
 exact (zau (zae (x:=.b r1) rfl))
theorem zjI {a0:Wheel_} {a1:Int} {r:Bool} (hM:zc1 a0 a1=some r):zaC Tryz.prog 129 [.agg (Wheel.cells a0.Wheel),.i a1] (.b r):=by
 refine zal mixed Tryz.func129 rfl (by decide) Tryz.ntmps129 (by simp) ?pure fun H0 g hf=>?_
 case pure=>exact .v _
 rw [zai]
 change wpA _ _ _ _ (Fr.of [(0,.agg (Wheel.cells a0.Wheel)),(1,.i a1)]) H0 g
 have hS:=St.start hf
 refine Sq ?_
 refine Rg 2 ?_
 refine zcu (v:=.agg (Wheel.cells a0.Wheel)) (cs:=(Wheel.cells a0.Wheel)) hS (by decide) rfl rfl (by omega) fun H hS=>?_
 refine Oa (.b false) ?_
 refine Ni ?_
 refine za8 (L':=[]) 0 2 hS rfl rfl rfl fun H hS=>?_
 refine Ws ?_
 refine zaR (J:=Bool) (fun j=>[(4,.b j)]) (fun j H' g'=>St (·<g) H0 [] H' g'/\zcR j=some r) ?_ ?_
 ·rintro v1 H g1 ⟨hS,hM⟩
  change wpA _ _ _ _ (Fr.of [(4,.b v1)]) _ _
  replace hS:St (·<g) H0 [] H g1:=hS
  replace hM:zcR v1=some r:=hM
  refine zaM ?_
  refine zaX (x:=.b v1) (f:=fun r=>.b r) (.inr rfl) ?_ (.refl _) (Option.some.inj hM) hS
  exact (zau (zae (x:=.b v1) rfl))
 ·refine Rg 8 ?_
  refine Om (.i a1) ?_
  refine Oi (.b (a1==(-1))) ?_
  refine Om (.b (a1==(-1))) ?_
  rcases bft (a1==(-1)) with hb2 | hb2
  ·replace hM:=ifT hM hb2
   refine On (want:=false) hb2 ?_
   refine On (want:=false) hb2 ?_
   refine On (want:=false) hb2 ?_
   refine Pt (.b true) hb2 ?_
   refine Oa (.b true) ?_
   refine Ni ?_
   exact zak true (.k .nil) ⟨(hS.keep [] rfl).up (by omega),hM⟩
  ·replace hM:=ifF hM hb2
   refine Oy (want:=false) hb2 ?_
   refine Olg (.agg (Wheel.cells a0.Wheel)) zgL ?_
   refine Oy (want:=false) hb2 ?_
   refine Om (.i a1) ?_
   refine Oy (want:=false) hb2 ?_
   obtain ⟨r3,hr3,hM⟩:=zaf hM
   refine zat (bs:=[.agg (Wheel.cells a0.Wheel),.i a1]) (by decide) rfl rfl ((zjn hr3).le (.k (.k .nil))) ?_
   refine Pf (.b r3) hb2 ?_
   refine Oa (.b r3) ?_
   refine Ni ?_
   exact zak r3 (.k .nil) ⟨(hS.keep [] rfl).up (by omega),hM⟩
theorem zm1 {p1:Nat} (hnd:[p1].Nodup) {n:Nat} {a0:Wheel_} {a1:Stand} {a2:List Int} {r:Bool} (hM:zgE n a0 a1 a2=some r):zlp Tryz.prog 126 [.agg (Wheel.cells a0.Wheel),.ptr p1 0,.ep [.sl .no 1 (a2.map cI)]] [(p1,.cells (Stand.cells a1))] (.b r) [(p1,.cells (Stand.cells a1))]:=by
 refine zeN mixed Tryz.func126 rfl (by decide) Tryz.ntmps126 (by simp) (zqE znm) hnd ?pure ?cells fun H0 g hf_ hp=>?_
 case pure=>exact fun H _=>(show Go.AM.Pure _ from .v _).inH
 case cells=>exact (zsZ (zqC (znL (.inl (.inl (.v _))) (znL (.inl (.inl (.v _))) zvi)) zsY) zkQ)
 rw [zai]
 change wpA _ _ _ _ (Fr.of [(0,.agg (Wheel.cells a0.Wheel)),(1,.ptr p1 0),(2,.ep [.sl .no 1 (a2.map cI)])]) H0 g
 have hS:=St.startH (L:=[(p1,.cells (Stand.cells a1))]) hf_ hnd hp
 replace hS:St (fun i=>i<g/\i∉ids [(p1,.cells (Stand.cells a1))]) H0 [(p1,.cells (Stand.cells a1))] H0 g:=hS
 refine Sq ?_
 refine Rg 2 ?_
 refine zcu (v:=.agg (Wheel.cells a0.Wheel)) (cs:=(Wheel.cells a0.Wheel)) hS (by decide) rfl rfl (by omega) fun H hS=>?_
 refine Oa (.b false) ?_
 refine Ni ?_
 refine za8 (L':=[(p1,.cells (Stand.cells a1))]) 0 3 hS rfl rfl rfl fun H hS=>?_
 refine Ws ?_
 refine zaR (J:=Bool) (fun j=>[(4,.b j)]) (fun j H' g'=>St (fun i=>i<g/\i∉ids [(p1,.cells (Stand.cells a1))]) H0 [(p1,.cells (Stand.cells a1))] H' g'/\zdI j=some r) ?_ ?_
 ·rintro v1 H g1 ⟨hS,hM⟩
  change wpA _ _ _ _ (Fr.of [(4,.b v1)]) _ _
  replace hS:St (fun i=>i<g/\i∉ids [(p1,.cells (Stand.cells a1))]) H0 [(p1,.cells (Stand.cells a1))] H g1:=hS
  replace hM:zdI v1=some r:=hM
  refine zaM ?_
  refine zhk (x:=.b v1) (f:=fun r=>.b r) (fd:=fun r=>[(p1,.cells (Stand.cells a1))]) (.inr rfl) ?_ (.refl _) (Option.some.inj hM) hS 0 rfl
  exact (zau (zae (x:=.b v1) rfl))
 ·refine Rg 16 ?_
  refine Olg (.agg (Wheel.cells a0.Wheel)) zgL ?_
  refine zaT (by decide) zc2 rfl ?_
  refine za6 (v:=.i a1.Place) 0 hS (by decide) rfl rfl .no (po zah zas) ?_
  obtain ⟨r2,hr2,hM⟩:=zaf hM
  refine zat (bs:=[.agg (Wheel.cells a0.Wheel),.i a1.Place]) (by decide) rfl rfl ((ziV hr2).le (.k (.k .nil))) ?_
  refine Om (.b r2) ?_
  rcases bft r2 with hb3 | hb3
  ·replace hM:=ifT hM hb3
   refine Oy (want:=true) hb3 ?_
   refine zaT (by decide) zbn rfl ?_
   refine Oy (want:=true) hb3 ?_
   refine za6 (v:=.i a1.Credit) 0 hS (by decide) rfl rfl .no (po zah zas) ?_
   refine Oy (want:=true) hb3 ?_
   obtain ⟨r4,hr4,hM⟩:=zaf hM
   refine zat (bs:=[.i a1.Credit,.i 0,.i 20]) (by decide) rfl rfl ((zfc hr4).le (.k (.k (.k .nil)))) ?_
   refine Pt (.b r4) hb3 ?_
   refine Om (.b r4) ?_
   rcases bft r4 with hb5 | hb5
   ·replace hM:=ifT hM hb5
    refine Oy (want:=true) hb5 ?_
    refine Olp (.sl .no 1 (a2.map cI)) zao zaB ?_
    refine Oy (want:=true) hb5 ?_
    refine Olg (.agg (Wheel.cells a0.Wheel)) zgL ?_
    refine Oy (want:=true) hb5 ?_
    refine zha (first:=[.agg (Wheel.cells a0.Wheel)]) (cap:=[]) (by decide) rfl rfl ?_
    refine Oy (want:=true) hb5 ?_
    obtain ⟨r6,hr6,hM⟩:=zaf hM
    refine zat (bs:=[.sl .no 1 (a2.map cI),.fn (.func 129) [.agg (Wheel.cells a0.Wheel)] []]) (by decide) rfl rfl (ziO ((zmk (Lo:=(fun (_:Unit)=>[]))  (fun _ _=>znm) (fun _=>List.nodup_nil) (fun _=>zkQ) (aF:=(fun (x0:Int) (_:Unit)=>(zc1 a0 x0).map fun y=>(y,()))) (fun _ H hH=>(.fn _ _ _ (ziN (show Go.AM.Pure _ from .agg _ (zab (.v _) (zab (.sl _ _ (zaw (fun x=>(zab (.v _) zaE)))) (zab (.sl _ _ (zaw (fun x=>(zab (.v _) zaE)))) zaE)))).inH zhZ) zhZ)) rfl (fun h=>znW (zjI (zj7 h))) hr6).le (.k (.k .nil)))) ?_
    refine Pt (.b r6.1) hb5 ?_
    refine Oa (.b r6.1) ?_
    refine Ni ?_
    exact zak r6.1 (.k .nil) ⟨(hS.keep [true] rfl).up (by omega),hM⟩
   ·replace hM:=ifF hM hb5
    refine On (want:=true) hb5 ?_
    refine On (want:=true) hb5 ?_
    refine On (want:=true) hb5 ?_
    refine On (want:=true) hb5 ?_
    refine Pf (.b false) hb5 ?_
    refine Oa (.b false) ?_
    refine Ni ?_
    exact zak false (.k .nil) ⟨(hS.keep [true] rfl).up (by omega),hM⟩
  ·replace hM:=ifF hM hb3
   refine On (want:=true) hb3 ?_
   refine On (want:=true) hb3 ?_
   refine On (want:=true) hb3 ?_
   refine Pf (.b false) hb3 ?_
   refine Om (.b false) ?_
   refine Og ?_
   refine Og ?_
   refine Og ?_
   refine Og ?_
   refine zaY (v:=.b false) (e:=false) (by decide) rfl rfl rfl ?_
   refine Oa (.b false) ?_
   refine Ni ?_
   exact zak false (.k .nil) ⟨(hS.keep [true] rfl).up (by omega),hM⟩
theorem zkt {n:Nat} {a0:Wheel_} {a1:Int} {a2:Int} {r:Int×Int} (hM:zfk n a0 a1 a2=some r):zaC Tryz.prog 144 [.agg (Wheel.cells a0.Wheel),.i a1,.i a2] (.tup [.i r.1,.i r.2]):=by
 refine zal mixed Tryz.func144 rfl (by decide) Tryz.ntmps144 (by simp) ?pure fun H0 g hf=>?_
 case pure=>exact .tup _ (zab (.v _) (zab (.v _) zaE))
 rw [zai]
 change wpA _ _ _ _ (Fr.of [(0,.agg (Wheel.cells a0.Wheel)),(1,.i a1),(2,.i a2)]) H0 g
 have hS:=St.start hf
 refine Sq ?_
 refine Rg 3 ?_
 refine zcu (v:=.agg (Wheel.cells a0.Wheel)) (cs:=(Wheel.cells a0.Wheel)) hS (by decide) rfl rfl (by omega) fun H hS=>?_
 refine Oa (.i 0) ?_
 refine Oa (.i 0) ?_
 refine Ni ?_
 refine za8 (L':=[]) 0 3 hS rfl rfl rfl fun H hS=>?_
 refine Ws ?_
 refine Sq ?_
 refine Rg 4 ?_
 refine Om (.i a1) ?_
 refine Om (.i a2) ?_
 refine Oi (.i (w64 (a1+a2))) ?_
 refine Oa (.i (w64 (a1+a2))) ?_
 refine Ni ?_
 refine Ws ?_
 refine zaR (J:=Int) (fun j=>[(3,.ep (Wheel.cells a0.Wheel)),(7,.i j),(8,.i (w64 (a1+a2)))]) (fun j H' g'=>St (·<g) H0 [] H' g'/\zdU a0 a1 a2 j=some r) ?_ ?_
 ·rintro v1 H g1 ⟨hS,hM⟩
  change wpA _ _ _ _ (Fr.of [(3,.ep (Wheel.cells a0.Wheel)),(7,.i v1),(8,.i (w64 (a1+a2)))]) _ _
  replace hS:St (·<g) H0 [] H g1:=hS
  replace hM:zdU a0 a1 a2 v1=some r:=hM
  refine Sq ?_
  refine Rg 8 ?_
  refine Om (.i (w64 (a1+a2))) ?_
  refine Of ((Wheel.cells a0.Wheel)) zeX ?_
  refine Of ((Wheel.cells a0.Wheel)) zdl ?_
  refine Olp (.i a0.Wheel.Round) zah zas ?_
  obtain ⟨q2,hq2,hM⟩:=zaf hM
  refine zoM (by decide) rfl rfl (zvN hq2) ?_
  refine Om (.i v1) ?_
  refine Oa (.i q2) ?_
  refine Oa (.i v1) ?_
  refine Ni ?_
  refine Ws ?_
  refine zaM ?_
  refine zaX (x:=.tup [.i q2,.i v1]) (f:=fun r=>.tup [.i r.1,.i r.2]) (.inr rfl) ?_ (.refl _) (Option.some.inj hM) hS
  exact (zcD (zae (x:=.i q2) rfl) (zae (x:=.i v1) rfl))
 ·refine Sq ?_
  refine Rg 5 ?_
  refine Of ((Wheel.cells a0.Wheel)) zeX ?_
  refine Of ((Wheel.cells a0.Wheel)) zfY ?_
  refine Olp (.sl .no 1 (a0.Wheel.Notches.map cI)) zao zaB ?_
  refine zbf (n:=a0.Wheel.Notches.length) (by decide) rfl (List.length_map _) zaz ?_
  refine Om (.i 0) ?_
  refine Ni ?_
  refine Ws ?_
  refine zan ?_
  refine zbg (V:=Int×Int) (fun v=>[(1,.i a1),(3,.ep (Wheel.cells a0.Wheel)),(7,.i v.1),(8,.i (w64 (a1+a2))),(16,.sl .no 1 (a0.Wheel.Notches.map cI)),(17,.i (a0.Wheel.Notches.length:Int)),(18,.i v.2)]) (fun v m2 H' g'=>St (·<g) H0 [] H' g'/\zbv a0 a1 a2 m2 v.1 v.2=some r) (n:=n) (0,0) (.k (.k (.k (.k (.k (.k (.k .nil))))))) ⟨(hS.keep [] rfl).up (by omega),hM⟩ ?_
  rintro ⟨v3,v4⟩ m2 H g2 ⟨hS,hM⟩
  obtain _ | m2:=m2
  ·exact nomatch (show none=some _ from hM)
  change wpA _ _ _ _ (Fr.of [(1,.i a1),(3,.ep (Wheel.cells a0.Wheel)),(7,.i v3),(8,.i (w64 (a1+a2))),(16,.sl .no 1 (a0.Wheel.Notches.map cI)),(17,.i (a0.Wheel.Notches.length:Int)),(18,.i v4)]) _ _
  replace hS:St (·<g) H0 [] H g2:=hS
  replace hM:zdh a0 a1 a2 (zbv a0 a1 a2 m2) v3 v4=some r:=hM
  refine Sq ?_
  refine Rg 1 ?_
  refine Oi (.b (decide (v4<(a0.Wheel.Notches.length:Int)))) ?_
  refine Ni ?_
  refine Ws ?_
  refine Sq ?_
  rcases bft (decide (v4<(a0.Wheel.Notches.length:Int))) with hb5 | hb5
  ·replace hM:=ifT hM hb5
   refine Ct hb5 ?_
   refine zav ?_
   refine Ws ?_
   refine Sq ?_
   refine zan ?_
   refine Sq ?_
   refine Rg 3 ?_
   obtain ⟨x6,hx6,hM⟩:=zaf hM
   refine zaG (xs:=a0.Wheel.Notches) (f:=cI) (z:=v4) (u:=x6) (by decide) rfl rfl zaq hx6 ?_
   refine Olp (.i x6) zah zas ?_
   refine Oa (.i x6) ?_
   refine Ni ?_
   refine Ws ?_
   have hS0:=hS
   refine zb7 (n:=26) rfl (by kernel_rfl) ?_
   refine Om (.i v3) ?_
   refine Om (.i (w64 (a1+a2))) ?_
   refine Om (.i x6) ?_
   refine Oi (.i (w64 ((w64 (a1+a2))-x6))) ?_
   refine Of ((Wheel.cells a0.Wheel)) zeX ?_
   refine Of ((Wheel.cells a0.Wheel)) zdl ?_
   refine Olp (.i a0.Wheel.Round) zah zas ?_
   refine Oi (.i (w64 ((w64 ((w64 (a1+a2))-x6))+a0.Wheel.Round))) ?_
   refine Of ((Wheel.cells a0.Wheel)) zeX ?_
   refine Of ((Wheel.cells a0.Wheel)) zdl ?_
   refine Olp (.i a0.Wheel.Round) zah zas ?_
   obtain ⟨q7,hq7,hM⟩:=zaf hM
   refine zoM (by decide) rfl rfl (zsU hq7) ?_
   refine Om (.i a1) ?_
   refine Om (.i x6) ?_
   refine Oi (.i (w64 (a1-x6))) ?_
   refine Of ((Wheel.cells a0.Wheel)) zeX ?_
   refine Of ((Wheel.cells a0.Wheel)) zdl ?_
   refine Olp (.i a0.Wheel.Round) zah zas ?_
   refine Oi (.i (w64 ((w64 (a1-x6))+a0.Wheel.Round))) ?_
   refine Of ((Wheel.cells a0.Wheel)) zeX ?_
   refine Of ((Wheel.cells a0.Wheel)) zdl ?_
   refine Olp (.i a0.Wheel.Round) zah zas ?_
   obtain ⟨q8,hq8,hM⟩:=zaf hM
   refine zoM (by decide) rfl rfl (zsU hq8) ?_
   refine Oi (.i (w64 (q7-q8))) ?_
   refine Oi (.i (w64 (v3+(w64 (q7-q8))))) ?_
   refine Oa (.i (w64 (v3+(w64 (q7-q8))))) ?_
   refine Ni ?_
   refine zag ?_
   refine Ws ?_
   refine Rg 2 ?_
   refine Oi (.i (w64 (v4+1))) ?_
   refine Om (.i (w64 (v4+1))) ?_
   refine Ni ?_
   exact za0 (w64 (v3+(w64 (q7-q8))),w64 (v4+1)) (Nat.lt_succ_self _) (.k (.k (.k (.k (.k (.k (.k .nil))))))) ⟨(hS.keep [] rfl).up (by omega),hM⟩
  ·replace hM:=ifF hM hb5
   refine Cf hb5 ?_
   refine zbb ?_
   refine zam ?_
   refine zaj ?_
   refine zap ?_
   exact zak v3 (.k (.k (.k .nil))) ⟨(hS.keep [] rfl).up (by omega),hM⟩
theorem zkY {n:Nat} {a0:Wheel_} {a1:Stand} {a2:Int} {r:Stand} (hM:zfO n a0 a1 a2=some r):zaC Tryz.prog 130 [.agg (Wheel.cells a0.Wheel),.agg (Stand.cells a1),.i a2] (.agg [.i r.Place,.i r.Credit]):=by
 refine zal mixed Tryz.func130 rfl (by decide) Tryz.ntmps130 (by simp) ?pure fun H0 g hf=>?_
 case pure=>exact .agg _ (zab (.v _) (zab (.v _) zaE))
 rw [zai]
 change wpA _ _ _ _ (Fr.of [(0,.agg (Wheel.cells a0.Wheel)),(1,.agg (Stand.cells a1)),(2,.i a2)]) H0 g
 have hS:=St.start hf
 refine Sq ?_
 refine Rg 3 ?_
 refine zcu (v:=.agg (Wheel.cells a0.Wheel)) (cs:=(Wheel.cells a0.Wheel)) hS (by decide) rfl rfl (by omega) fun H hS=>?_
 refine zcu (v:=.agg (Stand.cells a1)) (cs:=(Stand.cells a1)) hS (by decide) rfl rfl (by omega) fun H hS=>?_
 refine zbK hS (by decide) zbI (by omega) fun H hS=>?_
 refine Ni ?_
 refine za8 (L':=[(g+2,.cells [.i 0,.i 0]),(g+1,.cells (Stand.cells a1))]) 2 3 hS rfl rfl rfl fun H hS=>?_
 refine za8 (L':=[(g+2,.cells [.i 0,.i 0])]) 1 4 hS rfl rfl rfl fun H hS=>?_
 refine Ws ?_
 refine Sq ?_
 refine zan ?_
 refine Sq ?_
 refine Rg 3 ?_
 refine Om (.i a2) ?_
 refine Oi (.b (a2 != (-1))) ?_
 refine Oa (.b (a2 != (-1))) ?_
 refine Ni ?_
 refine Ws ?_
 rcases bft (a2 != (-1)) with hb1 | hb1
 ·replace hM:=ifT hM hb1
  refine Ct hb1 ?_
  refine Sq ?_
  have hS0:=hS
  refine zb7 (n:=15) rfl (by kernel_rfl) ?_
  refine Olg (.agg (Wheel.cells a0.Wheel)) zgL ?_
  refine Of ((Stand.cells a1)) zc2 ?_
  refine Olp (.i a1.Place) zah zas ?_
  refine Of ((Wheel.cells a0.Wheel)) zeX ?_
  refine Of ((Wheel.cells a0.Wheel)) zcr ?_
  refine Olp (.sl .no 1 (a0.Wheel.Coins.map cI)) zao zaB ?_
  refine Om (.i a2) ?_
  obtain ⟨x2,hx2,hM⟩:=zaf hM
  refine zaG (xs:=a0.Wheel.Coins) (f:=cI) (z:=a2) (u:=x2) (by decide) rfl rfl zaq hx2 ?_
  refine Olp (.i x2) zah zas ?_
  obtain ⟨r3,hr3,hM⟩:=zaf hM
  refine zat (bs:=[.agg (Wheel.cells a0.Wheel),.i a1.Place,.i x2]) (by decide) rfl rfl ((zkt hr3).le (.k (.k (.k .nil)))) ?_
  refine Om (.tup [.i r3.1,.i r3.2]) ?_
  refine Ox (.i r3.1) ?_
  refine Ox (.i r3.2) ?_
  refine Oa (.i r3.1) ?_
  refine Oa (.i r3.2) ?_
  refine Ni ?_
  refine Ws ?_
  refine Sq ?_
  refine Rg 7 ?_
  refine Om (.i r3.1) ?_
  refine Of ((Stand.cells a1)) zbn ?_
  refine Olp (.i a1.Credit) zah zas ?_
  refine Om (.i r3.2) ?_
  refine Oi (.i (w64 (a1.Credit+r3.2))) ?_
  refine zb4 (cs:=[.i r3.1,.i (w64 (a1.Credit+r3.2))]) (by decide) zbI zg8 rfl ?_
  refine za2 (v:=.agg [.i r3.1,.i (w64 (a1.Credit+r3.2))]) (ns:=[.i r3.1,.i (w64 (a1.Credit+r3.2))]) (L':=[(g+2,.cells [.i r3.1,.i (w64 (a1.Credit+r3.2))])]) 0 hS rfl rfl .no rfl rfl zc7 nlb rfl fun H hS=>?_
  refine Ni ?_
  refine Ws ?_
  refine zaM ?_
  refine za5 ?_
  refine zar ?_
  refine zaX (x:=.agg [.i r3.1,.i (w64 (a1.Credit+r3.2))]) (f:=fun r=>.agg [.i r.Place,.i r.Credit]) (.inr rfl) ?_ (.refl _) (Option.some.inj hM) hS
  exact (zau (zdy (x:=.agg [.i r3.1,.i (w64 (a1.Credit+r3.2))]) 0 hS rfl rfl (pg zcq)))
 ·replace hM:=ifF hM hb1
  refine Cf hb1 ?_
  refine Sq ?_
  refine Rg 4 ?_
  refine Of ((Stand.cells a1)) zbn ?_
  refine Olp (.i a1.Credit) zah zas ?_
  refine Oi (.b (decide (a1.Credit>0))) ?_
  refine Oa (.b (decide (a1.Credit>0))) ?_
  refine Ni ?_
  refine Ws ?_
  rcases bft (decide (a1.Credit>0)) with hb4 | hb4
  ·replace hM:=ifT hM hb4
   refine Ct hb4 ?_
   refine Sq ?_
   refine Rg 5 ?_
   refine Of ((Stand.cells a1)) zbn ?_
   refine Olp (.i a1.Credit) zah zas ?_
   refine Oi (.i (w64 (a1.Credit-1))) ?_
   refine zb4 (cs:=[.i 0,.i (w64 (a1.Credit-1))]) (by decide) zbI zg8 rfl ?_
   refine za2 (v:=.agg [.i 0,.i (w64 (a1.Credit-1))]) (ns:=[.i 0,.i (w64 (a1.Credit-1))]) (L':=[(g+2,.cells [.i 0,.i (w64 (a1.Credit-1))])]) 0 hS rfl rfl .no rfl rfl zc7 nlb rfl fun H hS=>?_
   refine Ni ?_
   refine Ws ?_
   refine zaM ?_
   refine za5 ?_
   refine zar ?_
   refine zaX (x:=.agg [.i 0,.i (w64 (a1.Credit-1))]) (f:=fun r=>.agg [.i r.Place,.i r.Credit]) (.inr rfl) ?_ (.refl _) (Option.some.inj hM) hS
   exact (zau (zdy (x:=.agg [.i 0,.i (w64 (a1.Credit-1))]) 0 hS rfl rfl (pg zcq)))
  ·replace hM:=ifF hM hb4
   refine Cf hb4 ?_
   refine zav ?_
   refine zag ?_
   refine Ws ?_
   refine Sq ?_
   refine Rg 2 ?_
   refine Olg (.agg (Stand.cells a1)) zcq ?_
   refine za2 (v:=.agg (Stand.cells a1)) (ns:=(Stand.cells a1)) (L':=[(g+2,.cells (Stand.cells a1))]) 0 hS rfl rfl .no rfl rfl zc7 nlb rfl fun H hS=>?_
   refine Ni ?_
   refine ze0 [(6,.ptr (g+2) 0)] (.k .nil) ?_
   refine zaM ?_
   refine zaX (x:=.agg (Stand.cells a1)) (f:=fun r=>.agg [.i r.Place,.i r.Credit]) (.inr rfl) ?_ (.refl _) (Option.some.inj hM) hS
   exact (zau (zdy (x:=.agg (Stand.cells a1)) 0 hS rfl rfl (pg zcq)))
theorem zml {n:Nat} {a0:Wheel} {a1:Stand} {a2:List Int} {r:Stand×Int×Int} (hM:zfP n a0 a1 a2=some r):zaC Tryz.prog 115 [.agg (Wheel.cells a0),.agg (Stand.cells a1),.sl .no 1 (a2.map cI)] (.tup [.agg [.i r.1.Place,.i r.1.Credit],.i r.2.1,.i r.2.2]):=by
 refine zal mixed Tryz.func115 rfl (by decide) Tryz.ntmps115 (by simp) ?pure fun H0 g hf=>?_
 case pure=>exact .tup _ (zab (.agg _ (zab (.v _) (zab (.v _) zaE))) (zab (.v _) (zab (.v _) zaE)))
 rw [zai]
 change wpA _ _ _ _ (Fr.of [(0,.agg (Wheel.cells a0)),(1,.agg (Stand.cells a1)),(2,.sl .no 1 (a2.map cI))]) H0 g
 have hS:=St.start hf
 refine Sq ?_
 refine Rg 6 ?_
 refine zcu (v:=.agg (Wheel.cells a0)) (cs:=(Wheel.cells a0)) hS (by decide) rfl rfl (by omega) fun H hS=>?_
 refine zcu (v:=.agg (Stand.cells a1)) (cs:=(Stand.cells a1)) hS (by decide) rfl rfl (by omega) fun H hS=>?_
 refine zcu (v:=.sl .no 1 (a2.map cI)) (cs:=[.sl .no 1 (a2.map cI)]) hS (by decide) rfl rfl (by omega) fun H hS=>?_
 refine zbK hS (by decide) zbI (by omega) fun H hS=>?_
 refine Oa (.i 0) ?_
 refine Oa (.i 0) ?_
 refine Ni ?_
 refine za8 (L':=[(g+3,.cells [.i 0,.i 0]),(g+2,.cells [.sl .no 1 (a2.map cI)]),(g+1,.cells (Stand.cells a1))]) 3 3 hS rfl rfl rfl fun H hS=>?_
 refine za8 (L':=[(g+3,.cells [.i 0,.i 0]),(g+1,.cells (Stand.cells a1))]) 1 5 hS rfl rfl rfl fun H hS=>?_
 refine Ws ?_
 refine Sq ?_
 refine Rg 9 ?_
 refine Olg (.agg (Wheel.cells a0)) zbt ?_
 refine zha (first:=[]) (cap:=[.ptr (g+1) 0,.ep [.sl .no 1 (a2.map cI)]]) (by decide) rfl rfl ?_
 obtain ⟨r1,hr1,hM⟩:=zaf hM
 have hndr1:=hS.nd_at (ns:=[1]) (M:=[(g+1,.cells (Stand.cells a1))]) (M':=[(g+1,.cells (Stand.cells a1))]) (.cons rfl .nil) (by decide)
 have hncr1:=hS.nd_at (ns:=[1]) (M:=[(g+1,.cells (Stand.cells a1))]) (M':=[(g+1,.cells (Stand.cells a1))]) (.cons rfl .nil) (by decide)
 refine zs1 (bs:=[.agg (Wheel.cells a0),.fn (.func 126) [] [.ptr (g+1) 0,.ep [.sl .no 1 (a2.map cI)]]]) (M:=[(g+1,.cells (Stand.cells a1))]) (M':=[(g+1,.cells (Stand.cells a1))]) (L':=[(g+3,.cells [.i 0,.i 0]),(g+1,.cells (Stand.cells a1))]) [1] (.inl rfl) hS (by decide) rfl rfl ((zoZ (Lo:=(fun (_:Unit)=>[(g+1,.cells (Stand.cells a1))]))  (fun _ _=>(zqE znm)) (fun _=>hndr1) (fun s=>(zsZ (zqC (znL (.inl (.inl (.v _))) (znL (.inl (.inl (.v _))) zvi)) zsY) zkQ)) (aF:=(fun (x0:Wheel_) (_:Unit)=>(zgE n x0 a1 a2).map fun y=>(y,()))) (fun s H hH=>(.fn _ _ _ zhZ (ziN (zwY hH 0 rfl) (ziN (.ep _ (ziN (show Go.AM.Pure _ from .sl _ _ (zaw (fun x=>(zab (.v _) zaE)))).inH zhZ)) zhZ)))) rfl (fun h=>zta (zm1 (p1:=g+1)  hncr1 (zj7 h))) hr1).le (.k (.k .nil))) (.cons rfl .nil) rfl (by omega) fun H hS=>?_
 refine Om (.tup [.agg (Wheel.cells r1.1.1.Wheel),.i r1.1.2]) ?_
 refine Ox (.agg (Wheel.cells r1.1.1.Wheel)) ?_
 refine Ox (.i r1.1.2) ?_
 refine zbK hS (by decide) zhb (by omega) fun H hS=>?_
 refine za2 (v:=.agg (Wheel.cells r1.1.1.Wheel)) (ns:=(Wheel.cells r1.1.1.Wheel)) (L':=[(g+6+6,.cells (Wheel.cells r1.1.1.Wheel)),(g+3,.cells [.i 0,.i 0]),(g+1,.cells (Stand.cells a1))]) 0 hS rfl rfl .no rfl rfl zkk nlb rfl fun H hS=>?_
 refine Oa (.i r1.1.2) ?_
 refine Ni ?_
 refine za8 (L':=[(g+3,.cells [.i 0,.i 0]),(g+1,.cells (Stand.cells a1))]) 0 9 hS rfl rfl rfl fun H hS=>?_
 refine Ws ?_
 refine Sq ?_
 refine Sq ?_
 refine Rg 2 ?_
 refine Om (.i r1.1.2) ?_
 refine Oi (.b (r1.1.2 != 0)) ?_
 refine Ni ?_
 refine Ws ?_
 rcases bft (r1.1.2 != 0) with hb2 | hb2
 ·replace hM:=ifT hM hb2
  refine Ct hb2 ?_
  refine Sq ?_
  refine Rg 5 ?_
  refine zb4 (cs:=[.i 0,.i 0]) (by decide) zbI zg8 rfl ?_
  refine Om (.i r1.1.2) ?_
  refine za2 (v:=.agg [.i 0,.i 0]) (ns:=[.i 0,.i 0]) (L':=[(g+3,.cells [.i 0,.i 0]),(g+1,.cells (Stand.cells a1))]) 0 hS rfl rfl .no rfl rfl zc7 nlb rfl fun H hS=>?_
  refine Oa (.i 0) ?_
  refine Oa (.i r1.1.2) ?_
  refine Ni ?_
  replace hS:=hS.keep (L':=[(g+3,.cells [.i 0,.i 0])]) [true,false] rfl
  refine Ws ?_
  refine zaM ?_
  refine zar ?_
  refine zaX (x:=.tup [.agg [.i 0,.i 0],.i 0,.i r1.1.2]) (f:=fun r=>.tup [.agg [.i r.1.Place,.i r.1.Credit],.i r.2.1,.i r.2.2]) (.inr rfl) ?_ (.refl _) (Option.some.inj hM) hS
  exact (zhj (zdy (x:=.agg [.i 0,.i 0]) 0 hS rfl rfl (pg zcq)) (zae (x:=.i 0) rfl) (zae (x:=.i r1.1.2) rfl))
 ·replace hM:=ifF hM hb2
  refine Cf hb2 ?_
  refine zav ?_
  refine Ws ?_
  refine zaR (J:=Int×Int×Int) (fun j=>[(4,.ptr (g+1) 0),(6,.ptr (g+3) 0),(7,.i j.1)]) (fun j H' g'=>St (·<g) H0 [(g+3,.cells [.i 0,.i 0]),(g+1,.cells [.i j.2.1,.i j.2.2])] H' g'/\zhz j.1 j.2.1 j.2.2=some r) ?_ ?_
  ·rintro ⟨v3,v4,v5⟩ H g1 ⟨hS,hM⟩
   change wpA _ _ _ _ (Fr.of [(4,.ptr (g+1) 0),(6,.ptr (g+3) 0),(7,.i v3)]) _ _
   replace hS:St (·<g) H0 [(g+3,.cells [.i 0,.i 0]),(g+1,.cells [.i v4,.i v5])] H g1:=hS
   replace hM:zhz v3 v4 v5=some r:=hM
   refine Sq ?_
   refine Rg 5 ?_
   refine za6 (v:=.agg [.i v4,.i v5]) 1 hS (by decide) rfl rfl .no (pg zcq) ?_
   refine Om (.i v3) ?_
   refine za2 (v:=.agg [.i v4,.i v5]) (ns:=[.i v4,.i v5]) (L':=[(g+3,.cells [.i v4,.i v5]),(g+1,.cells [.i v4,.i v5])]) 0 hS rfl rfl .no rfl rfl zc7 nlb rfl fun H hS=>?_
   refine Oa (.i v3) ?_
   refine Oa (.i 0) ?_
   refine Ni ?_
   replace hS:=hS.keep (L':=[(g+3,.cells [.i v4,.i v5])]) [true,false] rfl
   refine Ws ?_
   refine zaM ?_
   refine zaX (x:=.tup [.agg [.i v4,.i v5],.i v3,.i 0]) (f:=fun r=>.tup [.agg [.i r.1.Place,.i r.1.Credit],.i r.2.1,.i r.2.2]) (.inr rfl) ?_ (.refl _) (Option.some.inj hM) hS
   exact (zhj (zdy (x:=.agg [.i v4,.i v5]) 0 hS rfl rfl (pg zcq)) (zae (x:=.i v3) rfl) (zae (x:=.i 0) rfl))
  ·refine Sq ?_
   refine Rg 3 ?_
   refine Olp (.sl .no 1 (a2.map cI)) zao zaB ?_
   refine zbf (n:=a2.length) (by decide) rfl (List.length_map _) zaz ?_
   refine Om (.i 0) ?_
   refine Ni ?_
   refine Ws ?_
   refine zan ?_
   refine zbg (V:=Int×Int×Int×Int) (fun v=>[(4,.ptr (g+1) 0),(6,.ptr (g+3) 0),(7,.i v.1),(9,.ep (Wheel.cells r1.1.1.Wheel)),(22,.sl .no 1 (a2.map cI)),(23,.i (a2.length:Int)),(24,.i v.2.1)]) (fun v m3 H' g'=>St (·<g) H0 [(g+3,.cells [.i 0,.i 0]),(g+1,.cells [.i v.2.2.1,.i v.2.2.2])] H' g'/\zb0 n a2 r1 m3 v.1 v.2.1 v.2.2.1 v.2.2.2=some r) (n:=n) (0,0,a1.Place,a1.Credit) (.k (.k (.k (.k (.k (.k (.k .nil))))))) ⟨(hS.keep [true,true] rfl).up (by omega),hM⟩ ?_
   rintro ⟨v8,v9,v10,v11⟩ m3 H g3 ⟨hS,hM⟩
   obtain _ | m3:=m3
   ·exact nomatch (show none=some _ from hM)
   change wpA _ _ _ _ (Fr.of [(4,.ptr (g+1) 0),(6,.ptr (g+3) 0),(7,.i v8),(9,.ep (Wheel.cells r1.1.1.Wheel)),(22,.sl .no 1 (a2.map cI)),(23,.i (a2.length:Int)),(24,.i v9)]) _ _
   replace hS:St (·<g) H0 [(g+3,.cells [.i 0,.i 0]),(g+1,.cells [.i v10,.i v11])] H g3:=hS
   replace hM:zgo n a2 r1 (zb0 n a2 r1 m3) v8 v9 v10 v11=some r:=hM
   refine Sq ?_
   refine Rg 1 ?_
   refine Oi (.b (decide (v9<(a2.length:Int)))) ?_
   refine Ni ?_
   refine Ws ?_
   refine Sq ?_
   rcases bft (decide (v9<(a2.length:Int))) with hb12 | hb12
   ·replace hM:=ifT hM hb12
    refine Ct hb12 ?_
    refine zav ?_
    refine Ws ?_
    refine Sq ?_
    refine zan ?_
    refine Sq ?_
    refine Rg 3 ?_
    obtain ⟨x13,hx13,hM⟩:=zaf hM
    refine zaG (xs:=a2) (f:=cI) (z:=v9) (u:=x13) (by decide) rfl rfl zaq hx13 ?_
    refine Olp (.i x13) zah zas ?_
    refine Oa (.i x13) ?_
    refine Ni ?_
    refine Ws ?_
    refine zaR (J:=Int) (fun j=>[(4,.ptr (g+1) 0),(6,.ptr (g+3) 0),(7,.i j),(9,.ep (Wheel.cells r1.1.1.Wheel)),(11,.i x13),(22,.sl .no 1 (a2.map cI)),(23,.i (a2.length:Int)),(24,.i v9)]) (fun j H' g'=>St (·<g) H0 [(g+3,.cells [.i 0,.i 0]),(g+1,.cells [.i v10,.i v11])] H' g'/\zgF n (zb0 n a2 r1 m3) r1 v9 v10 v11 x13 j=some r) ?_ ?_
    ·rintro v14 H g4 ⟨hS,hM⟩
     change wpA _ _ _ _ (Fr.of [(4,.ptr (g+1) 0),(6,.ptr (g+3) 0),(7,.i v14),(9,.ep (Wheel.cells r1.1.1.Wheel)),(11,.i x13),(22,.sl .no 1 (a2.map cI)),(23,.i (a2.length:Int)),(24,.i v9)]) _ _
     replace hS:St (·<g) H0 [(g+3,.cells [.i 0,.i 0]),(g+1,.cells [.i v10,.i v11])] H g4:=hS
     replace hM:zgF n (zb0 n a2 r1 m3) r1 v9 v10 v11 x13 v14=some r:=hM
     refine Rg 5 ?_
     refine Olg (.agg (Wheel.cells r1.1.1.Wheel)) zgL ?_
     refine za6 (v:=.agg [.i v10,.i v11]) 1 hS (by decide) rfl rfl .no (pg zcq) ?_
     refine Om (.i x13) ?_
     obtain ⟨r15,hr15,hM⟩:=zaf hM
     refine zat (bs:=[.agg (Wheel.cells r1.1.1.Wheel),.agg [.i v10,.i v11],.i x13]) (by decide) rfl rfl ((zkY hr15).le (.k (.k (.k .nil)))) ?_
     refine za2 (v:=.agg (Stand.cells r15)) (ns:=(Stand.cells r15)) (L':=[(g+3,.cells [.i 0,.i 0]),(g+1,.cells (Stand.cells r15))]) 1 hS rfl rfl .no rfl rfl zc7 nlb rfl fun H hS=>?_
     refine Ni ?_
     refine zag ?_
     refine Ws ?_
     refine Rg 2 ?_
     refine Oi (.i (w64 (v9+1))) ?_
     refine Om (.i (w64 (v9+1))) ?_
     refine Ni ?_
     exact za0 (v14,w64 (v9+1),r15.Place,r15.Credit) (Nat.lt_succ_self _) (.k (.k (.k (.k (.k (.k (.k .nil))))))) ⟨(hS.keep [true,true] rfl).up (by omega),hM⟩
    ·refine zaR (J:=Bool) (fun j=>[(4,.ptr (g+1) 0),(6,.ptr (g+3) 0),(7,.i v8),(9,.ep (Wheel.cells r1.1.1.Wheel)),(11,.i x13),(22,.sl .no 1 (a2.map cI)),(23,.i (a2.length:Int)),(24,.i v9),(34,.b j)]) (fun j H' g'=>St (·<g) H0 [(g+3,.cells [.i 0,.i 0]),(g+1,.cells [.i v10,.i v11])] H' g'/\zfE n (zb0 n a2 r1 m3) r1 v8 v9 v10 v11 x13 j=some r) ?_ ?_
     ·rintro v16 H g5 ⟨hS,hM⟩
      change wpA _ _ _ _ (Fr.of [(4,.ptr (g+1) 0),(6,.ptr (g+3) 0),(7,.i v8),(9,.ep (Wheel.cells r1.1.1.Wheel)),(11,.i x13),(22,.sl .no 1 (a2.map cI)),(23,.i (a2.length:Int)),(24,.i v9),(34,.b v16)]) _ _
      replace hS:St (·<g) H0 [(g+3,.cells [.i 0,.i 0]),(g+1,.cells [.i v10,.i v11])] H g5:=hS
      replace hM:zfE n (zb0 n a2 r1 m3) r1 v8 v9 v10 v11 x13 v16=some r:=hM
      rcases bft v16 with hb17 | hb17
      ·replace hM:=ifT hM hb17
       refine Ct hb17 ?_
       refine Rg 3 ?_
       refine Om (.i v8) ?_
       refine Oi (.i (w64 (v8+1))) ?_
       refine Oa (.i (w64 (v8+1))) ?_
       refine Ni ?_
       exact zak (w64 (v8+1)) (.k (.k (.k (.k (.k (.k (.k (.k .nil)))))))) ⟨(hS.keep [true,true] rfl).up (by omega),hM⟩
      ·replace hM:=ifF hM hb17
       refine Cf hb17 ?_
       refine zav ?_
       exact zak v8 (.k (.k (.k (.k (.k (.k (.k (.k .nil)))))))) ⟨(hS.keep [true,true] rfl).up (by omega),hM⟩
     ·refine Rg 7 ?_
      refine Om (.i x13) ?_
      refine Oi (.b (x13==(-1))) ?_
      refine Om (.b (x13==(-1))) ?_
      rcases bft (x13==(-1)) with hb18 | hb18
      ·replace hM:=ifT hM hb18
       refine Oy (want:=true) hb18 ?_
       refine zaT (by decide) zbn rfl ?_
       refine Oy (want:=true) hb18 ?_
       refine za6 (v:=.i v11) 1 hS (by decide) rfl rfl .no (po zah zas) ?_
       refine Oy (want:=true) hb18 ?_
       refine Oi (.b (decide (v11>0))) ?_
       refine Pt (.b (decide (v11>0))) hb18 ?_
       refine Ni ?_
       exact zak (decide (v11>0)) (.k (.k (.k (.k (.k (.k (.k (.k (.k .nil))))))))) ⟨(hS.keep [true,true] rfl).up (by omega),hM⟩
      ·replace hM:=ifF hM hb18
       refine On (want:=true) hb18 ?_
       refine On (want:=true) hb18 ?_
       refine On (want:=true) hb18 ?_
       refine Pf (.b false) hb18 ?_
       refine Ni ?_
       exact zak false (.k (.k (.k (.k (.k (.k (.k (.k (.k .nil))))))))) ⟨(hS.keep [true,true] rfl).up (by omega),hM⟩
   ·replace hM:=ifF hM hb12
    refine Cf hb12 ?_
    refine zbb ?_
    refine zam ?_
    refine zaj ?_
    refine zap ?_
    exact zak (v8,v10,v11) (.k (.k (.k .nil))) ⟨(hS.keep [true,true] rfl).up (by omega),hM⟩
theorem zhG {n:Nat} {a0:Option Box_} {al:Bag_} {r:List (PointT_×Step_)} (hM:zd5 n a0 al=some r):zvm Tryz.prog 86 [pA Box_.cells a0,.agg (Bag_.cells al)] (zaK (mpw zad zax r)):=by
 refine zrU mixed Tryz.func86 rfl (by decide) Tryz.ntmps86 (by simp) fun H0 g hf=>?_
 rw [zai]
 change wpA _ _ _ _ (Fr.of [(0,pA Box_.cells a0),(1,.agg (Bag_.cells al))]) H0 g
 have hS:=St.start hf
 unfold zd5 at hM
 obtain ⟨b,hb0,hM⟩:=zaf hM
 refine Sq ?_
 refine Rg 2 ?_
 refine zcu (v:=.agg (Bag_.cells al)) (cs:=(Bag_.cells al)) hS (by decide) rfl rfl (by omega) fun H hS=>?_
 refine Oa (.v (.map none)) ?_
 refine Ni ?_
 refine Ws ?_
 refine Sq ?_
 refine Rg 7 ?_
 refine znp (kv:=zad) (cv:=zax) hS (by decide) zho (by omega) fun H hS=>?_
 refine zb4 (cs:=[.i 0,.i 0,.i 0,.i 0,.i 0,.i 0,.i 0]) (by decide) zfG zlB rfl ?_
 refine zb4 (cs:=[.i (-2),.i 0,.i 0,.i 0,.i 0,.i 0,.i 0,.i 0]) (by decide) zh2 zqT rfl ?_
 refine zte (kv:=zad) (ok:=zbZ) (cv:=zax) (z0:=zbj) (M:=[]) (k:=zaQ) (v:=⟨-2,zaQ⟩) (M':=([(zaQ,(⟨-2,zaQ⟩:Step_))]:List (PointT_×Step_))) (L':=[(g+2+0,.obj none (zaK (mpw zad zax ([(zaQ,(⟨-2,zaQ⟩:Step_))]:List (PointT_×Step_))))),(g+0,.cells (Bag_.cells al))]) 0 zmh (.inl rfl) hS rfl rfl rfl rfl zho ziU (by decide) rfl fun H hS=>?_
 refine Om (.mp (g+2+0)) ?_
 refine zbK hS (by decide) zrZ (by omega) fun H hS=>?_
 refine za2 (v:=.mp (g+2+0)) (ns:=[.mp (g+2+0)]) (L':=[(g+2+5,.cells [.mp (g+2+0)]),(g+2+0,.obj none (zaK (mpw zad zax ([(zaQ,(⟨-2,zaQ⟩:Step_))]:List (PointT_×Step_))))),(g+0,.cells (Bag_.cells al))]) 0 hS rfl rfl .no rfl rfl zto nlb rfl fun H hS=>?_
 refine Ni ?_
 refine Ws ?_
 refine Sq ?_
 refine Rg 4 ?_
 refine zb4 (cs:=[.i 0,.i 0,.i 0,.i 0,.i 0,.i 0,.i 0]) (by decide) zfG zlB rfl ?_
 refine zw7 (e:=126) (es:=[[.i 0,.i 0,.i 0,.i 0,.i 0,.i 0,.i 0]]) hS (by decide) zkj zqU rfl zn5 rfl (by decide) (by omega) fun H hS=>?_
 replace hS:St (·<g) H0 [quB PointT_.cells (g+2+7+1) [] [zaQ],(g+2+5,.cells [.mp (g+2+0)]),(g+2+0,.obj none (zaK (mpw zad zax ([(zaQ,(⟨-2,zaQ⟩:Step_))]:List (PointT_×Step_))))),(g+0,.cells (Bag_.cells al))] H (g+2+7+1+1):=hS
 refine zbK hS (by decide) zr2 (by omega) fun H hS=>?_
 refine za2 (v:=quV 7 (g+2+7+1) [] [zaQ]) (ns:=[quV 7 (g+2+7+1) [] [zaQ]]) (L':=[(g+2+7+2,.cells [quV 7 (g+2+7+1) [] [zaQ]]),quB PointT_.cells (g+2+7+1) [] [zaQ],(g+2+5,.cells [.mp (g+2+0)]),(g+2+0,.obj none (zaK (mpw zad zax ([(zaQ,(⟨-2,zaQ⟩:Step_))]:List (PointT_×Step_))))),(g+0,.cells (Bag_.cells al))]) 0 hS rfl rfl .no rfl rfl zmd nlb rfl fun H hS=>?_
 refine Ni ?_
 refine Ws ?_
 replace hS:=hS.toHead (L':=[(g+2+0,.obj none (zaK (mpw zad zax ([(zaQ,(⟨-2,zaQ⟩:Step_))]:List (PointT_×Step_))))),(g+2+7+2,.cells [quV 7 (g+2+7+1) [] [zaQ]]),quB PointT_.cells (g+2+7+1) [] [zaQ],(g+2+5,.cells [.mp (g+2+0)]),(g+0,.cells (Bag_.cells al))]) 3 nlb rfl
 replace hS:=hS.toHead (L':=[(g+2+7+2,.cells [quV 7 (g+2+7+1) [] [zaQ]]),(g+2+0,.obj none (zaK (mpw zad zax ([(zaQ,(⟨-2,zaQ⟩:Step_))]:List (PointT_×Step_))))),quB PointT_.cells (g+2+7+1) [] [zaQ],(g+2+5,.cells [.mp (g+2+0)]),(g+0,.cells (Bag_.cells al))]) 1 nlb rfl
 replace hS:=hS.toHead (L':=[(g+2+5,.cells [.mp (g+2+0)]),(g+2+7+2,.cells [quV 7 (g+2+7+1) [] [zaQ]]),(g+2+0,.obj none (zaK (mpw zad zax ([(zaQ,(⟨-2,zaQ⟩:Step_))]:List (PointT_×Step_))))),quB PointT_.cells (g+2+7+1) [] [zaQ],(g+0,.cells (Bag_.cells al))]) 3 nlb rfl
 replace hS:=hS.toHead (L':=[(g+0,.cells (Bag_.cells al)),(g+2+5,.cells [.mp (g+2+0)]),(g+2+7+2,.cells [quV 7 (g+2+7+1) [] [zaQ]]),(g+2+0,.obj none (zaK (mpw zad zax ([(zaQ,(⟨-2,zaQ⟩:Step_))]:List (PointT_×Step_))))),quB PointT_.cells (g+2+7+1) [] [zaQ]]) 4 nlb rfl
 replace hS:=hS.toHead (L':=[quB PointT_.cells (g+2+7+1) [] [zaQ],(g+0,.cells (Bag_.cells al)),(g+2+5,.cells [.mp (g+2+0)]),(g+2+7+2,.cells [quV 7 (g+2+7+1) [] [zaQ]]),(g+2+0,.obj none (zaK (mpw zad zax ([(zaQ,(⟨-2,zaQ⟩:Step_))]:List (PointT_×Step_)))))]) 4 nlb rfl
 refine Sq ?_
 refine zan ?_
 refine zbg (V:=zj3×Nat×List AV) (fun v=>[(0,pA Box_.cells a0),(3,.ptr (g+0) 0),(5,.ptr (g+2+5) 0),(6,.ptr (g+2+7+2) 0)]) (fun v k H' g'=>St (·<g) H0 [quB PointT_.cells v.2.1 v.2.2 v.1.2,(g+0,.cells (Bag_.cells al)),(g+2+5,.cells [.mp (g+2+0)]),(g+2+7+2,.cells [quV 7 v.2.1 v.2.2 v.1.2]),(g+2+0,.obj none (zaK (mpw zad zax v.1.1)))] H' g'/\(∀c,c∈v.2.2->Go.AM.Pure c)/\zec n b al k v.1=some r) (n:=n) ((([(zaQ,(⟨-2,zaQ⟩:Step_))]:List (PointT_×Step_)),[zaQ]),(g+2+7+1),[]) (.k (.k (.k (.k .nil)))) ⟨hS.up (by omega),(fun c h=>by simp at h),hM⟩ ?_
 rintro ⟨⟨S1,S2⟩,q,pre⟩ m H g1 ⟨hS,hpre,hM⟩
 obtain _ | m:=m
 ·exact nomatch (show none=some _ from hM)
 replace hpre:∀c,c∈pre->Go.AM.Pure c:=hpre
 change wpA _ _ _ _ (Fr.of [(0,pA Box_.cells a0),(3,.ptr (g+0) 0),(5,.ptr (g+2+5) 0),(6,.ptr (g+2+7+2) 0)]) _ _
 replace hS:St (·<g) H0 [quB PointT_.cells q pre S2,(g+0,.cells (Bag_.cells al)),(g+2+5,.cells [.mp (g+2+0)]),(g+2+7+2,.cells [quV 7 q pre S2]),(g+2+0,.obj none (zaK (mpw zad zax S1)))] H g1:=hS
 refine Sq ?_
 refine Sq ?_
 refine Rg 3 ?_
 refine za6 (v:=quV 7 q pre S2) 3 hS (by decide) rfl rfl .no (po zki zlC) ?_
 refine zvV (n:=S2.length) (by decide) rfl zts ?_
 refine Oi (.b (decide ((S2.length:Int)>0))) ?_
 refine Ni ?_
 refine Ws ?_
 cases S2 with
 | nil =>
  obtain rfl:S1=r:=Option.some.inj hM
  refine zih (e:=decide ((([]:List PointT_).length:Int)>0)) rfl (by decide) ?_
  refine zbb ?_
  refine zam ?_
  refine zaj ?_
  refine zap ?_
  refine Ws ?_
  refine Sq ?_
  refine Rg 2 ?_
  refine za6 (v:=.mp (g+2+0)) 2 hS (by decide) rfl rfl .no (po zmb zn2) ?_
  refine Oa (.mp (g+2+0)) ?_
  refine Ni ?_
  refine Ws ?_
  refine zaM ?_
  exact zvY (j:=(g+2+0)) 4 (.inr rfl) (zau (zae rfl)) hS rfl rfl
 | cons x xs =>
  replace hM:Option.bind (zgp n b al x (S1,xs)) (fun S1=>Option.bind (zbL n b al x n 0 S1) fun S2=>zec n b al m S2)=some r:=hM
  obtain ⟨SA,hSA,hM⟩:=zaf hM
  obtain ⟨SB,hSB,hM⟩:=zaf hM
  refine zl3 (e:=decide (((x::xs).length:Int)>0)) rfl (decide_eq_true (by rw [List.length_cons];omega)) ?_
  refine zav ?_
  refine Ws ?_
  refine zan ?_
  refine Sq ?_
  refine Rg 5 ?_
  refine za6 (v:=quV 7 q pre (x::xs)) 3 hS (by decide) rfl rfl .no (po zki zlC) ?_
  refine ztf (k:=7) (by decide) rfl rfl zkj ?_
  refine zpY (k:=7) (f:=PointT_.cells) hS (by decide) rfl .no zgK (fun _=>rfl) ?_
  refine zbK hS (by decide) zfG (by omega) fun H hS=>?_
  refine za2 (v:=.agg (PointT_.cells x)) (ns:=(PointT_.cells x)) (L':=[(g1+3+3,.cells (PointT_.cells x)),quB PointT_.cells q pre (x::xs),(g+0,.cells (Bag_.cells al)),(g+2+5,.cells [.mp (g+2+0)]),(g+2+7+2,.cells [quV 7 q pre (x::xs)]),(g+2+0,.obj none (zaK (mpw zad zax S1)))]) 0 hS rfl rfl .no rfl rfl zkf nlb rfl fun H hS=>?_
  refine Ni ?_
  refine Ws ?_
  refine Sq ?_
  refine Rg 3 ?_
  refine za6 (v:=quV 7 q pre (x::xs)) 4 hS (by decide) rfl rfl .no (po zki zlC) ?_
  refine zrW (k:=7) (f:=PointT_.cells) (by decide) rfl rfl zkj (fun _=>rfl) ?_
  refine za2 (v:=quV 7 q (pre++x.cells) xs) (ns:=[quV 7 q (pre++x.cells) xs]) (L':=[(g1+3+3,.cells (PointT_.cells x)),quB PointT_.cells q pre (x::xs),(g+0,.cells (Bag_.cells al)),(g+2+5,.cells [.mp (g+2+0)]),(g+2+7+2,.cells [quV 7 q (pre++x.cells) xs]),(g+2+0,.obj none (zaK (mpw zad zax S1)))]) 4 hS rfl rfl .no rfl rfl zmd nlb rfl fun H hS=>?_
  refine Ni ?_
  rw [zv2] at hS
  have hpre1:∀c,c∈pre++x.cells->Go.AM.Pure c:=fun c hc=>by
   rcases List.mem_append.1 hc with hc | hc
   ·exact hpre c hc
   ·exact (show ∀c,c∈(PointT_.cells x)->Go.AM.Pure c from zab (.v _) (zab (.v _) (zab (.v _) (zab (.v _) (zab (.v _) (zab (.v _) (zab (.v _) zaE))))))) c hc
  generalize pre++x.cells=preX at hS hpre1 ⊢
  replace hS:=hS.perm (L':=[quB PointT_.cells q preX xs,(g+0,.cells (Bag_.cells al)),(g+2+5,.cells [.mp (g+2+0)]),(g1+3+3,.cells (PointT_.cells x)),(g+2+7+2,.cells [quV 7 q preX xs]),(g+2+0,.obj none (zaK (mpw zad zax S1)))]) (List.perm_append_comm (l₁:=[_,_,_]) (l₂:=[_]) |>.append_right _)
  refine Ws ?_
  refine Sq ?_
  refine Rg 2 ?_
  refine zha (first:=[]) (cap:=[.ptr (g+0) 0,.ptr (g+2+5) 0,.ptr (g1+3+3) 0,.ptr (g+2+7+2) 0]) (by decide) rfl rfl ?_
  refine Oa (.fn (.func 113) [] [.ptr (g+0) 0,.ptr (g+2+5) 0,.ptr (g1+3+3) 0,.ptr (g+2+7+2) 0]) ?_
  refine Ni ?_
  refine Ws ?_
  refine zaR (J:=zj3×Nat×List AV) (fun j=>[(0,pA Box_.cells a0),(3,.ptr (g+0) 0),(5,.ptr (g+2+5) 0),(6,.ptr (g+2+7+2) 0),(7,.ptr (g1+3+3) 0),(8,.fn (.func 113) [] [.ptr (g+0) 0,.ptr (g+2+5) 0,.ptr (g1+3+3) 0,.ptr (g+2+7+2) 0])]) (fun j H' g'=>St (·<g) H0 [quB PointT_.cells j.2.1 j.2.2 j.1.2,(g+0,.cells (Bag_.cells al)),(g+2+5,.cells [.mp (g+2+0)]),(g1+3+3,.cells (PointT_.cells x)),(g+2+7+2,.cells [quV 7 j.2.1 j.2.2 j.1.2]),(g+2+0,.obj none (zaK (mpw zad zax j.1.1)))] H' g'/\(∀c,c∈j.2.2->Go.AM.Pure c)/\j.1=SA) ?_ ?_
  rotate_left
  ·-- the selection
   refine Sq ?_
   refine Rg 10 ?_
   refine zaT (by decide) zcN rfl ?_
   refine zaT (by decide) zbn rfl ?_
   refine za6 (v:=.i x.Stand.Credit) 3 hS (by decide) rfl rfl .no (po zah zas) ?_
   refine Oi (.b (decide (x.Stand.Credit>0))) ?_
   refine Om (.b (decide (x.Stand.Credit>0))) ?_
   rcases bft (decide (x.Stand.Credit>0)) with hc1 | hc1
   ·replace hSA:=ifT hSA hc1
    refine Oy (want:=true) hc1 ?_
    refine zaT (by decide) zcN rfl ?_
    refine Oy (want:=true) hc1 ?_
    refine zaT (by decide) zc2 rfl ?_
    refine Oy (want:=true) hc1 ?_
    refine za6 (v:=.i x.Stand.Place) 3 hS (by decide) rfl rfl .no (po zah zas) ?_
    refine Oy (want:=true) hc1 ?_
    refine Oi (.b (decide (x.Stand.Place>0))) ?_
    refine Pt (.b (decide (x.Stand.Place>0))) hc1 ?_
    refine Ni ?_
    refine Ws ?_
    rcases bft (decide (x.Stand.Place>0)) with hc2 | hc2
    ·replace hSA:=ifT hSA hc2
     refine Ct hc2 ?_
     refine Sq ?_
     have hS0:=hS
     refine zb7 (n:=19) rfl (by kernel_rfl) ?_
     refine Om (pA Box_.cells a0) ?_
     refine zjs (f:=Box_.cells) (p:=a0) (u:=b) (by decide) rfl hb0 ?_
     refine Of ((Box.cells b.Box)) zfa ?_
     refine Of ((Box.cells b.Box)) zba ?_
     refine Olg (.agg (Wheel.cells b.Box.Wheel)) zbt ?_
     refine zaT (by decide) zcN rfl ?_
     refine zaT (by decide) zc2 rfl ?_
     refine za6 (v:=.i x.Stand.Place) 3 hS (by decide) rfl rfl (.st hS0 3 rfl (by omega)) (po zah zas) ?_
     refine zb4 (cs:=[.i x.Stand.Place,.i 1]) (by decide) zbI zg8 rfl ?_
     refine zaU (es:=[[.i (-1)]]) hS (by decide) zaq zbc rfl za9 rfl (by decide) (by omega) fun H hS=>?_
     obtain ⟨rr,hrr,hSA⟩:=zaf hSA
     refine zat (bs:=[.agg (Wheel.cells b.Box.Wheel),.agg [.i x.Stand.Place,.i 1],.sl (.id (g1+3+5+3+2+10+9)) 1 (([-1]:List Int).map cI)]) (by decide) rfl rfl ((zml hrr).le (.k (.k (.cons (.sl _ _ _) .nil)))) ?_
     refine Om (.tup [.agg (Stand.cells rr.1),.i rr.2.1,.i rr.2.2]) ?_
     refine Ox (.agg (Stand.cells rr.1)) ?_
     refine Ox (.i rr.2.1) ?_
     refine Ox (.i rr.2.2) ?_
     refine zbK hS (by decide) zbI (by omega) fun H hS=>?_
     refine za2 (v:=.agg (Stand.cells rr.1)) (ns:=(Stand.cells rr.1)) (L':=[(g1+3+5+3+2+10+15,.cells (Stand.cells rr.1)),(g1+3+5+3+2+10+9,.row 3 1),quB PointT_.cells q preX xs,(g+0,.cells (Bag_.cells al)),(g+2+5,.cells [.mp (g+2+0)]),(g1+3+3,.cells (PointT_.cells x)),(g+2+7+2,.cells [quV 7 q preX xs]),(g+2+0,.obj none (zaK (mpw zad zax S1)))]) 0 hS rfl rfl (.behind (by kernel_rfl)) rfl rfl zc7 nlb rfl fun H hS=>?_
     refine Oa (.i rr.2.1) ?_
     refine Oa (.i rr.2.2) ?_
     refine Ni ?_
     replace hS:=hS.keep (L':=[(g1+3+5+3+2+10+15,.cells (Stand.cells rr.1)),quB PointT_.cells q preX xs,(g+0,.cells (Bag_.cells al)),(g+2+5,.cells [.mp (g+2+0)]),(g1+3+3,.cells (PointT_.cells x)),(g+2+7+2,.cells [quV 7 q preX xs]),(g+2+0,.obj none (zaK (mpw zad zax S1)))]) [true,false,true,true,true,true,true,true] rfl
     refine za8 (L':=[quB PointT_.cells q preX xs,(g+0,.cells (Bag_.cells al)),(g+2+5,.cells [.mp (g+2+0)]),(g1+3+3,.cells (PointT_.cells x)),(g+2+7+2,.cells [quV 7 q preX xs]),(g+2+0,.obj none (zaK (mpw zad zax S1)))]) 0 9 hS rfl rfl rfl fun H hS=>?_
     refine Ws ?_
     refine Rg 14 ?_
     refine Om (.fn (.func 113) [] [.ptr (g+0) 0,.ptr (g+2+5) 0,.ptr (g1+3+3) 0,.ptr (g+2+7+2) 0]) ?_
     refine Of ((Stand.cells rr.1)) zc2 ?_
     refine Olp (.i rr.1.Place) zah zas ?_
     refine zaT (by decide) zcN rfl ?_
     refine zaT (by decide) zbn rfl ?_
     refine za6 (v:=.i x.Stand.Credit) 3 hS (by decide) rfl rfl .no (po zah zas) ?_
     refine Oi (.i (w64 (x.Stand.Credit-1))) ?_
     refine zb4 (cs:=[.i rr.1.Place,.i (w64 (x.Stand.Credit-1))]) (by decide) zbI zg8 rfl ?_
     refine zaT (by decide) zgh rfl ?_
     refine za6 (v:=.agg (Bag_.cells x.in_)) 3 hS (by decide) rfl rfl .no (pg zeI) ?_
     refine zaT (by decide) zjh rfl ?_
     refine za6 (v:=.i x.bought) 3 hS (by decide) rfl rfl .no (po zah zas) ?_
     refine zb4 (cs:=[.i rr.1.Place,.i (w64 (x.Stand.Credit-1)),.i x.in_.c0,.i x.in_.c1,.i x.in_.c2,.i x.in_.c3,.i x.bought]) (by decide) zfG zlB rfl ?_
     refine zoQ (M:=zn7 al x (g+0) (g+2+5) (g1+3+3) (g+2+7+2) (g+2+0) q preX (S1,xs)) (L:=[]) (.inl rfl) hS (by decide) rfl rfl (zgM hSA hpre1 (show (ids (zn7 al x (g+0) (g+2+5) (g1+3+3) (g+2+7+2) (g+2+0) q preX (S1,xs))).Nodup from hS.nd)) (by omega) ?_
     rintro v M' H g2 ⟨q2,pre2,rfl,rfl,hq2,hpr2⟩ hg2 hS
     have hpre2:∀c,c∈pre2->Go.AM.Pure c:=by rcases hpr2 with rfl | rfl;exact hpre1;exact fun c hc=>by simp at hc
     refine Ni ?_
     exact zak (SA,q2,pre2) (.k (.k (.k (.k (.k (.k .nil)))))) ⟨hS,hpre2,rfl⟩
    ·replace hSA:=ifF hSA hc2
     obtain rfl:=Option.some.inj hSA
     refine Cf hc2 ?_
     refine zav ?_
     exact zak ((S1,xs),q,preX) (.k (.k (.k (.k (.k (.k .nil)))))) ⟨hS.up (by omega),hpre1,rfl⟩
   ·replace hSA:=ifF hSA hc1
    obtain rfl:=Option.some.inj hSA
    refine On (want:=true) hc1 ?_
    refine On (want:=true) hc1 ?_
    refine On (want:=true) hc1 ?_
    refine On (want:=true) hc1 ?_
    refine Pf (.b false) hc1 ?_
    refine Ni ?_
    refine Ws ?_
    refine zih (e:=false) rfl rfl ?_
    refine zav ?_
    exact zak ((S1,xs),q,preX) (.k (.k (.k (.k (.k (.k .nil)))))) ⟨hS.up (by omega),hpre1,rfl⟩
  rintro ⟨SC,q,pre⟩ H g2 ⟨hS,hpre,rfl⟩
  replace hpre:∀c,c∈pre->Go.AM.Pure c:=hpre
  change wpA _ _ _ _ (Fr.of [(0,pA Box_.cells a0),(3,.ptr (g+0) 0),(5,.ptr (g+2+5) 0),(6,.ptr (g+2+7+2) 0),(7,.ptr (g1+3+3) 0),(8,.fn (.func 113) [] [.ptr (g+0) 0,.ptr (g+2+5) 0,.ptr (g1+3+3) 0,.ptr (g+2+7+2) 0])]) _ _
  replace hS:St (·<g) H0 [quB PointT_.cells q pre SC.2,(g+0,.cells (Bag_.cells al)),(g+2+5,.cells [.mp (g+2+0)]),(g1+3+3,.cells (PointT_.cells x)),(g+2+7+2,.cells [quV 7 q pre SC.2]),(g+2+0,.obj none (zaK (mpw zad zax SC.1)))] H g2:=hS
  refine Sq ?_
  refine Rg 8 ?_
  refine Om (pA Box_.cells a0) ?_
  refine zjs (f:=Box_.cells) (p:=a0) (u:=b) (by decide) rfl hb0 ?_
  refine Of ((Box.cells b.Box)) zfa ?_
  refine Of ((Box.cells b.Box)) zba ?_
  refine Of ((Box.cells b.Box)) zcr ?_
  refine Olp (.sl .no 1 (b.Box.Wheel.Coins.map cI)) zao zaB ?_
  refine zbf (n:=b.Box.Wheel.Coins.length) (by decide) rfl (List.length_map _) zaz ?_
  refine Om (.i 0) ?_
  refine Ni ?_
  refine Ws ?_
  refine zan ?_
  refine zbg (V:=Int×zj3×Nat×List AV) (fun v=>[(0,pA Box_.cells a0),(3,.ptr (g+0) 0),(5,.ptr (g+2+5) 0),(6,.ptr (g+2+7+2) 0),(7,.ptr (g1+3+3) 0),(8,.fn (.func 113) [] [.ptr (g+0) 0,.ptr (g+2+5) 0,.ptr (g1+3+3) 0,.ptr (g+2+7+2) 0]),(77,.i (b.Box.Wheel.Coins.length:Int)),(78,.i v.1)]) (fun v k H' g'=>St (·<g) H0 [quB PointT_.cells v.2.2.1 v.2.2.2 v.2.1.2,(g+0,.cells (Bag_.cells al)),(g+2+5,.cells [.mp (g+2+0)]),(g1+3+3,.cells (PointT_.cells x)),(g+2+7+2,.cells [quV 7 v.2.2.1 v.2.2.2 v.2.1.2]),(g+2+0,.obj none (zaK (mpw zad zax v.2.1.1)))] H' g'/\(∀c,c∈v.2.2.2->Go.AM.Pure c)/\zbL n b al x k v.1 v.2.1=some SB) (n:=n) (0,SC,q,pre) (.k (.k (.k (.k (.k (.k (.k (.k .nil)))))))) ⟨hS.up (by omega),hpre,hSB⟩ ?_
  rintro ⟨k,SC,q,pre⟩ m3 H g3 ⟨hS,hpre,hSB⟩
  obtain _ | m3:=m3
  ·exact nomatch (show none=some _ from hSB)
  replace hpre:∀c,c∈pre->Go.AM.Pure c:=hpre
  change wpA _ _ _ _ (Fr.of [(0,pA Box_.cells a0),(3,.ptr (g+0) 0),(5,.ptr (g+2+5) 0),(6,.ptr (g+2+7+2) 0),(7,.ptr (g1+3+3) 0),(8,.fn (.func 113) [] [.ptr (g+0) 0,.ptr (g+2+5) 0,.ptr (g1+3+3) 0,.ptr (g+2+7+2) 0]),(77,.i (b.Box.Wheel.Coins.length:Int)),(78,.i k)]) _ _
  replace hS:St (·<g) H0 [quB PointT_.cells q pre SC.2,(g+0,.cells (Bag_.cells al)),(g+2+5,.cells [.mp (g+2+0)]),(g1+3+3,.cells (PointT_.cells x)),(g+2+7+2,.cells [quV 7 q pre SC.2]),(g+2+0,.obj none (zaK (mpw zad zax SC.1)))] H g3:=hS
  unfold zbL at hSB
  refine Sq ?_
  refine Rg 1 ?_
  refine Oi (.b (decide (k<(b.Box.Wheel.Coins.length:Int)))) ?_
  refine Ni ?_
  refine Ws ?_
  refine Sq ?_
  rcases bft (decide (k<(b.Box.Wheel.Coins.length:Int))) with hk1 | hk1
  rotate_left
  ·replace hSB:=ifF hSB hk1
   obtain rfl:=Option.some.inj hSB
   refine Cf hk1 ?_
   refine zbb ?_
   refine zam ?_
   refine zaj ?_
   refine zap ?_
   refine zag ?_
   exact za0 (SC,q,pre) (Nat.lt_succ_self _) (.k (.k (.k (.k .nil)))) ⟨(hS.keep (L':=[quB PointT_.cells q pre SC.2,(g+0,.cells (Bag_.cells al)),(g+2+5,.cells [.mp (g+2+0)]),(g+2+7+2,.cells [quV 7 q pre SC.2]),(g+2+0,.obj none (zaK (mpw zad zax SC.1)))]) [true,true,true,false,true,true] rfl).up (by omega),hpre,hM⟩
  replace hSB:=ifT hSB hk1
  refine Ct hk1 ?_
  refine zav ?_
  refine Ws ?_
  obtain ⟨e1,he1,hSB⟩:=zaf hSB
  obtain ⟨e2,he2,hSB⟩:=zaf hSB
  refine zaR (J:=zj3×Nat×List AV) (fun j=>[(0,pA Box_.cells a0),(3,.ptr (g+0) 0),(5,.ptr (g+2+5) 0),(6,.ptr (g+2+7+2) 0),(7,.ptr (g1+3+3) 0),(8,.fn (.func 113) [] [.ptr (g+0) 0,.ptr (g+2+5) 0,.ptr (g1+3+3) 0,.ptr (g+2+7+2) 0]),(77,.i (b.Box.Wheel.Coins.length:Int)),(78,.i k)]) (fun j H' g'=>St (·<g) H0 [quB PointT_.cells j.2.1 j.2.2 j.1.2,(g+0,.cells (Bag_.cells al)),(g+2+5,.cells [.mp (g+2+0)]),(g1+3+3,.cells (PointT_.cells x)),(g+2+7+2,.cells [quV 7 j.2.1 j.2.2 j.1.2]),(g+2+0,.obj none (zaK (mpw zad zax j.1.1)))] H' g'/\(∀c,c∈j.2.2->Go.AM.Pure c)/\zbL n b al x m3 (w64 (k+1)) j.1=some SB) ?_ ?_
  ·rintro ⟨SD,q4,pre4⟩ H g4 ⟨hS,hpre4,hSB⟩
   change wpA _ _ _ _ (Fr.of [(0,pA Box_.cells a0),(3,.ptr (g+0) 0),(5,.ptr (g+2+5) 0),(6,.ptr (g+2+7+2) 0),(7,.ptr (g1+3+3) 0),(8,.fn (.func 113) [] [.ptr (g+0) 0,.ptr (g+2+5) 0,.ptr (g1+3+3) 0,.ptr (g+2+7+2) 0]),(77,.i (b.Box.Wheel.Coins.length:Int)),(78,.i k)]) _ _
   refine Rg 2 ?_
   refine Oi (.i (w64 (k+1))) ?_
   refine Om (.i (w64 (k+1))) ?_
   refine Ni ?_
   exact za0 (w64 (k+1),SD,q4,pre4) (Nat.lt_succ_self _) (.k (.k (.k (.k (.k (.k (.k (.k .nil)))))))) ⟨hS.up (by omega),hpre4,hSB⟩
  refine zan ?_
  refine Sq ?_
  refine Rg 2 ?_
  refine Om (.i k) ?_
  refine Oa (.i k) ?_
  refine Ni ?_
  refine Ws ?_
  refine Sq ?_
  refine Sq ?_
  have hS0:=hS
  refine zb7 (n:=8) rfl (by kernel_rfl) ?_
  refine Om (.i k) ?_
  refine zaT (by decide) zgh rfl ?_
  refine zin (z:=k) (by decide) rfl rfl zhn (ziv he1) ?_
  refine znT (xs:=([x.in_.c0,x.in_.c1,x.in_.c2,x.in_.c3]:List Int)) (z:=k) (u:=e1) (off:=0+2) 3 hS (by decide) rfl rfl (.st hS0 3 rfl (by omega)) rfl he1 zah zas ?_
  refine Om (.i k) ?_
  refine zin (z:=k) (by decide) rfl rfl zhn (ziv he2) ?_
  refine znT (xs:=([al.c0,al.c1,al.c2,al.c3]:List Int)) (z:=k) (u:=e2) (off:=0) 1 hS (by decide) rfl rfl (.st hS0 1 rfl (by omega)) rfl he2 zah zas ?_
  refine Oi (.b (e1==e2)) ?_
  refine Ni ?_
  refine Ws ?_
  rcases bft (e1==e2) with he | he
  ·replace hSB:=ifT hSB he
   refine Ct he ?_
   refine zbb ?_
   refine zam ?_
   refine zap ?_
   exact zak (SC,q,pre) (.k (.k (.k (.k (.k (.k (.k (.k .nil)))))))) ⟨hS.up (by omega),hpre,hSB⟩
  replace hSB:=ifF hSB he
  refine Cf he ?_
  refine zav ?_
  refine Ws ?_
  obtain ⟨rr,hrr,hSB⟩:=zaf hSB
  obtain ⟨u,hu,hSB⟩:=zaf hSB
  obtain ⟨SD,hSD,hSB⟩:=zaf hSB
  refine Sq ?_
  have hS0:=hS
  refine zb7 (n:=20) rfl (by kernel_rfl) ?_
  refine Om (pA Box_.cells a0) ?_
  refine zjs (f:=Box_.cells) (p:=a0) (u:=b) (by decide) rfl hb0 ?_
  refine Of ((Box.cells b.Box)) zfa ?_
  refine Of ((Box.cells b.Box)) zba ?_
  refine Olg (.agg (Wheel.cells b.Box.Wheel)) zbt ?_
  refine zaT (by decide) zcN rfl ?_
  refine zaT (by decide) zc2 rfl ?_
  refine za6 (v:=.i x.Stand.Place) 3 hS (by decide) rfl rfl (.st hS0 3 rfl (by omega)) (po zah zas) ?_
  refine zb4 (cs:=[.i x.Stand.Place,.i 0]) (by decide) zbI zg8 rfl ?_
  refine Om (.i k) ?_
  refine zaU (es:=[[.i k]]) hS (by decide) zaq zbc rfl za9 rfl (by decide) (by omega) fun H hS=>?_
  refine zat (bs:=[.agg (Wheel.cells b.Box.Wheel),.agg [.i x.Stand.Place,.i 0],.sl (.id (g3+1+2+8+10)) 1 (([k]:List Int).map cI)]) (by decide) rfl rfl ((zml hrr).le (.k (.k (.cons (.sl _ _ _) .nil)))) ?_
  refine Om (.tup [.agg (Stand.cells rr.1),.i rr.2.1,.i rr.2.2]) ?_
  refine Ox (.agg (Stand.cells rr.1)) ?_
  refine Ox (.i rr.2.1) ?_
  refine Ox (.i rr.2.2) ?_
  refine zbK hS (by decide) zbI (by omega) fun H hS=>?_
  refine za2 (v:=.agg (Stand.cells rr.1)) (ns:=(Stand.cells rr.1)) (L':=[(g3+1+2+8+16,.cells (Stand.cells rr.1)),(g3+1+2+8+10,.row 3 1),quB PointT_.cells q pre SC.2,(g+0,.cells (Bag_.cells al)),(g+2+5,.cells [.mp (g+2+0)]),(g1+3+3,.cells (PointT_.cells x)),(g+2+7+2,.cells [quV 7 q pre SC.2]),(g+2+0,.obj none (zaK (mpw zad zax SC.1)))]) 0 hS rfl rfl (.behind (by kernel_rfl)) rfl rfl zc7 nlb rfl fun H hS=>?_
  refine Oa (.i rr.2.1) ?_
  refine Oa (.i rr.2.2) ?_
  refine Ni ?_
  replace hS:=hS.keep (L':=[(g3+1+2+8+16,.cells (Stand.cells rr.1)),quB PointT_.cells q pre SC.2,(g+0,.cells (Bag_.cells al)),(g+2+5,.cells [.mp (g+2+0)]),(g1+3+3,.cells (PointT_.cells x)),(g+2+7+2,.cells [quV 7 q pre SC.2]),(g+2+0,.obj none (zaK (mpw zad zax SC.1)))]) [true,false,true,true,true,true,true,true] rfl
  refine za8 (L':=[quB PointT_.cells q pre SC.2,(g+0,.cells (Bag_.cells al)),(g+2+5,.cells [.mp (g+2+0)]),(g1+3+3,.cells (PointT_.cells x)),(g+2+7+2,.cells [quV 7 q pre SC.2]),(g+2+0,.obj none (zaK (mpw zad zax SC.1)))]) 0 13 hS rfl rfl rfl fun H hS=>?_
  refine Ws ?_
  refine Sq ?_
  refine Rg 19 ?_
  refine Of ((Stand.cells rr.1)) zc2 ?_
  refine Olp (.i rr.1.Place) zah zas ?_
  refine zaT (by decide) zcN rfl ?_
  refine zaT (by decide) zbn rfl ?_
  refine za6 (v:=.i x.Stand.Credit) 3 hS (by decide) rfl rfl .no (po zah zas) ?_
  refine Of ((Stand.cells rr.1)) zbn ?_
  refine Olp (.i rr.1.Credit) zah zas ?_
  refine Oi (.i (w64 (x.Stand.Credit+rr.1.Credit))) ?_
  refine zb4 (cs:=[.i rr.1.Place,.i (w64 (x.Stand.Credit+rr.1.Credit))]) (by decide) zbI zg8 rfl ?_
  refine zaT (by decide) zgh rfl ?_
  refine za6 (v:=.agg (Bag_.cells x.in_)) 3 hS (by decide) rfl rfl .no (pg zeI) ?_
  refine zaT (by decide) zjh rfl ?_
  refine za6 (v:=.i x.bought) 3 hS (by decide) rfl rfl .no (po zah zas) ?_
  refine Of ((Stand.cells rr.1)) zbn ?_
  refine Olp (.i rr.1.Credit) zah zas ?_
  refine Oi (.i (w64 (x.bought+rr.1.Credit))) ?_
  refine zb4 (cs:=[.i rr.1.Place,.i (w64 (x.Stand.Credit+rr.1.Credit)),.i x.in_.c0,.i x.in_.c1,.i x.in_.c2,.i x.in_.c3,.i (w64 (x.bought+rr.1.Credit))]) (by decide) zfG zlB rfl ?_
  refine zbK hS (by decide) zfG (by omega) fun H hS=>?_
  refine za2 (v:=.agg [.i rr.1.Place,.i (w64 (x.Stand.Credit+rr.1.Credit)),.i x.in_.c0,.i x.in_.c1,.i x.in_.c2,.i x.in_.c3,.i (w64 (x.bought+rr.1.Credit))]) (ns:=[.i rr.1.Place,.i (w64 (x.Stand.Credit+rr.1.Credit)),.i x.in_.c0,.i x.in_.c1,.i x.in_.c2,.i x.in_.c3,.i (w64 (x.bought+rr.1.Credit))]) (L':=[(g3+1+2+8+20+17,.cells [.i rr.1.Place,.i (w64 (x.Stand.Credit+rr.1.Credit)),.i x.in_.c0,.i x.in_.c1,.i x.in_.c2,.i x.in_.c3,.i (w64 (x.bought+rr.1.Credit))]),quB PointT_.cells q pre SC.2,(g+0,.cells (Bag_.cells al)),(g+2+5,.cells [.mp (g+2+0)]),(g1+3+3,.cells (PointT_.cells x)),(g+2+7+2,.cells [quV 7 q pre SC.2]),(g+2+0,.obj none (zaK (mpw zad zax SC.1)))]) 0 hS rfl rfl .no rfl rfl zkf nlb rfl fun H hS=>?_
  refine Ni ?_
  refine Ws ?_
  refine Sq ?_
  refine Rg 8 ?_
  refine Om (.i k) ?_
  refine zaT (by decide) zgh rfl ?_
  refine zin (z:=k) (by decide) rfl rfl zhn (ziv he1) ?_
  refine znT (xs:=([x.in_.c0,x.in_.c1,x.in_.c2,x.in_.c3]:List Int)) (z:=k) (u:=e1) (off:=0+2) 0 hS (by decide) rfl rfl .no rfl he1 zah zas ?_
  refine Oi (.i (w64 (e1+1))) ?_
  refine zaT (by decide) zgh rfl ?_
  refine zin (z:=k) (by decide) rfl rfl zhn (ziv he1) ?_
  refine znU (xs:=([x.in_.c0,x.in_.c1,x.in_.c2,x.in_.c3]:List Int)) (u:=u) (z:=k) (v:=(w64 (e1+1))) (off:=0+2) (cs':=[.i rr.1.Place,.i (w64 (x.Stand.Credit+rr.1.Credit)),.i (u.getD 0 0),.i (u.getD 1 0),.i (u.getD 2 0),.i (u.getD 3 0),.i (w64 (x.bought+rr.1.Credit))]) (L':=[(g3+1+2+8+20+17,.cells [.i rr.1.Place,.i (w64 (x.Stand.Credit+rr.1.Credit)),.i (u.getD 0 0),.i (u.getD 1 0),.i (u.getD 2 0),.i (u.getD 3 0),.i (w64 (x.bought+rr.1.Credit))]),quB PointT_.cells q pre SC.2,(g+0,.cells (Bag_.cells al)),(g+2+5,.cells [.mp (g+2+0)]),(g1+3+3,.cells (PointT_.cells x)),(g+2+7+2,.cells [quV 7 q pre SC.2]),(g+2+0,.obj none (zaK (mpw zad zax SC.1)))]) 0 hS rfl rfl .no rfl rfl hu ziR rfl rfl fun H hS=>?_
  refine Ni ?_
  replace hS:=hS.perm (L':=[quB PointT_.cells q pre SC.2,(g+0,.cells (Bag_.cells al)),(g+2+5,.cells [.mp (g+2+0)]),(g1+3+3,.cells (PointT_.cells x)),(g+2+7+2,.cells [quV 7 q pre SC.2]),(g+2+0,.obj none (zaK (mpw zad zax SC.1))),(g3+1+2+8+20+17,.cells [.i rr.1.Place,.i (w64 (x.Stand.Credit+rr.1.Credit)),.i (u.getD 0 0),.i (u.getD 1 0),.i (u.getD 2 0),.i (u.getD 3 0),.i (w64 (x.bought+rr.1.Credit))])]) (List.perm_append_comm (l₁:=[_,_,_,_,_,_]) (l₂:=[_]))
  refine Ws ?_
  refine Rg 4 ?_
  refine Om (.fn (.func 113) [] [.ptr (g+0) 0,.ptr (g+2+5) 0,.ptr (g1+3+3) 0,.ptr (g+2+7+2) 0]) ?_
  refine Om (.i k) ?_
  refine za6 (v:=.agg [.i rr.1.Place,.i (w64 (x.Stand.Credit+rr.1.Credit)),.i (u.getD 0 0),.i (u.getD 1 0),.i (u.getD 2 0),.i (u.getD 3 0),.i (w64 (x.bought+rr.1.Credit))]) 6 hS (by decide) rfl rfl .no (pg zgK) ?_
  refine zoQ (M:=zn7 al x (g+0) (g+2+5) (g1+3+3) (g+2+7+2) (g+2+0) q pre SC) (L:=[(g3+1+2+8+20+17,.cells [.i rr.1.Place,.i (w64 (x.Stand.Credit+rr.1.Credit)),.i (u.getD 0 0),.i (u.getD 1 0),.i (u.getD 2 0),.i (u.getD 3 0),.i (w64 (x.bought+rr.1.Credit))])]) (.inl rfl) hS (by decide) rfl rfl (zgM hSD hpre (show (ids (zn7 al x (g+0) (g+2+5) (g1+3+3) (g+2+7+2) (g+2+0) q pre SC)).Nodup from (hS.keep (L':=zn7 al x (g+0) (g+2+5) (g1+3+3) (g+2+7+2) (g+2+0) q pre SC) [true,true,true,true,true,true,false] rfl).nd)) (by omega) ?_
  rintro v M' H g4 ⟨q4,pre4,rfl,rfl,hq4,hpr4⟩ hg4 hS
  have hpre4:∀c,c∈pre4->Go.AM.Pure c:=by rcases hpr4 with rfl | rfl;exact hpre;exact fun c hc=>by simp at hc
  refine Ni ?_
  refine zag ?_
  exact zak (SD,q4,pre4) (.k (.k (.k (.k (.k (.k (.k (.k .nil)))))))) ⟨hS.keep (L':=zn7 al x (g+0) (g+2+5) (g1+3+3) (g+2+7+2) (g+2+0) q4 pre4 SD) [true,true,true,true,true,true,false] rfl,hpre4,hSB⟩
theorem zgi {n:Nat} {a0:Option Box_} {r:Bag_} (hM:zeC n a0=some r):zaC Tryz.prog 87 [pA Box_.cells a0] (.agg [.i r.c0,.i r.c1,.i r.c2,.i r.c3]):=by
 refine zal mixed Tryz.func87 rfl (by decide) Tryz.ntmps87 (by simp) ?pure fun H0 g hf=>?_
 case pure=>exact .agg _ (zab (.v _) (zab (.v _) (zab (.v _) (zab (.v _) zaE))))
 rw [zai]
 change wpA _ _ _ _ (Fr.of [(0,pA Box_.cells a0)]) H0 g
 have hS:=St.start hf
 refine Sq ?_
 refine Rg 1 ?_
 refine zbK hS (by decide) zkW (by omega) fun H hS=>?_
 refine Ni ?_
 refine Ws ?_
 refine Sq ?_
 refine Rg 1 ?_
 refine zbK hS (by decide) zkW (by omega) fun H hS=>?_
 refine Ni ?_
 refine Ws ?_
 refine zaR (J:=Int×Int×Int×Int) (fun j=>[(2,.ptr (g+0) 0),(3,.ptr (g+1+0) 0)]) (fun j H' g'=>St (·<g) H0 [(g+1+0,.cells [.i j.1,.i j.2.1,.i j.2.2.1,.i j.2.2.2]),(g+0,.cells [.i 0,.i 0,.i 0,.i 0])] H' g'/\zek j.1 j.2.1 j.2.2.1 j.2.2.2=some r) ?_ ?_
 ·rintro ⟨v1,v2,v3,v4⟩ H g1 ⟨hS,hM⟩
  change wpA _ _ _ _ (Fr.of [(2,.ptr (g+0) 0),(3,.ptr (g+1+0) 0)]) _ _
  replace hS:St (·<g) H0 [(g+1+0,.cells [.i v1,.i v2,.i v3,.i v4]),(g+0,.cells [.i 0,.i 0,.i 0,.i 0])] H g1:=hS
  replace hM:zek v1 v2 v3 v4=some r:=hM
  refine Sq ?_
  refine Rg 2 ?_
  refine za6 (v:=.agg [.i v1,.i v2,.i v3,.i v4]) 0 hS (by decide) rfl rfl .no (pg zeI) ?_
  refine za2 (v:=.agg [.i v1,.i v2,.i v3,.i v4]) (ns:=[.i v1,.i v2,.i v3,.i v4]) (L':=[(g+1+0,.cells [.i v1,.i v2,.i v3,.i v4]),(g+0,.cells [.i v1,.i v2,.i v3,.i v4])]) 1 hS rfl rfl .no rfl rfl zoT nlb rfl fun H hS=>?_
  refine Ni ?_
  replace hS:=hS.keep (L':=[(g+0,.cells [.i v1,.i v2,.i v3,.i v4])]) [false,true] rfl
  refine Ws ?_
  refine zaM ?_
  refine zaX (x:=.agg [.i v1,.i v2,.i v3,.i v4]) (f:=fun r=>.agg [.i r.c0,.i r.c1,.i r.c2,.i r.c3]) (.inr rfl) ?_ (.refl _) (Option.some.inj hM) hS
  exact (zau (zdy (x:=.agg [.i v1,.i v2,.i v3,.i v4]) 0 hS rfl rfl (pg zeI)))
 ·refine Sq ?_
  refine Rg 7 ?_
  refine Om (pA Box_.cells a0) ?_
  obtain ⟨x5,hx5,hM⟩:=zaf hM
  refine zjs (f:=Box_.cells) (p:=a0) (u:=x5) (by decide) rfl hx5 ?_
  refine Of ((Box.cells x5.Box)) zfa ?_
  refine Of ((Box.cells x5.Box)) zch ?_
  refine Olp (.sl .no 1 (x5.Box.Found.map cI)) zao zaB ?_
  refine zbf (n:=x5.Box.Found.length) (by decide) rfl (List.length_map _) zaz ?_
  refine Om (.i 0) ?_
  refine Ni ?_
  refine Ws ?_
  refine zan ?_
  refine zbg (V:=Int×Int×Int×Int×Int) (fun v=>[(0,pA Box_.cells a0),(2,.ptr (g+0) 0),(3,.ptr (g+1+0) 0),(10,.sl .no 1 (x5.Box.Found.map cI)),(11,.i (x5.Box.Found.length:Int)),(12,.i v.1)]) (fun v m3 H' g'=>St (·<g) H0 [(g+1+0,.cells [.i v.2.1,.i v.2.2.1,.i v.2.2.2.1,.i v.2.2.2.2]),(g+0,.cells [.i 0,.i 0,.i 0,.i 0])] H' g'/\zcb a0 x5 m3 v.1 v.2.1 v.2.2.1 v.2.2.2.1 v.2.2.2.2=some r) (n:=n) (0,0,0,0,0) (.k (.k (.k (.k (.k (.k .nil)))))) ⟨(hS.keep [true,true] rfl).up (by omega),hM⟩ ?_
  rintro ⟨v7,v8,v9,v10,v11⟩ m3 H g3 ⟨hS,hM⟩
  obtain _ | m3:=m3
  ·exact nomatch (show none=some _ from hM)
  change wpA _ _ _ _ (Fr.of [(0,pA Box_.cells a0),(2,.ptr (g+0) 0),(3,.ptr (g+1+0) 0),(10,.sl .no 1 (x5.Box.Found.map cI)),(11,.i (x5.Box.Found.length:Int)),(12,.i v7)]) _ _
  replace hS:St (·<g) H0 [(g+1+0,.cells [.i v8,.i v9,.i v10,.i v11]),(g+0,.cells [.i 0,.i 0,.i 0,.i 0])] H g3:=hS
  replace hM:zdB a0 x5 (zcb a0 x5 m3) v7 v8 v9 v10 v11=some r:=hM
  refine Sq ?_
  refine Rg 1 ?_
  refine Oi (.b (decide (v7<(x5.Box.Found.length:Int)))) ?_
  refine Ni ?_
  refine Ws ?_
  refine Sq ?_
  rcases bft (decide (v7<(x5.Box.Found.length:Int))) with hb12 | hb12
  ·replace hM:=ifT hM hb12
   refine Ct hb12 ?_
   refine zav ?_
   refine Ws ?_
   refine Sq ?_
   refine zan ?_
   refine Sq ?_
   refine Rg 5 ?_
   refine Om (.i v7) ?_
   obtain ⟨x13,hx13,hM⟩:=zaf hM
   refine zaG (xs:=x5.Box.Found) (f:=cI) (z:=v7) (u:=x13) (by decide) rfl rfl zaq hx13 ?_
   refine Olp (.i x13) zah zas ?_
   refine Oa (.i v7) ?_
   refine Oa (.i x13) ?_
   refine Ni ?_
   refine Ws ?_
   refine Rg 13 ?_
   refine Om (.i v7) ?_
   refine Om (.i x13) ?_
   refine Om (pA Box_.cells a0) ?_
   obtain ⟨x14,hx14,hM⟩:=zaf hM
   refine zjs (f:=Box_.cells) (p:=a0) (u:=x14) (by decide) rfl hx14 ?_
   refine Of ((Box.cells x14.Box)) zfa ?_
   refine Of ((Box.cells x14.Box)) zea ?_
   refine Olp (.sl .no 1 (x14.Box.Slugs.map cI)) zao zaB ?_
   refine Om (.i v7) ?_
   obtain ⟨x15,hx15,hM⟩:=zaf hM
   refine zaG (xs:=x14.Box.Slugs) (f:=cI) (z:=v7) (u:=x15) (by decide) rfl rfl zaq hx15 ?_
   refine Olp (.i x15) zah zas ?_
   refine Oi (.i (w64 (x13+x15))) ?_
   obtain ⟨x16,hx16,hM⟩:=zaf hM
   refine zin (z:=v7) (by decide) rfl rfl zhn (ziv hx16) ?_
   obtain ⟨l17,hl17,hM⟩:=zaf hM
   refine znU (xs:=([v8,v9,v10,v11]:List Int)) (u:=l17) (z:=v7) (v:=(w64 (x13+x15))) (off:=0) (cs':=[.i (l17.getD 0 0),.i (l17.getD 1 0),.i (l17.getD 2 0),.i (l17.getD 3 0)]) (L':=[(g+1+0,.cells [.i (l17.getD 0 0),.i (l17.getD 1 0),.i (l17.getD 2 0),.i (l17.getD 3 0)]),(g+0,.cells [.i 0,.i 0,.i 0,.i 0])]) 0 hS rfl rfl .no rfl rfl hl17 ziR rfl rfl fun H hS=>?_
   refine Ni ?_
   refine zag ?_
   refine Ws ?_
   refine Rg 2 ?_
   refine Oi (.i (w64 (v7+1))) ?_
   refine Om (.i (w64 (v7+1))) ?_
   refine Ni ?_
   exact za0 (w64 (v7+1),(l17.getD 0 0),(l17.getD 1 0),(l17.getD 2 0),(l17.getD 3 0)) (Nat.lt_succ_self _) (.k (.k (.k (.k (.k (.k .nil)))))) ⟨(hS.keep [true,true] rfl).up (by omega),hM⟩
  ·replace hM:=ifF hM hb12
   refine Cf hb12 ?_
   refine zbb ?_
   refine zam ?_
   refine zaj ?_
   refine zap ?_
   exact zak (v8,v9,v10,v11) (.k (.k .nil)) ⟨(hS.keep [true,true] rfl).up (by omega),hM⟩
def zr9 (xs ys:List Int) (i:Nat):Prop:=ys.length=xs.length/\∀k,k<xs.length->ys[k]?=if k<i\/xs.length<=k+i then xs[xs.length-1-k]? else xs[k]?
theorem ztz (xs:List Int):zr9 xs xs 0:=⟨rfl,fun k hk=>by rw [if_neg (by omega)]⟩
theorem zwa {xs ys:List Int} {i:Nat} (h:zr9 xs ys i) (hi:xs.length<=2*i+1):ys=xs.reverse:=by
 apply List.ext_getElem?
 intro k
 by_cases hk:k<xs.length
 ·rw [h.2 k hk,List.getElem?_reverse hk]
  split
  ·rfl
  ·congr 1
   omega
 ·rw [List.getElem?_eq_none (by rw [h.1];omega),List.getElem?_eq_none (by rw [List.length_reverse];omega)]
theorem zuM {xs ys:List Int} {i:Nat} (h:zr9 xs ys i) (hi:2*i+1<xs.length) {a b:Int} (ha:ys[xs.length-1-i]?=some a) (hb:ys[i]?=some b):zr9 xs ((ys.set i a).set (xs.length-1-i) b) (i+1):=by
 have ha2:=h.2 (xs.length-1-i) (by omega)
 rw [if_neg (by omega)] at ha2
 have hb2:=h.2 i (by omega)
 rw [if_neg (by omega)] at hb2
 refine ⟨by simp [h.1],fun k hk=>?_⟩
 by_cases h1:k=xs.length-1-i
 ·subst h1
  rw [List.getElem?_set_self (by simp [h.1];omega),if_pos (by omega),←hb,hb2]
  congr 1
  omega
 ·rw [List.getElem?_set_ne (fun e=>h1 e.symm)]
  by_cases h2:k=i
  ·subst h2
   rw [List.getElem?_set_self (by rw [h.1];omega),if_pos (by omega),←ha,ha2]
  ·rw [List.getElem?_set_ne (fun e=>h2 e.symm),h.2 k hk]
   by_cases h3:k<i\/xs.length<=k+i
   ·rw [if_pos h3,if_pos (by omega)]
   ·rw [if_neg h3,if_neg (by omega)]
theorem zjo {xs:List Int} {j:Nat} (hx:xs≠[]) (hl:xs.length<=1048576):zjT Tryz.prog 116 [.ms j 0 1 xs.length xs.length] j (xs.map cI).flatten (.tup []) (xs.reverse.map cI).flatten:=by
 refine zrP mixed Tryz.func116 rfl (by decide) Tryz.ntmps116 (by simp) (fun H _=>.tup _ fun c hc=>by simp at hc) (zs7 (fun x=>(zab (.v _) zaE)) _) fun H0 g hf hp=>?_
 rw [zai]
 have hn0:xs.length≠0:=fun e=>hx (List.length_eq_zero_iff.1 e)
 have hms:AV.ms j 0 1 xs.length xs.length=msn j 1 xs.length:=by unfold msn;rw [if_neg hn0]
 rw [hms]
 have hTn:∀ys:List Int,ys.length=xs.length->ziP j xs.length (ys.map cI)=[(j,.cells (ys.map cI).flatten)]:=fun ys hy=>by
  unfold ziP zhM
  rw [if_pos (by rw [List.length_map];exact hy),if_neg (fun e=>by rw [List.map_eq_nil_iff] at e;subst e;exact hn0 hy.symm)]
 change wpA _ _ _ _ (Fr.of [(0,msn j 1 xs.length)]) H0 g
 have hS:=St.startP hf hp
 replace hS:St (fun i=>i<g/\i≠j) H0 ([]++ziP j xs.length (xs.map cI)) H0 g:=by rw [List.nil_append,hTn xs rfl];exact hS
 refine Sq ?_
 refine Rg 5 ?_
 refine Om (msn j 1 xs.length) ?_
 refine zw2 (by decide) rfl zaz ?_
 refine zoM (v:=.i ((xs.length:Int)-1)) (by decide) rfl rfl (by show some (AV.i (w64 ((xs.length:Int)-1)))=_;rw [zaF (by omega) (by omega)]) ?_
 refine Oa (.i 0) ?_
 refine Oa (.i ((xs.length:Int)-1)) ?_
 refine Ni ?_
 refine Ws ?_
 refine zan ?_
 refine zbg (V:=Nat×List Int) (fun v=>[(0,msn j 1 xs.length),(2,.i (v.1:Int)),(3,.i ((xs.length:Int)-1-(v.1:Int)))]) (fun v k H' g'=>St (fun i=>i<g/\i≠j) H0 ([]++ziP j xs.length (v.2.map cI)) H' g'/\zr9 xs v.2 v.1/\k=xs.length-v.1) (n:=xs.length) (0,xs) (.k (.k (.cons (by show Le _ (AV.i ((xs.length:Int)-1));rw [show ((xs.length:Int)-1-((0:Nat):Int))=(xs.length:Int)-1 by omega];exact .refl _) .nil))) ⟨hS.up (by omega),ztz xs,by omega⟩ ?_
 rintro ⟨p,ys⟩ k H g1 ⟨hS,hR,hk⟩
 change wpA _ _ _ _ (Fr.of [(0,msn j 1 xs.length),(2,.i (p:Int)),(3,.i ((xs.length:Int)-1-(p:Int)))]) _ _
 replace hS:St (fun i=>i<g/\i≠j) H0 ([]++ziP j xs.length (ys.map cI)) H g1:=hS
 replace hR:zr9 xs ys p:=hR
 replace hk:k=xs.length-p:=hk
 refine Sq ?_
 refine Sq ?_
 refine Rg 3 ?_
 refine Om (.i (p:Int)) ?_
 refine Om (.i ((xs.length:Int)-1-(p:Int))) ?_
 refine Oi (.b (decide ((p:Int)<(xs.length:Int)-1-(p:Int)))) ?_
 refine Ni ?_
 refine Ws ?_
 rcases bft (decide ((p:Int)<(xs.length:Int)-1-(p:Int))) with hb | hb
 rotate_left
 ·refine Cf hb ?_
  refine zbb ?_
  refine zam ?_
  refine zaj ?_
  refine zap ?_
  have hb:=of_decide_eq_false hb
  obtain rfl:=zwa hR (by omega)
  refine ⟨.inl rfl,⟨_,rfl,.refl _⟩,fun i hi=>(hS.old i hi).2,?_⟩
  rw [List.nil_append,hTn _ (List.length_reverse)] at hS
  exact hS.get (n:=0) rfl
 have hb2:=of_decide_eq_true hb
 have hlt:2*p+1<xs.length:=by omega
 obtain ⟨a,ha⟩:∃a,ys[xs.length-1-p]?=some a:=⟨_,List.getElem?_eq_getElem (by rw [hR.1];omega)⟩
 obtain ⟨c,hc⟩:∃c,ys[p]?=some c:=⟨_,List.getElem?_eq_getElem (by rw [hR.1];omega)⟩
 have ez:((xs.length:Int)-1-(p:Int)).toNat=xs.length-1-p:=by omega
 have hia:idx ys ((xs.length:Int)-1-(p:Int))=some a:=by unfold idx;rw [if_pos (by omega),ez];exact ha
 have hic:idx ys (p:Int)=some c:=by unfold idx;rw [if_pos (by omega)];exact hc
 refine Ct hb ?_
 refine zav ?_
 refine Ws ?_
 refine Sq ?_
 refine zan ?_
 have hS0:=hS
 refine zb7 (n:=16) rfl (by kernel_rfl) ?_
 refine Om (msn j 1 xs.length) ?_
 refine Om (.i (p:Int)) ?_
 refine Om (msn j 1 xs.length) ?_
 refine Om (.i ((xs.length:Int)-1-(p:Int))) ?_
 refine Om (msn j 1 xs.length) ?_
 refine Om (.i ((xs.length:Int)-1-(p:Int))) ?_
 refine zjf (xs:=ys) (f:=cI) (z:=((xs.length:Int)-1-(p:Int))) (u:=a) hS (by decide) rfl rfl zaq hia ?_
 refine zpV (xs:=ys) (z:=((xs.length:Int)-1-(p:Int))) (u:=a) hS (by decide) rfl hia (.tl hS0 hia (by omega)) zah zas ?_
 refine Om (msn j 1 xs.length) ?_
 refine Om (.i (p:Int)) ?_
 refine zjf (xs:=ys) (f:=cI) (z:=(p:Int)) (u:=c) hS (by decide) rfl rfl zaq hic ?_
 refine zpV (xs:=ys) (z:=(p:Int)) (u:=c) hS (by decide) rfl hic (.tl hS0 hic (by omega)) zah zas ?_
 refine zjf (xs:=ys) (f:=cI) (z:=(p:Int)) (u:=c) hS (by decide) rfl rfl zaq hic ?_
 refine znS (xs:=ys) (z:=(p:Int)) (u:=c) (v:=a) hS rfl hic (.tl hS0 hic (by omega)) rfl ziR fun H hS=>?_
 have hia2:idx (ys.set (p:Int).toNat a) ((xs.length:Int)-1-(p:Int))=some a:=by
  unfold idx
  rw [if_pos (by omega),ez,Int.toNat_natCast,List.getElem?_set_ne (by omega)]
  exact ha
 refine zjf (xs:=(ys.set (p:Int).toNat a)) (f:=cI) (z:=((xs.length:Int)-1-(p:Int))) (u:=a) hS (by decide) rfl rfl zaq hia2 ?_
 refine znS (xs:=(ys.set (p:Int).toNat a)) (z:=((xs.length:Int)-1-(p:Int))) (u:=a) (v:=c) hS rfl hia2 (.tl hS0 hia (by omega)) rfl ziR fun H hS=>?_
 refine Ni ?_
 refine zag ?_
 refine Ws ?_
 refine Rg 6 ?_
 refine Om (.i (p:Int)) ?_
 refine zoM (v:=.i ((p+1:Nat):Int)) (by decide) rfl rfl (by show some (AV.i (w64 ((p:Int)+1)))=_;rw [zaF (by omega) (by omega)];rfl) ?_
 refine Om (.i ((xs.length:Int)-1-(p:Int))) ?_
 refine zoM (v:=.i ((xs.length:Int)-1-((p+1:Nat):Int))) (by decide) rfl rfl (by show some (AV.i (w64 ((xs.length:Int)-1-(p:Int)-1)))=_;rw [zaF (by omega) (by omega)];exact congrArg (fun z:Int=>some (AV.i z)) (by omega)) ?_
 refine Oa (.i ((p+1:Nat):Int)) ?_
 refine Oa (.i ((xs.length:Int)-1-((p+1:Nat):Int))) ?_
 refine Ni ?_
 refine za0 (p+1,(ys.set (p:Int).toNat a).set ((xs.length:Int)-1-(p:Int)).toNat c) (m:=xs.length-(p+1)) (by omega) (.k (.k (.k .nil))) ⟨hS.up (by omega),?_,rfl⟩
 rw [ez,Int.toNat_natCast]
 exact zuM hR hlt ha hc
theorem zsa {κ ν:Type} [DecidableEq κ] {ok:κ->Bool} {z:ν} {M M':List (κ×ν)} (h:M.Perm M') (k:κ):zhV ok z M k=zhV ok z M' k:=by
 have e:mok ok M k=mok ok M' k:=by
  unfold mok
  rw [Bool.eq_iff_iff]
  simp only [Bool.and_eq_true,List.all_eq_true,decide_eq_true_eq]
  rw [(h.map (·.1)).nodup_iff]
  simp only [h.mem_iff]
 unfold zhV
 rw [e]
 by_cases hk:mok ok M' k=true
 ·rw [if_pos hk,if_pos hk]
  have hn:(M.map (·.1)).Nodup:=by
   rw [←e] at hk
   exact of_decide_eq_true (Bool.and_eq_true_iff.1 hk).2
  rw [(ztx z h hn k).1]
 ·rw [if_neg hk,if_neg hk]
def zf2 (j:Nat) (acts:List Int):AV:=if acts=[] then .sl .nil 0 [] else .ms j 0 1 acts.length acts.length
def zf3 (j:Nat) (acts:List Int):BL:=if acts=[] then [] else [(j,.cells (acts.map cI).flatten)]
theorem zqZ (acts:List Int):(acts.map cI).flatten.length=acts.length:=by rw [ziQ,List.length_map]
theorem zp5 {P:Program} {N:Nat} {l:List (Nat×AV)} {H:zac} {g g0 i:Nat} {ops:Array Oper} {K:Fr->zac->Nat->Prop} {r:List Oper} {d:Nat} {ty:TypeId} {pos:String} {after:Array Edge} {O:Nat->Prop} {H0:zac} {L:BL} {b:Nat} {t:TypeId} {x y:Operand} {ja:Nat} {acts:List Int} {a:Int} (hS:St O H0 (zf3 ja acts++L) H b) (hd:d<N) (hx:evL N l x=zf2 ja acts) (hy:evL N l y=.sl .clip 1 [[.i a]]) (hk:zaS P t=some 1) (hf:zbi P t=true) (hle:acts.length+1<=1048576) (hb:b<=g0+i) (h:∀H',St O H0 (zf3 (g0+i) (acts++[a])++L) H' (g0+i+1)->zaW P N none g0 ops K (i+1) r (Fr.of ((d,zf2 (g0+i) (acts++[a]))::l)) H' g):zaW P N none g0 ops K i (⟨some d,.call { callee:=.builtin .append,args:=#[x,y],argTypes:=#[t,t] },ty,pos,after,none⟩::r) (Fr.of l) H g:=by
 have hsrc:zqo H 1 (evL N l y)=some (1,[.i a]):=by rw [hy];rfl
 by_cases hn:acts=[]
 ·subst hn
  refine ztd (k:=1) (k':=0) (q:=1) (ds:=[.i a]) hS hd hx hsrc hk hf (by omega) (by omega) hb fun H' hS'=>?_
  exact h H' hS'
 ·have e1:zf3 ja acts=[(ja,.cells (acts.map cI).flatten)]:=if_neg hn
  have e2:zf2 ja acts=.ms ja 0 1 acts.length acts.length:=if_neg hn
  have hn2:acts++[a]≠[]:=by simp
  have hpos:0<acts.length:=List.length_pos_iff.2 hn
  rw [e1] at hS
  rw [e2] at hx
  refine ztb (k:=1) (m:=acts.length) (q:=1) (ds:=[.i a]) hS hd hx (by rw [zqZ];omega) hsrc hk hf hpos (by omega) hle hb fun H' hS'=>?_
  have e3:zf3 (g0+i) (acts++[a])=[(g0+i,.cells ((acts.map cI).flatten++[.i a]))]:=by
   unfold zf3
   rw [if_neg hn2,List.map_append,List.flatten_append]
   rfl
  have e4:zf2 (g0+i) (acts++[a])=.ms (g0+i) 0 1 (acts.length+1) (acts.length+1):=by
   unfold zf2
   rw [if_neg hn2,List.length_append,List.length_singleton]
  have:=h H'
  rw [e3,e4] at this
  exact this hS'
theorem zjp:zaC Tryz.prog 116 [.sl .nil 0 []] (.tup []):=by
 refine zal mixed Tryz.func116 rfl (by decide) Tryz.ntmps116 (by simp) (.tup _ zaE) fun H0 g hf=>?_
 rw [zai]
 change wpA _ _ _ _ (Fr.of [(0,.sl .nil 0 [])]) H0 g
 have hS:=St.start hf
 refine Sq ?_
 refine Rg 5 ?_
 refine Om (.sl .nil 0 []) ?_
 refine zbf (n:=0) (by decide) rfl rfl zaz ?_
 refine zoM (v:=.i (-1)) (by decide) rfl rfl (by show some (AV.i (w64 (((0:Nat):Int)-1)))=_;rw [zaF (by omega) (by omega)];rfl) ?_
 refine Oa (.i 0) ?_
 refine Oa (.i (-1)) ?_
 refine Ni ?_
 refine Ws ?_
 refine zan ?_
 refine zbg (V:=Unit) (fun _=>[(0,.sl .nil 0 []),(2,.i 0),(3,.i (-1))]) (fun _ _ H' g'=>St (·<g) H0 [] H' g') (n:=0) () (.k (.k (.k .nil))) (hS.up (by omega)) ?_
 rintro _ k H g1 hS
 change wpA _ _ _ _ (Fr.of [(0,.sl .nil 0 []),(2,.i 0),(3,.i (-1))]) _ _
 refine Sq ?_
 refine Sq ?_
 refine Rg 3 ?_
 refine Om (.i 0) ?_
 refine Om (.i (-1)) ?_
 refine Oi (.b (decide ((0:Int) < -1))) ?_
 refine Ni ?_
 refine Ws ?_
 refine zih (e:=decide ((0:Int) < -1)) rfl (by decide) ?_
 refine zbb ?_
 refine zam ?_
 refine zaj ?_
 refine zap ?_
 refine zaX (x:=.tup []) (f:=fun (_:Unit)=>.tup []) (u:=()) (.inl rfl) rfl (.refl _) rfl hS
theorem zuN {N:Nat} {l:List (Nat×AV)} {H:zac} {g g0 i:Nat} {ops:Array Oper} {K:Fr->zac->Nat->Prop} {r:List Oper} {d:Nat} {ty:TypeId} {pos:String} {after:Array Edge} {O:Nat->Prop} {H0:zac} {L:BL} {b:Nat} {f:Operand} {args:Array Operand} {ts:Array TypeId} {ja:Nat} {acts:List Int} (hS:St O H0 (zf3 ja acts++L) H b) (hd:d<N) (ht:tgt (evL N l f)=some (116,[],[])) (ha:args.toList.map (evL N l)=[zf2 ja acts]) (hle:acts.length<=1048576) (h:∀H',St O H0 (zf3 ja acts.reverse++L) H' b->zaW Tryz.prog N none g0 ops K (i+1) r (Fr.of ((d,.tup [])::l)) H' g):zaW Tryz.prog N none g0 ops K i (⟨some d,.call { callee:=.value f,args:=args,argTypes:=ts },ty,pos,after,none⟩::r) (Fr.of l) H g:=by
 by_cases hn:acts=[]
 ·subst hn
  exact zat hd ht (by rw [ha];rfl) zjp (h H hS)
 ·have e1:zf3 ja acts=[(ja,.cells (acts.map cI).flatten)]:=if_neg hn
  have e2:zf2 ja acts=.ms ja 0 1 acts.length acts.length:=if_neg hn
  have e3:zf3 ja acts.reverse=[(ja,.cells (acts.reverse.map cI).flatten)]:=if_neg (by simpa using hn)
  rw [e1] at hS
  rw [e2] at ha
  rw [e3] at h
  exact zzt 0 hS hd ht (by rw [ha];rfl) rfl zwQ (zjo hn hle) rfl h
theorem zq0 (b:Option Box_):Go.AM.Pure (pA Box_.cells b):=zpW (fun x=>zab (.v _) (zab (.sl _ _ (zaw (fun x=>(zab (.v _) zaE)))) (zab (.sl _ _ (zaw (fun x=>(zab (.v _) zaE)))) (zab (.sl _ _ (zaw (fun x=>(zab (.v _) zaE)))) (zab (.sl _ _ (zaw (fun x=>(zab (.v _) zaE)))) (zab (.sl _ _ (zaw (fun x=>(zab (.v _) zaE)))) (zab (.v _) (zab (.v _) zaE)))))))) b
theorem zgN {n:Nat} {a0:Option Box_} {purse:List Int} {r:List Int×Bool} (hM:zcv n a0 purse=some r):zaC Tryz.prog 90 [pA Box_.cells a0,.sl .no 1 (purse.map cI)] (.tup [.sl .no 1 (r.1.map cI),.b r.2]):=by
 refine zal mixed Tryz.func90 rfl (by decide) Tryz.ntmps90 (by simp) ?pure fun H0 g hf=>?_
 case pure=>exact .tup _ (zab (.sl _ _ (zaw (fun x=>(zab (.v _) zaE)))) (zab (.v _) zaE))
 rw [zai]
 change wpA _ _ _ _ (Fr.of [(0,pA Box_.cells a0),(1,.sl .no 1 (purse.map cI))]) H0 g
 have hS:=St.start hf
 unfold zcv at hM
 obtain ⟨b,hb0,hM⟩:=zaf hM
 obtain ⟨r1,hr1,hM⟩:=zaf hM
 obtain ⟨al,hal,hM⟩:=zaf hM
 obtain ⟨M,hMM,hM⟩:=zaf hM
 have hok:zj2 M=true:=by
  cases h:zj2 M with
  | true=>rfl
  | false=>rw [if_neg (by rw [h];simp)] at hM;cases hM
 rw [if_pos hok] at hM
 refine Sq ?_
 refine Rg 2 ?_
 refine Oa (.sl .nil 0 []) ?_
 refine Oa (.b false) ?_
 refine Ni ?_
 refine Ws ?_
 refine Sq ?_
 refine Rg 4 ?_
 refine Om (pA Box_.cells a0) ?_
 refine zat (bs:=[pA Box_.cells a0]) (by decide) rfl rfl ((zgi hr1).le (.k .nil)) ?_
 refine zbK hS (by decide) zkW (by omega) fun H hS=>?_
 refine za2 (v:=.agg (Bag_.cells r1)) (ns:=(Bag_.cells r1)) (L':=[(g+2+2,.cells (Bag_.cells r1))]) 0 hS rfl rfl .no rfl rfl zoT nlb rfl fun H hS=>?_
 refine Ni ?_
 refine Ws ?_
 refine Sq ?_
 refine Sq ?_
 refine Rg 3 ?_
 refine Om (.sl .no 1 (purse.map cI)) ?_
 refine zbf (n:=purse.length) (by decide) rfl (List.length_map _) zaz ?_
 refine Om (.i 0) ?_
 refine Ni ?_
 refine Ws ?_
 refine zan ?_
 refine zbg (V:=Int×Bag_) (fun v=>[(0,pA Box_.cells a0),(6,.ptr (g+2+2) 0),(17,.sl .no 1 (purse.map cI)),(18,.i (purse.length:Int)),(19,.i v.1)]) (fun v k H' g'=>St (·<g) H0 [(g+2+2,.cells (Bag_.cells v.2))] H' g'/\zb1 purse k v.1 v.2=some al) (n:=n) (0,r1) (.k (.k (.k (.k (.k .nil))))) ⟨hS.up (by omega),hal⟩ ?_
 rintro ⟨k,ar⟩ m H g1 ⟨hS,hal⟩
 obtain _ | m:=m
 ·exact nomatch (show none=some _ from hal)
 change wpA _ _ _ _ (Fr.of [(0,pA Box_.cells a0),(6,.ptr (g+2+2) 0),(17,.sl .no 1 (purse.map cI)),(18,.i (purse.length:Int)),(19,.i k)]) _ _
 replace hS:St (·<g) H0 [(g+2+2,.cells (Bag_.cells ar))] H g1:=hS
 unfold zb1 at hal
 refine Sq ?_
 refine Rg 1 ?_
 refine Oi (.b (decide (k<(purse.length:Int)))) ?_
 refine Ni ?_
 refine Ws ?_
 refine Sq ?_
 rcases bft (decide (k<(purse.length:Int))) with hk1 | hk1
 ·replace hal:=ifT hal hk1
  refine Ct hk1 ?_
  refine zav ?_
  refine Ws ?_
  obtain ⟨x,hx,hal⟩:=zaf hal
  obtain ⟨e,he,hal⟩:=zaf hal
  obtain ⟨u,hu,hal⟩:=zaf hal
  refine Sq ?_
  refine zan ?_
  refine Sq ?_
  refine Rg 5 ?_
  refine Om (.i k) ?_
  refine zaG (xs:=purse) (f:=cI) (z:=k) (u:=x) (by decide) rfl rfl zaq hx ?_
  refine Olp (.i x) zah zas ?_
  refine Oa (.i k) ?_
  refine Oa (.i x) ?_
  refine Ni ?_
  refine Ws ?_
  refine Rg 7 ?_
  refine Om (.i k) ?_
  refine zin (z:=k) (by decide) rfl rfl zhn (ziv he) ?_
  refine znT (xs:=([ar.c0,ar.c1,ar.c2,ar.c3]:List Int)) (z:=k) (u:=e) (off:=0) 0 hS (by decide) rfl rfl .no rfl he zah zas ?_
  refine Om (.i x) ?_
  refine Oi (.i (w64 (e+x))) ?_
  refine zin (z:=k) (by decide) rfl rfl zhn (ziv he) ?_
  refine znU (xs:=([ar.c0,ar.c1,ar.c2,ar.c3]:List Int)) (u:=u) (z:=k) (v:=(w64 (e+x))) (off:=0) (cs':=[.i (u.getD 0 0),.i (u.getD 1 0),.i (u.getD 2 0),.i (u.getD 3 0)]) (L':=[(g+2+2,.cells [.i (u.getD 0 0),.i (u.getD 1 0),.i (u.getD 2 0),.i (u.getD 3 0)])]) 0 hS rfl rfl .no rfl rfl hu ziR rfl rfl fun H hS=>?_
  refine Ni ?_
  refine zag ?_
  refine Ws ?_
  refine Rg 2 ?_
  refine Oi (.i (w64 (k+1))) ?_
  refine Om (.i (w64 (k+1))) ?_
  refine Ni ?_
  exact za0 (w64 (k+1),⟨u.getD 0 0,u.getD 1 0,u.getD 2 0,u.getD 3 0⟩) (Nat.lt_succ_self _) (.k (.k (.k (.k (.k .nil))))) ⟨hS.up (by omega),hal⟩
 replace hal:=ifF hal hk1
 obtain rfl:=Option.some.inj hal
 refine Cf hk1 ?_
 refine zbb ?_
 refine zam ?_
 refine zaj ?_
 refine zap ?_
 refine Ws ?_
 refine Sq ?_
 refine Rg 4 ?_
 refine Om (pA Box_.cells a0) ?_
 refine za6 (v:=.agg (Bag_.cells ar)) 0 hS (by decide) rfl rfl .no (pg zeI) ?_
 refine zqG (bs:=[pA Box_.cells a0,.agg (Bag_.cells ar)]) (p:=zaK (mpw zad zax M)) hS (by decide) rfl rfl ((zhG hMM).le (.k (.k .nil))) (zab (zq0 _) (zab (.agg _ (zab (.v _) (zab (.v _) (zab (.v _) (zab (.v _) zaE))))) zaE)) (by omega) fun H hS=>?_
 refine Oa (.mp (g1+1+2)) ?_
 refine Ni ?_
 refine Ws ?_
 refine Sq ?_
 refine Rg 4 ?_
 refine Om (.mp (g1+1+2)) ?_
 refine za6 (v:=.agg (Bag_.cells ar)) 1 hS (by decide) rfl rfl .no (pg zeI) ?_
 refine zoQ (M:=[((g1+1+2),.obj none (zaK (mpw zad zax M)))]) (L:=[(g+2+2,.cells (Bag_.cells ar))]) (.inl rfl) hS (by decide) rfl rfl (zjw hok) (by omega) ?_
 rintro v M' H gE ⟨l,jn,hlp,hjn,rfl,rfl⟩ hgE hS
 have hEp:(l.foldl (zbk ar) []).Perm (zfD ar M):=zoY hlp
 have hEn:((l.foldl (zbk ar) []).map (·.1)).Nodup:=(zmg ar l).nd
 have hEk:∀x,x∈l.foldl (zbk ar) []->okI x.1=true:=(zkn l [] (fun b=>okI b=true) (fun p hp=>by obtain ⟨x,hx,rfl⟩:=List.mem_map.1 (hlp.mem_iff.1 hp);exact List.all_eq_true.1 (Bool.and_eq_true_iff.1 hok).1 x hx) (fun p hp=>by simp at hp) (by simp)).1
 have hEl:(l.foldl (zbk ar) []).length<=1048576:=by have h1:=zlE (al:=ar) l [];have h2:=hlp.length_eq;have h3:=of_decide_eq_true (Bool.and_eq_true_iff.1 hok).2;simp only [List.length_map,List.length_nil] at h1 h2;omega
 have hlk:∀x,zhV okI zaQ (l.foldl (zbk ar) []) x=zhV okI zaQ (zfD ar M) x:=zsa hEp
 refine Oa (.mp jn) ?_
 refine Ni ?_
 replace hS:St (·<g) H0 [(jn,.obj none (zaK (mpw kvI zad (l.foldl (zbk ar) [])))),((g1+1+2),.obj none (zaK (mpw zad zax M))),(g+2+2,.cells (Bag_.cells ar))] H gE:=hS
 replace hS:=hS.keep (L':=[(jn,.obj none (zaK (mpw kvI zad (l.foldl (zbk ar) [])))),((g1+1+2),.obj none (zaK (mpw zad zax M)))]) [true,true,false] rfl
 refine Ws ?_
 refine Sq ?_
 refine Sq ?_
 refine Rg 5 ?_
 refine Om (.mp jn) ?_
 refine ztu (.inl rfl) hS (by decide) rfl rfl zvo (by omega) fun H hS=>?_
 refine zqO (E:=l.foldl (zbk ar) []) (cv:=zad) 0 1 (.inl rfl) hS (by decide) rfl rfl zqX (by kernel_rfl) rfl rfl hEk hEn hEl (by omega) ?_
 rw [show zgd ((l.foldl (zbk ar) []).map (·.1))=zgd ((zfD ar M).map (·.1)) from zio (hEp.map _)]
 generalize zgd ((zfD ar M).map (·.1))=bs at hM ⊢
 generalize l.foldl (zbk ar) []=E at hS hlk
 generalize zfD ar M=E2 at hM hlk
 refine zbf (n:=bs.length) (by decide) rfl (List.length_map _) zaz ?_
 refine Om (.i 0) ?_
 refine Ni ?_
 replace hS:=hS.keep (L':=[(jn,.obj none (zaK (mpw kvI zad E))),((g1+1+2),.obj none (zaK (mpw zad zax M)))]) [false,true,true] rfl
 refine Ws ?_
 refine zan ?_
 refine zbg (V:=Int) (fun v=>[(0,pA Box_.cells a0),(9,.mp (g1+1+2)),(10,.mp jn),(39,.sl .no 1 (bs.map cI)),(40,.i (bs.length:Int)),(41,.i v)]) (fun v k H' g'=>St (·<g) H0 [(jn,.obj none (zaK (mpw kvI zad E))),((g1+1+2),.obj none (zaK (mpw zad zax M)))] H' g'/\zb2 n b M E2 bs k v=some r) (n:=n) 0 (.k (.k (.k (.k (.k (.k .nil)))))) ⟨hS.up (by omega),hM⟩ ?_
 rintro k m3 H g3 ⟨hS,hM⟩
 obtain _ | m3:=m3
 ·exact nomatch (show none=some _ from hM)
 change wpA _ _ _ _ (Fr.of [(0,pA Box_.cells a0),(9,.mp (g1+1+2)),(10,.mp jn),(39,.sl .no 1 (bs.map cI)),(40,.i (bs.length:Int)),(41,.i k)]) _ _
 unfold zb2 at hM
 refine Sq ?_
 refine Rg 1 ?_
 refine Oi (.b (decide (k<(bs.length:Int)))) ?_
 refine Ni ?_
 refine Ws ?_
 refine Sq ?_
 rcases bft (decide (k<(bs.length:Int))) with hk2 | hk2
 rotate_left
 ·replace hM:=ifF hM hk2
  refine Cf hk2 ?_
  refine zbb ?_
  refine zam ?_
  refine zaj ?_
  refine zap ?_
  refine Ws ?_
  refine Sq ?_
  refine Rg 2 ?_
  refine Oa (.sl .nil 0 []) ?_
  refine Oa (.b false) ?_
  refine Ni ?_
  refine Ws ?_
  refine zaM ?_
  obtain rfl:=Option.some.inj hM
  refine zaX (x:=.tup [.sl .nil 0 [],.b false]) (f:=fun (r:List Int×Bool)=>.tup [.sl .no 1 (r.1.map cI),.b r.2]) (u:=([],false)) (.inr rfl) ?_ (.tupL (.cons (.sl0 _ _ _) (.k .nil))) rfl hS
  exact zcD (zae (x:=.sl .nil 0 []) rfl) (zae (x:=.b false) rfl)
 replace hM:=ifT hM hk2
 refine Ct hk2 ?_
 refine zav ?_
 refine Ws ?_
 obtain ⟨x,hx,hM⟩:=zaf hM
 obtain ⟨wi,hwi,hM⟩:=zaf hM
 have hXt:(!wi)=false->∃p s acts,zhV okI zaQ E2 x=some p/\zhV zbZ zbj M p=some s/\zeD M n s []=some acts/\r=(acts.reverse,true):=fun h=>by
  replace hM:=ifF hM h
  obtain ⟨p,hp,hM⟩:=zaf hM
  obtain ⟨s,hs,hM⟩:=zaf hM
  obtain ⟨acts,hacts,hM⟩:=zaf hM
  exact ⟨p,s,acts,hp,hs,hacts,(Option.some.inj hM).symm⟩
 refine zaR (J:=Unit) (fun _=>[(0,pA Box_.cells a0),(9,.mp (g1+1+2)),(10,.mp jn),(39,.sl .no 1 (bs.map cI)),(40,.i (bs.length:Int)),(41,.i k)]) (fun _ H' g'=>St (·<g) H0 [(jn,.obj none (zaK (mpw kvI zad E))),((g1+1+2),.obj none (zaK (mpw zad zax M)))] H' g'/\zb2 n b M E2 bs m3 (w64 (k+1))=some r) ?_ ?_
 ·rintro _ H g4 ⟨hS,hM⟩
  change wpA _ _ _ _ (Fr.of [(0,pA Box_.cells a0),(9,.mp (g1+1+2)),(10,.mp jn),(39,.sl .no 1 (bs.map cI)),(40,.i (bs.length:Int)),(41,.i k)]) _ _
  refine Rg 2 ?_
  refine Oi (.i (w64 (k+1))) ?_
  refine Om (.i (w64 (k+1))) ?_
  refine Ni ?_
  exact za0 (w64 (k+1)) (Nat.lt_succ_self _) (.k (.k (.k (.k (.k (.k .nil)))))) ⟨hS.up (by omega),hM⟩
 refine zan ?_
 refine Sq ?_
 refine Rg 3 ?_
 refine zaG (xs:=bs) (f:=cI) (z:=k) (u:=x) (by decide) rfl rfl zaq hx ?_
 refine Olp (.i x) zah zas ?_
 refine Oa (.i x) ?_
 refine Ni ?_
 refine Ws ?_
 refine Sq ?_
 refine Sq ?_
 have hS0:=hS
 refine zb7 (n:=19) rfl (by kernel_rfl) ?_
 refine Om (.i x) ?_
 refine Om (pA Box_.cells a0) ?_
 refine zjs (f:=Box_.cells) (p:=a0) (u:=b) (by decide) rfl hb0 ?_
 refine Of ((Box.cells b.Box)) zfa ?_
 refine Of ((Box.cells b.Box)) zfZ ?_
 refine Olp (.i b.Box.Plays) zah zas ?_
 refine Om (pA Box_.cells a0) ?_
 refine zjs (f:=Box_.cells) (p:=a0) (u:=b) (by decide) rfl hb0 ?_
 refine Of ((Box.cells b.Box)) zfa ?_
 refine Of ((Box.cells b.Box)) zfZ ?_
 refine Olp (.i b.Box.Plays) zah zas ?_
 refine Om (pA Box_.cells a0) ?_
 refine zjs (f:=Box_.cells) (p:=a0) (u:=b) (by decide) rfl hb0 ?_
 refine Of ((Box.cells b.Box)) zfa ?_
 refine Of ((Box.cells b.Box)) zh3 ?_
 refine Olp (.i b.Box.Skips) zah zas ?_
 refine Oi (.i (w64 (b.Box.Plays+b.Box.Skips))) ?_
 refine zat (bs:=[.i x,.i b.Box.Plays,.i (w64 (b.Box.Plays+b.Box.Skips))]) (by decide) rfl rfl ((zfu hwi).le (.k (.k (.k .nil)))) ?_
 refine zfw (by decide) rfl ?_
 refine Ni ?_
 refine Ws ?_
 rcases bft (!wi) with hw | hw
 ·replace hM:=ifT hM hw
  refine Ct hw ?_
  refine zbb ?_
  refine zam ?_
  refine zap ?_
  exact zak () (.k (.k (.k (.k (.k (.k .nil)))))) ⟨hS.up (by omega),hM⟩
 obtain ⟨p,s,acts,hp,hs,hacts,rfl⟩:=hXt hw
 clear hXt hM
 refine Cf hw ?_
 refine zav ?_
 refine Ws ?_
 refine Sq ?_
 refine Rg 1 ?_
 refine Oa (.sl .nil 0 []) ?_
 refine Ni ?_
 refine Ws ?_
 refine Sq ?_
 refine Sq ?_
 refine Rg 7 ?_
 refine Om (.mp (g1+1+2)) ?_
 refine Om (.mp jn) ?_
 refine Om (.i x) ?_
 refine zl7 (kv:=kvI) (ok:=okI) (cv:=zad) (z:=zaQ) (M:=E) (k:=x) (u:=p) (v':=.agg (PointT_.cells p)) 0 zv7 hS (by decide) rfl rfl rfl zke zp3 (by rw [hlk];exact hp) (zp4 p) ?_
 refine zl7 (kv:=zad) (ok:=zbZ) (cv:=zax) (z:=zbj) (M:=M) (k:=p) (u:=s) (v':=.agg (Step_.cells s)) 1 zmh hS (by decide) rfl rfl rfl zho ziU hs (zmj s) ?_
 refine zbK hS (by decide) zh2 (by omega) fun H hS=>?_
 refine za2 (v:=.agg (Step_.cells s)) (ns:=(Step_.cells s)) (L':=[(g3+1+3+19+1+5,.cells (Step_.cells s)),(jn,.obj none (zaK (mpw kvI zad E))),((g1+1+2),.obj none (zaK (mpw zad zax M)))]) 0 hS rfl rfl .no rfl rfl zkh nlb rfl fun H hS=>?_
 refine Ni ?_
 refine Ws ?_
 refine zan ?_
 have hSb:=hS.keep (L':=zf3 0 []++[((g3+1+3+19+1+5),.cells (Step_.cells s)),((g1+1+2),.obj none (zaK (mpw zad zax M)))]) [true,false,true] rfl
 refine zbg (V:=Step_×List Int×Nat×Nat) (fun v=>[(9,.mp (g1+1+2)),(13,zf2 v.2.2.1 v.2.1),(14,.ptr v.2.2.2 0)]) (fun v k H' g'=>St (·<g) H0 (zf3 v.2.2.1 v.2.1++[(v.2.2.2,.cells (Step_.cells v.1)),((g1+1+2),.obj none (zaK (mpw zad zax M)))]) H' g'/\v.2.1.length<=1048576/\zeD M k v.1 v.2.1=some acts) (n:=n) (s,[],0,(g3+1+3+19+1+5)) (.k (.k (.k .nil))) ⟨hSb.up (by omega),by simp,hacts⟩ ?_
 rintro ⟨s,ac,ja,si⟩ m H g5 ⟨hS,hal5,hacts⟩
 obtain _ | m:=m
 ·exact nomatch (show none=some _ from hacts)
 change wpA _ _ _ _ (Fr.of [(9,.mp (g1+1+2)),(13,zf2 ja ac),(14,.ptr si 0)]) _ _
 replace hS:St (·<g) H0 (zf3 ja ac++[(si,.cells (Step_.cells s)),((g1+1+2),.obj none (zaK (mpw zad zax M)))]) H g5:=hS
 replace hal5:ac.length<=1048576:=hal5
 unfold zeD at hacts
 have hSr:St (·<g) H0 ([(si,.cells (Step_.cells s)),((g1+1+2),.obj none (zaK (mpw zad zax M)))]++zf3 ja ac) H g5:=hS.perm List.perm_append_comm
 refine Sq ?_
 refine Sq ?_
 refine Rg 3 ?_
 refine zaT (by decide) zns rfl ?_
 refine za6 (v:=.i s.act) 0 hSr (by decide) rfl rfl .no (po zah zas) ?_
 refine Oi (.b (s.act != -2)) ?_
 refine Ni ?_
 refine Ws ?_
 rcases bft (s.act != -2) with hb5 | hb5
 ·replace hacts:=ifT hacts hb5
  have hle:ac.length+1<=1048576:=by
   by_cases h:ac.length+1<=1048576
   ·exact h
   ·rw [if_neg h] at hacts;cases hacts
  rw [if_pos hle] at hacts
  obtain ⟨s2,hs2,hacts⟩:=zaf hacts
  refine Ct hb5 ?_
  refine zav ?_
  refine Ws ?_
  refine Sq ?_
  refine zan ?_
  refine Rg 6 ?_
  refine Om (zf2 ja ac) ?_
  refine zaT (by decide) zns rfl ?_
  refine za6 (v:=.i s.act) 0 hSr (by decide) rfl rfl .no (po zah zas) ?_
  refine zno (e:=3) (es:=[[.i s.act]]) (by decide) zaq zbc rfl za9 rfl (by decide) ?_
  refine zp5 (ja:=ja) (acts:=ac) (a:=s.act) hS (by decide) rfl rfl zaq za9 hle (by omega) fun H hS=>?_
  refine Oa (zf2 (g5+3+4) (ac++[s.act])) ?_
  refine Ni ?_
  refine zag ?_
  refine Ws ?_
  replace hS:=hS.perm (L':=[(si,.cells (Step_.cells s)),((g1+1+2),.obj none (zaK (mpw zad zax M)))]++zf3 (g5+3+4) (ac++[s.act])) List.perm_append_comm
  refine Sq ?_
  refine Sq ?_
  refine Rg 1 ?_
  refine za6 (v:=.agg (Step_.cells s)) 0 hS (by decide) rfl rfl .no (pg ztr) ?_
  refine Ni ?_
  refine Ws ?_
  refine Rg 2 ?_
  refine zbK hS (by decide) zh2 (by omega) fun H hS=>?_
  refine za2 (v:=.agg (Step_.cells s)) (ns:=(Step_.cells s)) (L':=((g5+3+6+1+0),.cells (Step_.cells s))::([(si,.cells (Step_.cells s)),((g1+1+2),.obj none (zaK (mpw zad zax M)))]++zf3 (g5+3+4) (ac++[s.act]))) 0 hS rfl rfl .no rfl rfl zkh nlb rfl fun H hS=>?_
  refine Ni ?_
  refine Ws ?_
  refine Rg 5 ?_
  refine Om (.mp (g1+1+2)) ?_
  refine zaT (by decide) zr3 rfl ?_
  refine za6 (v:=.agg (PointT_.cells s.from_)) 0 hS (by decide) rfl rfl .no (pg zgK) ?_
  refine zl7 (kv:=zad) (ok:=zbZ) (cv:=zax) (z:=zbj) (M:=M) (k:=s.from_) (u:=s2) (v':=.agg (Step_.cells s2)) 2 zmh hS (by decide) rfl rfl rfl zho ziU hs2 (zmj s2) ?_
  refine za2 (v:=.agg (Step_.cells s2)) (ns:=(Step_.cells s2)) (L':=((g5+3+6+1+0),.cells (Step_.cells s2))::([(si,.cells (Step_.cells s)),((g1+1+2),.obj none (zaK (mpw zad zax M)))]++zf3 (g5+3+4) (ac++[s.act]))) 0 hS rfl rfl .no rfl rfl zkh nlb rfl fun H hS=>?_
  refine Ni ?_
  have hS3:=(hS.keep (L':=[((g5+3+6+1+0),.cells (Step_.cells s2)),((g1+1+2),.obj none (zaK (mpw zad zax M)))]++zf3 (g5+3+4) (ac++[s.act])) [true,false,true] rfl).perm (L':=zf3 (g5+3+4) (ac++[s.act])++[((g5+3+6+1+0),.cells (Step_.cells s2)),((g1+1+2),.obj none (zaK (mpw zad zax M)))]) List.perm_append_comm
  exact za0 (s2,ac++[s.act],(g5+3+4),(g5+3+6+1+0)) (Nat.lt_succ_self _) (.k (.k (.k .nil))) ⟨hS3.up (by omega),by rw [List.length_append,List.length_singleton];exact hle,hacts⟩
 replace hacts:=ifF hacts hb5
 obtain rfl:=Option.some.inj hacts
 refine Cf hb5 ?_
 refine zbb ?_
 refine zam ?_
 refine zaj ?_
 refine zap ?_
 refine Ws ?_
 refine Sq ?_
 refine Rg 2 ?_
 refine Om (zf2 ja ac) ?_
 refine zuN (ja:=ja) (acts:=ac) hS (by decide) rfl rfl hal5 fun H hS=>?_
 refine Ni ?_
 refine ze0 [(13,zf2 ja ac)] (.k .nil) ?_
 by_cases hn:ac=[]
 ·subst hn
  change wpA _ _ _ _ (Fr.of [(13,.sl .nil 0 [])]) _ _
  refine Sq ?_
  refine Rg 3 ?_
  refine Om (.sl .nil 0 []) ?_
  refine Oa (.sl .nil 0 []) ?_
  refine Oa (.b true) ?_
  refine Ni ?_
  refine Ws ?_
  refine zaM ?_
  refine zaX (x:=.tup [.sl .nil 0 [],.b true]) (f:=fun (r:List Int×Bool)=>.tup [.sl .no 1 (r.1.map cI),.b r.2]) (u:=([],true)) (.inr rfl) ?_ (.tupL (.cons (.sl0 _ _ _) (.k .nil))) rfl hS
  exact zcD (zae (x:=.sl .nil 0 []) rfl) (zae (x:=.b true) rfl)
 have e1:zf2 ja ac=.ms ja 0 1 ac.length ac.length:=if_neg hn
 have e2:zf3 ja ac.reverse=[(ja,.cells (ac.reverse.map cI).flatten)]:=if_neg (by simpa using hn)
 rw [e1]
 rw [e2] at hS
 refine Sq ?_
 refine Rg 3 ?_
 refine Om (.ms ja 0 1 ac.length ac.length) ?_
 refine Oa (.ms ja 0 1 ac.length ac.length) ?_
 refine Oa (.b true) ?_
 refine Ni ?_
 replace hS:=hS.perm (L':=[(si,.cells (Step_.cells s)),((g1+1+2),.obj none (zaK (mpw zad zax M)))]++[(ja,.cells (ac.reverse.map cI).flatten)]) List.perm_append_comm
 refine zw3 (t:=4) (es:=ac.reverse.map cI) hS rfl (by decide) (fun e he=>by obtain ⟨z,_,rfl⟩:=List.mem_map.1 he;rfl) (zvl (fun x c hc=>by simp at hc;subst hc;exact ⟨_,rfl⟩)) (by simp) (by rw [List.take_of_length_le (by rw [zqZ];simp)]) fun H hS=>?_
 refine Ws ?_
 refine zaM ?_
 refine zaX (x:=.tup [.sl .no 1 (ac.reverse.map cI),.b true]) (f:=fun (r:List Int×Bool)=>.tup [.sl .no 1 (r.1.map cI),.b r.2]) (u:=(ac.reverse,true)) (.inr rfl) ?_ (.refl _) rfl hS
 exact zcD (zae (x:=.sl .no 1 (ac.reverse.map cI)) rfl) (zae (x:=.b true) rfl)
def zkZ (t:Nat):List Gap_->AV
 | []=>.sl .nil 0 []
 | x::gs=>.sl (.id t) 2 ((x::gs).map Gap_.cells)
def zmm (t:Nat):List Gap_->BL
 | []=>[]
 | x::gs=>[(t,.row 64 (x::gs).length)]
def gM (oc t:Nat) (gs:List Gap_):BL:=(oc,.cells [zkZ t gs])::zmm t gs
def gT (oc:Nat) (gs:List Gap_) (_:Nat) (v:AV) (M:BL):Prop:=∃t,v=.tup []/\M=gM oc t gs
theorem zq1 (gs:List Gap_):∀e,e∈gs.map Gap_.cells->∀c,c∈e->Go.AM.Pure c:=zaw (fun x=>zab (.sl _ _ (zaw (fun x=>(zab (.v _) zaE)))) (zab (.sl _ _ (zaw (fun x=>(zab (.v _) zaE)))) zaE))
theorem zyn {oc t:Nat} {gs:List Gap_}:InB In (gM oc t gs):=fun p cs hp e c hc H hH=>by
 cases gs with
 | nil =>
  obtain rfl:=List.mem_singleton.1 hp
  obtain rfl:[AV.sl .nil 0 []]=cs:=by injection e
  obtain rfl:c=.sl .nil 0 []:=by simpa using hc
  exact .sl _ _ _ (fun t h=>by cases h) (fun e h=>by simp at h)
 | cons x gs =>
  have hr:=hH (t,.row 64 (x::gs).length) (by simp [gM,zmm])
  simp only [gM,zmm,List.mem_cons,List.not_mem_nil,or_false] at hp
  rcases hp with rfl | rfl
  ·obtain rfl:[zkZ t (x::gs)]=cs:=by injection e
   obtain rfl:c=zkZ t (x::gs):=by simpa using hc
   exact .sl _ _ _ (fun t2 h=>by injection h with h;subst h;exact ⟨_,_,hr⟩) (fun e he c hc=>(zq1 _ e he c hc).inH)
  ·cases e
theorem zmn {oc t i:Nat} {gs:List Gap_}:i∈ids (gM oc t gs)↔i=oc\/gs≠[]/\i=t:=by
 cases gs<;>simp [gM,zmm,ids]
theorem zvr (oc t:Nat) (gs gs2:List Gap_) (g:Nat):∃v M',gT oc gs2 g v M'/\(ids M').Nodup/\∀i,i∈ids M'->i∈ids (gM oc t gs)\/g<=i:=by
 refine ⟨.tup [],_,⟨max g (oc+1),rfl,rfl⟩,?_,fun i hi=>?_⟩
 ·cases gs2<;>simp [gM,zmm,ids]<;>omega
 ·rcases zmn.1 hi with rfl | ⟨_,rfl⟩
  ·exact .inl (zmn.2 (.inl rfl))
  ·exact .inr (Nat.le_max_left _ _)
theorem zp6 {P:Program} {N:Nat} {fr:Fr} {H H0:zac} {g b oc t t2:Nat} {gs gs2:List Gap_} {ex:Exit} {rs:List ResultVar} (he:ex=.normal\/ex=.ret) (hx:zi5 P N fr H rs=some (.tup [])) (hS:St (fun i=>i<g/\i∉ids (gM oc t gs)) H0 (gM oc t2 gs2) H b) (hb:g<=b) (hi:∀i,i∈ids (gM oc t2 gs2)->i∈ids (gM oc t gs)\/g<=i) :
  (ex=.normal\/ex=.ret)/\∃v M' b1,gT oc gs2 g v M'/\(∃x,zi5 P N fr H rs=some x/\Le v x)/\(∀H,Has H M'->In H v)/\InB In M'/\(∀i,i<g/\i∉ids (gM oc t gs)->H i=H0 i)/\Has H M'/\zbp H b1/\g<=b1/\(ids M').Nodup/\(∀i,i∈ids M'->i∈ids (gM oc t gs)\/g<=i)/\(∀p,p∈gM oc t gs->p.1∉ids M'->p.2≠.ice/\∀cs,p.2≠.cells cs):=by
 refine ⟨he,.tup [],gM oc t2 gs2,b,⟨t2,rfl,rfl⟩,⟨_,hx,.refl _⟩,fun H _=>(show Go.AM.Pure _ from .tup _ zaE).inH,zyn,fun i hi=>(hS.old i hi).2,fun p hp=>(hS.has p hp).2.2,hS.fr,hb,hS.nd,hi,fun p hp hn=>?_⟩
 cases gs with
 | nil =>
  obtain rfl:=List.mem_singleton.1 hp
  exact absurd (zmn.2 (.inl rfl)) hn
 | cons x gs =>
  simp only [gM,zmm,List.mem_cons,List.not_mem_nil,or_false] at hp
  rcases hp with rfl | rfl
  ·exact absurd (zmn.2 (.inl rfl)) hn
  ·exact ⟨fun h=>(by cases h),fun cs h=>(by cases h)⟩
theorem znt {P:Program} {N:Nat} {fr:Fr} {H H0:zac} {g b oc t t2:Nat} {gs gs2:List Gap_} {ex:Exit} {rs:List ResultVar} (he:ex=.normal\/ex=.ret) (hx:zi5 P N fr H rs=some (.tup [])) (hS:St (fun i=>i<g/\i∉ids (gM oc t gs)) H0 (gM oc t2 gs2) H b) (hb:g<=b) (hi:gs2=[]\/gs≠[]/\t2=t\/g<=t2) :
  (ex=.normal\/ex=.ret)/\∃v M' b1,gT oc gs2 g v M'/\(∃x,zi5 P N fr H rs=some x/\Le v x)/\(∀H,Has H M'->In H v)/\InB In M'/\(∀i,i<g/\i∉ids (gM oc t gs)->H i=H0 i)/\Has H M'/\zbp H b1/\g<=b1/\(ids M').Nodup/\(∀i,i∈ids M'->i∈ids (gM oc t gs)\/g<=i)/\(∀p,p∈gM oc t gs->p.1∉ids M'->p.2≠.ice/\∀cs,p.2≠.cells cs) :=
 zp6 he hx hS hb fun i hi2=>by
  rcases zmn.1 hi2 with rfl | ⟨h1,rfl⟩
  ·exact .inl (zmn.2 (.inl rfl))
  ·rcases hi with h | ⟨h2,rfl⟩ | h
   ·exact absurd h h1
   ·exact .inl (zmn.2 (.inr ⟨h2,rfl⟩))
   ·exact .inr h
theorem zh6 {n:Nat} {a:Option Box_} {purse:List Int} {gs:List Gap_} {r:Unit×List Gap_} (hM:zaO n a purse gs=some r) {oc t:Nat} (hnd:(ids (gM oc t gs)).Nodup):zrV Tryz.prog 89 [.sl .no 1 (purse.map cI),.ptr oc 0,.ep [pA Box_.cells a]] (gM oc t gs) (gT oc r.2):=by
 refine zme mixed Tryz.func89 rfl (by decide) Tryz.ntmps89 (by simp) (zvr oc t gs r.2) fun H0 g hf hp=>?_
 rw [zai]
 change wpA _ _ _ _ (Fr.of [(0,.sl .no 1 (purse.map cI)),(1,.ptr oc 0),(2,.ep [pA Box_.cells a])]) H0 g
 have hS:=St.startH hf hnd hp
 have hog:oc<g:=(hS.has (oc,_) (List.mem_cons_self ..)).2.1
 cases gs with
 | nil =>
  unfold zaO at hM
  replace hS:St (fun i=>i<g/\i∉ids (gM oc t [])) H0 [(oc,.cells [.sl .nil 0 []])] H0 g:=hS
  refine Sq ?_
  refine Sq ?_
  have hS0:=hS
  refine zb7 (n:=15) rfl (by kernel_rfl) ?_
  refine za6 (v:=.sl .nil 0 []) 0 hS (by decide) rfl rfl (.st hS0 0 rfl (by omega)) (po zgz zhN) ?_
  refine zbf (n:=0) (by decide) rfl rfl zjg ?_
  refine Oi (.b (decide (((0:Nat):Int)>0))) ?_
  refine Om (.b (decide (((0:Nat):Int)>0))) ?_
  refine zco (j:=3) (e:=(decide (((0:Nat):Int)>0))) (want:=true) (by decide) rfl (by decide) ?_
  refine zco (j:=3) (e:=(decide (((0:Nat):Int)>0))) (want:=true) (by decide) rfl (by decide) ?_
  refine zco (j:=3) (e:=(decide (((0:Nat):Int)>0))) (want:=true) (by decide) rfl (by decide) ?_
  refine zco (j:=3) (e:=(decide (((0:Nat):Int)>0))) (want:=true) (by decide) rfl (by decide) ?_
  refine zco (j:=3) (e:=(decide (((0:Nat):Int)>0))) (want:=true) (by decide) rfl (by decide) ?_
  refine zco (j:=3) (e:=(decide (((0:Nat):Int)>0))) (want:=true) (by decide) rfl (by decide) ?_
  refine zco (j:=3) (e:=(decide (((0:Nat):Int)>0))) (want:=true) (by decide) rfl (by decide) ?_
  refine zco (j:=3) (e:=(decide (((0:Nat):Int)>0))) (want:=true) (by decide) rfl (by decide) ?_
  refine zco (j:=3) (e:=(decide (((0:Nat):Int)>0))) (want:=true) (by decide) rfl (by decide) ?_
  refine zco (j:=3) (e:=(decide (((0:Nat):Int)>0))) (want:=true) (by decide) rfl (by decide) ?_
  refine zaY (v:=.b false) (e:=(decide (((0:Nat):Int)>0))) (by decide) rfl (by decide) rfl ?_
  refine Ni ?_
  refine Ws ?_
  refine zih (e:=false) rfl rfl ?_
  refine zav ?_
  refine Ws ?_
  refine Sq ?_
  refine Rg 8 ?_
  refine Olp (pA Box_.cells a) ziq zjF ?_
  refine Om (.sl .no 1 (purse.map cI)) ?_
  obtain ⟨e,he,hM⟩:=zaf hM
  refine zat (bs:=[pA Box_.cells a,.sl .no 1 (purse.map cI)]) (by decide) rfl rfl ((zgN he).le (.k (.k .nil))) ?_
  refine Om (.tup [.sl .no 1 (e.1.map cI),.b e.2]) ?_
  refine Ox (.sl .no 1 (e.1.map cI)) ?_
  refine Ox (.b e.2) ?_
  refine Oa (.sl .no 1 (e.1.map cI)) ?_
  refine Oa (.b e.2) ?_
  refine Ni ?_
  refine Ws ?_
  refine Sq ?_
  refine Sq ?_
  refine Rg 2 ?_
  refine Om (.b e.2) ?_
  refine zfw (by decide) rfl ?_
  refine Ni ?_
  refine Ws ?_
  rcases bft (!e.2) with he2 | he2
  ·replace hM:=ifT hM he2
   obtain rfl:=Option.some.inj hM
   refine Ct he2 ?_
   refine zaM ?_
   refine zar ?_
   exact znt (t:=t) (gs:=[]) (gs2:=[]) (t2:=t) (.inr rfl) rfl hS (by omega) (.inl rfl)
  ·replace hM:=ifF hM he2
   obtain rfl:=Option.some.inj hM
   refine Cf he2 ?_
   refine zav ?_
   refine Ws ?_
   refine Sq ?_
   refine Sq ?_
   have hS0:=hS
   refine zb7 (n:=15) rfl (by kernel_rfl) ?_
   refine za6 (v:=.sl .nil 0 []) 0 hS (by decide) rfl rfl (.st hS0 0 rfl (by omega)) (po zgz zhN) ?_
   refine zbf (n:=0) (by decide) rfl rfl zjg ?_
   refine Oi (.b (decide (((0:Nat):Int)>0))) ?_
   refine Om (.b (decide (((0:Nat):Int)>0))) ?_
   refine zco (j:=3) (e:=(decide (((0:Nat):Int)>0))) (want:=true) (by decide) rfl (by decide) ?_
   refine zco (j:=3) (e:=(decide (((0:Nat):Int)>0))) (want:=true) (by decide) rfl (by decide) ?_
   refine zco (j:=3) (e:=(decide (((0:Nat):Int)>0))) (want:=true) (by decide) rfl (by decide) ?_
   refine zco (j:=3) (e:=(decide (((0:Nat):Int)>0))) (want:=true) (by decide) rfl (by decide) ?_
   refine zco (j:=3) (e:=(decide (((0:Nat):Int)>0))) (want:=true) (by decide) rfl (by decide) ?_
   refine zco (j:=3) (e:=(decide (((0:Nat):Int)>0))) (want:=true) (by decide) rfl (by decide) ?_
   refine zco (j:=3) (e:=(decide (((0:Nat):Int)>0))) (want:=true) (by decide) rfl (by decide) ?_
   refine zco (j:=3) (e:=(decide (((0:Nat):Int)>0))) (want:=true) (by decide) rfl (by decide) ?_
   refine zco (j:=3) (e:=(decide (((0:Nat):Int)>0))) (want:=true) (by decide) rfl (by decide) ?_
   refine zco (j:=3) (e:=(decide (((0:Nat):Int)>0))) (want:=true) (by decide) rfl (by decide) ?_
   refine zaY (v:=.b false) (e:=(decide (((0:Nat):Int)>0))) (by decide) rfl (by decide) rfl ?_
   refine Ni ?_
   refine Ws ?_
   refine zih (e:=false) rfl rfl ?_
   refine zav ?_
   refine Ws ?_
   refine Rg 7 ?_
   refine za6 (v:=.sl .nil 0 []) 0 hS (by decide) rfl rfl .no (po zgz zhN) ?_
   refine Om (.sl .no 1 (purse.map cI)) ?_
   refine Om (.sl .no 1 (e.1.map cI)) ?_
   refine zb4 (cs:=[.sl .no 1 (purse.map cI),.sl .no 1 (e.1.map cI)]) (by decide) zma zp0 rfl ?_
   refine zno (e:=64) (es:=[[.sl .no 1 (purse.map cI),.sl .no 1 (e.1.map cI)]]) (by decide) zgT zkS rfl zkT rfl (by decide) ?_
   refine zmf (k:=2) (k':=0) (e:=64) (es:=[[.sl .no 1 (purse.map cI),.sl .no 1 (e.1.map cI)]]) hS (by decide) rfl rfl zgT zkS zkT nlb (by omega) fun H hS=>?_
   refine za2 (v:=.sl (.id (g+15+8+2+15+5)) 2 ([(⟨purse,e.1⟩:Gap_)].map Gap_.cells)) (ns:=[.sl (.id (g+15+8+2+15+5)) 2 ([(⟨purse,e.1⟩:Gap_)].map Gap_.cells)]) (L':=[((g+15+8+2+15+5),.row 64 1),(oc,.cells [.sl (.id (g+15+8+2+15+5)) 2 ([(⟨purse,e.1⟩:Gap_)].map Gap_.cells)])]) 1 hS rfl rfl .no rfl rfl zlA nlb rfl fun H hS=>?_
   refine Ni ?_
   replace hS:=hS.toHead (L':=gM oc (g+15+8+2+15+5) [(⟨purse,e.1⟩:Gap_)]) 1 nlb rfl
   exact znt (t:=t) (gs:=[]) (gs2:=[(⟨purse,e.1⟩:Gap_)]) (t2:=(g+15+8+2+15+5)) (.inl rfl) rfl hS (by omega) (.inr (.inr (by omega)))
 | cons x gs =>
  unfold zaO at hM
  replace hS:St (fun i=>i<g/\i∉ids (gM oc t (x::gs))) H0 [(oc,.cells [.sl (.id t) 2 ((x::gs).map Gap_.cells)]),(t,.row 64 (x::gs).length)] H0 g:=hS
  have hpos:decide ((((x::gs).length:Nat):Int)>0)=true:=decide_eq_true (by rw [List.length_cons];omega)
  refine Sq ?_
  refine Sq ?_
  have hS0:=hS
  refine zb7 (n:=15) rfl (by kernel_rfl) ?_
  refine za6 (v:=.sl (.id t) 2 ((x::gs).map Gap_.cells)) 0 hS (by decide) rfl rfl (.st hS0 0 rfl (by omega)) (po zgz zhN) ?_
  refine zbf (n:=(x::gs).length) (by decide) rfl (List.length_map _) zjg ?_
  refine Oi (.b (decide ((((x::gs).length:Nat):Int)>0))) ?_
  refine Om (.b (decide ((((x::gs).length:Nat):Int)>0))) ?_
  refine Oy (want:=true) hpos ?_
  refine Olp (pA Box_.cells a) ziq zjF ?_
  refine Oy (want:=true) hpos ?_
  refine Om (.sl .no 1 (purse.map cI)) ?_
  obtain ⟨w1,hw1,hM⟩:=zaf hM
  refine Oy (want:=true) hpos ?_
  refine zat (bs:=[pA Box_.cells a,.sl .no 1 (purse.map cI)]) (by decide) rfl rfl ((zbx hw1).le (.k (.k .nil))) ?_
  refine Oy (want:=true) hpos ?_
  refine Olp (pA Box_.cells a) ziq zjF ?_
  refine Oy (want:=true) hpos ?_
  refine za6 (v:=.sl (.id t) 2 ((x::gs).map Gap_.cells)) 0 hS (by decide) rfl rfl (.st hS0 0 rfl (by omega)) (po zgz zhN) ?_
  refine Oy (want:=true) hpos ?_
  refine zaG (xs:=x::gs) (f:=Gap_.cells) (z:=0) (u:=x) (by decide) rfl rfl zgT rfl ?_
  refine Oy (want:=true) hpos ?_
  refine Of ((Gap_.cells x)) ziS ?_
  refine Oy (want:=true) hpos ?_
  refine Olp (.sl .no 1 (x.purse.map cI)) zao zaB ?_
  obtain ⟨w2,hw2,hM⟩:=zaf hM
  refine Oy (want:=true) hpos ?_
  refine zat (bs:=[pA Box_.cells a,.sl .no 1 (x.purse.map cI)]) (by decide) rfl rfl ((zbx hw2).le (.k (.k .nil))) ?_
  refine Oy (want:=true) hpos ?_
  refine Oi (.b (decide (w1>w2))) ?_
  refine Pt (.b (decide (w1>w2))) hpos ?_
  refine Ni ?_
  refine Ws ?_
  rcases bft (decide (w1>w2)) with hw | hw
  ·replace hM:=ifT hM hw
   obtain rfl:=Option.some.inj hM
   refine Ct hw ?_
   refine zaM ?_
   refine zar ?_
   exact znt (t:=t) (gs:=x::gs) (gs2:=x::gs) (t2:=t) (.inr rfl) rfl hS (by omega) (.inr (.inl ⟨by simp,rfl⟩))
  replace hM:=ifF hM hw
  refine Cf hw ?_
  refine zav ?_
  refine Ws ?_
  refine Sq ?_
  refine Rg 8 ?_
  refine Olp (pA Box_.cells a) ziq zjF ?_
  refine Om (.sl .no 1 (purse.map cI)) ?_
  obtain ⟨e,he,hM⟩:=zaf hM
  refine zat (bs:=[pA Box_.cells a,.sl .no 1 (purse.map cI)]) (by decide) rfl rfl ((zgN he).le (.k (.k .nil))) ?_
  refine Om (.tup [.sl .no 1 (e.1.map cI),.b e.2]) ?_
  refine Ox (.sl .no 1 (e.1.map cI)) ?_
  refine Ox (.b e.2) ?_
  refine Oa (.sl .no 1 (e.1.map cI)) ?_
  refine Oa (.b e.2) ?_
  refine Ni ?_
  refine Ws ?_
  refine Sq ?_
  refine Sq ?_
  refine Rg 2 ?_
  refine Om (.b e.2) ?_
  refine zfw (by decide) rfl ?_
  refine Ni ?_
  refine Ws ?_
  rcases bft (!e.2) with he2 | he2
  ·replace hM:=ifT hM he2
   obtain rfl:=Option.some.inj hM
   refine Ct he2 ?_
   refine zaM ?_
   refine zar ?_
   exact znt (t:=t) (gs:=x::gs) (gs2:=x::gs) (t2:=t) (.inr rfl) rfl hS (by omega) (.inr (.inl ⟨by simp,rfl⟩))
  replace hM:=ifF hM he2
  refine Cf he2 ?_
  refine zav ?_
  refine Ws ?_
  refine Sq ?_
  refine Sq ?_
  have hS0:=hS
  refine zb7 (n:=15) rfl (by kernel_rfl) ?_
  refine za6 (v:=.sl (.id t) 2 ((x::gs).map Gap_.cells)) 0 hS (by decide) rfl rfl (.st hS0 0 rfl (by omega)) (po zgz zhN) ?_
  refine zbf (n:=(x::gs).length) (by decide) rfl (List.length_map _) zjg ?_
  refine Oi (.b (decide ((((x::gs).length:Nat):Int)>0))) ?_
  refine Om (.b (decide ((((x::gs).length:Nat):Int)>0))) ?_
  refine Oy (want:=true) hpos ?_
  refine Olp (pA Box_.cells a) ziq zjF ?_
  refine Oy (want:=true) hpos ?_
  refine Om (.sl .no 1 (purse.map cI)) ?_
  obtain ⟨w3,hw3,hM⟩:=zaf hM
  refine Oy (want:=true) hpos ?_
  refine zat (bs:=[pA Box_.cells a,.sl .no 1 (purse.map cI)]) (by decide) rfl rfl ((zbx hw3).le (.k (.k .nil))) ?_
  refine Oy (want:=true) hpos ?_
  refine Olp (pA Box_.cells a) ziq zjF ?_
  refine Oy (want:=true) hpos ?_
  refine za6 (v:=.sl (.id t) 2 ((x::gs).map Gap_.cells)) 0 hS (by decide) rfl rfl (.st hS0 0 rfl (by omega)) (po zgz zhN) ?_
  refine Oy (want:=true) hpos ?_
  refine zaG (xs:=x::gs) (f:=Gap_.cells) (z:=0) (u:=x) (by decide) rfl rfl zgT rfl ?_
  refine Oy (want:=true) hpos ?_
  refine Of ((Gap_.cells x)) ziS ?_
  refine Oy (want:=true) hpos ?_
  refine Olp (.sl .no 1 (x.purse.map cI)) zao zaB ?_
  obtain ⟨w4,hw4,hM⟩:=zaf hM
  refine Oy (want:=true) hpos ?_
  refine zat (bs:=[pA Box_.cells a,.sl .no 1 (x.purse.map cI)]) (by decide) rfl rfl ((zbx hw4).le (.k (.k .nil))) ?_
  refine Oy (want:=true) hpos ?_
  refine Oi (.b (decide (w3<w4))) ?_
  refine Pt (.b (decide (w3<w4))) hpos ?_
  refine Ni ?_
  refine Ws ?_
  rcases bft (decide (w3<w4)) with hw2 | hw2
  ·replace hM:=ifT hM hw2
   obtain rfl:=Option.some.inj hM
   refine Ct hw2 ?_
   refine Rg 1 ?_
   refine za2 (v:=.sl .nil 0 []) (ns:=[.sl .nil 0 []]) (L':=[(oc,.cells [.sl .nil 0 []]),(t,.row 64 (x::gs).length)]) 0 hS rfl rfl .no rfl rfl zlA nlb rfl fun H hS=>?_
   refine Ni ?_
   replace hS:=hS.keep (L':=[(oc,.cells [.sl .nil 0 []])]) [true,false] rfl
   refine Ws ?_
   refine Rg 7 ?_
   refine za6 (v:=.sl .nil 0 []) 0 hS (by decide) rfl rfl .no (po zgz zhN) ?_
   refine Om (.sl .no 1 (purse.map cI)) ?_
   refine Om (.sl .no 1 (e.1.map cI)) ?_
   refine zb4 (cs:=[.sl .no 1 (purse.map cI),.sl .no 1 (e.1.map cI)]) (by decide) zma zp0 rfl ?_
   refine zno (e:=64) (es:=[[.sl .no 1 (purse.map cI),.sl .no 1 (e.1.map cI)]]) (by decide) zgT zkS rfl zkT rfl (by decide) ?_
   refine zmf (k:=2) (k':=0) (e:=64) (es:=[[.sl .no 1 (purse.map cI),.sl .no 1 (e.1.map cI)]]) hS (by decide) rfl rfl zgT zkS zkT nlb (by omega) fun H hS=>?_
   refine za2 (v:=.sl (.id (g+15+8+2+15+1+5)) 2 ([(⟨purse,e.1⟩:Gap_)].map Gap_.cells)) (ns:=[.sl (.id (g+15+8+2+15+1+5)) 2 ([(⟨purse,e.1⟩:Gap_)].map Gap_.cells)]) (L':=[((g+15+8+2+15+1+5),.row 64 1),(oc,.cells [.sl (.id (g+15+8+2+15+1+5)) 2 ([(⟨purse,e.1⟩:Gap_)].map Gap_.cells)])]) 1 hS rfl rfl .no rfl rfl zlA nlb rfl fun H hS=>?_
   refine Ni ?_
   replace hS:=hS.toHead (L':=gM oc (g+15+8+2+15+1+5) [(⟨purse,e.1⟩:Gap_)]) 1 nlb rfl
   exact znt (t:=t) (gs:=x::gs) (gs2:=[(⟨purse,e.1⟩:Gap_)]) (t2:=(g+15+8+2+15+1+5)) (.inl rfl) rfl hS (by omega) (.inr (.inr (by omega)))
  replace hM:=ifF hM hw2
  obtain ⟨l,hl,hM⟩:=zaf hM
  obtain rfl:=Option.some.inj hM
  have hl2:l=x::(gs++[(⟨purse,e.1⟩:Gap_)]):=by
   unfold app at hl
   split at hl
   ·exact (Option.some.inj hl).symm
   ·cases hl
  refine Cf hw2 ?_
  refine zav ?_
  refine Ws ?_
  refine Rg 7 ?_
  refine za6 (v:=.sl (.id t) 2 ((x::gs).map Gap_.cells)) 0 hS (by decide) rfl rfl .no (po zgz zhN) ?_
  refine Om (.sl .no 1 (purse.map cI)) ?_
  refine Om (.sl .no 1 (e.1.map cI)) ?_
  refine zb4 (cs:=[.sl .no 1 (purse.map cI),.sl .no 1 (e.1.map cI)]) (by decide) zma zp0 rfl ?_
  refine zno (e:=64) (es:=[[.sl .no 1 (purse.map cI),.sl .no 1 (e.1.map cI)]]) (by decide) zgT zkS rfl zkT rfl (by decide) ?_
  refine zcp (xs:=x::gs) (ys:=[(⟨purse,e.1⟩:Gap_)]) (zs:=l) (f:=Gap_.cells) (L':=[(oc,.cells [.sl (.id t) 2 ((x::gs).map Gap_.cells)]),(t,.row 64 l.length)]) 1 hS (by decide) rfl rfl rfl rfl .no zgT zkS zkT hl rfl fun H hS=>?_
  refine za2 (v:=.sl (.id t) 2 (l.map Gap_.cells)) (ns:=[.sl (.id t) 2 (l.map Gap_.cells)]) (L':=[(oc,.cells [.sl (.id t) 2 (l.map Gap_.cells)]),(t,.row 64 l.length)]) 0 hS rfl rfl .no rfl rfl zlA nlb rfl fun H hS=>?_
  refine Ni ?_
  subst hl2
  exact znt (t:=t) (gs:=x::gs) (gs2:=x::(gs++[(⟨purse,e.1⟩:Gap_)])) (t2:=t) (.inl rfl) rfl hS (by omega) (.inr (.inl ⟨by simp,rfl⟩))
theorem ztA {n nn:Nat} {a:Option Box_} {rec:(Option Box_)->(List Int)->Int->List Gap_->Option (Unit×List Gap_)} (hrec:∀{a1:List Int} {a2:Int} {gs:List Gap_} {r:Unit×List Gap_},rec a a1 a2 gs=some r->∀{oc t:Nat},(ids (gM oc t gs)).Nodup->zrV Tryz.prog 88 [pA Box_.cells a,.sl .no 1 (a1.map cI),.i a2,.fn (.func 89) [] [.ptr oc 0,.ep [pA Box_.cells a]]] (gM oc t gs) (gT oc r.2)) {a1:List Int} {a2:Int} {gs:List Gap_} {r:Unit×List Gap_} (hM:zdf n rec (fun x0 s=>zaO nn a x0 s) a a1 a2 gs=some r) {oc t:Nat} (hnd:(ids (gM oc t gs)).Nodup):zrV Tryz.prog 88 [pA Box_.cells a,.sl .no 1 (a1.map cI),.i a2,.fn (.func 89) [] [.ptr oc 0,.ep [pA Box_.cells a]]] (gM oc t gs) (gT oc r.2):=by
 refine zme mixed Tryz.func88 rfl (by decide) Tryz.ntmps88 (by simp) (zvr oc t gs r.2) fun H0 g hf hp=>?_
 rw [zai]
 change wpA _ _ _ _ (Fr.of [(0,pA Box_.cells a),(1,.sl .no 1 (a1.map cI)),(2,.i a2),(3,.fn (.func 89) [] [.ptr oc 0,.ep [pA Box_.cells a]])]) H0 g
 have hS:=St.startH hf hnd hp
 have hog:oc<g:=(hS.has (oc,_) (List.mem_cons_self ..)).2.1
 unfold zdf at hM
 refine Sq ?_
 refine Sq ?_
 refine Rg 10 ?_
 refine Om (.sl .no 1 (a1.map cI)) ?_
 refine zbf (n:=a1.length) (by decide) rfl (List.length_map _) zaz ?_
 refine Om (pA Box_.cells a) ?_
 obtain ⟨b,hb0,hM⟩:=zaf hM
 refine zjs (f:=Box_.cells) (p:=a) (u:=b) (by decide) rfl hb0 ?_
 refine Of ((Box.cells b.Box)) zfa ?_
 refine Of ((Box.cells b.Box)) zba ?_
 refine Of ((Box.cells b.Box)) zcr ?_
 refine Olp (.sl .no 1 (b.Box.Wheel.Coins.map cI)) zao zaB ?_
 refine zbf (n:=b.Box.Wheel.Coins.length) (by decide) rfl (List.length_map _) zaz ?_
 refine Oi (.b ((a1.length:Int)==(b.Box.Wheel.Coins.length:Int))) ?_
 refine Ni ?_
 refine Ws ?_
 rcases bft ((a1.length:Int)==(b.Box.Wheel.Coins.length:Int)) with hb2 | hb2
 ·replace hM:=ifT hM hb2
  refine Ct hb2 ?_
  refine Sq ?_
  refine Rg 3 ?_
  refine Om (.fn (.func 89) [] [.ptr oc 0,.ep [pA Box_.cells a]]) ?_
  refine Om (.sl .no 1 (a1.map cI)) ?_
  obtain ⟨r3,hr3,hM⟩:=zaf hM
  obtain rfl:=Option.some.inj hM
  refine ztv (M:=gM oc t gs) (L:=[]) (.inl rfl) (by rw [List.append_nil];exact hS) (by decide) rfl rfl (zh6 hr3 hnd) (by omega) ?_
  rintro v M' H g2 ⟨t2,rfl,rfl⟩ hg2 hi hS
  rw [List.append_nil] at hS
  refine Ni ?_
  refine Ws ?_
  refine zaM ?_
  refine zar ?_
  exact zp6 (.inr rfl) rfl hS (by omega) fun i h=>(hi i h).imp id fun h=>by omega
 replace hM:=ifF hM hb2
 refine Cf hb2 ?_
 refine zav ?_
 refine Ws ?_
 refine Sq ?_
 refine Rg 3 ?_
 refine Om (.i a2) ?_
 refine Oi (.i (w64 (a2+1))) ?_
 refine Om (.i 0) ?_
 refine Ni ?_
 refine Ws ?_
 refine zan ?_
 refine zbg (V:=Int×List Gap_×Nat) (fun v=>[(0,pA Box_.cells a),(1,.sl .no 1 (a1.map cI)),(2,.i a2),(3,.fn (.func 89) [] [.ptr oc 0,.ep [pA Box_.cells a]]),(23,.i (w64 (a2+1))),(24,.i v.1)]) (fun v m2 H' g'=>St (fun i=>i<g/\i∉ids (gM oc t gs)) H0 (gM oc v.2.2 v.2.1) H' g'/\g<=g'/\(∀i,i∈ids (gM oc v.2.2 v.2.1)->i∈ids (gM oc t gs)\/g<=i)/\zbT rec a a1 a2 m2 v.1 v.2.1=some r) (n:=n) (0,gs,t) (.k (.k (.k (.k (.k (.k .nil)))))) ⟨hS.up (by omega),by omega,fun i h=>.inl h,hM⟩ ?_
 rintro ⟨k,gs2,t2⟩ m2 H g2 ⟨hS,hg2,hi,hM⟩
 obtain _ | m2:=m2
 ·exact nomatch (show none=some _ from hM)
 change wpA _ _ _ _ (Fr.of [(0,pA Box_.cells a),(1,.sl .no 1 (a1.map cI)),(2,.i a2),(3,.fn (.func 89) [] [.ptr oc 0,.ep [pA Box_.cells a]]),(23,.i (w64 (a2+1))),(24,.i k)]) _ _
 replace hS:St (fun i=>i<g/\i∉ids (gM oc t gs)) H0 (gM oc t2 gs2) H g2:=hS
 replace hM:zcG rec a a1 a2 (zbT rec a a1 a2 m2) k gs2=some r:=hM
 unfold zcG at hM
 replace hi:∀i,i∈ids (gM oc t2 gs2)->i∈ids (gM oc t gs)\/g<=i:=hi
 refine Sq ?_
 refine Rg 1 ?_
 refine Oi (.b (decide (k<(w64 (a2+1))))) ?_
 refine Ni ?_
 refine Ws ?_
 refine Sq ?_
 rcases bft (decide (k<(w64 (a2+1)))) with hk | hk
 rotate_left
 ·replace hM:=ifF hM hk
  obtain rfl:=Option.some.inj hM
  refine Cf hk ?_
  refine zbb ?_
  refine zam ?_
  refine zaj ?_
  refine zap ?_
  exact zp6 (.inl rfl) rfl hS (by omega) hi
 replace hM:=ifT hM hk
 refine Ct hk ?_
 refine zav ?_
 refine Ws ?_
 refine Sq ?_
 refine zan ?_
 refine Sq ?_
 refine Rg 2 ?_
 refine Om (.i k) ?_
 refine Oa (.i k) ?_
 refine Ni ?_
 refine Ws ?_
 refine Rg 11 ?_
 refine Om (pA Box_.cells a) ?_
 refine Om (.sl .no 1 (a1.map cI)) ?_
 obtain ⟨l8,hl8,hM⟩:=zaf hM
 refine zvO (bs:=[.sl .no 1 (a1.map cI)]) hS (by decide) rfl rfl ((zkr hl8).le (.k .nil)) (by omega) fun H hS=>?_
 rw [List.length_map] at hS
 refine Om (.i k) ?_
 refine zaU (es:=[[.i k]]) hS (by decide) zaq zbc rfl za9 rfl (by decide) (by omega) fun H hS=>?_
 obtain ⟨l9,hl9,hM⟩:=zaf hM
 refine zcp (xs:=l8) (ys:=([k]:List Int)) (zs:=l9) (f:=cI) (L':=(g2+1+2+4,.row 3 1)::(g2+1+2+2,.row 3 l9.length)::gM oc t2 gs2) 1 hS (by decide) rfl rfl rfl rfl .no zaq zbc za9 hl9 rfl fun H hS=>?_
 refine Om (.i a2) ?_
 refine Om (.i k) ?_
 refine Oi (.i (w64 (a2-k))) ?_
 refine Om (.fn (.func 89) [] [.ptr oc 0,.ep [pA Box_.cells a]]) ?_
 obtain ⟨r10,hr10,hM⟩:=zaf hM
 have hS2:=hS.perm (L':=gM oc t2 gs2++[(g2+1+2+4,.row 3 1),(g2+1+2+2,.row 3 l9.length)]) (List.perm_append_comm (l₁:=gM oc t2 gs2) (l₂:=[_,_]))
 refine ztv (M:=gM oc t2 gs2) (L:=[(g2+1+2+4,.row 3 1),(g2+1+2+2,.row 3 l9.length)]) (.inl rfl) hS2 (by decide) rfl rfl ((hrec hr10 (show (ids (gM oc t2 gs2)).Nodup from (hS.keep (L':=gM oc t2 gs2) [false,false] rfl).nd)).le (.k (.cons (.sl _ _ _) (.k (.k .nil))))) (by omega) ?_
 rintro v M' H g3 ⟨t3,rfl,rfl⟩ hg3 hi3 hS
 refine Ni ?_
 refine zag ?_
 replace hS:=(hS.perm (L':=[(g2+1+2+4,.row 3 1),(g2+1+2+2,.row 3 l9.length)]++gM oc t3 r10.2) List.perm_append_comm).keep (L':=gM oc t3 r10.2) [false,false] rfl
 refine Ws ?_
 refine Rg 2 ?_
 refine Oi (.i (w64 (k+1))) ?_
 refine Om (.i (w64 (k+1))) ?_
 refine Ni ?_
 exact za0 (w64 (k+1),r10.2,t3) (Nat.lt_succ_self _) (.k (.k (.k (.k (.k (.k .nil)))))) ⟨hS.up (by omega),by omega,fun i h=>(hi3 i h).elim (hi i) fun h=>.inr (by omega),hM⟩
theorem ztB:∀{m nn:Nat} {a:Option Box_} {a1:List Int} {a2:Int} {gs:List Gap_} {r:Unit×List Gap_},zbP m (fun x0 s=>zaO nn a x0 s) a a1 a2 gs=some r->∀{oc t:Nat},(ids (gM oc t gs)).Nodup->zrV Tryz.prog 88 [pA Box_.cells a,.sl .no 1 (a1.map cI),.i a2,.fn (.func 89) [] [.ptr oc 0,.ep [pA Box_.cells a]]] (gM oc t gs) (gT oc r.2)
 | 0,_,_,_,_,_,_,h=>nomatch (show none=some _ from h)
 | n+1,nn,a,_,_,_,_,h=>fun hnd=>ztA (n:=n) (rec:=zbP n (fun x0 s=>zaO nn a x0 s)) (fun h _ _ hnd=>ztB h hnd) h hnd
theorem ziW {n:Nat} {a0:Option Box_} {r:List Gap_} (hM:zbw n a0=some r):zaC Tryz.prog 59 [pA Box_.cells a0] (.sl .no 2 (r.map Gap_.cells)):=by
 refine zal mixed Tryz.func59 rfl (by decide) Tryz.ntmps59 (by simp) ?pure fun H0 g hf=>?_
 case pure=>exact .sl _ _ (zq1 _)
 rw [zai]
 change wpA _ _ _ _ (Fr.of [(0,pA Box_.cells a0)]) H0 g
 have hS:=St.start hf
 unfold zbw at hM
 obtain ⟨rr,hrr,hM⟩:=zaf hM
 obtain rfl:=Option.some.inj hM
 refine Sq ?_
 refine Rg 2 ?_
 refine zcu (v:=pA Box_.cells a0) (cs:=[pA Box_.cells a0]) hS (by decide) rfl (zrQ _ _) (by omega) fun H hS=>?_
 refine Oa (.sl .nil 0 []) ?_
 refine Ni ?_
 refine za8 (L':=[]) 0 1 hS rfl rfl rfl fun H hS=>?_
 refine Ws ?_
 refine Sq ?_
 refine Rg 1 ?_
 refine zbK hS (by decide) ztk (by omega) fun H hS=>?_
 refine Ni ?_
 refine Ws ?_
 refine Sq ?_
 refine Rg 3 ?_
 refine Olp (pA Box_.cells a0) ziq zjF ?_
 refine zha (first:=[]) (cap:=[.ptr (g+2+0) 0,.ep [pA Box_.cells a0]]) (by decide) rfl rfl ?_
 refine zoQ (M:=gM (g+2+0) 0 []) (L:=[]) (.inl rfl) hS (by decide) rfl rfl ((ztB hrr (by simp [gM,zmm,ids])).le (.k (.cons (.sl0 _ _ _) (.k (.k .nil))))) (by omega) ?_
 rintro v M' H g2 ⟨t2,rfl,rfl⟩ hg2 hS
 refine Ni ?_
 refine Ws ?_
 refine Sq ?_
 refine Rg 2 ?_
 refine za6 (v:=zkZ t2 rr.2) 0 hS (by decide) rfl rfl .no (po zgz zhN) ?_
 refine Oa (zkZ t2 rr.2) ?_
 refine Ni ?_
 refine Ws ?_
 refine zaM ?_
 refine zaX (x:=zkZ t2 rr.2) (f:=fun (r:List Gap_)=>.sl .no 2 (r.map Gap_.cells)) (.inr rfl) (zau (zae rfl)) ?_ rfl hS
 cases rr.2 with
 | nil=>exact .sl0 _ _ _
 | cons x gs=>exact .sl _ _ _
theorem zgU {n:Nat} {a0:Box} {r:(Option Box_)×(List Gap_)×Int} (hM:zcA n a0=some r):zaC Tryz.prog 31 [.agg (Box.cells a0)] (.tup [pA Box_.cells r.1,.sl .no 2 (r.2.1.map Gap_.cells),.i r.2.2]):=by
 refine zal mixed Tryz.func31 rfl (by decide) Tryz.ntmps31 (by simp) ?pure fun H0 g hf=>?_
 case pure=>exact .tup _ (zab (zpW (fun x=>(zab (.v _) (zab (.sl _ _ (zaw (fun x=>(zab (.v _) zaE)))) (zab (.sl _ _ (zaw (fun x=>(zab (.v _) zaE)))) (zab (.sl _ _ (zaw (fun x=>(zab (.v _) zaE)))) (zab (.sl _ _ (zaw (fun x=>(zab (.v _) zaE)))) (zab (.sl _ _ (zaw (fun x=>(zab (.v _) zaE)))) (zab (.v _) (zab (.v _) zaE))))))))) _) (zab (.sl _ _ (zaw (fun x=>(zab (.sl _ _ (zaw (fun x=>(zab (.v _) zaE)))) (zab (.sl _ _ (zaw (fun x=>(zab (.v _) zaE)))) zaE))))) (zab (.v _) zaE)))
 rw [zai]
 change wpA _ _ _ _ (Fr.of [(0,.agg (Box.cells a0))]) H0 g
 have hS:=St.start hf
 refine Sq ?_
 refine Rg 4 ?_
 refine zcu (v:=.agg (Box.cells a0)) (cs:=(Box.cells a0)) hS (by decide) rfl rfl (by omega) fun H hS=>?_
 refine Oa (pA Box_.cells (none:Option Box_)) ?_
 refine Oa (.sl .nil 0 []) ?_
 refine Oa (.i 0) ?_
 refine Ni ?_
 refine za8 (L':=[]) 0 1 hS rfl rfl rfl fun H hS=>?_
 refine Ws ?_
 refine Sq ?_
 refine Rg 7 ?_
 refine Olg (.agg (Box.cells a0)) za4 ?_
 obtain ⟨r1,hr1,hM⟩:=zaf hM
 refine zat (bs:=[.agg (Box.cells a0)]) (by decide) rfl rfl ((zgB hr1).le (.k .nil)) ?_
 refine Om (.tup [pA Box_.cells r1.1,.i r1.2]) ?_
 refine Ox (pA Box_.cells r1.1) ?_
 refine Ox (.i r1.2) ?_
 refine Oa (pA Box_.cells r1.1) ?_
 refine Oa (.i r1.2) ?_
 refine Ni ?_
 refine Ws ?_
 refine Sq ?_
 refine Sq ?_
 refine Rg 2 ?_
 refine Om (.i r1.2) ?_
 refine Oi (.b (r1.2 != 0)) ?_
 refine Ni ?_
 refine Ws ?_
 rcases bft (r1.2 != 0) with hb2 | hb2
 ·replace hM:=ifT hM hb2
  refine Ct hb2 ?_
  refine Sq ?_
  refine Rg 4 ?_
  refine Om (.i r1.2) ?_
  refine Oa (pA Box_.cells (none:Option Box_)) ?_
  refine Oa (.sl .nil 0 []) ?_
  refine Oa (.i r1.2) ?_
  refine Ni ?_
  refine Ws ?_
  refine zaM ?_
  refine zar ?_
  refine zaX (x:=.tup [pA Box_.cells (none:Option Box_),.sl .nil 0 [],.i r1.2]) (f:=fun r=>.tup [pA Box_.cells r.1,.sl .no 2 (r.2.1.map Gap_.cells),.i r.2.2]) (.inr rfl) ?_ (.tupL (.k (.cons (.sl0 .nil 2 0) (.k .nil)))) (Option.some.inj hM) hS
  exact (zhj (zae (x:=pA Box_.cells (none:Option Box_)) rfl) (zae (x:=.sl .nil 0 []) rfl) (zae (x:=.i r1.2) rfl))
 ·replace hM:=ifF hM hb2
  refine Cf hb2 ?_
  refine zav ?_
  refine Ws ?_
  refine Sq ?_
  refine Rg 3 ?_
  refine Om (pA Box_.cells r1.1) ?_
  obtain ⟨r3,hr3,hM⟩:=zaf hM
  refine zat (bs:=[pA Box_.cells r1.1]) (by decide) rfl rfl ((ziW hr3).le (.k .nil)) ?_
  refine Oa (.sl .no 2 (r3.map Gap_.cells)) ?_
  refine Ni ?_
  refine Ws ?_
  refine Sq ?_
  refine Sq ?_
  refine Rg 3 ?_
  refine Om (.sl .no 2 (r3.map Gap_.cells)) ?_
  refine zbf (n:=r3.length) (by decide) rfl (List.length_map _) zjg ?_
  refine Oi (.b ((r3.length:Int)==0)) ?_
  refine Ni ?_
  refine Ws ?_
  rcases bft ((r3.length:Int)==0) with hb4 | hb4
  ·replace hM:=ifT hM hb4
   refine Ct hb4 ?_
   refine Sq ?_
   refine Rg 3 ?_
   refine Oa (pA Box_.cells (none:Option Box_)) ?_
   refine Oa (.sl .nil 0 []) ?_
   refine Oa (.i 3) ?_
   refine Ni ?_
   refine Ws ?_
   refine zaM ?_
   refine zar ?_
   refine zaX (x:=.tup [pA Box_.cells (none:Option Box_),.sl .nil 0 [],.i 3]) (f:=fun r=>.tup [pA Box_.cells r.1,.sl .no 2 (r.2.1.map Gap_.cells),.i r.2.2]) (.inr rfl) ?_ (.tupL (.k (.cons (.sl0 .nil 2 0) (.k .nil)))) (Option.some.inj hM) hS
   exact (zhj (zae (x:=pA Box_.cells (none:Option Box_)) rfl) (zae (x:=.sl .nil 0 []) rfl) (zae (x:=.i 3) rfl))
  ·replace hM:=ifF hM hb4
   refine Cf hb4 ?_
   refine zav ?_
   refine Ws ?_
   refine Sq ?_
   refine Rg 5 ?_
   refine Om (pA Box_.cells r1.1) ?_
   refine Om (.sl .no 2 (r3.map Gap_.cells)) ?_
   refine Oa (pA Box_.cells r1.1) ?_
   refine Oa (.sl .no 2 (r3.map Gap_.cells)) ?_
   refine Oa (.i 0) ?_
   refine Ni ?_
   refine ze0 [(2,pA Box_.cells r1.1),(3,.sl .no 2 (r3.map Gap_.cells)),(4,.i 0)] (.k (.k (.k .nil))) ?_
   refine zaM ?_
   refine zaX (x:=.tup [pA Box_.cells r1.1,.sl .no 2 (r3.map Gap_.cells),.i 0]) (f:=fun r=>.tup [pA Box_.cells r.1,.sl .no 2 (r.2.1.map Gap_.cells),.i r.2.2]) (.inr rfl) ?_ (.refl _) (Option.some.inj hM) hS
   exact (zhj (zae (x:=pA Box_.cells r1.1) rfl) (zae (x:=.sl .no 2 (r3.map Gap_.cells)) rfl) (zae (x:=.i 0) rfl))
theorem zh7 {n:Nat} {a0:Box} {r:Int×Int} (hM:zcc n a0=some r):zaC Tryz.prog 8 [.agg (Box.cells a0)] (.tup [.i r.1,.i r.2]):=by
 refine zal mixed Tryz.func8 rfl (by decide) Tryz.ntmps8 (by simp) ?pure fun H0 g hf=>?_
 case pure=>exact .tup _ (zab (.v _) (zab (.v _) zaE))
 rw [zai]
 change wpA _ _ _ _ (Fr.of [(0,.agg (Box.cells a0))]) H0 g
 have hS:=St.start hf
 refine Sq ?_
 refine Rg 3 ?_
 refine zcu (v:=.agg (Box.cells a0)) (cs:=(Box.cells a0)) hS (by decide) rfl rfl (by omega) fun H hS=>?_
 refine Oa (.i 0) ?_
 refine Oa (.i 0) ?_
 refine Ni ?_
 refine za8 (L':=[]) 0 1 hS rfl rfl rfl fun H hS=>?_
 refine Ws ?_
 refine Sq ?_
 refine Rg 9 ?_
 refine Olg (.agg (Box.cells a0)) za4 ?_
 obtain ⟨r1,hr1,hM⟩:=zaf hM
 refine zat (bs:=[.agg (Box.cells a0)]) (by decide) rfl rfl ((zgU hr1).le (.k .nil)) ?_
 refine Om (.tup [pA Box_.cells r1.1,.sl .no 2 (r1.2.1.map Gap_.cells),.i r1.2.2]) ?_
 refine Ox (pA Box_.cells r1.1) ?_
 refine Ox (.sl .no 2 (r1.2.1.map Gap_.cells)) ?_
 refine Ox (.i r1.2.2) ?_
 refine Oa (pA Box_.cells r1.1) ?_
 refine Oa (.sl .no 2 (r1.2.1.map Gap_.cells)) ?_
 refine Oa (.i r1.2.2) ?_
 refine Ni ?_
 refine Ws ?_
 refine Sq ?_
 refine Sq ?_
 refine Rg 2 ?_
 refine Om (.i r1.2.2) ?_
 refine Oi (.b (r1.2.2 != 0)) ?_
 refine Ni ?_
 refine Ws ?_
 rcases bft (r1.2.2 != 0) with hb2 | hb2
 ·replace hM:=ifT hM hb2
  refine Ct hb2 ?_
  refine Sq ?_
  refine Rg 3 ?_
  refine Om (.i r1.2.2) ?_
  refine Oa (.i 0) ?_
  refine Oa (.i r1.2.2) ?_
  refine Ni ?_
  refine Ws ?_
  refine zaM ?_
  refine zar ?_
  refine zaX (x:=.tup [.i 0,.i r1.2.2]) (f:=fun r=>.tup [.i r.1,.i r.2]) (.inr rfl) ?_ (.refl _) (Option.some.inj hM) hS
  exact (zcD (zae (x:=.i 0) rfl) (zae (x:=.i r1.2.2) rfl))
 ·replace hM:=ifF hM hb2
  refine Cf hb2 ?_
  refine zav ?_
  refine Ws ?_
  refine Sq ?_
  refine Rg 8 ?_
  refine Om (pA Box_.cells r1.1) ?_
  refine Om (.sl .no 2 (r1.2.1.map Gap_.cells)) ?_
  obtain ⟨x3,hx3,hM⟩:=zaf hM
  refine zaG (xs:=r1.2.1) (f:=Gap_.cells) (z:=0) (u:=x3) (by decide) rfl rfl zgT hx3 ?_
  refine Of ((Gap_.cells x3)) ziS ?_
  refine Olp (.sl .no 1 (x3.purse.map cI)) zao zaB ?_
  obtain ⟨r4,hr4,hM⟩:=zaf hM
  refine zat (bs:=[pA Box_.cells r1.1,.sl .no 1 (x3.purse.map cI)]) (by decide) rfl rfl ((zbx hr4).le (.k (.k .nil))) ?_
  refine Oa (.i r4) ?_
  refine Oa (.i 0) ?_
  refine Ni ?_
  refine ze0 [(2,.i r4),(3,.i 0)] (.k (.k .nil)) ?_
  refine zaM ?_
  refine zaX (x:=.tup [.i r4,.i 0]) (f:=fun r=>.tup [.i r.1,.i r.2]) (.inr rfl) ?_ (.refl _) (Option.some.inj hM) hS
  exact (zcD (zae (x:=.i r4) rfl) (zae (x:=.i 0) rfl))
theorem zcl {n:Nat} {a0:List Int} {a1:List Int} {r:Bool} (hM:zby n a0 a1=some r):zaC Tryz.prog 13 [.sl .no 1 (a0.map cI),.sl .no 1 (a1.map cI)] (.b r):=by
 refine zal mixed Tryz.func13 rfl (by decide) Tryz.ntmps13 (by simp) ?pure fun H0 g hf=>?_
 case pure=>exact .v _
 rw [zai]
 change wpA _ _ _ _ (Fr.of [(0,.sl .no 1 (a0.map cI)),(1,.sl .no 1 (a1.map cI))]) H0 g
 have hS:=St.start hf
 refine Sq ?_
 refine Rg 1 ?_
 refine Oa (.b false) ?_
 refine Ni ?_
 refine Ws ?_
 refine Sq ?_
 refine Sq ?_
 refine Rg 5 ?_
 refine Om (.sl .no 1 (a0.map cI)) ?_
 refine zbf (n:=a0.length) (by decide) rfl (List.length_map _) zaz ?_
 refine Om (.sl .no 1 (a1.map cI)) ?_
 refine zbf (n:=a1.length) (by decide) rfl (List.length_map _) zaz ?_
 refine Oi (.b ((a0.length:Int) != (a1.length:Int))) ?_
 refine Ni ?_
 refine Ws ?_
 rcases bft ((a0.length:Int) != (a1.length:Int)) with hb1 | hb1
 ·replace hM:=ifT hM hb1
  refine Ct hb1 ?_
  refine Sq ?_
  refine Rg 1 ?_
  refine Oa (.b false) ?_
  refine Ni ?_
  refine Ws ?_
  refine zaM ?_
  refine zar ?_
  refine zaX (x:=.b false) (f:=fun r=>.b r) (.inr rfl) ?_ (.refl _) (Option.some.inj hM) hS
  exact (zau (zae (x:=.b false) rfl))
 ·replace hM:=ifF hM hb1
  refine Cf hb1 ?_
  refine zav ?_
  refine Ws ?_
  refine zaR (J:=Unit) (fun j=>[]) (fun j H' g'=>St (·<g) H0 [] H' g'/\zeR=some r) ?_ ?_
  ·rintro _ H g1 ⟨hS,hM⟩
   change wpA _ _ _ _ (Fr.of []) _ _
   replace hS:St (·<g) H0 [] H g1:=hS
   replace hM:zeR=some r:=hM
   refine Sq ?_
   refine Rg 1 ?_
   refine Oa (.b true) ?_
   refine Ni ?_
   refine Ws ?_
   refine zaM ?_
   refine zaX (x:=.b true) (f:=fun r=>.b r) (.inr rfl) ?_ (.refl _) (Option.some.inj hM) hS
   exact (zau (zae (x:=.b true) rfl))
  ·refine Sq ?_
   refine Rg 1 ?_
   refine Oa (.i 0) ?_
   refine Ni ?_
   refine Ws ?_
   refine zan ?_
   refine zbg (V:=Int) (fun v=>[(0,.sl .no 1 (a0.map cI)),(1,.sl .no 1 (a1.map cI)),(5,.i v)]) (fun v m2 H' g'=>St (·<g) H0 [] H' g'/\zb3 a0 a1 m2 v=some r) (n:=n) 0 (.k (.k (.k .nil))) ⟨(hS.keep [] rfl).up (by omega),hM⟩ ?_
   rintro v2 m2 H g2 ⟨hS,hM⟩
   obtain _ | m2:=m2
   ·exact nomatch (show none=some _ from hM)
   change wpA _ _ _ _ (Fr.of [(0,.sl .no 1 (a0.map cI)),(1,.sl .no 1 (a1.map cI)),(5,.i v2)]) _ _
   replace hS:St (·<g) H0 [] H g2:=hS
   replace hM:zdV a0 a1 (zb3 a0 a1 m2) v2=some r:=hM
   refine Sq ?_
   refine Sq ?_
   refine Rg 4 ?_
   refine Om (.i v2) ?_
   refine Om (.sl .no 1 (a0.map cI)) ?_
   refine zbf (n:=a0.length) (by decide) rfl (List.length_map _) zaz ?_
   refine Oi (.b (decide (v2<(a0.length:Int)))) ?_
   refine Ni ?_
   refine Ws ?_
   rcases bft (decide (v2<(a0.length:Int))) with hb3 | hb3
   ·replace hM:=ifT hM hb3
    refine Ct hb3 ?_
    refine zav ?_
    refine Ws ?_
    refine Sq ?_
    refine zan ?_
    refine Sq ?_
    have hS0:=hS
    refine zb7 (n:=9) rfl (by kernel_rfl) ?_
    refine Om (.sl .no 1 (a0.map cI)) ?_
    refine Om (.i v2) ?_
    obtain ⟨x4,hx4,hM⟩:=zaf hM
    refine zaG (xs:=a0) (f:=cI) (z:=v2) (u:=x4) (by decide) rfl rfl zaq hx4 ?_
    refine Olp (.i x4) zah zas ?_
    refine Om (.sl .no 1 (a1.map cI)) ?_
    refine Om (.i v2) ?_
    obtain ⟨x5,hx5,hM⟩:=zaf hM
    refine zaG (xs:=a1) (f:=cI) (z:=v2) (u:=x5) (by decide) rfl rfl zaq hx5 ?_
    refine Olp (.i x5) zah zas ?_
    refine Oi (.b (x4 != x5)) ?_
    refine Ni ?_
    refine Ws ?_
    rcases bft (x4 != x5) with hb6 | hb6
    ·replace hM:=ifT hM hb6
     refine Ct hb6 ?_
     refine Sq ?_
     refine Rg 1 ?_
     refine Oa (.b false) ?_
     refine Ni ?_
     refine Ws ?_
     refine zaM ?_
     refine za5 ?_
     refine zar ?_
     refine zbR ?_
     refine za5 ?_
     refine zct ?_
     refine zaX (x:=.b false) (f:=fun r=>.b r) (.inr rfl) ?_ (.refl _) (Option.some.inj hM) hS
     exact (zau (zae (x:=.b false) rfl))
    ·replace hM:=ifF hM hb6
     refine Cf hb6 ?_
     refine zav ?_
     refine zag ?_
     refine Ws ?_
     refine Rg 3 ?_
     refine Om (.i v2) ?_
     refine Oi (.i (w64 (v2+1))) ?_
     refine Oa (.i (w64 (v2+1))) ?_
     refine Ni ?_
     exact za0 (w64 (v2+1)) (Nat.lt_succ_self _) (.k (.k (.k .nil))) ⟨(hS.keep [] rfl).up (by omega),hM⟩
   ·replace hM:=ifF hM hb3
    refine Cf hb3 ?_
    refine zbb ?_
    refine zam ?_
    refine zaj ?_
    refine zap ?_
    exact zak () .nil ⟨(hS.keep [] rfl).up (by omega),hM⟩
theorem zmo {r:Wheel} (hM:zj4=some r):zaC Tryz.prog 55 [] (.agg [.i r.Round,.sl .no 1 (r.Notches.map cI),.sl .no 1 (r.Coins.map cI)]):=by
 refine zal mixed Tryz.func55 rfl (by decide) Tryz.ntmps55 (by simp) ?pure fun H0 g hf=>?_
 case pure=>exact .agg _ (zab (.v _) (zab (.sl _ _ (zaw (fun x=>(zab (.v _) zaE)))) (zab (.sl _ _ (zaw (fun x=>(zab (.v _) zaE)))) zaE)))
 rw [zai]
 change wpA _ _ _ _ (Fr.of []) H0 g
 have hS:=St.start hf
 refine Sq ?_
 refine Rg 1 ?_
 refine zbK hS (by decide) zkb (by omega) fun H hS=>?_
 refine Ni ?_
 refine Ws ?_
 refine Sq ?_
 refine Rg 4 ?_
 refine zaU (es:=[[.i 10],[.i 20],[.i 25]]) hS (by decide) zaq zbc rfl za9 rfl (by decide) (by omega) fun H hS=>?_
 refine zaU (es:=[[.i 5],[.i 10],[.i 25]]) hS (by decide) zaq zbc rfl za9 rfl (by decide) (by omega) fun H hS=>?_
 refine zb4 (cs:=[.i 50,.sl (.id (g+1+0)) 1 (([10,20,25]:List Int).map cI),.sl (.id (g+1+1)) 1 (([5,10,25]:List Int).map cI)]) (by decide) zkb ztj rfl ?_
 refine za2 (v:=.agg [.i 50,.sl (.id (g+1+0)) 1 (([10,20,25]:List Int).map cI),.sl (.id (g+1+1)) 1 (([5,10,25]:List Int).map cI)]) (ns:=[.i 50,.sl (.id (g+1+0)) 1 (([10,20,25]:List Int).map cI),.sl (.id (g+1+1)) 1 (([5,10,25]:List Int).map cI)]) (L':=[(g+1+1,.row 3 3),(g+1+0,.row 3 3),(g+0,.cells [.i 50,.sl (.id (g+1+0)) 1 (([10,20,25]:List Int).map cI),.sl (.id (g+1+1)) 1 (([5,10,25]:List Int).map cI)])]) 2 hS rfl rfl .no rfl rfl zn1 nlb rfl fun H hS=>?_
 refine Ni ?_
 refine ze0 [(0,.ptr (g+0) 0)] (.k .nil) ?_
 refine zaM ?_
 refine zaX (x:=.agg [.i 50,.sl (.id (g+1+0)) 1 (([10,20,25]:List Int).map cI),.sl (.id (g+1+1)) 1 (([5,10,25]:List Int).map cI)]) (f:=fun r=>.agg [.i r.Round,.sl .no 1 (r.Notches.map cI),.sl .no 1 (r.Coins.map cI)]) (.inr rfl) ?_ (.aggL (.k (.cons (.sl _ _ _) (.cons (.sl _ _ _) .nil)))) (Option.some.inj hM) hS
 exact (zau (zdy (x:=.agg [.i 50,.sl (.id (g+1+0)) 1 (([10,20,25]:List Int).map cI),.sl (.id (g+1+1)) 1 (([5,10,25]:List Int).map cI)]) 2 hS rfl rfl (pg zbt)))
theorem zmp {r:Box} (hM:zij=some r):zaC Tryz.prog 26 [] (.agg [.i r.Wheel.Round,.sl .no 1 (r.Wheel.Notches.map cI),.sl .no 1 (r.Wheel.Coins.map cI),.sl .no 1 (r.Found.map cI),.sl .no 1 (r.Marked.map cI),.sl .no 1 (r.Slugs.map cI),.i r.Plays,.i r.Skips]):=by
 refine zal mixed Tryz.func26 rfl (by decide) Tryz.ntmps26 (by simp) ?pure fun H0 g hf=>?_
 case pure=>exact .agg _ (zab (.v _) (zab (.sl _ _ (zaw (fun x=>(zab (.v _) zaE)))) (zab (.sl _ _ (zaw (fun x=>(zab (.v _) zaE)))) (zab (.sl _ _ (zaw (fun x=>(zab (.v _) zaE)))) (zab (.sl _ _ (zaw (fun x=>(zab (.v _) zaE)))) (zab (.sl _ _ (zaw (fun x=>(zab (.v _) zaE)))) (zab (.v _) (zab (.v _) zaE))))))))
 rw [zai]
 change wpA _ _ _ _ (Fr.of []) H0 g
 have hS:=St.start hf
 refine Sq ?_
 refine Rg 1 ?_
 refine zbK hS (by decide) zh1 (by omega) fun H hS=>?_
 refine Ni ?_
 refine Ws ?_
 refine Sq ?_
 refine Rg 6 ?_
 obtain ⟨r1,hr1,hM⟩:=zaf hM
 refine zat (bs:=[]) (by decide) rfl rfl ((zmo hr1).le .nil) ?_
 refine zaU (es:=[[.i 0],[.i 2],[.i 1]]) hS (by decide) zaq zbc rfl za9 rfl (by decide) (by omega) fun H hS=>?_
 refine zaU (es:=[[.i 0],[.i 1],[.i 0]]) hS (by decide) zaq zbc rfl za9 rfl (by decide) (by omega) fun H hS=>?_
 refine zaU (es:=[[.i 0],[.i 0],[.i 0]]) hS (by decide) zaq zbc rfl za9 rfl (by decide) (by omega) fun H hS=>?_
 refine zb4 (cs:=[.i r1.Round,.sl .no 1 (r1.Notches.map cI),.sl .no 1 (r1.Coins.map cI),.sl (.id (g+1+1)) 1 (([0,2,1]:List Int).map cI),.sl (.id (g+1+2)) 1 (([0,1,0]:List Int).map cI),.sl (.id (g+1+3)) 1 (([0,0,0]:List Int).map cI),.i 6,.i 0]) (by decide) zh1 zv3 rfl ?_
 refine za2 (v:=.agg [.i r1.Round,.sl .no 1 (r1.Notches.map cI),.sl .no 1 (r1.Coins.map cI),.sl (.id (g+1+1)) 1 (([0,2,1]:List Int).map cI),.sl (.id (g+1+2)) 1 (([0,1,0]:List Int).map cI),.sl (.id (g+1+3)) 1 (([0,0,0]:List Int).map cI),.i 6,.i 0]) (ns:=[.i r1.Round,.sl .no 1 (r1.Notches.map cI),.sl .no 1 (r1.Coins.map cI),.sl (.id (g+1+1)) 1 (([0,2,1]:List Int).map cI),.sl (.id (g+1+2)) 1 (([0,1,0]:List Int).map cI),.sl (.id (g+1+3)) 1 (([0,0,0]:List Int).map cI),.i 6,.i 0]) (L':=[(g+1+3,.row 3 3),(g+1+2,.row 3 3),(g+1+1,.row 3 3),(g+0,.cells [.i r1.Round,.sl .no 1 (r1.Notches.map cI),.sl .no 1 (r1.Coins.map cI),.sl (.id (g+1+1)) 1 (([0,2,1]:List Int).map cI),.sl (.id (g+1+2)) 1 (([0,1,0]:List Int).map cI),.sl (.id (g+1+3)) 1 (([0,0,0]:List Int).map cI),.i 6,.i 0])]) 3 hS rfl rfl .no rfl rfl zkc nlb rfl fun H hS=>?_
 refine Ni ?_
 refine ze0 [(0,.ptr (g+0) 0)] (.k .nil) ?_
 refine zaM ?_
 refine zaX (x:=.agg [.i r1.Round,.sl .no 1 (r1.Notches.map cI),.sl .no 1 (r1.Coins.map cI),.sl (.id (g+1+1)) 1 (([0,2,1]:List Int).map cI),.sl (.id (g+1+2)) 1 (([0,1,0]:List Int).map cI),.sl (.id (g+1+3)) 1 (([0,0,0]:List Int).map cI),.i 6,.i 0]) (f:=fun r=>.agg [.i r.Wheel.Round,.sl .no 1 (r.Wheel.Notches.map cI),.sl .no 1 (r.Wheel.Coins.map cI),.sl .no 1 (r.Found.map cI),.sl .no 1 (r.Marked.map cI),.sl .no 1 (r.Slugs.map cI),.i r.Plays,.i r.Skips]) (.inr rfl) ?_ (.aggL (.k (.k (.k (.cons (.sl _ _ _) (.cons (.sl _ _ _) (.cons (.sl _ _ _) (.k (.k .nil))))))))) (Option.some.inj hM) hS
 exact (zau (zdy (x:=.agg [.i r1.Round,.sl .no 1 (r1.Notches.map cI),.sl .no 1 (r1.Coins.map cI),.sl (.id (g+1+1)) 1 (([0,2,1]:List Int).map cI),.sl (.id (g+1+2)) 1 (([0,1,0]:List Int).map cI),.sl (.id (g+1+3)) 1 (([0,0,0]:List Int).map cI),.i 6,.i 0]) 3 hS rfl rfl (pg za4)))
theorem zh8 {n:Nat} {a0:Option Box_} {r:List Int} (hM:zdJ n a0=some r):zaC Tryz.prog 57 [pA Box_.cells a0] (.sl .no 1 (r.map cI)):=by
 refine zal mixed Tryz.func57 rfl (by decide) Tryz.ntmps57 (by simp) ?pure fun H0 g hf=>?_
 case pure=>exact .sl _ _ (zaw (fun x=>(zab (.v _) zaE)))
 rw [zai]
 change wpA _ _ _ _ (Fr.of [(0,pA Box_.cells a0)]) H0 g
 have hS:=St.start hf
 unfold zdJ at hM
 refine Sq ?_
 refine Rg 1 ?_
 refine Oa (.sl .nil 0 []) ?_
 refine Ni ?_
 refine Ws ?_
 refine Sq ?_
 refine Rg 10 ?_
 refine Om (pA Box_.cells a0) ?_
 refine Om (pA Box_.cells a0) ?_
 obtain ⟨r1,hr1,hM⟩:=zaf hM
 refine zat (bs:=[pA Box_.cells a0]) (by decide) rfl rfl ((zgi hr1).le (.k .nil)) ?_
 obtain ⟨M,hMM,hM⟩:=zaf hM
 refine zqG (bs:=[pA Box_.cells a0,.agg (Bag_.cells r1)]) (p:=zaK (mpw zad zax M)) hS (by decide) rfl rfl ((zhG hMM).le (.k (.k .nil))) (zab (zq0 _) (zab (.agg _ (zab (.v _) (zab (.v _) (zab (.v _) (zab (.v _) zaE))))) zaE)) (by omega) fun H hS=>?_
 refine Om (pA Box_.cells a0) ?_
 obtain ⟨r2,hr2,hM⟩:=zaf hM
 refine zat (bs:=[pA Box_.cells a0]) (by decide) rfl rfl ((zgi hr2).le (.k .nil)) ?_
 have hok:zj2 M=true:=by
  cases h:zj2 M with
  | true=>rfl
  | false=>rw [if_neg (by rw [h];simp)] at hM;cases hM
 rw [if_pos hok] at hM
 obtain rfl:=Option.some.inj hM
 refine zoQ (M:=[((g+1+3),.obj none (zaK (mpw zad zax M)))]) (L:=[]) (.inl rfl) hS (by decide) rfl rfl (zjw hok) (by omega) ?_
 rintro v M' H gE ⟨l,jn,hlp,hjn,rfl,rfl⟩ hgE hS
 have hEp:(l.foldl (zbk r2) []).Perm (zfD r2 M):=zoY hlp
 have hEn:((l.foldl (zbk r2) []).map (·.1)).Nodup:=(zmg r2 l).nd
 have hEk:∀x,x∈l.foldl (zbk r2) []->okI x.1=true:=(zkn l [] (fun b=>okI b=true) (fun p hp=>by obtain ⟨x,hx,rfl⟩:=List.mem_map.1 (hlp.mem_iff.1 hp);exact List.all_eq_true.1 (Bool.and_eq_true_iff.1 hok).1 x hx) (fun p hp=>by simp at hp) (by simp)).1
 have hEl:(l.foldl (zbk r2) []).length<=1048576:=by have h1:=zlE (al:=r2) l [];have h2:=hlp.length_eq;have h3:=of_decide_eq_true (Bool.and_eq_true_iff.1 hok).2;simp only [List.length_map,List.length_nil] at h1 h2;omega
 refine ztu (.inl rfl) hS (by decide) rfl rfl zvo (by omega) fun H hS=>?_
 refine zqO (E:=l.foldl (zbk r2) []) (cv:=zad) 0 1 (.inl rfl) hS (by decide) rfl rfl zqX (by kernel_rfl) rfl rfl hEk hEn hEl (by omega) ?_
 rw [show zgd ((l.foldl (zbk r2) []).map (·.1))=zgd ((zfD r2 M).map (·.1)) from zio (hEp.map _)]
 refine Oa (.sl .no 1 ((zgd ((zfD r2 M).map (·.1))).map cI)) ?_
 refine Ni ?_
 refine ze0 [(2,.sl .no 1 ((zgd ((zfD r2 M).map (·.1))).map cI))] (.k .nil) ?_
 refine zaM ?_
 refine zaX (x:=.sl .no 1 ((zgd ((zfD r2 M).map (·.1))).map cI)) (f:=fun (r:List Int)=>.sl .no 1 (r.map cI)) (.inr rfl) ?_ (.refl _) rfl hS
 exact (zau (zae rfl))
theorem zn8 {n:Nat} {a0:Box} {r:(List Int)×Int} (hM:zik n a0=some r):zaC Tryz.prog 27 [.agg (Box.cells a0)] (.tup [.sl .no 1 (r.1.map cI),.i r.2]):=by
 refine zal mixed Tryz.func27 rfl (by decide) Tryz.ntmps27 (by simp) ?pure fun H0 g hf=>?_
 case pure=>exact .tup _ (zab (.sl _ _ (zaw (fun x=>(zab (.v _) zaE)))) (zab (.v _) zaE))
 rw [zai]
 change wpA _ _ _ _ (Fr.of [(0,.agg (Box.cells a0))]) H0 g
 have hS:=St.start hf
 refine Sq ?_
 refine Rg 3 ?_
 refine zcu (v:=.agg (Box.cells a0)) (cs:=(Box.cells a0)) hS (by decide) rfl rfl (by omega) fun H hS=>?_
 refine Oa (.sl .nil 0 []) ?_
 refine Oa (.i 0) ?_
 refine Ni ?_
 refine za8 (L':=[]) 0 1 hS rfl rfl rfl fun H hS=>?_
 refine Ws ?_
 refine Sq ?_
 refine Rg 7 ?_
 refine Olg (.agg (Box.cells a0)) za4 ?_
 obtain ⟨r1,hr1,hM⟩:=zaf hM
 refine zat (bs:=[.agg (Box.cells a0)]) (by decide) rfl rfl ((zgB hr1).le (.k .nil)) ?_
 refine Om (.tup [pA Box_.cells r1.1,.i r1.2]) ?_
 refine Ox (pA Box_.cells r1.1) ?_
 refine Ox (.i r1.2) ?_
 refine Oa (pA Box_.cells r1.1) ?_
 refine Oa (.i r1.2) ?_
 refine Ni ?_
 refine Ws ?_
 refine Sq ?_
 refine Sq ?_
 refine Rg 2 ?_
 refine Om (.i r1.2) ?_
 refine Oi (.b (r1.2 != 0)) ?_
 refine Ni ?_
 refine Ws ?_
 rcases bft (r1.2 != 0) with hb2 | hb2
 ·replace hM:=ifT hM hb2
  refine Ct hb2 ?_
  refine Sq ?_
  refine Rg 3 ?_
  refine Om (.i r1.2) ?_
  refine Oa (.sl .nil 0 []) ?_
  refine Oa (.i r1.2) ?_
  refine Ni ?_
  refine Ws ?_
  refine zaM ?_
  refine zar ?_
  refine zaX (x:=.tup [.sl .nil 0 [],.i r1.2]) (f:=fun r=>.tup [.sl .no 1 (r.1.map cI),.i r.2]) (.inr rfl) ?_ (.tupL (.cons (.sl0 .nil 1 0) (.k .nil))) (Option.some.inj hM) hS
  exact (zcD (zae (x:=.sl .nil 0 []) rfl) (zae (x:=.i r1.2) rfl))
 ·replace hM:=ifF hM hb2
  refine Cf hb2 ?_
  refine zav ?_
  refine Ws ?_
  refine Sq ?_
  refine Rg 4 ?_
  refine Om (pA Box_.cells r1.1) ?_
  obtain ⟨r3,hr3,hM⟩:=zaf hM
  refine zat (bs:=[pA Box_.cells r1.1]) (by decide) rfl rfl ((zh8 hr3).le (.k .nil)) ?_
  refine Oa (.sl .no 1 (r3.map cI)) ?_
  refine Oa (.i 0) ?_
  refine Ni ?_
  refine Ws ?_
  refine zaM ?_
  refine zaX (x:=.tup [.sl .no 1 (r3.map cI),.i 0]) (f:=fun r=>.tup [.sl .no 1 (r.1.map cI),.i r.2]) (.inr rfl) ?_ (.refl _) (Option.some.inj hM) hS
  exact (zcD (zae (x:=.sl .no 1 (r3.map cI)) rfl) (zae (x:=.i 0) rfl))
end Go.Proofs.YtenogpmlhpcibaaGreat
