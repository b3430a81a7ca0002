/-
  The code returns what the functions say (printed by gen.py).
  Conditions: none.
-/
import Derived.Test.YtclaalcoefcljaaWkTopSent2
import Derived.Test.YtclaalcoefcljaaAmPc
set_option linter.all false
namespace Go.Proofs.Ytclaalcoefcljaa
open Go Go.AM Go.Law
set_option linter.unusedVariables false
set_option maxRecDepth 4000
set_option maxHeartbeats 4000000
theorem zfD {S:Type} {Lo:S->BL} (hk:∀s s',zgP (Lo s) (Lo s')) {p1:Nat} (hnd:∀s,([p1]++ids (Lo s)).Nodup) (hin:∀s,InB In (Lo s)) {aF:Reading_->S->Option (Bool×S)} {f0:AV} (hF:∀s H,Has H (Lo s)->In H f0) (h0:cellsOf f0=some [f0]) (hf:∀{x0:Reading_} {s:S} {r:Bool×S},aF x0 s=some r->zjR Try.prog f0 [.agg (Reading_.cells x0)] (Lo s) (.b r.1) (Lo r.2)) {n:Nat} {a0:Int} {a1:Train_} {st:S} {r:Bool×S} (hM:zbb n aF a0 a1 st=some r):zgT Try.prog 100 [.v (.int .u64 a0),.ptr p1 0,.ep [f0]] ([(p1,.cells (Train_.cells a1))]++Lo st) (.b r.1) ([(p1,.cells (Train_.cells a1))]++Lo r.2):=by
 have hnd0:∀s,(ids (Lo s)).Nodup:=fun s=>(List.nodup_append.1 (hnd s)).2.1
 refine zbx mixed Try.func100 rfl (by decide) Try.ntmps100 (by simp) (ziE (zbp zeF) (hk _ _)) (hnd st) ?pure ?cells fun H0 g hf_ hp=>?_
 case pure=>exact fun H _=>(show Go.AM.Pure _ from .v _).inH
 case cells=>exact (zff (zby (zad (.inl (.inl (.v _))) (zad (.inl (.inl (.v _))) (zad (.inl (.inl (.v _))) (zad (.inl (.inl (.v _))) (zad (.inl (.inl (.v _))) (zad (.inl (.inl (.v _))) (zad (.inl (.inl (.v _))) (zad (.inl (.inl (.sl _ _ (zav (fun x=>(zac (.v _) zaE)))))) zeE)))))))) zfe) (hin _))
 rw [zan]
 change wpA _ _ _ _ (Fr.of [(0,.v (.int .u64 a0)),(1,.ptr p1 0),(2,.ep [f0])]) H0 g
 have hS:=St.startH (L:=([(p1,.cells (Train_.cells a1))]++Lo st)) hf_ (zlw (hnd st)) hp
 replace hS:St (fun i=>i<g/\i∉ids ([(p1,.cells (Train_.cells a1))]++Lo st)) H0 ([(p1,.cells (Train_.cells a1))]++Lo st) H0 g:=hS
 refine Sq ?_
 refine Rg 1 ?_
 refine Oa (.b false) ?_
 refine Ni ?_
 refine Ws ?_
 refine Sq ?_
 refine Rg 1 ?_
 refine Oa (.sl .nil 0 []) ?_
 refine Ni ?_
 refine zp0 [(0,.v (.int .u64 a0)),(1,.ptr p1 0),(2,.ep [f0]),(5,.sl (.id (g+1+1)) 1 (([]:List Int).map cI))] 5 1 3 hS (by omega) (by decide) rfl (.k (.k (.k (.k .nil)))) fun H hS=>?_
 refine zaO (J:=(List Int)) (fun j=>[(0,.v (.int .u64 a0)),(1,.ptr p1 0),(2,.ep [f0]),(5,.sl (.id (g+1+1)) 1 (j.map cI))]) (fun j H' g'=>St (fun i=>i<g/\i∉ids ([(p1,.cells (Train_.cells a1))]++Lo st)) H0 ([(g+1+1,.row 3 j.length),(p1,.cells (Train_.cells a1))]++Lo st) H' g'/\zbP n a0 aF st a1 j=some r) ?_ ?_
 ·rintro v1 H g1 ⟨hS,hM⟩
  change wpA _ _ _ _ (Fr.of [(0,.v (.int .u64 a0)),(1,.ptr p1 0),(2,.ep [f0]),(5,.sl (.id (g+1+1)) 1 (v1.map cI))]) _ _
  replace hS:St (fun i=>i<g/\i∉ids ([(p1,.cells (Train_.cells a1))]++Lo st)) H0 ([(g+1+1,.row 3 v1.length),(p1,.cells (Train_.cells a1))]++Lo st) H g1:=hS
  replace hM:zbP n a0 aF st a1 v1=some r:=hM
  refine Sq ?_
  refine Rg 8 ?_
  refine zaG (v:=.agg (Train_.cells a1)) 1 hS (by decide) rfl rfl .no (pg zf3) ?_
  refine Om (.sl (.id (g+1+1)) 1 (v1.map cI)) ?_
  obtain ⟨r2,hr2,hM⟩:=zas hM
  refine zaP (bs:=[.agg (Train_.cells a1),.sl (.id (g+1+1)) 1 (v1.map cI)]) (by decide) rfl rfl ((zh2 hr2).le (.k (.cons (.sl _ _ _) .nil))) ?_
  refine Om (.tup [.sl .no 1 (r2.1.map cI),.b r2.2]) ?_
  refine Ox (.sl .no 1 (r2.1.map cI)) ?_
  refine Ox (.b r2.2) ?_
  refine Oa (.sl .no 1 (r2.1.map cI)) ?_
  refine Oa (.b r2.2) ?_
  refine Ni ?_
  replace hS:=hS.keep (L':=([(p1,.cells (Train_.cells a1))]++Lo st)) [false,true] rfl
  refine Ws ?_
  refine zaO (J:=Bool×S) (fun j=>[(4,.b j.1)]) (fun j H' g'=>St (fun i=>i<g/\i∉ids ([(p1,.cells (Train_.cells a1))]++Lo st)) H0 ([(p1,.cells (Train_.cells a1))]++Lo j.2) H' g'/\zbl j.1 j.2=some r) ?_ ?_
  ·rintro ⟨v3,v4⟩ H g2 ⟨hS,hM⟩
   change wpA _ _ _ _ (Fr.of [(4,.b v3)]) _ _
   replace hS:St (fun i=>i<g/\i∉ids ([(p1,.cells (Train_.cells a1))]++Lo st)) H0 ([(p1,.cells (Train_.cells a1))]++Lo v4) H g2:=hS
   replace hM:zbl v3 v4=some r:=hM
   refine zaQ ?_
   refine zdg (x:=.b v3) (f:=fun r=>.b r.1) (fd:=fun r=>([(p1,.cells (Train_.cells a1))]++Lo r.2)) (.inr rfl) ?_ (.refl _) (Option.some.inj hM) hS 0 rfl
   exact (zaw (zai (x:=.b v3) rfl))
  ·refine Rg 10 ?_
   refine Om (.b r2.2) ?_
   refine zdW (e:=r2.2) (by decide) rfl ?_
   refine Om (.b (!r2.2)) ?_
   rcases bft (!r2.2) with hb5 | hb5
   ·replace hM:=ifT hM hb5
    refine On (want:=false) hb5 ?_
    refine On (want:=false) hb5 ?_
    refine On (want:=false) hb5 ?_
    refine On (want:=false) hb5 ?_
    refine On (want:=false) hb5 ?_
    refine Pt (.b true) hb5 ?_
    refine Oa (.b true) ?_
    refine Ni ?_
    exact zak (true,st) (.k .nil) ⟨(hS.keep [true] rfl).up (by omega),hM⟩
   ·replace hM:=ifF hM hb5
    refine Oy (want:=false) hb5 ?_
    refine Olp (f0) zpi zqq ?_
    refine Oy (want:=false) hb5 ?_
    refine Om (.v (.int .u64 a0)) ?_
    refine Oy (want:=false) hb5 ?_
    refine Om (.sl .no 1 (r2.1.map cI)) ?_
    refine Oy (want:=false) hb5 ?_
    refine zdb (cs:=[.v (.int .u64 a0),.sl .no 1 (r2.1.map cI)]) (by decide) ziH zqn rfl ?_
    refine Oy (want:=false) hb5 ?_
    obtain ⟨r6,hr6,hM⟩:=zas hM
    replace hS:St (fun i=>i<g/\i∉ids ([(p1,.cells (Train_.cells a1))]++Lo st)) H0 ([(p1,.cells (Train_.cells a1))]++Lo st) _ _:=hS
    refine ziC (bs:=[.agg [.v (.int .u64 a0),.sl .no 1 (r2.1.map cI)]]) (.inl rfl) hS (by decide) rfl rfl ((hf hr6).le (.k .nil)) (hk _ _).ids (by omega) fun H hS=>?_
    refine Pf (.b r6.1) hb5 ?_
    refine Oa (.b r6.1) ?_
    refine Ni ?_
    exact zak (r6.1,r6.2) (.k .nil) ⟨(hS.keep [true] rfl).up (by omega),hM⟩
 ·refine Sq ?_
  refine Rg 5 ?_
  refine zag (by decide) zc1 rfl ?_
  refine zag (by decide) zdR rfl ?_
  refine zaG (v:=.sl .no 1 (a1.Pulse.Times.map cI)) 1 hS (by decide) rfl rfl .no (po zb6 zcX) ?_
  refine zcg (n:=a1.Pulse.Times.length) (by decide) rfl (List.length_map _) zbA ?_
  refine Om (.i 0) ?_
  refine Ni ?_
  refine Ws ?_
  refine zaz ?_
  refine zcx (V:=(List Int)×Int) (fun v=>[(0,.v (.int .u64 a0)),(1,.ptr p1 0),(2,.ep [f0]),(5,.sl (.id (g+1+1)) 1 (v.1.map cI)),(12,.sl .no 1 (a1.Pulse.Times.map cI)),(13,.i (a1.Pulse.Times.length:Int)),(14,.i v.2)]) (fun v m3 H' g'=>St (fun i=>i<g/\i∉ids ([(p1,.cells (Train_.cells a1))]++Lo st)) H0 ([(g+1+1,.row 3 v.1.length),(p1,.cells (Train_.cells a1))]++Lo st) H' g'/\zaF n a0 aF st a1 m3 v.1 v.2=some r) (n:=n) (([]:List Int),0) (.k (.k (.k (.k (.k (.k (.k .nil))))))) ⟨(hS.keep [true,true] rfl).up (by omega),hM⟩ ?_
  rintro ⟨v7,v8⟩ m3 H g3 ⟨hS,hM⟩
  obtain _ | m3:=m3
  ·exact nomatch (show none=some _ from hM)
  change wpA _ _ _ _ (Fr.of [(0,.v (.int .u64 a0)),(1,.ptr p1 0),(2,.ep [f0]),(5,.sl (.id (g+1+1)) 1 (v7.map cI)),(12,.sl .no 1 (a1.Pulse.Times.map cI)),(13,.i (a1.Pulse.Times.length:Int)),(14,.i v8)]) _ _
  replace hS:St (fun i=>i<g/\i∉ids ([(p1,.cells (Train_.cells a1))]++Lo st)) H0 ([(g+1+1,.row 3 v7.length),(p1,.cells (Train_.cells a1))]++Lo st) H g3:=hS
  replace hM:zbz n a0 aF st a1 (zaF n a0 aF st a1 m3) v7 v8=some r:=hM
  refine Sq ?_
  refine Rg 1 ?_
  refine Oi (.b (decide (v8<(a1.Pulse.Times.length:Int)))) ?_
  refine Ni ?_
  refine Ws ?_
  refine Sq ?_
  rcases bft (decide (v8<(a1.Pulse.Times.length:Int))) with hb9 | hb9
  ·replace hM:=ifT hM hb9
   refine Ct hb9 ?_
   refine zaC ?_
   refine Ws ?_
   refine zaO (J:=(List Int)) (fun j=>[(0,.v (.int .u64 a0)),(1,.ptr p1 0),(2,.ep [f0]),(5,.sl (.id (g+1+1)) 1 (j.map cI)),(12,.sl .no 1 (a1.Pulse.Times.map cI)),(13,.i (a1.Pulse.Times.length:Int)),(14,.i v8)]) (fun j H' g'=>St (fun i=>i<g/\i∉ids ([(p1,.cells (Train_.cells a1))]++Lo st)) H0 ([(g+1+1,.row 3 j.length),(p1,.cells (Train_.cells a1))]++Lo st) H' g'/\zbm (zaF n a0 aF st a1 m3) v8 j=some r) ?_ ?_
   ·rintro v10 H g4 ⟨hS,hM⟩
    change wpA _ _ _ _ (Fr.of [(0,.v (.int .u64 a0)),(1,.ptr p1 0),(2,.ep [f0]),(5,.sl (.id (g+1+1)) 1 (v10.map cI)),(12,.sl .no 1 (a1.Pulse.Times.map cI)),(13,.i (a1.Pulse.Times.length:Int)),(14,.i v8)]) _ _
    replace hS:St (fun i=>i<g/\i∉ids ([(p1,.cells (Train_.cells a1))]++Lo st)) H0 ([(g+1+1,.row 3 v10.length),(p1,.cells (Train_.cells a1))]++Lo st) H g4:=hS
    replace hM:zbm (zaF n a0 aF st a1 m3) v8 v10=some r:=hM
    refine Rg 2 ?_
    refine Oi (.i (w64 (v8+1))) ?_
    refine Om (.i (w64 (v8+1))) ?_
    refine Ni ?_
    exact zbF (v10,w64 (v8+1)) (Nat.lt_succ_self _) (.k (.k (.k (.k (.k (.k (.k .nil))))))) ⟨(hS.keep [true,true] rfl).up (by omega),hM⟩
   ·refine zaz ?_
    refine Sq ?_
    refine Rg 5 ?_
    refine Om (.i v8) ?_
    obtain ⟨x11,hx11,hM⟩:=zas hM
    refine zbu (xs:=a1.Pulse.Times) (f:=cI) (z:=v8) (u:=x11) (by decide) rfl rfl zbL hx11 ?_
    refine Olp (.i x11) zaf zap ?_
    refine Oa (.i v8) ?_
    refine Oa (.i x11) ?_
    refine Ni ?_
    refine Ws ?_
    refine Sq ?_
    refine Rg 4 ?_
    refine Om (.v (.int .u64 a0)) ?_
    refine Om (.i v8) ?_
    obtain ⟨r12,hr12,hM⟩:=zas hM
    refine zaP (bs:=[.v (.int .u64 a0),.i v8]) (by decide) rfl rfl ((ziX hr12).le (.k (.k .nil))) ?_
    refine zdW (e:=r12) (by decide) rfl ?_
    refine Ni ?_
    refine Ws ?_
    rcases bft (!r12) with hb13 | hb13
    ·replace hM:=ifT hM hb13
     refine Ct hb13 ?_
     refine Rg 5 ?_
     refine Om (.sl (.id (g+1+1)) 1 (v7.map cI)) ?_
     refine Om (.i x11) ?_
     refine zbj (es:=[[.i x11]]) hS (by decide) zbL zeB rfl zeC rfl (by decide) (by omega) fun H hS=>?_
     obtain ⟨l14,hl14,hM⟩:=zas hM
     refine zdJ (xs:=v7) (ys:=([x11]:List Int)) (zs:=l14) (f:=cI) (L':=([(g3+1+5+4+2,.row 3 1),(g+1+1,.row 3 l14.length),(p1,.cells (Train_.cells a1))]++Lo st)) 1 hS (by decide) rfl rfl rfl rfl .no zbL zeB zeC hl14 rfl fun H hS=>?_
     refine Oa (.sl (.id (g+1+1)) 1 (l14.map cI)) ?_
     refine Ni ?_
     refine zah ?_
     exact zak l14 (.k (.k (.k (.k (.k (.k (.k .nil))))))) ⟨(hS.keep [false,true,true] rfl).up (by omega),hM⟩
    ·replace hM:=ifF hM hb13
     refine Cf hb13 ?_
     refine zaC ?_
     refine zah ?_
     exact zak v7 (.k (.k (.k (.k (.k (.k (.k .nil))))))) ⟨(hS.keep [true,true] rfl).up (by omega),hM⟩
  ·replace hM:=ifF hM hb9
   refine Cf hb9 ?_
   refine zcp ?_
   refine zay ?_
   refine zau ?_
   refine zaD ?_
   exact zak v7 (.k (.k (.k (.k .nil)))) ⟨(hS.keep [true,true] rfl).up (by omega),hM⟩
theorem zf8 {S:Type} {Lo:S->BL} (hk:∀s s',zgP (Lo s) (Lo s')) {p1 p2:Nat} (hnd:∀s,([p1,p2]++ids (Lo s)).Nodup) (hin:∀s,InB In (Lo s)) {aF:Reading_->S->Option (Bool×S)} {f0:AV} (hF:∀s H,Has H (Lo s)->In H f0) (h0:cellsOf f0=some [f0]) (hf:∀{x0:Reading_} {s:S} {r:Bool×S},aF x0 s=some r->zjR Try.prog f0 [.agg (Reading_.cells x0)] (Lo s) (.b r.1) (Lo r.2)) {n:Nat} {a1:Train_} {a2:Int} {st:S} {r:Unit×S} (hM:zcM n aF a1 a2 st=some r):zgT Try.prog 98 [f0,.ptr p1 0,.ptr p2 0] ([(p1,.cells (Train_.cells a1)),(p2,.cells [.i a2])]++Lo st) (.tup []) ([(p1,.cells (Train_.cells a1)),(p2,.cells [.i a2])]++Lo r.2):=by
 have hnd0:∀s,(ids (Lo s)).Nodup:=fun s=>(List.nodup_append.1 (hnd s)).2.1
 refine zbx mixed Try.func98 rfl (by decide) Try.ntmps98 (by simp) (ziE (zbp (zbp zeF)) (hk _ _)) (hnd st) ?pure ?cells fun H0 g hf_ hp=>?_
 case pure=>exact fun H _=>(show Go.AM.Pure _ from .tup _ zaE).inH
 case cells=>exact (zff (zby (zad (.inl (.inl (.v _))) (zad (.inl (.inl (.v _))) (zad (.inl (.inl (.v _))) (zad (.inl (.inl (.v _))) (zad (.inl (.inl (.v _))) (zad (.inl (.inl (.v _))) (zad (.inl (.inl (.v _))) (zad (.inl (.inl (.sl _ _ (zav (fun x=>(zac (.v _) zaE)))))) zeE)))))))) (zby (zad (.inl (.inl (.v _))) zeE) zfe)) (hin _))
 rw [zan]
 change wpA _ _ _ _ (Fr.of [(0,f0),(1,.ptr p1 0),(2,.ptr p2 0)]) H0 g
 have hS:=St.startH (L:=([(p1,.cells (Train_.cells a1)),(p2,.cells [.i a2])]++Lo st)) hf_ (zlw (hnd st)) hp
 replace hS:St (fun i=>i<g/\i∉ids ([(p1,.cells (Train_.cells a1)),(p2,.cells [.i a2])]++Lo st)) H0 ([(p1,.cells (Train_.cells a1)),(p2,.cells [.i a2])]++Lo st) H0 g:=hS
 refine Sq ?_
 refine Rg 1 ?_
 refine zd2 (v:=f0) (cs:=[f0]) hS (by decide) rfl h0 (by omega) fun H hS=>?_
 refine Ni ?_
 refine zda (L':=([(p1,.cells (Train_.cells a1)),(p2,.cells [.i a2])]++Lo st)) 0 3 hS rfl rfl rfl fun H hS=>?_
 refine Ws ?_
 refine Rg 4 ?_
 refine zaG (v:=.agg (Train_.cells a1)) 0 hS (by decide) rfl rfl .no (pg zf3) ?_
 refine zaG (v:=.i a2) 1 hS (by decide) rfl rfl .no (po zaf zap) ?_
 refine zfP (first:=[]) (cap:=[.ptr p1 0,.ep [f0]]) (by decide) rfl rfl ?_
 obtain ⟨r1,hr1,hM⟩:=zas hM
 replace hS:St (fun i=>i<g/\i∉ids ([(p1,.cells (Train_.cells a1)),(p2,.cells [.i a2])]++Lo st)) H0 ([(p1,.cells (Train_.cells a1)),(p2,.cells [.i a2])]++Lo st) _ _:=hS
 have hndr1:=hS.nd_atS (ns:=[0]) (A:=[(p1,.cells (Train_.cells a1))]) (A':=[(p1,.cells (Train_.cells a1))]) (.cons rfl .nil) (by decide)
 have hncr1:=hS.nd_atS (ns:=[0]) (A:=[(p1,.cells (Train_.cells a1))]) (A':=[(p1,.cells (Train_.cells a1))]) (.cons rfl .nil) (by decide)
 refine zkR (bs:=[.agg (Train_.cells a1),.v (.int .u64 0),.i 0,.i a2,.fn (.func 100) [] [.ptr p1 0,.ep [f0]]]) (A:=[(p1,.cells (Train_.cells a1))]) (A':=[(p1,.cells (Train_.cells a1))]) (M:=Lo st) (M':=Lo r1.2) (L':=[(p1,.cells (Train_.cells a1)),(p2,.cells [.i a2])]) [0] (.inl rfl) hS (by decide) rfl rfl ((zf6 (Lo:=(fun s=>([(p1,.cells (Train_.cells a1))]++Lo s)))  (fun _ _=>ziE (zbp zeF) (hk _ _)) (fun s=>zjA (T':=Lo s) (hk _ _) hndr1) (fun s=>(zff (zby (zad (.inl (.inl (.v _))) (zad (.inl (.inl (.v _))) (zad (.inl (.inl (.v _))) (zad (.inl (.inl (.v _))) (zad (.inl (.inl (.v _))) (zad (.inl (.inl (.v _))) (zad (.inl (.inl (.v _))) (zad (.inl (.inl (.sl _ _ (zav (fun x=>(zac (.v _) zaE)))))) zeE)))))))) zfe) (hin _))) (aF:=(fun (x0:Int) s=>zbb n aF x0 a1 s)) (fun s H hH=>(.fn _ _ _ zgd (zhc (zkn hH 0 rfl) (zhc (.ep _ (zhc (hF _ H (zp8 hH)) zgd)) zgd)))) rfl (fun h=>zmt (zfD (Lo:=Lo) (p1:=p1)  hk (fun _=>zjA (hk _ _) hncr1) hin hF h0 hf h)) hr1).le (.k (.k (.k (.k (.k .nil)))))) (.cons rfl .nil) (hk _ _).ids rfl (by omega) fun H hS=>?_
 refine Ni ?_
 refine zdg (x:=.tup []) (f:=fun r=>.tup []) (fd:=fun r=>([(p1,.cells (Train_.cells a1)),(p2,.cells [.i a2])]++Lo r.2)) (.inl rfl) ?_ (.refl _) (Option.some.inj hM) hS 0 rfl
 exact rfl
theorem zfd {w0 p1 p2:Nat} (hnd:[w0,p1,p2].Nodup) {n:Nat} {a0:List Reading_} {a91:Train_} {a92:Int} {r:(List Reading_)} (hM:zbQ n a0 a91 a92=some r):zgT Try.prog 80 [.sl (.id w0) 2 (a0.map Reading_.cells),.fn (.func 98) [] [.ptr p1 0,.ptr p2 0]] [(w0,.row 148 a0.length),(p1,.cells (Train_.cells a91)),(p2,.cells [.i a92])] (.sl (.id w0) 2 (r.map Reading_.cells)) [(w0,.row 148 r.length),(p1,.cells (Train_.cells a91)),(p2,.cells [.i a92])]:=by
 refine zbx mixed Try.func80 rfl (by decide) Try.ntmps80 (by simp) (zgQ (zbp (zbp zeF))) hnd ?pure ?cells fun H0 g hf_ hp=>?_
 case pure=>exact fun H hH=>zsA hH 0 rfl (zav (fun x=>(zac (.v _) (zac (.sl _ _ (zav (fun x=>(zac (.v _) zaE)))) zaE))))
 case cells=>exact (zrr (zff (zby (zad (.inl (.inl (.v _))) (zad (.inl (.inl (.v _))) (zad (.inl (.inl (.v _))) (zad (.inl (.inl (.v _))) (zad (.inl (.inl (.v _))) (zad (.inl (.inl (.v _))) (zad (.inl (.inl (.v _))) (zad (.inl (.inl (.sl _ _ (zav (fun x=>(zac (.v _) zaE)))))) zeE)))))))) (zby (zad (.inl (.inl (.v _))) zeE) zfe)) ze2))
 rw [zan]
 change wpA _ _ _ _ (Fr.of [(0,.sl (.id w0) 2 (a0.map Reading_.cells)),(1,.fn (.func 98) [] [.ptr p1 0,.ptr p2 0])]) H0 g
 have hS:=St.startH (L:=[(w0,.row 148 a0.length),(p1,.cells (Train_.cells a91)),(p2,.cells [.i a92])]) hf_ hnd hp
 replace hS:St (fun i=>i<g/\i∉ids [(w0,.row 148 a0.length),(p1,.cells (Train_.cells a91)),(p2,.cells [.i a92])]) H0 [(w0,.row 148 a0.length),(p1,.cells (Train_.cells a91)),(p2,.cells [.i a92])] H0 g:=hS
 refine Sq ?_
 refine Rg 2 ?_
 refine zd2 (v:=.sl (.id w0) 2 (a0.map Reading_.cells)) (cs:=[.sl (.id w0) 2 (a0.map Reading_.cells)]) hS (by decide) rfl rfl (by omega) fun H hS=>?_
 refine Oa (.sl .nil 0 []) ?_
 refine Ni ?_
 refine Ws ?_
 refine Sq ?_
 refine Sq ?_
 refine Rg 1 ?_
 refine Om (.fn (.func 98) [] [.ptr p1 0,.ptr p2 0]) ?_
 refine Ni ?_
 refine Ws ?_
 refine zaz ?_
 obtain ⟨r3,hr3,hM⟩:=zas hM
 refine zqa (Lo:=fun s:(List Reading_)=>[(g+0,.cells [.sl (.id w0) 2 (s.map Reading_.cells)]),(w0,.row 148 s.length)]) (R:=fun x s b s'=>∃y,x=.agg (Reading_.cells y)/\za2 y s=some (b,s')) (s0:=a0) (sF:=r3.2) (A:=[(p1,.cells (Train_.cells a91)),(p2,.cells [.i a92])]) (A':=[(p1,.cells (Train_.cells a91)),(p2,.cells [.i a92])]) (L':=[(g+0,.cells [.sl (.id w0) 2 (r3.2.map Reading_.cells)]),(w0,.row 148 r3.2.length),(p1,.cells (Train_.cells a91)),(p2,.cells [.i a92])]) [(2,.ptr (g+0) 0)] [2,3,0,1] hS (by omega) rfl rfl rfl (.cons rfl (.cons rfl (.cons rfl (.cons rfl .nil)))) (by decide) rfl (zbp (zbp zeF)) (fun _ _=>(zbp (zgQ zeF))) (fun s=>(zff (zby (zad (.inl (.inr ⟨_,_,_,_,_,rfl,List.mem_of_getElem? (i:=1) rfl,zav (fun x=>(zac (.v _) (zac (.sl _ _ (zav (fun x=>(zac (.v _) zaE)))) zaE)))⟩)) zeE) (zhb zfe)) ze2)) (fun s H hH=>(zhc (zkn hH 0 rfl) zgd)) (.k .nil) rfl (by decide) rfl ?_ (fun F Lx hk1 hnd1 hin1 hF1 h01 hf1=>zf8 (Lo:=Lx) (p1:=p1) (p2:=p2) hk1 hnd1 hin1 (aF:=za2) hF1 h01 (fun h=>hf1 _ _ _ _ ⟨_,rfl,h⟩) hr3) fun H hS=>?_
 ·rintro x v1 b s' ⟨y1,rfl,hM⟩
  refine ⟨rfl,fun H' g1 hf' hh'=>?_⟩
  have hS:=St.start hf'
  change wpA _ _ _ _ (Fr.of [(7,.agg (Reading_.cells y1)),(2,.ptr (g+0) 0)]) _ _
  refine Rg 2 ?_
  refine zdI hS (by decide) ziH (by omega) fun H hS=>?_
  refine zaM (v:=.agg (Reading_.cells y1)) (ns:=(Reading_.cells y1)) (L':=[(g1+0,.cells (Reading_.cells y1))]) 0 hS rfl rfl .no rfl rfl zlG nlb rfl fun H hS=>?_
  refine Ni ?_
  refine zsD (l3:=[(2,.ptr (g+0) 0),(5,.ptr (g1+0) 0)]) (.k (.k .nil)) hS (by omega) fun Hb H hS=>?_
  replace hS:St (fun i=>i<g1/\i∉ids [(g+0,.cells [.sl (.id w0) 2 (v1.map Reading_.cells)]),(w0,.row 148 v1.length)]) Hb [(g1+0,.cells (Reading_.cells y1)),(g+0,.cells [.sl (.id w0) 2 (v1.map Reading_.cells)]),(w0,.row 148 v1.length)] H _:=hS
  refine zaz ?_
  refine Rg 5 ?_
  refine zaG (v:=.sl (.id w0) 2 (v1.map Reading_.cells)) 1 hS (by decide) rfl rfl .no (po zlC zm0) ?_
  refine zaG (v:=.agg (Reading_.cells y1)) 0 hS (by decide) rfl rfl .no (pg zlF) ?_
  refine zbj (es:=[(Reading_.cells y1)]) hS (by decide) zkZ zm1 rfl zm2 rfl (by decide) (by omega) fun H hS=>?_
  obtain ⟨l2,hl2,hM⟩:=zas hM
  refine zdJ (xs:=v1) (ys:=([y1]:List Reading_)) (zs:=l2) (f:=Reading_.cells) (L':=[(g1+2+2,.row 148 1),(g1+0,.cells (Reading_.cells y1)),(g+0,.cells [.sl (.id w0) 2 (v1.map Reading_.cells)]),(w0,.row 148 l2.length)]) 3 hS (by decide) rfl rfl rfl rfl .no zkZ zm1 zm2 hl2 rfl fun H hS=>?_
  refine zaM (v:=.sl (.id w0) 2 (l2.map Reading_.cells)) (ns:=[.sl (.id w0) 2 (l2.map Reading_.cells)]) (L':=[(g1+2+2,.row 148 1),(g1+0,.cells (Reading_.cells y1)),(g+0,.cells [.sl (.id w0) 2 (l2.map Reading_.cells)]),(w0,.row 148 l2.length)]) 2 hS rfl rfl .no rfl rfl zpc nlb rfl fun H hS=>?_
  refine Ni ?_
  refine zah ?_
  injection hM with hM
  injection hM with hm1 hm2
  subst hm1 hm2
  exact zsC (hS.keep [false,false,true,true] rfl)
 refine zah ?_
 refine Ws ?_
 refine Sq ?_
 refine Rg 2 ?_
 refine zaG (v:=.sl (.id w0) 2 (r3.2.map Reading_.cells)) 0 hS (by decide) rfl rfl .no (po zlC zm0) ?_
 refine Oa (.sl (.id w0) 2 (r3.2.map Reading_.cells)) ?_
 refine Ni ?_
 replace hS:=hS.keep (L':=[(w0,.row 148 r3.2.length),(p1,.cells (Train_.cells a91)),(p2,.cells [.i a92])]) [false,true,true,true] rfl
 refine zfW [(4,.sl (.id w0) 2 (r3.2.map Reading_.cells))] (.k .nil) ?_
 refine zaQ ?_
 refine zdg (x:=.sl (.id w0) 2 (r3.2.map Reading_.cells)) (f:=fun r=>.sl (.id w0) 2 (r.map Reading_.cells)) (fd:=fun r=>[(w0,.row 148 r.length),(p1,.cells (Train_.cells a91)),(p2,.cells [.i a92])]) (.inr rfl) ?_ (.refl _) (Option.some.inj hM) hS 0 rfl
 exact (zaw (zai (x:=.sl (.id w0) 2 (r3.2.map Reading_.cells)) rfl))
theorem zgN {a0:Train_} {a1:Int}:zko Try.prog 81 [.agg (Train_.cells a0),.i a1] (fun g=>.fn (.func 98) [] [.ptr g 0,.ptr (g+1) 0]) [.i a1] (Train_.cells a0):=by
 refine zoU mixed Try.func81 rfl (by decide) Try.ntmps81 (by simp) (zac (.v _) zaE) (zac (.v _) (zac (.v _) (zac (.v _) (zac (.v _) (zac (.v _) (zac (.v _) (zac (.v _) (zac (.sl _ _ (zav (fun x=>(zac (.v _) zaE)))) zaE)))))))) (fun g H hH=>.fn _ _ _ zgd (zhc (zkn hH 1 rfl) (zhc (zkn hH 0 rfl) zgd))) fun H0 g hf=>?_
 rw [zan]
 change wpA _ _ _ _ (Fr.of [(0,.agg (Train_.cells a0)),(1,.i a1)]) H0 g
 have hS:=St.start hf
 refine Sq ?_
 refine Rg 3 ?_
 refine zd2 (v:=.agg (Train_.cells a0)) (cs:=(Train_.cells a0)) hS (by decide) rfl rfl (by omega) fun H hS=>?_
 refine zd2 (v:=.i a1) (cs:=[.i a1]) hS (by decide) rfl rfl (by omega) fun H hS=>?_
 refine Oa (.v .nilFunc) ?_
 refine Ni ?_
 refine Ws ?_
 refine Sq ?_
 refine Rg 2 ?_
 refine zfP (first:=[]) (cap:=[.ptr (g+0) 0,.ptr (g+1) 0]) (by decide) rfl rfl ?_
 refine Oa (.fn (.func 98) [] [.ptr (g+0) 0,.ptr (g+1) 0]) ?_
 refine Ni ?_
 refine Ws ?_
 refine zaQ ?_
 refine zsB (x:=.fn (.func 98) [] [.ptr (g+0) 0,.ptr (g+1) 0]) (.inr rfl) ?_ (.refl _) hS [true,true] rfl
 exact (zaw (zai (x:=.fn (.func 98) [] [.ptr (g+0) 0,.ptr (g+1) 0]) rfl))
theorem zk3 {S:Type} {Lo:S->BL} (hk:∀s s',zgP (Lo s) (Lo s')) (hnd:∀s,(ids (Lo s)).Nodup) (hin:∀s,InB In (Lo s)) {aF:Train_->S->Option (Bool×S)} {f0:AV} (hF:∀s H,Has H (Lo s)->In H f0) (h0:cellsOf f0=some [f0]) (hf:∀{x0:Train_} {s:S} {r:Bool×S},aF x0 s=some r->zjR Try.prog f0 [.agg (Train_.cells x0)] (Lo s) (.b r.1) (Lo r.2)) {n:Nat} {a0:Pulse} {st:S} {r:((List Reading_)×Int)×S} (hM:zf0 n aF a0 st=some r):zgT Try.prog 46 [.agg (Pulse.cells a0),f0] (Lo st) (.tup [.sl .no 2 (r.1.1.map Reading_.cells),.i r.1.2]) (Lo r.2):=by
 have hnd0:∀s,(ids (Lo s)).Nodup:=fun s=>hnd s
 refine zbx mixed Try.func46 rfl (by decide) Try.ntmps46 (by simp) (hk _ _) (hnd st) ?pure ?cells fun H0 g hf_ hp=>?_
 case pure=>exact fun H _=>(show Go.AM.Pure _ from .tup _ (zac (.sl _ _ (zav (fun x=>(zac (.v _) (zac (.sl _ _ (zav (fun x=>(zac (.v _) zaE)))) zaE))))) (zac (.v _) zaE))).inH
 case cells=>exact hin _
 rw [zan]
 change wpA _ _ _ _ (Fr.of [(0,.agg (Pulse.cells a0)),(1,f0)]) H0 g
 have hS:=St.startH (L:=([]++Lo st)) hf_ (hnd st) hp
 replace hS:St (fun i=>i<g/\i∉ids (Lo st)) H0 ([]++Lo st) H0 g:=hS
 refine Sq ?_
 refine Rg 3 ?_
 refine zd2 (v:=.agg (Pulse.cells a0)) (cs:=(Pulse.cells a0)) hS (by decide) rfl rfl (by omega) fun H hS=>?_
 refine Oa (.sl .nil 0 []) ?_
 refine Oa (.i 0) ?_
 refine Ni ?_
 refine zda (L':=([]++Lo st)) 0 2 hS rfl rfl rfl fun H hS=>?_
 refine Ws ?_
 refine Sq ?_
 refine Sq ?_
 refine Rg 3 ?_
 refine Olg (.agg (Pulse.cells a0)) zb7 ?_
 obtain ⟨r1,hr1,hM⟩:=zas hM
 refine zaP (bs:=[.agg (Pulse.cells a0)]) (by decide) rfl rfl ((zhI hr1).le (.k .nil)) ?_
 refine Oa (.i r1) ?_
 refine Ni ?_
 refine Ws ?_
 refine Sq ?_
 refine Rg 2 ?_
 refine Om (.i r1) ?_
 refine Oi (.b (r1 != 0)) ?_
 refine Ni ?_
 refine Ws ?_
 rcases bft (r1 != 0) with hb2 | hb2
 ·replace hM:=ifT hM hb2
  refine Ct hb2 ?_
  refine Sq ?_
  refine Rg 3 ?_
  refine Om (.i r1) ?_
  refine Oa (.sl .nil 0 []) ?_
  refine Oa (.i r1) ?_
  refine Ni ?_
  refine Ws ?_
  refine zaQ ?_
  refine zaq ?_
  refine zdg (x:=.tup [.sl .nil 0 [],.i r1]) (f:=fun r=>.tup [.sl .no 2 (r.1.1.map Reading_.cells),.i r.1.2]) (fd:=fun r=>(Lo r.2)) (.inr rfl) ?_ (.tupL (.cons (.sl0 .nil 2 0) (.k .nil))) (Option.some.inj hM) hS 0 rfl
  exact (zc3 (zai (x:=.sl .nil 0 []) rfl) (zai (x:=.i r1) rfl))
 ·replace hM:=ifF hM hb2
  refine Cf hb2 ?_
  refine zaC ?_
  refine Ws ?_
  refine Sq ?_
  refine Rg 4 ?_
  refine Olg (.agg (Pulse.cells a0)) zb7 ?_
  refine zdb (cs:=(Pulse.cells a0)) (by decide) zhA zm7 rfl ?_
  refine zdI hS (by decide) zhA (by omega) fun H hS=>?_
  refine zaM (v:=.agg (Pulse.cells a0)) (ns:=(Pulse.cells a0)) (L':=([(g+3+3+2+2,.cells (Pulse.cells a0))]++Lo st)) 0 hS rfl rfl .no rfl rfl zlE nlb rfl fun H hS=>?_
  refine Ni ?_
  refine zda (L':=([]++Lo st)) 0 7 hS rfl rfl rfl fun H hS=>?_
  refine Ws ?_
  refine Sq ?_
  refine Sq ?_
  refine Rg 4 ?_
  refine Om (f0) ?_
  refine Olg (.agg (Pulse.cells a0)) zf3 ?_
  obtain ⟨r3,hr3,hM⟩:=zas hM
  replace hS:St (fun i=>i<g/\i∉ids (Lo st)) H0 ([]++Lo st) _ _:=hS
  refine ziC (bs:=[.agg (Pulse.cells a0)]) (.inl rfl) hS (by decide) rfl rfl ((hf hr3).le (.k .nil)) (hk _ _).ids (by omega) fun H hS=>?_
  refine zdW (e:=r3.1) (by decide) rfl ?_
  refine Ni ?_
  refine Ws ?_
  rcases bft (!r3.1) with hb4 | hb4
  ·replace hM:=ifT hM hb4
   refine Ct hb4 ?_
   refine Sq ?_
   refine Rg 2 ?_
   refine Oa (.sl .nil 0 []) ?_
   refine Oa (.i 1) ?_
   refine Ni ?_
   refine Ws ?_
   refine zaQ ?_
   refine zaq ?_
   refine zdg (x:=.tup [.sl .nil 0 [],.i 1]) (f:=fun r=>.tup [.sl .no 2 (r.1.1.map Reading_.cells),.i r.1.2]) (fd:=fun r=>(Lo r.2)) (.inr rfl) ?_ (.tupL (.cons (.sl0 .nil 2 0) (.k .nil))) (Option.some.inj hM) hS 0 rfl
   exact (zc3 (zai (x:=.sl .nil 0 []) rfl) (zai (x:=.i 1) rfl))
  ·replace hM:=ifF hM hb4
   refine Cf hb4 ?_
   refine zaC ?_
   refine Ws ?_
   refine Sq ?_
   refine Rg 1 ?_
   refine Oa (.sl .nil 0 []) ?_
   refine Ni ?_
   refine zp0 [(2,.ep (Pulse.cells a0)),(7,.ep (Pulse.cells a0)),(8,.sl (.id (g+3+3+2+4+4+1)) 2 (([]:List Reading_).map Reading_.cells))] 8 2 148 hS (by omega) (by decide) rfl (.k (.k (.k .nil))) fun H hS=>?_
   refine zaO (J:=(List Reading_)) (fun j=>[(8,.sl (.id (g+3+3+2+4+4+1)) 2 (j.map Reading_.cells))]) (fun j H' g'=>St (fun i=>i<g/\i∉ids (Lo st)) H0 ([(g+3+3+2+4+4+1,.row 148 j.length)]++Lo r3.2) H' g'/\zeI r3 j=some r) ?_ ?_
   ·rintro v5 H g1 ⟨hS,hM⟩
    change wpA _ _ _ _ (Fr.of [(8,.sl (.id (g+3+3+2+4+4+1)) 2 (v5.map Reading_.cells))]) _ _
    replace hS:St (fun i=>i<g/\i∉ids (Lo st)) H0 ([(g+3+3+2+4+4+1,.row 148 v5.length)]++Lo r3.2) H g1:=hS
    replace hM:zeI r3 v5=some r:=hM
    refine Sq ?_
    refine Sq ?_
    refine Rg 3 ?_
    refine Om (.sl (.id (g+3+3+2+4+4+1)) 2 (v5.map Reading_.cells)) ?_
    refine zcg (n:=v5.length) (by decide) rfl (List.length_map _) zlD ?_
    refine Oi (.b ((v5.length:Int)==0)) ?_
    refine Ni ?_
    refine Ws ?_
    rcases bft ((v5.length:Int)==0) with hb6 | hb6
    ·replace hM:=ifT hM hb6
     refine Ct hb6 ?_
     refine Sq ?_
     refine Rg 2 ?_
     refine Oa (.sl .nil 0 []) ?_
     refine Oa (.i 3) ?_
     refine Ni ?_
     replace hS:=hS.keep (L':=([]++Lo r3.2)) [false] rfl
     refine Ws ?_
     refine zaQ ?_
     refine zaq ?_
     refine zdg (x:=.tup [.sl .nil 0 [],.i 3]) (f:=fun r=>.tup [.sl .no 2 (r.1.1.map Reading_.cells),.i r.1.2]) (fd:=fun r=>(Lo r.2)) (.inr rfl) ?_ (.tupL (.cons (.sl0 .nil 2 0) (.k .nil))) (Option.some.inj hM) hS 0 rfl
     exact (zc3 (zai (x:=.sl .nil 0 []) rfl) (zai (x:=.i 3) rfl))
    ·replace hM:=ifF hM hb6
     refine Cf hb6 ?_
     refine zaC ?_
     refine Ws ?_
     refine Sq ?_
     refine Rg 3 ?_
     refine Om (.sl (.id (g+3+3+2+4+4+1)) 2 (v5.map Reading_.cells)) ?_
     refine Oa (.sl (.id (g+3+3+2+4+4+1)) 2 (v5.map Reading_.cells)) ?_
     refine Oa (.i 0) ?_
     refine Ni ?_
     refine Ws ?_
     refine zaQ ?_
     refine zdg (x:=.tup [.sl (.id (g+3+3+2+4+4+1)) 2 (v5.map Reading_.cells),.i 0]) (f:=fun r=>.tup [.sl .no 2 (r.1.1.map Reading_.cells),.i r.1.2]) (fd:=fun r=>(Lo r.2)) (.inr rfl) ?_ (.tupL (.cons (.sl _ _ _) (.k .nil))) (Option.some.inj hM) hS 1 rfl
     exact (zc3 (zai (x:=.sl (.id (g+3+3+2+4+4+1)) 2 (v5.map Reading_.cells)) rfl) (zai (x:=.i 0) rfl))
   ·refine Sq ?_
    refine Rg 4 ?_
    refine Of ((Pulse.cells a0)) zik ?_
    refine Olp (.i a0.Sparks) zaf zap ?_
    refine Oi (.i (w64 (a0.Sparks+1))) ?_
    refine Om (.i 0) ?_
    refine Ni ?_
    refine Ws ?_
    refine zaz ?_
    refine zcx (V:=(List Reading_)×Int) (fun v=>[(7,.ep (Pulse.cells a0)),(8,.sl (.id (g+3+3+2+4+4+1)) 2 (v.1.map Reading_.cells)),(23,.i (w64 (a0.Sparks+1))),(24,.i v.2)]) (fun v m2 H' g'=>St (fun i=>i<g/\i∉ids (Lo st)) H0 ([(g+3+3+2+4+4+1,.row 148 v.1.length)]++Lo r3.2) H' g'/\zcY n a0 r3 m2 v.1 v.2=some r) (n:=n) (([]:List Reading_),0) (.k (.k (.k (.k .nil)))) ⟨(hS.keep [true] rfl).up (by omega),hM⟩ ?_
    rintro ⟨v7,v8⟩ m2 H g2 ⟨hS,hM⟩
    obtain _ | m2:=m2
    ·exact nomatch (show none=some _ from hM)
    change wpA _ _ _ _ (Fr.of [(7,.ep (Pulse.cells a0)),(8,.sl (.id (g+3+3+2+4+4+1)) 2 (v7.map Reading_.cells)),(23,.i (w64 (a0.Sparks+1))),(24,.i v8)]) _ _
    replace hS:St (fun i=>i<g/\i∉ids (Lo st)) H0 ([(g+3+3+2+4+4+1,.row 148 v7.length)]++Lo r3.2) H g2:=hS
    replace hM:zeR n a0 r3 (zcY n a0 r3 m2) v7 v8=some r:=hM
    refine Sq ?_
    refine Rg 1 ?_
    refine Oi (.b (decide (v8<(w64 (a0.Sparks+1))))) ?_
    refine Ni ?_
    refine Ws ?_
    refine Sq ?_
    rcases bft (decide (v8<(w64 (a0.Sparks+1)))) with hb9 | hb9
    ·replace hM:=ifT hM hb9
     refine Ct hb9 ?_
     refine zaC ?_
     refine Ws ?_
     refine Sq ?_
     refine zaz ?_
     refine Sq ?_
     refine Rg 2 ?_
     refine Om (.i v8) ?_
     refine Oa (.i v8) ?_
     refine Ni ?_
     refine Ws ?_
     refine Rg 6 ?_
     refine Om (.sl (.id (g+3+3+2+4+4+1)) 2 (v7.map Reading_.cells)) ?_
     refine Olg (.agg (Pulse.cells a0)) zf3 ?_
     refine Om (.i v8) ?_
     refine zvI (bs:=[.agg (Pulse.cells a0),.i v8]) (.inl rfl) hS (by decide) rfl rfl (zgN.le (.k (.k .nil))) (by omega) fun H hS=>?_
     obtain ⟨r10,hr10,hM⟩:=zas hM
     have hndr10:=hS.nd_at (ns:=[2,1,0]) (M:=[(g+3+3+2+4+4+1,.row 148 v7.length),(g2+1+2+6,.cells (Pulse.cells a0)),(g2+1+2+6+1,.cells [.i v8])]) (M':=[(g+3+3+2+4+4+1,.row 148 r10.length),(g2+1+2+6,.cells (Pulse.cells a0)),(g2+1+2+6+1,.cells [.i v8])]) (.cons rfl (.cons rfl (.cons rfl .nil))) (by decide)
     refine zfx (bs:=[.sl (.id (g+3+3+2+4+4+1)) 2 (v7.map Reading_.cells),.fn (.func 98) [] [.ptr (g2+1+2+6) 0,.ptr (g2+1+2+6+1) 0]]) (M:=[(g+3+3+2+4+4+1,.row 148 v7.length),(g2+1+2+6,.cells (Pulse.cells a0)),(g2+1+2+6+1,.cells [.i v8])]) (M':=[(g+3+3+2+4+4+1,.row 148 r10.length),(g2+1+2+6,.cells (Pulse.cells a0)),(g2+1+2+6+1,.cells [.i v8])]) (L':=([(g2+1+2+6+1,.cells [.i v8]),(g2+1+2+6,.cells (Pulse.cells a0)),(g+3+3+2+4+4+1,.row 148 r10.length)]++Lo r3.2)) [2,1,0] (.inl rfl) hS (by decide) rfl rfl ((zfd (w0:=g+3+3+2+4+4+1) (p1:=g2+1+2+6) (p2:=g2+1+2+6+1) hndr10 hr10).le (.k (.k .nil))) (.cons rfl (.cons rfl (.cons rfl .nil))) rfl (by omega) fun H hS=>?_
     refine Oa (.sl (.id (g+3+3+2+4+4+1)) 2 (r10.map Reading_.cells)) ?_
     refine Ni ?_
     refine zah ?_
     replace hS:=hS.keep (L':=([(g+3+3+2+4+4+1,.row 148 r10.length)]++Lo r3.2)) [false,false,true] rfl
     refine Ws ?_
     refine Rg 2 ?_
     refine Oi (.i (w64 (v8+1))) ?_
     refine Om (.i (w64 (v8+1))) ?_
     refine Ni ?_
     exact zbF (r10,w64 (v8+1)) (Nat.lt_succ_self _) (.k (.k (.k (.k .nil)))) ⟨(hS.keep [true] rfl).up (by omega),hM⟩
    ·replace hM:=ifF hM hb9
     refine Cf hb9 ?_
     refine zcp ?_
     refine zay ?_
     refine zau ?_
     refine zaD ?_
     exact zak v7 (.k .nil) ⟨(hS.keep [true] rfl).up (by omega),hM⟩
theorem ziL {a0:Train_} {r:Bool} (hM:zd5 a0=some r):zaJ Try.prog 47 [.agg (Train_.cells a0)] (.b r):=by
 refine zax mixed Try.func47 rfl (by decide) Try.ntmps47 (by simp) ?pure fun H0 g hf=>?_
 case pure=>exact .v _
 rw [zan]
 change wpA _ _ _ _ (Fr.of [(0,.agg (Train_.cells a0))]) H0 g
 have hS:=St.start hf
 refine Sq ?_
 refine Rg 2 ?_
 refine zd2 (v:=.agg (Train_.cells a0)) (cs:=(Train_.cells a0)) hS (by decide) rfl rfl (by omega) fun H hS=>?_
 refine Oa (.b false) ?_
 refine Ni ?_
 replace hS:=hS.keep (L':=[]) [false] rfl
 refine Ws ?_
 refine Sq ?_
 refine Rg 1 ?_
 refine Oa (.b true) ?_
 refine Ni ?_
 refine Ws ?_
 refine zaQ ?_
 refine za7 (x:=.b true) (f:=fun r=>.b r) (.inr rfl) ?_ (.refl _) (Option.some.inj hM) hS
 exact (zaw (zai (x:=.b true) rfl))
theorem zgO {S:Type} {Lo:S->BL} (hk:∀s s',zgP (Lo s) (Lo s')) (hnd:∀s,(ids (Lo s)).Nodup) (hin:∀s,InB In (Lo s)) {aF:(List Int)->S->Option (Bool×S)} {f0:AV} (hF:∀s H,Has H (Lo s)->In H f0) (h0:cellsOf f0=some [f0]) (hf:∀{x0:List Int} {s:S} {r:Bool×S},aF x0 s=some r->zjR Try.prog f0 [.sl .no 1 (x0.map cI)] (Lo s) (.b r.1) (Lo r.2)) {n:Nat} {a0:List (List Int)} {st:S} {r:Int×S} (hM:zd6 n aF a0 st=some r):zgT Try.prog 113 [.sl .no 1 (a0.map (cL 1 cI)),f0] (Lo st) (.i r.1) (Lo r.2):=by
 have hnd0:∀s,(ids (Lo s)).Nodup:=fun s=>hnd s
 refine zbx mixed Try.func113 rfl (by decide) Try.ntmps113 (by simp) (hk _ _) (hnd st) ?pure ?cells fun H0 g hf_ hp=>?_
 case pure=>exact fun H _=>(show Go.AM.Pure _ from .v _).inH
 case cells=>exact hin _
 rw [zan]
 change wpA _ _ _ _ (Fr.of [(0,.sl .no 1 (a0.map (cL 1 cI))),(1,f0)]) H0 g
 have hS:=St.startH (L:=([]++Lo st)) hf_ (hnd st) hp
 replace hS:St (fun i=>i<g/\i∉ids (Lo st)) H0 ([]++Lo st) H0 g:=hS
 refine Sq ?_
 refine Rg 1 ?_
 refine Oa (.i 0) ?_
 refine Ni ?_
 refine Ws ?_
 refine zaO (J:=S) (fun j=>[]) (fun j H' g'=>St (fun i=>i<g/\i∉ids (Lo st)) H0 ([]++Lo j) H' g'/\zcN j=some r) ?_ ?_
 ·rintro v1 H g1 ⟨hS,hM⟩
  change wpA _ _ _ _ (Fr.of []) _ _
  replace hS:St (fun i=>i<g/\i∉ids (Lo st)) H0 ([]++Lo v1) H g1:=hS
  replace hM:zcN v1=some r:=hM
  refine Sq ?_
  refine Rg 1 ?_
  refine Oa (.i (-1)) ?_
  refine Ni ?_
  refine Ws ?_
  refine zaQ ?_
  refine zdg (x:=.i (-1)) (f:=fun r=>.i r.1) (fd:=fun r=>(Lo r.2)) (.inr rfl) ?_ (.refl _) (Option.some.inj hM) hS 0 rfl
  exact (zaw (zai (x:=.i (-1)) rfl))
 ·refine Sq ?_
  refine Rg 3 ?_
  refine Om (.sl .no 1 (a0.map (cL 1 cI))) ?_
  refine zcg (n:=a0.length) (by decide) rfl (List.length_map _) zlH ?_
  refine Om (.i 0) ?_
  refine Ni ?_
  refine Ws ?_
  refine zaz ?_
  refine zcx (V:=Int×S) (fun v=>[(0,.sl .no 1 (a0.map (cL 1 cI))),(1,f0),(7,.i (a0.length:Int)),(8,.i v.1)]) (fun v m3 H' g'=>St (fun i=>i<g/\i∉ids (Lo st)) H0 ([]++Lo v.2) H' g'/\zbc a0 aF m3 v.1 v.2=some r) (n:=n) (0,st) (.k (.k (.k (.k .nil)))) ⟨(hS.keep [] rfl).up (by omega),hM⟩ ?_
  rintro ⟨v3,v4⟩ m3 H g3 ⟨hS,hM⟩
  obtain _ | m3:=m3
  ·exact nomatch (show none=some _ from hM)
  change wpA _ _ _ _ (Fr.of [(0,.sl .no 1 (a0.map (cL 1 cI))),(1,f0),(7,.i (a0.length:Int)),(8,.i v3)]) _ _
  replace hS:St (fun i=>i<g/\i∉ids (Lo st)) H0 ([]++Lo v4) H g3:=hS
  replace hM:zcv a0 aF (zbc a0 aF m3) v3 v4=some r:=hM
  refine Sq ?_
  refine Rg 1 ?_
  refine Oi (.b (decide (v3<(a0.length:Int)))) ?_
  refine Ni ?_
  refine Ws ?_
  refine Sq ?_
  rcases bft (decide (v3<(a0.length:Int))) with hb5 | hb5
  ·replace hM:=ifT hM hb5
   refine Ct hb5 ?_
   refine zaC ?_
   refine Ws ?_
   refine Sq ?_
   refine zaz ?_
   refine Sq ?_
   refine Rg 2 ?_
   refine Om (.i v3) ?_
   refine Oa (.i v3) ?_
   refine Ni ?_
   refine Ws ?_
   refine Sq ?_
   refine Rg 6 ?_
   refine Om (f0) ?_
   refine Om (.sl .no 1 (a0.map (cL 1 cI))) ?_
   refine Om (.i v3) ?_
   obtain ⟨x6,hx6,hM⟩:=zas hM
   refine zbu (xs:=a0) (f:=(cL 1 cI)) (z:=v3) (u:=x6) (by decide) rfl rfl zja hx6 ?_
   refine Olp (.sl .no 1 (x6.map cI)) zb6 zcX ?_
   obtain ⟨r7,hr7,hM⟩:=zas hM
   replace hS:St (fun i=>i<g/\i∉ids (Lo st)) H0 ([]++Lo v4) _ _:=hS
   refine ziC (bs:=[.sl .no 1 (x6.map cI)]) (.inl rfl) hS (by decide) rfl rfl ((hf hr7).le (.k .nil)) (hk _ _).ids (by omega) fun H hS=>?_
   refine Ni ?_
   refine Ws ?_
   rcases bft r7.1 with hb8 | hb8
   ·replace hM:=ifT hM hb8
    refine Ct hb8 ?_
    refine Sq ?_
    refine Rg 2 ?_
    refine Om (.i v3) ?_
    refine Oa (.i v3) ?_
    refine Ni ?_
    refine Ws ?_
    refine zaQ ?_
    refine zaI ?_
    refine zaq ?_
    refine zbs ?_
    refine zaI ?_
    refine zbr ?_
    refine zdg (x:=.i v3) (f:=fun r=>.i r.1) (fd:=fun r=>(Lo r.2)) (.inr rfl) ?_ (.refl _) (Option.some.inj hM) hS 0 rfl
    exact (zaw (zai (x:=.i v3) rfl))
   ·replace hM:=ifF hM hb8
    refine Cf hb8 ?_
    refine zaC ?_
    refine zah ?_
    refine Ws ?_
    refine Rg 2 ?_
    refine Oi (.i (w64 (v3+1))) ?_
    refine Om (.i (w64 (v3+1))) ?_
    refine Ni ?_
    exact zbF (w64 (v3+1),r7.2) (Nat.lt_succ_self _) (.k (.k (.k (.k .nil)))) ⟨(hS.keep [] rfl).up (by omega),hM⟩
  ·replace hM:=ifF hM hb5
   refine Cf hb5 ?_
   refine zcp ?_
   refine zay ?_
   refine zau ?_
   refine zaD ?_
   exact zak v4 .nil ⟨(hS.keep [] rfl).up (by omega),hM⟩
theorem zf9 {S:Type} {Lo:S->BL} (hk:∀s s',zgP (Lo s) (Lo s')) (hnd:∀s,(ids (Lo s)).Nodup) (hin:∀s,InB In (Lo s)) {aF:(List Int)->S->Option (Bool×S)} {f0:AV} (hF:∀s H,Has H (Lo s)->In H f0) (h0:cellsOf f0=some [f0]) (hf:∀{x0:List Int} {s:S} {r:Bool×S},aF x0 s=some r->zjR Try.prog f0 [.sl .no 1 (x0.map cI)] (Lo s) (.b r.1) (Lo r.2)) {n:Nat} {a0:List (List Int)} {st:S} {r:Bool×S} (hM:zcO n aF a0 st=some r):zgT Try.prog 103 [.sl .no 1 (a0.map (cL 1 cI)),f0] (Lo st) (.b r.1) (Lo r.2):=by
 have hnd0:∀s,(ids (Lo s)).Nodup:=fun s=>hnd s
 refine zbx mixed Try.func103 rfl (by decide) Try.ntmps103 (by simp) (hk _ _) (hnd st) ?pure ?cells fun H0 g hf_ hp=>?_
 case pure=>exact fun H _=>(show Go.AM.Pure _ from .v _).inH
 case cells=>exact hin _
 rw [zan]
 change wpA _ _ _ _ (Fr.of [(0,.sl .no 1 (a0.map (cL 1 cI))),(1,f0)]) H0 g
 have hS:=St.startH (L:=([]++Lo st)) hf_ (hnd st) hp
 replace hS:St (fun i=>i<g/\i∉ids (Lo st)) H0 ([]++Lo st) H0 g:=hS
 refine Sq ?_
 refine Rg 1 ?_
 refine Oa (.b false) ?_
 refine Ni ?_
 refine Ws ?_
 refine Sq ?_
 refine Rg 5 ?_
 refine Om (.sl .no 1 (a0.map (cL 1 cI))) ?_
 refine Om (f0) ?_
 obtain ⟨r1,hr1,hM⟩:=zas hM
 replace hS:St (fun i=>i<g/\i∉ids (Lo st)) H0 ([]++Lo st) _ _:=hS
 refine zkQ (bs:=[.sl .no 1 (a0.map (cL 1 cI)),f0]) (.inl rfl) hS (by decide) rfl rfl ((zgO (Lo:=Lo)  hk hnd0 hin (aF:=aF) hF h0 hf hr1).le (.k (.k .nil))) (hk _ _).ids (by omega) fun H hS=>?_
 refine Oi (.b (decide (r1.1≥0))) ?_
 refine Oa (.b (decide (r1.1≥0))) ?_
 refine Ni ?_
 refine zfW [(4,.b (decide (r1.1≥0)))] (.k .nil) ?_
 refine zaQ ?_
 refine zdg (x:=.b (decide (r1.1≥0))) (f:=fun r=>.b r.1) (fd:=fun r=>(Lo r.2)) (.inr rfl) ?_ (.refl _) (Option.some.inj hM) hS 0 rfl
 exact (zaw (zai (x:=.b (decide (r1.1≥0))) rfl))
theorem zin {n:Nat} {a0:List Int} {a1:List Int} {r:Bool} (hM:slices_Equal_int n a0 a1=some r):zaJ Try.prog 105 [.sl .no 1 (a0.map cI),.sl .no 1 (a1.map cI)] (.b r):=by
 refine zax mixed Try.func105 rfl (by decide) Try.ntmps105 (by simp) ?pure fun H0 g hf=>?_
 case pure=>exact .v _
 rw [zan]
 change wpA _ _ _ _ (Fr.of [(0,.sl .no 1 (a0.map cI)),(1,.sl .no 1 (a1.map cI))]) H0 g
 have hS:=St.start hf
 refine Sq ?_
 refine Rg 1 ?_
 refine Oa (.b false) ?_
 refine Ni ?_
 refine Ws ?_
 refine Sq ?_
 refine Sq ?_
 refine Rg 5 ?_
 refine Om (.sl .no 1 (a0.map cI)) ?_
 refine zcg (n:=a0.length) (by decide) rfl (List.length_map _) zbA ?_
 refine Om (.sl .no 1 (a1.map cI)) ?_
 refine zcg (n:=a1.length) (by decide) rfl (List.length_map _) zbA ?_
 refine Oi (.b ((a0.length:Int) != (a1.length:Int))) ?_
 refine Ni ?_
 refine Ws ?_
 rcases bft ((a0.length:Int) != (a1.length:Int)) with hb1 | hb1
 ·replace hM:=ifT hM hb1
  refine Ct hb1 ?_
  refine Sq ?_
  refine Rg 1 ?_
  refine Oa (.b false) ?_
  refine Ni ?_
  refine Ws ?_
  refine zaQ ?_
  refine zaq ?_
  refine za7 (x:=.b false) (f:=fun r=>.b r) (.inr rfl) ?_ (.refl _) (Option.some.inj hM) hS
  exact (zaw (zai (x:=.b false) rfl))
 ·replace hM:=ifF hM hb1
  refine Cf hb1 ?_
  refine zaC ?_
  refine Ws ?_
  refine zaO (J:=Unit) (fun j=>[]) (fun j H' g'=>St (·<g) H0 [] H' g'/\zdL=some r) ?_ ?_
  ·rintro _ H g1 ⟨hS,hM⟩
   change wpA _ _ _ _ (Fr.of []) _ _
   replace hS:St (·<g) H0 [] H g1:=hS
   replace hM:zdL=some r:=hM
   refine Sq ?_
   refine Rg 1 ?_
   refine Oa (.b true) ?_
   refine Ni ?_
   refine Ws ?_
   refine zaQ ?_
   refine za7 (x:=.b true) (f:=fun r=>.b r) (.inr rfl) ?_ (.refl _) (Option.some.inj hM) hS
   exact (zaw (zai (x:=.b true) rfl))
  ·refine Sq ?_
   refine Rg 3 ?_
   refine Om (.sl .no 1 (a0.map cI)) ?_
   refine zcg (n:=a0.length) (by decide) rfl (List.length_map _) zbA ?_
   refine Om (.i 0) ?_
   refine Ni ?_
   refine Ws ?_
   refine zaz ?_
   refine zcx (V:=Int) (fun v=>[(0,.sl .no 1 (a0.map cI)),(1,.sl .no 1 (a1.map cI)),(12,.i (a0.length:Int)),(13,.i v)]) (fun v m2 H' g'=>St (·<g) H0 [] H' g'/\zb3 a0 a1 m2 v=some r) (n:=n) 0 (.k (.k (.k (.k .nil)))) ⟨(hS.keep [] rfl).up (by omega),hM⟩ ?_
   rintro v2 m2 H g2 ⟨hS,hM⟩
   obtain _ | m2:=m2
   ·exact nomatch (show none=some _ from hM)
   change wpA _ _ _ _ (Fr.of [(0,.sl .no 1 (a0.map cI)),(1,.sl .no 1 (a1.map cI)),(12,.i (a0.length:Int)),(13,.i v2)]) _ _
   replace hS:St (·<g) H0 [] H g2:=hS
   replace hM:zdi a0 a1 (zb3 a0 a1 m2) v2=some r:=hM
   refine Sq ?_
   refine Rg 1 ?_
   refine Oi (.b (decide (v2<(a0.length:Int)))) ?_
   refine Ni ?_
   refine Ws ?_
   refine Sq ?_
   rcases bft (decide (v2<(a0.length:Int))) with hb3 | hb3
   ·replace hM:=ifT hM hb3
    refine Ct hb3 ?_
    refine zaC ?_
    refine Ws ?_
    refine Sq ?_
    refine zaz ?_
    refine Sq ?_
    refine Rg 2 ?_
    refine Om (.i v2) ?_
    refine Oa (.i v2) ?_
    refine Ni ?_
    refine Ws ?_
    refine Sq ?_
    have hS0:=hS
    refine zd1 (n:=9) rfl (by kernel_rfl) ?_
    refine Om (.sl .no 1 (a0.map cI)) ?_
    refine Om (.i v2) ?_
    obtain ⟨x4,hx4,hM⟩:=zas hM
    refine zbu (xs:=a0) (f:=cI) (z:=v2) (u:=x4) (by decide) rfl rfl zbL hx4 ?_
    refine Olp (.i x4) zaf zap ?_
    refine Om (.sl .no 1 (a1.map cI)) ?_
    refine Om (.i v2) ?_
    obtain ⟨x5,hx5,hM⟩:=zas hM
    refine zbu (xs:=a1) (f:=cI) (z:=v2) (u:=x5) (by decide) rfl rfl zbL hx5 ?_
    refine Olp (.i x5) zaf zap ?_
    refine Oi (.b (x4 != x5)) ?_
    refine Ni ?_
    refine Ws ?_
    rcases bft (x4 != x5) with hb6 | hb6
    ·replace hM:=ifT hM hb6
     refine Ct hb6 ?_
     refine Sq ?_
     refine Rg 1 ?_
     refine Oa (.b false) ?_
     refine Ni ?_
     refine Ws ?_
     refine zaQ ?_
     refine zaI ?_
     refine zaq ?_
     refine zbs ?_
     refine zaI ?_
     refine zbr ?_
     refine za7 (x:=.b false) (f:=fun r=>.b r) (.inr rfl) ?_ (.refl _) (Option.some.inj hM) hS
     exact (zaw (zai (x:=.b false) rfl))
    ·replace hM:=ifF hM hb6
     refine Cf hb6 ?_
     refine zaC ?_
     refine zah ?_
     refine Ws ?_
     refine Rg 2 ?_
     refine Oi (.i (w64 (v2+1))) ?_
     refine Om (.i (w64 (v2+1))) ?_
     refine Ni ?_
     exact zbF (w64 (v2+1)) (Nat.lt_succ_self _) (.k (.k (.k (.k .nil)))) ⟨(hS.keep [] rfl).up (by omega),hM⟩
   ·replace hM:=ifF hM hb3
    refine Cf hb3 ?_
    refine zcp ?_
    refine zay ?_
    refine zau ?_
    refine zaD ?_
    exact zak () .nil ⟨(hS.keep [] rfl).up (by omega),hM⟩
theorem ziM {p1:Nat} (hnd:[p1].Nodup) {n:Nat} {a0:List Int} {a1:Reading_} {r:Bool} (hM:zdv n a0 a1=some r):zgT Try.prog 104 [.sl .no 1 (a0.map cI),.ptr p1 0] [(p1,.cells (Reading_.cells a1))] (.b r) [(p1,.cells (Reading_.cells a1))]:=by
 refine zbx mixed Try.func104 rfl (by decide) Try.ntmps104 (by simp) (zbp zeF) hnd ?pure ?cells fun H0 g hf_ hp=>?_
 case pure=>exact fun H _=>(show Go.AM.Pure _ from .v _).inH
 case cells=>exact (zff (zby (zad (.inl (.inl (.v _))) (zad (.inl (.inl (.sl _ _ (zav (fun x=>(zac (.v _) zaE)))))) zeE)) zfe) ze2)
 rw [zan]
 change wpA _ _ _ _ (Fr.of [(0,.sl .no 1 (a0.map cI)),(1,.ptr p1 0)]) H0 g
 have hS:=St.startH (L:=[(p1,.cells (Reading_.cells a1))]) hf_ hnd hp
 replace hS:St (fun i=>i<g/\i∉ids [(p1,.cells (Reading_.cells a1))]) H0 [(p1,.cells (Reading_.cells a1))] H0 g:=hS
 refine Sq ?_
 refine Rg 1 ?_
 refine Oa (.b false) ?_
 refine Ni ?_
 refine Ws ?_
 refine Sq ?_
 refine Rg 5 ?_
 refine Om (.sl .no 1 (a0.map cI)) ?_
 refine zag (by decide) zkw rfl ?_
 refine zaG (v:=.sl .no 1 (a1.list.map cI)) 0 hS (by decide) rfl rfl .no (po zb6 zcX) ?_
 obtain ⟨r1,hr1,hM⟩:=zas hM
 refine zaP (bs:=[.sl .no 1 (a0.map cI),.sl .no 1 (a1.list.map cI)]) (by decide) rfl rfl ((zin hr1).le (.k (.k .nil))) ?_
 refine Oa (.b r1) ?_
 refine Ni ?_
 refine zfW [(3,.b r1)] (.k .nil) ?_
 refine zaQ ?_
 refine zdg (x:=.b r1) (f:=fun r=>.b r) (fd:=fun r=>[(p1,.cells (Reading_.cells a1))]) (.inr rfl) ?_ (.refl _) (Option.some.inj hM) hS 0 rfl
 exact (zaw (zai (x:=.b r1) rfl))
theorem zjY {n:Nat} {a0:List Reading_} {r:(List (List Int))} (hM:zhg n a0=some r):zaJ Try.prog 82 [.sl .no 2 (a0.map Reading_.cells)] (.sl .no 1 (r.map (cL 1 cI))):=by
 refine zax mixed Try.func82 rfl (by decide) Try.ntmps82 (by simp) ?pure fun H0 g hf=>?_
 case pure=>exact .sl _ _ (zav (fun x=>(zac (.sl _ _ (zav (fun x=>(zac (.v _) zaE)))) zaE)))
 rw [zan]
 change wpA _ _ _ _ (Fr.of [(0,.sl .no 2 (a0.map Reading_.cells))]) H0 g
 have hS:=St.start hf
 refine Sq ?_
 refine Rg 1 ?_
 refine Oa (.sl .nil 0 []) ?_
 refine Ni ?_
 refine Ws ?_
 refine Sq ?_
 refine Rg 1 ?_
 refine Oa (.sl .nil 0 []) ?_
 refine Ni ?_
 refine zp0 [(0,.sl .no 2 (a0.map Reading_.cells)),(3,.sl (.id (g+1+1)) 1 (([]:List (List Int)).map (cL 1 cI)))] 3 1 26 hS (by omega) (by decide) rfl (.k (.k .nil)) fun H hS=>?_
 refine zaO (J:=(List (List Int))) (fun j=>[(3,.sl (.id (g+1+1)) 1 (j.map (cL 1 cI)))]) (fun j H' g'=>St (·<g) H0 [(g+1+1,.row 26 j.length)] H' g'/\ze6 j=some r) ?_ ?_
 ·rintro v1 H g1 ⟨hS,hM⟩
  change wpA _ _ _ _ (Fr.of [(3,.sl (.id (g+1+1)) 1 (v1.map (cL 1 cI)))]) _ _
  replace hS:St (·<g) H0 [(g+1+1,.row 26 v1.length)] H g1:=hS
  replace hM:ze6 v1=some r:=hM
  refine Sq ?_
  refine Rg 2 ?_
  refine Om (.sl (.id (g+1+1)) 1 (v1.map (cL 1 cI))) ?_
  refine Oa (.sl (.id (g+1+1)) 1 (v1.map (cL 1 cI))) ?_
  refine Ni ?_
  refine Ws ?_
  refine zaQ ?_
  refine za7 (x:=.sl (.id (g+1+1)) 1 (v1.map (cL 1 cI))) (f:=fun r=>.sl .no 1 (r.map (cL 1 cI))) (.inr rfl) ?_ (.sl _ _ _) (Option.some.inj hM) hS
  exact (zaw (zai (x:=.sl (.id (g+1+1)) 1 (v1.map (cL 1 cI))) rfl))
 ·refine Sq ?_
  refine Rg 3 ?_
  refine Om (.sl .no 2 (a0.map Reading_.cells)) ?_
  refine zcg (n:=a0.length) (by decide) rfl (List.length_map _) zlD ?_
  refine Om (.i 0) ?_
  refine Ni ?_
  refine Ws ?_
  refine zaz ?_
  refine zcx (V:=(List (List Int))×Int) (fun v=>[(3,.sl (.id (g+1+1)) 1 (v.1.map (cL 1 cI))),(6,.sl .no 2 (a0.map Reading_.cells)),(7,.i (a0.length:Int)),(8,.i v.2)]) (fun v m2 H' g'=>St (·<g) H0 [(g+1+1,.row 26 v.1.length)] H' g'/\zck n a0 m2 v.1 v.2=some r) (n:=n) (([]:List (List Int)),0) (.k (.k (.k (.k .nil)))) ⟨(hS.keep [true] rfl).up (by omega),hM⟩ ?_
  rintro ⟨v2,v3⟩ m2 H g2 ⟨hS,hM⟩
  obtain _ | m2:=m2
  ·exact nomatch (show none=some _ from hM)
  change wpA _ _ _ _ (Fr.of [(3,.sl (.id (g+1+1)) 1 (v2.map (cL 1 cI))),(6,.sl .no 2 (a0.map Reading_.cells)),(7,.i (a0.length:Int)),(8,.i v3)]) _ _
  replace hS:St (·<g) H0 [(g+1+1,.row 26 v2.length)] H g2:=hS
  replace hM:zep n a0 (zck n a0 m2) v2 v3=some r:=hM
  refine Sq ?_
  refine Rg 1 ?_
  refine Oi (.b (decide (v3<(a0.length:Int)))) ?_
  refine Ni ?_
  refine Ws ?_
  refine Sq ?_
  rcases bft (decide (v3<(a0.length:Int))) with hb4 | hb4
  ·replace hM:=ifT hM hb4
   refine Ct hb4 ?_
   refine zaC ?_
   refine Ws ?_
   refine zaO (J:=(List (List Int))) (fun j=>[(3,.sl (.id (g+1+1)) 1 (j.map (cL 1 cI))),(6,.sl .no 2 (a0.map Reading_.cells)),(7,.i (a0.length:Int)),(8,.i v3)]) (fun j H' g'=>St (·<g) H0 [(g+1+1,.row 26 j.length)] H' g'/\zdw (zck n a0 m2) v3 j=some r) ?_ ?_
   ·rintro v5 H g3 ⟨hS,hM⟩
    change wpA _ _ _ _ (Fr.of [(3,.sl (.id (g+1+1)) 1 (v5.map (cL 1 cI))),(6,.sl .no 2 (a0.map Reading_.cells)),(7,.i (a0.length:Int)),(8,.i v3)]) _ _
    replace hS:St (·<g) H0 [(g+1+1,.row 26 v5.length)] H g3:=hS
    replace hM:zdw (zck n a0 m2) v3 v5=some r:=hM
    refine Rg 2 ?_
    refine Oi (.i (w64 (v3+1))) ?_
    refine Om (.i (w64 (v3+1))) ?_
    refine Ni ?_
    exact zbF (v5,w64 (v3+1)) (Nat.lt_succ_self _) (.k (.k (.k (.k .nil)))) ⟨(hS.keep [true] rfl).up (by omega),hM⟩
   ·refine zaz ?_
    refine Sq ?_
    refine Rg 4 ?_
    obtain ⟨x6,hx6,hM⟩:=zas hM
    refine zbu (xs:=a0) (f:=Reading_.cells) (z:=v3) (u:=x6) (by decide) rfl rfl zkZ hx6 ?_
    refine Olg (.agg (Reading_.cells x6)) zlF ?_
    refine zdI hS (by decide) ziH (by omega) fun H hS=>?_
    refine zaM (v:=.agg (Reading_.cells x6)) (ns:=(Reading_.cells x6)) (L':=[(g2+1+2,.cells (Reading_.cells x6)),(g+1+1,.row 26 v2.length)]) 0 hS rfl rfl .no rfl rfl zlG nlb rfl fun H hS=>?_
    refine Ni ?_
    refine Ws ?_
    refine Sq ?_
    refine Rg 4 ?_
    refine Om (.sl (.id (g+1+1)) 1 (v2.map (cL 1 cI))) ?_
    refine zfP (first:=[]) (cap:=[.ptr (g2+1+2) 0]) (by decide) rfl rfl ?_
    obtain ⟨r7,hr7,hM⟩:=zas hM
    have hndr7:=hS.nd_at (ns:=[0]) (M:=[(g2+1+2,.cells (Reading_.cells x6))]) (M':=[(g2+1+2,.cells (Reading_.cells x6))]) (.cons rfl .nil) (by decide)
    have hncr7:=hS.nd_at (ns:=[0]) (M:=[(g2+1+2,.cells (Reading_.cells x6))]) (M':=[(g2+1+2,.cells (Reading_.cells x6))]) (.cons rfl .nil) (by decide)
    refine zfx (bs:=[.sl (.id (g+1+1)) 1 (v2.map (cL 1 cI)),.fn (.func 104) [] [.ptr (g2+1+2) 0]]) (M:=[(g2+1+2,.cells (Reading_.cells x6))]) (M':=[(g2+1+2,.cells (Reading_.cells x6))]) (L':=[(g2+1+2,.cells (Reading_.cells x6)),(g+1+1,.row 26 v2.length)]) [0] (.inl rfl) hS (by decide) rfl rfl ((zf9 (Lo:=(fun (_:Unit)=>[(g2+1+2,.cells (Reading_.cells x6))]))  (fun _ _=>(zbp zeF)) (fun _=>hndr7) (fun s=>(zff (zby (zad (.inl (.inl (.v _))) (zad (.inl (.inl (.sl _ _ (zav (fun x=>(zac (.v _) zaE)))))) zeE)) zfe) ze2)) (aF:=(fun (x0:List Int) (_:Unit)=>(zdv n x0 x6).map fun y=>(y,()))) (fun s H hH=>(.fn _ _ _ zgd (zhc (zkn hH 0 rfl) zgd))) rfl (fun h=>zmt (ziM (p1:=g2+1+2)  hncr7 (zia h))) hr7).le (.cons (.sl _ _ _) (.k .nil))) (.cons rfl .nil) rfl (by omega) fun H hS=>?_
    refine zdW (e:=r7.1) (by decide) rfl ?_
    refine Ni ?_
    refine Ws ?_
    rcases bft (!r7.1) with hb8 | hb8
    ·replace hM:=ifT hM hb8
     refine Ct hb8 ?_
     refine Rg 6 ?_
     refine Om (.sl (.id (g+1+1)) 1 (v2.map (cL 1 cI))) ?_
     refine zag (by decide) zkw rfl ?_
     refine zaG (v:=.sl .no 1 (x6.list.map cI)) 0 hS (by decide) rfl rfl .no (po zb6 zcX) ?_
     refine zbj (es:=[[.sl .no 1 (x6.list.map cI)]]) hS (by decide) zja zm8 rfl zm9 rfl (by decide) (by omega) fun H hS=>?_
     obtain ⟨l9,hl9,hM⟩:=zas hM
     refine zdJ (xs:=v2) (ys:=([x6.list]:List (List Int))) (zs:=l9) (f:=(cL 1 cI)) (L':=[(g2+1+4+4+3,.row 26 1),(g2+1+2,.cells (Reading_.cells x6)),(g+1+1,.row 26 l9.length)]) 2 hS (by decide) rfl rfl rfl rfl .no zja zm8 zm9 hl9 rfl fun H hS=>?_
     refine Oa (.sl (.id (g+1+1)) 1 (l9.map (cL 1 cI))) ?_
     refine Ni ?_
     refine zah ?_
     exact zak l9 (.k (.k (.k (.k .nil)))) ⟨(hS.keep [false,false,true] rfl).up (by omega),hM⟩
    ·replace hM:=ifF hM hb8
     refine Cf hb8 ?_
     refine zaC ?_
     refine zah ?_
     exact zak v2 (.k (.k (.k (.k .nil)))) ⟨(hS.keep [false,true] rfl).up (by omega),hM⟩
  ·replace hM:=ifF hM hb4
   refine Cf hb4 ?_
   refine zcp ?_
   refine zay ?_
   refine zau ?_
   refine zaD ?_
   exact zak v2 (.k .nil) ⟨(hS.keep [true] rfl).up (by omega),hM⟩
theorem zlM {n:Nat} {a0:List Reading_} {r:(List Int)×Int} (hM:zhx n a0=some r):zaJ Try.prog 48 [.sl .no 2 (a0.map Reading_.cells)] (.tup [.sl .no 1 (r.1.map cI),.i r.2]):=by
 refine zax mixed Try.func48 rfl (by decide) Try.ntmps48 (by simp) ?pure fun H0 g hf=>?_
 case pure=>exact .tup _ (zac (.sl _ _ (zav (fun x=>(zac (.v _) zaE)))) (zac (.v _) zaE))
 rw [zan]
 change wpA _ _ _ _ (Fr.of [(0,.sl .no 2 (a0.map Reading_.cells))]) H0 g
 have hS:=St.start hf
 refine Sq ?_
 refine Rg 2 ?_
 refine Oa (.sl .nil 0 []) ?_
 refine Oa (.i 0) ?_
 refine Ni ?_
 refine Ws ?_
 refine Sq ?_
 refine Rg 3 ?_
 refine Om (.sl .no 2 (a0.map Reading_.cells)) ?_
 obtain ⟨r1,hr1,hM⟩:=zas hM
 refine zaP (bs:=[.sl .no 2 (a0.map Reading_.cells)]) (by decide) rfl rfl ((zjY hr1).le (.k .nil)) ?_
 refine Oa (.sl .no 1 (r1.map (cL 1 cI))) ?_
 refine Ni ?_
 refine Ws ?_
 refine Sq ?_
 refine Sq ?_
 refine Rg 3 ?_
 refine Om (.sl .no 1 (r1.map (cL 1 cI))) ?_
 refine zcg (n:=r1.length) (by decide) rfl (List.length_map _) zlH ?_
 refine Oi (.b (decide ((r1.length:Int)>1))) ?_
 refine Ni ?_
 refine Ws ?_
 rcases bft (decide ((r1.length:Int)>1)) with hb2 | hb2
 ·replace hM:=ifT hM hb2
  refine Ct hb2 ?_
  refine Sq ?_
  refine Rg 2 ?_
  refine Oa (.sl .nil 0 []) ?_
  refine Oa (.i 2) ?_
  refine Ni ?_
  refine Ws ?_
  refine zaQ ?_
  refine zaq ?_
  refine za7 (x:=.tup [.sl .nil 0 [],.i 2]) (f:=fun r=>.tup [.sl .no 1 (r.1.map cI),.i r.2]) (.inr rfl) ?_ (.tupL (.cons (.sl0 .nil 1 0) (.k .nil))) (Option.some.inj hM) hS
  exact (zc3 (zai (x:=.sl .nil 0 []) rfl) (zai (x:=.i 2) rfl))
 ·replace hM:=ifF hM hb2
  refine Cf hb2 ?_
  refine zaC ?_
  refine Ws ?_
  refine Sq ?_
  refine Rg 5 ?_
  refine Om (.sl .no 1 (r1.map (cL 1 cI))) ?_
  obtain ⟨x3,hx3,hM⟩:=zas hM
  refine zbu (xs:=r1) (f:=(cL 1 cI)) (z:=0) (u:=x3) (by decide) rfl rfl zja hx3 ?_
  refine Olp (.sl .no 1 (x3.map cI)) zb6 zcX ?_
  refine Oa (.sl .no 1 (x3.map cI)) ?_
  refine Oa (.i 0) ?_
  refine Ni ?_
  refine zfW [(2,.sl .no 1 (x3.map cI)),(3,.i 0)] (.k (.k .nil)) ?_
  refine zaQ ?_
  refine za7 (x:=.tup [.sl .no 1 (x3.map cI),.i 0]) (f:=fun r=>.tup [.sl .no 1 (r.1.map cI),.i r.2]) (.inr rfl) ?_ (.refl _) (Option.some.inj hM) hS
  exact (zc3 (zai (x:=.sl .no 1 (x3.map cI)) rfl) (zai (x:=.i 0) rfl))
theorem zio {n:Nat} {a0:Pulse} {r:(List Int)×Int} (hM:zfk n a0=some r):zaJ Try.prog 21 [.agg (Pulse.cells a0)] (.tup [.sl .no 1 (r.1.map cI),.i r.2]):=by
 refine zax mixed Try.func21 rfl (by decide) Try.ntmps21 (by simp) ?pure fun H0 g hf=>?_
 case pure=>exact .tup _ (zac (.sl _ _ (zav (fun x=>(zac (.v _) zaE)))) (zac (.v _) zaE))
 rw [zan]
 change wpA _ _ _ _ (Fr.of [(0,.agg (Pulse.cells a0))]) H0 g
 have hS:=St.start hf
 refine Sq ?_
 refine Rg 3 ?_
 refine zd2 (v:=.agg (Pulse.cells a0)) (cs:=(Pulse.cells a0)) hS (by decide) rfl rfl (by omega) fun H hS=>?_
 refine Oa (.sl .nil 0 []) ?_
 refine Oa (.i 0) ?_
 refine Ni ?_
 refine zda (L':=[]) 0 1 hS rfl rfl rfl fun H hS=>?_
 refine Ws ?_
 refine Sq ?_
 refine Rg 7 ?_
 refine Olg (.agg (Pulse.cells a0)) zb7 ?_
 obtain ⟨r1,hr1,hM⟩:=zas hM
 refine zaP (bs:=[.agg (Pulse.cells a0),.fn (.func 47) [] []]) (by decide) rfl rfl (zlv ((zk3 (Lo:=(fun (_:Unit)=>[]))  (fun _ _=>zeF) (fun _=>List.nodup_nil) (fun _=>ze2) (aF:=(fun (x0:Train_) (_:Unit)=>(zd5 x0).map fun y=>(y,()))) (fun _ H hH=>(.fn _ _ _ zgd zgd)) rfl (fun h=>zmV (ziL (zia h))) hr1).le (.k (.k .nil)))) ?_
 refine Om (.tup [.sl .no 2 (r1.1.1.map Reading_.cells),.i r1.1.2]) ?_
 refine Ox (.sl .no 2 (r1.1.1.map Reading_.cells)) ?_
 refine Ox (.i r1.1.2) ?_
 refine Oa (.sl .no 2 (r1.1.1.map Reading_.cells)) ?_
 refine Oa (.i r1.1.2) ?_
 refine Ni ?_
 refine Ws ?_
 refine Sq ?_
 refine Sq ?_
 refine Rg 2 ?_
 refine Om (.i r1.1.2) ?_
 refine Oi (.b (r1.1.2 != 0)) ?_
 refine Ni ?_
 refine Ws ?_
 rcases bft (r1.1.2 != 0) with hb2 | hb2
 ·replace hM:=ifT hM hb2
  refine Ct hb2 ?_
  refine Sq ?_
  refine Rg 3 ?_
  refine Om (.i r1.1.2) ?_
  refine Oa (.sl .nil 0 []) ?_
  refine Oa (.i r1.1.2) ?_
  refine Ni ?_
  refine Ws ?_
  refine zaQ ?_
  refine zaq ?_
  refine za7 (x:=.tup [.sl .nil 0 [],.i r1.1.2]) (f:=fun r=>.tup [.sl .no 1 (r.1.map cI),.i r.2]) (.inr rfl) ?_ (.tupL (.cons (.sl0 .nil 1 0) (.k .nil))) (Option.some.inj hM) hS
  exact (zc3 (zai (x:=.sl .nil 0 []) rfl) (zai (x:=.i r1.1.2) rfl))
 ·replace hM:=ifF hM hb2
  refine Cf hb2 ?_
  refine zaC ?_
  refine Ws ?_
  refine Sq ?_
  refine Rg 6 ?_
  refine Om (.sl .no 2 (r1.1.1.map Reading_.cells)) ?_
  obtain ⟨r3,hr3,hM⟩:=zas hM
  refine zaP (bs:=[.sl .no 2 (r1.1.1.map Reading_.cells)]) (by decide) rfl rfl ((zlM hr3).le (.k .nil)) ?_
  refine Ox (.sl .no 1 (r3.1.map cI)) ?_
  refine Ox (.i r3.2) ?_
  refine Oa (.sl .no 1 (r3.1.map cI)) ?_
  refine Oa (.i r3.2) ?_
  refine Ni ?_
  refine zfW [(2,.sl .no 1 (r3.1.map cI)),(3,.i r3.2)] (.k (.k .nil)) ?_
  refine zaQ ?_
  refine za7 (x:=.tup [.sl .no 1 (r3.1.map cI),.i r3.2]) (f:=fun r=>.tup [.sl .no 1 (r.1.map cI),.i r.2]) (.inr rfl) ?_ (.refl _) (Option.some.inj hM) hS
  exact (zc3 (zai (x:=.sl .no 1 (r3.1.map cI)) rfl) (zai (x:=.i r3.2) rfl))
theorem zgR {n:Nat} {a0:List Int} {a1:List Int} {r:Bool} (hM:zdm n a0 a1=some r):zaJ Try.prog 22 [.sl .no 1 (a0.map cI),.sl .no 1 (a1.map cI)] (.b r):=by
 refine zax mixed Try.func22 rfl (by decide) Try.ntmps22 (by simp) ?pure fun H0 g hf=>?_
 case pure=>exact .v _
 rw [zan]
 change wpA _ _ _ _ (Fr.of [(0,.sl .no 1 (a0.map cI)),(1,.sl .no 1 (a1.map cI))]) H0 g
 have hS:=St.start hf
 refine Sq ?_
 refine Rg 1 ?_
 refine Oa (.b false) ?_
 refine Ni ?_
 refine Ws ?_
 refine Sq ?_
 refine Sq ?_
 refine Rg 5 ?_
 refine Om (.sl .no 1 (a0.map cI)) ?_
 refine zcg (n:=a0.length) (by decide) rfl (List.length_map _) zbA ?_
 refine Om (.sl .no 1 (a1.map cI)) ?_
 refine zcg (n:=a1.length) (by decide) rfl (List.length_map _) zbA ?_
 refine Oi (.b ((a0.length:Int) != (a1.length:Int))) ?_
 refine Ni ?_
 refine Ws ?_
 rcases bft ((a0.length:Int) != (a1.length:Int)) with hb1 | hb1
 ·replace hM:=ifT hM hb1
  refine Ct hb1 ?_
  refine Sq ?_
  refine Rg 1 ?_
  refine Oa (.b false) ?_
  refine Ni ?_
  refine Ws ?_
  refine zaQ ?_
  refine zaq ?_
  refine za7 (x:=.b false) (f:=fun r=>.b r) (.inr rfl) ?_ (.refl _) (Option.some.inj hM) hS
  exact (zaw (zai (x:=.b false) rfl))
 ·replace hM:=ifF hM hb1
  refine Cf hb1 ?_
  refine zaC ?_
  refine Ws ?_
  refine zaO (J:=Unit) (fun j=>[]) (fun j H' g'=>St (·<g) H0 [] H' g'/\zdx=some r) ?_ ?_
  ·rintro _ H g1 ⟨hS,hM⟩
   change wpA _ _ _ _ (Fr.of []) _ _
   replace hS:St (·<g) H0 [] H g1:=hS
   replace hM:zdx=some r:=hM
   refine Sq ?_
   refine Rg 1 ?_
   refine Oa (.b true) ?_
   refine Ni ?_
   refine Ws ?_
   refine zaQ ?_
   refine za7 (x:=.b true) (f:=fun r=>.b r) (.inr rfl) ?_ (.refl _) (Option.some.inj hM) hS
   exact (zaw (zai (x:=.b true) rfl))
  ·refine Sq ?_
   refine Rg 1 ?_
   refine Oa (.i 0) ?_
   refine Ni ?_
   refine Ws ?_
   refine zaz ?_
   refine zcx (V:=Int) (fun v=>[(0,.sl .no 1 (a0.map cI)),(1,.sl .no 1 (a1.map cI)),(5,.i v)]) (fun v m2 H' g'=>St (·<g) H0 [] H' g'/\zbd a0 a1 m2 v=some r) (n:=n) 0 (.k (.k (.k .nil))) ⟨(hS.keep [] rfl).up (by omega),hM⟩ ?_
   rintro v2 m2 H g2 ⟨hS,hM⟩
   obtain _ | m2:=m2
   ·exact nomatch (show none=some _ from hM)
   change wpA _ _ _ _ (Fr.of [(0,.sl .no 1 (a0.map cI)),(1,.sl .no 1 (a1.map cI)),(5,.i v2)]) _ _
   replace hS:St (·<g) H0 [] H g2:=hS
   replace hM:zcA a0 a1 (zbd a0 a1 m2) v2=some r:=hM
   refine Sq ?_
   refine Sq ?_
   refine Rg 4 ?_
   refine Om (.i v2) ?_
   refine Om (.sl .no 1 (a0.map cI)) ?_
   refine zcg (n:=a0.length) (by decide) rfl (List.length_map _) zbA ?_
   refine Oi (.b (decide (v2<(a0.length:Int)))) ?_
   refine Ni ?_
   refine Ws ?_
   rcases bft (decide (v2<(a0.length:Int))) with hb3 | hb3
   ·replace hM:=ifT hM hb3
    refine Ct hb3 ?_
    refine zaC ?_
    refine Ws ?_
    refine Sq ?_
    refine zaz ?_
    refine Sq ?_
    have hS0:=hS
    refine zd1 (n:=9) rfl (by kernel_rfl) ?_
    refine Om (.sl .no 1 (a0.map cI)) ?_
    refine Om (.i v2) ?_
    obtain ⟨x4,hx4,hM⟩:=zas hM
    refine zbu (xs:=a0) (f:=cI) (z:=v2) (u:=x4) (by decide) rfl rfl zbL hx4 ?_
    refine Olp (.i x4) zaf zap ?_
    refine Om (.sl .no 1 (a1.map cI)) ?_
    refine Om (.i v2) ?_
    obtain ⟨x5,hx5,hM⟩:=zas hM
    refine zbu (xs:=a1) (f:=cI) (z:=v2) (u:=x5) (by decide) rfl rfl zbL hx5 ?_
    refine Olp (.i x5) zaf zap ?_
    refine Oi (.b (x4 != x5)) ?_
    refine Ni ?_
    refine Ws ?_
    rcases bft (x4 != x5) with hb6 | hb6
    ·replace hM:=ifT hM hb6
     refine Ct hb6 ?_
     refine Sq ?_
     refine Rg 1 ?_
     refine Oa (.b false) ?_
     refine Ni ?_
     refine Ws ?_
     refine zaQ ?_
     refine zaI ?_
     refine zaq ?_
     refine zbs ?_
     refine zaI ?_
     refine zbr ?_
     refine za7 (x:=.b false) (f:=fun r=>.b r) (.inr rfl) ?_ (.refl _) (Option.some.inj hM) hS
     exact (zaw (zai (x:=.b false) rfl))
    ·replace hM:=ifF hM hb6
     refine Cf hb6 ?_
     refine zaC ?_
     refine zah ?_
     refine Ws ?_
     refine Rg 3 ?_
     refine Om (.i v2) ?_
     refine Oi (.i (w64 (v2+1))) ?_
     refine Oa (.i (w64 (v2+1))) ?_
     refine Ni ?_
     exact zbF (w64 (v2+1)) (Nat.lt_succ_self _) (.k (.k (.k .nil))) ⟨(hS.keep [] rfl).up (by omega),hM⟩
   ·replace hM:=ifF hM hb3
    refine Cf hb3 ?_
    refine zcp ?_
    refine zay ?_
    refine zau ?_
    refine zaD ?_
    exact zak () .nil ⟨(hS.keep [] rfl).up (by omega),hM⟩
theorem zhm {n:Nat} {r:Bool} (hM:zgt n=some r):zaJ Try.prog 19 [] (.b r):=by
 refine zax mixed Try.func19 rfl (by decide) Try.ntmps19 (by simp) ?pure fun H0 g hf=>?_
 case pure=>exact .v _
 rw [zan]
 change wpA _ _ _ _ (Fr.of []) H0 g
 have hS:=St.start hf
 refine Sq ?_
 refine Rg 1 ?_
 refine Oa (.b false) ?_
 refine Ni ?_
 refine Ws ?_
 refine Sq ?_
 refine Rg 8 ?_
 refine zbj (es:=[[.i 0],[.i 10],[.i 40],[.i 50],[.i 60]]) hS (by decide) zbL zeB rfl zeC rfl (by decide) (by omega) fun H hS=>?_
 refine zdb (cs:=[.i 3,.i 4,.i 10,.i 2,.i 30,.i 100,.i 0,.sl (.id (g+1+0)) 1 (([0,10,40,50,60]:List Int).map cI)]) (by decide) zgu zrF rfl ?_
 obtain ⟨r1,hr1,hM⟩:=zas hM
 refine zaP (bs:=[.agg [.i 3,.i 4,.i 10,.i 2,.i 30,.i 100,.i 0,.sl (.id (g+1+0)) 1 (([0,10,40,50,60]:List Int).map cI)]]) (by decide) rfl rfl ((zio hr1).le (.cons (.aggL (.k (.k (.k (.k (.k (.k (.k (.cons (.sl _ _ _) .nil))))))))) .nil)) ?_
 refine Om (.tup [.sl .no 1 (r1.1.map cI),.i r1.2]) ?_
 refine Ox (.sl .no 1 (r1.1.map cI)) ?_
 refine Ox (.i r1.2) ?_
 refine Oa (.sl .no 1 (r1.1.map cI)) ?_
 refine Oa (.i r1.2) ?_
 refine Ni ?_
 replace hS:=hS.keep (L':=[]) [false] rfl
 refine Ws ?_
 refine zaO (J:=Bool) (fun j=>[(0,.b j)]) (fun j H' g'=>St (·<g) H0 [] H' g'/\zfK j=some r) ?_ ?_
 ·rintro v2 H g1 ⟨hS,hM⟩
  change wpA _ _ _ _ (Fr.of [(0,.b v2)]) _ _
  replace hS:St (·<g) H0 [] H g1:=hS
  replace hM:zfK v2=some r:=hM
  refine zaQ ?_
  refine za7 (x:=.b v2) (f:=fun r=>.b r) (.inr rfl) ?_ (.refl _) (Option.some.inj hM) hS
  exact (zaw (zai (x:=.b v2) rfl))
 ·refine Rg 8 ?_
  refine Om (.i r1.2) ?_
  refine Oi (.b (r1.2==0)) ?_
  refine Om (.b (r1.2==0)) ?_
  rcases bft (r1.2==0) with hb3 | hb3
  ·replace hM:=ifT hM hb3
   refine Oy (want:=true) hb3 ?_
   refine Om (.sl .no 1 (r1.1.map cI)) ?_
   refine Oy (want:=true) hb3 ?_
   refine zbj (es:=[[.i 6]]) hS (by decide) zbL zeB rfl zeC rfl (by decide) (by omega) fun H hS=>?_
   refine Oy (want:=true) hb3 ?_
   obtain ⟨r4,hr4,hM⟩:=zas hM
   refine zaP (bs:=[.sl .no 1 (r1.1.map cI),.sl (.id (g+1+8+4)) 1 (([6]:List Int).map cI)]) (by decide) rfl rfl ((zgR hr4).le (.k (.cons (.sl _ _ _) .nil))) ?_
   refine Pt (.b r4) hb3 ?_
   refine Oa (.b r4) ?_
   refine Ni ?_
   exact zak r4 (.k .nil) ⟨(hS.keep [false] rfl).up (by omega),hM⟩
  ·replace hM:=ifF hM hb3
   refine On (want:=true) hb3 ?_
   refine On (want:=true) hb3 ?_
   refine On (want:=true) hb3 ?_
   refine Pf (.b false) hb3 ?_
   refine Oa (.b false) ?_
   refine Ni ?_
   exact zak false (.k .nil) ⟨(hS.keep [] rfl).up (by omega),hM⟩
theorem zlN {a0:Pulse} {r:Pulse} (hM:zhy a0=some r):zaJ Try.prog 42 [.agg (Pulse.cells a0)] (.agg [.i r.Letters,.i r.Numbers,.i r.Pitch,.i r.Slack,.i r.Gap,.i r.Pause,.i r.Sparks,.sl .no 1 (r.Times.map cI)]):=by
 refine zax mixed Try.func42 rfl (by decide) Try.ntmps42 (by simp) ?pure fun H0 g hf=>?_
 case pure=>exact .agg _ (zac (.v _) (zac (.v _) (zac (.v _) (zac (.v _) (zac (.v _) (zac (.v _) (zac (.v _) (zac (.sl _ _ (zav (fun x=>(zac (.v _) zaE)))) zaE))))))))
 rw [zan]
 change wpA _ _ _ _ (Fr.of [(0,.agg (Pulse.cells a0))]) H0 g
 have hS:=St.start hf
 refine Sq ?_
 refine Rg 2 ?_
 refine zd2 (v:=.agg (Pulse.cells a0)) (cs:=(Pulse.cells a0)) hS (by decide) rfl rfl (by omega) fun H hS=>?_
 refine zdI hS (by decide) zgu (by omega) fun H hS=>?_
 refine Ni ?_
 refine zda (L':=[(g+1,.cells [.i 0,.i 0,.i 0,.i 0,.i 0,.i 0,.i 0,.sl .nil 0 []])]) 1 1 hS rfl rfl rfl fun H hS=>?_
 refine Ws ?_
 refine Sq ?_
 refine Rg 3 ?_
 refine Olg (.agg (Pulse.cells a0)) zb7 ?_
 refine zdI hS (by decide) zgu (by omega) fun H hS=>?_
 refine zaM (v:=.agg (Pulse.cells a0)) (ns:=(Pulse.cells a0)) (L':=[(g+2+1,.cells (Pulse.cells a0)),(g+1,.cells [.i 0,.i 0,.i 0,.i 0,.i 0,.i 0,.i 0,.sl .nil 0 []])]) 0 hS rfl rfl .no rfl rfl zgi nlb rfl fun H hS=>?_
 refine Ni ?_
 refine Ws ?_
 refine Sq ?_
 refine Rg 6 ?_
 refine zbj (es:=[]) hS (by decide) zbL zeB rfl zeC rfl (by decide) (by omega) fun H hS=>?_
 refine Of ((Pulse.cells a0)) zdR ?_
 refine Olp (.sl .no 1 (a0.Times.map cI)) zb6 zcX ?_
 obtain ⟨l1,hl1,hM⟩:=zas hM
 refine zdJ (xs:=([]:List Int)) (ys:=a0.Times) (zs:=l1) (f:=cI) (L':=[(g+2+3+0,.row 3 l1.length),(g+2+1,.cells (Pulse.cells a0)),(g+1,.cells [.i 0,.i 0,.i 0,.i 0,.i 0,.i 0,.i 0,.sl .nil 0 []])]) 0 hS (by decide) rfl rfl rfl rfl .no zbL zeB zeC hl1 rfl fun H hS=>?_
 refine zag (by decide) zdR rfl ?_
 refine zaM (v:=.sl (.id (g+2+3+0)) 1 (l1.map cI)) (ns:=[.sl (.id (g+2+3+0)) 1 (l1.map cI)]) (L':=[(g+2+3+0,.row 3 l1.length),(g+2+1,.cells [.i a0.Letters,.i a0.Numbers,.i a0.Pitch,.i a0.Slack,.i a0.Gap,.i a0.Pause,.i a0.Sparks,.sl (.id (g+2+3+0)) 1 (l1.map cI)]),(g+1,.cells [.i 0,.i 0,.i 0,.i 0,.i 0,.i 0,.i 0,.sl .nil 0 []])]) 1 hS rfl rfl .no rfl rfl zfv nlb rfl fun H hS=>?_
 refine Ni ?_
 refine Ws ?_
 refine Sq ?_
 refine Rg 2 ?_
 refine zaG (v:=.agg [.i a0.Letters,.i a0.Numbers,.i a0.Pitch,.i a0.Slack,.i a0.Gap,.i a0.Pause,.i a0.Sparks,.sl (.id (g+2+3+0)) 1 (l1.map cI)]) 1 hS (by decide) rfl rfl .no (pg zb7) ?_
 refine zaM (v:=.agg [.i a0.Letters,.i a0.Numbers,.i a0.Pitch,.i a0.Slack,.i a0.Gap,.i a0.Pause,.i a0.Sparks,.sl (.id (g+2+3+0)) 1 (l1.map cI)]) (ns:=[.i a0.Letters,.i a0.Numbers,.i a0.Pitch,.i a0.Slack,.i a0.Gap,.i a0.Pause,.i a0.Sparks,.sl (.id (g+2+3+0)) 1 (l1.map cI)]) (L':=[(g+2+3+0,.row 3 l1.length),(g+2+1,.cells [.i a0.Letters,.i a0.Numbers,.i a0.Pitch,.i a0.Slack,.i a0.Gap,.i a0.Pause,.i a0.Sparks,.sl (.id (g+2+3+0)) 1 (l1.map cI)]),(g+1,.cells [.i a0.Letters,.i a0.Numbers,.i a0.Pitch,.i a0.Slack,.i a0.Gap,.i a0.Pause,.i a0.Sparks,.sl (.id (g+2+3+0)) 1 (l1.map cI)])]) 2 hS rfl rfl .no rfl rfl zgi nlb rfl fun H hS=>?_
 refine Ni ?_
 replace hS:=hS.keep (L':=[(g+2+3+0,.row 3 l1.length),(g+1,.cells [.i a0.Letters,.i a0.Numbers,.i a0.Pitch,.i a0.Slack,.i a0.Gap,.i a0.Pause,.i a0.Sparks,.sl (.id (g+2+3+0)) 1 (l1.map cI)])]) [true,false,true] rfl
 refine zfW [(2,.ptr (g+1) 0)] (.k .nil) ?_
 refine zaQ ?_
 refine za7 (x:=.agg [.i a0.Letters,.i a0.Numbers,.i a0.Pitch,.i a0.Slack,.i a0.Gap,.i a0.Pause,.i a0.Sparks,.sl (.id (g+2+3+0)) 1 (l1.map cI)]) (f:=fun r=>.agg [.i r.Letters,.i r.Numbers,.i r.Pitch,.i r.Slack,.i r.Gap,.i r.Pause,.i r.Sparks,.sl .no 1 (r.Times.map cI)]) (.inr rfl) ?_ (.aggL (.k (.k (.k (.k (.k (.k (.k (.cons (.sl _ _ _) .nil))))))))) (Option.some.inj hM) hS
 exact (zaw (zei (x:=.agg [.i a0.Letters,.i a0.Numbers,.i a0.Pitch,.i a0.Slack,.i a0.Gap,.i a0.Pause,.i a0.Sparks,.sl (.id (g+2+3+0)) 1 (l1.map cI)]) 1 hS rfl rfl (pg zb7)))
theorem zhJ {a0:Int} {a1:Int} {a2:Int} {r:Bool} (hM:zd7 a0 a1 a2=some r):zaJ Try.prog 95 [.i a0,.i a1,.i a2] (.b r):=by
 refine zax mixed Try.func95 rfl (by decide) Try.ntmps95 (by simp) ?pure fun H0 g hf=>?_
 case pure=>exact .v _
 rw [zan]
 change wpA _ _ _ _ (Fr.of [(0,.i a0),(1,.i a1),(2,.i a2)]) H0 g
 have hS:=St.start hf
 refine Sq ?_
 refine Rg 1 ?_
 refine Oa (.b false) ?_
 refine Ni ?_
 refine Ws ?_
 refine zaO (J:=Bool) (fun j=>[(6,.b j)]) (fun j H' g'=>St (·<g) H0 [] H' g'/\zdy j=some r) ?_ ?_
 ·rintro v1 H g1 ⟨hS,hM⟩
  change wpA _ _ _ _ (Fr.of [(6,.b v1)]) _ _
  replace hS:St (·<g) H0 [] H g1:=hS
  replace hM:zdy v1=some r:=hM
  refine zaQ ?_
  refine za7 (x:=.b v1) (f:=fun r=>.b r) (.inr rfl) ?_ (.refl _) (Option.some.inj hM) hS
  exact (zaw (zai (x:=.b v1) rfl))
 ·refine Rg 9 ?_
  refine Om (.i a0) ?_
  refine Om (.i a1) ?_
  refine Oi (.b (decide (a0≥a1))) ?_
  refine Om (.b (decide (a0≥a1))) ?_
  rcases bft (decide (a0≥a1)) with hb2 | hb2
  ·replace hM:=ifT hM hb2
   refine Oy (want:=true) hb2 ?_
   refine Om (.i a0) ?_
   refine Oy (want:=true) hb2 ?_
   refine Om (.i a2) ?_
   refine Oy (want:=true) hb2 ?_
   refine Oi (.b (decide (a0<=a2))) ?_
   refine Pt (.b (decide (a0<=a2))) hb2 ?_
   refine Oa (.b (decide (a0<=a2))) ?_
   refine Ni ?_
   exact zak (decide (a0<=a2)) (.k .nil) ⟨(hS.keep [] rfl).up (by omega),hM⟩
  ·replace hM:=ifF hM hb2
   refine On (want:=true) hb2 ?_
   refine On (want:=true) hb2 ?_
   refine On (want:=true) hb2 ?_
   refine Pf (.b false) hb2 ?_
   refine Oa (.b false) ?_
   refine Ni ?_
   exact zak false (.k .nil) ⟨(hS.keep [] rfl).up (by omega),hM⟩
theorem zc0 {a0:Int} {a1:Int} {a2:Int} {r:Bool} (hM:zcI a0 a1 a2=some r):zaJ Try.prog 71 [.i a0,.i a1,.i a2] (.b r):=by
 refine zax mixed Try.func71 rfl (by decide) Try.ntmps71 (by simp) ?pure fun H0 g hf=>?_
 case pure=>exact .v _
 rw [zan]
 change wpA _ _ _ _ (Fr.of [(0,.i a0),(1,.i a1),(2,.i a2)]) H0 g
 have hS:=St.start hf
 refine Sq ?_
 refine Rg 1 ?_
 refine Oa (.b false) ?_
 refine Ni ?_
 refine Ws ?_
 refine Sq ?_
 refine Rg 5 ?_
 refine Om (.i a0) ?_
 refine Om (.i a1) ?_
 refine Om (.i a2) ?_
 obtain ⟨r1,hr1,hM⟩:=zas hM
 refine zaP (bs:=[.i a0,.i a1,.i a2]) (by decide) rfl rfl ((zhJ hr1).le (.k (.k (.k .nil)))) ?_
 refine Oa (.b r1) ?_
 refine Ni ?_
 refine zfW [(6,.b r1)] (.k .nil) ?_
 refine zaQ ?_
 refine za7 (x:=.b r1) (f:=fun r=>.b r) (.inr rfl) ?_ (.refl _) (Option.some.inj hM) hS
 exact (zaw (zai (x:=.b r1) rfl))
theorem zjZ {n:Nat} {a0:List Int} {a1:Int} {a2:Int} {r:Bool} (hM:zhh n a0 a1 a2=some r):zaJ Try.prog 72 [.sl .no 1 (a0.map cI),.i a1,.i a2] (.b r):=by
 refine zax mixed Try.func72 rfl (by decide) Try.ntmps72 (by simp) ?pure fun H0 g hf=>?_
 case pure=>exact .v _
 rw [zan]
 change wpA _ _ _ _ (Fr.of [(0,.sl .no 1 (a0.map cI)),(1,.i a1),(2,.i a2)]) H0 g
 have hS:=St.start hf
 refine Sq ?_
 refine Rg 1 ?_
 refine Oa (.b false) ?_
 refine Ni ?_
 refine Ws ?_
 refine zaO (J:=Unit) (fun j=>[]) (fun j H' g'=>St (·<g) H0 [] H' g'/\ze7=some r) ?_ ?_
 ·rintro _ H g1 ⟨hS,hM⟩
  change wpA _ _ _ _ (Fr.of []) _ _
  replace hS:St (·<g) H0 [] H g1:=hS
  replace hM:ze7=some r:=hM
  refine Sq ?_
  refine Rg 1 ?_
  refine Oa (.b true) ?_
  refine Ni ?_
  refine Ws ?_
  refine zaQ ?_
  refine za7 (x:=.b true) (f:=fun r=>.b r) (.inr rfl) ?_ (.refl _) (Option.some.inj hM) hS
  exact (zaw (zai (x:=.b true) rfl))
 ·refine Sq ?_
  refine Rg 1 ?_
  refine Oa (.i 0) ?_
  refine Ni ?_
  refine Ws ?_
  refine zaz ?_
  refine zcx (V:=Int) (fun v=>[(0,.sl .no 1 (a0.map cI)),(1,.i a1),(2,.i a2),(7,.i v)]) (fun v m2 H' g'=>St (·<g) H0 [] H' g'/\zcl a0 a1 a2 m2 v=some r) (n:=n) 0 (.k (.k (.k (.k .nil)))) ⟨(hS.keep [] rfl).up (by omega),hM⟩ ?_
  rintro v1 m2 H g2 ⟨hS,hM⟩
  obtain _ | m2:=m2
  ·exact nomatch (show none=some _ from hM)
  change wpA _ _ _ _ (Fr.of [(0,.sl .no 1 (a0.map cI)),(1,.i a1),(2,.i a2),(7,.i v1)]) _ _
  replace hS:St (·<g) H0 [] H g2:=hS
  replace hM:zeq a0 a1 a2 (zcl a0 a1 a2 m2) v1=some r:=hM
  refine Sq ?_
  refine Sq ?_
  refine Rg 4 ?_
  refine Om (.i v1) ?_
  refine Om (.sl .no 1 (a0.map cI)) ?_
  refine zcg (n:=a0.length) (by decide) rfl (List.length_map _) zbA ?_
  refine Oi (.b (decide (v1<(a0.length:Int)))) ?_
  refine Ni ?_
  refine Ws ?_
  rcases bft (decide (v1<(a0.length:Int))) with hb2 | hb2
  ·replace hM:=ifT hM hb2
   refine Ct hb2 ?_
   refine zaC ?_
   refine Ws ?_
   refine Sq ?_
   refine zaz ?_
   refine zaO (J:=Bool) (fun j=>[(0,.sl .no 1 (a0.map cI)),(1,.i a1),(2,.i a2),(7,.i v1),(37,.b j)]) (fun j H' g'=>St (·<g) H0 [] H' g'/\zcJ (zcl a0 a1 a2 m2) v1 j=some r) ?_ ?_
   ·rintro v3 H g3 ⟨hS,hM⟩
    change wpA _ _ _ _ (Fr.of [(0,.sl .no 1 (a0.map cI)),(1,.i a1),(2,.i a2),(7,.i v1),(37,.b v3)]) _ _
    replace hS:St (·<g) H0 [] H g3:=hS
    replace hM:zcJ (zcl a0 a1 a2 m2) v1 v3=some r:=hM
    rcases bft v3 with hb4 | hb4
    ·replace hM:=ifT hM hb4
     refine Ct hb4 ?_
     refine Sq ?_
     refine Rg 1 ?_
     refine Oa (.b false) ?_
     refine Ni ?_
     refine Ws ?_
     refine zaQ ?_
     refine zaI ?_
     refine zaq ?_
     refine zbs ?_
     refine zaI ?_
     refine zbr ?_
     refine za7 (x:=.b false) (f:=fun r=>.b r) (.inr rfl) ?_ (.refl _) (Option.some.inj hM) hS
     exact (zaw (zai (x:=.b false) rfl))
    ·replace hM:=ifF hM hb4
     refine Cf hb4 ?_
     refine zaC ?_
     refine zah ?_
     refine Ws ?_
     refine Rg 3 ?_
     refine Om (.i v1) ?_
     refine Oi (.i (w64 (v1+1))) ?_
     refine Oa (.i (w64 (v1+1))) ?_
     refine Ni ?_
     exact zbF (w64 (v1+1)) (Nat.lt_succ_self _) (.k (.k (.k (.k .nil)))) ⟨(hS.keep [] rfl).up (by omega),hM⟩
   ·have hS0:=hS
    refine zd1 (n:=24) rfl (by kernel_rfl) ?_
    refine Om (.sl .no 1 (a0.map cI)) ?_
    refine Om (.i v1) ?_
    obtain ⟨x5,hx5,hM⟩:=zas hM
    refine zbu (xs:=a0) (f:=cI) (z:=v1) (u:=x5) (by decide) rfl rfl zbL hx5 ?_
    refine Olp (.i x5) zaf zap ?_
    refine Om (.i a1) ?_
    refine Om (.i a2) ?_
    obtain ⟨r6,hr6,hM⟩:=zas hM
    refine zaP (bs:=[.i x5,.i a1,.i a2]) (by decide) rfl rfl ((zhJ hr6).le (.k (.k (.k .nil)))) ?_
    refine zdW (e:=r6) (by decide) rfl ?_
    refine Om (.b (!r6)) ?_
    rcases bft (!r6) with hb7 | hb7
    ·replace hM:=ifT hM hb7
     refine On (want:=false) hb7 ?_
     refine On (want:=false) hb7 ?_
     refine On (want:=false) hb7 ?_
     refine za0 (j:=11) (by decide) rfl ?_
     refine za0 (j:=11) (by decide) rfl ?_
     refine za0 (j:=11) (by decide) rfl ?_
     refine za0 (j:=11) (by decide) rfl ?_
     refine za0 (j:=11) (by decide) rfl ?_
     refine za0 (j:=11) (by decide) rfl ?_
     refine za0 (j:=11) (by decide) rfl ?_
     refine za0 (j:=11) (by decide) rfl ?_
     refine za0 (j:=11) (by decide) rfl ?_
     refine za0 (j:=11) (by decide) rfl ?_
     refine On (want:=false) hb7 ?_
     refine Pt (.b true) hb7 ?_
     refine Ni ?_
     exact zak true (.k (.k (.k (.k (.k .nil))))) ⟨(hS.keep [] rfl).up (by omega),hM⟩
    ·replace hM:=ifF hM hb7
     refine Oy (want:=false) hb7 ?_
     refine Om (.i v1) ?_
     refine Oy (want:=false) hb7 ?_
     refine Oi (.b (decide (v1>0))) ?_
     refine Oy (want:=false) hb7 ?_
     refine Om (.b (decide (v1>0))) ?_
     rcases bft (decide (v1>0)) with hb8 | hb8
     ·replace hM:=ifT hM hb8
      refine Oy (want:=true) hb8 ?_
      refine Om (.sl .no 1 (a0.map cI)) ?_
      refine Oy (want:=true) hb8 ?_
      refine Om (.i v1) ?_
      refine Oy (want:=true) hb8 ?_
      obtain ⟨x9,hx9,hM⟩:=zas hM
      refine zbu (xs:=a0) (f:=cI) (z:=v1) (u:=x9) (by decide) rfl rfl zbL hx9 ?_
      refine Oy (want:=true) hb8 ?_
      refine Olp (.i x9) zaf zap ?_
      refine Oy (want:=true) hb8 ?_
      refine Om (.sl .no 1 (a0.map cI)) ?_
      refine Oy (want:=true) hb8 ?_
      refine Om (.i v1) ?_
      refine Oy (want:=true) hb8 ?_
      refine Oi (.i (w64 (v1-1))) ?_
      refine Oy (want:=true) hb8 ?_
      obtain ⟨x10,hx10,hM⟩:=zas hM
      refine zbu (xs:=a0) (f:=cI) (z:=(w64 (v1-1))) (u:=x10) (by decide) rfl rfl zbL hx10 ?_
      refine Oy (want:=true) hb8 ?_
      refine Olp (.i x10) zaf zap ?_
      refine Oy (want:=true) hb8 ?_
      refine Oi (.b (decide (x9<=x10))) ?_
      refine Oy (want:=false) hb7 ?_
      refine Pt (.b (decide (x9<=x10))) hb8 ?_
      refine Pf (.b (decide (x9<=x10))) hb7 ?_
      refine Ni ?_
      exact zak (decide (x9<=x10)) (.k (.k (.k (.k (.k .nil))))) ⟨(hS.keep [] rfl).up (by omega),hM⟩
     ·replace hM:=ifF hM hb8
      refine On (want:=true) hb8 ?_
      refine On (want:=true) hb8 ?_
      refine On (want:=true) hb8 ?_
      refine On (want:=true) hb8 ?_
      refine On (want:=true) hb8 ?_
      refine On (want:=true) hb8 ?_
      refine On (want:=true) hb8 ?_
      refine On (want:=true) hb8 ?_
      refine On (want:=true) hb8 ?_
      refine On (want:=true) hb8 ?_
      refine Oy (want:=false) hb7 ?_
      refine Pf (.b false) hb8 ?_
      refine Pf (.b false) hb7 ?_
      refine Ni ?_
      exact zak false (.k (.k (.k (.k (.k .nil))))) ⟨(hS.keep [] rfl).up (by omega),hM⟩
  ·replace hM:=ifF hM hb2
   refine Cf hb2 ?_
   refine zcp ?_
   refine zay ?_
   refine zau ?_
   refine zaD ?_
   exact zak () .nil ⟨(hS.keep [] rfl).up (by omega),hM⟩
theorem ziq {n:Nat} {a0:Pulse} {r:Int} (hM:zf1 n a0=some r):zaJ Try.prog 43 [.agg (Pulse.cells a0)] (.i r):=by
 refine zax mixed Try.func43 rfl (by decide) Try.ntmps43 (by simp) ?pure fun H0 g hf=>?_
 case pure=>exact .v _
 rw [zan]
 change wpA _ _ _ _ (Fr.of [(0,.agg (Pulse.cells a0))]) H0 g
 have hS:=St.start hf
 refine Sq ?_
 refine Rg 2 ?_
 refine zd2 (v:=.agg (Pulse.cells a0)) (cs:=(Pulse.cells a0)) hS (by decide) rfl rfl (by omega) fun H hS=>?_
 refine Oa (.i 0) ?_
 refine Ni ?_
 refine zda (L':=[]) 0 1 hS rfl rfl rfl fun H hS=>?_
 refine Ws ?_
 refine Sq ?_
 refine zaO (J:=Bool) (fun j=>[(66,.b j)]) (fun j H' g'=>St (·<g) H0 [] H' g'/\zbE j=some r) ?_ ?_
 ·rintro v1 H g1 ⟨hS,hM⟩
  change wpA _ _ _ _ (Fr.of [(66,.b v1)]) _ _
  replace hS:St (·<g) H0 [] H g1:=hS
  replace hM:zbE v1=some r:=hM
  rcases bft v1 with hb2 | hb2
  ·replace hM:=ifT hM hb2
   refine Ct hb2 ?_
   refine Sq ?_
   refine Rg 1 ?_
   refine Oa (.i 130) ?_
   refine Ni ?_
   refine Ws ?_
   refine zaQ ?_
   refine zaq ?_
   refine za7 (x:=.i 130) (f:=fun r=>.i r) (.inr rfl) ?_ (.refl _) (Option.some.inj hM) hS
   exact (zaw (zai (x:=.i 130) rfl))
  ·replace hM:=ifF hM hb2
   refine Cf hb2 ?_
   refine zaC ?_
   refine Ws ?_
   refine Sq ?_
   refine Rg 1 ?_
   refine Oa (.i 0) ?_
   refine Ni ?_
   refine Ws ?_
   refine zaQ ?_
   refine za7 (x:=.i 0) (f:=fun r=>.i r) (.inr rfl) ?_ (.refl _) (Option.some.inj hM) hS
   exact (zaw (zai (x:=.i 0) rfl))
 ·refine Rg 64 ?_
  refine Of ((Pulse.cells a0)) zgx ?_
  refine Olp (.i a0.Letters) zaf zap ?_
  obtain ⟨r3,hr3,hM⟩:=zas hM
  refine zaP (bs:=[.i a0.Letters,.i 1,.i 5]) (by decide) rfl rfl ((zc0 hr3).le (.k (.k (.k .nil)))) ?_
  refine zdW (e:=r3) (by decide) rfl ?_
  refine Om (.b (!r3)) ?_
  rcases bft (!r3) with hb4 | hb4
  ·replace hM:=ifT hM hb4
   refine On (want:=false) hb4 ?_
   refine On (want:=false) hb4 ?_
   refine On (want:=false) hb4 ?_
   refine On (want:=false) hb4 ?_
   refine Pt (.b true) hb4 ?_
   refine Om (.b true) ?_
   refine Og ?_
   refine Og ?_
   refine Og ?_
   refine Og ?_
   refine za8 (v:=.b true) (e:=true) (by decide) rfl rfl rfl ?_
   refine Om (.b true) ?_
   refine Og ?_
   refine Og ?_
   refine Og ?_
   refine Og ?_
   refine Og ?_
   refine Og ?_
   refine Og ?_
   refine za8 (v:=.b true) (e:=true) (by decide) rfl rfl rfl ?_
   refine Om (.b true) ?_
   refine Og ?_
   refine Og ?_
   refine Og ?_
   refine Og ?_
   refine za8 (v:=.b true) (e:=true) (by decide) rfl rfl rfl ?_
   refine Om (.b true) ?_
   refine Og ?_
   refine Og ?_
   refine Og ?_
   refine Og ?_
   refine Og ?_
   refine Og ?_
   refine Og ?_
   refine Og ?_
   refine Og ?_
   refine Og ?_
   refine Og ?_
   refine Og ?_
   refine Og ?_
   refine za8 (v:=.b true) (e:=true) (by decide) rfl rfl rfl ?_
   refine Om (.b true) ?_
   refine Og ?_
   refine Og ?_
   refine Og ?_
   refine Og ?_
   refine za8 (v:=.b true) (e:=true) (by decide) rfl rfl rfl ?_
   refine Om (.b true) ?_
   refine Og ?_
   refine Og ?_
   refine Og ?_
   refine Og ?_
   refine za8 (v:=.b true) (e:=true) (by decide) rfl rfl rfl ?_
   refine Om (.b true) ?_
   refine Og ?_
   refine Og ?_
   refine Og ?_
   refine Og ?_
   refine za8 (v:=.b true) (e:=true) (by decide) rfl rfl rfl ?_
   refine Ni ?_
   exact zak true (.k .nil) ⟨(hS.keep [] rfl).up (by omega),hM⟩
  ·replace hM:=ifF hM hb4
   refine Oy (want:=false) hb4 ?_
   refine Of ((Pulse.cells a0)) zfb ?_
   refine Oy (want:=false) hb4 ?_
   refine Olp (.i a0.Numbers) zaf zap ?_
   refine Oy (want:=false) hb4 ?_
   obtain ⟨r5,hr5,hM⟩:=zas hM
   refine zaP (bs:=[.i a0.Numbers,.i 1,.i 5]) (by decide) rfl rfl ((zc0 hr5).le (.k (.k (.k .nil)))) ?_
   refine Oy (want:=false) hb4 ?_
   refine zdW (e:=r5) (by decide) rfl ?_
   refine Pf (.b (!r5)) hb4 ?_
   refine Om (.b (!r5)) ?_
   rcases bft (!r5) with hb6 | hb6
   ·replace hM:=ifT hM hb6
    refine On (want:=false) hb6 ?_
    refine On (want:=false) hb6 ?_
    refine On (want:=false) hb6 ?_
    refine On (want:=false) hb6 ?_
    refine Pt (.b true) hb6 ?_
    refine Om (.b true) ?_
    refine Og ?_
    refine Og ?_
    refine Og ?_
    refine Og ?_
    refine Og ?_
    refine Og ?_
    refine Og ?_
    refine za8 (v:=.b true) (e:=true) (by decide) rfl rfl rfl ?_
    refine Om (.b true) ?_
    refine Og ?_
    refine Og ?_
    refine Og ?_
    refine Og ?_
    refine za8 (v:=.b true) (e:=true) (by decide) rfl rfl rfl ?_
    refine Om (.b true) ?_
    refine Og ?_
    refine Og ?_
    refine Og ?_
    refine Og ?_
    refine Og ?_
    refine Og ?_
    refine Og ?_
    refine Og ?_
    refine Og ?_
    refine Og ?_
    refine Og ?_
    refine Og ?_
    refine Og ?_
    refine za8 (v:=.b true) (e:=true) (by decide) rfl rfl rfl ?_
    refine Om (.b true) ?_
    refine Og ?_
    refine Og ?_
    refine Og ?_
    refine Og ?_
    refine za8 (v:=.b true) (e:=true) (by decide) rfl rfl rfl ?_
    refine Om (.b true) ?_
    refine Og ?_
    refine Og ?_
    refine Og ?_
    refine Og ?_
    refine za8 (v:=.b true) (e:=true) (by decide) rfl rfl rfl ?_
    refine Om (.b true) ?_
    refine Og ?_
    refine Og ?_
    refine Og ?_
    refine Og ?_
    refine za8 (v:=.b true) (e:=true) (by decide) rfl rfl rfl ?_
    refine Ni ?_
    exact zak true (.k .nil) ⟨(hS.keep [] rfl).up (by omega),hM⟩
   ·replace hM:=ifF hM hb6
    refine Oy (want:=false) hb6 ?_
    refine Of ((Pulse.cells a0)) zfc ?_
    refine Oy (want:=false) hb6 ?_
    refine Olp (.i a0.Pitch) zaf zap ?_
    refine Oy (want:=false) hb6 ?_
    obtain ⟨r7,hr7,hM⟩:=zas hM
    refine zaP (bs:=[.i a0.Pitch,.i 1,.i 99]) (by decide) rfl rfl ((zc0 hr7).le (.k (.k (.k .nil)))) ?_
    refine Oy (want:=false) hb6 ?_
    refine zdW (e:=r7) (by decide) rfl ?_
    refine Pf (.b (!r7)) hb6 ?_
    refine Om (.b (!r7)) ?_
    rcases bft (!r7) with hb8 | hb8
    ·replace hM:=ifT hM hb8
     refine On (want:=false) hb8 ?_
     refine On (want:=false) hb8 ?_
     refine On (want:=false) hb8 ?_
     refine On (want:=false) hb8 ?_
     refine On (want:=false) hb8 ?_
     refine On (want:=false) hb8 ?_
     refine On (want:=false) hb8 ?_
     refine Pt (.b true) hb8 ?_
     refine Om (.b true) ?_
     refine Og ?_
     refine Og ?_
     refine Og ?_
     refine Og ?_
     refine za8 (v:=.b true) (e:=true) (by decide) rfl rfl rfl ?_
     refine Om (.b true) ?_
     refine Og ?_
     refine Og ?_
     refine Og ?_
     refine Og ?_
     refine Og ?_
     refine Og ?_
     refine Og ?_
     refine Og ?_
     refine Og ?_
     refine Og ?_
     refine Og ?_
     refine Og ?_
     refine Og ?_
     refine za8 (v:=.b true) (e:=true) (by decide) rfl rfl rfl ?_
     refine Om (.b true) ?_
     refine Og ?_
     refine Og ?_
     refine Og ?_
     refine Og ?_
     refine za8 (v:=.b true) (e:=true) (by decide) rfl rfl rfl ?_
     refine Om (.b true) ?_
     refine Og ?_
     refine Og ?_
     refine Og ?_
     refine Og ?_
     refine za8 (v:=.b true) (e:=true) (by decide) rfl rfl rfl ?_
     refine Om (.b true) ?_
     refine Og ?_
     refine Og ?_
     refine Og ?_
     refine Og ?_
     refine za8 (v:=.b true) (e:=true) (by decide) rfl rfl rfl ?_
     refine Ni ?_
     exact zak true (.k .nil) ⟨(hS.keep [] rfl).up (by omega),hM⟩
    ·replace hM:=ifF hM hb8
     refine Oy (want:=false) hb8 ?_
     refine Of ((Pulse.cells a0)) zgy ?_
     refine Oy (want:=false) hb8 ?_
     refine Olp (.i a0.Slack) zaf zap ?_
     refine Oy (want:=false) hb8 ?_
     refine Of ((Pulse.cells a0)) zfc ?_
     refine Oy (want:=false) hb8 ?_
     refine Olp (.i a0.Pitch) zaf zap ?_
     refine Oy (want:=false) hb8 ?_
     refine Oi (.i (w64 (a0.Pitch-1))) ?_
     refine Oy (want:=false) hb8 ?_
     obtain ⟨r9,hr9,hM⟩:=zas hM
     refine zaP (bs:=[.i a0.Slack,.i 0,.i (w64 (a0.Pitch-1))]) (by decide) rfl rfl ((zc0 hr9).le (.k (.k (.k .nil)))) ?_
     refine Oy (want:=false) hb8 ?_
     refine zdW (e:=r9) (by decide) rfl ?_
     refine Pf (.b (!r9)) hb8 ?_
     refine Om (.b (!r9)) ?_
     rcases bft (!r9) with hb10 | hb10
     ·replace hM:=ifT hM hb10
      refine On (want:=false) hb10 ?_
      refine On (want:=false) hb10 ?_
      refine On (want:=false) hb10 ?_
      refine On (want:=false) hb10 ?_
      refine Pt (.b true) hb10 ?_
      refine Om (.b true) ?_
      refine Og ?_
      refine Og ?_
      refine Og ?_
      refine Og ?_
      refine Og ?_
      refine Og ?_
      refine Og ?_
      refine Og ?_
      refine Og ?_
      refine Og ?_
      refine Og ?_
      refine Og ?_
      refine Og ?_
      refine za8 (v:=.b true) (e:=true) (by decide) rfl rfl rfl ?_
      refine Om (.b true) ?_
      refine Og ?_
      refine Og ?_
      refine Og ?_
      refine Og ?_
      refine za8 (v:=.b true) (e:=true) (by decide) rfl rfl rfl ?_
      refine Om (.b true) ?_
      refine Og ?_
      refine Og ?_
      refine Og ?_
      refine Og ?_
      refine za8 (v:=.b true) (e:=true) (by decide) rfl rfl rfl ?_
      refine Om (.b true) ?_
      refine Og ?_
      refine Og ?_
      refine Og ?_
      refine Og ?_
      refine za8 (v:=.b true) (e:=true) (by decide) rfl rfl rfl ?_
      refine Ni ?_
      exact zak true (.k .nil) ⟨(hS.keep [] rfl).up (by omega),hM⟩
     ·replace hM:=ifF hM hb10
      refine Oy (want:=false) hb10 ?_
      refine Of ((Pulse.cells a0)) zgz ?_
      refine Oy (want:=false) hb10 ?_
      refine Olp (.i a0.Pause) zaf zap ?_
      refine Oy (want:=false) hb10 ?_
      obtain ⟨r11,hr11,hM⟩:=zas hM
      refine zaP (bs:=[.i a0.Pause,.i 1,.i 999]) (by decide) rfl rfl ((zc0 hr11).le (.k (.k (.k .nil)))) ?_
      refine Oy (want:=false) hb10 ?_
      refine zdW (e:=r11) (by decide) rfl ?_
      refine Pf (.b (!r11)) hb10 ?_
      refine Om (.b (!r11)) ?_
      rcases bft (!r11) with hb12 | hb12
      ·replace hM:=ifT hM hb12
       refine On (want:=false) hb12 ?_
       refine On (want:=false) hb12 ?_
       refine On (want:=false) hb12 ?_
       refine On (want:=false) hb12 ?_
       refine On (want:=false) hb12 ?_
       refine On (want:=false) hb12 ?_
       refine On (want:=false) hb12 ?_
       refine On (want:=false) hb12 ?_
       refine On (want:=false) hb12 ?_
       refine On (want:=false) hb12 ?_
       refine On (want:=false) hb12 ?_
       refine On (want:=false) hb12 ?_
       refine On (want:=false) hb12 ?_
       refine Pt (.b true) hb12 ?_
       refine Om (.b true) ?_
       refine Og ?_
       refine Og ?_
       refine Og ?_
       refine Og ?_
       refine za8 (v:=.b true) (e:=true) (by decide) rfl rfl rfl ?_
       refine Om (.b true) ?_
       refine Og ?_
       refine Og ?_
       refine Og ?_
       refine Og ?_
       refine za8 (v:=.b true) (e:=true) (by decide) rfl rfl rfl ?_
       refine Om (.b true) ?_
       refine Og ?_
       refine Og ?_
       refine Og ?_
       refine Og ?_
       refine za8 (v:=.b true) (e:=true) (by decide) rfl rfl rfl ?_
       refine Ni ?_
       exact zak true (.k .nil) ⟨(hS.keep [] rfl).up (by omega),hM⟩
      ·replace hM:=ifF hM hb12
       refine Oy (want:=false) hb12 ?_
       refine Of ((Pulse.cells a0)) zij ?_
       refine Oy (want:=false) hb12 ?_
       refine Olp (.i a0.Gap) zaf zap ?_
       refine Oy (want:=false) hb12 ?_
       refine Of ((Pulse.cells a0)) zfc ?_
       refine Oy (want:=false) hb12 ?_
       refine Olp (.i a0.Pitch) zaf zap ?_
       refine Oy (want:=false) hb12 ?_
       refine Of ((Pulse.cells a0)) zgy ?_
       refine Oy (want:=false) hb12 ?_
       refine Olp (.i a0.Slack) zaf zap ?_
       refine Oy (want:=false) hb12 ?_
       refine Oi (.i (w64 (a0.Pitch+a0.Slack))) ?_
       refine Oy (want:=false) hb12 ?_
       refine Oi (.i (w64 ((w64 (a0.Pitch+a0.Slack))+1))) ?_
       refine Oy (want:=false) hb12 ?_
       refine Of ((Pulse.cells a0)) zgz ?_
       refine Oy (want:=false) hb12 ?_
       refine Olp (.i a0.Pause) zaf zap ?_
       refine Oy (want:=false) hb12 ?_
       refine Oi (.i (w64 (a0.Pause-1))) ?_
       refine Oy (want:=false) hb12 ?_
       obtain ⟨r13,hr13,hM⟩:=zas hM
       refine zaP (bs:=[.i a0.Gap,.i (w64 ((w64 (a0.Pitch+a0.Slack))+1)),.i (w64 (a0.Pause-1))]) (by decide) rfl rfl ((zc0 hr13).le (.k (.k (.k .nil)))) ?_
       refine Oy (want:=false) hb12 ?_
       refine zdW (e:=r13) (by decide) rfl ?_
       refine Pf (.b (!r13)) hb12 ?_
       refine Om (.b (!r13)) ?_
       rcases bft (!r13) with hb14 | hb14
       ·replace hM:=ifT hM hb14
        refine On (want:=false) hb14 ?_
        refine On (want:=false) hb14 ?_
        refine On (want:=false) hb14 ?_
        refine On (want:=false) hb14 ?_
        refine Pt (.b true) hb14 ?_
        refine Om (.b true) ?_
        refine Og ?_
        refine Og ?_
        refine Og ?_
        refine Og ?_
        refine za8 (v:=.b true) (e:=true) (by decide) rfl rfl rfl ?_
        refine Om (.b true) ?_
        refine Og ?_
        refine Og ?_
        refine Og ?_
        refine Og ?_
        refine za8 (v:=.b true) (e:=true) (by decide) rfl rfl rfl ?_
        refine Ni ?_
        exact zak true (.k .nil) ⟨(hS.keep [] rfl).up (by omega),hM⟩
       ·replace hM:=ifF hM hb14
        refine Oy (want:=false) hb14 ?_
        refine Of ((Pulse.cells a0)) zik ?_
        refine Oy (want:=false) hb14 ?_
        refine Olp (.i a0.Sparks) zaf zap ?_
        refine Oy (want:=false) hb14 ?_
        obtain ⟨r15,hr15,hM⟩:=zas hM
        refine zaP (bs:=[.i a0.Sparks,.i 0,.i 3]) (by decide) rfl rfl ((zc0 hr15).le (.k (.k (.k .nil)))) ?_
        refine Oy (want:=false) hb14 ?_
        refine zdW (e:=r15) (by decide) rfl ?_
        refine Pf (.b (!r15)) hb14 ?_
        refine Om (.b (!r15)) ?_
        rcases bft (!r15) with hb16 | hb16
        ·replace hM:=ifT hM hb16
         refine On (want:=false) hb16 ?_
         refine On (want:=false) hb16 ?_
         refine On (want:=false) hb16 ?_
         refine On (want:=false) hb16 ?_
         refine Pt (.b true) hb16 ?_
         refine Om (.b true) ?_
         refine Og ?_
         refine Og ?_
         refine Og ?_
         refine Og ?_
         refine za8 (v:=.b true) (e:=true) (by decide) rfl rfl rfl ?_
         refine Ni ?_
         exact zak true (.k .nil) ⟨(hS.keep [] rfl).up (by omega),hM⟩
        ·replace hM:=ifF hM hb16
         refine Oy (want:=false) hb16 ?_
         refine Of ((Pulse.cells a0)) zdR ?_
         refine Oy (want:=false) hb16 ?_
         refine Olp (.sl .no 1 (a0.Times.map cI)) zb6 zcX ?_
         refine Oy (want:=false) hb16 ?_
         refine zcg (n:=a0.Times.length) (by decide) rfl (List.length_map _) zbA ?_
         refine Oy (want:=false) hb16 ?_
         refine Oi (.b (decide ((a0.Times.length:Int)>24))) ?_
         refine Pf (.b (decide ((a0.Times.length:Int)>24))) hb16 ?_
         refine Om (.b (decide ((a0.Times.length:Int)>24))) ?_
         rcases bft (decide ((a0.Times.length:Int)>24)) with hb17 | hb17
         ·replace hM:=ifT hM hb17
          refine On (want:=false) hb17 ?_
          refine On (want:=false) hb17 ?_
          refine On (want:=false) hb17 ?_
          refine On (want:=false) hb17 ?_
          refine Pt (.b true) hb17 ?_
          refine Ni ?_
          exact zak true (.k .nil) ⟨(hS.keep [] rfl).up (by omega),hM⟩
         ·replace hM:=ifF hM hb17
          refine Oy (want:=false) hb17 ?_
          refine Of ((Pulse.cells a0)) zdR ?_
          refine Oy (want:=false) hb17 ?_
          refine Olp (.sl .no 1 (a0.Times.map cI)) zb6 zcX ?_
          refine Oy (want:=false) hb17 ?_
          obtain ⟨r18,hr18,hM⟩:=zas hM
          refine zaP (bs:=[.sl .no 1 (a0.Times.map cI),.i 0,.i 99999]) (by decide) rfl rfl ((zjZ hr18).le (.k (.k (.k .nil)))) ?_
          refine Oy (want:=false) hb17 ?_
          refine zdW (e:=r18) (by decide) rfl ?_
          refine Pf (.b (!r18)) hb17 ?_
          refine Ni ?_
          exact zak (!r18) (.k .nil) ⟨(hS.keep [] rfl).up (by omega),hM⟩
theorem zh3 {a0:Pulse} {a1:Int} {r:Bool} (hM:zfl a0 a1=some r):zaJ Try.prog 73 [.agg (Pulse.cells a0),.i a1] (.b r):=by
 refine zax mixed Try.func73 rfl (by decide) Try.ntmps73 (by simp) ?pure fun H0 g hf=>?_
 case pure=>exact .v _
 rw [zan]
 change wpA _ _ _ _ (Fr.of [(0,.agg (Pulse.cells a0)),(1,.i a1)]) H0 g
 have hS:=St.start hf
 refine Sq ?_
 refine Rg 2 ?_
 refine zd2 (v:=.agg (Pulse.cells a0)) (cs:=(Pulse.cells a0)) hS (by decide) rfl rfl (by omega) fun H hS=>?_
 refine Oa (.b false) ?_
 refine Ni ?_
 refine zda (L':=[]) 0 2 hS rfl rfl rfl fun H hS=>?_
 refine Ws ?_
 refine Sq ?_
 refine Rg 9 ?_
 refine Om (.i a1) ?_
 refine Of ((Pulse.cells a0)) zgx ?_
 refine Olp (.i a0.Letters) zaf zap ?_
 refine Of ((Pulse.cells a0)) zfb ?_
 refine Olp (.i a0.Numbers) zaf zap ?_
 refine Oi (.i (w64 (a0.Letters*a0.Numbers))) ?_
 refine Oi (.i (w64 ((w64 (a0.Letters*a0.Numbers))-1))) ?_
 obtain ⟨r1,hr1,hM⟩:=zas hM
 refine zaP (bs:=[.i a1,.i 0,.i (w64 ((w64 (a0.Letters*a0.Numbers))-1))]) (by decide) rfl rfl ((zc0 hr1).le (.k (.k (.k .nil)))) ?_
 refine Oa (.b r1) ?_
 refine Ni ?_
 refine zfW [(4,.b r1)] (.k .nil) ?_
 refine zaQ ?_
 refine za7 (x:=.b r1) (f:=fun r=>.b r) (.inr rfl) ?_ (.refl _) (Option.some.inj hM) hS
 exact (zaw (zai (x:=.b r1) rfl))
theorem zj0 {n:Nat} {a0:Pulse} {a1:List Int} {r:Bool} (hM:zhi n a0 a1=some r):zaJ Try.prog 44 [.agg (Pulse.cells a0),.sl .no 1 (a1.map cI)] (.b r):=by
 refine zax mixed Try.func44 rfl (by decide) Try.ntmps44 (by simp) ?pure fun H0 g hf=>?_
 case pure=>exact .v _
 rw [zan]
 change wpA _ _ _ _ (Fr.of [(0,.agg (Pulse.cells a0)),(1,.sl .no 1 (a1.map cI))]) H0 g
 have hS:=St.start hf
 refine Sq ?_
 refine Rg 2 ?_
 refine zd2 (v:=.agg (Pulse.cells a0)) (cs:=(Pulse.cells a0)) hS (by decide) rfl rfl (by omega) fun H hS=>?_
 refine Oa (.b false) ?_
 refine Ni ?_
 refine zda (L':=[]) 0 2 hS rfl rfl rfl fun H hS=>?_
 refine Ws ?_
 refine zaO (J:=Unit) (fun j=>[(1,.sl .no 1 (a1.map cI))]) (fun j H' g'=>St (·<g) H0 [] H' g'/\ze8 a1=some r) ?_ ?_
 ·rintro _ H g1 ⟨hS,hM⟩
  change wpA _ _ _ _ (Fr.of [(1,.sl .no 1 (a1.map cI))]) _ _
  replace hS:St (·<g) H0 [] H g1:=hS
  replace hM:ze8 a1=some r:=hM
  refine Sq ?_
  refine Rg 4 ?_
  refine Om (.sl .no 1 (a1.map cI)) ?_
  refine zcg (n:=a1.length) (by decide) rfl (List.length_map _) zbA ?_
  refine Oi (.b (decide ((a1.length:Int)<=24))) ?_
  refine Oa (.b (decide ((a1.length:Int)<=24))) ?_
  refine Ni ?_
  refine Ws ?_
  refine zaQ ?_
  refine za7 (x:=.b (decide ((a1.length:Int)<=24))) (f:=fun r=>.b r) (.inr rfl) ?_ (.refl _) (Option.some.inj hM) hS
  exact (zaw (zai (x:=.b (decide ((a1.length:Int)<=24))) rfl))
 ·refine Sq ?_
  refine Rg 1 ?_
  refine Oa (.i 0) ?_
  refine Ni ?_
  refine Ws ?_
  refine zaz ?_
  refine zcx (V:=Int) (fun v=>[(1,.sl .no 1 (a1.map cI)),(2,.ep (Pulse.cells a0)),(5,.i v)]) (fun v m2 H' g'=>St (·<g) H0 [] H' g'/\zc4 a0 a1 m2 v=some r) (n:=n) 0 (.k (.k (.k .nil))) ⟨(hS.keep [] rfl).up (by omega),hM⟩ ?_
  rintro v1 m2 H g2 ⟨hS,hM⟩
  obtain _ | m2:=m2
  ·exact nomatch (show none=some _ from hM)
  change wpA _ _ _ _ (Fr.of [(1,.sl .no 1 (a1.map cI)),(2,.ep (Pulse.cells a0)),(5,.i v1)]) _ _
  replace hS:St (·<g) H0 [] H g2:=hS
  replace hM:zer a0 a1 (zc4 a0 a1 m2) v1=some r:=hM
  refine Sq ?_
  refine Sq ?_
  refine Rg 4 ?_
  refine Om (.i v1) ?_
  refine Om (.sl .no 1 (a1.map cI)) ?_
  refine zcg (n:=a1.length) (by decide) rfl (List.length_map _) zbA ?_
  refine Oi (.b (decide (v1<(a1.length:Int)))) ?_
  refine Ni ?_
  refine Ws ?_
  rcases bft (decide (v1<(a1.length:Int))) with hb2 | hb2
  ·replace hM:=ifT hM hb2
   refine Ct hb2 ?_
   refine zaC ?_
   refine Ws ?_
   refine Sq ?_
   refine zaz ?_
   refine Sq ?_
   have hS0:=hS
   refine zd1 (n:=7) rfl (by kernel_rfl) ?_
   refine Olg (.agg (Pulse.cells a0)) zb7 ?_
   refine Om (.sl .no 1 (a1.map cI)) ?_
   refine Om (.i v1) ?_
   obtain ⟨x3,hx3,hM⟩:=zas hM
   refine zbu (xs:=a1) (f:=cI) (z:=v1) (u:=x3) (by decide) rfl rfl zbL hx3 ?_
   refine Olp (.i x3) zaf zap ?_
   obtain ⟨r4,hr4,hM⟩:=zas hM
   refine zaP (bs:=[.agg (Pulse.cells a0),.i x3]) (by decide) rfl rfl ((zh3 hr4).le (.k (.k .nil))) ?_
   refine zdW (e:=r4) (by decide) rfl ?_
   refine Ni ?_
   refine Ws ?_
   rcases bft (!r4) with hb5 | hb5
   ·replace hM:=ifT hM hb5
    refine Ct hb5 ?_
    refine Sq ?_
    refine Rg 1 ?_
    refine Oa (.b false) ?_
    refine Ni ?_
    refine Ws ?_
    refine zaQ ?_
    refine zaI ?_
    refine zaq ?_
    refine zbs ?_
    refine zaI ?_
    refine zbr ?_
    refine za7 (x:=.b false) (f:=fun r=>.b r) (.inr rfl) ?_ (.refl _) (Option.some.inj hM) hS
    exact (zaw (zai (x:=.b false) rfl))
   ·replace hM:=ifF hM hb5
    refine Cf hb5 ?_
    refine zaC ?_
    refine zah ?_
    refine Ws ?_
    refine Rg 3 ?_
    refine Om (.i v1) ?_
    refine Oi (.i (w64 (v1+1))) ?_
    refine Oa (.i (w64 (v1+1))) ?_
    refine Ni ?_
    exact zbF (w64 (v1+1)) (Nat.lt_succ_self _) (.k (.k (.k .nil))) ⟨(hS.keep [] rfl).up (by omega),hM⟩
  ·replace hM:=ifF hM hb2
   refine Cf hb2 ?_
   refine zcp ?_
   refine zay ?_
   refine zau ?_
   refine zaD ?_
   exact zak () (.k .nil) ⟨(hS.keep [] rfl).up (by omega),hM⟩
theorem zhn {a0:Int} {r:Bool} (hM:ze9 a0=some r):zaJ Try.prog 75 [.i a0] (.b r):=by
 refine zax mixed Try.func75 rfl (by decide) Try.ntmps75 (by simp) ?pure fun H0 g hf=>?_
 case pure=>exact .v _
 rw [zan]
 change wpA _ _ _ _ (Fr.of [(0,.i a0)]) H0 g
 have hS:=St.start hf
 refine Sq ?_
 refine Rg 1 ?_
 refine Oa (.b false) ?_
 refine Ni ?_
 refine Ws ?_
 refine Sq ?_
 refine Rg 3 ?_
 refine Om (.i a0) ?_
 obtain ⟨r1,hr1,hM⟩:=zas hM
 refine zaP (bs:=[.i a0,.i 0,.i 99999]) (by decide) rfl rfl ((zc5 hr1).le (.k (.k (.k .nil)))) ?_
 refine Oa (.b r1) ?_
 refine Ni ?_
 refine Ws ?_
 refine zaQ ?_
 refine za7 (x:=.b r1) (f:=fun r=>.b r) (.inr rfl) ?_ (.refl _) (Option.some.inj hM) hS
 exact (zaw (zai (x:=.b r1) rfl))
theorem zgW {S:Type} {Lo:S->BL} (hk:∀s s',zgP (Lo s) (Lo s')) (hnd:∀s,(ids (Lo s)).Nodup) (hin:∀s,InB In (Lo s)) {aF:Int->S->Option (Bool×S)} {f0:AV} (hF:∀s H,Has H (Lo s)->In H f0) (h0:cellsOf f0=some [f0]) (hf:∀{x0:Int} {s:S} {r:Bool×S},aF x0 s=some r->zjR Try.prog f0 [.i x0] (Lo s) (.b r.1) (Lo r.2)) {n:Nat} {a0:List Int} {st:S} {r:Int×S} (hM:zeA n aF a0 st=some r):zgT Try.prog 97 [.sl .no 1 (a0.map cI),f0] (Lo st) (.i r.1) (Lo r.2):=by
 have hnd0:∀s,(ids (Lo s)).Nodup:=fun s=>hnd s
 refine zbx mixed Try.func97 rfl (by decide) Try.ntmps97 (by simp) (hk _ _) (hnd st) ?pure ?cells fun H0 g hf_ hp=>?_
 case pure=>exact fun H _=>(show Go.AM.Pure _ from .v _).inH
 case cells=>exact hin _
 rw [zan]
 change wpA _ _ _ _ (Fr.of [(0,.sl .no 1 (a0.map cI)),(1,f0)]) H0 g
 have hS:=St.startH (L:=([]++Lo st)) hf_ (hnd st) hp
 replace hS:St (fun i=>i<g/\i∉ids (Lo st)) H0 ([]++Lo st) H0 g:=hS
 refine Sq ?_
 refine Rg 1 ?_
 refine Oa (.i 0) ?_
 refine Ni ?_
 refine Ws ?_
 refine zaO (J:=S) (fun j=>[]) (fun j H' g'=>St (fun i=>i<g/\i∉ids (Lo st)) H0 ([]++Lo j) H' g'/\zcU j=some r) ?_ ?_
 ·rintro v1 H g1 ⟨hS,hM⟩
  change wpA _ _ _ _ (Fr.of []) _ _
  replace hS:St (fun i=>i<g/\i∉ids (Lo st)) H0 ([]++Lo v1) H g1:=hS
  replace hM:zcU v1=some r:=hM
  refine Sq ?_
  refine Rg 1 ?_
  refine Oa (.i (-1)) ?_
  refine Ni ?_
  refine Ws ?_
  refine zaQ ?_
  refine zdg (x:=.i (-1)) (f:=fun r=>.i r.1) (fd:=fun r=>(Lo r.2)) (.inr rfl) ?_ (.refl _) (Option.some.inj hM) hS 0 rfl
  exact (zaw (zai (x:=.i (-1)) rfl))
 ·refine Sq ?_
  refine Rg 3 ?_
  refine Om (.sl .no 1 (a0.map cI)) ?_
  refine zcg (n:=a0.length) (by decide) rfl (List.length_map _) zbA ?_
  refine Om (.i 0) ?_
  refine Ni ?_
  refine Ws ?_
  refine zaz ?_
  refine zcx (V:=Int×S) (fun v=>[(0,.sl .no 1 (a0.map cI)),(1,f0),(7,.i (a0.length:Int)),(8,.i v.1)]) (fun v m3 H' g'=>St (fun i=>i<g/\i∉ids (Lo st)) H0 ([]++Lo v.2) H' g'/\zbo a0 aF m3 v.1 v.2=some r) (n:=n) (0,st) (.k (.k (.k (.k .nil)))) ⟨(hS.keep [] rfl).up (by omega),hM⟩ ?_
  rintro ⟨v3,v4⟩ m3 H g3 ⟨hS,hM⟩
  obtain _ | m3:=m3
  ·exact nomatch (show none=some _ from hM)
  change wpA _ _ _ _ (Fr.of [(0,.sl .no 1 (a0.map cI)),(1,f0),(7,.i (a0.length:Int)),(8,.i v3)]) _ _
  replace hS:St (fun i=>i<g/\i∉ids (Lo st)) H0 ([]++Lo v4) H g3:=hS
  replace hM:zcF a0 aF (zbo a0 aF m3) v3 v4=some r:=hM
  refine Sq ?_
  refine Rg 1 ?_
  refine Oi (.b (decide (v3<(a0.length:Int)))) ?_
  refine Ni ?_
  refine Ws ?_
  refine Sq ?_
  rcases bft (decide (v3<(a0.length:Int))) with hb5 | hb5
  ·replace hM:=ifT hM hb5
   refine Ct hb5 ?_
   refine zaC ?_
   refine Ws ?_
   refine Sq ?_
   refine zaz ?_
   refine Sq ?_
   refine Rg 2 ?_
   refine Om (.i v3) ?_
   refine Oa (.i v3) ?_
   refine Ni ?_
   refine Ws ?_
   refine Sq ?_
   refine Rg 6 ?_
   refine Om (f0) ?_
   refine Om (.sl .no 1 (a0.map cI)) ?_
   refine Om (.i v3) ?_
   obtain ⟨x6,hx6,hM⟩:=zas hM
   refine zbu (xs:=a0) (f:=cI) (z:=v3) (u:=x6) (by decide) rfl rfl zbL hx6 ?_
   refine Olp (.i x6) zaf zap ?_
   obtain ⟨r7,hr7,hM⟩:=zas hM
   replace hS:St (fun i=>i<g/\i∉ids (Lo st)) H0 ([]++Lo v4) _ _:=hS
   refine ziC (bs:=[.i x6]) (.inl rfl) hS (by decide) rfl rfl ((hf hr7).le (.k .nil)) (hk _ _).ids (by omega) fun H hS=>?_
   refine Ni ?_
   refine Ws ?_
   rcases bft r7.1 with hb8 | hb8
   ·replace hM:=ifT hM hb8
    refine Ct hb8 ?_
    refine Sq ?_
    refine Rg 2 ?_
    refine Om (.i v3) ?_
    refine Oa (.i v3) ?_
    refine Ni ?_
    refine Ws ?_
    refine zaQ ?_
    refine zaI ?_
    refine zaq ?_
    refine zbs ?_
    refine zaI ?_
    refine zbr ?_
    refine zdg (x:=.i v3) (f:=fun r=>.i r.1) (fd:=fun r=>(Lo r.2)) (.inr rfl) ?_ (.refl _) (Option.some.inj hM) hS 0 rfl
    exact (zaw (zai (x:=.i v3) rfl))
   ·replace hM:=ifF hM hb8
    refine Cf hb8 ?_
    refine zaC ?_
    refine zah ?_
    refine Ws ?_
    refine Rg 2 ?_
    refine Oi (.i (w64 (v3+1))) ?_
    refine Om (.i (w64 (v3+1))) ?_
    refine Ni ?_
    exact zbF (w64 (v3+1),r7.2) (Nat.lt_succ_self _) (.k (.k (.k (.k .nil)))) ⟨(hS.keep [] rfl).up (by omega),hM⟩
  ·replace hM:=ifF hM hb5
   refine Cf hb5 ?_
   refine zcp ?_
   refine zay ?_
   refine zau ?_
   refine zaD ?_
   exact zak v4 .nil ⟨(hS.keep [] rfl).up (by omega),hM⟩
theorem zgp {S:Type} {Lo:S->BL} (hk:∀s s',zgP (Lo s) (Lo s')) (hnd:∀s,(ids (Lo s)).Nodup) (hin:∀s,InB In (Lo s)) {aF:Int->S->Option (Bool×S)} {f0:AV} (hF:∀s H,Has H (Lo s)->In H f0) (h0:cellsOf f0=some [f0]) (hf:∀{x0:Int} {s:S} {r:Bool×S},aF x0 s=some r->zjR Try.prog f0 [.i x0] (Lo s) (.b r.1) (Lo r.2)) {n:Nat} {a0:List Int} {st:S} {r:Bool×S} (hM:zcV n aF a0 st=some r):zgT Try.prog 76 [.sl .no 1 (a0.map cI),f0] (Lo st) (.b r.1) (Lo r.2):=by
 have hnd0:∀s,(ids (Lo s)).Nodup:=fun s=>hnd s
 refine zbx mixed Try.func76 rfl (by decide) Try.ntmps76 (by simp) (hk _ _) (hnd st) ?pure ?cells fun H0 g hf_ hp=>?_
 case pure=>exact fun H _=>(show Go.AM.Pure _ from .v _).inH
 case cells=>exact hin _
 rw [zan]
 change wpA _ _ _ _ (Fr.of [(0,.sl .no 1 (a0.map cI)),(1,f0)]) H0 g
 have hS:=St.startH (L:=([]++Lo st)) hf_ (hnd st) hp
 replace hS:St (fun i=>i<g/\i∉ids (Lo st)) H0 ([]++Lo st) H0 g:=hS
 refine Sq ?_
 refine Rg 1 ?_
 refine Oa (.b false) ?_
 refine Ni ?_
 refine Ws ?_
 refine Sq ?_
 refine Rg 5 ?_
 refine Om (.sl .no 1 (a0.map cI)) ?_
 refine Om (f0) ?_
 obtain ⟨r1,hr1,hM⟩:=zas hM
 replace hS:St (fun i=>i<g/\i∉ids (Lo st)) H0 ([]++Lo st) _ _:=hS
 refine zkQ (bs:=[.sl .no 1 (a0.map cI),f0]) (.inl rfl) hS (by decide) rfl rfl ((zgW (Lo:=Lo)  hk hnd0 hin (aF:=aF) hF h0 hf hr1).le (.k (.k .nil))) (hk _ _).ids (by omega) fun H hS=>?_
 refine Oi (.b (decide (r1.1≥0))) ?_
 refine Oa (.b (decide (r1.1≥0))) ?_
 refine Ni ?_
 refine zfW [(4,.b (decide (r1.1≥0)))] (.k .nil) ?_
 refine zaQ ?_
 refine zdg (x:=.b (decide (r1.1≥0))) (f:=fun r=>.b r.1) (fd:=fun r=>(Lo r.2)) (.inr rfl) ?_ (.refl _) (Option.some.inj hM) hS 0 rfl
 exact (zaw (zai (x:=.b (decide (r1.1≥0))) rfl))
theorem zga {a0:Train_} {a1:Int} {r:Bool} (hM:zdz a0 a1=some r):zaJ Try.prog 78 [.agg (Train_.cells a0),.i a1] (.b r):=by
 refine zax mixed Try.func78 rfl (by decide) Try.ntmps78 (by simp) ?pure fun H0 g hf=>?_
 case pure=>exact .v _
 rw [zan]
 change wpA _ _ _ _ (Fr.of [(0,.agg (Train_.cells a0)),(1,.i a1)]) H0 g
 have hS:=St.start hf
 refine Sq ?_
 refine Rg 2 ?_
 refine zd2 (v:=.agg (Train_.cells a0)) (cs:=(Train_.cells a0)) hS (by decide) rfl rfl (by omega) fun H hS=>?_
 refine Oa (.b false) ?_
 refine Ni ?_
 refine zda (L':=[]) 0 2 hS rfl rfl rfl fun H hS=>?_
 refine Ws ?_
 refine Sq ?_
 refine Rg 11 ?_
 refine Om (.i a1) ?_
 refine Of ((Train_.cells a0)) zc1 ?_
 refine Of ((Train_.cells a0)) zgx ?_
 refine Olp (.i a0.Pulse.Letters) zaf zap ?_
 refine Of ((Train_.cells a0)) zc1 ?_
 refine Of ((Train_.cells a0)) zfb ?_
 refine Olp (.i a0.Pulse.Numbers) zaf zap ?_
 refine Oi (.i (w64 (a0.Pulse.Letters*a0.Pulse.Numbers))) ?_
 refine Oi (.i (w64 ((w64 (a0.Pulse.Letters*a0.Pulse.Numbers))-1))) ?_
 obtain ⟨r1,hr1,hM⟩:=zas hM
 refine zaP (bs:=[.i a1,.i 0,.i (w64 ((w64 (a0.Pulse.Letters*a0.Pulse.Numbers))-1))]) (by decide) rfl rfl ((zc5 hr1).le (.k (.k (.k .nil)))) ?_
 refine Oa (.b r1) ?_
 refine Ni ?_
 refine Ws ?_
 refine zaQ ?_
 refine za7 (x:=.b r1) (f:=fun r=>.b r) (.inr rfl) ?_ (.refl _) (Option.some.inj hM) hS
 exact (zaw (zai (x:=.b r1) rfl))
theorem ziN {p1:Nat} (hnd:[p1].Nodup) {a0:Int} {a1:Train_} {r:Bool} (hM:zd8 a0 a1=some r):zgT Try.prog 77 [.i a0,.ptr p1 0] [(p1,.cells (Train_.cells a1))] (.b r) [(p1,.cells (Train_.cells a1))]:=by
 refine zbx mixed Try.func77 rfl (by decide) Try.ntmps77 (by simp) (zbp zeF) hnd ?pure ?cells fun H0 g hf_ hp=>?_
 case pure=>exact fun H _=>(show Go.AM.Pure _ from .v _).inH
 case cells=>exact (zff (zby (zad (.inl (.inl (.v _))) (zad (.inl (.inl (.v _))) (zad (.inl (.inl (.v _))) (zad (.inl (.inl (.v _))) (zad (.inl (.inl (.v _))) (zad (.inl (.inl (.v _))) (zad (.inl (.inl (.v _))) (zad (.inl (.inl (.sl _ _ (zav (fun x=>(zac (.v _) zaE)))))) zeE)))))))) zfe) ze2)
 rw [zan]
 change wpA _ _ _ _ (Fr.of [(0,.i a0),(1,.ptr p1 0)]) H0 g
 have hS:=St.startH (L:=[(p1,.cells (Train_.cells a1))]) hf_ hnd hp
 replace hS:St (fun i=>i<g/\i∉ids [(p1,.cells (Train_.cells a1))]) H0 [(p1,.cells (Train_.cells a1))] H0 g:=hS
 refine Sq ?_
 refine Rg 1 ?_
 refine Oa (.b false) ?_
 refine Ni ?_
 refine Ws ?_
 refine Sq ?_
 refine Rg 5 ?_
 refine zaG (v:=.agg (Train_.cells a1)) 0 hS (by decide) rfl rfl .no (pg zf3) ?_
 refine Om (.i a0) ?_
 obtain ⟨r1,hr1,hM⟩:=zas hM
 refine zaP (bs:=[.agg (Train_.cells a1),.i a0]) (by decide) rfl rfl ((zga hr1).le (.k (.k .nil))) ?_
 refine zdW (e:=r1) (by decide) rfl ?_
 refine Oa (.b (!r1)) ?_
 refine Ni ?_
 refine Ws ?_
 refine zaQ ?_
 refine zdg (x:=.b (!r1)) (f:=fun r=>.b r) (fd:=fun r=>[(p1,.cells (Train_.cells a1))]) (.inr rfl) ?_ (.refl _) (Option.some.inj hM) hS 0 rfl
 exact (zaw (zai (x:=.b (!r1)) rfl))
theorem zgA {p1 w1 p2 p3:Nat} (hnd:[p1,w1,p2,p3].Nodup) {n:Nat} {a0:Int} {a1:Int} {a4:Pulse} {st:(List Int)×Int} {r:Unit×((List Int)×Int)} (hM:zd9 n a0 a1 a4 st=some r):zgT Try.prog 79 [.i a0,.i a1,.ptr p1 0,.ptr p2 0,.ptr p3 0] [(p1,.cells [.sl (.id w1) 1 (st.1.map cI)]),(w1,.row 3 st.1.length),(p2,.cells [.i st.2]),(p3,.cells (Pulse.cells a4))] (.tup []) [(p1,.cells [.sl (.id w1) 1 (r.2.1.map cI)]),(w1,.row 3 r.2.1.length),(p2,.cells [.i r.2.2]),(p3,.cells (Pulse.cells a4))]:=by
 refine zbx mixed Try.func79 rfl (by decide) Try.ntmps79 (by simp) (zbp (zgQ (zbp (zbp zeF)))) hnd ?pure ?cells fun H0 g hf_ hp=>?_
 case pure=>exact fun H _=>(show Go.AM.Pure _ from .tup _ zaE).inH
 case cells=>exact (zff (zby (zad (.inl (.inr ⟨_,_,_,_,_,rfl,(List.mem_of_getElem? (i:=1) rfl),zav (fun x=>(zac (.v _) zaE))⟩)) zeE) (zhb (zby (zad (.inl (.inl (.v _))) zeE) (zby (zad (.inl (.inl (.v _))) (zad (.inl (.inl (.v _))) (zad (.inl (.inl (.v _))) (zad (.inl (.inl (.v _))) (zad (.inl (.inl (.v _))) (zad (.inl (.inl (.v _))) (zad (.inl (.inl (.v _))) (zad (.inl (.inl (.sl _ _ (zav (fun x=>(zac (.v _) zaE)))))) zeE)))))))) zfe)))) ze2)
 rw [zan]
 change wpA _ _ _ _ (Fr.of [(0,.i a0),(1,.i a1),(2,.ptr p1 0),(3,.ptr p2 0),(4,.ptr p3 0)]) H0 g
 have hS:=St.startH (L:=[(p1,.cells [.sl (.id w1) 1 (st.1.map cI)]),(w1,.row 3 st.1.length),(p2,.cells [.i st.2]),(p3,.cells (Pulse.cells a4))]) hf_ hnd hp
 replace hS:St (fun i=>i<g/\i∉ids [(p1,.cells [.sl (.id w1) 1 (st.1.map cI)]),(w1,.row 3 st.1.length),(p2,.cells [.i st.2]),(p3,.cells (Pulse.cells a4))]) H0 [(p1,.cells [.sl (.id w1) 1 (st.1.map cI)]),(w1,.row 3 st.1.length),(p2,.cells [.i st.2]),(p3,.cells (Pulse.cells a4))] H0 g:=hS
 refine Sq ?_
 refine Rg 2 ?_
 refine Om (.i a1) ?_
 refine Om (.i 0) ?_
 refine Ni ?_
 refine Ws ?_
 refine zaz ?_
 refine zcx (V:=Int×Int×(List Int)×Int) (fun v=>[(0,.i v.1),(2,.ptr p1 0),(3,.ptr p2 0),(4,.ptr p3 0),(7,.i a1),(8,.i v.2.1)]) (fun v m2 H' g'=>St (fun i=>i<g/\i∉ids [(p1,.cells [.sl (.id w1) 1 (st.1.map cI)]),(w1,.row 3 st.1.length),(p2,.cells [.i st.2]),(p3,.cells (Pulse.cells a4))]) H0 [(p1,.cells [.sl (.id w1) 1 (v.2.2.1.map cI)]),(w1,.row 3 v.2.2.1.length),(p2,.cells [.i v.2.2.2]),(p3,.cells (Pulse.cells a4))] H' g'/\zbh a1 a4 m2 v.1 v.2.1 v.2.2.1 v.2.2.2=some r) (n:=n) (a0,0,st.1,st.2) (.k (.k (.k (.k (.k (.k .nil)))))) ⟨(hS.keep [true,true,true,true] rfl).up (by omega),hM⟩ ?_
 rintro ⟨v3,v4,v5,v6⟩ m2 H g2 ⟨hS,hM⟩
 obtain _ | m2:=m2
 ·exact nomatch (show none=some _ from hM)
 change wpA _ _ _ _ (Fr.of [(0,.i v3),(2,.ptr p1 0),(3,.ptr p2 0),(4,.ptr p3 0),(7,.i a1),(8,.i v4)]) _ _
 replace hS:St (fun i=>i<g/\i∉ids [(p1,.cells [.sl (.id w1) 1 (st.1.map cI)]),(w1,.row 3 st.1.length),(p2,.cells [.i st.2]),(p3,.cells (Pulse.cells a4))]) H0 [(p1,.cells [.sl (.id w1) 1 (v5.map cI)]),(w1,.row 3 v5.length),(p2,.cells [.i v6]),(p3,.cells (Pulse.cells a4))] H g2:=hS
 replace hM:zdt a1 a4 (zbh a1 a4 m2) v3 v4 v5 v6=some r:=hM
 refine Sq ?_
 refine Rg 1 ?_
 refine Oi (.b (decide (v4<a1))) ?_
 refine Ni ?_
 refine Ws ?_
 refine Sq ?_
 rcases bft (decide (v4<a1)) with hb7 | hb7
 ·replace hM:=ifT hM hb7
  refine Ct hb7 ?_
  refine zaC ?_
  refine Ws ?_
  refine Sq ?_
  refine zaz ?_
  refine zaO (J:=Int) (fun j=>[(2,.ptr p1 0),(3,.ptr p2 0),(4,.ptr p3 0),(7,.i a1),(8,.i v4)]) (fun j H' g'=>St (fun i=>i<g/\i∉ids [(p1,.cells [.sl (.id w1) 1 (st.1.map cI)]),(w1,.row 3 st.1.length),(p2,.cells [.i st.2]),(p3,.cells (Pulse.cells a4))]) H0 [(p1,.cells [.sl (.id w1) 1 (v5.map cI)]),(w1,.row 3 v5.length),(p2,.cells [.i j]),(p3,.cells (Pulse.cells a4))] H' g'/\zdj (zbh a1 a4 m2) a4 v4 v5 j=some r) ?_ ?_
  ·rintro v8 H g3 ⟨hS,hM⟩
   change wpA _ _ _ _ (Fr.of [(2,.ptr p1 0),(3,.ptr p2 0),(4,.ptr p3 0),(7,.i a1),(8,.i v4)]) _ _
   replace hS:St (fun i=>i<g/\i∉ids [(p1,.cells [.sl (.id w1) 1 (st.1.map cI)]),(w1,.row 3 st.1.length),(p2,.cells [.i st.2]),(p3,.cells (Pulse.cells a4))]) H0 [(p1,.cells [.sl (.id w1) 1 (v5.map cI)]),(w1,.row 3 v5.length),(p2,.cells [.i v8]),(p3,.cells (Pulse.cells a4))] H g3:=hS
   replace hM:zdj (zbh a1 a4 m2) a4 v4 v5 v8=some r:=hM
   have hS0:=hS
   refine zre (n:=8) [(2,20)] rfl (by kernel_rfl) (by kernel_rfl) ?_
   refine zaG (v:=.sl (.id w1) 1 (v5.map cI)) 0 hS (by decide) rfl rfl (.st hS0 0 rfl (by omega)) (po zb6 zcX) ?_
   refine zaG (v:=.i v8) 2 hS (by decide) rfl rfl (.st hS0 2 rfl (by omega)) (po zaf zap) ?_
   refine zbj (es:=[[.i v8]]) hS (by decide) zbL zeB rfl zeC rfl (by decide) (by omega) fun H hS=>?_
   obtain ⟨l9,hl9,hM⟩:=zas hM
   refine zdJ (xs:=v5) (ys:=([v8]:List Int)) (zs:=l9) (f:=cI) (L':=[(g3+2,.row 3 1),(p1,.cells [.sl (.id w1) 1 (v5.map cI)]),(w1,.row 3 l9.length),(p2,.cells [.i v8]),(p3,.cells (Pulse.cells a4))]) 2 hS (by decide) rfl rfl rfl rfl (.st hS0 1 rfl (by omega)) zbL zeB zeC hl9 rfl fun H hS=>?_
   refine zag (by decide) zfc rfl ?_
   refine zaG (v:=.i a4.Pitch) 4 hS (by decide) rfl rfl (.st hS0 3 rfl (by omega)) (po zaf zap) ?_
   refine zaM (v:=.sl (.id w1) 1 (l9.map cI)) (ns:=[.sl (.id w1) 1 (l9.map cI)]) (L':=[(g3+2,.row 3 1),(p1,.cells [.sl (.id w1) 1 (l9.map cI)]),(w1,.row 3 l9.length),(p2,.cells [.i v8]),(p3,.cells (Pulse.cells a4))]) 1 hS rfl rfl (.st hS0 0 rfl (by omega)) rfl rfl zfv nlb rfl fun H hS=>?_
   refine Oa (.i a4.Pitch) ?_
   refine Ni ?_
   refine ⟨(zqc (hS.ne (n:=1) (m:=4) rfl rfl (by decide)) zrs),?_⟩
   refine zah ?_
   replace hS:=hS.keep (L':=[(p1,.cells [.sl (.id w1) 1 (l9.map cI)]),(w1,.row 3 l9.length),(p2,.cells [.i v8]),(p3,.cells (Pulse.cells a4))]) [false,true,true,true,true] rfl
   refine Ws ?_
   refine Rg 2 ?_
   refine Oi (.i (w64 (v4+1))) ?_
   refine Om (.i (w64 (v4+1))) ?_
   refine Ni ?_
   exact zbF (a4.Pitch,w64 (v4+1),l9,v8) (Nat.lt_succ_self _) (.k (.k (.k (.k (.k (.k .nil)))))) ⟨(hS.keep [true,true,true,true] rfl).up (by omega),hM⟩
  ·refine Sq ?_
   refine Rg 3 ?_
   refine zaG (v:=.sl (.id w1) 1 (v5.map cI)) 0 hS (by decide) rfl rfl .no (po zb6 zcX) ?_
   refine zcg (n:=v5.length) (by decide) rfl (List.length_map _) zbA ?_
   refine Oi (.b (decide ((v5.length:Int)>0))) ?_
   refine Ni ?_
   refine Ws ?_
   rcases bft (decide ((v5.length:Int)>0)) with hb10 | hb10
   ·replace hM:=ifT hM hb10
    refine Ct hb10 ?_
    refine Rg 4 ?_
    refine zaG (v:=.i v6) 2 hS (by decide) rfl rfl .no (po zaf zap) ?_
    refine Om (.i v3) ?_
    refine Oi (.i (w64 (v6+v3))) ?_
    refine zaM (v:=.i (w64 (v6+v3))) (ns:=[.i (w64 (v6+v3))]) (L':=[(p1,.cells [.sl (.id w1) 1 (v5.map cI)]),(w1,.row 3 v5.length),(p2,.cells [.i (w64 (v6+v3))]),(p3,.cells (Pulse.cells a4))]) 2 hS rfl rfl .no rfl rfl zeY nlb rfl fun H hS=>?_
    refine Ni ?_
    exact zak (w64 (v6+v3)) (.k (.k (.k (.k (.k .nil))))) ⟨(hS.keep [true,true,true,true] rfl).up (by omega),hM⟩
   ·replace hM:=ifF hM hb10
    refine Cf hb10 ?_
    refine zaC ?_
    exact zak v6 (.k (.k (.k (.k (.k .nil))))) ⟨(hS.keep [true,true,true,true] rfl).up (by omega),hM⟩
 ·replace hM:=ifF hM hb7
  refine Cf hb7 ?_
  refine zcp ?_
  refine zay ?_
  refine zau ?_
  refine zaD ?_
  refine zdg (x:=.tup []) (f:=fun r=>.tup []) (fd:=fun r=>[(p1,.cells [.sl (.id w1) 1 (r.2.1.map cI)]),(w1,.row 3 r.2.1.length),(p2,.cells [.i r.2.2]),(p3,.cells (Pulse.cells a4))]) (.inl rfl) ?_ (.refl _) (Option.some.inj hM) hS 0 rfl
  exact rfl
end Go.Proofs.Ytclaalcoefcljaa
