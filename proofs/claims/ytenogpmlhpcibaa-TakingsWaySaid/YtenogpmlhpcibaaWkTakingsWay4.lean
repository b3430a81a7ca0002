/-
  The code returns what the functions say (printed by gen.py).
  Conditions: none.
-/
import Derived.Test.YtenogpmlhpcibaaWkTakingsWay3
import Derived.Test.YtenogpmlhpcibaaAmOx
import Derived.Test.YtenogpmlhpcibaaSh
import Derived.Test.YtenogpmlhpcibaaKs
import Derived.Test.YtenogpmlhpcibaaEn
set_option linter.all false
namespace Go.Proofs.Ytenogpmlhpcibaa
open Go Go.AM Go.Law
set_option linter.unusedVariables false
set_option maxRecDepth 4000
set_option maxHeartbeats 4000000
theorem zhL {p1:Nat} (hnd:[p1].Nodup) {n:Nat} {rec:(Wheel_×Bool)->Spot_->(List (Spot_×Int))->Option (Int×(List (Spot_×Int)))} (hrec:∀{a0:Wheel_×Bool} {a1:Spot_} {st:(List (Spot_×Int))} {r:Int×(List (Spot_×Int))},rec a0 a1 st=some r->zjZ Try.prog 79 [.ep (zbu a0.1 a0.2 p1),.agg (Spot_.cells a1)] [(p1,.obj none (zaf (mpv zan st)))] (.i r.1) [(p1,.obj none (zaf (mpv zan r.2)))]) {a0:Wheel_×Bool} {a1:Spot_} {st:(List (Spot_×Int))} {r:Int×(List (Spot_×Int))} (hM:zcf n rec a0 a1 st=some r):zjZ Try.prog 79 [.ep (zbu a0.1 a0.2 p1),.agg (Spot_.cells a1)] [(p1,.obj none (zaf (mpv zan st)))] (.i r.1) [(p1,.obj none (zaf (mpv zan r.2)))]:=by
 refine zds mixed Try.func79 rfl (by decide) Try.ntmps79 (by simp) (zrV zh9) hnd ?pure ?cells fun H0 g hf_ hp=>?_
 case pure=>exact fun H _=>(show Go.AM.Pure _ from .v _).inH
 case cells=>exact (zjN (zrW zjM) zgB)
 rw [zag]
 change wpA _ _ _ _ (Fr.of [(0,.ep (zbu a0.1 a0.2 p1)),(1,.agg (Spot_.cells a1))]) H0 g
 have hS:=St.startH (L:=[(p1,.obj none (zaf (mpv zan st)))]) hf_ hnd hp
 replace hS:St (fun i=>i<g/\i∉ids [(p1,.obj none (zaf (mpv zan st)))]) H0 [(p1,.obj none (zaf (mpv zan st)))] H0 g:=hS
 refine Sq ?_
 refine Rg 3 ?_
 refine zb4 (v:=.ep (zbu a0.1 a0.2 p1)) (cs:=[.ep (zbu a0.1 a0.2 p1)]) hS (by decide) rfl rfl (by omega) fun H hS=>?_
 refine zb4 (v:=.agg (Spot_.cells a1)) (cs:=(Spot_.cells a1)) hS (by decide) rfl rfl (by omega) fun H hS=>?_
 refine Oa (.i 0) ?_
 refine Ni ?_
 refine zaX (L':=[(g+1,.cells (Spot_.cells a1)),(p1,.obj none (zaf (mpv zan st)))]) 1 2 hS rfl rfl rfl fun H hS=>?_
 refine Ws ?_
 refine Sq ?_
 refine Rg 1 ?_
 refine Oa (.i 0) ?_
 refine Ni ?_
 refine Ws ?_
 refine za1 (J:=Int×Int×Int×Int×Int) (fun j=>[(2,.ep [.ep (zbu a0.1 a0.2 p1)]),(3,.ptr (g+1) 0),(5,.i j.1)]) (fun j H' g'=>St (fun i=>i<g/\i∉ids [(p1,.obj none (zaf (mpv zan st)))]) H0 [(g+1,.cells [.i j.2.1,.i j.2.2.1,.i j.2.2.2.1,.i j.2.2.2.2,.i a1.place,.i a1.credit]),(p1,.obj none (zaf (mpv zan st)))] H' g'/\zbZ n rec a0 a1 st j.1 j.2.1 j.2.2.1 j.2.2.2.1 j.2.2.2.2=some r) ?_ ?_
 ·rintro ⟨v1,v2,v3,v4,v5⟩ H g1 ⟨hS,hM⟩
  change wpA _ _ _ _ (Fr.of [(2,.ep [.ep (zbu a0.1 a0.2 p1)]),(3,.ptr (g+1) 0),(5,.i v1)]) _ _
  replace hS:St (fun i=>i<g/\i∉ids [(p1,.obj none (zaf (mpv zan st)))]) H0 [(g+1,.cells [.i v2,.i v3,.i v4,.i v5,.i a1.place,.i a1.credit]),(p1,.obj none (zaf (mpv zan st)))] H g1:=hS
  replace hM:zbZ n rec a0 a1 st v1 v2 v3 v4 v5=some r:=hM
  refine Sq ?_
  refine Rg 6 ?_
  refine zaw (by decide) ze2 rfl ?_
  refine zaV (v:=.i a1.credit) 0 hS (by decide) rfl rfl .no (po zah zar) ?_
  refine Om (.i v1) ?_
  refine zv5 (v:=.i (min a1.credit v1)) (by decide) rfl ?_
  refine zaw (by decide) ze2 rfl ?_
  refine zaJ (v:=.i (min a1.credit v1)) (ns:=[.i (min a1.credit v1)]) (L':=[(g+1,.cells [.i v2,.i v3,.i v4,.i v5,.i a1.place,.i (min a1.credit v1)]),(p1,.obj none (zaf (mpv zan st)))]) 0 hS rfl rfl .no rfl rfl zen nlb rfl fun H hS=>?_
  refine Ni ?_
  refine Ws ?_
  refine Sq ?_
  refine Sq ?_
  have hS0:=hS
  refine zck (n:=11) rfl (by kernel_rfl) ?_
  refine Olp (.ep (zbu a0.1 a0.2 p1)) zhE ziW ?_
  refine zlT (by decide) rfl ?_
  refine Of ((zbu a0.1 a0.2 p1)) zl3 ?_
  refine Olp (.mp p1) znu zpu ?_
  refine zaV (v:=.agg [.i v2,.i v3,.i v4,.i v5,.i a1.place,.i (min a1.credit v1)]) 0 hS (by decide) rfl rfl (.st hS0 0 rfl (by omega)) (pg zb8) ?_
  obtain ⟨x6,hx6,hM⟩:=zai hM
  refine zqz (kv:=zan) (ok:=zg7) (M:=st) (k:=(⟨(⟨v2,v3,v4,v5⟩:Bag_),a1.place,(min a1.credit v1)⟩:Spot_)) (u:=x6) 1 zsr hS (by decide) rfl rfl rfl (.st hS0 1 rfl (by omega)) zi0 zpv hx6 ?_
  refine Om (.tup [.i x6,.b (zbv st (⟨(⟨v2,v3,v4,v5⟩:Bag_),a1.place,(min a1.credit v1)⟩:Spot_))]) ?_
  refine Ox (.i x6) ?_
  refine Ox (.b (zbv st (⟨(⟨v2,v3,v4,v5⟩:Bag_),a1.place,(min a1.credit v1)⟩:Spot_))) ?_
  refine Oa (.i x6) ?_
  refine Oa (.b (zbv st (⟨(⟨v2,v3,v4,v5⟩:Bag_),a1.place,(min a1.credit v1)⟩:Spot_))) ?_
  refine Ni ?_
  refine Ws ?_
  refine za1 (J:=Bool) (fun j=>[(2,.ep [.ep (zbu a0.1 a0.2 p1)]),(3,.ptr (g+1) 0),(8,.i x6),(39,.b j)]) (fun j H' g'=>St (fun i=>i<g/\i∉ids [(p1,.obj none (zaf (mpv zan st)))]) H0 [(g+1,.cells [.i v2,.i v3,.i v4,.i v5,.i a1.place,.i (min a1.credit v1)]),(p1,.obj none (zaf (mpv zan st)))] H' g'/\zbY n rec a0 a1 st v1 v2 v3 v4 v5 x6 j=some r) ?_ ?_
  ·rintro v7 H g2 ⟨hS,hM⟩
   change wpA _ _ _ _ (Fr.of [(2,.ep [.ep (zbu a0.1 a0.2 p1)]),(3,.ptr (g+1) 0),(8,.i x6),(39,.b v7)]) _ _
   replace hS:St (fun i=>i<g/\i∉ids [(p1,.obj none (zaf (mpv zan st)))]) H0 [(g+1,.cells [.i v2,.i v3,.i v4,.i v5,.i a1.place,.i (min a1.credit v1)]),(p1,.obj none (zaf (mpv zan st)))] H g2:=hS
   replace hM:zbY n rec a0 a1 st v1 v2 v3 v4 v5 x6 v7=some r:=hM
   rcases bft v7 with hb8 | hb8
   ·replace hM:=ifT hM hb8
    refine Ct hb8 ?_
    refine Sq ?_
    refine Rg 2 ?_
    refine Om (.i x6) ?_
    refine Oa (.i x6) ?_
    refine Ni ?_
    replace hS:=hS.keep (L':=[(p1,.obj none (zaf (mpv zan st)))]) [false,true] rfl
    refine Ws ?_
    refine zaR ?_
    refine zam ?_
    refine zfm (x:=.i x6) (f:=fun r=>.i r.1) (fd:=fun r=>[(p1,.obj none (zaf (mpv zan r.2)))]) (.inr rfl) ?_ (.refl _) (Option.some.inj hM) hS 0 rfl
    exact (zax (zae (x:=.i x6) rfl))
   ·replace hM:=ifF hM hb8
    refine Cf hb8 ?_
    refine zaD ?_
    refine Ws ?_
    refine Sq ?_
    refine Rg 4 ?_
    refine za3 hS (by decide) zmy (by omega) fun H hS=>?_
    refine za3 hS (by decide) ztz (by omega) fun H hS=>?_
    refine zaJ (v:=.i 0) (ns:=[.i 0]) (L':=[(g2+1,.cells [.b false]),(g2+0,.cells [.i 0]),(g+1,.cells [.i v2,.i v3,.i v4,.i v5,.i a1.place,.i (min a1.credit v1)]),(p1,.obj none (zaf (mpv zan st)))]) 1 hS rfl rfl .no rfl rfl zen nlb rfl fun H hS=>?_
    refine zaJ (v:=.b true) (ns:=[.b true]) (L':=[(g2+1,.cells [.b true]),(g2+0,.cells [.i 0]),(g+1,.cells [.i v2,.i v3,.i v4,.i v5,.i a1.place,.i (min a1.credit v1)]),(p1,.obj none (zaf (mpv zan st)))]) 0 hS rfl rfl .no rfl rfl zr5 nlb rfl fun H hS=>?_
    refine Ni ?_
    refine Ws ?_
    refine Sq ?_
    refine Rg 4 ?_
    refine Olp (.ep (zbu a0.1 a0.2 p1)) zhE ziW ?_
    refine zaV (v:=.agg [.i v2,.i v3,.i v4,.i v5,.i a1.place,.i (min a1.credit v1)]) 2 hS (by decide) rfl rfl .no (pg zb8) ?_
    refine zet (first:=[]) (cap:=[.ep [.ep (zbu a0.1 a0.2 p1)],.ptr (g2+1) 0,.ptr (g2+0) 0]) (by decide) rfl rfl ?_
    obtain ⟨r9,hr9,hM⟩:=zai hM
    have hndr9:=hS.nd_at (ns:=[0,1,3]) (M:=[(g2+1,.cells [.b true]),(g2+0,.cells [.i 0]),(p1,.obj none (zaf (mpv zan st)))]) (M':=[(g2+1,.cells [.b r9.2.1]),(g2+0,.cells [.i r9.2.2.1]),(p1,.obj none (zaf (mpv zan r9.2.2.2)))]) (.cons rfl (.cons rfl (.cons rfl .nil))) (by decide)
    have hncr9:=hS.nd_at (ns:=[0,1,3]) (M:=[(g2+1,.cells [.b true]),(g2+0,.cells [.i 0]),(p1,.obj none (zaf (mpv zan st)))]) (M':=[(g2+1,.cells [.b r9.2.1]),(g2+0,.cells [.i r9.2.2.1]),(p1,.obj none (zaf (mpv zan r9.2.2.2)))]) (.cons rfl (.cons rfl (.cons rfl .nil))) (by decide)
    refine zkJ (bs:=[.ep (zbu a0.1 a0.2 p1),.agg [.i v2,.i v3,.i v4,.i v5,.i a1.place,.i (min a1.credit v1)],.fn (.func 109) [] [.ep [.ep (zbu a0.1 a0.2 p1)],.ptr (g2+1) 0,.ptr (g2+0) 0]]) (M:=[(g2+1,.cells [.b true]),(g2+0,.cells [.i 0]),(p1,.obj none (zaf (mpv zan st)))]) (M':=[(g2+1,.cells [.b r9.2.1]),(g2+0,.cells [.i r9.2.2.1]),(p1,.obj none (zaf (mpv zan r9.2.2.2)))]) (L':=[(g2+1,.cells [.b r9.2.1]),(g2+0,.cells [.i r9.2.2.1]),(g+1,.cells [.i v2,.i v3,.i v4,.i v5,.i a1.place,.i (min a1.credit v1)]),(p1,.obj none (zaf (mpv zan r9.2.2.2)))]) [0,1,3] (.inl rfl) hS (by decide) rfl rfl ((zis (Lo:=(fun (s:Bool×Int×(List (Spot_×Int)))=>[(g2+1,.cells [.b s.1]),(g2+0,.cells [.i s.2.1]),(p1,.obj none (zaf (mpv zan s.2.2)))]))  (fun _ _=>(zfO (zfO (zrV zh9)))) (fun _=>hndr9) (fun s=>(zjN (zfH (zcm (.inl (.inl (.v _))) ziH) (zfH (zcm (.inl (.inl (.v _))) ziH) (zrW zjM))) zgB)) (aF:=(fun (x0:List Int) (x1:Spot_) (x2:Int) s=>zbX rec x0 x1 x2 a0 s)) (fun s H hH=>(.fn _ _ _ zd3 (zbU (.ep _ (zbU (.ep _ (zbU (show Go.AM.Pure _ from .v _).inH (zbU (show Go.AM.Pure _ from .sl _ _ (zav (fun x=>(zab (.v _) zaF)))).inH (zbU (show Go.AM.Pure _ from .sl _ _ (zav (fun x=>(zab (.v _) zaF)))).inH (zbU (show Go.AM.Pure _ from zpD _).inH (zbU (zAm hH 2 rfl) zd3)))))) zd3)) (zbU (znl hH 0 rfl) (zbU (znl hH 1 rfl) zd3))))) rfl (fun h=>zkS (zhl (p1:=g2+1)  (p2:=g2+0)  (p3:=p1)  hncr9 hrec h)) hr9).le (.k (.k (.k .nil)))) (.cons rfl (.cons rfl (.cons rfl .nil))) rfl (by omega) fun H hS=>?_
    refine Ni ?_
    replace hS:=hS.keep (L':=[(g2+0,.cells [.i r9.2.2.1]),(g+1,.cells [.i v2,.i v3,.i v4,.i v5,.i a1.place,.i (min a1.credit v1)]),(p1,.obj none (zaf (mpv zan r9.2.2.2)))]) [false,true,true,true] rfl
    refine Ws ?_
    refine Sq ?_
    have hS0:=hS
    refine zck (n:=7) rfl (by kernel_rfl) ?_
    refine Olp (.ep (zbu a0.1 a0.2 p1)) zhE ziW ?_
    refine zlT (by decide) rfl ?_
    refine Of ((zbu a0.1 a0.2 p1)) zl3 ?_
    refine Olp (.mp p1) znu zpu ?_
    refine zaV (v:=.agg [.i v2,.i v3,.i v4,.i v5,.i a1.place,.i (min a1.credit v1)]) 1 hS (by decide) rfl rfl (.st hS0 1 rfl (by omega)) (pg zb8) ?_
    refine zaV (v:=.i r9.2.2.1) 0 hS (by decide) rfl rfl (.st hS0 0 rfl (by omega)) (po zah zar) ?_
    obtain ⟨l10,hl10,hM⟩:=zai hM
    refine zoy (kv:=zan) (ok:=zg7) (M:=r9.2.2.2) (k:=(⟨(⟨v2,v3,v4,v5⟩:Bag_),a1.place,(min a1.credit v1)⟩:Spot_)) (v:=r9.2.2.1) (M':=l10) (L':=[(g2+0,.cells [.i r9.2.2.1]),(g+1,.cells [.i v2,.i v3,.i v4,.i v5,.i a1.place,.i (min a1.credit v1)]),(p1,.obj none (zaf (mpv zan l10)))]) 2 zsr (.inr (by kernel_rfl)) hS rfl rfl rfl rfl zi0 zpv hl10 rfl fun H hS=>?_
    refine Ni ?_
    replace hS:=hS.keep (L':=[(g2+0,.cells [.i r9.2.2.1]),(p1,.obj none (zaf (mpv zan l10)))]) [true,false,true] rfl
    refine Ws ?_
    refine Sq ?_
    refine Rg 2 ?_
    refine zaV (v:=.i r9.2.2.1) 0 hS (by decide) rfl rfl .no (po zah zar) ?_
    refine Oa (.i r9.2.2.1) ?_
    refine Ni ?_
    replace hS:=hS.keep (L':=[(p1,.obj none (zaf (mpv zan l10)))]) [false,true] rfl
    refine Ws ?_
    refine zaR ?_
    refine zfm (x:=.i r9.2.2.1) (f:=fun r=>.i r.1) (fd:=fun r=>[(p1,.obj none (zaf (mpv zan r.2)))]) (.inr rfl) ?_ (.refl _) (Option.some.inj hM) hS 0 rfl
    exact (zax (zae (x:=.i r9.2.2.1) rfl))
  ·refine Rg 5 ?_
   refine Om (.b (zbv st (⟨(⟨v2,v3,v4,v5⟩:Bag_),a1.place,(min a1.credit v1)⟩:Spot_))) ?_
   refine Om (.b (zbv st (⟨(⟨v2,v3,v4,v5⟩:Bag_),a1.place,(min a1.credit v1)⟩:Spot_))) ?_
   rcases bft (zbv st (⟨(⟨v2,v3,v4,v5⟩:Bag_),a1.place,(min a1.credit v1)⟩:Spot_)) with hb11 | hb11
   ·replace hM:=ifT hM hb11
    refine On (want:=false) hb11 ?_
    refine On (want:=false) hb11 ?_
    refine Pt (.b true) hb11 ?_
    refine Ni ?_
    exact zal true (.k (.k (.k (.k .nil)))) ⟨(hS.keep [true,true] rfl).up (by omega),hM⟩
   ·replace hM:=ifF hM hb11
    refine Oy (want:=false) hb11 ?_
    refine Om (.i v1) ?_
    refine Oy (want:=false) hb11 ?_
    refine Oi (.b (v1==0)) ?_
    refine Pf (.b (v1==0)) hb11 ?_
    refine Ni ?_
    exact zal (v1==0) (.k (.k (.k (.k .nil)))) ⟨(hS.keep [true,true] rfl).up (by omega),hM⟩
 ·refine Sq ?_
  refine Rg 3 ?_
  refine zaw (by decide) zgN rfl ?_
  refine zaV (v:=.agg (Bag_.cells a1.left)) 0 hS (by decide) rfl rfl .no (pg zsb) ?_
  refine Om (.i 0) ?_
  refine Ni ?_
  refine Ws ?_
  refine zaK ?_
  refine zct (V:=Int×Int) (fun v=>[(2,.ep [.ep (zbu a0.1 a0.2 p1)]),(3,.ptr (g+1) 0),(5,.i v.1),(13,.agg (Bag_.cells a1.left)),(14,.i v.2)]) (fun v m3 H' g'=>St (fun i=>i<g/\i∉ids [(p1,.obj none (zaf (mpv zan st)))]) H0 [(g+1,.cells (Spot_.cells a1)),(p1,.obj none (zaf (mpv zan st)))] H' g'/\zcy n rec a0 a1 st m3 v.1 v.2=some r) (n:=n) (0,0) (.k (.k (.k (.k (.k .nil))))) ⟨(hS.keep [true,true] rfl).up (by omega),hM⟩ ?_
  rintro ⟨v12,v13⟩ m3 H g3 ⟨hS,hM⟩
  obtain _ | m3:=m3
  ·exact nomatch (show none=some _ from hM)
  change wpA _ _ _ _ (Fr.of [(2,.ep [.ep (zbu a0.1 a0.2 p1)]),(3,.ptr (g+1) 0),(5,.i v12),(13,.agg (Bag_.cells a1.left)),(14,.i v13)]) _ _
  replace hS:St (fun i=>i<g/\i∉ids [(p1,.obj none (zaf (mpv zan st)))]) H0 [(g+1,.cells (Spot_.cells a1)),(p1,.obj none (zaf (mpv zan st)))] H g3:=hS
  replace hM:zdx n rec a0 a1 st (zcy n rec a0 a1 st m3) v12 v13=some r:=hM
  refine Sq ?_
  refine Rg 1 ?_
  refine Oi (.b (decide (v13<4))) ?_
  refine Ni ?_
  refine Ws ?_
  refine Sq ?_
  rcases bft (decide (v13<4)) with hb14 | hb14
  ·replace hM:=ifT hM hb14
   refine Ct hb14 ?_
   refine zaD ?_
   refine Ws ?_
   refine Sq ?_
   refine zaK ?_
   refine Sq ?_
   refine Rg 2 ?_
   obtain ⟨x15,hx15,hM⟩:=zai hM
   refine zmq (v:=.i x15) (cs:=(Bag_.cells a1.left)) (z:=v13) (by decide) rfl rfl zsc (zfs hx15).1 (zox hx15) (zph (xs:=([a1.left.c0,a1.left.c1,a1.left.c2,a1.left.c3]:List Int)) zah zar rfl hx15) ?_
   refine Oa (.i x15) ?_
   refine Ni ?_
   refine Ws ?_
   refine Rg 4 ?_
   refine Om (.i v12) ?_
   refine Om (.i x15) ?_
   refine Oi (.i (w64 (v12+x15))) ?_
   refine Oa (.i (w64 (v12+x15))) ?_
   refine Ni ?_
   refine zat ?_
   refine Ws ?_
   refine Rg 2 ?_
   refine Oi (.i (w64 (v13+1))) ?_
   refine Om (.i (w64 (v13+1))) ?_
   refine Ni ?_
   exact zbq (w64 (v12+x15),w64 (v13+1)) (Nat.lt_succ_self _) (.k (.k (.k (.k (.k .nil))))) ⟨(hS.keep [true,true] rfl).up (by omega),hM⟩
  ·replace hM:=ifF hM hb14
   refine Cf hb14 ?_
   refine zb1 ?_
   refine zaA ?_
   refine zaz ?_
   refine zaL ?_
   exact zal (v12,a1.left.c0,a1.left.c1,a1.left.c2,a1.left.c3) (.k (.k (.k .nil))) ⟨(hS.keep [true,true] rfl).up (by omega),hM⟩
theorem zeo {p1:Nat} (hnd:[p1].Nodup):∀{n:Nat} {a0:Wheel_×Bool} {a1:Spot_} {st:(List (Spot_×Int))} {r:Int×(List (Spot_×Int))},zbd n a0 a1 st=some r->zjZ Try.prog 79 [.ep (zbu a0.1 a0.2 p1),.agg (Spot_.cells a1)] [(p1,.obj none (zaf (mpv zan st)))] (.i r.1) [(p1,.obj none (zaf (mpv zan r.2)))]
 | 0,_,_,_,_,h=>nomatch (show none=some _ from h)
 | n+1,_,_,_,_,h=>zhL hnd (n:=n) (rec:=zbd n) (fun h=>zeo hnd h) h
theorem zmK {n:Nat} {a0:Wheel} {a1:List Int} {r:Int×Int} (hM:zf5 n a0 a1=some r):zaH Try.prog 45 [.agg (Wheel.cells a0),.sl .no 1 (a1.map cI)] (.tup [.i r.1,.i r.2]):=by
 refine zak mixed Try.func45 rfl (by decide) Try.ntmps45 (by simp) ?pure fun H0 g hf=>?_
 case pure=>exact .tup _ (zab (.v _) (zab (.v _) zaF))
 rw [zag]
 change wpA _ _ _ _ (Fr.of [(0,.agg (Wheel.cells a0)),(1,.sl .no 1 (a1.map cI))]) H0 g
 have hS:=St.start hf
 refine Sq ?_
 refine Rg 3 ?_
 refine zb4 (v:=.agg (Wheel.cells a0)) (cs:=(Wheel.cells a0)) hS (by decide) rfl rfl (by omega) fun H hS=>?_
 refine Oa (.i 0) ?_
 refine Oa (.i 0) ?_
 refine Ni ?_
 refine zaX (L':=[]) 0 2 hS rfl rfl rfl fun H hS=>?_
 refine Ws ?_
 refine Sq ?_
 refine Rg 11 ?_
 refine Olg (.agg (Wheel.cells a0)) zbk ?_
 refine Om (.sl .no 1 (a1.map cI)) ?_
 obtain ⟨r1,hr1,hM⟩:=zai hM
 rcases bft r1.1.isSome with hb2 | hb2
 ·replace hM:=ifT hM hb2
  obtain ⟨x3,hx3,hM⟩:=zai hM
  refine zrZ (bs:=[.agg (Wheel.cells a0),.sl .no 1 (a1.map cI),.fn (.func 78) [] []]) (.inl rfl) hS (by decide) rfl rfl ((zgT (r:=r1.2) (by rw [←hx3];exact hr1)).le (.k (.k (.k .nil)))) (by omega) fun H hS hU=>?_
  refine Om (.tup [.ep (zbu x3 false (g+3+11+19)),.agg (Spot_.cells r1.2.1),.i r1.2.2]) ?_
  refine Ox (.ep (zbu x3 false (g+3+11+19))) ?_
  refine Ox (.agg (Spot_.cells r1.2.1)) ?_
  refine Ox (.i r1.2.2) ?_
  refine zpm hS hU (by decide) zcF (by omega) (by omega) (by omega) fun H hS hU=>?_
  refine Oa (.ep (zbu x3 false (g+3+11+19))) ?_
  refine zaJ (v:=.agg (Spot_.cells r1.2.1)) (ns:=(Spot_.cells r1.2.1)) (L':=[(g+3+7,.cells (Spot_.cells r1.2.1)),(g+3+11+19,.obj none (zaf (mpv zan ([]:List (Spot_×Int)))))]) 0 hS rfl rfl .no rfl rfl zdP nlb rfl fun H hS=>?_
  refine Oa (.i r1.2.2) ?_
  refine Ni ?_
  refine zaX (L':=[(g+3+11+19,.obj none (zaf (mpv zan ([]:List (Spot_×Int)))))]) 0 7 hS rfl rfl rfl fun H hS=>?_
  refine Ws ?_
  refine Sq ?_
  refine Sq ?_
  refine Rg 2 ?_
  refine Om (.i r1.2.2) ?_
  refine Oi (.b (r1.2.2 != 0)) ?_
  refine Ni ?_
  refine Ws ?_
  rcases bft (r1.2.2 != 0) with hb4 | hb4
  ·replace hM:=ifT hM hb4
   refine Ct hb4 ?_
   refine Sq ?_
   refine Rg 3 ?_
   refine Om (.i r1.2.2) ?_
   refine Oa (.i 0) ?_
   refine Oa (.i r1.2.2) ?_
   refine Ni ?_
   replace hS:=hS.keep (L':=[]) [false] rfl
   refine Ws ?_
   refine zaR ?_
   refine zam ?_
   refine zaZ (x:=.tup [.i 0,.i r1.2.2]) (f:=fun r=>.tup [.i r.1,.i r.2]) (.inr rfl) ?_ (.refl _) (Option.some.inj hM) hS
   exact (zcl (zae (x:=.i 0) rfl) (zae (x:=.i r1.2.2) rfl))
  ·replace hM:=ifF hM hb4
   refine Cf hb4 ?_
   refine zaD ?_
   refine Ws ?_
   refine Sq ?_
   refine Rg 5 ?_
   refine Om (.ep (zbu x3 false (g+3+11+19))) ?_
   refine Olg (.agg (Spot_.cells r1.2.1)) zb8 ?_
   obtain ⟨r5,hr5,hM⟩:=zai hM
   have hndr5:=hS.nd_at (ns:=[0]) (M:=[(g+3+11+19,.obj none (zaf (mpv zan ([]:List (Spot_×Int)))))]) (M':=[(g+3+11+19,.obj none (zaf (mpv zan r5.2)))]) (.cons rfl .nil) (by decide)
   refine zkJ (bs:=[.ep (zbu x3 false (g+3+11+19)),.agg (Spot_.cells r1.2.1)]) (M:=[(g+3+11+19,.obj none (zaf (mpv zan ([]:List (Spot_×Int)))))]) (M':=[(g+3+11+19,.obj none (zaf (mpv zan r5.2)))]) (L':=[(g+3+11+19,.obj none (zaf (mpv zan r5.2)))]) [0] (.inl rfl) hS (by decide) rfl rfl ((zeo (p1:=g+3+11+19) hndr5 hr5).le (.k (.k .nil))) (.cons rfl .nil) rfl (by omega) fun H hS=>?_
   refine Oa (.i r5.1) ?_
   refine Oa (.i 0) ?_
   refine Ni ?_
   replace hS:=hS.keep (L':=[]) [false] rfl
   refine Ws ?_
   refine zaR ?_
   refine zaZ (x:=.tup [.i r5.1,.i 0]) (f:=fun r=>.tup [.i r.1,.i r.2]) (.inr rfl) ?_ (.refl _) (Option.some.inj hM) hS
   exact (zcl (zae (x:=.i r5.1) rfl) (zae (x:=.i 0) rfl))
 ·replace hM:=ifF hM hb2
  have hb2':r1.1=none:=by rw [Option.isSome_eq_false_iff,Option.isNone_iff_eq_none] at hb2;exact hb2
  refine zaE (bs:=[.agg (Wheel.cells a0),.sl .no 1 (a1.map cI),.fn (.func 78) [] []]) (by decide) rfl rfl ((zgS (r:=r1.2) (by rw [←hb2'];exact hr1)).le (.k (.k (.k .nil)))) ?_
  refine Om (.tup [.v (.pointer none),.agg (Spot_.cells r1.2.1),.i r1.2.2]) ?_
  refine Ox (.v (.pointer none)) ?_
  refine Ox (.agg (Spot_.cells r1.2.1)) ?_
  refine Ox (.i r1.2.2) ?_
  refine za3 hS (by decide) zcF (by omega) fun H hS=>?_
  refine Oa (.v (.pointer none)) ?_
  refine zaJ (v:=.agg (Spot_.cells r1.2.1)) (ns:=(Spot_.cells r1.2.1)) (L':=[(g+3+7,.cells (Spot_.cells r1.2.1))]) 0 hS rfl rfl .no rfl rfl zdP nlb rfl fun H hS=>?_
  refine Oa (.i r1.2.2) ?_
  refine Ni ?_
  refine zaX (L':=[]) 0 7 hS rfl rfl rfl fun H hS=>?_
  refine Ws ?_
  refine Sq ?_
  refine Sq ?_
  refine Rg 2 ?_
  refine Om (.i r1.2.2) ?_
  refine Oi (.b (r1.2.2 != 0)) ?_
  refine Ni ?_
  refine Ws ?_
  rcases bft (r1.2.2 != 0) with hb6 | hb6
  ·replace hM:=ifT hM hb6
   refine Ct hb6 ?_
   refine Sq ?_
   refine Rg 3 ?_
   refine Om (.i r1.2.2) ?_
   refine Oa (.i 0) ?_
   refine Oa (.i r1.2.2) ?_
   refine Ni ?_
   refine Ws ?_
   refine zaR ?_
   refine zam ?_
   refine zaZ (x:=.tup [.i 0,.i r1.2.2]) (f:=fun r=>.tup [.i r.1,.i r.2]) (.inr rfl) ?_ (.refl _) (Option.some.inj hM) hS
   exact (zcl (zae (x:=.i 0) rfl) (zae (x:=.i r1.2.2) rfl))
  ·replace hM:=ifF hM hb6
   refine Cf hb6 ?_
   refine zaD ?_
   refine Ws ?_
   refine Sq ?_
   refine Rg 5 ?_
   refine Om (.v (.pointer none)) ?_
   refine Olg (.agg (Spot_.cells r1.2.1)) zb8 ?_
   exact nomatch (show none=some _ from hM)
theorem znH {n:Nat} {a0:Wheel} {a1:List Int} {r:Int×Int} (hM:zgJ n a0 a1=some r):zaH Try.prog 46 [.agg (Wheel.cells a0),.sl .no 1 (a1.map cI)] (.tup [.i r.1,.i r.2]):=by
 refine zak mixed Try.func46 rfl (by decide) Try.ntmps46 (by simp) ?pure fun H0 g hf=>?_
 case pure=>exact .tup _ (zab (.v _) (zab (.v _) zaF))
 rw [zag]
 change wpA _ _ _ _ (Fr.of [(0,.agg (Wheel.cells a0)),(1,.sl .no 1 (a1.map cI))]) H0 g
 have hS:=St.start hf
 refine Sq ?_
 refine Rg 3 ?_
 refine zb4 (v:=.agg (Wheel.cells a0)) (cs:=(Wheel.cells a0)) hS (by decide) rfl rfl (by omega) fun H hS=>?_
 refine Oa (.i 0) ?_
 refine Oa (.i 0) ?_
 refine Ni ?_
 refine zaX (L':=[]) 0 2 hS rfl rfl rfl fun H hS=>?_
 refine Ws ?_
 refine Sq ?_
 refine Rg 11 ?_
 refine Olg (.agg (Wheel.cells a0)) zbk ?_
 refine Om (.sl .no 1 (a1.map cI)) ?_
 obtain ⟨r1,hr1,hM⟩:=zai hM
 rcases bft r1.1.isSome with hb2 | hb2
 ·replace hM:=ifT hM hb2
  obtain ⟨x3,hx3,hM⟩:=zai hM
  refine zrZ (bs:=[.agg (Wheel.cells a0),.sl .no 1 (a1.map cI),.fn (.func 80) [] []]) (.inl rfl) hS (by decide) rfl rfl ((zgT (r:=r1.2) (by rw [←hx3];exact hr1)).le (.k (.k (.k .nil)))) (by omega) fun H hS hU=>?_
  refine Om (.tup [.ep (zbu x3 true (g+3+11+19)),.agg (Spot_.cells r1.2.1),.i r1.2.2]) ?_
  refine Ox (.ep (zbu x3 true (g+3+11+19))) ?_
  refine Ox (.agg (Spot_.cells r1.2.1)) ?_
  refine Ox (.i r1.2.2) ?_
  refine zpm hS hU (by decide) zcF (by omega) (by omega) (by omega) fun H hS hU=>?_
  refine Oa (.ep (zbu x3 true (g+3+11+19))) ?_
  refine zaJ (v:=.agg (Spot_.cells r1.2.1)) (ns:=(Spot_.cells r1.2.1)) (L':=[(g+3+7,.cells (Spot_.cells r1.2.1)),(g+3+11+19,.obj none (zaf (mpv zan ([]:List (Spot_×Int)))))]) 0 hS rfl rfl .no rfl rfl zdP nlb rfl fun H hS=>?_
  refine Oa (.i r1.2.2) ?_
  refine Ni ?_
  refine zaX (L':=[(g+3+11+19,.obj none (zaf (mpv zan ([]:List (Spot_×Int)))))]) 0 7 hS rfl rfl rfl fun H hS=>?_
  refine Ws ?_
  refine Sq ?_
  refine Sq ?_
  refine Rg 2 ?_
  refine Om (.i r1.2.2) ?_
  refine Oi (.b (r1.2.2 != 0)) ?_
  refine Ni ?_
  refine Ws ?_
  rcases bft (r1.2.2 != 0) with hb4 | hb4
  ·replace hM:=ifT hM hb4
   refine Ct hb4 ?_
   refine Sq ?_
   refine Rg 3 ?_
   refine Om (.i r1.2.2) ?_
   refine Oa (.i 0) ?_
   refine Oa (.i r1.2.2) ?_
   refine Ni ?_
   replace hS:=hS.keep (L':=[]) [false] rfl
   refine Ws ?_
   refine zaR ?_
   refine zam ?_
   refine zaZ (x:=.tup [.i 0,.i r1.2.2]) (f:=fun r=>.tup [.i r.1,.i r.2]) (.inr rfl) ?_ (.refl _) (Option.some.inj hM) hS
   exact (zcl (zae (x:=.i 0) rfl) (zae (x:=.i r1.2.2) rfl))
  ·replace hM:=ifF hM hb4
   refine Cf hb4 ?_
   refine zaD ?_
   refine Ws ?_
   refine Sq ?_
   refine Rg 5 ?_
   refine Om (.ep (zbu x3 true (g+3+11+19))) ?_
   refine Olg (.agg (Spot_.cells r1.2.1)) zb8 ?_
   obtain ⟨r5,hr5,hM⟩:=zai hM
   have hndr5:=hS.nd_at (ns:=[0]) (M:=[(g+3+11+19,.obj none (zaf (mpv zan ([]:List (Spot_×Int)))))]) (M':=[(g+3+11+19,.obj none (zaf (mpv zan r5.2)))]) (.cons rfl .nil) (by decide)
   refine zkJ (bs:=[.ep (zbu x3 true (g+3+11+19)),.agg (Spot_.cells r1.2.1)]) (M:=[(g+3+11+19,.obj none (zaf (mpv zan ([]:List (Spot_×Int)))))]) (M':=[(g+3+11+19,.obj none (zaf (mpv zan r5.2)))]) (L':=[(g+3+11+19,.obj none (zaf (mpv zan r5.2)))]) [0] (.inl rfl) hS (by decide) rfl rfl ((zeo (p1:=g+3+11+19) hndr5 hr5).le (.k (.k .nil))) (.cons rfl .nil) rfl (by omega) fun H hS=>?_
   refine Oa (.i r5.1) ?_
   refine Oa (.i 0) ?_
   refine Ni ?_
   replace hS:=hS.keep (L':=[]) [false] rfl
   refine Ws ?_
   refine zaR ?_
   refine zaZ (x:=.tup [.i r5.1,.i 0]) (f:=fun r=>.tup [.i r.1,.i r.2]) (.inr rfl) ?_ (.refl _) (Option.some.inj hM) hS
   exact (zcl (zae (x:=.i r5.1) rfl) (zae (x:=.i 0) rfl))
 ·replace hM:=ifF hM hb2
  have hb2':r1.1=none:=by rw [Option.isSome_eq_false_iff,Option.isNone_iff_eq_none] at hb2;exact hb2
  refine zaE (bs:=[.agg (Wheel.cells a0),.sl .no 1 (a1.map cI),.fn (.func 80) [] []]) (by decide) rfl rfl ((zgS (r:=r1.2) (by rw [←hb2'];exact hr1)).le (.k (.k (.k .nil)))) ?_
  refine Om (.tup [.v (.pointer none),.agg (Spot_.cells r1.2.1),.i r1.2.2]) ?_
  refine Ox (.v (.pointer none)) ?_
  refine Ox (.agg (Spot_.cells r1.2.1)) ?_
  refine Ox (.i r1.2.2) ?_
  refine za3 hS (by decide) zcF (by omega) fun H hS=>?_
  refine Oa (.v (.pointer none)) ?_
  refine zaJ (v:=.agg (Spot_.cells r1.2.1)) (ns:=(Spot_.cells r1.2.1)) (L':=[(g+3+7,.cells (Spot_.cells r1.2.1))]) 0 hS rfl rfl .no rfl rfl zdP nlb rfl fun H hS=>?_
  refine Oa (.i r1.2.2) ?_
  refine Ni ?_
  refine zaX (L':=[]) 0 7 hS rfl rfl rfl fun H hS=>?_
  refine Ws ?_
  refine Sq ?_
  refine Sq ?_
  refine Rg 2 ?_
  refine Om (.i r1.2.2) ?_
  refine Oi (.b (r1.2.2 != 0)) ?_
  refine Ni ?_
  refine Ws ?_
  rcases bft (r1.2.2 != 0) with hb6 | hb6
  ·replace hM:=ifT hM hb6
   refine Ct hb6 ?_
   refine Sq ?_
   refine Rg 3 ?_
   refine Om (.i r1.2.2) ?_
   refine Oa (.i 0) ?_
   refine Oa (.i r1.2.2) ?_
   refine Ni ?_
   refine Ws ?_
   refine zaR ?_
   refine zam ?_
   refine zaZ (x:=.tup [.i 0,.i r1.2.2]) (f:=fun r=>.tup [.i r.1,.i r.2]) (.inr rfl) ?_ (.refl _) (Option.some.inj hM) hS
   exact (zcl (zae (x:=.i 0) rfl) (zae (x:=.i r1.2.2) rfl))
  ·replace hM:=ifF hM hb6
   refine Cf hb6 ?_
   refine zaD ?_
   refine Ws ?_
   refine Sq ?_
   refine Rg 5 ?_
   refine Om (.v (.pointer none)) ?_
   refine Olg (.agg (Spot_.cells r1.2.1)) zb8 ?_
   exact nomatch (show none=some _ from hM)
theorem zjg {n:Nat} {a0:Wheel} {a1:List Int} {r:Bool} (hM:zej n a0 a1=some r):zaH Try.prog 11 [.agg (Wheel.cells a0),.sl .no 1 (a1.map cI)] (.b r):=by
 refine zak mixed Try.func11 rfl (by decide) Try.ntmps11 (by simp) ?pure fun H0 g hf=>?_
 case pure=>exact .v _
 rw [zag]
 change wpA _ _ _ _ (Fr.of [(0,.agg (Wheel.cells a0)),(1,.sl .no 1 (a1.map cI))]) H0 g
 have hS:=St.start hf
 refine Sq ?_
 refine Rg 2 ?_
 refine zb4 (v:=.agg (Wheel.cells a0)) (cs:=(Wheel.cells a0)) hS (by decide) rfl rfl (by omega) fun H hS=>?_
 refine Oa (.b false) ?_
 refine Ni ?_
 refine zaX (L':=[]) 0 2 hS rfl rfl rfl fun H hS=>?_
 refine Ws ?_
 refine Sq ?_
 refine za1 (J:=Bool) (fun j=>[(1,.sl .no 1 (a1.map cI)),(2,.ep (Wheel.cells a0)),(31,.b j)]) (fun j H' g'=>St (·<g) H0 [] H' g'/\za9 n a0 a1 j=some r) ?_ ?_
 ·rintro v1 H g1 ⟨hS,hM⟩
  change wpA _ _ _ _ (Fr.of [(1,.sl .no 1 (a1.map cI)),(2,.ep (Wheel.cells a0)),(31,.b v1)]) _ _
  replace hS:St (·<g) H0 [] H g1:=hS
  replace hM:za9 n a0 a1 v1=some r:=hM
  rcases bft v1 with hb2 | hb2
  ·replace hM:=ifT hM hb2
   refine Ct hb2 ?_
   refine Sq ?_
   refine Rg 2 ?_
   obtain ⟨r3,hr3,hM⟩:=zai hM
   refine zaE (bs:=[]) (by decide) rfl rfl ((zhg hr3).le .nil) ?_
   refine Oa (.b r3) ?_
   refine Ni ?_
   refine Ws ?_
   refine zaR ?_
   refine zam ?_
   refine zaZ (x:=.b r3) (f:=fun r=>.b r) (.inr rfl) ?_ (.refl _) (Option.some.inj hM) hS
   exact (zax (zae (x:=.b r3) rfl))
  ·replace hM:=ifF hM hb2
   refine Cf hb2 ?_
   refine zaD ?_
   refine Ws ?_
   refine Sq ?_
   refine Rg 4 ?_
   refine Olg (.agg (Wheel.cells a0)) zbk ?_
   refine Om (.sl .no 1 (a1.map cI)) ?_
   obtain ⟨r4,hr4,hM⟩:=zai hM
   refine zaE (bs:=[.agg (Wheel.cells a0),.sl .no 1 (a1.map cI)]) (by decide) rfl rfl ((zoL hr4).le (.k (.k .nil))) ?_
   refine Oa (.sl .no 1 (r4.map cI)) ?_
   refine Ni ?_
   refine Ws ?_
   refine Sq ?_
   have hS0:=hS
   refine zck (n:=11) rfl (by kernel_rfl) ?_
   refine Olg (.agg (Wheel.cells a0)) zbk ?_
   refine Om (.sl .no 1 (r4.map cI)) ?_
   refine Om (.sl .no 1 (r4.map cI)) ?_
   refine zbA (n:=r4.length) (by decide) rfl (List.length_map _) zaB ?_
   obtain ⟨l5,hl5,hM⟩:=zai hM
   refine zsp (z:=(r4.length:Int)) (us:=l5) hS (by decide) rfl rfl hl5 zay zbn zmy zbi (by omega) fun H hS=>?_
   refine Om (.sl .no 1 (r4.map cI)) ?_
   refine zbA (n:=r4.length) (by decide) rfl (List.length_map _) zaB ?_
   obtain ⟨l6,hl6,hM⟩:=zai hM
   refine zsp (z:=(r4.length:Int)) (us:=l6) hS (by decide) rfl rfl hl6 zay zbn zmy zbi (by omega) fun H hS=>?_
   refine zbx (cs:=[.i a0.Round,.sl .no 1 (a0.Notches.map cI),.sl .no 1 (a0.Coins.map cI),.sl .no 1 (r4.map cI),.sl (.id (g1+4+4)) 1 (l5.map cI),.sl (.id (g1+4+7)) 1 (l6.map cI),.i 0,.i 0]) (by decide) zf7 zr7 rfl ?_
   refine za3 hS (by decide) zf7 (by omega) fun H hS=>?_
   refine zaJ (v:=.agg [.i a0.Round,.sl .no 1 (a0.Notches.map cI),.sl .no 1 (a0.Coins.map cI),.sl .no 1 (r4.map cI),.sl (.id (g1+4+4)) 1 (l5.map cI),.sl (.id (g1+4+7)) 1 (l6.map cI),.i 0,.i 0]) (ns:=[.i a0.Round,.sl .no 1 (a0.Notches.map cI),.sl .no 1 (a0.Coins.map cI),.sl .no 1 (r4.map cI),.sl (.id (g1+4+4)) 1 (l5.map cI),.sl (.id (g1+4+7)) 1 (l6.map cI),.i 0,.i 0]) (L':=[(g1+4+9,.cells [.i a0.Round,.sl .no 1 (a0.Notches.map cI),.sl .no 1 (a0.Coins.map cI),.sl .no 1 (r4.map cI),.sl (.id (g1+4+4)) 1 (l5.map cI),.sl (.id (g1+4+7)) 1 (l6.map cI),.i 0,.i 0]),(g1+4+7,.row 3 l6.length),(g1+4+4,.row 3 l5.length)]) 0 hS rfl rfl (.behind (by kernel_rfl)) rfl rfl ziU nlb rfl fun H hS=>?_
   refine Ni ?_
   refine zuF (cs':=[.i a0.Round,.sl .no 1 (a0.Notches.map cI),.sl .no 1 (a0.Coins.map cI),.sl .no 1 (r4.map cI),.sl .no 1 (l5.map cI),.sl .no 1 (l6.map cI),.i 0,.i 0]) (L':=[(g1+4+9,.cells [.i a0.Round,.sl .no 1 (a0.Notches.map cI),.sl .no 1 (a0.Coins.map cI),.sl .no 1 (r4.map cI),.sl .no 1 (l5.map cI),.sl .no 1 (l6.map cI),.i 0,.i 0]),(g1+4+7,.row 3 l6.length),(g1+4+4,.row 3 l5.length)]) 0 hS rfl (.k (.k (.k (.k (.cons (.sl _ _ _) (.cons (.sl _ _ _) (.k (.k .nil)))))))) rfl fun H hS=>?_
   refine zaX (L':=[(g1+4+7,.row 3 l6.length),(g1+4+4,.row 3 l5.length)]) 0 6 hS rfl rfl rfl fun H hS=>?_
   replace hS:=hS.keep (L':=[]) [false,false] rfl
   refine Ws ?_
   refine Sq ?_
   refine Sq ?_
   refine Rg 3 ?_
   refine Olg (.agg [.i a0.Round,.sl .no 1 (a0.Notches.map cI),.sl .no 1 (a0.Coins.map cI),.sl .no 1 (r4.map cI),.sl .no 1 (l5.map cI),.sl .no 1 (l6.map cI),.i 0,.i 0]) zcj ?_
   obtain ⟨r7,hr7,hM⟩:=zai hM
   refine zaE (bs:=[.agg [.i a0.Round,.sl .no 1 (a0.Notches.map cI),.sl .no 1 (a0.Coins.map cI),.sl .no 1 (r4.map cI),.sl .no 1 (l5.map cI),.sl .no 1 (l6.map cI),.i 0,.i 0]]) (by decide) rfl rfl ((zmH hr7).le (.k .nil)) ?_
   refine zd4 (e:=r7) (by decide) rfl ?_
   refine Ni ?_
   refine Ws ?_
   rcases bft (!r7) with hb8 | hb8
   ·replace hM:=ifT hM hb8
    refine Ct hb8 ?_
    refine Sq ?_
    refine Rg 2 ?_
    obtain ⟨r9,hr9,hM⟩:=zai hM
    refine zaE (bs:=[]) (by decide) rfl rfl ((zhg hr9).le .nil) ?_
    refine Oa (.b r9) ?_
    refine Ni ?_
    refine Ws ?_
    refine zaR ?_
    refine zam ?_
    refine zaZ (x:=.b r9) (f:=fun r=>.b r) (.inr rfl) ?_ (.refl _) (Option.some.inj hM) hS
    exact (zax (zae (x:=.b r9) rfl))
   ·replace hM:=ifF hM hb8
    refine Cf hb8 ?_
    refine zaD ?_
    refine Ws ?_
    refine Sq ?_
    refine Rg 8 ?_
    refine Olg (.agg [.i a0.Round,.sl .no 1 (a0.Notches.map cI),.sl .no 1 (a0.Coins.map cI),.sl .no 1 (r4.map cI),.sl .no 1 (l5.map cI),.sl .no 1 (l6.map cI),.i 0,.i 0]) zcj ?_
    obtain ⟨r10,hr10,hM⟩:=zai hM
    refine zaE (bs:=[.agg [.i a0.Round,.sl .no 1 (a0.Notches.map cI),.sl .no 1 (a0.Coins.map cI),.sl .no 1 (r4.map cI),.sl .no 1 (l5.map cI),.sl .no 1 (l6.map cI),.i 0,.i 0]]) (by decide) rfl rfl ((znF hr10).le (.k .nil)) ?_
    obtain ⟨r11,hr11,hM⟩:=zai hM
    refine zaE (bs:=[.agg (Box.cells r10)]) (by decide) rfl rfl ((zje hr11).le (.k .nil)) ?_
    refine Om (.tup [.sl .no 1 (r11.1.map cI),.i r11.2]) ?_
    refine Ox (.sl .no 1 (r11.1.map cI)) ?_
    refine Ox (.i r11.2) ?_
    refine Oa (.sl .no 1 (r11.1.map cI)) ?_
    refine Oa (.i r11.2) ?_
    refine Ni ?_
    refine Ws ?_
    refine Sq ?_
    have hS0:=hS
    refine zck (n:=10) rfl (by kernel_rfl) ?_
    refine Olg (.agg (Wheel.cells a0)) zbk ?_
    refine zaW (es:=[]) hS (by decide) zay zbn rfl zbi rfl (by decide) (by omega) fun H hS=>?_
    refine Om (.sl .no 1 (r4.map cI)) ?_
    obtain ⟨l12,hl12,hM⟩:=zai hM
    refine zed (xs:=([]:List Int)) (ys:=r4) (zs:=l12) (f:=cI) (L':=[(g1+4+11+3+8+1,.row 3 l12.length)]) 0 hS (by decide) rfl rfl rfl rfl (.behind (by kernel_rfl)) zay zbn zbi hl12 rfl fun H hS=>?_
    obtain ⟨r13,hr13,hM⟩:=zai hM
    refine zaE (bs:=[.agg (Wheel.cells a0),.sl (.id (g1+4+11+3+8+1)) 1 (l12.map cI)]) (by decide) rfl rfl ((zmK hr13).le (.k (.cons (.sl _ _ _) .nil))) ?_
    refine Om (.tup [.i r13.1,.i r13.2]) ?_
    refine Ox (.i r13.1) ?_
    refine Ox (.i r13.2) ?_
    refine Oa (.i r13.1) ?_
    refine Oa (.i r13.2) ?_
    refine Ni ?_
    replace hS:=hS.keep (L':=[]) [false] rfl
    refine Ws ?_
    refine Sq ?_
    have hS0:=hS
    refine zck (n:=10) rfl (by kernel_rfl) ?_
    refine Olg (.agg (Wheel.cells a0)) zbk ?_
    refine zaW (es:=[]) hS (by decide) zay zbn rfl zbi rfl (by decide) (by omega) fun H hS=>?_
    refine Om (.sl .no 1 (r4.map cI)) ?_
    obtain ⟨l14,hl14,hM⟩:=zai hM
    refine zed (xs:=([]:List Int)) (ys:=r4) (zs:=l14) (f:=cI) (L':=[(g1+4+11+3+8+10+1,.row 3 l14.length)]) 0 hS (by decide) rfl rfl rfl rfl (.behind (by kernel_rfl)) zay zbn zbi hl14 rfl fun H hS=>?_
    obtain ⟨r15,hr15,hM⟩:=zai hM
    refine zaE (bs:=[.agg (Wheel.cells a0),.sl (.id (g1+4+11+3+8+10+1)) 1 (l14.map cI)]) (by decide) rfl rfl ((znH hr15).le (.k (.cons (.sl _ _ _) .nil))) ?_
    refine Om (.tup [.i r15.1,.i r15.2]) ?_
    refine Ox (.i r15.1) ?_
    refine Ox (.i r15.2) ?_
    refine Oa (.i r15.1) ?_
    refine Oa (.i r15.2) ?_
    refine Ni ?_
    replace hS:=hS.keep (L':=[]) [false] rfl
    refine Ws ?_
    refine za1 (J:=Bool) (fun j=>[(4,.b j)]) (fun j H' g'=>St (·<g) H0 [] H' g'/\za0 j=some r) ?_ ?_
    ·rintro v16 H g2 ⟨hS,hM⟩
     change wpA _ _ _ _ (Fr.of [(4,.b v16)]) _ _
     replace hS:St (·<g) H0 [] H g2:=hS
     replace hM:za0 v16=some r:=hM
     refine zaR ?_
     refine zaZ (x:=.b v16) (f:=fun r=>.b r) (.inr rfl) ?_ (.refl _) (Option.some.inj hM) hS
     exact (zax (zae (x:=.b v16) rfl))
    ·refine Rg 48 ?_
     refine Om (.i r11.2) ?_
     refine Oi (.b (r11.2==0)) ?_
     refine Om (.b (r11.2==0)) ?_
     rcases bft (r11.2==0) with hb17 | hb17
     ·replace hM:=ifT hM hb17
      refine Oy (want:=true) hb17 ?_
      refine Om (.i r13.2) ?_
      refine Oy (want:=true) hb17 ?_
      refine Oi (.b (r13.2==0)) ?_
      refine Pt (.b (r13.2==0)) hb17 ?_
      refine Om (.b (r13.2==0)) ?_
      rcases bft (r13.2==0) with hb18 | hb18
      ·replace hM:=ifT hM hb18
       refine Oy (want:=true) hb18 ?_
       refine Om (.i r15.2) ?_
       refine Oy (want:=true) hb18 ?_
       refine Oi (.b (r15.2==0)) ?_
       refine Pt (.b (r15.2==0)) hb18 ?_
       refine Om (.b (r15.2==0)) ?_
       rcases bft (r15.2==0) with hb19 | hb19
       ·replace hM:=ifT hM hb19
        refine Oy (want:=true) hb19 ?_
        refine Om (.sl .no 1 (r11.1.map cI)) ?_
        refine Oy (want:=true) hb19 ?_
        refine zbA (n:=r11.1.length) (by decide) rfl (List.length_map _) zaB ?_
        refine Oy (want:=true) hb19 ?_
        refine Oi (.b (decide ((r11.1.length:Int)>0))) ?_
        refine Pt (.b (decide ((r11.1.length:Int)>0))) hb19 ?_
        refine Om (.b (decide ((r11.1.length:Int)>0))) ?_
        rcases bft (decide ((r11.1.length:Int)>0)) with hb20 | hb20
        ·replace hM:=ifT hM hb20
         refine Oy (want:=true) hb20 ?_
         refine Om (.sl .no 1 (r11.1.map cI)) ?_
         refine Oy (want:=true) hb20 ?_
         refine zbA (n:=r11.1.length) (by decide) rfl (List.length_map _) zaB ?_
         refine Oy (want:=true) hb20 ?_
         refine Oi (.b (decide ((r11.1.length:Int)<10000))) ?_
         refine Pt (.b (decide ((r11.1.length:Int)<10000))) hb20 ?_
         refine Om (.b (decide ((r11.1.length:Int)<10000))) ?_
         generalize hq1:decide ((r11.1.length:Int)<10000)=q1 at hM ⊢
         rcases bft q1 with hb21 | hb21
         ·replace hM:=ifT hM hb21
          refine Oy (want:=true) hb21 ?_
          refine Om (.sl .no 1 (r11.1.map cI)) ?_
          refine Oy (want:=true) hb21 ?_
          obtain ⟨x22,hx22,hM⟩:=zai hM
          refine za5 (xs:=r11.1) (f:=cI) (z:=0) (u:=x22) (by decide) rfl rfl zay hx22 ?_
          refine Oy (want:=true) hb21 ?_
          refine Olp (.i x22) zah zar ?_
          refine Oy (want:=true) hb21 ?_
          refine Om (.i r13.1) ?_
          refine Oy (want:=true) hb21 ?_
          refine Oi (.b (x22==r13.1)) ?_
          refine Pt (.b (x22==r13.1)) hb21 ?_
          refine Om (.b (x22==r13.1)) ?_
          rcases bft (x22==r13.1) with hb23 | hb23
          ·replace hM:=ifT hM hb23
           refine Oy (want:=true) hb23 ?_
           refine Om (.sl .no 1 (r11.1.map cI)) ?_
           refine Oy (want:=true) hb23 ?_
           refine Om (.sl .no 1 (r11.1.map cI)) ?_
           refine Oy (want:=true) hb23 ?_
           refine zbA (n:=r11.1.length) (by decide) rfl (List.length_map _) zaB ?_
           refine Oy (want:=true) hb23 ?_
           refine Oi (.i (w64 ((r11.1.length:Int)-1))) ?_
           refine Oy (want:=true) hb23 ?_
           obtain ⟨x24,hx24,hM⟩:=zai hM
           refine za5 (xs:=r11.1) (f:=cI) (z:=(w64 ((r11.1.length:Int)-1))) (u:=x24) (by decide) rfl rfl zay hx24 ?_
           refine Oy (want:=true) hb23 ?_
           refine Olp (.i x24) zah zar ?_
           refine Oy (want:=true) hb23 ?_
           refine Om (.i r15.1) ?_
           refine Oy (want:=true) hb23 ?_
           refine Oi (.b (x24==r15.1)) ?_
           refine Pt (.b (x24==r15.1)) hb23 ?_
           refine Om (.b (x24==r15.1)) ?_
           rcases bft (x24==r15.1) with hb25 | hb25
           ·replace hM:=ifT hM hb25
            refine Oy (want:=true) hb25 ?_
            refine Om (.sl .no 1 (r11.1.map cI)) ?_
            refine Oy (want:=true) hb25 ?_
            refine Olg (.agg (Wheel.cells a0)) zbk ?_
            refine Oy (want:=true) hb25 ?_
            refine Om (.sl .no 1 (a1.map cI)) ?_
            refine Oy (want:=true) hb25 ?_
            obtain ⟨r26,hr26,hM⟩:=zai hM
            refine zaE (bs:=[.agg (Wheel.cells a0),.sl .no 1 (a1.map cI)]) (by decide) rfl rfl ((znG hr26).le (.k (.k .nil))) ?_
            refine Oy (want:=true) hb25 ?_
            obtain ⟨r27,hr27,hM⟩:=zai hM
            refine zaE (bs:=[.sl .no 1 (r11.1.map cI),.i r26]) (by decide) rfl rfl ((zl7 hr27).le (.k (.k .nil))) ?_
            refine Pt (.b r27) hb25 ?_
            refine Om (.b r27) ?_
            rcases bft r27 with hb28 | hb28
            ·replace hM:=ifT hM hb28
             refine Oy (want:=true) hb28 ?_
             obtain ⟨r29,hr29,hM⟩:=zai hM
             refine zaE (bs:=[]) (by decide) rfl rfl ((zhg hr29).le .nil) ?_
             refine Pt (.b r29) hb28 ?_
             refine Oa (.b r29) ?_
             refine Ni ?_
             exact zal r29 (.k .nil) ⟨(hS.keep [] rfl).up (by omega),hM⟩
            ·replace hM:=ifF hM hb28
             refine On (want:=true) hb28 ?_
             refine Pf (.b false) hb28 ?_
             refine Oa (.b false) ?_
             refine Ni ?_
             exact zal false (.k .nil) ⟨(hS.keep [] rfl).up (by omega),hM⟩
           ·replace hM:=ifF hM hb25
            refine On (want:=true) hb25 ?_
            refine On (want:=true) hb25 ?_
            refine On (want:=true) hb25 ?_
            refine On (want:=true) hb25 ?_
            refine On (want:=true) hb25 ?_
            refine Pf (.b false) hb25 ?_
            refine Om (.b false) ?_
            refine Og ?_
            refine zaS (v:=.b false) (e:=false) (by decide) rfl rfl rfl ?_
            refine Oa (.b false) ?_
            refine Ni ?_
            exact zal false (.k .nil) ⟨(hS.keep [] rfl).up (by omega),hM⟩
          ·replace hM:=ifF hM hb23
           refine On (want:=true) hb23 ?_
           refine On (want:=true) hb23 ?_
           refine On (want:=true) hb23 ?_
           refine On (want:=true) hb23 ?_
           refine On (want:=true) hb23 ?_
           refine On (want:=true) hb23 ?_
           refine On (want:=true) hb23 ?_
           refine On (want:=true) hb23 ?_
           refine Pf (.b false) hb23 ?_
           refine Om (.b false) ?_
           refine Og ?_
           refine Og ?_
           refine Og ?_
           refine Og ?_
           refine Og ?_
           refine zaS (v:=.b false) (e:=false) (by decide) rfl rfl rfl ?_
           refine Om (.b false) ?_
           refine Og ?_
           refine zaS (v:=.b false) (e:=false) (by decide) rfl rfl rfl ?_
           refine Oa (.b false) ?_
           refine Ni ?_
           exact zal false (.k .nil) ⟨(hS.keep [] rfl).up (by omega),hM⟩
         ·replace hM:=ifF hM hb21
          refine On (want:=true) hb21 ?_
          refine On (want:=true) hb21 ?_
          refine On (want:=true) hb21 ?_
          refine On (want:=true) hb21 ?_
          refine On (want:=true) hb21 ?_
          refine Pf (.b false) hb21 ?_
          refine Om (.b false) ?_
          refine Og ?_
          refine Og ?_
          refine Og ?_
          refine Og ?_
          refine Og ?_
          refine Og ?_
          refine Og ?_
          refine Og ?_
          refine zaS (v:=.b false) (e:=false) (by decide) rfl rfl rfl ?_
          refine Om (.b false) ?_
          refine Og ?_
          refine Og ?_
          refine Og ?_
          refine Og ?_
          refine Og ?_
          refine zaS (v:=.b false) (e:=false) (by decide) rfl rfl rfl ?_
          refine Om (.b false) ?_
          refine Og ?_
          refine zaS (v:=.b false) (e:=false) (by decide) rfl rfl rfl ?_
          refine Oa (.b false) ?_
          refine Ni ?_
          exact zal false (.k .nil) ⟨(hS.keep [] rfl).up (by omega),hM⟩
        ·replace hM:=ifF hM hb20
         refine On (want:=true) hb20 ?_
         refine On (want:=true) hb20 ?_
         refine On (want:=true) hb20 ?_
         refine Pf (.b false) hb20 ?_
         refine Om (.b false) ?_
         refine Og ?_
         refine Og ?_
         refine Og ?_
         refine Og ?_
         refine Og ?_
         refine zaS (v:=.b false) (e:=false) (by decide) rfl rfl rfl ?_
         refine Om (.b false) ?_
         refine Og ?_
         refine Og ?_
         refine Og ?_
         refine Og ?_
         refine Og ?_
         refine Og ?_
         refine Og ?_
         refine Og ?_
         refine zaS (v:=.b false) (e:=false) (by decide) rfl rfl rfl ?_
         refine Om (.b false) ?_
         refine Og ?_
         refine Og ?_
         refine Og ?_
         refine Og ?_
         refine Og ?_
         refine zaS (v:=.b false) (e:=false) (by decide) rfl rfl rfl ?_
         refine Om (.b false) ?_
         refine Og ?_
         refine zaS (v:=.b false) (e:=false) (by decide) rfl rfl rfl ?_
         refine Oa (.b false) ?_
         refine Ni ?_
         exact zal false (.k .nil) ⟨(hS.keep [] rfl).up (by omega),hM⟩
       ·replace hM:=ifF hM hb19
        refine On (want:=true) hb19 ?_
        refine On (want:=true) hb19 ?_
        refine On (want:=true) hb19 ?_
        refine Pf (.b false) hb19 ?_
        refine Om (.b false) ?_
        refine Og ?_
        refine Og ?_
        refine Og ?_
        refine zaS (v:=.b false) (e:=false) (by decide) rfl rfl rfl ?_
        refine Om (.b false) ?_
        refine Og ?_
        refine Og ?_
        refine Og ?_
        refine Og ?_
        refine Og ?_
        refine zaS (v:=.b false) (e:=false) (by decide) rfl rfl rfl ?_
        refine Om (.b false) ?_
        refine Og ?_
        refine Og ?_
        refine Og ?_
        refine Og ?_
        refine Og ?_
        refine Og ?_
        refine Og ?_
        refine Og ?_
        refine zaS (v:=.b false) (e:=false) (by decide) rfl rfl rfl ?_
        refine Om (.b false) ?_
        refine Og ?_
        refine Og ?_
        refine Og ?_
        refine Og ?_
        refine Og ?_
        refine zaS (v:=.b false) (e:=false) (by decide) rfl rfl rfl ?_
        refine Om (.b false) ?_
        refine Og ?_
        refine zaS (v:=.b false) (e:=false) (by decide) rfl rfl rfl ?_
        refine Oa (.b false) ?_
        refine Ni ?_
        exact zal false (.k .nil) ⟨(hS.keep [] rfl).up (by omega),hM⟩
      ·replace hM:=ifF hM hb18
       refine On (want:=true) hb18 ?_
       refine On (want:=true) hb18 ?_
       refine Pf (.b false) hb18 ?_
       refine Om (.b false) ?_
       refine Og ?_
       refine Og ?_
       refine Og ?_
       refine zaS (v:=.b false) (e:=false) (by decide) rfl rfl rfl ?_
       refine Om (.b false) ?_
       refine Og ?_
       refine Og ?_
       refine Og ?_
       refine zaS (v:=.b false) (e:=false) (by decide) rfl rfl rfl ?_
       refine Om (.b false) ?_
       refine Og ?_
       refine Og ?_
       refine Og ?_
       refine Og ?_
       refine Og ?_
       refine zaS (v:=.b false) (e:=false) (by decide) rfl rfl rfl ?_
       refine Om (.b false) ?_
       refine Og ?_
       refine Og ?_
       refine Og ?_
       refine Og ?_
       refine Og ?_
       refine Og ?_
       refine Og ?_
       refine Og ?_
       refine zaS (v:=.b false) (e:=false) (by decide) rfl rfl rfl ?_
       refine Om (.b false) ?_
       refine Og ?_
       refine Og ?_
       refine Og ?_
       refine Og ?_
       refine Og ?_
       refine zaS (v:=.b false) (e:=false) (by decide) rfl rfl rfl ?_
       refine Om (.b false) ?_
       refine Og ?_
       refine zaS (v:=.b false) (e:=false) (by decide) rfl rfl rfl ?_
       refine Oa (.b false) ?_
       refine Ni ?_
       exact zal false (.k .nil) ⟨(hS.keep [] rfl).up (by omega),hM⟩
     ·replace hM:=ifF hM hb17
      refine On (want:=true) hb17 ?_
      refine On (want:=true) hb17 ?_
      refine Pf (.b false) hb17 ?_
      refine Om (.b false) ?_
      refine Og ?_
      refine Og ?_
      refine zaS (v:=.b false) (e:=false) (by decide) rfl rfl rfl ?_
      refine Om (.b false) ?_
      refine Og ?_
      refine Og ?_
      refine Og ?_
      refine zaS (v:=.b false) (e:=false) (by decide) rfl rfl rfl ?_
      refine Om (.b false) ?_
      refine Og ?_
      refine Og ?_
      refine Og ?_
      refine zaS (v:=.b false) (e:=false) (by decide) rfl rfl rfl ?_
      refine Om (.b false) ?_
      refine Og ?_
      refine Og ?_
      refine Og ?_
      refine Og ?_
      refine Og ?_
      refine zaS (v:=.b false) (e:=false) (by decide) rfl rfl rfl ?_
      refine Om (.b false) ?_
      refine Og ?_
      refine Og ?_
      refine Og ?_
      refine Og ?_
      refine Og ?_
      refine Og ?_
      refine Og ?_
      refine Og ?_
      refine zaS (v:=.b false) (e:=false) (by decide) rfl rfl rfl ?_
      refine Om (.b false) ?_
      refine Og ?_
      refine Og ?_
      refine Og ?_
      refine Og ?_
      refine Og ?_
      refine zaS (v:=.b false) (e:=false) (by decide) rfl rfl rfl ?_
      refine Om (.b false) ?_
      refine Og ?_
      refine zaS (v:=.b false) (e:=false) (by decide) rfl rfl rfl ?_
      refine Oa (.b false) ?_
      refine Ni ?_
      exact zal false (.k .nil) ⟨(hS.keep [] rfl).up (by omega),hM⟩
 ·refine Rg 19 ?_
  refine Of ((Wheel.cells a0)) zfv ?_
  refine Olp (.sl .no 1 (a0.Notches.map cI)) zau zaO ?_
  refine zbA (n:=a0.Notches.length) (by decide) rfl (List.length_map _) zaB ?_
  refine Of ((Wheel.cells a0)) zbL ?_
  refine Olp (.sl .no 1 (a0.Coins.map cI)) zau zaO ?_
  refine zbA (n:=a0.Coins.length) (by decide) rfl (List.length_map _) zaB ?_
  refine ztr (v:=.i (max (a0.Notches.length:Int) (a0.Coins.length:Int))) (by decide) rfl ?_
  refine Oi (.b (decide ((max (a0.Notches.length:Int) (a0.Coins.length:Int))>40))) ?_
  refine Om (.b (decide ((max (a0.Notches.length:Int) (a0.Coins.length:Int))>40))) ?_
  rcases bft (decide ((max (a0.Notches.length:Int) (a0.Coins.length:Int))>40)) with hb30 | hb30
  ·replace hM:=ifT hM hb30
   refine On (want:=false) hb30 ?_
   refine On (want:=false) hb30 ?_
   refine On (want:=false) hb30 ?_
   refine Pt (.b true) hb30 ?_
   refine Om (.b true) ?_
   refine Og ?_
   refine Og ?_
   refine Og ?_
   refine Og ?_
   refine zcW (v:=.b true) (e:=true) (by decide) rfl rfl rfl ?_
   refine Ni ?_
   exact zal true (.k (.k (.k .nil))) ⟨(hS.keep [] rfl).up (by omega),hM⟩
  ·replace hM:=ifF hM hb30
   refine Oy (want:=false) hb30 ?_
   refine Olg (.agg (Wheel.cells a0)) zbk ?_
   refine Oy (want:=false) hb30 ?_
   obtain ⟨r31,hr31,hM⟩:=zai hM
   refine zaE (bs:=[.agg (Wheel.cells a0)]) (by decide) rfl rfl ((zi9 hr31).le (.k .nil)) ?_
   refine Oy (want:=false) hb30 ?_
   refine Oi (.b (r31 != 0)) ?_
   refine Pf (.b (r31 != 0)) hb30 ?_
   refine Om (.b (r31 != 0)) ?_
   rcases bft (r31 != 0) with hb32 | hb32
   ·replace hM:=ifT hM hb32
    refine On (want:=false) hb32 ?_
    refine On (want:=false) hb32 ?_
    refine On (want:=false) hb32 ?_
    refine On (want:=false) hb32 ?_
    refine Pt (.b true) hb32 ?_
    refine Ni ?_
    exact zal true (.k (.k (.k .nil))) ⟨(hS.keep [] rfl).up (by omega),hM⟩
   ·replace hM:=ifF hM hb32
    refine Oy (want:=false) hb32 ?_
    refine Olg (.agg (Wheel.cells a0)) zbk ?_
    refine Oy (want:=false) hb32 ?_
    refine Om (.sl .no 1 (a1.map cI)) ?_
    refine Oy (want:=false) hb32 ?_
    obtain ⟨r33,hr33,hM⟩:=zai hM
    refine zaE (bs:=[.agg (Wheel.cells a0),.sl .no 1 (a1.map cI)]) (by decide) rfl rfl ((zmJ hr33).le (.k (.k .nil))) ?_
    refine Oy (want:=false) hb32 ?_
    refine zd4 (e:=r33) (by decide) rfl ?_
    refine Pf (.b (!r33)) hb32 ?_
    refine Ni ?_
    exact zal (!r33) (.k (.k (.k .nil))) ⟨(hS.keep [] rfl).up (by omega),hM⟩
end Go.Proofs.Ytenogpmlhpcibaa
