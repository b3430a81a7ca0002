/-
  The code returns what the functions say (printed by gen.py).
  Conditions: none.
-/
import Derived.Test.YtebfppngmmdfkaaGreatWkTopDialed2
import Derived.Test.YtebfppngmmdfkaaGreatAmPg
import Derived.Test.YtebfppngmmdfkaaGreatSh
set_option linter.all false
namespace Go.Proofs.YtebfppngmmdfkaaGreat
open Go Go.AM Go.Law
set_option linter.unusedVariables false
set_option maxRecDepth 4000
set_option maxHeartbeats 4000000
theorem zhG {p1 w1 p2 p3:Nat} (hnd:[p1,w1,p2,p3].Nodup) {n:Nat} {a0:Int} {a1:Int} {a4:Pulse} {st:(List Int)×Int} {r:Unit×((List Int)×Int)} (hM:zeo n a0 a1 a4 st=some r):zhv Tryz.prog 51 [.i a0,.i a1,.ptr p1 0,.ptr p2 0,.ptr p3 0] [(p1,.cells [.sl (.id w1) 1 (st.1.map cI)]),(w1,.row 3 st.1.length),(p2,.cells [.i st.2]),(p3,.cells (Pulse.cells a4))] (.tup []) [(p1,.cells [.sl (.id w1) 1 (r.2.1.map cI)]),(w1,.row 3 r.2.1.length),(p2,.cells [.i r.2.2]),(p3,.cells (Pulse.cells a4))]:=by
 refine zbg mixed Tryz.func51 rfl (by decide) Tryz.ntmps51 (by simp) (zb6 (zpd (zb6 (zb6 zd8)))) hnd ?pure ?cells fun H0 g hf_ hp=>?_
 case pure=>exact fun H _=>(show Go.AM.Pure _ from .tup _ zaC).inH
 case cells=>exact (zgI (zcp (zax (.inl (.inr ⟨_,_,_,_,_,rfl,(List.mem_of_getElem? (i:=1) rfl),zau (fun x=>(zaa (.v _) zaC))⟩)) zeO) (zq9 (zcp (zax (.inl (.inl (.v _))) zeO) (zcp (zax (.inl (.inl (.v _))) (zax (.inl (.inl (.v _))) (zax (.inl (.inl (.v _))) (zax (.inl (.inl (.v _))) (zax (.inl (.inl (.v _))) (zax (.inl (.inl (.v _))) (zax (.inl (.inl (.v _))) (zax (.inl (.inl (.sl _ _ (zau (fun x=>(zaa (.v _) zaC)))))) zeO)))))))) zgH)))) zd3)
 rw [zag]
 change wpA _ _ _ _ (Fr.of [(0,.i a0),(1,.i a1),(2,.ptr p1 0),(3,.ptr p2 0),(4,.ptr p3 0)]) H0 g
 have hS:=St.startH (L:=[(p1,.cells [.sl (.id w1) 1 (st.1.map cI)]),(w1,.row 3 st.1.length),(p2,.cells [.i st.2]),(p3,.cells (Pulse.cells a4))]) hf_ hnd hp
 replace hS:St (fun i=>i<g/\i∉ids [(p1,.cells [.sl (.id w1) 1 (st.1.map cI)]),(w1,.row 3 st.1.length),(p2,.cells [.i st.2]),(p3,.cells (Pulse.cells a4))]) H0 [(p1,.cells [.sl (.id w1) 1 (st.1.map cI)]),(w1,.row 3 st.1.length),(p2,.cells [.i st.2]),(p3,.cells (Pulse.cells a4))] H0 g:=hS
 refine Sq ?_
 refine Rg 2 ?_
 refine Om (.i a1) ?_
 refine Om (.i 0) ?_
 refine Ni ?_
 refine Ws ?_
 refine zap ?_
 refine zbI (V:=Int×Int×(List Int)×Int) (fun v=>[(0,.i v.1),(2,.ptr p1 0),(3,.ptr p2 0),(4,.ptr p3 0),(7,.i a1),(8,.i v.2.1)]) (fun v m2 H' g'=>St (fun i=>i<g/\i∉ids [(p1,.cells [.sl (.id w1) 1 (st.1.map cI)]),(w1,.row 3 st.1.length),(p2,.cells [.i st.2]),(p3,.cells (Pulse.cells a4))]) H0 [(p1,.cells [.sl (.id w1) 1 (v.2.2.1.map cI)]),(w1,.row 3 v.2.2.1.length),(p2,.cells [.i v.2.2.2]),(p3,.cells (Pulse.cells a4))] H' g'/\zbb a1 a4 m2 v.1 v.2.1 v.2.2.1 v.2.2.2=some r) (n:=n) (a0,0,st.1,st.2) (.k (.k (.k (.k (.k (.k .nil)))))) ⟨(hS.keep [true,true,true,true] rfl).up (by omega),hM⟩ ?_
 rintro ⟨v3,v4,v5,v6⟩ m2 H g2 ⟨hS,hM⟩
 obtain _ | m2:=m2
 ·exact nomatch (show none=some _ from hM)
 change wpA _ _ _ _ (Fr.of [(0,.i v3),(2,.ptr p1 0),(3,.ptr p2 0),(4,.ptr p3 0),(7,.i a1),(8,.i v4)]) _ _
 replace hS:St (fun i=>i<g/\i∉ids [(p1,.cells [.sl (.id w1) 1 (st.1.map cI)]),(w1,.row 3 st.1.length),(p2,.cells [.i st.2]),(p3,.cells (Pulse.cells a4))]) H0 [(p1,.cells [.sl (.id w1) 1 (v5.map cI)]),(w1,.row 3 v5.length),(p2,.cells [.i v6]),(p3,.cells (Pulse.cells a4))] H g2:=hS
 replace hM:zdw a1 a4 (zbb a1 a4 m2) v3 v4 v5 v6=some r:=hM
 refine Sq ?_
 refine Rg 1 ?_
 refine Oi (.b (decide (v4<a1))) ?_
 refine Ni ?_
 refine Ws ?_
 refine Sq ?_
 rcases bft (decide (v4<a1)) with hb7 | hb7
 ·replace hM:=ifT hM hb7
  refine Ct hb7 ?_
  refine zas ?_
  refine Ws ?_
  refine Sq ?_
  refine zap ?_
  refine zaF (J:=Int) (fun j=>[(2,.ptr p1 0),(3,.ptr p2 0),(4,.ptr p3 0),(7,.i a1),(8,.i v4)]) (fun j H' g'=>St (fun i=>i<g/\i∉ids [(p1,.cells [.sl (.id w1) 1 (st.1.map cI)]),(w1,.row 3 st.1.length),(p2,.cells [.i st.2]),(p3,.cells (Pulse.cells a4))]) H0 [(p1,.cells [.sl (.id w1) 1 (v5.map cI)]),(w1,.row 3 v5.length),(p2,.cells [.i j]),(p3,.cells (Pulse.cells a4))] H' g'/\zdg (zbb a1 a4 m2) a4 v4 v5 j=some r) ?_ ?_
  ·rintro v8 H g3 ⟨hS,hM⟩
   change wpA _ _ _ _ (Fr.of [(2,.ptr p1 0),(3,.ptr p2 0),(4,.ptr p3 0),(7,.i a1),(8,.i v4)]) _ _
   replace hS:St (fun i=>i<g/\i∉ids [(p1,.cells [.sl (.id w1) 1 (st.1.map cI)]),(w1,.row 3 st.1.length),(p2,.cells [.i st.2]),(p3,.cells (Pulse.cells a4))]) H0 [(p1,.cells [.sl (.id w1) 1 (v5.map cI)]),(w1,.row 3 v5.length),(p2,.cells [.i v8]),(p3,.cells (Pulse.cells a4))] H g3:=hS
   replace hM:zdg (zbb a1 a4 m2) a4 v4 v5 v8=some r:=hM
   have hS0:=hS
   refine zor (n:=8) [(2,20)] rfl (by kernel_rfl) (by kernel_rfl) ?_
   refine zaW (v:=.sl (.id w1) 1 (v5.map cI)) 0 hS (by decide) rfl rfl (.st hS0 0 rfl (by omega)) (po zbr zcc) ?_
   refine zaW (v:=.i v8) 2 hS (by decide) rfl rfl (.st hS0 2 rfl (by omega)) (po zac zah) ?_
   refine zaX (es:=[[.i v8]]) hS (by decide) zbi zes rfl zet rfl (by decide) (by omega) fun H hS=>?_
   obtain ⟨l9,hl9,hM⟩:=zal hM
   refine zdd (xs:=v5) (ys:=([v8]:List Int)) (zs:=l9) (f:=cI) (L':=[(g3+2,.row 3 1),(p1,.cells [.sl (.id w1) 1 (v5.map cI)]),(w1,.row 3 l9.length),(p2,.cells [.i v8]),(p3,.cells (Pulse.cells a4))]) 2 hS (by decide) rfl rfl rfl rfl (.st hS0 1 rfl (by omega)) zbi zes zet hl9 rfl fun H hS=>?_
   refine zaJ (by decide) zfw rfl ?_
   refine zaW (v:=.i a4.Pitch) 4 hS (by decide) rfl rfl (.st hS0 3 rfl (by omega)) (po zac zah) ?_
   refine zaK (v:=.sl (.id w1) 1 (l9.map cI)) (ns:=[.sl (.id w1) 1 (l9.map cI)]) (L':=[(g3+2,.row 3 1),(p1,.cells [.sl (.id w1) 1 (l9.map cI)]),(w1,.row 3 l9.length),(p2,.cells [.i v8]),(p3,.cells (Pulse.cells a4))]) 1 hS rfl rfl (.st hS0 0 rfl (by omega)) rfl rfl zfX nlb rfl fun H hS=>?_
   refine Oa (.i a4.Pitch) ?_
   refine Ni ?_
   refine ⟨(zkz (hS.ne (n:=1) (m:=4) rfl rfl (by decide)) zoz),?_⟩
   refine zae ?_
   replace hS:=hS.keep (L':=[(p1,.cells [.sl (.id w1) 1 (l9.map cI)]),(w1,.row 3 l9.length),(p2,.cells [.i v8]),(p3,.cells (Pulse.cells a4))]) [false,true,true,true,true] rfl
   refine Ws ?_
   refine Rg 2 ?_
   refine Oi (.i (w64 (v4+1))) ?_
   refine Om (.i (w64 (v4+1))) ?_
   refine Ni ?_
   exact za4 (a4.Pitch,w64 (v4+1),l9,v8) (Nat.lt_succ_self _) (.k (.k (.k (.k (.k (.k .nil)))))) ⟨(hS.keep [true,true,true,true] rfl).up (by omega),hM⟩
  ·refine Sq ?_
   refine Rg 3 ?_
   refine zaW (v:=.sl (.id w1) 1 (v5.map cI)) 0 hS (by decide) rfl rfl .no (po zbr zcc) ?_
   refine zco (n:=v5.length) (by decide) rfl (List.length_map _) zbc ?_
   refine Oi (.b (decide ((v5.length:Int)>0))) ?_
   refine Ni ?_
   refine Ws ?_
   rcases bft (decide ((v5.length:Int)>0)) with hb10 | hb10
   ·replace hM:=ifT hM hb10
    refine Ct hb10 ?_
    refine Rg 4 ?_
    refine zaW (v:=.i v6) 2 hS (by decide) rfl rfl .no (po zac zah) ?_
    refine Om (.i v3) ?_
    refine Oi (.i (w64 (v6+v3))) ?_
    refine zaK (v:=.i (w64 (v6+v3))) (ns:=[.i (w64 (v6+v3))]) (L':=[(p1,.cells [.sl (.id w1) 1 (v5.map cI)]),(w1,.row 3 v5.length),(p2,.cells [.i (w64 (v6+v3))]),(p3,.cells (Pulse.cells a4))]) 2 hS rfl rfl .no rfl rfl zfs nlb rfl fun H hS=>?_
    refine Ni ?_
    exact zai (w64 (v6+v3)) (.k (.k (.k (.k (.k .nil))))) ⟨(hS.keep [true,true,true,true] rfl).up (by omega),hM⟩
   ·replace hM:=ifF hM hb10
    refine Cf hb10 ?_
    refine zas ?_
    exact zai v6 (.k (.k (.k (.k (.k .nil))))) ⟨(hS.keep [true,true,true,true] rfl).up (by omega),hM⟩
 ·replace hM:=ifF hM hb7
  refine Cf hb7 ?_
  refine zbw ?_
  refine zar ?_
  refine zao ?_
  refine zaw ?_
  refine zcD (x:=.tup []) (f:=fun r=>.tup []) (fd:=fun r=>[(p1,.cells [.sl (.id w1) 1 (r.2.1.map cI)]),(w1,.row 3 r.2.1.length),(p2,.cells [.i r.2.2]),(p3,.cells (Pulse.cells a4))]) (.inl rfl) ?_ (.refl _) (Option.some.inj hM) hS 0 rfl
  exact rfl
theorem zlG {n:Nat} {a0:Pulse} {a1:List Int} {a2:Int} {r:(List Int)×Int} (hM:zhf n a0 a1 a2=some r):zav Tryz.prog 22 [.agg (Pulse.cells a0),.sl .no 1 (a1.map cI),.i a2] (.tup [.sl .no 1 (r.1.map cI),.i r.2]):=by
 refine zan mixed Tryz.func22 rfl (by decide) Tryz.ntmps22 (by simp) ?pure fun H0 g hf=>?_
 case pure=>exact .tup _ (zaa (.sl _ _ (zau (fun x=>(zaa (.v _) zaC)))) (zaa (.v _) zaC))
 rw [zag]
 change wpA _ _ _ _ (Fr.of [(0,.agg (Pulse.cells a0)),(1,.sl .no 1 (a1.map cI)),(2,.i a2)]) H0 g
 have hS:=St.start hf
 refine Sq ?_
 refine Rg 4 ?_
 refine zbP (v:=.agg (Pulse.cells a0)) (cs:=(Pulse.cells a0)) hS (by decide) rfl rfl (by omega) fun H hS=>?_
 refine zbP (v:=.i a2) (cs:=[.i a2]) hS (by decide) rfl rfl (by omega) fun H hS=>?_
 refine Oa (.sl .nil 0 []) ?_
 refine Oa (.i 0) ?_
 refine Ni ?_
 refine Ws ?_
 refine Sq ?_
 refine Sq ?_
 refine Rg 3 ?_
 refine zaW (v:=.agg (Pulse.cells a0)) 1 hS (by decide) rfl rfl .no (pg zbM) ?_
 obtain ⟨r1,hr1,hM⟩:=zal hM
 refine zat (bs:=[.agg (Pulse.cells a0)]) (by decide) rfl rfl ((ziU hr1).le (.k .nil)) ?_
 refine Oa (.i r1) ?_
 refine Ni ?_
 refine Ws ?_
 refine Sq ?_
 refine Rg 2 ?_
 refine Om (.i r1) ?_
 refine Oi (.b (r1 != 0)) ?_
 refine Ni ?_
 refine Ws ?_
 rcases bft (r1 != 0) with hb2 | hb2
 ·replace hM:=ifT hM hb2
  refine Ct hb2 ?_
  refine Sq ?_
  refine Rg 3 ?_
  refine Om (.i r1) ?_
  refine Oa (.sl .nil 0 []) ?_
  refine Oa (.i r1) ?_
  refine Ni ?_
  replace hS:=hS.keep (L':=[]) [false,false] rfl
  refine Ws ?_
  refine zaB ?_
  refine zak ?_
  refine zaO (x:=.tup [.sl .nil 0 [],.i r1]) (f:=fun r=>.tup [.sl .no 1 (r.1.map cI),.i r.2]) (.inr rfl) ?_ (.tupL (.cons (.sl0 .nil 1 0) (.k .nil))) (Option.some.inj hM) hS
  exact (zbn (zad (x:=.sl .nil 0 []) rfl) (zad (x:=.i r1) rfl))
 ·replace hM:=ifF hM hb2
  refine Cf hb2 ?_
  refine zas ?_
  refine Ws ?_
  refine Sq ?_
  refine Rg 4 ?_
  refine zaW (v:=.agg (Pulse.cells a0)) 1 hS (by decide) rfl rfl .no (pg zbM) ?_
  refine zcm (cs:=(Pulse.cells a0)) (by decide) zio zoK rfl ?_
  refine zcj hS (by decide) zio (by omega) fun H hS=>?_
  refine zaK (v:=.agg (Pulse.cells a0)) (ns:=(Pulse.cells a0)) (L':=[(g+4+3+2+2,.cells (Pulse.cells a0)),(g+1,.cells [.i a2]),(g+0,.cells (Pulse.cells a0))]) 0 hS rfl rfl .no rfl rfl zpr nlb rfl fun H hS=>?_
  refine Ni ?_
  refine Ws ?_
  refine Sq ?_
  refine zaF (J:=Bool) (fun j=>[(1,.sl .no 1 (a1.map cI)),(3,.ptr (g+0) 0),(5,.ptr (g+1) 0),(33,.b j)]) (fun j H' g'=>St (·<g) H0 [(g+1,.cells [.i a2]),(g+0,.cells (Pulse.cells a0))] H' g'/\zdF n a0 a1 a2 j=some r) ?_ ?_
  ·rintro v3 H g1 ⟨hS,hM⟩
   change wpA _ _ _ _ (Fr.of [(1,.sl .no 1 (a1.map cI)),(3,.ptr (g+0) 0),(5,.ptr (g+1) 0),(33,.b v3)]) _ _
   replace hS:St (·<g) H0 [(g+1,.cells [.i a2]),(g+0,.cells (Pulse.cells a0))] H g1:=hS
   replace hM:zdF n a0 a1 a2 v3=some r:=hM
   rcases bft v3 with hb4 | hb4
   ·replace hM:=ifT hM hb4
    refine Ct hb4 ?_
    refine Sq ?_
    refine Rg 2 ?_
    refine Oa (.sl .nil 0 []) ?_
    refine Oa (.i 1) ?_
    refine Ni ?_
    replace hS:=hS.keep (L':=[]) [false,false] rfl
    refine Ws ?_
    refine zaB ?_
    refine zak ?_
    refine zaO (x:=.tup [.sl .nil 0 [],.i 1]) (f:=fun r=>.tup [.sl .no 1 (r.1.map cI),.i r.2]) (.inr rfl) ?_ (.tupL (.cons (.sl0 .nil 1 0) (.k .nil))) (Option.some.inj hM) hS
    exact (zbn (zad (x:=.sl .nil 0 []) rfl) (zad (x:=.i 1) rfl))
   ·replace hM:=ifF hM hb4
    refine Cf hb4 ?_
    refine zas ?_
    refine Ws ?_
    refine Sq ?_
    refine Rg 1 ?_
    refine zcj hS (by decide) zny (by omega) fun H hS=>?_
    refine Ni ?_
    refine zk5 (cs':=[.sl (.id (g1+1)) 1 (([]:List Int).map cI)]) (L':=[(g1+0,.cells [.sl (.id (g1+1)) 1 (([]:List Int).map cI)]),(g+1,.cells [.i a2]),(g+0,.cells (Pulse.cells a0))]) 0 0 1 3 hS (by omega) (by decide) rfl rfl rfl rfl fun H hS=>?_
    refine Ws ?_
    refine Sq ?_
    refine Rg 2 ?_
    refine zce (first:=[]) (cap:=[.ptr (g1+0) 0,.ptr (g+1) 0,.ptr (g+0) 0]) (by decide) rfl rfl ?_
    refine Oa (.fn (.func 51) [] [.ptr (g1+0) 0,.ptr (g+1) 0,.ptr (g+0) 0]) ?_
    refine Ni ?_
    refine Ws ?_
    refine zaF (J:=(List Int)×Int) (fun j=>[(5,.ptr (g+1) 0),(10,.ptr (g1+0) 0)]) (fun j H' g'=>St (·<g) H0 [(g1+1,.row 3 j.1.length),(g1+0,.cells [.sl (.id (g1+1)) 1 (j.1.map cI)]),(g+1,.cells [.i j.2])] H' g'/\zeq j.1 j.2=some r) ?_ ?_
    ·rintro ⟨v5,v6⟩ H g2 ⟨hS,hM⟩
     change wpA _ _ _ _ (Fr.of [(5,.ptr (g+1) 0),(10,.ptr (g1+0) 0)]) _ _
     replace hS:St (·<g) H0 [(g1+1,.row 3 v5.length),(g1+0,.cells [.sl (.id (g1+1)) 1 (v5.map cI)]),(g+1,.cells [.i v6])] H g2:=hS
     replace hM:zeq v5 v6=some r:=hM
     refine Sq ?_
     refine zaF (J:=Bool) (fun j=>[(10,.ptr (g1+0) 0),(67,.b j)]) (fun j H' g'=>St (·<g) H0 [(g1+1,.row 3 v5.length),(g1+0,.cells [.sl (.id (g1+1)) 1 (v5.map cI)])] H' g'/\zep v5 j=some r) ?_ ?_
     ·rintro v7 H g3 ⟨hS,hM⟩
      change wpA _ _ _ _ (Fr.of [(10,.ptr (g1+0) 0),(67,.b v7)]) _ _
      replace hS:St (·<g) H0 [(g1+1,.row 3 v5.length),(g1+0,.cells [.sl (.id (g1+1)) 1 (v5.map cI)])] H g3:=hS
      replace hM:zep v5 v7=some r:=hM
      rcases bft v7 with hb8 | hb8
      ·replace hM:=ifT hM hb8
       refine Ct hb8 ?_
       refine Sq ?_
       refine Rg 2 ?_
       refine Oa (.sl .nil 0 []) ?_
       refine Oa (.i 131) ?_
       refine Ni ?_
       replace hS:=hS.keep (L':=[]) [false,false] rfl
       refine Ws ?_
       refine zaB ?_
       refine zak ?_
       refine zaO (x:=.tup [.sl .nil 0 [],.i 131]) (f:=fun r=>.tup [.sl .no 1 (r.1.map cI),.i r.2]) (.inr rfl) ?_ (.tupL (.cons (.sl0 .nil 1 0) (.k .nil))) (Option.some.inj hM) hS
       exact (zbn (zad (x:=.sl .nil 0 []) rfl) (zad (x:=.i 131) rfl))
      ·replace hM:=ifF hM hb8
       refine Cf hb8 ?_
       refine zas ?_
       refine Ws ?_
       refine Sq ?_
       refine Rg 3 ?_
       refine zaW (v:=.sl (.id (g1+1)) 1 (v5.map cI)) 1 hS (by decide) rfl rfl .no (po zbr zcc) ?_
       refine Oa (.sl (.id (g1+1)) 1 (v5.map cI)) ?_
       refine Oa (.i 0) ?_
       refine Ni ?_
       replace hS:=hS.keep (L':=[(g1+1,.row 3 v5.length)]) [true,false] rfl
       refine Ws ?_
       refine zaB ?_
       refine zaO (x:=.tup [.sl (.id (g1+1)) 1 (v5.map cI),.i 0]) (f:=fun r=>.tup [.sl .no 1 (r.1.map cI),.i r.2]) (.inr rfl) ?_ (.tupL (.cons (.sl _ _ _) (.k .nil))) (Option.some.inj hM) hS
       exact (zbn (zad (x:=.sl (.id (g1+1)) 1 (v5.map cI)) rfl) (zad (x:=.i 0) rfl))
     ·refine Rg 8 ?_
      refine zaW (v:=.sl (.id (g1+1)) 1 (v5.map cI)) 1 hS (by decide) rfl rfl .no (po zbr zcc) ?_
      refine zco (n:=v5.length) (by decide) rfl (List.length_map _) zbc ?_
      refine Oi (.b (decide ((v5.length:Int)>24))) ?_
      refine Om (.b (decide ((v5.length:Int)>24))) ?_
      rcases bft (decide ((v5.length:Int)>24)) with hb9 | hb9
      ·replace hM:=ifT hM hb9
       refine On (want:=false) hb9 ?_
       refine On (want:=false) hb9 ?_
       refine On (want:=false) hb9 ?_
       refine Pt (.b true) hb9 ?_
       refine Ni ?_
       exact zai true (.k (.k .nil)) ⟨(hS.keep [true,true,false] rfl).up (by omega),hM⟩
      ·replace hM:=ifF hM hb9
       refine Oy (want:=false) hb9 ?_
       refine zaW (v:=.i v6) 2 hS (by decide) rfl rfl .no (po zac zah) ?_
       refine Oy (want:=false) hb9 ?_
       obtain ⟨r10,hr10,hM⟩:=zal hM
       refine zat (bs:=[.i v6]) (by decide) rfl rfl ((ziv hr10).le (.k .nil)) ?_
       refine Oy (want:=false) hb9 ?_
       refine zdc (e:=r10) (by decide) rfl ?_
       refine Pf (.b (!r10)) hb9 ?_
       refine Ni ?_
       exact zai (!r10) (.k (.k .nil)) ⟨(hS.keep [true,true,false] rfl).up (by omega),hM⟩
    ·refine Sq ?_
     refine Rg 3 ?_
     refine Om (.sl .no 1 (a1.map cI)) ?_
     refine zco (n:=a1.length) (by decide) rfl (List.length_map _) zbc ?_
     refine Om (.i 0) ?_
     refine Ni ?_
     refine Ws ?_
     refine zap ?_
     refine zbI (V:=Int×(List Int)×Int) (fun v=>[(3,.ptr (g+0) 0),(5,.ptr (g+1) 0),(10,.ptr (g1+0) 0),(11,.fn (.func 51) [] [.ptr (g1+0) 0,.ptr (g+1) 0,.ptr (g+0) 0]),(35,.sl .no 1 (a1.map cI)),(36,.i (a1.length:Int)),(37,.i v.1)]) (fun v m5 H' g'=>St (·<g) H0 [(g1+1,.row 3 v.2.1.length),(g1+0,.cells [.sl (.id (g1+1)) 1 (v.2.1.map cI)]),(g+1,.cells [.i v.2.2]),(g+0,.cells (Pulse.cells a0))] H' g'/\zcy n a0 a1 m5 v.1 v.2.1 v.2.2=some r) (n:=n) (0,([]:List Int),a2) (.k (.k (.k (.k (.k (.k (.k .nil))))))) ⟨(hS.keep [true,true,true,true] rfl).up (by omega),hM⟩ ?_
     rintro ⟨v12,v13,v14⟩ m5 H g5 ⟨hS,hM⟩
     obtain _ | m5:=m5
     ·exact nomatch (show none=some _ from hM)
     change wpA _ _ _ _ (Fr.of [(3,.ptr (g+0) 0),(5,.ptr (g+1) 0),(10,.ptr (g1+0) 0),(11,.fn (.func 51) [] [.ptr (g1+0) 0,.ptr (g+1) 0,.ptr (g+0) 0]),(35,.sl .no 1 (a1.map cI)),(36,.i (a1.length:Int)),(37,.i v12)]) _ _
     replace hS:St (·<g) H0 [(g1+1,.row 3 v13.length),(g1+0,.cells [.sl (.id (g1+1)) 1 (v13.map cI)]),(g+1,.cells [.i v14]),(g+0,.cells (Pulse.cells a0))] H g5:=hS
     replace hM:zeH n a0 a1 (zcy n a0 a1 m5) v12 v13 v14=some r:=hM
     refine Sq ?_
     refine Rg 1 ?_
     refine Oi (.b (decide (v12<(a1.length:Int)))) ?_
     refine Ni ?_
     refine Ws ?_
     refine Sq ?_
     rcases bft (decide (v12<(a1.length:Int))) with hb15 | hb15
     ·replace hM:=ifT hM hb15
      refine Ct hb15 ?_
      refine zas ?_
      refine Ws ?_
      refine Sq ?_
      refine zap ?_
      refine Sq ?_
      refine Rg 3 ?_
      obtain ⟨x16,hx16,hM⟩:=zal hM
      refine zbj (xs:=a1) (f:=cI) (z:=v12) (u:=x16) (by decide) rfl rfl zbi hx16 ?_
      refine Olp (.i x16) zac zah ?_
      refine Oa (.i x16) ?_
      refine Ni ?_
      refine Ws ?_
      refine Sq ?_
      have hS0:=hS
      refine zdy (n:=9) rfl (by kernel_rfl) ?_
      refine Om (.fn (.func 51) [] [.ptr (g1+0) 0,.ptr (g+1) 0,.ptr (g+0) 0]) ?_
      refine zaJ (by decide) zhF rfl ?_
      refine zaW (v:=.i a0.Pause) 3 hS (by decide) rfl rfl (.st hS0 3 rfl (by omega)) (po zac zah) ?_
      refine Om (.i x16) ?_
      refine zaJ (by decide) zdo rfl ?_
      refine zaW (v:=.i a0.Numbers) 3 hS (by decide) rfl rfl (.st hS0 3 rfl (by omega)) (po zac zah) ?_
      obtain ⟨q17,hq17,hM⟩:=zal hM
      refine zou (by decide) rfl rfl (zov hq17) ?_
      refine Oi (.i (w64 (q17+1))) ?_
      obtain ⟨r18,hr18,hM⟩:=zal hM
      have hndr18:=hS.nd_at (ns:=[1,0,2,3]) (M:=[(g1+0,.cells [.sl (.id (g1+1)) 1 (v13.map cI)]),(g1+1,.row 3 v13.length),(g+1,.cells [.i v14]),(g+0,.cells (Pulse.cells a0))]) (M':=[(g1+0,.cells [.sl (.id (g1+1)) 1 (r18.2.1.map cI)]),(g1+1,.row 3 r18.2.1.length),(g+1,.cells [.i r18.2.2]),(g+0,.cells (Pulse.cells a0))]) (.cons rfl (.cons rfl (.cons rfl (.cons rfl .nil)))) (by decide)
      refine zkf (bs:=[.i a0.Pause,.i (w64 (q17+1)),.ptr (g1+0) 0,.ptr (g+1) 0,.ptr (g+0) 0]) (M:=[(g1+0,.cells [.sl (.id (g1+1)) 1 (v13.map cI)]),(g1+1,.row 3 v13.length),(g+1,.cells [.i v14]),(g+0,.cells (Pulse.cells a0))]) (M':=[(g1+0,.cells [.sl (.id (g1+1)) 1 (r18.2.1.map cI)]),(g1+1,.row 3 r18.2.1.length),(g+1,.cells [.i r18.2.2]),(g+0,.cells (Pulse.cells a0))]) (L':=[(g1+1,.row 3 r18.2.1.length),(g1+0,.cells [.sl (.id (g1+1)) 1 (r18.2.1.map cI)]),(g+1,.cells [.i r18.2.2]),(g+0,.cells (Pulse.cells a0))]) [1,0,2,3] (.inr (by kernel_rfl)) hS (by decide) rfl rfl ((zhG (p1:=g1+0) (w1:=g1+1) (p2:=g+1) (p3:=g+0) hndr18 hr18).le (.k (.k (.k (.k (.k .nil)))))) (.cons rfl (.cons rfl (.cons rfl (.cons rfl .nil)))) rfl (by omega) fun H hS=>?_
      refine Ni ?_
      refine Ws ?_
      have hS0:=hS
      refine zdy (n:=9) rfl (by kernel_rfl) ?_
      refine Om (.fn (.func 51) [] [.ptr (g1+0) 0,.ptr (g+1) 0,.ptr (g+0) 0]) ?_
      refine zaJ (by decide) zjt rfl ?_
      refine zaW (v:=.i a0.Gap) 3 hS (by decide) rfl rfl (.st hS0 3 rfl (by omega)) (po zac zah) ?_
      refine Om (.i x16) ?_
      refine zaJ (by decide) zdo rfl ?_
      refine zaW (v:=.i a0.Numbers) 3 hS (by decide) rfl rfl (.st hS0 3 rfl (by omega)) (po zac zah) ?_
      obtain ⟨q19,hq19,hM⟩:=zal hM
      refine zou (by decide) rfl rfl (zow hq19) ?_
      refine Oi (.i (w64 (q19+1))) ?_
      obtain ⟨r20,hr20,hM⟩:=zal hM
      have hndr20:=hS.nd_at (ns:=[1,0,2,3]) (M:=[(g1+0,.cells [.sl (.id (g1+1)) 1 (r18.2.1.map cI)]),(g1+1,.row 3 r18.2.1.length),(g+1,.cells [.i r18.2.2]),(g+0,.cells (Pulse.cells a0))]) (M':=[(g1+0,.cells [.sl (.id (g1+1)) 1 (r20.2.1.map cI)]),(g1+1,.row 3 r20.2.1.length),(g+1,.cells [.i r20.2.2]),(g+0,.cells (Pulse.cells a0))]) (.cons rfl (.cons rfl (.cons rfl (.cons rfl .nil)))) (by decide)
      refine zkf (bs:=[.i a0.Gap,.i (w64 (q19+1)),.ptr (g1+0) 0,.ptr (g+1) 0,.ptr (g+0) 0]) (M:=[(g1+0,.cells [.sl (.id (g1+1)) 1 (r18.2.1.map cI)]),(g1+1,.row 3 r18.2.1.length),(g+1,.cells [.i r18.2.2]),(g+0,.cells (Pulse.cells a0))]) (M':=[(g1+0,.cells [.sl (.id (g1+1)) 1 (r20.2.1.map cI)]),(g1+1,.row 3 r20.2.1.length),(g+1,.cells [.i r20.2.2]),(g+0,.cells (Pulse.cells a0))]) (L':=[(g1+1,.row 3 r20.2.1.length),(g1+0,.cells [.sl (.id (g1+1)) 1 (r20.2.1.map cI)]),(g+1,.cells [.i r20.2.2]),(g+0,.cells (Pulse.cells a0))]) [1,0,2,3] (.inr (by kernel_rfl)) hS (by decide) rfl rfl ((zhG (p1:=g1+0) (w1:=g1+1) (p2:=g+1) (p3:=g+0) hndr20 hr20).le (.k (.k (.k (.k (.k .nil)))))) (.cons rfl (.cons rfl (.cons rfl (.cons rfl .nil)))) rfl (by omega) fun H hS=>?_
      refine Ni ?_
      refine zae ?_
      refine Ws ?_
      refine Rg 2 ?_
      refine Oi (.i (w64 (v12+1))) ?_
      refine Om (.i (w64 (v12+1))) ?_
      refine Ni ?_
      exact za4 (w64 (v12+1),r20.2.1,r20.2.2) (Nat.lt_succ_self _) (.k (.k (.k (.k (.k (.k (.k .nil))))))) ⟨(hS.keep [true,true,true,true] rfl).up (by omega),hM⟩
     ·replace hM:=ifF hM hb15
      refine Cf hb15 ?_
      refine zbw ?_
      refine zar ?_
      refine zao ?_
      refine zaw ?_
      exact zai (v13,v14) (.k (.k .nil)) ⟨(hS.keep [true,true,true,false] rfl).up (by omega),hM⟩
  ·refine Rg 13 ?_
   refine Om (.sl .no 1 (a1.map cI)) ?_
   refine zco (n:=a1.length) (by decide) rfl (List.length_map _) zbc ?_
   refine Oi (.b (decide ((a1.length:Int)>24))) ?_
   refine Om (.b (decide ((a1.length:Int)>24))) ?_
   rcases bft (decide ((a1.length:Int)>24)) with hb21 | hb21
   ·replace hM:=ifT hM hb21
    refine On (want:=false) hb21 ?_
    refine On (want:=false) hb21 ?_
    refine On (want:=false) hb21 ?_
    refine Pt (.b true) hb21 ?_
    refine Om (.b true) ?_
    refine Og ?_
    refine Og ?_
    refine Og ?_
    refine zaH (v:=.b true) (e:=true) (by decide) rfl rfl rfl ?_
    refine Ni ?_
    exact zai true (.k (.k (.k (.k .nil)))) ⟨(hS.keep [false,true,true] rfl).up (by omega),hM⟩
   ·replace hM:=ifF hM hb21
    refine Oy (want:=false) hb21 ?_
    refine zaW (v:=.i a2) 1 hS (by decide) rfl rfl .no (po zac zah) ?_
    refine Oy (want:=false) hb21 ?_
    obtain ⟨r22,hr22,hM⟩:=zal hM
    refine zat (bs:=[.i a2]) (by decide) rfl rfl ((ziv hr22).le (.k .nil)) ?_
    refine Oy (want:=false) hb21 ?_
    refine zdc (e:=r22) (by decide) rfl ?_
    refine Pf (.b (!r22)) hb21 ?_
    refine Om (.b (!r22)) ?_
    rcases bft (!r22) with hb23 | hb23
    ·replace hM:=ifT hM hb23
     refine On (want:=false) hb23 ?_
     refine On (want:=false) hb23 ?_
     refine On (want:=false) hb23 ?_
     refine Pt (.b true) hb23 ?_
     refine Ni ?_
     exact zai true (.k (.k (.k (.k .nil)))) ⟨(hS.keep [false,true,true] rfl).up (by omega),hM⟩
    ·replace hM:=ifF hM hb23
     refine Oy (want:=false) hb23 ?_
     refine Om (.sl .no 1 (a1.map cI)) ?_
     refine Oy (want:=false) hb23 ?_
     refine zce (first:=[]) (cap:=[.ptr (g+4+3+2+2) 0]) (by decide) rfl rfl ?_
     refine Oy (want:=false) hb23 ?_
     obtain ⟨r24,hr24,hM⟩:=zal hM
     have hndr24:=hS.nd_at (ns:=[0]) (M:=[(g+4+3+2+2,.cells (Pulse.cells a0))]) (M':=[(g+4+3+2+2,.cells (Pulse.cells a0))]) (.cons rfl .nil) (by decide)
     have hncr24:=hS.nd_at (ns:=[0]) (M:=[(g+4+3+2+2,.cells (Pulse.cells a0))]) (M':=[(g+4+3+2+2,.cells (Pulse.cells a0))]) (.cons rfl .nil) (by decide)
     refine zkf (bs:=[.sl .no 1 (a1.map cI),.fn (.func 49) [] [.ptr (g+4+3+2+2) 0]]) (M:=[(g+4+3+2+2,.cells (Pulse.cells a0))]) (M':=[(g+4+3+2+2,.cells (Pulse.cells a0))]) (L':=[(g+4+3+2+2,.cells (Pulse.cells a0)),(g+1,.cells [.i a2]),(g+0,.cells (Pulse.cells a0))]) [0] (.inl rfl) hS (by decide) rfl rfl ((zhs (Lo:=(fun (_:Unit)=>[(g+4+3+2+2,.cells (Pulse.cells a0))]))  (fun _ _=>(zb6 zd8)) (fun _=>hndr24) (fun s=>(zgI (zcp (zax (.inl (.inl (.v _))) (zax (.inl (.inl (.v _))) (zax (.inl (.inl (.v _))) (zax (.inl (.inl (.v _))) (zax (.inl (.inl (.v _))) (zax (.inl (.inl (.v _))) (zax (.inl (.inl (.v _))) (zax (.inl (.inl (.sl _ _ (zau (fun x=>(zaa (.v _) zaC)))))) zeO)))))))) zgH) zd3)) (aF:=(fun (x0:Int) (_:Unit)=>(zen x0 (⟨a0⟩:Train_)).map fun y=>(y,()))) (fun s H hH=>(.fn _ _ _ zbV (zaM (zjm hH 0 rfl) zbV))) rfl (fun h=>zlb (zj5 (p1:=g+4+3+2+2)  hncr24 (zfa h))) hr24).le (.k (.k .nil))) (.cons rfl .nil) rfl (by omega) fun H hS=>?_
     refine Pf (.b r24.1) hb23 ?_
     refine Ni ?_
     exact zai r24.1 (.k (.k (.k (.k .nil)))) ⟨(hS.keep [false,true,true] rfl).up (by omega),hM⟩
theorem zqk {n:Nat} {a0:Pulse} {a1:List Int} {r:Pulse×Int} (hM:zkC n a0 a1=some r):zav Tryz.prog 8 [.agg (Pulse.cells a0),.sl .no 1 (a1.map cI)] (.tup [.agg [.i r.1.Letters,.i r.1.Numbers,.i r.1.Pitch,.i r.1.Slack,.i r.1.Gap,.i r.1.Pause,.i r.1.Sparks,.sl .no 1 (r.1.Times.map cI)],.i r.2]):=by
 refine zan mixed Tryz.func8 rfl (by decide) Tryz.ntmps8 (by simp) ?pure fun H0 g hf=>?_
 case pure=>exact .tup _ (zaa (.agg _ (zaa (.v _) (zaa (.v _) (zaa (.v _) (zaa (.v _) (zaa (.v _) (zaa (.v _) (zaa (.v _) (zaa (.sl _ _ (zau (fun x=>(zaa (.v _) zaC)))) zaC))))))))) (zaa (.v _) zaC))
 rw [zag]
 change wpA _ _ _ _ (Fr.of [(0,.agg (Pulse.cells a0)),(1,.sl .no 1 (a1.map cI))]) H0 g
 have hS:=St.start hf
 refine Sq ?_
 refine Rg 3 ?_
 refine zbP (v:=.agg (Pulse.cells a0)) (cs:=(Pulse.cells a0)) hS (by decide) rfl rfl (by omega) fun H hS=>?_
 refine zcj hS (by decide) zhD (by omega) fun H hS=>?_
 refine Oa (.i 0) ?_
 refine Ni ?_
 refine zaT (L':=[(g+1,.cells [.i 0,.i 0,.i 0,.i 0,.i 0,.i 0,.i 0,.sl .nil 0 []])]) 1 2 hS rfl rfl rfl fun H hS=>?_
 refine Ws ?_
 refine Sq ?_
 refine Rg 4 ?_
 refine Olg (.agg (Pulse.cells a0)) zbM ?_
 obtain ⟨r1,hr1,hM⟩:=zal hM
 refine zat (bs:=[.agg (Pulse.cells a0)]) (by decide) rfl rfl ((znG hr1).le (.k .nil)) ?_
 refine zcj hS (by decide) zhD (by omega) fun H hS=>?_
 refine zaK (v:=.agg (Pulse.cells r1)) (ns:=(Pulse.cells r1)) (L':=[(g+3+2,.cells (Pulse.cells r1)),(g+1,.cells [.i 0,.i 0,.i 0,.i 0,.i 0,.i 0,.i 0,.sl .nil 0 []])]) 0 hS rfl rfl .no rfl rfl zhi nlb rfl fun H hS=>?_
 refine Ni ?_
 refine Ws ?_
 refine Sq ?_
 refine Rg 4 ?_
 refine zaJ (by decide) zju rfl ?_
 refine zaK (v:=.i 0) (ns:=[.i 0]) (L':=[(g+3+2,.cells [.i r1.Letters,.i r1.Numbers,.i r1.Pitch,.i r1.Slack,.i r1.Gap,.i r1.Pause,.i 0,.sl .no 1 (r1.Times.map cI)]),(g+1,.cells [.i 0,.i 0,.i 0,.i 0,.i 0,.i 0,.i 0,.sl .nil 0 []])]) 0 hS rfl rfl .no rfl rfl zfs nlb rfl fun H hS=>?_
 refine zaJ (by decide) zdW rfl ?_
 refine zaK (v:=.sl .nil 0 []) (ns:=[.sl .nil 0 []]) (L':=[(g+3+2,.cells [.i r1.Letters,.i r1.Numbers,.i r1.Pitch,.i r1.Slack,.i r1.Gap,.i r1.Pause,.i 0,.sl .nil 0 []]),(g+1,.cells [.i 0,.i 0,.i 0,.i 0,.i 0,.i 0,.i 0,.sl .nil 0 []])]) 0 hS rfl rfl .no rfl rfl zfX nlb rfl fun H hS=>?_
 refine Ni ?_
 refine Ws ?_
 refine Sq ?_
 refine zaF (J:=Bool) (fun j=>[(1,.sl .no 1 (a1.map cI)),(4,.ptr (g+1) 0),(6,.ptr (g+3+2) 0),(21,.b j)]) (fun j H' g'=>St (·<g) H0 [(g+3+2,.cells [.i r1.Letters,.i r1.Numbers,.i r1.Pitch,.i r1.Slack,.i r1.Gap,.i r1.Pause,.i 0,.sl .nil 0 []]),(g+1,.cells [.i 0,.i 0,.i 0,.i 0,.i 0,.i 0,.i 0,.sl .nil 0 []])] H' g'/\zfI n a1 r1 j=some r) ?_ ?_
 ·rintro v2 H g1 ⟨hS,hM⟩
  change wpA _ _ _ _ (Fr.of [(1,.sl .no 1 (a1.map cI)),(4,.ptr (g+1) 0),(6,.ptr (g+3+2) 0),(21,.b v2)]) _ _
  replace hS:St (·<g) H0 [(g+3+2,.cells [.i r1.Letters,.i r1.Numbers,.i r1.Pitch,.i r1.Slack,.i r1.Gap,.i r1.Pause,.i 0,.sl .nil 0 []]),(g+1,.cells [.i 0,.i 0,.i 0,.i 0,.i 0,.i 0,.i 0,.sl .nil 0 []])] H g1:=hS
  replace hM:zfI n a1 r1 v2=some r:=hM
  rcases bft v2 with hb3 | hb3
  ·replace hM:=ifT hM hb3
   refine Ct hb3 ?_
   refine Sq ?_
   refine Rg 3 ?_
   refine zaW (v:=.agg [.i r1.Letters,.i r1.Numbers,.i r1.Pitch,.i r1.Slack,.i r1.Gap,.i r1.Pause,.i 0,.sl .nil 0 []]) 0 hS (by decide) rfl rfl .no (pg zbM) ?_
   refine zaK (v:=.agg [.i r1.Letters,.i r1.Numbers,.i r1.Pitch,.i r1.Slack,.i r1.Gap,.i r1.Pause,.i 0,.sl .nil 0 []]) (ns:=[.i r1.Letters,.i r1.Numbers,.i r1.Pitch,.i r1.Slack,.i r1.Gap,.i r1.Pause,.i 0,.sl .nil 0 []]) (L':=[(g+3+2,.cells [.i r1.Letters,.i r1.Numbers,.i r1.Pitch,.i r1.Slack,.i r1.Gap,.i r1.Pause,.i 0,.sl .nil 0 []]),(g+1,.cells [.i r1.Letters,.i r1.Numbers,.i r1.Pitch,.i r1.Slack,.i r1.Gap,.i r1.Pause,.i 0,.sl .nil 0 []])]) 1 hS rfl rfl .no rfl rfl zhi nlb rfl fun H hS=>?_
   refine Oa (.i 0) ?_
   refine Ni ?_
   replace hS:=hS.keep (L':=[(g+1,.cells [.i r1.Letters,.i r1.Numbers,.i r1.Pitch,.i r1.Slack,.i r1.Gap,.i r1.Pause,.i 0,.sl .nil 0 []])]) [false,true] rfl
   refine Ws ?_
   refine zaB ?_
   refine zak ?_
   refine zaO (x:=.tup [.agg [.i r1.Letters,.i r1.Numbers,.i r1.Pitch,.i r1.Slack,.i r1.Gap,.i r1.Pause,.i 0,.sl .nil 0 []],.i 0]) (f:=fun r=>.tup [.agg [.i r.1.Letters,.i r.1.Numbers,.i r.1.Pitch,.i r.1.Slack,.i r.1.Gap,.i r.1.Pause,.i r.1.Sparks,.sl .no 1 (r.1.Times.map cI)],.i r.2]) (.inr rfl) ?_ (.tupL (.cons (.aggL (.k (.k (.k (.k (.k (.k (.k (.cons (.sl0 .nil 1 0) .nil))))))))) (.k .nil))) (Option.some.inj hM) hS
   exact (zbn (zcC (x:=.agg [.i r1.Letters,.i r1.Numbers,.i r1.Pitch,.i r1.Slack,.i r1.Gap,.i r1.Pause,.i 0,.sl .nil 0 []]) 0 hS rfl rfl (pg zbM)) (zad (x:=.i 0) rfl))
  ·replace hM:=ifF hM hb3
   refine Cf hb3 ?_
   refine zas ?_
   refine Ws ?_
   refine Sq ?_
   have hS0:=hS
   refine zdy (n:=10) rfl (by kernel_rfl) ?_
   refine zaW (v:=.agg [.i r1.Letters,.i r1.Numbers,.i r1.Pitch,.i r1.Slack,.i r1.Gap,.i r1.Pause,.i 0,.sl .nil 0 []]) 0 hS (by decide) rfl rfl (.st hS0 0 rfl (by omega)) (pg zbM) ?_
   refine zaX (es:=[]) hS (by decide) zbi zes rfl zet rfl (by decide) (by omega) fun H hS=>?_
   refine Om (.sl .no 1 (a1.map cI)) ?_
   obtain ⟨l4,hl4,hM⟩:=zal hM
   refine zdd (xs:=([]:List Int)) (ys:=a1) (zs:=l4) (f:=cI) (L':=[(g1+1,.row 3 l4.length),(g+3+2,.cells [.i r1.Letters,.i r1.Numbers,.i r1.Pitch,.i r1.Slack,.i r1.Gap,.i r1.Pause,.i 0,.sl .nil 0 []]),(g+1,.cells [.i 0,.i 0,.i 0,.i 0,.i 0,.i 0,.i 0,.sl .nil 0 []])]) 0 hS (by decide) rfl rfl rfl rfl (.behind (by kernel_rfl)) zbi zes zet hl4 rfl fun H hS=>?_
   obtain ⟨r5,hr5,hM⟩:=zal hM
   refine zat (bs:=[.agg [.i r1.Letters,.i r1.Numbers,.i r1.Pitch,.i r1.Slack,.i r1.Gap,.i r1.Pause,.i 0,.sl .nil 0 []],.sl (.id (g1+1)) 1 (l4.map cI),.i 0]) (by decide) rfl rfl ((zlG hr5).le (.cons (.aggL (.k (.k (.k (.k (.k (.k (.k (.cons (.sl0 .nil 1 0) .nil))))))))) (.cons (.sl _ _ _) (.k .nil)))) ?_
   refine Om (.tup [.sl .no 1 (r5.1.map cI),.i r5.2]) ?_
   refine Ox (.sl .no 1 (r5.1.map cI)) ?_
   refine Ox (.i r5.2) ?_
   refine Oa (.sl .no 1 (r5.1.map cI)) ?_
   refine Oa (.i r5.2) ?_
   refine Ni ?_
   replace hS:=hS.keep (L':=[(g+3+2,.cells [.i r1.Letters,.i r1.Numbers,.i r1.Pitch,.i r1.Slack,.i r1.Gap,.i r1.Pause,.i 0,.sl .nil 0 []]),(g+1,.cells [.i 0,.i 0,.i 0,.i 0,.i 0,.i 0,.i 0,.sl .nil 0 []])]) [false,true,true] rfl
   refine Ws ?_
   refine Sq ?_
   refine Sq ?_
   refine Rg 2 ?_
   refine Om (.i r5.2) ?_
   refine Oi (.b (r5.2==131)) ?_
   refine Ni ?_
   refine Ws ?_
   rcases bft (r5.2==131) with hb6 | hb6
   ·replace hM:=ifT hM hb6
    refine Ct hb6 ?_
    refine Sq ?_
    refine Rg 3 ?_
    refine zaW (v:=.agg [.i r1.Letters,.i r1.Numbers,.i r1.Pitch,.i r1.Slack,.i r1.Gap,.i r1.Pause,.i 0,.sl .nil 0 []]) 0 hS (by decide) rfl rfl .no (pg zbM) ?_
    refine zaK (v:=.agg [.i r1.Letters,.i r1.Numbers,.i r1.Pitch,.i r1.Slack,.i r1.Gap,.i r1.Pause,.i 0,.sl .nil 0 []]) (ns:=[.i r1.Letters,.i r1.Numbers,.i r1.Pitch,.i r1.Slack,.i r1.Gap,.i r1.Pause,.i 0,.sl .nil 0 []]) (L':=[(g+3+2,.cells [.i r1.Letters,.i r1.Numbers,.i r1.Pitch,.i r1.Slack,.i r1.Gap,.i r1.Pause,.i 0,.sl .nil 0 []]),(g+1,.cells [.i r1.Letters,.i r1.Numbers,.i r1.Pitch,.i r1.Slack,.i r1.Gap,.i r1.Pause,.i 0,.sl .nil 0 []])]) 1 hS rfl rfl .no rfl rfl zhi nlb rfl fun H hS=>?_
    refine Oa (.i 0) ?_
    refine Ni ?_
    replace hS:=hS.keep (L':=[(g+1,.cells [.i r1.Letters,.i r1.Numbers,.i r1.Pitch,.i r1.Slack,.i r1.Gap,.i r1.Pause,.i 0,.sl .nil 0 []])]) [false,true] rfl
    refine Ws ?_
    refine zaB ?_
    refine zak ?_
    refine zaO (x:=.tup [.agg [.i r1.Letters,.i r1.Numbers,.i r1.Pitch,.i r1.Slack,.i r1.Gap,.i r1.Pause,.i 0,.sl .nil 0 []],.i 0]) (f:=fun r=>.tup [.agg [.i r.1.Letters,.i r.1.Numbers,.i r.1.Pitch,.i r.1.Slack,.i r.1.Gap,.i r.1.Pause,.i r.1.Sparks,.sl .no 1 (r.1.Times.map cI)],.i r.2]) (.inr rfl) ?_ (.tupL (.cons (.aggL (.k (.k (.k (.k (.k (.k (.k (.cons (.sl0 .nil 1 0) .nil))))))))) (.k .nil))) (Option.some.inj hM) hS
    exact (zbn (zcC (x:=.agg [.i r1.Letters,.i r1.Numbers,.i r1.Pitch,.i r1.Slack,.i r1.Gap,.i r1.Pause,.i 0,.sl .nil 0 []]) 0 hS rfl rfl (pg zbM)) (zad (x:=.i 0) rfl))
   ·replace hM:=ifF hM hb6
    refine Cf hb6 ?_
    refine zas ?_
    refine Ws ?_
    refine Sq ?_
    refine Rg 5 ?_
    refine zaX (es:=[]) hS (by decide) zbi zes rfl zet rfl (by decide) (by omega) fun H hS=>?_
    refine Om (.sl .no 1 (r5.1.map cI)) ?_
    obtain ⟨l7,hl7,hM⟩:=zal hM
    refine zdd (xs:=([]:List Int)) (ys:=r5.1) (zs:=l7) (f:=cI) (L':=[(g1+10+2+0,.row 3 l7.length),(g+3+2,.cells [.i r1.Letters,.i r1.Numbers,.i r1.Pitch,.i r1.Slack,.i r1.Gap,.i r1.Pause,.i 0,.sl .nil 0 []]),(g+1,.cells [.i 0,.i 0,.i 0,.i 0,.i 0,.i 0,.i 0,.sl .nil 0 []])]) 0 hS (by decide) rfl rfl rfl rfl .no zbi zes zet hl7 rfl fun H hS=>?_
    refine zaJ (by decide) zdW rfl ?_
    refine zaK (v:=.sl (.id (g1+10+2+0)) 1 (l7.map cI)) (ns:=[.sl (.id (g1+10+2+0)) 1 (l7.map cI)]) (L':=[(g1+10+2+0,.row 3 l7.length),(g+3+2,.cells [.i r1.Letters,.i r1.Numbers,.i r1.Pitch,.i r1.Slack,.i r1.Gap,.i r1.Pause,.i 0,.sl (.id (g1+10+2+0)) 1 (l7.map cI)]),(g+1,.cells [.i 0,.i 0,.i 0,.i 0,.i 0,.i 0,.i 0,.sl .nil 0 []])]) 1 hS rfl rfl .no rfl rfl zfX nlb rfl fun H hS=>?_
    refine Ni ?_
    refine Ws ?_
    refine Sq ?_
    refine zaF (J:=Bool) (fun j=>[(4,.ptr (g+1) 0),(6,.ptr (g+3+2) 0),(49,.b j)]) (fun j H' g'=>St (·<g) H0 [(g1+10+2+0,.row 3 l7.length),(g+3+2,.cells [.i r1.Letters,.i r1.Numbers,.i r1.Pitch,.i r1.Slack,.i r1.Gap,.i r1.Pause,.i 0,.sl (.id (g1+10+2+0)) 1 (l7.map cI)]),(g+1,.cells [.i 0,.i 0,.i 0,.i 0,.i 0,.i 0,.i 0,.sl .nil 0 []])] H' g'/\zgS r1 l7 j=some r) ?_ ?_
    ·rintro v8 H g2 ⟨hS,hM⟩
     change wpA _ _ _ _ (Fr.of [(4,.ptr (g+1) 0),(6,.ptr (g+3+2) 0),(49,.b v8)]) _ _
     replace hS:St (·<g) H0 [(g1+10+2+0,.row 3 l7.length),(g+3+2,.cells [.i r1.Letters,.i r1.Numbers,.i r1.Pitch,.i r1.Slack,.i r1.Gap,.i r1.Pause,.i 0,.sl (.id (g1+10+2+0)) 1 (l7.map cI)]),(g+1,.cells [.i 0,.i 0,.i 0,.i 0,.i 0,.i 0,.i 0,.sl .nil 0 []])] H g2:=hS
     replace hM:zgS r1 l7 v8=some r:=hM
     rcases bft v8 with hb9 | hb9
     ·replace hM:=ifT hM hb9
      refine Ct hb9 ?_
      refine Sq ?_
      refine Rg 3 ?_
      refine zaW (v:=.agg [.i r1.Letters,.i r1.Numbers,.i r1.Pitch,.i r1.Slack,.i r1.Gap,.i r1.Pause,.i 0,.sl (.id (g1+10+2+0)) 1 (l7.map cI)]) 1 hS (by decide) rfl rfl .no (pg zbM) ?_
      refine zaK (v:=.agg [.i r1.Letters,.i r1.Numbers,.i r1.Pitch,.i r1.Slack,.i r1.Gap,.i r1.Pause,.i 0,.sl (.id (g1+10+2+0)) 1 (l7.map cI)]) (ns:=[.i r1.Letters,.i r1.Numbers,.i r1.Pitch,.i r1.Slack,.i r1.Gap,.i r1.Pause,.i 0,.sl (.id (g1+10+2+0)) 1 (l7.map cI)]) (L':=[(g1+10+2+0,.row 3 l7.length),(g+3+2,.cells [.i r1.Letters,.i r1.Numbers,.i r1.Pitch,.i r1.Slack,.i r1.Gap,.i r1.Pause,.i 0,.sl (.id (g1+10+2+0)) 1 (l7.map cI)]),(g+1,.cells [.i r1.Letters,.i r1.Numbers,.i r1.Pitch,.i r1.Slack,.i r1.Gap,.i r1.Pause,.i 0,.sl (.id (g1+10+2+0)) 1 (l7.map cI)])]) 2 hS rfl rfl .no rfl rfl zhi nlb rfl fun H hS=>?_
      refine Oa (.i (-1)) ?_
      refine Ni ?_
      replace hS:=hS.keep (L':=[(g1+10+2+0,.row 3 l7.length),(g+1,.cells [.i r1.Letters,.i r1.Numbers,.i r1.Pitch,.i r1.Slack,.i r1.Gap,.i r1.Pause,.i 0,.sl (.id (g1+10+2+0)) 1 (l7.map cI)])]) [true,false,true] rfl
      refine Ws ?_
      refine zaB ?_
      refine zak ?_
      refine zaO (x:=.tup [.agg [.i r1.Letters,.i r1.Numbers,.i r1.Pitch,.i r1.Slack,.i r1.Gap,.i r1.Pause,.i 0,.sl (.id (g1+10+2+0)) 1 (l7.map cI)],.i (-1)]) (f:=fun r=>.tup [.agg [.i r.1.Letters,.i r.1.Numbers,.i r.1.Pitch,.i r.1.Slack,.i r.1.Gap,.i r.1.Pause,.i r.1.Sparks,.sl .no 1 (r.1.Times.map cI)],.i r.2]) (.inr rfl) ?_ (.tupL (.cons (.aggL (.k (.k (.k (.k (.k (.k (.k (.cons (.sl _ _ _) .nil))))))))) (.k .nil))) (Option.some.inj hM) hS
      exact (zbn (zcC (x:=.agg [.i r1.Letters,.i r1.Numbers,.i r1.Pitch,.i r1.Slack,.i r1.Gap,.i r1.Pause,.i 0,.sl (.id (g1+10+2+0)) 1 (l7.map cI)]) 1 hS rfl rfl (pg zbM)) (zad (x:=.i (-1)) rfl))
     ·replace hM:=ifF hM hb9
      refine Cf hb9 ?_
      refine zas ?_
      refine Ws ?_
      refine Sq ?_
      refine Rg 3 ?_
      refine zaW (v:=.agg [.i r1.Letters,.i r1.Numbers,.i r1.Pitch,.i r1.Slack,.i r1.Gap,.i r1.Pause,.i 0,.sl (.id (g1+10+2+0)) 1 (l7.map cI)]) 1 hS (by decide) rfl rfl .no (pg zbM) ?_
      refine zaK (v:=.agg [.i r1.Letters,.i r1.Numbers,.i r1.Pitch,.i r1.Slack,.i r1.Gap,.i r1.Pause,.i 0,.sl (.id (g1+10+2+0)) 1 (l7.map cI)]) (ns:=[.i r1.Letters,.i r1.Numbers,.i r1.Pitch,.i r1.Slack,.i r1.Gap,.i r1.Pause,.i 0,.sl (.id (g1+10+2+0)) 1 (l7.map cI)]) (L':=[(g1+10+2+0,.row 3 l7.length),(g+3+2,.cells [.i r1.Letters,.i r1.Numbers,.i r1.Pitch,.i r1.Slack,.i r1.Gap,.i r1.Pause,.i 0,.sl (.id (g1+10+2+0)) 1 (l7.map cI)]),(g+1,.cells [.i r1.Letters,.i r1.Numbers,.i r1.Pitch,.i r1.Slack,.i r1.Gap,.i r1.Pause,.i 0,.sl (.id (g1+10+2+0)) 1 (l7.map cI)])]) 2 hS rfl rfl .no rfl rfl zhi nlb rfl fun H hS=>?_
      refine Oa (.i 1) ?_
      refine Ni ?_
      replace hS:=hS.keep (L':=[(g1+10+2+0,.row 3 l7.length),(g+1,.cells [.i r1.Letters,.i r1.Numbers,.i r1.Pitch,.i r1.Slack,.i r1.Gap,.i r1.Pause,.i 0,.sl (.id (g1+10+2+0)) 1 (l7.map cI)])]) [true,false,true] rfl
      refine Ws ?_
      refine zaB ?_
      refine zaO (x:=.tup [.agg [.i r1.Letters,.i r1.Numbers,.i r1.Pitch,.i r1.Slack,.i r1.Gap,.i r1.Pause,.i 0,.sl (.id (g1+10+2+0)) 1 (l7.map cI)],.i 1]) (f:=fun r=>.tup [.agg [.i r.1.Letters,.i r.1.Numbers,.i r.1.Pitch,.i r.1.Slack,.i r.1.Gap,.i r.1.Pause,.i r.1.Sparks,.sl .no 1 (r.1.Times.map cI)],.i r.2]) (.inr rfl) ?_ (.tupL (.cons (.aggL (.k (.k (.k (.k (.k (.k (.k (.cons (.sl _ _ _) .nil))))))))) (.k .nil))) (Option.some.inj hM) hS
      exact (zbn (zcC (x:=.agg [.i r1.Letters,.i r1.Numbers,.i r1.Pitch,.i r1.Slack,.i r1.Gap,.i r1.Pause,.i 0,.sl (.id (g1+10+2+0)) 1 (l7.map cI)]) 1 hS rfl rfl (pg zbM)) (zad (x:=.i 1) rfl))
    ·refine Rg 12 ?_
     refine Om (.i r5.2) ?_
     refine Oi (.b (r5.2 != 0)) ?_
     refine Om (.b (r5.2 != 0)) ?_
     rcases bft (r5.2 != 0) with hb10 | hb10
     ·replace hM:=ifT hM hb10
      refine On (want:=false) hb10 ?_
      refine On (want:=false) hb10 ?_
      refine On (want:=false) hb10 ?_
      refine Pt (.b true) hb10 ?_
      refine Om (.b true) ?_
      refine Og ?_
      refine Og ?_
      refine Og ?_
      refine zaH (v:=.b true) (e:=true) (by decide) rfl rfl rfl ?_
      refine Ni ?_
      exact zai true (.k (.k (.k .nil))) ⟨(hS.keep [true,true,true] rfl).up (by omega),hM⟩
     ·replace hM:=ifF hM hb10
      refine Oy (want:=false) hb10 ?_
      refine Om (.sl .no 1 (r5.1.map cI)) ?_
      refine Oy (want:=false) hb10 ?_
      refine zco (n:=r5.1.length) (by decide) rfl (List.length_map _) zbc ?_
      refine Oy (want:=false) hb10 ?_
      refine Oi (.b (decide ((r5.1.length:Int)>24))) ?_
      refine Pf (.b (decide ((r5.1.length:Int)>24))) hb10 ?_
      refine Om (.b (decide ((r5.1.length:Int)>24))) ?_
      rcases bft (decide ((r5.1.length:Int)>24)) with hb11 | hb11
      ·replace hM:=ifT hM hb11
       refine On (want:=false) hb11 ?_
       refine On (want:=false) hb11 ?_
       refine On (want:=false) hb11 ?_
       refine Pt (.b true) hb11 ?_
       refine Ni ?_
       exact zai true (.k (.k (.k .nil))) ⟨(hS.keep [true,true,true] rfl).up (by omega),hM⟩
      ·replace hM:=ifF hM hb11
       refine Oy (want:=false) hb11 ?_
       refine zaW (v:=.agg [.i r1.Letters,.i r1.Numbers,.i r1.Pitch,.i r1.Slack,.i r1.Gap,.i r1.Pause,.i 0,.sl (.id (g1+10+2+0)) 1 (l7.map cI)]) 1 hS (by decide) rfl rfl .no (pg zbM) ?_
       refine Oy (want:=false) hb11 ?_
       obtain ⟨r12,hr12,hM⟩:=zal hM
       refine zat (bs:=[.agg [.i r1.Letters,.i r1.Numbers,.i r1.Pitch,.i r1.Slack,.i r1.Gap,.i r1.Pause,.i 0,.sl (.id (g1+10+2+0)) 1 (l7.map cI)]]) (by decide) rfl rfl ((zjG hr12).le (.cons (.aggL (.k (.k (.k (.k (.k (.k (.k (.cons (.sl _ _ _) .nil))))))))) .nil)) ?_
       refine Oy (want:=false) hb11 ?_
       refine Oi (.b (r12 != 0)) ?_
       refine Pf (.b (r12 != 0)) hb11 ?_
       refine Ni ?_
       exact zai (r12 != 0) (.k (.k (.k .nil))) ⟨(hS.keep [true,true,true] rfl).up (by omega),hM⟩
 ·refine Rg 9 ?_
  refine zaW (v:=.agg [.i r1.Letters,.i r1.Numbers,.i r1.Pitch,.i r1.Slack,.i r1.Gap,.i r1.Pause,.i 0,.sl .nil 0 []]) 0 hS (by decide) rfl rfl .no (pg zbM) ?_
  obtain ⟨r13,hr13,hM⟩:=zal hM
  refine zat (bs:=[.agg [.i r1.Letters,.i r1.Numbers,.i r1.Pitch,.i r1.Slack,.i r1.Gap,.i r1.Pause,.i 0,.sl .nil 0 []]]) (by decide) rfl rfl ((zjG hr13).le (.cons (.aggL (.k (.k (.k (.k (.k (.k (.k (.cons (.sl0 .nil 1 0) .nil))))))))) .nil)) ?_
  refine Oi (.b (r13 != 0)) ?_
  refine Om (.b (r13 != 0)) ?_
  rcases bft (r13 != 0) with hb14 | hb14
  ·replace hM:=ifT hM hb14
   refine On (want:=false) hb14 ?_
   refine On (want:=false) hb14 ?_
   refine On (want:=false) hb14 ?_
   refine On (want:=false) hb14 ?_
   refine Pt (.b true) hb14 ?_
   refine Ni ?_
   exact zai true (.k (.k (.k (.k .nil)))) ⟨(hS.keep [true,true] rfl).up (by omega),hM⟩
  ·replace hM:=ifF hM hb14
   refine Oy (want:=false) hb14 ?_
   refine zaW (v:=.agg [.i r1.Letters,.i r1.Numbers,.i r1.Pitch,.i r1.Slack,.i r1.Gap,.i r1.Pause,.i 0,.sl .nil 0 []]) 0 hS (by decide) rfl rfl .no (pg zbM) ?_
   refine Oy (want:=false) hb14 ?_
   refine Om (.sl .no 1 (a1.map cI)) ?_
   refine Oy (want:=false) hb14 ?_
   obtain ⟨r15,hr15,hM⟩:=zal hM
   refine zat (bs:=[.agg [.i r1.Letters,.i r1.Numbers,.i r1.Pitch,.i r1.Slack,.i r1.Gap,.i r1.Pause,.i 0,.sl .nil 0 []],.sl .no 1 (a1.map cI)]) (by decide) rfl rfl ((zlF hr15).le (.cons (.aggL (.k (.k (.k (.k (.k (.k (.k (.cons (.sl0 .nil 1 0) .nil))))))))) (.k .nil))) ?_
   refine Oy (want:=false) hb14 ?_
   refine zdc (e:=r15) (by decide) rfl ?_
   refine Pf (.b (!r15)) hb14 ?_
   refine Ni ?_
   exact zai (!r15) (.k (.k (.k (.k .nil)))) ⟨(hS.keep [true,true] rfl).up (by omega),hM⟩
theorem zd2 {a0:Int} {a1:Int} {a2:Int} {r:Bool} (hM:zdh a0 a1 a2=some r):zav Tryz.prog 57 [.i a0,.i a1,.i a2] (.b r):=by
 refine zan mixed Tryz.func57 rfl (by decide) Tryz.ntmps57 (by simp) ?pure fun H0 g hf=>?_
 case pure=>exact .v _
 rw [zag]
 change wpA _ _ _ _ (Fr.of [(0,.i a0),(1,.i a1),(2,.i a2)]) H0 g
 have hS:=St.start hf
 refine Sq ?_
 refine Rg 1 ?_
 refine Oa (.b false) ?_
 refine Ni ?_
 refine Ws ?_
 refine zaF (J:=Bool) (fun j=>[(6,.b j)]) (fun j H' g'=>St (·<g) H0 [] H' g'/\zer j=some r) ?_ ?_
 ·rintro v1 H g1 ⟨hS,hM⟩
  change wpA _ _ _ _ (Fr.of [(6,.b v1)]) _ _
  replace hS:St (·<g) H0 [] H g1:=hS
  replace hM:zer v1=some r:=hM
  refine zaB ?_
  refine zaO (x:=.b v1) (f:=fun r=>.b r) (.inr rfl) ?_ (.refl _) (Option.some.inj hM) hS
  exact (zam (zad (x:=.b v1) rfl))
 ·refine Rg 9 ?_
  refine Om (.i a1) ?_
  refine Om (.i a0) ?_
  refine Oi (.b (decide (a1<=a0))) ?_
  refine Om (.b (decide (a1<=a0))) ?_
  rcases bft (decide (a1<=a0)) with hb2 | hb2
  ·replace hM:=ifT hM hb2
   refine Oy (want:=true) hb2 ?_
   refine Om (.i a0) ?_
   refine Oy (want:=true) hb2 ?_
   refine Om (.i a2) ?_
   refine Oy (want:=true) hb2 ?_
   refine Oi (.b (decide (a0<=a2))) ?_
   refine Pt (.b (decide (a0<=a2))) hb2 ?_
   refine Oa (.b (decide (a0<=a2))) ?_
   refine Ni ?_
   exact zai (decide (a0<=a2)) (.k .nil) ⟨(hS.keep [] rfl).up (by omega),hM⟩
  ·replace hM:=ifF hM hb2
   refine On (want:=true) hb2 ?_
   refine On (want:=true) hb2 ?_
   refine On (want:=true) hb2 ?_
   refine Pf (.b false) hb2 ?_
   refine Oa (.b false) ?_
   refine Ni ?_
   exact zai false (.k .nil) ⟨(hS.keep [] rfl).up (by omega),hM⟩
theorem zg0 {a0:Wire} {a1:Int} {a2:Int} {r:Bool} (hM:zdi a0 a1 a2=some r):zav Tryz.prog 31 [.agg (Wire.cells a0),.i a1,.i a2] (.b r):=by
 refine zan mixed Tryz.func31 rfl (by decide) Tryz.ntmps31 (by simp) ?pure fun H0 g hf=>?_
 case pure=>exact .v _
 rw [zag]
 change wpA _ _ _ _ (Fr.of [(0,.agg (Wire.cells a0)),(1,.i a1),(2,.i a2)]) H0 g
 have hS:=St.start hf
 refine Sq ?_
 refine Rg 2 ?_
 refine zbP (v:=.agg (Wire.cells a0)) (cs:=(Wire.cells a0)) hS (by decide) rfl rfl (by omega) fun H hS=>?_
 refine Oa (.b false) ?_
 refine Ni ?_
 refine zaT (L':=[]) 0 3 hS rfl rfl rfl fun H hS=>?_
 refine Ws ?_
 refine zaF (J:=Bool) (fun j=>[(6,.b j)]) (fun j H' g'=>St (·<g) H0 [] H' g'/\zda j=some r) ?_ ?_
 ·rintro v1 H g1 ⟨hS,hM⟩
  change wpA _ _ _ _ (Fr.of [(6,.b v1)]) _ _
  replace hS:St (·<g) H0 [] H g1:=hS
  replace hM:zda v1=some r:=hM
  refine zaB ?_
  refine zaO (x:=.b v1) (f:=fun r=>.b r) (.inr rfl) ?_ (.refl _) (Option.some.inj hM) hS
  exact (zam (zad (x:=.b v1) rfl))
 ·refine Rg 13 ?_
  refine Om (.i a1) ?_
  refine Of ((Wire.cells a0)) zdX ?_
  refine Olp (.i a0.Letters) zac zah ?_
  refine Oi (.i (w64 (a0.Letters-1))) ?_
  obtain ⟨r2,hr2,hM⟩:=zal hM
  refine zat (bs:=[.i a1,.i 0,.i (w64 (a0.Letters-1))]) (by decide) rfl rfl ((zd2 hr2).le (.k (.k (.k .nil)))) ?_
  refine Om (.b r2) ?_
  rcases bft r2 with hb3 | hb3
  ·replace hM:=ifT hM hb3
   refine Oy (want:=true) hb3 ?_
   refine Om (.i a2) ?_
   refine Oy (want:=true) hb3 ?_
   refine Of ((Wire.cells a0)) zdp ?_
   refine Oy (want:=true) hb3 ?_
   refine Olp (.i a0.Numbers) zac zah ?_
   refine Oy (want:=true) hb3 ?_
   refine Oi (.i (w64 (a0.Numbers-1))) ?_
   refine Oy (want:=true) hb3 ?_
   obtain ⟨r4,hr4,hM⟩:=zal hM
   refine zat (bs:=[.i a2,.i 0,.i (w64 (a0.Numbers-1))]) (by decide) rfl rfl ((zd2 hr4).le (.k (.k (.k .nil)))) ?_
   refine Pt (.b r4) hb3 ?_
   refine Oa (.b r4) ?_
   refine Ni ?_
   exact zai r4 (.k .nil) ⟨(hS.keep [] rfl).up (by omega),hM⟩
  ·replace hM:=ifF hM hb3
   refine On (want:=true) hb3 ?_
   refine On (want:=true) hb3 ?_
   refine On (want:=true) hb3 ?_
   refine On (want:=true) hb3 ?_
   refine On (want:=true) hb3 ?_
   refine Pf (.b false) hb3 ?_
   refine Oa (.b false) ?_
   refine Ni ?_
   exact zai false (.k .nil) ⟨(hS.keep [] rfl).up (by omega),hM⟩
theorem zkn {a0:WirePress} {a1:Wire} {r:Bool} (hM:zdZ a0 a1=some r):zav Tryz.prog 56 [.agg (WirePress.cells a0),.ep (Wire.cells a1)] (.b r):=by
 refine zan mixed Tryz.func56 rfl (by decide) Tryz.ntmps56 (by simp) ?pure fun H0 g hf=>?_
 case pure=>exact .v _
 rw [zag]
 change wpA _ _ _ _ (Fr.of [(0,.agg (WirePress.cells a0)),(1,.ep (Wire.cells a1))]) H0 g
 have hS:=St.start hf
 refine Sq ?_
 refine Rg 2 ?_
 refine zbP (v:=.agg (WirePress.cells a0)) (cs:=(WirePress.cells a0)) hS (by decide) rfl rfl (by omega) fun H hS=>?_
 refine Oa (.b false) ?_
 refine Ni ?_
 refine zaT (L':=[]) 0 2 hS rfl rfl rfl fun H hS=>?_
 refine Ws ?_
 refine zaF (J:=Bool) (fun j=>[(3,.b j)]) (fun j H' g'=>St (·<g) H0 [] H' g'/\zdG j=some r) ?_ ?_
 ·rintro v1 H g1 ⟨hS,hM⟩
  change wpA _ _ _ _ (Fr.of [(3,.b v1)]) _ _
  replace hS:St (·<g) H0 [] H g1:=hS
  replace hM:zdG v1=some r:=hM
  refine zaB ?_
  refine zaO (x:=.b v1) (f:=fun r=>.b r) (.inr rfl) ?_ (.refl _) (Option.some.inj hM) hS
  exact (zam (zad (x:=.b v1) rfl))
 ·refine Rg 20 ?_
  refine Olg (.agg (Wire.cells a1)) zcd ?_
  refine Of ((WirePress.cells a0)) zjw ?_
  refine Olp (.i a0.Letter) zac zah ?_
  refine Of ((WirePress.cells a0)) zjx ?_
  refine Olp (.i a0.Number) zac zah ?_
  obtain ⟨r2,hr2,hM⟩:=zal hM
  refine zat (bs:=[.agg (Wire.cells a1),.i a0.Letter,.i a0.Number]) (by decide) rfl rfl ((zg0 hr2).le (.k (.k (.k .nil)))) ?_
  refine zdc (e:=r2) (by decide) rfl ?_
  refine Om (.b (!r2)) ?_
  rcases bft (!r2) with hb3 | hb3
  ·replace hM:=ifT hM hb3
   refine On (want:=false) hb3 ?_
   refine On (want:=false) hb3 ?_
   refine On (want:=false) hb3 ?_
   refine On (want:=false) hb3 ?_
   refine On (want:=false) hb3 ?_
   refine On (want:=false) hb3 ?_
   refine On (want:=false) hb3 ?_
   refine On (want:=false) hb3 ?_
   refine On (want:=false) hb3 ?_
   refine On (want:=false) hb3 ?_
   refine Pt (.b true) hb3 ?_
   refine Oa (.b true) ?_
   refine Ni ?_
   exact zai true (.k .nil) ⟨(hS.keep [] rfl).up (by omega),hM⟩
  ·replace hM:=ifF hM hb3
   refine Oy (want:=false) hb3 ?_
   refine Of ((WirePress.cells a0)) zjy ?_
   refine Oy (want:=false) hb3 ?_
   refine Olp (.i a0.Got) zac zah ?_
   refine Oy (want:=false) hb3 ?_
   refine Of ((Wire.cells a1)) zdX ?_
   refine Oy (want:=false) hb3 ?_
   refine Olp (.i a1.Letters) zac zah ?_
   refine Oy (want:=false) hb3 ?_
   refine Of ((Wire.cells a1)) zdp ?_
   refine Oy (want:=false) hb3 ?_
   refine Olp (.i a1.Numbers) zac zah ?_
   refine Oy (want:=false) hb3 ?_
   refine Oi (.i (w64 (a1.Letters*a1.Numbers))) ?_
   refine Oy (want:=false) hb3 ?_
   refine Oi (.i (w64 ((w64 (a1.Letters*a1.Numbers))-1))) ?_
   refine Oy (want:=false) hb3 ?_
   obtain ⟨r4,hr4,hM⟩:=zal hM
   refine zat (bs:=[.i a0.Got,.i (-1),.i (w64 ((w64 (a1.Letters*a1.Numbers))-1))]) (by decide) rfl rfl ((zd2 hr4).le (.k (.k (.k .nil)))) ?_
   refine Oy (want:=false) hb3 ?_
   refine zdc (e:=r4) (by decide) rfl ?_
   refine Pf (.b (!r4)) hb3 ?_
   refine Oa (.b (!r4)) ?_
   refine Ni ?_
   exact zai (!r4) (.k .nil) ⟨(hS.keep [] rfl).up (by omega),hM⟩
theorem zfN {S:Type} {Lo:S->BL} (hk:∀s s',zgl (Lo s) (Lo s')) (hnd:∀s,(ids (Lo s)).Nodup) (hin:∀s,InB In (Lo s)) {aF:WirePress->S->Option (Bool×S)} {f0:AV} (hF:∀s H,Has H (Lo s)->In H f0) (h0:cellsOf f0=some [f0]) (hf:∀{x0:WirePress} {s:S} {r:Bool×S},aF x0 s=some r->zjP Tryz.prog f0 [.agg (WirePress.cells x0)] (Lo s) (.b r.1) (Lo r.2)) {n:Nat} {a0:List WirePress} {st:S} {r:Int×S} (hM:zcJ n aF a0 st=some r):zhv Tryz.prog 81 [.sl .no 3 (a0.map WirePress.cells),f0] (Lo st) (.i r.1) (Lo r.2):=by
 have hnd0:∀s,(ids (Lo s)).Nodup:=fun s=>hnd s
 refine zbg mixed Tryz.func81 rfl (by decide) Tryz.ntmps81 (by simp) (hk _ _) (hnd st) ?pure ?cells fun H0 g hf_ hp=>?_
 case pure=>exact fun H _=>(show Go.AM.Pure _ from .v _).inH
 case cells=>exact hin _
 rw [zag]
 change wpA _ _ _ _ (Fr.of [(0,.sl .no 3 (a0.map WirePress.cells)),(1,f0)]) H0 g
 have hS:=St.startH (L:=([]++Lo st)) hf_ (hnd st) hp
 replace hS:St (fun i=>i<g/\i∉ids (Lo st)) H0 ([]++Lo st) H0 g:=hS
 refine Sq ?_
 refine Rg 1 ?_
 refine Oa (.i 0) ?_
 refine Ni ?_
 refine Ws ?_
 refine zaF (J:=S) (fun j=>[]) (fun j H' g'=>St (fun i=>i<g/\i∉ids (Lo st)) H0 ([]++Lo j) H' g'/\zbu j=some r) ?_ ?_
 ·rintro v1 H g1 ⟨hS,hM⟩
  change wpA _ _ _ _ (Fr.of []) _ _
  replace hS:St (fun i=>i<g/\i∉ids (Lo st)) H0 ([]++Lo v1) H g1:=hS
  replace hM:zbu v1=some r:=hM
  refine Sq ?_
  refine Rg 1 ?_
  refine Oa (.i (-1)) ?_
  refine Ni ?_
  refine Ws ?_
  refine zaB ?_
  refine zcD (x:=.i (-1)) (f:=fun r=>.i r.1) (fd:=fun r=>(Lo r.2)) (.inr rfl) ?_ (.refl _) (Option.some.inj hM) hS 0 rfl
  exact (zam (zad (x:=.i (-1)) rfl))
 ·refine Sq ?_
  refine Rg 3 ?_
  refine Om (.sl .no 3 (a0.map WirePress.cells)) ?_
  refine zco (n:=a0.length) (by decide) rfl (List.length_map _) ziJ ?_
  refine Om (.i 0) ?_
  refine Ni ?_
  refine Ws ?_
  refine zap ?_
  refine zbI (V:=Int×S) (fun v=>[(0,.sl .no 3 (a0.map WirePress.cells)),(1,f0),(7,.i (a0.length:Int)),(8,.i v.1)]) (fun v m3 H' g'=>St (fun i=>i<g/\i∉ids (Lo st)) H0 ([]++Lo v.2) H' g'/\zay a0 aF m3 v.1 v.2=some r) (n:=n) (0,st) (.k (.k (.k (.k .nil)))) ⟨(hS.keep [] rfl).up (by omega),hM⟩ ?_
  rintro ⟨v3,v4⟩ m3 H g3 ⟨hS,hM⟩
  obtain _ | m3:=m3
  ·exact nomatch (show none=some _ from hM)
  change wpA _ _ _ _ (Fr.of [(0,.sl .no 3 (a0.map WirePress.cells)),(1,f0),(7,.i (a0.length:Int)),(8,.i v3)]) _ _
  replace hS:St (fun i=>i<g/\i∉ids (Lo st)) H0 ([]++Lo v4) H g3:=hS
  replace hM:zbl a0 aF (zay a0 aF m3) v3 v4=some r:=hM
  refine Sq ?_
  refine Rg 1 ?_
  refine Oi (.b (decide (v3<(a0.length:Int)))) ?_
  refine Ni ?_
  refine Ws ?_
  refine Sq ?_
  rcases bft (decide (v3<(a0.length:Int))) with hb5 | hb5
  ·replace hM:=ifT hM hb5
   refine Ct hb5 ?_
   refine zas ?_
   refine Ws ?_
   refine Sq ?_
   refine zap ?_
   refine Sq ?_
   refine Rg 2 ?_
   refine Om (.i v3) ?_
   refine Oa (.i v3) ?_
   refine Ni ?_
   refine Ws ?_
   refine Sq ?_
   refine Rg 6 ?_
   refine Om (f0) ?_
   refine Om (.sl .no 3 (a0.map WirePress.cells)) ?_
   refine Om (.i v3) ?_
   obtain ⟨x6,hx6,hM⟩:=zal hM
   refine zbj (xs:=a0) (f:=WirePress.cells) (z:=v3) (u:=x6) (by decide) rfl rfl zoI hx6 ?_
   refine Olg (.agg (WirePress.cells x6)) zmI ?_
   obtain ⟨r7,hr7,hM⟩:=zal hM
   replace hS:St (fun i=>i<g/\i∉ids (Lo st)) H0 ([]++Lo v4) _ _:=hS
   refine zhN (bs:=[.agg (WirePress.cells x6)]) (.inl rfl) hS (by decide) rfl rfl ((hf hr7).le (.k .nil)) (hk _ _).ids (by omega) fun H hS=>?_
   refine Ni ?_
   refine Ws ?_
   rcases bft r7.1 with hb8 | hb8
   ·replace hM:=ifT hM hb8
    refine Ct hb8 ?_
    refine Sq ?_
    refine Rg 2 ?_
    refine Om (.i v3) ?_
    refine Oa (.i v3) ?_
    refine Ni ?_
    refine Ws ?_
    refine zaB ?_
    refine zaq ?_
    refine zak ?_
    refine zaL ?_
    refine zaq ?_
    refine zaI ?_
    refine zcD (x:=.i v3) (f:=fun r=>.i r.1) (fd:=fun r=>(Lo r.2)) (.inr rfl) ?_ (.refl _) (Option.some.inj hM) hS 0 rfl
    exact (zam (zad (x:=.i v3) rfl))
   ·replace hM:=ifF hM hb8
    refine Cf hb8 ?_
    refine zas ?_
    refine zae ?_
    refine Ws ?_
    refine Rg 2 ?_
    refine Oi (.i (w64 (v3+1))) ?_
    refine Om (.i (w64 (v3+1))) ?_
    refine Ni ?_
    exact za4 (w64 (v3+1),r7.2) (Nat.lt_succ_self _) (.k (.k (.k (.k .nil)))) ⟨(hS.keep [] rfl).up (by omega),hM⟩
  ·replace hM:=ifF hM hb5
   refine Cf hb5 ?_
   refine zbw ?_
   refine zar ?_
   refine zao ?_
   refine zaw ?_
   exact zai v4 .nil ⟨(hS.keep [] rfl).up (by omega),hM⟩
theorem zc7 {S:Type} {Lo:S->BL} (hk:∀s s',zgl (Lo s) (Lo s')) (hnd:∀s,(ids (Lo s)).Nodup) (hin:∀s,InB In (Lo s)) {aF:WirePress->S->Option (Bool×S)} {f0:AV} (hF:∀s H,Has H (Lo s)->In H f0) (h0:cellsOf f0=some [f0]) (hf:∀{x0:WirePress} {s:S} {r:Bool×S},aF x0 s=some r->zjP Tryz.prog f0 [.agg (WirePress.cells x0)] (Lo s) (.b r.1) (Lo r.2)) {n:Nat} {a0:List WirePress} {st:S} {r:Bool×S} (hM:za6 n aF a0 st=some r):zhv Tryz.prog 58 [.sl .no 3 (a0.map WirePress.cells),f0] (Lo st) (.b r.1) (Lo r.2):=by
 have hnd0:∀s,(ids (Lo s)).Nodup:=fun s=>hnd s
 refine zbg mixed Tryz.func58 rfl (by decide) Tryz.ntmps58 (by simp) (hk _ _) (hnd st) ?pure ?cells fun H0 g hf_ hp=>?_
 case pure=>exact fun H _=>(show Go.AM.Pure _ from .v _).inH
 case cells=>exact hin _
 rw [zag]
 change wpA _ _ _ _ (Fr.of [(0,.sl .no 3 (a0.map WirePress.cells)),(1,f0)]) H0 g
 have hS:=St.startH (L:=([]++Lo st)) hf_ (hnd st) hp
 replace hS:St (fun i=>i<g/\i∉ids (Lo st)) H0 ([]++Lo st) H0 g:=hS
 refine Sq ?_
 refine Rg 1 ?_
 refine Oa (.b false) ?_
 refine Ni ?_
 refine Ws ?_
 refine Sq ?_
 refine Rg 5 ?_
 refine Om (.sl .no 3 (a0.map WirePress.cells)) ?_
 refine Om (f0) ?_
 obtain ⟨r1,hr1,hM⟩:=zal hM
 replace hS:St (fun i=>i<g/\i∉ids (Lo st)) H0 ([]++Lo st) _ _:=hS
 refine zhe (bs:=[.sl .no 3 (a0.map WirePress.cells),f0]) (.inl rfl) hS (by decide) rfl rfl ((zfN (Lo:=Lo)  hk hnd0 hin (aF:=aF) hF h0 hf hr1).le (.k (.k .nil))) (hk _ _).ids (by omega) fun H hS=>?_
 refine Oi (.b (decide (r1.1≥0))) ?_
 refine Oa (.b (decide (r1.1≥0))) ?_
 refine Ni ?_
 refine zej [(4,.b (decide (r1.1≥0)))] (.k .nil) ?_
 refine zaB ?_
 refine zcD (x:=.b (decide (r1.1≥0))) (f:=fun r=>.b r.1) (fd:=fun r=>(Lo r.2)) (.inr rfl) ?_ (.refl _) (Option.some.inj hM) hS 0 rfl
 exact (zam (zad (x:=.b (decide (r1.1≥0))) rfl))
theorem zhY {n:Nat} {a0:Wire} {r:Int} (hM:zfJ n a0=some r):zav Tryz.prog 28 [.agg (Wire.cells a0)] (.i r):=by
 refine zan mixed Tryz.func28 rfl (by decide) Tryz.ntmps28 (by simp) ?pure fun H0 g hf=>?_
 case pure=>exact .v _
 rw [zag]
 change wpA _ _ _ _ (Fr.of [(0,.agg (Wire.cells a0))]) H0 g
 have hS:=St.start hf
 refine Sq ?_
 refine Rg 2 ?_
 refine zbP (v:=.agg (Wire.cells a0)) (cs:=(Wire.cells a0)) hS (by decide) rfl rfl (by omega) fun H hS=>?_
 refine Oa (.i 0) ?_
 refine Ni ?_
 refine zaT (L':=[]) 0 1 hS rfl rfl rfl fun H hS=>?_
 refine Ws ?_
 refine Sq ?_
 refine Rg 2 ?_
 refine zce (first:=[]) (cap:=[.ep (Wire.cells a0)]) (by decide) rfl rfl ?_
 refine Oa (.fn (.func 56) [] [.ep (Wire.cells a0)]) ?_
 refine Ni ?_
 refine Ws ?_
 refine Sq ?_
 refine zaF (J:=Bool) (fun j=>[(32,.b j)]) (fun j H' g'=>St (·<g) H0 [] H' g'/\zbA j=some r) ?_ ?_
 ·rintro v1 H g1 ⟨hS,hM⟩
  change wpA _ _ _ _ (Fr.of [(32,.b v1)]) _ _
  replace hS:St (·<g) H0 [] H g1:=hS
  replace hM:zbA v1=some r:=hM
  rcases bft v1 with hb2 | hb2
  ·replace hM:=ifT hM hb2
   refine Ct hb2 ?_
   refine Sq ?_
   refine Rg 1 ?_
   refine Oa (.i 110) ?_
   refine Ni ?_
   refine Ws ?_
   refine zaB ?_
   refine zak ?_
   refine zaO (x:=.i 110) (f:=fun r=>.i r) (.inr rfl) ?_ (.refl _) (Option.some.inj hM) hS
   exact (zam (zad (x:=.i 110) rfl))
  ·replace hM:=ifF hM hb2
   refine Cf hb2 ?_
   refine zas ?_
   refine Ws ?_
   refine Sq ?_
   refine Rg 1 ?_
   refine Oa (.i 0) ?_
   refine Ni ?_
   refine Ws ?_
   refine zaB ?_
   refine zaO (x:=.i 0) (f:=fun r=>.i r) (.inr rfl) ?_ (.refl _) (Option.some.inj hM) hS
   exact (zam (zad (x:=.i 0) rfl))
 ·refine Rg 28 ?_
  refine Of ((Wire.cells a0)) zdX ?_
  refine Olp (.i a0.Letters) zac zah ?_
  obtain ⟨r3,hr3,hM⟩:=zal hM
  refine zat (bs:=[.i a0.Letters,.i 1,.i 5]) (by decide) rfl rfl ((zd2 hr3).le (.k (.k (.k .nil)))) ?_
  refine zdc (e:=r3) (by decide) rfl ?_
  refine Om (.b (!r3)) ?_
  rcases bft (!r3) with hb4 | hb4
  ·replace hM:=ifT hM hb4
   refine On (want:=false) hb4 ?_
   refine On (want:=false) hb4 ?_
   refine On (want:=false) hb4 ?_
   refine On (want:=false) hb4 ?_
   refine Pt (.b true) hb4 ?_
   refine Om (.b true) ?_
   refine Og ?_
   refine Og ?_
   refine Og ?_
   refine Og ?_
   refine zaH (v:=.b true) (e:=true) (by decide) rfl rfl rfl ?_
   refine Om (.b true) ?_
   refine Og ?_
   refine Og ?_
   refine Og ?_
   refine Og ?_
   refine zaH (v:=.b true) (e:=true) (by decide) rfl rfl rfl ?_
   refine Om (.b true) ?_
   refine Og ?_
   refine Og ?_
   refine Og ?_
   refine Og ?_
   refine zaH (v:=.b true) (e:=true) (by decide) rfl rfl rfl ?_
   refine Ni ?_
   exact zai true (.k .nil) ⟨(hS.keep [] rfl).up (by omega),hM⟩
  ·replace hM:=ifF hM hb4
   refine Oy (want:=false) hb4 ?_
   refine Of ((Wire.cells a0)) zdp ?_
   refine Oy (want:=false) hb4 ?_
   refine Olp (.i a0.Numbers) zac zah ?_
   refine Oy (want:=false) hb4 ?_
   obtain ⟨r5,hr5,hM⟩:=zal hM
   refine zat (bs:=[.i a0.Numbers,.i 1,.i 5]) (by decide) rfl rfl ((zd2 hr5).le (.k (.k (.k .nil)))) ?_
   refine Oy (want:=false) hb4 ?_
   refine zdc (e:=r5) (by decide) rfl ?_
   refine Pf (.b (!r5)) hb4 ?_
   refine Om (.b (!r5)) ?_
   rcases bft (!r5) with hb6 | hb6
   ·replace hM:=ifT hM hb6
    refine On (want:=false) hb6 ?_
    refine On (want:=false) hb6 ?_
    refine On (want:=false) hb6 ?_
    refine On (want:=false) hb6 ?_
    refine Pt (.b true) hb6 ?_
    refine Om (.b true) ?_
    refine Og ?_
    refine Og ?_
    refine Og ?_
    refine Og ?_
    refine zaH (v:=.b true) (e:=true) (by decide) rfl rfl rfl ?_
    refine Om (.b true) ?_
    refine Og ?_
    refine Og ?_
    refine Og ?_
    refine Og ?_
    refine zaH (v:=.b true) (e:=true) (by decide) rfl rfl rfl ?_
    refine Ni ?_
    exact zai true (.k .nil) ⟨(hS.keep [] rfl).up (by omega),hM⟩
   ·replace hM:=ifF hM hb6
    refine Oy (want:=false) hb6 ?_
    refine Of ((Wire.cells a0)) zir ?_
    refine Oy (want:=false) hb6 ?_
    refine Olp (.i a0.Faults) zac zah ?_
    refine Oy (want:=false) hb6 ?_
    obtain ⟨r7,hr7,hM⟩:=zal hM
    refine zat (bs:=[.i a0.Faults,.i 0,.i 3]) (by decide) rfl rfl ((zd2 hr7).le (.k (.k (.k .nil)))) ?_
    refine Oy (want:=false) hb6 ?_
    refine zdc (e:=r7) (by decide) rfl ?_
    refine Pf (.b (!r7)) hb6 ?_
    refine Om (.b (!r7)) ?_
    rcases bft (!r7) with hb8 | hb8
    ·replace hM:=ifT hM hb8
     refine On (want:=false) hb8 ?_
     refine On (want:=false) hb8 ?_
     refine On (want:=false) hb8 ?_
     refine On (want:=false) hb8 ?_
     refine Pt (.b true) hb8 ?_
     refine Om (.b true) ?_
     refine Og ?_
     refine Og ?_
     refine Og ?_
     refine Og ?_
     refine zaH (v:=.b true) (e:=true) (by decide) rfl rfl rfl ?_
     refine Ni ?_
     exact zai true (.k .nil) ⟨(hS.keep [] rfl).up (by omega),hM⟩
    ·replace hM:=ifF hM hb8
     refine Oy (want:=false) hb8 ?_
     refine Of ((Wire.cells a0)) zeT ?_
     refine Oy (want:=false) hb8 ?_
     refine Olp (.sl .no 3 (a0.Presses.map WirePress.cells)) zft zgU ?_
     refine Oy (want:=false) hb8 ?_
     refine zco (n:=a0.Presses.length) (by decide) rfl (List.length_map _) ziJ ?_
     refine Oy (want:=false) hb8 ?_
     refine Oi (.b (decide ((a0.Presses.length:Int)>8))) ?_
     refine Pf (.b (decide ((a0.Presses.length:Int)>8))) hb8 ?_
     refine Om (.b (decide ((a0.Presses.length:Int)>8))) ?_
     rcases bft (decide ((a0.Presses.length:Int)>8)) with hb9 | hb9
     ·replace hM:=ifT hM hb9
      refine On (want:=false) hb9 ?_
      refine On (want:=false) hb9 ?_
      refine On (want:=false) hb9 ?_
      refine On (want:=false) hb9 ?_
      refine Pt (.b true) hb9 ?_
      refine Ni ?_
      exact zai true (.k .nil) ⟨(hS.keep [] rfl).up (by omega),hM⟩
     ·replace hM:=ifF hM hb9
      refine Oy (want:=false) hb9 ?_
      refine Of ((Wire.cells a0)) zeT ?_
      refine Oy (want:=false) hb9 ?_
      refine Olp (.sl .no 3 (a0.Presses.map WirePress.cells)) zft zgU ?_
      refine Oy (want:=false) hb9 ?_
      refine Om (.fn (.func 56) [] [.ep (Wire.cells a0)]) ?_
      refine Oy (want:=false) hb9 ?_
      obtain ⟨r10,hr10,hM⟩:=zal hM
      refine zat (bs:=[.sl .no 3 (a0.Presses.map WirePress.cells),.fn (.func 56) [] [.ep (Wire.cells a0)]]) (by decide) rfl rfl (ze5 ((zc7 (Lo:=(fun (_:Unit)=>[]))  (fun _ _=>zd8) (fun _=>List.nodup_nil) (fun _=>zd3) (aF:=(fun (x0:WirePress) (_:Unit)=>(zdZ x0 a0).map fun y=>(y,()))) (fun _ H hH=>(.fn _ _ _ zbV (zaM (.ep _ (zaM (show Go.AM.Pure _ from .v _).inH (zaM (show Go.AM.Pure _ from .v _).inH (zaM (show Go.AM.Pure _ from .sl _ _ (zau (fun x=>(zaa (.v _) (zaa (.v _) (zaa (.v _) zaC)))))).inH (zaM (show Go.AM.Pure _ from .v _).inH zbV))))) zbV))) rfl (fun h=>ziG (zkn (zfa h))) hr10).le (.k (.k .nil)))) ?_
      refine Pf (.b r10.1) hb9 ?_
      refine Ni ?_
      exact zai r10.1 (.k .nil) ⟨(hS.keep [] rfl).up (by omega),hM⟩
theorem ziw {n:Nat} {a0:Wire} {r:(Option Wiring_)} (hM:zhC n a0=some r):zav Tryz.prog 29 [.agg (Wire.cells a0)] (pA Wiring_.cells r):=by
 refine zan mixed Tryz.func29 rfl (by decide) Tryz.ntmps29 (by simp) ?pure fun H0 g hf=>?_
 case pure=>exact zhO (fun x=>(zaa (.v _) (zaa (.v _) (zaa (.sl _ _ (zau (fun x=>(zaa (.v _) (zaa (.v _) (zaa (.v _) zaC)))))) (zaa (.v _) (zaa (.sl _ _ (zau (fun x=>(zaa (.v _) (zaa (.v _) (zaa (.v _) zaC)))))) zaC)))))) _
 rw [zag]
 change wpA _ _ _ _ (Fr.of [(0,.agg (Wire.cells a0))]) H0 g
 have hS:=St.start hf
 refine Sq ?_
 refine Rg 2 ?_
 refine zbP (v:=.agg (Wire.cells a0)) (cs:=(Wire.cells a0)) hS (by decide) rfl rfl (by omega) fun H hS=>?_
 refine Oa (pA Wiring_.cells (none:Option Wiring_)) ?_
 refine Ni ?_
 refine zaT (L':=[]) 0 1 hS rfl rfl rfl fun H hS=>?_
 refine Ws ?_
 refine Sq ?_
 refine Rg 4 ?_
 refine Olg (.agg (Wire.cells a0)) zcd ?_
 refine zcm (cs:=[.i a0.Letters,.i a0.Numbers,.sl .no 3 (a0.Presses.map WirePress.cells),.i a0.Faults,.sl .nil 0 []]) (by decide) zqe zta rfl ?_
 refine zbP (v:=.agg [.i a0.Letters,.i a0.Numbers,.sl .no 3 (a0.Presses.map WirePress.cells),.i a0.Faults,.sl .nil 0 []]) (cs:=[.i a0.Letters,.i a0.Numbers,.sl .no 3 (a0.Presses.map WirePress.cells),.i a0.Faults,.sl .nil 0 []]) hS (by decide) rfl rfl (by omega) fun H hS=>?_
 refine Oa (.ptr (g+2+2) 0) ?_
 refine Ni ?_
 refine zk5 (cs':=[.i a0.Letters,.i a0.Numbers,.sl .no 3 (a0.Presses.map WirePress.cells),.i a0.Faults,.sl (.id (g+2+4)) 3 (([]:List WireFault).map WireFault.cells)]) (L':=[(g+2+2,.cells [.i a0.Letters,.i a0.Numbers,.sl .no 3 (a0.Presses.map WirePress.cells),.i a0.Faults,.sl (.id (g+2+4)) 3 (([]:List WireFault).map WireFault.cells)])]) 0 4 3 82 hS (by omega) (by decide) rfl rfl rfl rfl fun H hS=>?_
 refine Ws ?_
 refine zaF (J:=(List WireFault)) (fun j=>[(3,.ptr (g+2+2) 0)]) (fun j H' g'=>St (·<g) H0 [(g+2+4,.row 82 j.length),(g+2+2,.cells [.i a0.Letters,.i a0.Numbers,.sl .no 3 (a0.Presses.map WirePress.cells),.i a0.Faults,.sl (.id (g+2+4)) 3 (j.map WireFault.cells)])] H' g'/\zhQ a0 j=some r) ?_ ?_
 ·rintro v1 H g1 ⟨hS,hM⟩
  change wpA _ _ _ _ (Fr.of [(3,.ptr (g+2+2) 0)]) _ _
  replace hS:St (·<g) H0 [(g+2+4,.row 82 v1.length),(g+2+2,.cells [.i a0.Letters,.i a0.Numbers,.sl .no 3 (a0.Presses.map WirePress.cells),.i a0.Faults,.sl (.id (g+2+4)) 3 (v1.map WireFault.cells)])] H g1:=hS
  replace hM:zhQ a0 v1=some r:=hM
  refine Sq ?_
  refine Rg 2 ?_
  refine Om (.ptr (g+2+2) 0) ?_
  refine Oa (.ptr (g+2+2) 0) ?_
  refine Ni ?_
  refine zuc (cs':=[.i a0.Letters,.i a0.Numbers,.sl .no 3 (a0.Presses.map WirePress.cells),.i a0.Faults,.sl .no 3 (v1.map WireFault.cells)]) (L':=[(g+2+4,.row 82 v1.length),(g+2+2,.cells [.i a0.Letters,.i a0.Numbers,.sl .no 3 (a0.Presses.map WirePress.cells),.i a0.Faults,.sl .no 3 (v1.map WireFault.cells)])]) 1 hS rfl (.k (.k (.k (.k (.cons (.sl _ _ _) .nil))))) rfl fun H hS=>?_
  refine zaT (L':=[(g+2+4,.row 82 v1.length)]) 1 2 hS rfl rfl rfl fun H hS=>?_
  replace hS:=hS.keep (L':=[]) [false] rfl
  refine Ws ?_
  refine zaB ?_
  refine zaO (x:=.ep [.i a0.Letters,.i a0.Numbers,.sl .no 3 (a0.Presses.map WirePress.cells),.i a0.Faults,.sl .no 3 (v1.map WireFault.cells)]) (f:=fun r=>pA Wiring_.cells r) (.inr rfl) ?_ (.refl _) (Option.some.inj hM) hS
  exact (zam (zad (x:=.ep [.i a0.Letters,.i a0.Numbers,.sl .no 3 (a0.Presses.map WirePress.cells),.i a0.Faults,.sl .no 3 (v1.map WireFault.cells)]) rfl))
 ·refine Sq ?_
  refine Rg 2 ?_
  refine zcm (cs:=[.i 1,.i 2,.i 3,.i 4]) (by decide) zqf ztb rfl ?_
  refine Om (.i 0) ?_
  refine Ni ?_
  refine Ws ?_
  refine zap ?_
  refine zbI (V:=Int×(List WireFault)) (fun v=>[(1,.ep (Wire.cells a0)),(3,.ptr (g+2+2) 0),(12,.agg [.i 1,.i 2,.i 3,.i 4]),(13,.i v.1)]) (fun v m3 H' g'=>St (·<g) H0 [(g+2+4,.row 82 v.2.length),(g+2+2,.cells [.i a0.Letters,.i a0.Numbers,.sl .no 3 (a0.Presses.map WirePress.cells),.i a0.Faults,.sl (.id (g+2+4)) 3 (v.2.map WireFault.cells)])] H' g'/\zaS n a0 m3 v.1 v.2=some r) (n:=n) (0,([]:List WireFault)) (.k (.k (.k (.k .nil)))) ⟨(hS.keep [true,true] rfl).up (by omega),hM⟩ ?_
  rintro ⟨v3,v4⟩ m3 H g3 ⟨hS,hM⟩
  obtain _ | m3:=m3
  ·exact nomatch (show none=some _ from hM)
  change wpA _ _ _ _ (Fr.of [(1,.ep (Wire.cells a0)),(3,.ptr (g+2+2) 0),(12,.agg [.i 1,.i 2,.i 3,.i 4]),(13,.i v3)]) _ _
  replace hS:St (·<g) H0 [(g+2+4,.row 82 v4.length),(g+2+2,.cells [.i a0.Letters,.i a0.Numbers,.sl .no 3 (a0.Presses.map WirePress.cells),.i a0.Faults,.sl (.id (g+2+4)) 3 (v4.map WireFault.cells)])] H g3:=hS
  replace hM:zim n a0 (zaS n a0 m3) v3 v4=some r:=hM
  refine Sq ?_
  refine Rg 1 ?_
  refine Oi (.b (decide (v3<4))) ?_
  refine Ni ?_
  refine Ws ?_
  refine Sq ?_
  rcases bft (decide (v3<4)) with hb5 | hb5
  ·replace hM:=ifT hM hb5
   refine Ct hb5 ?_
   refine zas ?_
   refine Ws ?_
   refine zaF (J:=(List WireFault)) (fun j=>[(1,.ep (Wire.cells a0)),(3,.ptr (g+2+2) 0),(12,.agg [.i 1,.i 2,.i 3,.i 4]),(13,.i v3)]) (fun j H' g'=>St (·<g) H0 [(g+2+4,.row 82 j.length),(g+2+2,.cells [.i a0.Letters,.i a0.Numbers,.sl .no 3 (a0.Presses.map WirePress.cells),.i a0.Faults,.sl (.id (g+2+4)) 3 (j.map WireFault.cells)])] H' g'/\zhR (zaS n a0 m3) v3 j=some r) ?_ ?_
   ·rintro v6 H g4 ⟨hS,hM⟩
    change wpA _ _ _ _ (Fr.of [(1,.ep (Wire.cells a0)),(3,.ptr (g+2+2) 0),(12,.agg [.i 1,.i 2,.i 3,.i 4]),(13,.i v3)]) _ _
    replace hS:St (·<g) H0 [(g+2+4,.row 82 v6.length),(g+2+2,.cells [.i a0.Letters,.i a0.Numbers,.sl .no 3 (a0.Presses.map WirePress.cells),.i a0.Faults,.sl (.id (g+2+4)) 3 (v6.map WireFault.cells)])] H g4:=hS
    replace hM:zhR (zaS n a0 m3) v3 v6=some r:=hM
    refine Rg 2 ?_
    refine Oi (.i (w64 (v3+1))) ?_
    refine Om (.i (w64 (v3+1))) ?_
    refine Ni ?_
    exact za4 (w64 (v3+1),v6) (Nat.lt_succ_self _) (.k (.k (.k (.k .nil)))) ⟨(hS.keep [true,true] rfl).up (by omega),hM⟩
   ·refine zap ?_
    refine Sq ?_
    refine Rg 2 ?_
    obtain ⟨x7,hx7,hM⟩:=zal hM
    refine zpb (v:=.i x7) (cs:=[.i 1,.i 2,.i 3,.i 4]) (z:=v3) (by decide) rfl rfl zrI (ziQ hx7).1 (zoB hx7) (zsS (xs:=([1,2,3,4]:List Int)) zac zah rfl hx7) ?_
    refine Oa (.i x7) ?_
    refine Ni ?_
    refine Ws ?_
    refine Sq ?_
    refine Rg 3 ?_
    refine Of ((Wire.cells a0)) zdX ?_
    refine Olp (.i a0.Letters) zac zah ?_
    refine Oa (.i a0.Letters) ?_
    refine Ni ?_
    refine Ws ?_
    refine zaF (J:=Int) (fun j=>[(1,.ep (Wire.cells a0)),(3,.ptr (g+2+2) 0),(5,.i x7),(6,.i j),(12,.agg [.i 1,.i 2,.i 3,.i 4]),(13,.i v3)]) (fun j H' g'=>St (·<g) H0 [(g+2+4,.row 82 v4.length),(g+2+2,.cells [.i a0.Letters,.i a0.Numbers,.sl .no 3 (a0.Presses.map WirePress.cells),.i a0.Faults,.sl (.id (g+2+4)) 3 (v4.map WireFault.cells)])] H' g'/\zgt n (zaS n a0 m3) v3 v4 x7 j=some r) ?_ ?_
    ·rintro v8 H g5 ⟨hS,hM⟩
     change wpA _ _ _ _ (Fr.of [(1,.ep (Wire.cells a0)),(3,.ptr (g+2+2) 0),(5,.i x7),(6,.i v8),(12,.agg [.i 1,.i 2,.i 3,.i 4]),(13,.i v3)]) _ _
     replace hS:St (·<g) H0 [(g+2+4,.row 82 v4.length),(g+2+2,.cells [.i a0.Letters,.i a0.Numbers,.sl .no 3 (a0.Presses.map WirePress.cells),.i a0.Faults,.sl (.id (g+2+4)) 3 (v4.map WireFault.cells)])] H g5:=hS
     replace hM:zgt n (zaS n a0 m3) v3 v4 x7 v8=some r:=hM
     refine Sq ?_
     refine Rg 2 ?_
     refine Om (.i v8) ?_
     refine Om (.i 0) ?_
     refine Ni ?_
     refine Ws ?_
     refine zap ?_
     refine zbI (V:=Int×(List WireFault)) (fun v=>[(1,.ep (Wire.cells a0)),(3,.ptr (g+2+2) 0),(5,.i x7),(6,.i v8),(12,.agg [.i 1,.i 2,.i 3,.i 4]),(13,.i v3),(26,.i v8),(27,.i v.1)]) (fun v m7 H' g'=>St (·<g) H0 [(g+2+4,.row 82 v.2.length),(g+2+2,.cells [.i a0.Letters,.i a0.Numbers,.sl .no 3 (a0.Presses.map WirePress.cells),.i a0.Faults,.sl (.id (g+2+4)) 3 (v.2.map WireFault.cells)])] H' g'/\zcb n (zaS n a0 m3) v3 x7 v8 m7 v.1 v.2=some r) (n:=n) (0,v4) (.k (.k (.k (.k (.k (.k (.k (.k .nil)))))))) ⟨(hS.keep [true,true] rfl).up (by omega),hM⟩ ?_
     rintro ⟨v10,v11⟩ m7 H g7 ⟨hS,hM⟩
     obtain _ | m7:=m7
     ·exact nomatch (show none=some _ from hM)
     change wpA _ _ _ _ (Fr.of [(1,.ep (Wire.cells a0)),(3,.ptr (g+2+2) 0),(5,.i x7),(6,.i v8),(12,.agg [.i 1,.i 2,.i 3,.i 4]),(13,.i v3),(26,.i v8),(27,.i v10)]) _ _
     replace hS:St (·<g) H0 [(g+2+4,.row 82 v11.length),(g+2+2,.cells [.i a0.Letters,.i a0.Numbers,.sl .no 3 (a0.Presses.map WirePress.cells),.i a0.Faults,.sl (.id (g+2+4)) 3 (v11.map WireFault.cells)])] H g7:=hS
     replace hM:zil n (zaS n a0 m3) v3 x7 v8 (zcb n (zaS n a0 m3) v3 x7 v8 m7) v10 v11=some r:=hM
     refine Sq ?_
     refine Rg 1 ?_
     refine Oi (.b (decide (v10<v8))) ?_
     refine Ni ?_
     refine Ws ?_
     refine Sq ?_
     rcases bft (decide (v10<v8)) with hb12 | hb12
     ·replace hM:=ifT hM hb12
      refine Ct hb12 ?_
      refine zas ?_
      refine Ws ?_
      refine zaF (J:=(List WireFault)) (fun j=>[(1,.ep (Wire.cells a0)),(3,.ptr (g+2+2) 0),(5,.i x7),(6,.i v8),(12,.agg [.i 1,.i 2,.i 3,.i 4]),(13,.i v3),(26,.i v8),(27,.i v10)]) (fun j H' g'=>St (·<g) H0 [(g+2+4,.row 82 j.length),(g+2+2,.cells [.i a0.Letters,.i a0.Numbers,.sl .no 3 (a0.Presses.map WirePress.cells),.i a0.Faults,.sl (.id (g+2+4)) 3 (j.map WireFault.cells)])] H' g'/\zgq (zcb n (zaS n a0 m3) v3 x7 v8 m7) v10 j=some r) ?_ ?_
      ·rintro v13 H g8 ⟨hS,hM⟩
       change wpA _ _ _ _ (Fr.of [(1,.ep (Wire.cells a0)),(3,.ptr (g+2+2) 0),(5,.i x7),(6,.i v8),(12,.agg [.i 1,.i 2,.i 3,.i 4]),(13,.i v3),(26,.i v8),(27,.i v10)]) _ _
       replace hS:St (·<g) H0 [(g+2+4,.row 82 v13.length),(g+2+2,.cells [.i a0.Letters,.i a0.Numbers,.sl .no 3 (a0.Presses.map WirePress.cells),.i a0.Faults,.sl (.id (g+2+4)) 3 (v13.map WireFault.cells)])] H g8:=hS
       replace hM:zgq (zcb n (zaS n a0 m3) v3 x7 v8 m7) v10 v13=some r:=hM
       refine Rg 2 ?_
       refine Oi (.i (w64 (v10+1))) ?_
       refine Om (.i (w64 (v10+1))) ?_
       refine Ni ?_
       exact za4 (w64 (v10+1),v13) (Nat.lt_succ_self _) (.k (.k (.k (.k (.k (.k (.k (.k .nil)))))))) ⟨(hS.keep [true,true] rfl).up (by omega),hM⟩
      ·refine zap ?_
       refine Sq ?_
       refine Rg 2 ?_
       refine Om (.i v10) ?_
       refine Oa (.i v10) ?_
       refine Ni ?_
       refine Ws ?_
       refine Sq ?_
       refine zaF (J:=Bool) (fun j=>[(1,.ep (Wire.cells a0)),(3,.ptr (g+2+2) 0),(5,.i x7),(6,.i v8),(7,.i v10),(12,.agg [.i 1,.i 2,.i 3,.i 4]),(13,.i v3),(26,.i v8),(27,.i v10),(35,.b j)]) (fun j H' g'=>St (·<g) H0 [(g+2+4,.row 82 v11.length),(g+2+2,.cells [.i a0.Letters,.i a0.Numbers,.sl .no 3 (a0.Presses.map WirePress.cells),.i a0.Faults,.sl (.id (g+2+4)) 3 (v11.map WireFault.cells)])] H' g'/\zgs n (zcb n (zaS n a0 m3) v3 x7 v8 m7) x7 v8 v10 v11 j=some r) ?_ ?_
       ·rintro v14 H g9 ⟨hS,hM⟩
        change wpA _ _ _ _ (Fr.of [(1,.ep (Wire.cells a0)),(3,.ptr (g+2+2) 0),(5,.i x7),(6,.i v8),(7,.i v10),(12,.agg [.i 1,.i 2,.i 3,.i 4]),(13,.i v3),(26,.i v8),(27,.i v10),(35,.b v14)]) _ _
        replace hS:St (·<g) H0 [(g+2+4,.row 82 v11.length),(g+2+2,.cells [.i a0.Letters,.i a0.Numbers,.sl .no 3 (a0.Presses.map WirePress.cells),.i a0.Faults,.sl (.id (g+2+4)) 3 (v11.map WireFault.cells)])] H g9:=hS
        replace hM:zgs n (zcb n (zaS n a0 m3) v3 x7 v8 m7) x7 v8 v10 v11 v14=some r:=hM
        rcases bft v14 with hb15 | hb15
        ·replace hM:=ifT hM hb15
         refine Ct hb15 ?_
         refine Sq ?_
         refine Rg 13 ?_
         refine Om (.ptr (g+2+2) 0) ?_
         refine Om (.ptr (g+2+2) 0) ?_
         refine zl0 (by decide) rfl ?_
         refine zaJ (by decide) zfL rfl ?_
         refine zaW (v:=.sl (.id (g+2+4)) 3 (v11.map WireFault.cells)) 1 hS (by decide) rfl rfl .no (po zfu zgV) ?_
         refine Om (.i x7) ?_
         refine Om (.i v10) ?_
         refine zcm (cs:=[.i x7,.i v10,.i 0]) (by decide) zdI ziq rfl ?_
         refine zaX (es:=[[.i x7,.i v10,.i 0]]) hS (by decide) zbH zd5 rfl zd6 rfl (by decide) (by omega) fun H hS=>?_
         obtain ⟨l16,hl16,hM⟩:=zal hM
         refine zdd (xs:=v11) (ys:=([(⟨x7,v10,0⟩:WireFault)]:List WireFault)) (zs:=l16) (f:=WireFault.cells) (L':=[(g9+8,.row 82 1),(g+2+4,.row 82 l16.length),(g+2+2,.cells [.i a0.Letters,.i a0.Numbers,.sl .no 3 (a0.Presses.map WirePress.cells),.i a0.Faults,.sl (.id (g+2+4)) 3 (v11.map WireFault.cells)])]) 1 hS (by decide) rfl rfl rfl rfl .no zbH zd5 zd6 hl16 rfl fun H hS=>?_
         refine zl0 (by decide) rfl ?_
         refine zaJ (by decide) zfL rfl ?_
         refine zaK (v:=.sl (.id (g+2+4)) 3 (l16.map WireFault.cells)) (ns:=[.sl (.id (g+2+4)) 3 (l16.map WireFault.cells)]) (L':=[(g9+8,.row 82 1),(g+2+4,.row 82 l16.length),(g+2+2,.cells [.i a0.Letters,.i a0.Numbers,.sl .no 3 (a0.Presses.map WirePress.cells),.i a0.Faults,.sl (.id (g+2+4)) 3 (l16.map WireFault.cells)])]) 2 hS rfl rfl .no rfl rfl zpn nlb rfl fun H hS=>?_
         refine Ni ?_
         replace hS:=hS.keep (L':=[(g+2+4,.row 82 l16.length),(g+2+2,.cells [.i a0.Letters,.i a0.Numbers,.sl .no 3 (a0.Presses.map WirePress.cells),.i a0.Faults,.sl (.id (g+2+4)) 3 (l16.map WireFault.cells)])]) [false,true,true] rfl
         refine Ws ?_
         refine zbw ?_
         refine zar ?_
         refine zaw ?_
         exact zai l16 (.k (.k (.k (.k (.k (.k (.k (.k .nil)))))))) ⟨(hS.keep [true,true] rfl).up (by omega),hM⟩
        ·replace hM:=ifF hM hb15
         refine Cf hb15 ?_
         refine zas ?_
         refine Ws ?_
         refine Sq ?_
         refine Rg 3 ?_
         refine Om (.i v10) ?_
         refine Oi (.i (w64 (v10+1))) ?_
         refine Oa (.i (w64 (v10+1))) ?_
         refine Ni ?_
         refine Ws ?_
         refine zap ?_
         refine zbI (V:=Int×(List WireFault)) (fun v=>[(1,.ep (Wire.cells a0)),(3,.ptr (g+2+2) 0),(5,.i x7),(6,.i v8),(7,.i v10),(8,.i v.1),(12,.agg [.i 1,.i 2,.i 3,.i 4]),(13,.i v3),(26,.i v8),(27,.i v10)]) (fun v m11 H' g'=>St (·<g) H0 [(g+2+4,.row 82 v.2.length),(g+2+2,.cells [.i a0.Letters,.i a0.Numbers,.sl .no 3 (a0.Presses.map WirePress.cells),.i a0.Faults,.sl (.id (g+2+4)) 3 (v.2.map WireFault.cells)])] H' g'/\zgr (zcb n (zaS n a0 m3) v3 x7 v8 m7) x7 v8 v10 m11 v.1 v.2=some r) (n:=n) (w64 (v10+1),v11) (.k (.k (.k (.k (.k (.k (.k (.k (.k (.k .nil)))))))))) ⟨(hS.keep [true,true] rfl).up (by omega),hM⟩ ?_
         rintro ⟨v18,v19⟩ m11 H g11 ⟨hS,hM⟩
         obtain _ | m11:=m11
         ·exact nomatch (show none=some _ from hM)
         change wpA _ _ _ _ (Fr.of [(1,.ep (Wire.cells a0)),(3,.ptr (g+2+2) 0),(5,.i x7),(6,.i v8),(7,.i v10),(8,.i v18),(12,.agg [.i 1,.i 2,.i 3,.i 4]),(13,.i v3),(26,.i v8),(27,.i v10)]) _ _
         replace hS:St (·<g) H0 [(g+2+4,.row 82 v19.length),(g+2+2,.cells [.i a0.Letters,.i a0.Numbers,.sl .no 3 (a0.Presses.map WirePress.cells),.i a0.Faults,.sl (.id (g+2+4)) 3 (v19.map WireFault.cells)])] H g11:=hS
         replace hM:zik (zcb n (zaS n a0 m3) v3 x7 v8 m7) x7 v8 v10 (zgr (zcb n (zaS n a0 m3) v3 x7 v8 m7) x7 v8 v10 m11) v18 v19=some r:=hM
         refine Sq ?_
         refine Sq ?_
         refine Rg 3 ?_
         refine Om (.i v18) ?_
         refine Om (.i v8) ?_
         refine Oi (.b (decide (v18<v8))) ?_
         refine Ni ?_
         refine Ws ?_
         rcases bft (decide (v18<v8)) with hb20 | hb20
         ·replace hM:=ifT hM hb20
          refine Ct hb20 ?_
          refine zas ?_
          refine Ws ?_
          refine Sq ?_
          refine zap ?_
          refine Rg 14 ?_
          refine Om (.ptr (g+2+2) 0) ?_
          refine Om (.ptr (g+2+2) 0) ?_
          refine zl0 (by decide) rfl ?_
          refine zaJ (by decide) zfL rfl ?_
          refine zaW (v:=.sl (.id (g+2+4)) 3 (v19.map WireFault.cells)) 1 hS (by decide) rfl rfl .no (po zfu zgV) ?_
          refine Om (.i x7) ?_
          refine Om (.i v10) ?_
          refine Om (.i v18) ?_
          refine zcm (cs:=[.i x7,.i v10,.i v18]) (by decide) zdI ziq rfl ?_
          refine zaX (es:=[[.i x7,.i v10,.i v18]]) hS (by decide) zbH zd5 rfl zd6 rfl (by decide) (by omega) fun H hS=>?_
          obtain ⟨l21,hl21,hM⟩:=zal hM
          refine zdd (xs:=v19) (ys:=([(⟨x7,v10,v18⟩:WireFault)]:List WireFault)) (zs:=l21) (f:=WireFault.cells) (L':=[(g11+3+9,.row 82 1),(g+2+4,.row 82 l21.length),(g+2+2,.cells [.i a0.Letters,.i a0.Numbers,.sl .no 3 (a0.Presses.map WirePress.cells),.i a0.Faults,.sl (.id (g+2+4)) 3 (v19.map WireFault.cells)])]) 1 hS (by decide) rfl rfl rfl rfl .no zbH zd5 zd6 hl21 rfl fun H hS=>?_
          refine zl0 (by decide) rfl ?_
          refine zaJ (by decide) zfL rfl ?_
          refine zaK (v:=.sl (.id (g+2+4)) 3 (l21.map WireFault.cells)) (ns:=[.sl (.id (g+2+4)) 3 (l21.map WireFault.cells)]) (L':=[(g11+3+9,.row 82 1),(g+2+4,.row 82 l21.length),(g+2+2,.cells [.i a0.Letters,.i a0.Numbers,.sl .no 3 (a0.Presses.map WirePress.cells),.i a0.Faults,.sl (.id (g+2+4)) 3 (l21.map WireFault.cells)])]) 2 hS rfl rfl .no rfl rfl zpn nlb rfl fun H hS=>?_
          refine Ni ?_
          refine zae ?_
          replace hS:=hS.keep (L':=[(g+2+4,.row 82 l21.length),(g+2+2,.cells [.i a0.Letters,.i a0.Numbers,.sl .no 3 (a0.Presses.map WirePress.cells),.i a0.Faults,.sl (.id (g+2+4)) 3 (l21.map WireFault.cells)])]) [false,true,true] rfl
          refine Ws ?_
          refine Rg 3 ?_
          refine Om (.i v18) ?_
          refine Oi (.i (w64 (v18+1))) ?_
          refine Oa (.i (w64 (v18+1))) ?_
          refine Ni ?_
          exact za4 (w64 (v18+1),l21) (Nat.lt_succ_self _) (.k (.k (.k (.k (.k (.k (.k (.k (.k (.k .nil)))))))))) ⟨(hS.keep [true,true] rfl).up (by omega),hM⟩
         ·replace hM:=ifF hM hb20
          refine Cf hb20 ?_
          refine zbw ?_
          refine zar ?_
          refine zao ?_
          refine zaw ?_
          refine zae ?_
          exact zai v19 (.k (.k (.k (.k (.k (.k (.k (.k .nil)))))))) ⟨(hS.keep [true,true] rfl).up (by omega),hM⟩
       ·refine Rg 6 ?_
        refine Om (.i x7) ?_
        refine Oi (.b (x7==1)) ?_
        refine Om (.b (x7==1)) ?_
        rcases bft (x7==1) with hb22 | hb22
        ·replace hM:=ifT hM hb22
         refine On (want:=false) hb22 ?_
         refine On (want:=false) hb22 ?_
         refine Pt (.b true) hb22 ?_
         refine Ni ?_
         exact zai true (.k (.k (.k (.k (.k (.k (.k (.k (.k (.k .nil)))))))))) ⟨(hS.keep [true,true] rfl).up (by omega),hM⟩
        ·replace hM:=ifF hM hb22
         refine Oy (want:=false) hb22 ?_
         refine Om (.i x7) ?_
         refine Oy (want:=false) hb22 ?_
         refine Oi (.b (x7==2)) ?_
         refine Pf (.b (x7==2)) hb22 ?_
         refine Ni ?_
         exact zai (x7==2) (.k (.k (.k (.k (.k (.k (.k (.k (.k (.k .nil)))))))))) ⟨(hS.keep [true,true] rfl).up (by omega),hM⟩
     ·replace hM:=ifF hM hb12
      refine Cf hb12 ?_
      refine zbw ?_
      refine zar ?_
      refine zao ?_
      refine zaw ?_
      refine zae ?_
      exact zai v11 (.k (.k (.k (.k .nil)))) ⟨(hS.keep [true,true] rfl).up (by omega),hM⟩
    ·refine zaF (J:=Bool) (fun j=>[(1,.ep (Wire.cells a0)),(3,.ptr (g+2+2) 0),(5,.i x7),(6,.i a0.Letters),(12,.agg [.i 1,.i 2,.i 3,.i 4]),(13,.i v3),(23,.b j)]) (fun j H' g'=>St (·<g) H0 [(g+2+4,.row 82 v4.length),(g+2+2,.cells [.i a0.Letters,.i a0.Numbers,.sl .no 3 (a0.Presses.map WirePress.cells),.i a0.Faults,.sl (.id (g+2+4)) 3 (v4.map WireFault.cells)])] H' g'/\zgu n (zaS n a0 m3) a0 v3 v4 x7 j=some r) ?_ ?_
     ·rintro v23 H g12 ⟨hS,hM⟩
      change wpA _ _ _ _ (Fr.of [(1,.ep (Wire.cells a0)),(3,.ptr (g+2+2) 0),(5,.i x7),(6,.i a0.Letters),(12,.agg [.i 1,.i 2,.i 3,.i 4]),(13,.i v3),(23,.b v23)]) _ _
      replace hS:St (·<g) H0 [(g+2+4,.row 82 v4.length),(g+2+2,.cells [.i a0.Letters,.i a0.Numbers,.sl .no 3 (a0.Presses.map WirePress.cells),.i a0.Faults,.sl (.id (g+2+4)) 3 (v4.map WireFault.cells)])] H g12:=hS
      replace hM:zgu n (zaS n a0 m3) a0 v3 v4 x7 v23=some r:=hM
      rcases bft v23 with hb24 | hb24
      ·replace hM:=ifT hM hb24
       refine Ct hb24 ?_
       refine Rg 3 ?_
       refine Of ((Wire.cells a0)) zdp ?_
       refine Olp (.i a0.Numbers) zac zah ?_
       refine Oa (.i a0.Numbers) ?_
       refine Ni ?_
       exact zai a0.Numbers (.k (.k (.k (.k (.k (.k .nil)))))) ⟨(hS.keep [true,true] rfl).up (by omega),hM⟩
      ·replace hM:=ifF hM hb24
       refine Cf hb24 ?_
       refine zas ?_
       exact zai a0.Letters (.k (.k (.k (.k (.k (.k .nil)))))) ⟨(hS.keep [true,true] rfl).up (by omega),hM⟩
     ·refine Rg 6 ?_
      refine Om (.i x7) ?_
      refine Oi (.b (x7==2)) ?_
      refine Om (.b (x7==2)) ?_
      rcases bft (x7==2) with hb25 | hb25
      ·replace hM:=ifT hM hb25
       refine On (want:=false) hb25 ?_
       refine On (want:=false) hb25 ?_
       refine Pt (.b true) hb25 ?_
       refine Ni ?_
       exact zai true (.k (.k (.k (.k (.k (.k (.k .nil))))))) ⟨(hS.keep [true,true] rfl).up (by omega),hM⟩
      ·replace hM:=ifF hM hb25
       refine Oy (want:=false) hb25 ?_
       refine Om (.i x7) ?_
       refine Oy (want:=false) hb25 ?_
       refine Oi (.b (x7==4)) ?_
       refine Pf (.b (x7==4)) hb25 ?_
       refine Ni ?_
       exact zai (x7==4) (.k (.k (.k (.k (.k (.k (.k .nil))))))) ⟨(hS.keep [true,true] rfl).up (by omega),hM⟩
  ·replace hM:=ifF hM hb5
   refine Cf hb5 ?_
   refine zbw ?_
   refine zar ?_
   refine zao ?_
   refine zaw ?_
   exact zai v4 (.k .nil) ⟨(hS.keep [true,true] rfl).up (by omega),hM⟩
theorem zg1 {n:Nat} {a0:List WireFault} {a1:WireFault} {r:Int} (hM:zbS n a0 a1=some r):zav Tryz.prog 82 [.sl .no 3 (a0.map WireFault.cells),.agg (WireFault.cells a1)] (.i r):=by
 refine zan mixed Tryz.func82 rfl (by decide) Tryz.ntmps82 (by simp) ?pure fun H0 g hf=>?_
 case pure=>exact .v _
 rw [zag]
 change wpA _ _ _ _ (Fr.of [(0,.sl .no 3 (a0.map WireFault.cells)),(1,.agg (WireFault.cells a1))]) H0 g
 have hS:=St.start hf
 refine Sq ?_
 refine Rg 2 ?_
 refine zbP (v:=.agg (WireFault.cells a1)) (cs:=(WireFault.cells a1)) hS (by decide) rfl rfl (by omega) fun H hS=>?_
 refine Oa (.i 0) ?_
 refine Ni ?_
 refine zaT (L':=[]) 0 3 hS rfl rfl rfl fun H hS=>?_
 refine Ws ?_
 refine zaF (J:=Unit) (fun j=>[]) (fun j H' g'=>St (·<g) H0 [] H' g'/\zb1=some r) ?_ ?_
 ·rintro _ H g1 ⟨hS,hM⟩
  change wpA _ _ _ _ (Fr.of []) _ _
  replace hS:St (·<g) H0 [] H g1:=hS
  replace hM:zb1=some r:=hM
  refine Sq ?_
  refine Rg 1 ?_
  refine Oa (.i (-1)) ?_
  refine Ni ?_
  refine Ws ?_
  refine zaB ?_
  refine zaO (x:=.i (-1)) (f:=fun r=>.i r) (.inr rfl) ?_ (.refl _) (Option.some.inj hM) hS
  exact (zam (zad (x:=.i (-1)) rfl))
 ·refine Sq ?_
  refine Rg 3 ?_
  refine Om (.sl .no 3 (a0.map WireFault.cells)) ?_
  refine zco (n:=a0.length) (by decide) rfl (List.length_map _) zeK ?_
  refine Om (.i 0) ?_
  refine Ni ?_
  refine Ws ?_
  refine zap ?_
  refine zbI (V:=Int) (fun v=>[(0,.sl .no 3 (a0.map WireFault.cells)),(3,.ep (WireFault.cells a1)),(7,.i (a0.length:Int)),(8,.i v)]) (fun v m2 H' g'=>St (·<g) H0 [] H' g'/\zaV a0 a1 m2 v=some r) (n:=n) 0 (.k (.k (.k (.k .nil)))) ⟨(hS.keep [] rfl).up (by omega),hM⟩ ?_
  rintro v1 m2 H g2 ⟨hS,hM⟩
  obtain _ | m2:=m2
  ·exact nomatch (show none=some _ from hM)
  change wpA _ _ _ _ (Fr.of [(0,.sl .no 3 (a0.map WireFault.cells)),(3,.ep (WireFault.cells a1)),(7,.i (a0.length:Int)),(8,.i v1)]) _ _
  replace hS:St (·<g) H0 [] H g2:=hS
  replace hM:zbL a0 a1 (zaV a0 a1 m2) v1=some r:=hM
  refine Sq ?_
  refine Rg 1 ?_
  refine Oi (.b (decide (v1<(a0.length:Int)))) ?_
  refine Ni ?_
  refine Ws ?_
  refine Sq ?_
  rcases bft (decide (v1<(a0.length:Int))) with hb2 | hb2
  ·replace hM:=ifT hM hb2
   refine Ct hb2 ?_
   refine zas ?_
   refine Ws ?_
   refine Sq ?_
   refine zap ?_
   refine Sq ?_
   refine Rg 2 ?_
   refine Om (.i v1) ?_
   refine Oa (.i v1) ?_
   refine Ni ?_
   refine Ws ?_
   refine Sq ?_
   have hS0:=hS
   refine zdy (n:=6) rfl (by kernel_rfl) ?_
   refine Olg (.agg (WireFault.cells a1)) zbU ?_
   refine Om (.sl .no 3 (a0.map WireFault.cells)) ?_
   refine Om (.i v1) ?_
   obtain ⟨x3,hx3,hM⟩:=zal hM
   refine zbj (xs:=a0) (f:=WireFault.cells) (z:=v1) (u:=x3) (by decide) rfl rfl zbH hx3 ?_
   refine Olg (.agg (WireFault.cells x3)) zbU ?_
   refine zve (cs:=(WireFault.cells a1)) (ds:=(WireFault.cells x3)) (e:=((a1.Kind==x3.Kind)&&((a1.A==x3.A)&&((a1.B==x3.B)&&true)))) (by decide) rfl rfl znC rfl ?_
   refine Ni ?_
   refine Ws ?_
   rcases bft ((a1.Kind==x3.Kind)&&((a1.A==x3.A)&&((a1.B==x3.B)&&true))) with hb4 | hb4
   ·replace hM:=ifT hM hb4
    refine Ct hb4 ?_
    refine Sq ?_
    refine Rg 2 ?_
    refine Om (.i v1) ?_
    refine Oa (.i v1) ?_
    refine Ni ?_
    refine Ws ?_
    refine zaB ?_
    refine zaq ?_
    refine zak ?_
    refine zaL ?_
    refine zaq ?_
    refine zaI ?_
    refine zaO (x:=.i v1) (f:=fun r=>.i r) (.inr rfl) ?_ (.refl _) (Option.some.inj hM) hS
    exact (zam (zad (x:=.i v1) rfl))
   ·replace hM:=ifF hM hb4
    refine Cf hb4 ?_
    refine zas ?_
    refine zae ?_
    refine Ws ?_
    refine Rg 2 ?_
    refine Oi (.i (w64 (v1+1))) ?_
    refine Om (.i (w64 (v1+1))) ?_
    refine Ni ?_
    exact za4 (w64 (v1+1)) (Nat.lt_succ_self _) (.k (.k (.k (.k .nil)))) ⟨(hS.keep [] rfl).up (by omega),hM⟩
  ·replace hM:=ifF hM hb2
   refine Cf hb2 ?_
   refine zbw ?_
   refine zar ?_
   refine zao ?_
   refine zaw ?_
   exact zai () .nil ⟨(hS.keep [] rfl).up (by omega),hM⟩
theorem zf4 {n:Nat} {a0:List WireFault} {a1:WireFault} {r:Bool} (hM:zb2 n a0 a1=some r):zav Tryz.prog 59 [.sl .no 3 (a0.map WireFault.cells),.agg (WireFault.cells a1)] (.b r):=by
 refine zan mixed Tryz.func59 rfl (by decide) Tryz.ntmps59 (by simp) ?pure fun H0 g hf=>?_
 case pure=>exact .v _
 rw [zag]
 change wpA _ _ _ _ (Fr.of [(0,.sl .no 3 (a0.map WireFault.cells)),(1,.agg (WireFault.cells a1))]) H0 g
 have hS:=St.start hf
 refine Sq ?_
 refine Rg 2 ?_
 refine zbP (v:=.agg (WireFault.cells a1)) (cs:=(WireFault.cells a1)) hS (by decide) rfl rfl (by omega) fun H hS=>?_
 refine Oa (.b false) ?_
 refine Ni ?_
 refine zaT (L':=[]) 0 3 hS rfl rfl rfl fun H hS=>?_
 refine Ws ?_
 refine Sq ?_
 refine Rg 5 ?_
 refine Om (.sl .no 3 (a0.map WireFault.cells)) ?_
 refine Olg (.agg (WireFault.cells a1)) zbU ?_
 obtain ⟨r1,hr1,hM⟩:=zal hM
 refine zat (bs:=[.sl .no 3 (a0.map WireFault.cells),.agg (WireFault.cells a1)]) (by decide) rfl rfl ((zg1 hr1).le (.k (.k .nil))) ?_
 refine Oi (.b (decide (r1≥0))) ?_
 refine Oa (.b (decide (r1≥0))) ?_
 refine Ni ?_
 refine zej [(4,.b (decide (r1≥0)))] (.k .nil) ?_
 refine zaB ?_
 refine zaO (x:=.b (decide (r1≥0))) (f:=fun r=>.b r) (.inr rfl) ?_ (.refl _) (Option.some.inj hM) hS
 exact (zam (zad (x:=.b (decide (r1≥0))) rfl))
theorem znH {n:Nat} {a0:List Int} {r:Int} (hM:ziI n a0=some r):zav Tryz.prog 83 [.sl .no 1 (a0.map cI)] (.i r):=by
 refine zan mixed Tryz.func83 rfl (by decide) Tryz.ntmps83 (by simp) ?pure fun H0 g hf=>?_
 case pure=>exact .v _
 rw [zag]
 change wpA _ _ _ _ (Fr.of [(0,.sl .no 1 (a0.map cI))]) H0 g
 have hS:=St.start hf
 refine Sq ?_
 refine Rg 1 ?_
 refine Oa (.i 0) ?_
 refine Ni ?_
 refine Ws ?_
 refine Sq ?_
 refine Rg 1 ?_
 refine Oa (.i 0) ?_
 refine Ni ?_
 refine Ws ?_
 refine zaF (J:=Unit) (fun j=>[(3,.i 0)]) (fun j H' g'=>St (·<g) H0 [] H' g'/\zgv=some r) ?_ ?_
 ·rintro _ H g1 ⟨hS,hM⟩
  change wpA _ _ _ _ (Fr.of [(3,.i 0)]) _ _
  replace hS:St (·<g) H0 [] H g1:=hS
  replace hM:zgv=some r:=hM
  refine Sq ?_
  refine Rg 2 ?_
  refine Om (.i 0) ?_
  refine Oa (.i 0) ?_
  refine Ni ?_
  refine Ws ?_
  refine zaB ?_
  refine zaO (x:=.i 0) (f:=fun r=>.i r) (.inr rfl) ?_ (.refl _) (Option.some.inj hM) hS
  exact (zam (zad (x:=.i 0) rfl))
 ·refine Sq ?_
  refine Rg 3 ?_
  refine Om (.sl .no 1 (a0.map cI)) ?_
  refine zco (n:=a0.length) (by decide) rfl (List.length_map _) zbc ?_
  refine Om (.i 0) ?_
  refine Ni ?_
  refine Ws ?_
  refine zap ?_
  refine zbI (V:=Int) (fun v=>[(3,.i 0),(6,.sl .no 1 (a0.map cI)),(7,.i (a0.length:Int)),(8,.i v)]) (fun v m2 H' g'=>St (·<g) H0 [] H' g'/\zdQ a0 m2 v=some r) (n:=n) 0 (.k (.k (.k (.k .nil)))) ⟨(hS.keep [] rfl).up (by omega),hM⟩ ?_
  rintro v1 m2 H g2 ⟨hS,hM⟩
  obtain _ | m2:=m2
  ·exact nomatch (show none=some _ from hM)
  change wpA _ _ _ _ (Fr.of [(3,.i 0),(6,.sl .no 1 (a0.map cI)),(7,.i (a0.length:Int)),(8,.i v1)]) _ _
  replace hS:St (·<g) H0 [] H g2:=hS
  replace hM:zfn a0 (zdQ a0 m2) v1=some r:=hM
  refine Sq ?_
  refine Rg 1 ?_
  refine Oi (.b (decide (v1<(a0.length:Int)))) ?_
  refine Ni ?_
  refine Ws ?_
  refine Sq ?_
  rcases bft (decide (v1<(a0.length:Int))) with hb2 | hb2
  ·replace hM:=ifT hM hb2
   refine Ct hb2 ?_
   refine zas ?_
   refine Ws ?_
   refine Sq ?_
   refine zap ?_
   refine Sq ?_
   refine Rg 3 ?_
   obtain ⟨x3,hx3,hM⟩:=zal hM
   refine zbj (xs:=a0) (f:=cI) (z:=v1) (u:=x3) (by decide) rfl rfl zbi hx3 ?_
   refine Olp (.i x3) zac zah ?_
   refine Oa (.i x3) ?_
   refine Ni ?_
   refine Ws ?_
   refine Sq ?_
   refine Rg 3 ?_
   refine Om (.i x3) ?_
   refine Om (.i 0) ?_
   refine Oi (.b (x3 != 0)) ?_
   refine Ni ?_
   refine Ws ?_
   rcases bft (x3 != 0) with hb4 | hb4
   ·replace hM:=ifT hM hb4
    refine Ct hb4 ?_
    refine Sq ?_
    refine Rg 2 ?_
    refine Om (.i x3) ?_
    refine Oa (.i x3) ?_
    refine Ni ?_
    refine Ws ?_
    refine zaB ?_
    refine zaq ?_
    refine zak ?_
    refine zaL ?_
    refine zaq ?_
    refine zaI ?_
    refine zaO (x:=.i x3) (f:=fun r=>.i r) (.inr rfl) ?_ (.refl _) (Option.some.inj hM) hS
    exact (zam (zad (x:=.i x3) rfl))
   ·replace hM:=ifF hM hb4
    refine Cf hb4 ?_
    refine zas ?_
    refine zae ?_
    refine Ws ?_
    refine Rg 2 ?_
    refine Oi (.i (w64 (v1+1))) ?_
    refine Om (.i (w64 (v1+1))) ?_
    refine Ni ?_
    exact za4 (w64 (v1+1)) (Nat.lt_succ_self _) (.k (.k (.k (.k .nil)))) ⟨(hS.keep [] rfl).up (by omega),hM⟩
  ·replace hM:=ifF hM hb2
   refine Cf hb2 ?_
   refine zbw ?_
   refine zar ?_
   refine zao ?_
   refine zaw ?_
   exact zai () (.k .nil) ⟨(hS.keep [] rfl).up (by omega),hM⟩
theorem zix {a0:Int} {r:Bool} (hM:cmp_isNaN_int a0=some r):zav Tryz.prog 101 [.i a0] (.b r):=by
 refine zan mixed Tryz.func101 rfl (by decide) Tryz.ntmps101 (by simp) ?pure fun H0 g hf=>?_
 case pure=>exact .v _
 rw [zag]
 change wpA _ _ _ _ (Fr.of [(0,.i a0)]) H0 g
 have hS:=St.start hf
 refine Sq ?_
 refine Rg 1 ?_
 refine Oa (.b false) ?_
 refine Ni ?_
 refine Ws ?_
 refine Sq ?_
 refine Rg 4 ?_
 refine Om (.i a0) ?_
 refine Om (.i a0) ?_
 refine Oi (.b (a0 != a0)) ?_
 refine Oa (.b (a0 != a0)) ?_
 refine Ni ?_
 refine zej [(2,.b (a0 != a0))] (.k .nil) ?_
 refine zaB ?_
 refine zaO (x:=.b (a0 != a0)) (f:=fun r=>.b r) (.inr rfl) ?_ (.refl _) (Option.some.inj hM) hS
 exact (zam (zad (x:=.b (a0 != a0)) rfl))
theorem zfO {a0:Int} {a1:Int} {r:Int} (hM:cmp_Compare_int a0 a1=some r):zav Tryz.prog 84 [.i a0,.i a1] (.i r):=by
 refine zan mixed Tryz.func84 rfl (by decide) Tryz.ntmps84 (by simp) ?pure fun H0 g hf=>?_
 case pure=>exact .v _
 rw [zag]
 change wpA _ _ _ _ (Fr.of [(0,.i a0),(1,.i a1)]) H0 g
 have hS:=St.start hf
 refine Sq ?_
 refine Rg 1 ?_
 refine Oa (.i 0) ?_
 refine Ni ?_
 refine Ws ?_
 refine Sq ?_
 refine Rg 3 ?_
 refine Om (.i a0) ?_
 obtain ⟨r1,hr1,hM⟩:=zal hM
 refine zat (bs:=[.i a0]) (by decide) rfl rfl ((zix hr1).le (.k .nil)) ?_
 refine Oa (.b r1) ?_
 refine Ni ?_
 refine Ws ?_
 refine Sq ?_
 refine Rg 3 ?_
 refine Om (.i a1) ?_
 obtain ⟨r2,hr2,hM⟩:=zal hM
 refine zat (bs:=[.i a1]) (by decide) rfl rfl ((zix hr2).le (.k .nil)) ?_
 refine Oa (.b r2) ?_
 refine Ni ?_
 refine Ws ?_
 refine Sq ?_
 refine Sq ?_
 refine Rg 1 ?_
 refine Om (.b r1) ?_
 refine Ni ?_
 refine Ws ?_
 rcases bft r1 with hb3 | hb3
 ·replace hM:=ifT hM hb3
  refine Ct hb3 ?_
  refine Sq ?_
  refine Sq ?_
  refine Rg 1 ?_
  refine Om (.b r2) ?_
  refine Ni ?_
  refine Ws ?_
  rcases bft r2 with hb4 | hb4
  ·replace hM:=ifT hM hb4
   refine Ct hb4 ?_
   refine Sq ?_
   refine Rg 1 ?_
   refine Oa (.i 0) ?_
   refine Ni ?_
   refine Ws ?_
   refine zaB ?_
   refine zak ?_
   refine zak ?_
   refine zaO (x:=.i 0) (f:=fun r=>.i r) (.inr rfl) ?_ (.refl _) (Option.some.inj hM) hS
   exact (zam (zad (x:=.i 0) rfl))
  ·replace hM:=ifF hM hb4
   refine Cf hb4 ?_
   refine zas ?_
   refine Ws ?_
   refine Sq ?_
   refine Rg 1 ?_
   refine Oa (.i (-1)) ?_
   refine Ni ?_
   refine Ws ?_
   refine zaB ?_
   refine zak ?_
   refine zaO (x:=.i (-1)) (f:=fun r=>.i r) (.inr rfl) ?_ (.refl _) (Option.some.inj hM) hS
   exact (zam (zad (x:=.i (-1)) rfl))
 ·replace hM:=ifF hM hb3
  refine Cf hb3 ?_
  refine zas ?_
  refine Ws ?_
  refine Sq ?_
  refine Sq ?_
  refine Rg 1 ?_
  refine Om (.b r2) ?_
  refine Ni ?_
  refine Ws ?_
  rcases bft r2 with hb5 | hb5
  ·replace hM:=ifT hM hb5
   refine Ct hb5 ?_
   refine Sq ?_
   refine Rg 1 ?_
   refine Oa (.i 1) ?_
   refine Ni ?_
   refine Ws ?_
   refine zaB ?_
   refine zak ?_
   refine zaO (x:=.i 1) (f:=fun r=>.i r) (.inr rfl) ?_ (.refl _) (Option.some.inj hM) hS
   exact (zam (zad (x:=.i 1) rfl))
  ·replace hM:=ifF hM hb5
   refine Cf hb5 ?_
   refine zas ?_
   refine Ws ?_
   refine Sq ?_
   refine Sq ?_
   refine Rg 3 ?_
   refine Om (.i a0) ?_
   refine Om (.i a1) ?_
   refine Oi (.b (decide (a0<a1))) ?_
   refine Ni ?_
   refine Ws ?_
   rcases bft (decide (a0<a1)) with hb6 | hb6
   ·replace hM:=ifT hM hb6
    refine Ct hb6 ?_
    refine Sq ?_
    refine Rg 1 ?_
    refine Oa (.i (-1)) ?_
    refine Ni ?_
    refine Ws ?_
    refine zaB ?_
    refine zak ?_
    refine zaO (x:=.i (-1)) (f:=fun r=>.i r) (.inr rfl) ?_ (.refl _) (Option.some.inj hM) hS
    exact (zam (zad (x:=.i (-1)) rfl))
   ·replace hM:=ifF hM hb6
    refine Cf hb6 ?_
    refine zas ?_
    refine Ws ?_
    refine Sq ?_
    refine Sq ?_
    refine Rg 3 ?_
    refine Om (.i a0) ?_
    refine Om (.i a1) ?_
    refine Oi (.b (decide (a0>a1))) ?_
    refine Ni ?_
    refine Ws ?_
    rcases bft (decide (a0>a1)) with hb7 | hb7
    ·replace hM:=ifT hM hb7
     refine Ct hb7 ?_
     refine Sq ?_
     refine Rg 1 ?_
     refine Oa (.i 1) ?_
     refine Ni ?_
     refine Ws ?_
     refine zaB ?_
     refine zak ?_
     refine zaO (x:=.i 1) (f:=fun r=>.i r) (.inr rfl) ?_ (.refl _) (Option.some.inj hM) hS
     exact (zam (zad (x:=.i 1) rfl))
    ·replace hM:=ifF hM hb7
     refine Cf hb7 ?_
     refine zas ?_
     refine Ws ?_
     refine Sq ?_
     refine Rg 1 ?_
     refine Oa (.i 0) ?_
     refine Ni ?_
     refine zej [(4,.i 0)] (.k .nil) ?_
     refine zaB ?_
     refine zaO (x:=.i 0) (f:=fun r=>.i r) (.inr rfl) ?_ (.refl _) (Option.some.inj hM) hS
     exact (zam (zad (x:=.i 0) rfl))
theorem zmO {n:Nat} {a0:WireFault} {a1:WireFault} {r:Int} (hM:zhS n a0 a1=some r):zav Tryz.prog 60 [.agg (WireFault.cells a0),.agg (WireFault.cells a1)] (.i r):=by
 refine zan mixed Tryz.func60 rfl (by decide) Tryz.ntmps60 (by simp) ?pure fun H0 g hf=>?_
 case pure=>exact .v _
 rw [zag]
 change wpA _ _ _ _ (Fr.of [(0,.agg (WireFault.cells a0)),(1,.agg (WireFault.cells a1))]) H0 g
 have hS:=St.start hf
 refine Sq ?_
 refine Rg 3 ?_
 refine zbP (v:=.agg (WireFault.cells a0)) (cs:=(WireFault.cells a0)) hS (by decide) rfl rfl (by omega) fun H hS=>?_
 refine zbP (v:=.agg (WireFault.cells a1)) (cs:=(WireFault.cells a1)) hS (by decide) rfl rfl (by omega) fun H hS=>?_
 refine Oa (.i 0) ?_
 refine Ni ?_
 refine zaT (L':=[(g+1,.cells (WireFault.cells a1))]) 1 2 hS rfl rfl rfl fun H hS=>?_
 refine zaT (L':=[]) 0 3 hS rfl rfl rfl fun H hS=>?_
 refine Ws ?_
 refine Sq ?_
 have hS0:=hS
 refine zdy (n:=18) rfl (by kernel_rfl) ?_
 refine Of ((WireFault.cells a0)) zeu ?_
 refine Olp (.i a0.Kind) zac zah ?_
 refine Of ((WireFault.cells a1)) zeu ?_
 refine Olp (.i a1.Kind) zac zah ?_
 obtain ⟨r1,hr1,hM⟩:=zal hM
 refine zat (bs:=[.i a0.Kind,.i a1.Kind]) (by decide) rfl rfl ((zfO hr1).le (.k (.k .nil))) ?_
 refine Of ((WireFault.cells a0)) zcO ?_
 refine Olp (.i a0.A) zac zah ?_
 refine Of ((WireFault.cells a1)) zcO ?_
 refine Olp (.i a1.A) zac zah ?_
 obtain ⟨r2,hr2,hM⟩:=zal hM
 refine zat (bs:=[.i a0.A,.i a1.A]) (by decide) rfl rfl ((zfO hr2).le (.k (.k .nil))) ?_
 refine Of ((WireFault.cells a0)) zdq ?_
 refine Olp (.i a0.B) zac zah ?_
 refine Of ((WireFault.cells a1)) zdq ?_
 refine Olp (.i a1.B) zac zah ?_
 obtain ⟨r3,hr3,hM⟩:=zal hM
 refine zat (bs:=[.i a0.B,.i a1.B]) (by decide) rfl rfl ((zfO hr3).le (.k (.k .nil))) ?_
 refine zaX (es:=[[.i r1],[.i r2],[.i r3]]) hS (by decide) zbi zes rfl zet rfl (by decide) (by omega) fun H hS=>?_
 obtain ⟨r4,hr4,hM⟩:=zal hM
 refine zat (bs:=[.sl (.id (g+3+15)) 1 (([r1,r2,r3]:List Int).map cI)]) (by decide) rfl rfl ((znH hr4).le (.cons (.sl _ _ _) .nil)) ?_
 refine Oa (.i r4) ?_
 refine Ni ?_
 replace hS:=hS.keep (L':=[]) [false] rfl
 refine Ws ?_
 refine zaB ?_
 refine zaO (x:=.i r4) (f:=fun r=>.i r) (.inr rfl) ?_ (.refl _) (Option.some.inj hM) hS
 exact (zam (zad (x:=.i r4) rfl))
theorem zfP {S:Type} {Lo:S->BL} (hk:∀s s',zgl (Lo s) (Lo s')) (hnd:∀s,(ids (Lo s)).Nodup) (hin:∀s,InB In (Lo s)) {aF:WireFault->S->Option (Bool×S)} {f0:AV} (hF:∀s H,Has H (Lo s)->In H f0) (h0:cellsOf f0=some [f0]) (hf:∀{x0:WireFault} {s:S} {r:Bool×S},aF x0 s=some r->zjP Tryz.prog f0 [.agg (WireFault.cells x0)] (Lo s) (.b r.1) (Lo r.2)) {n:Nat} {a0:List WireFault} {st:S} {r:Int×S} (hM:zcK n aF a0 st=some r):zhv Tryz.prog 85 [.sl .no 3 (a0.map WireFault.cells),f0] (Lo st) (.i r.1) (Lo r.2):=by
 have hnd0:∀s,(ids (Lo s)).Nodup:=fun s=>hnd s
 refine zbg mixed Tryz.func85 rfl (by decide) Tryz.ntmps85 (by simp) (hk _ _) (hnd st) ?pure ?cells fun H0 g hf_ hp=>?_
 case pure=>exact fun H _=>(show Go.AM.Pure _ from .v _).inH
 case cells=>exact hin _
 rw [zag]
 change wpA _ _ _ _ (Fr.of [(0,.sl .no 3 (a0.map WireFault.cells)),(1,f0)]) H0 g
 have hS:=St.startH (L:=([]++Lo st)) hf_ (hnd st) hp
 replace hS:St (fun i=>i<g/\i∉ids (Lo st)) H0 ([]++Lo st) H0 g:=hS
 refine Sq ?_
 refine Rg 1 ?_
 refine Oa (.i 0) ?_
 refine Ni ?_
 refine Ws ?_
 refine zaF (J:=S) (fun j=>[]) (fun j H' g'=>St (fun i=>i<g/\i∉ids (Lo st)) H0 ([]++Lo j) H' g'/\zbv j=some r) ?_ ?_
 ·rintro v1 H g1 ⟨hS,hM⟩
  change wpA _ _ _ _ (Fr.of []) _ _
  replace hS:St (fun i=>i<g/\i∉ids (Lo st)) H0 ([]++Lo v1) H g1:=hS
  replace hM:zbv v1=some r:=hM
  refine Sq ?_
  refine Rg 1 ?_
  refine Oa (.i (-1)) ?_
  refine Ni ?_
  refine Ws ?_
  refine zaB ?_
  refine zcD (x:=.i (-1)) (f:=fun r=>.i r.1) (fd:=fun r=>(Lo r.2)) (.inr rfl) ?_ (.refl _) (Option.some.inj hM) hS 0 rfl
  exact (zam (zad (x:=.i (-1)) rfl))
 ·refine Sq ?_
  refine Rg 3 ?_
  refine Om (.sl .no 3 (a0.map WireFault.cells)) ?_
  refine zco (n:=a0.length) (by decide) rfl (List.length_map _) zeK ?_
  refine Om (.i 0) ?_
  refine Ni ?_
  refine Ws ?_
  refine zap ?_
  refine zbI (V:=Int×S) (fun v=>[(0,.sl .no 3 (a0.map WireFault.cells)),(1,f0),(7,.i (a0.length:Int)),(8,.i v.1)]) (fun v m3 H' g'=>St (fun i=>i<g/\i∉ids (Lo st)) H0 ([]++Lo v.2) H' g'/\zaz a0 aF m3 v.1 v.2=some r) (n:=n) (0,st) (.k (.k (.k (.k .nil)))) ⟨(hS.keep [] rfl).up (by omega),hM⟩ ?_
  rintro ⟨v3,v4⟩ m3 H g3 ⟨hS,hM⟩
  obtain _ | m3:=m3
  ·exact nomatch (show none=some _ from hM)
  change wpA _ _ _ _ (Fr.of [(0,.sl .no 3 (a0.map WireFault.cells)),(1,f0),(7,.i (a0.length:Int)),(8,.i v3)]) _ _
  replace hS:St (fun i=>i<g/\i∉ids (Lo st)) H0 ([]++Lo v4) H g3:=hS
  replace hM:zbm a0 aF (zaz a0 aF m3) v3 v4=some r:=hM
  refine Sq ?_
  refine Rg 1 ?_
  refine Oi (.b (decide (v3<(a0.length:Int)))) ?_
  refine Ni ?_
  refine Ws ?_
  refine Sq ?_
  rcases bft (decide (v3<(a0.length:Int))) with hb5 | hb5
  ·replace hM:=ifT hM hb5
   refine Ct hb5 ?_
   refine zas ?_
   refine Ws ?_
   refine Sq ?_
   refine zap ?_
   refine Sq ?_
   refine Rg 2 ?_
   refine Om (.i v3) ?_
   refine Oa (.i v3) ?_
   refine Ni ?_
   refine Ws ?_
   refine Sq ?_
   refine Rg 6 ?_
   refine Om (f0) ?_
   refine Om (.sl .no 3 (a0.map WireFault.cells)) ?_
   refine Om (.i v3) ?_
   obtain ⟨x6,hx6,hM⟩:=zal hM
   refine zbj (xs:=a0) (f:=WireFault.cells) (z:=v3) (u:=x6) (by decide) rfl rfl zbH hx6 ?_
   refine Olg (.agg (WireFault.cells x6)) zbU ?_
   obtain ⟨r7,hr7,hM⟩:=zal hM
   replace hS:St (fun i=>i<g/\i∉ids (Lo st)) H0 ([]++Lo v4) _ _:=hS
   refine zhN (bs:=[.agg (WireFault.cells x6)]) (.inl rfl) hS (by decide) rfl rfl ((hf hr7).le (.k .nil)) (hk _ _).ids (by omega) fun H hS=>?_
   refine Ni ?_
   refine Ws ?_
   rcases bft r7.1 with hb8 | hb8
   ·replace hM:=ifT hM hb8
    refine Ct hb8 ?_
    refine Sq ?_
    refine Rg 2 ?_
    refine Om (.i v3) ?_
    refine Oa (.i v3) ?_
    refine Ni ?_
    refine Ws ?_
    refine zaB ?_
    refine zaq ?_
    refine zak ?_
    refine zaL ?_
    refine zaq ?_
    refine zaI ?_
    refine zcD (x:=.i v3) (f:=fun r=>.i r.1) (fd:=fun r=>(Lo r.2)) (.inr rfl) ?_ (.refl _) (Option.some.inj hM) hS 0 rfl
    exact (zam (zad (x:=.i v3) rfl))
   ·replace hM:=ifF hM hb8
    refine Cf hb8 ?_
    refine zas ?_
    refine zae ?_
    refine Ws ?_
    refine Rg 2 ?_
    refine Oi (.i (w64 (v3+1))) ?_
    refine Om (.i (w64 (v3+1))) ?_
    refine Ni ?_
    exact za4 (w64 (v3+1),r7.2) (Nat.lt_succ_self _) (.k (.k (.k (.k .nil)))) ⟨(hS.keep [] rfl).up (by omega),hM⟩
  ·replace hM:=ifF hM hb5
   refine Cf hb5 ?_
   refine zbw ?_
   refine zar ?_
   refine zao ?_
   refine zaw ?_
   exact zai v4 .nil ⟨(hS.keep [] rfl).up (by omega),hM⟩
theorem zb3 {S:Type} {Lo:S->BL} (hk:∀s s',zgl (Lo s) (Lo s')) (hnd:∀s,(ids (Lo s)).Nodup) (hin:∀s,InB In (Lo s)) {aF:WireFault->S->Option (Bool×S)} {f0:AV} (hF:∀s H,Has H (Lo s)->In H f0) (h0:cellsOf f0=some [f0]) (hf:∀{x0:WireFault} {s:S} {r:Bool×S},aF x0 s=some r->zjP Tryz.prog f0 [.agg (WireFault.cells x0)] (Lo s) (.b r.1) (Lo r.2)) {n:Nat} {a0:List WireFault} {st:S} {r:Bool×S} (hM:zaN n aF a0 st=some r):zhv Tryz.prog 61 [.sl .no 3 (a0.map WireFault.cells),f0] (Lo st) (.b r.1) (Lo r.2):=by
 have hnd0:∀s,(ids (Lo s)).Nodup:=fun s=>hnd s
 refine zbg mixed Tryz.func61 rfl (by decide) Tryz.ntmps61 (by simp) (hk _ _) (hnd st) ?pure ?cells fun H0 g hf_ hp=>?_
 case pure=>exact fun H _=>(show Go.AM.Pure _ from .v _).inH
 case cells=>exact hin _
 rw [zag]
 change wpA _ _ _ _ (Fr.of [(0,.sl .no 3 (a0.map WireFault.cells)),(1,f0)]) H0 g
 have hS:=St.startH (L:=([]++Lo st)) hf_ (hnd st) hp
 replace hS:St (fun i=>i<g/\i∉ids (Lo st)) H0 ([]++Lo st) H0 g:=hS
 refine Sq ?_
 refine Rg 1 ?_
 refine Oa (.b false) ?_
 refine Ni ?_
 refine Ws ?_
 refine Sq ?_
 refine Rg 5 ?_
 refine Om (.sl .no 3 (a0.map WireFault.cells)) ?_
 refine Om (f0) ?_
 obtain ⟨r1,hr1,hM⟩:=zal hM
 replace hS:St (fun i=>i<g/\i∉ids (Lo st)) H0 ([]++Lo st) _ _:=hS
 refine zhe (bs:=[.sl .no 3 (a0.map WireFault.cells),f0]) (.inl rfl) hS (by decide) rfl rfl ((zfP (Lo:=Lo)  hk hnd0 hin (aF:=aF) hF h0 hf hr1).le (.k (.k .nil))) (hk _ _).ids (by omega) fun H hS=>?_
 refine Oi (.b (decide (r1.1≥0))) ?_
 refine Oa (.b (decide (r1.1≥0))) ?_
 refine Ni ?_
 refine zej [(4,.b (decide (r1.1≥0)))] (.k .nil) ?_
 refine zaB ?_
 refine zcD (x:=.b (decide (r1.1≥0))) (f:=fun r=>.b r.1) (fd:=fun r=>(Lo r.2)) (.inr rfl) ?_ (.refl _) (Option.some.inj hM) hS 0 rfl
 exact (zam (zad (x:=.b (decide (r1.1≥0))) rfl))
theorem zjH {a0:WireFault} {a1:WireFault} {r:Bool} (hM:zgT a0 a1=some r):zav Tryz.prog 63 [.agg (WireFault.cells a0),.agg (WireFault.cells a1)] (.b r):=by
 refine zan mixed Tryz.func63 rfl (by decide) Tryz.ntmps63 (by simp) ?pure fun H0 g hf=>?_
 case pure=>exact .v _
 rw [zag]
 change wpA _ _ _ _ (Fr.of [(0,.agg (WireFault.cells a0)),(1,.agg (WireFault.cells a1))]) H0 g
 have hS:=St.start hf
 refine Sq ?_
 refine Rg 3 ?_
 refine zbP (v:=.agg (WireFault.cells a0)) (cs:=(WireFault.cells a0)) hS (by decide) rfl rfl (by omega) fun H hS=>?_
 refine zbP (v:=.agg (WireFault.cells a1)) (cs:=(WireFault.cells a1)) hS (by decide) rfl rfl (by omega) fun H hS=>?_
 refine Oa (.b false) ?_
 refine Ni ?_
 refine zaT (L':=[(g+1,.cells (WireFault.cells a1))]) 1 2 hS rfl rfl rfl fun H hS=>?_
 refine zaT (L':=[]) 0 3 hS rfl rfl rfl fun H hS=>?_
 refine Ws ?_
 refine zaF (J:=Bool) (fun j=>[(4,.b j)]) (fun j H' g'=>St (·<g) H0 [] H' g'/\zct j=some r) ?_ ?_
 ·rintro v1 H g1 ⟨hS,hM⟩
  change wpA _ _ _ _ (Fr.of [(4,.b v1)]) _ _
  replace hS:St (·<g) H0 [] H g1:=hS
  replace hM:zct v1=some r:=hM
  refine zaB ?_
  refine zaO (x:=.b v1) (f:=fun r=>.b r) (.inr rfl) ?_ (.refl _) (Option.some.inj hM) hS
  exact (zam (zad (x:=.b v1) rfl))
 ·refine Rg 39 ?_
  refine Of ((WireFault.cells a0)) zeu ?_
  refine Olp (.i a0.Kind) zac zah ?_
  refine Of ((WireFault.cells a1)) zeu ?_
  refine Olp (.i a1.Kind) zac zah ?_
  refine Oi (.b (a0.Kind==a1.Kind)) ?_
  refine Om (.b (a0.Kind==a1.Kind)) ?_
  rcases bft (a0.Kind==a1.Kind) with hb2 | hb2
  ·replace hM:=ifT hM hb2
   refine Oy (want:=true) hb2 ?_
   refine Of ((WireFault.cells a0)) zeu ?_
   refine Oy (want:=true) hb2 ?_
   refine Olp (.i a0.Kind) zac zah ?_
   refine Oy (want:=true) hb2 ?_
   refine Oi (.b (decide (a0.Kind≥3))) ?_
   refine Pt (.b (decide (a0.Kind≥3))) hb2 ?_
   refine Om (.b (decide (a0.Kind≥3))) ?_
   rcases bft (decide (a0.Kind≥3)) with hb3 | hb3
   ·replace hM:=ifT hM hb3
    refine Oy (want:=true) hb3 ?_
    refine Of ((WireFault.cells a0)) zcO ?_
    refine Oy (want:=true) hb3 ?_
    refine Olp (.i a0.A) zac zah ?_
    refine Oy (want:=true) hb3 ?_
    refine Of ((WireFault.cells a1)) zcO ?_
    refine Oy (want:=true) hb3 ?_
    refine Olp (.i a1.A) zac zah ?_
    refine Oy (want:=true) hb3 ?_
    refine Oi (.b (a0.A==a1.A)) ?_
    refine Oy (want:=true) hb3 ?_
    refine Om (.b (a0.A==a1.A)) ?_
    rcases bft (a0.A==a1.A) with hb4 | hb4
    ·replace hM:=ifT hM hb4
     refine On (want:=false) hb4 ?_
     refine On (want:=false) hb4 ?_
     refine On (want:=false) hb4 ?_
     refine On (want:=false) hb4 ?_
     refine On (want:=false) hb4 ?_
     refine Oy (want:=true) hb3 ?_
     refine Pt (.b true) hb4 ?_
     refine Oy (want:=true) hb3 ?_
     refine Om (.b true) ?_
     refine Og ?_
     refine Og ?_
     refine Og ?_
     refine Og ?_
     refine Og ?_
     refine Oy (want:=true) hb3 ?_
     refine zaH (v:=.b true) (e:=true) (by decide) rfl rfl rfl ?_
     refine Oy (want:=true) hb3 ?_
     refine Om (.b true) ?_
     refine Og ?_
     refine Og ?_
     refine Og ?_
     refine Og ?_
     refine Og ?_
     refine Oy (want:=true) hb3 ?_
     refine zaH (v:=.b true) (e:=true) (by decide) rfl rfl rfl ?_
     refine Pt (.b true) hb3 ?_
     refine Oa (.b true) ?_
     refine Ni ?_
     exact zai true (.k .nil) ⟨(hS.keep [] rfl).up (by omega),hM⟩
    ·replace hM:=ifF hM hb4
     refine Oy (want:=false) hb4 ?_
     refine Of ((WireFault.cells a0)) zcO ?_
     refine Oy (want:=false) hb4 ?_
     refine Olp (.i a0.A) zac zah ?_
     refine Oy (want:=false) hb4 ?_
     refine Of ((WireFault.cells a1)) zdq ?_
     refine Oy (want:=false) hb4 ?_
     refine Olp (.i a1.B) zac zah ?_
     refine Oy (want:=false) hb4 ?_
     refine Oi (.b (a0.A==a1.B)) ?_
     refine Oy (want:=true) hb3 ?_
     refine Pf (.b (a0.A==a1.B)) hb4 ?_
     refine Oy (want:=true) hb3 ?_
     refine Om (.b (a0.A==a1.B)) ?_
     rcases bft (a0.A==a1.B) with hb5 | hb5
     ·replace hM:=ifT hM hb5
      refine On (want:=false) hb5 ?_
      refine On (want:=false) hb5 ?_
      refine On (want:=false) hb5 ?_
      refine On (want:=false) hb5 ?_
      refine On (want:=false) hb5 ?_
      refine Oy (want:=true) hb3 ?_
      refine Pt (.b true) hb5 ?_
      refine Oy (want:=true) hb3 ?_
      refine Om (.b true) ?_
      refine Og ?_
      refine Og ?_
      refine Og ?_
      refine Og ?_
      refine Og ?_
      refine Oy (want:=true) hb3 ?_
      refine zaH (v:=.b true) (e:=true) (by decide) rfl rfl rfl ?_
      refine Pt (.b true) hb3 ?_
      refine Oa (.b true) ?_
      refine Ni ?_
      exact zai true (.k .nil) ⟨(hS.keep [] rfl).up (by omega),hM⟩
     ·replace hM:=ifF hM hb5
      refine Oy (want:=false) hb5 ?_
      refine Of ((WireFault.cells a0)) zdq ?_
      refine Oy (want:=false) hb5 ?_
      refine Olp (.i a0.B) zac zah ?_
      refine Oy (want:=false) hb5 ?_
      refine Of ((WireFault.cells a1)) zcO ?_
      refine Oy (want:=false) hb5 ?_
      refine Olp (.i a1.A) zac zah ?_
      refine Oy (want:=false) hb5 ?_
      refine Oi (.b (a0.B==a1.A)) ?_
      refine Oy (want:=true) hb3 ?_
      refine Pf (.b (a0.B==a1.A)) hb5 ?_
      refine Oy (want:=true) hb3 ?_
      refine Om (.b (a0.B==a1.A)) ?_
      rcases bft (a0.B==a1.A) with hb6 | hb6
      ·replace hM:=ifT hM hb6
       refine On (want:=false) hb6 ?_
       refine On (want:=false) hb6 ?_
       refine On (want:=false) hb6 ?_
       refine On (want:=false) hb6 ?_
       refine On (want:=false) hb6 ?_
       refine Oy (want:=true) hb3 ?_
       refine Pt (.b true) hb6 ?_
       refine Pt (.b true) hb3 ?_
       refine Oa (.b true) ?_
       refine Ni ?_
       exact zai true (.k .nil) ⟨(hS.keep [] rfl).up (by omega),hM⟩
      ·replace hM:=ifF hM hb6
       refine Oy (want:=false) hb6 ?_
       refine Of ((WireFault.cells a0)) zdq ?_
       refine Oy (want:=false) hb6 ?_
       refine Olp (.i a0.B) zac zah ?_
       refine Oy (want:=false) hb6 ?_
       refine Of ((WireFault.cells a1)) zdq ?_
       refine Oy (want:=false) hb6 ?_
       refine Olp (.i a1.B) zac zah ?_
       refine Oy (want:=false) hb6 ?_
       refine Oi (.b (a0.B==a1.B)) ?_
       refine Oy (want:=true) hb3 ?_
       refine Pf (.b (a0.B==a1.B)) hb6 ?_
       refine Pt (.b (a0.B==a1.B)) hb3 ?_
       refine Oa (.b (a0.B==a1.B)) ?_
       refine Ni ?_
       exact zai (a0.B==a1.B) (.k .nil) ⟨(hS.keep [] rfl).up (by omega),hM⟩
   ·replace hM:=ifF hM hb3
    refine On (want:=true) hb3 ?_
    refine On (want:=true) hb3 ?_
    refine On (want:=true) hb3 ?_
    refine On (want:=true) hb3 ?_
    refine On (want:=true) hb3 ?_
    refine On (want:=true) hb3 ?_
    refine zaj (j:=16) (by decide) rfl ?_
    refine zaj (j:=16) (by decide) rfl ?_
    refine zaj (j:=16) (by decide) rfl ?_
    refine zaj (j:=16) (by decide) rfl ?_
    refine zaj (j:=16) (by decide) rfl ?_
    refine On (want:=true) hb3 ?_
    refine On (want:=true) hb3 ?_
    refine zaj (j:=23) (by decide) rfl ?_
    refine zaj (j:=23) (by decide) rfl ?_
    refine zaj (j:=23) (by decide) rfl ?_
    refine zaj (j:=23) (by decide) rfl ?_
    refine zaj (j:=23) (by decide) rfl ?_
    refine On (want:=true) hb3 ?_
    refine On (want:=true) hb3 ?_
    refine zaj (j:=30) (by decide) rfl ?_
    refine zaj (j:=30) (by decide) rfl ?_
    refine zaj (j:=30) (by decide) rfl ?_
    refine zaj (j:=30) (by decide) rfl ?_
    refine zaj (j:=30) (by decide) rfl ?_
    refine On (want:=true) hb3 ?_
    refine Pf (.b false) hb3 ?_
    refine Oa (.b false) ?_
    refine Ni ?_
    exact zai false (.k .nil) ⟨(hS.keep [] rfl).up (by omega),hM⟩
  ·replace hM:=ifF hM hb2
   refine On (want:=true) hb2 ?_
   refine On (want:=true) hb2 ?_
   refine On (want:=true) hb2 ?_
   refine Pf (.b false) hb2 ?_
   refine Om (.b false) ?_
   refine Og ?_
   refine Og ?_
   refine Og ?_
   refine Og ?_
   refine Og ?_
   refine Og ?_
   refine zaj (j:=16) (by decide) rfl ?_
   refine zaj (j:=16) (by decide) rfl ?_
   refine zaj (j:=16) (by decide) rfl ?_
   refine zaj (j:=16) (by decide) rfl ?_
   refine zaj (j:=16) (by decide) rfl ?_
   refine Og ?_
   refine Og ?_
   refine zaj (j:=23) (by decide) rfl ?_
   refine zaj (j:=23) (by decide) rfl ?_
   refine zaj (j:=23) (by decide) rfl ?_
   refine zaj (j:=23) (by decide) rfl ?_
   refine zaj (j:=23) (by decide) rfl ?_
   refine Og ?_
   refine Og ?_
   refine zaj (j:=30) (by decide) rfl ?_
   refine zaj (j:=30) (by decide) rfl ?_
   refine zaj (j:=30) (by decide) rfl ?_
   refine zaj (j:=30) (by decide) rfl ?_
   refine zaj (j:=30) (by decide) rfl ?_
   refine Og ?_
   refine zk6 (v:=.b false) (e:=false) (by decide) rfl rfl rfl ?_
   refine Oa (.b false) ?_
   refine Ni ?_
   exact zai false (.k .nil) ⟨(hS.keep [] rfl).up (by omega),hM⟩
theorem zfx {a0:WireFault} {a1:WireFault} {r:Bool} (hM:zbf a0 a1=some r):zav Tryz.prog 62 [.agg (WireFault.cells a0),.ep (WireFault.cells a1)] (.b r):=by
 refine zan mixed Tryz.func62 rfl (by decide) Tryz.ntmps62 (by simp) ?pure fun H0 g hf=>?_
 case pure=>exact .v _
 rw [zag]
 change wpA _ _ _ _ (Fr.of [(0,.agg (WireFault.cells a0)),(1,.ep (WireFault.cells a1))]) H0 g
 have hS:=St.start hf
 refine Sq ?_
 refine Rg 2 ?_
 refine zbP (v:=.agg (WireFault.cells a0)) (cs:=(WireFault.cells a0)) hS (by decide) rfl rfl (by omega) fun H hS=>?_
 refine Oa (.b false) ?_
 refine Ni ?_
 refine zaT (L':=[]) 0 2 hS rfl rfl rfl fun H hS=>?_
 refine Ws ?_
 refine Sq ?_
 refine Rg 4 ?_
 refine Olg (.agg (WireFault.cells a1)) zbU ?_
 refine Olg (.agg (WireFault.cells a0)) zbU ?_
 obtain ⟨r1,hr1,hM⟩:=zal hM
 refine zat (bs:=[.agg (WireFault.cells a1),.agg (WireFault.cells a0)]) (by decide) rfl rfl ((zjH hr1).le (.k (.k .nil))) ?_
 refine Oa (.b r1) ?_
 refine Ni ?_
 refine zej [(3,.b r1)] (.k .nil) ?_
 refine zaB ?_
 refine zaO (x:=.b r1) (f:=fun r=>.b r) (.inr rfl) ?_ (.refl _) (Option.some.inj hM) hS
 exact (zam (zad (x:=.b r1) rfl))
theorem zgj {n:Nat} {a0:Option Wiring_} {a1:List WireFault} {r:Bool} (hM:zdk n a0 a1=some r):zav Tryz.prog 30 [pA Wiring_.cells a0,.sl .no 3 (a1.map WireFault.cells)] (.b r):=by
 refine zan mixed Tryz.func30 rfl (by decide) Tryz.ntmps30 (by simp) ?pure fun H0 g hf=>?_
 case pure=>exact .v _
 rw [zag]
 change wpA _ _ _ _ (Fr.of [(0,pA Wiring_.cells a0),(1,.sl .no 3 (a1.map WireFault.cells))]) H0 g
 have hS:=St.start hf
 refine Sq ?_
 refine Rg 1 ?_
 refine Oa (.b false) ?_
 refine Ni ?_
 refine Ws ?_
 refine zaF (J:=Unit) (fun j=>[]) (fun j H' g'=>St (·<g) H0 [] H' g'/\zdj=some r) ?_ ?_
 ·rintro _ H g1 ⟨hS,hM⟩
  change wpA _ _ _ _ (Fr.of []) _ _
  replace hS:St (·<g) H0 [] H g1:=hS
  replace hM:zdj=some r:=hM
  refine Sq ?_
  refine Rg 1 ?_
  refine Oa (.b true) ?_
  refine Ni ?_
  refine Ws ?_
  refine zaB ?_
  refine zaO (x:=.b true) (f:=fun r=>.b r) (.inr rfl) ?_ (.refl _) (Option.some.inj hM) hS
  exact (zam (zad (x:=.b true) rfl))
 ·refine Sq ?_
  refine Rg 3 ?_
  refine Om (.sl .no 3 (a1.map WireFault.cells)) ?_
  refine zco (n:=a1.length) (by decide) rfl (List.length_map _) zeK ?_
  refine Om (.i 0) ?_
  refine Ni ?_
  refine Ws ?_
  refine zap ?_
  refine zbI (V:=Int) (fun v=>[(0,pA Wiring_.cells a0),(1,.sl .no 3 (a1.map WireFault.cells)),(7,.sl .no 3 (a1.map WireFault.cells)),(8,.i (a1.length:Int)),(9,.i v)]) (fun v m2 H' g'=>St (·<g) H0 [] H' g'/\za3 n a0 a1 m2 v=some r) (n:=n) 0 (.k (.k (.k (.k (.k .nil))))) ⟨(hS.keep [] rfl).up (by omega),hM⟩ ?_
  rintro v1 m2 H g2 ⟨hS,hM⟩
  obtain _ | m2:=m2
  ·exact nomatch (show none=some _ from hM)
  change wpA _ _ _ _ (Fr.of [(0,pA Wiring_.cells a0),(1,.sl .no 3 (a1.map WireFault.cells)),(7,.sl .no 3 (a1.map WireFault.cells)),(8,.i (a1.length:Int)),(9,.i v1)]) _ _
  replace hS:St (·<g) H0 [] H g2:=hS
  replace hM:zcR n a0 a1 (za3 n a0 a1 m2) v1=some r:=hM
  refine Sq ?_
  refine Rg 1 ?_
  refine Oi (.b (decide (v1<(a1.length:Int)))) ?_
  refine Ni ?_
  refine Ws ?_
  refine Sq ?_
  rcases bft (decide (v1<(a1.length:Int))) with hb2 | hb2
  ·replace hM:=ifT hM hb2
   refine Ct hb2 ?_
   refine zas ?_
   refine Ws ?_
   refine Sq ?_
   refine zap ?_
   refine Sq ?_
   refine Rg 6 ?_
   refine Om (.i v1) ?_
   obtain ⟨x3,hx3,hM⟩:=zal hM
   refine zbj (xs:=a1) (f:=WireFault.cells) (z:=v1) (u:=x3) (by decide) rfl rfl zbH hx3 ?_
   refine Olg (.agg (WireFault.cells x3)) zbU ?_
   refine zcj hS (by decide) zdI (by omega) fun H hS=>?_
   refine Oa (.i v1) ?_
   refine zaK (v:=.agg (WireFault.cells x3)) (ns:=(WireFault.cells x3)) (L':=[(g2+1+3,.cells (WireFault.cells x3))]) 0 hS rfl rfl .no rfl rfl zjs nlb rfl fun H hS=>?_
   refine Ni ?_
   refine zaT (L':=[]) 0 6 hS rfl rfl rfl fun H hS=>?_
   refine Ws ?_
   refine zaF (J:=Bool) (fun j=>[(0,pA Wiring_.cells a0),(1,.sl .no 3 (a1.map WireFault.cells)),(7,.sl .no 3 (a1.map WireFault.cells)),(8,.i (a1.length:Int)),(9,.i v1),(41,.b j)]) (fun j H' g'=>St (·<g) H0 [] H' g'/\zby (za3 n a0 a1 m2) v1 j=some r) ?_ ?_
   ·rintro v4 H g3 ⟨hS,hM⟩
    change wpA _ _ _ _ (Fr.of [(0,pA Wiring_.cells a0),(1,.sl .no 3 (a1.map WireFault.cells)),(7,.sl .no 3 (a1.map WireFault.cells)),(8,.i (a1.length:Int)),(9,.i v1),(41,.b v4)]) _ _
    replace hS:St (·<g) H0 [] H g3:=hS
    replace hM:zby (za3 n a0 a1 m2) v1 v4=some r:=hM
    rcases bft v4 with hb5 | hb5
    ·replace hM:=ifT hM hb5
     refine Ct hb5 ?_
     refine Sq ?_
     refine Rg 1 ?_
     refine Oa (.b false) ?_
     refine Ni ?_
     refine Ws ?_
     refine zaB ?_
     refine zaq ?_
     refine zak ?_
     refine zaL ?_
     refine zaq ?_
     refine zaI ?_
     refine zaO (x:=.b false) (f:=fun r=>.b r) (.inr rfl) ?_ (.refl _) (Option.some.inj hM) hS
     exact (zam (zad (x:=.b false) rfl))
    ·replace hM:=ifF hM hb5
     refine Cf hb5 ?_
     refine zas ?_
     refine zae ?_
     refine Ws ?_
     refine Rg 2 ?_
     refine Oi (.i (w64 (v1+1))) ?_
     refine Om (.i (w64 (v1+1))) ?_
     refine Ni ?_
     exact za4 (w64 (v1+1)) (Nat.lt_succ_self _) (.k (.k (.k (.k (.k .nil))))) ⟨(hS.keep [] rfl).up (by omega),hM⟩
   ·have hS0:=hS
    refine zdy (n:=28) rfl (by kernel_rfl) ?_
    refine Om (pA Wiring_.cells a0) ?_
    obtain ⟨x6,hx6,hM⟩:=zal hM
    refine zl5 (f:=Wiring_.cells) (p:=a0) (u:=x6) (by decide) rfl hx6 ?_
    refine Of ((Wiring_.cells x6)) zfL ?_
    refine Olp (.sl .no 3 (x6.all.map WireFault.cells)) zfu zgV ?_
    refine Olg (.agg (WireFault.cells x3)) zbU ?_
    obtain ⟨r7,hr7,hM⟩:=zal hM
    refine zat (bs:=[.sl .no 3 (x6.all.map WireFault.cells),.agg (WireFault.cells x3)]) (by decide) rfl rfl ((zf4 hr7).le (.k (.k .nil))) ?_
    refine zdc (e:=r7) (by decide) rfl ?_
    refine Om (.b (!r7)) ?_
    rcases bft (!r7) with hb8 | hb8
    ·replace hM:=ifT hM hb8
     refine On (want:=false) hb8 ?_
     refine On (want:=false) hb8 ?_
     refine On (want:=false) hb8 ?_
     refine zaj (j:=10) (by decide) rfl ?_
     refine zaj (j:=10) (by decide) rfl ?_
     refine zaj (j:=10) (by decide) rfl ?_
     refine zaj (j:=10) (by decide) rfl ?_
     refine zaj (j:=10) (by decide) rfl ?_
     refine zaj (j:=10) (by decide) rfl ?_
     refine zaj (j:=10) (by decide) rfl ?_
     refine zaj (j:=10) (by decide) rfl ?_
     refine On (want:=false) hb8 ?_
     refine Pt (.b true) hb8 ?_
     refine Om (.b true) ?_
     refine Og ?_
     refine Og ?_
     refine Og ?_
     refine Og ?_
     refine Og ?_
     refine zaH (v:=.b true) (e:=true) (by decide) rfl rfl rfl ?_
     refine Ni ?_
     exact zai true (.k (.k (.k (.k (.k (.k .nil)))))) ⟨(hS.keep [] rfl).up (by omega),hM⟩
    ·replace hM:=ifF hM hb8
     refine Oy (want:=false) hb8 ?_
     refine Om (.i v1) ?_
     refine Oy (want:=false) hb8 ?_
     refine Oi (.b (decide (v1>0))) ?_
     refine Oy (want:=false) hb8 ?_
     refine Om (.b (decide (v1>0))) ?_
     rcases bft (decide (v1>0)) with hb9 | hb9
     ·replace hM:=ifT hM hb9
      refine Oy (want:=true) hb9 ?_
      refine Om (.sl .no 3 (a1.map WireFault.cells)) ?_
      refine Oy (want:=true) hb9 ?_
      refine Om (.i v1) ?_
      refine Oy (want:=true) hb9 ?_
      refine Oi (.i (w64 (v1-1))) ?_
      refine Oy (want:=true) hb9 ?_
      obtain ⟨x10,hx10,hM⟩:=zal hM
      refine zbj (xs:=a1) (f:=WireFault.cells) (z:=(w64 (v1-1))) (u:=x10) (by decide) rfl rfl zbH hx10 ?_
      refine Oy (want:=true) hb9 ?_
      refine Olg (.agg (WireFault.cells x10)) zbU ?_
      refine Oy (want:=true) hb9 ?_
      refine Olg (.agg (WireFault.cells x3)) zbU ?_
      refine Oy (want:=true) hb9 ?_
      obtain ⟨r11,hr11,hM⟩:=zal hM
      refine zat (bs:=[.agg (WireFault.cells x10),.agg (WireFault.cells x3)]) (by decide) rfl rfl ((zmO hr11).le (.k (.k .nil))) ?_
      refine Oy (want:=true) hb9 ?_
      refine Oi (.b (decide (r11≥0))) ?_
      refine Oy (want:=false) hb8 ?_
      refine Pt (.b (decide (r11≥0))) hb9 ?_
      refine Pf (.b (decide (r11≥0))) hb8 ?_
      refine Om (.b (decide (r11≥0))) ?_
      rcases bft (decide (r11≥0)) with hb12 | hb12
      ·replace hM:=ifT hM hb12
       refine On (want:=false) hb12 ?_
       refine On (want:=false) hb12 ?_
       refine On (want:=false) hb12 ?_
       refine On (want:=false) hb12 ?_
       refine On (want:=false) hb12 ?_
       refine Pt (.b true) hb12 ?_
       refine Ni ?_
       exact zai true (.k (.k (.k (.k (.k (.k .nil)))))) ⟨(hS.keep [] rfl).up (by omega),hM⟩
      ·replace hM:=ifF hM hb12
       refine Oy (want:=false) hb12 ?_
       refine Om (.sl .no 3 (a1.map WireFault.cells)) ?_
       refine Oy (want:=false) hb12 ?_
       refine Om (.i v1) ?_
       refine Oy (want:=false) hb12 ?_
       obtain ⟨c13,hc13,hM⟩:=zal hM
       refine zq8 (xs:=a1) (ys:=c13) (f:=WireFault.cells) (p:=0) (q:=v1) (by decide) rfl zbH (.inl ⟨rfl,rfl⟩) (.inr rfl) hc13 ?_
       refine Oy (want:=false) hb12 ?_
       refine zce (first:=[]) (cap:=[.ep (WireFault.cells x3)]) (by decide) rfl rfl ?_
       refine Oy (want:=false) hb12 ?_
       obtain ⟨r14,hr14,hM⟩:=zal hM
       refine zat (bs:=[.sl .no 3 (c13.map WireFault.cells),.fn (.func 62) [] [.ep (WireFault.cells x3)]]) (by decide) rfl rfl (ze5 ((zb3 (Lo:=(fun (_:Unit)=>[]))  (fun _ _=>zd8) (fun _=>List.nodup_nil) (fun _=>zd3) (aF:=(fun (x0:WireFault) (_:Unit)=>(zbf x0 x3).map fun y=>(y,()))) (fun _ H hH=>(.fn _ _ _ zbV (zaM (.ep _ (zaM (show Go.AM.Pure _ from .v _).inH (zaM (show Go.AM.Pure _ from .v _).inH (zaM (show Go.AM.Pure _ from .v _).inH zbV)))) zbV))) rfl (fun h=>ziG (zfx (zfa h))) hr14).le (.k (.k .nil)))) ?_
       refine Pf (.b r14.1) hb12 ?_
       refine Ni ?_
       exact zai r14.1 (.k (.k (.k (.k (.k (.k .nil)))))) ⟨(hS.keep [] rfl).up (by omega),hM⟩
     ·replace hM:=ifF hM hb9
      refine On (want:=true) hb9 ?_
      refine On (want:=true) hb9 ?_
      refine On (want:=true) hb9 ?_
      refine On (want:=true) hb9 ?_
      refine On (want:=true) hb9 ?_
      refine On (want:=true) hb9 ?_
      refine On (want:=true) hb9 ?_
      refine On (want:=true) hb9 ?_
      refine Oy (want:=false) hb8 ?_
      refine Pf (.b false) hb9 ?_
      refine Pf (.b false) hb8 ?_
      refine Om (.b false) ?_
      refine Oz ?_
      refine Om (.sl .no 3 (a1.map WireFault.cells)) ?_
      refine Oz ?_
      refine Om (.i v1) ?_
      refine Oz ?_
      obtain ⟨c15,hc15,hM⟩:=zal hM
      refine zq8 (xs:=a1) (ys:=c15) (f:=WireFault.cells) (p:=0) (q:=v1) (by decide) rfl zbH (.inl ⟨rfl,rfl⟩) (.inr rfl) hc15 ?_
      refine Oz ?_
      refine zce (first:=[]) (cap:=[.ep (WireFault.cells x3)]) (by decide) rfl rfl ?_
      refine Oz ?_
      obtain ⟨r16,hr16,hM⟩:=zal hM
      refine zat (bs:=[.sl .no 3 (c15.map WireFault.cells),.fn (.func 62) [] [.ep (WireFault.cells x3)]]) (by decide) rfl rfl (ze5 ((zb3 (Lo:=(fun (_:Unit)=>[]))  (fun _ _=>zd8) (fun _=>List.nodup_nil) (fun _=>zd3) (aF:=(fun (x0:WireFault) (_:Unit)=>(zbf x0 x3).map fun y=>(y,()))) (fun _ H hH=>(.fn _ _ _ zbV (zaM (.ep _ (zaM (show Go.AM.Pure _ from .v _).inH (zaM (show Go.AM.Pure _ from .v _).inH (zaM (show Go.AM.Pure _ from .v _).inH zbV)))) zbV))) rfl (fun h=>ziG (zfx (zfa h))) hr16).le (.k (.k .nil)))) ?_
      refine zk6 (v:=.b r16.1) (e:=false) (by decide) rfl rfl rfl ?_
      refine Ni ?_
      exact zai r16.1 (.k (.k (.k (.k (.k (.k .nil)))))) ⟨(hS.keep [] rfl).up (by omega),hM⟩
  ·replace hM:=ifF hM hb2
   refine Cf hb2 ?_
   refine zbw ?_
   refine zar ?_
   refine zao ?_
   refine zaw ?_
   exact zai () .nil ⟨(hS.keep [] rfl).up (by omega),hM⟩
theorem zeN {a0:Option Wiring_} {a1:Panel_} {a2:Int} {a3:Int} {r:Int} (hM:zcH a0 a1 a2 a3=some r):zav Tryz.prog 32 [pA Wiring_.cells a0,.agg (Panel_.cells a1),.i a2,.i a3] (.i r):=by
 refine zan mixed Tryz.func32 rfl (by decide) Tryz.ntmps32 (by simp) ?pure fun H0 g hf=>?_
 case pure=>exact .v _
 rw [zag]
 change wpA _ _ _ _ (Fr.of [(0,pA Wiring_.cells a0),(1,.agg (Panel_.cells a1)),(2,.i a2),(3,.i a3)]) H0 g
 have hS:=St.start hf
 refine Sq ?_
 refine Rg 2 ?_
 refine zbP (v:=.agg (Panel_.cells a1)) (cs:=(Panel_.cells a1)) hS (by decide) rfl rfl (by omega) fun H hS=>?_
 refine Oa (.i 0) ?_
 refine Ni ?_
 refine zaT (L':=[]) 0 5 hS rfl rfl rfl fun H hS=>?_
 refine Ws ?_
 refine Sq ?_
 have hS0:=hS
 refine zdy (n:=10) rfl (by kernel_rfl) ?_
 refine Om (.i a2) ?_
 refine Of ((Panel_.cells a1)) zjz ?_
 obtain ⟨x1,hx1,hM⟩:=zal hM
 refine zno (cs:=(Panel_.cells a1)) (z:=a2) (by decide) rfl rfl zhk (ziQ hx1) ?_
 refine zmx (v:=.i x1) (by decide) rfl (zoA (xs:=([a1.letters.c0,a1.letters.c1,a1.letters.c2,a1.letters.c3,a1.letters.c4]:List Int)) zac zah rfl hx1) ?_
 refine Om (.i a3) ?_
 refine Of ((Panel_.cells a1)) zjA ?_
 obtain ⟨x2,hx2,hM⟩:=zal hM
 refine zno (cs:=(Keys_.cells a1.numbers)) (z:=a3) (by decide) rfl rfl zhk (ziQ hx2) ?_
 refine zmx (v:=.i x2) (by decide) rfl (zoA (xs:=([a1.numbers.c0,a1.numbers.c1,a1.numbers.c2,a1.numbers.c3,a1.numbers.c4]:List Int)) zac zah rfl hx2) ?_
 refine Oa (.i x1) ?_
 refine Oa (.i x2) ?_
 refine Ni ?_
 refine Ws ?_
 refine Sq ?_
 refine zaF (J:=Bool) (fun j=>[(0,pA Wiring_.cells a0),(9,.i x1),(10,.i x2),(24,.b j)]) (fun j H' g'=>St (·<g) H0 [] H' g'/\zcz a0 x1 x2 j=some r) ?_ ?_
 ·rintro v3 H g1 ⟨hS,hM⟩
  change wpA _ _ _ _ (Fr.of [(0,pA Wiring_.cells a0),(9,.i x1),(10,.i x2),(24,.b v3)]) _ _
  replace hS:St (·<g) H0 [] H g1:=hS
  replace hM:zcz a0 x1 x2 v3=some r:=hM
  rcases bft v3 with hb4 | hb4
  ·replace hM:=ifT hM hb4
   refine Ct hb4 ?_
   refine Sq ?_
   refine Rg 1 ?_
   refine Oa (.i (-1)) ?_
   refine Ni ?_
   refine Ws ?_
   refine zaB ?_
   refine zak ?_
   refine zaO (x:=.i (-1)) (f:=fun r=>.i r) (.inr rfl) ?_ (.refl _) (Option.some.inj hM) hS
   exact (zam (zad (x:=.i (-1)) rfl))
  ·replace hM:=ifF hM hb4
   refine Cf hb4 ?_
   refine zas ?_
   refine Ws ?_
   refine Sq ?_
   refine Rg 10 ?_
   refine Om (.i x1) ?_
   refine Om (pA Wiring_.cells a0) ?_
   obtain ⟨x5,hx5,hM⟩:=zal hM
   refine zl5 (f:=Wiring_.cells) (p:=a0) (u:=x5) (by decide) rfl hx5 ?_
   refine Of ((Wiring_.cells x5)) zj1 ?_
   refine Of ((Wiring_.cells x5)) zdp ?_
   refine Olp (.i x5.Wire.Numbers) zac zah ?_
   refine Oi (.i (w64 (x1*x5.Wire.Numbers))) ?_
   refine Om (.i x2) ?_
   refine Oi (.i (w64 ((w64 (x1*x5.Wire.Numbers))+x2))) ?_
   refine Oa (.i (w64 ((w64 (x1*x5.Wire.Numbers))+x2))) ?_
   refine Ni ?_
   refine Ws ?_
   refine zaB ?_
   refine zaO (x:=.i (w64 ((w64 (x1*x5.Wire.Numbers))+x2))) (f:=fun r=>.i r) (.inr rfl) ?_ (.refl _) (Option.some.inj hM) hS
   exact (zam (zad (x:=.i (w64 ((w64 (x1*x5.Wire.Numbers))+x2))) rfl))
 ·refine Rg 6 ?_
  refine Om (.i x1) ?_
  refine Oi (.b (decide (x1<0))) ?_
  refine Om (.b (decide (x1<0))) ?_
  rcases bft (decide (x1<0)) with hb6 | hb6
  ·replace hM:=ifT hM hb6
   refine On (want:=false) hb6 ?_
   refine On (want:=false) hb6 ?_
   refine Pt (.b true) hb6 ?_
   refine Ni ?_
   exact zai true (.k (.k (.k (.k .nil)))) ⟨(hS.keep [] rfl).up (by omega),hM⟩
  ·replace hM:=ifF hM hb6
   refine Oy (want:=false) hb6 ?_
   refine Om (.i x2) ?_
   refine Oy (want:=false) hb6 ?_
   refine Oi (.b (decide (x2<0))) ?_
   refine Pf (.b (decide (x2<0))) hb6 ?_
   refine Ni ?_
   exact zai (decide (x2<0)) (.k (.k (.k (.k .nil)))) ⟨(hS.keep [] rfl).up (by omega),hM⟩
theorem ziy {xs u:List Int} {off:Nat} {a1:WireFault} {p:Nat} (hM:zdl xs off a1=some u):zje Tryz.prog 64 [.ptr p off,.agg a1.cells] p (xs.map vI) (.tup []) ((List.range xs.length).map fun q=>vI (u.getD q 0)):=by
 unfold zdl at hM
 split at hM
 case isFalse=>cases hM
 case isTrue hab =>
 obtain ⟨hA,hB,hx⟩:=hab
 injection hM with hM
 have hul:u.length=xs.length:=by rw [←hM];simp
 rw [←hul,ziR]
 refine zq1 mixed Tryz.func64 rfl (by decide) Tryz.ntmps64 (by simp) (.tup _ zaC) (fun c hc=>by obtain ⟨x,_,rfl⟩:=List.mem_map.1 hc;exact .v _) fun H0 g hf hp=>?_
 rw [zag]
 change wpA _ _ _ _ (Fr.of [(0,.ptr p off),(1,.agg a1.cells)]) H0 g
 have hS:=St.startP hf hp
 refine Sq ?_
 refine Rg 1 ?_
 refine zbP (v:=.agg a1.cells) (cs:=a1.cells) hS (by decide) rfl rfl (by omega) fun H hS=>?_
 refine Ni ?_
 refine zaT (L':=[(p,.cells (xs.map vI))]) 0 3 hS rfl rfl rfl fun H hS=>?_
 refine Ws ?_
 have hS0:=hS
 refine zor (n:=16) [(15,8),(15,12)] rfl (by kernel_rfl) (by kernel_rfl) ?_
 refine Om (.ptr p off) ?_
 refine Of (a1.cells) zcO ?_
 refine Olp (.i a1.A) zac zah ?_
 refine Om (.ptr p off) ?_
 refine Of (a1.cells) zdq ?_
 refine Olp (.i a1.B) zac zah ?_
 refine Of (a1.cells) zdq ?_
 refine Olp (.i a1.B) zac zah ?_
 refine Of (a1.cells) zcO ?_
 refine Olp (.i a1.A) zac zah ?_
 refine zl0 (by decide) rfl ?_
 refine ziF (z:=a1.A) (by decide) rfl rfl zhk hA ?_
 refine zaK (v:=.i a1.B) (ns:=[.i a1.B]) (L':=[(p,.cells (zds (xs.map vI) (off+a1.A.toNat*1) [.i a1.B]))]) 0 hS rfl rfl (.st hS0 0 rfl (by omega)) rfl rfl zfs (by simp;omega) rfl fun H hS=>?_
 refine zl0 (by decide) rfl ?_
 refine ziF (z:=a1.B) (by decide) rfl rfl zhk hB ?_
 have e1:zds (xs.map vI) (off+a1.A.toNat*1) [.i a1.B]=(xs.set (off+a1.A.toNat) a1.B).map vI:=by
  rw [zjZ (by simp;omega),List.map_set,Nat.mul_one]
  rfl
 rw [e1] at hS
 refine zaK (v:=.i a1.A) (ns:=[.i a1.A]) (L':=[(p,.cells (zds ((xs.set (off+a1.A.toNat) a1.B).map vI) (off+a1.B.toNat*1) [.i a1.A]))]) 0 hS rfl rfl (.st hS0 0 rfl (by omega)) rfl rfl zfs (by simp;omega) rfl fun H hS=>?_
 have e2:zds ((xs.set (off+a1.A.toNat) a1.B).map vI) (off+a1.B.toNat*1) [.i a1.A]=u.map vI:=by
  rw [zjZ (by simp;omega),←hM,Nat.mul_one]
  simp only [List.map_set]
  rfl
 rw [e2] at hS
 refine Ni ?_
 refine ⟨(zkz trivial (zkz trivial zoz)),?_⟩
 exact ⟨.inl rfl,⟨_,rfl,.refl _⟩,fun i hi=>(hS.old i hi).2,hS.get (n:=0) rfl⟩
end Go.Proofs.YtebfppngmmdfkaaGreat
