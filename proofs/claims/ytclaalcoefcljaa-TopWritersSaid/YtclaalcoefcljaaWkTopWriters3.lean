/-
  The code returns what the functions say (printed by gen.py).
  Conditions: none.
-/
import Derived.Test.YtclaalcoefcljaaWkTopWriters2
import Derived.Test.YtclaalcoefcljaaAmPc
set_option linter.all false
namespace Go.Proofs.Ytclaalcoefcljaa
open Go Go.AM Go.Law
set_option linter.unusedVariables false
set_option maxRecDepth 4000
set_option maxHeartbeats 4000000
theorem zkR {n:Nat} {a0:Tray} {r:Run_} (hM:zha n a0=some r):zaS Try.prog 41 [.agg (Tray.cells a0)] (.agg [.sl .no 4 (r.spells.map Spell_.cells),.sl .no 2 (r.plays.map TrayPlay.cells),.i r.steps,.i r.end_]):=by
 refine zaF mixed Try.func41 rfl (by decide) Try.ntmps41 (by simp) ?pure fun H0 g hf=>?_
 case pure=>exact .agg _ (zaf (.sl _ _ (zaK (fun x=>(zaf (.v _) (zaf (.v _) (zaf (.v _) (zaf (.v _) zaN))))))) (zaf (.sl _ _ (zaK (fun x=>(zaf (.v _) (zaf (.v _) zaN))))) (zaf (.v _) (zaf (.v _) zaN))))
 rw [zaA]
 change wpA _ _ _ _ (Fr.of [(0,.agg (Tray.cells a0))]) H0 g
 have hS:=St.start hf
 refine Sq ?_
 refine Rg 2 ?_
 refine zeZ (v:=.agg (Tray.cells a0)) (cs:=(Tray.cells a0)) hS (by decide) rfl rfl (by omega) fun H hS=>?_
 refine zem hS (by decide) zma (by omega) fun H hS=>?_
 refine Ni ?_
 refine zcW (L':=[(g+1,.cells [.sl .nil 0 [],.sl .nil 0 [],.i 0,.i 0])]) 1 1 hS rfl rfl rfl fun H hS=>?_
 refine Ws ?_
 refine Sq ?_
 have hS0:=hS
 refine zdb (n:=17) rfl (by kernel_rfl) ?_
 refine Olg (.agg (Tray.cells a0)) zdr ?_
 refine Of ((Tray.cells a0)) zdu ?_
 refine Olp (.sl .no 2 (a0.Presses.map TrayPress.cells)) zcJ zdq ?_
 obtain ⟨r1,hr1,hM⟩:=zap hM
 rcases bft (r1.length==0) with hb2 | hb2
 ·replace hM:=ifT hM hb2
  refine zpk (f:=TrayPress.cells) (us:=r1) (mk:=(fun s=>s)) (k:=2) (e:=55) (bs:=[.sl .no 2 (a0.Presses.map TrayPress.cells)]) hS (by decide) rfl rfl ((zk9.of_fresh (zdQ hr1)).le (.k .nil)) zqj (zaf (.sl _ _ (zaK (fun x=>(zaf (.v _) (zaf (.v _) zaN))))) zaN) (zg3 (fun x=>(zeL (zeL zg2)))) hb2 (by omega) fun H hS=>?_
  refine Of ((Tray.cells a0)) zbK ?_
  refine Olp (.sl .no 2 (a0.Records.map TrayRecord.cells)) zcv zc3 ?_
  refine zcI (n:=a0.Records.length) (by decide) rfl (List.length_map _) zc9 ?_
  refine Oi (.i (w64 (2*(a0.Records.length:Int)))) ?_
  obtain ⟨l3,hl3,hM⟩:=zap hM
  refine zgN (f:=cB) (z:=(w64 (2*(a0.Records.length:Int)))) (n:=(2*a0.Records.length)) (us:=l3) hS (by decide) rfl rfl hl3 rfl zgo zls zlg zlt (by omega) fun H hS=>?_
  refine Of ((Tray.cells a0)) zf6 ?_
  refine Olp (.i a0.At) zai zas ?_
  refine Of ((Tray.cells a0)) zfp ?_
  refine Olp (.i a0.Way) zai zas ?_
  refine zd3 (cs:=[.i a0.At,.i a0.Way,.i (-1)]) (by decide) zi2 zlu rfl ?_
  refine zd3 (cs:=[.sl .no 2 (a0.Records.map TrayRecord.cells),.i a0.At,.i a0.Way,.i a0.Step,.sl .no 2 (a0.Presses.map TrayPress.cells),.sl .no 2 (([]:List TrayPress).map TrayPress.cells),.ms (g+2+8) 0 1 (2*a0.Records.length) (2*a0.Records.length),.i 0,.i a0.At,.i a0.Way,.i (-1),.sl .nil 0 [],.sl .nil 0 [],.i 0,.i 0]) (by decide) zi3 zlv rfl ?_
  refine zeZ (v:=.agg [.sl .no 2 (a0.Records.map TrayRecord.cells),.i a0.At,.i a0.Way,.i a0.Step,.sl .no 2 (a0.Presses.map TrayPress.cells),.sl .no 2 (([]:List TrayPress).map TrayPress.cells),.ms (g+2+8) 0 1 (2*a0.Records.length) (2*a0.Records.length),.i 0,.i a0.At,.i a0.Way,.i (-1),.sl .nil 0 [],.sl .nil 0 [],.i 0,.i 0]) (cs:=[.sl .no 2 (a0.Records.map TrayRecord.cells),.i a0.At,.i a0.Way,.i a0.Step,.sl .no 2 (a0.Presses.map TrayPress.cells),.sl .no 2 (([]:List TrayPress).map TrayPress.cells),.ms (g+2+8) 0 1 (2*a0.Records.length) (2*a0.Records.length),.i 0,.i a0.At,.i a0.Way,.i (-1),.sl .nil 0 [],.sl .nil 0 [],.i 0,.i 0]) hS (by decide) rfl rfl (by omega) fun H hS=>?_
  refine Oa (.ptr (g+2+15) 0) ?_
  refine Ni ?_
  refine zj0 (cs':=[.sl .no 2 (a0.Records.map TrayRecord.cells),.i a0.At,.i a0.Way,.i a0.Step,.sl .no 2 (a0.Presses.map TrayPress.cells),.sl .no 2 (([]:List TrayPress).map TrayPress.cells),.ms (g+2+8) 0 1 (2*a0.Records.length) (2*a0.Records.length),.i 0,.i a0.At,.i a0.Way,.i (-1),.sl (.id (g+2+17)) 4 (([]:List Spell_).map Spell_.cells),.sl .nil 0 [],.i 0,.i 0]) (L':=[(g+2+15,.cells [.sl .no 2 (a0.Records.map TrayRecord.cells),.i a0.At,.i a0.Way,.i a0.Step,.sl .no 2 (a0.Presses.map TrayPress.cells),.sl .no 2 (([]:List TrayPress).map TrayPress.cells),.ms (g+2+8) 0 1 (2*a0.Records.length) (2*a0.Records.length),.i 0,.i a0.At,.i a0.Way,.i (-1),.sl (.id (g+2+17)) 4 (([]:List Spell_).map Spell_.cells),.sl .nil 0 [],.i 0,.i 0]),(g+2+8,.cells (l3.map cB).flatten),(g+1,.cells [.sl .nil 0 [],.sl .nil 0 [],.i 0,.i 0])]) 0 11 4 160 hS (by omega) (by decide) rfl rfl rfl rfl fun H hS=>?_
  refine zj0 (cs':=[.sl .no 2 (a0.Records.map TrayRecord.cells),.i a0.At,.i a0.Way,.i a0.Step,.sl .no 2 (a0.Presses.map TrayPress.cells),.sl .no 2 (([]:List TrayPress).map TrayPress.cells),.ms (g+2+8) 0 1 (2*a0.Records.length) (2*a0.Records.length),.i 0,.i a0.At,.i a0.Way,.i (-1),.sl (.id (g+2+17)) 4 (([]:List Spell_).map Spell_.cells),.sl (.id (g+2+17+1)) 2 (([]:List TrayPlay).map TrayPlay.cells),.i 0,.i 0]) (L':=[(g+2+17,.row 160 0),(g+2+15,.cells [.sl .no 2 (a0.Records.map TrayRecord.cells),.i a0.At,.i a0.Way,.i a0.Step,.sl .no 2 (a0.Presses.map TrayPress.cells),.sl .no 2 (([]:List TrayPress).map TrayPress.cells),.ms (g+2+8) 0 1 (2*a0.Records.length) (2*a0.Records.length),.i 0,.i a0.At,.i a0.Way,.i (-1),.sl (.id (g+2+17)) 4 (([]:List Spell_).map Spell_.cells),.sl (.id (g+2+17+1)) 2 (([]:List TrayPlay).map TrayPlay.cells),.i 0,.i 0]),(g+2+8,.cells (l3.map cB).flatten),(g+1,.cells [.sl .nil 0 [],.sl .nil 0 [],.i 0,.i 0])]) 1 12 2 71 hS (by omega) (by decide) rfl rfl rfl rfl fun H hS=>?_
  refine Ws ?_
  refine Sq ?_
  refine Rg 5 ?_
  refine Om (.ptr (g+2+15) 0) ?_
  refine zbQ (by decide) rfl ?_
  refine zan (by decide) zdY rfl ?_
  refine zbJ (v:=.sl .no 2 (([]:List TrayPress).map TrayPress.cells)) 2 hS (by decide) rfl rfl .no (po zcJ zdq) ?_
  obtain ⟨r4,hr4,hM⟩:=zap hM
  refine zbo (bs:=[.sl .no 2 (([]:List TrayPress).map TrayPress.cells),.fn (.func 68) [] []]) (by decide) rfl rfl ((zd2 hr4).le (.k (.k .nil))) ?_
  refine Ni ?_
  refine Ws ?_
  refine Sq ?_
  refine Rg 2 ?_
  refine Om (.ptr (g+2+15) 0) ?_
  obtain ⟨r5,hr5,hM⟩:=zap hM
  have hndr5:=hS.nd_at (ns:=[2,3,1,0]) (M:=[(g+2+15,.cells [.sl .no 2 (a0.Records.map TrayRecord.cells),.i a0.At,.i a0.Way,.i a0.Step,.sl .no 2 (a0.Presses.map TrayPress.cells),.sl .no 2 (([]:List TrayPress).map TrayPress.cells),.ms (g+2+8) 0 1 (2*a0.Records.length) (2*a0.Records.length),.i 0,.i a0.At,.i a0.Way,.i (-1),.sl (.id (g+2+17)) 4 (([]:List Spell_).map Spell_.cells),.sl (.id (g+2+17+1)) 2 (([]:List TrayPlay).map TrayPlay.cells),.i 0,.i 0]),(g+2+8,.cells (l3.map cB).flatten),(g+2+17,.row 160 0),(g+2+17+1,.row 71 0)]) (M':=[(g+2+15,.cells [.sl .no 2 (r5.2.t.Records.map TrayRecord.cells),.i r5.2.t.At,.i r5.2.t.Way,.i r5.2.t.Step,.sl .no 2 (r5.2.t.Presses.map TrayPress.cells),.sl .no 2 (r5.2.queue.map TrayPress.cells),.ms (g+2+8) 0 1 (2*r5.2.t.Records.length) (2*r5.2.t.Records.length),.i r5.2.now,.i r5.2.at_.At,.i r5.2.at_.Way,.i r5.2.at_.Side,.sl (.id (g+2+17)) 4 (r5.2.run.spells.map Spell_.cells),.sl (.id (g+2+17+1)) 2 (r5.2.run.plays.map TrayPlay.cells),.i r5.2.run.steps,.i r5.2.run.end_]),(g+2+8,.cells (r5.2.pins.map cB).flatten),(g+2+17,.row 160 r5.2.run.spells.length),(g+2+17+1,.row 71 r5.2.run.plays.length)]) (.cons rfl (.cons rfl (.cons rfl (.cons rfl .nil)))) (by decide)
  refine zfY (bs:=[.ptr (g+2+15) 0,.i (-1)]) (M:=[(g+2+15,.cells [.sl .no 2 (a0.Records.map TrayRecord.cells),.i a0.At,.i a0.Way,.i a0.Step,.sl .no 2 (a0.Presses.map TrayPress.cells),.sl .no 2 (([]:List TrayPress).map TrayPress.cells),.ms (g+2+8) 0 1 (2*a0.Records.length) (2*a0.Records.length),.i 0,.i a0.At,.i a0.Way,.i (-1),.sl (.id (g+2+17)) 4 (([]:List Spell_).map Spell_.cells),.sl (.id (g+2+17+1)) 2 (([]:List TrayPlay).map TrayPlay.cells),.i 0,.i 0]),(g+2+8,.cells (l3.map cB).flatten),(g+2+17,.row 160 0),(g+2+17+1,.row 71 0)]) (M':=[(g+2+15,.cells [.sl .no 2 (r5.2.t.Records.map TrayRecord.cells),.i r5.2.t.At,.i r5.2.t.Way,.i r5.2.t.Step,.sl .no 2 (r5.2.t.Presses.map TrayPress.cells),.sl .no 2 (r5.2.queue.map TrayPress.cells),.ms (g+2+8) 0 1 (2*r5.2.t.Records.length) (2*r5.2.t.Records.length),.i r5.2.now,.i r5.2.at_.At,.i r5.2.at_.Way,.i r5.2.at_.Side,.sl (.id (g+2+17)) 4 (r5.2.run.spells.map Spell_.cells),.sl (.id (g+2+17+1)) 2 (r5.2.run.plays.map TrayPlay.cells),.i r5.2.run.steps,.i r5.2.run.end_]),(g+2+8,.cells (r5.2.pins.map cB).flatten),(g+2+17,.row 160 r5.2.run.spells.length),(g+2+17+1,.row 71 r5.2.run.plays.length)]) (L':=[(g+2+17+1,.row 71 r5.2.run.plays.length),(g+2+17,.row 160 r5.2.run.spells.length),(g+2+15,.cells [.sl .no 2 (r5.2.t.Records.map TrayRecord.cells),.i r5.2.t.At,.i r5.2.t.Way,.i r5.2.t.Step,.sl .no 2 (r5.2.t.Presses.map TrayPress.cells),.sl .no 2 (r5.2.queue.map TrayPress.cells),.ms (g+2+8) 0 1 (2*r5.2.t.Records.length) (2*r5.2.t.Records.length),.i r5.2.now,.i r5.2.at_.At,.i r5.2.at_.Way,.i r5.2.at_.Side,.sl (.id (g+2+17)) 4 (r5.2.run.spells.map Spell_.cells),.sl (.id (g+2+17+1)) 2 (r5.2.run.plays.map TrayPlay.cells),.i r5.2.run.steps,.i r5.2.run.end_]),(g+2+8,.cells (r5.2.pins.map cB).flatten),(g+1,.cells [.sl .nil 0 [],.sl .nil 0 [],.i 0,.i 0])]) [2,3,1,0] (.inl rfl) hS (by decide) rfl rfl ((zcH (p1:=g+2+15) (w10:=g+2+8) (w11:=g+2+17) (w12:=g+2+17+1) hndr5 hr5).le (.k (.k .nil))) (.cons rfl (.cons rfl (.cons rfl (.cons rfl .nil)))) rfl (by omega) fun H hS=>?_
  refine Ni ?_
  refine Ws ?_
  refine zaY (J:=(List TrayRecord)×Int×Int×Int×(List TrayPress)×(List TrayPress)×Int×Int×Int×Int×(List Spell_)×(List TrayPlay)×Int×Int×(List Bool)) (fun j=>[(2,.ptr (g+1) 0),(3,.ptr (g+2+15) 0)]) (fun j H' g'=>St (·<g) H0 [(g+2+17+1,.row 71 j.2.2.2.2.2.2.2.2.2.2.2.1.length),(g+2+17,.row 160 j.2.2.2.2.2.2.2.2.2.2.1.length),(g+2+15,.cells [.sl .no 2 (j.1.map TrayRecord.cells),.i j.2.1,.i j.2.2.1,.i j.2.2.2.1,.sl .no 2 (j.2.2.2.2.1.map TrayPress.cells),.sl .no 2 (j.2.2.2.2.2.1.map TrayPress.cells),.ms (g+2+8) 0 1 (2*j.1.length) (2*j.1.length),.i j.2.2.2.2.2.2.1,.i j.2.2.2.2.2.2.2.1,.i j.2.2.2.2.2.2.2.2.1,.i j.2.2.2.2.2.2.2.2.2.1,.sl (.id (g+2+17)) 4 (j.2.2.2.2.2.2.2.2.2.2.1.map Spell_.cells),.sl (.id (g+2+17+1)) 2 (j.2.2.2.2.2.2.2.2.2.2.2.1.map TrayPlay.cells),.i j.2.2.2.2.2.2.2.2.2.2.2.2.1,.i j.2.2.2.2.2.2.2.2.2.2.2.2.2.1]),(g+2+8,.cells (j.2.2.2.2.2.2.2.2.2.2.2.2.2.2.map cB).flatten),(g+1,.cells [.sl .nil 0 [],.sl .nil 0 [],.i 0,.i 0])] H' g'/\zf0 j.1 j.2.1 j.2.2.1 j.2.2.2.1 j.2.2.2.2.1 j.2.2.2.2.2.1 j.2.2.2.2.2.2.1 j.2.2.2.2.2.2.2.1 j.2.2.2.2.2.2.2.2.1 j.2.2.2.2.2.2.2.2.2.1 j.2.2.2.2.2.2.2.2.2.2.1 j.2.2.2.2.2.2.2.2.2.2.2.1 j.2.2.2.2.2.2.2.2.2.2.2.2.1 j.2.2.2.2.2.2.2.2.2.2.2.2.2.1 j.2.2.2.2.2.2.2.2.2.2.2.2.2.2=some r) ?_ ?_
  ·rintro ⟨v6,v7,v8,v9,v10,v11,v12,v13,v14,v15,v16,v17,v18,v19,v20⟩ H g1 ⟨hS,hM⟩
   change wpA _ _ _ _ (Fr.of [(2,.ptr (g+1) 0),(3,.ptr (g+2+15) 0)]) _ _
   replace hS:St (·<g) H0 [(g+2+17+1,.row 71 v17.length),(g+2+17,.row 160 v16.length),(g+2+15,.cells [.sl .no 2 (v6.map TrayRecord.cells),.i v7,.i v8,.i v9,.sl .no 2 (v10.map TrayPress.cells),.sl .no 2 (v11.map TrayPress.cells),.ms (g+2+8) 0 1 (2*v6.length) (2*v6.length),.i v12,.i v13,.i v14,.i v15,.sl (.id (g+2+17)) 4 (v16.map Spell_.cells),.sl (.id (g+2+17+1)) 2 (v17.map TrayPlay.cells),.i v18,.i v19]),(g+2+8,.cells (v20.map cB).flatten),(g+1,.cells [.sl .nil 0 [],.sl .nil 0 [],.i 0,.i 0])] H g1:=hS
   replace hM:zf0 v6 v7 v8 v9 v10 v11 v12 v13 v14 v15 v16 v17 v18 v19 v20=some r:=hM
   refine Sq ?_
   refine Rg 5 ?_
   refine Om (.ptr (g+2+15) 0) ?_
   refine zbQ (by decide) rfl ?_
   refine zan (by decide) zd1 rfl ?_
   refine zbJ (v:=.agg [.sl (.id (g+2+17)) 4 (v16.map Spell_.cells),.sl (.id (g+2+17+1)) 2 (v17.map TrayPlay.cells),.i v18,.i v19]) 2 hS (by decide) rfl rfl .no (pg zhe) ?_
   refine zbC (v:=.agg [.sl (.id (g+2+17)) 4 (v16.map Spell_.cells),.sl (.id (g+2+17+1)) 2 (v17.map TrayPlay.cells),.i v18,.i v19]) (ns:=[.sl (.id (g+2+17)) 4 (v16.map Spell_.cells),.sl (.id (g+2+17+1)) 2 (v17.map TrayPlay.cells),.i v18,.i v19]) (L':=[(g+2+17+1,.row 71 v17.length),(g+2+17,.row 160 v16.length),(g+2+15,.cells [.sl .no 2 (v6.map TrayRecord.cells),.i v7,.i v8,.i v9,.sl .no 2 (v10.map TrayPress.cells),.sl .no 2 (v11.map TrayPress.cells),.ms (g+2+8) 0 1 (2*v6.length) (2*v6.length),.i v12,.i v13,.i v14,.i v15,.sl (.id (g+2+17)) 4 (v16.map Spell_.cells),.sl (.id (g+2+17+1)) 2 (v17.map TrayPlay.cells),.i v18,.i v19]),(g+2+8,.cells (v20.map cB).flatten),(g+1,.cells [.sl (.id (g+2+17)) 4 (v16.map Spell_.cells),.sl (.id (g+2+17+1)) 2 (v17.map TrayPlay.cells),.i v18,.i v19])]) 4 hS rfl rfl .no rfl rfl zj8 nlb rfl fun H hS=>?_
   refine Ni ?_
   replace hS:=hS.keep (L':=[(g+2+17+1,.row 71 v17.length),(g+2+17,.row 160 v16.length),(g+1,.cells [.sl (.id (g+2+17)) 4 (v16.map Spell_.cells),.sl (.id (g+2+17+1)) 2 (v17.map TrayPlay.cells),.i v18,.i v19])]) [true,true,false,false,true] rfl
   refine Ws ?_
   refine zbB ?_
   refine zbL (x:=.agg [.sl (.id (g+2+17)) 4 (v16.map Spell_.cells),.sl (.id (g+2+17+1)) 2 (v17.map TrayPlay.cells),.i v18,.i v19]) (f:=fun r=>.agg [.sl .no 4 (r.spells.map Spell_.cells),.sl .no 2 (r.plays.map TrayPlay.cells),.i r.steps,.i r.end_]) (.inr rfl) ?_ (.aggL (.cons (.sl _ _ _) (.cons (.sl _ _ _) (.k (.k .nil))))) (Option.some.inj hM) hS
   exact (zaJ (zfc (x:=.agg [.sl (.id (g+2+17)) 4 (v16.map Spell_.cells),.sl (.id (g+2+17+1)) 2 (v17.map TrayPlay.cells),.i v18,.i v19]) 2 hS rfl rfl (pg zhe)))
  ·refine zaB ?_
   refine zcx (V:=(List TrayRecord)×Int×Int×Int×(List TrayPress)×(List TrayPress)×Int×Int×Int×Int×(List Spell_)×(List TrayPlay)×Int×Int×(List Bool)) (fun v=>[(2,.ptr (g+1) 0),(3,.ptr (g+2+15) 0)]) (fun v m3 H' g'=>St (·<g) H0 [(g+2+17+1,.row 71 v.2.2.2.2.2.2.2.2.2.2.2.1.length),(g+2+17,.row 160 v.2.2.2.2.2.2.2.2.2.2.1.length),(g+2+15,.cells [.sl .no 2 (v.1.map TrayRecord.cells),.i v.2.1,.i v.2.2.1,.i v.2.2.2.1,.sl .no 2 (v.2.2.2.2.1.map TrayPress.cells),.sl .no 2 (v.2.2.2.2.2.1.map TrayPress.cells),.ms (g+2+8) 0 1 (2*v.1.length) (2*v.1.length),.i v.2.2.2.2.2.2.1,.i v.2.2.2.2.2.2.2.1,.i v.2.2.2.2.2.2.2.2.1,.i v.2.2.2.2.2.2.2.2.2.1,.sl (.id (g+2+17)) 4 (v.2.2.2.2.2.2.2.2.2.2.1.map Spell_.cells),.sl (.id (g+2+17+1)) 2 (v.2.2.2.2.2.2.2.2.2.2.2.1.map TrayPlay.cells),.i v.2.2.2.2.2.2.2.2.2.2.2.2.1,.i v.2.2.2.2.2.2.2.2.2.2.2.2.2.1]),(g+2+8,.cells (v.2.2.2.2.2.2.2.2.2.2.2.2.2.2.map cB).flatten),(g+1,.cells [.sl .nil 0 [],.sl .nil 0 [],.i 0,.i 0])] H' g'/\zdL n m3 v.1 v.2.1 v.2.2.1 v.2.2.2.1 v.2.2.2.2.1 v.2.2.2.2.2.1 v.2.2.2.2.2.2.1 v.2.2.2.2.2.2.2.1 v.2.2.2.2.2.2.2.2.1 v.2.2.2.2.2.2.2.2.2.1 v.2.2.2.2.2.2.2.2.2.2.1 v.2.2.2.2.2.2.2.2.2.2.2.1 v.2.2.2.2.2.2.2.2.2.2.2.2.1 v.2.2.2.2.2.2.2.2.2.2.2.2.2.1 v.2.2.2.2.2.2.2.2.2.2.2.2.2.2=some r) (n:=n) (r5.2.t.Records,r5.2.t.At,r5.2.t.Way,r5.2.t.Step,r5.2.t.Presses,r5.2.queue,r5.2.now,r5.2.at_.At,r5.2.at_.Way,r5.2.at_.Side,r5.2.run.spells,r5.2.run.plays,r5.2.run.steps,r5.2.run.end_,r5.2.pins) (.k (.k .nil)) ⟨(hS.keep [true,true,true,true,true] rfl).up (by omega),hM⟩ ?_
   rintro ⟨v21,v22,v23,v24,v25,v26,v27,v28,v29,v30,v31,v32,v33,v34,v35⟩ m3 H g3 ⟨hS,hM⟩
   obtain _ | m3:=m3
   ·exact nomatch (show none=some _ from hM)
   change wpA _ _ _ _ (Fr.of [(2,.ptr (g+1) 0),(3,.ptr (g+2+15) 0)]) _ _
   replace hS:St (·<g) H0 [(g+2+17+1,.row 71 v32.length),(g+2+17,.row 160 v31.length),(g+2+15,.cells [.sl .no 2 (v21.map TrayRecord.cells),.i v22,.i v23,.i v24,.sl .no 2 (v25.map TrayPress.cells),.sl .no 2 (v26.map TrayPress.cells),.ms (g+2+8) 0 1 (2*v21.length) (2*v21.length),.i v27,.i v28,.i v29,.i v30,.sl (.id (g+2+17)) 4 (v31.map Spell_.cells),.sl (.id (g+2+17+1)) 2 (v32.map TrayPlay.cells),.i v33,.i v34]),(g+2+8,.cells (v35.map cB).flatten),(g+1,.cells [.sl .nil 0 [],.sl .nil 0 [],.i 0,.i 0])] H g3:=hS
   replace hM:zfl n (zdL n m3) v21 v22 v23 v24 v25 v26 v27 v28 v29 v30 v31 v32 v33 v34 v35=some r:=hM
   refine Sq ?_
   refine Sq ?_
   refine Rg 2 ?_
   refine Om (.ptr (g+2+15) 0) ?_
   obtain ⟨r36,hr36,hM⟩:=zap hM
   have hndr36:=hS.nd_at (ns:=[2,3,1,0]) (M:=[(g+2+15,.cells [.sl .no 2 (v21.map TrayRecord.cells),.i v22,.i v23,.i v24,.sl .no 2 (v25.map TrayPress.cells),.sl .no 2 (v26.map TrayPress.cells),.ms (g+2+8) 0 1 (2*v21.length) (2*v21.length),.i v27,.i v28,.i v29,.i v30,.sl (.id (g+2+17)) 4 (v31.map Spell_.cells),.sl (.id (g+2+17+1)) 2 (v32.map TrayPlay.cells),.i v33,.i v34]),(g+2+8,.cells (v35.map cB).flatten),(g+2+17,.row 160 v31.length),(g+2+17+1,.row 71 v32.length)]) (M':=[(g+2+15,.cells [.sl .no 2 (r36.2.t.Records.map TrayRecord.cells),.i r36.2.t.At,.i r36.2.t.Way,.i r36.2.t.Step,.sl .no 2 (r36.2.t.Presses.map TrayPress.cells),.sl .no 2 (r36.2.queue.map TrayPress.cells),.ms (g+2+8) 0 1 (2*r36.2.t.Records.length) (2*r36.2.t.Records.length),.i r36.2.now,.i r36.2.at_.At,.i r36.2.at_.Way,.i r36.2.at_.Side,.sl (.id (g+2+17)) 4 (r36.2.run.spells.map Spell_.cells),.sl (.id (g+2+17+1)) 2 (r36.2.run.plays.map TrayPlay.cells),.i r36.2.run.steps,.i r36.2.run.end_]),(g+2+8,.cells (r36.2.pins.map cB).flatten),(g+2+17,.row 160 r36.2.run.spells.length),(g+2+17+1,.row 71 r36.2.run.plays.length)]) (.cons rfl (.cons rfl (.cons rfl (.cons rfl .nil)))) (by decide)
   refine zfY (bs:=[.ptr (g+2+15) 0]) (M:=[(g+2+15,.cells [.sl .no 2 (v21.map TrayRecord.cells),.i v22,.i v23,.i v24,.sl .no 2 (v25.map TrayPress.cells),.sl .no 2 (v26.map TrayPress.cells),.ms (g+2+8) 0 1 (2*v21.length) (2*v21.length),.i v27,.i v28,.i v29,.i v30,.sl (.id (g+2+17)) 4 (v31.map Spell_.cells),.sl (.id (g+2+17+1)) 2 (v32.map TrayPlay.cells),.i v33,.i v34]),(g+2+8,.cells (v35.map cB).flatten),(g+2+17,.row 160 v31.length),(g+2+17+1,.row 71 v32.length)]) (M':=[(g+2+15,.cells [.sl .no 2 (r36.2.t.Records.map TrayRecord.cells),.i r36.2.t.At,.i r36.2.t.Way,.i r36.2.t.Step,.sl .no 2 (r36.2.t.Presses.map TrayPress.cells),.sl .no 2 (r36.2.queue.map TrayPress.cells),.ms (g+2+8) 0 1 (2*r36.2.t.Records.length) (2*r36.2.t.Records.length),.i r36.2.now,.i r36.2.at_.At,.i r36.2.at_.Way,.i r36.2.at_.Side,.sl (.id (g+2+17)) 4 (r36.2.run.spells.map Spell_.cells),.sl (.id (g+2+17+1)) 2 (r36.2.run.plays.map TrayPlay.cells),.i r36.2.run.steps,.i r36.2.run.end_]),(g+2+8,.cells (r36.2.pins.map cB).flatten),(g+2+17,.row 160 r36.2.run.spells.length),(g+2+17+1,.row 71 r36.2.run.plays.length)]) (L':=[(g+2+17+1,.row 71 r36.2.run.plays.length),(g+2+17,.row 160 r36.2.run.spells.length),(g+2+15,.cells [.sl .no 2 (r36.2.t.Records.map TrayRecord.cells),.i r36.2.t.At,.i r36.2.t.Way,.i r36.2.t.Step,.sl .no 2 (r36.2.t.Presses.map TrayPress.cells),.sl .no 2 (r36.2.queue.map TrayPress.cells),.ms (g+2+8) 0 1 (2*r36.2.t.Records.length) (2*r36.2.t.Records.length),.i r36.2.now,.i r36.2.at_.At,.i r36.2.at_.Way,.i r36.2.at_.Side,.sl (.id (g+2+17)) 4 (r36.2.run.spells.map Spell_.cells),.sl (.id (g+2+17+1)) 2 (r36.2.run.plays.map TrayPlay.cells),.i r36.2.run.steps,.i r36.2.run.end_]),(g+2+8,.cells (r36.2.pins.map cB).flatten),(g+1,.cells [.sl .nil 0 [],.sl .nil 0 [],.i 0,.i 0])]) [2,3,1,0] (.inl rfl) hS (by decide) rfl rfl ((ze7 (p1:=g+2+15) (w10:=g+2+8) (w11:=g+2+17) (w12:=g+2+17+1) hndr36 hr36).le (.k .nil)) (.cons rfl (.cons rfl (.cons rfl (.cons rfl .nil)))) rfl (by omega) fun H hS=>?_
   refine Ni ?_
   refine Ws ?_
   rcases bft r36.1 with hb37 | hb37
   ·replace hM:=ifT hM hb37
    refine Ct hb37 ?_
    refine zaI ?_
    refine Ws ?_
    refine zaB ?_
    refine zaI ?_
    refine zak ?_
    exact zbY (r36.2.t.Records,r36.2.t.At,r36.2.t.Way,r36.2.t.Step,r36.2.t.Presses,r36.2.queue,r36.2.now,r36.2.at_.At,r36.2.at_.Way,r36.2.at_.Side,r36.2.run.spells,r36.2.run.plays,r36.2.run.steps,r36.2.run.end_,r36.2.pins) (Nat.lt_succ_self _) (.k (.k .nil)) ⟨(hS.keep [true,true,true,true,true] rfl).up (by omega),hM⟩
   ·replace hM:=ifF hM hb37
    refine Cf hb37 ?_
    refine zcw ?_
    refine zax ?_
    refine zaq ?_
    refine zaG ?_
    exact zal (r36.2.t.Records,r36.2.t.At,r36.2.t.Way,r36.2.t.Step,r36.2.t.Presses,r36.2.queue,r36.2.now,r36.2.at_.At,r36.2.at_.Way,r36.2.at_.Side,r36.2.run.spells,r36.2.run.plays,r36.2.run.steps,r36.2.run.end_,r36.2.pins) (.k (.k .nil)) ⟨(hS.keep [true,true,true,true,true] rfl).up (by omega),hM⟩
 ·replace hM:=ifF hM hb2
  refine zpj (f:=TrayPress.cells) (us:=r1) (mk:=(fun s=>s)) (k:=2) (e:=55) (bs:=[.sl .no 2 (a0.Presses.map TrayPress.cells)]) hS (by decide) rfl rfl ((zk9.of_fresh (zdQ hr1)).le (.k .nil)) zqj (zaf (.sl _ _ (zaK (fun x=>(zaf (.v _) (zaf (.v _) zaN))))) zaN) (zg3 (fun x=>(zeL (zeL zg2)))) hb2 (by omega) fun H hS=>?_
  refine Of ((Tray.cells a0)) zbK ?_
  refine Olp (.sl .no 2 (a0.Records.map TrayRecord.cells)) zcv zc3 ?_
  refine zcI (n:=a0.Records.length) (by decide) rfl (List.length_map _) zc9 ?_
  refine Oi (.i (w64 (2*(a0.Records.length:Int)))) ?_
  obtain ⟨l38,hl38,hM⟩:=zap hM
  refine zgN (f:=cB) (z:=(w64 (2*(a0.Records.length:Int)))) (n:=(2*a0.Records.length)) (us:=l38) hS (by decide) rfl rfl hl38 rfl zgo zls zlg zlt (by omega) fun H hS=>?_
  refine Of ((Tray.cells a0)) zf6 ?_
  refine Olp (.i a0.At) zai zas ?_
  refine Of ((Tray.cells a0)) zfp ?_
  refine Olp (.i a0.Way) zai zas ?_
  refine zd3 (cs:=[.i a0.At,.i a0.Way,.i (-1)]) (by decide) zi2 zlu rfl ?_
  refine zd3 (cs:=[.sl .no 2 (a0.Records.map TrayRecord.cells),.i a0.At,.i a0.Way,.i a0.Step,.sl .no 2 (a0.Presses.map TrayPress.cells),.ms (g+2+3) 0 2 r1.length r1.length,.ms (g+2+8) 0 1 (2*a0.Records.length) (2*a0.Records.length),.i 0,.i a0.At,.i a0.Way,.i (-1),.sl .nil 0 [],.sl .nil 0 [],.i 0,.i 0]) (by decide) zi3 zlv rfl ?_
  refine zeZ (v:=.agg [.sl .no 2 (a0.Records.map TrayRecord.cells),.i a0.At,.i a0.Way,.i a0.Step,.sl .no 2 (a0.Presses.map TrayPress.cells),.ms (g+2+3) 0 2 r1.length r1.length,.ms (g+2+8) 0 1 (2*a0.Records.length) (2*a0.Records.length),.i 0,.i a0.At,.i a0.Way,.i (-1),.sl .nil 0 [],.sl .nil 0 [],.i 0,.i 0]) (cs:=[.sl .no 2 (a0.Records.map TrayRecord.cells),.i a0.At,.i a0.Way,.i a0.Step,.sl .no 2 (a0.Presses.map TrayPress.cells),.ms (g+2+3) 0 2 r1.length r1.length,.ms (g+2+8) 0 1 (2*a0.Records.length) (2*a0.Records.length),.i 0,.i a0.At,.i a0.Way,.i (-1),.sl .nil 0 [],.sl .nil 0 [],.i 0,.i 0]) hS (by decide) rfl rfl (by omega) fun H hS=>?_
  refine Oa (.ptr (g+2+15) 0) ?_
  refine Ni ?_
  refine zj0 (cs':=[.sl .no 2 (a0.Records.map TrayRecord.cells),.i a0.At,.i a0.Way,.i a0.Step,.sl .no 2 (a0.Presses.map TrayPress.cells),.ms (g+2+3) 0 2 r1.length r1.length,.ms (g+2+8) 0 1 (2*a0.Records.length) (2*a0.Records.length),.i 0,.i a0.At,.i a0.Way,.i (-1),.sl (.id (g+2+17)) 4 (([]:List Spell_).map Spell_.cells),.sl .nil 0 [],.i 0,.i 0]) (L':=[(g+2+15,.cells [.sl .no 2 (a0.Records.map TrayRecord.cells),.i a0.At,.i a0.Way,.i a0.Step,.sl .no 2 (a0.Presses.map TrayPress.cells),.ms (g+2+3) 0 2 r1.length r1.length,.ms (g+2+8) 0 1 (2*a0.Records.length) (2*a0.Records.length),.i 0,.i a0.At,.i a0.Way,.i (-1),.sl (.id (g+2+17)) 4 (([]:List Spell_).map Spell_.cells),.sl .nil 0 [],.i 0,.i 0]),(g+2+8,.cells (l38.map cB).flatten),(g+2+3,.cells (r1.map TrayPress.cells).flatten),(g+1,.cells [.sl .nil 0 [],.sl .nil 0 [],.i 0,.i 0])]) 0 11 4 160 hS (by omega) (by decide) rfl rfl rfl rfl fun H hS=>?_
  refine zj0 (cs':=[.sl .no 2 (a0.Records.map TrayRecord.cells),.i a0.At,.i a0.Way,.i a0.Step,.sl .no 2 (a0.Presses.map TrayPress.cells),.ms (g+2+3) 0 2 r1.length r1.length,.ms (g+2+8) 0 1 (2*a0.Records.length) (2*a0.Records.length),.i 0,.i a0.At,.i a0.Way,.i (-1),.sl (.id (g+2+17)) 4 (([]:List Spell_).map Spell_.cells),.sl (.id (g+2+17+1)) 2 (([]:List TrayPlay).map TrayPlay.cells),.i 0,.i 0]) (L':=[(g+2+17,.row 160 0),(g+2+15,.cells [.sl .no 2 (a0.Records.map TrayRecord.cells),.i a0.At,.i a0.Way,.i a0.Step,.sl .no 2 (a0.Presses.map TrayPress.cells),.ms (g+2+3) 0 2 r1.length r1.length,.ms (g+2+8) 0 1 (2*a0.Records.length) (2*a0.Records.length),.i 0,.i a0.At,.i a0.Way,.i (-1),.sl (.id (g+2+17)) 4 (([]:List Spell_).map Spell_.cells),.sl (.id (g+2+17+1)) 2 (([]:List TrayPlay).map TrayPlay.cells),.i 0,.i 0]),(g+2+8,.cells (l38.map cB).flatten),(g+2+3,.cells (r1.map TrayPress.cells).flatten),(g+1,.cells [.sl .nil 0 [],.sl .nil 0 [],.i 0,.i 0])]) 1 12 2 71 hS (by omega) (by decide) rfl rfl rfl rfl fun H hS=>?_
  refine Ws ?_
  refine Sq ?_
  refine Rg 5 ?_
  refine Om (.ptr (g+2+15) 0) ?_
  refine zbQ (by decide) rfl ?_
  refine zan (by decide) zdY rfl ?_
  refine zbJ (v:=.ms (g+2+3) 0 2 r1.length r1.length) 2 hS (by decide) rfl rfl .no (po zcJ zdq) ?_
  obtain ⟨r39,hr39,hM⟩:=zap hM
  have hndr39:=hS.nd_at (ns:=[4]) (M:=[(g+2+3,.cells (r1.map TrayPress.cells).flatten)]) (M':=[(g+2+3,.cells (r39.2.1.map TrayPress.cells).flatten)]) (.cons rfl .nil) (by decide)
  refine zfY (bs:=[.ms (g+2+3) 0 2 r1.length r1.length,.fn (.func 68) [] []]) (M:=[(g+2+3,.cells (r1.map TrayPress.cells).flatten)]) (M':=[(g+2+3,.cells (r39.2.1.map TrayPress.cells).flatten)]) (L':=[(g+2+17+1,.row 71 0),(g+2+17,.row 160 0),(g+2+15,.cells [.sl .no 2 (a0.Records.map TrayRecord.cells),.i a0.At,.i a0.Way,.i a0.Step,.sl .no 2 (a0.Presses.map TrayPress.cells),.ms (g+2+3) 0 2 r1.length r1.length,.ms (g+2+8) 0 1 (2*a0.Records.length) (2*a0.Records.length),.i 0,.i a0.At,.i a0.Way,.i (-1),.sl (.id (g+2+17)) 4 (([]:List Spell_).map Spell_.cells),.sl (.id (g+2+17+1)) 2 (([]:List TrayPlay).map TrayPlay.cells),.i 0,.i 0]),(g+2+8,.cells (l38.map cB).flatten),(g+2+3,.cells (r39.2.1.map TrayPress.cells).flatten),(g+1,.cells [.sl .nil 0 [],.sl .nil 0 [],.i 0,.i 0])]) [4] (.inl rfl) hS (by decide) rfl rfl ((zd9 (Lo:=(fun (_:Unit)=>[])) (p1:=g+2+3) (fun _ _=>zfG) (fun _=>hndr39) (fun _=>zhs) (aF:=(fun (x0:TrayPress) (x1:TrayPress) (_:Unit)=>(zff x0 x1).map fun y=>(y,()))) (fun _ H hH=>(.fn _ _ _ ziY ziY)) rfl (fun h=>zlc (ziG (zj3 h))) hr39).le (.k (.k .nil))) (.cons rfl .nil) rfl (by omega) fun H hS=>?_
  refine Ni ?_
  obtain ⟨x40,hx40,hM⟩:=zap hM
  refine znc (p:=5) (k:=2) (es:=r39.2.1.map TrayPress.cells) (cs':=[.sl .no 2 (a0.Records.map TrayRecord.cells),.i a0.At,.i a0.Way,.i a0.Step,.sl .no 2 (a0.Presses.map TrayPress.cells),.sl .no 2 (r39.2.1.map TrayPress.cells),.ms (g+2+8) 0 1 (2*a0.Records.length) (2*a0.Records.length),.i 0,.i a0.At,.i a0.Way,.i (-1),.sl (.id (g+2+17)) 4 (([]:List Spell_).map Spell_.cells),.sl (.id (g+2+17+1)) 2 (([]:List TrayPlay).map TrayPlay.cells),.i 0,.i 0]) (L':=[(g+2+17+1,.row 71 0),(g+2+17,.row 160 0),(g+2+15,.cells [.sl .no 2 (a0.Records.map TrayRecord.cells),.i a0.At,.i a0.Way,.i a0.Step,.sl .no 2 (a0.Presses.map TrayPress.cells),.sl .no 2 (r39.2.1.map TrayPress.cells),.ms (g+2+8) 0 1 (2*a0.Records.length) (2*a0.Records.length),.i 0,.i a0.At,.i a0.Way,.i (-1),.sl (.id (g+2+17)) 4 (([]:List Spell_).map Spell_.cells),.sl (.id (g+2+17+1)) 2 (([]:List TrayPlay).map TrayPlay.cells),.i 0,.i 0]),(g+2+8,.cells (l38.map cB).flatten),(g+1,.cells [.sl .nil 0 [],.sl .nil 0 [],.i 0,.i 0])]) 2 4 hS rfl rfl rfl (zgi hx40) (zg5 hx40) (by decide) (zfA (fun _=>rfl)) (zg3 (fun x=>(zeL (zeL zg2)))) rfl rfl fun H hS=>?_
  refine Ws ?_
  refine Sq ?_
  refine Rg 2 ?_
  refine Om (.ptr (g+2+15) 0) ?_
  obtain ⟨r41,hr41,hM⟩:=zap hM
  have hndr41:=hS.nd_at (ns:=[2,3,1,0]) (M:=[(g+2+15,.cells [.sl .no 2 (a0.Records.map TrayRecord.cells),.i a0.At,.i a0.Way,.i a0.Step,.sl .no 2 (a0.Presses.map TrayPress.cells),.sl .no 2 (r39.2.1.map TrayPress.cells),.ms (g+2+8) 0 1 (2*a0.Records.length) (2*a0.Records.length),.i 0,.i a0.At,.i a0.Way,.i (-1),.sl (.id (g+2+17)) 4 (([]:List Spell_).map Spell_.cells),.sl (.id (g+2+17+1)) 2 (([]:List TrayPlay).map TrayPlay.cells),.i 0,.i 0]),(g+2+8,.cells (l38.map cB).flatten),(g+2+17,.row 160 0),(g+2+17+1,.row 71 0)]) (M':=[(g+2+15,.cells [.sl .no 2 (r41.2.t.Records.map TrayRecord.cells),.i r41.2.t.At,.i r41.2.t.Way,.i r41.2.t.Step,.sl .no 2 (r41.2.t.Presses.map TrayPress.cells),.sl .no 2 (r41.2.queue.map TrayPress.cells),.ms (g+2+8) 0 1 (2*r41.2.t.Records.length) (2*r41.2.t.Records.length),.i r41.2.now,.i r41.2.at_.At,.i r41.2.at_.Way,.i r41.2.at_.Side,.sl (.id (g+2+17)) 4 (r41.2.run.spells.map Spell_.cells),.sl (.id (g+2+17+1)) 2 (r41.2.run.plays.map TrayPlay.cells),.i r41.2.run.steps,.i r41.2.run.end_]),(g+2+8,.cells (r41.2.pins.map cB).flatten),(g+2+17,.row 160 r41.2.run.spells.length),(g+2+17+1,.row 71 r41.2.run.plays.length)]) (.cons rfl (.cons rfl (.cons rfl (.cons rfl .nil)))) (by decide)
  refine zfY (bs:=[.ptr (g+2+15) 0,.i (-1)]) (M:=[(g+2+15,.cells [.sl .no 2 (a0.Records.map TrayRecord.cells),.i a0.At,.i a0.Way,.i a0.Step,.sl .no 2 (a0.Presses.map TrayPress.cells),.sl .no 2 (r39.2.1.map TrayPress.cells),.ms (g+2+8) 0 1 (2*a0.Records.length) (2*a0.Records.length),.i 0,.i a0.At,.i a0.Way,.i (-1),.sl (.id (g+2+17)) 4 (([]:List Spell_).map Spell_.cells),.sl (.id (g+2+17+1)) 2 (([]:List TrayPlay).map TrayPlay.cells),.i 0,.i 0]),(g+2+8,.cells (l38.map cB).flatten),(g+2+17,.row 160 0),(g+2+17+1,.row 71 0)]) (M':=[(g+2+15,.cells [.sl .no 2 (r41.2.t.Records.map TrayRecord.cells),.i r41.2.t.At,.i r41.2.t.Way,.i r41.2.t.Step,.sl .no 2 (r41.2.t.Presses.map TrayPress.cells),.sl .no 2 (r41.2.queue.map TrayPress.cells),.ms (g+2+8) 0 1 (2*r41.2.t.Records.length) (2*r41.2.t.Records.length),.i r41.2.now,.i r41.2.at_.At,.i r41.2.at_.Way,.i r41.2.at_.Side,.sl (.id (g+2+17)) 4 (r41.2.run.spells.map Spell_.cells),.sl (.id (g+2+17+1)) 2 (r41.2.run.plays.map TrayPlay.cells),.i r41.2.run.steps,.i r41.2.run.end_]),(g+2+8,.cells (r41.2.pins.map cB).flatten),(g+2+17,.row 160 r41.2.run.spells.length),(g+2+17+1,.row 71 r41.2.run.plays.length)]) (L':=[(g+2+17+1,.row 71 r41.2.run.plays.length),(g+2+17,.row 160 r41.2.run.spells.length),(g+2+15,.cells [.sl .no 2 (r41.2.t.Records.map TrayRecord.cells),.i r41.2.t.At,.i r41.2.t.Way,.i r41.2.t.Step,.sl .no 2 (r41.2.t.Presses.map TrayPress.cells),.sl .no 2 (r41.2.queue.map TrayPress.cells),.ms (g+2+8) 0 1 (2*r41.2.t.Records.length) (2*r41.2.t.Records.length),.i r41.2.now,.i r41.2.at_.At,.i r41.2.at_.Way,.i r41.2.at_.Side,.sl (.id (g+2+17)) 4 (r41.2.run.spells.map Spell_.cells),.sl (.id (g+2+17+1)) 2 (r41.2.run.plays.map TrayPlay.cells),.i r41.2.run.steps,.i r41.2.run.end_]),(g+2+8,.cells (r41.2.pins.map cB).flatten),(g+1,.cells [.sl .nil 0 [],.sl .nil 0 [],.i 0,.i 0])]) [2,3,1,0] (.inl rfl) hS (by decide) rfl rfl ((zcH (p1:=g+2+15) (w10:=g+2+8) (w11:=g+2+17) (w12:=g+2+17+1) hndr41 hr41).le (.k (.k .nil))) (.cons rfl (.cons rfl (.cons rfl (.cons rfl .nil)))) rfl (by omega) fun H hS=>?_
  refine Ni ?_
  refine Ws ?_
  refine zaY (J:=(List TrayRecord)×Int×Int×Int×(List TrayPress)×(List TrayPress)×Int×Int×Int×Int×(List Spell_)×(List TrayPlay)×Int×Int×(List Bool)) (fun j=>[(2,.ptr (g+1) 0),(3,.ptr (g+2+15) 0)]) (fun j H' g'=>St (·<g) H0 [(g+2+17+1,.row 71 j.2.2.2.2.2.2.2.2.2.2.2.1.length),(g+2+17,.row 160 j.2.2.2.2.2.2.2.2.2.2.1.length),(g+2+15,.cells [.sl .no 2 (j.1.map TrayRecord.cells),.i j.2.1,.i j.2.2.1,.i j.2.2.2.1,.sl .no 2 (j.2.2.2.2.1.map TrayPress.cells),.sl .no 2 (j.2.2.2.2.2.1.map TrayPress.cells),.ms (g+2+8) 0 1 (2*j.1.length) (2*j.1.length),.i j.2.2.2.2.2.2.1,.i j.2.2.2.2.2.2.2.1,.i j.2.2.2.2.2.2.2.2.1,.i j.2.2.2.2.2.2.2.2.2.1,.sl (.id (g+2+17)) 4 (j.2.2.2.2.2.2.2.2.2.2.1.map Spell_.cells),.sl (.id (g+2+17+1)) 2 (j.2.2.2.2.2.2.2.2.2.2.2.1.map TrayPlay.cells),.i j.2.2.2.2.2.2.2.2.2.2.2.2.1,.i j.2.2.2.2.2.2.2.2.2.2.2.2.2.1]),(g+2+8,.cells (j.2.2.2.2.2.2.2.2.2.2.2.2.2.2.map cB).flatten),(g+1,.cells [.sl .nil 0 [],.sl .nil 0 [],.i 0,.i 0])] H' g'/\zf1 j.1 j.2.1 j.2.2.1 j.2.2.2.1 j.2.2.2.2.1 j.2.2.2.2.2.1 j.2.2.2.2.2.2.1 j.2.2.2.2.2.2.2.1 j.2.2.2.2.2.2.2.2.1 j.2.2.2.2.2.2.2.2.2.1 j.2.2.2.2.2.2.2.2.2.2.1 j.2.2.2.2.2.2.2.2.2.2.2.1 j.2.2.2.2.2.2.2.2.2.2.2.2.1 j.2.2.2.2.2.2.2.2.2.2.2.2.2.1 j.2.2.2.2.2.2.2.2.2.2.2.2.2.2=some r) ?_ ?_
  ·rintro ⟨v42,v43,v44,v45,v46,v47,v48,v49,v50,v51,v52,v53,v54,v55,v56⟩ H g4 ⟨hS,hM⟩
   change wpA _ _ _ _ (Fr.of [(2,.ptr (g+1) 0),(3,.ptr (g+2+15) 0)]) _ _
   replace hS:St (·<g) H0 [(g+2+17+1,.row 71 v53.length),(g+2+17,.row 160 v52.length),(g+2+15,.cells [.sl .no 2 (v42.map TrayRecord.cells),.i v43,.i v44,.i v45,.sl .no 2 (v46.map TrayPress.cells),.sl .no 2 (v47.map TrayPress.cells),.ms (g+2+8) 0 1 (2*v42.length) (2*v42.length),.i v48,.i v49,.i v50,.i v51,.sl (.id (g+2+17)) 4 (v52.map Spell_.cells),.sl (.id (g+2+17+1)) 2 (v53.map TrayPlay.cells),.i v54,.i v55]),(g+2+8,.cells (v56.map cB).flatten),(g+1,.cells [.sl .nil 0 [],.sl .nil 0 [],.i 0,.i 0])] H g4:=hS
   replace hM:zf1 v42 v43 v44 v45 v46 v47 v48 v49 v50 v51 v52 v53 v54 v55 v56=some r:=hM
   refine Sq ?_
   refine Rg 5 ?_
   refine Om (.ptr (g+2+15) 0) ?_
   refine zbQ (by decide) rfl ?_
   refine zan (by decide) zd1 rfl ?_
   refine zbJ (v:=.agg [.sl (.id (g+2+17)) 4 (v52.map Spell_.cells),.sl (.id (g+2+17+1)) 2 (v53.map TrayPlay.cells),.i v54,.i v55]) 2 hS (by decide) rfl rfl .no (pg zhe) ?_
   refine zbC (v:=.agg [.sl (.id (g+2+17)) 4 (v52.map Spell_.cells),.sl (.id (g+2+17+1)) 2 (v53.map TrayPlay.cells),.i v54,.i v55]) (ns:=[.sl (.id (g+2+17)) 4 (v52.map Spell_.cells),.sl (.id (g+2+17+1)) 2 (v53.map TrayPlay.cells),.i v54,.i v55]) (L':=[(g+2+17+1,.row 71 v53.length),(g+2+17,.row 160 v52.length),(g+2+15,.cells [.sl .no 2 (v42.map TrayRecord.cells),.i v43,.i v44,.i v45,.sl .no 2 (v46.map TrayPress.cells),.sl .no 2 (v47.map TrayPress.cells),.ms (g+2+8) 0 1 (2*v42.length) (2*v42.length),.i v48,.i v49,.i v50,.i v51,.sl (.id (g+2+17)) 4 (v52.map Spell_.cells),.sl (.id (g+2+17+1)) 2 (v53.map TrayPlay.cells),.i v54,.i v55]),(g+2+8,.cells (v56.map cB).flatten),(g+1,.cells [.sl (.id (g+2+17)) 4 (v52.map Spell_.cells),.sl (.id (g+2+17+1)) 2 (v53.map TrayPlay.cells),.i v54,.i v55])]) 4 hS rfl rfl .no rfl rfl zj8 nlb rfl fun H hS=>?_
   refine Ni ?_
   replace hS:=hS.keep (L':=[(g+2+17+1,.row 71 v53.length),(g+2+17,.row 160 v52.length),(g+1,.cells [.sl (.id (g+2+17)) 4 (v52.map Spell_.cells),.sl (.id (g+2+17+1)) 2 (v53.map TrayPlay.cells),.i v54,.i v55])]) [true,true,false,false,true] rfl
   refine Ws ?_
   refine zbB ?_
   refine zbL (x:=.agg [.sl (.id (g+2+17)) 4 (v52.map Spell_.cells),.sl (.id (g+2+17+1)) 2 (v53.map TrayPlay.cells),.i v54,.i v55]) (f:=fun r=>.agg [.sl .no 4 (r.spells.map Spell_.cells),.sl .no 2 (r.plays.map TrayPlay.cells),.i r.steps,.i r.end_]) (.inr rfl) ?_ (.aggL (.cons (.sl _ _ _) (.cons (.sl _ _ _) (.k (.k .nil))))) (Option.some.inj hM) hS
   exact (zaJ (zfc (x:=.agg [.sl (.id (g+2+17)) 4 (v52.map Spell_.cells),.sl (.id (g+2+17+1)) 2 (v53.map TrayPlay.cells),.i v54,.i v55]) 2 hS rfl rfl (pg zhe)))
  ·refine zaB ?_
   refine zcx (V:=(List TrayRecord)×Int×Int×Int×(List TrayPress)×(List TrayPress)×Int×Int×Int×Int×(List Spell_)×(List TrayPlay)×Int×Int×(List Bool)) (fun v=>[(2,.ptr (g+1) 0),(3,.ptr (g+2+15) 0)]) (fun v m6 H' g'=>St (·<g) H0 [(g+2+17+1,.row 71 v.2.2.2.2.2.2.2.2.2.2.2.1.length),(g+2+17,.row 160 v.2.2.2.2.2.2.2.2.2.2.1.length),(g+2+15,.cells [.sl .no 2 (v.1.map TrayRecord.cells),.i v.2.1,.i v.2.2.1,.i v.2.2.2.1,.sl .no 2 (v.2.2.2.2.1.map TrayPress.cells),.sl .no 2 (v.2.2.2.2.2.1.map TrayPress.cells),.ms (g+2+8) 0 1 (2*v.1.length) (2*v.1.length),.i v.2.2.2.2.2.2.1,.i v.2.2.2.2.2.2.2.1,.i v.2.2.2.2.2.2.2.2.1,.i v.2.2.2.2.2.2.2.2.2.1,.sl (.id (g+2+17)) 4 (v.2.2.2.2.2.2.2.2.2.2.1.map Spell_.cells),.sl (.id (g+2+17+1)) 2 (v.2.2.2.2.2.2.2.2.2.2.2.1.map TrayPlay.cells),.i v.2.2.2.2.2.2.2.2.2.2.2.2.1,.i v.2.2.2.2.2.2.2.2.2.2.2.2.2.1]),(g+2+8,.cells (v.2.2.2.2.2.2.2.2.2.2.2.2.2.2.map cB).flatten),(g+1,.cells [.sl .nil 0 [],.sl .nil 0 [],.i 0,.i 0])] H' g'/\zek n m6 v.1 v.2.1 v.2.2.1 v.2.2.2.1 v.2.2.2.2.1 v.2.2.2.2.2.1 v.2.2.2.2.2.2.1 v.2.2.2.2.2.2.2.1 v.2.2.2.2.2.2.2.2.1 v.2.2.2.2.2.2.2.2.2.1 v.2.2.2.2.2.2.2.2.2.2.1 v.2.2.2.2.2.2.2.2.2.2.2.1 v.2.2.2.2.2.2.2.2.2.2.2.2.1 v.2.2.2.2.2.2.2.2.2.2.2.2.2.1 v.2.2.2.2.2.2.2.2.2.2.2.2.2.2=some r) (n:=n) (r41.2.t.Records,r41.2.t.At,r41.2.t.Way,r41.2.t.Step,r41.2.t.Presses,r41.2.queue,r41.2.now,r41.2.at_.At,r41.2.at_.Way,r41.2.at_.Side,r41.2.run.spells,r41.2.run.plays,r41.2.run.steps,r41.2.run.end_,r41.2.pins) (.k (.k .nil)) ⟨(hS.keep [true,true,true,true,true] rfl).up (by omega),hM⟩ ?_
   rintro ⟨v57,v58,v59,v60,v61,v62,v63,v64,v65,v66,v67,v68,v69,v70,v71⟩ m6 H g6 ⟨hS,hM⟩
   obtain _ | m6:=m6
   ·exact nomatch (show none=some _ from hM)
   change wpA _ _ _ _ (Fr.of [(2,.ptr (g+1) 0),(3,.ptr (g+2+15) 0)]) _ _
   replace hS:St (·<g) H0 [(g+2+17+1,.row 71 v68.length),(g+2+17,.row 160 v67.length),(g+2+15,.cells [.sl .no 2 (v57.map TrayRecord.cells),.i v58,.i v59,.i v60,.sl .no 2 (v61.map TrayPress.cells),.sl .no 2 (v62.map TrayPress.cells),.ms (g+2+8) 0 1 (2*v57.length) (2*v57.length),.i v63,.i v64,.i v65,.i v66,.sl (.id (g+2+17)) 4 (v67.map Spell_.cells),.sl (.id (g+2+17+1)) 2 (v68.map TrayPlay.cells),.i v69,.i v70]),(g+2+8,.cells (v71.map cB).flatten),(g+1,.cells [.sl .nil 0 [],.sl .nil 0 [],.i 0,.i 0])] H g6:=hS
   replace hM:zfm n (zek n m6) v57 v58 v59 v60 v61 v62 v63 v64 v65 v66 v67 v68 v69 v70 v71=some r:=hM
   refine Sq ?_
   refine Sq ?_
   refine Rg 2 ?_
   refine Om (.ptr (g+2+15) 0) ?_
   obtain ⟨r72,hr72,hM⟩:=zap hM
   have hndr72:=hS.nd_at (ns:=[2,3,1,0]) (M:=[(g+2+15,.cells [.sl .no 2 (v57.map TrayRecord.cells),.i v58,.i v59,.i v60,.sl .no 2 (v61.map TrayPress.cells),.sl .no 2 (v62.map TrayPress.cells),.ms (g+2+8) 0 1 (2*v57.length) (2*v57.length),.i v63,.i v64,.i v65,.i v66,.sl (.id (g+2+17)) 4 (v67.map Spell_.cells),.sl (.id (g+2+17+1)) 2 (v68.map TrayPlay.cells),.i v69,.i v70]),(g+2+8,.cells (v71.map cB).flatten),(g+2+17,.row 160 v67.length),(g+2+17+1,.row 71 v68.length)]) (M':=[(g+2+15,.cells [.sl .no 2 (r72.2.t.Records.map TrayRecord.cells),.i r72.2.t.At,.i r72.2.t.Way,.i r72.2.t.Step,.sl .no 2 (r72.2.t.Presses.map TrayPress.cells),.sl .no 2 (r72.2.queue.map TrayPress.cells),.ms (g+2+8) 0 1 (2*r72.2.t.Records.length) (2*r72.2.t.Records.length),.i r72.2.now,.i r72.2.at_.At,.i r72.2.at_.Way,.i r72.2.at_.Side,.sl (.id (g+2+17)) 4 (r72.2.run.spells.map Spell_.cells),.sl (.id (g+2+17+1)) 2 (r72.2.run.plays.map TrayPlay.cells),.i r72.2.run.steps,.i r72.2.run.end_]),(g+2+8,.cells (r72.2.pins.map cB).flatten),(g+2+17,.row 160 r72.2.run.spells.length),(g+2+17+1,.row 71 r72.2.run.plays.length)]) (.cons rfl (.cons rfl (.cons rfl (.cons rfl .nil)))) (by decide)
   refine zfY (bs:=[.ptr (g+2+15) 0]) (M:=[(g+2+15,.cells [.sl .no 2 (v57.map TrayRecord.cells),.i v58,.i v59,.i v60,.sl .no 2 (v61.map TrayPress.cells),.sl .no 2 (v62.map TrayPress.cells),.ms (g+2+8) 0 1 (2*v57.length) (2*v57.length),.i v63,.i v64,.i v65,.i v66,.sl (.id (g+2+17)) 4 (v67.map Spell_.cells),.sl (.id (g+2+17+1)) 2 (v68.map TrayPlay.cells),.i v69,.i v70]),(g+2+8,.cells (v71.map cB).flatten),(g+2+17,.row 160 v67.length),(g+2+17+1,.row 71 v68.length)]) (M':=[(g+2+15,.cells [.sl .no 2 (r72.2.t.Records.map TrayRecord.cells),.i r72.2.t.At,.i r72.2.t.Way,.i r72.2.t.Step,.sl .no 2 (r72.2.t.Presses.map TrayPress.cells),.sl .no 2 (r72.2.queue.map TrayPress.cells),.ms (g+2+8) 0 1 (2*r72.2.t.Records.length) (2*r72.2.t.Records.length),.i r72.2.now,.i r72.2.at_.At,.i r72.2.at_.Way,.i r72.2.at_.Side,.sl (.id (g+2+17)) 4 (r72.2.run.spells.map Spell_.cells),.sl (.id (g+2+17+1)) 2 (r72.2.run.plays.map TrayPlay.cells),.i r72.2.run.steps,.i r72.2.run.end_]),(g+2+8,.cells (r72.2.pins.map cB).flatten),(g+2+17,.row 160 r72.2.run.spells.length),(g+2+17+1,.row 71 r72.2.run.plays.length)]) (L':=[(g+2+17+1,.row 71 r72.2.run.plays.length),(g+2+17,.row 160 r72.2.run.spells.length),(g+2+15,.cells [.sl .no 2 (r72.2.t.Records.map TrayRecord.cells),.i r72.2.t.At,.i r72.2.t.Way,.i r72.2.t.Step,.sl .no 2 (r72.2.t.Presses.map TrayPress.cells),.sl .no 2 (r72.2.queue.map TrayPress.cells),.ms (g+2+8) 0 1 (2*r72.2.t.Records.length) (2*r72.2.t.Records.length),.i r72.2.now,.i r72.2.at_.At,.i r72.2.at_.Way,.i r72.2.at_.Side,.sl (.id (g+2+17)) 4 (r72.2.run.spells.map Spell_.cells),.sl (.id (g+2+17+1)) 2 (r72.2.run.plays.map TrayPlay.cells),.i r72.2.run.steps,.i r72.2.run.end_]),(g+2+8,.cells (r72.2.pins.map cB).flatten),(g+1,.cells [.sl .nil 0 [],.sl .nil 0 [],.i 0,.i 0])]) [2,3,1,0] (.inl rfl) hS (by decide) rfl rfl ((ze7 (p1:=g+2+15) (w10:=g+2+8) (w11:=g+2+17) (w12:=g+2+17+1) hndr72 hr72).le (.k .nil)) (.cons rfl (.cons rfl (.cons rfl (.cons rfl .nil)))) rfl (by omega) fun H hS=>?_
   refine Ni ?_
   refine Ws ?_
   rcases bft r72.1 with hb73 | hb73
   ·replace hM:=ifT hM hb73
    refine Ct hb73 ?_
    refine zaI ?_
    refine Ws ?_
    refine zaB ?_
    refine zaI ?_
    refine zak ?_
    exact zbY (r72.2.t.Records,r72.2.t.At,r72.2.t.Way,r72.2.t.Step,r72.2.t.Presses,r72.2.queue,r72.2.now,r72.2.at_.At,r72.2.at_.Way,r72.2.at_.Side,r72.2.run.spells,r72.2.run.plays,r72.2.run.steps,r72.2.run.end_,r72.2.pins) (Nat.lt_succ_self _) (.k (.k .nil)) ⟨(hS.keep [true,true,true,true,true] rfl).up (by omega),hM⟩
   ·replace hM:=ifF hM hb73
    refine Cf hb73 ?_
    refine zcw ?_
    refine zax ?_
    refine zaq ?_
    refine zaG ?_
    exact zal (r72.2.t.Records,r72.2.t.At,r72.2.t.Way,r72.2.t.Step,r72.2.t.Presses,r72.2.queue,r72.2.now,r72.2.at_.At,r72.2.at_.Way,r72.2.at_.Side,r72.2.run.spells,r72.2.run.plays,r72.2.run.steps,r72.2.run.end_,r72.2.pins) (.k (.k .nil)) ⟨(hS.keep [true,true,true,true,true] rfl).up (by omega),hM⟩
theorem zkd {n:Nat} {a0:Tray} {r:(List TrayPlay)×Int} (hM:zgl n a0=some r):zaS Try.prog 17 [.agg (Tray.cells a0)] (.tup [.sl .no 2 (r.1.map TrayPlay.cells),.i r.2]):=by
 refine zaF mixed Try.func17 rfl (by decide) Try.ntmps17 (by simp) ?pure fun H0 g hf=>?_
 case pure=>exact .tup _ (zaf (.sl _ _ (zaK (fun x=>(zaf (.v _) (zaf (.v _) zaN))))) (zaf (.v _) zaN))
 rw [zaA]
 change wpA _ _ _ _ (Fr.of [(0,.agg (Tray.cells a0))]) H0 g
 have hS:=St.start hf
 refine Sq ?_
 refine Rg 3 ?_
 refine zeZ (v:=.agg (Tray.cells a0)) (cs:=(Tray.cells a0)) hS (by decide) rfl rfl (by omega) fun H hS=>?_
 refine Oa (.sl .nil 0 []) ?_
 refine Oa (.i 0) ?_
 refine Ni ?_
 refine zcW (L':=[]) 0 1 hS rfl rfl rfl fun H hS=>?_
 refine Ws ?_
 refine Sq ?_
 refine Sq ?_
 refine Rg 3 ?_
 refine Olg (.agg (Tray.cells a0)) zdr ?_
 obtain ⟨r1,hr1,hM⟩:=zap hM
 refine zbo (bs:=[.agg (Tray.cells a0)]) (by decide) rfl rfl ((zkc hr1).le (.k .nil)) ?_
 refine Oa (.i r1) ?_
 refine Ni ?_
 refine Ws ?_
 refine Sq ?_
 refine Rg 2 ?_
 refine Om (.i r1) ?_
 refine Oi (.b (r1 != 0)) ?_
 refine Ni ?_
 refine Ws ?_
 rcases bft (r1 != 0) with hb2 | hb2
 ·replace hM:=ifT hM hb2
  refine Ct hb2 ?_
  refine Sq ?_
  refine Rg 3 ?_
  refine Om (.i r1) ?_
  refine Oa (.sl .nil 0 []) ?_
  refine Oa (.i r1) ?_
  refine Ni ?_
  refine Ws ?_
  refine zbB ?_
  refine zay ?_
  refine zbL (x:=.tup [.sl .nil 0 [],.i r1]) (f:=fun r=>.tup [.sl .no 2 (r.1.map TrayPlay.cells),.i r.2]) (.inr rfl) ?_ (.tupL (.cons (.sl0 .nil 2 0) (.k .nil))) (Option.some.inj hM) hS
  exact (ze0 (zau (x:=.sl .nil 0 []) rfl) (zau (x:=.i r1) rfl))
 ·replace hM:=ifF hM hb2
  refine Cf hb2 ?_
  refine zaI ?_
  refine Ws ?_
  refine Sq ?_
  refine Rg 5 ?_
  refine Olg (.agg (Tray.cells a0)) zdr ?_
  obtain ⟨r3,hr3,hM⟩:=zap hM
  refine zbo (bs:=[.agg (Tray.cells a0)]) (by decide) rfl rfl ((zkR hr3).le (.k .nil)) ?_
  refine zo5 (v:=.sl .no 2 (r3.plays.map TrayPlay.cells)) (cs:=(Run_.cells r3)) (by decide) zmc rfl (po zlq znk) ?_
  refine Oa (.sl .no 2 (r3.plays.map TrayPlay.cells)) ?_
  refine Oa (.i 0) ?_
  refine Ni ?_
  refine zfX [(2,.sl .no 2 (r3.plays.map TrayPlay.cells)),(3,.i 0)] (.k (.k .nil)) ?_
  refine zbB ?_
  refine zbL (x:=.tup [.sl .no 2 (r3.plays.map TrayPlay.cells),.i 0]) (f:=fun r=>.tup [.sl .no 2 (r.1.map TrayPlay.cells),.i r.2]) (.inr rfl) ?_ (.refl _) (Option.some.inj hM) hS
  exact (ze0 (zau (x:=.sl .no 2 (r3.plays.map TrayPlay.cells)) rfl) (zau (x:=.i 0) rfl))
theorem zkS {n:Nat} {a0:Tray} {r:(List Int)×Bool} (hM:zhb n a0=some r):zaS Try.prog 9 [.agg (Tray.cells a0)] (.tup [.sl .no 1 (r.1.map cI),.b r.2]):=by
 refine zaF mixed Try.func9 rfl (by decide) Try.ntmps9 (by simp) ?pure fun H0 g hf=>?_
 case pure=>exact .tup _ (zaf (.sl _ _ (zaK (fun x=>(zaf (.v _) zaN)))) (zaf (.v _) zaN))
 rw [zaA]
 change wpA _ _ _ _ (Fr.of [(0,.agg (Tray.cells a0))]) H0 g
 have hS:=St.start hf
 refine Sq ?_
 refine Rg 3 ?_
 refine zeZ (v:=.agg (Tray.cells a0)) (cs:=(Tray.cells a0)) hS (by decide) rfl rfl (by omega) fun H hS=>?_
 refine Oa (.sl .nil 0 []) ?_
 refine Oa (.b false) ?_
 refine Ni ?_
 refine zcW (L':=[]) 0 1 hS rfl rfl rfl fun H hS=>?_
 refine Ws ?_
 refine Sq ?_
 refine Rg 5 ?_
 refine Of ((Tray.cells a0)) zbK ?_
 refine Olp (.sl .no 2 (a0.Records.map TrayRecord.cells)) zcv zc3 ?_
 refine zcI (n:=a0.Records.length) (by decide) rfl (List.length_map _) zc9 ?_
 obtain ⟨l1,hl1,hM⟩:=zap hM
 refine zpd (z:=(a0.Records.length:Int)) (us:=l1) hS (by decide) rfl rfl hl1 zaV zf3 zgm zf4 (by omega) fun H hS=>?_
 refine Oa (msn (g+3+3) 1 l1.length) ?_
 refine Ni ?_
 refine Ws ?_
 refine Sq ?_
 refine Rg 8 ?_
 refine Olg (.agg (Tray.cells a0)) zdr ?_
 obtain ⟨r2,hr2,hM⟩:=zap hM
 refine zbo (bs:=[.agg (Tray.cells a0)]) (by decide) rfl rfl ((zkb hr2).le (.k .nil)) ?_
 obtain ⟨r3,hr3,hM⟩:=zap hM
 refine zbo (bs:=[.agg (Tray.cells r2)]) (by decide) rfl rfl ((zkd hr3).le (.k .nil)) ?_
 refine Om (.tup [.sl .no 2 (r3.1.map TrayPlay.cells),.i r3.2]) ?_
 refine Ox (.sl .no 2 (r3.1.map TrayPlay.cells)) ?_
 refine Ox (.i r3.2) ?_
 refine Oa (.sl .no 2 (r3.1.map TrayPlay.cells)) ?_
 refine Oa (.i r3.2) ?_
 refine Ni ?_
 refine Ws ?_
 refine Sq ?_
 refine zaY (J:=Bool) (fun j=>[(1,.ep (Tray.cells a0)),(4,msn (g+3+3) 1 l1.length),(5,.sl .no 2 (r3.1.map TrayPlay.cells)),(27,.b j)]) (fun j H' g'=>St (·<g) H0 ([]++zfJ (g+3+3) l1.length (l1.map cI)) H' g'/\zeG n a0 l1 r3 j=some r) ?_ ?_
 ·rintro v4 H g1 ⟨hS,hM⟩
  change wpA _ _ _ _ (Fr.of [(1,.ep (Tray.cells a0)),(4,msn (g+3+3) 1 l1.length),(5,.sl .no 2 (r3.1.map TrayPlay.cells)),(27,.b v4)]) _ _
  replace hS:St (·<g) H0 ([]++zfJ (g+3+3) l1.length (l1.map cI)) H g1:=hS
  replace hM:zeG n a0 l1 r3 v4=some r:=hM
  rcases bft v4 with hb5 | hb5
  ·replace hM:=ifT hM hb5
   refine Ct hb5 ?_
   refine Sq ?_
   refine Rg 2 ?_
   refine Oa (.sl .nil 0 []) ?_
   refine Oa (.b false) ?_
   refine Ni ?_
   refine Ws ?_
   refine zbB ?_
   refine zay ?_
   refine zbL (x:=.tup [.sl .nil 0 [],.b false]) (f:=fun r=>.tup [.sl .no 1 (r.1.map cI),.b r.2]) (.inr rfl) ?_ (.tupL (.cons (.sl0 .nil 1 0) (.k .nil))) (Option.some.inj hM) hS
   exact (ze0 (zau (x:=.sl .nil 0 []) rfl) (zau (x:=.b false) rfl))
  ·replace hM:=ifF hM hb5
   refine Cf hb5 ?_
   refine zaI ?_
   refine Ws ?_
   refine zpb (J:=(List Int)) (fun j=>[(4,.sl .no 1 (j.map cI))]) (fun j H' g'=>St (·<g) H0 [] H' g'/\zf2 j=some r) ?_ ?_
   ·rintro v6 H g2 ⟨hS,hM⟩
    change wpA _ _ _ _ (Fr.of [(4,.sl .no 1 (v6.map cI))]) _ _
    replace hS:St (·<g) H0 [] H g2:=hS
    replace hM:zf2 v6=some r:=hM
    refine Sq ?_
    refine Rg 3 ?_
    refine Om (.sl .no 1 (v6.map cI)) ?_
    refine Oa (.sl .no 1 (v6.map cI)) ?_
    refine Oa (.b true) ?_
    refine Ni ?_
    refine Ws ?_
    refine zbB ?_
    refine zbL (x:=.tup [.sl .no 1 (v6.map cI),.b true]) (f:=fun r=>.tup [.sl .no 1 (r.1.map cI),.b r.2]) (.inr rfl) ?_ (.refl _) (Option.some.inj hM) hS
    exact (ze0 (zau (x:=.sl .no 1 (v6.map cI)) rfl) (zau (x:=.b true) rfl))
   ·refine Sq ?_
    refine Rg 1 ?_
    refine Oa (.i 0) ?_
    refine Ni ?_
    refine Ws ?_
    refine zaB ?_
    refine zcx (V:=Int×(List Int)) (fun v=>[(1,.ep (Tray.cells a0)),(4,msn (g+3+3) 1 l1.length),(5,.sl .no 2 (r3.1.map TrayPlay.cells)),(7,.i v.1)]) (fun v m4 H' g'=>St (·<g) H0 ([]++zfJ (g+3+3) l1.length (v.2.map cI)) H' g'/\zdM a0 r3 m4 v.1 v.2=some r) (n:=n) (0,l1) (.k (.k (.k (.k .nil)))) ⟨(hS.keep [] rfl).up (by omega),hM⟩ ?_
    rintro ⟨v8,v9⟩ m4 H g4 ⟨hS,hM⟩
    obtain _ | m4:=m4
    ·exact nomatch (show none=some _ from hM)
    change wpA _ _ _ _ (Fr.of [(1,.ep (Tray.cells a0)),(4,msn (g+3+3) 1 l1.length),(5,.sl .no 2 (r3.1.map TrayPlay.cells)),(7,.i v8)]) _ _
    replace hS:St (·<g) H0 ([]++zfJ (g+3+3) l1.length (v9.map cI)) H g4:=hS
    replace hM:zeC a0 r3 (zdM a0 r3 m4) v8 v9=some r:=hM
    refine Sq ?_
    refine Sq ?_
    refine Rg 4 ?_
    refine Om (.i v8) ?_
    refine Om (.sl .no 2 (r3.1.map TrayPlay.cells)) ?_
    refine zcI (n:=r3.1.length) (by decide) rfl (List.length_map _) zlr ?_
    refine Oi (.b (decide (v8<(r3.1.length:Int)))) ?_
    refine Ni ?_
    refine Ws ?_
    rcases bft (decide (v8<(r3.1.length:Int))) with hb10 | hb10
    ·replace hM:=ifT hM hb10
     refine Ct hb10 ?_
     refine zaI ?_
     refine Ws ?_
     refine Sq ?_
     refine zaB ?_
     refine Sq ?_
     refine Sq ?_
     have hS0:=hS
     refine zdb (n:=8) rfl (by kernel_rfl) ?_
     refine Olg (.agg (Tray.cells a0)) zdr ?_
     refine Om (.sl .no 2 (r3.1.map TrayPlay.cells)) ?_
     refine Om (.i v8) ?_
     obtain ⟨x11,hx11,hM⟩:=zap hM
     refine zbr (xs:=r3.1) (f:=TrayPlay.cells) (z:=v8) (u:=x11) (by decide) rfl rfl zjA hx11 ?_
     refine Of ([.i x11.Side,.i x11.Time]) zka ?_
     refine Olp (.i x11.Side) zai zas ?_
     obtain ⟨r12,hr12,hM⟩:=zap hM
     refine zbo (bs:=[.agg (Tray.cells a0),.i x11.Side]) (by decide) rfl rfl ((zgB hr12).le (.k (.k .nil))) ?_
     refine zgK (e:=r12) (by decide) rfl ?_
     refine Ni ?_
     refine Ws ?_
     rcases bft (!r12) with hb13 | hb13
     ·replace hM:=ifT hM hb13
      refine Ct hb13 ?_
      refine Sq ?_
      refine Rg 2 ?_
      refine Oa (.sl .nil 0 []) ?_
      refine Oa (.b false) ?_
      refine Ni ?_
      refine Ws ?_
      refine zbB ?_
      refine zay ?_
      refine zcm ?_
      refine zay ?_
      refine zdm ?_
      refine zcm ?_
      refine zkH ?_
      refine zbL (x:=.tup [.sl .nil 0 [],.b false]) (f:=fun r=>.tup [.sl .no 1 (r.1.map cI),.b r.2]) (.inr rfl) ?_ (.tupL (.cons (.sl0 .nil 1 0) (.k .nil))) (Option.some.inj hM) hS
      exact (ze0 (zau (x:=.sl .nil 0 []) rfl) (zau (x:=.b false) rfl))
     ·replace hM:=ifF hM hb13
      refine Cf hb13 ?_
      refine zaI ?_
      refine Ws ?_
      refine Rg 12 ?_
      refine Om (msn (g+3+3) 1 l1.length) ?_
      refine Om (.sl .no 2 (r3.1.map TrayPlay.cells)) ?_
      refine Om (.i v8) ?_
      obtain ⟨x14,hx14,hM⟩:=zap hM
      refine zbr (xs:=r3.1) (f:=TrayPlay.cells) (z:=v8) (u:=x14) (by decide) rfl rfl zjA hx14 ?_
      refine Of ([.i x14.Side,.i x14.Time]) zka ?_
      refine Olp (.i x14.Side) zai zas ?_
      obtain ⟨q15,hq15,hM⟩:=zap hM
      refine zii (by decide) rfl rfl (zhr hq15) ?_
      obtain ⟨x16,hx16,hM⟩:=zap hM
      refine zlb (xs:=v9) (f:=cI) (z:=q15) (u:=x16) hS (by decide) rfl rfl zaV hx16 ?_
      refine zpa (xs:=v9) (z:=q15) (u:=x16) hS (by decide) rfl hx16 .no zai zas ?_
      refine Oi (.i (w64 (x16+1))) ?_
      obtain ⟨x17,hx17,hM⟩:=zap hM
      refine zlb (xs:=v9) (f:=cI) (z:=q15) (u:=x17) hS (by decide) rfl rfl zaV hx17 ?_
      refine zn6 (xs:=v9) (z:=q15) (u:=x17) (v:=(w64 (x16+1))) hS rfl hx17 .no rfl zdO fun H hS=>?_
      refine Ni ?_
      refine zak ?_
      refine Ws ?_
      refine Rg 3 ?_
      refine Om (.i v8) ?_
      refine Oi (.i (w64 (v8+1))) ?_
      refine Oa (.i (w64 (v8+1))) ?_
      refine Ni ?_
      exact zbY (w64 (v8+1),(v9.set (Int.toNat q15) (w64 (x16+1)))) (Nat.lt_succ_self _) (.k (.k (.k (.k .nil)))) ⟨(hS.keep [] rfl).up (by omega),hM⟩
    ·replace hM:=ifF hM hb10
     refine Cf hb10 ?_
     refine zcw ?_
     refine zax ?_
     refine zaq ?_
     refine zaG ?_
     exact zpc Try.prog (t:=4) hS rfl (by decide) (zfA (fun _=>rfl)) (zg3 (fun x=>(zeL zg2))) v9 (.k .nil) (fun H hS=>⟨(hS.keep [] rfl).up (by omega),hM⟩)
 ·refine Rg 10 ?_
  refine Om (.i r3.2) ?_
  refine Oi (.b (r3.2 != 0)) ?_
  refine Om (.b (r3.2 != 0)) ?_
  rcases bft (r3.2 != 0) with hb18 | hb18
  ·replace hM:=ifT hM hb18
   refine On (want:=false) hb18 ?_
   refine On (want:=false) hb18 ?_
   refine On (want:=false) hb18 ?_
   refine On (want:=false) hb18 ?_
   refine On (want:=false) hb18 ?_
   refine On (want:=false) hb18 ?_
   refine Pt (.b true) hb18 ?_
   refine Ni ?_
   exact zal true (.k (.k (.k (.k .nil)))) ⟨(hS.keep [] rfl).up (by omega),hM⟩
  ·replace hM:=ifF hM hb18
   refine Oy (want:=false) hb18 ?_
   refine Om (.sl .no 2 (r3.1.map TrayPlay.cells)) ?_
   refine Oy (want:=false) hb18 ?_
   refine zcI (n:=r3.1.length) (by decide) rfl (List.length_map _) zlr ?_
   refine Oy (want:=false) hb18 ?_
   refine Of ((Tray.cells a0)) zdu ?_
   refine Oy (want:=false) hb18 ?_
   refine Olp (.sl .no 2 (a0.Presses.map TrayPress.cells)) zcJ zdq ?_
   refine Oy (want:=false) hb18 ?_
   refine zcI (n:=a0.Presses.length) (by decide) rfl (List.length_map _) zee ?_
   refine Oy (want:=false) hb18 ?_
   refine Oi (.b (decide ((r3.1.length:Int)>(a0.Presses.length:Int)))) ?_
   refine Pf (.b (decide ((r3.1.length:Int)>(a0.Presses.length:Int)))) hb18 ?_
   refine Ni ?_
   exact zal (decide ((r3.1.length:Int)>(a0.Presses.length:Int))) (.k (.k (.k (.k .nil)))) ⟨(hS.keep [] rfl).up (by omega),hM⟩
theorem zhD {a0:Royal} {a1:Int} {r:Bool} (hM:ze2 a0 a1=some r):zaS Try.prog 30 [.agg (Royal.cells a0),.i a1] (.b r):=by
 refine zaF mixed Try.func30 rfl (by decide) Try.ntmps30 (by simp) ?pure fun H0 g hf=>?_
 case pure=>exact .v _
 rw [zaA]
 change wpA _ _ _ _ (Fr.of [(0,.agg (Royal.cells a0)),(1,.i a1)]) H0 g
 have hS:=St.start hf
 refine Sq ?_
 refine Rg 2 ?_
 refine zeZ (v:=.agg (Royal.cells a0)) (cs:=(Royal.cells a0)) hS (by decide) rfl rfl (by omega) fun H hS=>?_
 refine Oa (.b false) ?_
 refine Ni ?_
 refine zcW (L':=[]) 0 2 hS rfl rfl rfl fun H hS=>?_
 refine Ws ?_
 refine Sq ?_
 refine Rg 7 ?_
 refine Om (.i a1) ?_
 refine Of ((Royal.cells a0)) zf8 ?_
 refine Olp (.sl .no 1 (a0.Owed.map cI)) zef zeM ?_
 refine zcI (n:=a0.Owed.length) (by decide) rfl (List.length_map _) zcK ?_
 refine Oi (.i (w64 ((a0.Owed.length:Int)-1))) ?_
 obtain ⟨r1,hr1,hM⟩:=zap hM
 refine zbo (bs:=[.i a1,.i 0,.i (w64 ((a0.Owed.length:Int)-1))]) (by decide) rfl rfl ((zc1 hr1).le (.k (.k (.k .nil)))) ?_
 refine Oa (.b r1) ?_
 refine Ni ?_
 refine zfX [(4,.b r1)] (.k .nil) ?_
 refine zbB ?_
 refine zbL (x:=.b r1) (f:=fun r=>.b r) (.inr rfl) ?_ (.refl _) (Option.some.inj hM) hS
 exact (zaJ (zau (x:=.b r1) rfl))
theorem zhE {n:Nat} {a0:Royal} {a1:Int} {r:Int×Int×Int} (hM:zdN n a0 a1=some r):zaS Try.prog 11 [.agg (Royal.cells a0),.i a1] (.tup [.i r.1,.i r.2.1,.i r.2.2]):=by
 refine zaF mixed Try.func11 rfl (by decide) Try.ntmps11 (by simp) ?pure fun H0 g hf=>?_
 case pure=>exact .tup _ (zaf (.v _) (zaf (.v _) (zaf (.v _) zaN)))
 rw [zaA]
 change wpA _ _ _ _ (Fr.of [(0,.agg (Royal.cells a0)),(1,.i a1)]) H0 g
 have hS:=St.start hf
 refine Sq ?_
 refine Rg 4 ?_
 refine zeZ (v:=.agg (Royal.cells a0)) (cs:=(Royal.cells a0)) hS (by decide) rfl rfl (by omega) fun H hS=>?_
 refine Oa (.i 0) ?_
 refine Oa (.i 0) ?_
 refine Oa (.i 0) ?_
 refine Ni ?_
 refine zcW (L':=[]) 0 2 hS rfl rfl rfl fun H hS=>?_
 refine Ws ?_
 refine Sq ?_
 have hS0:=hS
 refine zdb (n:=11) rfl (by kernel_rfl) ?_
 refine Olg (.agg (Royal.cells a0)) zfE ?_
 refine Olg (.agg (Royal.cells a0)) zfE ?_
 refine Om (.i a1) ?_
 obtain ⟨r1,hr1,hM⟩:=zap hM
 refine zbo (bs:=[.agg (Royal.cells a0),.i a1]) (by decide) rfl rfl ((zhD hr1).le (.k (.k .nil))) ?_
 obtain ⟨r2,hr2,hM⟩:=zap hM
 refine zbo (bs:=[.agg (Royal.cells a0),.b r1]) (by decide) rfl rfl ((zfr hr2).le (.k (.k .nil))) ?_
 refine Om (.tup [.agg (Weights_.cells r2.1),.i r2.2]) ?_
 refine Ox (.agg (Weights_.cells r2.1)) ?_
 refine Ox (.i r2.2) ?_
 refine zem hS (by decide) zit (by omega) fun H hS=>?_
 refine zbC (v:=.agg (Weights_.cells r2.1)) (ns:=(Weights_.cells r2.1)) (L':=[(g+4+8,.cells (Weights_.cells r2.1))]) 0 hS rfl rfl (.behind (by kernel_rfl)) rfl rfl zgn nlb rfl fun H hS=>?_
 refine Oa (.i r2.2) ?_
 refine Ni ?_
 refine zcW (L':=[]) 0 7 hS rfl rfl rfl fun H hS=>?_
 refine Ws ?_
 refine Sq ?_
 refine Sq ?_
 refine Rg 2 ?_
 refine Om (.i r2.2) ?_
 refine Oi (.b (r2.2 != 0)) ?_
 refine Ni ?_
 refine Ws ?_
 rcases bft (r2.2 != 0) with hb3 | hb3
 ·replace hM:=ifT hM hb3
  refine Ct hb3 ?_
  refine Sq ?_
  refine Rg 4 ?_
  refine Om (.i r2.2) ?_
  refine Oa (.i 0) ?_
  refine Oa (.i 0) ?_
  refine Oa (.i r2.2) ?_
  refine Ni ?_
  refine Ws ?_
  refine zbB ?_
  refine zay ?_
  refine zbL (x:=.tup [.i 0,.i 0,.i r2.2]) (f:=fun r=>.tup [.i r.1,.i r.2.1,.i r.2.2]) (.inr rfl) ?_ (.refl _) (Option.some.inj hM) hS
  exact (zj1 (zau (x:=.i 0) rfl) (zau (x:=.i 0) rfl) (zau (x:=.i r2.2) rfl))
 ·replace hM:=ifF hM hb3
  refine Cf hb3 ?_
  refine zaI ?_
  refine Ws ?_
  refine Sq ?_
  have hS0:=hS
  refine zdb (n:=12) rfl (by kernel_rfl) ?_
  refine Of ((Royal.cells a0)) ziu ?_
  refine Olp (.i a0.Pool) zai zas ?_
  refine Of ((Weights_.cells r2.1)) zeH ?_
  refine Olp (.sl .no 1 (r2.1.of_.map cI)) zef zeM ?_
  refine Om (.i a1) ?_
  obtain ⟨x4,hx4,hM⟩:=zap hM
  refine zbr (xs:=r2.1.of_) (f:=cI) (z:=a1) (u:=x4) (by decide) rfl rfl zaV hx4 ?_
  refine Olp (.i x4) zai zas ?_
  refine Oi (.i (w64 (a0.Pool*x4))) ?_
  refine Of ((Weights_.cells r2.1)) ze5 ?_
  refine Olp (.i r2.1.all) zai zas ?_
  refine Oa (.i (w64 (a0.Pool*x4))) ?_
  refine Oa (.i r2.1.all) ?_
  refine Ni ?_
  refine Ws ?_
  refine Sq ?_
  refine Rg 4 ?_
  refine Om (.i (w64 (a0.Pool*x4))) ?_
  refine Om (.i r2.1.all) ?_
  refine Oa (.i (w64 (a0.Pool*x4))) ?_
  refine Oa (.i r2.1.all) ?_
  refine Ni ?_
  refine Ws ?_
  refine zaY (J:=Int) (fun j=>[(4,.i (w64 (a0.Pool*x4))),(5,.i r2.1.all),(8,.i j)]) (fun j H' g'=>St (·<g) H0 [] H' g'/\zc0 a0 r2 x4 j=some r) ?_ ?_
  ·rintro v5 H g1 ⟨hS,hM⟩
   change wpA _ _ _ _ (Fr.of [(4,.i (w64 (a0.Pool*x4))),(5,.i r2.1.all),(8,.i v5)]) _ _
   replace hS:St (·<g) H0 [] H g1:=hS
   replace hM:zc0 a0 r2 x4 v5=some r:=hM
   refine Sq ?_
   have hS0:=hS
   refine zdb (n:=9) rfl (by kernel_rfl) ?_
   refine Om (.i (w64 (a0.Pool*x4))) ?_
   refine Om (.i v5) ?_
   obtain ⟨q6,hq6,hM⟩:=zap hM
   refine zii (by decide) rfl rfl (zhr hq6) ?_
   refine Om (.i r2.1.all) ?_
   refine Om (.i v5) ?_
   obtain ⟨q7,hq7,hM⟩:=zap hM
   refine zii (by decide) rfl rfl (zhr hq7) ?_
   refine Oa (.i q6) ?_
   refine Oa (.i q7) ?_
   refine Oa (.i 0) ?_
   refine Ni ?_
   refine Ws ?_
   refine zbB ?_
   refine zbL (x:=.tup [.i q6,.i q7,.i 0]) (f:=fun r=>.tup [.i r.1,.i r.2.1,.i r.2.2]) (.inr rfl) ?_ (.refl _) (Option.some.inj hM) hS
   exact (zj1 (zau (x:=.i q6) rfl) (zau (x:=.i q7) rfl) (zau (x:=.i 0) rfl))
  ·refine zaB ?_
   refine zcx (V:=Int×Int) (fun v=>[(4,.i (w64 (a0.Pool*x4))),(5,.i r2.1.all),(8,.i v.1),(9,.i v.2)]) (fun v m2 H' g'=>St (·<g) H0 [] H' g'/\zbq a0 r2 x4 m2 v.1 v.2=some r) (n:=n) (w64 (a0.Pool*x4),r2.1.all) (.k (.k (.k (.k .nil)))) ⟨(hS.keep [] rfl).up (by omega),hM⟩ ?_
   rintro ⟨v8,v9⟩ m2 H g2 ⟨hS,hM⟩
   obtain _ | m2:=m2
   ·exact nomatch (show none=some _ from hM)
   change wpA _ _ _ _ (Fr.of [(4,.i (w64 (a0.Pool*x4))),(5,.i r2.1.all),(8,.i v8),(9,.i v9)]) _ _
   replace hS:St (·<g) H0 [] H g2:=hS
   replace hM:zcG a0 r2 x4 (zbq a0 r2 x4 m2) v8 v9=some r:=hM
   refine Sq ?_
   refine Sq ?_
   refine Rg 2 ?_
   refine Om (.i v9) ?_
   refine Oi (.b (v9 != 0)) ?_
   refine Ni ?_
   refine Ws ?_
   rcases bft (v9 != 0) with hb10 | hb10
   ·replace hM:=ifT hM hb10
    refine Ct hb10 ?_
    refine zaI ?_
    refine Ws ?_
    refine zaB ?_
    have hS0:=hS
    refine zdb (n:=6) rfl (by kernel_rfl) ?_
    refine Om (.i v9) ?_
    refine Om (.i v8) ?_
    refine Om (.i v9) ?_
    obtain ⟨q11,hq11,hM⟩:=zap hM
    refine zii (by decide) rfl rfl (zjo hq11) ?_
    refine Oa (.i v9) ?_
    refine Oa (.i q11) ?_
    refine Ni ?_
    refine zak ?_
    exact zbY (v9,q11) (Nat.lt_succ_self _) (.k (.k (.k (.k .nil)))) ⟨(hS.keep [] rfl).up (by omega),hM⟩
   ·replace hM:=ifF hM hb10
    refine Cf hb10 ?_
    refine zcw ?_
    refine zax ?_
    refine zaq ?_
    refine zaG ?_
    exact zal v8 (.k (.k (.k .nil))) ⟨(hS.keep [] rfl).up (by omega),hM⟩
theorem zhM {n:Nat} {a0:Tray} {a1:List Int} {a2:Int} {r:Bool} (hM:zfn n a0 a1 a2=some r):zaS Try.prog 3 [.agg (Tray.cells a0),.sl .no 1 (a1.map cI),.i a2] (.b r):=by
 refine zaF mixed Try.func3 rfl (by decide) Try.ntmps3 (by simp) ?pure fun H0 g hf=>?_
 case pure=>exact .v _
 rw [zaA]
 change wpA _ _ _ _ (Fr.of [(0,.agg (Tray.cells a0)),(1,.sl .no 1 (a1.map cI)),(2,.i a2)]) H0 g
 have hS:=St.start hf
 refine Sq ?_
 refine Rg 2 ?_
 refine zeZ (v:=.agg (Tray.cells a0)) (cs:=(Tray.cells a0)) hS (by decide) rfl rfl (by omega) fun H hS=>?_
 refine Oa (.b false) ?_
 refine Ni ?_
 refine zcW (L':=[]) 0 3 hS rfl rfl rfl fun H hS=>?_
 refine Ws ?_
 refine Sq ?_
 refine zaY (J:=Bool) (fun j=>[(1,.sl .no 1 (a1.map cI)),(2,.i a2),(3,.ep (Tray.cells a0)),(47,.b j)]) (fun j H' g'=>St (·<g) H0 [] H' g'/\zbb n a0 a1 a2 j=some r) ?_ ?_
 ·rintro v1 H g1 ⟨hS,hM⟩
  change wpA _ _ _ _ (Fr.of [(1,.sl .no 1 (a1.map cI)),(2,.i a2),(3,.ep (Tray.cells a0)),(47,.b v1)]) _ _
  replace hS:St (·<g) H0 [] H g1:=hS
  replace hM:zbb n a0 a1 a2 v1=some r:=hM
  rcases bft v1 with hb2 | hb2
  ·replace hM:=ifT hM hb2
   refine Ct hb2 ?_
   refine Sq ?_
   refine Rg 2 ?_
   obtain ⟨r3,hr3,hM⟩:=zap hM
   refine zbo (bs:=[]) (by decide) rfl rfl ((zeS hr3).le .nil) ?_
   refine Oa (.b r3) ?_
   refine Ni ?_
   refine Ws ?_
   refine zbB ?_
   refine zay ?_
   refine zbL (x:=.b r3) (f:=fun r=>.b r) (.inr rfl) ?_ (.refl _) (Option.some.inj hM) hS
   exact (zaJ (zau (x:=.b r3) rfl))
  ·replace hM:=ifF hM hb2
   refine Cf hb2 ?_
   refine zaI ?_
   refine Ws ?_
   refine Sq ?_
   refine Rg 7 ?_
   refine Olg (.agg (Tray.cells a0)) zdr ?_
   obtain ⟨r4,hr4,hM⟩:=zap hM
   refine zbo (bs:=[.agg (Tray.cells a0)]) (by decide) rfl rfl ((zkS hr4).le (.k .nil)) ?_
   refine Om (.tup [.sl .no 1 (r4.1.map cI),.b r4.2]) ?_
   refine Ox (.sl .no 1 (r4.1.map cI)) ?_
   refine Ox (.b r4.2) ?_
   refine Oa (.sl .no 1 (r4.1.map cI)) ?_
   refine Oa (.b r4.2) ?_
   refine Ni ?_
   refine Ws ?_
   refine Sq ?_
   refine Sq ?_
   refine Rg 2 ?_
   refine Om (.b r4.2) ?_
   refine zgK (e:=r4.2) (by decide) rfl ?_
   refine Ni ?_
   refine Ws ?_
   rcases bft (!r4.2) with hb5 | hb5
   ·replace hM:=ifT hM hb5
    refine Ct hb5 ?_
    refine Sq ?_
    refine Rg 1 ?_
    refine Oa (.b false) ?_
    refine Ni ?_
    refine Ws ?_
    refine zbB ?_
    refine zay ?_
    refine zbL (x:=.b false) (f:=fun r=>.b r) (.inr rfl) ?_ (.refl _) (Option.some.inj hM) hS
    exact (zaJ (zau (x:=.b false) rfl))
   ·replace hM:=ifF hM hb5
    refine Cf hb5 ?_
    refine zaI ?_
    refine Ws ?_
    refine Sq ?_
    refine Rg 5 ?_
    refine Om (.i a2) ?_
    obtain ⟨l6,hl6,hM⟩:=zap hM
    refine zgN (f:=cI) (z:=3) (n:=3) (us:=l6) hS (by decide) rfl rfl hl6 rfl zaV zf3 zgm zf4 (by omega) fun H hS=>?_
    refine zd3 (cs:=[.i a2,.sl .nil 0 [],.ms (g1+7+2+1) 0 1 3 3]) (by decide) zhc znh rfl ?_
    refine zem hS (by decide) zhc (by omega) fun H hS=>?_
    refine zbC (v:=.agg [.i a2,.sl .nil 0 [],.ms (g1+7+2+1) 0 1 3 3]) (ns:=[.i a2,.sl .nil 0 [],.ms (g1+7+2+1) 0 1 3 3]) (L':=[(g1+7+2+3,.cells [.i a2,.sl .nil 0 [],.ms (g1+7+2+1) 0 1 3 3]),(g1+7+2+1,.cells (l6.map cI).flatten)]) 0 hS rfl rfl .no rfl rfl zlj nlb rfl fun H hS=>?_
    refine Ni ?_
    obtain ⟨x7,hx7,hM⟩:=zap hM
    refine znc (p:=2) (k:=1) (es:=l6.map cI) (cs':=[.i a2,.sl .nil 0 [],.sl .no 1 (l6.map cI)]) (L':=[(g1+7+2+3,.cells [.i a2,.sl .nil 0 [],.sl .no 1 (l6.map cI)])]) 0 1 hS rfl rfl rfl (zgi hx7) (zg5 hx7) (by decide) (zfA (fun _=>rfl)) (zg3 (fun x=>(zeL zg2))) rfl rfl fun H hS=>?_
    refine zj0 (cs':=[.i a2,.sl (.id (g1+7+2+5)) 2 (([]:List RoyalSide).map RoyalSide.cells),.sl .no 1 (l6.map cI)]) (L':=[(g1+7+2+3,.cells [.i a2,.sl (.id (g1+7+2+5)) 2 (([]:List RoyalSide).map RoyalSide.cells),.sl .no 1 (l6.map cI)])]) 0 1 2 40 hS (by omega) (by decide) rfl rfl rfl rfl fun H hS=>?_
    refine Ws ?_
    refine Sq ?_
    refine Rg 3 ?_
    obtain ⟨l8,hl8,hM⟩:=zap hM
    refine zgN (f:=cI) (z:=3) (n:=3) (us:=l8) hS (by decide) rfl rfl hl8 rfl zaV zf3 zgm zf4 (by omega) fun H hS=>?_
    refine Oa (.ms (g1+7+2+5+1+0) 0 1 3 3) ?_
    refine Oa (.i 0) ?_
    refine Ni ?_
    refine Ws ?_
    refine zaY (J:=Int×(List Int)×(List RoyalSide)) (fun j=>[(2,.i a2),(9,.ptr (g1+7+2+3) 0),(10,.ms (g1+7+2+5+1+0) 0 1 3 3),(11,.i j.1)]) (fun j H' g'=>St (·<g) H0 [(g1+7+2+5+1+0,.cells (j.2.1.map cI).flatten),(g1+7+2+5,.row 40 j.2.2.length),(g1+7+2+3,.cells [.i a2,.sl (.id (g1+7+2+5)) 2 (j.2.2.map RoyalSide.cells),.sl .no 1 (l6.map cI)])] H' g'/\zdg n a2 l6 j.1 j.2.1 j.2.2=some r) ?_ ?_
    ·rintro ⟨v9,v10,v11⟩ H g2 ⟨hS,hM⟩
     change wpA _ _ _ _ (Fr.of [(2,.i a2),(9,.ptr (g1+7+2+3) 0),(10,.ms (g1+7+2+5+1+0) 0 1 3 3),(11,.i v9)]) _ _
     replace hS:St (·<g) H0 [(g1+7+2+5+1+0,.cells (v10.map cI).flatten),(g1+7+2+5,.row 40 v11.length),(g1+7+2+3,.cells [.i a2,.sl (.id (g1+7+2+5)) 2 (v11.map RoyalSide.cells),.sl .no 1 (l6.map cI)])] H g2:=hS
     replace hM:zdg n a2 l6 v9 v10 v11=some r:=hM
     refine Sq ?_
     refine Rg 7 ?_
     refine zbJ (v:=.agg [.i a2,.sl (.id (g1+7+2+5)) 2 (v11.map RoyalSide.cells),.sl .no 1 (l6.map cI)]) 2 hS (by decide) rfl rfl .no (pg zfE) ?_
     obtain ⟨r12,hr12,hM⟩:=zap hM
     refine zbo (bs:=[.agg [.i a2,.sl (.id (g1+7+2+5)) 2 (v11.map RoyalSide.cells),.sl .no 1 (l6.map cI)]]) (by decide) rfl rfl ((zfg hr12).le (.cons (.aggL (.k (.cons (.sl _ _ _) (.k .nil)))) .nil)) ?_
     refine Om (.tup [.sl .no 1 (r12.1.map cI),.i r12.2]) ?_
     refine Ox (.sl .no 1 (r12.1.map cI)) ?_
     refine Ox (.i r12.2) ?_
     refine Oa (.sl .no 1 (r12.1.map cI)) ?_
     refine Oa (.i r12.2) ?_
     refine Ni ?_
     refine Ws ?_
     refine Sq ?_
     refine Sq ?_
     refine Rg 2 ?_
     refine Om (.i v9) ?_
     refine Oi (.b (v9==0)) ?_
     refine Ni ?_
     refine Ws ?_
     rcases bft (v9==0) with hb13 | hb13
     ·replace hM:=ifT hM hb13
      refine Ct hb13 ?_
      refine zaY (J:=Bool) (fun j=>[(6,.b j)]) (fun j H' g'=>St (·<g) H0 [] H' g'/\zdW j=some r) ?_ ?_
      ·rintro v14 H g3 ⟨hS,hM⟩
       change wpA _ _ _ _ (Fr.of [(6,.b v14)]) _ _
       replace hS:St (·<g) H0 [] H g3:=hS
       replace hM:zdW v14=some r:=hM
       refine zbB ?_
       refine zay ?_
       refine zbL (x:=.b v14) (f:=fun r=>.b r) (.inr rfl) ?_ (.refl _) (Option.some.inj hM) hS
       exact (zaJ (zau (x:=.b v14) rfl))
      ·refine Rg 6 ?_
       refine Om (.i r12.2) ?_
       refine Oi (.b (r12.2==3)) ?_
       refine Om (.b (r12.2==3)) ?_
       rcases bft (r12.2==3) with hb15 | hb15
       ·replace hM:=ifT hM hb15
        refine Oy (want:=true) hb15 ?_
        obtain ⟨r16,hr16,hM⟩:=zap hM
        refine zbo (bs:=[]) (by decide) rfl rfl ((zeS hr16).le .nil) ?_
        refine Pt (.b r16) hb15 ?_
        refine Oa (.b r16) ?_
        refine Ni ?_
        exact zal r16 (.k .nil) ⟨(hS.keep [false,false,false] rfl).up (by omega),hM⟩
       ·replace hM:=ifF hM hb15
        refine On (want:=true) hb15 ?_
        refine Pf (.b false) hb15 ?_
        refine Oa (.b false) ?_
        refine Ni ?_
        exact zal false (.k .nil) ⟨(hS.keep [false,false,false] rfl).up (by omega),hM⟩
     ·replace hM:=ifF hM hb13
      refine Cf hb13 ?_
      refine zaI ?_
      refine Ws ?_
      refine Sq ?_
      refine zaY (J:=Bool) (fun j=>[(2,.i a2),(9,.ptr (g1+7+2+3) 0),(10,.ms (g1+7+2+5+1+0) 0 1 3 3),(11,.i v9),(13,.sl .no 1 (r12.1.map cI)),(136,.b j)]) (fun j H' g'=>St (·<g) H0 [(g1+7+2+5+1+0,.cells (v10.map cI).flatten),(g1+7+2+5,.row 40 v11.length),(g1+7+2+3,.cells [.i a2,.sl (.id (g1+7+2+5)) 2 (v11.map RoyalSide.cells),.sl .no 1 (l6.map cI)])] H' g'/\zdf n a2 l6 v9 v10 v11 r12 j=some r) ?_ ?_
      ·rintro v17 H g4 ⟨hS,hM⟩
       change wpA _ _ _ _ (Fr.of [(2,.i a2),(9,.ptr (g1+7+2+3) 0),(10,.ms (g1+7+2+5+1+0) 0 1 3 3),(11,.i v9),(13,.sl .no 1 (r12.1.map cI)),(136,.b v17)]) _ _
       replace hS:St (·<g) H0 [(g1+7+2+5+1+0,.cells (v10.map cI).flatten),(g1+7+2+5,.row 40 v11.length),(g1+7+2+3,.cells [.i a2,.sl (.id (g1+7+2+5)) 2 (v11.map RoyalSide.cells),.sl .no 1 (l6.map cI)])] H g4:=hS
       replace hM:zdf n a2 l6 v9 v10 v11 r12 v17=some r:=hM
       rcases bft v17 with hb18 | hb18
       ·replace hM:=ifT hM hb18
        refine Ct hb18 ?_
        refine Sq ?_
        refine Rg 1 ?_
        refine Oa (.b false) ?_
        refine Ni ?_
        replace hS:=hS.keep (L':=[]) [false,false,false] rfl
        refine Ws ?_
        refine zbB ?_
        refine zay ?_
        refine zbL (x:=.b false) (f:=fun r=>.b r) (.inr rfl) ?_ (.refl _) (Option.some.inj hM) hS
        exact (zaJ (zau (x:=.b false) rfl))
       ·replace hM:=ifF hM hb18
        refine Cf hb18 ?_
        refine zaI ?_
        refine Ws ?_
        refine zaY (J:=Unit) (fun j=>[]) (fun j H' g'=>St (·<g) H0 [] H' g'/\zdX n=some r) ?_ ?_
        ·rintro _ H g5 ⟨hS,hM⟩
         change wpA _ _ _ _ (Fr.of []) _ _
         replace hS:St (·<g) H0 [] H g5:=hS
         replace hM:zdX n=some r:=hM
         refine Sq ?_
         refine Rg 2 ?_
         obtain ⟨r19,hr19,hM⟩:=zap hM
         refine zbo (bs:=[]) (by decide) rfl rfl ((zeS hr19).le .nil) ?_
         refine Oa (.b r19) ?_
         refine Ni ?_
         refine Ws ?_
         refine zbB ?_
         refine zbL (x:=.b r19) (f:=fun r=>.b r) (.inr rfl) ?_ (.refl _) (Option.some.inj hM) hS
         exact (zaJ (zau (x:=.b r19) rfl))
        ·refine Sq ?_
         refine Rg 1 ?_
         refine Oa (.i 0) ?_
         refine Ni ?_
         refine Ws ?_
         refine zaB ?_
         refine zcx (V:=Int) (fun v=>[(2,.i a2),(9,.ptr (g1+7+2+3) 0),(10,.ms (g1+7+2+5+1+0) 0 1 3 3),(11,.i v9),(13,.sl .no 1 (r12.1.map cI)),(15,.i v)]) (fun v m6 H' g'=>St (·<g) H0 [(g1+7+2+5+1+0,.cells (v10.map cI).flatten),(g1+7+2+5,.row 40 v11.length),(g1+7+2+3,.cells [.i a2,.sl (.id (g1+7+2+5)) 2 (v11.map RoyalSide.cells),.sl .no 1 (l6.map cI)])] H' g'/\za0 n a2 l6 v9 v10 v11 r12 m6 v=some r) (n:=n) 0 (.k (.k (.k (.k (.k (.k .nil)))))) ⟨(hS.keep [true,true,true] rfl).up (by omega),hM⟩ ?_
         rintro v20 m6 H g6 ⟨hS,hM⟩
         obtain _ | m6:=m6
         ·exact nomatch (show none=some _ from hM)
         change wpA _ _ _ _ (Fr.of [(2,.i a2),(9,.ptr (g1+7+2+3) 0),(10,.ms (g1+7+2+5+1+0) 0 1 3 3),(11,.i v9),(13,.sl .no 1 (r12.1.map cI)),(15,.i v20)]) _ _
         replace hS:St (·<g) H0 [(g1+7+2+5+1+0,.cells (v10.map cI).flatten),(g1+7+2+5,.row 40 v11.length),(g1+7+2+3,.cells [.i a2,.sl (.id (g1+7+2+5)) 2 (v11.map RoyalSide.cells),.sl .no 1 (l6.map cI)])] H g6:=hS
         replace hM:zcq n a2 l6 v9 v10 v11 r12 (za0 n a2 l6 v9 v10 v11 r12 m6) v20=some r:=hM
         refine Sq ?_
         refine Sq ?_
         refine Rg 4 ?_
         refine Om (.i v20) ?_
         refine Om (.ms (g1+7+2+5+1+0) 0 1 3 3) ?_
         refine zj6 (n:=3) (by decide) rfl zcK ?_
         refine Oi (.b (decide (v20<(3:Int)))) ?_
         refine Ni ?_
         refine Ws ?_
         rcases bft (decide (v20<(3:Int))) with hb21 | hb21
         ·replace hM:=ifT hM hb21
          refine Ct hb21 ?_
          refine zaI ?_
          refine Ws ?_
          refine Sq ?_
          refine zaB ?_
          refine Sq ?_
          refine Rg 10 ?_
          refine zbJ (v:=.agg [.i a2,.sl (.id (g1+7+2+5)) 2 (v11.map RoyalSide.cells),.sl .no 1 (l6.map cI)]) 2 hS (by decide) rfl rfl .no (pg zfE) ?_
          refine Om (.i v20) ?_
          obtain ⟨r22,hr22,hM⟩:=zap hM
          refine zbo (bs:=[.agg [.i a2,.sl (.id (g1+7+2+5)) 2 (v11.map RoyalSide.cells),.sl .no 1 (l6.map cI)],.i v20]) (by decide) rfl rfl ((zhE hr22).le (.cons (.aggL (.k (.cons (.sl _ _ _) (.k .nil)))) (.k .nil))) ?_
          refine Om (.tup [.i r22.1,.i r22.2.1,.i r22.2.2]) ?_
          refine Ox (.i r22.1) ?_
          refine Ox (.i r22.2.1) ?_
          refine Ox (.i r22.2.2) ?_
          refine Oa (.i r22.1) ?_
          refine Oa (.i r22.2.1) ?_
          refine Oa (.i r22.2.2) ?_
          refine Ni ?_
          refine Ws ?_
          refine Sq ?_
          refine zaY (J:=Bool) (fun j=>[(2,.i a2),(9,.ptr (g1+7+2+3) 0),(10,.ms (g1+7+2+5+1+0) 0 1 3 3),(11,.i v9),(13,.sl .no 1 (r12.1.map cI)),(15,.i v20),(181,.b j)]) (fun j H' g'=>St (·<g) H0 [(g1+7+2+5+1+0,.cells (v10.map cI).flatten),(g1+7+2+5,.row 40 v11.length),(g1+7+2+3,.cells [.i a2,.sl (.id (g1+7+2+5)) 2 (v11.map RoyalSide.cells),.sl .no 1 (l6.map cI)])] H' g'/\zbn (za0 n a2 l6 v9 v10 v11 r12 m6) a2 v9 v10 r12 v20 j=some r) ?_ ?_
          ·rintro v23 H g7 ⟨hS,hM⟩
           change wpA _ _ _ _ (Fr.of [(2,.i a2),(9,.ptr (g1+7+2+3) 0),(10,.ms (g1+7+2+5+1+0) 0 1 3 3),(11,.i v9),(13,.sl .no 1 (r12.1.map cI)),(15,.i v20),(181,.b v23)]) _ _
           replace hS:St (·<g) H0 [(g1+7+2+5+1+0,.cells (v10.map cI).flatten),(g1+7+2+5,.row 40 v11.length),(g1+7+2+3,.cells [.i a2,.sl (.id (g1+7+2+5)) 2 (v11.map RoyalSide.cells),.sl .no 1 (l6.map cI)])] H g7:=hS
           replace hM:zbn (za0 n a2 l6 v9 v10 v11 r12 m6) a2 v9 v10 r12 v20 v23=some r:=hM
           rcases bft v23 with hb24 | hb24
           ·replace hM:=ifT hM hb24
            refine Ct hb24 ?_
            refine Sq ?_
            refine Rg 1 ?_
            refine Oa (.b false) ?_
            refine Ni ?_
            replace hS:=hS.keep (L':=[]) [false,false,false] rfl
            refine Ws ?_
            refine zbB ?_
            refine zay ?_
            refine zcm ?_
            refine zay ?_
            refine zdm ?_
            refine zcm ?_
            refine zej ?_
            refine zbL (x:=.b false) (f:=fun r=>.b r) (.inr rfl) ?_ (.refl _) (Option.some.inj hM) hS
            exact (zaJ (zau (x:=.b false) rfl))
           ·replace hM:=ifF hM hb24
            refine Cf hb24 ?_
            refine zaI ?_
            refine Ws ?_
            refine zaY (J:=Bool) (fun j=>[(2,.i a2),(9,.ptr (g1+7+2+3) 0),(10,.ms (g1+7+2+5+1+0) 0 1 3 3),(11,.i v9),(13,.sl .no 1 (r12.1.map cI)),(15,.i v20),(209,.b j)]) (fun j H' g'=>St (·<g) H0 [(g1+7+2+5+1+0,.cells (v10.map cI).flatten),(g1+7+2+5,.row 40 v11.length),(g1+7+2+3,.cells [.i a2,.sl (.id (g1+7+2+5)) 2 (v11.map RoyalSide.cells),.sl .no 1 (l6.map cI)])] H' g'/\zb2 (za0 n a2 l6 v9 v10 v11 r12 m6) v20 j=some r) ?_ ?_
            ·rintro v25 H g8 ⟨hS,hM⟩
             change wpA _ _ _ _ (Fr.of [(2,.i a2),(9,.ptr (g1+7+2+3) 0),(10,.ms (g1+7+2+5+1+0) 0 1 3 3),(11,.i v9),(13,.sl .no 1 (r12.1.map cI)),(15,.i v20),(209,.b v25)]) _ _
             replace hS:St (·<g) H0 [(g1+7+2+5+1+0,.cells (v10.map cI).flatten),(g1+7+2+5,.row 40 v11.length),(g1+7+2+3,.cells [.i a2,.sl (.id (g1+7+2+5)) 2 (v11.map RoyalSide.cells),.sl .no 1 (l6.map cI)])] H g8:=hS
             replace hM:zb2 (za0 n a2 l6 v9 v10 v11 r12 m6) v20 v25=some r:=hM
             rcases bft v25 with hb26 | hb26
             ·replace hM:=ifT hM hb26
              refine Ct hb26 ?_
              refine Sq ?_
              refine Rg 1 ?_
              refine Oa (.b false) ?_
              refine Ni ?_
              replace hS:=hS.keep (L':=[]) [false,false,false] rfl
              refine Ws ?_
              refine zbB ?_
              refine zcm ?_
              refine zay ?_
              refine zdm ?_
              refine zcm ?_
              refine zej ?_
              refine zbL (x:=.b false) (f:=fun r=>.b r) (.inr rfl) ?_ (.refl _) (Option.some.inj hM) hS
              exact (zaJ (zau (x:=.b false) rfl))
             ·replace hM:=ifF hM hb26
              refine Cf hb26 ?_
              refine zaI ?_
              refine zak ?_
              refine Ws ?_
              refine Rg 3 ?_
              refine Om (.i v20) ?_
              refine Oi (.i (w64 (v20+1))) ?_
              refine Oa (.i (w64 (v20+1))) ?_
              refine Ni ?_
              exact zbY (w64 (v20+1)) (Nat.lt_succ_self _) (.k (.k (.k (.k (.k (.k .nil)))))) ⟨(hS.keep [true,true,true] rfl).up (by omega),hM⟩
            ·refine Rg 28 ?_
             refine Om (.ms (g1+7+2+5+1+0) 0 1 3 3) ?_
             refine Om (.i v20) ?_
             obtain ⟨x27,hx27,hM⟩:=zap hM
             refine zbv (xs:=v10) (z:=v20) (u:=x27) (by decide) rfl (zbw hx27) rfl zaV (zaz hx27) ?_
             refine zex (f:=cI) (xs:=v10) (z:=v20) (u:=x27) (c:=.i x27) 0 hS (by decide) rfl rfl (zaz hx27) .no (fun _=>rfl) rfl zai zas ?_
             refine Oi (.b (x27==0)) ?_
             refine Om (.b (x27==0)) ?_
             rcases bft (x27==0) with hb28 | hb28
             ·replace hM:=ifT hM hb28
              refine Oy (want:=true) hb28 ?_
              refine Om (.sl .no 1 (r12.1.map cI)) ?_
              refine Oy (want:=true) hb28 ?_
              refine Om (.i v20) ?_
              refine Oy (want:=true) hb28 ?_
              obtain ⟨x29,hx29,hM⟩:=zap hM
              refine zbr (xs:=r12.1) (f:=cI) (z:=v20) (u:=x29) (by decide) rfl rfl zaV hx29 ?_
              refine Oy (want:=true) hb28 ?_
              refine Olp (.i x29) zai zas ?_
              refine Oy (want:=true) hb28 ?_
              refine Oi (.b (x29 != 0)) ?_
              refine Pt (.b (x29 != 0)) hb28 ?_
              refine Om (.b (x29 != 0)) ?_
              rcases bft (x29 != 0) with hb30 | hb30
              ·replace hM:=ifT hM hb30
               refine On (want:=false) hb30 ?_
               refine On (want:=false) hb30 ?_
               refine On (want:=false) hb30 ?_
               refine On (want:=false) hb30 ?_
               refine On (want:=false) hb30 ?_
               refine On (want:=false) hb30 ?_
               refine On (want:=false) hb30 ?_
               refine zb3 (j:=19) (by decide) rfl ?_
               refine zb3 (j:=19) (by decide) rfl ?_
               refine zb3 (j:=19) (by decide) rfl ?_
               refine zb3 (j:=19) (by decide) rfl ?_
               refine zb3 (j:=19) (by decide) rfl ?_
               refine zb3 (j:=19) (by decide) rfl ?_
               refine On (want:=false) hb30 ?_
               refine Pt (.b true) hb30 ?_
               refine Ni ?_
               exact zal true (.k (.k (.k (.k (.k (.k (.k .nil))))))) ⟨(hS.keep [true,true,true] rfl).up (by omega),hM⟩
              ·replace hM:=ifF hM hb30
               refine Oy (want:=false) hb30 ?_
               refine Om (.ms (g1+7+2+5+1+0) 0 1 3 3) ?_
               refine Oy (want:=false) hb30 ?_
               refine Om (.i v20) ?_
               refine Oy (want:=false) hb30 ?_
               obtain ⟨x31,hx31,hM⟩:=zap hM
               refine zbv (xs:=v10) (z:=v20) (u:=x31) (by decide) rfl (zbw hx31) rfl zaV (zaz hx31) ?_
               refine Oy (want:=false) hb30 ?_
               refine zex (f:=cI) (xs:=v10) (z:=v20) (u:=x31) (c:=.i x31) 0 hS (by decide) rfl rfl (zaz hx31) .no (fun _=>rfl) rfl zai zas ?_
               refine Oy (want:=false) hb30 ?_
               refine Om (.i v9) ?_
               refine Oy (want:=false) hb30 ?_
               refine Oi (.b (x31==v9)) ?_
               refine Oy (want:=false) hb30 ?_
               refine Om (.b (x31==v9)) ?_
               rcases bft (x31==v9) with hb32 | hb32
               ·replace hM:=ifT hM hb32
                refine Oy (want:=true) hb32 ?_
                refine Om (.sl .no 1 (r12.1.map cI)) ?_
                refine Oy (want:=true) hb32 ?_
                refine Om (.i v20) ?_
                refine Oy (want:=true) hb32 ?_
                obtain ⟨x33,hx33,hM⟩:=zap hM
                refine zbr (xs:=r12.1) (f:=cI) (z:=v20) (u:=x33) (by decide) rfl rfl zaV hx33 ?_
                refine Oy (want:=true) hb32 ?_
                refine Olp (.i x33) zai zas ?_
                refine Oy (want:=true) hb32 ?_
                refine Om (.i a2) ?_
                refine Oy (want:=true) hb32 ?_
                refine Oi (.b (x33 != a2)) ?_
                refine Oy (want:=false) hb30 ?_
                refine Pt (.b (x33 != a2)) hb32 ?_
                refine Pf (.b (x33 != a2)) hb30 ?_
                refine Ni ?_
                exact zal (x33 != a2) (.k (.k (.k (.k (.k (.k (.k .nil))))))) ⟨(hS.keep [true,true,true] rfl).up (by omega),hM⟩
               ·replace hM:=ifF hM hb32
                refine On (want:=true) hb32 ?_
                refine On (want:=true) hb32 ?_
                refine On (want:=true) hb32 ?_
                refine On (want:=true) hb32 ?_
                refine On (want:=true) hb32 ?_
                refine On (want:=true) hb32 ?_
                refine Oy (want:=false) hb30 ?_
                refine Pf (.b false) hb32 ?_
                refine Pf (.b false) hb30 ?_
                refine Ni ?_
                exact zal false (.k (.k (.k (.k (.k (.k (.k .nil))))))) ⟨(hS.keep [true,true,true] rfl).up (by omega),hM⟩
             ·replace hM:=ifF hM hb28
              refine On (want:=true) hb28 ?_
              refine On (want:=true) hb28 ?_
              refine On (want:=true) hb28 ?_
              refine On (want:=true) hb28 ?_
              refine On (want:=true) hb28 ?_
              refine Pf (.b false) hb28 ?_
              refine Om (.b false) ?_
              refine Oz ?_
              refine Om (.ms (g1+7+2+5+1+0) 0 1 3 3) ?_
              refine Oz ?_
              refine Om (.i v20) ?_
              refine Oz ?_
              obtain ⟨x34,hx34,hM⟩:=zap hM
              refine zbv (xs:=v10) (z:=v20) (u:=x34) (by decide) rfl (zbw hx34) rfl zaV (zaz hx34) ?_
              refine Oz ?_
              refine zex (f:=cI) (xs:=v10) (z:=v20) (u:=x34) (c:=.i x34) 0 hS (by decide) rfl rfl (zaz hx34) .no (fun _=>rfl) rfl zai zas ?_
              refine Oz ?_
              refine Om (.i v9) ?_
              refine Oz ?_
              refine Oi (.b (x34==v9)) ?_
              refine Oz ?_
              refine Om (.b (x34==v9)) ?_
              rcases bft (x34==v9) with hb35 | hb35
              ·replace hM:=ifT hM hb35
               refine Oy (want:=true) hb35 ?_
               refine Om (.sl .no 1 (r12.1.map cI)) ?_
               refine Oy (want:=true) hb35 ?_
               refine Om (.i v20) ?_
               refine Oy (want:=true) hb35 ?_
               obtain ⟨x36,hx36,hM⟩:=zap hM
               refine zbr (xs:=r12.1) (f:=cI) (z:=v20) (u:=x36) (by decide) rfl rfl zaV hx36 ?_
               refine Oy (want:=true) hb35 ?_
               refine Olp (.i x36) zai zas ?_
               refine Oy (want:=true) hb35 ?_
               refine Om (.i a2) ?_
               refine Oy (want:=true) hb35 ?_
               refine Oi (.b (x36 != a2)) ?_
               refine Oz ?_
               refine Pt (.b (x36 != a2)) hb35 ?_
               refine zby (v:=.b (x36 != a2)) (e:=false) (by decide) rfl rfl rfl ?_
               refine Ni ?_
               exact zal (x36 != a2) (.k (.k (.k (.k (.k (.k (.k .nil))))))) ⟨(hS.keep [true,true,true] rfl).up (by omega),hM⟩
              ·replace hM:=ifF hM hb35
               refine On (want:=true) hb35 ?_
               refine On (want:=true) hb35 ?_
               refine On (want:=true) hb35 ?_
               refine On (want:=true) hb35 ?_
               refine On (want:=true) hb35 ?_
               refine On (want:=true) hb35 ?_
               refine Oz ?_
               refine Pf (.b false) hb35 ?_
               refine zby (v:=.b false) (e:=false) (by decide) rfl rfl rfl ?_
               refine Ni ?_
               exact zal false (.k (.k (.k (.k (.k (.k (.k .nil))))))) ⟨(hS.keep [true,true,true] rfl).up (by omega),hM⟩
          ·refine Rg 32 ?_
           refine Om (.i r22.2.2) ?_
           refine Oi (.b (r22.2.2 != 0)) ?_
           refine Om (.b (r22.2.2 != 0)) ?_
           rcases bft (r22.2.2 != 0) with hb37 | hb37
           ·replace hM:=ifT hM hb37
            refine On (want:=false) hb37 ?_
            refine On (want:=false) hb37 ?_
            refine Pt (.b true) hb37 ?_
            refine Om (.b true) ?_
            refine Og ?_
            refine Og ?_
            refine zcy (v:=.b true) (e:=true) (by decide) rfl rfl rfl ?_
            refine Om (.b true) ?_
            refine Og ?_
            refine Og ?_
            refine zcy (v:=.b true) (e:=true) (by decide) rfl rfl rfl ?_
            refine Om (.b true) ?_
            refine Og ?_
            refine Og ?_
            refine zcy (v:=.b true) (e:=true) (by decide) rfl rfl rfl ?_
            refine Om (.b true) ?_
            refine Og ?_
            refine Og ?_
            refine Og ?_
            refine Og ?_
            refine Og ?_
            refine Og ?_
            refine Og ?_
            refine Og ?_
            refine Og ?_
            refine Og ?_
            refine Og ?_
            refine Og ?_
            refine zcy (v:=.b true) (e:=true) (by decide) rfl rfl rfl ?_
            refine Ni ?_
            exact zal true (.k (.k (.k (.k (.k (.k (.k .nil))))))) ⟨(hS.keep [true,true,true] rfl).up (by omega),hM⟩
           ·replace hM:=ifF hM hb37
            refine Oy (want:=false) hb37 ?_
            refine Om (.i r22.2.1) ?_
            refine Oy (want:=false) hb37 ?_
            refine Oi (.b (decide (r22.2.1<1))) ?_
            refine Pf (.b (decide (r22.2.1<1))) hb37 ?_
            refine Om (.b (decide (r22.2.1<1))) ?_
            rcases bft (decide (r22.2.1<1)) with hb38 | hb38
            ·replace hM:=ifT hM hb38
             refine On (want:=false) hb38 ?_
             refine On (want:=false) hb38 ?_
             refine Pt (.b true) hb38 ?_
             refine Om (.b true) ?_
             refine Og ?_
             refine Og ?_
             refine zcy (v:=.b true) (e:=true) (by decide) rfl rfl rfl ?_
             refine Om (.b true) ?_
             refine Og ?_
             refine Og ?_
             refine zcy (v:=.b true) (e:=true) (by decide) rfl rfl rfl ?_
             refine Om (.b true) ?_
             refine Og ?_
             refine Og ?_
             refine Og ?_
             refine Og ?_
             refine Og ?_
             refine Og ?_
             refine Og ?_
             refine Og ?_
             refine Og ?_
             refine Og ?_
             refine Og ?_
             refine Og ?_
             refine zcy (v:=.b true) (e:=true) (by decide) rfl rfl rfl ?_
             refine Ni ?_
             exact zal true (.k (.k (.k (.k (.k (.k (.k .nil))))))) ⟨(hS.keep [true,true,true] rfl).up (by omega),hM⟩
            ·replace hM:=ifF hM hb38
             refine Oy (want:=false) hb38 ?_
             refine Om (.i r22.2.1) ?_
             refine Oy (want:=false) hb38 ?_
             refine Oi (.b (decide (r22.2.1>1073741824))) ?_
             refine Pf (.b (decide (r22.2.1>1073741824))) hb38 ?_
             refine Om (.b (decide (r22.2.1>1073741824))) ?_
             rcases bft (decide (r22.2.1>1073741824)) with hb39 | hb39
             ·replace hM:=ifT hM hb39
              refine On (want:=false) hb39 ?_
              refine On (want:=false) hb39 ?_
              refine Pt (.b true) hb39 ?_
              refine Om (.b true) ?_
              refine Og ?_
              refine Og ?_
              refine zcy (v:=.b true) (e:=true) (by decide) rfl rfl rfl ?_
              refine Om (.b true) ?_
              refine Og ?_
              refine Og ?_
              refine Og ?_
              refine Og ?_
              refine Og ?_
              refine Og ?_
              refine Og ?_
              refine Og ?_
              refine Og ?_
              refine Og ?_
              refine Og ?_
              refine Og ?_
              refine zcy (v:=.b true) (e:=true) (by decide) rfl rfl rfl ?_
              refine Ni ?_
              exact zal true (.k (.k (.k (.k (.k (.k (.k .nil))))))) ⟨(hS.keep [true,true,true] rfl).up (by omega),hM⟩
             ·replace hM:=ifF hM hb39
              refine Oy (want:=false) hb39 ?_
              refine Om (.i r22.1) ?_
              refine Oy (want:=false) hb39 ?_
              refine Oi (.b (decide (r22.1<0))) ?_
              refine Pf (.b (decide (r22.1<0))) hb39 ?_
              refine Om (.b (decide (r22.1<0))) ?_
              rcases bft (decide (r22.1<0)) with hb40 | hb40
              ·replace hM:=ifT hM hb40
               refine On (want:=false) hb40 ?_
               refine On (want:=false) hb40 ?_
               refine Pt (.b true) hb40 ?_
               refine Om (.b true) ?_
               refine Og ?_
               refine Og ?_
               refine Og ?_
               refine Og ?_
               refine Og ?_
               refine Og ?_
               refine Og ?_
               refine Og ?_
               refine Og ?_
               refine Og ?_
               refine Og ?_
               refine Og ?_
               refine zcy (v:=.b true) (e:=true) (by decide) rfl rfl rfl ?_
               refine Ni ?_
               exact zal true (.k (.k (.k (.k (.k (.k (.k .nil))))))) ⟨(hS.keep [true,true,true] rfl).up (by omega),hM⟩
              ·replace hM:=ifF hM hb40
               refine Oy (want:=false) hb40 ?_
               refine Om (.i r22.1) ?_
               refine Oy (want:=false) hb40 ?_
               refine Oi (.b (decide (r22.1>1073741824))) ?_
               refine Pf (.b (decide (r22.1>1073741824))) hb40 ?_
               refine Om (.b (decide (r22.1>1073741824))) ?_
               rcases bft (decide (r22.1>1073741824)) with hb41 | hb41
               ·replace hM:=ifT hM hb41
                refine On (want:=false) hb41 ?_
                refine On (want:=false) hb41 ?_
                refine On (want:=false) hb41 ?_
                refine On (want:=false) hb41 ?_
                refine On (want:=false) hb41 ?_
                refine On (want:=false) hb41 ?_
                refine On (want:=false) hb41 ?_
                refine On (want:=false) hb41 ?_
                refine On (want:=false) hb41 ?_
                refine On (want:=false) hb41 ?_
                refine On (want:=false) hb41 ?_
                refine On (want:=false) hb41 ?_
                refine Pt (.b true) hb41 ?_
                refine Ni ?_
                exact zal true (.k (.k (.k (.k (.k (.k (.k .nil))))))) ⟨(hS.keep [true,true,true] rfl).up (by omega),hM⟩
               ·replace hM:=ifF hM hb41
                refine Oy (want:=false) hb41 ?_
                refine Om (.i r22.1) ?_
                refine Oy (want:=false) hb41 ?_
                refine Om (.i v9) ?_
                refine Oy (want:=false) hb41 ?_
                refine Oi (.i (w64 (r22.1*v9))) ?_
                refine Oy (want:=false) hb41 ?_
                refine Om (.i a2) ?_
                refine Oy (want:=false) hb41 ?_
                refine Om (.ms (g1+7+2+5+1+0) 0 1 3 3) ?_
                refine Oy (want:=false) hb41 ?_
                refine Om (.i v20) ?_
                refine Oy (want:=false) hb41 ?_
                obtain ⟨x42,hx42,hM⟩:=zap hM
                refine zbv (xs:=v10) (z:=v20) (u:=x42) (by decide) rfl (zbw hx42) rfl zaV (zaz hx42) ?_
                refine Oy (want:=false) hb41 ?_
                refine zex (f:=cI) (xs:=v10) (z:=v20) (u:=x42) (c:=.i x42) 0 hS (by decide) rfl rfl (zaz hx42) .no (fun _=>rfl) rfl zai zas ?_
                refine Oy (want:=false) hb41 ?_
                refine Oi (.i (w64 (a2*x42))) ?_
                refine Oy (want:=false) hb41 ?_
                refine Om (.i r22.2.1) ?_
                refine Oy (want:=false) hb41 ?_
                refine Oi (.i (w64 ((w64 (a2*x42))*r22.2.1))) ?_
                refine Oy (want:=false) hb41 ?_
                refine Oi (.b ((w64 (r22.1*v9)) != (w64 ((w64 (a2*x42))*r22.2.1)))) ?_
                refine Pf (.b ((w64 (r22.1*v9)) != (w64 ((w64 (a2*x42))*r22.2.1)))) hb41 ?_
                refine Ni ?_
                exact zal ((w64 (r22.1*v9)) != (w64 ((w64 (a2*x42))*r22.2.1))) (.k (.k (.k (.k (.k (.k (.k .nil))))))) ⟨(hS.keep [true,true,true] rfl).up (by omega),hM⟩
         ·replace hM:=ifF hM hb21
          refine Cf hb21 ?_
          refine zcw ?_
          refine zax ?_
          refine zaq ?_
          refine zaG ?_
          exact zal () .nil ⟨(hS.keep [false,false,false] rfl).up (by omega),hM⟩
      ·refine Rg 9 ?_
       refine Om (.i r12.2) ?_
       refine Oi (.b (r12.2 != 0)) ?_
       refine Om (.b (r12.2 != 0)) ?_
       rcases bft (r12.2 != 0) with hb43 | hb43
       ·replace hM:=ifT hM hb43
        refine On (want:=false) hb43 ?_
        refine On (want:=false) hb43 ?_
        refine On (want:=false) hb43 ?_
        refine On (want:=false) hb43 ?_
        refine On (want:=false) hb43 ?_
        refine Pt (.b true) hb43 ?_
        refine Ni ?_
        exact zal true (.k (.k (.k (.k (.k (.k .nil)))))) ⟨(hS.keep [true,true,true] rfl).up (by omega),hM⟩
       ·replace hM:=ifF hM hb43
        refine Oy (want:=false) hb43 ?_
        refine Om (.sl .no 1 (r12.1.map cI)) ?_
        refine Oy (want:=false) hb43 ?_
        refine zcI (n:=r12.1.length) (by decide) rfl (List.length_map _) zcK ?_
        refine Oy (want:=false) hb43 ?_
        refine Om (.ms (g1+7+2+5+1+0) 0 1 3 3) ?_
        refine Oy (want:=false) hb43 ?_
        refine zj6 (n:=3) (by decide) rfl zcK ?_
        refine Oy (want:=false) hb43 ?_
        refine Oi (.b ((r12.1.length:Int) != (3:Int))) ?_
        refine Pf (.b ((r12.1.length:Int) != (3:Int))) hb43 ?_
        refine Ni ?_
        exact zal ((r12.1.length:Int) != (3:Int)) (.k (.k (.k (.k (.k (.k .nil)))))) ⟨(hS.keep [true,true,true] rfl).up (by omega),hM⟩
    ·refine Sq ?_
     refine Rg 1 ?_
     refine Oa (.i 0) ?_
     refine Ni ?_
     refine Ws ?_
     refine zaB ?_
     refine zcx (V:=Int×Int×(List Int)×(List RoyalSide)) (fun v=>[(1,.sl .no 1 (a1.map cI)),(2,.i a2),(7,.sl .no 1 (r4.1.map cI)),(9,.ptr (g1+7+2+3) 0),(10,.ms (g1+7+2+5+1+0) 0 1 3 3),(11,.i v.1),(12,.i v.2.1)]) (fun v m10 H' g'=>St (·<g) H0 [(g1+7+2+5+1+0,.cells (v.2.2.1.map cI).flatten),(g1+7+2+5,.row 40 v.2.2.2.length),(g1+7+2+3,.cells [.i a2,.sl (.id (g1+7+2+5)) 2 (v.2.2.2.map RoyalSide.cells),.sl .no 1 (l6.map cI)])] H' g'/\zbI n a1 a2 r4 l6 m10 v.1 v.2.1 v.2.2.1 v.2.2.2=some r) (n:=n) (0,0,l8,([]:List RoyalSide)) (.k (.k (.k (.k (.k (.k (.k .nil))))))) ⟨(hS.keep [true,true,true] rfl).up (by omega),hM⟩ ?_
     rintro ⟨v46,v47,v48,v49⟩ m10 H g10 ⟨hS,hM⟩
     obtain _ | m10:=m10
     ·exact nomatch (show none=some _ from hM)
     change wpA _ _ _ _ (Fr.of [(1,.sl .no 1 (a1.map cI)),(2,.i a2),(7,.sl .no 1 (r4.1.map cI)),(9,.ptr (g1+7+2+3) 0),(10,.ms (g1+7+2+5+1+0) 0 1 3 3),(11,.i v46),(12,.i v47)]) _ _
     replace hS:St (·<g) H0 [(g1+7+2+5+1+0,.cells (v48.map cI).flatten),(g1+7+2+5,.row 40 v49.length),(g1+7+2+3,.cells [.i a2,.sl (.id (g1+7+2+5)) 2 (v49.map RoyalSide.cells),.sl .no 1 (l6.map cI)])] H g10:=hS
     replace hM:zdp n a1 a2 r4 l6 (zbI n a1 a2 r4 l6 m10) v46 v47 v48 v49=some r:=hM
     refine Sq ?_
     refine Sq ?_
     refine Rg 4 ?_
     refine Om (.i v47) ?_
     refine Om (.sl .no 1 (r4.1.map cI)) ?_
     refine zcI (n:=r4.1.length) (by decide) rfl (List.length_map _) zcK ?_
     refine Oi (.b (decide (v47<(r4.1.length:Int)))) ?_
     refine Ni ?_
     refine Ws ?_
     rcases bft (decide (v47<(r4.1.length:Int))) with hb50 | hb50
     ·replace hM:=ifT hM hb50
      refine Ct hb50 ?_
      refine zaI ?_
      refine Ws ?_
      refine Sq ?_
      refine zaB ?_
      refine Sq ?_
      refine zaY (J:=Bool) (fun j=>[(1,.sl .no 1 (a1.map cI)),(2,.i a2),(7,.sl .no 1 (r4.1.map cI)),(9,.ptr (g1+7+2+3) 0),(10,.ms (g1+7+2+5+1+0) 0 1 3 3),(11,.i v46),(12,.i v47),(79,.b j)]) (fun j H' g'=>St (·<g) H0 [(g1+7+2+5+1+0,.cells (v48.map cI).flatten),(g1+7+2+5,.row 40 v49.length),(g1+7+2+3,.cells [.i a2,.sl (.id (g1+7+2+5)) 2 (v49.map RoyalSide.cells),.sl .no 1 (l6.map cI)])] H' g'/\zcr n (zbI n a1 a2 r4 l6 m10) a1 r4 v46 v47 v48 v49 j=some r) ?_ ?_
      ·rintro v51 H g11 ⟨hS,hM⟩
       change wpA _ _ _ _ (Fr.of [(1,.sl .no 1 (a1.map cI)),(2,.i a2),(7,.sl .no 1 (r4.1.map cI)),(9,.ptr (g1+7+2+3) 0),(10,.ms (g1+7+2+5+1+0) 0 1 3 3),(11,.i v46),(12,.i v47),(79,.b v51)]) _ _
       replace hS:St (·<g) H0 [(g1+7+2+5+1+0,.cells (v48.map cI).flatten),(g1+7+2+5,.row 40 v49.length),(g1+7+2+3,.cells [.i a2,.sl (.id (g1+7+2+5)) 2 (v49.map RoyalSide.cells),.sl .no 1 (l6.map cI)])] H g11:=hS
       replace hM:zcr n (zbI n a1 a2 r4 l6 m10) a1 r4 v46 v47 v48 v49 v51=some r:=hM
       rcases bft v51 with hb52 | hb52
       ·replace hM:=ifT hM hb52
        refine Ct hb52 ?_
        refine Sq ?_
        refine Rg 2 ?_
        obtain ⟨r53,hr53,hM⟩:=zap hM
        refine zbo (bs:=[]) (by decide) rfl rfl ((zeS hr53).le .nil) ?_
        refine Oa (.b r53) ?_
        refine Ni ?_
        replace hS:=hS.keep (L':=[]) [false,false,false] rfl
        refine Ws ?_
        refine zbB ?_
        refine zay ?_
        refine zcm ?_
        refine zay ?_
        refine zdm ?_
        refine zcm ?_
        refine zej ?_
        refine zbL (x:=.b r53) (f:=fun r=>.b r) (.inr rfl) ?_ (.refl _) (Option.some.inj hM) hS
        exact (zaJ (zau (x:=.b r53) rfl))
       ·replace hM:=ifF hM hb52
        refine Cf hb52 ?_
        refine zaI ?_
        refine Ws ?_
        refine Sq ?_
        have hS0:=hS
        refine zdb (n:=17) rfl (by kernel_rfl) ?_
        refine zan (by decide) zf7 rfl ?_
        refine zbJ (v:=.sl (.id (g1+7+2+5)) 2 (v49.map RoyalSide.cells)) 2 hS (by decide) rfl rfl (.st hS0 2 rfl (by omega)) (po zhU zjx) ?_
        refine Om (.sl .no 1 (r4.1.map cI)) ?_
        refine Om (.i v47) ?_
        obtain ⟨x54,hx54,hM⟩:=zap hM
        refine zbr (xs:=r4.1) (f:=cI) (z:=v47) (u:=x54) (by decide) rfl rfl zaV hx54 ?_
        refine Olp (.i x54) zai zas ?_
        refine Om (.sl .no 1 (a1.map cI)) ?_
        refine Om (.i v47) ?_
        obtain ⟨x55,hx55,hM⟩:=zap hM
        refine zbr (xs:=a1) (f:=cI) (z:=v47) (u:=x55) (by decide) rfl rfl zaV hx55 ?_
        refine Olp (.i x55) zai zas ?_
        refine zd3 (cs:=[.i x55,.i 100]) (by decide) ze3 zir rfl ?_
        refine zcz (es:=[[.i x55,.i 100]]) hS (by decide) zis zkM rfl zkN rfl (by decide) (by omega) fun H hS=>?_
        refine zd3 (cs:=[.i x54,.sl (.id (g11+11)) 2 (([(⟨x55,100⟩:RoyalPart)]:List RoyalPart).map RoyalPart.cells)]) (by decide) zf5 zkO rfl ?_
        refine zcz (es:=[[.i x54,.sl (.id (g11+11)) 2 (([(⟨x55,100⟩:RoyalPart)]:List RoyalPart).map RoyalPart.cells)]]) hS (by decide) ziq zkK rfl zkL rfl (by decide) (by omega) fun H hS=>?_
        obtain ⟨l56,hl56,hM⟩:=zap hM
        refine znb (xs:=v49) (ys:=([(⟨x54,([(⟨x55,100⟩:RoyalPart)]:List RoyalPart)⟩:RoyalSide)]:List RoyalSide)) (zs:=l56) (ds:=[[.i x54,.sl (.id (g11+11)) 2 (([(⟨x55,100⟩:RoyalPart)]:List RoyalPart).map RoyalPart.cells)]]) (f:=RoyalSide.cells) (L':=[(g11+13,.row 40 1),(g11+11,.row 37 1),(g1+7+2+5+1+0,.cells (v48.map cI).flatten),(g1+7+2+5,.row 40 l56.length),(g1+7+2+3,.cells [.i a2,.sl (.id (g1+7+2+5)) 2 (v49.map RoyalSide.cells),.sl .no 1 (l6.map cI)])]) 3 hS (by decide) rfl rfl rfl rfl rfl (.st hS0 1 rfl (by omega)) ziq zkK zkL hl56 rfl fun H hS=>?_
        refine zan (by decide) zf7 rfl ?_
        refine zbC (v:=.sl (.id (g1+7+2+5)) 2 (v49.map RoyalSide.cells++[[.i x54,.sl (.id (g11+11)) 2 (([(⟨x55,100⟩:RoyalPart)]:List RoyalPart).map RoyalPart.cells)]])) (ns:=[.sl (.id (g1+7+2+5)) 2 (v49.map RoyalSide.cells++[[.i x54,.sl (.id (g11+11)) 2 (([(⟨x55,100⟩:RoyalPart)]:List RoyalPart).map RoyalPart.cells)]])]) (L':=[(g11+13,.row 40 1),(g11+11,.row 37 1),(g1+7+2+5+1+0,.cells (v48.map cI).flatten),(g1+7+2+5,.row 40 l56.length),(g1+7+2+3,.cells [.i a2,.sl (.id (g1+7+2+5)) 2 (v49.map RoyalSide.cells++[[.i x54,.sl (.id (g11+11)) 2 (([(⟨x55,100⟩:RoyalPart)]:List RoyalPart).map RoyalPart.cells)]]),.sl .no 1 (l6.map cI)])]) 4 hS rfl rfl (.st hS0 2 rfl (by omega)) rfl rfl zod nlb rfl fun H hS=>?_
        refine Ni ?_
        refine zo7 (cs':=[.i a2,.sl (.id (g1+7+2+5)) 2 (l56.map RoyalSide.cells),.sl .no 1 (l6.map cI)]) (L':=[(g11+13,.row 40 1),(g11+11,.row 37 1),(g1+7+2+5+1+0,.cells (v48.map cI).flatten),(g1+7+2+5,.row 40 l56.length),(g1+7+2+3,.cells [.i a2,.sl (.id (g1+7+2+5)) 2 (l56.map RoyalSide.cells),.sl .no 1 (l6.map cI)])]) 4 hS rfl (.k (.cons (zn9 hl56 (zg6 (.k (.cons (.sl _ _ _) .nil)) zlf)) (.k .nil))) rfl fun H hS=>?_
        replace hS:=hS.keep (L':=[(g1+7+2+5+1+0,.cells (v48.map cI).flatten),(g1+7+2+5,.row 40 l56.length),(g1+7+2+3,.cells [.i a2,.sl (.id (g1+7+2+5)) 2 (l56.map RoyalSide.cells),.sl .no 1 (l6.map cI)])]) [false,false,true,true,true] rfl
        refine Ws ?_
        refine Sq ?_
        have hS0:=hS
        refine zdb (n:=14) rfl (by kernel_rfl) ?_
        refine Om (.ms (g1+7+2+5+1+0) 0 1 3 3) ?_
        refine Om (.sl .no 1 (a1.map cI)) ?_
        refine Om (.i v47) ?_
        obtain ⟨x57,hx57,hM⟩:=zap hM
        refine zbr (xs:=a1) (f:=cI) (z:=v47) (u:=x57) (by decide) rfl rfl zaV hx57 ?_
        refine Olp (.i x57) zai zas ?_
        obtain ⟨x58,hx58,hM⟩:=zap hM
        refine zbv (xs:=v48) (z:=x57) (u:=x58) (by decide) rfl (zbw hx58) rfl zaV (zaz hx58) ?_
        refine zex (f:=cI) (xs:=v48) (z:=x57) (u:=x58) (c:=.i x58) 0 hS (by decide) rfl rfl (zaz hx58) (.st hS0 0 rfl (by omega)) (fun _=>rfl) rfl zai zas ?_
        refine Om (.sl .no 1 (r4.1.map cI)) ?_
        refine Om (.i v47) ?_
        obtain ⟨x59,hx59,hM⟩:=zap hM
        refine zbr (xs:=r4.1) (f:=cI) (z:=v47) (u:=x59) (by decide) rfl rfl zaV hx59 ?_
        refine Olp (.i x59) zai zas ?_
        refine Oi (.i (w64 (x58+x59))) ?_
        obtain ⟨x60,hx60,hM⟩:=zap hM
        refine zbv (xs:=v48) (z:=x57) (u:=x60) (by decide) rfl (zbw hx60) rfl zaV (zaz hx60) ?_
        refine zen (f:=cI) (k:=1) (xs:=v48) (z:=x57) (u:=x60) (w:=(w64 (x58+x59))) (v:=.i (w64 (x58+x59))) (L':=[(g1+7+2+5+1+0,.cells ((v48.set (Int.toNat x57) (w64 (x58+x59))).map cI).flatten),(g1+7+2+5,.row 40 l56.length),(g1+7+2+3,.cells [.i a2,.sl (.id (g1+7+2+5)) 2 (l56.map RoyalSide.cells),.sl .no 1 (l6.map cI)])]) 0 hS rfl rfl (zaz hx60) (.st hS0 0 rfl (by omega)) (fun _=>rfl) rfl rfl zdO rfl fun H hS=>?_
        refine Ni ?_
        refine Ws ?_
        refine Rg 7 ?_
        refine Om (.i v46) ?_
        refine Om (.sl .no 1 (r4.1.map cI)) ?_
        refine Om (.i v47) ?_
        obtain ⟨x61,hx61,hM⟩:=zap hM
        refine zbr (xs:=r4.1) (f:=cI) (z:=v47) (u:=x61) (by decide) rfl rfl zaV hx61 ?_
        refine Olp (.i x61) zai zas ?_
        refine Oi (.i (w64 (v46+x61))) ?_
        refine Oa (.i (w64 (v46+x61))) ?_
        refine Ni ?_
        refine zak ?_
        refine Ws ?_
        refine Rg 3 ?_
        refine Om (.i v47) ?_
        refine Oi (.i (w64 (v47+1))) ?_
        refine Oa (.i (w64 (v47+1))) ?_
        refine Ni ?_
        exact zbY (w64 (v46+x61),w64 (v47+1),(v48.set (Int.toNat x57) (w64 (x58+x59))),l56) (Nat.lt_succ_self _) (.k (.k (.k (.k (.k (.k (.k .nil))))))) ⟨(hS.keep [true,true,true] rfl).up (by omega),hM⟩
      ·refine Rg 14 ?_
       refine Om (.sl .no 1 (a1.map cI)) ?_
       refine Om (.i v47) ?_
       obtain ⟨x62,hx62,hM⟩:=zap hM
       refine zbr (xs:=a1) (f:=cI) (z:=v47) (u:=x62) (by decide) rfl rfl zaV hx62 ?_
       refine Olp (.i x62) zai zas ?_
       refine Oi (.b (decide (x62<0))) ?_
       refine Om (.b (decide (x62<0))) ?_
       rcases bft (decide (x62<0)) with hb63 | hb63
       ·replace hM:=ifT hM hb63
        refine On (want:=false) hb63 ?_
        refine On (want:=false) hb63 ?_
        refine On (want:=false) hb63 ?_
        refine On (want:=false) hb63 ?_
        refine On (want:=false) hb63 ?_
        refine On (want:=false) hb63 ?_
        refine On (want:=false) hb63 ?_
        refine Pt (.b true) hb63 ?_
        refine Ni ?_
        exact zal true (.k (.k (.k (.k (.k (.k (.k (.k .nil)))))))) ⟨(hS.keep [true,true,true] rfl).up (by omega),hM⟩
       ·replace hM:=ifF hM hb63
        refine Oy (want:=false) hb63 ?_
        refine Om (.sl .no 1 (a1.map cI)) ?_
        refine Oy (want:=false) hb63 ?_
        refine Om (.i v47) ?_
        refine Oy (want:=false) hb63 ?_
        obtain ⟨x64,hx64,hM⟩:=zap hM
        refine zbr (xs:=a1) (f:=cI) (z:=v47) (u:=x64) (by decide) rfl rfl zaV hx64 ?_
        refine Oy (want:=false) hb63 ?_
        refine Olp (.i x64) zai zas ?_
        refine Oy (want:=false) hb63 ?_
        refine Om (.ms (g1+7+2+5+1+0) 0 1 3 3) ?_
        refine Oy (want:=false) hb63 ?_
        refine zj6 (n:=3) (by decide) rfl zcK ?_
        refine Oy (want:=false) hb63 ?_
        refine Oi (.b (decide (x64≥(3:Int)))) ?_
        refine Pf (.b (decide (x64≥(3:Int)))) hb63 ?_
        refine Ni ?_
        exact zal (decide (x64≥(3:Int))) (.k (.k (.k (.k (.k (.k (.k (.k .nil)))))))) ⟨(hS.keep [true,true,true] rfl).up (by omega),hM⟩
     ·replace hM:=ifF hM hb50
      refine Cf hb50 ?_
      refine zcw ?_
      refine zax ?_
      refine zaq ?_
      refine zaG ?_
      exact zal (v46,v48,v49) (.k (.k (.k (.k .nil)))) ⟨(hS.keep [true,true,true] rfl).up (by omega),hM⟩
 ·refine Rg 29 ?_
  refine Olg (.agg (Tray.cells a0)) zdr ?_
  obtain ⟨r65,hr65,hM⟩:=zap hM
  refine zbo (bs:=[.agg (Tray.cells a0)]) (by decide) rfl rfl ((zkP hr65).le (.k .nil)) ?_
  refine Om (.b r65) ?_
  rcases bft r65 with hb66 | hb66
  ·replace hM:=ifT hM hb66
   refine On (want:=false) hb66 ?_
   refine On (want:=false) hb66 ?_
   refine On (want:=false) hb66 ?_
   refine Pt (.b true) hb66 ?_
   refine Om (.b true) ?_
   refine Og ?_
   refine Og ?_
   refine Og ?_
   refine Og ?_
   refine Og ?_
   refine Og ?_
   refine zcy (v:=.b true) (e:=true) (by decide) rfl rfl rfl ?_
   refine Om (.b true) ?_
   refine Og ?_
   refine Og ?_
   refine Og ?_
   refine Og ?_
   refine zcy (v:=.b true) (e:=true) (by decide) rfl rfl rfl ?_
   refine Om (.b true) ?_
   refine Og ?_
   refine Og ?_
   refine zcy (v:=.b true) (e:=true) (by decide) rfl rfl rfl ?_
   refine Om (.b true) ?_
   refine Og ?_
   refine Og ?_
   refine zcy (v:=.b true) (e:=true) (by decide) rfl rfl rfl ?_
   refine Ni ?_
   exact zal true (.k (.k (.k (.k .nil)))) ⟨(hS.keep [] rfl).up (by omega),hM⟩
  ·replace hM:=ifF hM hb66
   refine Oy (want:=false) hb66 ?_
   refine Olg (.agg (Tray.cells a0)) zdr ?_
   refine Oy (want:=false) hb66 ?_
   obtain ⟨r67,hr67,hM⟩:=zap hM
   refine zbo (bs:=[.agg (Tray.cells a0)]) (by decide) rfl rfl ((zjB hr67).le (.k .nil)) ?_
   refine Oy (want:=false) hb66 ?_
   refine Oi (.b (r67 != 0)) ?_
   refine Pf (.b (r67 != 0)) hb66 ?_
   refine Om (.b (r67 != 0)) ?_
   rcases bft (r67 != 0) with hb68 | hb68
   ·replace hM:=ifT hM hb68
    refine On (want:=false) hb68 ?_
    refine On (want:=false) hb68 ?_
    refine On (want:=false) hb68 ?_
    refine On (want:=false) hb68 ?_
    refine On (want:=false) hb68 ?_
    refine On (want:=false) hb68 ?_
    refine Pt (.b true) hb68 ?_
    refine Om (.b true) ?_
    refine Og ?_
    refine Og ?_
    refine Og ?_
    refine Og ?_
    refine zcy (v:=.b true) (e:=true) (by decide) rfl rfl rfl ?_
    refine Om (.b true) ?_
    refine Og ?_
    refine Og ?_
    refine zcy (v:=.b true) (e:=true) (by decide) rfl rfl rfl ?_
    refine Om (.b true) ?_
    refine Og ?_
    refine Og ?_
    refine zcy (v:=.b true) (e:=true) (by decide) rfl rfl rfl ?_
    refine Ni ?_
    exact zal true (.k (.k (.k (.k .nil)))) ⟨(hS.keep [] rfl).up (by omega),hM⟩
   ·replace hM:=ifF hM hb68
    refine Oy (want:=false) hb68 ?_
    refine Om (.sl .no 1 (a1.map cI)) ?_
    refine Oy (want:=false) hb68 ?_
    refine zcI (n:=a1.length) (by decide) rfl (List.length_map _) zcK ?_
    refine Oy (want:=false) hb68 ?_
    refine Of ((Tray.cells a0)) zbK ?_
    refine Oy (want:=false) hb68 ?_
    refine Olp (.sl .no 2 (a0.Records.map TrayRecord.cells)) zcv zc3 ?_
    refine Oy (want:=false) hb68 ?_
    refine zcI (n:=a0.Records.length) (by decide) rfl (List.length_map _) zc9 ?_
    refine Oy (want:=false) hb68 ?_
    refine Oi (.b ((a1.length:Int) != (a0.Records.length:Int))) ?_
    refine Pf (.b ((a1.length:Int) != (a0.Records.length:Int))) hb68 ?_
    refine Om (.b ((a1.length:Int) != (a0.Records.length:Int))) ?_
    rcases bft ((a1.length:Int) != (a0.Records.length:Int)) with hb69 | hb69
    ·replace hM:=ifT hM hb69
     refine On (want:=false) hb69 ?_
     refine On (want:=false) hb69 ?_
     refine On (want:=false) hb69 ?_
     refine On (want:=false) hb69 ?_
     refine Pt (.b true) hb69 ?_
     refine Om (.b true) ?_
     refine Og ?_
     refine Og ?_
     refine zcy (v:=.b true) (e:=true) (by decide) rfl rfl rfl ?_
     refine Om (.b true) ?_
     refine Og ?_
     refine Og ?_
     refine zcy (v:=.b true) (e:=true) (by decide) rfl rfl rfl ?_
     refine Ni ?_
     exact zal true (.k (.k (.k (.k .nil)))) ⟨(hS.keep [] rfl).up (by omega),hM⟩
    ·replace hM:=ifF hM hb69
     refine Oy (want:=false) hb69 ?_
     refine Of ((Tray.cells a0)) zbK ?_
     refine Oy (want:=false) hb69 ?_
     refine Olp (.sl .no 2 (a0.Records.map TrayRecord.cells)) zcv zc3 ?_
     refine Oy (want:=false) hb69 ?_
     refine zcI (n:=a0.Records.length) (by decide) rfl (List.length_map _) zc9 ?_
     refine Oy (want:=false) hb69 ?_
     refine Oi (.b (decide ((a0.Records.length:Int)>6))) ?_
     refine Pf (.b (decide ((a0.Records.length:Int)>6))) hb69 ?_
     refine Om (.b (decide ((a0.Records.length:Int)>6))) ?_
     rcases bft (decide ((a0.Records.length:Int)>6)) with hb70 | hb70
     ·replace hM:=ifT hM hb70
      refine On (want:=false) hb70 ?_
      refine On (want:=false) hb70 ?_
      refine Pt (.b true) hb70 ?_
      refine Om (.b true) ?_
      refine Og ?_
      refine Og ?_
      refine zcy (v:=.b true) (e:=true) (by decide) rfl rfl rfl ?_
      refine Ni ?_
      exact zal true (.k (.k (.k (.k .nil)))) ⟨(hS.keep [] rfl).up (by omega),hM⟩
     ·replace hM:=ifF hM hb70
      refine Oy (want:=false) hb70 ?_
      refine Om (.i a2) ?_
      refine Oy (want:=false) hb70 ?_
      refine Oi (.b (decide (a2<0))) ?_
      refine Pf (.b (decide (a2<0))) hb70 ?_
      refine Om (.b (decide (a2<0))) ?_
      rcases bft (decide (a2<0)) with hb71 | hb71
      ·replace hM:=ifT hM hb71
       refine On (want:=false) hb71 ?_
       refine On (want:=false) hb71 ?_
       refine Pt (.b true) hb71 ?_
       refine Ni ?_
       exact zal true (.k (.k (.k (.k .nil)))) ⟨(hS.keep [] rfl).up (by omega),hM⟩
      ·replace hM:=ifF hM hb71
       refine Oy (want:=false) hb71 ?_
       refine Om (.i a2) ?_
       refine Oy (want:=false) hb71 ?_
       refine Oi (.b (decide (a2>9999))) ?_
       refine Pf (.b (decide (a2>9999))) hb71 ?_
       refine Ni ?_
       exact zal (decide (a2>9999)) (.k (.k (.k (.k .nil)))) ⟨(hS.keep [] rfl).up (by omega),hM⟩
end Go.Proofs.Ytclaalcoefcljaa
