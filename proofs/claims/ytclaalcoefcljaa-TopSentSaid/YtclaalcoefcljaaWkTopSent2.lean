/-
  The code returns what the functions say (printed by gen.py).
  Conditions: none.
-/
import Derived.Test.YtclaalcoefcljaaWkTopSent1
import Derived.Test.YtclaalcoefcljaaAmPc
set_option linter.all false
namespace Go.Proofs.Ytclaalcoefcljaa
open Go Go.AM Go.Law
set_option linter.unusedVariables false
set_option maxRecDepth 4000
set_option maxHeartbeats 4000000
theorem zhF {p1 w10 w11 w12:Nat} (hnd:[p1,w10,w11,w12].Nodup) {st:Carriage_} {r:Unit×Carriage_} (hM:zdU st=some r):zgT Try.prog 94 [.ptr p1 0] [(p1,.cells [.sl .no 2 (st.t.Records.map TrayRecord.cells),.i st.t.At,.i st.t.Way,.i st.t.Step,.sl .no 2 (st.t.Presses.map TrayPress.cells),.sl .no 2 (st.queue.map TrayPress.cells),.ms w10 0 1 (2*st.t.Records.length) (2*st.t.Records.length),.i st.now,.i st.at_.At,.i st.at_.Way,.i st.at_.Side,.sl (.id w11) 4 (st.run.spells.map Spell_.cells),.sl (.id w12) 2 (st.run.plays.map TrayPlay.cells),.i st.run.steps,.i st.run.end_]),(w10,.cells (st.pins.map cB).flatten),(w11,.row 160 st.run.spells.length),(w12,.row 71 st.run.plays.length)] (.tup []) [(p1,.cells [.sl .no 2 (r.2.t.Records.map TrayRecord.cells),.i r.2.t.At,.i r.2.t.Way,.i r.2.t.Step,.sl .no 2 (r.2.t.Presses.map TrayPress.cells),.sl .no 2 (r.2.queue.map TrayPress.cells),.ms w10 0 1 (2*r.2.t.Records.length) (2*r.2.t.Records.length),.i r.2.now,.i r.2.at_.At,.i r.2.at_.Way,.i r.2.at_.Side,.sl (.id w11) 4 (r.2.run.spells.map Spell_.cells),.sl (.id w12) 2 (r.2.run.plays.map TrayPlay.cells),.i r.2.run.steps,.i r.2.run.end_]),(w10,.cells (r.2.pins.map cB).flatten),(w11,.row 160 r.2.run.spells.length),(w12,.row 71 r.2.run.plays.length)]:=by
 refine zbx mixed Try.func94 rfl (by decide) Try.ntmps94 (by simp) (zbp (zbp (zgQ (zgQ zeF)))) hnd ?pure ?cells fun H0 g hf_ hp=>?_
 case pure=>exact fun H _=>(show Go.AM.Pure _ from .tup _ zaE).inH
 case cells=>exact (zff (zby (zad (.inl (.inl (.sl _ _ (zav (fun x=>(zac (.v _) (zac (.v _) zaE))))))) (zad (.inl (.inl (.v _))) (zad (.inl (.inl (.v _))) (zad (.inl (.inl (.v _))) (zad (.inl (.inl (.sl _ _ (zav (fun x=>(zac (.v _) (zac (.v _) zaE))))))) (zad (.inl (.inl (.sl _ _ (zav (fun x=>(zac (.v _) (zac (.v _) zaE))))))) (zad (.inr (.inr ⟨_,_,_,_,_,_,rfl,(List.mem_of_getElem? (i:=1) rfl)⟩)) (zad (.inl (.inl (.v _))) (zad (.inl (.inl (.v _))) (zad (.inl (.inl (.v _))) (zad (.inl (.inl (.v _))) (zad (.inl (.inr ⟨_,_,_,_,_,rfl,(List.mem_of_getElem? (i:=2) rfl),zav (fun x=>(zac (.v _) (zac (.v _) (zac (.v _) (zac (.v _) zaE)))))⟩)) (zad (.inl (.inr ⟨_,_,_,_,_,rfl,(List.mem_of_getElem? (i:=3) rfl),zav (fun x=>(zac (.v _) (zac (.v _) zaE)))⟩)) (zad (.inl (.inl (.v _))) (zad (.inl (.inl (.v _))) zeE))))))))))))))) (zby (zhV (fun x=>(zac (.v _) zaE))) (zhb (zhb zfe)))) ze2)
 rw [zan]
 change wpA _ _ _ _ (Fr.of [(0,.ptr p1 0)]) H0 g
 have hS:=St.startH (L:=[(p1,.cells [.sl .no 2 (st.t.Records.map TrayRecord.cells),.i st.t.At,.i st.t.Way,.i st.t.Step,.sl .no 2 (st.t.Presses.map TrayPress.cells),.sl .no 2 (st.queue.map TrayPress.cells),.ms w10 0 1 (2*st.t.Records.length) (2*st.t.Records.length),.i st.now,.i st.at_.At,.i st.at_.Way,.i st.at_.Side,.sl (.id w11) 4 (st.run.spells.map Spell_.cells),.sl (.id w12) 2 (st.run.plays.map TrayPlay.cells),.i st.run.steps,.i st.run.end_]),(w10,.cells (st.pins.map cB).flatten),(w11,.row 160 st.run.spells.length),(w12,.row 71 st.run.plays.length)]) hf_ hnd hp
 replace hS:St (fun i=>i<g/\i∉ids [(p1,.cells [.sl .no 2 (st.t.Records.map TrayRecord.cells),.i st.t.At,.i st.t.Way,.i st.t.Step,.sl .no 2 (st.t.Presses.map TrayPress.cells),.sl .no 2 (st.queue.map TrayPress.cells),.ms w10 0 1 (2*st.t.Records.length) (2*st.t.Records.length),.i st.now,.i st.at_.At,.i st.at_.Way,.i st.at_.Side,.sl (.id w11) 4 (st.run.spells.map Spell_.cells),.sl (.id w12) 2 (st.run.plays.map TrayPlay.cells),.i st.run.steps,.i st.run.end_]),(w10,.cells (st.pins.map cB).flatten),(w11,.row 160 st.run.spells.length),(w12,.row 71 st.run.plays.length)]) H0 [(p1,.cells [.sl .no 2 (st.t.Records.map TrayRecord.cells),.i st.t.At,.i st.t.Way,.i st.t.Step,.sl .no 2 (st.t.Presses.map TrayPress.cells),.sl .no 2 (st.queue.map TrayPress.cells),.ms w10 0 1 (2*st.t.Records.length) (2*st.t.Records.length),.i st.now,.i st.at_.At,.i st.at_.Way,.i st.at_.Side,.sl (.id w11) 4 (st.run.spells.map Spell_.cells),.sl (.id w12) 2 (st.run.plays.map TrayPlay.cells),.i st.run.steps,.i st.run.end_]),(w10,.cells (st.pins.map cB).flatten),(w11,.row 160 st.run.spells.length),(w12,.row 71 st.run.plays.length)] H0 g:=hS
 refine zaO (J:=Int×Int×Int×Int) (fun j=>[(0,.ptr p1 0)]) (fun j H' g'=>St (fun i=>i<g/\i∉ids [(p1,.cells [.sl .no 2 (st.t.Records.map TrayRecord.cells),.i st.t.At,.i st.t.Way,.i st.t.Step,.sl .no 2 (st.t.Presses.map TrayPress.cells),.sl .no 2 (st.queue.map TrayPress.cells),.ms w10 0 1 (2*st.t.Records.length) (2*st.t.Records.length),.i st.now,.i st.at_.At,.i st.at_.Way,.i st.at_.Side,.sl (.id w11) 4 (st.run.spells.map Spell_.cells),.sl (.id w12) 2 (st.run.plays.map TrayPlay.cells),.i st.run.steps,.i st.run.end_]),(w10,.cells (st.pins.map cB).flatten),(w11,.row 160 st.run.spells.length),(w12,.row 71 st.run.plays.length)]) H0 [(p1,.cells [.sl .no 2 (st.t.Records.map TrayRecord.cells),.i st.t.At,.i st.t.Way,.i st.t.Step,.sl .no 2 (st.t.Presses.map TrayPress.cells),.sl .no 2 (st.queue.map TrayPress.cells),.ms w10 0 1 (2*st.t.Records.length) (2*st.t.Records.length),.i j.1,.i j.2.1,.i j.2.2.1,.i st.at_.Side,.sl (.id w11) 4 (st.run.spells.map Spell_.cells),.sl (.id w12) 2 (st.run.plays.map TrayPlay.cells),.i j.2.2.2,.i st.run.end_]),(w10,.cells (st.pins.map cB).flatten),(w11,.row 160 st.run.spells.length),(w12,.row 71 st.run.plays.length)] H' g'/\zb5 st j.1 j.2.1 j.2.2.1 j.2.2.2=some r) ?_ ?_
 ·rintro ⟨v1,v2,v3,v4⟩ H g1 ⟨hS,hM⟩
  change wpA _ _ _ _ (Fr.of [(0,.ptr p1 0)]) _ _
  replace hS:St (fun i=>i<g/\i∉ids [(p1,.cells [.sl .no 2 (st.t.Records.map TrayRecord.cells),.i st.t.At,.i st.t.Way,.i st.t.Step,.sl .no 2 (st.t.Presses.map TrayPress.cells),.sl .no 2 (st.queue.map TrayPress.cells),.ms w10 0 1 (2*st.t.Records.length) (2*st.t.Records.length),.i st.now,.i st.at_.At,.i st.at_.Way,.i st.at_.Side,.sl (.id w11) 4 (st.run.spells.map Spell_.cells),.sl (.id w12) 2 (st.run.plays.map TrayPlay.cells),.i st.run.steps,.i st.run.end_]),(w10,.cells (st.pins.map cB).flatten),(w11,.row 160 st.run.spells.length),(w12,.row 71 st.run.plays.length)]) H0 [(p1,.cells [.sl .no 2 (st.t.Records.map TrayRecord.cells),.i st.t.At,.i st.t.Way,.i st.t.Step,.sl .no 2 (st.t.Presses.map TrayPress.cells),.sl .no 2 (st.queue.map TrayPress.cells),.ms w10 0 1 (2*st.t.Records.length) (2*st.t.Records.length),.i v1,.i v2,.i v3,.i st.at_.Side,.sl (.id w11) 4 (st.run.spells.map Spell_.cells),.sl (.id w12) 2 (st.run.plays.map TrayPlay.cells),.i v4,.i st.run.end_]),(w10,.cells (st.pins.map cB).flatten),(w11,.row 160 st.run.spells.length),(w12,.row 71 st.run.plays.length)] H g1:=hS
  replace hM:zb5 st v1 v2 v3 v4=some r:=hM
  refine Rg 2 ?_
  refine Om (.ptr p1 0) ?_
  obtain ⟨r5,hr5,hM⟩:=zas hM
  have hndr5:=hS.nd_at (ns:=[0,1,2,3]) (M:=[(p1,.cells [.sl .no 2 (st.t.Records.map TrayRecord.cells),.i st.t.At,.i st.t.Way,.i st.t.Step,.sl .no 2 (st.t.Presses.map TrayPress.cells),.sl .no 2 (st.queue.map TrayPress.cells),.ms w10 0 1 (2*st.t.Records.length) (2*st.t.Records.length),.i v1,.i v2,.i v3,.i st.at_.Side,.sl (.id w11) 4 (st.run.spells.map Spell_.cells),.sl (.id w12) 2 (st.run.plays.map TrayPlay.cells),.i v4,.i st.run.end_]),(w10,.cells (st.pins.map cB).flatten),(w11,.row 160 st.run.spells.length),(w12,.row 71 st.run.plays.length)]) (M':=[(p1,.cells [.sl .no 2 (r5.2.t.Records.map TrayRecord.cells),.i r5.2.t.At,.i r5.2.t.Way,.i r5.2.t.Step,.sl .no 2 (r5.2.t.Presses.map TrayPress.cells),.sl .no 2 (r5.2.queue.map TrayPress.cells),.ms w10 0 1 (2*r5.2.t.Records.length) (2*r5.2.t.Records.length),.i r5.2.now,.i r5.2.at_.At,.i r5.2.at_.Way,.i r5.2.at_.Side,.sl (.id w11) 4 (r5.2.run.spells.map Spell_.cells),.sl (.id w12) 2 (r5.2.run.plays.map TrayPlay.cells),.i r5.2.run.steps,.i r5.2.run.end_]),(w10,.cells (r5.2.pins.map cB).flatten),(w11,.row 160 r5.2.run.spells.length),(w12,.row 71 r5.2.run.plays.length)]) (.cons rfl (.cons rfl (.cons rfl (.cons rfl .nil)))) (by decide)
  refine zfx (bs:=[.ptr p1 0,.i (-1)]) (M:=[(p1,.cells [.sl .no 2 (st.t.Records.map TrayRecord.cells),.i st.t.At,.i st.t.Way,.i st.t.Step,.sl .no 2 (st.t.Presses.map TrayPress.cells),.sl .no 2 (st.queue.map TrayPress.cells),.ms w10 0 1 (2*st.t.Records.length) (2*st.t.Records.length),.i v1,.i v2,.i v3,.i st.at_.Side,.sl (.id w11) 4 (st.run.spells.map Spell_.cells),.sl (.id w12) 2 (st.run.plays.map TrayPlay.cells),.i v4,.i st.run.end_]),(w10,.cells (st.pins.map cB).flatten),(w11,.row 160 st.run.spells.length),(w12,.row 71 st.run.plays.length)]) (M':=[(p1,.cells [.sl .no 2 (r5.2.t.Records.map TrayRecord.cells),.i r5.2.t.At,.i r5.2.t.Way,.i r5.2.t.Step,.sl .no 2 (r5.2.t.Presses.map TrayPress.cells),.sl .no 2 (r5.2.queue.map TrayPress.cells),.ms w10 0 1 (2*r5.2.t.Records.length) (2*r5.2.t.Records.length),.i r5.2.now,.i r5.2.at_.At,.i r5.2.at_.Way,.i r5.2.at_.Side,.sl (.id w11) 4 (r5.2.run.spells.map Spell_.cells),.sl (.id w12) 2 (r5.2.run.plays.map TrayPlay.cells),.i r5.2.run.steps,.i r5.2.run.end_]),(w10,.cells (r5.2.pins.map cB).flatten),(w11,.row 160 r5.2.run.spells.length),(w12,.row 71 r5.2.run.plays.length)]) (L':=[(p1,.cells [.sl .no 2 (r5.2.t.Records.map TrayRecord.cells),.i r5.2.t.At,.i r5.2.t.Way,.i r5.2.t.Step,.sl .no 2 (r5.2.t.Presses.map TrayPress.cells),.sl .no 2 (r5.2.queue.map TrayPress.cells),.ms w10 0 1 (2*r5.2.t.Records.length) (2*r5.2.t.Records.length),.i r5.2.now,.i r5.2.at_.At,.i r5.2.at_.Way,.i r5.2.at_.Side,.sl (.id w11) 4 (r5.2.run.spells.map Spell_.cells),.sl (.id w12) 2 (r5.2.run.plays.map TrayPlay.cells),.i r5.2.run.steps,.i r5.2.run.end_]),(w10,.cells (r5.2.pins.map cB).flatten),(w11,.row 160 r5.2.run.spells.length),(w12,.row 71 r5.2.run.plays.length)]) [0,1,2,3] (.inl rfl) hS (by decide) rfl rfl ((zcS (p1:=p1) (w10:=w10) (w11:=w11) (w12:=w12) hndr5 hr5).le (.k (.k .nil))) (.cons rfl (.cons rfl (.cons rfl (.cons rfl .nil)))) rfl (by omega) fun H hS=>?_
  refine Ni ?_
  refine zdg (x:=.tup []) (f:=fun r=>.tup []) (fd:=fun r=>[(p1,.cells [.sl .no 2 (r.2.t.Records.map TrayRecord.cells),.i r.2.t.At,.i r.2.t.Way,.i r.2.t.Step,.sl .no 2 (r.2.t.Presses.map TrayPress.cells),.sl .no 2 (r.2.queue.map TrayPress.cells),.ms w10 0 1 (2*r.2.t.Records.length) (2*r.2.t.Records.length),.i r.2.now,.i r.2.at_.At,.i r.2.at_.Way,.i r.2.at_.Side,.sl (.id w11) 4 (r.2.run.spells.map Spell_.cells),.sl (.id w12) 2 (r.2.run.plays.map TrayPlay.cells),.i r.2.run.steps,.i r.2.run.end_]),(w10,.cells (r.2.pins.map cB).flatten),(w11,.row 160 r.2.run.spells.length),(w12,.row 71 r.2.run.plays.length)]) (.inl rfl) ?_ (.refl _) (Option.some.inj hM) hS 0 rfl
  exact rfl
 ·refine Sq ?_
  have hS0:=hS
  refine zd1 (n:=12) rfl (by kernel_rfl) ?_
  refine Om (.ptr p1 0) ?_
  refine zbT (by decide) rfl ?_
  refine zag (by decide) zew rfl ?_
  refine zag (by decide) ziJ rfl ?_
  refine zaG (v:=.i st.at_.At) 0 hS (by decide) rfl rfl (.st hS0 0 rfl (by omega)) (po zaf zap) ?_
  refine Om (.ptr p1 0) ?_
  refine zbT (by decide) rfl ?_
  refine zag (by decide) zew rfl ?_
  refine zag (by decide) zhB rfl ?_
  refine zaG (v:=.i st.at_.Way) 0 hS (by decide) rfl rfl (.st hS0 0 rfl (by omega)) (po zaf zap) ?_
  refine Oi (.i (w64 (st.at_.At+st.at_.Way))) ?_
  refine Oa (.i (w64 (st.at_.At+st.at_.Way))) ?_
  refine Ni ?_
  refine Ws ?_
  refine zaO (J:=Bool) (fun j=>[(0,.ptr p1 0),(2,.i (w64 (st.at_.At+st.at_.Way))),(25,.b j)]) (fun j H' g'=>St (fun i=>i<g/\i∉ids [(p1,.cells [.sl .no 2 (st.t.Records.map TrayRecord.cells),.i st.t.At,.i st.t.Way,.i st.t.Step,.sl .no 2 (st.t.Presses.map TrayPress.cells),.sl .no 2 (st.queue.map TrayPress.cells),.ms w10 0 1 (2*st.t.Records.length) (2*st.t.Records.length),.i st.now,.i st.at_.At,.i st.at_.Way,.i st.at_.Side,.sl (.id w11) 4 (st.run.spells.map Spell_.cells),.sl (.id w12) 2 (st.run.plays.map TrayPlay.cells),.i st.run.steps,.i st.run.end_]),(w10,.cells (st.pins.map cB).flatten),(w11,.row 160 st.run.spells.length),(w12,.row 71 st.run.plays.length)]) H0 [(p1,.cells [.sl .no 2 (st.t.Records.map TrayRecord.cells),.i st.t.At,.i st.t.Way,.i st.t.Step,.sl .no 2 (st.t.Presses.map TrayPress.cells),.sl .no 2 (st.queue.map TrayPress.cells),.ms w10 0 1 (2*st.t.Records.length) (2*st.t.Records.length),.i st.now,.i st.at_.At,.i st.at_.Way,.i st.at_.Side,.sl (.id w11) 4 (st.run.spells.map Spell_.cells),.sl (.id w12) 2 (st.run.plays.map TrayPlay.cells),.i st.run.steps,.i st.run.end_]),(w10,.cells (st.pins.map cB).flatten),(w11,.row 160 st.run.spells.length),(w12,.row 71 st.run.plays.length)] H' g'/\zbk st j=some r) ?_ ?_
  ·rintro v6 H g2 ⟨hS,hM⟩
   change wpA _ _ _ _ (Fr.of [(0,.ptr p1 0),(2,.i (w64 (st.at_.At+st.at_.Way))),(25,.b v6)]) _ _
   replace hS:St (fun i=>i<g/\i∉ids [(p1,.cells [.sl .no 2 (st.t.Records.map TrayRecord.cells),.i st.t.At,.i st.t.Way,.i st.t.Step,.sl .no 2 (st.t.Presses.map TrayPress.cells),.sl .no 2 (st.queue.map TrayPress.cells),.ms w10 0 1 (2*st.t.Records.length) (2*st.t.Records.length),.i st.now,.i st.at_.At,.i st.at_.Way,.i st.at_.Side,.sl (.id w11) 4 (st.run.spells.map Spell_.cells),.sl (.id w12) 2 (st.run.plays.map TrayPlay.cells),.i st.run.steps,.i st.run.end_]),(w10,.cells (st.pins.map cB).flatten),(w11,.row 160 st.run.spells.length),(w12,.row 71 st.run.plays.length)]) H0 [(p1,.cells [.sl .no 2 (st.t.Records.map TrayRecord.cells),.i st.t.At,.i st.t.Way,.i st.t.Step,.sl .no 2 (st.t.Presses.map TrayPress.cells),.sl .no 2 (st.queue.map TrayPress.cells),.ms w10 0 1 (2*st.t.Records.length) (2*st.t.Records.length),.i st.now,.i st.at_.At,.i st.at_.Way,.i st.at_.Side,.sl (.id w11) 4 (st.run.spells.map Spell_.cells),.sl (.id w12) 2 (st.run.plays.map TrayPlay.cells),.i st.run.steps,.i st.run.end_]),(w10,.cells (st.pins.map cB).flatten),(w11,.row 160 st.run.spells.length),(w12,.row 71 st.run.plays.length)] H g2:=hS
   replace hM:zbk st v6=some r:=hM
   rcases bft v6 with hb7 | hb7
   ·replace hM:=ifT hM hb7
    refine Ct hb7 ?_
    refine Sq ?_
    refine Rg 6 ?_
    refine Om (.ptr p1 0) ?_
    refine Om (.i (w64 (st.at_.At+st.at_.Way))) ?_
    refine zbT (by decide) rfl ?_
    refine zag (by decide) zew rfl ?_
    refine zag (by decide) ziJ rfl ?_
    refine zaM (v:=.i (w64 (st.at_.At+st.at_.Way))) (ns:=[.i (w64 (st.at_.At+st.at_.Way))]) (L':=[(p1,.cells [.sl .no 2 (st.t.Records.map TrayRecord.cells),.i st.t.At,.i st.t.Way,.i st.t.Step,.sl .no 2 (st.t.Presses.map TrayPress.cells),.sl .no 2 (st.queue.map TrayPress.cells),.ms w10 0 1 (2*st.t.Records.length) (2*st.t.Records.length),.i st.now,.i (w64 (st.at_.At+st.at_.Way)),.i st.at_.Way,.i st.at_.Side,.sl (.id w11) 4 (st.run.spells.map Spell_.cells),.sl (.id w12) 2 (st.run.plays.map TrayPlay.cells),.i st.run.steps,.i st.run.end_]),(w10,.cells (st.pins.map cB).flatten),(w11,.row 160 st.run.spells.length),(w12,.row 71 st.run.plays.length)]) 0 hS rfl rfl .no rfl rfl zeY nlb rfl fun H hS=>?_
    refine Ni ?_
    refine Ws ?_
    refine Sq ?_
    have hS0:=hS
    refine zd1 (n:=13) rfl (by kernel_rfl) ?_
    refine Om (.ptr p1 0) ?_
    refine zbT (by decide) rfl ?_
    refine zag (by decide) zev rfl ?_
    refine zaG (v:=.i st.now) 0 hS (by decide) rfl rfl (.st hS0 0 rfl (by omega)) (po zaf zap) ?_
    refine Om (.ptr p1 0) ?_
    refine zbT (by decide) rfl ?_
    refine zag (by decide) ziK rfl ?_
    refine zag (by decide) zf4 rfl ?_
    refine zaG (v:=.i st.t.Step) 0 hS (by decide) rfl rfl (.st hS0 0 rfl (by omega)) (po zaf zap) ?_
    refine Oi (.i (w64 (st.now+st.t.Step))) ?_
    refine zbT (by decide) rfl ?_
    refine zag (by decide) zev rfl ?_
    refine zaM (v:=.i (w64 (st.now+st.t.Step))) (ns:=[.i (w64 (st.now+st.t.Step))]) (L':=[(p1,.cells [.sl .no 2 (st.t.Records.map TrayRecord.cells),.i st.t.At,.i st.t.Way,.i st.t.Step,.sl .no 2 (st.t.Presses.map TrayPress.cells),.sl .no 2 (st.queue.map TrayPress.cells),.ms w10 0 1 (2*st.t.Records.length) (2*st.t.Records.length),.i (w64 (st.now+st.t.Step)),.i (w64 (st.at_.At+st.at_.Way)),.i st.at_.Way,.i st.at_.Side,.sl (.id w11) 4 (st.run.spells.map Spell_.cells),.sl (.id w12) 2 (st.run.plays.map TrayPlay.cells),.i st.run.steps,.i st.run.end_]),(w10,.cells (st.pins.map cB).flatten),(w11,.row 160 st.run.spells.length),(w12,.row 71 st.run.plays.length)]) 0 hS rfl rfl (.st hS0 0 rfl (by omega)) rfl rfl zeY nlb rfl fun H hS=>?_
    refine Ni ?_
    refine Ws ?_
    refine Rg 10 ?_
    refine Om (.ptr p1 0) ?_
    refine zbT (by decide) rfl ?_
    refine zag (by decide) zex rfl ?_
    refine zag (by decide) zkv rfl ?_
    refine zaG (v:=.i st.run.steps) 0 hS (by decide) rfl rfl .no (po zaf zap) ?_
    refine Oi (.i (w64 (st.run.steps+1))) ?_
    refine zbT (by decide) rfl ?_
    refine zag (by decide) zex rfl ?_
    refine zag (by decide) zkv rfl ?_
    refine zaM (v:=.i (w64 (st.run.steps+1))) (ns:=[.i (w64 (st.run.steps+1))]) (L':=[(p1,.cells [.sl .no 2 (st.t.Records.map TrayRecord.cells),.i st.t.At,.i st.t.Way,.i st.t.Step,.sl .no 2 (st.t.Presses.map TrayPress.cells),.sl .no 2 (st.queue.map TrayPress.cells),.ms w10 0 1 (2*st.t.Records.length) (2*st.t.Records.length),.i (w64 (st.now+st.t.Step)),.i (w64 (st.at_.At+st.at_.Way)),.i st.at_.Way,.i st.at_.Side,.sl (.id w11) 4 (st.run.spells.map Spell_.cells),.sl (.id w12) 2 (st.run.plays.map TrayPlay.cells),.i (w64 (st.run.steps+1)),.i st.run.end_]),(w10,.cells (st.pins.map cB).flatten),(w11,.row 160 st.run.spells.length),(w12,.row 71 st.run.plays.length)]) 0 hS rfl rfl .no rfl rfl zeY nlb rfl fun H hS=>?_
    refine Ni ?_
    exact zak (w64 (st.now+st.t.Step),w64 (st.at_.At+st.at_.Way),st.at_.Way,w64 (st.run.steps+1)) (.k .nil) ⟨(hS.keep [true,true,true,true] rfl).up (by omega),hM⟩
   ·replace hM:=ifF hM hb7
    refine Cf hb7 ?_
    refine Rg 11 ?_
    refine Om (.ptr p1 0) ?_
    refine Om (.ptr p1 0) ?_
    refine zbT (by decide) rfl ?_
    refine zag (by decide) zew rfl ?_
    refine zag (by decide) zhB rfl ?_
    refine zaG (v:=.i st.at_.Way) 0 hS (by decide) rfl rfl .no (po zaf zap) ?_
    refine zvG (n:=st.at_.Way) (by decide) rfl ?_
    refine zbT (by decide) rfl ?_
    refine zag (by decide) zew rfl ?_
    refine zag (by decide) zhB rfl ?_
    refine zaM (v:=.i (w64 (0-st.at_.Way))) (ns:=[.i (w64 (0-st.at_.Way))]) (L':=[(p1,.cells [.sl .no 2 (st.t.Records.map TrayRecord.cells),.i st.t.At,.i st.t.Way,.i st.t.Step,.sl .no 2 (st.t.Presses.map TrayPress.cells),.sl .no 2 (st.queue.map TrayPress.cells),.ms w10 0 1 (2*st.t.Records.length) (2*st.t.Records.length),.i st.now,.i st.at_.At,.i (w64 (0-st.at_.Way)),.i st.at_.Side,.sl (.id w11) 4 (st.run.spells.map Spell_.cells),.sl (.id w12) 2 (st.run.plays.map TrayPlay.cells),.i st.run.steps,.i st.run.end_]),(w10,.cells (st.pins.map cB).flatten),(w11,.row 160 st.run.spells.length),(w12,.row 71 st.run.plays.length)]) 0 hS rfl rfl .no rfl rfl zeY nlb rfl fun H hS=>?_
    refine Ni ?_
    exact zak (st.now,st.at_.At,w64 (0-st.at_.Way),st.run.steps) (.k .nil) ⟨(hS.keep [true,true,true,true] rfl).up (by omega),hM⟩
  ·refine Rg 12 ?_
   refine Om (.i (w64 (st.at_.At+st.at_.Way))) ?_
   refine Oi (.b (decide ((w64 (st.at_.At+st.at_.Way))≥0))) ?_
   refine Om (.b (decide ((w64 (st.at_.At+st.at_.Way))≥0))) ?_
   rcases bft (decide ((w64 (st.at_.At+st.at_.Way))≥0)) with hb8 | hb8
   ·replace hM:=ifT hM hb8
    refine Oy (want:=true) hb8 ?_
    refine Om (.i (w64 (st.at_.At+st.at_.Way))) ?_
    refine Oy (want:=true) hb8 ?_
    refine Om (.ptr p1 0) ?_
    refine Oy (want:=true) hb8 ?_
    refine zbT (by decide) rfl ?_
    refine Oy (want:=true) hb8 ?_
    refine zag (by decide) ziK rfl ?_
    refine Oy (want:=true) hb8 ?_
    refine zag (by decide) zbY rfl ?_
    refine Oy (want:=true) hb8 ?_
    refine zaG (v:=.sl .no 2 (st.t.Records.map TrayRecord.cells)) 0 hS (by decide) rfl rfl .no (po zcP zdB) ?_
    refine Oy (want:=true) hb8 ?_
    refine zcg (n:=st.t.Records.length) (by decide) rfl (List.length_map _) zdM ?_
    refine Oy (want:=true) hb8 ?_
    refine Oi (.b (decide ((w64 (st.at_.At+st.at_.Way))<(st.t.Records.length:Int)))) ?_
    refine Pt (.b (decide ((w64 (st.at_.At+st.at_.Way))<(st.t.Records.length:Int)))) hb8 ?_
    refine Ni ?_
    exact zak (decide ((w64 (st.at_.At+st.at_.Way))<(st.t.Records.length:Int))) (.k (.k (.k .nil))) ⟨(hS.keep [true,true,true,true] rfl).up (by omega),hM⟩
   ·replace hM:=ifF hM hb8
    refine On (want:=true) hb8 ?_
    refine On (want:=true) hb8 ?_
    refine On (want:=true) hb8 ?_
    refine On (want:=true) hb8 ?_
    refine On (want:=true) hb8 ?_
    refine On (want:=true) hb8 ?_
    refine On (want:=true) hb8 ?_
    refine On (want:=true) hb8 ?_
    refine Pf (.b false) hb8 ?_
    refine Ni ?_
    exact zak false (.k (.k (.k .nil))) ⟨(hS.keep [true,true,true,true] rfl).up (by omega),hM⟩
theorem zf5 {p1 w10 w11 w12:Nat} (hnd:[p1,w10,w11,w12].Nodup) {n:Nat} {st:Carriage_} {r:Bool×Carriage_} (hM:zcz n st=some r):zgT Try.prog 70 [.ptr p1 0] [(p1,.cells [.sl .no 2 (st.t.Records.map TrayRecord.cells),.i st.t.At,.i st.t.Way,.i st.t.Step,.sl .no 2 (st.t.Presses.map TrayPress.cells),.sl .no 2 (st.queue.map TrayPress.cells),.ms w10 0 1 (2*st.t.Records.length) (2*st.t.Records.length),.i st.now,.i st.at_.At,.i st.at_.Way,.i st.at_.Side,.sl (.id w11) 4 (st.run.spells.map Spell_.cells),.sl (.id w12) 2 (st.run.plays.map TrayPlay.cells),.i st.run.steps,.i st.run.end_]),(w10,.cells (st.pins.map cB).flatten),(w11,.row 160 st.run.spells.length),(w12,.row 71 st.run.plays.length)] (.b r.1) [(p1,.cells [.sl .no 2 (r.2.t.Records.map TrayRecord.cells),.i r.2.t.At,.i r.2.t.Way,.i r.2.t.Step,.sl .no 2 (r.2.t.Presses.map TrayPress.cells),.sl .no 2 (r.2.queue.map TrayPress.cells),.ms w10 0 1 (2*r.2.t.Records.length) (2*r.2.t.Records.length),.i r.2.now,.i r.2.at_.At,.i r.2.at_.Way,.i r.2.at_.Side,.sl (.id w11) 4 (r.2.run.spells.map Spell_.cells),.sl (.id w12) 2 (r.2.run.plays.map TrayPlay.cells),.i r.2.run.steps,.i r.2.run.end_]),(w10,.cells (r.2.pins.map cB).flatten),(w11,.row 160 r.2.run.spells.length),(w12,.row 71 r.2.run.plays.length)]:=by
 refine zbx mixed Try.func70 rfl (by decide) Try.ntmps70 (by simp) (zbp (zbp (zgQ (zgQ zeF)))) hnd ?pure ?cells fun H0 g hf_ hp=>?_
 case pure=>exact fun H _=>(show Go.AM.Pure _ from .v _).inH
 case cells=>exact (zff (zby (zad (.inl (.inl (.sl _ _ (zav (fun x=>(zac (.v _) (zac (.v _) zaE))))))) (zad (.inl (.inl (.v _))) (zad (.inl (.inl (.v _))) (zad (.inl (.inl (.v _))) (zad (.inl (.inl (.sl _ _ (zav (fun x=>(zac (.v _) (zac (.v _) zaE))))))) (zad (.inl (.inl (.sl _ _ (zav (fun x=>(zac (.v _) (zac (.v _) zaE))))))) (zad (.inr (.inr ⟨_,_,_,_,_,_,rfl,(List.mem_of_getElem? (i:=1) rfl)⟩)) (zad (.inl (.inl (.v _))) (zad (.inl (.inl (.v _))) (zad (.inl (.inl (.v _))) (zad (.inl (.inl (.v _))) (zad (.inl (.inr ⟨_,_,_,_,_,rfl,(List.mem_of_getElem? (i:=2) rfl),zav (fun x=>(zac (.v _) (zac (.v _) (zac (.v _) (zac (.v _) zaE)))))⟩)) (zad (.inl (.inr ⟨_,_,_,_,_,rfl,(List.mem_of_getElem? (i:=3) rfl),zav (fun x=>(zac (.v _) (zac (.v _) zaE)))⟩)) (zad (.inl (.inl (.v _))) (zad (.inl (.inl (.v _))) zeE))))))))))))))) (zby (zhV (fun x=>(zac (.v _) zaE))) (zhb (zhb zfe)))) ze2)
 rw [zan]
 change wpA _ _ _ _ (Fr.of [(0,.ptr p1 0)]) H0 g
 have hS:=St.startH (L:=[(p1,.cells [.sl .no 2 (st.t.Records.map TrayRecord.cells),.i st.t.At,.i st.t.Way,.i st.t.Step,.sl .no 2 (st.t.Presses.map TrayPress.cells),.sl .no 2 (st.queue.map TrayPress.cells),.ms w10 0 1 (2*st.t.Records.length) (2*st.t.Records.length),.i st.now,.i st.at_.At,.i st.at_.Way,.i st.at_.Side,.sl (.id w11) 4 (st.run.spells.map Spell_.cells),.sl (.id w12) 2 (st.run.plays.map TrayPlay.cells),.i st.run.steps,.i st.run.end_]),(w10,.cells (st.pins.map cB).flatten),(w11,.row 160 st.run.spells.length),(w12,.row 71 st.run.plays.length)]) hf_ hnd hp
 replace hS:St (fun i=>i<g/\i∉ids [(p1,.cells [.sl .no 2 (st.t.Records.map TrayRecord.cells),.i st.t.At,.i st.t.Way,.i st.t.Step,.sl .no 2 (st.t.Presses.map TrayPress.cells),.sl .no 2 (st.queue.map TrayPress.cells),.ms w10 0 1 (2*st.t.Records.length) (2*st.t.Records.length),.i st.now,.i st.at_.At,.i st.at_.Way,.i st.at_.Side,.sl (.id w11) 4 (st.run.spells.map Spell_.cells),.sl (.id w12) 2 (st.run.plays.map TrayPlay.cells),.i st.run.steps,.i st.run.end_]),(w10,.cells (st.pins.map cB).flatten),(w11,.row 160 st.run.spells.length),(w12,.row 71 st.run.plays.length)]) H0 [(p1,.cells [.sl .no 2 (st.t.Records.map TrayRecord.cells),.i st.t.At,.i st.t.Way,.i st.t.Step,.sl .no 2 (st.t.Presses.map TrayPress.cells),.sl .no 2 (st.queue.map TrayPress.cells),.ms w10 0 1 (2*st.t.Records.length) (2*st.t.Records.length),.i st.now,.i st.at_.At,.i st.at_.Way,.i st.at_.Side,.sl (.id w11) 4 (st.run.spells.map Spell_.cells),.sl (.id w12) 2 (st.run.plays.map TrayPlay.cells),.i st.run.steps,.i st.run.end_]),(w10,.cells (st.pins.map cB).flatten),(w11,.row 160 st.run.spells.length),(w12,.row 71 st.run.plays.length)] H0 g:=hS
 refine Sq ?_
 refine Rg 1 ?_
 refine Oa (.b false) ?_
 refine Ni ?_
 refine Ws ?_
 refine Sq ?_
 refine Rg 2 ?_
 refine Om (.ptr p1 0) ?_
 obtain ⟨r1,hr1,hM⟩:=zas hM
 have hndr1:=hS.nd_at (ns:=[0,1,2,3]) (M:=[(p1,.cells [.sl .no 2 (st.t.Records.map TrayRecord.cells),.i st.t.At,.i st.t.Way,.i st.t.Step,.sl .no 2 (st.t.Presses.map TrayPress.cells),.sl .no 2 (st.queue.map TrayPress.cells),.ms w10 0 1 (2*st.t.Records.length) (2*st.t.Records.length),.i st.now,.i st.at_.At,.i st.at_.Way,.i st.at_.Side,.sl (.id w11) 4 (st.run.spells.map Spell_.cells),.sl (.id w12) 2 (st.run.plays.map TrayPlay.cells),.i st.run.steps,.i st.run.end_]),(w10,.cells (st.pins.map cB).flatten),(w11,.row 160 st.run.spells.length),(w12,.row 71 st.run.plays.length)]) (M':=[(p1,.cells [.sl .no 2 (r1.2.t.Records.map TrayRecord.cells),.i r1.2.t.At,.i r1.2.t.Way,.i r1.2.t.Step,.sl .no 2 (r1.2.t.Presses.map TrayPress.cells),.sl .no 2 (r1.2.queue.map TrayPress.cells),.ms w10 0 1 (2*r1.2.t.Records.length) (2*r1.2.t.Records.length),.i r1.2.now,.i r1.2.at_.At,.i r1.2.at_.Way,.i r1.2.at_.Side,.sl (.id w11) 4 (r1.2.run.spells.map Spell_.cells),.sl (.id w12) 2 (r1.2.run.plays.map TrayPlay.cells),.i r1.2.run.steps,.i r1.2.run.end_]),(w10,.cells (r1.2.pins.map cB).flatten),(w11,.row 160 r1.2.run.spells.length),(w12,.row 71 r1.2.run.plays.length)]) (.cons rfl (.cons rfl (.cons rfl (.cons rfl .nil)))) (by decide)
 refine zfx (bs:=[.ptr p1 0]) (M:=[(p1,.cells [.sl .no 2 (st.t.Records.map TrayRecord.cells),.i st.t.At,.i st.t.Way,.i st.t.Step,.sl .no 2 (st.t.Presses.map TrayPress.cells),.sl .no 2 (st.queue.map TrayPress.cells),.ms w10 0 1 (2*st.t.Records.length) (2*st.t.Records.length),.i st.now,.i st.at_.At,.i st.at_.Way,.i st.at_.Side,.sl (.id w11) 4 (st.run.spells.map Spell_.cells),.sl (.id w12) 2 (st.run.plays.map TrayPlay.cells),.i st.run.steps,.i st.run.end_]),(w10,.cells (st.pins.map cB).flatten),(w11,.row 160 st.run.spells.length),(w12,.row 71 st.run.plays.length)]) (M':=[(p1,.cells [.sl .no 2 (r1.2.t.Records.map TrayRecord.cells),.i r1.2.t.At,.i r1.2.t.Way,.i r1.2.t.Step,.sl .no 2 (r1.2.t.Presses.map TrayPress.cells),.sl .no 2 (r1.2.queue.map TrayPress.cells),.ms w10 0 1 (2*r1.2.t.Records.length) (2*r1.2.t.Records.length),.i r1.2.now,.i r1.2.at_.At,.i r1.2.at_.Way,.i r1.2.at_.Side,.sl (.id w11) 4 (r1.2.run.spells.map Spell_.cells),.sl (.id w12) 2 (r1.2.run.plays.map TrayPlay.cells),.i r1.2.run.steps,.i r1.2.run.end_]),(w10,.cells (r1.2.pins.map cB).flatten),(w11,.row 160 r1.2.run.spells.length),(w12,.row 71 r1.2.run.plays.length)]) (L':=[(p1,.cells [.sl .no 2 (r1.2.t.Records.map TrayRecord.cells),.i r1.2.t.At,.i r1.2.t.Way,.i r1.2.t.Step,.sl .no 2 (r1.2.t.Presses.map TrayPress.cells),.sl .no 2 (r1.2.queue.map TrayPress.cells),.ms w10 0 1 (2*r1.2.t.Records.length) (2*r1.2.t.Records.length),.i r1.2.now,.i r1.2.at_.At,.i r1.2.at_.Way,.i r1.2.at_.Side,.sl (.id w11) 4 (r1.2.run.spells.map Spell_.cells),.sl (.id w12) 2 (r1.2.run.plays.map TrayPlay.cells),.i r1.2.run.steps,.i r1.2.run.end_]),(w10,.cells (r1.2.pins.map cB).flatten),(w11,.row 160 r1.2.run.spells.length),(w12,.row 71 r1.2.run.plays.length)]) [0,1,2,3] (.inl rfl) hS (by decide) rfl rfl ((zhk (p1:=p1) (w10:=w10) (w11:=w11) (w12:=w12) hndr1 hr1).le (.k .nil)) (.cons rfl (.cons rfl (.cons rfl (.cons rfl .nil)))) rfl (by omega) fun H hS=>?_
 refine Ni ?_
 refine Ws ?_
 refine Sq ?_
 refine Sq ?_
 refine Rg 6 ?_
 refine Om (.ptr p1 0) ?_
 refine zbT (by decide) rfl ?_
 refine zag (by decide) zhC rfl ?_
 refine zaG (v:=.ms w10 0 1 (2*r1.2.t.Records.length) (2*r1.2.t.Records.length)) 0 hS (by decide) rfl rfl .no (po zii zi9) ?_
 obtain ⟨x2,hx2,hM⟩:=zas hM
 obtain ⟨r3,hr3,hM⟩:=zas hM
 refine zrB (k:=1) (m:=(2*r1.2.t.Records.length)) (es:=r1.2.pins.map cB) (bs:=[.b true]) 1 hS (by decide) (zmW hx2) rfl rfl rfl ((zgV hr3).le (.k (.k .nil))) (zac (.v _) zaE) (by decide) (zmU (fun _=>rfl)) (zmT (fun x=>(zhT zmS))) (by omega) ?_
 refine zdW (e:=r3) (by decide) rfl ?_
 refine Ni ?_
 refine Ws ?_
 rcases bft (!r3) with hb4 | hb4
 ·replace hM:=ifT hM hb4
  refine Ct hb4 ?_
  refine Sq ?_
  refine Sq ?_
  refine Rg 6 ?_
  refine Om (.ptr p1 0) ?_
  refine zbT (by decide) rfl ?_
  refine zag (by decide) zeu rfl ?_
  refine zaG (v:=.sl .no 2 (r1.2.queue.map TrayPress.cells)) 0 hS (by decide) rfl rfl .no (po zcW zdN) ?_
  refine zcg (n:=r1.2.queue.length) (by decide) rfl (List.length_map _) zfa ?_
  refine Oi (.b ((r1.2.queue.length:Int)==0)) ?_
  refine Ni ?_
  refine Ws ?_
  rcases bft ((r1.2.queue.length:Int)==0) with hb5 | hb5
  ·replace hM:=ifT hM hb5
   refine Ct hb5 ?_
   refine Sq ?_
   refine Rg 1 ?_
   refine Oa (.b false) ?_
   refine Ni ?_
   refine Ws ?_
   refine zaQ ?_
   refine zaq ?_
   refine zaq ?_
   refine zdg (x:=.b false) (f:=fun r=>.b r.1) (fd:=fun r=>[(p1,.cells [.sl .no 2 (r.2.t.Records.map TrayRecord.cells),.i r.2.t.At,.i r.2.t.Way,.i r.2.t.Step,.sl .no 2 (r.2.t.Presses.map TrayPress.cells),.sl .no 2 (r.2.queue.map TrayPress.cells),.ms w10 0 1 (2*r.2.t.Records.length) (2*r.2.t.Records.length),.i r.2.now,.i r.2.at_.At,.i r.2.at_.Way,.i r.2.at_.Side,.sl (.id w11) 4 (r.2.run.spells.map Spell_.cells),.sl (.id w12) 2 (r.2.run.plays.map TrayPlay.cells),.i r.2.run.steps,.i r.2.run.end_]),(w10,.cells (r.2.pins.map cB).flatten),(w11,.row 160 r.2.run.spells.length),(w12,.row 71 r.2.run.plays.length)]) (.inr rfl) ?_ (.refl _) (Option.some.inj hM) hS 0 rfl
   exact (zaw (zai (x:=.b false) rfl))
  ·replace hM:=ifF hM hb5
   refine Cf hb5 ?_
   refine zaC ?_
   refine Ws ?_
   refine Sq ?_
   refine Rg 11 ?_
   refine Om (.ptr p1 0) ?_
   refine Om (.ptr p1 0) ?_
   refine zbT (by decide) rfl ?_
   refine zag (by decide) zeu rfl ?_
   refine zaG (v:=.sl .no 2 (r1.2.queue.map TrayPress.cells)) 0 hS (by decide) rfl rfl .no (po zcW zdN) ?_
   obtain ⟨x6,hx6,hM⟩:=zas hM
   refine zbu (xs:=r1.2.queue) (f:=TrayPress.cells) (z:=0) (u:=x6) (by decide) rfl rfl zdO hx6 ?_
   refine Of ([.i x6.Side,.i x6.Time]) zgw ?_
   refine Olp (.i x6.Time) zaf zap ?_
   refine zbT (by decide) rfl ?_
   refine zag (by decide) zev rfl ?_
   refine zaM (v:=.i x6.Time) (ns:=[.i x6.Time]) (L':=[(p1,.cells [.sl .no 2 (r1.2.t.Records.map TrayRecord.cells),.i r1.2.t.At,.i r1.2.t.Way,.i r1.2.t.Step,.sl .no 2 (r1.2.t.Presses.map TrayPress.cells),.sl .no 2 (r1.2.queue.map TrayPress.cells),.ms w10 0 1 (2*r1.2.t.Records.length) (2*r1.2.t.Records.length),.i x6.Time,.i r1.2.at_.At,.i r1.2.at_.Way,.i r1.2.at_.Side,.sl (.id w11) 4 (r1.2.run.spells.map Spell_.cells),.sl (.id w12) 2 (r1.2.run.plays.map TrayPlay.cells),.i r1.2.run.steps,.i r1.2.run.end_]),(w10,.cells (r1.2.pins.map cB).flatten),(w11,.row 160 r1.2.run.spells.length),(w12,.row 71 r1.2.run.plays.length)]) 0 hS rfl rfl .no rfl rfl zeY nlb rfl fun H hS=>?_
   refine Ni ?_
   refine Ws ?_
   refine Sq ?_
   refine Rg 1 ?_
   refine Oa (.b true) ?_
   refine Ni ?_
   refine Ws ?_
   refine zaQ ?_
   refine zaq ?_
   refine zdg (x:=.b true) (f:=fun r=>.b r.1) (fd:=fun r=>[(p1,.cells [.sl .no 2 (r.2.t.Records.map TrayRecord.cells),.i r.2.t.At,.i r.2.t.Way,.i r.2.t.Step,.sl .no 2 (r.2.t.Presses.map TrayPress.cells),.sl .no 2 (r.2.queue.map TrayPress.cells),.ms w10 0 1 (2*r.2.t.Records.length) (2*r.2.t.Records.length),.i r.2.now,.i r.2.at_.At,.i r.2.at_.Way,.i r.2.at_.Side,.sl (.id w11) 4 (r.2.run.spells.map Spell_.cells),.sl (.id w12) 2 (r.2.run.plays.map TrayPlay.cells),.i r.2.run.steps,.i r.2.run.end_]),(w10,.cells (r.2.pins.map cB).flatten),(w11,.row 160 r.2.run.spells.length),(w12,.row 71 r.2.run.plays.length)]) (.inr rfl) ?_ (.refl _) (Option.some.inj hM) hS 0 rfl
   exact (zaw (zai (x:=.b true) rfl))
 ·replace hM:=ifF hM hb4
  refine Cf hb4 ?_
  refine zaC ?_
  refine Ws ?_
  refine Sq ?_
  refine Rg 7 ?_
  refine Om (.ptr p1 0) ?_
  refine zbT (by decide) rfl ?_
  refine zag (by decide) zew rfl ?_
  refine zag (by decide) ziJ rfl ?_
  refine zaG (v:=.i r1.2.at_.At) 0 hS (by decide) rfl rfl .no (po zaf zap) ?_
  refine Oi (.i (w64 (2*r1.2.at_.At))) ?_
  refine Oa (.i (w64 (2*r1.2.at_.At))) ?_
  refine Ni ?_
  refine Ws ?_
  refine zaO (J:=Int) (fun j=>[(0,.ptr p1 0),(3,.i j)]) (fun j H' g'=>St (fun i=>i<g/\i∉ids [(p1,.cells [.sl .no 2 (st.t.Records.map TrayRecord.cells),.i st.t.At,.i st.t.Way,.i st.t.Step,.sl .no 2 (st.t.Presses.map TrayPress.cells),.sl .no 2 (st.queue.map TrayPress.cells),.ms w10 0 1 (2*st.t.Records.length) (2*st.t.Records.length),.i st.now,.i st.at_.At,.i st.at_.Way,.i st.at_.Side,.sl (.id w11) 4 (st.run.spells.map Spell_.cells),.sl (.id w12) 2 (st.run.plays.map TrayPlay.cells),.i st.run.steps,.i st.run.end_]),(w10,.cells (st.pins.map cB).flatten),(w11,.row 160 st.run.spells.length),(w12,.row 71 st.run.plays.length)]) H0 [(p1,.cells [.sl .no 2 (r1.2.t.Records.map TrayRecord.cells),.i r1.2.t.At,.i r1.2.t.Way,.i r1.2.t.Step,.sl .no 2 (r1.2.t.Presses.map TrayPress.cells),.sl .no 2 (r1.2.queue.map TrayPress.cells),.ms w10 0 1 (2*r1.2.t.Records.length) (2*r1.2.t.Records.length),.i r1.2.now,.i r1.2.at_.At,.i r1.2.at_.Way,.i r1.2.at_.Side,.sl (.id w11) 4 (r1.2.run.spells.map Spell_.cells),.sl (.id w12) 2 (r1.2.run.plays.map TrayPlay.cells),.i r1.2.run.steps,.i r1.2.run.end_]),(w10,.cells (r1.2.pins.map cB).flatten),(w11,.row 160 r1.2.run.spells.length),(w12,.row 71 r1.2.run.plays.length)] H' g'/\zcn r1 j=some r) ?_ ?_
  ·rintro v7 H g1 ⟨hS,hM⟩
   change wpA _ _ _ _ (Fr.of [(0,.ptr p1 0),(3,.i v7)]) _ _
   replace hS:St (fun i=>i<g/\i∉ids [(p1,.cells [.sl .no 2 (st.t.Records.map TrayRecord.cells),.i st.t.At,.i st.t.Way,.i st.t.Step,.sl .no 2 (st.t.Presses.map TrayPress.cells),.sl .no 2 (st.queue.map TrayPress.cells),.ms w10 0 1 (2*st.t.Records.length) (2*st.t.Records.length),.i st.now,.i st.at_.At,.i st.at_.Way,.i st.at_.Side,.sl (.id w11) 4 (st.run.spells.map Spell_.cells),.sl (.id w12) 2 (st.run.plays.map TrayPlay.cells),.i st.run.steps,.i st.run.end_]),(w10,.cells (st.pins.map cB).flatten),(w11,.row 160 st.run.spells.length),(w12,.row 71 st.run.plays.length)]) H0 [(p1,.cells [.sl .no 2 (r1.2.t.Records.map TrayRecord.cells),.i r1.2.t.At,.i r1.2.t.Way,.i r1.2.t.Step,.sl .no 2 (r1.2.t.Presses.map TrayPress.cells),.sl .no 2 (r1.2.queue.map TrayPress.cells),.ms w10 0 1 (2*r1.2.t.Records.length) (2*r1.2.t.Records.length),.i r1.2.now,.i r1.2.at_.At,.i r1.2.at_.Way,.i r1.2.at_.Side,.sl (.id w11) 4 (r1.2.run.spells.map Spell_.cells),.sl (.id w12) 2 (r1.2.run.plays.map TrayPlay.cells),.i r1.2.run.steps,.i r1.2.run.end_]),(w10,.cells (r1.2.pins.map cB).flatten),(w11,.row 160 r1.2.run.spells.length),(w12,.row 71 r1.2.run.plays.length)] H g1:=hS
   replace hM:zcn r1 v7=some r:=hM
   refine zaO (J:=(List TrayRecord)×Int×Int×Int×(List TrayPress)×(List TrayPress)×Int×Int×Int×Int×(List Spell_)×(List TrayPlay)×Int×Int×(List Bool)) (fun j=>[(0,.ptr p1 0)]) (fun j H' g'=>St (fun i=>i<g/\i∉ids [(p1,.cells [.sl .no 2 (st.t.Records.map TrayRecord.cells),.i st.t.At,.i st.t.Way,.i st.t.Step,.sl .no 2 (st.t.Presses.map TrayPress.cells),.sl .no 2 (st.queue.map TrayPress.cells),.ms w10 0 1 (2*st.t.Records.length) (2*st.t.Records.length),.i st.now,.i st.at_.At,.i st.at_.Way,.i st.at_.Side,.sl (.id w11) 4 (st.run.spells.map Spell_.cells),.sl (.id w12) 2 (st.run.plays.map TrayPlay.cells),.i st.run.steps,.i st.run.end_]),(w10,.cells (st.pins.map cB).flatten),(w11,.row 160 st.run.spells.length),(w12,.row 71 st.run.plays.length)]) H0 [(p1,.cells [.sl .no 2 (j.1.map TrayRecord.cells),.i j.2.1,.i j.2.2.1,.i j.2.2.2.1,.sl .no 2 (j.2.2.2.2.1.map TrayPress.cells),.sl .no 2 (j.2.2.2.2.2.1.map TrayPress.cells),.ms w10 0 1 (2*j.1.length) (2*j.1.length),.i j.2.2.2.2.2.2.1,.i j.2.2.2.2.2.2.2.1,.i j.2.2.2.2.2.2.2.2.1,.i j.2.2.2.2.2.2.2.2.2.1,.sl (.id w11) 4 (j.2.2.2.2.2.2.2.2.2.2.1.map Spell_.cells),.sl (.id w12) 2 (j.2.2.2.2.2.2.2.2.2.2.2.1.map TrayPlay.cells),.i j.2.2.2.2.2.2.2.2.2.2.2.2.1,.i j.2.2.2.2.2.2.2.2.2.2.2.2.2.1]),(w10,.cells (j.2.2.2.2.2.2.2.2.2.2.2.2.2.2.map cB).flatten),(w11,.row 160 j.2.2.2.2.2.2.2.2.2.2.1.length),(w12,.row 71 j.2.2.2.2.2.2.2.2.2.2.2.1.length)] H' g'/\zcm j.1 j.2.1 j.2.2.1 j.2.2.2.1 j.2.2.2.2.1 j.2.2.2.2.2.1 j.2.2.2.2.2.2.1 j.2.2.2.2.2.2.2.1 j.2.2.2.2.2.2.2.2.1 j.2.2.2.2.2.2.2.2.2.1 j.2.2.2.2.2.2.2.2.2.2.1 j.2.2.2.2.2.2.2.2.2.2.2.1 j.2.2.2.2.2.2.2.2.2.2.2.2.1 j.2.2.2.2.2.2.2.2.2.2.2.2.2.1 j.2.2.2.2.2.2.2.2.2.2.2.2.2.2=some r) ?_ ?_
   ·rintro ⟨v8,v9,v10,v11,v12,v13,v14,v15,v16,v17,v18,v19,v20,v21,v22⟩ H g2 ⟨hS,hM⟩
    change wpA _ _ _ _ (Fr.of [(0,.ptr p1 0)]) _ _
    replace hS:St (fun i=>i<g/\i∉ids [(p1,.cells [.sl .no 2 (st.t.Records.map TrayRecord.cells),.i st.t.At,.i st.t.Way,.i st.t.Step,.sl .no 2 (st.t.Presses.map TrayPress.cells),.sl .no 2 (st.queue.map TrayPress.cells),.ms w10 0 1 (2*st.t.Records.length) (2*st.t.Records.length),.i st.now,.i st.at_.At,.i st.at_.Way,.i st.at_.Side,.sl (.id w11) 4 (st.run.spells.map Spell_.cells),.sl (.id w12) 2 (st.run.plays.map TrayPlay.cells),.i st.run.steps,.i st.run.end_]),(w10,.cells (st.pins.map cB).flatten),(w11,.row 160 st.run.spells.length),(w12,.row 71 st.run.plays.length)]) H0 [(p1,.cells [.sl .no 2 (v8.map TrayRecord.cells),.i v9,.i v10,.i v11,.sl .no 2 (v12.map TrayPress.cells),.sl .no 2 (v13.map TrayPress.cells),.ms w10 0 1 (2*v8.length) (2*v8.length),.i v14,.i v15,.i v16,.i v17,.sl (.id w11) 4 (v18.map Spell_.cells),.sl (.id w12) 2 (v19.map TrayPlay.cells),.i v20,.i v21]),(w10,.cells (v22.map cB).flatten),(w11,.row 160 v18.length),(w12,.row 71 v19.length)] H g2:=hS
    replace hM:zcm v8 v9 v10 v11 v12 v13 v14 v15 v16 v17 v18 v19 v20 v21 v22=some r:=hM
    refine Sq ?_
    refine Rg 2 ?_
    refine Om (.ptr p1 0) ?_
    obtain ⟨r23,hr23,hM⟩:=zas hM
    have hndr23:=hS.nd_at (ns:=[0,1,2,3]) (M:=[(p1,.cells [.sl .no 2 (v8.map TrayRecord.cells),.i v9,.i v10,.i v11,.sl .no 2 (v12.map TrayPress.cells),.sl .no 2 (v13.map TrayPress.cells),.ms w10 0 1 (2*v8.length) (2*v8.length),.i v14,.i v15,.i v16,.i v17,.sl (.id w11) 4 (v18.map Spell_.cells),.sl (.id w12) 2 (v19.map TrayPlay.cells),.i v20,.i v21]),(w10,.cells (v22.map cB).flatten),(w11,.row 160 v18.length),(w12,.row 71 v19.length)]) (M':=[(p1,.cells [.sl .no 2 (r23.2.t.Records.map TrayRecord.cells),.i r23.2.t.At,.i r23.2.t.Way,.i r23.2.t.Step,.sl .no 2 (r23.2.t.Presses.map TrayPress.cells),.sl .no 2 (r23.2.queue.map TrayPress.cells),.ms w10 0 1 (2*r23.2.t.Records.length) (2*r23.2.t.Records.length),.i r23.2.now,.i r23.2.at_.At,.i r23.2.at_.Way,.i r23.2.at_.Side,.sl (.id w11) 4 (r23.2.run.spells.map Spell_.cells),.sl (.id w12) 2 (r23.2.run.plays.map TrayPlay.cells),.i r23.2.run.steps,.i r23.2.run.end_]),(w10,.cells (r23.2.pins.map cB).flatten),(w11,.row 160 r23.2.run.spells.length),(w12,.row 71 r23.2.run.plays.length)]) (.cons rfl (.cons rfl (.cons rfl (.cons rfl .nil)))) (by decide)
    refine zfx (bs:=[.ptr p1 0]) (M:=[(p1,.cells [.sl .no 2 (v8.map TrayRecord.cells),.i v9,.i v10,.i v11,.sl .no 2 (v12.map TrayPress.cells),.sl .no 2 (v13.map TrayPress.cells),.ms w10 0 1 (2*v8.length) (2*v8.length),.i v14,.i v15,.i v16,.i v17,.sl (.id w11) 4 (v18.map Spell_.cells),.sl (.id w12) 2 (v19.map TrayPlay.cells),.i v20,.i v21]),(w10,.cells (v22.map cB).flatten),(w11,.row 160 v18.length),(w12,.row 71 v19.length)]) (M':=[(p1,.cells [.sl .no 2 (r23.2.t.Records.map TrayRecord.cells),.i r23.2.t.At,.i r23.2.t.Way,.i r23.2.t.Step,.sl .no 2 (r23.2.t.Presses.map TrayPress.cells),.sl .no 2 (r23.2.queue.map TrayPress.cells),.ms w10 0 1 (2*r23.2.t.Records.length) (2*r23.2.t.Records.length),.i r23.2.now,.i r23.2.at_.At,.i r23.2.at_.Way,.i r23.2.at_.Side,.sl (.id w11) 4 (r23.2.run.spells.map Spell_.cells),.sl (.id w12) 2 (r23.2.run.plays.map TrayPlay.cells),.i r23.2.run.steps,.i r23.2.run.end_]),(w10,.cells (r23.2.pins.map cB).flatten),(w11,.row 160 r23.2.run.spells.length),(w12,.row 71 r23.2.run.plays.length)]) (L':=[(p1,.cells [.sl .no 2 (r23.2.t.Records.map TrayRecord.cells),.i r23.2.t.At,.i r23.2.t.Way,.i r23.2.t.Step,.sl .no 2 (r23.2.t.Presses.map TrayPress.cells),.sl .no 2 (r23.2.queue.map TrayPress.cells),.ms w10 0 1 (2*r23.2.t.Records.length) (2*r23.2.t.Records.length),.i r23.2.now,.i r23.2.at_.At,.i r23.2.at_.Way,.i r23.2.at_.Side,.sl (.id w11) 4 (r23.2.run.spells.map Spell_.cells),.sl (.id w12) 2 (r23.2.run.plays.map TrayPlay.cells),.i r23.2.run.steps,.i r23.2.run.end_]),(w10,.cells (r23.2.pins.map cB).flatten),(w11,.row 160 r23.2.run.spells.length),(w12,.row 71 r23.2.run.plays.length)]) [0,1,2,3] (.inl rfl) hS (by decide) rfl rfl ((zhF (p1:=p1) (w10:=w10) (w11:=w11) (w12:=w12) hndr23 hr23).le (.k .nil)) (.cons rfl (.cons rfl (.cons rfl (.cons rfl .nil)))) rfl (by omega) fun H hS=>?_
    refine Ni ?_
    refine Ws ?_
    refine Sq ?_
    refine Rg 1 ?_
    refine Oa (.b true) ?_
    refine Ni ?_
    refine Ws ?_
    refine zaQ ?_
    refine zdg (x:=.b true) (f:=fun r=>.b r.1) (fd:=fun r=>[(p1,.cells [.sl .no 2 (r.2.t.Records.map TrayRecord.cells),.i r.2.t.At,.i r.2.t.Way,.i r.2.t.Step,.sl .no 2 (r.2.t.Presses.map TrayPress.cells),.sl .no 2 (r.2.queue.map TrayPress.cells),.ms w10 0 1 (2*r.2.t.Records.length) (2*r.2.t.Records.length),.i r.2.now,.i r.2.at_.At,.i r.2.at_.Way,.i r.2.at_.Side,.sl (.id w11) 4 (r.2.run.spells.map Spell_.cells),.sl (.id w12) 2 (r.2.run.plays.map TrayPlay.cells),.i r.2.run.steps,.i r.2.run.end_]),(w10,.cells (r.2.pins.map cB).flatten),(w11,.row 160 r.2.run.spells.length),(w12,.row 71 r.2.run.plays.length)]) (.inr rfl) ?_ (.refl _) (Option.some.inj hM) hS 0 rfl
    exact (zaw (zai (x:=.b true) rfl))
   ·refine Sq ?_
    refine Rg 7 ?_
    refine Om (.ptr p1 0) ?_
    refine zbT (by decide) rfl ?_
    refine zag (by decide) zhC rfl ?_
    refine zaG (v:=.ms w10 0 1 (2*r1.2.t.Records.length) (2*r1.2.t.Records.length)) 0 hS (by decide) rfl rfl .no (po zii zi9) ?_
    refine Om (.i v7) ?_
    obtain ⟨x24,hx24,hM⟩:=zas hM
    refine zfG (xs:=r1.2.pins) (z:=v7) (u:=x24) (by decide) rfl (zfH hx24) rfl zhz (zc6 hx24) ?_
    refine zry (f:=cB) (xs:=r1.2.pins) (z:=v7) (u:=x24) (c:=.b x24) 1 hS (by decide) rfl rfl (zc6 hx24) .no (fun _=>rfl) rfl zo0 zqZ ?_
    refine Ni ?_
    refine Ws ?_
    rcases bft x24 with hb25 | hb25
    ·replace hM:=ifT hM hb25
     refine Ct hb25 ?_
     refine Sq ?_
     refine Rg 7 ?_
     refine Om (.ptr p1 0) ?_
     refine zbT (by decide) rfl ?_
     refine zag (by decide) zhC rfl ?_
     refine zaG (v:=.ms w10 0 1 (2*r1.2.t.Records.length) (2*r1.2.t.Records.length)) 0 hS (by decide) rfl rfl .no (po zii zi9) ?_
     refine Om (.i v7) ?_
     obtain ⟨x26,hx26,hM⟩:=zas hM
     refine zfG (xs:=r1.2.pins) (z:=v7) (u:=x26) (by decide) rfl (zfH hx26) rfl zhz (zc6 hx26) ?_
     refine zi6 (f:=cB) (k:=1) (xs:=r1.2.pins) (z:=v7) (u:=x26) (w:=false) (v:=.b false) (L':=[(p1,.cells [.sl .no 2 (r1.2.t.Records.map TrayRecord.cells),.i r1.2.t.At,.i r1.2.t.Way,.i r1.2.t.Step,.sl .no 2 (r1.2.t.Presses.map TrayPress.cells),.sl .no 2 (r1.2.queue.map TrayPress.cells),.ms w10 0 1 (2*r1.2.t.Records.length) (2*r1.2.t.Records.length),.i r1.2.now,.i r1.2.at_.At,.i r1.2.at_.Way,.i r1.2.at_.Side,.sl (.id w11) 4 (r1.2.run.spells.map Spell_.cells),.sl (.id w12) 2 (r1.2.run.plays.map TrayPlay.cells),.i r1.2.run.steps,.i r1.2.run.end_]),(w10,.cells ((r1.2.pins.set (Int.toNat v7) false).map cB).flatten),(w11,.row 160 r1.2.run.spells.length),(w12,.row 71 r1.2.run.plays.length)]) 1 hS rfl rfl (zc6 hx26) .no (fun _=>rfl) rfl rfl zo1 rfl fun H hS=>?_
     refine Ni ?_
     refine Ws ?_
     refine Sq ?_
     have hS0:=hS
     refine zd1 (n:=18) rfl (by kernel_rfl) ?_
     refine Om (.ptr p1 0) ?_
     refine Om (.ptr p1 0) ?_
     refine zbT (by decide) rfl ?_
     refine zag (by decide) zex rfl ?_
     refine zag (by decide) zku rfl ?_
     refine zaG (v:=.sl (.id w12) 2 (r1.2.run.plays.map TrayPlay.cells)) 0 hS (by decide) rfl rfl (.st hS0 0 rfl (by omega)) (po zmY zo4) ?_
     refine Om (.i v7) ?_
     refine Om (.ptr p1 0) ?_
     refine zbT (by decide) rfl ?_
     refine zag (by decide) zev rfl ?_
     refine zaG (v:=.i r1.2.now) 0 hS (by decide) rfl rfl (.st hS0 0 rfl (by omega)) (po zaf zap) ?_
     refine zdb (cs:=[.i v7,.i r1.2.now]) (by decide) zo7 zrG rfl ?_
     refine zbj (es:=[[.i v7,.i r1.2.now]]) hS (by decide) zjF zo5 rfl zo6 rfl (by decide) (by omega) fun H hS=>?_
     obtain ⟨l27,hl27,hM⟩:=zas hM
     refine zdJ (xs:=r1.2.run.plays) (ys:=([(⟨v7,r1.2.now⟩:TrayPlay)]:List TrayPlay)) (zs:=l27) (f:=TrayPlay.cells) (L':=[(g1+7+7+12,.row 71 1),(p1,.cells [.sl .no 2 (r1.2.t.Records.map TrayRecord.cells),.i r1.2.t.At,.i r1.2.t.Way,.i r1.2.t.Step,.sl .no 2 (r1.2.t.Presses.map TrayPress.cells),.sl .no 2 (r1.2.queue.map TrayPress.cells),.ms w10 0 1 (2*r1.2.t.Records.length) (2*r1.2.t.Records.length),.i r1.2.now,.i r1.2.at_.At,.i r1.2.at_.Way,.i r1.2.at_.Side,.sl (.id w11) 4 (r1.2.run.spells.map Spell_.cells),.sl (.id w12) 2 (r1.2.run.plays.map TrayPlay.cells),.i r1.2.run.steps,.i r1.2.run.end_]),(w10,.cells ((r1.2.pins.set (Int.toNat v7) false).map cB).flatten),(w11,.row 160 r1.2.run.spells.length),(w12,.row 71 l27.length)]) 4 hS (by decide) rfl rfl rfl rfl (.st hS0 3 rfl (by omega)) zjF zo5 zo6 hl27 rfl fun H hS=>?_
     refine zbT (by decide) rfl ?_
     refine zag (by decide) zex rfl ?_
     refine zag (by decide) zku rfl ?_
     refine zaM (v:=.sl (.id w12) 2 (l27.map TrayPlay.cells)) (ns:=[.sl (.id w12) 2 (l27.map TrayPlay.cells)]) (L':=[(g1+7+7+12,.row 71 1),(p1,.cells [.sl .no 2 (r1.2.t.Records.map TrayRecord.cells),.i r1.2.t.At,.i r1.2.t.Way,.i r1.2.t.Step,.sl .no 2 (r1.2.t.Presses.map TrayPress.cells),.sl .no 2 (r1.2.queue.map TrayPress.cells),.ms w10 0 1 (2*r1.2.t.Records.length) (2*r1.2.t.Records.length),.i r1.2.now,.i r1.2.at_.At,.i r1.2.at_.Way,.i r1.2.at_.Side,.sl (.id w11) 4 (r1.2.run.spells.map Spell_.cells),.sl (.id w12) 2 (l27.map TrayPlay.cells),.i r1.2.run.steps,.i r1.2.run.end_]),(w10,.cells ((r1.2.pins.set (Int.toNat v7) false).map cB).flatten),(w11,.row 160 r1.2.run.spells.length),(w12,.row 71 l27.length)]) 1 hS rfl rfl (.st hS0 0 rfl (by omega)) rfl rfl zqi nlb rfl fun H hS=>?_
     refine Ni ?_
     replace hS:=hS.keep (L':=[(p1,.cells [.sl .no 2 (r1.2.t.Records.map TrayRecord.cells),.i r1.2.t.At,.i r1.2.t.Way,.i r1.2.t.Step,.sl .no 2 (r1.2.t.Presses.map TrayPress.cells),.sl .no 2 (r1.2.queue.map TrayPress.cells),.ms w10 0 1 (2*r1.2.t.Records.length) (2*r1.2.t.Records.length),.i r1.2.now,.i r1.2.at_.At,.i r1.2.at_.Way,.i r1.2.at_.Side,.sl (.id w11) 4 (r1.2.run.spells.map Spell_.cells),.sl (.id w12) 2 (l27.map TrayPlay.cells),.i r1.2.run.steps,.i r1.2.run.end_]),(w10,.cells ((r1.2.pins.set (Int.toNat v7) false).map cB).flatten),(w11,.row 160 r1.2.run.spells.length),(w12,.row 71 l27.length)]) [false,true,true,true,true] rfl
     refine Ws ?_
     refine Sq ?_
     refine Rg 3 ?_
     refine Om (.ptr p1 0) ?_
     refine Om (.i v7) ?_
     obtain ⟨r28,hr28,hM⟩:=zas hM
     have hndr28:=hS.nd_at (ns:=[0,1,2,3]) (M:=[(p1,.cells [.sl .no 2 (r1.2.t.Records.map TrayRecord.cells),.i r1.2.t.At,.i r1.2.t.Way,.i r1.2.t.Step,.sl .no 2 (r1.2.t.Presses.map TrayPress.cells),.sl .no 2 (r1.2.queue.map TrayPress.cells),.ms w10 0 1 (2*r1.2.t.Records.length) (2*r1.2.t.Records.length),.i r1.2.now,.i r1.2.at_.At,.i r1.2.at_.Way,.i r1.2.at_.Side,.sl (.id w11) 4 (r1.2.run.spells.map Spell_.cells),.sl (.id w12) 2 (l27.map TrayPlay.cells),.i r1.2.run.steps,.i r1.2.run.end_]),(w10,.cells ((r1.2.pins.set (Int.toNat v7) false).map cB).flatten),(w11,.row 160 r1.2.run.spells.length),(w12,.row 71 l27.length)]) (M':=[(p1,.cells [.sl .no 2 (r28.2.t.Records.map TrayRecord.cells),.i r28.2.t.At,.i r28.2.t.Way,.i r28.2.t.Step,.sl .no 2 (r28.2.t.Presses.map TrayPress.cells),.sl .no 2 (r28.2.queue.map TrayPress.cells),.ms w10 0 1 (2*r28.2.t.Records.length) (2*r28.2.t.Records.length),.i r28.2.now,.i r28.2.at_.At,.i r28.2.at_.Way,.i r28.2.at_.Side,.sl (.id w11) 4 (r28.2.run.spells.map Spell_.cells),.sl (.id w12) 2 (r28.2.run.plays.map TrayPlay.cells),.i r28.2.run.steps,.i r28.2.run.end_]),(w10,.cells (r28.2.pins.map cB).flatten),(w11,.row 160 r28.2.run.spells.length),(w12,.row 71 r28.2.run.plays.length)]) (.cons rfl (.cons rfl (.cons rfl (.cons rfl .nil)))) (by decide)
     refine zfx (bs:=[.ptr p1 0,.i v7]) (M:=[(p1,.cells [.sl .no 2 (r1.2.t.Records.map TrayRecord.cells),.i r1.2.t.At,.i r1.2.t.Way,.i r1.2.t.Step,.sl .no 2 (r1.2.t.Presses.map TrayPress.cells),.sl .no 2 (r1.2.queue.map TrayPress.cells),.ms w10 0 1 (2*r1.2.t.Records.length) (2*r1.2.t.Records.length),.i r1.2.now,.i r1.2.at_.At,.i r1.2.at_.Way,.i r1.2.at_.Side,.sl (.id w11) 4 (r1.2.run.spells.map Spell_.cells),.sl (.id w12) 2 (l27.map TrayPlay.cells),.i r1.2.run.steps,.i r1.2.run.end_]),(w10,.cells ((r1.2.pins.set (Int.toNat v7) false).map cB).flatten),(w11,.row 160 r1.2.run.spells.length),(w12,.row 71 l27.length)]) (M':=[(p1,.cells [.sl .no 2 (r28.2.t.Records.map TrayRecord.cells),.i r28.2.t.At,.i r28.2.t.Way,.i r28.2.t.Step,.sl .no 2 (r28.2.t.Presses.map TrayPress.cells),.sl .no 2 (r28.2.queue.map TrayPress.cells),.ms w10 0 1 (2*r28.2.t.Records.length) (2*r28.2.t.Records.length),.i r28.2.now,.i r28.2.at_.At,.i r28.2.at_.Way,.i r28.2.at_.Side,.sl (.id w11) 4 (r28.2.run.spells.map Spell_.cells),.sl (.id w12) 2 (r28.2.run.plays.map TrayPlay.cells),.i r28.2.run.steps,.i r28.2.run.end_]),(w10,.cells (r28.2.pins.map cB).flatten),(w11,.row 160 r28.2.run.spells.length),(w12,.row 71 r28.2.run.plays.length)]) (L':=[(p1,.cells [.sl .no 2 (r28.2.t.Records.map TrayRecord.cells),.i r28.2.t.At,.i r28.2.t.Way,.i r28.2.t.Step,.sl .no 2 (r28.2.t.Presses.map TrayPress.cells),.sl .no 2 (r28.2.queue.map TrayPress.cells),.ms w10 0 1 (2*r28.2.t.Records.length) (2*r28.2.t.Records.length),.i r28.2.now,.i r28.2.at_.At,.i r28.2.at_.Way,.i r28.2.at_.Side,.sl (.id w11) 4 (r28.2.run.spells.map Spell_.cells),.sl (.id w12) 2 (r28.2.run.plays.map TrayPlay.cells),.i r28.2.run.steps,.i r28.2.run.end_]),(w10,.cells (r28.2.pins.map cB).flatten),(w11,.row 160 r28.2.run.spells.length),(w12,.row 71 r28.2.run.plays.length)]) [0,1,2,3] (.inl rfl) hS (by decide) rfl rfl ((zcS (p1:=p1) (w10:=w10) (w11:=w11) (w12:=w12) hndr28 hr28).le (.k (.k .nil))) (.cons rfl (.cons rfl (.cons rfl (.cons rfl .nil)))) rfl (by omega) fun H hS=>?_
     refine Ni ?_
     refine Ws ?_
     refine Sq ?_
     have hS0:=hS
     refine zd1 (n:=14) rfl (by kernel_rfl) ?_
     refine Om (.ptr p1 0) ?_
     refine zbT (by decide) rfl ?_
     refine zag (by decide) zev rfl ?_
     refine zaG (v:=.i r28.2.now) 0 hS (by decide) rfl rfl (.st hS0 0 rfl (by omega)) (po zaf zap) ?_
     refine Om (.ptr p1 0) ?_
     refine zbT (by decide) rfl ?_
     refine zag (by decide) ziK rfl ?_
     refine zaG (v:=.agg (Tray.cells r28.2.t)) 0 hS (by decide) rfl rfl (.st hS0 0 rfl (by omega)) (pg zdV) ?_
     refine Om (.i v7) ?_
     obtain ⟨r29,hr29,hM⟩:=zas hM
     refine zaP (bs:=[.agg (Tray.cells r28.2.t),.i v7]) (by decide) rfl rfl ((zmv hr29).le (.k (.k .nil))) ?_
     refine Oi (.i (w64 (r28.2.now+r29))) ?_
     refine zbT (by decide) rfl ?_
     refine zag (by decide) zev rfl ?_
     refine zaM (v:=.i (w64 (r28.2.now+r29))) (ns:=[.i (w64 (r28.2.now+r29))]) (L':=[(p1,.cells [.sl .no 2 (r28.2.t.Records.map TrayRecord.cells),.i r28.2.t.At,.i r28.2.t.Way,.i r28.2.t.Step,.sl .no 2 (r28.2.t.Presses.map TrayPress.cells),.sl .no 2 (r28.2.queue.map TrayPress.cells),.ms w10 0 1 (2*r28.2.t.Records.length) (2*r28.2.t.Records.length),.i (w64 (r28.2.now+r29)),.i r28.2.at_.At,.i r28.2.at_.Way,.i r28.2.at_.Side,.sl (.id w11) 4 (r28.2.run.spells.map Spell_.cells),.sl (.id w12) 2 (r28.2.run.plays.map TrayPlay.cells),.i r28.2.run.steps,.i r28.2.run.end_]),(w10,.cells (r28.2.pins.map cB).flatten),(w11,.row 160 r28.2.run.spells.length),(w12,.row 71 r28.2.run.plays.length)]) 0 hS rfl rfl (.st hS0 0 rfl (by omega)) rfl rfl zeY nlb rfl fun H hS=>?_
     refine Ni ?_
     refine Ws ?_
     refine Sq ?_
     refine Rg 9 ?_
     refine Om (.ptr p1 0) ?_
     refine Om (.ptr p1 0) ?_
     refine zbT (by decide) rfl ?_
     refine zag (by decide) zev rfl ?_
     refine zaG (v:=.i (w64 (r28.2.now+r29))) 0 hS (by decide) rfl rfl .no (po zaf zap) ?_
     refine zbT (by decide) rfl ?_
     refine zag (by decide) zex rfl ?_
     refine zag (by decide) znV rfl ?_
     refine zaM (v:=.i (w64 (r28.2.now+r29))) (ns:=[.i (w64 (r28.2.now+r29))]) (L':=[(p1,.cells [.sl .no 2 (r28.2.t.Records.map TrayRecord.cells),.i r28.2.t.At,.i r28.2.t.Way,.i r28.2.t.Step,.sl .no 2 (r28.2.t.Presses.map TrayPress.cells),.sl .no 2 (r28.2.queue.map TrayPress.cells),.ms w10 0 1 (2*r28.2.t.Records.length) (2*r28.2.t.Records.length),.i (w64 (r28.2.now+r29)),.i r28.2.at_.At,.i r28.2.at_.Way,.i r28.2.at_.Side,.sl (.id w11) 4 (r28.2.run.spells.map Spell_.cells),.sl (.id w12) 2 (r28.2.run.plays.map TrayPlay.cells),.i r28.2.run.steps,.i (w64 (r28.2.now+r29))]),(w10,.cells (r28.2.pins.map cB).flatten),(w11,.row 160 r28.2.run.spells.length),(w12,.row 71 r28.2.run.plays.length)]) 0 hS rfl rfl .no rfl rfl zeY nlb rfl fun H hS=>?_
     refine Ni ?_
     refine Ws ?_
     refine Rg 2 ?_
     refine Om (.ptr p1 0) ?_
     obtain ⟨r30,hr30,hM⟩:=zas hM
     have hndr30:=hS.nd_at (ns:=[0,1,2,3]) (M:=[(p1,.cells [.sl .no 2 (r28.2.t.Records.map TrayRecord.cells),.i r28.2.t.At,.i r28.2.t.Way,.i r28.2.t.Step,.sl .no 2 (r28.2.t.Presses.map TrayPress.cells),.sl .no 2 (r28.2.queue.map TrayPress.cells),.ms w10 0 1 (2*r28.2.t.Records.length) (2*r28.2.t.Records.length),.i (w64 (r28.2.now+r29)),.i r28.2.at_.At,.i r28.2.at_.Way,.i r28.2.at_.Side,.sl (.id w11) 4 (r28.2.run.spells.map Spell_.cells),.sl (.id w12) 2 (r28.2.run.plays.map TrayPlay.cells),.i r28.2.run.steps,.i (w64 (r28.2.now+r29))]),(w10,.cells (r28.2.pins.map cB).flatten),(w11,.row 160 r28.2.run.spells.length),(w12,.row 71 r28.2.run.plays.length)]) (M':=[(p1,.cells [.sl .no 2 (r30.2.t.Records.map TrayRecord.cells),.i r30.2.t.At,.i r30.2.t.Way,.i r30.2.t.Step,.sl .no 2 (r30.2.t.Presses.map TrayPress.cells),.sl .no 2 (r30.2.queue.map TrayPress.cells),.ms w10 0 1 (2*r30.2.t.Records.length) (2*r30.2.t.Records.length),.i r30.2.now,.i r30.2.at_.At,.i r30.2.at_.Way,.i r30.2.at_.Side,.sl (.id w11) 4 (r30.2.run.spells.map Spell_.cells),.sl (.id w12) 2 (r30.2.run.plays.map TrayPlay.cells),.i r30.2.run.steps,.i r30.2.run.end_]),(w10,.cells (r30.2.pins.map cB).flatten),(w11,.row 160 r30.2.run.spells.length),(w12,.row 71 r30.2.run.plays.length)]) (.cons rfl (.cons rfl (.cons rfl (.cons rfl .nil)))) (by decide)
     refine zfx (bs:=[.ptr p1 0,.i (-1)]) (M:=[(p1,.cells [.sl .no 2 (r28.2.t.Records.map TrayRecord.cells),.i r28.2.t.At,.i r28.2.t.Way,.i r28.2.t.Step,.sl .no 2 (r28.2.t.Presses.map TrayPress.cells),.sl .no 2 (r28.2.queue.map TrayPress.cells),.ms w10 0 1 (2*r28.2.t.Records.length) (2*r28.2.t.Records.length),.i (w64 (r28.2.now+r29)),.i r28.2.at_.At,.i r28.2.at_.Way,.i r28.2.at_.Side,.sl (.id w11) 4 (r28.2.run.spells.map Spell_.cells),.sl (.id w12) 2 (r28.2.run.plays.map TrayPlay.cells),.i r28.2.run.steps,.i (w64 (r28.2.now+r29))]),(w10,.cells (r28.2.pins.map cB).flatten),(w11,.row 160 r28.2.run.spells.length),(w12,.row 71 r28.2.run.plays.length)]) (M':=[(p1,.cells [.sl .no 2 (r30.2.t.Records.map TrayRecord.cells),.i r30.2.t.At,.i r30.2.t.Way,.i r30.2.t.Step,.sl .no 2 (r30.2.t.Presses.map TrayPress.cells),.sl .no 2 (r30.2.queue.map TrayPress.cells),.ms w10 0 1 (2*r30.2.t.Records.length) (2*r30.2.t.Records.length),.i r30.2.now,.i r30.2.at_.At,.i r30.2.at_.Way,.i r30.2.at_.Side,.sl (.id w11) 4 (r30.2.run.spells.map Spell_.cells),.sl (.id w12) 2 (r30.2.run.plays.map TrayPlay.cells),.i r30.2.run.steps,.i r30.2.run.end_]),(w10,.cells (r30.2.pins.map cB).flatten),(w11,.row 160 r30.2.run.spells.length),(w12,.row 71 r30.2.run.plays.length)]) (L':=[(p1,.cells [.sl .no 2 (r30.2.t.Records.map TrayRecord.cells),.i r30.2.t.At,.i r30.2.t.Way,.i r30.2.t.Step,.sl .no 2 (r30.2.t.Presses.map TrayPress.cells),.sl .no 2 (r30.2.queue.map TrayPress.cells),.ms w10 0 1 (2*r30.2.t.Records.length) (2*r30.2.t.Records.length),.i r30.2.now,.i r30.2.at_.At,.i r30.2.at_.Way,.i r30.2.at_.Side,.sl (.id w11) 4 (r30.2.run.spells.map Spell_.cells),.sl (.id w12) 2 (r30.2.run.plays.map TrayPlay.cells),.i r30.2.run.steps,.i r30.2.run.end_]),(w10,.cells (r30.2.pins.map cB).flatten),(w11,.row 160 r30.2.run.spells.length),(w12,.row 71 r30.2.run.plays.length)]) [0,1,2,3] (.inl rfl) hS (by decide) rfl rfl ((zcS (p1:=p1) (w10:=w10) (w11:=w11) (w12:=w12) hndr30 hr30).le (.k (.k .nil))) (.cons rfl (.cons rfl (.cons rfl (.cons rfl .nil)))) rfl (by omega) fun H hS=>?_
     refine Ni ?_
     exact zak (r30.2.t.Records,r30.2.t.At,r30.2.t.Way,r30.2.t.Step,r30.2.t.Presses,r30.2.queue,r30.2.now,r30.2.at_.At,r30.2.at_.Way,r30.2.at_.Side,r30.2.run.spells,r30.2.run.plays,r30.2.run.steps,r30.2.run.end_,r30.2.pins) (.k .nil) ⟨(hS.keep [true,true,true,true] rfl).up (by omega),hM⟩
    ·replace hM:=ifF hM hb25
     refine Cf hb25 ?_
     refine zaC ?_
     exact zak (r1.2.t.Records,r1.2.t.At,r1.2.t.Way,r1.2.t.Step,r1.2.t.Presses,r1.2.queue,r1.2.now,r1.2.at_.At,r1.2.at_.Way,r1.2.at_.Side,r1.2.run.spells,r1.2.run.plays,r1.2.run.steps,r1.2.run.end_,r1.2.pins) (.k .nil) ⟨(hS.keep [true,true,true,true] rfl).up (by omega),hM⟩
  ·refine Sq ?_
   refine Rg 6 ?_
   refine Om (.ptr p1 0) ?_
   refine zbT (by decide) rfl ?_
   refine zag (by decide) zew rfl ?_
   refine zag (by decide) zhB rfl ?_
   refine zaG (v:=.i r1.2.at_.Way) 0 hS (by decide) rfl rfl .no (po zaf zap) ?_
   refine Oi (.b (decide (r1.2.at_.Way<0))) ?_
   refine Ni ?_
   refine Ws ?_
   rcases bft (decide (r1.2.at_.Way<0)) with hb31 | hb31
   ·replace hM:=ifT hM hb31
    refine Ct hb31 ?_
    refine Rg 3 ?_
    refine Om (.i (w64 (2*r1.2.at_.At))) ?_
    refine Oi (.i (w64 ((w64 (2*r1.2.at_.At))+1))) ?_
    refine Oa (.i (w64 ((w64 (2*r1.2.at_.At))+1))) ?_
    refine Ni ?_
    exact zak (w64 ((w64 (2*r1.2.at_.At))+1)) (.k (.k .nil)) ⟨(hS.keep [true,true,true,true] rfl).up (by omega),hM⟩
   ·replace hM:=ifF hM hb31
    refine Cf hb31 ?_
    refine zaC ?_
    exact zak (w64 (2*r1.2.at_.At)) (.k (.k .nil)) ⟨(hS.keep [true,true,true,true] rfl).up (by omega),hM⟩
theorem zmw {n:Nat} {a0:Tray} {r:Run_} (hM:zie n a0=some r):zaJ Try.prog 41 [.agg (Tray.cells a0)] (.agg [.sl .no 4 (r.spells.map Spell_.cells),.sl .no 2 (r.plays.map TrayPlay.cells),.i r.steps,.i r.end_]):=by
 refine zax mixed Try.func41 rfl (by decide) Try.ntmps41 (by simp) ?pure fun H0 g hf=>?_
 case pure=>exact .agg _ (zac (.sl _ _ (zav (fun x=>(zac (.v _) (zac (.v _) (zac (.v _) (zac (.v _) zaE))))))) (zac (.sl _ _ (zav (fun x=>(zac (.v _) (zac (.v _) zaE))))) (zac (.v _) (zac (.v _) zaE))))
 rw [zan]
 change wpA _ _ _ _ (Fr.of [(0,.agg (Tray.cells a0))]) H0 g
 have hS:=St.start hf
 refine Sq ?_
 refine Rg 2 ?_
 refine zd2 (v:=.agg (Tray.cells a0)) (cs:=(Tray.cells a0)) hS (by decide) rfl rfl (by omega) fun H hS=>?_
 refine zdI hS (by decide) znR (by omega) fun H hS=>?_
 refine Ni ?_
 refine zda (L':=[(g+1,.cells [.sl .nil 0 [],.sl .nil 0 [],.i 0,.i 0])]) 1 1 hS rfl rfl rfl fun H hS=>?_
 refine Ws ?_
 refine Sq ?_
 have hS0:=hS
 refine zd1 (n:=17) rfl (by kernel_rfl) ?_
 refine Olg (.agg (Tray.cells a0)) zdV ?_
 refine Of ((Tray.cells a0)) zdk ?_
 refine Olp (.sl .no 2 (a0.Presses.map TrayPress.cells)) zcW zdN ?_
 obtain ⟨r1,hr1,hM⟩:=zas hM
 rcases bft (r1.length==0) with hb2 | hb2
 ·replace hM:=ifT hM hb2
  refine zrD (f:=TrayPress.cells) (us:=r1) (mk:=(fun s=>s)) (k:=2) (e:=55) (bs:=[.sl .no 2 (a0.Presses.map TrayPress.cells)]) hS (by decide) rfl rfl ((zmQ.of_fresh (zec hr1)).le (.k .nil)) zsG (zac (.sl _ _ (zav (fun x=>(zac (.v _) (zac (.v _) zaE))))) zaE) (zmT (fun x=>(zhT (zhT zmS)))) hb2 (by omega) fun H hS=>?_
  refine Of ((Tray.cells a0)) zbY ?_
  refine Olp (.sl .no 2 (a0.Records.map TrayRecord.cells)) zcP zdB ?_
  refine zcg (n:=a0.Records.length) (by decide) rfl (List.length_map _) zdM ?_
  refine Oi (.i (w64 (2*(a0.Records.length:Int)))) ?_
  obtain ⟨l3,hl3,hM⟩:=zas hM
  refine zoZ (f:=cB) (z:=(w64 (2*(a0.Records.length:Int)))) (n:=(2*a0.Records.length)) (us:=l3) hS (by decide) rfl rfl hl3 rfl zhz zm3 zmX zm4 (by omega) fun H hS=>?_
  refine Of ((Tray.cells a0)) zhj ?_
  refine Olp (.i a0.At) zaf zap ?_
  refine Of ((Tray.cells a0)) zgv ?_
  refine Olp (.i a0.Way) zaf zap ?_
  refine zdb (cs:=[.i a0.At,.i a0.Way,.i (-1)]) (by decide) zkr zm5 rfl ?_
  refine zdb (cs:=[.sl .no 2 (a0.Records.map TrayRecord.cells),.i a0.At,.i a0.Way,.i a0.Step,.sl .no 2 (a0.Presses.map TrayPress.cells),.sl .no 2 (([]:List TrayPress).map TrayPress.cells),.ms (g+2+8) 0 1 (2*a0.Records.length) (2*a0.Records.length),.i 0,.i a0.At,.i a0.Way,.i (-1),.sl .nil 0 [],.sl .nil 0 [],.i 0,.i 0]) (by decide) zks zm6 rfl ?_
  refine zd2 (v:=.agg [.sl .no 2 (a0.Records.map TrayRecord.cells),.i a0.At,.i a0.Way,.i a0.Step,.sl .no 2 (a0.Presses.map TrayPress.cells),.sl .no 2 (([]:List TrayPress).map TrayPress.cells),.ms (g+2+8) 0 1 (2*a0.Records.length) (2*a0.Records.length),.i 0,.i a0.At,.i a0.Way,.i (-1),.sl .nil 0 [],.sl .nil 0 [],.i 0,.i 0]) (cs:=[.sl .no 2 (a0.Records.map TrayRecord.cells),.i a0.At,.i a0.Way,.i a0.Step,.sl .no 2 (a0.Presses.map TrayPress.cells),.sl .no 2 (([]:List TrayPress).map TrayPress.cells),.ms (g+2+8) 0 1 (2*a0.Records.length) (2*a0.Records.length),.i 0,.i a0.At,.i a0.Way,.i (-1),.sl .nil 0 [],.sl .nil 0 [],.i 0,.i 0]) hS (by decide) rfl rfl (by omega) fun H hS=>?_
  refine Oa (.ptr (g+2+15) 0) ?_
  refine Ni ?_
  refine zha (cs':=[.sl .no 2 (a0.Records.map TrayRecord.cells),.i a0.At,.i a0.Way,.i a0.Step,.sl .no 2 (a0.Presses.map TrayPress.cells),.sl .no 2 (([]:List TrayPress).map TrayPress.cells),.ms (g+2+8) 0 1 (2*a0.Records.length) (2*a0.Records.length),.i 0,.i a0.At,.i a0.Way,.i (-1),.sl (.id (g+2+17)) 4 (([]:List Spell_).map Spell_.cells),.sl .nil 0 [],.i 0,.i 0]) (L':=[(g+2+15,.cells [.sl .no 2 (a0.Records.map TrayRecord.cells),.i a0.At,.i a0.Way,.i a0.Step,.sl .no 2 (a0.Presses.map TrayPress.cells),.sl .no 2 (([]:List TrayPress).map TrayPress.cells),.ms (g+2+8) 0 1 (2*a0.Records.length) (2*a0.Records.length),.i 0,.i a0.At,.i a0.Way,.i (-1),.sl (.id (g+2+17)) 4 (([]:List Spell_).map Spell_.cells),.sl .nil 0 [],.i 0,.i 0]),(g+2+8,.cells (l3.map cB).flatten),(g+1,.cells [.sl .nil 0 [],.sl .nil 0 [],.i 0,.i 0])]) 0 11 4 160 hS (by omega) (by decide) rfl rfl rfl rfl fun H hS=>?_
  refine zha (cs':=[.sl .no 2 (a0.Records.map TrayRecord.cells),.i a0.At,.i a0.Way,.i a0.Step,.sl .no 2 (a0.Presses.map TrayPress.cells),.sl .no 2 (([]:List TrayPress).map TrayPress.cells),.ms (g+2+8) 0 1 (2*a0.Records.length) (2*a0.Records.length),.i 0,.i a0.At,.i a0.Way,.i (-1),.sl (.id (g+2+17)) 4 (([]:List Spell_).map Spell_.cells),.sl (.id (g+2+17+1)) 2 (([]:List TrayPlay).map TrayPlay.cells),.i 0,.i 0]) (L':=[(g+2+17,.row 160 0),(g+2+15,.cells [.sl .no 2 (a0.Records.map TrayRecord.cells),.i a0.At,.i a0.Way,.i a0.Step,.sl .no 2 (a0.Presses.map TrayPress.cells),.sl .no 2 (([]:List TrayPress).map TrayPress.cells),.ms (g+2+8) 0 1 (2*a0.Records.length) (2*a0.Records.length),.i 0,.i a0.At,.i a0.Way,.i (-1),.sl (.id (g+2+17)) 4 (([]:List Spell_).map Spell_.cells),.sl (.id (g+2+17+1)) 2 (([]:List TrayPlay).map TrayPlay.cells),.i 0,.i 0]),(g+2+8,.cells (l3.map cB).flatten),(g+1,.cells [.sl .nil 0 [],.sl .nil 0 [],.i 0,.i 0])]) 1 12 2 71 hS (by omega) (by decide) rfl rfl rfl rfl fun H hS=>?_
  refine Ws ?_
  refine Sq ?_
  refine Rg 5 ?_
  refine Om (.ptr (g+2+15) 0) ?_
  refine zbT (by decide) rfl ?_
  refine zag (by decide) zeu rfl ?_
  refine zaG (v:=.sl .no 2 (([]:List TrayPress).map TrayPress.cells)) 2 hS (by decide) rfl rfl .no (po zcW zdN) ?_
  obtain ⟨r4,hr4,hM⟩:=zas hM
  refine zaP (bs:=[.sl .no 2 (([]:List TrayPress).map TrayPress.cells),.fn (.func 68) [] []]) (by decide) rfl rfl ((zey hr4).le (.k (.k .nil))) ?_
  refine Ni ?_
  refine Ws ?_
  refine Sq ?_
  refine Rg 2 ?_
  refine Om (.ptr (g+2+15) 0) ?_
  obtain ⟨r5,hr5,hM⟩:=zas hM
  have hndr5:=hS.nd_at (ns:=[2,3,1,0]) (M:=[(g+2+15,.cells [.sl .no 2 (a0.Records.map TrayRecord.cells),.i a0.At,.i a0.Way,.i a0.Step,.sl .no 2 (a0.Presses.map TrayPress.cells),.sl .no 2 (([]:List TrayPress).map TrayPress.cells),.ms (g+2+8) 0 1 (2*a0.Records.length) (2*a0.Records.length),.i 0,.i a0.At,.i a0.Way,.i (-1),.sl (.id (g+2+17)) 4 (([]:List Spell_).map Spell_.cells),.sl (.id (g+2+17+1)) 2 (([]:List TrayPlay).map TrayPlay.cells),.i 0,.i 0]),(g+2+8,.cells (l3.map cB).flatten),(g+2+17,.row 160 0),(g+2+17+1,.row 71 0)]) (M':=[(g+2+15,.cells [.sl .no 2 (r5.2.t.Records.map TrayRecord.cells),.i r5.2.t.At,.i r5.2.t.Way,.i r5.2.t.Step,.sl .no 2 (r5.2.t.Presses.map TrayPress.cells),.sl .no 2 (r5.2.queue.map TrayPress.cells),.ms (g+2+8) 0 1 (2*r5.2.t.Records.length) (2*r5.2.t.Records.length),.i r5.2.now,.i r5.2.at_.At,.i r5.2.at_.Way,.i r5.2.at_.Side,.sl (.id (g+2+17)) 4 (r5.2.run.spells.map Spell_.cells),.sl (.id (g+2+17+1)) 2 (r5.2.run.plays.map TrayPlay.cells),.i r5.2.run.steps,.i r5.2.run.end_]),(g+2+8,.cells (r5.2.pins.map cB).flatten),(g+2+17,.row 160 r5.2.run.spells.length),(g+2+17+1,.row 71 r5.2.run.plays.length)]) (.cons rfl (.cons rfl (.cons rfl (.cons rfl .nil)))) (by decide)
  refine zfx (bs:=[.ptr (g+2+15) 0,.i (-1)]) (M:=[(g+2+15,.cells [.sl .no 2 (a0.Records.map TrayRecord.cells),.i a0.At,.i a0.Way,.i a0.Step,.sl .no 2 (a0.Presses.map TrayPress.cells),.sl .no 2 (([]:List TrayPress).map TrayPress.cells),.ms (g+2+8) 0 1 (2*a0.Records.length) (2*a0.Records.length),.i 0,.i a0.At,.i a0.Way,.i (-1),.sl (.id (g+2+17)) 4 (([]:List Spell_).map Spell_.cells),.sl (.id (g+2+17+1)) 2 (([]:List TrayPlay).map TrayPlay.cells),.i 0,.i 0]),(g+2+8,.cells (l3.map cB).flatten),(g+2+17,.row 160 0),(g+2+17+1,.row 71 0)]) (M':=[(g+2+15,.cells [.sl .no 2 (r5.2.t.Records.map TrayRecord.cells),.i r5.2.t.At,.i r5.2.t.Way,.i r5.2.t.Step,.sl .no 2 (r5.2.t.Presses.map TrayPress.cells),.sl .no 2 (r5.2.queue.map TrayPress.cells),.ms (g+2+8) 0 1 (2*r5.2.t.Records.length) (2*r5.2.t.Records.length),.i r5.2.now,.i r5.2.at_.At,.i r5.2.at_.Way,.i r5.2.at_.Side,.sl (.id (g+2+17)) 4 (r5.2.run.spells.map Spell_.cells),.sl (.id (g+2+17+1)) 2 (r5.2.run.plays.map TrayPlay.cells),.i r5.2.run.steps,.i r5.2.run.end_]),(g+2+8,.cells (r5.2.pins.map cB).flatten),(g+2+17,.row 160 r5.2.run.spells.length),(g+2+17+1,.row 71 r5.2.run.plays.length)]) (L':=[(g+2+17+1,.row 71 r5.2.run.plays.length),(g+2+17,.row 160 r5.2.run.spells.length),(g+2+15,.cells [.sl .no 2 (r5.2.t.Records.map TrayRecord.cells),.i r5.2.t.At,.i r5.2.t.Way,.i r5.2.t.Step,.sl .no 2 (r5.2.t.Presses.map TrayPress.cells),.sl .no 2 (r5.2.queue.map TrayPress.cells),.ms (g+2+8) 0 1 (2*r5.2.t.Records.length) (2*r5.2.t.Records.length),.i r5.2.now,.i r5.2.at_.At,.i r5.2.at_.Way,.i r5.2.at_.Side,.sl (.id (g+2+17)) 4 (r5.2.run.spells.map Spell_.cells),.sl (.id (g+2+17+1)) 2 (r5.2.run.plays.map TrayPlay.cells),.i r5.2.run.steps,.i r5.2.run.end_]),(g+2+8,.cells (r5.2.pins.map cB).flatten),(g+1,.cells [.sl .nil 0 [],.sl .nil 0 [],.i 0,.i 0])]) [2,3,1,0] (.inl rfl) hS (by decide) rfl rfl ((zcS (p1:=g+2+15) (w10:=g+2+8) (w11:=g+2+17) (w12:=g+2+17+1) hndr5 hr5).le (.k (.k .nil))) (.cons rfl (.cons rfl (.cons rfl (.cons rfl .nil)))) rfl (by omega) fun H hS=>?_
  refine Ni ?_
  refine Ws ?_
  refine zaO (J:=(List TrayRecord)×Int×Int×Int×(List TrayPress)×(List TrayPress)×Int×Int×Int×Int×(List Spell_)×(List TrayPlay)×Int×Int×(List Bool)) (fun j=>[(2,.ptr (g+1) 0),(3,.ptr (g+2+15) 0)]) (fun j H' g'=>St (·<g) H0 [(g+2+17+1,.row 71 j.2.2.2.2.2.2.2.2.2.2.2.1.length),(g+2+17,.row 160 j.2.2.2.2.2.2.2.2.2.2.1.length),(g+2+15,.cells [.sl .no 2 (j.1.map TrayRecord.cells),.i j.2.1,.i j.2.2.1,.i j.2.2.2.1,.sl .no 2 (j.2.2.2.2.1.map TrayPress.cells),.sl .no 2 (j.2.2.2.2.2.1.map TrayPress.cells),.ms (g+2+8) 0 1 (2*j.1.length) (2*j.1.length),.i j.2.2.2.2.2.2.1,.i j.2.2.2.2.2.2.2.1,.i j.2.2.2.2.2.2.2.2.1,.i j.2.2.2.2.2.2.2.2.2.1,.sl (.id (g+2+17)) 4 (j.2.2.2.2.2.2.2.2.2.2.1.map Spell_.cells),.sl (.id (g+2+17+1)) 2 (j.2.2.2.2.2.2.2.2.2.2.2.1.map TrayPlay.cells),.i j.2.2.2.2.2.2.2.2.2.2.2.2.1,.i j.2.2.2.2.2.2.2.2.2.2.2.2.2.1]),(g+2+8,.cells (j.2.2.2.2.2.2.2.2.2.2.2.2.2.2.map cB).flatten),(g+1,.cells [.sl .nil 0 [],.sl .nil 0 [],.i 0,.i 0])] H' g'/\zhe j.1 j.2.1 j.2.2.1 j.2.2.2.1 j.2.2.2.2.1 j.2.2.2.2.2.1 j.2.2.2.2.2.2.1 j.2.2.2.2.2.2.2.1 j.2.2.2.2.2.2.2.2.1 j.2.2.2.2.2.2.2.2.2.1 j.2.2.2.2.2.2.2.2.2.2.1 j.2.2.2.2.2.2.2.2.2.2.2.1 j.2.2.2.2.2.2.2.2.2.2.2.2.1 j.2.2.2.2.2.2.2.2.2.2.2.2.2.1 j.2.2.2.2.2.2.2.2.2.2.2.2.2.2=some r) ?_ ?_
  ·rintro ⟨v6,v7,v8,v9,v10,v11,v12,v13,v14,v15,v16,v17,v18,v19,v20⟩ H g1 ⟨hS,hM⟩
   change wpA _ _ _ _ (Fr.of [(2,.ptr (g+1) 0),(3,.ptr (g+2+15) 0)]) _ _
   replace hS:St (·<g) H0 [(g+2+17+1,.row 71 v17.length),(g+2+17,.row 160 v16.length),(g+2+15,.cells [.sl .no 2 (v6.map TrayRecord.cells),.i v7,.i v8,.i v9,.sl .no 2 (v10.map TrayPress.cells),.sl .no 2 (v11.map TrayPress.cells),.ms (g+2+8) 0 1 (2*v6.length) (2*v6.length),.i v12,.i v13,.i v14,.i v15,.sl (.id (g+2+17)) 4 (v16.map Spell_.cells),.sl (.id (g+2+17+1)) 2 (v17.map TrayPlay.cells),.i v18,.i v19]),(g+2+8,.cells (v20.map cB).flatten),(g+1,.cells [.sl .nil 0 [],.sl .nil 0 [],.i 0,.i 0])] H g1:=hS
   replace hM:zhe v6 v7 v8 v9 v10 v11 v12 v13 v14 v15 v16 v17 v18 v19 v20=some r:=hM
   refine Sq ?_
   refine Rg 5 ?_
   refine Om (.ptr (g+2+15) 0) ?_
   refine zbT (by decide) rfl ?_
   refine zag (by decide) zex rfl ?_
   refine zaG (v:=.agg [.sl (.id (g+2+17)) 4 (v16.map Spell_.cells),.sl (.id (g+2+17+1)) 2 (v17.map TrayPlay.cells),.i v18,.i v19]) 2 hS (by decide) rfl rfl .no (pg zih) ?_
   refine zaM (v:=.agg [.sl (.id (g+2+17)) 4 (v16.map Spell_.cells),.sl (.id (g+2+17+1)) 2 (v17.map TrayPlay.cells),.i v18,.i v19]) (ns:=[.sl (.id (g+2+17)) 4 (v16.map Spell_.cells),.sl (.id (g+2+17+1)) 2 (v17.map TrayPlay.cells),.i v18,.i v19]) (L':=[(g+2+17+1,.row 71 v17.length),(g+2+17,.row 160 v16.length),(g+2+15,.cells [.sl .no 2 (v6.map TrayRecord.cells),.i v7,.i v8,.i v9,.sl .no 2 (v10.map TrayPress.cells),.sl .no 2 (v11.map TrayPress.cells),.ms (g+2+8) 0 1 (2*v6.length) (2*v6.length),.i v12,.i v13,.i v14,.i v15,.sl (.id (g+2+17)) 4 (v16.map Spell_.cells),.sl (.id (g+2+17+1)) 2 (v17.map TrayPlay.cells),.i v18,.i v19]),(g+2+8,.cells (v20.map cB).flatten),(g+1,.cells [.sl (.id (g+2+17)) 4 (v16.map Spell_.cells),.sl (.id (g+2+17+1)) 2 (v17.map TrayPlay.cells),.i v18,.i v19])]) 4 hS rfl rfl .no rfl rfl zlB nlb rfl fun H hS=>?_
   refine Ni ?_
   replace hS:=hS.keep (L':=[(g+2+17+1,.row 71 v17.length),(g+2+17,.row 160 v16.length),(g+1,.cells [.sl (.id (g+2+17)) 4 (v16.map Spell_.cells),.sl (.id (g+2+17+1)) 2 (v17.map TrayPlay.cells),.i v18,.i v19])]) [true,true,false,false,true] rfl
   refine Ws ?_
   refine zaQ ?_
   refine za7 (x:=.agg [.sl (.id (g+2+17)) 4 (v16.map Spell_.cells),.sl (.id (g+2+17+1)) 2 (v17.map TrayPlay.cells),.i v18,.i v19]) (f:=fun r=>.agg [.sl .no 4 (r.spells.map Spell_.cells),.sl .no 2 (r.plays.map TrayPlay.cells),.i r.steps,.i r.end_]) (.inr rfl) ?_ (.aggL (.cons (.sl _ _ _) (.cons (.sl _ _ _) (.k (.k .nil))))) (Option.some.inj hM) hS
   exact (zaw (zei (x:=.agg [.sl (.id (g+2+17)) 4 (v16.map Spell_.cells),.sl (.id (g+2+17+1)) 2 (v17.map TrayPlay.cells),.i v18,.i v19]) 2 hS rfl rfl (pg zih)))
  ·refine zaz ?_
   refine zcx (V:=(List TrayRecord)×Int×Int×Int×(List TrayPress)×(List TrayPress)×Int×Int×Int×Int×(List Spell_)×(List TrayPlay)×Int×Int×(List Bool)) (fun v=>[(2,.ptr (g+1) 0),(3,.ptr (g+2+15) 0)]) (fun v m3 H' g'=>St (·<g) H0 [(g+2+17+1,.row 71 v.2.2.2.2.2.2.2.2.2.2.2.1.length),(g+2+17,.row 160 v.2.2.2.2.2.2.2.2.2.2.1.length),(g+2+15,.cells [.sl .no 2 (v.1.map TrayRecord.cells),.i v.2.1,.i v.2.2.1,.i v.2.2.2.1,.sl .no 2 (v.2.2.2.2.1.map TrayPress.cells),.sl .no 2 (v.2.2.2.2.2.1.map TrayPress.cells),.ms (g+2+8) 0 1 (2*v.1.length) (2*v.1.length),.i v.2.2.2.2.2.2.1,.i v.2.2.2.2.2.2.2.1,.i v.2.2.2.2.2.2.2.2.1,.i v.2.2.2.2.2.2.2.2.2.1,.sl (.id (g+2+17)) 4 (v.2.2.2.2.2.2.2.2.2.2.1.map Spell_.cells),.sl (.id (g+2+17+1)) 2 (v.2.2.2.2.2.2.2.2.2.2.2.1.map TrayPlay.cells),.i v.2.2.2.2.2.2.2.2.2.2.2.2.1,.i v.2.2.2.2.2.2.2.2.2.2.2.2.2.1]),(g+2+8,.cells (v.2.2.2.2.2.2.2.2.2.2.2.2.2.2.map cB).flatten),(g+1,.cells [.sl .nil 0 [],.sl .nil 0 [],.i 0,.i 0])] H' g'/\zd4 n m3 v.1 v.2.1 v.2.2.1 v.2.2.2.1 v.2.2.2.2.1 v.2.2.2.2.2.1 v.2.2.2.2.2.2.1 v.2.2.2.2.2.2.2.1 v.2.2.2.2.2.2.2.2.1 v.2.2.2.2.2.2.2.2.2.1 v.2.2.2.2.2.2.2.2.2.2.1 v.2.2.2.2.2.2.2.2.2.2.2.1 v.2.2.2.2.2.2.2.2.2.2.2.2.1 v.2.2.2.2.2.2.2.2.2.2.2.2.2.1 v.2.2.2.2.2.2.2.2.2.2.2.2.2.2=some r) (n:=n) (r5.2.t.Records,r5.2.t.At,r5.2.t.Way,r5.2.t.Step,r5.2.t.Presses,r5.2.queue,r5.2.now,r5.2.at_.At,r5.2.at_.Way,r5.2.at_.Side,r5.2.run.spells,r5.2.run.plays,r5.2.run.steps,r5.2.run.end_,r5.2.pins) (.k (.k .nil)) ⟨(hS.keep [true,true,true,true,true] rfl).up (by omega),hM⟩ ?_
   rintro ⟨v21,v22,v23,v24,v25,v26,v27,v28,v29,v30,v31,v32,v33,v34,v35⟩ m3 H g3 ⟨hS,hM⟩
   obtain _ | m3:=m3
   ·exact nomatch (show none=some _ from hM)
   change wpA _ _ _ _ (Fr.of [(2,.ptr (g+1) 0),(3,.ptr (g+2+15) 0)]) _ _
   replace hS:St (·<g) H0 [(g+2+17+1,.row 71 v32.length),(g+2+17,.row 160 v31.length),(g+2+15,.cells [.sl .no 2 (v21.map TrayRecord.cells),.i v22,.i v23,.i v24,.sl .no 2 (v25.map TrayPress.cells),.sl .no 2 (v26.map TrayPress.cells),.ms (g+2+8) 0 1 (2*v21.length) (2*v21.length),.i v27,.i v28,.i v29,.i v30,.sl (.id (g+2+17)) 4 (v31.map Spell_.cells),.sl (.id (g+2+17+1)) 2 (v32.map TrayPlay.cells),.i v33,.i v34]),(g+2+8,.cells (v35.map cB).flatten),(g+1,.cells [.sl .nil 0 [],.sl .nil 0 [],.i 0,.i 0])] H g3:=hS
   replace hM:zgn n (zd4 n m3) v21 v22 v23 v24 v25 v26 v27 v28 v29 v30 v31 v32 v33 v34 v35=some r:=hM
   refine Sq ?_
   refine Sq ?_
   refine Rg 2 ?_
   refine Om (.ptr (g+2+15) 0) ?_
   obtain ⟨r36,hr36,hM⟩:=zas hM
   have hndr36:=hS.nd_at (ns:=[2,3,1,0]) (M:=[(g+2+15,.cells [.sl .no 2 (v21.map TrayRecord.cells),.i v22,.i v23,.i v24,.sl .no 2 (v25.map TrayPress.cells),.sl .no 2 (v26.map TrayPress.cells),.ms (g+2+8) 0 1 (2*v21.length) (2*v21.length),.i v27,.i v28,.i v29,.i v30,.sl (.id (g+2+17)) 4 (v31.map Spell_.cells),.sl (.id (g+2+17+1)) 2 (v32.map TrayPlay.cells),.i v33,.i v34]),(g+2+8,.cells (v35.map cB).flatten),(g+2+17,.row 160 v31.length),(g+2+17+1,.row 71 v32.length)]) (M':=[(g+2+15,.cells [.sl .no 2 (r36.2.t.Records.map TrayRecord.cells),.i r36.2.t.At,.i r36.2.t.Way,.i r36.2.t.Step,.sl .no 2 (r36.2.t.Presses.map TrayPress.cells),.sl .no 2 (r36.2.queue.map TrayPress.cells),.ms (g+2+8) 0 1 (2*r36.2.t.Records.length) (2*r36.2.t.Records.length),.i r36.2.now,.i r36.2.at_.At,.i r36.2.at_.Way,.i r36.2.at_.Side,.sl (.id (g+2+17)) 4 (r36.2.run.spells.map Spell_.cells),.sl (.id (g+2+17+1)) 2 (r36.2.run.plays.map TrayPlay.cells),.i r36.2.run.steps,.i r36.2.run.end_]),(g+2+8,.cells (r36.2.pins.map cB).flatten),(g+2+17,.row 160 r36.2.run.spells.length),(g+2+17+1,.row 71 r36.2.run.plays.length)]) (.cons rfl (.cons rfl (.cons rfl (.cons rfl .nil)))) (by decide)
   refine zfx (bs:=[.ptr (g+2+15) 0]) (M:=[(g+2+15,.cells [.sl .no 2 (v21.map TrayRecord.cells),.i v22,.i v23,.i v24,.sl .no 2 (v25.map TrayPress.cells),.sl .no 2 (v26.map TrayPress.cells),.ms (g+2+8) 0 1 (2*v21.length) (2*v21.length),.i v27,.i v28,.i v29,.i v30,.sl (.id (g+2+17)) 4 (v31.map Spell_.cells),.sl (.id (g+2+17+1)) 2 (v32.map TrayPlay.cells),.i v33,.i v34]),(g+2+8,.cells (v35.map cB).flatten),(g+2+17,.row 160 v31.length),(g+2+17+1,.row 71 v32.length)]) (M':=[(g+2+15,.cells [.sl .no 2 (r36.2.t.Records.map TrayRecord.cells),.i r36.2.t.At,.i r36.2.t.Way,.i r36.2.t.Step,.sl .no 2 (r36.2.t.Presses.map TrayPress.cells),.sl .no 2 (r36.2.queue.map TrayPress.cells),.ms (g+2+8) 0 1 (2*r36.2.t.Records.length) (2*r36.2.t.Records.length),.i r36.2.now,.i r36.2.at_.At,.i r36.2.at_.Way,.i r36.2.at_.Side,.sl (.id (g+2+17)) 4 (r36.2.run.spells.map Spell_.cells),.sl (.id (g+2+17+1)) 2 (r36.2.run.plays.map TrayPlay.cells),.i r36.2.run.steps,.i r36.2.run.end_]),(g+2+8,.cells (r36.2.pins.map cB).flatten),(g+2+17,.row 160 r36.2.run.spells.length),(g+2+17+1,.row 71 r36.2.run.plays.length)]) (L':=[(g+2+17+1,.row 71 r36.2.run.plays.length),(g+2+17,.row 160 r36.2.run.spells.length),(g+2+15,.cells [.sl .no 2 (r36.2.t.Records.map TrayRecord.cells),.i r36.2.t.At,.i r36.2.t.Way,.i r36.2.t.Step,.sl .no 2 (r36.2.t.Presses.map TrayPress.cells),.sl .no 2 (r36.2.queue.map TrayPress.cells),.ms (g+2+8) 0 1 (2*r36.2.t.Records.length) (2*r36.2.t.Records.length),.i r36.2.now,.i r36.2.at_.At,.i r36.2.at_.Way,.i r36.2.at_.Side,.sl (.id (g+2+17)) 4 (r36.2.run.spells.map Spell_.cells),.sl (.id (g+2+17+1)) 2 (r36.2.run.plays.map TrayPlay.cells),.i r36.2.run.steps,.i r36.2.run.end_]),(g+2+8,.cells (r36.2.pins.map cB).flatten),(g+1,.cells [.sl .nil 0 [],.sl .nil 0 [],.i 0,.i 0])]) [2,3,1,0] (.inl rfl) hS (by decide) rfl rfl ((zf5 (p1:=g+2+15) (w10:=g+2+8) (w11:=g+2+17) (w12:=g+2+17+1) hndr36 hr36).le (.k .nil)) (.cons rfl (.cons rfl (.cons rfl (.cons rfl .nil)))) rfl (by omega) fun H hS=>?_
   refine Ni ?_
   refine Ws ?_
   rcases bft r36.1 with hb37 | hb37
   ·replace hM:=ifT hM hb37
    refine Ct hb37 ?_
    refine zaC ?_
    refine Ws ?_
    refine zaz ?_
    refine zaC ?_
    refine zah ?_
    exact zbF (r36.2.t.Records,r36.2.t.At,r36.2.t.Way,r36.2.t.Step,r36.2.t.Presses,r36.2.queue,r36.2.now,r36.2.at_.At,r36.2.at_.Way,r36.2.at_.Side,r36.2.run.spells,r36.2.run.plays,r36.2.run.steps,r36.2.run.end_,r36.2.pins) (Nat.lt_succ_self _) (.k (.k .nil)) ⟨(hS.keep [true,true,true,true,true] rfl).up (by omega),hM⟩
   ·replace hM:=ifF hM hb37
    refine Cf hb37 ?_
    refine zcp ?_
    refine zay ?_
    refine zau ?_
    refine zaD ?_
    exact zak (r36.2.t.Records,r36.2.t.At,r36.2.t.Way,r36.2.t.Step,r36.2.t.Presses,r36.2.queue,r36.2.now,r36.2.at_.At,r36.2.at_.Way,r36.2.at_.Side,r36.2.run.spells,r36.2.run.plays,r36.2.run.steps,r36.2.run.end_,r36.2.pins) (.k (.k .nil)) ⟨(hS.keep [true,true,true,true,true] rfl).up (by omega),hM⟩
 ·replace hM:=ifF hM hb2
  refine zrC (f:=TrayPress.cells) (us:=r1) (mk:=(fun s=>s)) (k:=2) (e:=55) (bs:=[.sl .no 2 (a0.Presses.map TrayPress.cells)]) hS (by decide) rfl rfl ((zmQ.of_fresh (zec hr1)).le (.k .nil)) zsG (zac (.sl _ _ (zav (fun x=>(zac (.v _) (zac (.v _) zaE))))) zaE) (zmT (fun x=>(zhT (zhT zmS)))) hb2 (by omega) fun H hS=>?_
  refine Of ((Tray.cells a0)) zbY ?_
  refine Olp (.sl .no 2 (a0.Records.map TrayRecord.cells)) zcP zdB ?_
  refine zcg (n:=a0.Records.length) (by decide) rfl (List.length_map _) zdM ?_
  refine Oi (.i (w64 (2*(a0.Records.length:Int)))) ?_
  obtain ⟨l38,hl38,hM⟩:=zas hM
  refine zoZ (f:=cB) (z:=(w64 (2*(a0.Records.length:Int)))) (n:=(2*a0.Records.length)) (us:=l38) hS (by decide) rfl rfl hl38 rfl zhz zm3 zmX zm4 (by omega) fun H hS=>?_
  refine Of ((Tray.cells a0)) zhj ?_
  refine Olp (.i a0.At) zaf zap ?_
  refine Of ((Tray.cells a0)) zgv ?_
  refine Olp (.i a0.Way) zaf zap ?_
  refine zdb (cs:=[.i a0.At,.i a0.Way,.i (-1)]) (by decide) zkr zm5 rfl ?_
  refine zdb (cs:=[.sl .no 2 (a0.Records.map TrayRecord.cells),.i a0.At,.i a0.Way,.i a0.Step,.sl .no 2 (a0.Presses.map TrayPress.cells),.ms (g+2+3) 0 2 r1.length r1.length,.ms (g+2+8) 0 1 (2*a0.Records.length) (2*a0.Records.length),.i 0,.i a0.At,.i a0.Way,.i (-1),.sl .nil 0 [],.sl .nil 0 [],.i 0,.i 0]) (by decide) zks zm6 rfl ?_
  refine zd2 (v:=.agg [.sl .no 2 (a0.Records.map TrayRecord.cells),.i a0.At,.i a0.Way,.i a0.Step,.sl .no 2 (a0.Presses.map TrayPress.cells),.ms (g+2+3) 0 2 r1.length r1.length,.ms (g+2+8) 0 1 (2*a0.Records.length) (2*a0.Records.length),.i 0,.i a0.At,.i a0.Way,.i (-1),.sl .nil 0 [],.sl .nil 0 [],.i 0,.i 0]) (cs:=[.sl .no 2 (a0.Records.map TrayRecord.cells),.i a0.At,.i a0.Way,.i a0.Step,.sl .no 2 (a0.Presses.map TrayPress.cells),.ms (g+2+3) 0 2 r1.length r1.length,.ms (g+2+8) 0 1 (2*a0.Records.length) (2*a0.Records.length),.i 0,.i a0.At,.i a0.Way,.i (-1),.sl .nil 0 [],.sl .nil 0 [],.i 0,.i 0]) hS (by decide) rfl rfl (by omega) fun H hS=>?_
  refine Oa (.ptr (g+2+15) 0) ?_
  refine Ni ?_
  refine zha (cs':=[.sl .no 2 (a0.Records.map TrayRecord.cells),.i a0.At,.i a0.Way,.i a0.Step,.sl .no 2 (a0.Presses.map TrayPress.cells),.ms (g+2+3) 0 2 r1.length r1.length,.ms (g+2+8) 0 1 (2*a0.Records.length) (2*a0.Records.length),.i 0,.i a0.At,.i a0.Way,.i (-1),.sl (.id (g+2+17)) 4 (([]:List Spell_).map Spell_.cells),.sl .nil 0 [],.i 0,.i 0]) (L':=[(g+2+15,.cells [.sl .no 2 (a0.Records.map TrayRecord.cells),.i a0.At,.i a0.Way,.i a0.Step,.sl .no 2 (a0.Presses.map TrayPress.cells),.ms (g+2+3) 0 2 r1.length r1.length,.ms (g+2+8) 0 1 (2*a0.Records.length) (2*a0.Records.length),.i 0,.i a0.At,.i a0.Way,.i (-1),.sl (.id (g+2+17)) 4 (([]:List Spell_).map Spell_.cells),.sl .nil 0 [],.i 0,.i 0]),(g+2+8,.cells (l38.map cB).flatten),(g+2+3,.cells (r1.map TrayPress.cells).flatten),(g+1,.cells [.sl .nil 0 [],.sl .nil 0 [],.i 0,.i 0])]) 0 11 4 160 hS (by omega) (by decide) rfl rfl rfl rfl fun H hS=>?_
  refine zha (cs':=[.sl .no 2 (a0.Records.map TrayRecord.cells),.i a0.At,.i a0.Way,.i a0.Step,.sl .no 2 (a0.Presses.map TrayPress.cells),.ms (g+2+3) 0 2 r1.length r1.length,.ms (g+2+8) 0 1 (2*a0.Records.length) (2*a0.Records.length),.i 0,.i a0.At,.i a0.Way,.i (-1),.sl (.id (g+2+17)) 4 (([]:List Spell_).map Spell_.cells),.sl (.id (g+2+17+1)) 2 (([]:List TrayPlay).map TrayPlay.cells),.i 0,.i 0]) (L':=[(g+2+17,.row 160 0),(g+2+15,.cells [.sl .no 2 (a0.Records.map TrayRecord.cells),.i a0.At,.i a0.Way,.i a0.Step,.sl .no 2 (a0.Presses.map TrayPress.cells),.ms (g+2+3) 0 2 r1.length r1.length,.ms (g+2+8) 0 1 (2*a0.Records.length) (2*a0.Records.length),.i 0,.i a0.At,.i a0.Way,.i (-1),.sl (.id (g+2+17)) 4 (([]:List Spell_).map Spell_.cells),.sl (.id (g+2+17+1)) 2 (([]:List TrayPlay).map TrayPlay.cells),.i 0,.i 0]),(g+2+8,.cells (l38.map cB).flatten),(g+2+3,.cells (r1.map TrayPress.cells).flatten),(g+1,.cells [.sl .nil 0 [],.sl .nil 0 [],.i 0,.i 0])]) 1 12 2 71 hS (by omega) (by decide) rfl rfl rfl rfl fun H hS=>?_
  refine Ws ?_
  refine Sq ?_
  refine Rg 5 ?_
  refine Om (.ptr (g+2+15) 0) ?_
  refine zbT (by decide) rfl ?_
  refine zag (by decide) zeu rfl ?_
  refine zaG (v:=.ms (g+2+3) 0 2 r1.length r1.length) 2 hS (by decide) rfl rfl .no (po zcW zdN) ?_
  obtain ⟨r39,hr39,hM⟩:=zas hM
  have hndr39:=hS.nd_at (ns:=[4]) (M:=[(g+2+3,.cells (r1.map TrayPress.cells).flatten)]) (M':=[(g+2+3,.cells (r39.2.1.map TrayPress.cells).flatten)]) (.cons rfl .nil) (by decide)
  refine zfx (bs:=[.ms (g+2+3) 0 2 r1.length r1.length,.fn (.func 68) [] []]) (M:=[(g+2+3,.cells (r1.map TrayPress.cells).flatten)]) (M':=[(g+2+3,.cells (r39.2.1.map TrayPress.cells).flatten)]) (L':=[(g+2+17+1,.row 71 0),(g+2+17,.row 160 0),(g+2+15,.cells [.sl .no 2 (a0.Records.map TrayRecord.cells),.i a0.At,.i a0.Way,.i a0.Step,.sl .no 2 (a0.Presses.map TrayPress.cells),.ms (g+2+3) 0 2 r1.length r1.length,.ms (g+2+8) 0 1 (2*a0.Records.length) (2*a0.Records.length),.i 0,.i a0.At,.i a0.Way,.i (-1),.sl (.id (g+2+17)) 4 (([]:List Spell_).map Spell_.cells),.sl (.id (g+2+17+1)) 2 (([]:List TrayPlay).map TrayPlay.cells),.i 0,.i 0]),(g+2+8,.cells (l38.map cB).flatten),(g+2+3,.cells (r39.2.1.map TrayPress.cells).flatten),(g+1,.cells [.sl .nil 0 [],.sl .nil 0 [],.i 0,.i 0])]) [4] (.inl rfl) hS (by decide) rfl rfl ((zeN (Lo:=(fun (_:Unit)=>[])) (p1:=g+2+3) (fun _ _=>zeF) (fun _=>hndr39) (fun _=>ze2) (aF:=(fun (x0:TrayPress) (x1:TrayPress) (_:Unit)=>(zgg x0 x1).map fun y=>(y,()))) (fun _ H hH=>(.fn _ _ _ zgd zgd)) rfl (fun h=>zmV (zjX (zia h))) hr39).le (.k (.k .nil))) (.cons rfl .nil) rfl (by omega) fun H hS=>?_
  refine Ni ?_
  obtain ⟨x40,hx40,hM⟩:=zas hM
  refine zsN (p:=5) (k:=2) (es:=r39.2.1.map TrayPress.cells) (cs':=[.sl .no 2 (a0.Records.map TrayRecord.cells),.i a0.At,.i a0.Way,.i a0.Step,.sl .no 2 (a0.Presses.map TrayPress.cells),.sl .no 2 (r39.2.1.map TrayPress.cells),.ms (g+2+8) 0 1 (2*a0.Records.length) (2*a0.Records.length),.i 0,.i a0.At,.i a0.Way,.i (-1),.sl (.id (g+2+17)) 4 (([]:List Spell_).map Spell_.cells),.sl (.id (g+2+17+1)) 2 (([]:List TrayPlay).map TrayPlay.cells),.i 0,.i 0]) (L':=[(g+2+17+1,.row 71 0),(g+2+17,.row 160 0),(g+2+15,.cells [.sl .no 2 (a0.Records.map TrayRecord.cells),.i a0.At,.i a0.Way,.i a0.Step,.sl .no 2 (a0.Presses.map TrayPress.cells),.sl .no 2 (r39.2.1.map TrayPress.cells),.ms (g+2+8) 0 1 (2*a0.Records.length) (2*a0.Records.length),.i 0,.i a0.At,.i a0.Way,.i (-1),.sl (.id (g+2+17)) 4 (([]:List Spell_).map Spell_.cells),.sl (.id (g+2+17+1)) 2 (([]:List TrayPlay).map TrayPlay.cells),.i 0,.i 0]),(g+2+8,.cells (l38.map cB).flatten),(g+1,.cells [.sl .nil 0 [],.sl .nil 0 [],.i 0,.i 0])]) 2 4 hS rfl rfl rfl (zmW hx40) (zqf hx40) (by decide) (zmU (fun _=>rfl)) (zmT (fun x=>(zhT (zhT zmS)))) rfl rfl fun H hS=>?_
  refine Ws ?_
  refine Sq ?_
  refine Rg 2 ?_
  refine Om (.ptr (g+2+15) 0) ?_
  obtain ⟨r41,hr41,hM⟩:=zas hM
  have hndr41:=hS.nd_at (ns:=[2,3,1,0]) (M:=[(g+2+15,.cells [.sl .no 2 (a0.Records.map TrayRecord.cells),.i a0.At,.i a0.Way,.i a0.Step,.sl .no 2 (a0.Presses.map TrayPress.cells),.sl .no 2 (r39.2.1.map TrayPress.cells),.ms (g+2+8) 0 1 (2*a0.Records.length) (2*a0.Records.length),.i 0,.i a0.At,.i a0.Way,.i (-1),.sl (.id (g+2+17)) 4 (([]:List Spell_).map Spell_.cells),.sl (.id (g+2+17+1)) 2 (([]:List TrayPlay).map TrayPlay.cells),.i 0,.i 0]),(g+2+8,.cells (l38.map cB).flatten),(g+2+17,.row 160 0),(g+2+17+1,.row 71 0)]) (M':=[(g+2+15,.cells [.sl .no 2 (r41.2.t.Records.map TrayRecord.cells),.i r41.2.t.At,.i r41.2.t.Way,.i r41.2.t.Step,.sl .no 2 (r41.2.t.Presses.map TrayPress.cells),.sl .no 2 (r41.2.queue.map TrayPress.cells),.ms (g+2+8) 0 1 (2*r41.2.t.Records.length) (2*r41.2.t.Records.length),.i r41.2.now,.i r41.2.at_.At,.i r41.2.at_.Way,.i r41.2.at_.Side,.sl (.id (g+2+17)) 4 (r41.2.run.spells.map Spell_.cells),.sl (.id (g+2+17+1)) 2 (r41.2.run.plays.map TrayPlay.cells),.i r41.2.run.steps,.i r41.2.run.end_]),(g+2+8,.cells (r41.2.pins.map cB).flatten),(g+2+17,.row 160 r41.2.run.spells.length),(g+2+17+1,.row 71 r41.2.run.plays.length)]) (.cons rfl (.cons rfl (.cons rfl (.cons rfl .nil)))) (by decide)
  refine zfx (bs:=[.ptr (g+2+15) 0,.i (-1)]) (M:=[(g+2+15,.cells [.sl .no 2 (a0.Records.map TrayRecord.cells),.i a0.At,.i a0.Way,.i a0.Step,.sl .no 2 (a0.Presses.map TrayPress.cells),.sl .no 2 (r39.2.1.map TrayPress.cells),.ms (g+2+8) 0 1 (2*a0.Records.length) (2*a0.Records.length),.i 0,.i a0.At,.i a0.Way,.i (-1),.sl (.id (g+2+17)) 4 (([]:List Spell_).map Spell_.cells),.sl (.id (g+2+17+1)) 2 (([]:List TrayPlay).map TrayPlay.cells),.i 0,.i 0]),(g+2+8,.cells (l38.map cB).flatten),(g+2+17,.row 160 0),(g+2+17+1,.row 71 0)]) (M':=[(g+2+15,.cells [.sl .no 2 (r41.2.t.Records.map TrayRecord.cells),.i r41.2.t.At,.i r41.2.t.Way,.i r41.2.t.Step,.sl .no 2 (r41.2.t.Presses.map TrayPress.cells),.sl .no 2 (r41.2.queue.map TrayPress.cells),.ms (g+2+8) 0 1 (2*r41.2.t.Records.length) (2*r41.2.t.Records.length),.i r41.2.now,.i r41.2.at_.At,.i r41.2.at_.Way,.i r41.2.at_.Side,.sl (.id (g+2+17)) 4 (r41.2.run.spells.map Spell_.cells),.sl (.id (g+2+17+1)) 2 (r41.2.run.plays.map TrayPlay.cells),.i r41.2.run.steps,.i r41.2.run.end_]),(g+2+8,.cells (r41.2.pins.map cB).flatten),(g+2+17,.row 160 r41.2.run.spells.length),(g+2+17+1,.row 71 r41.2.run.plays.length)]) (L':=[(g+2+17+1,.row 71 r41.2.run.plays.length),(g+2+17,.row 160 r41.2.run.spells.length),(g+2+15,.cells [.sl .no 2 (r41.2.t.Records.map TrayRecord.cells),.i r41.2.t.At,.i r41.2.t.Way,.i r41.2.t.Step,.sl .no 2 (r41.2.t.Presses.map TrayPress.cells),.sl .no 2 (r41.2.queue.map TrayPress.cells),.ms (g+2+8) 0 1 (2*r41.2.t.Records.length) (2*r41.2.t.Records.length),.i r41.2.now,.i r41.2.at_.At,.i r41.2.at_.Way,.i r41.2.at_.Side,.sl (.id (g+2+17)) 4 (r41.2.run.spells.map Spell_.cells),.sl (.id (g+2+17+1)) 2 (r41.2.run.plays.map TrayPlay.cells),.i r41.2.run.steps,.i r41.2.run.end_]),(g+2+8,.cells (r41.2.pins.map cB).flatten),(g+1,.cells [.sl .nil 0 [],.sl .nil 0 [],.i 0,.i 0])]) [2,3,1,0] (.inl rfl) hS (by decide) rfl rfl ((zcS (p1:=g+2+15) (w10:=g+2+8) (w11:=g+2+17) (w12:=g+2+17+1) hndr41 hr41).le (.k (.k .nil))) (.cons rfl (.cons rfl (.cons rfl (.cons rfl .nil)))) rfl (by omega) fun H hS=>?_
  refine Ni ?_
  refine Ws ?_
  refine zaO (J:=(List TrayRecord)×Int×Int×Int×(List TrayPress)×(List TrayPress)×Int×Int×Int×Int×(List Spell_)×(List TrayPlay)×Int×Int×(List Bool)) (fun j=>[(2,.ptr (g+1) 0),(3,.ptr (g+2+15) 0)]) (fun j H' g'=>St (·<g) H0 [(g+2+17+1,.row 71 j.2.2.2.2.2.2.2.2.2.2.2.1.length),(g+2+17,.row 160 j.2.2.2.2.2.2.2.2.2.2.1.length),(g+2+15,.cells [.sl .no 2 (j.1.map TrayRecord.cells),.i j.2.1,.i j.2.2.1,.i j.2.2.2.1,.sl .no 2 (j.2.2.2.2.1.map TrayPress.cells),.sl .no 2 (j.2.2.2.2.2.1.map TrayPress.cells),.ms (g+2+8) 0 1 (2*j.1.length) (2*j.1.length),.i j.2.2.2.2.2.2.1,.i j.2.2.2.2.2.2.2.1,.i j.2.2.2.2.2.2.2.2.1,.i j.2.2.2.2.2.2.2.2.2.1,.sl (.id (g+2+17)) 4 (j.2.2.2.2.2.2.2.2.2.2.1.map Spell_.cells),.sl (.id (g+2+17+1)) 2 (j.2.2.2.2.2.2.2.2.2.2.2.1.map TrayPlay.cells),.i j.2.2.2.2.2.2.2.2.2.2.2.2.1,.i j.2.2.2.2.2.2.2.2.2.2.2.2.2.1]),(g+2+8,.cells (j.2.2.2.2.2.2.2.2.2.2.2.2.2.2.map cB).flatten),(g+1,.cells [.sl .nil 0 [],.sl .nil 0 [],.i 0,.i 0])] H' g'/\zhf j.1 j.2.1 j.2.2.1 j.2.2.2.1 j.2.2.2.2.1 j.2.2.2.2.2.1 j.2.2.2.2.2.2.1 j.2.2.2.2.2.2.2.1 j.2.2.2.2.2.2.2.2.1 j.2.2.2.2.2.2.2.2.2.1 j.2.2.2.2.2.2.2.2.2.2.1 j.2.2.2.2.2.2.2.2.2.2.2.1 j.2.2.2.2.2.2.2.2.2.2.2.2.1 j.2.2.2.2.2.2.2.2.2.2.2.2.2.1 j.2.2.2.2.2.2.2.2.2.2.2.2.2.2=some r) ?_ ?_
  ·rintro ⟨v42,v43,v44,v45,v46,v47,v48,v49,v50,v51,v52,v53,v54,v55,v56⟩ H g4 ⟨hS,hM⟩
   change wpA _ _ _ _ (Fr.of [(2,.ptr (g+1) 0),(3,.ptr (g+2+15) 0)]) _ _
   replace hS:St (·<g) H0 [(g+2+17+1,.row 71 v53.length),(g+2+17,.row 160 v52.length),(g+2+15,.cells [.sl .no 2 (v42.map TrayRecord.cells),.i v43,.i v44,.i v45,.sl .no 2 (v46.map TrayPress.cells),.sl .no 2 (v47.map TrayPress.cells),.ms (g+2+8) 0 1 (2*v42.length) (2*v42.length),.i v48,.i v49,.i v50,.i v51,.sl (.id (g+2+17)) 4 (v52.map Spell_.cells),.sl (.id (g+2+17+1)) 2 (v53.map TrayPlay.cells),.i v54,.i v55]),(g+2+8,.cells (v56.map cB).flatten),(g+1,.cells [.sl .nil 0 [],.sl .nil 0 [],.i 0,.i 0])] H g4:=hS
   replace hM:zhf v42 v43 v44 v45 v46 v47 v48 v49 v50 v51 v52 v53 v54 v55 v56=some r:=hM
   refine Sq ?_
   refine Rg 5 ?_
   refine Om (.ptr (g+2+15) 0) ?_
   refine zbT (by decide) rfl ?_
   refine zag (by decide) zex rfl ?_
   refine zaG (v:=.agg [.sl (.id (g+2+17)) 4 (v52.map Spell_.cells),.sl (.id (g+2+17+1)) 2 (v53.map TrayPlay.cells),.i v54,.i v55]) 2 hS (by decide) rfl rfl .no (pg zih) ?_
   refine zaM (v:=.agg [.sl (.id (g+2+17)) 4 (v52.map Spell_.cells),.sl (.id (g+2+17+1)) 2 (v53.map TrayPlay.cells),.i v54,.i v55]) (ns:=[.sl (.id (g+2+17)) 4 (v52.map Spell_.cells),.sl (.id (g+2+17+1)) 2 (v53.map TrayPlay.cells),.i v54,.i v55]) (L':=[(g+2+17+1,.row 71 v53.length),(g+2+17,.row 160 v52.length),(g+2+15,.cells [.sl .no 2 (v42.map TrayRecord.cells),.i v43,.i v44,.i v45,.sl .no 2 (v46.map TrayPress.cells),.sl .no 2 (v47.map TrayPress.cells),.ms (g+2+8) 0 1 (2*v42.length) (2*v42.length),.i v48,.i v49,.i v50,.i v51,.sl (.id (g+2+17)) 4 (v52.map Spell_.cells),.sl (.id (g+2+17+1)) 2 (v53.map TrayPlay.cells),.i v54,.i v55]),(g+2+8,.cells (v56.map cB).flatten),(g+1,.cells [.sl (.id (g+2+17)) 4 (v52.map Spell_.cells),.sl (.id (g+2+17+1)) 2 (v53.map TrayPlay.cells),.i v54,.i v55])]) 4 hS rfl rfl .no rfl rfl zlB nlb rfl fun H hS=>?_
   refine Ni ?_
   replace hS:=hS.keep (L':=[(g+2+17+1,.row 71 v53.length),(g+2+17,.row 160 v52.length),(g+1,.cells [.sl (.id (g+2+17)) 4 (v52.map Spell_.cells),.sl (.id (g+2+17+1)) 2 (v53.map TrayPlay.cells),.i v54,.i v55])]) [true,true,false,false,true] rfl
   refine Ws ?_
   refine zaQ ?_
   refine za7 (x:=.agg [.sl (.id (g+2+17)) 4 (v52.map Spell_.cells),.sl (.id (g+2+17+1)) 2 (v53.map TrayPlay.cells),.i v54,.i v55]) (f:=fun r=>.agg [.sl .no 4 (r.spells.map Spell_.cells),.sl .no 2 (r.plays.map TrayPlay.cells),.i r.steps,.i r.end_]) (.inr rfl) ?_ (.aggL (.cons (.sl _ _ _) (.cons (.sl _ _ _) (.k (.k .nil))))) (Option.some.inj hM) hS
   exact (zaw (zei (x:=.agg [.sl (.id (g+2+17)) 4 (v52.map Spell_.cells),.sl (.id (g+2+17+1)) 2 (v53.map TrayPlay.cells),.i v54,.i v55]) 2 hS rfl rfl (pg zih)))
  ·refine zaz ?_
   refine zcx (V:=(List TrayRecord)×Int×Int×Int×(List TrayPress)×(List TrayPress)×Int×Int×Int×Int×(List Spell_)×(List TrayPlay)×Int×Int×(List Bool)) (fun v=>[(2,.ptr (g+1) 0),(3,.ptr (g+2+15) 0)]) (fun v m6 H' g'=>St (·<g) H0 [(g+2+17+1,.row 71 v.2.2.2.2.2.2.2.2.2.2.2.1.length),(g+2+17,.row 160 v.2.2.2.2.2.2.2.2.2.2.1.length),(g+2+15,.cells [.sl .no 2 (v.1.map TrayRecord.cells),.i v.2.1,.i v.2.2.1,.i v.2.2.2.1,.sl .no 2 (v.2.2.2.2.1.map TrayPress.cells),.sl .no 2 (v.2.2.2.2.2.1.map TrayPress.cells),.ms (g+2+8) 0 1 (2*v.1.length) (2*v.1.length),.i v.2.2.2.2.2.2.1,.i v.2.2.2.2.2.2.2.1,.i v.2.2.2.2.2.2.2.2.1,.i v.2.2.2.2.2.2.2.2.2.1,.sl (.id (g+2+17)) 4 (v.2.2.2.2.2.2.2.2.2.2.1.map Spell_.cells),.sl (.id (g+2+17+1)) 2 (v.2.2.2.2.2.2.2.2.2.2.2.1.map TrayPlay.cells),.i v.2.2.2.2.2.2.2.2.2.2.2.2.1,.i v.2.2.2.2.2.2.2.2.2.2.2.2.2.1]),(g+2+8,.cells (v.2.2.2.2.2.2.2.2.2.2.2.2.2.2.map cB).flatten),(g+1,.cells [.sl .nil 0 [],.sl .nil 0 [],.i 0,.i 0])] H' g'/\ze0 n m6 v.1 v.2.1 v.2.2.1 v.2.2.2.1 v.2.2.2.2.1 v.2.2.2.2.2.1 v.2.2.2.2.2.2.1 v.2.2.2.2.2.2.2.1 v.2.2.2.2.2.2.2.2.1 v.2.2.2.2.2.2.2.2.2.1 v.2.2.2.2.2.2.2.2.2.2.1 v.2.2.2.2.2.2.2.2.2.2.2.1 v.2.2.2.2.2.2.2.2.2.2.2.2.1 v.2.2.2.2.2.2.2.2.2.2.2.2.2.1 v.2.2.2.2.2.2.2.2.2.2.2.2.2.2=some r) (n:=n) (r41.2.t.Records,r41.2.t.At,r41.2.t.Way,r41.2.t.Step,r41.2.t.Presses,r41.2.queue,r41.2.now,r41.2.at_.At,r41.2.at_.Way,r41.2.at_.Side,r41.2.run.spells,r41.2.run.plays,r41.2.run.steps,r41.2.run.end_,r41.2.pins) (.k (.k .nil)) ⟨(hS.keep [true,true,true,true,true] rfl).up (by omega),hM⟩ ?_
   rintro ⟨v57,v58,v59,v60,v61,v62,v63,v64,v65,v66,v67,v68,v69,v70,v71⟩ m6 H g6 ⟨hS,hM⟩
   obtain _ | m6:=m6
   ·exact nomatch (show none=some _ from hM)
   change wpA _ _ _ _ (Fr.of [(2,.ptr (g+1) 0),(3,.ptr (g+2+15) 0)]) _ _
   replace hS:St (·<g) H0 [(g+2+17+1,.row 71 v68.length),(g+2+17,.row 160 v67.length),(g+2+15,.cells [.sl .no 2 (v57.map TrayRecord.cells),.i v58,.i v59,.i v60,.sl .no 2 (v61.map TrayPress.cells),.sl .no 2 (v62.map TrayPress.cells),.ms (g+2+8) 0 1 (2*v57.length) (2*v57.length),.i v63,.i v64,.i v65,.i v66,.sl (.id (g+2+17)) 4 (v67.map Spell_.cells),.sl (.id (g+2+17+1)) 2 (v68.map TrayPlay.cells),.i v69,.i v70]),(g+2+8,.cells (v71.map cB).flatten),(g+1,.cells [.sl .nil 0 [],.sl .nil 0 [],.i 0,.i 0])] H g6:=hS
   replace hM:zgo n (ze0 n m6) v57 v58 v59 v60 v61 v62 v63 v64 v65 v66 v67 v68 v69 v70 v71=some r:=hM
   refine Sq ?_
   refine Sq ?_
   refine Rg 2 ?_
   refine Om (.ptr (g+2+15) 0) ?_
   obtain ⟨r72,hr72,hM⟩:=zas hM
   have hndr72:=hS.nd_at (ns:=[2,3,1,0]) (M:=[(g+2+15,.cells [.sl .no 2 (v57.map TrayRecord.cells),.i v58,.i v59,.i v60,.sl .no 2 (v61.map TrayPress.cells),.sl .no 2 (v62.map TrayPress.cells),.ms (g+2+8) 0 1 (2*v57.length) (2*v57.length),.i v63,.i v64,.i v65,.i v66,.sl (.id (g+2+17)) 4 (v67.map Spell_.cells),.sl (.id (g+2+17+1)) 2 (v68.map TrayPlay.cells),.i v69,.i v70]),(g+2+8,.cells (v71.map cB).flatten),(g+2+17,.row 160 v67.length),(g+2+17+1,.row 71 v68.length)]) (M':=[(g+2+15,.cells [.sl .no 2 (r72.2.t.Records.map TrayRecord.cells),.i r72.2.t.At,.i r72.2.t.Way,.i r72.2.t.Step,.sl .no 2 (r72.2.t.Presses.map TrayPress.cells),.sl .no 2 (r72.2.queue.map TrayPress.cells),.ms (g+2+8) 0 1 (2*r72.2.t.Records.length) (2*r72.2.t.Records.length),.i r72.2.now,.i r72.2.at_.At,.i r72.2.at_.Way,.i r72.2.at_.Side,.sl (.id (g+2+17)) 4 (r72.2.run.spells.map Spell_.cells),.sl (.id (g+2+17+1)) 2 (r72.2.run.plays.map TrayPlay.cells),.i r72.2.run.steps,.i r72.2.run.end_]),(g+2+8,.cells (r72.2.pins.map cB).flatten),(g+2+17,.row 160 r72.2.run.spells.length),(g+2+17+1,.row 71 r72.2.run.plays.length)]) (.cons rfl (.cons rfl (.cons rfl (.cons rfl .nil)))) (by decide)
   refine zfx (bs:=[.ptr (g+2+15) 0]) (M:=[(g+2+15,.cells [.sl .no 2 (v57.map TrayRecord.cells),.i v58,.i v59,.i v60,.sl .no 2 (v61.map TrayPress.cells),.sl .no 2 (v62.map TrayPress.cells),.ms (g+2+8) 0 1 (2*v57.length) (2*v57.length),.i v63,.i v64,.i v65,.i v66,.sl (.id (g+2+17)) 4 (v67.map Spell_.cells),.sl (.id (g+2+17+1)) 2 (v68.map TrayPlay.cells),.i v69,.i v70]),(g+2+8,.cells (v71.map cB).flatten),(g+2+17,.row 160 v67.length),(g+2+17+1,.row 71 v68.length)]) (M':=[(g+2+15,.cells [.sl .no 2 (r72.2.t.Records.map TrayRecord.cells),.i r72.2.t.At,.i r72.2.t.Way,.i r72.2.t.Step,.sl .no 2 (r72.2.t.Presses.map TrayPress.cells),.sl .no 2 (r72.2.queue.map TrayPress.cells),.ms (g+2+8) 0 1 (2*r72.2.t.Records.length) (2*r72.2.t.Records.length),.i r72.2.now,.i r72.2.at_.At,.i r72.2.at_.Way,.i r72.2.at_.Side,.sl (.id (g+2+17)) 4 (r72.2.run.spells.map Spell_.cells),.sl (.id (g+2+17+1)) 2 (r72.2.run.plays.map TrayPlay.cells),.i r72.2.run.steps,.i r72.2.run.end_]),(g+2+8,.cells (r72.2.pins.map cB).flatten),(g+2+17,.row 160 r72.2.run.spells.length),(g+2+17+1,.row 71 r72.2.run.plays.length)]) (L':=[(g+2+17+1,.row 71 r72.2.run.plays.length),(g+2+17,.row 160 r72.2.run.spells.length),(g+2+15,.cells [.sl .no 2 (r72.2.t.Records.map TrayRecord.cells),.i r72.2.t.At,.i r72.2.t.Way,.i r72.2.t.Step,.sl .no 2 (r72.2.t.Presses.map TrayPress.cells),.sl .no 2 (r72.2.queue.map TrayPress.cells),.ms (g+2+8) 0 1 (2*r72.2.t.Records.length) (2*r72.2.t.Records.length),.i r72.2.now,.i r72.2.at_.At,.i r72.2.at_.Way,.i r72.2.at_.Side,.sl (.id (g+2+17)) 4 (r72.2.run.spells.map Spell_.cells),.sl (.id (g+2+17+1)) 2 (r72.2.run.plays.map TrayPlay.cells),.i r72.2.run.steps,.i r72.2.run.end_]),(g+2+8,.cells (r72.2.pins.map cB).flatten),(g+1,.cells [.sl .nil 0 [],.sl .nil 0 [],.i 0,.i 0])]) [2,3,1,0] (.inl rfl) hS (by decide) rfl rfl ((zf5 (p1:=g+2+15) (w10:=g+2+8) (w11:=g+2+17) (w12:=g+2+17+1) hndr72 hr72).le (.k .nil)) (.cons rfl (.cons rfl (.cons rfl (.cons rfl .nil)))) rfl (by omega) fun H hS=>?_
   refine Ni ?_
   refine Ws ?_
   rcases bft r72.1 with hb73 | hb73
   ·replace hM:=ifT hM hb73
    refine Ct hb73 ?_
    refine zaC ?_
    refine Ws ?_
    refine zaz ?_
    refine zaC ?_
    refine zah ?_
    exact zbF (r72.2.t.Records,r72.2.t.At,r72.2.t.Way,r72.2.t.Step,r72.2.t.Presses,r72.2.queue,r72.2.now,r72.2.at_.At,r72.2.at_.Way,r72.2.at_.Side,r72.2.run.spells,r72.2.run.plays,r72.2.run.steps,r72.2.run.end_,r72.2.pins) (Nat.lt_succ_self _) (.k (.k .nil)) ⟨(hS.keep [true,true,true,true,true] rfl).up (by omega),hM⟩
   ·replace hM:=ifF hM hb73
    refine Cf hb73 ?_
    refine zcp ?_
    refine zay ?_
    refine zau ?_
    refine zaD ?_
    exact zak (r72.2.t.Records,r72.2.t.At,r72.2.t.Way,r72.2.t.Step,r72.2.t.Presses,r72.2.queue,r72.2.now,r72.2.at_.At,r72.2.at_.Way,r72.2.at_.Side,r72.2.run.spells,r72.2.run.plays,r72.2.run.steps,r72.2.run.end_,r72.2.pins) (.k (.k .nil)) ⟨(hS.keep [true,true,true,true,true] rfl).up (by omega),hM⟩
theorem zlL {n:Nat} {a0:Tray} {r:(List TrayPlay)×Int} (hM:zhw n a0=some r):zaJ Try.prog 17 [.agg (Tray.cells a0)] (.tup [.sl .no 2 (r.1.map TrayPlay.cells),.i r.2]):=by
 refine zax mixed Try.func17 rfl (by decide) Try.ntmps17 (by simp) ?pure fun H0 g hf=>?_
 case pure=>exact .tup _ (zac (.sl _ _ (zav (fun x=>(zac (.v _) (zac (.v _) zaE))))) (zac (.v _) zaE))
 rw [zan]
 change wpA _ _ _ _ (Fr.of [(0,.agg (Tray.cells a0))]) H0 g
 have hS:=St.start hf
 refine Sq ?_
 refine Rg 3 ?_
 refine zd2 (v:=.agg (Tray.cells a0)) (cs:=(Tray.cells a0)) hS (by decide) rfl rfl (by omega) fun H hS=>?_
 refine Oa (.sl .nil 0 []) ?_
 refine Oa (.i 0) ?_
 refine Ni ?_
 refine zda (L':=[]) 0 1 hS rfl rfl rfl fun H hS=>?_
 refine Ws ?_
 refine Sq ?_
 refine Sq ?_
 refine Rg 3 ?_
 refine Olg (.agg (Tray.cells a0)) zdV ?_
 obtain ⟨r1,hr1,hM⟩:=zas hM
 refine zaP (bs:=[.agg (Tray.cells a0)]) (by decide) rfl rfl ((zlK hr1).le (.k .nil)) ?_
 refine Oa (.i r1) ?_
 refine Ni ?_
 refine Ws ?_
 refine Sq ?_
 refine Rg 2 ?_
 refine Om (.i r1) ?_
 refine Oi (.b (r1 != 0)) ?_
 refine Ni ?_
 refine Ws ?_
 rcases bft (r1 != 0) with hb2 | hb2
 ·replace hM:=ifT hM hb2
  refine Ct hb2 ?_
  refine Sq ?_
  refine Rg 3 ?_
  refine Om (.i r1) ?_
  refine Oa (.sl .nil 0 []) ?_
  refine Oa (.i r1) ?_
  refine Ni ?_
  refine Ws ?_
  refine zaQ ?_
  refine zaq ?_
  refine za7 (x:=.tup [.sl .nil 0 [],.i r1]) (f:=fun r=>.tup [.sl .no 2 (r.1.map TrayPlay.cells),.i r.2]) (.inr rfl) ?_ (.tupL (.cons (.sl0 .nil 2 0) (.k .nil))) (Option.some.inj hM) hS
  exact (zc3 (zai (x:=.sl .nil 0 []) rfl) (zai (x:=.i r1) rfl))
 ·replace hM:=ifF hM hb2
  refine Cf hb2 ?_
  refine zaC ?_
  refine Ws ?_
  refine Sq ?_
  refine Rg 5 ?_
  refine Olg (.agg (Tray.cells a0)) zdV ?_
  obtain ⟨r3,hr3,hM⟩:=zas hM
  refine zaP (bs:=[.agg (Tray.cells a0)]) (by decide) rfl rfl ((zmw hr3).le (.k .nil)) ?_
  refine zrl (v:=.sl .no 2 (r3.plays.map TrayPlay.cells)) (cs:=(Run_.cells r3)) (by decide) znU rfl (po zmY zo4) ?_
  refine Oa (.sl .no 2 (r3.plays.map TrayPlay.cells)) ?_
  refine Oa (.i 0) ?_
  refine Ni ?_
  refine zfW [(2,.sl .no 2 (r3.plays.map TrayPlay.cells)),(3,.i 0)] (.k (.k .nil)) ?_
  refine zaQ ?_
  refine za7 (x:=.tup [.sl .no 2 (r3.plays.map TrayPlay.cells),.i 0]) (f:=fun r=>.tup [.sl .no 2 (r.1.map TrayPlay.cells),.i r.2]) (.inr rfl) ?_ (.refl _) (Option.some.inj hM) hS
  exact (zc3 (zai (x:=.sl .no 2 (r3.plays.map TrayPlay.cells)) rfl) (zai (x:=.i 0) rfl))
theorem zc5 {a0:Int} {a1:Int} {a2:Int} {r:Bool} (hM:zcE a0 a1 a2=some r):zaJ Try.prog 96 [.i a0,.i a1,.i a2] (.b r):=by
 refine zax mixed Try.func96 rfl (by decide) Try.ntmps96 (by simp) ?pure fun H0 g hf=>?_
 case pure=>exact .v _
 rw [zan]
 change wpA _ _ _ _ (Fr.of [(0,.i a0),(1,.i a1),(2,.i a2)]) H0 g
 have hS:=St.start hf
 refine Sq ?_
 refine Rg 1 ?_
 refine Oa (.b false) ?_
 refine Ni ?_
 refine Ws ?_
 refine zaO (J:=Bool) (fun j=>[(6,.b j)]) (fun j H' g'=>St (·<g) H0 [] H' g'/\zdQ j=some r) ?_ ?_
 ·rintro v1 H g1 ⟨hS,hM⟩
  change wpA _ _ _ _ (Fr.of [(6,.b v1)]) _ _
  replace hS:St (·<g) H0 [] H g1:=hS
  replace hM:zdQ v1=some r:=hM
  refine zaQ ?_
  refine za7 (x:=.b v1) (f:=fun r=>.b r) (.inr rfl) ?_ (.refl _) (Option.some.inj hM) hS
  exact (zaw (zai (x:=.b v1) rfl))
 ·refine Rg 9 ?_
  refine Om (.i a1) ?_
  refine Om (.i a0) ?_
  refine Oi (.b (decide (a1<=a0))) ?_
  refine Om (.b (decide (a1<=a0))) ?_
  rcases bft (decide (a1<=a0)) with hb2 | hb2
  ·replace hM:=ifT hM hb2
   refine Oy (want:=true) hb2 ?_
   refine Om (.i a0) ?_
   refine Oy (want:=true) hb2 ?_
   refine Om (.i a2) ?_
   refine Oy (want:=true) hb2 ?_
   refine Oi (.b (decide (a0<=a2))) ?_
   refine Pt (.b (decide (a0<=a2))) hb2 ?_
   refine Oa (.b (decide (a0<=a2))) ?_
   refine Ni ?_
   exact zak (decide (a0<=a2)) (.k .nil) ⟨(hS.keep [] rfl).up (by omega),hM⟩
  ·replace hM:=ifF hM hb2
   refine On (want:=true) hb2 ?_
   refine On (want:=true) hb2 ?_
   refine On (want:=true) hb2 ?_
   refine Pf (.b false) hb2 ?_
   refine Oa (.b false) ?_
   refine Ni ?_
   exact zak false (.k .nil) ⟨(hS.keep [] rfl).up (by omega),hM⟩
theorem zhI {n:Nat} {a0:Pulse} {r:Int} (hM:zfz n a0=some r):zaJ Try.prog 74 [.agg (Pulse.cells a0)] (.i r):=by
 refine zax mixed Try.func74 rfl (by decide) Try.ntmps74 (by simp) ?pure fun H0 g hf=>?_
 case pure=>exact .v _
 rw [zan]
 change wpA _ _ _ _ (Fr.of [(0,.agg (Pulse.cells a0))]) H0 g
 have hS:=St.start hf
 refine Sq ?_
 refine Rg 2 ?_
 refine zd2 (v:=.agg (Pulse.cells a0)) (cs:=(Pulse.cells a0)) hS (by decide) rfl rfl (by omega) fun H hS=>?_
 refine Oa (.i 0) ?_
 refine Ni ?_
 refine zda (L':=[]) 0 1 hS rfl rfl rfl fun H hS=>?_
 refine Ws ?_
 refine zaO (J:=Unit) (fun j=>[(1,.ep (Pulse.cells a0))]) (fun j H' g'=>St (·<g) H0 [] H' g'/\zfZ n a0=some r) ?_ ?_
 ·rintro _ H g1 ⟨hS,hM⟩
  change wpA _ _ _ _ (Fr.of [(1,.ep (Pulse.cells a0))]) _ _
  replace hS:St (·<g) H0 [] H g1:=hS
  replace hM:zfZ n a0=some r:=hM
  refine zaO (J:=Unit) (fun j=>[]) (fun j H' g'=>St (·<g) H0 [] H' g'/\ze5=some r) ?_ ?_
  ·rintro _ H g2 ⟨hS,hM⟩
   change wpA _ _ _ _ (Fr.of []) _ _
   replace hS:St (·<g) H0 [] H g2:=hS
   replace hM:ze5=some r:=hM
   refine Sq ?_
   refine Rg 1 ?_
   refine Oa (.i 0) ?_
   refine Ni ?_
   refine Ws ?_
   refine zaQ ?_
   refine za7 (x:=.i 0) (f:=fun r=>.i r) (.inr rfl) ?_ (.refl _) (Option.some.inj hM) hS
   exact (zaw (zai (x:=.i 0) rfl))
  ·refine Sq ?_
   refine Rg 4 ?_
   refine Of ((Pulse.cells a0)) zdR ?_
   refine Olp (.sl .no 1 (a0.Times.map cI)) zb6 zcX ?_
   refine zcg (n:=a0.Times.length) (by decide) rfl (List.length_map _) zbA ?_
   refine Om (.i 0) ?_
   refine Ni ?_
   refine Ws ?_
   refine zaz ?_
   refine zcx (V:=Int) (fun v=>[(1,.ep (Pulse.cells a0)),(58,.sl .no 1 (a0.Times.map cI)),(59,.i (a0.Times.length:Int)),(60,.i v)]) (fun v m3 H' g'=>St (·<g) H0 [] H' g'/\zci a0 m3 v=some r) (n:=n) 0 (.k (.k (.k (.k .nil)))) ⟨(hS.keep [] rfl).up (by omega),hM⟩ ?_
   rintro v1 m3 H g3 ⟨hS,hM⟩
   obtain _ | m3:=m3
   ·exact nomatch (show none=some _ from hM)
   change wpA _ _ _ _ (Fr.of [(1,.ep (Pulse.cells a0)),(58,.sl .no 1 (a0.Times.map cI)),(59,.i (a0.Times.length:Int)),(60,.i v1)]) _ _
   replace hS:St (·<g) H0 [] H g3:=hS
   replace hM:zel a0 (zci a0 m3) v1=some r:=hM
   refine Sq ?_
   refine Rg 1 ?_
   refine Oi (.b (decide (v1<(a0.Times.length:Int)))) ?_
   refine Ni ?_
   refine Ws ?_
   refine Sq ?_
   rcases bft (decide (v1<(a0.Times.length:Int))) with hb2 | hb2
   ·replace hM:=ifT hM hb2
    refine Ct hb2 ?_
    refine zaC ?_
    refine Ws ?_
    refine Sq ?_
    refine zaz ?_
    refine Sq ?_
    refine Rg 5 ?_
    refine Om (.i v1) ?_
    obtain ⟨x3,hx3,hM⟩:=zas hM
    refine zbu (xs:=a0.Times) (f:=cI) (z:=v1) (u:=x3) (by decide) rfl rfl zbL hx3 ?_
    refine Olp (.i x3) zaf zap ?_
    refine Oa (.i v1) ?_
    refine Oa (.i x3) ?_
    refine Ni ?_
    refine Ws ?_
    refine zaO (J:=Bool) (fun j=>[(1,.ep (Pulse.cells a0)),(58,.sl .no 1 (a0.Times.map cI)),(59,.i (a0.Times.length:Int)),(60,.i v1),(81,.b j)]) (fun j H' g'=>St (·<g) H0 [] H' g'/\zcH (zci a0 m3) v1 j=some r) ?_ ?_
    ·rintro v4 H g4 ⟨hS,hM⟩
     change wpA _ _ _ _ (Fr.of [(1,.ep (Pulse.cells a0)),(58,.sl .no 1 (a0.Times.map cI)),(59,.i (a0.Times.length:Int)),(60,.i v1),(81,.b v4)]) _ _
     replace hS:St (·<g) H0 [] H g4:=hS
     replace hM:zcH (zci a0 m3) v1 v4=some r:=hM
     rcases bft v4 with hb5 | hb5
     ·replace hM:=ifT hM hb5
      refine Ct hb5 ?_
      refine Sq ?_
      refine Rg 1 ?_
      refine Oa (.i 130) ?_
      refine Ni ?_
      refine Ws ?_
      refine zaQ ?_
      refine zaI ?_
      refine zaq ?_
      refine zbs ?_
      refine zaI ?_
      refine zbr ?_
      refine za7 (x:=.i 130) (f:=fun r=>.i r) (.inr rfl) ?_ (.refl _) (Option.some.inj hM) hS
      exact (zaw (zai (x:=.i 130) rfl))
     ·replace hM:=ifF hM hb5
      refine Cf hb5 ?_
      refine zaC ?_
      refine zah ?_
      refine Ws ?_
      refine Rg 2 ?_
      refine Oi (.i (w64 (v1+1))) ?_
      refine Om (.i (w64 (v1+1))) ?_
      refine Ni ?_
      exact zbF (w64 (v1+1)) (Nat.lt_succ_self _) (.k (.k (.k (.k .nil)))) ⟨(hS.keep [] rfl).up (by omega),hM⟩
    ·refine Rg 17 ?_
     refine Om (.i x3) ?_
     obtain ⟨r6,hr6,hM⟩:=zas hM
     refine zaP (bs:=[.i x3,.i 0,.i 99999]) (by decide) rfl rfl ((zc5 hr6).le (.k (.k (.k .nil)))) ?_
     refine zdW (e:=r6) (by decide) rfl ?_
     refine Om (.b (!r6)) ?_
     rcases bft (!r6) with hb7 | hb7
     ·replace hM:=ifT hM hb7
      refine On (want:=false) hb7 ?_
      refine On (want:=false) hb7 ?_
      refine On (want:=false) hb7 ?_
      refine za0 (j:=6) (by decide) rfl ?_
      refine za0 (j:=6) (by decide) rfl ?_
      refine za0 (j:=6) (by decide) rfl ?_
      refine za0 (j:=6) (by decide) rfl ?_
      refine za0 (j:=6) (by decide) rfl ?_
      refine za0 (j:=6) (by decide) rfl ?_
      refine za0 (j:=6) (by decide) rfl ?_
      refine za0 (j:=6) (by decide) rfl ?_
      refine On (want:=false) hb7 ?_
      refine Pt (.b true) hb7 ?_
      refine Ni ?_
      exact zak true (.k (.k (.k (.k (.k .nil))))) ⟨(hS.keep [] rfl).up (by omega),hM⟩
     ·replace hM:=ifF hM hb7
      refine Oy (want:=false) hb7 ?_
      refine Om (.i v1) ?_
      refine Oy (want:=false) hb7 ?_
      refine Oi (.b (decide (v1>0))) ?_
      refine Oy (want:=false) hb7 ?_
      refine Om (.b (decide (v1>0))) ?_
      rcases bft (decide (v1>0)) with hb8 | hb8
      ·replace hM:=ifT hM hb8
       refine Oy (want:=true) hb8 ?_
       refine Om (.i x3) ?_
       refine Oy (want:=true) hb8 ?_
       refine Of ((Pulse.cells a0)) zdR ?_
       refine Oy (want:=true) hb8 ?_
       refine Olp (.sl .no 1 (a0.Times.map cI)) zb6 zcX ?_
       refine Oy (want:=true) hb8 ?_
       refine Om (.i v1) ?_
       refine Oy (want:=true) hb8 ?_
       refine Oi (.i (w64 (v1-1))) ?_
       refine Oy (want:=true) hb8 ?_
       obtain ⟨x9,hx9,hM⟩:=zas hM
       refine zbu (xs:=a0.Times) (f:=cI) (z:=(w64 (v1-1))) (u:=x9) (by decide) rfl rfl zbL hx9 ?_
       refine Oy (want:=true) hb8 ?_
       refine Olp (.i x9) zaf zap ?_
       refine Oy (want:=true) hb8 ?_
       refine Oi (.b (decide (x3<=x9))) ?_
       refine Oy (want:=false) hb7 ?_
       refine Pt (.b (decide (x3<=x9))) hb8 ?_
       refine Pf (.b (decide (x3<=x9))) hb7 ?_
       refine Ni ?_
       exact zak (decide (x3<=x9)) (.k (.k (.k (.k (.k .nil))))) ⟨(hS.keep [] rfl).up (by omega),hM⟩
      ·replace hM:=ifF hM hb8
       refine On (want:=true) hb8 ?_
       refine On (want:=true) hb8 ?_
       refine On (want:=true) hb8 ?_
       refine On (want:=true) hb8 ?_
       refine On (want:=true) hb8 ?_
       refine On (want:=true) hb8 ?_
       refine On (want:=true) hb8 ?_
       refine On (want:=true) hb8 ?_
       refine Oy (want:=false) hb7 ?_
       refine Pf (.b false) hb8 ?_
       refine Pf (.b false) hb7 ?_
       refine Ni ?_
       exact zak false (.k (.k (.k (.k (.k .nil))))) ⟨(hS.keep [] rfl).up (by omega),hM⟩
   ·replace hM:=ifF hM hb2
    refine Cf hb2 ?_
    refine zcp ?_
    refine zay ?_
    refine zau ?_
    refine zaD ?_
    exact zak () .nil ⟨(hS.keep [] rfl).up (by omega),hM⟩
 ·refine Sq ?_
  refine Rg 39 ?_
  refine Of ((Pulse.cells a0)) zgx ?_
  refine Olp (.i a0.Letters) zaf zap ?_
  refine zdb (cs:=[.i a0.Letters,.i 1,.i 5]) (by decide) zet zgj rfl ?_
  refine Of ((Pulse.cells a0)) zfb ?_
  refine Olp (.i a0.Numbers) zaf zap ?_
  refine zdb (cs:=[.i a0.Numbers,.i 1,.i 5]) (by decide) zet zgj rfl ?_
  refine Of ((Pulse.cells a0)) zfc ?_
  refine Olp (.i a0.Pitch) zaf zap ?_
  refine zdb (cs:=[.i a0.Pitch,.i 1,.i 99]) (by decide) zet zgj rfl ?_
  refine Of ((Pulse.cells a0)) zgy ?_
  refine Olp (.i a0.Slack) zaf zap ?_
  refine Of ((Pulse.cells a0)) zfc ?_
  refine Olp (.i a0.Pitch) zaf zap ?_
  refine Oi (.i (w64 (a0.Pitch-1))) ?_
  refine zdb (cs:=[.i a0.Slack,.i 0,.i (w64 (a0.Pitch-1))]) (by decide) zet zgj rfl ?_
  refine Of ((Pulse.cells a0)) zij ?_
  refine Olp (.i a0.Gap) zaf zap ?_
  refine Of ((Pulse.cells a0)) zfc ?_
  refine Olp (.i a0.Pitch) zaf zap ?_
  refine Of ((Pulse.cells a0)) zgy ?_
  refine Olp (.i a0.Slack) zaf zap ?_
  refine Oi (.i (w64 (a0.Pitch+a0.Slack))) ?_
  refine Oi (.i (w64 ((w64 (a0.Pitch+a0.Slack))+1))) ?_
  refine Of ((Pulse.cells a0)) zgz ?_
  refine Olp (.i a0.Pause) zaf zap ?_
  refine Oi (.i (w64 (a0.Pause-1))) ?_
  refine zdb (cs:=[.i a0.Gap,.i (w64 ((w64 (a0.Pitch+a0.Slack))+1)),.i (w64 (a0.Pause-1))]) (by decide) zet zgj rfl ?_
  refine Of ((Pulse.cells a0)) zgz ?_
  refine Olp (.i a0.Pause) zaf zap ?_
  refine zdb (cs:=[.i a0.Pause,.i 0,.i 999]) (by decide) zet zgj rfl ?_
  refine Of ((Pulse.cells a0)) zik ?_
  refine Olp (.i a0.Sparks) zaf zap ?_
  refine zdb (cs:=[.i a0.Sparks,.i 0,.i 3]) (by decide) zet zgj rfl ?_
  refine Of ((Pulse.cells a0)) zdR ?_
  refine Olp (.sl .no 1 (a0.Times.map cI)) zb6 zcX ?_
  refine zcg (n:=a0.Times.length) (by decide) rfl (List.length_map _) zbA ?_
  refine zdb (cs:=[.i (a0.Times.length:Int),.i 0,.i 24]) (by decide) zet zgj rfl ?_
  refine zdb (cs:=[.i a0.Letters,.i 1,.i 5,.i a0.Numbers,.i 1,.i 5,.i a0.Pitch,.i 1,.i 99,.i a0.Slack,.i 0,.i (w64 (a0.Pitch-1)),.i a0.Gap,.i (w64 ((w64 (a0.Pitch+a0.Slack))+1)),.i (w64 (a0.Pause-1)),.i a0.Pause,.i 0,.i 999,.i a0.Sparks,.i 0,.i 3,.i (a0.Times.length:Int),.i 0,.i 24]) (by decide) znT zqp rfl ?_
  refine Om (.i 0) ?_
  refine Ni ?_
  refine Ws ?_
  refine zaz ?_
  refine zcx (V:=Int) (fun v=>[(1,.ep (Pulse.cells a0)),(44,.agg [.i a0.Letters,.i 1,.i 5,.i a0.Numbers,.i 1,.i 5,.i a0.Pitch,.i 1,.i 99,.i a0.Slack,.i 0,.i (w64 (a0.Pitch-1)),.i a0.Gap,.i (w64 ((w64 (a0.Pitch+a0.Slack))+1)),.i (w64 (a0.Pause-1)),.i a0.Pause,.i 0,.i 999,.i a0.Sparks,.i 0,.i 3,.i (a0.Times.length:Int),.i 0,.i 24]),(45,.i v)]) (fun v m5 H' g'=>St (·<g) H0 [] H' g'/\zbD n a0 m5 v=some r) (n:=n) 0 (.k (.k (.k .nil))) ⟨(hS.keep [] rfl).up (by omega),hM⟩ ?_
  rintro v10 m5 H g5 ⟨hS,hM⟩
  obtain _ | m5:=m5
  ·exact nomatch (show none=some _ from hM)
  change wpA _ _ _ _ (Fr.of [(1,.ep (Pulse.cells a0)),(44,.agg [.i a0.Letters,.i 1,.i 5,.i a0.Numbers,.i 1,.i 5,.i a0.Pitch,.i 1,.i 99,.i a0.Slack,.i 0,.i (w64 (a0.Pitch-1)),.i a0.Gap,.i (w64 ((w64 (a0.Pitch+a0.Slack))+1)),.i (w64 (a0.Pause-1)),.i a0.Pause,.i 0,.i 999,.i a0.Sparks,.i 0,.i 3,.i (a0.Times.length:Int),.i 0,.i 24]),(45,.i v10)]) _ _
  replace hS:St (·<g) H0 [] H g5:=hS
  replace hM:zem n a0 (zbD n a0 m5) v10=some r:=hM
  refine Sq ?_
  refine Rg 1 ?_
  refine Oi (.b (decide (v10<8))) ?_
  refine Ni ?_
  refine Ws ?_
  refine Sq ?_
  rcases bft (decide (v10<8)) with hb11 | hb11
  ·replace hM:=ifT hM hb11
   refine Ct hb11 ?_
   refine zaC ?_
   refine Ws ?_
   refine Sq ?_
   refine zaz ?_
   refine Sq ?_
   refine Rg 3 ?_
   obtain ⟨x12,hx12,hM⟩:=zas hM
   refine zqb (xs:=([(⟨a0.Letters,1,5⟩:An163),(⟨a0.Numbers,1,5⟩:An163),(⟨a0.Pitch,1,99⟩:An163),(⟨a0.Slack,0,w64 (a0.Pitch-1)⟩:An163),(⟨a0.Gap,w64 ((w64 (a0.Pitch+a0.Slack))+1),w64 (a0.Pause-1)⟩:An163),(⟨a0.Pause,0,999⟩:An163),(⟨a0.Sparks,0,3⟩:An163),(⟨(a0.Times.length:Int),0,24⟩:An163)]:List An163)) (f:=An163.cells) (z:=v10) (u:=x12) (by decide) rfl rfl zph rfl zpf (fun _=>rfl) hx12 ?_
   refine zdI hS (by decide) zet (by omega) fun H hS=>?_
   refine zaM (v:=.agg (An163.cells x12)) (ns:=(An163.cells x12)) (L':=[(g5+1+1,.cells (An163.cells x12))]) 0 hS rfl rfl .no rfl rfl zpg nlb rfl fun H hS=>?_
   refine Ni ?_
   refine zda (L':=[]) 0 4 hS rfl rfl rfl fun H hS=>?_
   refine Ws ?_
   refine Sq ?_
   refine Rg 8 ?_
   refine Of ((An163.cells x12)) znX ?_
   refine Olp (.i x12.n) zaf zap ?_
   refine Of ((An163.cells x12)) znY ?_
   refine Olp (.i x12.low) zaf zap ?_
   refine Of ((An163.cells x12)) znZ ?_
   refine Olp (.i x12.high) zaf zap ?_
   obtain ⟨r13,hr13,hM⟩:=zas hM
   refine zaP (bs:=(An163.cells x12)) (by decide) rfl rfl ((zc5 hr13).le (.k (.k (.k .nil)))) ?_
   refine zdW (e:=r13) (by decide) rfl ?_
   refine Ni ?_
   refine Ws ?_
   rcases bft (!r13) with hb14 | hb14
   ·replace hM:=ifT hM hb14
    refine Ct hb14 ?_
    refine Sq ?_
    refine Rg 1 ?_
    refine Oa (.i 130) ?_
    refine Ni ?_
    refine Ws ?_
    refine zaQ ?_
    refine zaI ?_
    refine zaq ?_
    refine zbs ?_
    refine zaI ?_
    refine zbr ?_
    refine za7 (x:=.i 130) (f:=fun r=>.i r) (.inr rfl) ?_ (.refl _) (Option.some.inj hM) hS
    exact (zaw (zai (x:=.i 130) rfl))
   ·replace hM:=ifF hM hb14
    refine Cf hb14 ?_
    refine zaC ?_
    refine zah ?_
    refine Ws ?_
    refine Rg 2 ?_
    refine Oi (.i (w64 (v10+1))) ?_
    refine Om (.i (w64 (v10+1))) ?_
    refine Ni ?_
    exact zbF (w64 (v10+1)) (Nat.lt_succ_self _) (.k (.k (.k .nil))) ⟨(hS.keep [] rfl).up (by omega),hM⟩
  ·replace hM:=ifF hM hb11
   refine Cf hb11 ?_
   refine zcp ?_
   refine zay ?_
   refine zau ?_
   refine zaD ?_
   exact zak () (.k .nil) ⟨(hS.keep [] rfl).up (by omega),hM⟩
theorem zhl {S:Type} {Lo:S->BL} (hk:∀s s',zgP (Lo s) (Lo s')) (hnd:∀s,(ids (Lo s)).Nodup) (hin:∀s,InB In (Lo s)) {aF:Int->S->Option (Bool×S)} {f0:AV} (hF:∀s H,Has H (Lo s)->In H f0) (h0:cellsOf f0=some [f0]) (hf:∀{x0:Int} {s:S} {r:Bool×S},aF x0 s=some r->zjR Try.prog f0 [.v (.int .u64 x0)] (Lo s) (.b r.1) (Lo r.2)) {n:Nat} {rec:Train_->Int->Int->Int->S->Option (Bool×S)} (hrec:∀{a0:Train_} {a1:Int} {a2:Int} {a3:Int} {st:S} {r:Bool×S},rec a0 a1 a2 a3 st=some r->zgT Try.prog 99 [.agg (Train_.cells a0),.v (.int .u64 a1),.i a2,.i a3,f0] (Lo st) (.b r.1) (Lo r.2)) {a0:Train_} {a1:Int} {a2:Int} {a3:Int} {st:S} {r:Bool×S} (hM:zdK n rec aF a0 a1 a2 a3 st=some r):zgT Try.prog 99 [.agg (Train_.cells a0),.v (.int .u64 a1),.i a2,.i a3,f0] (Lo st) (.b r.1) (Lo r.2):=by
 have hnd0:∀s,(ids (Lo s)).Nodup:=fun s=>hnd s
 refine zbx mixed Try.func99 rfl (by decide) Try.ntmps99 (by simp) (hk _ _) (hnd st) ?pure ?cells fun H0 g hf_ hp=>?_
 case pure=>exact fun H _=>(show Go.AM.Pure _ from .v _).inH
 case cells=>exact hin _
 rw [zan]
 change wpA _ _ _ _ (Fr.of [(0,.agg (Train_.cells a0)),(1,.v (.int .u64 a1)),(2,.i a2),(3,.i a3),(4,f0)]) H0 g
 have hS:=St.startH (L:=([]++Lo st)) hf_ (hnd st) hp
 replace hS:St (fun i=>i<g/\i∉ids (Lo st)) H0 ([]++Lo st) H0 g:=hS
 refine Sq ?_
 refine Rg 2 ?_
 refine zd2 (v:=.agg (Train_.cells a0)) (cs:=(Train_.cells a0)) hS (by decide) rfl rfl (by omega) fun H hS=>?_
 refine Oa (.b false) ?_
 refine Ni ?_
 refine zda (L':=([]++Lo st)) 0 5 hS rfl rfl rfl fun H hS=>?_
 refine Ws ?_
 refine Sq ?_
 refine Sq ?_
 refine Rg 2 ?_
 refine Om (.i a3) ?_
 refine Oi (.b (a3==0)) ?_
 refine Ni ?_
 refine Ws ?_
 rcases bft (a3==0) with hb1 | hb1
 ·replace hM:=ifT hM hb1
  refine Ct hb1 ?_
  refine Sq ?_
  refine Rg 4 ?_
  refine Om (f0) ?_
  refine Om (.v (.int .u64 a1)) ?_
  obtain ⟨r2,hr2,hM⟩:=zas hM
  replace hS:St (fun i=>i<g/\i∉ids (Lo st)) H0 ([]++Lo st) _ _:=hS
  refine ziC (bs:=[.v (.int .u64 a1)]) (.inl rfl) hS (by decide) rfl rfl ((hf hr2).le (.k .nil)) (hk _ _).ids (by omega) fun H hS=>?_
  refine Oa (.b r2.1) ?_
  refine Ni ?_
  refine Ws ?_
  refine zaQ ?_
  refine zaq ?_
  refine zdg (x:=.b r2.1) (f:=fun r=>.b r.1) (fd:=fun r=>(Lo r.2)) (.inr rfl) ?_ (.refl _) (Option.some.inj hM) hS 0 rfl
  exact (zaw (zai (x:=.b r2.1) rfl))
 ·replace hM:=ifF hM hb1
  refine Cf hb1 ?_
  refine zaC ?_
  refine Ws ?_
  refine zaO (J:=S) (fun j=>[]) (fun j H' g'=>St (fun i=>i<g/\i∉ids (Lo st)) H0 ([]++Lo j) H' g'/\zds j=some r) ?_ ?_
  ·rintro v3 H g1 ⟨hS,hM⟩
   change wpA _ _ _ _ (Fr.of []) _ _
   replace hS:St (fun i=>i<g/\i∉ids (Lo st)) H0 ([]++Lo v3) H g1:=hS
   replace hM:zds v3=some r:=hM
   refine Sq ?_
   refine Rg 1 ?_
   refine Oa (.b true) ?_
   refine Ni ?_
   refine Ws ?_
   refine zaQ ?_
   refine zdg (x:=.b true) (f:=fun r=>.b r.1) (fd:=fun r=>(Lo r.2)) (.inr rfl) ?_ (.refl _) (Option.some.inj hM) hS 0 rfl
   exact (zaw (zai (x:=.b true) rfl))
  ·refine Sq ?_
   refine Rg 2 ?_
   refine Om (.i a2) ?_
   refine Oa (.i a2) ?_
   refine Ni ?_
   refine Ws ?_
   refine zaz ?_
   refine zcx (V:=Int×S) (fun v=>[(1,.v (.int .u64 a1)),(3,.i a3),(4,f0),(5,.ep (Train_.cells a0)),(11,.i v.1)]) (fun v m3 H' g'=>St (fun i=>i<g/\i∉ids (Lo st)) H0 ([]++Lo v.2) H' g'/\zbN rec a0 a1 a3 m3 v.1 v.2=some r) (n:=n) (a2,st) (.k (.k (.k (.k (.k .nil))))) ⟨(hS.keep [] rfl).up (by omega),hM⟩ ?_
   rintro ⟨v5,v6⟩ m3 H g3 ⟨hS,hM⟩
   obtain _ | m3:=m3
   ·exact nomatch (show none=some _ from hM)
   change wpA _ _ _ _ (Fr.of [(1,.v (.int .u64 a1)),(3,.i a3),(4,f0),(5,.ep (Train_.cells a0)),(11,.i v5)]) _ _
   replace hS:St (fun i=>i<g/\i∉ids (Lo st)) H0 ([]++Lo v6) H g3:=hS
   replace hM:zc8 rec a0 a1 a3 (zbN rec a0 a1 a3 m3) v5 v6=some r:=hM
   refine Sq ?_
   refine Sq ?_
   refine Rg 6 ?_
   refine Om (.i v5) ?_
   refine Of ((Train_.cells a0)) zc1 ?_
   refine Of ((Train_.cells a0)) zdR ?_
   refine Olp (.sl .no 1 (a0.Pulse.Times.map cI)) zb6 zcX ?_
   refine zcg (n:=a0.Pulse.Times.length) (by decide) rfl (List.length_map _) zbA ?_
   refine Oi (.b (decide (v5<(a0.Pulse.Times.length:Int)))) ?_
   refine Ni ?_
   refine Ws ?_
   rcases bft (decide (v5<(a0.Pulse.Times.length:Int))) with hb7 | hb7
   ·replace hM:=ifT hM hb7
    refine Ct hb7 ?_
    refine zaC ?_
    refine Ws ?_
    refine Sq ?_
    refine zaz ?_
    refine Sq ?_
    have hS0:=hS
    refine zd1 (n:=12) rfl (by kernel_rfl) ?_
    refine Olg (.agg (Train_.cells a0)) zf3 ?_
    refine Om (.v (.int .u64 a1)) ?_
    refine Om (.i v5) ?_
    obtain ⟨q8,hq8,hM⟩:=zas hM
    refine zoG (by decide) rfl rfl (zrj hq8) ?_
    refine Oi (.v (.int .u64 (zsw a1 q8))) ?_
    refine Om (.i v5) ?_
    refine Oi (.i (w64 (v5+1))) ?_
    refine Om (.i a3) ?_
    refine Oi (.i (w64 (a3-1))) ?_
    refine Om (f0) ?_
    obtain ⟨r9,hr9,hM⟩:=zas hM
    replace hS:St (fun i=>i<g/\i∉ids (Lo st)) H0 ([]++Lo v6) _ _:=hS
    refine zkQ (bs:=[.agg (Train_.cells a0),.v (.int .u64 (zsw a1 q8)),.i (w64 (v5+1)),.i (w64 (a3-1)),f0]) (.inr (by kernel_rfl)) hS (by decide) rfl rfl ((hrec hr9).le (.k (.k (.k (.k (.k .nil)))))) (hk _ _).ids (by omega) fun H hS=>?_
    refine zdW (e:=r9.1) (by decide) rfl ?_
    refine Ni ?_
    refine Ws ?_
    rcases bft (!r9.1) with hb10 | hb10
    ·replace hM:=ifT hM hb10
     refine Ct hb10 ?_
     refine Sq ?_
     refine Rg 1 ?_
     refine Oa (.b false) ?_
     refine Ni ?_
     refine Ws ?_
     refine zaQ ?_
     refine zaI ?_
     refine zaq ?_
     refine zbs ?_
     refine zaI ?_
     refine zbr ?_
     refine zdg (x:=.b false) (f:=fun r=>.b r.1) (fd:=fun r=>(Lo r.2)) (.inr rfl) ?_ (.refl _) (Option.some.inj hM) hS 0 rfl
     exact (zaw (zai (x:=.b false) rfl))
    ·replace hM:=ifF hM hb10
     refine Cf hb10 ?_
     refine zaC ?_
     refine zah ?_
     refine Ws ?_
     refine Rg 3 ?_
     refine Om (.i v5) ?_
     refine Oi (.i (w64 (v5+1))) ?_
     refine Oa (.i (w64 (v5+1))) ?_
     refine Ni ?_
     exact zbF (w64 (v5+1),r9.2) (Nat.lt_succ_self _) (.k (.k (.k (.k (.k .nil))))) ⟨(hS.keep [] rfl).up (by omega),hM⟩
   ·replace hM:=ifF hM hb7
    refine Cf hb7 ?_
    refine zcp ?_
    refine zay ?_
    refine zau ?_
    refine zaD ?_
    exact zak v6 .nil ⟨(hS.keep [] rfl).up (by omega),hM⟩
theorem zf6 {S:Type} {Lo:S->BL} (hk:∀s s',zgP (Lo s) (Lo s')) (hnd:∀s,(ids (Lo s)).Nodup) (hin:∀s,InB In (Lo s)) {aF:Int->S->Option (Bool×S)} {f0:AV} (hF:∀s H,Has H (Lo s)->In H f0) (h0:cellsOf f0=some [f0]) (hf:∀{x0:Int} {s:S} {r:Bool×S},aF x0 s=some r->zjR Try.prog f0 [.v (.int .u64 x0)] (Lo s) (.b r.1) (Lo r.2)):∀{n:Nat} {a0:Train_} {a1:Int} {a2:Int} {a3:Int} {st:S} {r:Bool×S},zbK n aF a0 a1 a2 a3 st=some r->zgT Try.prog 99 [.agg (Train_.cells a0),.v (.int .u64 a1),.i a2,.i a3,f0] (Lo st) (.b r.1) (Lo r.2)
 | 0,_,_,_,_,_,_,h=>nomatch (show none=some _ from h)
 | n+1,_,_,_,_,_,_,h=>zhl hk hnd hin hF h0 hf (n:=n) (rec:=zbK n aF) (fun h=>zf6 hk hnd hin hF h0 hf h) h
theorem ziX {a0:Int} {a1:Int} {r:Bool} (hM:zfr a0 a1=some r):zaJ Try.prog 101 [.v (.int .u64 a0),.i a1] (.b r):=by
 refine zax mixed Try.func101 rfl (by decide) Try.ntmps101 (by simp) ?pure fun H0 g hf=>?_
 case pure=>exact .v _
 rw [zan]
 change wpA _ _ _ _ (Fr.of [(0,.v (.int .u64 a0)),(1,.i a1)]) H0 g
 have hS:=St.start hf
 refine Sq ?_
 refine Rg 1 ?_
 refine Oa (.b false) ?_
 refine Ni ?_
 refine Ws ?_
 refine Sq ?_
 refine Rg 6 ?_
 refine Om (.v (.int .u64 a0)) ?_
 refine Om (.i a1) ?_
 obtain ⟨q1,hq1,hM⟩:=zas hM
 refine zoG (by decide) rfl rfl (zrk hq1) ?_
 refine Oi (.v (.int .u64 (zlt q1 1))) ?_
 refine Oi (.b ((zlt q1 1)==1)) ?_
 refine Oa (.b ((zlt q1 1)==1)) ?_
 refine Ni ?_
 refine Ws ?_
 refine zaQ ?_
 refine za7 (x:=.b ((zlt q1 1)==1)) (f:=fun r=>.b r) (.inr rfl) ?_ (.refl _) (Option.some.inj hM) hS
 exact (zaw (zai (x:=.b ((zlt q1 1)==1)) rfl))
theorem zfg {p1 w1 p2 p3:Nat} (hnd:[p1,w1,p2,p3].Nodup) {a1:Groups_} {a2:Train_} {st:(List Int)} {r:Bool×(List Int)} (hM:zcQ a1 a2 st=some r):zgT Try.prog 111 [.ptr p1 0,.ptr p2 0,.ptr p3 0] [(p1,.cells [.sl (.id w1) 1 (st.map cI)]),(w1,.row 3 st.length),(p2,.cells (Groups_.cells a1)),(p3,.cells (Train_.cells a2))] (.b r.1) [(p1,.cells [.sl (.id w1) 1 (r.2.map cI)]),(w1,.row 3 r.2.length),(p2,.cells (Groups_.cells a1)),(p3,.cells (Train_.cells a2))]:=by
 refine zbx mixed Try.func111 rfl (by decide) Try.ntmps111 (by simp) (zbp (zgQ (zbp (zbp zeF)))) hnd ?pure ?cells fun H0 g hf_ hp=>?_
 case pure=>exact fun H _=>(show Go.AM.Pure _ from .v _).inH
 case cells=>exact (zff (zby (zad (.inl (.inr ⟨_,_,_,_,_,rfl,(List.mem_of_getElem? (i:=1) rfl),zav (fun x=>(zac (.v _) zaE))⟩)) zeE) (zhb (zby (zad (.inl (.inl (.v _))) (zad (.inl (.inl (.v _))) zeE)) (zby (zad (.inl (.inl (.v _))) (zad (.inl (.inl (.v _))) (zad (.inl (.inl (.v _))) (zad (.inl (.inl (.v _))) (zad (.inl (.inl (.v _))) (zad (.inl (.inl (.v _))) (zad (.inl (.inl (.v _))) (zad (.inl (.inl (.sl _ _ (zav (fun x=>(zac (.v _) zaE)))))) zeE)))))))) zfe)))) ze2)
 rw [zan]
 change wpA _ _ _ _ (Fr.of [(0,.ptr p1 0),(1,.ptr p2 0),(2,.ptr p3 0)]) H0 g
 have hS:=St.startH (L:=[(p1,.cells [.sl (.id w1) 1 (st.map cI)]),(w1,.row 3 st.length),(p2,.cells (Groups_.cells a1)),(p3,.cells (Train_.cells a2))]) hf_ hnd hp
 replace hS:St (fun i=>i<g/\i∉ids [(p1,.cells [.sl (.id w1) 1 (st.map cI)]),(w1,.row 3 st.length),(p2,.cells (Groups_.cells a1)),(p3,.cells (Train_.cells a2))]) H0 [(p1,.cells [.sl (.id w1) 1 (st.map cI)]),(w1,.row 3 st.length),(p2,.cells (Groups_.cells a1)),(p3,.cells (Train_.cells a2))] H0 g:=hS
 refine Sq ?_
 refine Rg 1 ?_
 refine Oa (.b false) ?_
 refine Ni ?_
 refine Ws ?_
 refine Sq ?_
 refine Rg 15 ?_
 refine zaG (v:=.sl (.id w1) 1 (st.map cI)) 0 hS (by decide) rfl rfl .no (po zb6 zcX) ?_
 refine zag (by decide) zhD rfl ?_
 refine zaG (v:=.i a1.letter) 2 hS (by decide) rfl rfl .no (po zaf zap) ?_
 refine Oi (.i (w64 (a1.letter-1))) ?_
 refine zag (by decide) zc1 rfl ?_
 refine zag (by decide) zfb rfl ?_
 refine zaG (v:=.i a2.Pulse.Numbers) 3 hS (by decide) rfl rfl .no (po zaf zap) ?_
 refine Oi (.i (w64 ((w64 (a1.letter-1))*a2.Pulse.Numbers))) ?_
 refine zag (by decide) zfn rfl ?_
 refine zaG (v:=.i a1.number) 2 hS (by decide) rfl rfl .no (po zaf zap) ?_
 refine Oi (.i (w64 ((w64 ((w64 (a1.letter-1))*a2.Pulse.Numbers))+a1.number))) ?_
 refine Oi (.i (w64 ((w64 ((w64 ((w64 (a1.letter-1))*a2.Pulse.Numbers))+a1.number))-1))) ?_
 refine zbj (es:=[[.i (w64 ((w64 ((w64 ((w64 (a1.letter-1))*a2.Pulse.Numbers))+a1.number))-1))]]) hS (by decide) zbL zeB rfl zeC rfl (by decide) (by omega) fun H hS=>?_
 obtain ⟨l1,hl1,hM⟩:=zas hM
 refine zdJ (xs:=st) (ys:=([w64 ((w64 ((w64 ((w64 (a1.letter-1))*a2.Pulse.Numbers))+a1.number))-1)]:List Int)) (zs:=l1) (f:=cI) (L':=[(g+1+12,.row 3 1),(p1,.cells [.sl (.id w1) 1 (st.map cI)]),(w1,.row 3 l1.length),(p2,.cells (Groups_.cells a1)),(p3,.cells (Train_.cells a2))]) 2 hS (by decide) rfl rfl rfl rfl .no zbL zeB zeC hl1 rfl fun H hS=>?_
 refine zaM (v:=.sl (.id w1) 1 (l1.map cI)) (ns:=[.sl (.id w1) 1 (l1.map cI)]) (L':=[(g+1+12,.row 3 1),(p1,.cells [.sl (.id w1) 1 (l1.map cI)]),(w1,.row 3 l1.length),(p2,.cells (Groups_.cells a1)),(p3,.cells (Train_.cells a2))]) 1 hS rfl rfl .no rfl rfl zfv nlb rfl fun H hS=>?_
 refine Ni ?_
 replace hS:=hS.keep (L':=[(p1,.cells [.sl (.id w1) 1 (l1.map cI)]),(w1,.row 3 l1.length),(p2,.cells (Groups_.cells a1)),(p3,.cells (Train_.cells a2))]) [false,true,true,true,true] rfl
 refine Ws ?_
 refine zaO (J:=Bool) (fun j=>[(3,.b j)]) (fun j H' g'=>St (fun i=>i<g/\i∉ids [(p1,.cells [.sl (.id w1) 1 (st.map cI)]),(w1,.row 3 st.length),(p2,.cells (Groups_.cells a1)),(p3,.cells (Train_.cells a2))]) H0 [(p1,.cells [.sl (.id w1) 1 (l1.map cI)]),(w1,.row 3 l1.length),(p2,.cells (Groups_.cells a1)),(p3,.cells (Train_.cells a2))] H' g'/\zcj l1 j=some r) ?_ ?_
 ·rintro v2 H g1 ⟨hS,hM⟩
  change wpA _ _ _ _ (Fr.of [(3,.b v2)]) _ _
  replace hS:St (fun i=>i<g/\i∉ids [(p1,.cells [.sl (.id w1) 1 (st.map cI)]),(w1,.row 3 st.length),(p2,.cells (Groups_.cells a1)),(p3,.cells (Train_.cells a2))]) H0 [(p1,.cells [.sl (.id w1) 1 (l1.map cI)]),(w1,.row 3 l1.length),(p2,.cells (Groups_.cells a1)),(p3,.cells (Train_.cells a2))] H g1:=hS
  replace hM:zcj l1 v2=some r:=hM
  refine zaQ ?_
  refine zdg (x:=.b v2) (f:=fun r=>.b r.1) (fd:=fun r=>[(p1,.cells [.sl (.id w1) 1 (r.2.map cI)]),(w1,.row 3 r.2.length),(p2,.cells (Groups_.cells a1)),(p3,.cells (Train_.cells a2))]) (.inr rfl) ?_ (.refl _) (Option.some.inj hM) hS 0 rfl
  exact (zaw (zai (x:=.b v2) rfl))
 ·refine Rg 15 ?_
  refine zag (by decide) zhD rfl ?_
  refine zaG (v:=.i a1.letter) 2 hS (by decide) rfl rfl .no (po zaf zap) ?_
  refine zag (by decide) zc1 rfl ?_
  refine zag (by decide) zgx rfl ?_
  refine zaG (v:=.i a2.Pulse.Letters) 3 hS (by decide) rfl rfl .no (po zaf zap) ?_
  obtain ⟨r3,hr3,hM⟩:=zas hM
  refine zaP (bs:=[.i a1.letter,.i 1,.i a2.Pulse.Letters]) (by decide) rfl rfl ((zc5 hr3).le (.k (.k (.k .nil)))) ?_
  refine Om (.b r3) ?_
  rcases bft r3 with hb4 | hb4
  ·replace hM:=ifT hM hb4
   refine Oy (want:=true) hb4 ?_
   refine zag (by decide) zfn rfl ?_
   refine Oy (want:=true) hb4 ?_
   refine zaG (v:=.i a1.number) 2 hS (by decide) rfl rfl .no (po zaf zap) ?_
   refine Oy (want:=true) hb4 ?_
   refine zag (by decide) zc1 rfl ?_
   refine Oy (want:=true) hb4 ?_
   refine zag (by decide) zfb rfl ?_
   refine Oy (want:=true) hb4 ?_
   refine zaG (v:=.i a2.Pulse.Numbers) 3 hS (by decide) rfl rfl .no (po zaf zap) ?_
   refine Oy (want:=true) hb4 ?_
   obtain ⟨r5,hr5,hM⟩:=zas hM
   refine zaP (bs:=[.i a1.number,.i 1,.i a2.Pulse.Numbers]) (by decide) rfl rfl ((zc5 hr5).le (.k (.k (.k .nil)))) ?_
   refine Pt (.b r5) hb4 ?_
   refine Oa (.b r5) ?_
   refine Ni ?_
   exact zak r5 (.k .nil) ⟨(hS.keep [true,true,true,true] rfl).up (by omega),hM⟩
  ·replace hM:=ifF hM hb4
   refine On (want:=true) hb4 ?_
   refine On (want:=true) hb4 ?_
   refine On (want:=true) hb4 ?_
   refine On (want:=true) hb4 ?_
   refine On (want:=true) hb4 ?_
   refine On (want:=true) hb4 ?_
   refine Pf (.b false) hb4 ?_
   refine Oa (.b false) ?_
   refine Ni ?_
   exact zak false (.k .nil) ⟨(hS.keep [true,true,true,true] rfl).up (by omega),hM⟩
theorem zh1 {a0:Train_} {a1:Int} {r:Int} (hM:zen a0 a1=some r):zaJ Try.prog 112 [.agg (Train_.cells a0),.i a1] (.i r):=by
 refine zax mixed Try.func112 rfl (by decide) Try.ntmps112 (by simp) ?pure fun H0 g hf=>?_
 case pure=>exact .v _
 rw [zan]
 change wpA _ _ _ _ (Fr.of [(0,.agg (Train_.cells a0)),(1,.i a1)]) H0 g
 have hS:=St.start hf
 refine Sq ?_
 refine Rg 2 ?_
 refine zd2 (v:=.agg (Train_.cells a0)) (cs:=(Train_.cells a0)) hS (by decide) rfl rfl (by omega) fun H hS=>?_
 refine Oa (.i 0) ?_
 refine Ni ?_
 refine zda (L':=[]) 0 2 hS rfl rfl rfl fun H hS=>?_
 refine Ws ?_
 refine Sq ?_
 refine zaz ?_
 refine Sq ?_
 refine Rg 6 ?_
 refine Om (.i a1) ?_
 refine Of ((Train_.cells a0)) zc1 ?_
 refine Of ((Train_.cells a0)) zgz ?_
 refine Olp (.i a0.Pulse.Pause) zaf zap ?_
 refine Oi (.b (decide (a1≥a0.Pulse.Pause))) ?_
 refine Oa (.b (decide (a1≥a0.Pulse.Pause))) ?_
 refine Ni ?_
 refine Ws ?_
 rcases bft (decide (a1≥a0.Pulse.Pause)) with hb1 | hb1
 ·replace hM:=ifT hM hb1
  refine Ct hb1 ?_
  refine Sq ?_
  refine Rg 1 ?_
  refine Oa (.i 3) ?_
  refine Ni ?_
  refine Ws ?_
  refine zaQ ?_
  refine zaI ?_
  refine zaq ?_
  refine za7 (x:=.i 3) (f:=fun r=>.i r) (.inr rfl) ?_ (.refl _) (Option.some.inj hM) hS
  exact (zaw (zai (x:=.i 3) rfl))
 ·replace hM:=ifF hM hb1
  refine Cf hb1 ?_
  refine Sq ?_
  refine Rg 6 ?_
  refine Om (.i a1) ?_
  refine Of ((Train_.cells a0)) zc1 ?_
  refine Of ((Train_.cells a0)) zij ?_
  refine Olp (.i a0.Pulse.Gap) zaf zap ?_
  refine Oi (.b (decide (a1≥a0.Pulse.Gap))) ?_
  refine Oa (.b (decide (a1≥a0.Pulse.Gap))) ?_
  refine Ni ?_
  refine Ws ?_
  rcases bft (decide (a1≥a0.Pulse.Gap)) with hb2 | hb2
  ·replace hM:=ifT hM hb2
   refine Ct hb2 ?_
   refine Sq ?_
   refine Rg 1 ?_
   refine Oa (.i 2) ?_
   refine Ni ?_
   refine Ws ?_
   refine zaQ ?_
   refine zaI ?_
   refine zaq ?_
   refine za7 (x:=.i 2) (f:=fun r=>.i r) (.inr rfl) ?_ (.refl _) (Option.some.inj hM) hS
   exact (zaw (zai (x:=.i 2) rfl))
  ·replace hM:=ifF hM hb2
   refine Cf hb2 ?_
   refine Sq ?_
   refine Rg 17 ?_
   refine Om (.i a1) ?_
   refine Of ((Train_.cells a0)) zc1 ?_
   refine Of ((Train_.cells a0)) zfc ?_
   refine Olp (.i a0.Pulse.Pitch) zaf zap ?_
   refine Of ((Train_.cells a0)) zc1 ?_
   refine Of ((Train_.cells a0)) zgy ?_
   refine Olp (.i a0.Pulse.Slack) zaf zap ?_
   refine Oi (.i (w64 (a0.Pulse.Pitch-a0.Pulse.Slack))) ?_
   refine Of ((Train_.cells a0)) zc1 ?_
   refine Of ((Train_.cells a0)) zfc ?_
   refine Olp (.i a0.Pulse.Pitch) zaf zap ?_
   refine Of ((Train_.cells a0)) zc1 ?_
   refine Of ((Train_.cells a0)) zgy ?_
   refine Olp (.i a0.Pulse.Slack) zaf zap ?_
   refine Oi (.i (w64 (a0.Pulse.Pitch+a0.Pulse.Slack))) ?_
   obtain ⟨r3,hr3,hM⟩:=zas hM
   refine zaP (bs:=[.i a1,.i (w64 (a0.Pulse.Pitch-a0.Pulse.Slack)),.i (w64 (a0.Pulse.Pitch+a0.Pulse.Slack))]) (by decide) rfl rfl ((zc5 hr3).le (.k (.k (.k .nil)))) ?_
   refine Oa (.b r3) ?_
   refine Ni ?_
   refine Ws ?_
   rcases bft r3 with hb4 | hb4
   ·replace hM:=ifT hM hb4
    refine Ct hb4 ?_
    refine Sq ?_
    refine Rg 1 ?_
    refine Oa (.i 1) ?_
    refine Ni ?_
    refine Ws ?_
    refine zaQ ?_
    refine zaI ?_
    refine zaq ?_
    refine za7 (x:=.i 1) (f:=fun r=>.i r) (.inr rfl) ?_ (.refl _) (Option.some.inj hM) hS
    exact (zaw (zai (x:=.i 1) rfl))
   ·replace hM:=ifF hM hb4
    refine Cf hb4 ?_
    refine zaC ?_
    refine zah ?_
    refine Ws ?_
    refine Sq ?_
    refine Rg 1 ?_
    refine Oa (.i 0) ?_
    refine Ni ?_
    refine zfW [(4,.i 0)] (.k .nil) ?_
    refine zaQ ?_
    refine za7 (x:=.i 0) (f:=fun r=>.i r) (.inr rfl) ?_ (.refl _) (Option.some.inj hM) hS
    exact (zaw (zai (x:=.i 0) rfl))
theorem zh2 {n:Nat} {a0:Train_} {a1:List Int} {r:(List Int)×Bool} (hM:zeo n a0 a1=some r):zaJ Try.prog 102 [.agg (Train_.cells a0),.sl .no 1 (a1.map cI)] (.tup [.sl .no 1 (r.1.map cI),.b r.2]):=by
 refine zax mixed Try.func102 rfl (by decide) Try.ntmps102 (by simp) ?pure fun H0 g hf=>?_
 case pure=>exact .tup _ (zac (.sl _ _ (zav (fun x=>(zac (.v _) zaE)))) (zac (.v _) zaE))
 rw [zan]
 change wpA _ _ _ _ (Fr.of [(0,.agg (Train_.cells a0)),(1,.sl .no 1 (a1.map cI))]) H0 g
 have hS:=St.start hf
 refine Sq ?_
 refine Rg 3 ?_
 refine zd2 (v:=.agg (Train_.cells a0)) (cs:=(Train_.cells a0)) hS (by decide) rfl rfl (by omega) fun H hS=>?_
 refine zdI hS (by decide) zlz (by omega) fun H hS=>?_
 refine Oa (.b false) ?_
 refine Ni ?_
 refine zha (cs':=[.sl (.id (g+3)) 1 (([]:List Int).map cI)]) (L':=[(g+1,.cells [.sl (.id (g+3)) 1 (([]:List Int).map cI)]),(g+0,.cells (Train_.cells a0))]) 0 0 1 3 hS (by omega) (by decide) rfl rfl rfl rfl fun H hS=>?_
 refine Ws ?_
 refine Sq ?_
 refine Rg 1 ?_
 refine zdI hS (by decide) ziI (by omega) fun H hS=>?_
 refine Ni ?_
 refine Ws ?_
 refine Sq ?_
 refine Rg 2 ?_
 refine zfP (first:=[]) (cap:=[.ptr (g+1) 0,.ptr (g+3+1+0) 0,.ptr (g+0) 0]) (by decide) rfl rfl ?_
 refine Oa (.fn (.func 111) [] [.ptr (g+1) 0,.ptr (g+3+1+0) 0,.ptr (g+0) 0]) ?_
 refine Ni ?_
 refine Ws ?_
 refine zaO (J:=Int×Int×(List Int)) (fun j=>[(1,.sl .no 1 (a1.map cI)),(4,.ptr (g+1) 0),(7,.fn (.func 111) [] [.ptr (g+1) 0,.ptr (g+3+1+0) 0,.ptr (g+0) 0])]) (fun j H' g'=>St (·<g) H0 [(g+3+1+0,.cells [.i j.1,.i j.2.1]),(g+3,.row 3 j.2.2.length),(g+1,.cells [.sl (.id (g+3)) 1 (j.2.2.map cI)]),(g+0,.cells (Train_.cells a0))] H' g'/\zcR a0 a1 j.1 j.2.1 j.2.2=some r) ?_ ?_
 ·rintro ⟨v1,v2,v3⟩ H g1 ⟨hS,hM⟩
  change wpA _ _ _ _ (Fr.of [(1,.sl .no 1 (a1.map cI)),(4,.ptr (g+1) 0),(7,.fn (.func 111) [] [.ptr (g+1) 0,.ptr (g+3+1+0) 0,.ptr (g+0) 0])]) _ _
  replace hS:St (·<g) H0 [(g+3+1+0,.cells [.i v1,.i v2]),(g+3,.row 3 v3.length),(g+1,.cells [.sl (.id (g+3)) 1 (v3.map cI)]),(g+0,.cells (Train_.cells a0))] H g1:=hS
  replace hM:zcR a0 a1 v1 v2 v3=some r:=hM
  refine Sq ?_
  refine zaO (J:=Bool×(List Int)) (fun j=>[(4,.ptr (g+1) 0),(63,.b j.1)]) (fun j H' g'=>St (·<g) H0 [(g+3,.row 3 j.2.length),(g+1,.cells [.sl (.id (g+3)) 1 (j.2.map cI)])] H' g'/\zco j.1 j.2=some r) ?_ ?_
  ·rintro ⟨v4,v5⟩ H g2 ⟨hS,hM⟩
   change wpA _ _ _ _ (Fr.of [(4,.ptr (g+1) 0),(63,.b v4)]) _ _
   replace hS:St (·<g) H0 [(g+3,.row 3 v5.length),(g+1,.cells [.sl (.id (g+3)) 1 (v5.map cI)])] H g2:=hS
   replace hM:zco v4 v5=some r:=hM
   rcases bft v4 with hb6 | hb6
   ·replace hM:=ifT hM hb6
    refine Ct hb6 ?_
    refine Sq ?_
    refine Rg 2 ?_
    refine zaM (v:=.sl .nil 0 []) (ns:=[.sl .nil 0 []]) (L':=[(g+3,.row 3 v5.length),(g+1,.cells [.sl .nil 0 []])]) 1 hS rfl rfl .no rfl rfl zfv nlb rfl fun H hS=>?_
    refine Oa (.b false) ?_
    refine Ni ?_
    refine zha (cs':=[.sl (.id (g2+2)) 1 (([]:List Int).map cI)]) (L':=[(g+3,.row 3 v5.length),(g+1,.cells [.sl (.id (g2+2)) 1 (([]:List Int).map cI)])]) 1 0 1 3 hS (by omega) (by decide) rfl rfl rfl rfl fun H hS=>?_
    replace hS:=hS.keep (L':=[(g2+2,.row 3 0),(g+1,.cells [.sl (.id (g2+2)) 1 (([]:List Int).map cI)])]) [true,false,true] rfl
    refine Ws ?_
    refine zaQ ?_
    refine zaq ?_
    refine za7 (x:=.tup [.sl (.id (g2+2)) 1 (([]:List Int).map cI),.b false]) (f:=fun r=>.tup [.sl .no 1 (r.1.map cI),.b r.2]) (.inr rfl) ?_ (.tupL (.cons (.sl _ _ _) (.k .nil))) (Option.some.inj hM) hS
    exact (zc3 (zei (x:=.sl (.id (g2+2)) 1 (([]:List Int).map cI)) 1 hS rfl rfl (po zb6 zcX)) (zai (x:=.b false) rfl))
   ·replace hM:=ifF hM hb6
    refine Cf hb6 ?_
    refine zaC ?_
    refine Ws ?_
    refine Sq ?_
    refine Rg 3 ?_
    refine zaG (v:=.sl (.id (g+3)) 1 (v5.map cI)) 1 hS (by decide) rfl rfl .no (po zb6 zcX) ?_
    refine zaM (v:=.sl (.id (g+3)) 1 (v5.map cI)) (ns:=[.sl (.id (g+3)) 1 (v5.map cI)]) (L':=[(g+3,.row 3 v5.length),(g+1,.cells [.sl (.id (g+3)) 1 (v5.map cI)])]) 1 hS rfl rfl .no rfl rfl zfv nlb rfl fun H hS=>?_
    refine Oa (.b true) ?_
    refine Ni ?_
    refine Ws ?_
    refine zaQ ?_
    refine za7 (x:=.tup [.sl (.id (g+3)) 1 (v5.map cI),.b true]) (f:=fun r=>.tup [.sl .no 1 (r.1.map cI),.b r.2]) (.inr rfl) ?_ (.tupL (.cons (.sl _ _ _) (.k .nil))) (Option.some.inj hM) hS
    exact (zc3 (zei (x:=.sl (.id (g+3)) 1 (v5.map cI)) 1 hS rfl rfl (po zb6 zcX)) (zai (x:=.b true) rfl))
  ·refine Rg 8 ?_
   refine Om (.sl .no 1 (a1.map cI)) ?_
   refine zcg (n:=a1.length) (by decide) rfl (List.length_map _) zbA ?_
   refine Oi (.b (decide ((a1.length:Int)>0))) ?_
   refine Om (.b (decide ((a1.length:Int)>0))) ?_
   rcases bft (decide ((a1.length:Int)>0)) with hb7 | hb7
   ·replace hM:=ifT hM hb7
    refine Oy (want:=true) hb7 ?_
    refine Om (.fn (.func 111) [] [.ptr (g+1) 0,.ptr (g+3+1+0) 0,.ptr (g+0) 0]) ?_
    refine Oy (want:=true) hb7 ?_
    obtain ⟨r8,hr8,hM⟩:=zas hM
    have hndr8:=hS.nd_at (ns:=[2,1,0,3]) (M:=[(g+1,.cells [.sl (.id (g+3)) 1 (v3.map cI)]),(g+3,.row 3 v3.length),(g+3+1+0,.cells [.i v1,.i v2]),(g+0,.cells (Train_.cells a0))]) (M':=[(g+1,.cells [.sl (.id (g+3)) 1 (r8.2.map cI)]),(g+3,.row 3 r8.2.length),(g+3+1+0,.cells [.i v1,.i v2]),(g+0,.cells (Train_.cells a0))]) (.cons rfl (.cons rfl (.cons rfl (.cons rfl .nil)))) (by decide)
    refine zfx (bs:=[.ptr (g+1) 0,.ptr (g+3+1+0) 0,.ptr (g+0) 0]) (M:=[(g+1,.cells [.sl (.id (g+3)) 1 (v3.map cI)]),(g+3,.row 3 v3.length),(g+3+1+0,.cells [.i v1,.i v2]),(g+0,.cells (Train_.cells a0))]) (M':=[(g+1,.cells [.sl (.id (g+3)) 1 (r8.2.map cI)]),(g+3,.row 3 r8.2.length),(g+3+1+0,.cells [.i v1,.i v2]),(g+0,.cells (Train_.cells a0))]) (L':=[(g+3+1+0,.cells [.i v1,.i v2]),(g+3,.row 3 r8.2.length),(g+1,.cells [.sl (.id (g+3)) 1 (r8.2.map cI)]),(g+0,.cells (Train_.cells a0))]) [2,1,0,3] (.inl rfl) hS (by decide) rfl rfl ((zfg (p1:=g+1) (w1:=g+3) (p2:=g+3+1+0) (p3:=g+0) hndr8 hr8).le (.k (.k (.k .nil)))) (.cons rfl (.cons rfl (.cons rfl (.cons rfl .nil)))) rfl (by omega) fun H hS=>?_
    refine Oy (want:=true) hb7 ?_
    refine zdW (e:=r8.1) (by decide) rfl ?_
    refine Pt (.b (!r8.1)) hb7 ?_
    refine Ni ?_
    exact zak ((!r8.1),r8.2) (.k (.k .nil)) ⟨(hS.keep [false,true,true,false] rfl).up (by omega),hM⟩
   ·replace hM:=ifF hM hb7
    refine On (want:=true) hb7 ?_
    refine On (want:=true) hb7 ?_
    refine On (want:=true) hb7 ?_
    refine Pf (.b false) hb7 ?_
    refine Ni ?_
    exact zak (false,v3) (.k (.k .nil)) ⟨(hS.keep [false,true,true,false] rfl).up (by omega),hM⟩
 ·refine Sq ?_
  refine Rg 3 ?_
  refine Om (.sl .no 1 (a1.map cI)) ?_
  refine zcg (n:=a1.length) (by decide) rfl (List.length_map _) zbA ?_
  refine Om (.i 0) ?_
  refine Ni ?_
  refine Ws ?_
  refine zaz ?_
  refine zcx (V:=Int×Int×Int×(List Int)) (fun v=>[(1,.sl .no 1 (a1.map cI)),(2,.ptr (g+0) 0),(4,.ptr (g+1) 0),(6,.ptr (g+3+1+0) 0),(7,.fn (.func 111) [] [.ptr (g+1) 0,.ptr (g+3+1+0) 0,.ptr (g+0) 0]),(11,.sl .no 1 (a1.map cI)),(12,.i (a1.length:Int)),(13,.i v.1)]) (fun v m4 H' g'=>St (·<g) H0 [(g+3+1+0,.cells [.i v.2.1,.i v.2.2.1]),(g+3,.row 3 v.2.2.2.length),(g+1,.cells [.sl (.id (g+3)) 1 (v.2.2.2.map cI)]),(g+0,.cells (Train_.cells a0))] H' g'/\zaN a0 a1 m4 v.1 v.2.1 v.2.2.1 v.2.2.2=some r) (n:=n) (0,0,0,([]:List Int)) (.k (.k (.k (.k (.k (.k (.k (.k .nil)))))))) ⟨(hS.keep [true,true,true,true] rfl).up (by omega),hM⟩ ?_
  rintro ⟨v10,v11,v12,v13⟩ m4 H g4 ⟨hS,hM⟩
  obtain _ | m4:=m4
  ·exact nomatch (show none=some _ from hM)
  change wpA _ _ _ _ (Fr.of [(1,.sl .no 1 (a1.map cI)),(2,.ptr (g+0) 0),(4,.ptr (g+1) 0),(6,.ptr (g+3+1+0) 0),(7,.fn (.func 111) [] [.ptr (g+1) 0,.ptr (g+3+1+0) 0,.ptr (g+0) 0]),(11,.sl .no 1 (a1.map cI)),(12,.i (a1.length:Int)),(13,.i v10)]) _ _
  replace hS:St (·<g) H0 [(g+3+1+0,.cells [.i v11,.i v12]),(g+3,.row 3 v13.length),(g+1,.cells [.sl (.id (g+3)) 1 (v13.map cI)]),(g+0,.cells (Train_.cells a0))] H g4:=hS
  replace hM:zbR a0 a1 (zaN a0 a1 m4) v10 v11 v12 v13=some r:=hM
  refine Sq ?_
  refine Rg 1 ?_
  refine Oi (.b (decide (v10<(a1.length:Int)))) ?_
  refine Ni ?_
  refine Ws ?_
  refine Sq ?_
  rcases bft (decide (v10<(a1.length:Int))) with hb14 | hb14
  ·replace hM:=ifT hM hb14
   refine Ct hb14 ?_
   refine zaC ?_
   refine Ws ?_
   refine zaO (J:=Int×Int×(List Int)) (fun j=>[(1,.sl .no 1 (a1.map cI)),(2,.ptr (g+0) 0),(4,.ptr (g+1) 0),(6,.ptr (g+3+1+0) 0),(7,.fn (.func 111) [] [.ptr (g+1) 0,.ptr (g+3+1+0) 0,.ptr (g+0) 0]),(11,.sl .no 1 (a1.map cI)),(12,.i (a1.length:Int)),(13,.i v10)]) (fun j H' g'=>St (·<g) H0 [(g+3+1+0,.cells [.i j.1,.i j.2.1]),(g+3,.row 3 j.2.2.length),(g+1,.cells [.sl (.id (g+3)) 1 (j.2.2.map cI)]),(g+0,.cells (Train_.cells a0))] H' g'/\zaZ (zaN a0 a1 m4) v10 j.1 j.2.1 j.2.2=some r) ?_ ?_
   ·rintro ⟨v15,v16,v17⟩ H g5 ⟨hS,hM⟩
    change wpA _ _ _ _ (Fr.of [(1,.sl .no 1 (a1.map cI)),(2,.ptr (g+0) 0),(4,.ptr (g+1) 0),(6,.ptr (g+3+1+0) 0),(7,.fn (.func 111) [] [.ptr (g+1) 0,.ptr (g+3+1+0) 0,.ptr (g+0) 0]),(11,.sl .no 1 (a1.map cI)),(12,.i (a1.length:Int)),(13,.i v10)]) _ _
    replace hS:St (·<g) H0 [(g+3+1+0,.cells [.i v15,.i v16]),(g+3,.row 3 v17.length),(g+1,.cells [.sl (.id (g+3)) 1 (v17.map cI)]),(g+0,.cells (Train_.cells a0))] H g5:=hS
    replace hM:zaZ (zaN a0 a1 m4) v10 v15 v16 v17=some r:=hM
    refine Rg 2 ?_
    refine Oi (.i (w64 (v10+1))) ?_
    refine Om (.i (w64 (v10+1))) ?_
    refine Ni ?_
    exact zbF (w64 (v10+1),v15,v16,v17) (Nat.lt_succ_self _) (.k (.k (.k (.k (.k (.k (.k (.k .nil)))))))) ⟨(hS.keep [true,true,true,true] rfl).up (by omega),hM⟩
   ·refine zaz ?_
    refine Sq ?_
    refine Rg 5 ?_
    refine Om (.i v10) ?_
    obtain ⟨x18,hx18,hM⟩:=zas hM
    refine zbu (xs:=a1) (f:=cI) (z:=v10) (u:=x18) (by decide) rfl rfl zbL hx18 ?_
    refine Olp (.i x18) zaf zap ?_
    refine Oa (.i v10) ?_
    refine Oa (.i x18) ?_
    refine Ni ?_
    refine Ws ?_
    refine Sq ?_
    refine Sq ?_
    refine Rg 2 ?_
    refine Om (.i v10) ?_
    refine Oi (.b (v10==0)) ?_
    refine Ni ?_
    refine Ws ?_
    rcases bft (v10==0) with hb19 | hb19
    ·replace hM:=ifT hM hb19
     refine Ct hb19 ?_
     refine Sq ?_
     refine Rg 2 ?_
     refine zdb (cs:=[.i 1,.i 0]) (by decide) ziI zna rfl ?_
     refine zaM (v:=.agg [.i 1,.i 0]) (ns:=[.i 1,.i 0]) (L':=[(g+3+1+0,.cells [.i 1,.i 0]),(g+3,.row 3 v13.length),(g+1,.cells [.sl (.id (g+3)) 1 (v13.map cI)]),(g+0,.cells (Train_.cells a0))]) 0 hS rfl rfl .no rfl rfl zlI nlb rfl fun H hS=>?_
     refine Ni ?_
     refine Ws ?_
     refine zcp ?_
     refine zay ?_
     refine zaD ?_
     exact zak (1,0,v13) (.k (.k (.k (.k (.k (.k (.k (.k .nil)))))))) ⟨(hS.keep [true,true,true,true] rfl).up (by omega),hM⟩
    ·replace hM:=ifF hM hb19
     refine Cf hb19 ?_
     refine zaC ?_
     refine Ws ?_
     refine Sq ?_
     have hS0:=hS
     refine zd1 (n:=9) rfl (by kernel_rfl) ?_
     refine zaG (v:=.agg (Train_.cells a0)) 3 hS (by decide) rfl rfl (.st hS0 3 rfl (by omega)) (pg zf3) ?_
     refine Om (.i x18) ?_
     refine Om (.sl .no 1 (a1.map cI)) ?_
     refine Om (.i v10) ?_
     refine Oi (.i (w64 (v10-1))) ?_
     obtain ⟨x20,hx20,hM⟩:=zas hM
     refine zbu (xs:=a1) (f:=cI) (z:=(w64 (v10-1))) (u:=x20) (by decide) rfl rfl zbL hx20 ?_
     refine Olp (.i x20) zaf zap ?_
     refine Oi (.i (w64 (x18-x20))) ?_
     obtain ⟨r21,hr21,hM⟩:=zas hM
     refine zaP (bs:=[.agg (Train_.cells a0),.i (w64 (x18-x20))]) (by decide) rfl rfl ((zh1 hr21).le (.k (.k .nil))) ?_
     refine Ni ?_
     refine Ws ?_
     refine zaz ?_
     refine Sq ?_
     refine Rg 2 ?_
     refine Oi (.b (r21==1)) ?_
     refine Oa (.b (r21==1)) ?_
     refine Ni ?_
     refine Ws ?_
     rcases bft (r21==1) with hb22 | hb22
     ·replace hM:=ifT hM hb22
      refine Ct hb22 ?_
      refine Sq ?_
      refine Rg 3 ?_
      refine zag (by decide) zfn rfl ?_
      refine zaG (v:=.i v12) 0 hS (by decide) rfl rfl .no (po zaf zap) ?_
      refine Oi (.b (decide (v12>0))) ?_
      refine Ni ?_
      refine Ws ?_
      rcases bft (decide (v12>0)) with hb23 | hb23
      ·replace hM:=ifT hM hb23
       refine Ct hb23 ?_
       refine Rg 5 ?_
       refine zag (by decide) zfn rfl ?_
       refine zaG (v:=.i v12) 0 hS (by decide) rfl rfl .no (po zaf zap) ?_
       refine Oi (.i (w64 (v12+1))) ?_
       refine zag (by decide) zfn rfl ?_
       refine zaM (v:=.i (w64 (v12+1))) (ns:=[.i (w64 (v12+1))]) (L':=[(g+3+1+0,.cells [.i v11,.i (w64 (v12+1))]),(g+3,.row 3 v13.length),(g+1,.cells [.sl (.id (g+3)) 1 (v13.map cI)]),(g+0,.cells (Train_.cells a0))]) 0 hS rfl rfl .no rfl rfl zeY nlb rfl fun H hS=>?_
       refine Ni ?_
       refine zah ?_
       refine zah ?_
       exact zak (v11,w64 (v12+1),v13) (.k (.k (.k (.k (.k (.k (.k (.k .nil)))))))) ⟨(hS.keep [true,true,true,true] rfl).up (by omega),hM⟩
      ·replace hM:=ifF hM hb23
       refine Cf hb23 ?_
       refine Rg 5 ?_
       refine zag (by decide) zhD rfl ?_
       refine zaG (v:=.i v11) 0 hS (by decide) rfl rfl .no (po zaf zap) ?_
       refine Oi (.i (w64 (v11+1))) ?_
       refine zag (by decide) zhD rfl ?_
       refine zaM (v:=.i (w64 (v11+1))) (ns:=[.i (w64 (v11+1))]) (L':=[(g+3+1+0,.cells [.i (w64 (v11+1)),.i v12]),(g+3,.row 3 v13.length),(g+1,.cells [.sl (.id (g+3)) 1 (v13.map cI)]),(g+0,.cells (Train_.cells a0))]) 0 hS rfl rfl .no rfl rfl zeY nlb rfl fun H hS=>?_
       refine Ni ?_
       refine zah ?_
       refine zah ?_
       exact zak (w64 (v11+1),v12,v13) (.k (.k (.k (.k (.k (.k (.k (.k .nil)))))))) ⟨(hS.keep [true,true,true,true] rfl).up (by omega),hM⟩
     ·replace hM:=ifF hM hb22
      refine Cf hb22 ?_
      refine Sq ?_
      refine Rg 2 ?_
      refine Oi (.b (r21==2)) ?_
      refine Oa (.b (r21==2)) ?_
      refine Ni ?_
      refine Ws ?_
      rcases bft (r21==2) with hb24 | hb24
      ·replace hM:=ifT hM hb24
       refine Ct hb24 ?_
       refine Sq ?_
       refine Sq ?_
       refine Rg 3 ?_
       refine zag (by decide) zfn rfl ?_
       refine zaG (v:=.i v12) 0 hS (by decide) rfl rfl .no (po zaf zap) ?_
       refine Oi (.b (decide (v12>0))) ?_
       refine Ni ?_
       refine Ws ?_
       rcases bft (decide (v12>0)) with hb25 | hb25
       ·replace hM:=ifT hM hb25
        refine Ct hb25 ?_
        refine Sq ?_
        refine Rg 2 ?_
        refine zaM (v:=.sl .nil 0 []) (ns:=[.sl .nil 0 []]) (L':=[(g+3+1+0,.cells [.i v11,.i v12]),(g+3,.row 3 v13.length),(g+1,.cells [.sl .nil 0 []]),(g+0,.cells (Train_.cells a0))]) 2 hS rfl rfl .no rfl rfl zfv nlb rfl fun H hS=>?_
        refine Oa (.b false) ?_
        refine Ni ?_
        refine zha (cs':=[.sl (.id (g4+1+5+2+9+2+2+3+2)) 1 (([]:List Int).map cI)]) (L':=[(g+3+1+0,.cells [.i v11,.i v12]),(g+3,.row 3 v13.length),(g+1,.cells [.sl (.id (g4+1+5+2+9+2+2+3+2)) 1 (([]:List Int).map cI)]),(g+0,.cells (Train_.cells a0))]) 2 0 1 3 hS (by omega) (by decide) rfl rfl rfl rfl fun H hS=>?_
        replace hS:=hS.keep (L':=[(g4+1+5+2+9+2+2+3+2,.row 3 0),(g+1,.cells [.sl (.id (g4+1+5+2+9+2+2+3+2)) 1 (([]:List Int).map cI)])]) [true,false,false,true,false] rfl
        refine Ws ?_
        refine zaQ ?_
        refine zaq ?_
        refine zaI ?_
        refine zaI ?_
        refine zbr ?_
        refine zbs ?_
        refine zaI ?_
        refine zbr ?_
        refine za7 (x:=.tup [.sl (.id (g4+1+5+2+9+2+2+3+2)) 1 (([]:List Int).map cI),.b false]) (f:=fun r=>.tup [.sl .no 1 (r.1.map cI),.b r.2]) (.inr rfl) ?_ (.tupL (.cons (.sl _ _ _) (.k .nil))) (Option.some.inj hM) hS
        exact (zc3 (zei (x:=.sl (.id (g4+1+5+2+9+2+2+3+2)) 1 (([]:List Int).map cI)) 1 hS rfl rfl (po zb6 zcX)) (zai (x:=.b false) rfl))
       ·replace hM:=ifF hM hb25
        refine Cf hb25 ?_
        refine zaC ?_
        refine Ws ?_
        refine Rg 2 ?_
        refine zag (by decide) zfn rfl ?_
        refine zaM (v:=.i 1) (ns:=[.i 1]) (L':=[(g+3+1+0,.cells [.i v11,.i 1]),(g+3,.row 3 v13.length),(g+1,.cells [.sl (.id (g+3)) 1 (v13.map cI)]),(g+0,.cells (Train_.cells a0))]) 0 hS rfl rfl .no rfl rfl zeY nlb rfl fun H hS=>?_
        refine Ni ?_
        refine zah ?_
        refine zah ?_
        exact zak (v11,1,v13) (.k (.k (.k (.k (.k (.k (.k (.k .nil)))))))) ⟨(hS.keep [true,true,true,true] rfl).up (by omega),hM⟩
      ·replace hM:=ifF hM hb24
       refine Cf hb24 ?_
       refine Sq ?_
       refine Rg 2 ?_
       refine Oi (.b (r21==3)) ?_
       refine Oa (.b (r21==3)) ?_
       refine Ni ?_
       refine Ws ?_
       rcases bft (r21==3) with hb26 | hb26
       ·replace hM:=ifT hM hb26
        refine Ct hb26 ?_
        refine Sq ?_
        refine Sq ?_
        refine Rg 3 ?_
        refine Om (.fn (.func 111) [] [.ptr (g+1) 0,.ptr (g+3+1+0) 0,.ptr (g+0) 0]) ?_
        obtain ⟨r27,hr27,hM⟩:=zas hM
        have hndr27:=hS.nd_at (ns:=[2,1,0,3]) (M:=[(g+1,.cells [.sl (.id (g+3)) 1 (v13.map cI)]),(g+3,.row 3 v13.length),(g+3+1+0,.cells [.i v11,.i v12]),(g+0,.cells (Train_.cells a0))]) (M':=[(g+1,.cells [.sl (.id (g+3)) 1 (r27.2.map cI)]),(g+3,.row 3 r27.2.length),(g+3+1+0,.cells [.i v11,.i v12]),(g+0,.cells (Train_.cells a0))]) (.cons rfl (.cons rfl (.cons rfl (.cons rfl .nil)))) (by decide)
        refine zfx (bs:=[.ptr (g+1) 0,.ptr (g+3+1+0) 0,.ptr (g+0) 0]) (M:=[(g+1,.cells [.sl (.id (g+3)) 1 (v13.map cI)]),(g+3,.row 3 v13.length),(g+3+1+0,.cells [.i v11,.i v12]),(g+0,.cells (Train_.cells a0))]) (M':=[(g+1,.cells [.sl (.id (g+3)) 1 (r27.2.map cI)]),(g+3,.row 3 r27.2.length),(g+3+1+0,.cells [.i v11,.i v12]),(g+0,.cells (Train_.cells a0))]) (L':=[(g+3+1+0,.cells [.i v11,.i v12]),(g+3,.row 3 r27.2.length),(g+1,.cells [.sl (.id (g+3)) 1 (r27.2.map cI)]),(g+0,.cells (Train_.cells a0))]) [2,1,0,3] (.inl rfl) hS (by decide) rfl rfl ((zfg (p1:=g+1) (w1:=g+3) (p2:=g+3+1+0) (p3:=g+0) hndr27 hr27).le (.k (.k (.k .nil)))) (.cons rfl (.cons rfl (.cons rfl (.cons rfl .nil)))) rfl (by omega) fun H hS=>?_
        refine zdW (e:=r27.1) (by decide) rfl ?_
        refine Ni ?_
        refine Ws ?_
        rcases bft (!r27.1) with hb28 | hb28
        ·replace hM:=ifT hM hb28
         refine Ct hb28 ?_
         refine Sq ?_
         refine Rg 2 ?_
         refine zaM (v:=.sl .nil 0 []) (ns:=[.sl .nil 0 []]) (L':=[(g+3+1+0,.cells [.i v11,.i v12]),(g+3,.row 3 r27.2.length),(g+1,.cells [.sl .nil 0 []]),(g+0,.cells (Train_.cells a0))]) 2 hS rfl rfl .no rfl rfl zfv nlb rfl fun H hS=>?_
         refine Oa (.b false) ?_
         refine Ni ?_
         refine zha (cs':=[.sl (.id (g4+1+5+2+9+2+2+2+3+2)) 1 (([]:List Int).map cI)]) (L':=[(g+3+1+0,.cells [.i v11,.i v12]),(g+3,.row 3 r27.2.length),(g+1,.cells [.sl (.id (g4+1+5+2+9+2+2+2+3+2)) 1 (([]:List Int).map cI)]),(g+0,.cells (Train_.cells a0))]) 2 0 1 3 hS (by omega) (by decide) rfl rfl rfl rfl fun H hS=>?_
         replace hS:=hS.keep (L':=[(g4+1+5+2+9+2+2+2+3+2,.row 3 0),(g+1,.cells [.sl (.id (g4+1+5+2+9+2+2+2+3+2)) 1 (([]:List Int).map cI)])]) [true,false,false,true,false] rfl
         refine Ws ?_
         refine zaQ ?_
         refine zaq ?_
         refine zaI ?_
         refine zaI ?_
         refine zbr ?_
         refine zbs ?_
         refine zaI ?_
         refine zbr ?_
         refine za7 (x:=.tup [.sl (.id (g4+1+5+2+9+2+2+2+3+2)) 1 (([]:List Int).map cI),.b false]) (f:=fun r=>.tup [.sl .no 1 (r.1.map cI),.b r.2]) (.inr rfl) ?_ (.tupL (.cons (.sl _ _ _) (.k .nil))) (Option.some.inj hM) hS
         exact (zc3 (zei (x:=.sl (.id (g4+1+5+2+9+2+2+2+3+2)) 1 (([]:List Int).map cI)) 1 hS rfl rfl (po zb6 zcX)) (zai (x:=.b false) rfl))
        ·replace hM:=ifF hM hb28
         refine Cf hb28 ?_
         refine zaC ?_
         refine Ws ?_
         refine Rg 2 ?_
         refine zdb (cs:=[.i 1,.i 0]) (by decide) ziI zna rfl ?_
         refine zaM (v:=.agg [.i 1,.i 0]) (ns:=[.i 1,.i 0]) (L':=[(g+3+1+0,.cells [.i 1,.i 0]),(g+3,.row 3 r27.2.length),(g+1,.cells [.sl (.id (g+3)) 1 (r27.2.map cI)]),(g+0,.cells (Train_.cells a0))]) 0 hS rfl rfl .no rfl rfl zlI nlb rfl fun H hS=>?_
         refine Ni ?_
         refine zah ?_
         refine zah ?_
         exact zak (1,0,r27.2) (.k (.k (.k (.k (.k (.k (.k (.k .nil)))))))) ⟨(hS.keep [true,true,true,true] rfl).up (by omega),hM⟩
       ·replace hM:=ifF hM hb26
        refine Cf hb26 ?_
        refine Sq ?_
        refine Rg 2 ?_
        refine zaM (v:=.sl .nil 0 []) (ns:=[.sl .nil 0 []]) (L':=[(g+3+1+0,.cells [.i v11,.i v12]),(g+3,.row 3 v13.length),(g+1,.cells [.sl .nil 0 []]),(g+0,.cells (Train_.cells a0))]) 2 hS rfl rfl .no rfl rfl zfv nlb rfl fun H hS=>?_
        refine Oa (.b false) ?_
        refine Ni ?_
        refine zha (cs':=[.sl (.id (g4+1+5+2+9+2+2+2+2)) 1 (([]:List Int).map cI)]) (L':=[(g+3+1+0,.cells [.i v11,.i v12]),(g+3,.row 3 v13.length),(g+1,.cells [.sl (.id (g4+1+5+2+9+2+2+2+2)) 1 (([]:List Int).map cI)]),(g+0,.cells (Train_.cells a0))]) 2 0 1 3 hS (by omega) (by decide) rfl rfl rfl rfl fun H hS=>?_
        replace hS:=hS.keep (L':=[(g4+1+5+2+9+2+2+2+2,.row 3 0),(g+1,.cells [.sl (.id (g4+1+5+2+9+2+2+2+2)) 1 (([]:List Int).map cI)])]) [true,false,false,true,false] rfl
        refine Ws ?_
        refine zaQ ?_
        refine zaI ?_
        refine zaI ?_
        refine zbr ?_
        refine zbs ?_
        refine zaI ?_
        refine zbr ?_
        refine za7 (x:=.tup [.sl (.id (g4+1+5+2+9+2+2+2+2)) 1 (([]:List Int).map cI),.b false]) (f:=fun r=>.tup [.sl .no 1 (r.1.map cI),.b r.2]) (.inr rfl) ?_ (.tupL (.cons (.sl _ _ _) (.k .nil))) (Option.some.inj hM) hS
        exact (zc3 (zei (x:=.sl (.id (g4+1+5+2+9+2+2+2+2)) 1 (([]:List Int).map cI)) 1 hS rfl rfl (po zb6 zcX)) (zai (x:=.b false) rfl))
  ·replace hM:=ifF hM hb14
   refine Cf hb14 ?_
   refine zcp ?_
   refine zay ?_
   refine zau ?_
   refine zaD ?_
   exact zak (v11,v12,v13) (.k (.k (.k .nil))) ⟨(hS.keep [true,true,true,true] rfl).up (by omega),hM⟩
end Go.Proofs.Ytclaalcoefcljaa
