/-
  The code returns what the functions say (printed by gen.py).
  Conditions: none.
-/
import Derived.Test.YtclaalcoefcljaaWkTopCrossed1
import Derived.Test.YtclaalcoefcljaaAmPc
set_option linter.all false
namespace Go.Proofs.Ytclaalcoefcljaa
open Go Go.AM Go.Law
set_option linter.unusedVariables false
set_option maxRecDepth 4000
set_option maxHeartbeats 4000000
theorem zg3 {p1 w10 w11 w12:Nat} (hnd:[p1,w10,w11,w12].Nodup) {st:Carriage_} {r:Unit×Carriage_} (hM:zdx st=some r):ziE Try.prog 94 [.ptr p1 0] [(p1,.cells [.sl .no 2 (st.t.Records.map TrayRecord.cells),.i st.t.At,.i st.t.Way,.i st.t.Step,.sl .no 2 (st.t.Presses.map TrayPress.cells),.sl .no 2 (st.queue.map TrayPress.cells),.ms w10 0 1 (2*st.t.Records.length) (2*st.t.Records.length),.i st.now,.i st.at_.At,.i st.at_.Way,.i st.at_.Side,.sl (.id w11) 4 (st.run.spells.map Spell_.cells),.sl (.id w12) 2 (st.run.plays.map TrayPlay.cells),.i st.run.steps,.i st.run.end_]),(w10,.cells (st.pins.map cB).flatten),(w11,.row 160 st.run.spells.length),(w12,.row 71 st.run.plays.length)] (.tup []) [(p1,.cells [.sl .no 2 (r.2.t.Records.map TrayRecord.cells),.i r.2.t.At,.i r.2.t.Way,.i r.2.t.Step,.sl .no 2 (r.2.t.Presses.map TrayPress.cells),.sl .no 2 (r.2.queue.map TrayPress.cells),.ms w10 0 1 (2*r.2.t.Records.length) (2*r.2.t.Records.length),.i r.2.now,.i r.2.at_.At,.i r.2.at_.Way,.i r.2.at_.Side,.sl (.id w11) 4 (r.2.run.spells.map Spell_.cells),.sl (.id w12) 2 (r.2.run.plays.map TrayPlay.cells),.i r.2.run.steps,.i r.2.run.end_]),(w10,.cells (r.2.pins.map cB).flatten),(w11,.row 160 r.2.run.spells.length),(w12,.row 71 r.2.run.plays.length)]:=by
 refine zc8 mixed Try.func94 rfl (by decide) Try.ntmps94 (by simp) (zet (zet (zih (zih zgw)))) hnd ?pure ?cells fun H0 g hf_ hp=>?_
 case pure=>exact fun H _=>(show Go.AM.Pure _ from .tup _ zaZ).inH
 case cells=>exact (zi3 (zes (zaH (.inl (.inl (.sl _ _ (zaT (fun x=>(zaf (.v _) (zaf (.v _) zaZ))))))) (zaH (.inl (.inl (.v _))) (zaH (.inl (.inl (.v _))) (zaH (.inl (.inl (.v _))) (zaH (.inl (.inl (.sl _ _ (zaT (fun x=>(zaf (.v _) (zaf (.v _) zaZ))))))) (zaH (.inl (.inl (.sl _ _ (zaT (fun x=>(zaf (.v _) (zaf (.v _) zaZ))))))) (zaH (.inr (.inr ⟨_,_,_,_,_,_,rfl,(List.mem_of_getElem? (i:=1) rfl)⟩)) (zaH (.inl (.inl (.v _))) (zaH (.inl (.inl (.v _))) (zaH (.inl (.inl (.v _))) (zaH (.inl (.inl (.v _))) (zaH (.inl (.inr ⟨_,_,_,_,_,rfl,(List.mem_of_getElem? (i:=2) rfl),zaT (fun x=>(zaf (.v _) (zaf (.v _) (zaf (.v _) (zaf (.v _) zaZ)))))⟩)) (zaH (.inl (.inr ⟨_,_,_,_,_,rfl,(List.mem_of_getElem? (i:=3) rfl),zaT (fun x=>(zaf (.v _) (zaf (.v _) zaZ)))⟩)) (zaH (.inl (.inl (.v _))) (zaH (.inl (.inl (.v _))) zme))))))))))))))) (zes (zhq (fun x=>(zaf (.v _) zaZ))) (zig (zig zi2)))) zgv)
 rw [zar]
 change wpA _ _ _ _ (Fr.of [(0,.ptr p1 0)]) H0 g
 have hS:=St.startH (L:=[(p1,.cells [.sl .no 2 (st.t.Records.map TrayRecord.cells),.i st.t.At,.i st.t.Way,.i st.t.Step,.sl .no 2 (st.t.Presses.map TrayPress.cells),.sl .no 2 (st.queue.map TrayPress.cells),.ms w10 0 1 (2*st.t.Records.length) (2*st.t.Records.length),.i st.now,.i st.at_.At,.i st.at_.Way,.i st.at_.Side,.sl (.id w11) 4 (st.run.spells.map Spell_.cells),.sl (.id w12) 2 (st.run.plays.map TrayPlay.cells),.i st.run.steps,.i st.run.end_]),(w10,.cells (st.pins.map cB).flatten),(w11,.row 160 st.run.spells.length),(w12,.row 71 st.run.plays.length)]) hf_ hnd hp
 replace hS:St (fun i=>i<g/\i∉ids [(p1,.cells [.sl .no 2 (st.t.Records.map TrayRecord.cells),.i st.t.At,.i st.t.Way,.i st.t.Step,.sl .no 2 (st.t.Presses.map TrayPress.cells),.sl .no 2 (st.queue.map TrayPress.cells),.ms w10 0 1 (2*st.t.Records.length) (2*st.t.Records.length),.i st.now,.i st.at_.At,.i st.at_.Way,.i st.at_.Side,.sl (.id w11) 4 (st.run.spells.map Spell_.cells),.sl (.id w12) 2 (st.run.plays.map TrayPlay.cells),.i st.run.steps,.i st.run.end_]),(w10,.cells (st.pins.map cB).flatten),(w11,.row 160 st.run.spells.length),(w12,.row 71 st.run.plays.length)]) H0 [(p1,.cells [.sl .no 2 (st.t.Records.map TrayRecord.cells),.i st.t.At,.i st.t.Way,.i st.t.Step,.sl .no 2 (st.t.Presses.map TrayPress.cells),.sl .no 2 (st.queue.map TrayPress.cells),.ms w10 0 1 (2*st.t.Records.length) (2*st.t.Records.length),.i st.now,.i st.at_.At,.i st.at_.Way,.i st.at_.Side,.sl (.id w11) 4 (st.run.spells.map Spell_.cells),.sl (.id w12) 2 (st.run.plays.map TrayPlay.cells),.i st.run.steps,.i st.run.end_]),(w10,.cells (st.pins.map cB).flatten),(w11,.row 160 st.run.spells.length),(w12,.row 71 st.run.plays.length)] H0 g:=hS
 refine zaJ (J:=Int×Int×Int×Int) (fun j=>[(0,.ptr p1 0)]) (fun j H' g'=>St (fun i=>i<g/\i∉ids [(p1,.cells [.sl .no 2 (st.t.Records.map TrayRecord.cells),.i st.t.At,.i st.t.Way,.i st.t.Step,.sl .no 2 (st.t.Presses.map TrayPress.cells),.sl .no 2 (st.queue.map TrayPress.cells),.ms w10 0 1 (2*st.t.Records.length) (2*st.t.Records.length),.i st.now,.i st.at_.At,.i st.at_.Way,.i st.at_.Side,.sl (.id w11) 4 (st.run.spells.map Spell_.cells),.sl (.id w12) 2 (st.run.plays.map TrayPlay.cells),.i st.run.steps,.i st.run.end_]),(w10,.cells (st.pins.map cB).flatten),(w11,.row 160 st.run.spells.length),(w12,.row 71 st.run.plays.length)]) H0 [(p1,.cells [.sl .no 2 (st.t.Records.map TrayRecord.cells),.i st.t.At,.i st.t.Way,.i st.t.Step,.sl .no 2 (st.t.Presses.map TrayPress.cells),.sl .no 2 (st.queue.map TrayPress.cells),.ms w10 0 1 (2*st.t.Records.length) (2*st.t.Records.length),.i j.1,.i j.2.1,.i j.2.2.1,.i st.at_.Side,.sl (.id w11) 4 (st.run.spells.map Spell_.cells),.sl (.id w12) 2 (st.run.plays.map TrayPlay.cells),.i j.2.2.2,.i st.run.end_]),(w10,.cells (st.pins.map cB).flatten),(w11,.row 160 st.run.spells.length),(w12,.row 71 st.run.plays.length)] H' g'/\zbW st j.1 j.2.1 j.2.2.1 j.2.2.2=some r) ?_ ?_
 ·rintro ⟨v1,v2,v3,v4⟩ H g1 ⟨hS,hM⟩
  change wpA _ _ _ _ (Fr.of [(0,.ptr p1 0)]) _ _
  replace hS:St (fun i=>i<g/\i∉ids [(p1,.cells [.sl .no 2 (st.t.Records.map TrayRecord.cells),.i st.t.At,.i st.t.Way,.i st.t.Step,.sl .no 2 (st.t.Presses.map TrayPress.cells),.sl .no 2 (st.queue.map TrayPress.cells),.ms w10 0 1 (2*st.t.Records.length) (2*st.t.Records.length),.i st.now,.i st.at_.At,.i st.at_.Way,.i st.at_.Side,.sl (.id w11) 4 (st.run.spells.map Spell_.cells),.sl (.id w12) 2 (st.run.plays.map TrayPlay.cells),.i st.run.steps,.i st.run.end_]),(w10,.cells (st.pins.map cB).flatten),(w11,.row 160 st.run.spells.length),(w12,.row 71 st.run.plays.length)]) H0 [(p1,.cells [.sl .no 2 (st.t.Records.map TrayRecord.cells),.i st.t.At,.i st.t.Way,.i st.t.Step,.sl .no 2 (st.t.Presses.map TrayPress.cells),.sl .no 2 (st.queue.map TrayPress.cells),.ms w10 0 1 (2*st.t.Records.length) (2*st.t.Records.length),.i v1,.i v2,.i v3,.i st.at_.Side,.sl (.id w11) 4 (st.run.spells.map Spell_.cells),.sl (.id w12) 2 (st.run.plays.map TrayPlay.cells),.i v4,.i st.run.end_]),(w10,.cells (st.pins.map cB).flatten),(w11,.row 160 st.run.spells.length),(w12,.row 71 st.run.plays.length)] H g1:=hS
  replace hM:zbW st v1 v2 v3 v4=some r:=hM
  refine Rg 2 ?_
  refine Om (.ptr p1 0) ?_
  obtain ⟨r5,hr5,hM⟩:=zat hM
  have hndr5:=hS.nd_at (ns:=[0,1,2,3]) (M:=[(p1,.cells [.sl .no 2 (st.t.Records.map TrayRecord.cells),.i st.t.At,.i st.t.Way,.i st.t.Step,.sl .no 2 (st.t.Presses.map TrayPress.cells),.sl .no 2 (st.queue.map TrayPress.cells),.ms w10 0 1 (2*st.t.Records.length) (2*st.t.Records.length),.i v1,.i v2,.i v3,.i st.at_.Side,.sl (.id w11) 4 (st.run.spells.map Spell_.cells),.sl (.id w12) 2 (st.run.plays.map TrayPlay.cells),.i v4,.i st.run.end_]),(w10,.cells (st.pins.map cB).flatten),(w11,.row 160 st.run.spells.length),(w12,.row 71 st.run.plays.length)]) (M':=[(p1,.cells [.sl .no 2 (r5.2.t.Records.map TrayRecord.cells),.i r5.2.t.At,.i r5.2.t.Way,.i r5.2.t.Step,.sl .no 2 (r5.2.t.Presses.map TrayPress.cells),.sl .no 2 (r5.2.queue.map TrayPress.cells),.ms w10 0 1 (2*r5.2.t.Records.length) (2*r5.2.t.Records.length),.i r5.2.now,.i r5.2.at_.At,.i r5.2.at_.Way,.i r5.2.at_.Side,.sl (.id w11) 4 (r5.2.run.spells.map Spell_.cells),.sl (.id w12) 2 (r5.2.run.plays.map TrayPlay.cells),.i r5.2.run.steps,.i r5.2.run.end_]),(w10,.cells (r5.2.pins.map cB).flatten),(w11,.row 160 r5.2.run.spells.length),(w12,.row 71 r5.2.run.plays.length)]) (.cons rfl (.cons rfl (.cons rfl (.cons rfl .nil)))) (by decide)
  refine zg9 (bs:=[.ptr p1 0,.i (-1)]) (M:=[(p1,.cells [.sl .no 2 (st.t.Records.map TrayRecord.cells),.i st.t.At,.i st.t.Way,.i st.t.Step,.sl .no 2 (st.t.Presses.map TrayPress.cells),.sl .no 2 (st.queue.map TrayPress.cells),.ms w10 0 1 (2*st.t.Records.length) (2*st.t.Records.length),.i v1,.i v2,.i v3,.i st.at_.Side,.sl (.id w11) 4 (st.run.spells.map Spell_.cells),.sl (.id w12) 2 (st.run.plays.map TrayPlay.cells),.i v4,.i st.run.end_]),(w10,.cells (st.pins.map cB).flatten),(w11,.row 160 st.run.spells.length),(w12,.row 71 st.run.plays.length)]) (M':=[(p1,.cells [.sl .no 2 (r5.2.t.Records.map TrayRecord.cells),.i r5.2.t.At,.i r5.2.t.Way,.i r5.2.t.Step,.sl .no 2 (r5.2.t.Presses.map TrayPress.cells),.sl .no 2 (r5.2.queue.map TrayPress.cells),.ms w10 0 1 (2*r5.2.t.Records.length) (2*r5.2.t.Records.length),.i r5.2.now,.i r5.2.at_.At,.i r5.2.at_.Way,.i r5.2.at_.Side,.sl (.id w11) 4 (r5.2.run.spells.map Spell_.cells),.sl (.id w12) 2 (r5.2.run.plays.map TrayPlay.cells),.i r5.2.run.steps,.i r5.2.run.end_]),(w10,.cells (r5.2.pins.map cB).flatten),(w11,.row 160 r5.2.run.spells.length),(w12,.row 71 r5.2.run.plays.length)]) (L':=[(p1,.cells [.sl .no 2 (r5.2.t.Records.map TrayRecord.cells),.i r5.2.t.At,.i r5.2.t.Way,.i r5.2.t.Step,.sl .no 2 (r5.2.t.Presses.map TrayPress.cells),.sl .no 2 (r5.2.queue.map TrayPress.cells),.ms w10 0 1 (2*r5.2.t.Records.length) (2*r5.2.t.Records.length),.i r5.2.now,.i r5.2.at_.At,.i r5.2.at_.Way,.i r5.2.at_.Side,.sl (.id w11) 4 (r5.2.run.spells.map Spell_.cells),.sl (.id w12) 2 (r5.2.run.plays.map TrayPlay.cells),.i r5.2.run.steps,.i r5.2.run.end_]),(w10,.cells (r5.2.pins.map cB).flatten),(w11,.row 160 r5.2.run.spells.length),(w12,.row 71 r5.2.run.plays.length)]) [0,1,2,3] (.inl rfl) hS (by decide) rfl rfl ((zcy (p1:=p1) (w10:=w10) (w11:=w11) (w12:=w12) hndr5 hr5).le (.k (.k .nil))) (.cons rfl (.cons rfl (.cons rfl (.cons rfl .nil)))) rfl (by omega) fun H hS=>?_
  refine Ni ?_
  refine zfB (x:=.tup []) (f:=fun r=>.tup []) (fd:=fun r=>[(p1,.cells [.sl .no 2 (r.2.t.Records.map TrayRecord.cells),.i r.2.t.At,.i r.2.t.Way,.i r.2.t.Step,.sl .no 2 (r.2.t.Presses.map TrayPress.cells),.sl .no 2 (r.2.queue.map TrayPress.cells),.ms w10 0 1 (2*r.2.t.Records.length) (2*r.2.t.Records.length),.i r.2.now,.i r.2.at_.At,.i r.2.at_.Way,.i r.2.at_.Side,.sl (.id w11) 4 (r.2.run.spells.map Spell_.cells),.sl (.id w12) 2 (r.2.run.plays.map TrayPlay.cells),.i r.2.run.steps,.i r.2.run.end_]),(w10,.cells (r.2.pins.map cB).flatten),(w11,.row 160 r.2.run.spells.length),(w12,.row 71 r.2.run.plays.length)]) (.inl rfl) ?_ (.refl _) (Option.some.inj hM) hS 0 rfl
  exact rfl
 ·refine Sq ?_
  have hS0:=hS
  refine zd6 (n:=12) rfl (by kernel_rfl) ?_
  refine Om (.ptr p1 0) ?_
  refine zbm (by decide) rfl ?_
  refine zan (by decide) zd3 rfl ?_
  refine zan (by decide) zh8 rfl ?_
  refine zb1 (v:=.i st.at_.At) 0 hS (by decide) rfl rfl (.st hS0 0 rfl (by omega)) (po zai zav) ?_
  refine Om (.ptr p1 0) ?_
  refine zbm (by decide) rfl ?_
  refine zan (by decide) zd3 rfl ?_
  refine zan (by decide) zgZ rfl ?_
  refine zb1 (v:=.i st.at_.Way) 0 hS (by decide) rfl rfl (.st hS0 0 rfl (by omega)) (po zai zav) ?_
  refine Oi (.i (w64 (st.at_.At+st.at_.Way))) ?_
  refine Oa (.i (w64 (st.at_.At+st.at_.Way))) ?_
  refine Ni ?_
  refine Ws ?_
  refine zaJ (J:=Bool) (fun j=>[(0,.ptr p1 0),(2,.i (w64 (st.at_.At+st.at_.Way))),(25,.b j)]) (fun j H' g'=>St (fun i=>i<g/\i∉ids [(p1,.cells [.sl .no 2 (st.t.Records.map TrayRecord.cells),.i st.t.At,.i st.t.Way,.i st.t.Step,.sl .no 2 (st.t.Presses.map TrayPress.cells),.sl .no 2 (st.queue.map TrayPress.cells),.ms w10 0 1 (2*st.t.Records.length) (2*st.t.Records.length),.i st.now,.i st.at_.At,.i st.at_.Way,.i st.at_.Side,.sl (.id w11) 4 (st.run.spells.map Spell_.cells),.sl (.id w12) 2 (st.run.plays.map TrayPlay.cells),.i st.run.steps,.i st.run.end_]),(w10,.cells (st.pins.map cB).flatten),(w11,.row 160 st.run.spells.length),(w12,.row 71 st.run.plays.length)]) H0 [(p1,.cells [.sl .no 2 (st.t.Records.map TrayRecord.cells),.i st.t.At,.i st.t.Way,.i st.t.Step,.sl .no 2 (st.t.Presses.map TrayPress.cells),.sl .no 2 (st.queue.map TrayPress.cells),.ms w10 0 1 (2*st.t.Records.length) (2*st.t.Records.length),.i st.now,.i st.at_.At,.i st.at_.Way,.i st.at_.Side,.sl (.id w11) 4 (st.run.spells.map Spell_.cells),.sl (.id w12) 2 (st.run.plays.map TrayPlay.cells),.i st.run.steps,.i st.run.end_]),(w10,.cells (st.pins.map cB).flatten),(w11,.row 160 st.run.spells.length),(w12,.row 71 st.run.plays.length)] H' g'/\zbd st j=some r) ?_ ?_
  ·rintro v6 H g2 ⟨hS,hM⟩
   change wpA _ _ _ _ (Fr.of [(0,.ptr p1 0),(2,.i (w64 (st.at_.At+st.at_.Way))),(25,.b v6)]) _ _
   replace hS:St (fun i=>i<g/\i∉ids [(p1,.cells [.sl .no 2 (st.t.Records.map TrayRecord.cells),.i st.t.At,.i st.t.Way,.i st.t.Step,.sl .no 2 (st.t.Presses.map TrayPress.cells),.sl .no 2 (st.queue.map TrayPress.cells),.ms w10 0 1 (2*st.t.Records.length) (2*st.t.Records.length),.i st.now,.i st.at_.At,.i st.at_.Way,.i st.at_.Side,.sl (.id w11) 4 (st.run.spells.map Spell_.cells),.sl (.id w12) 2 (st.run.plays.map TrayPlay.cells),.i st.run.steps,.i st.run.end_]),(w10,.cells (st.pins.map cB).flatten),(w11,.row 160 st.run.spells.length),(w12,.row 71 st.run.plays.length)]) H0 [(p1,.cells [.sl .no 2 (st.t.Records.map TrayRecord.cells),.i st.t.At,.i st.t.Way,.i st.t.Step,.sl .no 2 (st.t.Presses.map TrayPress.cells),.sl .no 2 (st.queue.map TrayPress.cells),.ms w10 0 1 (2*st.t.Records.length) (2*st.t.Records.length),.i st.now,.i st.at_.At,.i st.at_.Way,.i st.at_.Side,.sl (.id w11) 4 (st.run.spells.map Spell_.cells),.sl (.id w12) 2 (st.run.plays.map TrayPlay.cells),.i st.run.steps,.i st.run.end_]),(w10,.cells (st.pins.map cB).flatten),(w11,.row 160 st.run.spells.length),(w12,.row 71 st.run.plays.length)] H g2:=hS
   replace hM:zbd st v6=some r:=hM
   rcases bft v6 with hb7 | hb7
   ·replace hM:=ifT hM hb7
    refine Ct hb7 ?_
    refine Sq ?_
    refine Rg 6 ?_
    refine Om (.ptr p1 0) ?_
    refine Om (.i (w64 (st.at_.At+st.at_.Way))) ?_
    refine zbm (by decide) rfl ?_
    refine zan (by decide) zd3 rfl ?_
    refine zan (by decide) zh8 rfl ?_
    refine zbZ (v:=.i (w64 (st.at_.At+st.at_.Way))) (ns:=[.i (w64 (st.at_.At+st.at_.Way))]) (L':=[(p1,.cells [.sl .no 2 (st.t.Records.map TrayRecord.cells),.i st.t.At,.i st.t.Way,.i st.t.Step,.sl .no 2 (st.t.Presses.map TrayPress.cells),.sl .no 2 (st.queue.map TrayPress.cells),.ms w10 0 1 (2*st.t.Records.length) (2*st.t.Records.length),.i st.now,.i (w64 (st.at_.At+st.at_.Way)),.i st.at_.Way,.i st.at_.Side,.sl (.id w11) 4 (st.run.spells.map Spell_.cells),.sl (.id w12) 2 (st.run.plays.map TrayPlay.cells),.i st.run.steps,.i st.run.end_]),(w10,.cells (st.pins.map cB).flatten),(w11,.row 160 st.run.spells.length),(w12,.row 71 st.run.plays.length)]) 0 hS rfl rfl .no rfl rfl zem nlb rfl fun H hS=>?_
    refine Ni ?_
    refine Ws ?_
    refine Sq ?_
    have hS0:=hS
    refine zd6 (n:=13) rfl (by kernel_rfl) ?_
    refine Om (.ptr p1 0) ?_
    refine zbm (by decide) rfl ?_
    refine zan (by decide) zd2 rfl ?_
    refine zb1 (v:=.i st.now) 0 hS (by decide) rfl rfl (.st hS0 0 rfl (by omega)) (po zai zav) ?_
    refine Om (.ptr p1 0) ?_
    refine zbm (by decide) rfl ?_
    refine zan (by decide) zh9 rfl ?_
    refine zan (by decide) zfE rfl ?_
    refine zb1 (v:=.i st.t.Step) 0 hS (by decide) rfl rfl (.st hS0 0 rfl (by omega)) (po zai zav) ?_
    refine Oi (.i (w64 (st.now+st.t.Step))) ?_
    refine zbm (by decide) rfl ?_
    refine zan (by decide) zd2 rfl ?_
    refine zbZ (v:=.i (w64 (st.now+st.t.Step))) (ns:=[.i (w64 (st.now+st.t.Step))]) (L':=[(p1,.cells [.sl .no 2 (st.t.Records.map TrayRecord.cells),.i st.t.At,.i st.t.Way,.i st.t.Step,.sl .no 2 (st.t.Presses.map TrayPress.cells),.sl .no 2 (st.queue.map TrayPress.cells),.ms w10 0 1 (2*st.t.Records.length) (2*st.t.Records.length),.i (w64 (st.now+st.t.Step)),.i (w64 (st.at_.At+st.at_.Way)),.i st.at_.Way,.i st.at_.Side,.sl (.id w11) 4 (st.run.spells.map Spell_.cells),.sl (.id w12) 2 (st.run.plays.map TrayPlay.cells),.i st.run.steps,.i st.run.end_]),(w10,.cells (st.pins.map cB).flatten),(w11,.row 160 st.run.spells.length),(w12,.row 71 st.run.plays.length)]) 0 hS rfl rfl (.st hS0 0 rfl (by omega)) rfl rfl zem nlb rfl fun H hS=>?_
    refine Ni ?_
    refine Ws ?_
    refine Rg 10 ?_
    refine Om (.ptr p1 0) ?_
    refine zbm (by decide) rfl ?_
    refine zan (by decide) zd4 rfl ?_
    refine zan (by decide) zjS rfl ?_
    refine zb1 (v:=.i st.run.steps) 0 hS (by decide) rfl rfl .no (po zai zav) ?_
    refine Oi (.i (w64 (st.run.steps+1))) ?_
    refine zbm (by decide) rfl ?_
    refine zan (by decide) zd4 rfl ?_
    refine zan (by decide) zjS rfl ?_
    refine zbZ (v:=.i (w64 (st.run.steps+1))) (ns:=[.i (w64 (st.run.steps+1))]) (L':=[(p1,.cells [.sl .no 2 (st.t.Records.map TrayRecord.cells),.i st.t.At,.i st.t.Way,.i st.t.Step,.sl .no 2 (st.t.Presses.map TrayPress.cells),.sl .no 2 (st.queue.map TrayPress.cells),.ms w10 0 1 (2*st.t.Records.length) (2*st.t.Records.length),.i (w64 (st.now+st.t.Step)),.i (w64 (st.at_.At+st.at_.Way)),.i st.at_.Way,.i st.at_.Side,.sl (.id w11) 4 (st.run.spells.map Spell_.cells),.sl (.id w12) 2 (st.run.plays.map TrayPlay.cells),.i (w64 (st.run.steps+1)),.i st.run.end_]),(w10,.cells (st.pins.map cB).flatten),(w11,.row 160 st.run.spells.length),(w12,.row 71 st.run.plays.length)]) 0 hS rfl rfl .no rfl rfl zem nlb rfl fun H hS=>?_
    refine Ni ?_
    exact zah (w64 (st.now+st.t.Step),w64 (st.at_.At+st.at_.Way),st.at_.Way,w64 (st.run.steps+1)) (.k .nil) ⟨(hS.keep [true,true,true,true] rfl).up (by omega),hM⟩
   ·replace hM:=ifF hM hb7
    refine Cf hb7 ?_
    refine Rg 11 ?_
    refine Om (.ptr p1 0) ?_
    refine Om (.ptr p1 0) ?_
    refine zbm (by decide) rfl ?_
    refine zan (by decide) zd3 rfl ?_
    refine zan (by decide) zgZ rfl ?_
    refine zb1 (v:=.i st.at_.Way) 0 hS (by decide) rfl rfl .no (po zai zav) ?_
    refine zvb (n:=st.at_.Way) (by decide) rfl ?_
    refine zbm (by decide) rfl ?_
    refine zan (by decide) zd3 rfl ?_
    refine zan (by decide) zgZ rfl ?_
    refine zbZ (v:=.i (w64 (0-st.at_.Way))) (ns:=[.i (w64 (0-st.at_.Way))]) (L':=[(p1,.cells [.sl .no 2 (st.t.Records.map TrayRecord.cells),.i st.t.At,.i st.t.Way,.i st.t.Step,.sl .no 2 (st.t.Presses.map TrayPress.cells),.sl .no 2 (st.queue.map TrayPress.cells),.ms w10 0 1 (2*st.t.Records.length) (2*st.t.Records.length),.i st.now,.i st.at_.At,.i (w64 (0-st.at_.Way)),.i st.at_.Side,.sl (.id w11) 4 (st.run.spells.map Spell_.cells),.sl (.id w12) 2 (st.run.plays.map TrayPlay.cells),.i st.run.steps,.i st.run.end_]),(w10,.cells (st.pins.map cB).flatten),(w11,.row 160 st.run.spells.length),(w12,.row 71 st.run.plays.length)]) 0 hS rfl rfl .no rfl rfl zem nlb rfl fun H hS=>?_
    refine Ni ?_
    exact zah (st.now,st.at_.At,w64 (0-st.at_.Way),st.run.steps) (.k .nil) ⟨(hS.keep [true,true,true,true] rfl).up (by omega),hM⟩
  ·refine Rg 12 ?_
   refine Om (.i (w64 (st.at_.At+st.at_.Way))) ?_
   refine Oi (.b (decide ((w64 (st.at_.At+st.at_.Way))≥0))) ?_
   refine Om (.b (decide ((w64 (st.at_.At+st.at_.Way))≥0))) ?_
   rcases bft (decide ((w64 (st.at_.At+st.at_.Way))≥0)) with hb8 | hb8
   ·replace hM:=ifT hM hb8
    refine Oy (want:=true) hb8 ?_
    refine Om (.i (w64 (st.at_.At+st.at_.Way))) ?_
    refine Oy (want:=true) hb8 ?_
    refine Om (.ptr p1 0) ?_
    refine Oy (want:=true) hb8 ?_
    refine zbm (by decide) rfl ?_
    refine Oy (want:=true) hb8 ?_
    refine zan (by decide) zh9 rfl ?_
    refine Oy (want:=true) hb8 ?_
    refine zan (by decide) zbQ rfl ?_
    refine Oy (want:=true) hb8 ?_
    refine zb1 (v:=.sl .no 2 (st.t.Records.map TrayRecord.cells)) 0 hS (by decide) rfl rfl .no (po zct zde) ?_
    refine Oy (want:=true) hb8 ?_
    refine zc7 (n:=st.t.Records.length) (by decide) rfl (List.length_map _) zdm ?_
    refine Oy (want:=true) hb8 ?_
    refine Oi (.b (decide ((w64 (st.at_.At+st.at_.Way))<(st.t.Records.length:Int)))) ?_
    refine Pt (.b (decide ((w64 (st.at_.At+st.at_.Way))<(st.t.Records.length:Int)))) hb8 ?_
    refine Ni ?_
    exact zah (decide ((w64 (st.at_.At+st.at_.Way))<(st.t.Records.length:Int))) (.k (.k (.k .nil))) ⟨(hS.keep [true,true,true,true] rfl).up (by omega),hM⟩
   ·replace hM:=ifF hM hb8
    refine On (want:=true) hb8 ?_
    refine On (want:=true) hb8 ?_
    refine On (want:=true) hb8 ?_
    refine On (want:=true) hb8 ?_
    refine On (want:=true) hb8 ?_
    refine On (want:=true) hb8 ?_
    refine On (want:=true) hb8 ?_
    refine On (want:=true) hb8 ?_
    refine Pf (.b false) hb8 ?_
    refine Ni ?_
    exact zah false (.k (.k (.k .nil))) ⟨(hS.keep [true,true,true,true] rfl).up (by omega),hM⟩
theorem zfG {p1 w10 w11 w12:Nat} (hnd:[p1,w10,w11,w12].Nodup) {n:Nat} {st:Carriage_} {r:Bool×Carriage_} (hM:zcj n st=some r):ziE Try.prog 70 [.ptr p1 0] [(p1,.cells [.sl .no 2 (st.t.Records.map TrayRecord.cells),.i st.t.At,.i st.t.Way,.i st.t.Step,.sl .no 2 (st.t.Presses.map TrayPress.cells),.sl .no 2 (st.queue.map TrayPress.cells),.ms w10 0 1 (2*st.t.Records.length) (2*st.t.Records.length),.i st.now,.i st.at_.At,.i st.at_.Way,.i st.at_.Side,.sl (.id w11) 4 (st.run.spells.map Spell_.cells),.sl (.id w12) 2 (st.run.plays.map TrayPlay.cells),.i st.run.steps,.i st.run.end_]),(w10,.cells (st.pins.map cB).flatten),(w11,.row 160 st.run.spells.length),(w12,.row 71 st.run.plays.length)] (.b r.1) [(p1,.cells [.sl .no 2 (r.2.t.Records.map TrayRecord.cells),.i r.2.t.At,.i r.2.t.Way,.i r.2.t.Step,.sl .no 2 (r.2.t.Presses.map TrayPress.cells),.sl .no 2 (r.2.queue.map TrayPress.cells),.ms w10 0 1 (2*r.2.t.Records.length) (2*r.2.t.Records.length),.i r.2.now,.i r.2.at_.At,.i r.2.at_.Way,.i r.2.at_.Side,.sl (.id w11) 4 (r.2.run.spells.map Spell_.cells),.sl (.id w12) 2 (r.2.run.plays.map TrayPlay.cells),.i r.2.run.steps,.i r.2.run.end_]),(w10,.cells (r.2.pins.map cB).flatten),(w11,.row 160 r.2.run.spells.length),(w12,.row 71 r.2.run.plays.length)]:=by
 refine zc8 mixed Try.func70 rfl (by decide) Try.ntmps70 (by simp) (zet (zet (zih (zih zgw)))) hnd ?pure ?cells fun H0 g hf_ hp=>?_
 case pure=>exact fun H _=>(show Go.AM.Pure _ from .v _).inH
 case cells=>exact (zi3 (zes (zaH (.inl (.inl (.sl _ _ (zaT (fun x=>(zaf (.v _) (zaf (.v _) zaZ))))))) (zaH (.inl (.inl (.v _))) (zaH (.inl (.inl (.v _))) (zaH (.inl (.inl (.v _))) (zaH (.inl (.inl (.sl _ _ (zaT (fun x=>(zaf (.v _) (zaf (.v _) zaZ))))))) (zaH (.inl (.inl (.sl _ _ (zaT (fun x=>(zaf (.v _) (zaf (.v _) zaZ))))))) (zaH (.inr (.inr ⟨_,_,_,_,_,_,rfl,(List.mem_of_getElem? (i:=1) rfl)⟩)) (zaH (.inl (.inl (.v _))) (zaH (.inl (.inl (.v _))) (zaH (.inl (.inl (.v _))) (zaH (.inl (.inl (.v _))) (zaH (.inl (.inr ⟨_,_,_,_,_,rfl,(List.mem_of_getElem? (i:=2) rfl),zaT (fun x=>(zaf (.v _) (zaf (.v _) (zaf (.v _) (zaf (.v _) zaZ)))))⟩)) (zaH (.inl (.inr ⟨_,_,_,_,_,rfl,(List.mem_of_getElem? (i:=3) rfl),zaT (fun x=>(zaf (.v _) (zaf (.v _) zaZ)))⟩)) (zaH (.inl (.inl (.v _))) (zaH (.inl (.inl (.v _))) zme))))))))))))))) (zes (zhq (fun x=>(zaf (.v _) zaZ))) (zig (zig zi2)))) zgv)
 rw [zar]
 change wpA _ _ _ _ (Fr.of [(0,.ptr p1 0)]) H0 g
 have hS:=St.startH (L:=[(p1,.cells [.sl .no 2 (st.t.Records.map TrayRecord.cells),.i st.t.At,.i st.t.Way,.i st.t.Step,.sl .no 2 (st.t.Presses.map TrayPress.cells),.sl .no 2 (st.queue.map TrayPress.cells),.ms w10 0 1 (2*st.t.Records.length) (2*st.t.Records.length),.i st.now,.i st.at_.At,.i st.at_.Way,.i st.at_.Side,.sl (.id w11) 4 (st.run.spells.map Spell_.cells),.sl (.id w12) 2 (st.run.plays.map TrayPlay.cells),.i st.run.steps,.i st.run.end_]),(w10,.cells (st.pins.map cB).flatten),(w11,.row 160 st.run.spells.length),(w12,.row 71 st.run.plays.length)]) hf_ hnd hp
 replace hS:St (fun i=>i<g/\i∉ids [(p1,.cells [.sl .no 2 (st.t.Records.map TrayRecord.cells),.i st.t.At,.i st.t.Way,.i st.t.Step,.sl .no 2 (st.t.Presses.map TrayPress.cells),.sl .no 2 (st.queue.map TrayPress.cells),.ms w10 0 1 (2*st.t.Records.length) (2*st.t.Records.length),.i st.now,.i st.at_.At,.i st.at_.Way,.i st.at_.Side,.sl (.id w11) 4 (st.run.spells.map Spell_.cells),.sl (.id w12) 2 (st.run.plays.map TrayPlay.cells),.i st.run.steps,.i st.run.end_]),(w10,.cells (st.pins.map cB).flatten),(w11,.row 160 st.run.spells.length),(w12,.row 71 st.run.plays.length)]) H0 [(p1,.cells [.sl .no 2 (st.t.Records.map TrayRecord.cells),.i st.t.At,.i st.t.Way,.i st.t.Step,.sl .no 2 (st.t.Presses.map TrayPress.cells),.sl .no 2 (st.queue.map TrayPress.cells),.ms w10 0 1 (2*st.t.Records.length) (2*st.t.Records.length),.i st.now,.i st.at_.At,.i st.at_.Way,.i st.at_.Side,.sl (.id w11) 4 (st.run.spells.map Spell_.cells),.sl (.id w12) 2 (st.run.plays.map TrayPlay.cells),.i st.run.steps,.i st.run.end_]),(w10,.cells (st.pins.map cB).flatten),(w11,.row 160 st.run.spells.length),(w12,.row 71 st.run.plays.length)] H0 g:=hS
 refine Sq ?_
 refine Rg 1 ?_
 refine Oa (.b false) ?_
 refine Ni ?_
 refine Ws ?_
 refine Sq ?_
 refine Rg 2 ?_
 refine Om (.ptr p1 0) ?_
 obtain ⟨r1,hr1,hM⟩:=zat hM
 have hndr1:=hS.nd_at (ns:=[0,1,2,3]) (M:=[(p1,.cells [.sl .no 2 (st.t.Records.map TrayRecord.cells),.i st.t.At,.i st.t.Way,.i st.t.Step,.sl .no 2 (st.t.Presses.map TrayPress.cells),.sl .no 2 (st.queue.map TrayPress.cells),.ms w10 0 1 (2*st.t.Records.length) (2*st.t.Records.length),.i st.now,.i st.at_.At,.i st.at_.Way,.i st.at_.Side,.sl (.id w11) 4 (st.run.spells.map Spell_.cells),.sl (.id w12) 2 (st.run.plays.map TrayPlay.cells),.i st.run.steps,.i st.run.end_]),(w10,.cells (st.pins.map cB).flatten),(w11,.row 160 st.run.spells.length),(w12,.row 71 st.run.plays.length)]) (M':=[(p1,.cells [.sl .no 2 (r1.2.t.Records.map TrayRecord.cells),.i r1.2.t.At,.i r1.2.t.Way,.i r1.2.t.Step,.sl .no 2 (r1.2.t.Presses.map TrayPress.cells),.sl .no 2 (r1.2.queue.map TrayPress.cells),.ms w10 0 1 (2*r1.2.t.Records.length) (2*r1.2.t.Records.length),.i r1.2.now,.i r1.2.at_.At,.i r1.2.at_.Way,.i r1.2.at_.Side,.sl (.id w11) 4 (r1.2.run.spells.map Spell_.cells),.sl (.id w12) 2 (r1.2.run.plays.map TrayPlay.cells),.i r1.2.run.steps,.i r1.2.run.end_]),(w10,.cells (r1.2.pins.map cB).flatten),(w11,.row 160 r1.2.run.spells.length),(w12,.row 71 r1.2.run.plays.length)]) (.cons rfl (.cons rfl (.cons rfl (.cons rfl .nil)))) (by decide)
 refine zg9 (bs:=[.ptr p1 0]) (M:=[(p1,.cells [.sl .no 2 (st.t.Records.map TrayRecord.cells),.i st.t.At,.i st.t.Way,.i st.t.Step,.sl .no 2 (st.t.Presses.map TrayPress.cells),.sl .no 2 (st.queue.map TrayPress.cells),.ms w10 0 1 (2*st.t.Records.length) (2*st.t.Records.length),.i st.now,.i st.at_.At,.i st.at_.Way,.i st.at_.Side,.sl (.id w11) 4 (st.run.spells.map Spell_.cells),.sl (.id w12) 2 (st.run.plays.map TrayPlay.cells),.i st.run.steps,.i st.run.end_]),(w10,.cells (st.pins.map cB).flatten),(w11,.row 160 st.run.spells.length),(w12,.row 71 st.run.plays.length)]) (M':=[(p1,.cells [.sl .no 2 (r1.2.t.Records.map TrayRecord.cells),.i r1.2.t.At,.i r1.2.t.Way,.i r1.2.t.Step,.sl .no 2 (r1.2.t.Presses.map TrayPress.cells),.sl .no 2 (r1.2.queue.map TrayPress.cells),.ms w10 0 1 (2*r1.2.t.Records.length) (2*r1.2.t.Records.length),.i r1.2.now,.i r1.2.at_.At,.i r1.2.at_.Way,.i r1.2.at_.Side,.sl (.id w11) 4 (r1.2.run.spells.map Spell_.cells),.sl (.id w12) 2 (r1.2.run.plays.map TrayPlay.cells),.i r1.2.run.steps,.i r1.2.run.end_]),(w10,.cells (r1.2.pins.map cB).flatten),(w11,.row 160 r1.2.run.spells.length),(w12,.row 71 r1.2.run.plays.length)]) (L':=[(p1,.cells [.sl .no 2 (r1.2.t.Records.map TrayRecord.cells),.i r1.2.t.At,.i r1.2.t.Way,.i r1.2.t.Step,.sl .no 2 (r1.2.t.Presses.map TrayPress.cells),.sl .no 2 (r1.2.queue.map TrayPress.cells),.ms w10 0 1 (2*r1.2.t.Records.length) (2*r1.2.t.Records.length),.i r1.2.now,.i r1.2.at_.At,.i r1.2.at_.Way,.i r1.2.at_.Side,.sl (.id w11) 4 (r1.2.run.spells.map Spell_.cells),.sl (.id w12) 2 (r1.2.run.plays.map TrayPlay.cells),.i r1.2.run.steps,.i r1.2.run.end_]),(w10,.cells (r1.2.pins.map cB).flatten),(w11,.row 160 r1.2.run.spells.length),(w12,.row 71 r1.2.run.plays.length)]) [0,1,2,3] (.inl rfl) hS (by decide) rfl rfl ((zgK (p1:=p1) (w10:=w10) (w11:=w11) (w12:=w12) hndr1 hr1).le (.k .nil)) (.cons rfl (.cons rfl (.cons rfl (.cons rfl .nil)))) rfl (by omega) fun H hS=>?_
 refine Ni ?_
 refine Ws ?_
 refine Sq ?_
 refine Sq ?_
 refine Rg 6 ?_
 refine Om (.ptr p1 0) ?_
 refine zbm (by decide) rfl ?_
 refine zan (by decide) zg0 rfl ?_
 refine zb1 (v:=.ms w10 0 1 (2*r1.2.t.Records.length) (2*r1.2.t.Records.length)) 0 hS (by decide) rfl rfl .no (po zhR ziB) ?_
 obtain ⟨x2,hx2,hM⟩:=zat hM
 obtain ⟨r3,hr3,hM⟩:=zat hM
 refine zq9 (k:=1) (m:=(2*r1.2.t.Records.length)) (es:=r1.2.pins.map cB) (bs:=[.b true]) 1 hS (by decide) (zmk hx2) rfl rfl rfl ((zgi hr3).le (.k (.k .nil))) (zaf (.v _) zaZ) (by decide) (zkg (fun _=>rfl)) (zhK (fun x=>(zdK zhJ))) (by omega) ?_
 refine zfY (e:=r3) (by decide) rfl ?_
 refine Ni ?_
 refine Ws ?_
 rcases bft (!r3) with hb4 | hb4
 ·replace hM:=ifT hM hb4
  refine Ct hb4 ?_
  refine Sq ?_
  refine Sq ?_
  refine Rg 6 ?_
  refine Om (.ptr p1 0) ?_
  refine zbm (by decide) rfl ?_
  refine zan (by decide) zd1 rfl ?_
  refine zb1 (v:=.sl .no 2 (r1.2.queue.map TrayPress.cells)) 0 hS (by decide) rfl rfl .no (po zcq zc1) ?_
  refine zc7 (n:=r1.2.queue.length) (by decide) rfl (List.length_map _) zek ?_
  refine Oi (.b ((r1.2.queue.length:Int)==0)) ?_
  refine Ni ?_
  refine Ws ?_
  rcases bft ((r1.2.queue.length:Int)==0) with hb5 | hb5
  ·replace hM:=ifT hM hb5
   refine Ct hb5 ?_
   refine Sq ?_
   refine Rg 1 ?_
   refine Oa (.b false) ?_
   refine Ni ?_
   refine Ws ?_
   refine za8 ?_
   refine zaC ?_
   refine zaC ?_
   refine zfB (x:=.b false) (f:=fun r=>.b r.1) (fd:=fun r=>[(p1,.cells [.sl .no 2 (r.2.t.Records.map TrayRecord.cells),.i r.2.t.At,.i r.2.t.Way,.i r.2.t.Step,.sl .no 2 (r.2.t.Presses.map TrayPress.cells),.sl .no 2 (r.2.queue.map TrayPress.cells),.ms w10 0 1 (2*r.2.t.Records.length) (2*r.2.t.Records.length),.i r.2.now,.i r.2.at_.At,.i r.2.at_.Way,.i r.2.at_.Side,.sl (.id w11) 4 (r.2.run.spells.map Spell_.cells),.sl (.id w12) 2 (r.2.run.plays.map TrayPlay.cells),.i r.2.run.steps,.i r.2.run.end_]),(w10,.cells (r.2.pins.map cB).flatten),(w11,.row 160 r.2.run.spells.length),(w12,.row 71 r.2.run.plays.length)]) (.inr rfl) ?_ (.refl _) (Option.some.inj hM) hS 0 rfl
   exact (zay (zau (x:=.b false) rfl))
  ·replace hM:=ifF hM hb5
   refine Cf hb5 ?_
   refine zaF ?_
   refine Ws ?_
   refine Sq ?_
   refine Rg 11 ?_
   refine Om (.ptr p1 0) ?_
   refine Om (.ptr p1 0) ?_
   refine zbm (by decide) rfl ?_
   refine zan (by decide) zd1 rfl ?_
   refine zb1 (v:=.sl .no 2 (r1.2.queue.map TrayPress.cells)) 0 hS (by decide) rfl rfl .no (po zcq zc1) ?_
   obtain ⟨x6,hx6,hM⟩:=zat hM
   refine zce (xs:=r1.2.queue) (f:=TrayPress.cells) (z:=0) (u:=x6) (by decide) rfl rfl zdn hx6 ?_
   refine Of ([.i x6.Side,.i x6.Time]) zf1 ?_
   refine Olp (.i x6.Time) zai zav ?_
   refine zbm (by decide) rfl ?_
   refine zan (by decide) zd2 rfl ?_
   refine zbZ (v:=.i x6.Time) (ns:=[.i x6.Time]) (L':=[(p1,.cells [.sl .no 2 (r1.2.t.Records.map TrayRecord.cells),.i r1.2.t.At,.i r1.2.t.Way,.i r1.2.t.Step,.sl .no 2 (r1.2.t.Presses.map TrayPress.cells),.sl .no 2 (r1.2.queue.map TrayPress.cells),.ms w10 0 1 (2*r1.2.t.Records.length) (2*r1.2.t.Records.length),.i x6.Time,.i r1.2.at_.At,.i r1.2.at_.Way,.i r1.2.at_.Side,.sl (.id w11) 4 (r1.2.run.spells.map Spell_.cells),.sl (.id w12) 2 (r1.2.run.plays.map TrayPlay.cells),.i r1.2.run.steps,.i r1.2.run.end_]),(w10,.cells (r1.2.pins.map cB).flatten),(w11,.row 160 r1.2.run.spells.length),(w12,.row 71 r1.2.run.plays.length)]) 0 hS rfl rfl .no rfl rfl zem nlb rfl fun H hS=>?_
   refine Ni ?_
   refine Ws ?_
   refine Sq ?_
   refine Rg 1 ?_
   refine Oa (.b true) ?_
   refine Ni ?_
   refine Ws ?_
   refine za8 ?_
   refine zaC ?_
   refine zfB (x:=.b true) (f:=fun r=>.b r.1) (fd:=fun r=>[(p1,.cells [.sl .no 2 (r.2.t.Records.map TrayRecord.cells),.i r.2.t.At,.i r.2.t.Way,.i r.2.t.Step,.sl .no 2 (r.2.t.Presses.map TrayPress.cells),.sl .no 2 (r.2.queue.map TrayPress.cells),.ms w10 0 1 (2*r.2.t.Records.length) (2*r.2.t.Records.length),.i r.2.now,.i r.2.at_.At,.i r.2.at_.Way,.i r.2.at_.Side,.sl (.id w11) 4 (r.2.run.spells.map Spell_.cells),.sl (.id w12) 2 (r.2.run.plays.map TrayPlay.cells),.i r.2.run.steps,.i r.2.run.end_]),(w10,.cells (r.2.pins.map cB).flatten),(w11,.row 160 r.2.run.spells.length),(w12,.row 71 r.2.run.plays.length)]) (.inr rfl) ?_ (.refl _) (Option.some.inj hM) hS 0 rfl
   exact (zay (zau (x:=.b true) rfl))
 ·replace hM:=ifF hM hb4
  refine Cf hb4 ?_
  refine zaF ?_
  refine Ws ?_
  refine Sq ?_
  refine Rg 7 ?_
  refine Om (.ptr p1 0) ?_
  refine zbm (by decide) rfl ?_
  refine zan (by decide) zd3 rfl ?_
  refine zan (by decide) zh8 rfl ?_
  refine zb1 (v:=.i r1.2.at_.At) 0 hS (by decide) rfl rfl .no (po zai zav) ?_
  refine Oi (.i (w64 (2*r1.2.at_.At))) ?_
  refine Oa (.i (w64 (2*r1.2.at_.At))) ?_
  refine Ni ?_
  refine Ws ?_
  refine zaJ (J:=Int) (fun j=>[(0,.ptr p1 0),(3,.i j)]) (fun j H' g'=>St (fun i=>i<g/\i∉ids [(p1,.cells [.sl .no 2 (st.t.Records.map TrayRecord.cells),.i st.t.At,.i st.t.Way,.i st.t.Step,.sl .no 2 (st.t.Presses.map TrayPress.cells),.sl .no 2 (st.queue.map TrayPress.cells),.ms w10 0 1 (2*st.t.Records.length) (2*st.t.Records.length),.i st.now,.i st.at_.At,.i st.at_.Way,.i st.at_.Side,.sl (.id w11) 4 (st.run.spells.map Spell_.cells),.sl (.id w12) 2 (st.run.plays.map TrayPlay.cells),.i st.run.steps,.i st.run.end_]),(w10,.cells (st.pins.map cB).flatten),(w11,.row 160 st.run.spells.length),(w12,.row 71 st.run.plays.length)]) H0 [(p1,.cells [.sl .no 2 (r1.2.t.Records.map TrayRecord.cells),.i r1.2.t.At,.i r1.2.t.Way,.i r1.2.t.Step,.sl .no 2 (r1.2.t.Presses.map TrayPress.cells),.sl .no 2 (r1.2.queue.map TrayPress.cells),.ms w10 0 1 (2*r1.2.t.Records.length) (2*r1.2.t.Records.length),.i r1.2.now,.i r1.2.at_.At,.i r1.2.at_.Way,.i r1.2.at_.Side,.sl (.id w11) 4 (r1.2.run.spells.map Spell_.cells),.sl (.id w12) 2 (r1.2.run.plays.map TrayPlay.cells),.i r1.2.run.steps,.i r1.2.run.end_]),(w10,.cells (r1.2.pins.map cB).flatten),(w11,.row 160 r1.2.run.spells.length),(w12,.row 71 r1.2.run.plays.length)] H' g'/\zca r1 j=some r) ?_ ?_
  ·rintro v7 H g1 ⟨hS,hM⟩
   change wpA _ _ _ _ (Fr.of [(0,.ptr p1 0),(3,.i v7)]) _ _
   replace hS:St (fun i=>i<g/\i∉ids [(p1,.cells [.sl .no 2 (st.t.Records.map TrayRecord.cells),.i st.t.At,.i st.t.Way,.i st.t.Step,.sl .no 2 (st.t.Presses.map TrayPress.cells),.sl .no 2 (st.queue.map TrayPress.cells),.ms w10 0 1 (2*st.t.Records.length) (2*st.t.Records.length),.i st.now,.i st.at_.At,.i st.at_.Way,.i st.at_.Side,.sl (.id w11) 4 (st.run.spells.map Spell_.cells),.sl (.id w12) 2 (st.run.plays.map TrayPlay.cells),.i st.run.steps,.i st.run.end_]),(w10,.cells (st.pins.map cB).flatten),(w11,.row 160 st.run.spells.length),(w12,.row 71 st.run.plays.length)]) H0 [(p1,.cells [.sl .no 2 (r1.2.t.Records.map TrayRecord.cells),.i r1.2.t.At,.i r1.2.t.Way,.i r1.2.t.Step,.sl .no 2 (r1.2.t.Presses.map TrayPress.cells),.sl .no 2 (r1.2.queue.map TrayPress.cells),.ms w10 0 1 (2*r1.2.t.Records.length) (2*r1.2.t.Records.length),.i r1.2.now,.i r1.2.at_.At,.i r1.2.at_.Way,.i r1.2.at_.Side,.sl (.id w11) 4 (r1.2.run.spells.map Spell_.cells),.sl (.id w12) 2 (r1.2.run.plays.map TrayPlay.cells),.i r1.2.run.steps,.i r1.2.run.end_]),(w10,.cells (r1.2.pins.map cB).flatten),(w11,.row 160 r1.2.run.spells.length),(w12,.row 71 r1.2.run.plays.length)] H g1:=hS
   replace hM:zca r1 v7=some r:=hM
   refine zaJ (J:=(List TrayRecord)×Int×Int×Int×(List TrayPress)×(List TrayPress)×Int×Int×Int×Int×(List Spell_)×(List TrayPlay)×Int×Int×(List Bool)) (fun j=>[(0,.ptr p1 0)]) (fun j H' g'=>St (fun i=>i<g/\i∉ids [(p1,.cells [.sl .no 2 (st.t.Records.map TrayRecord.cells),.i st.t.At,.i st.t.Way,.i st.t.Step,.sl .no 2 (st.t.Presses.map TrayPress.cells),.sl .no 2 (st.queue.map TrayPress.cells),.ms w10 0 1 (2*st.t.Records.length) (2*st.t.Records.length),.i st.now,.i st.at_.At,.i st.at_.Way,.i st.at_.Side,.sl (.id w11) 4 (st.run.spells.map Spell_.cells),.sl (.id w12) 2 (st.run.plays.map TrayPlay.cells),.i st.run.steps,.i st.run.end_]),(w10,.cells (st.pins.map cB).flatten),(w11,.row 160 st.run.spells.length),(w12,.row 71 st.run.plays.length)]) H0 [(p1,.cells [.sl .no 2 (j.1.map TrayRecord.cells),.i j.2.1,.i j.2.2.1,.i j.2.2.2.1,.sl .no 2 (j.2.2.2.2.1.map TrayPress.cells),.sl .no 2 (j.2.2.2.2.2.1.map TrayPress.cells),.ms w10 0 1 (2*j.1.length) (2*j.1.length),.i j.2.2.2.2.2.2.1,.i j.2.2.2.2.2.2.2.1,.i j.2.2.2.2.2.2.2.2.1,.i j.2.2.2.2.2.2.2.2.2.1,.sl (.id w11) 4 (j.2.2.2.2.2.2.2.2.2.2.1.map Spell_.cells),.sl (.id w12) 2 (j.2.2.2.2.2.2.2.2.2.2.2.1.map TrayPlay.cells),.i j.2.2.2.2.2.2.2.2.2.2.2.2.1,.i j.2.2.2.2.2.2.2.2.2.2.2.2.2.1]),(w10,.cells (j.2.2.2.2.2.2.2.2.2.2.2.2.2.2.map cB).flatten),(w11,.row 160 j.2.2.2.2.2.2.2.2.2.2.1.length),(w12,.row 71 j.2.2.2.2.2.2.2.2.2.2.2.1.length)] H' g'/\zb9 j.1 j.2.1 j.2.2.1 j.2.2.2.1 j.2.2.2.2.1 j.2.2.2.2.2.1 j.2.2.2.2.2.2.1 j.2.2.2.2.2.2.2.1 j.2.2.2.2.2.2.2.2.1 j.2.2.2.2.2.2.2.2.2.1 j.2.2.2.2.2.2.2.2.2.2.1 j.2.2.2.2.2.2.2.2.2.2.2.1 j.2.2.2.2.2.2.2.2.2.2.2.2.1 j.2.2.2.2.2.2.2.2.2.2.2.2.2.1 j.2.2.2.2.2.2.2.2.2.2.2.2.2.2=some r) ?_ ?_
   ·rintro ⟨v8,v9,v10,v11,v12,v13,v14,v15,v16,v17,v18,v19,v20,v21,v22⟩ H g2 ⟨hS,hM⟩
    change wpA _ _ _ _ (Fr.of [(0,.ptr p1 0)]) _ _
    replace hS:St (fun i=>i<g/\i∉ids [(p1,.cells [.sl .no 2 (st.t.Records.map TrayRecord.cells),.i st.t.At,.i st.t.Way,.i st.t.Step,.sl .no 2 (st.t.Presses.map TrayPress.cells),.sl .no 2 (st.queue.map TrayPress.cells),.ms w10 0 1 (2*st.t.Records.length) (2*st.t.Records.length),.i st.now,.i st.at_.At,.i st.at_.Way,.i st.at_.Side,.sl (.id w11) 4 (st.run.spells.map Spell_.cells),.sl (.id w12) 2 (st.run.plays.map TrayPlay.cells),.i st.run.steps,.i st.run.end_]),(w10,.cells (st.pins.map cB).flatten),(w11,.row 160 st.run.spells.length),(w12,.row 71 st.run.plays.length)]) H0 [(p1,.cells [.sl .no 2 (v8.map TrayRecord.cells),.i v9,.i v10,.i v11,.sl .no 2 (v12.map TrayPress.cells),.sl .no 2 (v13.map TrayPress.cells),.ms w10 0 1 (2*v8.length) (2*v8.length),.i v14,.i v15,.i v16,.i v17,.sl (.id w11) 4 (v18.map Spell_.cells),.sl (.id w12) 2 (v19.map TrayPlay.cells),.i v20,.i v21]),(w10,.cells (v22.map cB).flatten),(w11,.row 160 v18.length),(w12,.row 71 v19.length)] H g2:=hS
    replace hM:zb9 v8 v9 v10 v11 v12 v13 v14 v15 v16 v17 v18 v19 v20 v21 v22=some r:=hM
    refine Sq ?_
    refine Rg 2 ?_
    refine Om (.ptr p1 0) ?_
    obtain ⟨r23,hr23,hM⟩:=zat hM
    have hndr23:=hS.nd_at (ns:=[0,1,2,3]) (M:=[(p1,.cells [.sl .no 2 (v8.map TrayRecord.cells),.i v9,.i v10,.i v11,.sl .no 2 (v12.map TrayPress.cells),.sl .no 2 (v13.map TrayPress.cells),.ms w10 0 1 (2*v8.length) (2*v8.length),.i v14,.i v15,.i v16,.i v17,.sl (.id w11) 4 (v18.map Spell_.cells),.sl (.id w12) 2 (v19.map TrayPlay.cells),.i v20,.i v21]),(w10,.cells (v22.map cB).flatten),(w11,.row 160 v18.length),(w12,.row 71 v19.length)]) (M':=[(p1,.cells [.sl .no 2 (r23.2.t.Records.map TrayRecord.cells),.i r23.2.t.At,.i r23.2.t.Way,.i r23.2.t.Step,.sl .no 2 (r23.2.t.Presses.map TrayPress.cells),.sl .no 2 (r23.2.queue.map TrayPress.cells),.ms w10 0 1 (2*r23.2.t.Records.length) (2*r23.2.t.Records.length),.i r23.2.now,.i r23.2.at_.At,.i r23.2.at_.Way,.i r23.2.at_.Side,.sl (.id w11) 4 (r23.2.run.spells.map Spell_.cells),.sl (.id w12) 2 (r23.2.run.plays.map TrayPlay.cells),.i r23.2.run.steps,.i r23.2.run.end_]),(w10,.cells (r23.2.pins.map cB).flatten),(w11,.row 160 r23.2.run.spells.length),(w12,.row 71 r23.2.run.plays.length)]) (.cons rfl (.cons rfl (.cons rfl (.cons rfl .nil)))) (by decide)
    refine zg9 (bs:=[.ptr p1 0]) (M:=[(p1,.cells [.sl .no 2 (v8.map TrayRecord.cells),.i v9,.i v10,.i v11,.sl .no 2 (v12.map TrayPress.cells),.sl .no 2 (v13.map TrayPress.cells),.ms w10 0 1 (2*v8.length) (2*v8.length),.i v14,.i v15,.i v16,.i v17,.sl (.id w11) 4 (v18.map Spell_.cells),.sl (.id w12) 2 (v19.map TrayPlay.cells),.i v20,.i v21]),(w10,.cells (v22.map cB).flatten),(w11,.row 160 v18.length),(w12,.row 71 v19.length)]) (M':=[(p1,.cells [.sl .no 2 (r23.2.t.Records.map TrayRecord.cells),.i r23.2.t.At,.i r23.2.t.Way,.i r23.2.t.Step,.sl .no 2 (r23.2.t.Presses.map TrayPress.cells),.sl .no 2 (r23.2.queue.map TrayPress.cells),.ms w10 0 1 (2*r23.2.t.Records.length) (2*r23.2.t.Records.length),.i r23.2.now,.i r23.2.at_.At,.i r23.2.at_.Way,.i r23.2.at_.Side,.sl (.id w11) 4 (r23.2.run.spells.map Spell_.cells),.sl (.id w12) 2 (r23.2.run.plays.map TrayPlay.cells),.i r23.2.run.steps,.i r23.2.run.end_]),(w10,.cells (r23.2.pins.map cB).flatten),(w11,.row 160 r23.2.run.spells.length),(w12,.row 71 r23.2.run.plays.length)]) (L':=[(p1,.cells [.sl .no 2 (r23.2.t.Records.map TrayRecord.cells),.i r23.2.t.At,.i r23.2.t.Way,.i r23.2.t.Step,.sl .no 2 (r23.2.t.Presses.map TrayPress.cells),.sl .no 2 (r23.2.queue.map TrayPress.cells),.ms w10 0 1 (2*r23.2.t.Records.length) (2*r23.2.t.Records.length),.i r23.2.now,.i r23.2.at_.At,.i r23.2.at_.Way,.i r23.2.at_.Side,.sl (.id w11) 4 (r23.2.run.spells.map Spell_.cells),.sl (.id w12) 2 (r23.2.run.plays.map TrayPlay.cells),.i r23.2.run.steps,.i r23.2.run.end_]),(w10,.cells (r23.2.pins.map cB).flatten),(w11,.row 160 r23.2.run.spells.length),(w12,.row 71 r23.2.run.plays.length)]) [0,1,2,3] (.inl rfl) hS (by decide) rfl rfl ((zg3 (p1:=p1) (w10:=w10) (w11:=w11) (w12:=w12) hndr23 hr23).le (.k .nil)) (.cons rfl (.cons rfl (.cons rfl (.cons rfl .nil)))) rfl (by omega) fun H hS=>?_
    refine Ni ?_
    refine Ws ?_
    refine Sq ?_
    refine Rg 1 ?_
    refine Oa (.b true) ?_
    refine Ni ?_
    refine Ws ?_
    refine za8 ?_
    refine zfB (x:=.b true) (f:=fun r=>.b r.1) (fd:=fun r=>[(p1,.cells [.sl .no 2 (r.2.t.Records.map TrayRecord.cells),.i r.2.t.At,.i r.2.t.Way,.i r.2.t.Step,.sl .no 2 (r.2.t.Presses.map TrayPress.cells),.sl .no 2 (r.2.queue.map TrayPress.cells),.ms w10 0 1 (2*r.2.t.Records.length) (2*r.2.t.Records.length),.i r.2.now,.i r.2.at_.At,.i r.2.at_.Way,.i r.2.at_.Side,.sl (.id w11) 4 (r.2.run.spells.map Spell_.cells),.sl (.id w12) 2 (r.2.run.plays.map TrayPlay.cells),.i r.2.run.steps,.i r.2.run.end_]),(w10,.cells (r.2.pins.map cB).flatten),(w11,.row 160 r.2.run.spells.length),(w12,.row 71 r.2.run.plays.length)]) (.inr rfl) ?_ (.refl _) (Option.some.inj hM) hS 0 rfl
    exact (zay (zau (x:=.b true) rfl))
   ·refine Sq ?_
    refine Rg 7 ?_
    refine Om (.ptr p1 0) ?_
    refine zbm (by decide) rfl ?_
    refine zan (by decide) zg0 rfl ?_
    refine zb1 (v:=.ms w10 0 1 (2*r1.2.t.Records.length) (2*r1.2.t.Records.length)) 0 hS (by decide) rfl rfl .no (po zhR ziB) ?_
    refine Om (.i v7) ?_
    obtain ⟨x24,hx24,hM⟩:=zat hM
    refine zfd (xs:=r1.2.pins) (z:=v7) (u:=x24) (by decide) rfl (zfe hx24) rfl zgY (zcK hx24) ?_
    refine zq6 (f:=cB) (xs:=r1.2.pins) (z:=v7) (u:=x24) (c:=.b x24) 1 hS (by decide) rfl rfl (zcK hx24) .no (fun _=>rfl) rfl zol zqA ?_
    refine Ni ?_
    refine Ws ?_
    rcases bft x24 with hb25 | hb25
    ·replace hM:=ifT hM hb25
     refine Ct hb25 ?_
     refine Sq ?_
     refine Rg 7 ?_
     refine Om (.ptr p1 0) ?_
     refine zbm (by decide) rfl ?_
     refine zan (by decide) zg0 rfl ?_
     refine zb1 (v:=.ms w10 0 1 (2*r1.2.t.Records.length) (2*r1.2.t.Records.length)) 0 hS (by decide) rfl rfl .no (po zhR ziB) ?_
     refine Om (.i v7) ?_
     obtain ⟨x26,hx26,hM⟩:=zat hM
     refine zfd (xs:=r1.2.pins) (z:=v7) (u:=x26) (by decide) rfl (zfe hx26) rfl zgY (zcK hx26) ?_
     refine ziA (f:=cB) (k:=1) (xs:=r1.2.pins) (z:=v7) (u:=x26) (w:=false) (v:=.b false) (L':=[(p1,.cells [.sl .no 2 (r1.2.t.Records.map TrayRecord.cells),.i r1.2.t.At,.i r1.2.t.Way,.i r1.2.t.Step,.sl .no 2 (r1.2.t.Presses.map TrayPress.cells),.sl .no 2 (r1.2.queue.map TrayPress.cells),.ms w10 0 1 (2*r1.2.t.Records.length) (2*r1.2.t.Records.length),.i r1.2.now,.i r1.2.at_.At,.i r1.2.at_.Way,.i r1.2.at_.Side,.sl (.id w11) 4 (r1.2.run.spells.map Spell_.cells),.sl (.id w12) 2 (r1.2.run.plays.map TrayPlay.cells),.i r1.2.run.steps,.i r1.2.run.end_]),(w10,.cells ((r1.2.pins.set (Int.toNat v7) false).map cB).flatten),(w11,.row 160 r1.2.run.spells.length),(w12,.row 71 r1.2.run.plays.length)]) 1 hS rfl rfl (zcK hx26) .no (fun _=>rfl) rfl rfl zom rfl fun H hS=>?_
     refine Ni ?_
     refine Ws ?_
     refine Sq ?_
     have hS0:=hS
     refine zd6 (n:=18) rfl (by kernel_rfl) ?_
     refine Om (.ptr p1 0) ?_
     refine Om (.ptr p1 0) ?_
     refine zbm (by decide) rfl ?_
     refine zan (by decide) zd4 rfl ?_
     refine zan (by decide) zjR rfl ?_
     refine zb1 (v:=.sl (.id w12) 2 (r1.2.run.plays.map TrayPlay.cells)) 0 hS (by decide) rfl rfl (.st hS0 0 rfl (by omega)) (po zmq zot) ?_
     refine Om (.i v7) ?_
     refine Om (.ptr p1 0) ?_
     refine zbm (by decide) rfl ?_
     refine zan (by decide) zd2 rfl ?_
     refine zb1 (v:=.i r1.2.now) 0 hS (by decide) rfl rfl (.st hS0 0 rfl (by omega)) (po zai zav) ?_
     refine zdJ (cs:=[.i v7,.i r1.2.now]) (by decide) zox zrf rfl ?_
     refine zbx (es:=[[.i v7,.i r1.2.now]]) hS (by decide) zku zou rfl zov rfl (by decide) (by omega) fun H hS=>?_
     obtain ⟨l27,hl27,hM⟩:=zat hM
     refine zdW (xs:=r1.2.run.plays) (ys:=([(⟨v7,r1.2.now⟩:TrayPlay)]:List TrayPlay)) (zs:=l27) (f:=TrayPlay.cells) (L':=[(g1+7+7+12,.row 71 1),(p1,.cells [.sl .no 2 (r1.2.t.Records.map TrayRecord.cells),.i r1.2.t.At,.i r1.2.t.Way,.i r1.2.t.Step,.sl .no 2 (r1.2.t.Presses.map TrayPress.cells),.sl .no 2 (r1.2.queue.map TrayPress.cells),.ms w10 0 1 (2*r1.2.t.Records.length) (2*r1.2.t.Records.length),.i r1.2.now,.i r1.2.at_.At,.i r1.2.at_.Way,.i r1.2.at_.Side,.sl (.id w11) 4 (r1.2.run.spells.map Spell_.cells),.sl (.id w12) 2 (r1.2.run.plays.map TrayPlay.cells),.i r1.2.run.steps,.i r1.2.run.end_]),(w10,.cells ((r1.2.pins.set (Int.toNat v7) false).map cB).flatten),(w11,.row 160 r1.2.run.spells.length),(w12,.row 71 l27.length)]) 4 hS (by decide) rfl rfl rfl rfl (.st hS0 3 rfl (by omega)) zku zou zov hl27 rfl fun H hS=>?_
     refine zbm (by decide) rfl ?_
     refine zan (by decide) zd4 rfl ?_
     refine zan (by decide) zjR rfl ?_
     refine zbZ (v:=.sl (.id w12) 2 (l27.map TrayPlay.cells)) (ns:=[.sl (.id w12) 2 (l27.map TrayPlay.cells)]) (L':=[(g1+7+7+12,.row 71 1),(p1,.cells [.sl .no 2 (r1.2.t.Records.map TrayRecord.cells),.i r1.2.t.At,.i r1.2.t.Way,.i r1.2.t.Step,.sl .no 2 (r1.2.t.Presses.map TrayPress.cells),.sl .no 2 (r1.2.queue.map TrayPress.cells),.ms w10 0 1 (2*r1.2.t.Records.length) (2*r1.2.t.Records.length),.i r1.2.now,.i r1.2.at_.At,.i r1.2.at_.Way,.i r1.2.at_.Side,.sl (.id w11) 4 (r1.2.run.spells.map Spell_.cells),.sl (.id w12) 2 (l27.map TrayPlay.cells),.i r1.2.run.steps,.i r1.2.run.end_]),(w10,.cells ((r1.2.pins.set (Int.toNat v7) false).map cB).flatten),(w11,.row 160 r1.2.run.spells.length),(w12,.row 71 l27.length)]) 1 hS rfl rfl (.st hS0 0 rfl (by omega)) rfl rfl zpN nlb rfl fun H hS=>?_
     refine Ni ?_
     replace hS:=hS.keep (L':=[(p1,.cells [.sl .no 2 (r1.2.t.Records.map TrayRecord.cells),.i r1.2.t.At,.i r1.2.t.Way,.i r1.2.t.Step,.sl .no 2 (r1.2.t.Presses.map TrayPress.cells),.sl .no 2 (r1.2.queue.map TrayPress.cells),.ms w10 0 1 (2*r1.2.t.Records.length) (2*r1.2.t.Records.length),.i r1.2.now,.i r1.2.at_.At,.i r1.2.at_.Way,.i r1.2.at_.Side,.sl (.id w11) 4 (r1.2.run.spells.map Spell_.cells),.sl (.id w12) 2 (l27.map TrayPlay.cells),.i r1.2.run.steps,.i r1.2.run.end_]),(w10,.cells ((r1.2.pins.set (Int.toNat v7) false).map cB).flatten),(w11,.row 160 r1.2.run.spells.length),(w12,.row 71 l27.length)]) [false,true,true,true,true] rfl
     refine Ws ?_
     refine Sq ?_
     refine Rg 3 ?_
     refine Om (.ptr p1 0) ?_
     refine Om (.i v7) ?_
     obtain ⟨r28,hr28,hM⟩:=zat hM
     have hndr28:=hS.nd_at (ns:=[0,1,2,3]) (M:=[(p1,.cells [.sl .no 2 (r1.2.t.Records.map TrayRecord.cells),.i r1.2.t.At,.i r1.2.t.Way,.i r1.2.t.Step,.sl .no 2 (r1.2.t.Presses.map TrayPress.cells),.sl .no 2 (r1.2.queue.map TrayPress.cells),.ms w10 0 1 (2*r1.2.t.Records.length) (2*r1.2.t.Records.length),.i r1.2.now,.i r1.2.at_.At,.i r1.2.at_.Way,.i r1.2.at_.Side,.sl (.id w11) 4 (r1.2.run.spells.map Spell_.cells),.sl (.id w12) 2 (l27.map TrayPlay.cells),.i r1.2.run.steps,.i r1.2.run.end_]),(w10,.cells ((r1.2.pins.set (Int.toNat v7) false).map cB).flatten),(w11,.row 160 r1.2.run.spells.length),(w12,.row 71 l27.length)]) (M':=[(p1,.cells [.sl .no 2 (r28.2.t.Records.map TrayRecord.cells),.i r28.2.t.At,.i r28.2.t.Way,.i r28.2.t.Step,.sl .no 2 (r28.2.t.Presses.map TrayPress.cells),.sl .no 2 (r28.2.queue.map TrayPress.cells),.ms w10 0 1 (2*r28.2.t.Records.length) (2*r28.2.t.Records.length),.i r28.2.now,.i r28.2.at_.At,.i r28.2.at_.Way,.i r28.2.at_.Side,.sl (.id w11) 4 (r28.2.run.spells.map Spell_.cells),.sl (.id w12) 2 (r28.2.run.plays.map TrayPlay.cells),.i r28.2.run.steps,.i r28.2.run.end_]),(w10,.cells (r28.2.pins.map cB).flatten),(w11,.row 160 r28.2.run.spells.length),(w12,.row 71 r28.2.run.plays.length)]) (.cons rfl (.cons rfl (.cons rfl (.cons rfl .nil)))) (by decide)
     refine zg9 (bs:=[.ptr p1 0,.i v7]) (M:=[(p1,.cells [.sl .no 2 (r1.2.t.Records.map TrayRecord.cells),.i r1.2.t.At,.i r1.2.t.Way,.i r1.2.t.Step,.sl .no 2 (r1.2.t.Presses.map TrayPress.cells),.sl .no 2 (r1.2.queue.map TrayPress.cells),.ms w10 0 1 (2*r1.2.t.Records.length) (2*r1.2.t.Records.length),.i r1.2.now,.i r1.2.at_.At,.i r1.2.at_.Way,.i r1.2.at_.Side,.sl (.id w11) 4 (r1.2.run.spells.map Spell_.cells),.sl (.id w12) 2 (l27.map TrayPlay.cells),.i r1.2.run.steps,.i r1.2.run.end_]),(w10,.cells ((r1.2.pins.set (Int.toNat v7) false).map cB).flatten),(w11,.row 160 r1.2.run.spells.length),(w12,.row 71 l27.length)]) (M':=[(p1,.cells [.sl .no 2 (r28.2.t.Records.map TrayRecord.cells),.i r28.2.t.At,.i r28.2.t.Way,.i r28.2.t.Step,.sl .no 2 (r28.2.t.Presses.map TrayPress.cells),.sl .no 2 (r28.2.queue.map TrayPress.cells),.ms w10 0 1 (2*r28.2.t.Records.length) (2*r28.2.t.Records.length),.i r28.2.now,.i r28.2.at_.At,.i r28.2.at_.Way,.i r28.2.at_.Side,.sl (.id w11) 4 (r28.2.run.spells.map Spell_.cells),.sl (.id w12) 2 (r28.2.run.plays.map TrayPlay.cells),.i r28.2.run.steps,.i r28.2.run.end_]),(w10,.cells (r28.2.pins.map cB).flatten),(w11,.row 160 r28.2.run.spells.length),(w12,.row 71 r28.2.run.plays.length)]) (L':=[(p1,.cells [.sl .no 2 (r28.2.t.Records.map TrayRecord.cells),.i r28.2.t.At,.i r28.2.t.Way,.i r28.2.t.Step,.sl .no 2 (r28.2.t.Presses.map TrayPress.cells),.sl .no 2 (r28.2.queue.map TrayPress.cells),.ms w10 0 1 (2*r28.2.t.Records.length) (2*r28.2.t.Records.length),.i r28.2.now,.i r28.2.at_.At,.i r28.2.at_.Way,.i r28.2.at_.Side,.sl (.id w11) 4 (r28.2.run.spells.map Spell_.cells),.sl (.id w12) 2 (r28.2.run.plays.map TrayPlay.cells),.i r28.2.run.steps,.i r28.2.run.end_]),(w10,.cells (r28.2.pins.map cB).flatten),(w11,.row 160 r28.2.run.spells.length),(w12,.row 71 r28.2.run.plays.length)]) [0,1,2,3] (.inl rfl) hS (by decide) rfl rfl ((zcy (p1:=p1) (w10:=w10) (w11:=w11) (w12:=w12) hndr28 hr28).le (.k (.k .nil))) (.cons rfl (.cons rfl (.cons rfl (.cons rfl .nil)))) rfl (by omega) fun H hS=>?_
     refine Ni ?_
     refine Ws ?_
     refine Sq ?_
     have hS0:=hS
     refine zd6 (n:=14) rfl (by kernel_rfl) ?_
     refine Om (.ptr p1 0) ?_
     refine zbm (by decide) rfl ?_
     refine zan (by decide) zd2 rfl ?_
     refine zb1 (v:=.i r28.2.now) 0 hS (by decide) rfl rfl (.st hS0 0 rfl (by omega)) (po zai zav) ?_
     refine Om (.ptr p1 0) ?_
     refine zbm (by decide) rfl ?_
     refine zan (by decide) zh9 rfl ?_
     refine zb1 (v:=.agg (Tray.cells r28.2.t)) 0 hS (by decide) rfl rfl (.st hS0 0 rfl (by omega)) (pg zc5) ?_
     refine Om (.i v7) ?_
     obtain ⟨r29,hr29,hM⟩:=zat hM
     refine zaU (bs:=[.agg (Tray.cells r28.2.t),.i v7]) (by decide) rfl rfl ((zlV hr29).le (.k (.k .nil))) ?_
     refine Oi (.i (w64 (r28.2.now+r29))) ?_
     refine zbm (by decide) rfl ?_
     refine zan (by decide) zd2 rfl ?_
     refine zbZ (v:=.i (w64 (r28.2.now+r29))) (ns:=[.i (w64 (r28.2.now+r29))]) (L':=[(p1,.cells [.sl .no 2 (r28.2.t.Records.map TrayRecord.cells),.i r28.2.t.At,.i r28.2.t.Way,.i r28.2.t.Step,.sl .no 2 (r28.2.t.Presses.map TrayPress.cells),.sl .no 2 (r28.2.queue.map TrayPress.cells),.ms w10 0 1 (2*r28.2.t.Records.length) (2*r28.2.t.Records.length),.i (w64 (r28.2.now+r29)),.i r28.2.at_.At,.i r28.2.at_.Way,.i r28.2.at_.Side,.sl (.id w11) 4 (r28.2.run.spells.map Spell_.cells),.sl (.id w12) 2 (r28.2.run.plays.map TrayPlay.cells),.i r28.2.run.steps,.i r28.2.run.end_]),(w10,.cells (r28.2.pins.map cB).flatten),(w11,.row 160 r28.2.run.spells.length),(w12,.row 71 r28.2.run.plays.length)]) 0 hS rfl rfl (.st hS0 0 rfl (by omega)) rfl rfl zem nlb rfl fun H hS=>?_
     refine Ni ?_
     refine Ws ?_
     refine Sq ?_
     refine Rg 9 ?_
     refine Om (.ptr p1 0) ?_
     refine Om (.ptr p1 0) ?_
     refine zbm (by decide) rfl ?_
     refine zan (by decide) zd2 rfl ?_
     refine zb1 (v:=.i (w64 (r28.2.now+r29))) 0 hS (by decide) rfl rfl .no (po zai zav) ?_
     refine zbm (by decide) rfl ?_
     refine zan (by decide) zd4 rfl ?_
     refine zan (by decide) znl rfl ?_
     refine zbZ (v:=.i (w64 (r28.2.now+r29))) (ns:=[.i (w64 (r28.2.now+r29))]) (L':=[(p1,.cells [.sl .no 2 (r28.2.t.Records.map TrayRecord.cells),.i r28.2.t.At,.i r28.2.t.Way,.i r28.2.t.Step,.sl .no 2 (r28.2.t.Presses.map TrayPress.cells),.sl .no 2 (r28.2.queue.map TrayPress.cells),.ms w10 0 1 (2*r28.2.t.Records.length) (2*r28.2.t.Records.length),.i (w64 (r28.2.now+r29)),.i r28.2.at_.At,.i r28.2.at_.Way,.i r28.2.at_.Side,.sl (.id w11) 4 (r28.2.run.spells.map Spell_.cells),.sl (.id w12) 2 (r28.2.run.plays.map TrayPlay.cells),.i r28.2.run.steps,.i (w64 (r28.2.now+r29))]),(w10,.cells (r28.2.pins.map cB).flatten),(w11,.row 160 r28.2.run.spells.length),(w12,.row 71 r28.2.run.plays.length)]) 0 hS rfl rfl .no rfl rfl zem nlb rfl fun H hS=>?_
     refine Ni ?_
     refine Ws ?_
     refine Rg 2 ?_
     refine Om (.ptr p1 0) ?_
     obtain ⟨r30,hr30,hM⟩:=zat hM
     have hndr30:=hS.nd_at (ns:=[0,1,2,3]) (M:=[(p1,.cells [.sl .no 2 (r28.2.t.Records.map TrayRecord.cells),.i r28.2.t.At,.i r28.2.t.Way,.i r28.2.t.Step,.sl .no 2 (r28.2.t.Presses.map TrayPress.cells),.sl .no 2 (r28.2.queue.map TrayPress.cells),.ms w10 0 1 (2*r28.2.t.Records.length) (2*r28.2.t.Records.length),.i (w64 (r28.2.now+r29)),.i r28.2.at_.At,.i r28.2.at_.Way,.i r28.2.at_.Side,.sl (.id w11) 4 (r28.2.run.spells.map Spell_.cells),.sl (.id w12) 2 (r28.2.run.plays.map TrayPlay.cells),.i r28.2.run.steps,.i (w64 (r28.2.now+r29))]),(w10,.cells (r28.2.pins.map cB).flatten),(w11,.row 160 r28.2.run.spells.length),(w12,.row 71 r28.2.run.plays.length)]) (M':=[(p1,.cells [.sl .no 2 (r30.2.t.Records.map TrayRecord.cells),.i r30.2.t.At,.i r30.2.t.Way,.i r30.2.t.Step,.sl .no 2 (r30.2.t.Presses.map TrayPress.cells),.sl .no 2 (r30.2.queue.map TrayPress.cells),.ms w10 0 1 (2*r30.2.t.Records.length) (2*r30.2.t.Records.length),.i r30.2.now,.i r30.2.at_.At,.i r30.2.at_.Way,.i r30.2.at_.Side,.sl (.id w11) 4 (r30.2.run.spells.map Spell_.cells),.sl (.id w12) 2 (r30.2.run.plays.map TrayPlay.cells),.i r30.2.run.steps,.i r30.2.run.end_]),(w10,.cells (r30.2.pins.map cB).flatten),(w11,.row 160 r30.2.run.spells.length),(w12,.row 71 r30.2.run.plays.length)]) (.cons rfl (.cons rfl (.cons rfl (.cons rfl .nil)))) (by decide)
     refine zg9 (bs:=[.ptr p1 0,.i (-1)]) (M:=[(p1,.cells [.sl .no 2 (r28.2.t.Records.map TrayRecord.cells),.i r28.2.t.At,.i r28.2.t.Way,.i r28.2.t.Step,.sl .no 2 (r28.2.t.Presses.map TrayPress.cells),.sl .no 2 (r28.2.queue.map TrayPress.cells),.ms w10 0 1 (2*r28.2.t.Records.length) (2*r28.2.t.Records.length),.i (w64 (r28.2.now+r29)),.i r28.2.at_.At,.i r28.2.at_.Way,.i r28.2.at_.Side,.sl (.id w11) 4 (r28.2.run.spells.map Spell_.cells),.sl (.id w12) 2 (r28.2.run.plays.map TrayPlay.cells),.i r28.2.run.steps,.i (w64 (r28.2.now+r29))]),(w10,.cells (r28.2.pins.map cB).flatten),(w11,.row 160 r28.2.run.spells.length),(w12,.row 71 r28.2.run.plays.length)]) (M':=[(p1,.cells [.sl .no 2 (r30.2.t.Records.map TrayRecord.cells),.i r30.2.t.At,.i r30.2.t.Way,.i r30.2.t.Step,.sl .no 2 (r30.2.t.Presses.map TrayPress.cells),.sl .no 2 (r30.2.queue.map TrayPress.cells),.ms w10 0 1 (2*r30.2.t.Records.length) (2*r30.2.t.Records.length),.i r30.2.now,.i r30.2.at_.At,.i r30.2.at_.Way,.i r30.2.at_.Side,.sl (.id w11) 4 (r30.2.run.spells.map Spell_.cells),.sl (.id w12) 2 (r30.2.run.plays.map TrayPlay.cells),.i r30.2.run.steps,.i r30.2.run.end_]),(w10,.cells (r30.2.pins.map cB).flatten),(w11,.row 160 r30.2.run.spells.length),(w12,.row 71 r30.2.run.plays.length)]) (L':=[(p1,.cells [.sl .no 2 (r30.2.t.Records.map TrayRecord.cells),.i r30.2.t.At,.i r30.2.t.Way,.i r30.2.t.Step,.sl .no 2 (r30.2.t.Presses.map TrayPress.cells),.sl .no 2 (r30.2.queue.map TrayPress.cells),.ms w10 0 1 (2*r30.2.t.Records.length) (2*r30.2.t.Records.length),.i r30.2.now,.i r30.2.at_.At,.i r30.2.at_.Way,.i r30.2.at_.Side,.sl (.id w11) 4 (r30.2.run.spells.map Spell_.cells),.sl (.id w12) 2 (r30.2.run.plays.map TrayPlay.cells),.i r30.2.run.steps,.i r30.2.run.end_]),(w10,.cells (r30.2.pins.map cB).flatten),(w11,.row 160 r30.2.run.spells.length),(w12,.row 71 r30.2.run.plays.length)]) [0,1,2,3] (.inl rfl) hS (by decide) rfl rfl ((zcy (p1:=p1) (w10:=w10) (w11:=w11) (w12:=w12) hndr30 hr30).le (.k (.k .nil))) (.cons rfl (.cons rfl (.cons rfl (.cons rfl .nil)))) rfl (by omega) fun H hS=>?_
     refine Ni ?_
     exact zah (r30.2.t.Records,r30.2.t.At,r30.2.t.Way,r30.2.t.Step,r30.2.t.Presses,r30.2.queue,r30.2.now,r30.2.at_.At,r30.2.at_.Way,r30.2.at_.Side,r30.2.run.spells,r30.2.run.plays,r30.2.run.steps,r30.2.run.end_,r30.2.pins) (.k .nil) ⟨(hS.keep [true,true,true,true] rfl).up (by omega),hM⟩
    ·replace hM:=ifF hM hb25
     refine Cf hb25 ?_
     refine zaF ?_
     exact zah (r1.2.t.Records,r1.2.t.At,r1.2.t.Way,r1.2.t.Step,r1.2.t.Presses,r1.2.queue,r1.2.now,r1.2.at_.At,r1.2.at_.Way,r1.2.at_.Side,r1.2.run.spells,r1.2.run.plays,r1.2.run.steps,r1.2.run.end_,r1.2.pins) (.k .nil) ⟨(hS.keep [true,true,true,true] rfl).up (by omega),hM⟩
  ·refine Sq ?_
   refine Rg 6 ?_
   refine Om (.ptr p1 0) ?_
   refine zbm (by decide) rfl ?_
   refine zan (by decide) zd3 rfl ?_
   refine zan (by decide) zgZ rfl ?_
   refine zb1 (v:=.i r1.2.at_.Way) 0 hS (by decide) rfl rfl .no (po zai zav) ?_
   refine Oi (.b (decide (r1.2.at_.Way<0))) ?_
   refine Ni ?_
   refine Ws ?_
   rcases bft (decide (r1.2.at_.Way<0)) with hb31 | hb31
   ·replace hM:=ifT hM hb31
    refine Ct hb31 ?_
    refine Rg 3 ?_
    refine Om (.i (w64 (2*r1.2.at_.At))) ?_
    refine Oi (.i (w64 ((w64 (2*r1.2.at_.At))+1))) ?_
    refine Oa (.i (w64 ((w64 (2*r1.2.at_.At))+1))) ?_
    refine Ni ?_
    exact zah (w64 ((w64 (2*r1.2.at_.At))+1)) (.k (.k .nil)) ⟨(hS.keep [true,true,true,true] rfl).up (by omega),hM⟩
   ·replace hM:=ifF hM hb31
    refine Cf hb31 ?_
    refine zaF ?_
    exact zah (w64 (2*r1.2.at_.At)) (.k (.k .nil)) ⟨(hS.keep [true,true,true,true] rfl).up (by omega),hM⟩
theorem zlW {n:Nat} {a0:Tray} {r:Run_} (hM:zhO n a0=some r):zaI Try.prog 41 [.agg (Tray.cells a0)] (.agg [.sl .no 4 (r.spells.map Spell_.cells),.sl .no 2 (r.plays.map TrayPlay.cells),.i r.steps,.i r.end_]):=by
 refine zaz mixed Try.func41 rfl (by decide) Try.ntmps41 (by simp) ?pure fun H0 g hf=>?_
 case pure=>exact .agg _ (zaf (.sl _ _ (zaT (fun x=>(zaf (.v _) (zaf (.v _) (zaf (.v _) (zaf (.v _) zaZ))))))) (zaf (.sl _ _ (zaT (fun x=>(zaf (.v _) (zaf (.v _) zaZ))))) (zaf (.v _) (zaf (.v _) zaZ))))
 rw [zar]
 change wpA _ _ _ _ (Fr.of [(0,.agg (Tray.cells a0))]) H0 g
 have hS:=St.start hf
 refine Sq ?_
 refine Rg 2 ?_
 refine zdI (v:=.agg (Tray.cells a0)) (cs:=(Tray.cells a0)) hS (by decide) rfl rfl (by omega) fun H hS=>?_
 refine zfA hS (by decide) zng (by omega) fun H hS=>?_
 refine Ni ?_
 refine zb5 (L':=[(g+1,.cells [.sl .nil 0 [],.sl .nil 0 [],.i 0,.i 0])]) 1 1 hS rfl rfl rfl fun H hS=>?_
 refine Ws ?_
 refine Sq ?_
 have hS0:=hS
 refine zd6 (n:=17) rfl (by kernel_rfl) ?_
 refine Olg (.agg (Tray.cells a0)) zc5 ?_
 refine Of ((Tray.cells a0)) zcW ?_
 refine Olp (.sl .no 2 (a0.Presses.map TrayPress.cells)) zcq zc1 ?_
 obtain ⟨r1,hr1,hM⟩:=zat hM
 rcases bft (r1.length==0) with hb2 | hb2
 ·replace hM:=ifT hM hb2
  refine zrb (f:=TrayPress.cells) (us:=r1) (mk:=(fun s=>s)) (k:=2) (e:=55) (bs:=[.sl .no 2 (a0.Presses.map TrayPress.cells)]) hS (by decide) rfl rfl ((zmi.of_fresh (zdR hr1)).le (.k .nil)) zsa (zaf (.sl _ _ (zaT (fun x=>(zaf (.v _) (zaf (.v _) zaZ))))) zaZ) (zhK (fun x=>(zdK (zdK zhJ)))) hb2 (by omega) fun H hS=>?_
  refine Of ((Tray.cells a0)) zbQ ?_
  refine Olp (.sl .no 2 (a0.Records.map TrayRecord.cells)) zct zde ?_
  refine zc7 (n:=a0.Records.length) (by decide) rfl (List.length_map _) zdm ?_
  refine Oi (.i (w64 (2*(a0.Records.length:Int)))) ?_
  obtain ⟨l3,hl3,hM⟩:=zat hM
  refine zok (f:=cB) (z:=(w64 (2*(a0.Records.length:Int)))) (n:=(2*a0.Records.length)) (us:=l3) hS (by decide) rfl rfl hl3 rfl zgY zmt zml zmu (by omega) fun H hS=>?_
  refine Of ((Tray.cells a0)) zgH ?_
  refine Olp (.i a0.At) zai zav ?_
  refine Of ((Tray.cells a0)) zf0 ?_
  refine Olp (.i a0.Way) zai zav ?_
  refine zdJ (cs:=[.i a0.At,.i a0.Way,.i (-1)]) (by decide) zjO zmv rfl ?_
  refine zdJ (cs:=[.sl .no 2 (a0.Records.map TrayRecord.cells),.i a0.At,.i a0.Way,.i a0.Step,.sl .no 2 (a0.Presses.map TrayPress.cells),.sl .no 2 (([]:List TrayPress).map TrayPress.cells),.ms (g+2+8) 0 1 (2*a0.Records.length) (2*a0.Records.length),.i 0,.i a0.At,.i a0.Way,.i (-1),.sl .nil 0 [],.sl .nil 0 [],.i 0,.i 0]) (by decide) zjP zmw rfl ?_
  refine zdI (v:=.agg [.sl .no 2 (a0.Records.map TrayRecord.cells),.i a0.At,.i a0.Way,.i a0.Step,.sl .no 2 (a0.Presses.map TrayPress.cells),.sl .no 2 (([]:List TrayPress).map TrayPress.cells),.ms (g+2+8) 0 1 (2*a0.Records.length) (2*a0.Records.length),.i 0,.i a0.At,.i a0.Way,.i (-1),.sl .nil 0 [],.sl .nil 0 [],.i 0,.i 0]) (cs:=[.sl .no 2 (a0.Records.map TrayRecord.cells),.i a0.At,.i a0.Way,.i a0.Step,.sl .no 2 (a0.Presses.map TrayPress.cells),.sl .no 2 (([]:List TrayPress).map TrayPress.cells),.ms (g+2+8) 0 1 (2*a0.Records.length) (2*a0.Records.length),.i 0,.i a0.At,.i a0.Way,.i (-1),.sl .nil 0 [],.sl .nil 0 [],.i 0,.i 0]) hS (by decide) rfl rfl (by omega) fun H hS=>?_
  refine Oa (.ptr (g+2+15) 0) ?_
  refine Ni ?_
  refine zk0 (cs':=[.sl .no 2 (a0.Records.map TrayRecord.cells),.i a0.At,.i a0.Way,.i a0.Step,.sl .no 2 (a0.Presses.map TrayPress.cells),.sl .no 2 (([]:List TrayPress).map TrayPress.cells),.ms (g+2+8) 0 1 (2*a0.Records.length) (2*a0.Records.length),.i 0,.i a0.At,.i a0.Way,.i (-1),.sl (.id (g+2+17)) 4 (([]:List Spell_).map Spell_.cells),.sl .nil 0 [],.i 0,.i 0]) (L':=[(g+2+15,.cells [.sl .no 2 (a0.Records.map TrayRecord.cells),.i a0.At,.i a0.Way,.i a0.Step,.sl .no 2 (a0.Presses.map TrayPress.cells),.sl .no 2 (([]:List TrayPress).map TrayPress.cells),.ms (g+2+8) 0 1 (2*a0.Records.length) (2*a0.Records.length),.i 0,.i a0.At,.i a0.Way,.i (-1),.sl (.id (g+2+17)) 4 (([]:List Spell_).map Spell_.cells),.sl .nil 0 [],.i 0,.i 0]),(g+2+8,.cells (l3.map cB).flatten),(g+1,.cells [.sl .nil 0 [],.sl .nil 0 [],.i 0,.i 0])]) 0 11 4 160 hS (by omega) (by decide) rfl rfl rfl rfl fun H hS=>?_
  refine zk0 (cs':=[.sl .no 2 (a0.Records.map TrayRecord.cells),.i a0.At,.i a0.Way,.i a0.Step,.sl .no 2 (a0.Presses.map TrayPress.cells),.sl .no 2 (([]:List TrayPress).map TrayPress.cells),.ms (g+2+8) 0 1 (2*a0.Records.length) (2*a0.Records.length),.i 0,.i a0.At,.i a0.Way,.i (-1),.sl (.id (g+2+17)) 4 (([]:List Spell_).map Spell_.cells),.sl (.id (g+2+17+1)) 2 (([]:List TrayPlay).map TrayPlay.cells),.i 0,.i 0]) (L':=[(g+2+17,.row 160 0),(g+2+15,.cells [.sl .no 2 (a0.Records.map TrayRecord.cells),.i a0.At,.i a0.Way,.i a0.Step,.sl .no 2 (a0.Presses.map TrayPress.cells),.sl .no 2 (([]:List TrayPress).map TrayPress.cells),.ms (g+2+8) 0 1 (2*a0.Records.length) (2*a0.Records.length),.i 0,.i a0.At,.i a0.Way,.i (-1),.sl (.id (g+2+17)) 4 (([]:List Spell_).map Spell_.cells),.sl (.id (g+2+17+1)) 2 (([]:List TrayPlay).map TrayPlay.cells),.i 0,.i 0]),(g+2+8,.cells (l3.map cB).flatten),(g+1,.cells [.sl .nil 0 [],.sl .nil 0 [],.i 0,.i 0])]) 1 12 2 71 hS (by omega) (by decide) rfl rfl rfl rfl fun H hS=>?_
  refine Ws ?_
  refine Sq ?_
  refine Rg 5 ?_
  refine Om (.ptr (g+2+15) 0) ?_
  refine zbm (by decide) rfl ?_
  refine zan (by decide) zd1 rfl ?_
  refine zb1 (v:=.sl .no 2 (([]:List TrayPress).map TrayPress.cells)) 2 hS (by decide) rfl rfl .no (po zcq zc1) ?_
  obtain ⟨r4,hr4,hM⟩:=zat hM
  refine zaU (bs:=[.sl .no 2 (([]:List TrayPress).map TrayPress.cells),.fn (.func 68) [] []]) (by decide) rfl rfl ((zd5 hr4).le (.k (.k .nil))) ?_
  refine Ni ?_
  refine Ws ?_
  refine Sq ?_
  refine Rg 2 ?_
  refine Om (.ptr (g+2+15) 0) ?_
  obtain ⟨r5,hr5,hM⟩:=zat hM
  have hndr5:=hS.nd_at (ns:=[2,3,1,0]) (M:=[(g+2+15,.cells [.sl .no 2 (a0.Records.map TrayRecord.cells),.i a0.At,.i a0.Way,.i a0.Step,.sl .no 2 (a0.Presses.map TrayPress.cells),.sl .no 2 (([]:List TrayPress).map TrayPress.cells),.ms (g+2+8) 0 1 (2*a0.Records.length) (2*a0.Records.length),.i 0,.i a0.At,.i a0.Way,.i (-1),.sl (.id (g+2+17)) 4 (([]:List Spell_).map Spell_.cells),.sl (.id (g+2+17+1)) 2 (([]:List TrayPlay).map TrayPlay.cells),.i 0,.i 0]),(g+2+8,.cells (l3.map cB).flatten),(g+2+17,.row 160 0),(g+2+17+1,.row 71 0)]) (M':=[(g+2+15,.cells [.sl .no 2 (r5.2.t.Records.map TrayRecord.cells),.i r5.2.t.At,.i r5.2.t.Way,.i r5.2.t.Step,.sl .no 2 (r5.2.t.Presses.map TrayPress.cells),.sl .no 2 (r5.2.queue.map TrayPress.cells),.ms (g+2+8) 0 1 (2*r5.2.t.Records.length) (2*r5.2.t.Records.length),.i r5.2.now,.i r5.2.at_.At,.i r5.2.at_.Way,.i r5.2.at_.Side,.sl (.id (g+2+17)) 4 (r5.2.run.spells.map Spell_.cells),.sl (.id (g+2+17+1)) 2 (r5.2.run.plays.map TrayPlay.cells),.i r5.2.run.steps,.i r5.2.run.end_]),(g+2+8,.cells (r5.2.pins.map cB).flatten),(g+2+17,.row 160 r5.2.run.spells.length),(g+2+17+1,.row 71 r5.2.run.plays.length)]) (.cons rfl (.cons rfl (.cons rfl (.cons rfl .nil)))) (by decide)
  refine zg9 (bs:=[.ptr (g+2+15) 0,.i (-1)]) (M:=[(g+2+15,.cells [.sl .no 2 (a0.Records.map TrayRecord.cells),.i a0.At,.i a0.Way,.i a0.Step,.sl .no 2 (a0.Presses.map TrayPress.cells),.sl .no 2 (([]:List TrayPress).map TrayPress.cells),.ms (g+2+8) 0 1 (2*a0.Records.length) (2*a0.Records.length),.i 0,.i a0.At,.i a0.Way,.i (-1),.sl (.id (g+2+17)) 4 (([]:List Spell_).map Spell_.cells),.sl (.id (g+2+17+1)) 2 (([]:List TrayPlay).map TrayPlay.cells),.i 0,.i 0]),(g+2+8,.cells (l3.map cB).flatten),(g+2+17,.row 160 0),(g+2+17+1,.row 71 0)]) (M':=[(g+2+15,.cells [.sl .no 2 (r5.2.t.Records.map TrayRecord.cells),.i r5.2.t.At,.i r5.2.t.Way,.i r5.2.t.Step,.sl .no 2 (r5.2.t.Presses.map TrayPress.cells),.sl .no 2 (r5.2.queue.map TrayPress.cells),.ms (g+2+8) 0 1 (2*r5.2.t.Records.length) (2*r5.2.t.Records.length),.i r5.2.now,.i r5.2.at_.At,.i r5.2.at_.Way,.i r5.2.at_.Side,.sl (.id (g+2+17)) 4 (r5.2.run.spells.map Spell_.cells),.sl (.id (g+2+17+1)) 2 (r5.2.run.plays.map TrayPlay.cells),.i r5.2.run.steps,.i r5.2.run.end_]),(g+2+8,.cells (r5.2.pins.map cB).flatten),(g+2+17,.row 160 r5.2.run.spells.length),(g+2+17+1,.row 71 r5.2.run.plays.length)]) (L':=[(g+2+17+1,.row 71 r5.2.run.plays.length),(g+2+17,.row 160 r5.2.run.spells.length),(g+2+15,.cells [.sl .no 2 (r5.2.t.Records.map TrayRecord.cells),.i r5.2.t.At,.i r5.2.t.Way,.i r5.2.t.Step,.sl .no 2 (r5.2.t.Presses.map TrayPress.cells),.sl .no 2 (r5.2.queue.map TrayPress.cells),.ms (g+2+8) 0 1 (2*r5.2.t.Records.length) (2*r5.2.t.Records.length),.i r5.2.now,.i r5.2.at_.At,.i r5.2.at_.Way,.i r5.2.at_.Side,.sl (.id (g+2+17)) 4 (r5.2.run.spells.map Spell_.cells),.sl (.id (g+2+17+1)) 2 (r5.2.run.plays.map TrayPlay.cells),.i r5.2.run.steps,.i r5.2.run.end_]),(g+2+8,.cells (r5.2.pins.map cB).flatten),(g+1,.cells [.sl .nil 0 [],.sl .nil 0 [],.i 0,.i 0])]) [2,3,1,0] (.inl rfl) hS (by decide) rfl rfl ((zcy (p1:=g+2+15) (w10:=g+2+8) (w11:=g+2+17) (w12:=g+2+17+1) hndr5 hr5).le (.k (.k .nil))) (.cons rfl (.cons rfl (.cons rfl (.cons rfl .nil)))) rfl (by omega) fun H hS=>?_
  refine Ni ?_
  refine Ws ?_
  refine zaJ (J:=(List TrayRecord)×Int×Int×Int×(List TrayPress)×(List TrayPress)×Int×Int×Int×Int×(List Spell_)×(List TrayPlay)×Int×Int×(List Bool)) (fun j=>[(2,.ptr (g+1) 0),(3,.ptr (g+2+15) 0)]) (fun j H' g'=>St (·<g) H0 [(g+2+17+1,.row 71 j.2.2.2.2.2.2.2.2.2.2.2.1.length),(g+2+17,.row 160 j.2.2.2.2.2.2.2.2.2.2.1.length),(g+2+15,.cells [.sl .no 2 (j.1.map TrayRecord.cells),.i j.2.1,.i j.2.2.1,.i j.2.2.2.1,.sl .no 2 (j.2.2.2.2.1.map TrayPress.cells),.sl .no 2 (j.2.2.2.2.2.1.map TrayPress.cells),.ms (g+2+8) 0 1 (2*j.1.length) (2*j.1.length),.i j.2.2.2.2.2.2.1,.i j.2.2.2.2.2.2.2.1,.i j.2.2.2.2.2.2.2.2.1,.i j.2.2.2.2.2.2.2.2.2.1,.sl (.id (g+2+17)) 4 (j.2.2.2.2.2.2.2.2.2.2.1.map Spell_.cells),.sl (.id (g+2+17+1)) 2 (j.2.2.2.2.2.2.2.2.2.2.2.1.map TrayPlay.cells),.i j.2.2.2.2.2.2.2.2.2.2.2.2.1,.i j.2.2.2.2.2.2.2.2.2.2.2.2.2.1]),(g+2+8,.cells (j.2.2.2.2.2.2.2.2.2.2.2.2.2.2.map cB).flatten),(g+1,.cells [.sl .nil 0 [],.sl .nil 0 [],.i 0,.i 0])] H' g'/\zgB j.1 j.2.1 j.2.2.1 j.2.2.2.1 j.2.2.2.2.1 j.2.2.2.2.2.1 j.2.2.2.2.2.2.1 j.2.2.2.2.2.2.2.1 j.2.2.2.2.2.2.2.2.1 j.2.2.2.2.2.2.2.2.2.1 j.2.2.2.2.2.2.2.2.2.2.1 j.2.2.2.2.2.2.2.2.2.2.2.1 j.2.2.2.2.2.2.2.2.2.2.2.2.1 j.2.2.2.2.2.2.2.2.2.2.2.2.2.1 j.2.2.2.2.2.2.2.2.2.2.2.2.2.2=some r) ?_ ?_
  ·rintro ⟨v6,v7,v8,v9,v10,v11,v12,v13,v14,v15,v16,v17,v18,v19,v20⟩ H g1 ⟨hS,hM⟩
   change wpA _ _ _ _ (Fr.of [(2,.ptr (g+1) 0),(3,.ptr (g+2+15) 0)]) _ _
   replace hS:St (·<g) H0 [(g+2+17+1,.row 71 v17.length),(g+2+17,.row 160 v16.length),(g+2+15,.cells [.sl .no 2 (v6.map TrayRecord.cells),.i v7,.i v8,.i v9,.sl .no 2 (v10.map TrayPress.cells),.sl .no 2 (v11.map TrayPress.cells),.ms (g+2+8) 0 1 (2*v6.length) (2*v6.length),.i v12,.i v13,.i v14,.i v15,.sl (.id (g+2+17)) 4 (v16.map Spell_.cells),.sl (.id (g+2+17+1)) 2 (v17.map TrayPlay.cells),.i v18,.i v19]),(g+2+8,.cells (v20.map cB).flatten),(g+1,.cells [.sl .nil 0 [],.sl .nil 0 [],.i 0,.i 0])] H g1:=hS
   replace hM:zgB v6 v7 v8 v9 v10 v11 v12 v13 v14 v15 v16 v17 v18 v19 v20=some r:=hM
   refine Sq ?_
   refine Rg 5 ?_
   refine Om (.ptr (g+2+15) 0) ?_
   refine zbm (by decide) rfl ?_
   refine zan (by decide) zd4 rfl ?_
   refine zb1 (v:=.agg [.sl (.id (g+2+17)) 4 (v16.map Spell_.cells),.sl (.id (g+2+17+1)) 2 (v17.map TrayPlay.cells),.i v18,.i v19]) 2 hS (by decide) rfl rfl .no (pg zhQ) ?_
   refine zbZ (v:=.agg [.sl (.id (g+2+17)) 4 (v16.map Spell_.cells),.sl (.id (g+2+17+1)) 2 (v17.map TrayPlay.cells),.i v18,.i v19]) (ns:=[.sl (.id (g+2+17)) 4 (v16.map Spell_.cells),.sl (.id (g+2+17+1)) 2 (v17.map TrayPlay.cells),.i v18,.i v19]) (L':=[(g+2+17+1,.row 71 v17.length),(g+2+17,.row 160 v16.length),(g+2+15,.cells [.sl .no 2 (v6.map TrayRecord.cells),.i v7,.i v8,.i v9,.sl .no 2 (v10.map TrayPress.cells),.sl .no 2 (v11.map TrayPress.cells),.ms (g+2+8) 0 1 (2*v6.length) (2*v6.length),.i v12,.i v13,.i v14,.i v15,.sl (.id (g+2+17)) 4 (v16.map Spell_.cells),.sl (.id (g+2+17+1)) 2 (v17.map TrayPlay.cells),.i v18,.i v19]),(g+2+8,.cells (v20.map cB).flatten),(g+1,.cells [.sl (.id (g+2+17)) 4 (v16.map Spell_.cells),.sl (.id (g+2+17+1)) 2 (v17.map TrayPlay.cells),.i v18,.i v19])]) 4 hS rfl rfl .no rfl rfl zla nlb rfl fun H hS=>?_
   refine Ni ?_
   replace hS:=hS.keep (L':=[(g+2+17+1,.row 71 v17.length),(g+2+17,.row 160 v16.length),(g+1,.cells [.sl (.id (g+2+17)) 4 (v16.map Spell_.cells),.sl (.id (g+2+17+1)) 2 (v17.map TrayPlay.cells),.i v18,.i v19])]) [true,true,false,false,true] rfl
   refine Ws ?_
   refine za8 ?_
   refine zbq (x:=.agg [.sl (.id (g+2+17)) 4 (v16.map Spell_.cells),.sl (.id (g+2+17+1)) 2 (v17.map TrayPlay.cells),.i v18,.i v19]) (f:=fun r=>.agg [.sl .no 4 (r.spells.map Spell_.cells),.sl .no 2 (r.plays.map TrayPlay.cells),.i r.steps,.i r.end_]) (.inr rfl) ?_ (.aggL (.cons (.sl _ _ _) (.cons (.sl _ _ _) (.k (.k .nil))))) (Option.some.inj hM) hS
   exact (zay (ziu (x:=.agg [.sl (.id (g+2+17)) 4 (v16.map Spell_.cells),.sl (.id (g+2+17+1)) 2 (v17.map TrayPlay.cells),.i v18,.i v19]) 2 hS rfl rfl (pg zhQ)))
  ·refine zas ?_
   refine zbV (V:=(List TrayRecord)×Int×Int×Int×(List TrayPress)×(List TrayPress)×Int×Int×Int×Int×(List Spell_)×(List TrayPlay)×Int×Int×(List Bool)) (fun v=>[(2,.ptr (g+1) 0),(3,.ptr (g+2+15) 0)]) (fun v m3 H' g'=>St (·<g) H0 [(g+2+17+1,.row 71 v.2.2.2.2.2.2.2.2.2.2.2.1.length),(g+2+17,.row 160 v.2.2.2.2.2.2.2.2.2.2.1.length),(g+2+15,.cells [.sl .no 2 (v.1.map TrayRecord.cells),.i v.2.1,.i v.2.2.1,.i v.2.2.2.1,.sl .no 2 (v.2.2.2.2.1.map TrayPress.cells),.sl .no 2 (v.2.2.2.2.2.1.map TrayPress.cells),.ms (g+2+8) 0 1 (2*v.1.length) (2*v.1.length),.i v.2.2.2.2.2.2.1,.i v.2.2.2.2.2.2.2.1,.i v.2.2.2.2.2.2.2.2.1,.i v.2.2.2.2.2.2.2.2.2.1,.sl (.id (g+2+17)) 4 (v.2.2.2.2.2.2.2.2.2.2.1.map Spell_.cells),.sl (.id (g+2+17+1)) 2 (v.2.2.2.2.2.2.2.2.2.2.2.1.map TrayPlay.cells),.i v.2.2.2.2.2.2.2.2.2.2.2.2.1,.i v.2.2.2.2.2.2.2.2.2.2.2.2.2.1]),(g+2+8,.cells (v.2.2.2.2.2.2.2.2.2.2.2.2.2.2.map cB).flatten),(g+1,.cells [.sl .nil 0 [],.sl .nil 0 [],.i 0,.i 0])] H' g'/\zdM n m3 v.1 v.2.1 v.2.2.1 v.2.2.2.1 v.2.2.2.2.1 v.2.2.2.2.2.1 v.2.2.2.2.2.2.1 v.2.2.2.2.2.2.2.1 v.2.2.2.2.2.2.2.2.1 v.2.2.2.2.2.2.2.2.2.1 v.2.2.2.2.2.2.2.2.2.2.1 v.2.2.2.2.2.2.2.2.2.2.2.1 v.2.2.2.2.2.2.2.2.2.2.2.2.1 v.2.2.2.2.2.2.2.2.2.2.2.2.2.1 v.2.2.2.2.2.2.2.2.2.2.2.2.2.2=some r) (n:=n) (r5.2.t.Records,r5.2.t.At,r5.2.t.Way,r5.2.t.Step,r5.2.t.Presses,r5.2.queue,r5.2.now,r5.2.at_.At,r5.2.at_.Way,r5.2.at_.Side,r5.2.run.spells,r5.2.run.plays,r5.2.run.steps,r5.2.run.end_,r5.2.pins) (.k (.k .nil)) ⟨(hS.keep [true,true,true,true,true] rfl).up (by omega),hM⟩ ?_
   rintro ⟨v21,v22,v23,v24,v25,v26,v27,v28,v29,v30,v31,v32,v33,v34,v35⟩ m3 H g3 ⟨hS,hM⟩
   obtain _ | m3:=m3
   ·exact nomatch (show none=some _ from hM)
   change wpA _ _ _ _ (Fr.of [(2,.ptr (g+1) 0),(3,.ptr (g+2+15) 0)]) _ _
   replace hS:St (·<g) H0 [(g+2+17+1,.row 71 v32.length),(g+2+17,.row 160 v31.length),(g+2+15,.cells [.sl .no 2 (v21.map TrayRecord.cells),.i v22,.i v23,.i v24,.sl .no 2 (v25.map TrayPress.cells),.sl .no 2 (v26.map TrayPress.cells),.ms (g+2+8) 0 1 (2*v21.length) (2*v21.length),.i v27,.i v28,.i v29,.i v30,.sl (.id (g+2+17)) 4 (v31.map Spell_.cells),.sl (.id (g+2+17+1)) 2 (v32.map TrayPlay.cells),.i v33,.i v34]),(g+2+8,.cells (v35.map cB).flatten),(g+1,.cells [.sl .nil 0 [],.sl .nil 0 [],.i 0,.i 0])] H g3:=hS
   replace hM:zfT n (zdM n m3) v21 v22 v23 v24 v25 v26 v27 v28 v29 v30 v31 v32 v33 v34 v35=some r:=hM
   refine Sq ?_
   refine Sq ?_
   refine Rg 2 ?_
   refine Om (.ptr (g+2+15) 0) ?_
   obtain ⟨r36,hr36,hM⟩:=zat hM
   have hndr36:=hS.nd_at (ns:=[2,3,1,0]) (M:=[(g+2+15,.cells [.sl .no 2 (v21.map TrayRecord.cells),.i v22,.i v23,.i v24,.sl .no 2 (v25.map TrayPress.cells),.sl .no 2 (v26.map TrayPress.cells),.ms (g+2+8) 0 1 (2*v21.length) (2*v21.length),.i v27,.i v28,.i v29,.i v30,.sl (.id (g+2+17)) 4 (v31.map Spell_.cells),.sl (.id (g+2+17+1)) 2 (v32.map TrayPlay.cells),.i v33,.i v34]),(g+2+8,.cells (v35.map cB).flatten),(g+2+17,.row 160 v31.length),(g+2+17+1,.row 71 v32.length)]) (M':=[(g+2+15,.cells [.sl .no 2 (r36.2.t.Records.map TrayRecord.cells),.i r36.2.t.At,.i r36.2.t.Way,.i r36.2.t.Step,.sl .no 2 (r36.2.t.Presses.map TrayPress.cells),.sl .no 2 (r36.2.queue.map TrayPress.cells),.ms (g+2+8) 0 1 (2*r36.2.t.Records.length) (2*r36.2.t.Records.length),.i r36.2.now,.i r36.2.at_.At,.i r36.2.at_.Way,.i r36.2.at_.Side,.sl (.id (g+2+17)) 4 (r36.2.run.spells.map Spell_.cells),.sl (.id (g+2+17+1)) 2 (r36.2.run.plays.map TrayPlay.cells),.i r36.2.run.steps,.i r36.2.run.end_]),(g+2+8,.cells (r36.2.pins.map cB).flatten),(g+2+17,.row 160 r36.2.run.spells.length),(g+2+17+1,.row 71 r36.2.run.plays.length)]) (.cons rfl (.cons rfl (.cons rfl (.cons rfl .nil)))) (by decide)
   refine zg9 (bs:=[.ptr (g+2+15) 0]) (M:=[(g+2+15,.cells [.sl .no 2 (v21.map TrayRecord.cells),.i v22,.i v23,.i v24,.sl .no 2 (v25.map TrayPress.cells),.sl .no 2 (v26.map TrayPress.cells),.ms (g+2+8) 0 1 (2*v21.length) (2*v21.length),.i v27,.i v28,.i v29,.i v30,.sl (.id (g+2+17)) 4 (v31.map Spell_.cells),.sl (.id (g+2+17+1)) 2 (v32.map TrayPlay.cells),.i v33,.i v34]),(g+2+8,.cells (v35.map cB).flatten),(g+2+17,.row 160 v31.length),(g+2+17+1,.row 71 v32.length)]) (M':=[(g+2+15,.cells [.sl .no 2 (r36.2.t.Records.map TrayRecord.cells),.i r36.2.t.At,.i r36.2.t.Way,.i r36.2.t.Step,.sl .no 2 (r36.2.t.Presses.map TrayPress.cells),.sl .no 2 (r36.2.queue.map TrayPress.cells),.ms (g+2+8) 0 1 (2*r36.2.t.Records.length) (2*r36.2.t.Records.length),.i r36.2.now,.i r36.2.at_.At,.i r36.2.at_.Way,.i r36.2.at_.Side,.sl (.id (g+2+17)) 4 (r36.2.run.spells.map Spell_.cells),.sl (.id (g+2+17+1)) 2 (r36.2.run.plays.map TrayPlay.cells),.i r36.2.run.steps,.i r36.2.run.end_]),(g+2+8,.cells (r36.2.pins.map cB).flatten),(g+2+17,.row 160 r36.2.run.spells.length),(g+2+17+1,.row 71 r36.2.run.plays.length)]) (L':=[(g+2+17+1,.row 71 r36.2.run.plays.length),(g+2+17,.row 160 r36.2.run.spells.length),(g+2+15,.cells [.sl .no 2 (r36.2.t.Records.map TrayRecord.cells),.i r36.2.t.At,.i r36.2.t.Way,.i r36.2.t.Step,.sl .no 2 (r36.2.t.Presses.map TrayPress.cells),.sl .no 2 (r36.2.queue.map TrayPress.cells),.ms (g+2+8) 0 1 (2*r36.2.t.Records.length) (2*r36.2.t.Records.length),.i r36.2.now,.i r36.2.at_.At,.i r36.2.at_.Way,.i r36.2.at_.Side,.sl (.id (g+2+17)) 4 (r36.2.run.spells.map Spell_.cells),.sl (.id (g+2+17+1)) 2 (r36.2.run.plays.map TrayPlay.cells),.i r36.2.run.steps,.i r36.2.run.end_]),(g+2+8,.cells (r36.2.pins.map cB).flatten),(g+1,.cells [.sl .nil 0 [],.sl .nil 0 [],.i 0,.i 0])]) [2,3,1,0] (.inl rfl) hS (by decide) rfl rfl ((zfG (p1:=g+2+15) (w10:=g+2+8) (w11:=g+2+17) (w12:=g+2+17+1) hndr36 hr36).le (.k .nil)) (.cons rfl (.cons rfl (.cons rfl (.cons rfl .nil)))) rfl (by omega) fun H hS=>?_
   refine Ni ?_
   refine Ws ?_
   rcases bft r36.1 with hb37 | hb37
   ·replace hM:=ifT hM hb37
    refine Ct hb37 ?_
    refine zaF ?_
    refine Ws ?_
    refine zas ?_
    refine zaF ?_
    refine zae ?_
    exact zbg (r36.2.t.Records,r36.2.t.At,r36.2.t.Way,r36.2.t.Step,r36.2.t.Presses,r36.2.queue,r36.2.now,r36.2.at_.At,r36.2.at_.Way,r36.2.at_.Side,r36.2.run.spells,r36.2.run.plays,r36.2.run.steps,r36.2.run.end_,r36.2.pins) (Nat.lt_succ_self _) (.k (.k .nil)) ⟨(hS.keep [true,true,true,true,true] rfl).up (by omega),hM⟩
   ·replace hM:=ifF hM hb37
    refine Cf hb37 ?_
    refine zbS ?_
    refine zaq ?_
    refine zam ?_
    refine zaA ?_
    exact zah (r36.2.t.Records,r36.2.t.At,r36.2.t.Way,r36.2.t.Step,r36.2.t.Presses,r36.2.queue,r36.2.now,r36.2.at_.At,r36.2.at_.Way,r36.2.at_.Side,r36.2.run.spells,r36.2.run.plays,r36.2.run.steps,r36.2.run.end_,r36.2.pins) (.k (.k .nil)) ⟨(hS.keep [true,true,true,true,true] rfl).up (by omega),hM⟩
 ·replace hM:=ifF hM hb2
  refine zra (f:=TrayPress.cells) (us:=r1) (mk:=(fun s=>s)) (k:=2) (e:=55) (bs:=[.sl .no 2 (a0.Presses.map TrayPress.cells)]) hS (by decide) rfl rfl ((zmi.of_fresh (zdR hr1)).le (.k .nil)) zsa (zaf (.sl _ _ (zaT (fun x=>(zaf (.v _) (zaf (.v _) zaZ))))) zaZ) (zhK (fun x=>(zdK (zdK zhJ)))) hb2 (by omega) fun H hS=>?_
  refine Of ((Tray.cells a0)) zbQ ?_
  refine Olp (.sl .no 2 (a0.Records.map TrayRecord.cells)) zct zde ?_
  refine zc7 (n:=a0.Records.length) (by decide) rfl (List.length_map _) zdm ?_
  refine Oi (.i (w64 (2*(a0.Records.length:Int)))) ?_
  obtain ⟨l38,hl38,hM⟩:=zat hM
  refine zok (f:=cB) (z:=(w64 (2*(a0.Records.length:Int)))) (n:=(2*a0.Records.length)) (us:=l38) hS (by decide) rfl rfl hl38 rfl zgY zmt zml zmu (by omega) fun H hS=>?_
  refine Of ((Tray.cells a0)) zgH ?_
  refine Olp (.i a0.At) zai zav ?_
  refine Of ((Tray.cells a0)) zf0 ?_
  refine Olp (.i a0.Way) zai zav ?_
  refine zdJ (cs:=[.i a0.At,.i a0.Way,.i (-1)]) (by decide) zjO zmv rfl ?_
  refine zdJ (cs:=[.sl .no 2 (a0.Records.map TrayRecord.cells),.i a0.At,.i a0.Way,.i a0.Step,.sl .no 2 (a0.Presses.map TrayPress.cells),.ms (g+2+3) 0 2 r1.length r1.length,.ms (g+2+8) 0 1 (2*a0.Records.length) (2*a0.Records.length),.i 0,.i a0.At,.i a0.Way,.i (-1),.sl .nil 0 [],.sl .nil 0 [],.i 0,.i 0]) (by decide) zjP zmw rfl ?_
  refine zdI (v:=.agg [.sl .no 2 (a0.Records.map TrayRecord.cells),.i a0.At,.i a0.Way,.i a0.Step,.sl .no 2 (a0.Presses.map TrayPress.cells),.ms (g+2+3) 0 2 r1.length r1.length,.ms (g+2+8) 0 1 (2*a0.Records.length) (2*a0.Records.length),.i 0,.i a0.At,.i a0.Way,.i (-1),.sl .nil 0 [],.sl .nil 0 [],.i 0,.i 0]) (cs:=[.sl .no 2 (a0.Records.map TrayRecord.cells),.i a0.At,.i a0.Way,.i a0.Step,.sl .no 2 (a0.Presses.map TrayPress.cells),.ms (g+2+3) 0 2 r1.length r1.length,.ms (g+2+8) 0 1 (2*a0.Records.length) (2*a0.Records.length),.i 0,.i a0.At,.i a0.Way,.i (-1),.sl .nil 0 [],.sl .nil 0 [],.i 0,.i 0]) hS (by decide) rfl rfl (by omega) fun H hS=>?_
  refine Oa (.ptr (g+2+15) 0) ?_
  refine Ni ?_
  refine zk0 (cs':=[.sl .no 2 (a0.Records.map TrayRecord.cells),.i a0.At,.i a0.Way,.i a0.Step,.sl .no 2 (a0.Presses.map TrayPress.cells),.ms (g+2+3) 0 2 r1.length r1.length,.ms (g+2+8) 0 1 (2*a0.Records.length) (2*a0.Records.length),.i 0,.i a0.At,.i a0.Way,.i (-1),.sl (.id (g+2+17)) 4 (([]:List Spell_).map Spell_.cells),.sl .nil 0 [],.i 0,.i 0]) (L':=[(g+2+15,.cells [.sl .no 2 (a0.Records.map TrayRecord.cells),.i a0.At,.i a0.Way,.i a0.Step,.sl .no 2 (a0.Presses.map TrayPress.cells),.ms (g+2+3) 0 2 r1.length r1.length,.ms (g+2+8) 0 1 (2*a0.Records.length) (2*a0.Records.length),.i 0,.i a0.At,.i a0.Way,.i (-1),.sl (.id (g+2+17)) 4 (([]:List Spell_).map Spell_.cells),.sl .nil 0 [],.i 0,.i 0]),(g+2+8,.cells (l38.map cB).flatten),(g+2+3,.cells (r1.map TrayPress.cells).flatten),(g+1,.cells [.sl .nil 0 [],.sl .nil 0 [],.i 0,.i 0])]) 0 11 4 160 hS (by omega) (by decide) rfl rfl rfl rfl fun H hS=>?_
  refine zk0 (cs':=[.sl .no 2 (a0.Records.map TrayRecord.cells),.i a0.At,.i a0.Way,.i a0.Step,.sl .no 2 (a0.Presses.map TrayPress.cells),.ms (g+2+3) 0 2 r1.length r1.length,.ms (g+2+8) 0 1 (2*a0.Records.length) (2*a0.Records.length),.i 0,.i a0.At,.i a0.Way,.i (-1),.sl (.id (g+2+17)) 4 (([]:List Spell_).map Spell_.cells),.sl (.id (g+2+17+1)) 2 (([]:List TrayPlay).map TrayPlay.cells),.i 0,.i 0]) (L':=[(g+2+17,.row 160 0),(g+2+15,.cells [.sl .no 2 (a0.Records.map TrayRecord.cells),.i a0.At,.i a0.Way,.i a0.Step,.sl .no 2 (a0.Presses.map TrayPress.cells),.ms (g+2+3) 0 2 r1.length r1.length,.ms (g+2+8) 0 1 (2*a0.Records.length) (2*a0.Records.length),.i 0,.i a0.At,.i a0.Way,.i (-1),.sl (.id (g+2+17)) 4 (([]:List Spell_).map Spell_.cells),.sl (.id (g+2+17+1)) 2 (([]:List TrayPlay).map TrayPlay.cells),.i 0,.i 0]),(g+2+8,.cells (l38.map cB).flatten),(g+2+3,.cells (r1.map TrayPress.cells).flatten),(g+1,.cells [.sl .nil 0 [],.sl .nil 0 [],.i 0,.i 0])]) 1 12 2 71 hS (by omega) (by decide) rfl rfl rfl rfl fun H hS=>?_
  refine Ws ?_
  refine Sq ?_
  refine Rg 5 ?_
  refine Om (.ptr (g+2+15) 0) ?_
  refine zbm (by decide) rfl ?_
  refine zan (by decide) zd1 rfl ?_
  refine zb1 (v:=.ms (g+2+3) 0 2 r1.length r1.length) 2 hS (by decide) rfl rfl .no (po zcq zc1) ?_
  obtain ⟨r39,hr39,hM⟩:=zat hM
  have hndr39:=hS.nd_at (ns:=[4]) (M:=[(g+2+3,.cells (r1.map TrayPress.cells).flatten)]) (M':=[(g+2+3,.cells (r39.2.1.map TrayPress.cells).flatten)]) (.cons rfl .nil) (by decide)
  refine zg9 (bs:=[.ms (g+2+3) 0 2 r1.length r1.length,.fn (.func 68) [] []]) (M:=[(g+2+3,.cells (r1.map TrayPress.cells).flatten)]) (M':=[(g+2+3,.cells (r39.2.1.map TrayPress.cells).flatten)]) (L':=[(g+2+17+1,.row 71 0),(g+2+17,.row 160 0),(g+2+15,.cells [.sl .no 2 (a0.Records.map TrayRecord.cells),.i a0.At,.i a0.Way,.i a0.Step,.sl .no 2 (a0.Presses.map TrayPress.cells),.ms (g+2+3) 0 2 r1.length r1.length,.ms (g+2+8) 0 1 (2*a0.Records.length) (2*a0.Records.length),.i 0,.i a0.At,.i a0.Way,.i (-1),.sl (.id (g+2+17)) 4 (([]:List Spell_).map Spell_.cells),.sl (.id (g+2+17+1)) 2 (([]:List TrayPlay).map TrayPlay.cells),.i 0,.i 0]),(g+2+8,.cells (l38.map cB).flatten),(g+2+3,.cells (r39.2.1.map TrayPress.cells).flatten),(g+1,.cells [.sl .nil 0 [],.sl .nil 0 [],.i 0,.i 0])]) [4] (.inl rfl) hS (by decide) rfl rfl ((zed (Lo:=(fun (_:Unit)=>[])) (p1:=g+2+3) (fun _ _=>zgw) (fun _=>hndr39) (fun _=>zgv) (aF:=(fun (x0:TrayPress) (x1:TrayPress) (_:Unit)=>(zfQ x0 x1).map fun y=>(y,()))) (fun _ H hH=>(.fn _ _ _ zgx zgx)) rfl (fun h=>ziw (zjt (zhI h))) hr39).le (.k (.k .nil))) (.cons rfl .nil) rfl (by omega) fun H hS=>?_
  refine Ni ?_
  obtain ⟨x40,hx40,hM⟩:=zat hM
  refine zsi (p:=5) (k:=2) (es:=r39.2.1.map TrayPress.cells) (cs':=[.sl .no 2 (a0.Records.map TrayRecord.cells),.i a0.At,.i a0.Way,.i a0.Step,.sl .no 2 (a0.Presses.map TrayPress.cells),.sl .no 2 (r39.2.1.map TrayPress.cells),.ms (g+2+8) 0 1 (2*a0.Records.length) (2*a0.Records.length),.i 0,.i a0.At,.i a0.Way,.i (-1),.sl (.id (g+2+17)) 4 (([]:List Spell_).map Spell_.cells),.sl (.id (g+2+17+1)) 2 (([]:List TrayPlay).map TrayPlay.cells),.i 0,.i 0]) (L':=[(g+2+17+1,.row 71 0),(g+2+17,.row 160 0),(g+2+15,.cells [.sl .no 2 (a0.Records.map TrayRecord.cells),.i a0.At,.i a0.Way,.i a0.Step,.sl .no 2 (a0.Presses.map TrayPress.cells),.sl .no 2 (r39.2.1.map TrayPress.cells),.ms (g+2+8) 0 1 (2*a0.Records.length) (2*a0.Records.length),.i 0,.i a0.At,.i a0.Way,.i (-1),.sl (.id (g+2+17)) 4 (([]:List Spell_).map Spell_.cells),.sl (.id (g+2+17+1)) 2 (([]:List TrayPlay).map TrayPlay.cells),.i 0,.i 0]),(g+2+8,.cells (l38.map cB).flatten),(g+1,.cells [.sl .nil 0 [],.sl .nil 0 [],.i 0,.i 0])]) 2 4 hS rfl rfl rfl (zmk hx40) (zpI hx40) (by decide) (zkg (fun _=>rfl)) (zhK (fun x=>(zdK (zdK zhJ)))) rfl rfl fun H hS=>?_
  refine Ws ?_
  refine Sq ?_
  refine Rg 2 ?_
  refine Om (.ptr (g+2+15) 0) ?_
  obtain ⟨r41,hr41,hM⟩:=zat hM
  have hndr41:=hS.nd_at (ns:=[2,3,1,0]) (M:=[(g+2+15,.cells [.sl .no 2 (a0.Records.map TrayRecord.cells),.i a0.At,.i a0.Way,.i a0.Step,.sl .no 2 (a0.Presses.map TrayPress.cells),.sl .no 2 (r39.2.1.map TrayPress.cells),.ms (g+2+8) 0 1 (2*a0.Records.length) (2*a0.Records.length),.i 0,.i a0.At,.i a0.Way,.i (-1),.sl (.id (g+2+17)) 4 (([]:List Spell_).map Spell_.cells),.sl (.id (g+2+17+1)) 2 (([]:List TrayPlay).map TrayPlay.cells),.i 0,.i 0]),(g+2+8,.cells (l38.map cB).flatten),(g+2+17,.row 160 0),(g+2+17+1,.row 71 0)]) (M':=[(g+2+15,.cells [.sl .no 2 (r41.2.t.Records.map TrayRecord.cells),.i r41.2.t.At,.i r41.2.t.Way,.i r41.2.t.Step,.sl .no 2 (r41.2.t.Presses.map TrayPress.cells),.sl .no 2 (r41.2.queue.map TrayPress.cells),.ms (g+2+8) 0 1 (2*r41.2.t.Records.length) (2*r41.2.t.Records.length),.i r41.2.now,.i r41.2.at_.At,.i r41.2.at_.Way,.i r41.2.at_.Side,.sl (.id (g+2+17)) 4 (r41.2.run.spells.map Spell_.cells),.sl (.id (g+2+17+1)) 2 (r41.2.run.plays.map TrayPlay.cells),.i r41.2.run.steps,.i r41.2.run.end_]),(g+2+8,.cells (r41.2.pins.map cB).flatten),(g+2+17,.row 160 r41.2.run.spells.length),(g+2+17+1,.row 71 r41.2.run.plays.length)]) (.cons rfl (.cons rfl (.cons rfl (.cons rfl .nil)))) (by decide)
  refine zg9 (bs:=[.ptr (g+2+15) 0,.i (-1)]) (M:=[(g+2+15,.cells [.sl .no 2 (a0.Records.map TrayRecord.cells),.i a0.At,.i a0.Way,.i a0.Step,.sl .no 2 (a0.Presses.map TrayPress.cells),.sl .no 2 (r39.2.1.map TrayPress.cells),.ms (g+2+8) 0 1 (2*a0.Records.length) (2*a0.Records.length),.i 0,.i a0.At,.i a0.Way,.i (-1),.sl (.id (g+2+17)) 4 (([]:List Spell_).map Spell_.cells),.sl (.id (g+2+17+1)) 2 (([]:List TrayPlay).map TrayPlay.cells),.i 0,.i 0]),(g+2+8,.cells (l38.map cB).flatten),(g+2+17,.row 160 0),(g+2+17+1,.row 71 0)]) (M':=[(g+2+15,.cells [.sl .no 2 (r41.2.t.Records.map TrayRecord.cells),.i r41.2.t.At,.i r41.2.t.Way,.i r41.2.t.Step,.sl .no 2 (r41.2.t.Presses.map TrayPress.cells),.sl .no 2 (r41.2.queue.map TrayPress.cells),.ms (g+2+8) 0 1 (2*r41.2.t.Records.length) (2*r41.2.t.Records.length),.i r41.2.now,.i r41.2.at_.At,.i r41.2.at_.Way,.i r41.2.at_.Side,.sl (.id (g+2+17)) 4 (r41.2.run.spells.map Spell_.cells),.sl (.id (g+2+17+1)) 2 (r41.2.run.plays.map TrayPlay.cells),.i r41.2.run.steps,.i r41.2.run.end_]),(g+2+8,.cells (r41.2.pins.map cB).flatten),(g+2+17,.row 160 r41.2.run.spells.length),(g+2+17+1,.row 71 r41.2.run.plays.length)]) (L':=[(g+2+17+1,.row 71 r41.2.run.plays.length),(g+2+17,.row 160 r41.2.run.spells.length),(g+2+15,.cells [.sl .no 2 (r41.2.t.Records.map TrayRecord.cells),.i r41.2.t.At,.i r41.2.t.Way,.i r41.2.t.Step,.sl .no 2 (r41.2.t.Presses.map TrayPress.cells),.sl .no 2 (r41.2.queue.map TrayPress.cells),.ms (g+2+8) 0 1 (2*r41.2.t.Records.length) (2*r41.2.t.Records.length),.i r41.2.now,.i r41.2.at_.At,.i r41.2.at_.Way,.i r41.2.at_.Side,.sl (.id (g+2+17)) 4 (r41.2.run.spells.map Spell_.cells),.sl (.id (g+2+17+1)) 2 (r41.2.run.plays.map TrayPlay.cells),.i r41.2.run.steps,.i r41.2.run.end_]),(g+2+8,.cells (r41.2.pins.map cB).flatten),(g+1,.cells [.sl .nil 0 [],.sl .nil 0 [],.i 0,.i 0])]) [2,3,1,0] (.inl rfl) hS (by decide) rfl rfl ((zcy (p1:=g+2+15) (w10:=g+2+8) (w11:=g+2+17) (w12:=g+2+17+1) hndr41 hr41).le (.k (.k .nil))) (.cons rfl (.cons rfl (.cons rfl (.cons rfl .nil)))) rfl (by omega) fun H hS=>?_
  refine Ni ?_
  refine Ws ?_
  refine zaJ (J:=(List TrayRecord)×Int×Int×Int×(List TrayPress)×(List TrayPress)×Int×Int×Int×Int×(List Spell_)×(List TrayPlay)×Int×Int×(List Bool)) (fun j=>[(2,.ptr (g+1) 0),(3,.ptr (g+2+15) 0)]) (fun j H' g'=>St (·<g) H0 [(g+2+17+1,.row 71 j.2.2.2.2.2.2.2.2.2.2.2.1.length),(g+2+17,.row 160 j.2.2.2.2.2.2.2.2.2.2.1.length),(g+2+15,.cells [.sl .no 2 (j.1.map TrayRecord.cells),.i j.2.1,.i j.2.2.1,.i j.2.2.2.1,.sl .no 2 (j.2.2.2.2.1.map TrayPress.cells),.sl .no 2 (j.2.2.2.2.2.1.map TrayPress.cells),.ms (g+2+8) 0 1 (2*j.1.length) (2*j.1.length),.i j.2.2.2.2.2.2.1,.i j.2.2.2.2.2.2.2.1,.i j.2.2.2.2.2.2.2.2.1,.i j.2.2.2.2.2.2.2.2.2.1,.sl (.id (g+2+17)) 4 (j.2.2.2.2.2.2.2.2.2.2.1.map Spell_.cells),.sl (.id (g+2+17+1)) 2 (j.2.2.2.2.2.2.2.2.2.2.2.1.map TrayPlay.cells),.i j.2.2.2.2.2.2.2.2.2.2.2.2.1,.i j.2.2.2.2.2.2.2.2.2.2.2.2.2.1]),(g+2+8,.cells (j.2.2.2.2.2.2.2.2.2.2.2.2.2.2.map cB).flatten),(g+1,.cells [.sl .nil 0 [],.sl .nil 0 [],.i 0,.i 0])] H' g'/\zgC j.1 j.2.1 j.2.2.1 j.2.2.2.1 j.2.2.2.2.1 j.2.2.2.2.2.1 j.2.2.2.2.2.2.1 j.2.2.2.2.2.2.2.1 j.2.2.2.2.2.2.2.2.1 j.2.2.2.2.2.2.2.2.2.1 j.2.2.2.2.2.2.2.2.2.2.1 j.2.2.2.2.2.2.2.2.2.2.2.1 j.2.2.2.2.2.2.2.2.2.2.2.2.1 j.2.2.2.2.2.2.2.2.2.2.2.2.2.1 j.2.2.2.2.2.2.2.2.2.2.2.2.2.2=some r) ?_ ?_
  ·rintro ⟨v42,v43,v44,v45,v46,v47,v48,v49,v50,v51,v52,v53,v54,v55,v56⟩ H g4 ⟨hS,hM⟩
   change wpA _ _ _ _ (Fr.of [(2,.ptr (g+1) 0),(3,.ptr (g+2+15) 0)]) _ _
   replace hS:St (·<g) H0 [(g+2+17+1,.row 71 v53.length),(g+2+17,.row 160 v52.length),(g+2+15,.cells [.sl .no 2 (v42.map TrayRecord.cells),.i v43,.i v44,.i v45,.sl .no 2 (v46.map TrayPress.cells),.sl .no 2 (v47.map TrayPress.cells),.ms (g+2+8) 0 1 (2*v42.length) (2*v42.length),.i v48,.i v49,.i v50,.i v51,.sl (.id (g+2+17)) 4 (v52.map Spell_.cells),.sl (.id (g+2+17+1)) 2 (v53.map TrayPlay.cells),.i v54,.i v55]),(g+2+8,.cells (v56.map cB).flatten),(g+1,.cells [.sl .nil 0 [],.sl .nil 0 [],.i 0,.i 0])] H g4:=hS
   replace hM:zgC v42 v43 v44 v45 v46 v47 v48 v49 v50 v51 v52 v53 v54 v55 v56=some r:=hM
   refine Sq ?_
   refine Rg 5 ?_
   refine Om (.ptr (g+2+15) 0) ?_
   refine zbm (by decide) rfl ?_
   refine zan (by decide) zd4 rfl ?_
   refine zb1 (v:=.agg [.sl (.id (g+2+17)) 4 (v52.map Spell_.cells),.sl (.id (g+2+17+1)) 2 (v53.map TrayPlay.cells),.i v54,.i v55]) 2 hS (by decide) rfl rfl .no (pg zhQ) ?_
   refine zbZ (v:=.agg [.sl (.id (g+2+17)) 4 (v52.map Spell_.cells),.sl (.id (g+2+17+1)) 2 (v53.map TrayPlay.cells),.i v54,.i v55]) (ns:=[.sl (.id (g+2+17)) 4 (v52.map Spell_.cells),.sl (.id (g+2+17+1)) 2 (v53.map TrayPlay.cells),.i v54,.i v55]) (L':=[(g+2+17+1,.row 71 v53.length),(g+2+17,.row 160 v52.length),(g+2+15,.cells [.sl .no 2 (v42.map TrayRecord.cells),.i v43,.i v44,.i v45,.sl .no 2 (v46.map TrayPress.cells),.sl .no 2 (v47.map TrayPress.cells),.ms (g+2+8) 0 1 (2*v42.length) (2*v42.length),.i v48,.i v49,.i v50,.i v51,.sl (.id (g+2+17)) 4 (v52.map Spell_.cells),.sl (.id (g+2+17+1)) 2 (v53.map TrayPlay.cells),.i v54,.i v55]),(g+2+8,.cells (v56.map cB).flatten),(g+1,.cells [.sl (.id (g+2+17)) 4 (v52.map Spell_.cells),.sl (.id (g+2+17+1)) 2 (v53.map TrayPlay.cells),.i v54,.i v55])]) 4 hS rfl rfl .no rfl rfl zla nlb rfl fun H hS=>?_
   refine Ni ?_
   replace hS:=hS.keep (L':=[(g+2+17+1,.row 71 v53.length),(g+2+17,.row 160 v52.length),(g+1,.cells [.sl (.id (g+2+17)) 4 (v52.map Spell_.cells),.sl (.id (g+2+17+1)) 2 (v53.map TrayPlay.cells),.i v54,.i v55])]) [true,true,false,false,true] rfl
   refine Ws ?_
   refine za8 ?_
   refine zbq (x:=.agg [.sl (.id (g+2+17)) 4 (v52.map Spell_.cells),.sl (.id (g+2+17+1)) 2 (v53.map TrayPlay.cells),.i v54,.i v55]) (f:=fun r=>.agg [.sl .no 4 (r.spells.map Spell_.cells),.sl .no 2 (r.plays.map TrayPlay.cells),.i r.steps,.i r.end_]) (.inr rfl) ?_ (.aggL (.cons (.sl _ _ _) (.cons (.sl _ _ _) (.k (.k .nil))))) (Option.some.inj hM) hS
   exact (zay (ziu (x:=.agg [.sl (.id (g+2+17)) 4 (v52.map Spell_.cells),.sl (.id (g+2+17+1)) 2 (v53.map TrayPlay.cells),.i v54,.i v55]) 2 hS rfl rfl (pg zhQ)))
  ·refine zas ?_
   refine zbV (V:=(List TrayRecord)×Int×Int×Int×(List TrayPress)×(List TrayPress)×Int×Int×Int×Int×(List Spell_)×(List TrayPlay)×Int×Int×(List Bool)) (fun v=>[(2,.ptr (g+1) 0),(3,.ptr (g+2+15) 0)]) (fun v m6 H' g'=>St (·<g) H0 [(g+2+17+1,.row 71 v.2.2.2.2.2.2.2.2.2.2.2.1.length),(g+2+17,.row 160 v.2.2.2.2.2.2.2.2.2.2.1.length),(g+2+15,.cells [.sl .no 2 (v.1.map TrayRecord.cells),.i v.2.1,.i v.2.2.1,.i v.2.2.2.1,.sl .no 2 (v.2.2.2.2.1.map TrayPress.cells),.sl .no 2 (v.2.2.2.2.2.1.map TrayPress.cells),.ms (g+2+8) 0 1 (2*v.1.length) (2*v.1.length),.i v.2.2.2.2.2.2.1,.i v.2.2.2.2.2.2.2.1,.i v.2.2.2.2.2.2.2.2.1,.i v.2.2.2.2.2.2.2.2.2.1,.sl (.id (g+2+17)) 4 (v.2.2.2.2.2.2.2.2.2.2.1.map Spell_.cells),.sl (.id (g+2+17+1)) 2 (v.2.2.2.2.2.2.2.2.2.2.2.1.map TrayPlay.cells),.i v.2.2.2.2.2.2.2.2.2.2.2.2.1,.i v.2.2.2.2.2.2.2.2.2.2.2.2.2.1]),(g+2+8,.cells (v.2.2.2.2.2.2.2.2.2.2.2.2.2.2.map cB).flatten),(g+1,.cells [.sl .nil 0 [],.sl .nil 0 [],.i 0,.i 0])] H' g'/\zep n m6 v.1 v.2.1 v.2.2.1 v.2.2.2.1 v.2.2.2.2.1 v.2.2.2.2.2.1 v.2.2.2.2.2.2.1 v.2.2.2.2.2.2.2.1 v.2.2.2.2.2.2.2.2.1 v.2.2.2.2.2.2.2.2.2.1 v.2.2.2.2.2.2.2.2.2.2.1 v.2.2.2.2.2.2.2.2.2.2.2.1 v.2.2.2.2.2.2.2.2.2.2.2.2.1 v.2.2.2.2.2.2.2.2.2.2.2.2.2.1 v.2.2.2.2.2.2.2.2.2.2.2.2.2.2=some r) (n:=n) (r41.2.t.Records,r41.2.t.At,r41.2.t.Way,r41.2.t.Step,r41.2.t.Presses,r41.2.queue,r41.2.now,r41.2.at_.At,r41.2.at_.Way,r41.2.at_.Side,r41.2.run.spells,r41.2.run.plays,r41.2.run.steps,r41.2.run.end_,r41.2.pins) (.k (.k .nil)) ⟨(hS.keep [true,true,true,true,true] rfl).up (by omega),hM⟩ ?_
   rintro ⟨v57,v58,v59,v60,v61,v62,v63,v64,v65,v66,v67,v68,v69,v70,v71⟩ m6 H g6 ⟨hS,hM⟩
   obtain _ | m6:=m6
   ·exact nomatch (show none=some _ from hM)
   change wpA _ _ _ _ (Fr.of [(2,.ptr (g+1) 0),(3,.ptr (g+2+15) 0)]) _ _
   replace hS:St (·<g) H0 [(g+2+17+1,.row 71 v68.length),(g+2+17,.row 160 v67.length),(g+2+15,.cells [.sl .no 2 (v57.map TrayRecord.cells),.i v58,.i v59,.i v60,.sl .no 2 (v61.map TrayPress.cells),.sl .no 2 (v62.map TrayPress.cells),.ms (g+2+8) 0 1 (2*v57.length) (2*v57.length),.i v63,.i v64,.i v65,.i v66,.sl (.id (g+2+17)) 4 (v67.map Spell_.cells),.sl (.id (g+2+17+1)) 2 (v68.map TrayPlay.cells),.i v69,.i v70]),(g+2+8,.cells (v71.map cB).flatten),(g+1,.cells [.sl .nil 0 [],.sl .nil 0 [],.i 0,.i 0])] H g6:=hS
   replace hM:zfU n (zep n m6) v57 v58 v59 v60 v61 v62 v63 v64 v65 v66 v67 v68 v69 v70 v71=some r:=hM
   refine Sq ?_
   refine Sq ?_
   refine Rg 2 ?_
   refine Om (.ptr (g+2+15) 0) ?_
   obtain ⟨r72,hr72,hM⟩:=zat hM
   have hndr72:=hS.nd_at (ns:=[2,3,1,0]) (M:=[(g+2+15,.cells [.sl .no 2 (v57.map TrayRecord.cells),.i v58,.i v59,.i v60,.sl .no 2 (v61.map TrayPress.cells),.sl .no 2 (v62.map TrayPress.cells),.ms (g+2+8) 0 1 (2*v57.length) (2*v57.length),.i v63,.i v64,.i v65,.i v66,.sl (.id (g+2+17)) 4 (v67.map Spell_.cells),.sl (.id (g+2+17+1)) 2 (v68.map TrayPlay.cells),.i v69,.i v70]),(g+2+8,.cells (v71.map cB).flatten),(g+2+17,.row 160 v67.length),(g+2+17+1,.row 71 v68.length)]) (M':=[(g+2+15,.cells [.sl .no 2 (r72.2.t.Records.map TrayRecord.cells),.i r72.2.t.At,.i r72.2.t.Way,.i r72.2.t.Step,.sl .no 2 (r72.2.t.Presses.map TrayPress.cells),.sl .no 2 (r72.2.queue.map TrayPress.cells),.ms (g+2+8) 0 1 (2*r72.2.t.Records.length) (2*r72.2.t.Records.length),.i r72.2.now,.i r72.2.at_.At,.i r72.2.at_.Way,.i r72.2.at_.Side,.sl (.id (g+2+17)) 4 (r72.2.run.spells.map Spell_.cells),.sl (.id (g+2+17+1)) 2 (r72.2.run.plays.map TrayPlay.cells),.i r72.2.run.steps,.i r72.2.run.end_]),(g+2+8,.cells (r72.2.pins.map cB).flatten),(g+2+17,.row 160 r72.2.run.spells.length),(g+2+17+1,.row 71 r72.2.run.plays.length)]) (.cons rfl (.cons rfl (.cons rfl (.cons rfl .nil)))) (by decide)
   refine zg9 (bs:=[.ptr (g+2+15) 0]) (M:=[(g+2+15,.cells [.sl .no 2 (v57.map TrayRecord.cells),.i v58,.i v59,.i v60,.sl .no 2 (v61.map TrayPress.cells),.sl .no 2 (v62.map TrayPress.cells),.ms (g+2+8) 0 1 (2*v57.length) (2*v57.length),.i v63,.i v64,.i v65,.i v66,.sl (.id (g+2+17)) 4 (v67.map Spell_.cells),.sl (.id (g+2+17+1)) 2 (v68.map TrayPlay.cells),.i v69,.i v70]),(g+2+8,.cells (v71.map cB).flatten),(g+2+17,.row 160 v67.length),(g+2+17+1,.row 71 v68.length)]) (M':=[(g+2+15,.cells [.sl .no 2 (r72.2.t.Records.map TrayRecord.cells),.i r72.2.t.At,.i r72.2.t.Way,.i r72.2.t.Step,.sl .no 2 (r72.2.t.Presses.map TrayPress.cells),.sl .no 2 (r72.2.queue.map TrayPress.cells),.ms (g+2+8) 0 1 (2*r72.2.t.Records.length) (2*r72.2.t.Records.length),.i r72.2.now,.i r72.2.at_.At,.i r72.2.at_.Way,.i r72.2.at_.Side,.sl (.id (g+2+17)) 4 (r72.2.run.spells.map Spell_.cells),.sl (.id (g+2+17+1)) 2 (r72.2.run.plays.map TrayPlay.cells),.i r72.2.run.steps,.i r72.2.run.end_]),(g+2+8,.cells (r72.2.pins.map cB).flatten),(g+2+17,.row 160 r72.2.run.spells.length),(g+2+17+1,.row 71 r72.2.run.plays.length)]) (L':=[(g+2+17+1,.row 71 r72.2.run.plays.length),(g+2+17,.row 160 r72.2.run.spells.length),(g+2+15,.cells [.sl .no 2 (r72.2.t.Records.map TrayRecord.cells),.i r72.2.t.At,.i r72.2.t.Way,.i r72.2.t.Step,.sl .no 2 (r72.2.t.Presses.map TrayPress.cells),.sl .no 2 (r72.2.queue.map TrayPress.cells),.ms (g+2+8) 0 1 (2*r72.2.t.Records.length) (2*r72.2.t.Records.length),.i r72.2.now,.i r72.2.at_.At,.i r72.2.at_.Way,.i r72.2.at_.Side,.sl (.id (g+2+17)) 4 (r72.2.run.spells.map Spell_.cells),.sl (.id (g+2+17+1)) 2 (r72.2.run.plays.map TrayPlay.cells),.i r72.2.run.steps,.i r72.2.run.end_]),(g+2+8,.cells (r72.2.pins.map cB).flatten),(g+1,.cells [.sl .nil 0 [],.sl .nil 0 [],.i 0,.i 0])]) [2,3,1,0] (.inl rfl) hS (by decide) rfl rfl ((zfG (p1:=g+2+15) (w10:=g+2+8) (w11:=g+2+17) (w12:=g+2+17+1) hndr72 hr72).le (.k .nil)) (.cons rfl (.cons rfl (.cons rfl (.cons rfl .nil)))) rfl (by omega) fun H hS=>?_
   refine Ni ?_
   refine Ws ?_
   rcases bft r72.1 with hb73 | hb73
   ·replace hM:=ifT hM hb73
    refine Ct hb73 ?_
    refine zaF ?_
    refine Ws ?_
    refine zas ?_
    refine zaF ?_
    refine zae ?_
    exact zbg (r72.2.t.Records,r72.2.t.At,r72.2.t.Way,r72.2.t.Step,r72.2.t.Presses,r72.2.queue,r72.2.now,r72.2.at_.At,r72.2.at_.Way,r72.2.at_.Side,r72.2.run.spells,r72.2.run.plays,r72.2.run.steps,r72.2.run.end_,r72.2.pins) (Nat.lt_succ_self _) (.k (.k .nil)) ⟨(hS.keep [true,true,true,true,true] rfl).up (by omega),hM⟩
   ·replace hM:=ifF hM hb73
    refine Cf hb73 ?_
    refine zbS ?_
    refine zaq ?_
    refine zam ?_
    refine zaA ?_
    exact zah (r72.2.t.Records,r72.2.t.At,r72.2.t.Way,r72.2.t.Step,r72.2.t.Presses,r72.2.queue,r72.2.now,r72.2.at_.At,r72.2.at_.Way,r72.2.at_.Side,r72.2.run.spells,r72.2.run.plays,r72.2.run.steps,r72.2.run.end_,r72.2.pins) (.k (.k .nil)) ⟨(hS.keep [true,true,true,true,true] rfl).up (by omega),hM⟩
theorem zij {n:Nat} {a0:Tray} {r:(List TrayPlay)×Int} (hM:zfZ n a0=some r):zaI Try.prog 17 [.agg (Tray.cells a0)] (.tup [.sl .no 2 (r.1.map TrayPlay.cells),.i r.2]):=by
 refine zaz mixed Try.func17 rfl (by decide) Try.ntmps17 (by simp) ?pure fun H0 g hf=>?_
 case pure=>exact .tup _ (zaf (.sl _ _ (zaT (fun x=>(zaf (.v _) (zaf (.v _) zaZ))))) (zaf (.v _) zaZ))
 rw [zar]
 change wpA _ _ _ _ (Fr.of [(0,.agg (Tray.cells a0))]) H0 g
 have hS:=St.start hf
 refine Sq ?_
 refine Rg 3 ?_
 refine zdI (v:=.agg (Tray.cells a0)) (cs:=(Tray.cells a0)) hS (by decide) rfl rfl (by omega) fun H hS=>?_
 refine Oa (.sl .nil 0 []) ?_
 refine Oa (.i 0) ?_
 refine Ni ?_
 refine zb5 (L':=[]) 0 1 hS rfl rfl rfl fun H hS=>?_
 refine Ws ?_
 refine Sq ?_
 refine Sq ?_
 refine Rg 3 ?_
 refine Olg (.agg (Tray.cells a0)) zc5 ?_
 obtain ⟨r1,hr1,hM⟩:=zat hM
 refine zaU (bs:=[.agg (Tray.cells a0)]) (by decide) rfl rfl ((zlc hr1).le (.k .nil)) ?_
 refine Oa (.i r1) ?_
 refine Ni ?_
 refine Ws ?_
 refine Sq ?_
 refine Rg 2 ?_
 refine Om (.i r1) ?_
 refine Oi (.b (r1 != 0)) ?_
 refine Ni ?_
 refine Ws ?_
 rcases bft (r1 != 0) with hb2 | hb2
 ·replace hM:=ifT hM hb2
  refine Ct hb2 ?_
  refine Sq ?_
  refine Rg 3 ?_
  refine Om (.i r1) ?_
  refine Oa (.sl .nil 0 []) ?_
  refine Oa (.i r1) ?_
  refine Ni ?_
  refine Ws ?_
  refine za8 ?_
  refine zaC ?_
  refine zbq (x:=.tup [.sl .nil 0 [],.i r1]) (f:=fun r=>.tup [.sl .no 2 (r.1.map TrayPlay.cells),.i r.2]) (.inr rfl) ?_ (.tupL (.cons (.sl0 .nil 2 0) (.k .nil))) (Option.some.inj hM) hS
  exact (zi0 (zau (x:=.sl .nil 0 []) rfl) (zau (x:=.i r1) rfl))
 ·replace hM:=ifF hM hb2
  refine Cf hb2 ?_
  refine zaF ?_
  refine Ws ?_
  refine Sq ?_
  refine Rg 5 ?_
  refine Olg (.agg (Tray.cells a0)) zc5 ?_
  obtain ⟨r3,hr3,hM⟩:=zat hM
  refine zaU (bs:=[.agg (Tray.cells a0)]) (by decide) rfl rfl ((zlW hr3).le (.k .nil)) ?_
  refine zqV (v:=.sl .no 2 (r3.plays.map TrayPlay.cells)) (cs:=(Run_.cells r3)) (by decide) znk rfl (po zmq zot) ?_
  refine Oa (.sl .no 2 (r3.plays.map TrayPlay.cells)) ?_
  refine Oa (.i 0) ?_
  refine Ni ?_
  refine zhH [(2,.sl .no 2 (r3.plays.map TrayPlay.cells)),(3,.i 0)] (.k (.k .nil)) ?_
  refine za8 ?_
  refine zbq (x:=.tup [.sl .no 2 (r3.plays.map TrayPlay.cells),.i 0]) (f:=fun r=>.tup [.sl .no 2 (r.1.map TrayPlay.cells),.i r.2]) (.inr rfl) ?_ (.refl _) (Option.some.inj hM) hS
  exact (zi0 (zau (x:=.sl .no 2 (r3.plays.map TrayPlay.cells)) rfl) (zau (x:=.i 0) rfl))
theorem zdu {a0:Int} {a1:Int} {a2:Int} {r:Bool} (hM:zcR a0 a1 a2=some r):zaI Try.prog 56 [.i a0,.i a1,.i a2] (.b r):=by
 refine zaz mixed Try.func56 rfl (by decide) Try.ntmps56 (by simp) ?pure fun H0 g hf=>?_
 case pure=>exact .v _
 rw [zar]
 change wpA _ _ _ _ (Fr.of [(0,.i a0),(1,.i a1),(2,.i a2)]) H0 g
 have hS:=St.start hf
 refine Sq ?_
 refine Rg 1 ?_
 refine Oa (.b false) ?_
 refine Ni ?_
 refine Ws ?_
 refine zaJ (J:=Bool) (fun j=>[(6,.b j)]) (fun j H' g'=>St (·<g) H0 [] H' g'/\zdN j=some r) ?_ ?_
 ·rintro v1 H g1 ⟨hS,hM⟩
  change wpA _ _ _ _ (Fr.of [(6,.b v1)]) _ _
  replace hS:St (·<g) H0 [] H g1:=hS
  replace hM:zdN v1=some r:=hM
  refine za8 ?_
  refine zbq (x:=.b v1) (f:=fun r=>.b r) (.inr rfl) ?_ (.refl _) (Option.some.inj hM) hS
  exact (zay (zau (x:=.b v1) rfl))
 ·refine Rg 9 ?_
  refine Om (.i a1) ?_
  refine Om (.i a0) ?_
  refine Oi (.b (decide (a1<=a0))) ?_
  refine Om (.b (decide (a1<=a0))) ?_
  rcases bft (decide (a1<=a0)) with hb2 | hb2
  ·replace hM:=ifT hM hb2
   refine Oy (want:=true) hb2 ?_
   refine Om (.i a0) ?_
   refine Oy (want:=true) hb2 ?_
   refine Om (.i a2) ?_
   refine Oy (want:=true) hb2 ?_
   refine Oi (.b (decide (a0<=a2))) ?_
   refine Pt (.b (decide (a0<=a2))) hb2 ?_
   refine Oa (.b (decide (a0<=a2))) ?_
   refine Ni ?_
   exact zah (decide (a0<=a2)) (.k .nil) ⟨(hS.keep [] rfl).up (by omega),hM⟩
  ·replace hM:=ifF hM hb2
   refine On (want:=true) hb2 ?_
   refine On (want:=true) hb2 ?_
   refine On (want:=true) hb2 ?_
   refine Pf (.b false) hb2 ?_
   refine Oa (.b false) ?_
   refine Ni ?_
   exact zah false (.k .nil) ⟨(hS.keep [] rfl).up (by omega),hM⟩
theorem zgL {a0:Wire} {a1:Int} {a2:Int} {r:Bool} (hM:zew a0 a1 a2=some r):zaI Try.prog 37 [.agg (Wire.cells a0),.i a1,.i a2] (.b r):=by
 refine zaz mixed Try.func37 rfl (by decide) Try.ntmps37 (by simp) ?pure fun H0 g hf=>?_
 case pure=>exact .v _
 rw [zar]
 change wpA _ _ _ _ (Fr.of [(0,.agg (Wire.cells a0)),(1,.i a1),(2,.i a2)]) H0 g
 have hS:=St.start hf
 refine Sq ?_
 refine Rg 2 ?_
 refine zdI (v:=.agg (Wire.cells a0)) (cs:=(Wire.cells a0)) hS (by decide) rfl rfl (by omega) fun H hS=>?_
 refine Oa (.b false) ?_
 refine Ni ?_
 refine zb5 (L':=[]) 0 3 hS rfl rfl rfl fun H hS=>?_
 refine Ws ?_
 refine zaJ (J:=Bool) (fun j=>[(6,.b j)]) (fun j H' g'=>St (·<g) H0 [] H' g'/\zdp j=some r) ?_ ?_
 ·rintro v1 H g1 ⟨hS,hM⟩
  change wpA _ _ _ _ (Fr.of [(6,.b v1)]) _ _
  replace hS:St (·<g) H0 [] H g1:=hS
  replace hM:zdp v1=some r:=hM
  refine za8 ?_
  refine zbq (x:=.b v1) (f:=fun r=>.b r) (.inr rfl) ?_ (.refl _) (Option.some.inj hM) hS
  exact (zay (zau (x:=.b v1) rfl))
 ·refine Rg 13 ?_
  refine Om (.i a1) ?_
  refine Of ((Wire.cells a0)) zfF ?_
  refine Olp (.i a0.Letters) zai zav ?_
  refine Oi (.i (w64 (a0.Letters-1))) ?_
  obtain ⟨r2,hr2,hM⟩:=zat hM
  refine zaU (bs:=[.i a1,.i 0,.i (w64 (a0.Letters-1))]) (by decide) rfl rfl ((zdu hr2).le (.k (.k (.k .nil)))) ?_
  refine Om (.b r2) ?_
  rcases bft r2 with hb3 | hb3
  ·replace hM:=ifT hM hb3
   refine Oy (want:=true) hb3 ?_
   refine Om (.i a2) ?_
   refine Oy (want:=true) hb3 ?_
   refine Of ((Wire.cells a0)) ze1 ?_
   refine Oy (want:=true) hb3 ?_
   refine Olp (.i a0.Numbers) zai zav ?_
   refine Oy (want:=true) hb3 ?_
   refine Oi (.i (w64 (a0.Numbers-1))) ?_
   refine Oy (want:=true) hb3 ?_
   obtain ⟨r4,hr4,hM⟩:=zat hM
   refine zaU (bs:=[.i a2,.i 0,.i (w64 (a0.Numbers-1))]) (by decide) rfl rfl ((zdu hr4).le (.k (.k (.k .nil)))) ?_
   refine Pt (.b r4) hb3 ?_
   refine Oa (.b r4) ?_
   refine Ni ?_
   exact zah r4 (.k .nil) ⟨(hS.keep [] rfl).up (by omega),hM⟩
  ·replace hM:=ifF hM hb3
   refine On (want:=true) hb3 ?_
   refine On (want:=true) hb3 ?_
   refine On (want:=true) hb3 ?_
   refine On (want:=true) hb3 ?_
   refine On (want:=true) hb3 ?_
   refine Pf (.b false) hb3 ?_
   refine Oa (.b false) ?_
   refine Ni ?_
   exact zah false (.k .nil) ⟨(hS.keep [] rfl).up (by omega),hM⟩
theorem zim {a0:WirePress} {a1:Wire} {r:Bool} (hM:zds a0 a1=some r):zaI Try.prog 55 [.agg (WirePress.cells a0),.ep (Wire.cells a1)] (.b r):=by
 refine zaz mixed Try.func55 rfl (by decide) Try.ntmps55 (by simp) ?pure fun H0 g hf=>?_
 case pure=>exact .v _
 rw [zar]
 change wpA _ _ _ _ (Fr.of [(0,.agg (WirePress.cells a0)),(1,.ep (Wire.cells a1))]) H0 g
 have hS:=St.start hf
 refine Sq ?_
 refine Rg 2 ?_
 refine zdI (v:=.agg (WirePress.cells a0)) (cs:=(WirePress.cells a0)) hS (by decide) rfl rfl (by omega) fun H hS=>?_
 refine Oa (.b false) ?_
 refine Ni ?_
 refine zb5 (L':=[]) 0 2 hS rfl rfl rfl fun H hS=>?_
 refine Ws ?_
 refine zaJ (J:=Bool) (fun j=>[(3,.b j)]) (fun j H' g'=>St (·<g) H0 [] H' g'/\zda j=some r) ?_ ?_
 ·rintro v1 H g1 ⟨hS,hM⟩
  change wpA _ _ _ _ (Fr.of [(3,.b v1)]) _ _
  replace hS:St (·<g) H0 [] H g1:=hS
  replace hM:zda v1=some r:=hM
  refine za8 ?_
  refine zbq (x:=.b v1) (f:=fun r=>.b r) (.inr rfl) ?_ (.refl _) (Option.some.inj hM) hS
  exact (zay (zau (x:=.b v1) rfl))
 ·refine Rg 20 ?_
  refine Olg (.agg (Wire.cells a1)) zeX ?_
  refine Of ((WirePress.cells a0)) znm ?_
  refine Olp (.i a0.Letter) zai zav ?_
  refine Of ((WirePress.cells a0)) znn ?_
  refine Olp (.i a0.Number) zai zav ?_
  obtain ⟨r2,hr2,hM⟩:=zat hM
  refine zaU (bs:=[.agg (Wire.cells a1),.i a0.Letter,.i a0.Number]) (by decide) rfl rfl ((zgL hr2).le (.k (.k (.k .nil)))) ?_
  refine zfY (e:=r2) (by decide) rfl ?_
  refine Om (.b (!r2)) ?_
  rcases bft (!r2) with hb3 | hb3
  ·replace hM:=ifT hM hb3
   refine On (want:=false) hb3 ?_
   refine On (want:=false) hb3 ?_
   refine On (want:=false) hb3 ?_
   refine On (want:=false) hb3 ?_
   refine On (want:=false) hb3 ?_
   refine On (want:=false) hb3 ?_
   refine On (want:=false) hb3 ?_
   refine On (want:=false) hb3 ?_
   refine On (want:=false) hb3 ?_
   refine On (want:=false) hb3 ?_
   refine Pt (.b true) hb3 ?_
   refine Oa (.b true) ?_
   refine Ni ?_
   exact zah true (.k .nil) ⟨(hS.keep [] rfl).up (by omega),hM⟩
  ·replace hM:=ifF hM hb3
   refine Oy (want:=false) hb3 ?_
   refine Of ((WirePress.cells a0)) zno ?_
   refine Oy (want:=false) hb3 ?_
   refine Olp (.i a0.Got) zai zav ?_
   refine Oy (want:=false) hb3 ?_
   refine Of ((Wire.cells a1)) zfF ?_
   refine Oy (want:=false) hb3 ?_
   refine Olp (.i a1.Letters) zai zav ?_
   refine Oy (want:=false) hb3 ?_
   refine Of ((Wire.cells a1)) ze1 ?_
   refine Oy (want:=false) hb3 ?_
   refine Olp (.i a1.Numbers) zai zav ?_
   refine Oy (want:=false) hb3 ?_
   refine Oi (.i (w64 (a1.Letters*a1.Numbers))) ?_
   refine Oy (want:=false) hb3 ?_
   refine Oi (.i (w64 ((w64 (a1.Letters*a1.Numbers))-1))) ?_
   refine Oy (want:=false) hb3 ?_
   obtain ⟨r4,hr4,hM⟩:=zat hM
   refine zaU (bs:=[.i a0.Got,.i (-1),.i (w64 ((w64 (a1.Letters*a1.Numbers))-1))]) (by decide) rfl rfl ((zdu hr4).le (.k (.k (.k .nil)))) ?_
   refine Oy (want:=false) hb3 ?_
   refine zfY (e:=r4) (by decide) rfl ?_
   refine Pf (.b (!r4)) hb3 ?_
   refine Oa (.b (!r4)) ?_
   refine Ni ?_
   exact zah (!r4) (.k .nil) ⟨(hS.keep [] rfl).up (by omega),hM⟩
theorem zeQ {S:Type} {Lo:S->BL} (hk:∀s s',zhX (Lo s) (Lo s')) (hnd:∀s,(ids (Lo s)).Nodup) (hin:∀s,InB In (Lo s)) {aF:WirePress->S->Option (Bool×S)} {f0:AV} (hF:∀s H,Has H (Lo s)->In H f0) (h0:cellsOf f0=some [f0]) (hf:∀{x0:WirePress} {s:S} {r:Bool×S},aF x0 s=some r->zmI Try.prog f0 [.agg (WirePress.cells x0)] (Lo s) (.b r.1) (Lo r.2)) {n:Nat} {a0:List WirePress} {st:S} {r:Int×S} (hM:zcw n aF a0 st=some r):ziE Try.prog 86 [.sl .no 3 (a0.map WirePress.cells),f0] (Lo st) (.i r.1) (Lo r.2):=by
 have hnd0:∀s,(ids (Lo s)).Nodup:=fun s=>hnd s
 refine zc8 mixed Try.func86 rfl (by decide) Try.ntmps86 (by simp) (hk _ _) (hnd st) ?pure ?cells fun H0 g hf_ hp=>?_
 case pure=>exact fun H _=>(show Go.AM.Pure _ from .v _).inH
 case cells=>exact hin _
 rw [zar]
 change wpA _ _ _ _ (Fr.of [(0,.sl .no 3 (a0.map WirePress.cells)),(1,f0)]) H0 g
 have hS:=St.startH (L:=([]++Lo st)) hf_ (hnd st) hp
 replace hS:St (fun i=>i<g/\i∉ids (Lo st)) H0 ([]++Lo st) H0 g:=hS
 refine Sq ?_
 refine Rg 1 ?_
 refine Oa (.i 0) ?_
 refine Ni ?_
 refine Ws ?_
 refine zaJ (J:=S) (fun j=>[]) (fun j H' g'=>St (fun i=>i<g/\i∉ids (Lo st)) H0 ([]++Lo j) H' g'/\zbt j=some r) ?_ ?_
 ·rintro v1 H g1 ⟨hS,hM⟩
  change wpA _ _ _ _ (Fr.of []) _ _
  replace hS:St (fun i=>i<g/\i∉ids (Lo st)) H0 ([]++Lo v1) H g1:=hS
  replace hM:zbt v1=some r:=hM
  refine Sq ?_
  refine Rg 1 ?_
  refine Oa (.i (-1)) ?_
  refine Ni ?_
  refine Ws ?_
  refine za8 ?_
  refine zfB (x:=.i (-1)) (f:=fun r=>.i r.1) (fd:=fun r=>(Lo r.2)) (.inr rfl) ?_ (.refl _) (Option.some.inj hM) hS 0 rfl
  exact (zay (zau (x:=.i (-1)) rfl))
 ·refine Sq ?_
  refine Rg 3 ?_
  refine Om (.sl .no 3 (a0.map WirePress.cells)) ?_
  refine zc7 (n:=a0.length) (by decide) rfl (List.length_map _) zmp ?_
  refine Om (.i 0) ?_
  refine Ni ?_
  refine Ws ?_
  refine zas ?_
  refine zbV (V:=Int×S) (fun v=>[(0,.sl .no 3 (a0.map WirePress.cells)),(1,f0),(7,.i (a0.length:Int)),(8,.i v.1)]) (fun v m3 H' g'=>St (fun i=>i<g/\i∉ids (Lo st)) H0 ([]++Lo v.2) H' g'/\zaw a0 aF m3 v.1 v.2=some r) (n:=n) (0,st) (.k (.k (.k (.k .nil)))) ⟨(hS.keep [] rfl).up (by omega),hM⟩ ?_
  rintro ⟨v3,v4⟩ m3 H g3 ⟨hS,hM⟩
  obtain _ | m3:=m3
  ·exact nomatch (show none=some _ from hM)
  change wpA _ _ _ _ (Fr.of [(0,.sl .no 3 (a0.map WirePress.cells)),(1,f0),(7,.i (a0.length:Int)),(8,.i v3)]) _ _
  replace hS:St (fun i=>i<g/\i∉ids (Lo st)) H0 ([]++Lo v4) H g3:=hS
  replace hM:zbi a0 aF (zaw a0 aF m3) v3 v4=some r:=hM
  refine Sq ?_
  refine Rg 1 ?_
  refine Oi (.b (decide (v3<(a0.length:Int)))) ?_
  refine Ni ?_
  refine Ws ?_
  refine Sq ?_
  rcases bft (decide (v3<(a0.length:Int))) with hb5 | hb5
  ·replace hM:=ifT hM hb5
   refine Ct hb5 ?_
   refine zaF ?_
   refine Ws ?_
   refine Sq ?_
   refine zas ?_
   refine Sq ?_
   refine Rg 2 ?_
   refine Om (.i v3) ?_
   refine Oa (.i v3) ?_
   refine Ni ?_
   refine Ws ?_
   refine Sq ?_
   refine Rg 6 ?_
   refine Om (f0) ?_
   refine Om (.sl .no 3 (a0.map WirePress.cells)) ?_
   refine Om (.i v3) ?_
   obtain ⟨x6,hx6,hM⟩:=zat hM
   refine zce (xs:=a0) (f:=WirePress.cells) (z:=v3) (u:=x6) (by decide) rfl rfl zre hx6 ?_
   refine Olg (.agg (WirePress.cells x6)) zoC ?_
   obtain ⟨r7,hr7,hM⟩:=zat hM
   replace hS:St (fun i=>i<g/\i∉ids (Lo st)) H0 ([]++Lo v4) _ _:=hS
   refine zlN (bs:=[.agg (WirePress.cells x6)]) (.inl rfl) hS (by decide) rfl rfl ((hf hr7).le (.k .nil)) (hk _ _).ids (by omega) fun H hS=>?_
   refine Ni ?_
   refine Ws ?_
   rcases bft r7.1 with hb8 | hb8
   ·replace hM:=ifT hM hb8
    refine Ct hb8 ?_
    refine Sq ?_
    refine Rg 2 ?_
    refine Om (.i v3) ?_
    refine Oa (.i v3) ?_
    refine Ni ?_
    refine Ws ?_
    refine za8 ?_
    refine zaS ?_
    refine zaC ?_
    refine zbG ?_
    refine zaS ?_
    refine zci ?_
    refine zfB (x:=.i v3) (f:=fun r=>.i r.1) (fd:=fun r=>(Lo r.2)) (.inr rfl) ?_ (.refl _) (Option.some.inj hM) hS 0 rfl
    exact (zay (zau (x:=.i v3) rfl))
   ·replace hM:=ifF hM hb8
    refine Cf hb8 ?_
    refine zaF ?_
    refine zae ?_
    refine Ws ?_
    refine Rg 2 ?_
    refine Oi (.i (w64 (v3+1))) ?_
    refine Om (.i (w64 (v3+1))) ?_
    refine Ni ?_
    exact zbg (w64 (v3+1),r7.2) (Nat.lt_succ_self _) (.k (.k (.k (.k .nil)))) ⟨(hS.keep [] rfl).up (by omega),hM⟩
  ·replace hM:=ifF hM hb5
   refine Cf hb5 ?_
   refine zbS ?_
   refine zaq ?_
   refine zam ?_
   refine zaA ?_
   exact zah v4 .nil ⟨(hS.keep [] rfl).up (by omega),hM⟩
theorem zeq {S:Type} {Lo:S->BL} (hk:∀s s',zhX (Lo s) (Lo s')) (hnd:∀s,(ids (Lo s)).Nodup) (hin:∀s,InB In (Lo s)) {aF:WirePress->S->Option (Bool×S)} {f0:AV} (hF:∀s H,Has H (Lo s)->In H f0) (h0:cellsOf f0=some [f0]) (hf:∀{x0:WirePress} {s:S} {r:Bool×S},aF x0 s=some r->zmI Try.prog f0 [.agg (WirePress.cells x0)] (Lo s) (.b r.1) (Lo r.2)) {n:Nat} {a0:List WirePress} {st:S} {r:Bool×S} (hM:zbu n aF a0 st=some r):ziE Try.prog 57 [.sl .no 3 (a0.map WirePress.cells),f0] (Lo st) (.b r.1) (Lo r.2):=by
 have hnd0:∀s,(ids (Lo s)).Nodup:=fun s=>hnd s
 refine zc8 mixed Try.func57 rfl (by decide) Try.ntmps57 (by simp) (hk _ _) (hnd st) ?pure ?cells fun H0 g hf_ hp=>?_
 case pure=>exact fun H _=>(show Go.AM.Pure _ from .v _).inH
 case cells=>exact hin _
 rw [zar]
 change wpA _ _ _ _ (Fr.of [(0,.sl .no 3 (a0.map WirePress.cells)),(1,f0)]) H0 g
 have hS:=St.startH (L:=([]++Lo st)) hf_ (hnd st) hp
 replace hS:St (fun i=>i<g/\i∉ids (Lo st)) H0 ([]++Lo st) H0 g:=hS
 refine Sq ?_
 refine Rg 1 ?_
 refine Oa (.b false) ?_
 refine Ni ?_
 refine Ws ?_
 refine Sq ?_
 refine Rg 5 ?_
 refine Om (.sl .no 3 (a0.map WirePress.cells)) ?_
 refine Om (f0) ?_
 obtain ⟨r1,hr1,hM⟩:=zat hM
 replace hS:St (fun i=>i<g/\i∉ids (Lo st)) H0 ([]++Lo st) _ _:=hS
 refine zmf (bs:=[.sl .no 3 (a0.map WirePress.cells),f0]) (.inl rfl) hS (by decide) rfl rfl ((zeQ (Lo:=Lo)  hk hnd0 hin (aF:=aF) hF h0 hf hr1).le (.k (.k .nil))) (hk _ _).ids (by omega) fun H hS=>?_
 refine Oi (.b (decide (r1.1≥0))) ?_
 refine Oa (.b (decide (r1.1≥0))) ?_
 refine Ni ?_
 refine zhH [(4,.b (decide (r1.1≥0)))] (.k .nil) ?_
 refine za8 ?_
 refine zfB (x:=.b (decide (r1.1≥0))) (f:=fun r=>.b r.1) (fd:=fun r=>(Lo r.2)) (.inr rfl) ?_ (.refl _) (Option.some.inj hM) hS 0 rfl
 exact (zay (zau (x:=.b (decide (r1.1≥0))) rfl))
theorem zkz {n:Nat} {a0:Wire} {r:Int} (hM:zga n a0=some r):zaI Try.prog 34 [.agg (Wire.cells a0)] (.i r):=by
 refine zaz mixed Try.func34 rfl (by decide) Try.ntmps34 (by simp) ?pure fun H0 g hf=>?_
 case pure=>exact .v _
 rw [zar]
 change wpA _ _ _ _ (Fr.of [(0,.agg (Wire.cells a0))]) H0 g
 have hS:=St.start hf
 refine Sq ?_
 refine Rg 2 ?_
 refine zdI (v:=.agg (Wire.cells a0)) (cs:=(Wire.cells a0)) hS (by decide) rfl rfl (by omega) fun H hS=>?_
 refine Oa (.i 0) ?_
 refine Ni ?_
 refine zb5 (L':=[]) 0 1 hS rfl rfl rfl fun H hS=>?_
 refine Ws ?_
 refine Sq ?_
 refine Rg 2 ?_
 refine zh4 (first:=[]) (cap:=[.ep (Wire.cells a0)]) (by decide) rfl rfl ?_
 refine Oa (.fn (.func 55) [] [.ep (Wire.cells a0)]) ?_
 refine Ni ?_
 refine Ws ?_
 refine Sq ?_
 refine zaJ (J:=Bool) (fun j=>[(32,.b j)]) (fun j H' g'=>St (·<g) H0 [] H' g'/\zbz j=some r) ?_ ?_
 ·rintro v1 H g1 ⟨hS,hM⟩
  change wpA _ _ _ _ (Fr.of [(32,.b v1)]) _ _
  replace hS:St (·<g) H0 [] H g1:=hS
  replace hM:zbz v1=some r:=hM
  rcases bft v1 with hb2 | hb2
  ·replace hM:=ifT hM hb2
   refine Ct hb2 ?_
   refine Sq ?_
   refine Rg 1 ?_
   refine Oa (.i 110) ?_
   refine Ni ?_
   refine Ws ?_
   refine za8 ?_
   refine zaC ?_
   refine zbq (x:=.i 110) (f:=fun r=>.i r) (.inr rfl) ?_ (.refl _) (Option.some.inj hM) hS
   exact (zay (zau (x:=.i 110) rfl))
  ·replace hM:=ifF hM hb2
   refine Cf hb2 ?_
   refine zaF ?_
   refine Ws ?_
   refine Sq ?_
   refine Rg 1 ?_
   refine Oa (.i 0) ?_
   refine Ni ?_
   refine Ws ?_
   refine za8 ?_
   refine zbq (x:=.i 0) (f:=fun r=>.i r) (.inr rfl) ?_ (.refl _) (Option.some.inj hM) hS
   exact (zay (zau (x:=.i 0) rfl))
 ·refine Rg 28 ?_
  refine Of ((Wire.cells a0)) zfF ?_
  refine Olp (.i a0.Letters) zai zav ?_
  obtain ⟨r3,hr3,hM⟩:=zat hM
  refine zaU (bs:=[.i a0.Letters,.i 1,.i 5]) (by decide) rfl rfl ((zdu hr3).le (.k (.k (.k .nil)))) ?_
  refine zfY (e:=r3) (by decide) rfl ?_
  refine Om (.b (!r3)) ?_
  rcases bft (!r3) with hb4 | hb4
  ·replace hM:=ifT hM hb4
   refine On (want:=false) hb4 ?_
   refine On (want:=false) hb4 ?_
   refine On (want:=false) hb4 ?_
   refine On (want:=false) hb4 ?_
   refine Pt (.b true) hb4 ?_
   refine Om (.b true) ?_
   refine Og ?_
   refine Og ?_
   refine Og ?_
   refine Og ?_
   refine zcA (v:=.b true) (e:=true) (by decide) rfl rfl rfl ?_
   refine Om (.b true) ?_
   refine Og ?_
   refine Og ?_
   refine Og ?_
   refine Og ?_
   refine zcA (v:=.b true) (e:=true) (by decide) rfl rfl rfl ?_
   refine Om (.b true) ?_
   refine Og ?_
   refine Og ?_
   refine Og ?_
   refine Og ?_
   refine zcA (v:=.b true) (e:=true) (by decide) rfl rfl rfl ?_
   refine Ni ?_
   exact zah true (.k .nil) ⟨(hS.keep [] rfl).up (by omega),hM⟩
  ·replace hM:=ifF hM hb4
   refine Oy (want:=false) hb4 ?_
   refine Of ((Wire.cells a0)) ze1 ?_
   refine Oy (want:=false) hb4 ?_
   refine Olp (.i a0.Numbers) zai zav ?_
   refine Oy (want:=false) hb4 ?_
   obtain ⟨r5,hr5,hM⟩:=zat hM
   refine zaU (bs:=[.i a0.Numbers,.i 1,.i 5]) (by decide) rfl rfl ((zdu hr5).le (.k (.k (.k .nil)))) ?_
   refine Oy (want:=false) hb4 ?_
   refine zfY (e:=r5) (by decide) rfl ?_
   refine Pf (.b (!r5)) hb4 ?_
   refine Om (.b (!r5)) ?_
   rcases bft (!r5) with hb6 | hb6
   ·replace hM:=ifT hM hb6
    refine On (want:=false) hb6 ?_
    refine On (want:=false) hb6 ?_
    refine On (want:=false) hb6 ?_
    refine On (want:=false) hb6 ?_
    refine Pt (.b true) hb6 ?_
    refine Om (.b true) ?_
    refine Og ?_
    refine Og ?_
    refine Og ?_
    refine Og ?_
    refine zcA (v:=.b true) (e:=true) (by decide) rfl rfl rfl ?_
    refine Om (.b true) ?_
    refine Og ?_
    refine Og ?_
    refine Og ?_
    refine Og ?_
    refine zcA (v:=.b true) (e:=true) (by decide) rfl rfl rfl ?_
    refine Ni ?_
    exact zah true (.k .nil) ⟨(hS.keep [] rfl).up (by omega),hM⟩
   ·replace hM:=ifF hM hb6
    refine Oy (want:=false) hb6 ?_
    refine Of ((Wire.cells a0)) zoG ?_
    refine Oy (want:=false) hb6 ?_
    refine Olp (.i a0.Faults) zai zav ?_
    refine Oy (want:=false) hb6 ?_
    obtain ⟨r7,hr7,hM⟩:=zat hM
    refine zaU (bs:=[.i a0.Faults,.i 0,.i 3]) (by decide) rfl rfl ((zdu hr7).le (.k (.k (.k .nil)))) ?_
    refine Oy (want:=false) hb6 ?_
    refine zfY (e:=r7) (by decide) rfl ?_
    refine Pf (.b (!r7)) hb6 ?_
    refine Om (.b (!r7)) ?_
    rcases bft (!r7) with hb8 | hb8
    ·replace hM:=ifT hM hb8
     refine On (want:=false) hb8 ?_
     refine On (want:=false) hb8 ?_
     refine On (want:=false) hb8 ?_
     refine On (want:=false) hb8 ?_
     refine Pt (.b true) hb8 ?_
     refine Om (.b true) ?_
     refine Og ?_
     refine Og ?_
     refine Og ?_
     refine Og ?_
     refine zcA (v:=.b true) (e:=true) (by decide) rfl rfl rfl ?_
     refine Ni ?_
     exact zah true (.k .nil) ⟨(hS.keep [] rfl).up (by omega),hM⟩
    ·replace hM:=ifF hM hb8
     refine Oy (want:=false) hb8 ?_
     refine Of ((Wire.cells a0)) zlb ?_
     refine Oy (want:=false) hb8 ?_
     refine Olp (.sl .no 3 (a0.Presses.map WirePress.cells)) zmo zoq ?_
     refine Oy (want:=false) hb8 ?_
     refine zc7 (n:=a0.Presses.length) (by decide) rfl (List.length_map _) zmp ?_
     refine Oy (want:=false) hb8 ?_
     refine Oi (.b (decide ((a0.Presses.length:Int)>8))) ?_
     refine Pf (.b (decide ((a0.Presses.length:Int)>8))) hb8 ?_
     refine Om (.b (decide ((a0.Presses.length:Int)>8))) ?_
     rcases bft (decide ((a0.Presses.length:Int)>8)) with hb9 | hb9
     ·replace hM:=ifT hM hb9
      refine On (want:=false) hb9 ?_
      refine On (want:=false) hb9 ?_
      refine On (want:=false) hb9 ?_
      refine On (want:=false) hb9 ?_
      refine Pt (.b true) hb9 ?_
      refine Ni ?_
      exact zah true (.k .nil) ⟨(hS.keep [] rfl).up (by omega),hM⟩
     ·replace hM:=ifF hM hb9
      refine Oy (want:=false) hb9 ?_
      refine Of ((Wire.cells a0)) zlb ?_
      refine Oy (want:=false) hb9 ?_
      refine Olp (.sl .no 3 (a0.Presses.map WirePress.cells)) zmo zoq ?_
      refine Oy (want:=false) hb9 ?_
      refine Om (.fn (.func 55) [] [.ep (Wire.cells a0)]) ?_
      refine Oy (want:=false) hb9 ?_
      obtain ⟨r10,hr10,hM⟩:=zat hM
      refine zaU (bs:=[.sl .no 3 (a0.Presses.map WirePress.cells),.fn (.func 55) [] [.ep (Wire.cells a0)]]) (by decide) rfl rfl (zgy ((zeq (Lo:=(fun (_:Unit)=>[]))  (fun _ _=>zgw) (fun _=>List.nodup_nil) (fun _=>zgv) (aF:=(fun (x0:WirePress) (_:Unit)=>(zds x0 a0).map fun y=>(y,()))) (fun _ H hH=>(.fn _ _ _ zgx (zeM (.ep _ (zeM (show Go.AM.Pure _ from .v _).inH (zeM (show Go.AM.Pure _ from .v _).inH (zeM (show Go.AM.Pure _ from .sl _ _ (zaT (fun x=>(zaf (.v _) (zaf (.v _) (zaf (.v _) zaZ)))))).inH (zeM (show Go.AM.Pure _ from .v _).inH zgx))))) zgx))) rfl (fun h=>ziw (zim (zhI h))) hr10).le (.k (.k .nil)))) ?_
      refine Pf (.b r10.1) hb9 ?_
      refine Ni ?_
      exact zah r10.1 (.k .nil) ⟨(hS.keep [] rfl).up (by omega),hM⟩
theorem zld {n:Nat} {a0:Wire} {r:(Option Wiring_)} (hM:zh7 n a0=some r):zaI Try.prog 35 [.agg (Wire.cells a0)] (pA Wiring_.cells r):=by
 refine zaz mixed Try.func35 rfl (by decide) Try.ntmps35 (by simp) ?pure fun H0 g hf=>?_
 case pure=>exact zq2 (fun x=>(zaf (.v _) (zaf (.v _) (zaf (.sl _ _ (zaT (fun x=>(zaf (.v _) (zaf (.v _) (zaf (.v _) zaZ)))))) (zaf (.v _) (zaf (.sl _ _ (zaT (fun x=>(zaf (.v _) (zaf (.v _) (zaf (.v _) zaZ)))))) zaZ)))))) _
 rw [zar]
 change wpA _ _ _ _ (Fr.of [(0,.agg (Wire.cells a0))]) H0 g
 have hS:=St.start hf
 refine Sq ?_
 refine Rg 2 ?_
 refine zdI (v:=.agg (Wire.cells a0)) (cs:=(Wire.cells a0)) hS (by decide) rfl rfl (by omega) fun H hS=>?_
 refine Oa (pA Wiring_.cells (none:Option Wiring_)) ?_
 refine Ni ?_
 refine zb5 (L':=[]) 0 1 hS rfl rfl rfl fun H hS=>?_
 refine Ws ?_
 refine Sq ?_
 refine Rg 4 ?_
 refine Olg (.agg (Wire.cells a0)) zeX ?_
 refine zdJ (cs:=[.i a0.Letters,.i a0.Numbers,.sl .no 3 (a0.Presses.map WirePress.cells),.i a0.Faults,.sl .nil 0 []]) (by decide) znh zpT rfl ?_
 refine zdI (v:=.agg [.i a0.Letters,.i a0.Numbers,.sl .no 3 (a0.Presses.map WirePress.cells),.i a0.Faults,.sl .nil 0 []]) (cs:=[.i a0.Letters,.i a0.Numbers,.sl .no 3 (a0.Presses.map WirePress.cells),.i a0.Faults,.sl .nil 0 []]) hS (by decide) rfl rfl (by omega) fun H hS=>?_
 refine Oa (.ptr (g+2+2) 0) ?_
 refine Ni ?_
 refine zk0 (cs':=[.i a0.Letters,.i a0.Numbers,.sl .no 3 (a0.Presses.map WirePress.cells),.i a0.Faults,.sl (.id (g+2+4)) 3 (([]:List WireFault).map WireFault.cells)]) (L':=[(g+2+2,.cells [.i a0.Letters,.i a0.Numbers,.sl .no 3 (a0.Presses.map WirePress.cells),.i a0.Faults,.sl (.id (g+2+4)) 3 (([]:List WireFault).map WireFault.cells)])]) 0 4 3 52 hS (by omega) (by decide) rfl rfl rfl rfl fun H hS=>?_
 refine Ws ?_
 refine zaJ (J:=(List WireFault)) (fun j=>[(3,.ptr (g+2+2) 0)]) (fun j H' g'=>St (·<g) H0 [(g+2+4,.row 52 j.length),(g+2+2,.cells [.i a0.Letters,.i a0.Numbers,.sl .no 3 (a0.Presses.map WirePress.cells),.i a0.Faults,.sl (.id (g+2+4)) 3 (j.map WireFault.cells)])] H' g'/\zgb a0 j=some r) ?_ ?_
 ·rintro v1 H g1 ⟨hS,hM⟩
  change wpA _ _ _ _ (Fr.of [(3,.ptr (g+2+2) 0)]) _ _
  replace hS:St (·<g) H0 [(g+2+4,.row 52 v1.length),(g+2+2,.cells [.i a0.Letters,.i a0.Numbers,.sl .no 3 (a0.Presses.map WirePress.cells),.i a0.Faults,.sl (.id (g+2+4)) 3 (v1.map WireFault.cells)])] H g1:=hS
  replace hM:zgb a0 v1=some r:=hM
  refine Sq ?_
  refine Rg 2 ?_
  refine Om (.ptr (g+2+2) 0) ?_
  refine Oa (.ptr (g+2+2) 0) ?_
  refine Ni ?_
  refine zn7 (cs':=[.i a0.Letters,.i a0.Numbers,.sl .no 3 (a0.Presses.map WirePress.cells),.i a0.Faults,.sl .no 3 (v1.map WireFault.cells)]) (L':=[(g+2+4,.row 52 v1.length),(g+2+2,.cells [.i a0.Letters,.i a0.Numbers,.sl .no 3 (a0.Presses.map WirePress.cells),.i a0.Faults,.sl .no 3 (v1.map WireFault.cells)])]) 1 hS rfl (.k (.k (.k (.k (.cons (.sl _ _ _) .nil))))) rfl fun H hS=>?_
  refine zb5 (L':=[(g+2+4,.row 52 v1.length)]) 1 2 hS rfl rfl rfl fun H hS=>?_
  replace hS:=hS.keep (L':=[]) [false] rfl
  refine Ws ?_
  refine za8 ?_
  refine zbq (x:=.ep [.i a0.Letters,.i a0.Numbers,.sl .no 3 (a0.Presses.map WirePress.cells),.i a0.Faults,.sl .no 3 (v1.map WireFault.cells)]) (f:=fun r=>pA Wiring_.cells r) (.inr rfl) ?_ (.refl _) (Option.some.inj hM) hS
  exact (zay (zau (x:=.ep [.i a0.Letters,.i a0.Numbers,.sl .no 3 (a0.Presses.map WirePress.cells),.i a0.Faults,.sl .no 3 (v1.map WireFault.cells)]) rfl))
 ·refine Sq ?_
  refine Rg 2 ?_
  refine zdJ (cs:=[.i 1,.i 2,.i 3,.i 4]) (by decide) zni zpU rfl ?_
  refine Om (.i 0) ?_
  refine Ni ?_
  refine Ws ?_
  refine zas ?_
  refine zbV (V:=Int×(List WireFault)) (fun v=>[(1,.ep (Wire.cells a0)),(3,.ptr (g+2+2) 0),(12,.agg [.i 1,.i 2,.i 3,.i 4]),(13,.i v.1)]) (fun v m3 H' g'=>St (·<g) H0 [(g+2+4,.row 52 v.2.length),(g+2+2,.cells [.i a0.Letters,.i a0.Numbers,.sl .no 3 (a0.Presses.map WirePress.cells),.i a0.Faults,.sl (.id (g+2+4)) 3 (v.2.map WireFault.cells)])] H' g'/\zaO n a0 m3 v.1 v.2=some r) (n:=n) (0,([]:List WireFault)) (.k (.k (.k (.k .nil)))) ⟨(hS.keep [true,true] rfl).up (by omega),hM⟩ ?_
  rintro ⟨v3,v4⟩ m3 H g3 ⟨hS,hM⟩
  obtain _ | m3:=m3
  ·exact nomatch (show none=some _ from hM)
  change wpA _ _ _ _ (Fr.of [(1,.ep (Wire.cells a0)),(3,.ptr (g+2+2) 0),(12,.agg [.i 1,.i 2,.i 3,.i 4]),(13,.i v3)]) _ _
  replace hS:St (·<g) H0 [(g+2+4,.row 52 v4.length),(g+2+2,.cells [.i a0.Letters,.i a0.Numbers,.sl .no 3 (a0.Presses.map WirePress.cells),.i a0.Faults,.sl (.id (g+2+4)) 3 (v4.map WireFault.cells)])] H g3:=hS
  replace hM:zgF n a0 (zaO n a0 m3) v3 v4=some r:=hM
  refine Sq ?_
  refine Rg 1 ?_
  refine Oi (.b (decide (v3<4))) ?_
  refine Ni ?_
  refine Ws ?_
  refine Sq ?_
  rcases bft (decide (v3<4)) with hb5 | hb5
  ·replace hM:=ifT hM hb5
   refine Ct hb5 ?_
   refine zaF ?_
   refine Ws ?_
   refine zaJ (J:=(List WireFault)) (fun j=>[(1,.ep (Wire.cells a0)),(3,.ptr (g+2+2) 0),(12,.agg [.i 1,.i 2,.i 3,.i 4]),(13,.i v3)]) (fun j H' g'=>St (·<g) H0 [(g+2+4,.row 52 j.length),(g+2+2,.cells [.i a0.Letters,.i a0.Numbers,.sl .no 3 (a0.Presses.map WirePress.cells),.i a0.Faults,.sl (.id (g+2+4)) 3 (j.map WireFault.cells)])] H' g'/\zgc (zaO n a0 m3) v3 j=some r) ?_ ?_
   ·rintro v6 H g4 ⟨hS,hM⟩
    change wpA _ _ _ _ (Fr.of [(1,.ep (Wire.cells a0)),(3,.ptr (g+2+2) 0),(12,.agg [.i 1,.i 2,.i 3,.i 4]),(13,.i v3)]) _ _
    replace hS:St (·<g) H0 [(g+2+4,.row 52 v6.length),(g+2+2,.cells [.i a0.Letters,.i a0.Numbers,.sl .no 3 (a0.Presses.map WirePress.cells),.i a0.Faults,.sl (.id (g+2+4)) 3 (v6.map WireFault.cells)])] H g4:=hS
    replace hM:zgc (zaO n a0 m3) v3 v6=some r:=hM
    refine Rg 2 ?_
    refine Oi (.i (w64 (v3+1))) ?_
    refine Om (.i (w64 (v3+1))) ?_
    refine Ni ?_
    exact zbg (w64 (v3+1),v6) (Nat.lt_succ_self _) (.k (.k (.k (.k .nil)))) ⟨(hS.keep [true,true] rfl).up (by omega),hM⟩
   ·refine zas ?_
    refine Sq ?_
    refine Rg 2 ?_
    obtain ⟨x7,hx7,hM⟩:=zat hM
    refine zpx (v:=.i x7) (cs:=[.i 1,.i 2,.i 3,.i 4]) (z:=v3) (by decide) rfl rfl zoD (zha hx7).1 (zkh hx7) (zpC (xs:=([1,2,3,4]:List Int)) zai zav rfl hx7) ?_
    refine Oa (.i x7) ?_
    refine Ni ?_
    refine Ws ?_
    refine Sq ?_
    refine Rg 3 ?_
    refine Of ((Wire.cells a0)) zfF ?_
    refine Olp (.i a0.Letters) zai zav ?_
    refine Oa (.i a0.Letters) ?_
    refine Ni ?_
    refine Ws ?_
    refine zaJ (J:=Int) (fun j=>[(1,.ep (Wire.cells a0)),(3,.ptr (g+2+2) 0),(5,.i x7),(6,.i j),(12,.agg [.i 1,.i 2,.i 3,.i 4]),(13,.i v3)]) (fun j H' g'=>St (·<g) H0 [(g+2+4,.row 52 v4.length),(g+2+2,.cells [.i a0.Letters,.i a0.Numbers,.sl .no 3 (a0.Presses.map WirePress.cells),.i a0.Faults,.sl (.id (g+2+4)) 3 (v4.map WireFault.cells)])] H' g'/\zfk n (zaO n a0 m3) v3 v4 x7 j=some r) ?_ ?_
    ·rintro v8 H g5 ⟨hS,hM⟩
     change wpA _ _ _ _ (Fr.of [(1,.ep (Wire.cells a0)),(3,.ptr (g+2+2) 0),(5,.i x7),(6,.i v8),(12,.agg [.i 1,.i 2,.i 3,.i 4]),(13,.i v3)]) _ _
     replace hS:St (·<g) H0 [(g+2+4,.row 52 v4.length),(g+2+2,.cells [.i a0.Letters,.i a0.Numbers,.sl .no 3 (a0.Presses.map WirePress.cells),.i a0.Faults,.sl (.id (g+2+4)) 3 (v4.map WireFault.cells)])] H g5:=hS
     replace hM:zfk n (zaO n a0 m3) v3 v4 x7 v8=some r:=hM
     refine Sq ?_
     refine Rg 2 ?_
     refine Om (.i v8) ?_
     refine Om (.i 0) ?_
     refine Ni ?_
     refine Ws ?_
     refine zas ?_
     refine zbV (V:=Int×(List WireFault)) (fun v=>[(1,.ep (Wire.cells a0)),(3,.ptr (g+2+2) 0),(5,.i x7),(6,.i v8),(12,.agg [.i 1,.i 2,.i 3,.i 4]),(13,.i v3),(26,.i v8),(27,.i v.1)]) (fun v m7 H' g'=>St (·<g) H0 [(g+2+4,.row 52 v.2.length),(g+2+2,.cells [.i a0.Letters,.i a0.Numbers,.sl .no 3 (a0.Presses.map WirePress.cells),.i a0.Faults,.sl (.id (g+2+4)) 3 (v.2.map WireFault.cells)])] H' g'/\zb7 n (zaO n a0 m3) v3 x7 v8 m7 v.1 v.2=some r) (n:=n) (0,v4) (.k (.k (.k (.k (.k (.k (.k (.k .nil)))))))) ⟨(hS.keep [true,true] rfl).up (by omega),hM⟩ ?_
     rintro ⟨v10,v11⟩ m7 H g7 ⟨hS,hM⟩
     obtain _ | m7:=m7
     ·exact nomatch (show none=some _ from hM)
     change wpA _ _ _ _ (Fr.of [(1,.ep (Wire.cells a0)),(3,.ptr (g+2+2) 0),(5,.i x7),(6,.i v8),(12,.agg [.i 1,.i 2,.i 3,.i 4]),(13,.i v3),(26,.i v8),(27,.i v10)]) _ _
     replace hS:St (·<g) H0 [(g+2+4,.row 52 v11.length),(g+2+2,.cells [.i a0.Letters,.i a0.Numbers,.sl .no 3 (a0.Presses.map WirePress.cells),.i a0.Faults,.sl (.id (g+2+4)) 3 (v11.map WireFault.cells)])] H g7:=hS
     replace hM:zgE n (zaO n a0 m3) v3 x7 v8 (zb7 n (zaO n a0 m3) v3 x7 v8 m7) v10 v11=some r:=hM
     refine Sq ?_
     refine Rg 1 ?_
     refine Oi (.b (decide (v10<v8))) ?_
     refine Ni ?_
     refine Ws ?_
     refine Sq ?_
     rcases bft (decide (v10<v8)) with hb12 | hb12
     ·replace hM:=ifT hM hb12
      refine Ct hb12 ?_
      refine zaF ?_
      refine Ws ?_
      refine zaJ (J:=(List WireFault)) (fun j=>[(1,.ep (Wire.cells a0)),(3,.ptr (g+2+2) 0),(5,.i x7),(6,.i v8),(12,.agg [.i 1,.i 2,.i 3,.i 4]),(13,.i v3),(26,.i v8),(27,.i v10)]) (fun j H' g'=>St (·<g) H0 [(g+2+4,.row 52 j.length),(g+2+2,.cells [.i a0.Letters,.i a0.Numbers,.sl .no 3 (a0.Presses.map WirePress.cells),.i a0.Faults,.sl (.id (g+2+4)) 3 (j.map WireFault.cells)])] H' g'/\zfh (zb7 n (zaO n a0 m3) v3 x7 v8 m7) v10 j=some r) ?_ ?_
      ·rintro v13 H g8 ⟨hS,hM⟩
       change wpA _ _ _ _ (Fr.of [(1,.ep (Wire.cells a0)),(3,.ptr (g+2+2) 0),(5,.i x7),(6,.i v8),(12,.agg [.i 1,.i 2,.i 3,.i 4]),(13,.i v3),(26,.i v8),(27,.i v10)]) _ _
       replace hS:St (·<g) H0 [(g+2+4,.row 52 v13.length),(g+2+2,.cells [.i a0.Letters,.i a0.Numbers,.sl .no 3 (a0.Presses.map WirePress.cells),.i a0.Faults,.sl (.id (g+2+4)) 3 (v13.map WireFault.cells)])] H g8:=hS
       replace hM:zfh (zb7 n (zaO n a0 m3) v3 x7 v8 m7) v10 v13=some r:=hM
       refine Rg 2 ?_
       refine Oi (.i (w64 (v10+1))) ?_
       refine Om (.i (w64 (v10+1))) ?_
       refine Ni ?_
       exact zbg (w64 (v10+1),v13) (Nat.lt_succ_self _) (.k (.k (.k (.k (.k (.k (.k (.k .nil)))))))) ⟨(hS.keep [true,true] rfl).up (by omega),hM⟩
      ·refine zas ?_
       refine Sq ?_
       refine Rg 2 ?_
       refine Om (.i v10) ?_
       refine Oa (.i v10) ?_
       refine Ni ?_
       refine Ws ?_
       refine Sq ?_
       refine zaJ (J:=Bool) (fun j=>[(1,.ep (Wire.cells a0)),(3,.ptr (g+2+2) 0),(5,.i x7),(6,.i v8),(7,.i v10),(12,.agg [.i 1,.i 2,.i 3,.i 4]),(13,.i v3),(26,.i v8),(27,.i v10),(35,.b j)]) (fun j H' g'=>St (·<g) H0 [(g+2+4,.row 52 v11.length),(g+2+2,.cells [.i a0.Letters,.i a0.Numbers,.sl .no 3 (a0.Presses.map WirePress.cells),.i a0.Faults,.sl (.id (g+2+4)) 3 (v11.map WireFault.cells)])] H' g'/\zfj n (zb7 n (zaO n a0 m3) v3 x7 v8 m7) x7 v8 v10 v11 j=some r) ?_ ?_
       ·rintro v14 H g9 ⟨hS,hM⟩
        change wpA _ _ _ _ (Fr.of [(1,.ep (Wire.cells a0)),(3,.ptr (g+2+2) 0),(5,.i x7),(6,.i v8),(7,.i v10),(12,.agg [.i 1,.i 2,.i 3,.i 4]),(13,.i v3),(26,.i v8),(27,.i v10),(35,.b v14)]) _ _
        replace hS:St (·<g) H0 [(g+2+4,.row 52 v11.length),(g+2+2,.cells [.i a0.Letters,.i a0.Numbers,.sl .no 3 (a0.Presses.map WirePress.cells),.i a0.Faults,.sl (.id (g+2+4)) 3 (v11.map WireFault.cells)])] H g9:=hS
        replace hM:zfj n (zb7 n (zaO n a0 m3) v3 x7 v8 m7) x7 v8 v10 v11 v14=some r:=hM
        rcases bft v14 with hb15 | hb15
        ·replace hM:=ifT hM hb15
         refine Ct hb15 ?_
         refine Sq ?_
         refine Rg 13 ?_
         refine Om (.ptr (g+2+2) 0) ?_
         refine Om (.ptr (g+2+2) 0) ?_
         refine zbm (by decide) rfl ?_
         refine zan (by decide) zf2 rfl ?_
         refine zb1 (v:=.sl (.id (g+2+4)) 3 (v11.map WireFault.cells)) 1 hS (by decide) rfl rfl .no (po zkq zlT) ?_
         refine Om (.i x7) ?_
         refine Om (.i v10) ?_
         refine zdJ (cs:=[.i x7,.i v10,.i 0]) (by decide) zec zhv rfl ?_
         refine zbx (es:=[[.i x7,.i v10,.i 0]]) hS (by decide) zb0 zdO rfl zdP rfl (by decide) (by omega) fun H hS=>?_
         obtain ⟨l16,hl16,hM⟩:=zat hM
         refine zdW (xs:=v11) (ys:=([(⟨x7,v10,0⟩:WireFault)]:List WireFault)) (zs:=l16) (f:=WireFault.cells) (L':=[(g9+8,.row 52 1),(g+2+4,.row 52 l16.length),(g+2+2,.cells [.i a0.Letters,.i a0.Numbers,.sl .no 3 (a0.Presses.map WirePress.cells),.i a0.Faults,.sl (.id (g+2+4)) 3 (v11.map WireFault.cells)])]) 1 hS (by decide) rfl rfl rfl rfl .no zb0 zdO zdP hl16 rfl fun H hS=>?_
         refine zbm (by decide) rfl ?_
         refine zan (by decide) zf2 rfl ?_
         refine zbZ (v:=.sl (.id (g+2+4)) 3 (l16.map WireFault.cells)) (ns:=[.sl (.id (g+2+4)) 3 (l16.map WireFault.cells)]) (L':=[(g9+8,.row 52 1),(g+2+4,.row 52 l16.length),(g+2+2,.cells [.i a0.Letters,.i a0.Numbers,.sl .no 3 (a0.Presses.map WirePress.cells),.i a0.Faults,.sl (.id (g+2+4)) 3 (l16.map WireFault.cells)])]) 2 hS rfl rfl .no rfl rfl zmn nlb rfl fun H hS=>?_
         refine Ni ?_
         replace hS:=hS.keep (L':=[(g+2+4,.row 52 l16.length),(g+2+2,.cells [.i a0.Letters,.i a0.Numbers,.sl .no 3 (a0.Presses.map WirePress.cells),.i a0.Faults,.sl (.id (g+2+4)) 3 (l16.map WireFault.cells)])]) [false,true,true] rfl
         refine Ws ?_
         refine zbS ?_
         refine zaq ?_
         refine zaA ?_
         exact zah l16 (.k (.k (.k (.k (.k (.k (.k (.k .nil)))))))) ⟨(hS.keep [true,true] rfl).up (by omega),hM⟩
        ·replace hM:=ifF hM hb15
         refine Cf hb15 ?_
         refine zaF ?_
         refine Ws ?_
         refine Sq ?_
         refine Rg 3 ?_
         refine Om (.i v10) ?_
         refine Oi (.i (w64 (v10+1))) ?_
         refine Oa (.i (w64 (v10+1))) ?_
         refine Ni ?_
         refine Ws ?_
         refine zas ?_
         refine zbV (V:=Int×(List WireFault)) (fun v=>[(1,.ep (Wire.cells a0)),(3,.ptr (g+2+2) 0),(5,.i x7),(6,.i v8),(7,.i v10),(8,.i v.1),(12,.agg [.i 1,.i 2,.i 3,.i 4]),(13,.i v3),(26,.i v8),(27,.i v10)]) (fun v m11 H' g'=>St (·<g) H0 [(g+2+4,.row 52 v.2.length),(g+2+2,.cells [.i a0.Letters,.i a0.Numbers,.sl .no 3 (a0.Presses.map WirePress.cells),.i a0.Faults,.sl (.id (g+2+4)) 3 (v.2.map WireFault.cells)])] H' g'/\zfi (zb7 n (zaO n a0 m3) v3 x7 v8 m7) x7 v8 v10 m11 v.1 v.2=some r) (n:=n) (w64 (v10+1),v11) (.k (.k (.k (.k (.k (.k (.k (.k (.k (.k .nil)))))))))) ⟨(hS.keep [true,true] rfl).up (by omega),hM⟩ ?_
         rintro ⟨v18,v19⟩ m11 H g11 ⟨hS,hM⟩
         obtain _ | m11:=m11
         ·exact nomatch (show none=some _ from hM)
         change wpA _ _ _ _ (Fr.of [(1,.ep (Wire.cells a0)),(3,.ptr (g+2+2) 0),(5,.i x7),(6,.i v8),(7,.i v10),(8,.i v18),(12,.agg [.i 1,.i 2,.i 3,.i 4]),(13,.i v3),(26,.i v8),(27,.i v10)]) _ _
         replace hS:St (·<g) H0 [(g+2+4,.row 52 v19.length),(g+2+2,.cells [.i a0.Letters,.i a0.Numbers,.sl .no 3 (a0.Presses.map WirePress.cells),.i a0.Faults,.sl (.id (g+2+4)) 3 (v19.map WireFault.cells)])] H g11:=hS
         replace hM:zgD (zb7 n (zaO n a0 m3) v3 x7 v8 m7) x7 v8 v10 (zfi (zb7 n (zaO n a0 m3) v3 x7 v8 m7) x7 v8 v10 m11) v18 v19=some r:=hM
         refine Sq ?_
         refine Sq ?_
         refine Rg 3 ?_
         refine Om (.i v18) ?_
         refine Om (.i v8) ?_
         refine Oi (.b (decide (v18<v8))) ?_
         refine Ni ?_
         refine Ws ?_
         rcases bft (decide (v18<v8)) with hb20 | hb20
         ·replace hM:=ifT hM hb20
          refine Ct hb20 ?_
          refine zaF ?_
          refine Ws ?_
          refine Sq ?_
          refine zas ?_
          refine Rg 14 ?_
          refine Om (.ptr (g+2+2) 0) ?_
          refine Om (.ptr (g+2+2) 0) ?_
          refine zbm (by decide) rfl ?_
          refine zan (by decide) zf2 rfl ?_
          refine zb1 (v:=.sl (.id (g+2+4)) 3 (v19.map WireFault.cells)) 1 hS (by decide) rfl rfl .no (po zkq zlT) ?_
          refine Om (.i x7) ?_
          refine Om (.i v10) ?_
          refine Om (.i v18) ?_
          refine zdJ (cs:=[.i x7,.i v10,.i v18]) (by decide) zec zhv rfl ?_
          refine zbx (es:=[[.i x7,.i v10,.i v18]]) hS (by decide) zb0 zdO rfl zdP rfl (by decide) (by omega) fun H hS=>?_
          obtain ⟨l21,hl21,hM⟩:=zat hM
          refine zdW (xs:=v19) (ys:=([(⟨x7,v10,v18⟩:WireFault)]:List WireFault)) (zs:=l21) (f:=WireFault.cells) (L':=[(g11+3+9,.row 52 1),(g+2+4,.row 52 l21.length),(g+2+2,.cells [.i a0.Letters,.i a0.Numbers,.sl .no 3 (a0.Presses.map WirePress.cells),.i a0.Faults,.sl (.id (g+2+4)) 3 (v19.map WireFault.cells)])]) 1 hS (by decide) rfl rfl rfl rfl .no zb0 zdO zdP hl21 rfl fun H hS=>?_
          refine zbm (by decide) rfl ?_
          refine zan (by decide) zf2 rfl ?_
          refine zbZ (v:=.sl (.id (g+2+4)) 3 (l21.map WireFault.cells)) (ns:=[.sl (.id (g+2+4)) 3 (l21.map WireFault.cells)]) (L':=[(g11+3+9,.row 52 1),(g+2+4,.row 52 l21.length),(g+2+2,.cells [.i a0.Letters,.i a0.Numbers,.sl .no 3 (a0.Presses.map WirePress.cells),.i a0.Faults,.sl (.id (g+2+4)) 3 (l21.map WireFault.cells)])]) 2 hS rfl rfl .no rfl rfl zmn nlb rfl fun H hS=>?_
          refine Ni ?_
          refine zae ?_
          replace hS:=hS.keep (L':=[(g+2+4,.row 52 l21.length),(g+2+2,.cells [.i a0.Letters,.i a0.Numbers,.sl .no 3 (a0.Presses.map WirePress.cells),.i a0.Faults,.sl (.id (g+2+4)) 3 (l21.map WireFault.cells)])]) [false,true,true] rfl
          refine Ws ?_
          refine Rg 3 ?_
          refine Om (.i v18) ?_
          refine Oi (.i (w64 (v18+1))) ?_
          refine Oa (.i (w64 (v18+1))) ?_
          refine Ni ?_
          exact zbg (w64 (v18+1),l21) (Nat.lt_succ_self _) (.k (.k (.k (.k (.k (.k (.k (.k (.k (.k .nil)))))))))) ⟨(hS.keep [true,true] rfl).up (by omega),hM⟩
         ·replace hM:=ifF hM hb20
          refine Cf hb20 ?_
          refine zbS ?_
          refine zaq ?_
          refine zam ?_
          refine zaA ?_
          refine zae ?_
          exact zah v19 (.k (.k (.k (.k (.k (.k (.k (.k .nil)))))))) ⟨(hS.keep [true,true] rfl).up (by omega),hM⟩
       ·refine Rg 6 ?_
        refine Om (.i x7) ?_
        refine Oi (.b (x7==1)) ?_
        refine Om (.b (x7==1)) ?_
        rcases bft (x7==1) with hb22 | hb22
        ·replace hM:=ifT hM hb22
         refine On (want:=false) hb22 ?_
         refine On (want:=false) hb22 ?_
         refine Pt (.b true) hb22 ?_
         refine Ni ?_
         exact zah true (.k (.k (.k (.k (.k (.k (.k (.k (.k (.k .nil)))))))))) ⟨(hS.keep [true,true] rfl).up (by omega),hM⟩
        ·replace hM:=ifF hM hb22
         refine Oy (want:=false) hb22 ?_
         refine Om (.i x7) ?_
         refine Oy (want:=false) hb22 ?_
         refine Oi (.b (x7==2)) ?_
         refine Pf (.b (x7==2)) hb22 ?_
         refine Ni ?_
         exact zah (x7==2) (.k (.k (.k (.k (.k (.k (.k (.k (.k (.k .nil)))))))))) ⟨(hS.keep [true,true] rfl).up (by omega),hM⟩
     ·replace hM:=ifF hM hb12
      refine Cf hb12 ?_
      refine zbS ?_
      refine zaq ?_
      refine zam ?_
      refine zaA ?_
      refine zae ?_
      exact zah v11 (.k (.k (.k (.k .nil)))) ⟨(hS.keep [true,true] rfl).up (by omega),hM⟩
    ·refine zaJ (J:=Bool) (fun j=>[(1,.ep (Wire.cells a0)),(3,.ptr (g+2+2) 0),(5,.i x7),(6,.i a0.Letters),(12,.agg [.i 1,.i 2,.i 3,.i 4]),(13,.i v3),(23,.b j)]) (fun j H' g'=>St (·<g) H0 [(g+2+4,.row 52 v4.length),(g+2+2,.cells [.i a0.Letters,.i a0.Numbers,.sl .no 3 (a0.Presses.map WirePress.cells),.i a0.Faults,.sl (.id (g+2+4)) 3 (v4.map WireFault.cells)])] H' g'/\zfl n (zaO n a0 m3) a0 v3 v4 x7 j=some r) ?_ ?_
     ·rintro v23 H g12 ⟨hS,hM⟩
      change wpA _ _ _ _ (Fr.of [(1,.ep (Wire.cells a0)),(3,.ptr (g+2+2) 0),(5,.i x7),(6,.i a0.Letters),(12,.agg [.i 1,.i 2,.i 3,.i 4]),(13,.i v3),(23,.b v23)]) _ _
      replace hS:St (·<g) H0 [(g+2+4,.row 52 v4.length),(g+2+2,.cells [.i a0.Letters,.i a0.Numbers,.sl .no 3 (a0.Presses.map WirePress.cells),.i a0.Faults,.sl (.id (g+2+4)) 3 (v4.map WireFault.cells)])] H g12:=hS
      replace hM:zfl n (zaO n a0 m3) a0 v3 v4 x7 v23=some r:=hM
      rcases bft v23 with hb24 | hb24
      ·replace hM:=ifT hM hb24
       refine Ct hb24 ?_
       refine Rg 3 ?_
       refine Of ((Wire.cells a0)) ze1 ?_
       refine Olp (.i a0.Numbers) zai zav ?_
       refine Oa (.i a0.Numbers) ?_
       refine Ni ?_
       exact zah a0.Numbers (.k (.k (.k (.k (.k (.k .nil)))))) ⟨(hS.keep [true,true] rfl).up (by omega),hM⟩
      ·replace hM:=ifF hM hb24
       refine Cf hb24 ?_
       refine zaF ?_
       exact zah a0.Letters (.k (.k (.k (.k (.k (.k .nil)))))) ⟨(hS.keep [true,true] rfl).up (by omega),hM⟩
     ·refine Rg 6 ?_
      refine Om (.i x7) ?_
      refine Oi (.b (x7==2)) ?_
      refine Om (.b (x7==2)) ?_
      rcases bft (x7==2) with hb25 | hb25
      ·replace hM:=ifT hM hb25
       refine On (want:=false) hb25 ?_
       refine On (want:=false) hb25 ?_
       refine Pt (.b true) hb25 ?_
       refine Ni ?_
       exact zah true (.k (.k (.k (.k (.k (.k (.k .nil))))))) ⟨(hS.keep [true,true] rfl).up (by omega),hM⟩
      ·replace hM:=ifF hM hb25
       refine Oy (want:=false) hb25 ?_
       refine Om (.i x7) ?_
       refine Oy (want:=false) hb25 ?_
       refine Oi (.b (x7==4)) ?_
       refine Pf (.b (x7==4)) hb25 ?_
       refine Ni ?_
       exact zah (x7==4) (.k (.k (.k (.k (.k (.k (.k .nil))))))) ⟨(hS.keep [true,true] rfl).up (by omega),hM⟩
  ·replace hM:=ifF hM hb5
   refine Cf hb5 ?_
   refine zbS ?_
   refine zaq ?_
   refine zam ?_
   refine zaA ?_
   exact zah v4 (.k .nil) ⟨(hS.keep [true,true] rfl).up (by omega),hM⟩
theorem zfH {n:Nat} {a0:List WireFault} {a1:WireFault} {r:Int} (hM:zbP n a0 a1=some r):zaI Try.prog 87 [.sl .no 3 (a0.map WireFault.cells),.agg (WireFault.cells a1)] (.i r):=by
 refine zaz mixed Try.func87 rfl (by decide) Try.ntmps87 (by simp) ?pure fun H0 g hf=>?_
 case pure=>exact .v _
 rw [zar]
 change wpA _ _ _ _ (Fr.of [(0,.sl .no 3 (a0.map WireFault.cells)),(1,.agg (WireFault.cells a1))]) H0 g
 have hS:=St.start hf
 refine Sq ?_
 refine Rg 2 ?_
 refine zdI (v:=.agg (WireFault.cells a1)) (cs:=(WireFault.cells a1)) hS (by decide) rfl rfl (by omega) fun H hS=>?_
 refine Oa (.i 0) ?_
 refine Ni ?_
 refine zb5 (L':=[]) 0 3 hS rfl rfl rfl fun H hS=>?_
 refine Ws ?_
 refine zaJ (J:=Unit) (fun j=>[]) (fun j H' g'=>St (·<g) H0 [] H' g'/\zbX=some r) ?_ ?_
 ·rintro _ H g1 ⟨hS,hM⟩
  change wpA _ _ _ _ (Fr.of []) _ _
  replace hS:St (·<g) H0 [] H g1:=hS
  replace hM:zbX=some r:=hM
  refine Sq ?_
  refine Rg 1 ?_
  refine Oa (.i (-1)) ?_
  refine Ni ?_
  refine Ws ?_
  refine za8 ?_
  refine zbq (x:=.i (-1)) (f:=fun r=>.i r) (.inr rfl) ?_ (.refl _) (Option.some.inj hM) hS
  exact (zay (zau (x:=.i (-1)) rfl))
 ·refine Sq ?_
  refine Rg 3 ?_
  refine Om (.sl .no 3 (a0.map WireFault.cells)) ?_
  refine zc7 (n:=a0.length) (by decide) rfl (List.length_map _) zfp ?_
  refine Om (.i 0) ?_
  refine Ni ?_
  refine Ws ?_
  refine zas ?_
  refine zbV (V:=Int) (fun v=>[(0,.sl .no 3 (a0.map WireFault.cells)),(3,.ep (WireFault.cells a1)),(7,.i (a0.length:Int)),(8,.i v)]) (fun v m2 H' g'=>St (·<g) H0 [] H' g'/\zaR a0 a1 m2 v=some r) (n:=n) 0 (.k (.k (.k (.k .nil)))) ⟨(hS.keep [] rfl).up (by omega),hM⟩ ?_
  rintro v1 m2 H g2 ⟨hS,hM⟩
  obtain _ | m2:=m2
  ·exact nomatch (show none=some _ from hM)
  change wpA _ _ _ _ (Fr.of [(0,.sl .no 3 (a0.map WireFault.cells)),(3,.ep (WireFault.cells a1)),(7,.i (a0.length:Int)),(8,.i v1)]) _ _
  replace hS:St (·<g) H0 [] H g2:=hS
  replace hM:zbJ a0 a1 (zaR a0 a1 m2) v1=some r:=hM
  refine Sq ?_
  refine Rg 1 ?_
  refine Oi (.b (decide (v1<(a0.length:Int)))) ?_
  refine Ni ?_
  refine Ws ?_
  refine Sq ?_
  rcases bft (decide (v1<(a0.length:Int))) with hb2 | hb2
  ·replace hM:=ifT hM hb2
   refine Ct hb2 ?_
   refine zaF ?_
   refine Ws ?_
   refine Sq ?_
   refine zas ?_
   refine Sq ?_
   refine Rg 2 ?_
   refine Om (.i v1) ?_
   refine Oa (.i v1) ?_
   refine Ni ?_
   refine Ws ?_
   refine Sq ?_
   have hS0:=hS
   refine zd6 (n:=6) rfl (by kernel_rfl) ?_
   refine Olg (.agg (WireFault.cells a1)) zcE ?_
   refine Om (.sl .no 3 (a0.map WireFault.cells)) ?_
   refine Om (.i v1) ?_
   obtain ⟨x3,hx3,hM⟩:=zat hM
   refine zce (xs:=a0) (f:=WireFault.cells) (z:=v1) (u:=x3) (by decide) rfl rfl zb0 hx3 ?_
   refine Olg (.agg (WireFault.cells x3)) zcE ?_
   refine zr3 (cs:=(WireFault.cells a1)) (ds:=(WireFault.cells x3)) (e:=((a1.Kind==x3.Kind)&&((a1.A==x3.A)&&((a1.B==x3.B)&&true)))) (by decide) rfl rfl zk8 rfl ?_
   refine Ni ?_
   refine Ws ?_
   rcases bft ((a1.Kind==x3.Kind)&&((a1.A==x3.A)&&((a1.B==x3.B)&&true))) with hb4 | hb4
   ·replace hM:=ifT hM hb4
    refine Ct hb4 ?_
    refine Sq ?_
    refine Rg 2 ?_
    refine Om (.i v1) ?_
    refine Oa (.i v1) ?_
    refine Ni ?_
    refine Ws ?_
    refine za8 ?_
    refine zaS ?_
    refine zaC ?_
    refine zbG ?_
    refine zaS ?_
    refine zci ?_
    refine zbq (x:=.i v1) (f:=fun r=>.i r) (.inr rfl) ?_ (.refl _) (Option.some.inj hM) hS
    exact (zay (zau (x:=.i v1) rfl))
   ·replace hM:=ifF hM hb4
    refine Cf hb4 ?_
    refine zaF ?_
    refine zae ?_
    refine Ws ?_
    refine Rg 2 ?_
    refine Oi (.i (w64 (v1+1))) ?_
    refine Om (.i (w64 (v1+1))) ?_
    refine Ni ?_
    exact zbg (w64 (v1+1)) (Nat.lt_succ_self _) (.k (.k (.k (.k .nil)))) ⟨(hS.keep [] rfl).up (by omega),hM⟩
  ·replace hM:=ifF hM hb2
   refine Cf hb2 ?_
   refine zbS ?_
   refine zaq ?_
   refine zam ?_
   refine zaA ?_
   exact zah () .nil ⟨(hS.keep [] rfl).up (by omega),hM⟩
theorem ze2 {n:Nat} {a0:List WireFault} {a1:WireFault} {r:Bool} (hM:zbY n a0 a1=some r):zaI Try.prog 58 [.sl .no 3 (a0.map WireFault.cells),.agg (WireFault.cells a1)] (.b r):=by
 refine zaz mixed Try.func58 rfl (by decide) Try.ntmps58 (by simp) ?pure fun H0 g hf=>?_
 case pure=>exact .v _
 rw [zar]
 change wpA _ _ _ _ (Fr.of [(0,.sl .no 3 (a0.map WireFault.cells)),(1,.agg (WireFault.cells a1))]) H0 g
 have hS:=St.start hf
 refine Sq ?_
 refine Rg 2 ?_
 refine zdI (v:=.agg (WireFault.cells a1)) (cs:=(WireFault.cells a1)) hS (by decide) rfl rfl (by omega) fun H hS=>?_
 refine Oa (.b false) ?_
 refine Ni ?_
 refine zb5 (L':=[]) 0 3 hS rfl rfl rfl fun H hS=>?_
 refine Ws ?_
 refine Sq ?_
 refine Rg 5 ?_
 refine Om (.sl .no 3 (a0.map WireFault.cells)) ?_
 refine Olg (.agg (WireFault.cells a1)) zcE ?_
 obtain ⟨r1,hr1,hM⟩:=zat hM
 refine zaU (bs:=[.sl .no 3 (a0.map WireFault.cells),.agg (WireFault.cells a1)]) (by decide) rfl rfl ((zfH hr1).le (.k (.k .nil))) ?_
 refine Oi (.b (decide (r1≥0))) ?_
 refine Oa (.b (decide (r1≥0))) ?_
 refine Ni ?_
 refine zhH [(4,.b (decide (r1≥0)))] (.k .nil) ?_
 refine za8 ?_
 refine zbq (x:=.b (decide (r1≥0))) (f:=fun r=>.b r) (.inr rfl) ?_ (.refl _) (Option.some.inj hM) hS
 exact (zay (zau (x:=.b (decide (r1≥0))) rfl))
theorem zle {n:Nat} {a0:List Int} {r:Int} (hM:zgW n a0=some r):zaI Try.prog 88 [.sl .no 1 (a0.map cI)] (.i r):=by
 refine zaz mixed Try.func88 rfl (by decide) Try.ntmps88 (by simp) ?pure fun H0 g hf=>?_
 case pure=>exact .v _
 rw [zar]
 change wpA _ _ _ _ (Fr.of [(0,.sl .no 1 (a0.map cI))]) H0 g
 have hS:=St.start hf
 refine Sq ?_
 refine Rg 1 ?_
 refine Oa (.i 0) ?_
 refine Ni ?_
 refine Ws ?_
 refine Sq ?_
 refine Rg 1 ?_
 refine Oa (.i 0) ?_
 refine Ni ?_
 refine Ws ?_
 refine zaJ (J:=Unit) (fun j=>[(3,.i 0)]) (fun j H' g'=>St (·<g) H0 [] H' g'/\zfm=some r) ?_ ?_
 ·rintro _ H g1 ⟨hS,hM⟩
  change wpA _ _ _ _ (Fr.of [(3,.i 0)]) _ _
  replace hS:St (·<g) H0 [] H g1:=hS
  replace hM:zfm=some r:=hM
  refine Sq ?_
  refine Rg 2 ?_
  refine Om (.i 0) ?_
  refine Oa (.i 0) ?_
  refine Ni ?_
  refine Ws ?_
  refine za8 ?_
  refine zbq (x:=.i 0) (f:=fun r=>.i r) (.inr rfl) ?_ (.refl _) (Option.some.inj hM) hS
  exact (zay (zau (x:=.i 0) rfl))
 ·refine Sq ?_
  refine Rg 3 ?_
  refine Om (.sl .no 1 (a0.map cI)) ?_
  refine zc7 (n:=a0.length) (by decide) rfl (List.length_map _) zpL ?_
  refine Om (.i 0) ?_
  refine Ni ?_
  refine Ws ?_
  refine zas ?_
  refine zbV (V:=Int) (fun v=>[(3,.i 0),(6,.sl .no 1 (a0.map cI)),(7,.i (a0.length:Int)),(8,.i v)]) (fun v m2 H' g'=>St (·<g) H0 [] H' g'/\zdj a0 m2 v=some r) (n:=n) 0 (.k (.k (.k (.k .nil)))) ⟨(hS.keep [] rfl).up (by omega),hM⟩ ?_
  rintro v1 m2 H g2 ⟨hS,hM⟩
  obtain _ | m2:=m2
  ·exact nomatch (show none=some _ from hM)
  change wpA _ _ _ _ (Fr.of [(3,.i 0),(6,.sl .no 1 (a0.map cI)),(7,.i (a0.length:Int)),(8,.i v1)]) _ _
  replace hS:St (·<g) H0 [] H g2:=hS
  replace hM:zex a0 (zdj a0 m2) v1=some r:=hM
  refine Sq ?_
  refine Rg 1 ?_
  refine Oi (.b (decide (v1<(a0.length:Int)))) ?_
  refine Ni ?_
  refine Ws ?_
  refine Sq ?_
  rcases bft (decide (v1<(a0.length:Int))) with hb2 | hb2
  ·replace hM:=ifT hM hb2
   refine Ct hb2 ?_
   refine zaF ?_
   refine Ws ?_
   refine Sq ?_
   refine zas ?_
   refine Sq ?_
   refine Rg 3 ?_
   obtain ⟨x3,hx3,hM⟩:=zat hM
   refine zce (xs:=a0) (f:=cI) (z:=v1) (u:=x3) (by decide) rfl rfl zop hx3 ?_
   refine Olp (.i x3) zai zav ?_
   refine Oa (.i x3) ?_
   refine Ni ?_
   refine Ws ?_
   refine Sq ?_
   refine Rg 3 ?_
   refine Om (.i x3) ?_
   refine Om (.i 0) ?_
   refine Oi (.b (x3 != 0)) ?_
   refine Ni ?_
   refine Ws ?_
   rcases bft (x3 != 0) with hb4 | hb4
   ·replace hM:=ifT hM hb4
    refine Ct hb4 ?_
    refine Sq ?_
    refine Rg 2 ?_
    refine Om (.i x3) ?_
    refine Oa (.i x3) ?_
    refine Ni ?_
    refine Ws ?_
    refine za8 ?_
    refine zaS ?_
    refine zaC ?_
    refine zbG ?_
    refine zaS ?_
    refine zci ?_
    refine zbq (x:=.i x3) (f:=fun r=>.i r) (.inr rfl) ?_ (.refl _) (Option.some.inj hM) hS
    exact (zay (zau (x:=.i x3) rfl))
   ·replace hM:=ifF hM hb4
    refine Cf hb4 ?_
    refine zaF ?_
    refine zae ?_
    refine Ws ?_
    refine Rg 2 ?_
    refine Oi (.i (w64 (v1+1))) ?_
    refine Om (.i (w64 (v1+1))) ?_
    refine Ni ?_
    exact zbg (w64 (v1+1)) (Nat.lt_succ_self _) (.k (.k (.k (.k .nil)))) ⟨(hS.keep [] rfl).up (by omega),hM⟩
  ·replace hM:=ifF hM hb2
   refine Cf hb2 ?_
   refine zbS ?_
   refine zaq ?_
   refine zam ?_
   refine zaA ?_
   exact zah () (.k .nil) ⟨(hS.keep [] rfl).up (by omega),hM⟩
theorem zkA {n:Nat} {a0:WireFault} {a1:WireFault} {r:Int} (hM:zgd n a0 a1=some r):zaI Try.prog 59 [.agg (WireFault.cells a0),.agg (WireFault.cells a1)] (.i r):=by
 refine zaz mixed Try.func59 rfl (by decide) Try.ntmps59 (by simp) ?pure fun H0 g hf=>?_
 case pure=>exact .v _
 rw [zar]
 change wpA _ _ _ _ (Fr.of [(0,.agg (WireFault.cells a0)),(1,.agg (WireFault.cells a1))]) H0 g
 have hS:=St.start hf
 refine Sq ?_
 refine Rg 3 ?_
 refine zdI (v:=.agg (WireFault.cells a0)) (cs:=(WireFault.cells a0)) hS (by decide) rfl rfl (by omega) fun H hS=>?_
 refine zdI (v:=.agg (WireFault.cells a1)) (cs:=(WireFault.cells a1)) hS (by decide) rfl rfl (by omega) fun H hS=>?_
 refine Oa (.i 0) ?_
 refine Ni ?_
 refine zb5 (L':=[(g+1,.cells (WireFault.cells a1))]) 1 2 hS rfl rfl rfl fun H hS=>?_
 refine zb5 (L':=[]) 0 3 hS rfl rfl rfl fun H hS=>?_
 refine Ws ?_
 refine Sq ?_
 have hS0:=hS
 refine zd6 (n:=18) rfl (by kernel_rfl) ?_
 refine Of ((WireFault.cells a0)) zdQ ?_
 refine Olp (.i a0.Kind) zai zav ?_
 refine Of ((WireFault.cells a1)) zdQ ?_
 refine Olp (.i a1.Kind) zai zav ?_
 obtain ⟨r1,hr1,hM⟩:=zat hM
 refine zaU (bs:=[.i a0.Kind,.i a1.Kind]) (by decide) rfl rfl ((zeP hr1).le (.k (.k .nil))) ?_
 refine Of ((WireFault.cells a0)) zcX ?_
 refine Olp (.i a0.A) zai zav ?_
 refine Of ((WireFault.cells a1)) zcX ?_
 refine Olp (.i a1.A) zai zav ?_
 obtain ⟨r2,hr2,hM⟩:=zat hM
 refine zaU (bs:=[.i a0.A,.i a1.A]) (by decide) rfl rfl ((zeP hr2).le (.k (.k .nil))) ?_
 refine Of ((WireFault.cells a0)) zdq ?_
 refine Olp (.i a0.B) zai zav ?_
 refine Of ((WireFault.cells a1)) zdq ?_
 refine Olp (.i a1.B) zai zav ?_
 obtain ⟨r3,hr3,hM⟩:=zat hM
 refine zaU (bs:=[.i a0.B,.i a1.B]) (by decide) rfl rfl ((zeP hr3).le (.k (.k .nil))) ?_
 refine zbx (es:=[[.i r1],[.i r2],[.i r3]]) hS (by decide) zop zrc rfl zrd rfl (by decide) (by omega) fun H hS=>?_
 obtain ⟨r4,hr4,hM⟩:=zat hM
 refine zaU (bs:=[.sl (.id (g+3+15)) 1 (([r1,r2,r3]:List Int).map cI)]) (by decide) rfl rfl ((zle hr4).le (.cons (.sl _ _ _) .nil)) ?_
 refine Oa (.i r4) ?_
 refine Ni ?_
 replace hS:=hS.keep (L':=[]) [false] rfl
 refine Ws ?_
 refine za8 ?_
 refine zbq (x:=.i r4) (f:=fun r=>.i r) (.inr rfl) ?_ (.refl _) (Option.some.inj hM) hS
 exact (zay (zau (x:=.i r4) rfl))
theorem zeR {S:Type} {Lo:S->BL} (hk:∀s s',zhX (Lo s) (Lo s')) (hnd:∀s,(ids (Lo s)).Nodup) (hin:∀s,InB In (Lo s)) {aF:WireFault->S->Option (Bool×S)} {f0:AV} (hF:∀s H,Has H (Lo s)->In H f0) (h0:cellsOf f0=some [f0]) (hf:∀{x0:WireFault} {s:S} {r:Bool×S},aF x0 s=some r->zmI Try.prog f0 [.agg (WireFault.cells x0)] (Lo s) (.b r.1) (Lo r.2)) {n:Nat} {a0:List WireFault} {st:S} {r:Int×S} (hM:zcx n aF a0 st=some r):ziE Try.prog 89 [.sl .no 3 (a0.map WireFault.cells),f0] (Lo st) (.i r.1) (Lo r.2):=by
 have hnd0:∀s,(ids (Lo s)).Nodup:=fun s=>hnd s
 refine zc8 mixed Try.func89 rfl (by decide) Try.ntmps89 (by simp) (hk _ _) (hnd st) ?pure ?cells fun H0 g hf_ hp=>?_
 case pure=>exact fun H _=>(show Go.AM.Pure _ from .v _).inH
 case cells=>exact hin _
 rw [zar]
 change wpA _ _ _ _ (Fr.of [(0,.sl .no 3 (a0.map WireFault.cells)),(1,f0)]) H0 g
 have hS:=St.startH (L:=([]++Lo st)) hf_ (hnd st) hp
 replace hS:St (fun i=>i<g/\i∉ids (Lo st)) H0 ([]++Lo st) H0 g:=hS
 refine Sq ?_
 refine Rg 1 ?_
 refine Oa (.i 0) ?_
 refine Ni ?_
 refine Ws ?_
 refine zaJ (J:=S) (fun j=>[]) (fun j H' g'=>St (fun i=>i<g/\i∉ids (Lo st)) H0 ([]++Lo j) H' g'/\zbv j=some r) ?_ ?_
 ·rintro v1 H g1 ⟨hS,hM⟩
  change wpA _ _ _ _ (Fr.of []) _ _
  replace hS:St (fun i=>i<g/\i∉ids (Lo st)) H0 ([]++Lo v1) H g1:=hS
  replace hM:zbv v1=some r:=hM
  refine Sq ?_
  refine Rg 1 ?_
  refine Oa (.i (-1)) ?_
  refine Ni ?_
  refine Ws ?_
  refine za8 ?_
  refine zfB (x:=.i (-1)) (f:=fun r=>.i r.1) (fd:=fun r=>(Lo r.2)) (.inr rfl) ?_ (.refl _) (Option.some.inj hM) hS 0 rfl
  exact (zay (zau (x:=.i (-1)) rfl))
 ·refine Sq ?_
  refine Rg 3 ?_
  refine Om (.sl .no 3 (a0.map WireFault.cells)) ?_
  refine zc7 (n:=a0.length) (by decide) rfl (List.length_map _) zfp ?_
  refine Om (.i 0) ?_
  refine Ni ?_
  refine Ws ?_
  refine zas ?_
  refine zbV (V:=Int×S) (fun v=>[(0,.sl .no 3 (a0.map WireFault.cells)),(1,f0),(7,.i (a0.length:Int)),(8,.i v.1)]) (fun v m3 H' g'=>St (fun i=>i<g/\i∉ids (Lo st)) H0 ([]++Lo v.2) H' g'/\zax a0 aF m3 v.1 v.2=some r) (n:=n) (0,st) (.k (.k (.k (.k .nil)))) ⟨(hS.keep [] rfl).up (by omega),hM⟩ ?_
  rintro ⟨v3,v4⟩ m3 H g3 ⟨hS,hM⟩
  obtain _ | m3:=m3
  ·exact nomatch (show none=some _ from hM)
  change wpA _ _ _ _ (Fr.of [(0,.sl .no 3 (a0.map WireFault.cells)),(1,f0),(7,.i (a0.length:Int)),(8,.i v3)]) _ _
  replace hS:St (fun i=>i<g/\i∉ids (Lo st)) H0 ([]++Lo v4) H g3:=hS
  replace hM:zbj a0 aF (zax a0 aF m3) v3 v4=some r:=hM
  refine Sq ?_
  refine Rg 1 ?_
  refine Oi (.b (decide (v3<(a0.length:Int)))) ?_
  refine Ni ?_
  refine Ws ?_
  refine Sq ?_
  rcases bft (decide (v3<(a0.length:Int))) with hb5 | hb5
  ·replace hM:=ifT hM hb5
   refine Ct hb5 ?_
   refine zaF ?_
   refine Ws ?_
   refine Sq ?_
   refine zas ?_
   refine Sq ?_
   refine Rg 2 ?_
   refine Om (.i v3) ?_
   refine Oa (.i v3) ?_
   refine Ni ?_
   refine Ws ?_
   refine Sq ?_
   refine Rg 6 ?_
   refine Om (f0) ?_
   refine Om (.sl .no 3 (a0.map WireFault.cells)) ?_
   refine Om (.i v3) ?_
   obtain ⟨x6,hx6,hM⟩:=zat hM
   refine zce (xs:=a0) (f:=WireFault.cells) (z:=v3) (u:=x6) (by decide) rfl rfl zb0 hx6 ?_
   refine Olg (.agg (WireFault.cells x6)) zcE ?_
   obtain ⟨r7,hr7,hM⟩:=zat hM
   replace hS:St (fun i=>i<g/\i∉ids (Lo st)) H0 ([]++Lo v4) _ _:=hS
   refine zlN (bs:=[.agg (WireFault.cells x6)]) (.inl rfl) hS (by decide) rfl rfl ((hf hr7).le (.k .nil)) (hk _ _).ids (by omega) fun H hS=>?_
   refine Ni ?_
   refine Ws ?_
   rcases bft r7.1 with hb8 | hb8
   ·replace hM:=ifT hM hb8
    refine Ct hb8 ?_
    refine Sq ?_
    refine Rg 2 ?_
    refine Om (.i v3) ?_
    refine Oa (.i v3) ?_
    refine Ni ?_
    refine Ws ?_
    refine za8 ?_
    refine zaS ?_
    refine zaC ?_
    refine zbG ?_
    refine zaS ?_
    refine zci ?_
    refine zfB (x:=.i v3) (f:=fun r=>.i r.1) (fd:=fun r=>(Lo r.2)) (.inr rfl) ?_ (.refl _) (Option.some.inj hM) hS 0 rfl
    exact (zay (zau (x:=.i v3) rfl))
   ·replace hM:=ifF hM hb8
    refine Cf hb8 ?_
    refine zaF ?_
    refine zae ?_
    refine Ws ?_
    refine Rg 2 ?_
    refine Oi (.i (w64 (v3+1))) ?_
    refine Om (.i (w64 (v3+1))) ?_
    refine Ni ?_
    exact zbg (w64 (v3+1),r7.2) (Nat.lt_succ_self _) (.k (.k (.k (.k .nil)))) ⟨(hS.keep [] rfl).up (by omega),hM⟩
  ·replace hM:=ifF hM hb5
   refine Cf hb5 ?_
   refine zbS ?_
   refine zaq ?_
   refine zam ?_
   refine zaA ?_
   exact zah v4 .nil ⟨(hS.keep [] rfl).up (by omega),hM⟩
theorem zcM {S:Type} {Lo:S->BL} (hk:∀s s',zhX (Lo s) (Lo s')) (hnd:∀s,(ids (Lo s)).Nodup) (hin:∀s,InB In (Lo s)) {aF:WireFault->S->Option (Bool×S)} {f0:AV} (hF:∀s H,Has H (Lo s)->In H f0) (h0:cellsOf f0=some [f0]) (hf:∀{x0:WireFault} {s:S} {r:Bool×S},aF x0 s=some r->zmI Try.prog f0 [.agg (WireFault.cells x0)] (Lo s) (.b r.1) (Lo r.2)) {n:Nat} {a0:List WireFault} {st:S} {r:Bool×S} (hM:zaP n aF a0 st=some r):ziE Try.prog 60 [.sl .no 3 (a0.map WireFault.cells),f0] (Lo st) (.b r.1) (Lo r.2):=by
 have hnd0:∀s,(ids (Lo s)).Nodup:=fun s=>hnd s
 refine zc8 mixed Try.func60 rfl (by decide) Try.ntmps60 (by simp) (hk _ _) (hnd st) ?pure ?cells fun H0 g hf_ hp=>?_
 case pure=>exact fun H _=>(show Go.AM.Pure _ from .v _).inH
 case cells=>exact hin _
 rw [zar]
 change wpA _ _ _ _ (Fr.of [(0,.sl .no 3 (a0.map WireFault.cells)),(1,f0)]) H0 g
 have hS:=St.startH (L:=([]++Lo st)) hf_ (hnd st) hp
 replace hS:St (fun i=>i<g/\i∉ids (Lo st)) H0 ([]++Lo st) H0 g:=hS
 refine Sq ?_
 refine Rg 1 ?_
 refine Oa (.b false) ?_
 refine Ni ?_
 refine Ws ?_
 refine Sq ?_
 refine Rg 5 ?_
 refine Om (.sl .no 3 (a0.map WireFault.cells)) ?_
 refine Om (f0) ?_
 obtain ⟨r1,hr1,hM⟩:=zat hM
 replace hS:St (fun i=>i<g/\i∉ids (Lo st)) H0 ([]++Lo st) _ _:=hS
 refine zmf (bs:=[.sl .no 3 (a0.map WireFault.cells),f0]) (.inl rfl) hS (by decide) rfl rfl ((zeR (Lo:=Lo)  hk hnd0 hin (aF:=aF) hF h0 hf hr1).le (.k (.k .nil))) (hk _ _).ids (by omega) fun H hS=>?_
 refine Oi (.b (decide (r1.1≥0))) ?_
 refine Oa (.b (decide (r1.1≥0))) ?_
 refine Ni ?_
 refine Ws ?_
 refine za8 ?_
 refine zfB (x:=.b (decide (r1.1≥0))) (f:=fun r=>.b r.1) (fd:=fun r=>(Lo r.2)) (.inr rfl) ?_ (.refl _) (Option.some.inj hM) hS 0 rfl
 exact (zay (zau (x:=.b (decide (r1.1≥0))) rfl))
end Go.Proofs.Ytclaalcoefcljaa
