/-
  The abstract machine: a slice that the function built itself is sorted in place, and returned.
  Conditions: none; it speaks of any program.
-/
import Derived.Test.YtebfppngmmdfkaaAmZ
import Derived.Sort.OwnSortedInts
set_option linter.all false
namespace Go.AM
open Go Go.RowKit
def Snd (P:Program) (N:Nat) (G0:Gh) (w0:World) (C:Exit->Act->World->Prop) (c:Code) (fr:Fr) (H:zaa) (g:Nat):Prop :=
 ∀a w,G0.lo<=w0.heap.size->Sim G0 E0 w0 N fr H a w->zbJ H g->c.wpIn (FR none) 0 P C a w
def ztK (N:Nat) (G0:Gh) (w0:World) (Q:Exit->Fr->zaa->Nat->Prop) (C:Exit->Act->World->Prop):Prop :=
 ∀e fr' H' g' a' w',Q e fr' H' g'->Sim G0 E0 w0 N fr' H' a' w'->zbJ H' g'->C e a' w'
section
variable {P:Program} {N:Nat} {G0:Gh} {w0:World} {C:Exit->Act->World->Prop} {Q:Exit->Fr->zaa->Nat->Prop}
theorem zuc (hm:P.follows .mixedOrders=true) {c:Code} {l:List (Nat×AV)} {H:zaa} {g:Nat} (hC:ztK N G0 w0 Q C) (h:wpA P N c Q (Fr.of l) H g):Snd P N G0 w0 C c (Fr.of l) H g :=
 fun a w _ S hf=>zhY hm c none 0 G0 E0 w0 Q _ H g a w C (.inl rfl) h S hf hC
theorem zkG (hm:P.follows .mixedOrders=true) {x y:Code} {l:List (Nat×AV)} {H:zaa} {g:Nat} (hC:ztK N G0 w0 Q C)
  (h:wpA P N x (Exit.thenA (fun fr' H' g'=>∃fr0 H1 g0,zjU fr' H' g' fr0 H1 g0/\Snd P N G0 w0 C y fr0 H1 g0) Q) (Fr.of l) H g):Snd P N G0 w0 C (.seq x y) (Fr.of l) H g:=fun a w hlo S hf=>by
 refine wpIn_seq (zhY hm x none 0 G0 E0 w0 _ _ H g a w _ (.inl rfl) h S hf fun e fr' H' g' a' w' hq S' hf'=>?_)
 cases e with
 | normal =>
  obtain ⟨fr0,H1,g0,hd,hs⟩:=hq
  obtain ⟨S1,hf1⟩:=S'.down hd hf'
  exact hs a' w' hlo S1 hf1
 | exit id=>exact hC _ _ _ _ _ _ hq S' hf'
 | goto l=>exact hC _ _ _ _ _ _ hq S' hf'
 | ret=>exact hC _ _ _ _ _ _ hq S' hf'
 | panic ch=>exact hC _ _ _ _ _ _ hq S' hf'
 | outgrown=>exact hC _ _ _ _ _ _ hq S' hf'
theorem zjs {y:Code} {l l':List (Nat×AV)} {H:zaa} {g:Nat} (hle:FLe l l') (h:Snd P N G0 w0 C y (Fr.of l') H g) :
  Exit.thenA (fun fr' H' g'=>∃fr0 H1 g0,zjU fr' H' g' fr0 H1 g0/\Snd P N G0 w0 C y fr0 H1 g0) Q .normal (Fr.of l) H g:=⟨_,H,g,.le hle.le H g,h⟩
end
def zbY (zs:List Int):List (List AV):=zs.map fun z=>[.v (.int .i64 z)]
theorem zqs {G:Gh} {H:zaa} {w:World} (zs:List Int):RowVR G H w 1 (zbY zs) (zs.map (Value.int .i64)):=by
 refine ⟨by simp [zbY],fun e he=>?_,fun x hx=>?_,fun i j e c x hi hj hx=>?_⟩
 ·obtain ⟨z,_,rfl⟩:=List.mem_map.1 he;rfl
 ·obtain ⟨z,_,rfl⟩:=List.mem_map.1 hx;rfl
 ·unfold zbY at hi
  rw [List.getElem?_map] at hi
  cases hz:zs[i]? with
  | none=>rw [hz] at hi;cases hi
  | some z =>
   rw [hz] at hi
   injection hi with hi
   subst hi
   cases j with
   | zero =>
    simp at hj
    subst hj
    rw [Nat.mul_one,Nat.add_zero,List.getElem?_map,hz] at hx
    injection hx with hx
    subst hx
    exact .v _
   | succ j=>simp at hj
theorem zqt {G:Gh} {H:zaa} {w:World} {zs:List Int} {xs:List Value} (h:RowVR G H w 1 (zbY zs) xs):xs=zs.map (Value.int .i64):=by
 have hl:=h.len
 simp only [zbY,List.length_map,Nat.mul_one] at hl
 apply List.ext_getElem (by simp [hl])
 intro i h1 h2
 have h3:i<zs.length:=by simpa using h2
 have:=h.vr i 0 [.v (.int .i64 zs[i])] (.v (.int .i64 zs[i])) xs[i] (by simp [zbY,h3]) rfl (by simp [h1])
 simp only [List.getElem_map]
 exact zkm this
theorem zhn (zs:List Int):∀e,e∈zbY zs->∀c,c∈e->Flat c:=fun e he c hc=>by
 obtain ⟨z,_,rfl⟩:=List.mem_map.1 he
 simp at hc
 subst hc
 exact ⟨_,rfl⟩
structure Built (G0:Gh) (w0:World) (e:TypeId) (zs:List Int) (u:Value) (ds:List Deferred) (w:World):Prop where
 own:w.ownsRow 0 e 1 u zs.length (zs.map (Value.int .i64))
 new:∀b,u.ownBlock=some b->w0.heap.size<=b
 old:∀b,b<w0.heap.size->w.heap[b]?=w0.heap[b]?
 size:w0.heap.size<=w.heap.size
 os:w.os=w0.os
 tape:w.tape=w0.tape
 output:w.output=w0.output
 marks:∃Ds:List Nat,ds=Ds.map (fun D=>{ target:=.collected D,args:=#[] })/\Ds.Nodup/\∀D,D∈Ds->w0.heap.size<=D/\w.heap[D]?=some (.deferred (some []))
 lo0:G0.lo<=w0.heap.size
theorem Built.next {G0:Gh} {w0 w w':World} {e:TypeId} {zs ts:List Int} {u:Value} {ds:List Deferred} (h:Built G0 w0 e zs u ds w) (h1:w'.ownsRow 0 e 1 u ts.length (ts.map (Value.int .i64))) (h2:w'.os=w.os) (h3:w'.tape=w.tape) (h4:w'.output=w.output) (h5:w.heap.size<=w'.heap.size)
  (h6:∀k,k<w.heap.size->u.ownBlock≠some k->w'.heap[k]?=w.heap[k]?):Built G0 w0 e ts u ds w':=by
 refine ⟨h1,h.new,fun b hb=>?_,Nat.le_trans h.size h5,h2.trans h.os,h3.trans h.tape,h4.trans h.output,?_,h.lo0⟩
 ·rw [h6 b (Nat.lt_of_lt_of_le hb h.size) (fun hu=>by have:=h.new b hu;omega)]
  exact h.old b hb
 ·obtain ⟨Ds,d1,d2,d3⟩:=h.marks
  refine ⟨Ds,d1,d2,fun D hD=>⟨(d3 D hD).1,?_⟩⟩
  have hd:=(d3 D hD).2
  rw [h6 D (Array.getElem?_eq_some_iff.1 hd).1 (fun hu=>?_)]
  ·exact hd
  ·rcases h.own.2 with ⟨q1,_⟩ | ⟨g,cap,cur,q1,_,q3,_⟩
   ·rw [q1] at hu;cases hu
   ·rw [q1] at hu
    injection hu with hu
    have hu:g=D:=hu
    subst hu
    rw [hd] at q3
    cases q3
section
variable {P:Program} {N:Nat} {G0:Gh} {w0:World} {C:Exit->Act->World->Prop}
end
def zqu (P:Program) (N:Nat) (rs:List ResultVar) (e:TypeId) (zs:List Int) (y:Value):Exit->Fr->zaa->Nat->Prop:=fun ex fr H _ =>
 (ex=.normal\/ex=.ret)/\((∃j,zjI P N fr H rs=some (.tup [.sl (.id j) 1 (zbY zs),.v y])/\H j=some (.row e zs.length))\/(zs=[]/\zjI P N fr H rs=some (.tup [.sl .nil 0 [],.v y])))
end Go.AM
