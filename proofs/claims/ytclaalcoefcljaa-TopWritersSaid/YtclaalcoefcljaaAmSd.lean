/-
  The abstract machine: a slice that the function built itself is sorted in place, and returned.
  Conditions: none; it speaks of any program.
-/
import Derived.Test.YtclaalcoefcljaaAmZ
import Derived.Sort.OwnSortedInts
set_option linter.all false
namespace Go.AM
open Go Go.RowKit
section
variable {P:Program} {N:Nat} {G0:Gh} {w0:World} {C:Exit->Act->World->Prop} {Q:Exit->Fr->zaa->Nat->Prop}
end
structure Built (G0:Gh) (w0:World) (e:TypeId) (zs:List Int) (u:Value) (ds:List Deferred) (w:World):Prop where
 own:w.ownsRow 0 e 1 u zs.length (zs.map (Value.int .i64))
 new:∀b,u.ownBlock=some b->w0.heap.size<=b
 old:∀b,b<w0.heap.size->w.heap[b]?=w0.heap[b]?
 size:w0.heap.size<=w.heap.size
 os:w.os=w0.os
 tape:w.tape=w0.tape
 output:w.output=w0.output
 marks:∃Ds:List Nat,ds=Ds.map (fun D=>{ target:=.collected D,args:=#[] })/\Ds.Nodup/\∀D,D∈Ds->w0.heap.size<=D/\w.heap[D]?=some (.deferred (some []))
theorem Built.next {G0:Gh} {w0 w w':World} {e:TypeId} {zs ts:List Int} {u:Value} {ds:List Deferred} (h:Built G0 w0 e zs u ds w) (h1:w'.ownsRow 0 e 1 u ts.length (ts.map (Value.int .i64))) (h2:w'.os=w.os) (h3:w'.tape=w.tape) (h4:w'.output=w.output) (h5:w.heap.size<=w'.heap.size)
  (h6:∀k,k<w.heap.size->u.ownBlock≠some k->w'.heap[k]?=w.heap[k]?):Built G0 w0 e ts u ds w':=by
 refine ⟨h1,h.new,fun b hb=>?_,Nat.le_trans h.size h5,h2.trans h.os,h3.trans h.tape,h4.trans h.output,?_⟩
 ·rw [h6 b (Nat.lt_of_lt_of_le hb h.size) (fun hu=>by have:=h.new b hu;omega)]
  exact h.old b hb
 ·obtain ⟨Ds,d1,d2,d3⟩:=h.marks
  refine ⟨Ds,d1,d2,fun D hD=>⟨(d3 D hD).1,?_⟩⟩
  have hd:=(d3 D hD).2
  rw [h6 D (Array.getElem?_eq_some_iff.1 hd).1 (fun hu=>?_)]
  ·exact hd
  ·rcases h.own.2 with ⟨q1,_⟩ | ⟨g,cap,cur,q1,_,q3,_⟩
   ·rw [q1] at hu;cases hu
   ·rw [q1] at hu
    injection hu with hu
    have hu:g=D:=hu
    subst hu
    rw [hd] at q3
    cases q3
section
variable {P:Program} {N:Nat} {G0:Gh} {w0:World} {C:Exit->Act->World->Prop}
end
end Go.AM
