/-
  The abstract machine: a slice that the function built itself is sorted in place, and returned.
  Conditions: none; it speaks of any program.
-/
import Derived.Test.YtchhkifidbkjcaaAmZ
import Derived.Sort.OwnSortedInts
set_option linter.all false
namespace Go.AM
open Go Go.RowKit
section
variable {P:Program} {N:Nat} {G0:Gh} {w0:World} {C:Exit->Act->World->Prop} {Q:Exit->Fr->zaa->Nat->Prop}
end
def ziI (zs:List Int):List (List AV):=zs.map fun z=>[.v (.int .i64 z)]
theorem zr4 {G:Gh} {H:zaa} {w:World} (zs:List Int):RowVR G H w 1 (ziI zs) (zs.map (Value.int .i64)):=by
 refine ⟨by simp [ziI],fun e he=>?_,fun x hx=>?_,fun i j e c x hi hj hx=>?_⟩
 ·obtain ⟨z,_,rfl⟩:=List.mem_map.1 he;rfl
 ·obtain ⟨z,_,rfl⟩:=List.mem_map.1 hx;rfl
 ·unfold ziI at hi
  rw [List.getElem?_map] at hi
  cases hz:zs[i]? with
  | none=>rw [hz] at hi;cases hi
  | some z =>
   rw [hz] at hi
   injection hi with hi
   subst hi
   cases j with
   | zero =>
    simp at hj
    subst hj
    rw [Nat.mul_one,Nat.add_zero,List.getElem?_map,hz] at hx
    injection hx with hx
    subst hx
    exact .v _
   | succ j=>simp at hj
theorem zoN (zs:List Int):∀e,e∈ziI zs->∀c,c∈e->Flat c:=fun e he c hc=>by
 obtain ⟨z,_,rfl⟩:=List.mem_map.1 he
 simp at hc
 subst hc
 exact ⟨_,rfl⟩
structure Built (G0:Gh) (w0:World) (e:TypeId) (zs:List Int) (u:Value) (ds:List Deferred) (w:World):Prop where
 own:w.ownsRow 0 e 1 u zs.length (zs.map (Value.int .i64))
 new:∀b,u.ownBlock=some b->w0.heap.size<=b
 old:∀b,b<w0.heap.size->w.heap[b]?=w0.heap[b]?
 size:w0.heap.size<=w.heap.size
 os:w.os=w0.os
 tape:w.tape=w0.tape
 output:w.output=w0.output
 marks:∃Ds:List Nat,ds=Ds.map (fun D=>{ target:=.collected D,args:=#[] })/\Ds.Nodup/\∀D,D∈Ds->w0.heap.size<=D/\w.heap[D]?=some (.deferred (some []))
 lo0:G0.lo<=w0.heap.size
theorem Built.next {G0:Gh} {w0 w w':World} {e:TypeId} {zs ts:List Int} {u:Value} {ds:List Deferred} (h:Built G0 w0 e zs u ds w) (h1:w'.ownsRow 0 e 1 u ts.length (ts.map (Value.int .i64))) (h2:w'.os=w.os) (h3:w'.tape=w.tape) (h4:w'.output=w.output) (h5:w.heap.size<=w'.heap.size)
  (h6:∀k,k<w.heap.size->u.ownBlock≠some k->w'.heap[k]?=w.heap[k]?):Built G0 w0 e ts u ds w':=by
 refine ⟨h1,h.new,fun b hb=>?_,Nat.le_trans h.size h5,h2.trans h.os,h3.trans h.tape,h4.trans h.output,?_,h.lo0⟩
 ·rw [h6 b (Nat.lt_of_lt_of_le hb h.size) (fun hu=>by have:=h.new b hu;omega)]
  exact h.old b hb
 ·obtain ⟨Ds,d1,d2,d3⟩:=h.marks
  refine ⟨Ds,d1,d2,fun D hD=>⟨(d3 D hD).1,?_⟩⟩
  have hd:=(d3 D hD).2
  rw [h6 D (Array.getElem?_eq_some_iff.1 hd).1 (fun hu=>?_)]
  ·exact hd
  ·rcases h.own.2 with ⟨q1,_⟩ | ⟨g,cap,cur,q1,_,q3,_⟩
   ·rw [q1] at hu;cases hu
   ·rw [q1] at hu
    injection hu with hu
    have hu:g=D:=hu
    subst hu
    rw [hd] at q3
    cases q3
section
variable {P:Program} {N:Nat} {G0:Gh} {w0:World} {C:Exit->Act->World->Prop}
end
theorem zmz (x:Int):∀l:List Int,(ins x l).Perm (x::l)
 | []=>.refl _
 | y::l=>by
  unfold ins
  split
  ·exact .refl _
  ·exact ((zmz x l).cons y).trans (.swap x y l)
theorem zd2:∀l:List Int,(zgp l).Perm l
 | []=>.refl _
 | x::l=>(zmz x (zgp l)).trans ((zd2 l).cons x)
theorem zl2 {x:Int}:∀{l:List Int},l.Pairwise (·<=·)->(ins x l).Pairwise (·<=·)
 | [],_=>by simp [ins]
 | y::l,h=>by
  have h':=List.pairwise_cons.1 h
  unfold ins
  split
  ·rename_i hxy
   exact List.pairwise_cons.2 ⟨fun z hz=>by
    rcases List.mem_cons.1 hz with rfl | hz
    ·exact hxy
    ·exact Int.le_trans hxy (h'.1 z hz),h⟩
  ·rename_i hxy
   refine List.pairwise_cons.2 ⟨fun z hz=>?_,zl2 h'.2⟩
   rcases List.mem_cons.1 ((zmz x l).mem_iff.1 hz) with rfl | hz
   ·omega
   ·exact h'.1 z hz
theorem zfh:∀l:List Int,(zgp l).Pairwise (·<=·)
 | []=>.nil
 | x::l=>zl2 (zfh l)
theorem zny {l l':List Int} (h:l.Perm l') (hl:l.Pairwise (·<=·)) (hl':l'.Pairwise (·<=·)):l=l':=by
 induction l generalizing l' with
 | nil=>exact (List.nil_perm.1 h).symm
 | cons x l ih =>
  cases l' with
  | nil=>exact absurd h.length_eq (by simp)
  | cons y l' =>
   have a:=List.pairwise_cons.1 hl
   have b:=List.pairwise_cons.1 hl'
   have hxy:x=y:=by
    have h1:x<=y:=by
     rcases List.mem_cons.1 (h.mem_iff.2 (List.mem_cons_self (a:=y) (l:=l'))) with e | e
     ·omega
     ·exact a.1 y e
    have h2:y<=x:=by
     rcases List.mem_cons.1 (h.mem_iff.1 (List.mem_cons_self (a:=x) (l:=l))) with e | e
     ·omega
     ·exact b.1 x e
    omega
   subst hxy
   rw [ih (List.Perm.cons_inv h) a.2 b.2]
theorem ziJ {l l':List Int} (h:l.Perm l'):zgp l=zgp l':=zny ((zd2 l).trans (h.trans (zd2 l').symm)) (zfh l) (zfh l')
theorem zkJ (l:List Int):(l.mergeSort fun x y=>decide (x<=y))=zgp l:=by
 refine zny ((List.mergeSort_perm l _).trans (zd2 l).symm) ?_ (zfh l)
 have:=List.pairwise_mergeSort (le:=fun x y:Int=>decide (x<=y)) (fun a b c h1 h2=>by simp only [decide_eq_true_eq] at *;omega) (fun a b=>by simp only [Bool.or_eq_true,decide_eq_true_eq];omega) l
 exact this.imp fun h=>by simpa using h
end Go.AM
