/-
  The abstract machine: queues, and calls of which it is open which blocks they leave.
  Conditions: none; it speaks of any program.
-/
import Derived.Test.YtclaalcoefcljaaAmMv
set_option linter.all false
namespace Go.AM
open Go Go.RowKit
def zvd (P:Program) (f:FuncId) (as:List AV) (M:BL) (T:Nat->AV->BL->Prop):Prop :=
 ∀H g,zbT H g->Has H M->zpa P f as H g fun v H' g'=>∃M',T g v M'/\(∀i,i<g->i∉ids M->H' i=H i)/\Has H' M'/\zbT H' g'/\g<=g'/\(ids M').Nodup/\∀i,i∈ids M'->i∈ids M\/g<=i
section
variable {P:Program} {N:Nat} {l:List (Nat×AV)} {H:zaa} {g:Nat} {lim:Option Nat} {g0 i:Nat} {ops:Array Oper} {K:Fr->zaa->Nat->Prop} {r:List Oper} {d:Nat} {ty:TypeId} {pos:String} {after:Array Edge}
 {O:Nat->Prop} {H0:zaa} {L M:BL} {b:Nat}
theorem St.rsat {M':BL} {H':zaa} {g':Nat} (hS:St O H0 (M++L) H b) (hb:b<=g) (h1:∀i,i<g->i∉ids M->H' i=H i) (h2:Has H' M') (h3:zbT H' g') (h4:g<=g') (h5:(ids M').Nodup) (h6:∀i,i∈ids M'->i∈ids M\/g<=i):St O H0 (M'++L) H' g':=by
 have hnd:=hS.nd
 rw [List.map_append,List.nodup_append] at hnd
 have hO:∀i,i∈ids M->¬O i:=fun i hi=>by
  obtain ⟨p,hp,rfl⟩:=List.mem_map.1 hi
  exact (hS.has p (List.mem_append.2 (.inl hp))).1
 refine ⟨fun i hi=>?_,fun p hp=>?_,?_,h3⟩
 ·have:=hS.old i hi
  exact ⟨by omega,by rw [h1 i (by omega) (fun hm=>hO i hm hi)];exact this.2⟩
 ·rcases List.mem_append.1 hp with hp | hp
  ·have hv:=h2 p hp
   refine ⟨fun ho=>?_,?_,hv⟩
   ·rcases h6 p.1 (List.mem_map.2 ⟨p,hp,rfl⟩) with h | h
    ·exact hO _ h ho
    ·have:=(hS.old _ ho).1;omega
   ·rcases Nat.lt_or_ge p.1 g' with h | h
    ·exact h
    ·rw [h3 _ h] at hv;cases hv
  ·obtain ⟨q1,q2,q3⟩:=hS.has p (List.mem_append.2 (.inr hp))
   refine ⟨q1,by omega,?_⟩
   rw [h1 p.1 (by omega) (fun hm=>hnd.2.2 _ hm _ (List.mem_map.2 ⟨p,hp,rfl⟩) rfl)]
   exact q3
 ·rw [List.map_append,List.nodup_append]
  refine ⟨h5,hnd.2.1,fun x hx y hy e=>?_⟩
  subst e
  rcases h6 x hx with h | h
  ·exact hnd.2.2 _ h _ hy rfl
  ·obtain ⟨p,hp,rfl⟩:=List.mem_map.1 hy
   have:=(hS.has p (List.mem_append.2 (.inr hp))).2.1
   omega
end
end Go.AM
