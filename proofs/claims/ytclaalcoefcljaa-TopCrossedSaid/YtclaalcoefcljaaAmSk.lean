/-
  The abstract machine: a function that returns what names a new map of its own.
  Conditions: none; it speaks of any program.
-/
import Derived.Test.YtclaalcoefcljaaAmRg
set_option linter.all false
namespace Go.AM
open Go Go.RowKit
def zve (O:Nat->Prop) (H:zaa) (c e:Nat):Prop:=∀q,c<=q->q<e->H q=none/\¬O q
theorem St.addU {O:Nat->Prop} {H0 H:zaa} {L:BL} {b:Nat} (h:St O H0 L H b) {i:Nat} (x:Blk) (hi:H i=none/\¬O i) (hb:i<b):St O H0 ((i,x)::L) (H.set i x) b:=by
 have hne:∀p,p∈L->p.1≠i:=fun p hp e=>by
  have:=(h.has p hp).2.2
  rw [e,hi.1] at this
  cases this
 refine ⟨fun j hj=>?_,fun p hp=>?_,?_,fun j hj=>by rw [zaa.set_ne _ _ (by omega)];exact h.fr j hj⟩
 ·have:=h.old j hj
  exact ⟨this.1,by rw [zaa.set_ne _ _ (show j≠i from fun e=>hi.2 (by rw [←e];exact hj))];exact this.2⟩
 ·rcases List.mem_cons.1 hp with rfl | hp
  ·exact ⟨hi.2,hb,zaa.set_same _ _ _⟩
  ·have:=h.has p hp
   exact ⟨this.1,this.2.1,by rw [zaa.set_ne _ _ (hne p hp)];exact this.2.2⟩
 ·rw [List.map_cons,List.nodup_cons]
  refine ⟨fun hm=>?_,h.nd⟩
  obtain ⟨p,hp,e⟩:=List.mem_map.1 hm
  exact hne p hp e
def zq4 (P:Program) (f:FuncId) (as:List AV) (mk:Nat->AV) (p:Obj->Prop) (k:Nat):Prop:=∀H g,zbT H g->Sat P f as H g (mk (g+k)) (H.set (g+k) (.obj none p)) (g+k+1)
theorem zq4.le {P:Program} {f:FuncId} {as bs:List AV} {mk:Nat->AV} {p:Obj->Prop} {k:Nat} (h:zq4 P f as mk p k) (hl:LeL as bs):zq4 P f bs mk p k:=fun H g hf =>
 ⟨(h H g hf).1,fun G w vs hp hv=>(h H g hf).2 G w vs hp (hv.le hl)⟩
section
variable {P:Program} {N:Nat} {l:List (Nat×AV)} {H:zaa} {g:Nat} {lim:Option Nat} {g0 i:Nat} {ops:Array Oper} {K:Fr->zaa->Nat->Prop} {r:List Oper} {d:Nat} {ty:TypeId} {pos:String} {after:Array Edge}
 {O:Nat->Prop} {H0:zaa} {L L':List (Nat×Blk)} {b:Nat}
theorem zpD {t:TypeId} {cs:List AV} {c e:Nat} (hS:St O H0 L H b) (hU:zve O H c e) (hd:d<N) (hz:zc6 P t=some cs) (hc:c<=g0+i) (he:g0+i<e) (hb:e<=b)
  (h:∀H',St O H0 ((g0+i,.cells cs)::L) H' b->zve O H' (g0+i+1) e->zaX P N lim g0 ops K (i+1) r (Fr.of ((d,.ptr (g0+i) 0)::l)) H' g):zaX P N lim g0 ops K i (⟨some d,.alloc t,ty,pos,after,none⟩::r) (Fr.of l) H g :=
 zbw (wr:=some (g0+i,.cells cs)) hd rfl (by cases lim<;>rfl) (by simp [zaE,hz]) (h _ (hS.addU _ (hU _ hc he) (by omega)) fun q h1 h2=>⟨by show (H.set _ _) q=none;rw [zaa.set_ne _ _ (by omega)];exact (hU q (by omega) h2).1,(hU q (by omega) h2).2⟩)
end
end Go.AM
