/-
  The abstract machine: rules for slices whose elements are written to, and that grow.
  Conditions: none; it speaks of any program.
-/
import Derived.Test.YtebfppngmmdfkaaGreatAmZ
set_option linter.all false
namespace Go.AM
open Go Go.RowKit
def zwz (es ds:List (List AV)):Prop:=es.length=ds.length/\(∀(i:Nat) (e d:List AV),es[i]?=some e->ds[i]?=some d->e.length=d.length)/\∀(i j:Nat) (e d:List AV) (c c':AV),es[i]?=some e->ds[i]?=some d->e[j]?=some c->d[j]?=some c'->Le c c'
section
variable {P:Program} {N:Nat} {l:List (Nat×AV)} {H:zab} {g:Nat} {g0 i:Nat} {ops:Array Oper} {K:Fr->zab->Nat->Prop} {r:List Oper} {d:Nat} {ty:TypeId} {pos:String} {after:Array Edge}
 {O:Nat->Prop} {H0:zab} {L:List (Nat×Blk)} {b:Nat}
theorem St.ice {j:Nat} {cs:List AV} (hS:St O H0 ((j,.cells cs)::L) H b):St O H0 L (H.set j .ice) b:=by
 have hj:=hS.has (j,.cells cs) (by simp)
 have hnd:=hS.nd
 simp only [List.map_cons,List.nodup_cons] at hnd
 refine ⟨fun k hk=>⟨(hS.old k hk).1,(zab.set_ne _ _ (show k≠j from fun e=>hj.1 (by subst e;exact hk))).trans (hS.old k hk).2⟩,fun p hp=>?_,hnd.2,fun k hk=>?_⟩
 ·have:=hS.has p (List.mem_cons_of_mem _ hp)
  refine ⟨this.1,this.2.1,?_⟩
  rw [zab.set_ne _ _ (fun e=>hnd.1 (List.mem_map.2 ⟨p,hp,e⟩))]
  exact this.2.2
 ·rw [zab.set_ne _ _ (by have:=hj.2.1;omega)]
  exact hS.fr k hk
theorem zmD {t:TypeId} {n k:Nat} {e:TypeId} {ps:Array (Nat×Operand)} {es es':List (List AV)} (hS:St O H0 L H b) (hd:d<N) (hk:zaR P t=some k) (he:zc6 P t=some e) (hp:zcX k 0 (ps.toList.map fun q=>(q.1,evL N l q.2))=some es) (hf:zb0 P t=true) (hn:es.length=n) (hnk:n*k<=1048576) (hb:b<=g0+i)
  (hle:Le (.sl (.id (g0+i)) k es') (.sl (.id (g0+i)) k es))
  (h:∀H',St O H0 ((g0+i,.row e n)::L) H' (g0+i+1)->za1 P N none g0 ops K (i+1) r (Fr.of ((d,.sl (.id (g0+i)) k es')::l)) H' g):za1 P N none g0 ops K i (⟨some d,.buildSlice t n ps,ty,pos,after,none⟩::r) (Fr.of l) H g :=
 zsD (v:=.sl (.id (g0+i)) k es) (wr:=some (g0+i,.row e n)) hd rfl rfl (by simp only [zaE,hk,hp,Option.bind_some];rw [if_pos ⟨hf,hn,hnk⟩];simp only [he,Option.bind_some]) hle (h _ (hS.add _ hb))
theorem zsX {t:Tag} {k:Nat} {es ds:List (List AV)} (h:zwz es ds):Le (.sl t k es) (.sl t k ds):=by
 obtain ⟨hl,hk,hh⟩:=h
 exact .slE t k es ds hl hk hh
section
variable {κ:Type} [DecidableEq κ] {kv:κ->Value} {ok:κ->Bool} {lim:Option Nat}
end
end
end Go.AM
