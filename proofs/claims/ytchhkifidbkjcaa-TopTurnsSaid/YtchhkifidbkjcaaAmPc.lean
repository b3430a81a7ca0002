/-
  The abstract machine: slices of a known length whose cells may be written to.
  Conditions: none; it speaks of any program.
-/
import Derived.Test.YtchhkifidbkjcaaAmPb
import Derived.Test.YtchhkifidbkjcaaAmLw
import Derived.Test.YtchhkifidbkjcaaAmWq
set_option linter.all false
namespace Go.AM
open Go Go.RowKit
theorem zmE:zxp [] []:=⟨rfl,fun i a b h1 h2=>by simp at h1,fun i j a b c c' h1 h2 h3 h4=>by simp at h1⟩
theorem zkN {e d:List AV} {es ds:List (List AV)} (h:LeL e d) (t:zxp es ds):zxp (e::es) (d::ds):=by
 obtain ⟨hl,hk,hh⟩:=t
 refine ⟨by simp [hl],fun i a b h1 h2=>?_,fun i j a b c c' h1 h2 h3 h4=>?_⟩
 ·rcases i with _ | i
  ·simp at h1 h2
   subst h1 h2
   exact h.get.1
  ·exact hk i a b (by simpa using h1) (by simpa using h2)
 ·rcases i with _ | i
  ·simp at h1 h2
   subst h1 h2
   exact h.get.2 j _ _ h3 h4
  ·exact hh i j a b c c' (by simpa using h1) (by simpa using h2) h3 h4
theorem zl3 {α:Type}:∀{L:List α} {m:Nat} {x:α},L[m]?=some x->(L.eraseIdx m++[x]).Perm L
 | [],_,_,h=>by simp at h
 | y::L,0,x,h=>by
  simp at h
  subst h
  exact List.perm_append_comm (l₁:=L) (l₂:=[y])
 | y::L,m+1,x,h=>List.Perm.cons y (zl3 (by simpa using h))
section
variable {P:Program} {N:Nat} {l:List (Nat×AV)} {H:zaa} {g:Nat} {lim:Option Nat} {g0 i:Nat} {ops:Array Oper} {K:Fr->zaa->Nat->Prop} {r:List Oper} {d:Nat} {ty:TypeId} {pos:String} {after:Array Edge}
 {O:Nat->Prop} {H0:zaa} {L L':BL} {b:Nat}
end
section
variable {P:Program} {N:Nat} {Q:Exit->Fr->zaa->Nat->Prop} {l:List (Nat×AV)} {H:zaa} {g:Nat} {b:Code} {O:Nat->Prop} {H0:zaa} {L L':List (Nat×Blk)} {bd:Nat}
theorem zwz {i t k q:Nat} {es:List (List AV)} (m:Nat) (hS:St O H0 L H bd) (hm:L[m]?=some (i,.cells es.flatten)) (ht:lk l t=.ms i 0 k q q) (hq:q=es.length) (hpos:0<q) (hk:0<k) (hes:∀e,e∈es->e.length=k) (hfl:∀e,e∈es->∀c,c∈e->Flat c) (hL:L.eraseIdx m=L')
  (h:∀H',St O H0 L' H' bd->Exit.thenA (fun fr' H' g'=>∃fr0 H0 g0,zjc fr' H' g' fr0 H0 g0/\wpA P N b Q fr0 H0 g0) Q .normal (Fr.of ((t,.sl .no k es)::l)) H' g) :
  Exit.thenA (fun fr' H' g'=>∃fr0 H0 g0,zjc fr' H' g' fr0 H0 g0/\wpA P N b Q fr0 H0 g0) Q .normal (Fr.of l) H g:=by
 subst hL
 have hne:es≠[]:=fun e=>by subst e;subst hq;exact absurd hpos (by decide)
 have e2:zfx i es=[(i,.cells es.flatten)]:=by unfold zfx;rw [if_neg hne]
 refine zwm (i:=i) (k:=k) (es:=es) (Lp:=L.eraseIdx m) (by rw [e2];exact hS.perm (zl3 hm)) ?_ hk hes hfl h
 rw [ht,hq]
 unfold msl
 rw [if_neg hne]
end
end Go.AM
