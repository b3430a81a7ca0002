/-
  The abstract machine: slices of a known length whose cells may be written to.
  Conditions: none; it speaks of any program.
-/
import Derived.Test.YtebfppngmmdfkaaGreatAmPb
import Derived.Test.YtebfppngmmdfkaaGreatAmLw
import Derived.Test.YtebfppngmmdfkaaGreatAmWq
set_option linter.all false
namespace Go.AM
open Go Go.RowKit
def ztP {α:Type} (n:Nat) (xs:List α) (z:Int):Option α:=if xs.length=n then idx xs z else none
theorem zpm {α:Type} {n:Nat} {xs:List α} {z:Int} {u:α} (h:ztP n xs z=some u):n=xs.length:=by
 unfold ztP at h
 split at h
 ·rename_i e;exact e.symm
 ·cases h
theorem zkB {α:Type} {n:Nat} {xs:List α} {z:Int} {u:α} (h:ztP n xs z=some u):idx xs z=some u:=by
 unfold ztP at h
 split at h
 ·exact h
 ·cases h
def zwA {α:Type} (n:Nat) (xs:List α):Option Unit:=if xs.length=n/\0<n then some () else none
theorem zs1 {α:Type} {n:Nat} {xs:List α} {u:Unit} (h:zwA n xs=some u):n=xs.length:=by
 unfold zwA at h
 split at h
 ·rename_i e;exact e.1.symm
 ·cases h
theorem zs2:zwz [] []:=⟨rfl,fun i a b h1 h2=>by simp at h1,fun i j a b c c' h1 h2 h3 h4=>by simp at h1⟩
theorem zrw {e d:List AV} {es ds:List (List AV)} (h:LeL e d) (t:zwz es ds):zwz (e::es) (d::ds):=by
 obtain ⟨hl,hk,hh⟩:=t
 refine ⟨by simp [hl],fun i a b h1 h2=>?_,fun i j a b c c' h1 h2 h3 h4=>?_⟩
 ·rcases i with _ | i
  ·simp at h1 h2
   subst h1 h2
   exact h.get.1
  ·exact hk i a b (by simpa using h1) (by simpa using h2)
 ·rcases i with _ | i
  ·simp at h1 h2
   subst h1 h2
   exact h.get.2 j _ _ h3 h4
  ·exact hh i j a b c c' (by simpa using h1) (by simpa using h2) h3 h4
section
variable {P:Program} {N:Nat} {l:List (Nat×AV)} {H:zab} {g:Nat} {lim:Option Nat} {g0 i:Nat} {ops:Array Oper} {K:Fr->zab->Nat->Prop} {r:List Oper} {d:Nat} {ty:TypeId} {pos:String} {after:Array Edge}
 {O:Nat->Prop} {H0:zab} {L L':BL} {b:Nat}
end
section
variable {P:Program} {N:Nat} {Q:Exit->Fr->zab->Nat->Prop} {l:List (Nat×AV)} {H:zab} {g:Nat} {b:Code} {O:Nat->Prop} {H0:zab} {L L':List (Nat×Blk)} {bd:Nat}
end
end Go.AM
