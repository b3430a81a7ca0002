/-
  The abstract machine: maps whose values are of any type.
  Conditions: none; it speaks of any program.
-/
import Derived.Test.YtebfppngmmdfkaaGreatAmLw
set_option linter.all false
namespace Go.AM
open Go Go.RowKit
section
variable {κ ν:Type} [DecidableEq κ] {kv:κ->Value} {cv:ν->Value}
def mpw (kv:κ->Value) (cv:ν->Value) (M:List (κ×ν)):List (Value×Value):=M.map fun p=>(kv p.1,cv p.2)
theorem KeysAre.okW {P:Program} {kt:TypeId} {ok:κ->Bool} (K:KeysAre P kt ok kv) {M:List (κ×ν)} {k:κ} (h:mok ok M k=true):zqA P kt (mpw kv cv M) (kv k):=by
 simp only [mok,Bool.and_eq_true,decide_eq_true_eq] at h
 obtain ⟨⟨h1,h2⟩,h3⟩:=h
 refine ⟨K.keyed,K.key _ h1,fun p hp=>?_,?_⟩
 ·obtain ⟨q,hq,rfl⟩:=List.mem_map.1 hp
  exact K.key _ (List.all_eq_true.1 h2 q hq)
 ·have:(mpw kv cv M).map (·.1)=(M.map (·.1)).map kv:=by simp [mpw]
  rw [this]
  exact List.Pairwise.map _ (fun a b hab e=>hab (K.inj _ _ e)) h3
end
section
variable {P:Program} {N:Nat} {l:List (Nat×AV)} {H:zab} {g:Nat} {lim:Option Nat} {g0 i:Nat} {ops:Array Oper} {K:Fr->zab->Nat->Prop} {r:List Oper} {d:Nat} {ty:TypeId} {pos:String} {after:Array Edge}
 {O:Nat->Prop} {H0:zab} {L Lp:List (Nat×Blk)} {b:Nat} {κ ν:Type} [DecidableEq κ] {kv:κ->Value} {cv:ν->Value} {ok:κ->Bool}
end
end Go.AM
