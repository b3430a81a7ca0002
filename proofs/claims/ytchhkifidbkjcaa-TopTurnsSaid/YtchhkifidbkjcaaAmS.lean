/-
  The abstract machine: from a contract to the call of a law.
  Conditions: none; it speaks of any program.
-/
import Derived.Test.YtchhkifidbkjcaaAmR
import Derived.Below
set_option linter.all false
namespace Go.AM
open Go Go.RowKit
theorem zmr {P:Program} {f:FuncId} {as:List AV} {x:Value} (hs:zaR P f as (.v x)) {G:Gh} {w:World} {vs:Array Value} (hv:VRs G HE w as vs) (hlo:G.lo<=w.heap.size:=by exact Nat.zero_le _) :
  Calls P f vs w fun e w'=>e=.returned x/\Below w.heap.size w w':=by
 refine ((hs HE 0 fun _ _=>rfl).2 G w vs (ztE G w hlo) hv).mono fun e w' h=>?_
 obtain ⟨v,G',rfl,_,_,hE,hvr⟩:=h
 have hx:v=x:=by cases hvr;rfl
 subst hx
 have him:∀b,¬Im G HE b:=fun b h=>by
  rcases h with ⟨i,cs,hi,_⟩ | ⟨i,e,n,hi,_⟩ | ⟨i,k,p,hi,_⟩
  ·exact zfw hi
  ·exact zfw hi
  ·exact zfw hi
 exact ⟨rfl,by
  constructor
  all_goals first | exact hE.os | exact hE.tape | exact hE.output | exact hE.size | exact fun b hb=>hE.block b hb (him b) | skip⟩
theorem zrK {P:Program} {t:TypeId} {fl:List (Nat×TypeId)} (h:structOf P t=some fl):∃fs,P.underlying t=some (.struct fs):=by
 unfold structOf at h
 split at h
 ·exact ⟨_,by assumption⟩
 ·cases h
theorem zu3 {T:Type} {enc:TypeId×Value->T} {P:Program} {t:TypeId} {α:Type} {f:α->List AV} {wf:α->Prop} {w:World} {base:Nat} {sp:Nat->Bool} {held:Bool} {cs:Array Value} {d:DataW T} {p:List MemPlace} (hR:Reads enc P t f wf) (G:Gh)
  (h:DataW.Trod enc P w base sp held t (.agg cs) d p):∃a,wf a/\VR G HE w (.agg (f a)) (.agg cs):=by
 obtain ⟨fuel,hf⟩:=h
 obtain ⟨a,h1,h2,h3⟩:=hR G w base sp held fuel _ _ hf
 have hc:(Value.agg cs).cells.toList=cs.toList:=rfl
 refine ⟨a,h1,.agg _ _ (by rw [h2];simp [Value.cells]) (fun x hx=>?_) fun i c x hc hx=>(h3 i c x hc (by simpa [Value.cells] using hx)).1⟩
 obtain ⟨i,hi⟩:=Array.getElem?_of_mem hx
 have hlt:i<(f a).length:=by rw [h2];have:=(Array.getElem?_eq_some_iff.1 hi).1;simpa [Value.cells] using this
 exact (h3 i _ x (List.getElem?_eq_getElem hlt) (by simpa [Value.cells] using hi)).2
end Go.AM
