/-
  The abstract machine: from a contract to the call of a law.
  Conditions: none; it speaks of any program.
-/
import Derived.Test.YtenogpmlhpcibaaAmR
import Derived.Below
set_option linter.all false
namespace Go.AM
open Go Go.RowKit
theorem zna {P:Program} {f:FuncId} {as:List AV} {x:Value} (hs:zaD P f as (.v x)) {G:Gh} {w:World} {vs:Array Value} (hv:VRs G HE w as vs) :
  Calls P f vs w fun e w'=>e=.returned x/\Below w.heap.size w w':=by
 refine ((hs HE 0 fun _ _=>rfl).2 G w vs (zt2 G w) hv).mono fun e w' h=>?_
 obtain ⟨v,G',rfl,_,_,hE,hvr⟩:=h
 have hx:v=x:=by cases hvr;rfl
 subst hx
 have him:∀b,¬Im G HE b:=fun b h=>by
  rcases h with ⟨i,cs,hi,_⟩ | ⟨i,e,n,hi,_⟩ | ⟨i,k,p,hi,_⟩
  ·exact zgw hi
  ·exact zgw hi
  ·exact zgw hi
 exact ⟨rfl,by
  constructor
  all_goals first | exact hE.os | exact hE.tape | exact hE.output | exact hE.size | exact fun b hb=>hE.block b hb (him b) | skip⟩
end Go.AM
