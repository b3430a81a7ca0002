/-
  The rows: arguments of any shape, and the contract that a row asks for.
  Conditions: none; it speaks of any program.
-/
import Derived.Test.YtenogpmlhpcibaaAmT
import Derived.RowKit3
set_option linter.all false
namespace Go.AM
open Go Go.RowKit Go.WideShapes Go.ChangeShapes
section
variable {T:Type} {enc:TypeId×Value->T} {P:Program}
def zrM (enc:TypeId×Value->T) (P:Program) (t:TypeId) {α:Type} (g:α->AV) (wf:α->Prop):Prop :=
 ∀(G:Gh) (w:World) (base:Nat) (sp:Nat->Bool) (held:Bool) (b0:Nat) (v:Value) (d:DataW T) (p:List MemPlace),Value.okWide P w .any b0 t v->DataW.Trod enc P w base sp held t v d p->∃a,wf a/\VR G HE w (g a) v
theorem zqr {t:TypeId} {fl:List (Nat×TypeId)} {α:Type} {f:α->List AV} {wf:α->Prop} (ht:structOf P t=some fl) (hR:Reads enc P t f wf):zrM enc P t (fun a=>.agg (f a)) wf:=by
 intro G w base sp held b0 v d p hv hd
 obtain ⟨fs,hfs⟩:=zrL ht
 obtain ⟨cs,rfl,_⟩:=okWide_struct hfs hv
 exact zuG hR G hd
def zAk (enc:TypeId×Value->T) (P:Program) (ts:List TypeId) {α:Type} (g:α->List AV) (wf:α->Prop):Prop :=
 ∀(G:Gh) (w:World) (base:Nat) (sp:Nat->Bool) (held:Bool) (b0:Nat) (vs:List Value) (ds:List (DataW T)) (p:List MemPlace),
  (∀(j:Nat) t v,ts[j]?=some t->vs[j]?=some v->Value.okWide P w .any b0 t v)->DataW.TrodAll enc P w base sp held ts vs ds p ->
  ∃a,wf a/\vs.length=(g a).length/\ds.length=ts.length/\∀(i:Nat) (c:AV) (v:Value),(g a)[i]?=some c->vs[i]?=some v->VR G HE w c v
end
end Go.AM
