/-
  What the arguments of the laws stand for (printed by rows.py).
  Conditions: none.
-/
import Derived.Test.YtebfppngmmdfkaaAmU
import Derived.Test.YtebfppngmmdfkaaMd
import Derived.Test.YtebfppngmmdfkaaTy
import Derived.Test.YtebfppngmmdfkaaRows
import Derived.ChangeSame
import Derived.JoinedOf
import Derived.JoinedAt
import Derived.RowKit3
import Derived.ReadAgain
set_option linter.all false
namespace Go.Proofs.Ytebfppngmmdfkaa
open Go Go.AM Go.Law
open Go.ChangeShapes Go.WideShapes Go.ChangeAt Go.RowKit
theorem zwd:ownKnob Try.prog.godebug=none:=by kernel_rfl
def I64 (n:Int):Prop:=(Lit.int .i64 n).wf=true
theorem zv0:Kids Try.prog (·<Try.prog.types.size):=kids_rows (by kernel_rfl) (by kernel_rfl)
theorem zv1:∀t e,t<Try.prog.types.size->Try.prog.underlying t=some (.slice e)->0<Try.prog.cellsOf e:=slices_full_of Try.prog (by kernel_rfl)
section
variable {T:Type} {enc:TypeId×Value->T}
theorem u4:Try.prog.underlying 4=some .bool:=by kernel_rfl
theorem c4:Try.prog.cellsOf 4=1:=by kernel_rfl
theorem u3:Try.prog.underlying 3=some (.int .i64):=by kernel_rfl
theorem c3:Try.prog.cellsOf 3=1:=by kernel_rfl
theorem rd3:Reads enc Try.prog 3 cI I64:=zqf u3
theorem u22:Try.prog.underlying 22=some (.slice 3):=by kernel_rfl
theorem c22:Try.prog.cellsOf 22=1:=by kernel_rfl
theorem zwe:Reads enc Try.prog 22 (cL 1 cI) (fun l=>∀c,c∈l->I64 c):=zkF u22 c3 (by decide) (fun _=>rfl) rd3
def Pulse.wf (s:Pulse):Prop:=I64 s.Letters/\I64 s.Numbers/\I64 s.Pitch/\I64 s.Slack/\I64 s.Gap/\I64 s.Pause/\I64 s.Sparks/\(∀c,c∈s.Times->I64 c)
theorem zwb:structOf Try.prog 24=some [(0,3),(1,3),(2,3),(3,3),(4,3),(5,3),(6,3),(7,22)]:=by kernel_rfl
theorem c24:Try.prog.cellsOf 24=8:=by kernel_rfl
theorem zwf:Reads enc Try.prog 24 Pulse.cells Pulse.wf :=
 (zjM zwb (fun _=>by simp [c24]) (zcP c3 (fun _=>rfl) rd3 (zcP c3 (fun _=>rfl) rd3 (zcP c3 (fun _=>rfl) rd3 (zcP c3 (fun _=>rfl) rd3 (zcP c3 (fun _=>rfl) rd3 (zcP c3 (fun _=>rfl) rd3 (zcP c3 (fun _=>rfl) rd3 (zcP c22 (fun _=>rfl) zwe (zlB _)))))))))).map
  (fun q=>⟨q.1,q.2.1,q.2.2.1,q.2.2.2.1,q.2.2.2.2.1,q.2.2.2.2.2.1,q.2.2.2.2.2.2.1,q.2.2.2.2.2.2.2.1⟩) (fun _=>rfl) (fun q h=>⟨h.1,h.2.1,h.2.2.1,h.2.2.2.1,h.2.2.2.2.1,h.2.2.2.2.2.1,h.2.2.2.2.2.2.1,h.2.2.2.2.2.2.2.1⟩)
def WireFault.wf (s:WireFault):Prop:=I64 s.Kind/\I64 s.A/\I64 s.B
theorem zwg:structOf Try.prog 33=some [(0,3),(1,3),(2,3)]:=by kernel_rfl
theorem c33:Try.prog.cellsOf 33=3:=by kernel_rfl
theorem zwh:Reads enc Try.prog 33 WireFault.cells WireFault.wf :=
 (zjM zwg (fun _=>by simp [c33]) (zcP c3 (fun _=>rfl) rd3 (zcP c3 (fun _=>rfl) rd3 (zcP c3 (fun _=>rfl) rd3 (zlB _))))).map
  (fun q=>⟨q.1,q.2.1,q.2.2.1⟩) (fun _=>rfl) (fun q h=>⟨h.1,h.2.1,h.2.2.1⟩)
theorem u25:Try.prog.underlying 25=some (.slice 33):=by kernel_rfl
theorem zwi:Reads enc Try.prog 25 (cL 3 WireFault.cells) (fun l=>∀c,c∈l->WireFault.wf c):=zkF u25 c33 (by decide) (fun _=>rfl) zwh
end
end Go.Proofs.Ytebfppngmmdfkaa
