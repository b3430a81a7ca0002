/-
  What the arguments of the laws stand for (printed by rows.py).
  Conditions: none.
-/
import Derived.Test.YtenogpmlhpcibaaAmU
import Derived.Test.YtenogpmlhpcibaaMd
import Derived.Test.YtenogpmlhpcibaaTy
import Derived.Test.YtenogpmlhpcibaaRows
import Derived.ChangeSame
import Derived.JoinedOf
import Derived.JoinedAt
import Derived.RowKit3
import Derived.ReadAgain
set_option linter.all false
namespace Go.Proofs.Ytenogpmlhpcibaa
open Go Go.AM Go.Law
open Go.ChangeShapes Go.WideShapes Go.ChangeAt Go.RowKit
theorem zA2:ownKnob Try.prog.godebug=none:=by kernel_rfl
def I64 (n:Int):Prop:=(Lit.int .i64 n).wf=true
theorem zAP:Kids Try.prog (·<Try.prog.types.size):=kids_rows (by kernel_rfl) (by kernel_rfl)
theorem zAQ:∀t e,t<Try.prog.types.size->Try.prog.underlying t=some (.slice e)->0<Try.prog.cellsOf e:=slices_full_of Try.prog (by kernel_rfl)
section
variable {T:Type} {enc:TypeId×Value->T}
theorem u4:Try.prog.underlying 4=some .bool:=by kernel_rfl
theorem c4:Try.prog.cellsOf 4=1:=by kernel_rfl
theorem u3:Try.prog.underlying 3=some (.int .i64):=by kernel_rfl
theorem c3:Try.prog.cellsOf 3=1:=by kernel_rfl
theorem rd3:Reads enc Try.prog 3 cI I64:=zrK u3
theorem u22:Try.prog.underlying 22=some (.slice 3):=by kernel_rfl
theorem c22:Try.prog.cellsOf 22=1:=by kernel_rfl
theorem zAR:Reads enc Try.prog 22 (cL 1 cI) (fun l=>∀c,c∈l->I64 c):=zov u22 c3 (by decide) (fun _=>rfl) rd3
def Wheel.wf (s:Wheel):Prop:=I64 s.Round/\(∀c,c∈s.Notches->I64 c)/\(∀c,c∈s.Coins->I64 c)
theorem zA0:structOf Try.prog 24=some [(0,3),(1,22),(2,22)]:=by kernel_rfl
theorem c24:Try.prog.cellsOf 24=3:=by kernel_rfl
theorem zA3:Reads enc Try.prog 24 Wheel.cells Wheel.wf :=
 (znk zA0 (fun _=>by simp [c24]) (zin c3 (fun _=>rfl) rd3 (zin c22 (fun _=>rfl) zAR (zin c22 (fun _=>rfl) zAR (zqq _))))).map
  (fun q=>⟨q.1,q.2.1,q.2.2.1⟩) (fun _=>rfl) (fun q h=>⟨h.1,h.2.1,h.2.2.1⟩)
end
end Go.Proofs.Ytenogpmlhpcibaa
