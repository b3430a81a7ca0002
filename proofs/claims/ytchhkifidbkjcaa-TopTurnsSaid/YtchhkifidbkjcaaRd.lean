/-
  What the arguments of the laws stand for (printed by rows.py).
  Conditions: none.
-/
import Derived.Test.YtchhkifidbkjcaaAmU
import Derived.Test.YtchhkifidbkjcaaMd
import Derived.Test.YtchhkifidbkjcaaTy
import Derived.Test.YtchhkifidbkjcaaRows
import Derived.ChangeSame
import Derived.JoinedOf
import Derived.JoinedAt
import Derived.RowKit3
import Derived.ReadAgain
set_option linter.all false
namespace Go.Proofs.Ytchhkifidbkjcaa
open Go Go.AM Go.Law
open Go.ChangeShapes Go.WideShapes Go.ChangeAt Go.RowKit
theorem zyM:ownKnob Try.prog.godebug=none:=by kernel_rfl
def I64 (n:Int):Prop:=(Lit.int .i64 n).wf=true
theorem zyx:Kids Try.prog (·<Try.prog.types.size):=kids_rows (by kernel_rfl) (by kernel_rfl)
theorem zyy:∀t e,t<Try.prog.types.size->Try.prog.underlying t=some (.slice e)->0<Try.prog.cellsOf e:=slices_full_of Try.prog (by kernel_rfl)
section
variable {T:Type} {enc:TypeId×Value->T}
theorem u4:Try.prog.underlying 4=some .bool:=by kernel_rfl
theorem c4:Try.prog.cellsOf 4=1:=by kernel_rfl
theorem u3:Try.prog.underlying 3=some (.int .i64):=by kernel_rfl
theorem c3:Try.prog.cellsOf 3=1:=by kernel_rfl
theorem rd3:Reads enc Try.prog 3 cI I64:=zrJ u3
theorem u22:Try.prog.underlying 22=some (.slice 3):=by kernel_rfl
theorem c22:Try.prog.cellsOf 22=1:=by kernel_rfl
theorem zyz:Reads enc Try.prog 22 (cL 1 cI) (fun l=>∀c,c∈l->I64 c):=zoI u22 c3 (by decide) (fun _=>rfl) rd3
def Wheel.wf (s:Wheel):Prop:=I64 s.Round/\(∀c,c∈s.Notches->I64 c)/\(∀c,c∈s.Coins->I64 c)
theorem zyI:structOf Try.prog 24=some [(0,3),(1,22),(2,22)]:=by kernel_rfl
theorem c24:Try.prog.cellsOf 24=3:=by kernel_rfl
theorem zyN:Reads enc Try.prog 24 Wheel.cells Wheel.wf :=
 (zjF zyI (fun _=>by simp [c24]) (zeX c3 (fun _=>rfl) rd3 (zeX c22 (fun _=>rfl) zyz (zeX c22 (fun _=>rfl) zyz (zlW _))))).map
  (fun q=>⟨q.1,q.2.1,q.2.2.1⟩) (fun _=>rfl) (fun q h=>⟨h.1,h.2.1,h.2.2.1⟩)
def Turning.wf (s:Turning):Prop:=I64 s.Step/\I64 s.Rough/\I64 s.Age
theorem zyJ:structOf Try.prog 26=some [(0,3),(1,3),(2,3)]:=by kernel_rfl
theorem c26:Try.prog.cellsOf 26=3:=by kernel_rfl
theorem zyO:Reads enc Try.prog 26 Turning.cells Turning.wf :=
 (zjF zyJ (fun _=>by simp [c26]) (zeX c3 (fun _=>rfl) rd3 (zeX c3 (fun _=>rfl) rd3 (zeX c3 (fun _=>rfl) rd3 (zlW _))))).map
  (fun q=>⟨q.1,q.2.1,q.2.2.1⟩) (fun _=>rfl) (fun q h=>⟨h.1,h.2.1,h.2.2.1⟩)
end
end Go.Proofs.Ytchhkifidbkjcaa
