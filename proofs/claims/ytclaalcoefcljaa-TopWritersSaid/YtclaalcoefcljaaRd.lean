/-
  What the arguments of the laws stand for (printed by rows.py).
  Conditions: none.
-/
import Derived.Test.YtclaalcoefcljaaAmU
import Derived.Test.YtclaalcoefcljaaMd
import Derived.Test.YtclaalcoefcljaaTy
import Derived.Test.YtclaalcoefcljaaRows
import Derived.ChangeSame
import Derived.JoinedOf
import Derived.JoinedAt
import Derived.RowKit3
import Derived.ReadAgain
set_option linter.all false
namespace Go.Proofs.Ytclaalcoefcljaa
open Go Go.AM Go.Law
open Go.ChangeShapes Go.WideShapes Go.ChangeAt Go.RowKit
theorem ztK:ownKnob Try.prog.godebug=none:=by kernel_rfl
def I64 (n:Int):Prop:=(Lit.int .i64 n).wf=true
theorem ztG:Kids Try.prog (·<Try.prog.types.size):=kids_rows (by kernel_rfl) (by kernel_rfl)
theorem ztH:∀t e,t<Try.prog.types.size->Try.prog.underlying t=some (.slice e)->0<Try.prog.cellsOf e:=slices_full_of Try.prog (by kernel_rfl)
section
variable {T:Type} {enc:TypeId×Value->T}
theorem u4:Try.prog.underlying 4=some .bool:=by kernel_rfl
theorem c4:Try.prog.cellsOf 4=1:=by kernel_rfl
theorem u3:Try.prog.underlying 3=some (.int .i64):=by kernel_rfl
theorem c3:Try.prog.cellsOf 3=1:=by kernel_rfl
theorem rd3:Reads enc Try.prog 3 cI I64:=zmZ u3
def TrayRecord.wf (s:TrayRecord):Prop:=I64 s.Front/\I64 s.Back
theorem ztL:structOf Try.prog 75=some [(0,3),(1,3)]:=by kernel_rfl
theorem c75:Try.prog.cellsOf 75=2:=by kernel_rfl
theorem ztM:Reads enc Try.prog 75 TrayRecord.cells TrayRecord.wf :=
 (zfZ ztL (fun _=>by simp [c75]) (zdn c3 (fun _=>rfl) rd3 (zdn c3 (fun _=>rfl) rd3 (zhu _)))).map
  (fun q=>⟨q.1,q.2.1⟩) (fun _=>rfl) (fun q h=>⟨h.1,h.2.1⟩)
theorem u22:Try.prog.underlying 22=some (.slice 75):=by kernel_rfl
theorem c22:Try.prog.cellsOf 22=1:=by kernel_rfl
theorem ztN:Reads enc Try.prog 22 (cL 2 TrayRecord.cells) (fun l=>∀c,c∈l->TrayRecord.wf c):=zgL u22 c75 (by decide) (fun _=>rfl) ztM
def TrayPress.wf (s:TrayPress):Prop:=I64 s.Side/\I64 s.Time
theorem ztO:structOf Try.prog 55=some [(0,3),(1,3)]:=by kernel_rfl
theorem c55:Try.prog.cellsOf 55=2:=by kernel_rfl
theorem ztP:Reads enc Try.prog 55 TrayPress.cells TrayPress.wf :=
 (zfZ ztO (fun _=>by simp [c55]) (zdn c3 (fun _=>rfl) rd3 (zdn c3 (fun _=>rfl) rd3 (zhu _)))).map
  (fun q=>⟨q.1,q.2.1⟩) (fun _=>rfl) (fun q h=>⟨h.1,h.2.1⟩)
theorem u23:Try.prog.underlying 23=some (.slice 55):=by kernel_rfl
theorem c23:Try.prog.cellsOf 23=1:=by kernel_rfl
theorem ztQ:Reads enc Try.prog 23 (cL 2 TrayPress.cells) (fun l=>∀c,c∈l->TrayPress.wf c):=zgL u23 c55 (by decide) (fun _=>rfl) ztP
def Tray.wf (s:Tray):Prop:=(∀c,c∈s.Records->TrayRecord.wf c)/\I64 s.At/\I64 s.Way/\I64 s.Step/\(∀c,c∈s.Presses->TrayPress.wf c)
theorem ztJ:structOf Try.prog 25=some [(0,22),(1,3),(2,3),(3,3),(4,23)]:=by kernel_rfl
theorem c25:Try.prog.cellsOf 25=5:=by kernel_rfl
theorem ztR:Reads enc Try.prog 25 Tray.cells Tray.wf :=
 (zfZ ztJ (fun _=>by simp [c25]) (zdn c22 (fun _=>rfl) ztN (zdn c3 (fun _=>rfl) rd3 (zdn c3 (fun _=>rfl) rd3 (zdn c3 (fun _=>rfl) rd3 (zdn c23 (fun _=>rfl) ztQ (zhu _))))))).map
  (fun q=>⟨q.1,q.2.1,q.2.2.1,q.2.2.2.1,q.2.2.2.2.1⟩) (fun _=>rfl) (fun q h=>⟨h.1,h.2.1,h.2.2.1,h.2.2.2.1,h.2.2.2.2.1⟩)
theorem u26:Try.prog.underlying 26=some (.slice 3):=by kernel_rfl
theorem ztS:Reads enc Try.prog 26 (cL 1 cI) (fun l=>∀c,c∈l->I64 c):=zgL u26 c3 (by decide) (fun _=>rfl) rd3
end
end Go.Proofs.Ytclaalcoefcljaa
