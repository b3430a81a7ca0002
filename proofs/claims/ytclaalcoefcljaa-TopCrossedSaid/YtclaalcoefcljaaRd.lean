/-
  What the arguments of the laws stand for (printed by rows.py).
  Conditions: none.
-/
import Derived.Test.YtclaalcoefcljaaAmU
import Derived.Test.YtclaalcoefcljaaMd
import Derived.Test.YtclaalcoefcljaaTy
import Derived.Test.YtclaalcoefcljaaRows
import Derived.ChangeSame
import Derived.JoinedOf
import Derived.JoinedAt
import Derived.RowKit3
import Derived.ReadAgain
set_option linter.all false
namespace Go.Proofs.Ytclaalcoefcljaa
open Go Go.AM Go.Law
open Go.ChangeShapes Go.WideShapes Go.ChangeAt Go.RowKit
theorem zvQ:ownKnob Try.prog.godebug=none:=by kernel_rfl
def I64 (n:Int):Prop:=(Lit.int .i64 n).wf=true
theorem zvF:Kids Try.prog (·<Try.prog.types.size):=kids_rows (by kernel_rfl) (by kernel_rfl)
theorem zvG:∀t e,t<Try.prog.types.size->Try.prog.underlying t=some (.slice e)->0<Try.prog.cellsOf e:=slices_full_of Try.prog (by kernel_rfl)
section
variable {T:Type} {enc:TypeId×Value->T}
theorem u4:Try.prog.underlying 4=some .bool:=by kernel_rfl
theorem c4:Try.prog.cellsOf 4=1:=by kernel_rfl
theorem u3:Try.prog.underlying 3=some (.int .i64):=by kernel_rfl
theorem c3:Try.prog.cellsOf 3=1:=by kernel_rfl
theorem rd3:Reads enc Try.prog 3 cI I64:=zn8 u3
def TrayRecord.wf (s:TrayRecord):Prop:=I64 s.Front/\I64 s.Back
theorem zvR:structOf Try.prog 75=some [(0,3),(1,3)]:=by kernel_rfl
theorem c75:Try.prog.cellsOf 75=2:=by kernel_rfl
theorem zvS:Reads enc Try.prog 75 TrayRecord.cells TrayRecord.wf :=
 (zfN zvR (fun _=>by simp [c75]) (zcv c3 (fun _=>rfl) rd3 (zcv c3 (fun _=>rfl) rd3 (zgS _)))).map
  (fun q=>⟨q.1,q.2.1⟩) (fun _=>rfl) (fun q h=>⟨h.1,h.2.1⟩)
theorem u22:Try.prog.underlying 22=some (.slice 75):=by kernel_rfl
theorem c22:Try.prog.cellsOf 22=1:=by kernel_rfl
theorem zvT:Reads enc Try.prog 22 (cL 2 TrayRecord.cells) (fun l=>∀c,c∈l->TrayRecord.wf c):=zhn u22 c75 (by decide) (fun _=>rfl) zvS
def TrayPress.wf (s:TrayPress):Prop:=I64 s.Side/\I64 s.Time
theorem zvU:structOf Try.prog 55=some [(0,3),(1,3)]:=by kernel_rfl
theorem c55:Try.prog.cellsOf 55=2:=by kernel_rfl
theorem zvV:Reads enc Try.prog 55 TrayPress.cells TrayPress.wf :=
 (zfN zvU (fun _=>by simp [c55]) (zcv c3 (fun _=>rfl) rd3 (zcv c3 (fun _=>rfl) rd3 (zgS _)))).map
  (fun q=>⟨q.1,q.2.1⟩) (fun _=>rfl) (fun q h=>⟨h.1,h.2.1⟩)
theorem u23:Try.prog.underlying 23=some (.slice 55):=by kernel_rfl
theorem c23:Try.prog.cellsOf 23=1:=by kernel_rfl
theorem zvW:Reads enc Try.prog 23 (cL 2 TrayPress.cells) (fun l=>∀c,c∈l->TrayPress.wf c):=zhn u23 c55 (by decide) (fun _=>rfl) zvV
def Tray.wf (s:Tray):Prop:=(∀c,c∈s.Records->TrayRecord.wf c)/\I64 s.At/\I64 s.Way/\I64 s.Step/\(∀c,c∈s.Presses->TrayPress.wf c)
theorem zvO:structOf Try.prog 25=some [(0,22),(1,3),(2,3),(3,3),(4,23)]:=by kernel_rfl
theorem c25:Try.prog.cellsOf 25=5:=by kernel_rfl
theorem zvX:Reads enc Try.prog 25 Tray.cells Tray.wf :=
 (zfN zvO (fun _=>by simp [c25]) (zcv c22 (fun _=>rfl) zvT (zcv c3 (fun _=>rfl) rd3 (zcv c3 (fun _=>rfl) rd3 (zcv c3 (fun _=>rfl) rd3 (zcv c23 (fun _=>rfl) zvW (zgS _))))))).map
  (fun q=>⟨q.1,q.2.1,q.2.2.1,q.2.2.2.1,q.2.2.2.2.1⟩) (fun _=>rfl) (fun q h=>⟨h.1,h.2.1,h.2.2.1,h.2.2.2.1,h.2.2.2.2.1⟩)
def WireFault.wf (s:WireFault):Prop:=I64 s.Kind/\I64 s.A/\I64 s.B
theorem zvY:structOf Try.prog 52=some [(0,3),(1,3),(2,3)]:=by kernel_rfl
theorem c52:Try.prog.cellsOf 52=3:=by kernel_rfl
theorem zvZ:Reads enc Try.prog 52 WireFault.cells WireFault.wf :=
 (zfN zvY (fun _=>by simp [c52]) (zcv c3 (fun _=>rfl) rd3 (zcv c3 (fun _=>rfl) rd3 (zcv c3 (fun _=>rfl) rd3 (zgS _))))).map
  (fun q=>⟨q.1,q.2.1,q.2.2.1⟩) (fun _=>rfl) (fun q h=>⟨h.1,h.2.1,h.2.2.1⟩)
theorem u46:Try.prog.underlying 46=some (.slice 52):=by kernel_rfl
theorem zv0:Reads enc Try.prog 46 (cL 3 WireFault.cells) (fun l=>∀c,c∈l->WireFault.wf c):=zhn u46 c52 (by decide) (fun _=>rfl) zvZ
end
end Go.Proofs.Ytclaalcoefcljaa
