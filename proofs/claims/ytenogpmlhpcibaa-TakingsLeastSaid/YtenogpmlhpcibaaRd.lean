/-
  What the arguments of the laws stand for (printed by rows.py).
  Conditions: none.
-/
import Derived.Test.YtenogpmlhpcibaaAmU
import Derived.Test.YtenogpmlhpcibaaMd
import Derived.Test.YtenogpmlhpcibaaTy
import Derived.Test.YtenogpmlhpcibaaRows
import Derived.ChangeSame
import Derived.JoinedOf
import Derived.JoinedAt
import Derived.RowKit3
import Derived.ReadAgain
set_option linter.all false
namespace Go.Proofs.Ytenogpmlhpcibaa
open Go Go.AM Go.Law
open Go.ChangeShapes Go.WideShapes Go.ChangeAt Go.RowKit
theorem zAu:ownKnob Try.prog.godebug=none:=by kernel_rfl
def I64 (n:Int):Prop:=(Lit.int .i64 n).wf=true
theorem zAg:Kids Try.prog (·<Try.prog.types.size):=kids_rows (by kernel_rfl) (by kernel_rfl)
theorem zAh:∀t e,t<Try.prog.types.size->Try.prog.underlying t=some (.slice e)->0<Try.prog.cellsOf e:=slices_full_of Try.prog (by kernel_rfl)
section
variable {T:Type} {enc:TypeId×Value->T}
theorem u4:Try.prog.underlying 4=some .bool:=by kernel_rfl
theorem c4:Try.prog.cellsOf 4=1:=by kernel_rfl
theorem u3:Try.prog.underlying 3=some (.int .i64):=by kernel_rfl
theorem c3:Try.prog.cellsOf 3=1:=by kernel_rfl
theorem rd3:Reads enc Try.prog 3 cI I64:=zq4 u3
theorem u22:Try.prog.underlying 22=some (.slice 3):=by kernel_rfl
theorem c22:Try.prog.cellsOf 22=1:=by kernel_rfl
theorem zu2:Reads enc Try.prog 22 (cL 1 cI) (fun l=>∀c,c∈l->I64 c):=znV u22 c3 (by decide) (fun _=>rfl) rd3
def Wheel.wf (s:Wheel):Prop:=I64 s.Round/\(∀c,c∈s.Notches->I64 c)/\(∀c,c∈s.Coins->I64 c)
theorem zAv:structOf Try.prog 24=some [(0,3),(1,22),(2,22)]:=by kernel_rfl
theorem c24:Try.prog.cellsOf 24=3:=by kernel_rfl
theorem zAw:Reads enc Try.prog 24 Wheel.cells Wheel.wf :=
 (zjt zAv (fun _=>by simp [c24]) (zc9 c3 (fun _=>rfl) rd3 (zc9 c22 (fun _=>rfl) zu2 (zc9 c22 (fun _=>rfl) zu2 (zlu _))))).map
  (fun q=>⟨q.1,q.2.1,q.2.2.1⟩) (fun _=>rfl) (fun q h=>⟨h.1,h.2.1,h.2.2.1⟩)
def Box.wf (s:Box):Prop:=Wheel.wf s.Wheel/\(∀c,c∈s.Found->I64 c)/\(∀c,c∈s.Marked->I64 c)/\(∀c,c∈s.Slugs->I64 c)/\I64 s.Plays/\I64 s.Skips
theorem zAs:structOf Try.prog 26=some [(0,24),(3,22),(4,22),(5,22),(6,3),(7,3)]:=by kernel_rfl
theorem c26:Try.prog.cellsOf 26=8:=by kernel_rfl
theorem zAx:Reads enc Try.prog 26 Box.cells Box.wf :=
 (zjt zAs (fun _=>by simp [c26]) (zc9 c24 (fun _=>rfl) zAw (zc9 c22 (fun _=>rfl) zu2 (zc9 c22 (fun _=>rfl) zu2 (zc9 c22 (fun _=>rfl) zu2 (zc9 c3 (fun _=>rfl) rd3 (zc9 c3 (fun _=>rfl) rd3 (zlu _)))))))).map
  (fun q=>⟨q.1,q.2.1,q.2.2.1,q.2.2.2.1,q.2.2.2.2.1,q.2.2.2.2.2.1⟩) (fun _=>rfl) (fun q h=>⟨h.1,h.2.1,h.2.2.1,h.2.2.2.1,h.2.2.2.2.1,h.2.2.2.2.2.1⟩)
end
end Go.Proofs.Ytenogpmlhpcibaa
