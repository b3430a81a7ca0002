/-
  What the arguments of the laws stand for (printed by rows.py).
  Conditions: none.
-/
import Derived.Test.YtenogpmlhpcibaaAmU
import Derived.Test.YtenogpmlhpcibaaMd
import Derived.Test.YtenogpmlhpcibaaTy
import Derived.Test.YtenogpmlhpcibaaRows
import Derived.ChangeSame
import Derived.JoinedOf
import Derived.JoinedAt
import Derived.RowKit3
import Derived.ReadAgain
set_option linter.all false
namespace Go.Proofs.Ytenogpmlhpcibaa
open Go Go.AM Go.Law
open Go.ChangeShapes Go.WideShapes Go.ChangeAt Go.RowKit
theorem ownT:ownKnob Try.prog.godebug=none:=by kernel_rfl
def I64 (n:Int):Prop:=(Lit.int .i64 n).wf=true
theorem kidsT:Kids Try.prog (·<Try.prog.types.size):=kids_rows (by kernel_rfl) (by kernel_rfl)
theorem fullT:∀t e,t<Try.prog.types.size→Try.prog.underlying t=some (.slice e)→0<Try.prog.cellsOf e:=slices_full_of Try.prog (by kernel_rfl)
section
variable {T:Type} {enc:TypeId×Value→T}
theorem u4:Try.prog.underlying 4=some .bool:=by kernel_rfl
theorem c4:Try.prog.cellsOf 4=1:=by kernel_rfl
theorem u3:Try.prog.underlying 3=some (.int .i64):=by kernel_rfl
theorem c3:Try.prog.cellsOf 3=1:=by kernel_rfl
theorem rd3:Reads enc Try.prog 3 cI I64:=reads_int u3
def Clause.wf (s:Clause):Prop:=I64 s.Kind∧I64 s.Cents∧I64 s.Part∧I64 s.More
theorem so117:structOf Try.prog 117=some [(0,3),(1,3),(2,3),(3,3)]:=by kernel_rfl
theorem c117:Try.prog.cellsOf 117=4:=by kernel_rfl
theorem rd117:Reads enc Try.prog 117 Clause.cells Clause.wf :=
 (reads_struct so117 (fun _=>by simp [c117]) (readsF_cons c3 (fun _=>rfl) rd3 (readsF_cons c3 (fun _=>rfl) rd3 (readsF_cons c3 (fun _=>rfl) rd3 (readsF_cons c3 (fun _=>rfl) rd3 (readsF_nil _)))))).map
  (fun q=>⟨q.1,q.2.1,q.2.2.1,q.2.2.2.1⟩) (fun _=>rfl) (fun q h=>⟨h.1,h.2.1,h.2.2.1,h.2.2.2.1⟩)
theorem u57:Try.prog.underlying 57=some (.slice 117):=by kernel_rfl
theorem c57:Try.prog.cellsOf 57=1:=by kernel_rfl
theorem rd57:Reads enc Try.prog 57 (cL 4 Clause.cells) (fun l=>∀c,c∈l→Clause.wf c):=reads_slice u57 c117 (by decide) (fun _=>rfl) rd117
def Share.wf (s:Share):Prop:=(∀c,c∈s.Clauses→Clause.wf c)∧I64 s.Loan
theorem so59:structOf Try.prog 59=some [(0,57),(1,3)]:=by kernel_rfl
theorem c59:Try.prog.cellsOf 59=2:=by kernel_rfl
theorem rd59:Reads enc Try.prog 59 Share.cells Share.wf :=
 (reads_struct so59 (fun _=>by simp [c59]) (readsF_cons c57 (fun _=>rfl) rd57 (readsF_cons c3 (fun _=>rfl) rd3 (readsF_nil _)))).map
  (fun q=>⟨q.1,q.2.1⟩) (fun _=>rfl) (fun q h=>⟨h.1,h.2.1⟩)
theorem u22:Try.prog.underlying 22=some (.slice 3):=by kernel_rfl
theorem c22:Try.prog.cellsOf 22=1:=by kernel_rfl
theorem rd22:Reads enc Try.prog 22 (cL 1 cI) (fun l=>∀c,c∈l→I64 c):=reads_slice u22 c3 (by decide) (fun _=>rfl) rd3
def Wheel.wf (s:Wheel):Prop:=I64 s.Round∧(∀c,c∈s.Notches→I64 c)∧(∀c,c∈s.Coins→I64 c)
theorem so24:structOf Try.prog 24=some [(0,3),(1,22),(2,22)]:=by kernel_rfl
theorem c24:Try.prog.cellsOf 24=3:=by kernel_rfl
theorem rd24:Reads enc Try.prog 24 Wheel.cells Wheel.wf :=
 (reads_struct so24 (fun _=>by simp [c24]) (readsF_cons c3 (fun _=>rfl) rd3 (readsF_cons c22 (fun _=>rfl) rd22 (readsF_cons c22 (fun _=>rfl) rd22 (readsF_nil _))))).map
  (fun q=>⟨q.1,q.2.1,q.2.2.1⟩) (fun _=>rfl) (fun q h=>⟨h.1,h.2.1,h.2.2.1⟩)
def Box.wf (s:Box):Prop:=Wheel.wf s.Wheel∧(∀c,c∈s.Found→I64 c)∧(∀c,c∈s.Marked→I64 c)∧(∀c,c∈s.Slugs→I64 c)∧I64 s.Plays∧I64 s.Skips
theorem so26:structOf Try.prog 26=some [(0,24),(3,22),(4,22),(5,22),(6,3),(7,3)]:=by kernel_rfl
theorem c26:Try.prog.cellsOf 26=8:=by kernel_rfl
theorem rd26:Reads enc Try.prog 26 Box.cells Box.wf :=
 (reads_struct so26 (fun _=>by simp [c26]) (readsF_cons c24 (fun _=>rfl) rd24 (readsF_cons c22 (fun _=>rfl) rd22 (readsF_cons c22 (fun _=>rfl) rd22 (readsF_cons c22 (fun _=>rfl) rd22 (readsF_cons c3 (fun _=>rfl) rd3 (readsF_cons c3 (fun _=>rfl) rd3 (readsF_nil _)))))))).map
  (fun q=>⟨q.1,q.2.1,q.2.2.1,q.2.2.2.1,q.2.2.2.2.1,q.2.2.2.2.2.1⟩) (fun _=>rfl) (fun q h=>⟨h.1,h.2.1,h.2.2.1,h.2.2.2.1,h.2.2.2.2.1,h.2.2.2.2.2.1⟩)
end
end Go.Proofs.Ytenogpmlhpcibaa
