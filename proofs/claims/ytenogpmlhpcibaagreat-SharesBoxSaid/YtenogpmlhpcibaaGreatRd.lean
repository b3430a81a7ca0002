/-
  What the arguments of the laws stand for (printed by rows.py).
  Conditions: none.
-/
import Derived.Test.YtenogpmlhpcibaaGreatAmU
import Derived.Test.YtenogpmlhpcibaaGreatMd
import Derived.Test.YtenogpmlhpcibaaGreatTy
import Derived.Test.YtenogpmlhpcibaaGreatRows
import Derived.ChangeSame
import Derived.JoinedOf
import Derived.JoinedAt
import Derived.RowKit3
import Derived.ReadAgain
set_option linter.all false
namespace Go.Proofs.YtenogpmlhpcibaaGreat
open Go Go.AM Go.Law
open Go.ChangeShapes Go.WideShapes Go.ChangeAt Go.RowKit
theorem zAn:ownKnob Tryz.prog.godebug=none:=by kernel_rfl
def I64 (n:Int):Prop:=(Lit.int .i64 n).wf=true
theorem zz9:Kids Tryz.prog (·<Tryz.prog.types.size):=kids_rows (by kernel_rfl) (by kernel_rfl)
theorem zAa:∀t e,t<Tryz.prog.types.size->Tryz.prog.underlying t=some (.slice e)->0<Tryz.prog.cellsOf e:=slices_full_of Tryz.prog (by kernel_rfl)
section
variable {T:Type} {enc:TypeId×Value->T}
theorem u4:Tryz.prog.underlying 4=some .bool:=by kernel_rfl
theorem c4:Tryz.prog.cellsOf 4=1:=by kernel_rfl
theorem u3:Tryz.prog.underlying 3=some (.int .i64):=by kernel_rfl
theorem c3:Tryz.prog.cellsOf 3=1:=by kernel_rfl
theorem rd3:Reads enc Tryz.prog 3 cI I64:=zt6 u3
def Clause.wf (s:Clause):Prop:=I64 s.Kind/\I64 s.Cents/\I64 s.Part/\I64 s.More
theorem zAo:structOf Tryz.prog 88=some [(0,3),(1,3),(2,3),(3,3)]:=by kernel_rfl
theorem c88:Tryz.prog.cellsOf 88=4:=by kernel_rfl
theorem zAp:Reads enc Tryz.prog 88 Clause.cells Clause.wf :=
 (zhV zAo (fun _=>by simp [c88]) (zbP c3 (fun _=>rfl) rd3 (zbP c3 (fun _=>rfl) rd3 (zbP c3 (fun _=>rfl) rd3 (zbP c3 (fun _=>rfl) rd3 (zjJ _)))))).map
  (fun q=>⟨q.1,q.2.1,q.2.2.1,q.2.2.2.1⟩) (fun _=>rfl) (fun q h=>⟨h.1,h.2.1,h.2.2.1,h.2.2.2.1⟩)
theorem u41:Tryz.prog.underlying 41=some (.slice 88):=by kernel_rfl
theorem c41:Tryz.prog.cellsOf 41=1:=by kernel_rfl
theorem zAq:Reads enc Tryz.prog 41 (cL 4 Clause.cells) (fun l=>∀c,c∈l->Clause.wf c):=zm7 u41 c88 (by decide) (fun _=>rfl) zAp
def Share.wf (s:Share):Prop:=(∀c,c∈s.Clauses->Clause.wf c)/\I64 s.Loan
theorem zAk:structOf Tryz.prog 43=some [(0,41),(1,3)]:=by kernel_rfl
theorem c43:Tryz.prog.cellsOf 43=2:=by kernel_rfl
theorem zAr:Reads enc Tryz.prog 43 Share.cells Share.wf :=
 (zhV zAk (fun _=>by simp [c43]) (zbP c41 (fun _=>rfl) zAq (zbP c3 (fun _=>rfl) rd3 (zjJ _)))).map
  (fun q=>⟨q.1,q.2.1⟩) (fun _=>rfl) (fun q h=>⟨h.1,h.2.1⟩)
theorem u22:Tryz.prog.underlying 22=some (.slice 3):=by kernel_rfl
theorem c22:Tryz.prog.cellsOf 22=1:=by kernel_rfl
theorem zy3:Reads enc Tryz.prog 22 (cL 1 cI) (fun l=>∀c,c∈l->I64 c):=zm7 u22 c3 (by decide) (fun _=>rfl) rd3
def Wheel.wf (s:Wheel):Prop:=I64 s.Round/\(∀c,c∈s.Notches->I64 c)/\(∀c,c∈s.Coins->I64 c)
theorem zAs:structOf Tryz.prog 24=some [(0,3),(1,22),(2,22)]:=by kernel_rfl
theorem c24:Tryz.prog.cellsOf 24=3:=by kernel_rfl
theorem zAt:Reads enc Tryz.prog 24 Wheel.cells Wheel.wf :=
 (zhV zAs (fun _=>by simp [c24]) (zbP c3 (fun _=>rfl) rd3 (zbP c22 (fun _=>rfl) zy3 (zbP c22 (fun _=>rfl) zy3 (zjJ _))))).map
  (fun q=>⟨q.1,q.2.1,q.2.2.1⟩) (fun _=>rfl) (fun q h=>⟨h.1,h.2.1,h.2.2.1⟩)
def Box.wf (s:Box):Prop:=Wheel.wf s.Wheel/\(∀c,c∈s.Found->I64 c)/\(∀c,c∈s.Marked->I64 c)/\(∀c,c∈s.Slugs->I64 c)/\I64 s.Plays/\I64 s.Skips
theorem zAl:structOf Tryz.prog 26=some [(0,24),(3,22),(4,22),(5,22),(6,3),(7,3)]:=by kernel_rfl
theorem c26:Tryz.prog.cellsOf 26=8:=by kernel_rfl
theorem zAu:Reads enc Tryz.prog 26 Box.cells Box.wf :=
 (zhV zAl (fun _=>by simp [c26]) (zbP c24 (fun _=>rfl) zAt (zbP c22 (fun _=>rfl) zy3 (zbP c22 (fun _=>rfl) zy3 (zbP c22 (fun _=>rfl) zy3 (zbP c3 (fun _=>rfl) rd3 (zbP c3 (fun _=>rfl) rd3 (zjJ _)))))))).map
  (fun q=>⟨q.1,q.2.1,q.2.2.1,q.2.2.2.1,q.2.2.2.2.1,q.2.2.2.2.2.1⟩) (fun _=>rfl) (fun q h=>⟨h.1,h.2.1,h.2.2.1,h.2.2.2.1,h.2.2.2.2.1,h.2.2.2.2.2.1⟩)
end
end Go.Proofs.YtenogpmlhpcibaaGreat
