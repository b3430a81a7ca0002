/-
  What the arguments of the laws stand for (printed by rows.py).
  Conditions: none.
-/
import Derived.Test.YtebfppngmmdfkaaGreatAmU
import Derived.Test.YtebfppngmmdfkaaGreatMd
import Derived.Test.YtebfppngmmdfkaaGreatTy
import Derived.Test.YtebfppngmmdfkaaGreatRows
import Derived.ChangeSame
import Derived.JoinedOf
import Derived.JoinedAt
import Derived.RowKit3
import Derived.ReadAgain
set_option linter.all false
namespace Go.Proofs.YtebfppngmmdfkaaGreat
open Go Go.AM Go.Law
open Go.ChangeShapes Go.WideShapes Go.ChangeAt Go.RowKit
theorem zx6:ownKnob Tryz.prog.godebug=none:=by kernel_rfl
def I64 (n:Int):Prop:=(Lit.int .i64 n).wf=true
theorem zxN:Kids Tryz.prog (·<Tryz.prog.types.size):=kids_rows (by kernel_rfl) (by kernel_rfl)
theorem zxO:∀t e,t<Tryz.prog.types.size->Tryz.prog.underlying t=some (.slice e)->0<Tryz.prog.cellsOf e:=slices_full_of Tryz.prog (by kernel_rfl)
section
variable {T:Type} {enc:TypeId×Value->T}
theorem u4:Tryz.prog.underlying 4=some .bool:=by kernel_rfl
theorem c4:Tryz.prog.cellsOf 4=1:=by kernel_rfl
theorem u3:Tryz.prog.underlying 3=some (.int .i64):=by kernel_rfl
theorem c3:Tryz.prog.cellsOf 3=1:=by kernel_rfl
theorem rd3:Reads enc Tryz.prog 3 cI I64:=zrd u3
theorem u22:Tryz.prog.underlying 22=some (.slice 3):=by kernel_rfl
theorem c22:Tryz.prog.cellsOf 22=1:=by kernel_rfl
theorem zxZ:Reads enc Tryz.prog 22 (cL 1 cI) (fun l=>∀c,c∈l->I64 c):=zi4 u22 c3 (by decide) (fun _=>rfl) rd3
def Pulse.wf (s:Pulse):Prop:=I64 s.Letters/\I64 s.Numbers/\I64 s.Pitch/\I64 s.Slack/\I64 s.Gap/\I64 s.Pause/\I64 s.Sparks/\(∀c,c∈s.Times->I64 c)
theorem zx0:structOf Tryz.prog 24=some [(0,3),(1,3),(2,3),(3,3),(4,3),(5,3),(6,3),(7,22)]:=by kernel_rfl
theorem c24:Tryz.prog.cellsOf 24=8:=by kernel_rfl
theorem zx7:Reads enc Tryz.prog 24 Pulse.cells Pulse.wf :=
 (zf1 zx0 (fun _=>by simp [c24]) (za5 c3 (fun _=>rfl) rd3 (za5 c3 (fun _=>rfl) rd3 (za5 c3 (fun _=>rfl) rd3 (za5 c3 (fun _=>rfl) rd3 (za5 c3 (fun _=>rfl) rd3 (za5 c3 (fun _=>rfl) rd3 (za5 c3 (fun _=>rfl) rd3 (za5 c22 (fun _=>rfl) zxZ (zhA _)))))))))).map
  (fun q=>⟨q.1,q.2.1,q.2.2.1,q.2.2.2.1,q.2.2.2.2.1,q.2.2.2.2.2.1,q.2.2.2.2.2.2.1,q.2.2.2.2.2.2.2.1⟩) (fun _=>rfl) (fun q h=>⟨h.1,h.2.1,h.2.2.1,h.2.2.2.1,h.2.2.2.2.1,h.2.2.2.2.2.1,h.2.2.2.2.2.2.1,h.2.2.2.2.2.2.2.1⟩)
def WirePress.wf (s:WirePress):Prop:=I64 s.Letter/\I64 s.Number/\I64 s.Got
theorem zx8:structOf Tryz.prog 47=some [(0,3),(1,3),(2,3)]:=by kernel_rfl
theorem c47:Tryz.prog.cellsOf 47=3:=by kernel_rfl
theorem zx9:Reads enc Tryz.prog 47 WirePress.cells WirePress.wf :=
 (zf1 zx8 (fun _=>by simp [c47]) (za5 c3 (fun _=>rfl) rd3 (za5 c3 (fun _=>rfl) rd3 (za5 c3 (fun _=>rfl) rd3 (zhA _))))).map
  (fun q=>⟨q.1,q.2.1,q.2.2.1⟩) (fun _=>rfl) (fun q h=>⟨h.1,h.2.1,h.2.2.1⟩)
theorem u25:Tryz.prog.underlying 25=some (.slice 47):=by kernel_rfl
theorem c25:Tryz.prog.cellsOf 25=1:=by kernel_rfl
theorem zya:Reads enc Tryz.prog 25 (cL 3 WirePress.cells) (fun l=>∀c,c∈l->WirePress.wf c):=zi4 u25 c47 (by decide) (fun _=>rfl) zx9
def Wire.wf (s:Wire):Prop:=I64 s.Letters/\I64 s.Numbers/\(∀c,c∈s.Presses->WirePress.wf c)/\I64 s.Faults
theorem zyb:structOf Tryz.prog 27=some [(0,3),(1,3),(2,25),(3,3)]:=by kernel_rfl
theorem c27:Tryz.prog.cellsOf 27=4:=by kernel_rfl
theorem zyc:Reads enc Tryz.prog 27 Wire.cells Wire.wf :=
 (zf1 zyb (fun _=>by simp [c27]) (za5 c3 (fun _=>rfl) rd3 (za5 c3 (fun _=>rfl) rd3 (za5 c25 (fun _=>rfl) zya (za5 c3 (fun _=>rfl) rd3 (zhA _)))))).map
  (fun q=>⟨q.1,q.2.1,q.2.2.1,q.2.2.2.1⟩) (fun _=>rfl) (fun q h=>⟨h.1,h.2.1,h.2.2.1,h.2.2.2.1⟩)
def WireFault.wf (s:WireFault):Prop:=I64 s.Kind/\I64 s.A/\I64 s.B
theorem zyd:structOf Tryz.prog 82=some [(0,3),(1,3),(2,3)]:=by kernel_rfl
theorem c82:Tryz.prog.cellsOf 82=3:=by kernel_rfl
theorem zye:Reads enc Tryz.prog 82 WireFault.cells WireFault.wf :=
 (zf1 zyd (fun _=>by simp [c82]) (za5 c3 (fun _=>rfl) rd3 (za5 c3 (fun _=>rfl) rd3 (za5 c3 (fun _=>rfl) rd3 (zhA _))))).map
  (fun q=>⟨q.1,q.2.1,q.2.2.1⟩) (fun _=>rfl) (fun q h=>⟨h.1,h.2.1,h.2.2.1⟩)
theorem u28:Tryz.prog.underlying 28=some (.slice 82):=by kernel_rfl
theorem c28:Tryz.prog.cellsOf 28=1:=by kernel_rfl
theorem zyf:Reads enc Tryz.prog 28 (cL 3 WireFault.cells) (fun l=>∀c,c∈l->WireFault.wf c):=zi4 u28 c82 (by decide) (fun _=>rfl) zye
def Dial.wf (s:Dial):Prop:=Wire.wf s.Wire/\(∀c,c∈s.Faults->WireFault.wf c)/\(∀c,c∈s.List_->I64 c)
theorem zx1:structOf Tryz.prog 30=some [(0,27),(4,28),(5,22)]:=by kernel_rfl
theorem c30:Tryz.prog.cellsOf 30=6:=by kernel_rfl
theorem zyg:Reads enc Tryz.prog 30 Dial.cells Dial.wf :=
 (zf1 zx1 (fun _=>by simp [c30]) (za5 c27 (fun _=>rfl) zyc (za5 c28 (fun _=>rfl) zyf (za5 c22 (fun _=>rfl) zxZ (zhA _))))).map
  (fun q=>⟨q.1,q.2.1,q.2.2.1⟩) (fun _=>rfl) (fun q h=>⟨h.1,h.2.1,h.2.2.1⟩)
end
end Go.Proofs.YtebfppngmmdfkaaGreat
