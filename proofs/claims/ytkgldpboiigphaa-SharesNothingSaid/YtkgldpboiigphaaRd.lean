/-
  What the arguments of the laws stand for (printed by rows.py).
  Conditions: none.
-/
import Derived.Test.YtkgldpboiigphaaAmU
import Derived.Test.YtkgldpboiigphaaMd
import Derived.Test.YtkgldpboiigphaaTy
import Derived.Test.YtkgldpboiigphaaRows
import Derived.ChangeSame
import Derived.JoinedOf
import Derived.JoinedAt
import Derived.RowKit3
import Derived.ReadAgain
set_option linter.all false
namespace Go.Proofs.Ytkgldpboiigphaa
open Go Go.AM Go.Law
open Go.ChangeShapes Go.WideShapes Go.ChangeAt Go.RowKit
theorem ownT : ownKnob Try.prog.godebug = none := by kernel_rfl
def I64 (n : Int) : Prop := (Lit.int .i64 n).wf = true
theorem kidsT : Kids Try.prog (· < Try.prog.types.size) := kids_rows (by kernel_rfl) (by kernel_rfl)
theorem fullT : ∀ t e, t < Try.prog.types.size → Try.prog.underlying t = some (.slice e) → 0 < Try.prog.cellsOf e := slices_full_of Try.prog (by kernel_rfl)
section
variable {T : Type} {enc : TypeId × Value → T}
theorem u4 : Try.prog.underlying 4 = some .bool := by kernel_rfl
theorem c4 : Try.prog.cellsOf 4 = 1 := by kernel_rfl
theorem u3 : Try.prog.underlying 3 = some (.int .i64) := by kernel_rfl
theorem c3 : Try.prog.cellsOf 3 = 1 := by kernel_rfl
theorem rd3 : Reads enc Try.prog 3 cI I64 := reads_int u3
def Clause.wf (s : Clause) : Prop := I64 s.Kind ∧ I64 s.Cents ∧ I64 s.Part ∧ I64 s.More
theorem so39 : structOf Try.prog 39 = some [(0, 3), (1, 3), (2, 3), (3, 3)] := by kernel_rfl
theorem c39 : Try.prog.cellsOf 39 = 4 := by kernel_rfl
theorem rd39 : Reads enc Try.prog 39 Clause.cells Clause.wf :=
  (reads_struct so39 (fun _ => by simp [c39]) (readsF_cons c3 (fun _ => rfl) rd3 (readsF_cons c3 (fun _ => rfl) rd3 (readsF_cons c3 (fun _ => rfl) rd3 (readsF_cons c3 (fun _ => rfl) rd3 (readsF_nil _)))))).map
    (fun q => ⟨q.1, q.2.1, q.2.2.1, q.2.2.2.1⟩) (fun _ => rfl) (fun q h => ⟨h.1, h.2.1, h.2.2.1, h.2.2.2.1⟩)
theorem u22 : Try.prog.underlying 22 = some (.slice 39) := by kernel_rfl
theorem c22 : Try.prog.cellsOf 22 = 1 := by kernel_rfl
theorem rd22 : Reads enc Try.prog 22 (cL 4 Clause.cells) (fun l => ∀ c, c ∈ l → Clause.wf c) := reads_slice u22 c39 (by decide) (fun _ => rfl) rd39
def Share.wf (s : Share) : Prop := (∀ c, c ∈ s.Clauses → Clause.wf c) ∧ I64 s.Loan
theorem so24 : structOf Try.prog 24 = some [(0, 22), (1, 3)] := by kernel_rfl
theorem c24 : Try.prog.cellsOf 24 = 2 := by kernel_rfl
theorem rd24 : Reads enc Try.prog 24 Share.cells Share.wf :=
  (reads_struct so24 (fun _ => by simp [c24]) (readsF_cons c22 (fun _ => rfl) rd22 (readsF_cons c3 (fun _ => rfl) rd3 (readsF_nil _)))).map
    (fun q => ⟨q.1, q.2.1⟩) (fun _ => rfl) (fun q h => ⟨h.1, h.2.1⟩)
def Ask_.wf (s : Ask_) : Prop := I64 s.Takings ∧ I64 s.Gift ∧ I64 s.Clause
def More.wf (s : More) : Prop := I64 s.Goal ∧ I64 s.Takings
end
end Go.Proofs.Ytkgldpboiigphaa
