/-
  PulsesPlays: for every input the law returns true, and the arguments read as before (printed by rows.py).
  Conditions: none.
-/
import Derived.Test.YtebfppngmmdfkaaRd
import Derived.Test.YtebfppngmmdfkaaWkPulsesPlays5
import Derived.Test.YtebfppngmmdfkaaPmA
set_option linter.all false
namespace Go.Proofs.Ytebfppngmmdfkaa
open Go Go.AM Go.Law
open Go.ChangeShapes Go.WideShapes Go.ChangeAt Go.RowKit
set_option maxRecDepth 100000 in
theorem zji (os:Os) (started:os.Started) (H:Type) (enc:TypeId×Value->H) :
  ReturnsInHanded {} Try.checked os 3 .any (Rows.pulsesPlaysSpec.pre6 enc Try.prog Try.f3 Rows.pulsesPlaysRow.domain false) (Rows.pulsesPlaysSpec.post enc Try.prog Try.f3 false true false false):=by
 refine returnsInHanded_of_change (C:=Try.checked) zwd started (by kernel_rfl) Try.func3
  (ChangeSpec.witness6 (enc:=enc) (C:=Try.checked) false ⟨#[],#[.agg #[.int .i64 0,.int .i64 0,.int .i64 0,.int .i64 0,.int .i64 0,.int .i64 0,.int .i64 0,.slice none 0 0],.slice none 0 0],[]⟩ 8 (by kernel_rfl) (by kernel_rfl) (by kernel_rfl) (by kernel_rfl)) ?_
 intro W base args ds gs before hval hW _ _
 exact zqk zv0 zv1 (by decide) rfl u4 rfl (fun ds h=>by match ds,h with | [_,_],_=>exact ⟨rfl,rfl,rfl⟩)
  (zlC (zph zwb zwf) (zlC (zqi u25 zwi) (zqj))) (fun q hq=>ziL (zk6 q.1 q.2.1)) hval hW
theorem holds_PulsesPlays:Rows.PulsesPlaysSaid :=
 OpenClaim.holds_of_wide 3 Try.f3 rfl rfl rfl rfl rfl rfl rfl ⟨rfl,rfl,rfl,rfl,rfl⟩ rfl rfl rfl rfl rfl (by kernel_rfl) Try.func3 (by kernel_rfl)
  (of_decide_eq_true (by kernel_rfl)) (by unfold Func.isWrapper;rw [if_neg (of_decide_eq_false (by kernel_rfl))];exact ⟨rfl,rfl⟩)
  (fun os started H enc _=>zji os started H enc)
end Go.Proofs.Ytebfppngmmdfkaa
