/-
  TopExplained: for every input the law returns true, and the arguments read as before (printed by rows.py).
  Conditions: none.
-/
import Derived.Test.YtenogpmlhpcibaaRd
import Derived.Test.YtenogpmlhpcibaaWkTopExplained4
import Derived.Test.YtenogpmlhpcibaaPmB
set_option linter.all false
namespace Go.Proofs.Ytenogpmlhpcibaa
open Go Go.AM Go.Law
open Go.ChangeShapes Go.WideShapes Go.ChangeAt Go.RowKit
set_option maxRecDepth 100000 in
theorem ziZ (os:Os) (started:os.Started) (H:Type) (enc:TypeId×Value->H) :
  ReturnsInHanded {} Try.checked os 13 .any (Rows.topExplainedSpec.pre6 enc Try.prog Try.f13 Rows.topExplainedRow.domain false) (Rows.topExplainedSpec.post enc Try.prog Try.f13 false true false false):=by
 refine returnsInHanded_of_change (C:=Try.checked) zBO started (by kernel_rfl) Try.func13
  (ChangeSpec.witness6 (enc:=enc) (C:=Try.checked) false ⟨#[],#[.agg #[.int .i64 0,.slice none 0 0,.slice none 0 0,.slice none 0 0,.slice none 0 0,.slice none 0 0,.int .i64 0,.int .i64 0]],[]⟩ 8 (by kernel_rfl) (by kernel_rfl) (by kernel_rfl) (by kernel_rfl)) ?_
 intro W base args ds gs before hval hW _ _
 exact zsT zBC zBD (by decide) rfl u4 rfl (fun ds h=>by match ds,h with | [_],_=>exact ⟨rfl,rfl,rfl⟩)
  (zrw (zrv zBM zBR) (zsS)) (fun q hq=>zjG (zkM q.1)) hval hW
theorem holds_TopExplained:Rows.TopExplainedSaid :=
 OpenClaim.holds_of_wide 13 Try.f13 rfl rfl rfl rfl rfl rfl rfl ⟨rfl,rfl,rfl,rfl,rfl⟩ rfl rfl rfl rfl rfl (by kernel_rfl) Try.func13 (by kernel_rfl)
  (of_decide_eq_true (by kernel_rfl)) (by unfold Func.isWrapper;rw [if_neg (of_decide_eq_false (by kernel_rfl))];exact ⟨rfl,rfl⟩)
  (fun os started H enc _=>ziZ os started H enc)
end Go.Proofs.Ytenogpmlhpcibaa
