/-
  TakingsMissing: for every input the law returns true, and the arguments read as before (printed by rows.py).
  Conditions: none.
-/
import Derived.Test.YtenogpmlhpcibaaGreatRd
import Derived.Test.YtenogpmlhpcibaaGreatWkTakingsMissing4
import Derived.Test.YtenogpmlhpcibaaGreatPmB
set_option linter.all false
namespace Go.Proofs.YtenogpmlhpcibaaGreat
open Go Go.AM Go.Law
open Go.ChangeShapes Go.WideShapes Go.ChangeAt Go.RowKit
set_option maxRecDepth 100000 in
theorem zi4 (os:Os) (started:os.Started) (H:Type) (enc:TypeId×Value->H) :
  ReturnsInHanded {} Tryz.checked os 3 .any (Rows.takingsMissingSpec.pre6 enc Tryz.prog Tryz.f3 Rows.takingsMissingRow.domain false) (Rows.takingsMissingSpec.post enc Tryz.prog Tryz.f3 false true false false):=by
 refine returnsInHanded_of_change (C:=Tryz.checked) zz4 started (by kernel_rfl) Tryz.func3
  (ChangeSpec.witness6 (enc:=enc) (C:=Tryz.checked) false ⟨#[],#[.agg #[.int .i64 0,.slice none 0 0,.slice none 0 0,.slice none 0 0,.slice none 0 0,.slice none 0 0,.int .i64 0,.int .i64 0]],[]⟩ 8 (by kernel_rfl) (by kernel_rfl) (by kernel_rfl) (by kernel_rfl)) ?_
 intro W base args ds gs before hval hW _ _
 exact zs5 zzO zzP (by decide) rfl u4 rfl (fun ds h=>by match ds,h with | [_],_=>exact ⟨rfl,rfl,rfl⟩)
  (zrN (zrM zz2 zz7) (zs4)) (fun q hq=>zix (zkF q.1)) hval hW
theorem holds_TakingsMissing:Rows.TakingsMissingSaid :=
 OpenClaim.holds_of_wide 3 Tryz.f3 rfl rfl rfl rfl rfl rfl rfl ⟨rfl,rfl,rfl,rfl,rfl⟩ rfl rfl rfl rfl rfl (by kernel_rfl) Tryz.func3 (by kernel_rfl)
  (of_decide_eq_true (by kernel_rfl)) (by unfold Func.isWrapper;rw [if_neg (of_decide_eq_false (by kernel_rfl))];exact ⟨rfl,rfl⟩)
  (fun os started H enc _=>zi4 os started H enc)
end Go.Proofs.YtenogpmlhpcibaaGreat
