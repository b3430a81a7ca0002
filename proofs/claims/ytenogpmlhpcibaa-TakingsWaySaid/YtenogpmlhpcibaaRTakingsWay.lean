/-
  TakingsWay: for every input the law returns true, and the arguments read as before (printed by rows.py).
  Conditions: none.
-/
import Derived.Test.YtenogpmlhpcibaaRd
import Derived.Test.YtenogpmlhpcibaaAmV
import Derived.Test.YtenogpmlhpcibaaWkTakingsWay4
import Derived.Test.YtenogpmlhpcibaaPmA
set_option linter.all false
namespace Go.Proofs.Ytenogpmlhpcibaa
open Go Go.AM Go.Law
open Go.ChangeShapes Go.WideShapes Go.ChangeAt Go.RowKit
set_option maxRecDepth 100000 in
theorem zjJ (os:Os) (started:os.Started) (H:Type) (enc:TypeId×Value->H) :
  ReturnsInHanded {} Try.checked os 11 .any (Rows.takingsWaySpec.pre6 enc Try.prog Try.f11 Rows.takingsWayRow.domain false) (Rows.takingsWaySpec.post enc Try.prog Try.f11 false true false false):=by
 refine returnsInHanded_of_change_sized (C:=Try.checked) zA2 started (by kernel_rfl) Try.func11
  (ChangeSpec.witness6 (enc:=enc) (C:=Try.checked) false ⟨#[],#[.agg #[.int .i64 0,.slice none 0 0,.slice none 0 0],.slice none 0 0],[]⟩ 8 (by kernel_rfl) (by kernel_rfl) (by kernel_rfl) (by kernel_rfl)) ?_
 intro W base args ds gs before hval hW _ hz _
 exact zqL zAP zAQ (by decide) rfl u4 rfl (fun ds h=>by match ds,h with | [_,_],_=>exact ⟨rfl,rfl,rfl⟩)
  (zl5 (zqr zA0 zA3).z (zl5 (zsj u22 (Nat.lt_of_lt_of_eq (Nat.succ_pos 7) (show 8=Try.prog.bytesOf 3 by kernel_rfl)) zAR) (zsk))) (fun q hq=>zjg (zlE q.1 q.2.1 hq.1 hq.2.1)) hval hz hW
theorem holds_TakingsWay:Rows.TakingsWaySaid :=
 OpenClaim.holds_of_wide 11 Try.f11 rfl rfl rfl rfl rfl rfl rfl ⟨rfl,rfl,rfl,rfl,rfl⟩ rfl rfl rfl rfl rfl (by kernel_rfl) Try.func11 (by kernel_rfl)
  (of_decide_eq_true (by kernel_rfl)) (by unfold Func.isWrapper;rw [if_neg (of_decide_eq_false (by kernel_rfl))];exact ⟨rfl,rfl⟩)
  (fun os started H enc _=>zjJ os started H enc)
end Go.Proofs.Ytenogpmlhpcibaa
