/-
  TopTurns: for every input the law returns true, and the arguments read as before (printed by rows.py).
  Conditions: none.
-/
import Derived.Test.YtchhkifidbkjcaaRd
import Derived.Test.YtchhkifidbkjcaaWkTopTurns4
import Derived.Test.YtchhkifidbkjcaaPmA
set_option linter.all false
namespace Go.Proofs.Ytchhkifidbkjcaa
open Go Go.AM Go.Law
open Go.ChangeShapes Go.WideShapes Go.ChangeAt Go.RowKit
set_option maxRecDepth 100000 in
theorem zln (os:Os) (started:os.Started) (H:Type) (enc:TypeId×Value->H) :
  ReturnsInHanded {} Try.checked os 3 .any (Rows.topTurnsSpec.pre6 enc Try.prog Try.f3 Rows.topTurnsRow.domain false) (Rows.topTurnsSpec.post enc Try.prog Try.f3 false true false false):=by
 refine returnsInHanded_of_change (C:=Try.checked) zyM started (by kernel_rfl) Try.func3
  (ChangeSpec.witness6 (enc:=enc) (C:=Try.checked) false ⟨#[],#[.agg #[.int .i64 0,.slice none 0 0,.slice none 0 0],.slice none 0 0,.agg #[.int .i64 0,.int .i64 0,.int .i64 0]],[]⟩ 8 (by kernel_rfl) (by kernel_rfl) (by kernel_rfl) (by kernel_rfl)) ?_
 intro W base args ds gs before hval hW _ _
 exact zrO zyx zyy (by decide) rfl u4 rfl (fun ds h=>by match ds,h with | [_,_,_],_=>exact ⟨rfl,rfl,rfl⟩)
  (zjh (zlX zyI zyN) (zjh (zrM u22 zyz) (zjh (zlX zyJ zyO) (zrN)))) (fun q hq=>zlA (zof q.1 q.2.1 q.2.2.1)) hval hW
theorem holds_TopTurns:Rows.TopTurnsSaid :=
 OpenClaim.holds_of_wide 3 Try.f3 rfl rfl rfl rfl rfl rfl rfl ⟨rfl,rfl,rfl,rfl,rfl⟩ rfl rfl rfl rfl rfl (by kernel_rfl) Try.func3 (by kernel_rfl)
  (of_decide_eq_true (by kernel_rfl)) (by unfold Func.isWrapper;rw [if_neg (of_decide_eq_false (by kernel_rfl))];exact ⟨rfl,rfl⟩)
  (fun os started H enc _=>zln os started H enc)
end Go.Proofs.Ytchhkifidbkjcaa
