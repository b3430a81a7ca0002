/-
  TakingsSum: for every input the law returns true, and the arguments read as before (printed by rows.py).
  Conditions: none.
-/
import Derived.Test.YtenogpmlhpcibaaRd
import Derived.Test.YtenogpmlhpcibaaWkTakingsSum4
import Derived.Test.YtenogpmlhpcibaaPmB
set_option linter.all false
namespace Go.Proofs.Ytenogpmlhpcibaa
open Go Go.AM Go.Law
open Go.ChangeShapes Go.WideShapes Go.ChangeAt Go.RowKit
set_option maxRecDepth 100000 in
theorem zkv (os:Os) (started:os.Started) (H:Type) (enc:TypeId×Value->H) :
  ReturnsInHanded {} Try.checked os 9 .any (Rows.takingsSumSpec.pre6 enc Try.prog Try.f9 Rows.takingsSumRow.domain false) (Rows.takingsSumSpec.post enc Try.prog Try.f9 false true false false):=by
 refine returnsInHanded_of_change (C:=Try.checked) zBK started (by kernel_rfl) Try.func9
  (ChangeSpec.witness6 (enc:=enc) (C:=Try.checked) false ⟨#[],#[.slice none 0 0],[]⟩ 8 (by kernel_rfl) (by kernel_rfl) (by kernel_rfl) (by kernel_rfl)) ?_
 intro W base args ds gs before hval hW _ _
 exact zsv zBx zBy (by decide) rfl u4 rfl (fun ds h=>by match ds,h with | [_],_=>exact ⟨rfl,rfl,rfl⟩)
  (zra (zst u50 zBP) (zsu)) (fun q hq=>zjV (zmr q.1)) hval hW
theorem holds_TakingsSum:Rows.TakingsSumSaid :=
 OpenClaim.holds_of_wide 9 Try.f9 rfl rfl rfl rfl rfl rfl rfl ⟨rfl,rfl,rfl,rfl,rfl⟩ rfl rfl rfl rfl rfl (by kernel_rfl) Try.func9 (by kernel_rfl)
  (of_decide_eq_true (by kernel_rfl)) (by unfold Func.isWrapper;rw [if_neg (of_decide_eq_false (by kernel_rfl))];exact ⟨rfl,rfl⟩)
  (fun os started H enc _=>zkv os started H enc)
end Go.Proofs.Ytenogpmlhpcibaa
