/-
  SharesBox: for every input the law returns true, and the arguments read as before (printed by rows.py).
  Conditions: none.
-/
import Derived.Test.YtenogpmlhpcibaaGreatRd
import Derived.Test.YtenogpmlhpcibaaGreatWkSharesBox5
import Derived.Test.YtenogpmlhpcibaaGreatPmA
set_option linter.all false
namespace Go.Proofs.YtenogpmlhpcibaaGreat
open Go Go.AM Go.Law
open Go.ChangeShapes Go.WideShapes Go.ChangeAt Go.RowKit
set_option maxRecDepth 100000 in
theorem zmo (os:Os) (started:os.Started) (H:Type) (enc:TypeId×Value->H) :
  ReturnsInHanded {} Tryz.checked os 4 .any (Rows.sharesBoxSpec.pre6 enc Tryz.prog Tryz.f4 Rows.sharesBoxRow.domain false) (Rows.sharesBoxSpec.post enc Tryz.prog Tryz.f4 false true false false):=by
 refine returnsInHanded_of_change (C:=Tryz.checked) zAn started (by kernel_rfl) Tryz.func4
  (ChangeSpec.witness6 (enc:=enc) (C:=Tryz.checked) false ⟨#[],#[.agg #[.slice none 0 0,.int .i64 0],.agg #[.int .i64 0,.slice none 0 0,.slice none 0 0,.slice none 0 0,.slice none 0 0,.slice none 0 0,.int .i64 0,.int .i64 0]],[]⟩ 8 (by kernel_rfl) (by kernel_rfl) (by kernel_rfl) (by kernel_rfl)) ?_
 intro W base args ds gs before hval hW _ _
 exact zt9 zz9 zAa (by decide) rfl u4 rfl (fun ds h=>by match ds,h with | [_,_],_=>exact ⟨rfl,rfl,rfl⟩)
  (zos (zor zAk zAr) (zos (zor zAl zAu) (zt8))) (fun q hq=>zlS (zpG q.1 q.2.1)) hval hW
theorem holds_SharesBox:Rows.SharesBoxSaid :=
 OpenClaim.holds_of_wide 4 Tryz.f4 rfl rfl rfl rfl rfl rfl rfl ⟨rfl,rfl,rfl,rfl,rfl⟩ rfl rfl rfl rfl rfl (by kernel_rfl) Tryz.func4 (by kernel_rfl)
  (of_decide_eq_true (by kernel_rfl)) (by unfold Func.isWrapper;rw [if_neg (of_decide_eq_false (by kernel_rfl))];exact ⟨rfl,rfl⟩)
  (fun os started H enc _=>zmo os started H enc)
end Go.Proofs.YtenogpmlhpcibaaGreat
