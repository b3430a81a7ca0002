/-
  TopOwner: for every input the law returns true, and the arguments read as before (printed by rows.py).
  Conditions: none.
-/
import Derived.Test.YtenogpmlhpcibaaRd
import Derived.Test.YtenogpmlhpcibaaWkTopOwner3
import Derived.Test.YtenogpmlhpcibaaPmA
set_option linter.all false
namespace Go.Proofs.Ytenogpmlhpcibaa
open Go Go.AM Go.Law
open Go.ChangeShapes Go.WideShapes Go.ChangeAt Go.RowKit
set_option maxRecDepth 100000 in
theorem lifted_TopOwner (os:Os) (started:os.Started) (H:Type) (enc:TypeId×Value→H) :
  ReturnsInHanded {} Try.checked os 12 .any (Rows.topOwnerSpec.pre6 enc Try.prog Try.f12 Rows.topOwnerRow.domain false) (Rows.topOwnerSpec.post enc Try.prog Try.f12 false true false false):=by
 refine returnsInHanded_of_change (C:=Try.checked) ownT started (by kernel_rfl) Try.func12
  (ChangeSpec.witness6 (enc:=enc) (C:=Try.checked) false ⟨#[],#[.agg #[.slice none 0 0,.int .i64 0],.agg #[.int .i64 0,.slice none 0 0,.slice none 0 0,.slice none 0 0,.slice none 0 0,.slice none 0 0,.int .i64 0,.int .i64 0]],[]⟩ 8 (by kernel_rfl) (by kernel_rfl) (by kernel_rfl) (by kernel_rfl)) ?_
 intro W base args ds gs before hval hW _ _
 exact law_calls kidsT fullT (by decide) rfl u4 rfl (fun ds h=>by match ds,h with | [_,_],_=>exact ⟨rfl,rfl,rfl⟩)
  (argsV_cons (readsV_agg so59 rd59) (argsV_cons (readsV_agg so26 rd26) (argsV_nil))) (fun q hq=>W_top_TopOwner (law_TopOwner q.1 q.2.1)) hval hW
theorem holds_TopOwner:Rows.TopOwnerSaid :=
 OpenClaim.holds_of_wide 12 Try.f12 rfl rfl rfl rfl rfl rfl rfl ⟨rfl,rfl,rfl,rfl,rfl⟩ rfl rfl rfl rfl rfl (by kernel_rfl) Try.func12 (by kernel_rfl)
  (of_decide_eq_true (by kernel_rfl)) (by unfold Func.isWrapper;rw [if_neg (of_decide_eq_false (by kernel_rfl))];exact ⟨rfl,rfl⟩)
  (fun os started H enc _=>lifted_TopOwner os started H enc)
end Go.Proofs.Ytenogpmlhpcibaa
