/-
  TakingsCan: for every input the law returns true, and the arguments read as before (printed by rows.py).
  Conditions: none.
-/
import Derived.Test.YtenogpmlhpcibaaRd
import Derived.Test.YtenogpmlhpcibaaWkTakingsCan4
import Derived.Test.YtenogpmlhpcibaaPmA
set_option linter.all false
namespace Go.Proofs.Ytenogpmlhpcibaa
open Go Go.AM Go.Law
open Go.ChangeShapes Go.WideShapes Go.ChangeAt Go.RowKit
set_option maxRecDepth 100000 in
theorem lifted_TakingsCan (os:Os) (started:os.Started) (H:Type) (enc:TypeId×Value→H) :
  ReturnsInHanded {} Try.checked os 7 .any (Rows.takingsCanSpec.pre6 enc Try.prog Try.f7 Rows.takingsCanRow.domain false) (Rows.takingsCanSpec.post enc Try.prog Try.f7 false true false false):=by
 refine returnsInHanded_of_change (C:=Try.checked) ownT started (by kernel_rfl) Try.func7
  (ChangeSpec.witness6 (enc:=enc) (C:=Try.checked) false ⟨#[],#[.agg #[.int .i64 0,.slice none 0 0,.slice none 0 0,.slice none 0 0,.slice none 0 0,.slice none 0 0,.int .i64 0,.int .i64 0]],[]⟩ 8 (by kernel_rfl) (by kernel_rfl) (by kernel_rfl) (by kernel_rfl)) ?_
 intro W base args ds gs before hval hW _ _
 exact law_calls kidsT fullT (by decide) rfl u4 rfl (fun ds h=>by match ds,h with | [_],_=>exact ⟨rfl,rfl,rfl⟩)
  (argsV_cons (readsV_agg so26 rd26) (argsV_nil)) (fun q hq=>W_law05_TakingsCan (law_TakingsCan q.1)) hval hW
theorem holds_TakingsCan:Rows.TakingsCanSaid :=
 OpenClaim.holds_of_wide 7 Try.f7 rfl rfl rfl rfl rfl rfl rfl ⟨rfl,rfl,rfl,rfl,rfl⟩ rfl rfl rfl rfl rfl (by kernel_rfl) Try.func7 (by kernel_rfl)
  (of_decide_eq_true (by kernel_rfl)) (by unfold Func.isWrapper;rw [if_neg (of_decide_eq_false (by kernel_rfl))];exact ⟨rfl,rfl⟩)
  (fun os started H enc _=>lifted_TakingsCan os started H enc)
end Go.Proofs.Ytenogpmlhpcibaa
