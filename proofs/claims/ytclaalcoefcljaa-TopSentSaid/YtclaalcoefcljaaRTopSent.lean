/-
  TopSent: for every input the law returns true, and the arguments read as before (printed by rows.py).
  Conditions: none.
-/
import Derived.Test.YtclaalcoefcljaaRd
import Derived.Test.YtclaalcoefcljaaWkTopSent4
import Derived.Test.YtclaalcoefcljaaPmA
set_option linter.all false
namespace Go.Proofs.Ytclaalcoefcljaa
open Go Go.AM Go.Law
open Go.ChangeShapes Go.WideShapes Go.ChangeAt Go.RowKit
set_option maxRecDepth 100000 in
theorem zj5 (os:Os) (started:os.Started) (H:Type) (enc:TypeId×Value->H) :
  ReturnsInHanded {} Try.checked os 5 .any (Rows.topSentSpec.pre6 enc Try.prog Try.f5 Rows.topSentRow.domain false) (Rows.topSentSpec.post enc Try.prog Try.f5 false true false false):=by
 refine returnsInHanded_of_change (C:=Try.checked) zwp started (by kernel_rfl) Try.func5
  (ChangeSpec.witness6 (enc:=enc) (C:=Try.checked) false ⟨#[],#[.agg #[.int .i64 0,.int .i64 0,.int .i64 0,.int .i64 0,.int .i64 0,.int .i64 0,.int .i64 0,.slice none 0 0],.slice none 0 0,.agg #[.slice none 0 0,.int .i64 0,.int .i64 0,.int .i64 0,.slice none 0 0]],[]⟩ 8 (by kernel_rfl) (by kernel_rfl) (by kernel_rfl) (by kernel_rfl)) ?_
 intro W base args ds gs before hval hW _ _
 exact zoT zwg zwh (by decide) rfl u4 rfl (fun ds h=>by match ds,h with | [_,_,_],_=>exact ⟨rfl,rfl,rfl⟩)
  (ziD (zkm zwk zwq) (ziD (zoR u26 zwj) (ziD (zkm zwl zwx) (zoS)))) (fun q hq=>zk4 (zmD q.1 q.2.1 q.2.2.1)) hval hW
theorem holds_TopSent:Rows.TopSentSaid :=
 OpenClaim.holds_of_wide 5 Try.f5 rfl rfl rfl rfl rfl rfl rfl ⟨rfl,rfl,rfl,rfl,rfl⟩ rfl rfl rfl rfl rfl (by kernel_rfl) Try.func5 (by kernel_rfl)
  (of_decide_eq_true (by kernel_rfl)) (by unfold Func.isWrapper;rw [if_neg (of_decide_eq_false (by kernel_rfl))];exact ⟨rfl,rfl⟩)
  (fun os started H enc _=>zj5 os started H enc)
end Go.Proofs.Ytclaalcoefcljaa
