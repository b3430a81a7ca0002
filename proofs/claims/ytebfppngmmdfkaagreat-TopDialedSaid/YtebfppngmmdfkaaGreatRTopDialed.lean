/-
  TopDialed: for every input the law returns true, and the arguments read as before (printed by rows.py).
  Conditions: none.
-/
import Derived.Test.YtebfppngmmdfkaaGreatRd
import Derived.Test.YtebfppngmmdfkaaGreatWkTopDialed4
import Derived.Test.YtebfppngmmdfkaaGreatPmA
set_option linter.all false
namespace Go.Proofs.YtebfppngmmdfkaaGreat
open Go Go.AM Go.Law
open Go.ChangeShapes Go.WideShapes Go.ChangeAt Go.RowKit
set_option maxRecDepth 100000 in
theorem zkq (os:Os) (started:os.Started) (H:Type) (enc:TypeId×Value->H) :
  ReturnsInHanded {} Tryz.checked os 3 .any (Rows.topDialedSpec.pre6 enc Tryz.prog Tryz.f3 Rows.topDialedRow.domain false) (Rows.topDialedSpec.post enc Tryz.prog Tryz.f3 false true false false):=by
 refine returnsInHanded_of_change (C:=Tryz.checked) zx6 started (by kernel_rfl) Tryz.func3
  (ChangeSpec.witness6 (enc:=enc) (C:=Tryz.checked) false ⟨#[],#[.agg #[.int .i64 0,.int .i64 0,.int .i64 0,.int .i64 0,.int .i64 0,.int .i64 0,.int .i64 0,.slice none 0 0],.agg #[.int .i64 0,.int .i64 0,.slice none 0 0,.int .i64 0,.slice none 0 0,.slice none 0 0]],[]⟩ 8 (by kernel_rfl) (by kernel_rfl) (by kernel_rfl) (by kernel_rfl)) ?_
 intro W base args ds gs before hval hW _ _
 exact zrg zxN zxO (by decide) rfl u4 rfl (fun ds h=>by match ds,h with | [_,_],_=>exact ⟨rfl,rfl,rfl⟩)
  (zl3 (zl2 zx0 zx7) (zl3 (zl2 zx1 zyg) (zrf))) (fun q hq=>zlm (zm2 q.1 q.2.1)) hval hW
theorem holds_TopDialed:Rows.TopDialedSaid :=
 OpenClaim.holds_of_wide 3 Tryz.f3 rfl rfl rfl rfl rfl rfl rfl ⟨rfl,rfl,rfl,rfl,rfl⟩ rfl rfl rfl rfl rfl (by kernel_rfl) Tryz.func3 (by kernel_rfl)
  (of_decide_eq_true (by kernel_rfl)) (by unfold Func.isWrapper;rw [if_neg (of_decide_eq_false (by kernel_rfl))];exact ⟨rfl,rfl⟩)
  (fun os started H enc _=>zkq os started H enc)
end Go.Proofs.YtebfppngmmdfkaaGreat
