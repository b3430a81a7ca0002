/-
  WiresMore: for every input the law returns true, and the arguments read as before.
  Conditions: none.
-/
import Derived.Test.YtneghcnkcfblmaaRd
import Derived.Test.YtneghcnkcfblmaaWkWiresMore3
import Derived.Test.YtneghcnkcfblmaaPmA
import Derived.Test.YtneghcnkcfblmaaAmUp
set_option linter.all false
namespace Go.Proofs.Ytneghcnkcfblmaa
open Go Go.AM Go.Law
open Go.ChangeShapes Go.WideShapes Go.ChangeAt Go.RowKit
set_option maxRecDepth 100000 in
theorem lifted_WiresMore (os : Os) (started : os.Started) (H : Type) (enc : TypeId × Value → H) :
    ReturnsInHanded {} Try.checked os 4 .any (Rows.wiresMoreSpec.pre6 enc Try.prog Try.f4 Rows.wiresMoreRow.domain false) (Rows.wiresMoreSpec.post enc Try.prog Try.f4 false true false false) := by
  refine returnsInHanded_of_change_sized (C := Try.checked) ownT started (by kernel_rfl) Try.func4
    (ChangeSpec.witness6 (enc := enc) (C := Try.checked) false ⟨#[], #[.agg #[.int .i64 0, .int .i64 0, .slice none 0 0, .int .i64 0]], []⟩ 8 (by kernel_rfl) (by kernel_rfl) (by kernel_rfl) (by kernel_rfl)) ?_
  intro W base args ds gs before hval hW _ hz _
  exact lawZ_calls kidsT fullT (by decide) rfl u4 rfl (fun ds h => by match ds, h with | [_], _ => exact ⟨rfl, rfl, rfl⟩)
    (argsZ_cons (readsZ_aggS (sl := fun a : Wire => a.Presses) (fb := WirePress.cells) (bytes := 24) so24 rd24 (j := 2) rfl u22 c22 (fun _ => rfl) (by kernel_rfl)) argsZ_nil) (fun q hq => W_law11_WiresMore (law_WiresMore q.1 hq.1)) hval hz hW
theorem holds_WiresMore : Rows.WiresMoreSaid :=
  OpenClaim.holds_of_wide 4 Try.f4 rfl rfl rfl rfl rfl rfl rfl ⟨rfl, rfl, rfl, rfl, rfl⟩ rfl rfl rfl rfl rfl (by kernel_rfl) Try.func4 (by kernel_rfl)
    (of_decide_eq_true (by kernel_rfl)) (by unfold Func.isWrapper; rw [if_neg (of_decide_eq_false (by kernel_rfl))]; exact ⟨rfl, rfl⟩)
    (fun os started H enc _ => lifted_WiresMore os started H enc)
end Go.Proofs.Ytneghcnkcfblmaa
