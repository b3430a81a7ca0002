/-
  SharesLater: for every input the law returns true, and the arguments read as before (printed by rows.py).
  Conditions: none.
-/
import Derived.Test.YtkgldpboiigphaaRd
import Derived.Test.YtkgldpboiigphaaAmV
import Derived.Test.YtkgldpboiigphaaWkSharesLater2
import Derived.Test.YtkgldpboiigphaaPsG
set_option linter.all false
namespace Go.Proofs.Ytkgldpboiigphaa
open Go Go.AM Go.Law
open Go.ChangeShapes Go.WideShapes Go.ChangeAt Go.RowKit
set_option maxRecDepth 100000 in
theorem lifted_SharesLater (os : Os) (started : os.Started) (H : Type) (enc : TypeId × Value → H) :
    ReturnsInHanded {} Try.checked os 10 .any (Rows.sharesLaterSpec.pre6 enc Try.prog Try.f10 Rows.sharesLaterRow.domain false) (Rows.sharesLaterSpec.post enc Try.prog Try.f10 false true false false) := by
  refine returnsInHanded_of_change_sized (C := Try.checked) ownT started (by kernel_rfl) Try.func10
    (ChangeSpec.witness6 (enc := enc) (C := Try.checked) false ⟨#[], #[.agg #[.slice none 0 0, .int .i64 0], .slice none 0 0, .slice none 0 0], []⟩ 8 (by kernel_rfl) (by kernel_rfl) (by kernel_rfl) (by kernel_rfl)) ?_
  intro W base args ds gs before hval hW _ hz _
  exact lawZ_calls kidsT fullT (by decide) rfl u4 rfl (fun ds h => by match ds, h with | [_, _, _], _ => exact ⟨rfl, rfl, rfl⟩)
    (argsZ_cons (readsV_agg so24 rd24).z (argsZ_cons (readsZ_sl u28 (Nat.lt_of_lt_of_eq (Nat.succ_pos 7) (show 8 = Try.prog.bytesOf 3 by kernel_rfl)) rd28) (argsZ_cons (readsZ_sl u28 (Nat.lt_of_lt_of_eq (Nat.succ_pos 7) (show 8 = Try.prog.bytesOf 3 by kernel_rfl)) rd28) (argsZ_nil)))) (fun q hq => W_law09_SharesLater (law_SharesLater q.1 q.2.1 q.2.2.1 hq.1 hq.2.1 hq.2.2.1)) hval hz hW
theorem holds_SharesLater : Rows.SharesLaterSaid :=
  OpenClaim.holds_of_wide 10 Try.f10 rfl rfl rfl rfl rfl rfl rfl ⟨rfl, rfl, rfl, rfl, rfl⟩ rfl rfl rfl rfl rfl (by kernel_rfl) Try.func10 (by kernel_rfl)
    (of_decide_eq_true (by kernel_rfl)) (by unfold Func.isWrapper; rw [if_neg (of_decide_eq_false (by kernel_rfl))]; exact ⟨rfl, rfl⟩)
    (fun os started H enc _ => lifted_SharesLater os started H enc)
end Go.Proofs.Ytkgldpboiigphaa
