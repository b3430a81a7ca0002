/-
  WiresMore: for every input of bulk at most 1048576 the law returns true, and the arguments read as before.
  Conditions: the bulk of what it reads is at most 1048576.
-/
import Derived.Test.YtneghcnkcfblmaaRd
import Derived.Test.YtneghcnkcfblmaaWkWiresMore3
import Derived.Test.YtneghcnkcfblmaaPmA
import Derived.JoinedCond
import Derived.Test.YtneghcnkcfblmaaAmUp
set_option linter.all false
namespace Go.Proofs.Ytneghcnkcfblmaa
open Go Go.AM Go.Law
open Go.ChangeShapes Go.WideShapes Go.ChangeAt Go.RowKit
theorem bulk_one {H : Type} (d : DataW H) : 1 ≤ Rows.uptoBulk d := by
  cases d with
  | lit l => cases l <;> simp [Rows.uptoBulk]
  | nil => simp [Rows.uptoBulk]
  | ptr d => simp [Rows.uptoBulk]
  | slice elems spare => simp [Rows.uptoBulk]
  | agg parts => simp [Rows.uptoBulk]
  | iface t d => simp [Rows.uptoBulk]
  | map entries => simp [Rows.uptoBulk]
  | held h => simp [Rows.uptoBulk]
theorem bulk_mem {H : Type} {d : DataW H} {l : List (DataW H)} (h : d ∈ l) : Rows.uptoBulk d ≤ Rows.uptoBulkAll l := by
  induction l with
  | nil => cases h
  | cons x r ih =>
    simp only [Rows.uptoBulkAll]
    rcases List.mem_cons.1 h with e | e
    · subst e; omega
    · have := ih e; omega
theorem bulk_len {H : Type} : ∀ l : List (DataW H), l.length ≤ Rows.uptoBulkAll l
  | [] => by simp [Rows.uptoBulkAll]
  | x :: r => by
    have h1 := bulk_one x
    have h2 := bulk_len r
    simp only [Rows.uptoBulkAll, List.length_cons]
    omega
theorem bulk_agg {H : Type} (parts : List (DataW H)) (x : DataW H) (h : x ∈ parts) : Rows.uptoBulk x ≤ Rows.uptoBulk (.agg parts) := by
  have := bulk_mem h
  simp only [Rows.uptoBulk]
  omega
theorem bulk_slice {H : Type} (elems rest : List (DataW H)) : elems.length ≤ Rows.uptoBulk (.slice elems rest) := by
  have := bulk_len elems
  simp only [Rows.uptoBulk]
  omega
theorem bulk_first {H : Type} {d : DataW H} {gs : List (DataW H)} {n : Nat} (h : Rows.uptoBulkAll ([d] ++ gs) ≤ n) : Rows.uptoBulk d ≤ n := by
  simp only [List.cons_append, Rows.uptoBulkAll] at h
  omega
set_option maxRecDepth 100000 in
theorem lifted_WiresMoreUpto (os : Os) (started : os.Started) (H : Type) (enc : TypeId × Value → H) (F : Stop.Interp) :
    ReturnsInHanded {} Try.checked os 4 .any ((Rows.OpenSpec.upto Rows.wiresMoreSpec).pre6 enc Try.prog Try.f4 Rows.wiresMoreUptoRow.domain false) (((Rows.OpenSpec.upto Rows.wiresMoreSpec).at F).post enc Try.prog Try.f4 false true false false) := by
  refine returnsInHanded_of_cond (C := Try.checked) (s := Rows.OpenSpec.upto Rows.wiresMoreSpec) (k := Rows.uptoSmall) rfl ownT started (by kernel_rfl) Try.func4
    (OpenSpec.witness (enc := enc) (C := Try.checked) (s := Rows.OpenSpec.upto Rows.wiresMoreSpec) (k := Rows.uptoSmall) rfl false ⟨#[], #[.agg #[.int .i64 0, .int .i64 0, .slice none 0 0, .int .i64 0]], []⟩ 8 (by kernel_rfl) (by kernel_rfl) (by kernel_rfl)
      (x := ([.agg [.lit (.int .i64 0), .lit (.int .i64 0), .nil, .lit (.int .i64 0)]], [], [])) (by kernel_rfl) rfl (by kernel_rfl)) ?_
  intro W base args ds gs before hval hW _ hk _
  exact lawU_calls (g := fun a => .agg (Wire.cells a)) (ok := fun a => a.Presses.length ≤ 1048576) kidsT fullT (by decide) rfl rfl u4 rfl (fun _ => ⟨rfl, rfl, rfl⟩)
    (fun v d p hv hd hds => by
      subst hds
      obtain ⟨a, h1, h2⟩ := agg_small (sl := fun a : Wire => a.Presses) (fb := WirePress.cells) Rows.uptoBulk bulk_agg bulk_slice so24 rd24 (j := 2) rfl u22 c22 (fun _ => rfl) hv hd
      exact ⟨a, Nat.le_trans h1 (bulk_first (of_decide_eq_true hk)), h2⟩)
    (fun a h => W_law11_WiresMore (law_WiresMore a h)) hval hW
theorem holds_WiresMoreUpto : Rows.WiresMoreUptoSaid :=
  OpenClaim.holds_of_cond 4 Try.f4 rfl rfl rfl rfl rfl rfl rfl ⟨rfl, rfl, rfl, rfl, rfl⟩ rfl rfl rfl rfl rfl (by kernel_rfl) Try.func4 (by kernel_rfl)
    (of_decide_eq_true (by kernel_rfl)) (by unfold Func.isWrapper; rw [if_neg (of_decide_eq_false (by kernel_rfl))]; exact ⟨rfl, rfl⟩)
    (fun os started H enc _ F => lifted_WiresMoreUpto os started H enc F)
end Go.Proofs.Ytneghcnkcfblmaa
