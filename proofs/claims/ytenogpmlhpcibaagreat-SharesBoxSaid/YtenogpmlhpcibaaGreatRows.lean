/-
  No cell of these rows narrows 'for every input' (looked for: loops, veiled, ifaces, maps, wideKeys, modest, calm, conditions, laid).
  DERIVED. THE GIVEN ROWS OF THIS SEAT. 2 by the template 'for every input the law returns true; each argument reads behind the call as it read before'; 0 by the template 'total and deterministic' (their statements: YtenogpmlhpcibaaGreatTotals.lean).
  GIVEN WITH THE SEED: the statements are not yours to turn. If you find one false, say at which input.
  Laid BY PROGRAM, IN A SANDBOX (cutbox-rows.mjs): the forced cells as the released guide's own fill.sh prints them over the translation ea0f9d4a1978bdcd… (all of the seat's roots in one cut). By AI agents, Wed Nov 11 2026. No macro, syntax, notation, axiom, sorry.
-/
import Derived.Test.YtenogpmlhpcibaaGreatChecked
import GoSem.Claim
import GoSem.ClaimJoined
import GoSem.ClaimMapViews
import Derived.JoinedTies
import Derived.KernelRfl
namespace Go.Proofs.YtenogpmlhpcibaaGreat
/- THE CELL 'sum', in the pinned program and in every row, IS THE sha256 OF THE DUMP (.gsa) THAT YtenogpmlhpcibaaGreatProg.lean LOADS. Nothing in Lean hashes anything: it is a label: what it is worth is what the hold of that sum in a sandbox is worth. -/
noncomputable def Tryz.pinned : Pinned := { name := "ytenogpmlhpcibaagreat", sum := "ea0f9d4a1978bdcd595f1e1a8813a1e369004008f2f81b1ff0f6da97a2eac70e", checked := Tryz.checked }
namespace Rows
def none {H : Type} : Left H := { results := [], args := [] }

/-- 'shellaclaw05.TakingsMissing': WHATEVER THE INPUT: true; the input reads as it did. -/
def takingsMissingSpec : ChangeSpec := { name := "takingsMissing", fn := fun _ => fun
  | [d] => { results := [.lit (.bool true)], args := [d] }
  | _ => none }
def takingsMissingRow : OpenClaim := { program := "ytenogpmlhpcibaagreat", sum := "ea0f9d4a1978bdcd595f1e1a8813a1e369004008f2f81b1ff0f6da97a2eac70e", func := "shellac/shellaclaw05.TakingsMissing", spec := "takingsMissing", unfollowed := true, recurses := true, plainKeys := false, apart := false }
def TakingsMissingSaid : Prop := takingsMissingRow.holds Tryz.pinned (OpenSpec.ofChange takingsMissingSpec)

/-- ITS FALSE NEIGHBOUR: 'it returns false'. Refute it at one input. -/
def takingsMissingWrong : ChangeSpec := { name := "takingsMissing", fn := fun _ => fun
  | [d] => { results := [.lit (.bool false)], args := [d] }
  | _ => none }
def TakingsMissingWrongFalsely : Prop := takingsMissingRow.holds Tryz.pinned (OpenSpec.ofChange takingsMissingWrong)

/-- 'shellaclaw09.SharesBox': WHATEVER THE INPUT: true; the input reads as it did. -/
def sharesBoxSpec : ChangeSpec := { name := "sharesBox", fn := fun _ => fun
  | [d1, d2] => { results := [.lit (.bool true)], args := [d1, d2] }
  | _ => none }
def sharesBoxRow : OpenClaim := { program := "ytenogpmlhpcibaagreat", sum := "ea0f9d4a1978bdcd595f1e1a8813a1e369004008f2f81b1ff0f6da97a2eac70e", func := "shellac/shellaclaw09.SharesBox", spec := "sharesBox", unfollowed := true, recurses := true, plainKeys := false, apart := false }
def SharesBoxSaid : Prop := sharesBoxRow.holds Tryz.pinned (OpenSpec.ofChange sharesBoxSpec)

/-- ITS FALSE NEIGHBOUR: 'it returns false'. Refute it at one input. -/
def sharesBoxWrong : ChangeSpec := { name := "sharesBox", fn := fun _ => fun
  | [d1, d2] => { results := [.lit (.bool false)], args := [d1, d2] }
  | _ => none }
def SharesBoxWrongFalsely : Prop := sharesBoxRow.holds Tryz.pinned (OpenSpec.ofChange sharesBoxWrong)

/- THE SECOND FORM. 'bulk': how many values and letters a reading holds, each counted each time it is reached (what is shared counts as often as it is met; a slice's spare places count too). A statement '..UptoSaid' is the law's where the arguments, and the package variables that the reading takes, are together of bulk at most 1048576: NARROWER than '..Said'. Prove '..Said' where nothing that the law and all that it calls make is longer than what came in: it says more and counts as full. Else prove '..UptoSaid'. A law counts once. -/
mutual
def uptoBulk {H : Type} : DataW H → Nat
  | .lit (.string bytes) => bytes.length + 1
  | .lit _ => 1
  | .nil => 1
  | .ptr d => uptoBulk d + 1
  | .slice elems spare => uptoBulkAll elems + uptoBulkAll spare + 1
  | .agg parts => uptoBulkAll parts + 1
  | .iface _ d => uptoBulk d + 1
  | .map entries => uptoBulkEntries entries + 1
  | .held _ => 1
def uptoBulkAll {H : Type} : List (DataW H) → Nat
  | [] => 0
  | d :: r => uptoBulk d + uptoBulkAll r
def uptoBulkEntries {H : Type} : List (Lit × DataW H) → Nat
  | [] => 0
  | x :: r => uptoBulkEntry x + uptoBulkEntries r
def uptoBulkEntry {H : Type} : Lit × DataW H → Nat
  | (.string bytes, d) => bytes.length + uptoBulk d + 1
  | (_, d) => uptoBulk d + 1
 end
def uptoSmall : (H : Type) → List (DataW H) → Bool := fun _ ds => decide (uptoBulkAll ds ≤ 1048576)
def OpenSpec.upto (s : _root_.Go.ChangeSpec) : _root_.Go.OpenSpec := { _root_.Go.OpenSpec.ofChange s with cond := some uptoSmall }

/-- 'shellaclaw05.TakingsMissing', WHERE WHAT IT READS IS OF BULK AT MOST 1048576: true; the input reads as it did. -/
def takingsMissingUptoRow : OpenClaim := { program := "ytenogpmlhpcibaagreat", sum := "ea0f9d4a1978bdcd595f1e1a8813a1e369004008f2f81b1ff0f6da97a2eac70e", func := "shellac/shellaclaw05.TakingsMissing", spec := "takingsMissing", unfollowed := true, recurses := true, plainKeys := false, apart := false, narrowed := true }
def TakingsMissingUptoSaid : Prop := takingsMissingUptoRow.holds Tryz.pinned (OpenSpec.upto takingsMissingSpec)

/-- 'shellaclaw09.SharesBox', WHERE WHAT IT READS IS OF BULK AT MOST 1048576: true; the input reads as it did. -/
def sharesBoxUptoRow : OpenClaim := { program := "ytenogpmlhpcibaagreat", sum := "ea0f9d4a1978bdcd595f1e1a8813a1e369004008f2f81b1ff0f6da97a2eac70e", func := "shellac/shellaclaw09.SharesBox", spec := "sharesBox", unfollowed := true, recurses := true, plainKeys := false, apart := false, narrowed := true }
def SharesBoxUptoSaid : Prop := sharesBoxUptoRow.holds Tryz.pinned (OpenSpec.upto sharesBoxSpec)

end Rows
end Go.Proofs.YtenogpmlhpcibaaGreat
