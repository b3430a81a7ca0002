/-
  No cell of these rows narrows 'for every input' (looked for: loops, veiled, ifaces, maps, wideKeys, modest, calm, conditions, laid).
  DERIVED. THE GIVEN ROWS OF THIS SEAT. 11 by the template 'for every input the law returns true; each argument reads behind the call as it read before'; 0 by the template 'total and deterministic' (their statements: YtkgldpboiigphaaTotals.lean).
  GIVEN WITH THE SEED: the statements are not yours to turn. If you find one false, say at which input.
  Laid BY PROGRAM, IN A SANDBOX (cutbox-rows.mjs): the forced cells as the released guide's own fill.sh prints them over the translation 2eb67c161b4b3bee… (all of the seat's roots in one cut). By AI agents, Wed Nov 11 2026. No macro, syntax, notation, axiom, sorry.
-/
import Derived.Test.YtkgldpboiigphaaChecked
import GoSem.Claim
import GoSem.ClaimJoined
import GoSem.ClaimMapViews
import Derived.JoinedTies
import Derived.KernelRfl
namespace Go.Proofs.Ytkgldpboiigphaa
/- THE CELL 'sum', in the pinned program and in every row, IS THE sha256 OF THE DUMP (.gsa) THAT YtkgldpboiigphaaProg.lean LOADS. Nothing in Lean hashes anything: it is a label: what it is worth is what the hold of that sum in a sandbox is worth. -/
noncomputable def Try.pinned : Pinned := { name := "ytkgldpboiigphaa", sum := "2eb67c161b4b3beedab79c53c6aa3352b435b4608ec473355e96efb12ed6819e", checked := Try.checked }
namespace Rows
def none {H : Type} : Left H := { results := [], args := [] }

/-- 'shellaclaw09.SharesBest': WHATEVER THE INPUT: true; the input reads as it did. -/
def sharesBestSpec : ChangeSpec := { name := "sharesBest", fn := fun _ => fun
  | [d1, d2] => { results := [.lit (.bool true)], args := [d1, d2] }
  | _ => none }
def sharesBestRow : OpenClaim := { program := "ytkgldpboiigphaa", sum := "2eb67c161b4b3beedab79c53c6aa3352b435b4608ec473355e96efb12ed6819e", func := "shellac/shellaclaw09.SharesBest", spec := "sharesBest", unfollowed := true, recurses := true, apart := false }
def SharesBestSaid : Prop := sharesBestRow.holds Try.pinned (OpenSpec.ofChange sharesBestSpec)

/-- ITS FALSE NEIGHBOUR: 'it returns false'. Refute it at one input. -/
def sharesBestWrong : ChangeSpec := { name := "sharesBest", fn := fun _ => fun
  | [d1, d2] => { results := [.lit (.bool false)], args := [d1, d2] }
  | _ => none }
def SharesBestWrongFalsely : Prop := sharesBestRow.holds Try.pinned (OpenSpec.ofChange sharesBestWrong)

/-- 'shellaclaw09.SharesGreater': WHATEVER THE INPUT: true; the input reads as it did. -/
def sharesGreaterSpec : ChangeSpec := { name := "sharesGreater", fn := fun _ => fun
  | [d1, d2, d3] => { results := [.lit (.bool true)], args := [d1, d2, d3] }
  | _ => none }
def sharesGreaterRow : OpenClaim := { program := "ytkgldpboiigphaa", sum := "2eb67c161b4b3beedab79c53c6aa3352b435b4608ec473355e96efb12ed6819e", func := "shellac/shellaclaw09.SharesGreater", spec := "sharesGreater", unfollowed := true, recurses := true, apart := false }
def SharesGreaterSaid : Prop := sharesGreaterRow.holds Try.pinned (OpenSpec.ofChange sharesGreaterSpec)

/-- ITS FALSE NEIGHBOUR: 'it returns false'. Refute it at one input. -/
def sharesGreaterWrong : ChangeSpec := { name := "sharesGreater", fn := fun _ => fun
  | [d1, d2, d3] => { results := [.lit (.bool false)], args := [d1, d2, d3] }
  | _ => none }
def SharesGreaterWrongFalsely : Prop := sharesGreaterRow.holds Try.pinned (OpenSpec.ofChange sharesGreaterWrong)

/-- 'shellaclaw09.SharesOrder': WHATEVER THE INPUT: true; the input reads as it did. -/
def sharesOrderSpec : ChangeSpec := { name := "sharesOrder", fn := fun _ => fun
  | [d1, d2, d3] => { results := [.lit (.bool true)], args := [d1, d2, d3] }
  | _ => none }
def sharesOrderRow : OpenClaim := { program := "ytkgldpboiigphaa", sum := "2eb67c161b4b3beedab79c53c6aa3352b435b4608ec473355e96efb12ed6819e", func := "shellac/shellaclaw09.SharesOrder", spec := "sharesOrder", unfollowed := true, recurses := true, apart := false }
def SharesOrderSaid : Prop := sharesOrderRow.holds Try.pinned (OpenSpec.ofChange sharesOrderSpec)

/-- ITS FALSE NEIGHBOUR: 'it returns false'. Refute it at one input. -/
def sharesOrderWrong : ChangeSpec := { name := "sharesOrder", fn := fun _ => fun
  | [d1, d2, d3] => { results := [.lit (.bool false)], args := [d1, d2, d3] }
  | _ => none }
def SharesOrderWrongFalsely : Prop := sharesOrderRow.holds Try.pinned (OpenSpec.ofChange sharesOrderWrong)

/-- 'shellaclaw09.SharesCent': WHATEVER THE INPUT: true; the input reads as it did. -/
def sharesCentSpec : ChangeSpec := { name := "sharesCent", fn := fun _ => fun
  | [d1, d2] => { results := [.lit (.bool true)], args := [d1, d2] }
  | _ => none }
def sharesCentRow : OpenClaim := { program := "ytkgldpboiigphaa", sum := "2eb67c161b4b3beedab79c53c6aa3352b435b4608ec473355e96efb12ed6819e", func := "shellac/shellaclaw09.SharesCent", spec := "sharesCent", unfollowed := true, recurses := true, apart := false }
def SharesCentSaid : Prop := sharesCentRow.holds Try.pinned (OpenSpec.ofChange sharesCentSpec)

/-- ITS FALSE NEIGHBOUR: 'it returns false'. Refute it at one input. -/
def sharesCentWrong : ChangeSpec := { name := "sharesCent", fn := fun _ => fun
  | [d1, d2] => { results := [.lit (.bool false)], args := [d1, d2] }
  | _ => none }
def SharesCentWrongFalsely : Prop := sharesCentRow.holds Try.pinned (OpenSpec.ofChange sharesCentWrong)

/-- 'shellaclaw09.SharesEnough': WHATEVER THE INPUT: true; the input reads as it did. -/
def sharesEnoughSpec : ChangeSpec := { name := "sharesEnough", fn := fun _ => fun
  | [d1, d2] => { results := [.lit (.bool true)], args := [d1, d2] }
  | _ => none }
def sharesEnoughRow : OpenClaim := { program := "ytkgldpboiigphaa", sum := "2eb67c161b4b3beedab79c53c6aa3352b435b4608ec473355e96efb12ed6819e", func := "shellac/shellaclaw09.SharesEnough", spec := "sharesEnough", unfollowed := true, recurses := true, apart := false }
def SharesEnoughSaid : Prop := sharesEnoughRow.holds Try.pinned (OpenSpec.ofChange sharesEnoughSpec)

/-- ITS FALSE NEIGHBOUR: 'it returns false'. Refute it at one input. -/
def sharesEnoughWrong : ChangeSpec := { name := "sharesEnough", fn := fun _ => fun
  | [d1, d2] => { results := [.lit (.bool false)], args := [d1, d2] }
  | _ => none }
def SharesEnoughWrongFalsely : Prop := sharesEnoughRow.holds Try.pinned (OpenSpec.ofChange sharesEnoughWrong)

/-- 'shellaclaw09.SharesGoal': WHATEVER THE INPUT: true; the input reads as it did. -/
def sharesGoalSpec : ChangeSpec := { name := "sharesGoal", fn := fun _ => fun
  | [d1, d2, d3] => { results := [.lit (.bool true)], args := [d1, d2, d3] }
  | _ => none }
def sharesGoalRow : OpenClaim := { program := "ytkgldpboiigphaa", sum := "2eb67c161b4b3beedab79c53c6aa3352b435b4608ec473355e96efb12ed6819e", func := "shellac/shellaclaw09.SharesGoal", spec := "sharesGoal", unfollowed := true, recurses := true, apart := false }
def SharesGoalSaid : Prop := sharesGoalRow.holds Try.pinned (OpenSpec.ofChange sharesGoalSpec)

/-- ITS FALSE NEIGHBOUR: 'it returns false'. Refute it at one input. -/
def sharesGoalWrong : ChangeSpec := { name := "sharesGoal", fn := fun _ => fun
  | [d1, d2, d3] => { results := [.lit (.bool false)], args := [d1, d2, d3] }
  | _ => none }
def SharesGoalWrongFalsely : Prop := sharesGoalRow.holds Try.pinned (OpenSpec.ofChange sharesGoalWrong)

/-- 'shellaclaw09.SharesWeeks': WHATEVER THE INPUT: true; the input reads as it did. -/
def sharesWeeksSpec : ChangeSpec := { name := "sharesWeeks", fn := fun _ => fun
  | [d1, d2] => { results := [.lit (.bool true)], args := [d1, d2] }
  | _ => none }
def sharesWeeksRow : OpenClaim := { program := "ytkgldpboiigphaa", sum := "2eb67c161b4b3beedab79c53c6aa3352b435b4608ec473355e96efb12ed6819e", func := "shellac/shellaclaw09.SharesWeeks", spec := "sharesWeeks", unfollowed := true, recurses := true, apart := false }
def SharesWeeksSaid : Prop := sharesWeeksRow.holds Try.pinned (OpenSpec.ofChange sharesWeeksSpec)

/-- ITS FALSE NEIGHBOUR: 'it returns false'. Refute it at one input. -/
def sharesWeeksWrong : ChangeSpec := { name := "sharesWeeks", fn := fun _ => fun
  | [d1, d2] => { results := [.lit (.bool false)], args := [d1, d2] }
  | _ => none }
def SharesWeeksWrongFalsely : Prop := sharesWeeksRow.holds Try.pinned (OpenSpec.ofChange sharesWeeksWrong)

/-- 'shellaclaw09.SharesLater': WHATEVER THE INPUT: true; the input reads as it did. -/
def sharesLaterSpec : ChangeSpec := { name := "sharesLater", fn := fun _ => fun
  | [d1, d2, d3] => { results := [.lit (.bool true)], args := [d1, d2, d3] }
  | _ => none }
def sharesLaterRow : OpenClaim := { program := "ytkgldpboiigphaa", sum := "2eb67c161b4b3beedab79c53c6aa3352b435b4608ec473355e96efb12ed6819e", func := "shellac/shellaclaw09.SharesLater", spec := "sharesLater", unfollowed := true, recurses := true, apart := false }
def SharesLaterSaid : Prop := sharesLaterRow.holds Try.pinned (OpenSpec.ofChange sharesLaterSpec)

/-- ITS FALSE NEIGHBOUR: 'it returns false'. Refute it at one input. -/
def sharesLaterWrong : ChangeSpec := { name := "sharesLater", fn := fun _ => fun
  | [d1, d2, d3] => { results := [.lit (.bool false)], args := [d1, d2, d3] }
  | _ => none }
def SharesLaterWrongFalsely : Prop := sharesLaterRow.holds Try.pinned (OpenSpec.ofChange sharesLaterWrong)

/-- 'shellaclaw09.SharesRepaid': WHATEVER THE INPUT: true; the input reads as it did. -/
def sharesRepaidSpec : ChangeSpec := { name := "sharesRepaid", fn := fun _ => fun
  | [d1, d2] => { results := [.lit (.bool true)], args := [d1, d2] }
  | _ => none }
def sharesRepaidRow : OpenClaim := { program := "ytkgldpboiigphaa", sum := "2eb67c161b4b3beedab79c53c6aa3352b435b4608ec473355e96efb12ed6819e", func := "shellac/shellaclaw09.SharesRepaid", spec := "sharesRepaid", unfollowed := true, recurses := true, apart := false }
def SharesRepaidSaid : Prop := sharesRepaidRow.holds Try.pinned (OpenSpec.ofChange sharesRepaidSpec)

/-- ITS FALSE NEIGHBOUR: 'it returns false'. Refute it at one input. -/
def sharesRepaidWrong : ChangeSpec := { name := "sharesRepaid", fn := fun _ => fun
  | [d1, d2] => { results := [.lit (.bool false)], args := [d1, d2] }
  | _ => none }
def SharesRepaidWrongFalsely : Prop := sharesRepaidRow.holds Try.pinned (OpenSpec.ofChange sharesRepaidWrong)

/-- 'shellaclaw09.SharesWeek': WHATEVER THE INPUT: true; the input reads as it did. -/
def sharesWeekSpec : ChangeSpec := { name := "sharesWeek", fn := fun _ => fun
  | [d1, d2] => { results := [.lit (.bool true)], args := [d1, d2] }
  | _ => none }
def sharesWeekRow : OpenClaim := { program := "ytkgldpboiigphaa", sum := "2eb67c161b4b3beedab79c53c6aa3352b435b4608ec473355e96efb12ed6819e", func := "shellac/shellaclaw09.SharesWeek", spec := "sharesWeek", unfollowed := true, recurses := true, apart := false }
def SharesWeekSaid : Prop := sharesWeekRow.holds Try.pinned (OpenSpec.ofChange sharesWeekSpec)

/-- ITS FALSE NEIGHBOUR: 'it returns false'. Refute it at one input. -/
def sharesWeekWrong : ChangeSpec := { name := "sharesWeek", fn := fun _ => fun
  | [d1, d2] => { results := [.lit (.bool false)], args := [d1, d2] }
  | _ => none }
def SharesWeekWrongFalsely : Prop := sharesWeekRow.holds Try.pinned (OpenSpec.ofChange sharesWeekWrong)

/-- 'shellaclaw09.SharesNothing': WHATEVER THE INPUT: true; the input reads as it did. -/
def sharesNothingSpec : ChangeSpec := { name := "sharesNothing", fn := fun _ => fun
  | [d1, d2, d3] => { results := [.lit (.bool true)], args := [d1, d2, d3] }
  | _ => none }
def sharesNothingRow : OpenClaim := { program := "ytkgldpboiigphaa", sum := "2eb67c161b4b3beedab79c53c6aa3352b435b4608ec473355e96efb12ed6819e", func := "shellac/shellaclaw09.SharesNothing", spec := "sharesNothing", unfollowed := true, recurses := true, apart := false }
def SharesNothingSaid : Prop := sharesNothingRow.holds Try.pinned (OpenSpec.ofChange sharesNothingSpec)

/-- ITS FALSE NEIGHBOUR: 'it returns false'. Refute it at one input. -/
def sharesNothingWrong : ChangeSpec := { name := "sharesNothing", fn := fun _ => fun
  | [d1, d2, d3] => { results := [.lit (.bool false)], args := [d1, d2, d3] }
  | _ => none }
def SharesNothingWrongFalsely : Prop := sharesNothingRow.holds Try.pinned (OpenSpec.ofChange sharesNothingWrong)

/- THE SECOND FORM. 'bulk': how many values and letters a reading holds, each counted each time it is reached (what is shared counts as often as it is met; a slice's spare places count too). A statement '..UptoSaid' is the law's where the arguments, and the package variables that the reading takes, are together of bulk at most 1048576: NARROWER than '..Said'. Prove '..Said' where nothing that the law and all that it calls make is longer than what came in: it says more and counts as full. Else prove '..UptoSaid'. A law counts once. -/
mutual
def uptoBulk {H : Type} : DataW H → Nat
  | .lit (.string bytes) => bytes.length + 1
  | .lit _ => 1
  | .nil => 1
  | .ptr d => uptoBulk d + 1
  | .slice elems spare => uptoBulkAll elems + uptoBulkAll spare + 1
  | .agg parts => uptoBulkAll parts + 1
  | .iface _ d => uptoBulk d + 1
  | .map entries => uptoBulkEntries entries + 1
  | .held _ => 1
def uptoBulkAll {H : Type} : List (DataW H) → Nat
  | [] => 0
  | d :: r => uptoBulk d + uptoBulkAll r
def uptoBulkEntries {H : Type} : List (Lit × DataW H) → Nat
  | [] => 0
  | x :: r => uptoBulkEntry x + uptoBulkEntries r
def uptoBulkEntry {H : Type} : Lit × DataW H → Nat
  | (.string bytes, d) => bytes.length + uptoBulk d + 1
  | (_, d) => uptoBulk d + 1
 end
def uptoSmall : (H : Type) → List (DataW H) → Bool := fun _ ds => decide (uptoBulkAll ds ≤ 1048576)
def OpenSpec.upto (s : _root_.Go.ChangeSpec) : _root_.Go.OpenSpec := { _root_.Go.OpenSpec.ofChange s with cond := some uptoSmall }

/-- 'shellaclaw09.SharesBest', WHERE WHAT IT READS IS OF BULK AT MOST 1048576: true; the input reads as it did. -/
def sharesBestUptoRow : OpenClaim := { program := "ytkgldpboiigphaa", sum := "2eb67c161b4b3beedab79c53c6aa3352b435b4608ec473355e96efb12ed6819e", func := "shellac/shellaclaw09.SharesBest", spec := "sharesBest", unfollowed := true, recurses := true, apart := false, narrowed := true }
def SharesBestUptoSaid : Prop := sharesBestUptoRow.holds Try.pinned (OpenSpec.upto sharesBestSpec)

/-- 'shellaclaw09.SharesGreater', WHERE WHAT IT READS IS OF BULK AT MOST 1048576: true; the input reads as it did. -/
def sharesGreaterUptoRow : OpenClaim := { program := "ytkgldpboiigphaa", sum := "2eb67c161b4b3beedab79c53c6aa3352b435b4608ec473355e96efb12ed6819e", func := "shellac/shellaclaw09.SharesGreater", spec := "sharesGreater", unfollowed := true, recurses := true, apart := false, narrowed := true }
def SharesGreaterUptoSaid : Prop := sharesGreaterUptoRow.holds Try.pinned (OpenSpec.upto sharesGreaterSpec)

/-- 'shellaclaw09.SharesOrder', WHERE WHAT IT READS IS OF BULK AT MOST 1048576: true; the input reads as it did. -/
def sharesOrderUptoRow : OpenClaim := { program := "ytkgldpboiigphaa", sum := "2eb67c161b4b3beedab79c53c6aa3352b435b4608ec473355e96efb12ed6819e", func := "shellac/shellaclaw09.SharesOrder", spec := "sharesOrder", unfollowed := true, recurses := true, apart := false, narrowed := true }
def SharesOrderUptoSaid : Prop := sharesOrderUptoRow.holds Try.pinned (OpenSpec.upto sharesOrderSpec)

/-- 'shellaclaw09.SharesCent', WHERE WHAT IT READS IS OF BULK AT MOST 1048576: true; the input reads as it did. -/
def sharesCentUptoRow : OpenClaim := { program := "ytkgldpboiigphaa", sum := "2eb67c161b4b3beedab79c53c6aa3352b435b4608ec473355e96efb12ed6819e", func := "shellac/shellaclaw09.SharesCent", spec := "sharesCent", unfollowed := true, recurses := true, apart := false, narrowed := true }
def SharesCentUptoSaid : Prop := sharesCentUptoRow.holds Try.pinned (OpenSpec.upto sharesCentSpec)

/-- 'shellaclaw09.SharesEnough', WHERE WHAT IT READS IS OF BULK AT MOST 1048576: true; the input reads as it did. -/
def sharesEnoughUptoRow : OpenClaim := { program := "ytkgldpboiigphaa", sum := "2eb67c161b4b3beedab79c53c6aa3352b435b4608ec473355e96efb12ed6819e", func := "shellac/shellaclaw09.SharesEnough", spec := "sharesEnough", unfollowed := true, recurses := true, apart := false, narrowed := true }
def SharesEnoughUptoSaid : Prop := sharesEnoughUptoRow.holds Try.pinned (OpenSpec.upto sharesEnoughSpec)

/-- 'shellaclaw09.SharesGoal', WHERE WHAT IT READS IS OF BULK AT MOST 1048576: true; the input reads as it did. -/
def sharesGoalUptoRow : OpenClaim := { program := "ytkgldpboiigphaa", sum := "2eb67c161b4b3beedab79c53c6aa3352b435b4608ec473355e96efb12ed6819e", func := "shellac/shellaclaw09.SharesGoal", spec := "sharesGoal", unfollowed := true, recurses := true, apart := false, narrowed := true }
def SharesGoalUptoSaid : Prop := sharesGoalUptoRow.holds Try.pinned (OpenSpec.upto sharesGoalSpec)

/-- 'shellaclaw09.SharesWeeks', WHERE WHAT IT READS IS OF BULK AT MOST 1048576: true; the input reads as it did. -/
def sharesWeeksUptoRow : OpenClaim := { program := "ytkgldpboiigphaa", sum := "2eb67c161b4b3beedab79c53c6aa3352b435b4608ec473355e96efb12ed6819e", func := "shellac/shellaclaw09.SharesWeeks", spec := "sharesWeeks", unfollowed := true, recurses := true, apart := false, narrowed := true }
def SharesWeeksUptoSaid : Prop := sharesWeeksUptoRow.holds Try.pinned (OpenSpec.upto sharesWeeksSpec)

/-- 'shellaclaw09.SharesLater', WHERE WHAT IT READS IS OF BULK AT MOST 1048576: true; the input reads as it did. -/
def sharesLaterUptoRow : OpenClaim := { program := "ytkgldpboiigphaa", sum := "2eb67c161b4b3beedab79c53c6aa3352b435b4608ec473355e96efb12ed6819e", func := "shellac/shellaclaw09.SharesLater", spec := "sharesLater", unfollowed := true, recurses := true, apart := false, narrowed := true }
def SharesLaterUptoSaid : Prop := sharesLaterUptoRow.holds Try.pinned (OpenSpec.upto sharesLaterSpec)

/-- 'shellaclaw09.SharesRepaid', WHERE WHAT IT READS IS OF BULK AT MOST 1048576: true; the input reads as it did. -/
def sharesRepaidUptoRow : OpenClaim := { program := "ytkgldpboiigphaa", sum := "2eb67c161b4b3beedab79c53c6aa3352b435b4608ec473355e96efb12ed6819e", func := "shellac/shellaclaw09.SharesRepaid", spec := "sharesRepaid", unfollowed := true, recurses := true, apart := false, narrowed := true }
def SharesRepaidUptoSaid : Prop := sharesRepaidUptoRow.holds Try.pinned (OpenSpec.upto sharesRepaidSpec)

/-- 'shellaclaw09.SharesWeek', WHERE WHAT IT READS IS OF BULK AT MOST 1048576: true; the input reads as it did. -/
def sharesWeekUptoRow : OpenClaim := { program := "ytkgldpboiigphaa", sum := "2eb67c161b4b3beedab79c53c6aa3352b435b4608ec473355e96efb12ed6819e", func := "shellac/shellaclaw09.SharesWeek", spec := "sharesWeek", unfollowed := true, recurses := true, apart := false, narrowed := true }
def SharesWeekUptoSaid : Prop := sharesWeekUptoRow.holds Try.pinned (OpenSpec.upto sharesWeekSpec)

/-- 'shellaclaw09.SharesNothing', WHERE WHAT IT READS IS OF BULK AT MOST 1048576: true; the input reads as it did. -/
def sharesNothingUptoRow : OpenClaim := { program := "ytkgldpboiigphaa", sum := "2eb67c161b4b3beedab79c53c6aa3352b435b4608ec473355e96efb12ed6819e", func := "shellac/shellaclaw09.SharesNothing", spec := "sharesNothing", unfollowed := true, recurses := true, apart := false, narrowed := true }
def SharesNothingUptoSaid : Prop := sharesNothingUptoRow.holds Try.pinned (OpenSpec.upto sharesNothingSpec)

end Rows
end Go.Proofs.Ytkgldpboiigphaa
