/-
  No cell of these rows narrows 'for every input' (looked for: loops, veiled, ifaces, maps, wideKeys, modest, calm, conditions, laid).
  DERIVED. THE GIVEN ROWS OF THIS SEAT. 12 by the template 'for every input the law returns true; each argument reads behind the call as it read before'; 0 by the template 'total and deterministic' (their statements: YtenogpmlhpcibaaTotals.lean).
  GIVEN WITH THE SEED: the statements are not yours to turn. If you find one false, say at which input.
  Laid BY PROGRAM, IN A SANDBOX (cutbox-rows.mjs): the forced cells as the released guide's own fill.sh prints them over the translation f61b92043c6c57c4… (all of the seat's roots in one cut). By AI agents, Wed Nov 11 2026. No macro, syntax, notation, axiom, sorry.
-/
import Derived.Test.YtenogpmlhpcibaaChecked
import GoSem.Claim
import GoSem.ClaimJoined
import GoSem.ClaimMapViews
import Derived.JoinedTies
import Derived.KernelRfl
namespace Go.Proofs.Ytenogpmlhpcibaa
/- THE CELL 'sum', in the pinned program and in every row, IS THE sha256 OF THE DUMP (.gsa) THAT YtenogpmlhpcibaaProg.lean LOADS. Nothing in Lean hashes anything: it is a label: what it is worth is what the hold of that sum in a sandbox is worth. -/
noncomputable def Try.pinned : Pinned := { name := "ytenogpmlhpcibaa", sum := "f61b92043c6c57c4db5ba906f2bd7cf70967c33eacd26e1ddf61e5f2841d9e5a", checked := Try.checked }
namespace Rows
def none {H : Type} : Left H := { results := [], args := [] }

/-- 'shellaclaw05.TakingsSlugs': WHATEVER THE INPUT: true; the input reads as it did. -/
def takingsSlugsSpec : ChangeSpec := { name := "takingsSlugs", fn := fun _ => fun
  | [d1, d2] => { results := [.lit (.bool true)], args := [d1, d2] }
  | _ => none }
def takingsSlugsRow : OpenClaim := { program := "ytenogpmlhpcibaa", sum := "f61b92043c6c57c4db5ba906f2bd7cf70967c33eacd26e1ddf61e5f2841d9e5a", func := "shellac/shellaclaw05.TakingsSlugs", spec := "takingsSlugs", unfollowed := true, recurses := true, plainKeys := false, apart := false }
def TakingsSlugsSaid : Prop := takingsSlugsRow.holds Try.pinned (OpenSpec.ofChange takingsSlugsSpec)

/-- ITS FALSE NEIGHBOUR: 'it returns false'. Refute it at one input. -/
def takingsSlugsWrong : ChangeSpec := { name := "takingsSlugs", fn := fun _ => fun
  | [d1, d2] => { results := [.lit (.bool false)], args := [d1, d2] }
  | _ => none }
def TakingsSlugsWrongFalsely : Prop := takingsSlugsRow.holds Try.pinned (OpenSpec.ofChange takingsSlugsWrong)

/-- 'shellaclaw05.TakingsSkips': WHATEVER THE INPUT: true; the input reads as it did. -/
def takingsSkipsSpec : ChangeSpec := { name := "takingsSkips", fn := fun _ => fun
  | [d1, d2] => { results := [.lit (.bool true)], args := [d1, d2] }
  | _ => none }
def takingsSkipsRow : OpenClaim := { program := "ytenogpmlhpcibaa", sum := "f61b92043c6c57c4db5ba906f2bd7cf70967c33eacd26e1ddf61e5f2841d9e5a", func := "shellac/shellaclaw05.TakingsSkips", spec := "takingsSkips", unfollowed := true, recurses := true, plainKeys := false, apart := false }
def TakingsSkipsSaid : Prop := takingsSkipsRow.holds Try.pinned (OpenSpec.ofChange takingsSkipsSpec)

/-- ITS FALSE NEIGHBOUR: 'it returns false'. Refute it at one input. -/
def takingsSkipsWrong : ChangeSpec := { name := "takingsSkips", fn := fun _ => fun
  | [d1, d2] => { results := [.lit (.bool false)], args := [d1, d2] }
  | _ => none }
def TakingsSkipsWrongFalsely : Prop := takingsSkipsRow.holds Try.pinned (OpenSpec.ofChange takingsSkipsWrong)

/-- 'shellaclaw05.TakingsCash': WHATEVER THE INPUT: true; the input reads as it did. -/
def takingsCashSpec : ChangeSpec := { name := "takingsCash", fn := fun _ => fun
  | [d1, d2] => { results := [.lit (.bool true)], args := [d1, d2] }
  | _ => none }
def takingsCashRow : OpenClaim := { program := "ytenogpmlhpcibaa", sum := "f61b92043c6c57c4db5ba906f2bd7cf70967c33eacd26e1ddf61e5f2841d9e5a", func := "shellac/shellaclaw05.TakingsCash", spec := "takingsCash", unfollowed := true, recurses := true, plainKeys := false, apart := false }
def TakingsCashSaid : Prop := takingsCashRow.holds Try.pinned (OpenSpec.ofChange takingsCashSpec)

/-- ITS FALSE NEIGHBOUR: 'it returns false'. Refute it at one input. -/
def takingsCashWrong : ChangeSpec := { name := "takingsCash", fn := fun _ => fun
  | [d1, d2] => { results := [.lit (.bool false)], args := [d1, d2] }
  | _ => none }
def TakingsCashWrongFalsely : Prop := takingsCashRow.holds Try.pinned (OpenSpec.ofChange takingsCashWrong)

/-- 'shellaclaw05.TakingsLeast': WHATEVER THE INPUT: true; the input reads as it did. -/
def takingsLeastSpec : ChangeSpec := { name := "takingsLeast", fn := fun _ => fun
  | [d1, d2] => { results := [.lit (.bool true)], args := [d1, d2] }
  | _ => none }
def takingsLeastRow : OpenClaim := { program := "ytenogpmlhpcibaa", sum := "f61b92043c6c57c4db5ba906f2bd7cf70967c33eacd26e1ddf61e5f2841d9e5a", func := "shellac/shellaclaw05.TakingsLeast", spec := "takingsLeast", unfollowed := true, recurses := true, plainKeys := false, apart := false }
def TakingsLeastSaid : Prop := takingsLeastRow.holds Try.pinned (OpenSpec.ofChange takingsLeastSpec)

/-- ITS FALSE NEIGHBOUR: 'it returns false'. Refute it at one input. -/
def takingsLeastWrong : ChangeSpec := { name := "takingsLeast", fn := fun _ => fun
  | [d1, d2] => { results := [.lit (.bool false)], args := [d1, d2] }
  | _ => none }
def TakingsLeastWrongFalsely : Prop := takingsLeastRow.holds Try.pinned (OpenSpec.ofChange takingsLeastWrong)

/-- 'shellaclaw05.TakingsCan': WHATEVER THE INPUT: true; the input reads as it did. -/
def takingsCanSpec : ChangeSpec := { name := "takingsCan", fn := fun _ => fun
  | [d] => { results := [.lit (.bool true)], args := [d] }
  | _ => none }
def takingsCanRow : OpenClaim := { program := "ytenogpmlhpcibaa", sum := "f61b92043c6c57c4db5ba906f2bd7cf70967c33eacd26e1ddf61e5f2841d9e5a", func := "shellac/shellaclaw05.TakingsCan", spec := "takingsCan", unfollowed := true, recurses := true, plainKeys := false, apart := false }
def TakingsCanSaid : Prop := takingsCanRow.holds Try.pinned (OpenSpec.ofChange takingsCanSpec)

/-- ITS FALSE NEIGHBOUR: 'it returns false'. Refute it at one input. -/
def takingsCanWrong : ChangeSpec := { name := "takingsCan", fn := fun _ => fun
  | [d] => { results := [.lit (.bool false)], args := [d] }
  | _ => none }
def TakingsCanWrongFalsely : Prop := takingsCanRow.holds Try.pinned (OpenSpec.ofChange takingsCanWrong)

/-- 'shellaclaw05.TakingsShort': WHATEVER THE INPUT: true; the input reads as it did. -/
def takingsShortSpec : ChangeSpec := { name := "takingsShort", fn := fun _ => fun
  | [d] => { results := [.lit (.bool true)], args := [d] }
  | _ => none }
def takingsShortRow : OpenClaim := { program := "ytenogpmlhpcibaa", sum := "f61b92043c6c57c4db5ba906f2bd7cf70967c33eacd26e1ddf61e5f2841d9e5a", func := "shellac/shellaclaw05.TakingsShort", spec := "takingsShort", unfollowed := true, recurses := true, plainKeys := false, apart := false }
def TakingsShortSaid : Prop := takingsShortRow.holds Try.pinned (OpenSpec.ofChange takingsShortSpec)

/-- ITS FALSE NEIGHBOUR: 'it returns false'. Refute it at one input. -/
def takingsShortWrong : ChangeSpec := { name := "takingsShort", fn := fun _ => fun
  | [d] => { results := [.lit (.bool false)], args := [d] }
  | _ => none }
def TakingsShortWrongFalsely : Prop := takingsShortRow.holds Try.pinned (OpenSpec.ofChange takingsShortWrong)

/-- 'shellaclaw05.TakingsSum': WHATEVER THE INPUT: true; the input reads as it did. -/
def takingsSumSpec : ChangeSpec := { name := "takingsSum", fn := fun _ => fun
  | [d] => { results := [.lit (.bool true)], args := [d] }
  | _ => none }
def takingsSumRow : OpenClaim := { program := "ytenogpmlhpcibaa", sum := "f61b92043c6c57c4db5ba906f2bd7cf70967c33eacd26e1ddf61e5f2841d9e5a", func := "shellac/shellaclaw05.TakingsSum", spec := "takingsSum", unfollowed := true, recurses := true, plainKeys := false, apart := false }
def TakingsSumSaid : Prop := takingsSumRow.holds Try.pinned (OpenSpec.ofChange takingsSumSpec)

/-- ITS FALSE NEIGHBOUR: 'it returns false'. Refute it at one input. -/
def takingsSumWrong : ChangeSpec := { name := "takingsSum", fn := fun _ => fun
  | [d] => { results := [.lit (.bool false)], args := [d] }
  | _ => none }
def TakingsSumWrongFalsely : Prop := takingsSumRow.holds Try.pinned (OpenSpec.ofChange takingsSumWrong)

/-- 'shellaclaw05.TakingsJoined': WHATEVER THE INPUT: true; the input reads as it did. -/
def takingsJoinedSpec : ChangeSpec := { name := "takingsJoined", fn := fun _ => fun
  | [d1, d2] => { results := [.lit (.bool true)], args := [d1, d2] }
  | _ => none }
def takingsJoinedRow : OpenClaim := { program := "ytenogpmlhpcibaa", sum := "f61b92043c6c57c4db5ba906f2bd7cf70967c33eacd26e1ddf61e5f2841d9e5a", func := "shellac/shellaclaw05.TakingsJoined", spec := "takingsJoined", unfollowed := true, recurses := true, plainKeys := false, apart := false }
def TakingsJoinedSaid : Prop := takingsJoinedRow.holds Try.pinned (OpenSpec.ofChange takingsJoinedSpec)

/-- ITS FALSE NEIGHBOUR: 'it returns false'. Refute it at one input. -/
def takingsJoinedWrong : ChangeSpec := { name := "takingsJoined", fn := fun _ => fun
  | [d1, d2] => { results := [.lit (.bool false)], args := [d1, d2] }
  | _ => none }
def TakingsJoinedWrongFalsely : Prop := takingsJoinedRow.holds Try.pinned (OpenSpec.ofChange takingsJoinedWrong)

/-- 'shellaclaw05.TakingsWay': WHATEVER THE INPUT: true; the input reads as it did. -/
def takingsWaySpec : ChangeSpec := { name := "takingsWay", fn := fun _ => fun
  | [d1, d2] => { results := [.lit (.bool true)], args := [d1, d2] }
  | _ => none }
def takingsWayRow : OpenClaim := { program := "ytenogpmlhpcibaa", sum := "f61b92043c6c57c4db5ba906f2bd7cf70967c33eacd26e1ddf61e5f2841d9e5a", func := "shellac/shellaclaw05.TakingsWay", spec := "takingsWay", unfollowed := true, recurses := true, plainKeys := false, apart := false }
def TakingsWaySaid : Prop := takingsWayRow.holds Try.pinned (OpenSpec.ofChange takingsWaySpec)

/-- ITS FALSE NEIGHBOUR: 'it returns false'. Refute it at one input. -/
def takingsWayWrong : ChangeSpec := { name := "takingsWay", fn := fun _ => fun
  | [d1, d2] => { results := [.lit (.bool false)], args := [d1, d2] }
  | _ => none }
def TakingsWayWrongFalsely : Prop := takingsWayRow.holds Try.pinned (OpenSpec.ofChange takingsWayWrong)

/-- 'shellactop.TopOwner': WHATEVER THE INPUT: true; the input reads as it did. -/
def topOwnerSpec : ChangeSpec := { name := "topOwner", fn := fun _ => fun
  | [d1, d2] => { results := [.lit (.bool true)], args := [d1, d2] }
  | _ => none }
def topOwnerRow : OpenClaim := { program := "ytenogpmlhpcibaa", sum := "f61b92043c6c57c4db5ba906f2bd7cf70967c33eacd26e1ddf61e5f2841d9e5a", func := "shellac/shellactop.TopOwner", spec := "topOwner", unfollowed := true, recurses := true, plainKeys := false, apart := false }
def TopOwnerSaid : Prop := topOwnerRow.holds Try.pinned (OpenSpec.ofChange topOwnerSpec)

/-- ITS FALSE NEIGHBOUR: 'it returns false'. Refute it at one input. -/
def topOwnerWrong : ChangeSpec := { name := "topOwner", fn := fun _ => fun
  | [d1, d2] => { results := [.lit (.bool false)], args := [d1, d2] }
  | _ => none }
def TopOwnerWrongFalsely : Prop := topOwnerRow.holds Try.pinned (OpenSpec.ofChange topOwnerWrong)

/-- 'shellactop.TopExplained': WHATEVER THE INPUT: true; the input reads as it did. -/
def topExplainedSpec : ChangeSpec := { name := "topExplained", fn := fun _ => fun
  | [d] => { results := [.lit (.bool true)], args := [d] }
  | _ => none }
def topExplainedRow : OpenClaim := { program := "ytenogpmlhpcibaa", sum := "f61b92043c6c57c4db5ba906f2bd7cf70967c33eacd26e1ddf61e5f2841d9e5a", func := "shellac/shellactop.TopExplained", spec := "topExplained", unfollowed := true, recurses := true, plainKeys := false, apart := false }
def TopExplainedSaid : Prop := topExplainedRow.holds Try.pinned (OpenSpec.ofChange topExplainedSpec)

/-- ITS FALSE NEIGHBOUR: 'it returns false'. Refute it at one input. -/
def topExplainedWrong : ChangeSpec := { name := "topExplained", fn := fun _ => fun
  | [d] => { results := [.lit (.bool false)], args := [d] }
  | _ => none }
def TopExplainedWrongFalsely : Prop := topExplainedRow.holds Try.pinned (OpenSpec.ofChange topExplainedWrong)

/-- 'shellactop.TopTurns': WHATEVER THE INPUT: true; the input reads as it did. -/
def topTurnsSpec : ChangeSpec := { name := "topTurns", fn := fun _ => fun
  | [d1, d2, d3] => { results := [.lit (.bool true)], args := [d1, d2, d3] }
  | _ => none }
def topTurnsRow : OpenClaim := { program := "ytenogpmlhpcibaa", sum := "f61b92043c6c57c4db5ba906f2bd7cf70967c33eacd26e1ddf61e5f2841d9e5a", func := "shellac/shellactop.TopTurns", spec := "topTurns", unfollowed := true, recurses := true, plainKeys := false, apart := false }
def TopTurnsSaid : Prop := topTurnsRow.holds Try.pinned (OpenSpec.ofChange topTurnsSpec)

/-- ITS FALSE NEIGHBOUR: 'it returns false'. Refute it at one input. -/
def topTurnsWrong : ChangeSpec := { name := "topTurns", fn := fun _ => fun
  | [d1, d2, d3] => { results := [.lit (.bool false)], args := [d1, d2, d3] }
  | _ => none }
def TopTurnsWrongFalsely : Prop := topTurnsRow.holds Try.pinned (OpenSpec.ofChange topTurnsWrong)

/- THE SECOND FORM. 'bulk': how many values and letters a reading holds, each counted each time it is reached (what is shared counts as often as it is met; a slice's spare places count too). A statement '..UptoSaid' is the law's where the arguments, and the package variables that the reading takes, are together of bulk at most 1048576: NARROWER than '..Said'. Prove '..Said' where nothing that the law and all that it calls make is longer than what came in: it says more and counts as full. Else prove '..UptoSaid'. A law counts once. -/
mutual
def uptoBulk {H : Type} : DataW H → Nat
  | .lit (.string bytes) => bytes.length + 1
  | .lit _ => 1
  | .nil => 1
  | .ptr d => uptoBulk d + 1
  | .slice elems spare => uptoBulkAll elems + uptoBulkAll spare + 1
  | .agg parts => uptoBulkAll parts + 1
  | .iface _ d => uptoBulk d + 1
  | .map entries => uptoBulkEntries entries + 1
  | .held _ => 1
def uptoBulkAll {H : Type} : List (DataW H) → Nat
  | [] => 0
  | d :: r => uptoBulk d + uptoBulkAll r
def uptoBulkEntries {H : Type} : List (Lit × DataW H) → Nat
  | [] => 0
  | x :: r => uptoBulkEntry x + uptoBulkEntries r
def uptoBulkEntry {H : Type} : Lit × DataW H → Nat
  | (.string bytes, d) => bytes.length + uptoBulk d + 1
  | (_, d) => uptoBulk d + 1
 end
def uptoSmall : (H : Type) → List (DataW H) → Bool := fun _ ds => decide (uptoBulkAll ds ≤ 1048576)
def OpenSpec.upto (s : _root_.Go.ChangeSpec) : _root_.Go.OpenSpec := { _root_.Go.OpenSpec.ofChange s with cond := some uptoSmall }

/-- 'shellaclaw05.TakingsSlugs', WHERE WHAT IT READS IS OF BULK AT MOST 1048576: true; the input reads as it did. -/
def takingsSlugsUptoRow : OpenClaim := { program := "ytenogpmlhpcibaa", sum := "f61b92043c6c57c4db5ba906f2bd7cf70967c33eacd26e1ddf61e5f2841d9e5a", func := "shellac/shellaclaw05.TakingsSlugs", spec := "takingsSlugs", unfollowed := true, recurses := true, plainKeys := false, apart := false, narrowed := true }
def TakingsSlugsUptoSaid : Prop := takingsSlugsUptoRow.holds Try.pinned (OpenSpec.upto takingsSlugsSpec)

/-- 'shellaclaw05.TakingsSkips', WHERE WHAT IT READS IS OF BULK AT MOST 1048576: true; the input reads as it did. -/
def takingsSkipsUptoRow : OpenClaim := { program := "ytenogpmlhpcibaa", sum := "f61b92043c6c57c4db5ba906f2bd7cf70967c33eacd26e1ddf61e5f2841d9e5a", func := "shellac/shellaclaw05.TakingsSkips", spec := "takingsSkips", unfollowed := true, recurses := true, plainKeys := false, apart := false, narrowed := true }
def TakingsSkipsUptoSaid : Prop := takingsSkipsUptoRow.holds Try.pinned (OpenSpec.upto takingsSkipsSpec)

/-- 'shellaclaw05.TakingsCash', WHERE WHAT IT READS IS OF BULK AT MOST 1048576: true; the input reads as it did. -/
def takingsCashUptoRow : OpenClaim := { program := "ytenogpmlhpcibaa", sum := "f61b92043c6c57c4db5ba906f2bd7cf70967c33eacd26e1ddf61e5f2841d9e5a", func := "shellac/shellaclaw05.TakingsCash", spec := "takingsCash", unfollowed := true, recurses := true, plainKeys := false, apart := false, narrowed := true }
def TakingsCashUptoSaid : Prop := takingsCashUptoRow.holds Try.pinned (OpenSpec.upto takingsCashSpec)

/-- 'shellaclaw05.TakingsLeast', WHERE WHAT IT READS IS OF BULK AT MOST 1048576: true; the input reads as it did. -/
def takingsLeastUptoRow : OpenClaim := { program := "ytenogpmlhpcibaa", sum := "f61b92043c6c57c4db5ba906f2bd7cf70967c33eacd26e1ddf61e5f2841d9e5a", func := "shellac/shellaclaw05.TakingsLeast", spec := "takingsLeast", unfollowed := true, recurses := true, plainKeys := false, apart := false, narrowed := true }
def TakingsLeastUptoSaid : Prop := takingsLeastUptoRow.holds Try.pinned (OpenSpec.upto takingsLeastSpec)

/-- 'shellaclaw05.TakingsCan', WHERE WHAT IT READS IS OF BULK AT MOST 1048576: true; the input reads as it did. -/
def takingsCanUptoRow : OpenClaim := { program := "ytenogpmlhpcibaa", sum := "f61b92043c6c57c4db5ba906f2bd7cf70967c33eacd26e1ddf61e5f2841d9e5a", func := "shellac/shellaclaw05.TakingsCan", spec := "takingsCan", unfollowed := true, recurses := true, plainKeys := false, apart := false, narrowed := true }
def TakingsCanUptoSaid : Prop := takingsCanUptoRow.holds Try.pinned (OpenSpec.upto takingsCanSpec)

/-- 'shellaclaw05.TakingsShort', WHERE WHAT IT READS IS OF BULK AT MOST 1048576: true; the input reads as it did. -/
def takingsShortUptoRow : OpenClaim := { program := "ytenogpmlhpcibaa", sum := "f61b92043c6c57c4db5ba906f2bd7cf70967c33eacd26e1ddf61e5f2841d9e5a", func := "shellac/shellaclaw05.TakingsShort", spec := "takingsShort", unfollowed := true, recurses := true, plainKeys := false, apart := false, narrowed := true }
def TakingsShortUptoSaid : Prop := takingsShortUptoRow.holds Try.pinned (OpenSpec.upto takingsShortSpec)

/-- 'shellaclaw05.TakingsSum', WHERE WHAT IT READS IS OF BULK AT MOST 1048576: true; the input reads as it did. -/
def takingsSumUptoRow : OpenClaim := { program := "ytenogpmlhpcibaa", sum := "f61b92043c6c57c4db5ba906f2bd7cf70967c33eacd26e1ddf61e5f2841d9e5a", func := "shellac/shellaclaw05.TakingsSum", spec := "takingsSum", unfollowed := true, recurses := true, plainKeys := false, apart := false, narrowed := true }
def TakingsSumUptoSaid : Prop := takingsSumUptoRow.holds Try.pinned (OpenSpec.upto takingsSumSpec)

/-- 'shellaclaw05.TakingsJoined', WHERE WHAT IT READS IS OF BULK AT MOST 1048576: true; the input reads as it did. -/
def takingsJoinedUptoRow : OpenClaim := { program := "ytenogpmlhpcibaa", sum := "f61b92043c6c57c4db5ba906f2bd7cf70967c33eacd26e1ddf61e5f2841d9e5a", func := "shellac/shellaclaw05.TakingsJoined", spec := "takingsJoined", unfollowed := true, recurses := true, plainKeys := false, apart := false, narrowed := true }
def TakingsJoinedUptoSaid : Prop := takingsJoinedUptoRow.holds Try.pinned (OpenSpec.upto takingsJoinedSpec)

/-- 'shellaclaw05.TakingsWay', WHERE WHAT IT READS IS OF BULK AT MOST 1048576: true; the input reads as it did. -/
def takingsWayUptoRow : OpenClaim := { program := "ytenogpmlhpcibaa", sum := "f61b92043c6c57c4db5ba906f2bd7cf70967c33eacd26e1ddf61e5f2841d9e5a", func := "shellac/shellaclaw05.TakingsWay", spec := "takingsWay", unfollowed := true, recurses := true, plainKeys := false, apart := false, narrowed := true }
def TakingsWayUptoSaid : Prop := takingsWayUptoRow.holds Try.pinned (OpenSpec.upto takingsWaySpec)

/-- 'shellactop.TopOwner', WHERE WHAT IT READS IS OF BULK AT MOST 1048576: true; the input reads as it did. -/
def topOwnerUptoRow : OpenClaim := { program := "ytenogpmlhpcibaa", sum := "f61b92043c6c57c4db5ba906f2bd7cf70967c33eacd26e1ddf61e5f2841d9e5a", func := "shellac/shellactop.TopOwner", spec := "topOwner", unfollowed := true, recurses := true, plainKeys := false, apart := false, narrowed := true }
def TopOwnerUptoSaid : Prop := topOwnerUptoRow.holds Try.pinned (OpenSpec.upto topOwnerSpec)

/-- 'shellactop.TopExplained', WHERE WHAT IT READS IS OF BULK AT MOST 1048576: true; the input reads as it did. -/
def topExplainedUptoRow : OpenClaim := { program := "ytenogpmlhpcibaa", sum := "f61b92043c6c57c4db5ba906f2bd7cf70967c33eacd26e1ddf61e5f2841d9e5a", func := "shellac/shellactop.TopExplained", spec := "topExplained", unfollowed := true, recurses := true, plainKeys := false, apart := false, narrowed := true }
def TopExplainedUptoSaid : Prop := topExplainedUptoRow.holds Try.pinned (OpenSpec.upto topExplainedSpec)

/-- 'shellactop.TopTurns', WHERE WHAT IT READS IS OF BULK AT MOST 1048576: true; the input reads as it did. -/
def topTurnsUptoRow : OpenClaim := { program := "ytenogpmlhpcibaa", sum := "f61b92043c6c57c4db5ba906f2bd7cf70967c33eacd26e1ddf61e5f2841d9e5a", func := "shellac/shellactop.TopTurns", spec := "topTurns", unfollowed := true, recurses := true, plainKeys := false, apart := false, narrowed := true }
def TopTurnsUptoSaid : Prop := topTurnsUptoRow.holds Try.pinned (OpenSpec.upto topTurnsSpec)

end Rows
end Go.Proofs.Ytenogpmlhpcibaa
