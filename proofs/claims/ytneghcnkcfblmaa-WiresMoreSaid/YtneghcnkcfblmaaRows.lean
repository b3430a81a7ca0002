/-
  No cell of these rows narrows 'for every input' (looked for: loops, veiled, ifaces, maps, wideKeys, modest, calm, conditions, laid).
  DERIVED. THE GIVEN ROWS OF THIS SEAT. 11 by the template 'for every input the law returns true; each argument reads behind the call as it read before'; 0 by the template 'total and deterministic' (their statements: YtneghcnkcfblmaaTotals.lean).
  GIVEN WITH THE SEED: the statements are not yours to turn. If you find one false, say at which input.
  Laid BY PROGRAM, IN A SANDBOX (cutbox-rows.mjs): the forced cells as the released guide's own fill.sh prints them over the translation b8c1973a71ab6e37… (all of the seat's roots in one cut). By AI agents, Wed Nov 11 2026. No macro, syntax, notation, axiom, sorry.
-/
import Derived.Test.YtneghcnkcfblmaaChecked
import GoSem.Claim
import GoSem.ClaimJoined
import GoSem.ClaimMapViews
import Derived.JoinedTies
import Derived.KernelRfl
namespace Go.Proofs.Ytneghcnkcfblmaa
/- THE CELL 'sum', in the pinned program and in every row, IS THE sha256 OF THE DUMP (.gsa) THAT YtneghcnkcfblmaaProg.lean LOADS. Nothing in Lean hashes anything: it is a label: what it is worth is what the hold of that sum in a sandbox is worth. -/
noncomputable def Try.pinned : Pinned := { name := "ytneghcnkcfblmaa", sum := "b8c1973a71ab6e37f15c848b1325800f0a57eedbc4041e2ee9da77ad1ac167d7", checked := Try.checked }
namespace Rows
def none {H : Type} : Left H := { results := [], args := [] }

/-- 'shellaclaw11.WiresMany': WHATEVER THE INPUT: true; the input reads as it did. -/
def wiresManySpec : ChangeSpec := { name := "wiresMany", fn := fun _ => fun
  | [d] => { results := [.lit (.bool true)], args := [d] }
  | _ => none }
def wiresManyRow : OpenClaim := { program := "ytneghcnkcfblmaa", sum := "b8c1973a71ab6e37f15c848b1325800f0a57eedbc4041e2ee9da77ad1ac167d7", func := "shellac/shellaclaw11.WiresMany", spec := "wiresMany", unfollowed := true, recurses := true, plainKeys := false, apart := false }
def WiresManySaid : Prop := wiresManyRow.holds Try.pinned (OpenSpec.ofChange wiresManySpec)

/-- ITS FALSE NEIGHBOUR: 'it returns false'. Refute it at one input. -/
def wiresManyWrong : ChangeSpec := { name := "wiresMany", fn := fun _ => fun
  | [d] => { results := [.lit (.bool false)], args := [d] }
  | _ => none }
def WiresManyWrongFalsely : Prop := wiresManyRow.holds Try.pinned (OpenSpec.ofChange wiresManyWrong)

/-- 'shellaclaw11.WiresMore': WHATEVER THE INPUT: true; the input reads as it did. -/
def wiresMoreSpec : ChangeSpec := { name := "wiresMore", fn := fun _ => fun
  | [d] => { results := [.lit (.bool true)], args := [d] }
  | _ => none }
def wiresMoreRow : OpenClaim := { program := "ytneghcnkcfblmaa", sum := "b8c1973a71ab6e37f15c848b1325800f0a57eedbc4041e2ee9da77ad1ac167d7", func := "shellac/shellaclaw11.WiresMore", spec := "wiresMore", unfollowed := true, recurses := true, plainKeys := false, apart := false }
def WiresMoreSaid : Prop := wiresMoreRow.holds Try.pinned (OpenSpec.ofChange wiresMoreSpec)

/-- ITS FALSE NEIGHBOUR: 'it returns false'. Refute it at one input. -/
def wiresMoreWrong : ChangeSpec := { name := "wiresMore", fn := fun _ => fun
  | [d] => { results := [.lit (.bool false)], args := [d] }
  | _ => none }
def WiresMoreWrongFalsely : Prop := wiresMoreRow.holds Try.pinned (OpenSpec.ofChange wiresMoreWrong)

/-- 'shellaclaw11.WiresShows': WHATEVER THE INPUT: true; the input reads as it did. -/
def wiresShowsSpec : ChangeSpec := { name := "wiresShows", fn := fun _ => fun
  | [d1, d2] => { results := [.lit (.bool true)], args := [d1, d2] }
  | _ => none }
def wiresShowsRow : OpenClaim := { program := "ytneghcnkcfblmaa", sum := "b8c1973a71ab6e37f15c848b1325800f0a57eedbc4041e2ee9da77ad1ac167d7", func := "shellac/shellaclaw11.WiresShows", spec := "wiresShows", unfollowed := true, recurses := true, plainKeys := false, apart := false }
def WiresShowsSaid : Prop := wiresShowsRow.holds Try.pinned (OpenSpec.ofChange wiresShowsSpec)

/-- ITS FALSE NEIGHBOUR: 'it returns false'. Refute it at one input. -/
def wiresShowsWrong : ChangeSpec := { name := "wiresShows", fn := fun _ => fun
  | [d1, d2] => { results := [.lit (.bool false)], args := [d1, d2] }
  | _ => none }
def WiresShowsWrongFalsely : Prop := wiresShowsRow.holds Try.pinned (OpenSpec.ofChange wiresShowsWrong)

/-- 'shellaclaw11.WiresPress': WHATEVER THE INPUT: true; the input reads as it did. -/
def wiresPressSpec : ChangeSpec := { name := "wiresPress", fn := fun _ => fun
  | [d1, d2] => { results := [.lit (.bool true)], args := [d1, d2] }
  | _ => none }
def wiresPressRow : OpenClaim := { program := "ytneghcnkcfblmaa", sum := "b8c1973a71ab6e37f15c848b1325800f0a57eedbc4041e2ee9da77ad1ac167d7", func := "shellac/shellaclaw11.WiresPress", spec := "wiresPress", unfollowed := true, recurses := true, plainKeys := false, apart := false }
def WiresPressSaid : Prop := wiresPressRow.holds Try.pinned (OpenSpec.ofChange wiresPressSpec)

/-- ITS FALSE NEIGHBOUR: 'it returns false'. Refute it at one input. -/
def wiresPressWrong : ChangeSpec := { name := "wiresPress", fn := fun _ => fun
  | [d1, d2] => { results := [.lit (.bool false)], args := [d1, d2] }
  | _ => none }
def WiresPressWrongFalsely : Prop := wiresPressRow.holds Try.pinned (OpenSpec.ofChange wiresPressWrong)

/-- 'shellaclaw11.WiresNext': WHATEVER THE INPUT: true; the input reads as it did. -/
def wiresNextSpec : ChangeSpec := { name := "wiresNext", fn := fun _ => fun
  | [d1, d2] => { results := [.lit (.bool true)], args := [d1, d2] }
  | _ => none }
def wiresNextRow : OpenClaim := { program := "ytneghcnkcfblmaa", sum := "b8c1973a71ab6e37f15c848b1325800f0a57eedbc4041e2ee9da77ad1ac167d7", func := "shellac/shellaclaw11.WiresNext", spec := "wiresNext", unfollowed := true, recurses := true, plainKeys := false, apart := false }
def WiresNextSaid : Prop := wiresNextRow.holds Try.pinned (OpenSpec.ofChange wiresNextSpec)

/-- ITS FALSE NEIGHBOUR: 'it returns false'. Refute it at one input. -/
def wiresNextWrong : ChangeSpec := { name := "wiresNext", fn := fun _ => fun
  | [d1, d2] => { results := [.lit (.bool false)], args := [d1, d2] }
  | _ => none }
def WiresNextWrongFalsely : Prop := wiresNextRow.holds Try.pinned (OpenSpec.ofChange wiresNextWrong)

/-- 'shellaclaw11.WiresPlays': WHATEVER THE INPUT: true; the input reads as it did. -/
def wiresPlaysSpec : ChangeSpec := { name := "wiresPlays", fn := fun _ => fun
  | [d1, d2, d3] => { results := [.lit (.bool true)], args := [d1, d2, d3] }
  | _ => none }
def wiresPlaysRow : OpenClaim := { program := "ytneghcnkcfblmaa", sum := "b8c1973a71ab6e37f15c848b1325800f0a57eedbc4041e2ee9da77ad1ac167d7", func := "shellac/shellaclaw11.WiresPlays", spec := "wiresPlays", unfollowed := true, recurses := true, plainKeys := false, apart := false }
def WiresPlaysSaid : Prop := wiresPlaysRow.holds Try.pinned (OpenSpec.ofChange wiresPlaysSpec)

/-- ITS FALSE NEIGHBOUR: 'it returns false'. Refute it at one input. -/
def wiresPlaysWrong : ChangeSpec := { name := "wiresPlays", fn := fun _ => fun
  | [d1, d2, d3] => { results := [.lit (.bool false)], args := [d1, d2, d3] }
  | _ => none }
def WiresPlaysWrongFalsely : Prop := wiresPlaysRow.holds Try.pinned (OpenSpec.ofChange wiresPlaysWrong)

/-- 'shellaclaw11.WiresFirst': WHATEVER THE INPUT: true; the input reads as it did. -/
def wiresFirstSpec : ChangeSpec := { name := "wiresFirst", fn := fun _ => fun
  | [d] => { results := [.lit (.bool true)], args := [d] }
  | _ => none }
def wiresFirstRow : OpenClaim := { program := "ytneghcnkcfblmaa", sum := "b8c1973a71ab6e37f15c848b1325800f0a57eedbc4041e2ee9da77ad1ac167d7", func := "shellac/shellaclaw11.WiresFirst", spec := "wiresFirst", unfollowed := true, recurses := true, plainKeys := false, apart := false }
def WiresFirstSaid : Prop := wiresFirstRow.holds Try.pinned (OpenSpec.ofChange wiresFirstSpec)

/-- ITS FALSE NEIGHBOUR: 'it returns false'. Refute it at one input. -/
def wiresFirstWrong : ChangeSpec := { name := "wiresFirst", fn := fun _ => fun
  | [d] => { results := [.lit (.bool false)], args := [d] }
  | _ => none }
def WiresFirstWrongFalsely : Prop := wiresFirstRow.holds Try.pinned (OpenSpec.ofChange wiresFirstWrong)

/-- 'shellaclaw11.WiresFine': WHATEVER THE INPUT: true; the input reads as it did. -/
def wiresFineSpec : ChangeSpec := { name := "wiresFine", fn := fun _ => fun
  | [d] => { results := [.lit (.bool true)], args := [d] }
  | _ => none }
def wiresFineRow : OpenClaim := { program := "ytneghcnkcfblmaa", sum := "b8c1973a71ab6e37f15c848b1325800f0a57eedbc4041e2ee9da77ad1ac167d7", func := "shellac/shellaclaw11.WiresFine", spec := "wiresFine", unfollowed := true, recurses := true, plainKeys := false, apart := false }
def WiresFineSaid : Prop := wiresFineRow.holds Try.pinned (OpenSpec.ofChange wiresFineSpec)

/-- ITS FALSE NEIGHBOUR: 'it returns false'. Refute it at one input. -/
def wiresFineWrong : ChangeSpec := { name := "wiresFine", fn := fun _ => fun
  | [d] => { results := [.lit (.bool false)], args := [d] }
  | _ => none }
def WiresFineWrongFalsely : Prop := wiresFineRow.holds Try.pinned (OpenSpec.ofChange wiresFineWrong)

/-- 'shellaclaw11.WiresTrue': WHATEVER THE INPUT: true; the input reads as it did. -/
def wiresTrueSpec : ChangeSpec := { name := "wiresTrue", fn := fun _ => fun
  | [d1, d2, d3] => { results := [.lit (.bool true)], args := [d1, d2, d3] }
  | _ => none }
def wiresTrueRow : OpenClaim := { program := "ytneghcnkcfblmaa", sum := "b8c1973a71ab6e37f15c848b1325800f0a57eedbc4041e2ee9da77ad1ac167d7", func := "shellac/shellaclaw11.WiresTrue", spec := "wiresTrue", unfollowed := true, recurses := true, plainKeys := false, apart := false }
def WiresTrueSaid : Prop := wiresTrueRow.holds Try.pinned (OpenSpec.ofChange wiresTrueSpec)

/-- ITS FALSE NEIGHBOUR: 'it returns false'. Refute it at one input. -/
def wiresTrueWrong : ChangeSpec := { name := "wiresTrue", fn := fun _ => fun
  | [d1, d2, d3] => { results := [.lit (.bool false)], args := [d1, d2, d3] }
  | _ => none }
def WiresTrueWrongFalsely : Prop := wiresTrueRow.holds Try.pinned (OpenSpec.ofChange wiresTrueWrong)

/-- 'shellaclaw11.WiresFewest': WHATEVER THE INPUT: true; the input reads as it did. -/
def wiresFewestSpec : ChangeSpec := { name := "wiresFewest", fn := fun _ => fun
  | [d] => { results := [.lit (.bool true)], args := [d] }
  | _ => none }
def wiresFewestRow : OpenClaim := { program := "ytneghcnkcfblmaa", sum := "b8c1973a71ab6e37f15c848b1325800f0a57eedbc4041e2ee9da77ad1ac167d7", func := "shellac/shellaclaw11.WiresFewest", spec := "wiresFewest", unfollowed := true, recurses := true, plainKeys := false, apart := false }
def WiresFewestSaid : Prop := wiresFewestRow.holds Try.pinned (OpenSpec.ofChange wiresFewestSpec)

/-- ITS FALSE NEIGHBOUR: 'it returns false'. Refute it at one input. -/
def wiresFewestWrong : ChangeSpec := { name := "wiresFewest", fn := fun _ => fun
  | [d] => { results := [.lit (.bool false)], args := [d] }
  | _ => none }
def WiresFewestWrongFalsely : Prop := wiresFewestRow.holds Try.pinned (OpenSpec.ofChange wiresFewestWrong)

/-- 'shellaclaw11.WiresTurned': WHATEVER THE INPUT: true; the input reads as it did. -/
def wiresTurnedSpec : ChangeSpec := { name := "wiresTurned", fn := fun _ => fun
  | [d1, d2] => { results := [.lit (.bool true)], args := [d1, d2] }
  | _ => none }
def wiresTurnedRow : OpenClaim := { program := "ytneghcnkcfblmaa", sum := "b8c1973a71ab6e37f15c848b1325800f0a57eedbc4041e2ee9da77ad1ac167d7", func := "shellac/shellaclaw11.WiresTurned", spec := "wiresTurned", unfollowed := true, recurses := true, plainKeys := false, apart := false }
def WiresTurnedSaid : Prop := wiresTurnedRow.holds Try.pinned (OpenSpec.ofChange wiresTurnedSpec)

/-- ITS FALSE NEIGHBOUR: 'it returns false'. Refute it at one input. -/
def wiresTurnedWrong : ChangeSpec := { name := "wiresTurned", fn := fun _ => fun
  | [d1, d2] => { results := [.lit (.bool false)], args := [d1, d2] }
  | _ => none }
def WiresTurnedWrongFalsely : Prop := wiresTurnedRow.holds Try.pinned (OpenSpec.ofChange wiresTurnedWrong)

/- THE SECOND FORM. 'bulk': how many values and letters a reading holds, each counted each time it is reached (what is shared counts as often as it is met; a slice's spare places count too). A statement '..UptoSaid' is the law's where the arguments, and the package variables that the reading takes, are together of bulk at most 1048576: NARROWER than '..Said'. Prove '..Said' where nothing that the law and all that it calls make is longer than what came in: it says more and counts as full. Else prove '..UptoSaid'. A law counts once. -/
mutual
def uptoBulk {H : Type} : DataW H → Nat
  | .lit (.string bytes) => bytes.length + 1
  | .lit _ => 1
  | .nil => 1
  | .ptr d => uptoBulk d + 1
  | .slice elems spare => uptoBulkAll elems + uptoBulkAll spare + 1
  | .agg parts => uptoBulkAll parts + 1
  | .iface _ d => uptoBulk d + 1
  | .map entries => uptoBulkEntries entries + 1
  | .held _ => 1
def uptoBulkAll {H : Type} : List (DataW H) → Nat
  | [] => 0
  | d :: r => uptoBulk d + uptoBulkAll r
def uptoBulkEntries {H : Type} : List (Lit × DataW H) → Nat
  | [] => 0
  | x :: r => uptoBulkEntry x + uptoBulkEntries r
def uptoBulkEntry {H : Type} : Lit × DataW H → Nat
  | (.string bytes, d) => bytes.length + uptoBulk d + 1
  | (_, d) => uptoBulk d + 1
 end
def uptoSmall : (H : Type) → List (DataW H) → Bool := fun _ ds => decide (uptoBulkAll ds ≤ 1048576)
def OpenSpec.upto (s : _root_.Go.ChangeSpec) : _root_.Go.OpenSpec := { _root_.Go.OpenSpec.ofChange s with cond := some uptoSmall }

/-- 'shellaclaw11.WiresMany', WHERE WHAT IT READS IS OF BULK AT MOST 1048576: true; the input reads as it did. -/
def wiresManyUptoRow : OpenClaim := { program := "ytneghcnkcfblmaa", sum := "b8c1973a71ab6e37f15c848b1325800f0a57eedbc4041e2ee9da77ad1ac167d7", func := "shellac/shellaclaw11.WiresMany", spec := "wiresMany", unfollowed := true, recurses := true, plainKeys := false, apart := false, narrowed := true }
def WiresManyUptoSaid : Prop := wiresManyUptoRow.holds Try.pinned (OpenSpec.upto wiresManySpec)

/-- 'shellaclaw11.WiresMore', WHERE WHAT IT READS IS OF BULK AT MOST 1048576: true; the input reads as it did. -/
def wiresMoreUptoRow : OpenClaim := { program := "ytneghcnkcfblmaa", sum := "b8c1973a71ab6e37f15c848b1325800f0a57eedbc4041e2ee9da77ad1ac167d7", func := "shellac/shellaclaw11.WiresMore", spec := "wiresMore", unfollowed := true, recurses := true, plainKeys := false, apart := false, narrowed := true }
def WiresMoreUptoSaid : Prop := wiresMoreUptoRow.holds Try.pinned (OpenSpec.upto wiresMoreSpec)

/-- 'shellaclaw11.WiresShows', WHERE WHAT IT READS IS OF BULK AT MOST 1048576: true; the input reads as it did. -/
def wiresShowsUptoRow : OpenClaim := { program := "ytneghcnkcfblmaa", sum := "b8c1973a71ab6e37f15c848b1325800f0a57eedbc4041e2ee9da77ad1ac167d7", func := "shellac/shellaclaw11.WiresShows", spec := "wiresShows", unfollowed := true, recurses := true, plainKeys := false, apart := false, narrowed := true }
def WiresShowsUptoSaid : Prop := wiresShowsUptoRow.holds Try.pinned (OpenSpec.upto wiresShowsSpec)

/-- 'shellaclaw11.WiresPress', WHERE WHAT IT READS IS OF BULK AT MOST 1048576: true; the input reads as it did. -/
def wiresPressUptoRow : OpenClaim := { program := "ytneghcnkcfblmaa", sum := "b8c1973a71ab6e37f15c848b1325800f0a57eedbc4041e2ee9da77ad1ac167d7", func := "shellac/shellaclaw11.WiresPress", spec := "wiresPress", unfollowed := true, recurses := true, plainKeys := false, apart := false, narrowed := true }
def WiresPressUptoSaid : Prop := wiresPressUptoRow.holds Try.pinned (OpenSpec.upto wiresPressSpec)

/-- 'shellaclaw11.WiresNext', WHERE WHAT IT READS IS OF BULK AT MOST 1048576: true; the input reads as it did. -/
def wiresNextUptoRow : OpenClaim := { program := "ytneghcnkcfblmaa", sum := "b8c1973a71ab6e37f15c848b1325800f0a57eedbc4041e2ee9da77ad1ac167d7", func := "shellac/shellaclaw11.WiresNext", spec := "wiresNext", unfollowed := true, recurses := true, plainKeys := false, apart := false, narrowed := true }
def WiresNextUptoSaid : Prop := wiresNextUptoRow.holds Try.pinned (OpenSpec.upto wiresNextSpec)

/-- 'shellaclaw11.WiresPlays', WHERE WHAT IT READS IS OF BULK AT MOST 1048576: true; the input reads as it did. -/
def wiresPlaysUptoRow : OpenClaim := { program := "ytneghcnkcfblmaa", sum := "b8c1973a71ab6e37f15c848b1325800f0a57eedbc4041e2ee9da77ad1ac167d7", func := "shellac/shellaclaw11.WiresPlays", spec := "wiresPlays", unfollowed := true, recurses := true, plainKeys := false, apart := false, narrowed := true }
def WiresPlaysUptoSaid : Prop := wiresPlaysUptoRow.holds Try.pinned (OpenSpec.upto wiresPlaysSpec)

/-- 'shellaclaw11.WiresFirst', WHERE WHAT IT READS IS OF BULK AT MOST 1048576: true; the input reads as it did. -/
def wiresFirstUptoRow : OpenClaim := { program := "ytneghcnkcfblmaa", sum := "b8c1973a71ab6e37f15c848b1325800f0a57eedbc4041e2ee9da77ad1ac167d7", func := "shellac/shellaclaw11.WiresFirst", spec := "wiresFirst", unfollowed := true, recurses := true, plainKeys := false, apart := false, narrowed := true }
def WiresFirstUptoSaid : Prop := wiresFirstUptoRow.holds Try.pinned (OpenSpec.upto wiresFirstSpec)

/-- 'shellaclaw11.WiresFine', WHERE WHAT IT READS IS OF BULK AT MOST 1048576: true; the input reads as it did. -/
def wiresFineUptoRow : OpenClaim := { program := "ytneghcnkcfblmaa", sum := "b8c1973a71ab6e37f15c848b1325800f0a57eedbc4041e2ee9da77ad1ac167d7", func := "shellac/shellaclaw11.WiresFine", spec := "wiresFine", unfollowed := true, recurses := true, plainKeys := false, apart := false, narrowed := true }
def WiresFineUptoSaid : Prop := wiresFineUptoRow.holds Try.pinned (OpenSpec.upto wiresFineSpec)

/-- 'shellaclaw11.WiresTrue', WHERE WHAT IT READS IS OF BULK AT MOST 1048576: true; the input reads as it did. -/
def wiresTrueUptoRow : OpenClaim := { program := "ytneghcnkcfblmaa", sum := "b8c1973a71ab6e37f15c848b1325800f0a57eedbc4041e2ee9da77ad1ac167d7", func := "shellac/shellaclaw11.WiresTrue", spec := "wiresTrue", unfollowed := true, recurses := true, plainKeys := false, apart := false, narrowed := true }
def WiresTrueUptoSaid : Prop := wiresTrueUptoRow.holds Try.pinned (OpenSpec.upto wiresTrueSpec)

/-- 'shellaclaw11.WiresFewest', WHERE WHAT IT READS IS OF BULK AT MOST 1048576: true; the input reads as it did. -/
def wiresFewestUptoRow : OpenClaim := { program := "ytneghcnkcfblmaa", sum := "b8c1973a71ab6e37f15c848b1325800f0a57eedbc4041e2ee9da77ad1ac167d7", func := "shellac/shellaclaw11.WiresFewest", spec := "wiresFewest", unfollowed := true, recurses := true, plainKeys := false, apart := false, narrowed := true }
def WiresFewestUptoSaid : Prop := wiresFewestUptoRow.holds Try.pinned (OpenSpec.upto wiresFewestSpec)

/-- 'shellaclaw11.WiresTurned', WHERE WHAT IT READS IS OF BULK AT MOST 1048576: true; the input reads as it did. -/
def wiresTurnedUptoRow : OpenClaim := { program := "ytneghcnkcfblmaa", sum := "b8c1973a71ab6e37f15c848b1325800f0a57eedbc4041e2ee9da77ad1ac167d7", func := "shellac/shellaclaw11.WiresTurned", spec := "wiresTurned", unfollowed := true, recurses := true, plainKeys := false, apart := false, narrowed := true }
def WiresTurnedUptoSaid : Prop := wiresTurnedUptoRow.holds Try.pinned (OpenSpec.upto wiresTurnedSpec)

end Rows
end Go.Proofs.Ytneghcnkcfblmaa
