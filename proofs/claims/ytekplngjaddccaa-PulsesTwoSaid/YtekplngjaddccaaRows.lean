/-
  No cell of these rows narrows 'for every input' (looked for: loops, veiled, ifaces, maps, wideKeys, modest, calm, conditions, laid).
  DERIVED. THE GIVEN ROWS OF THIS SEAT. 11 by the template 'for every input the law returns true; each argument reads behind the call as it read before'; 0 by the template 'total and deterministic' (their statements: YtekplngjaddccaaTotals.lean).
  GIVEN WITH THE SEED: the statements are not yours to turn. If you find one false, say at which input.
  Laid BY PROGRAM, IN A SANDBOX (cutbox-rows.mjs): the forced cells as the released guide's own fill.sh prints them over the translation ecfa64d024daeda1… (all of the seat's roots in one cut). By AI agents, Wed Nov 11 2026. No macro, syntax, notation, axiom, sorry.
-/
import Derived.Test.YtekplngjaddccaaChecked
import GoSem.Claim
import GoSem.ClaimJoined
import GoSem.ClaimMapViews
import Derived.JoinedTies
import Derived.KernelRfl
namespace Go.Proofs.Ytekplngjaddccaa
/- THE CELL 'sum', in the pinned program and in every row, IS THE sha256 OF THE DUMP (.gsa) THAT YtekplngjaddccaaProg.lean LOADS. Nothing in Lean hashes anything: it is a label: what it is worth is what the hold of that sum in a sandbox is worth. -/
noncomputable def Try.pinned : Pinned := { name := "ytekplngjaddccaa", sum := "ecfa64d024daeda138e1d124363225272e828ea8c04383715ff5bfd6c805ea2c", checked := Try.checked }
namespace Rows
def none {H : Type} : Left H := { results := [], args := [] }

/-- 'shellaclaw13.PulsesWrite': WHATEVER THE INPUT: true; the input reads as it did. -/
def pulsesWriteSpec : ChangeSpec := { name := "pulsesWrite", fn := fun _ => fun
  | [d1, d2, d3] => { results := [.lit (.bool true)], args := [d1, d2, d3] }
  | _ => none }
def pulsesWriteRow : OpenClaim := { program := "ytekplngjaddccaa", sum := "ecfa64d024daeda138e1d124363225272e828ea8c04383715ff5bfd6c805ea2c", func := "shellac/shellaclaw13.PulsesWrite", spec := "pulsesWrite", unfollowed := true, recurses := true, apart := false }
def PulsesWriteSaid : Prop := pulsesWriteRow.holds Try.pinned (OpenSpec.ofChange pulsesWriteSpec)

/-- ITS FALSE NEIGHBOUR: 'it returns false'. Refute it at one input. -/
def pulsesWriteWrong : ChangeSpec := { name := "pulsesWrite", fn := fun _ => fun
  | [d1, d2, d3] => { results := [.lit (.bool false)], args := [d1, d2, d3] }
  | _ => none }
def PulsesWriteWrongFalsely : Prop := pulsesWriteRow.holds Try.pinned (OpenSpec.ofChange pulsesWriteWrong)

/-- 'shellaclaw13.PulsesMany': WHATEVER THE INPUT: true; the input reads as it did. -/
def pulsesManySpec : ChangeSpec := { name := "pulsesMany", fn := fun _ => fun
  | [d] => { results := [.lit (.bool true)], args := [d] }
  | _ => none }
def pulsesManyRow : OpenClaim := { program := "ytekplngjaddccaa", sum := "ecfa64d024daeda138e1d124363225272e828ea8c04383715ff5bfd6c805ea2c", func := "shellac/shellaclaw13.PulsesMany", spec := "pulsesMany", unfollowed := true, recurses := true, apart := false }
def PulsesManySaid : Prop := pulsesManyRow.holds Try.pinned (OpenSpec.ofChange pulsesManySpec)

/-- ITS FALSE NEIGHBOUR: 'it returns false'. Refute it at one input. -/
def pulsesManyWrong : ChangeSpec := { name := "pulsesMany", fn := fun _ => fun
  | [d] => { results := [.lit (.bool false)], args := [d] }
  | _ => none }
def PulsesManyWrongFalsely : Prop := pulsesManyRow.holds Try.pinned (OpenSpec.ofChange pulsesManyWrong)

/-- 'shellaclaw13.PulsesOne': WHATEVER THE INPUT: true; the input reads as it did. -/
def pulsesOneSpec : ChangeSpec := { name := "pulsesOne", fn := fun _ => fun
  | [d1, d2] => { results := [.lit (.bool true)], args := [d1, d2] }
  | _ => none }
def pulsesOneRow : OpenClaim := { program := "ytekplngjaddccaa", sum := "ecfa64d024daeda138e1d124363225272e828ea8c04383715ff5bfd6c805ea2c", func := "shellac/shellaclaw13.PulsesOne", spec := "pulsesOne", unfollowed := true, recurses := true, apart := false }
def PulsesOneSaid : Prop := pulsesOneRow.holds Try.pinned (OpenSpec.ofChange pulsesOneSpec)

/-- ITS FALSE NEIGHBOUR: 'it returns false'. Refute it at one input. -/
def pulsesOneWrong : ChangeSpec := { name := "pulsesOne", fn := fun _ => fun
  | [d1, d2] => { results := [.lit (.bool false)], args := [d1, d2] }
  | _ => none }
def PulsesOneWrongFalsely : Prop := pulsesOneRow.holds Try.pinned (OpenSpec.ofChange pulsesOneWrong)

/-- 'shellaclaw13.PulsesTwo': WHATEVER THE INPUT: true; the input reads as it did. -/
def pulsesTwoSpec : ChangeSpec := { name := "pulsesTwo", fn := fun _ => fun
  | [d1, d2] => { results := [.lit (.bool true)], args := [d1, d2] }
  | _ => none }
def pulsesTwoRow : OpenClaim := { program := "ytekplngjaddccaa", sum := "ecfa64d024daeda138e1d124363225272e828ea8c04383715ff5bfd6c805ea2c", func := "shellac/shellaclaw13.PulsesTwo", spec := "pulsesTwo", unfollowed := true, recurses := true, apart := false }
def PulsesTwoSaid : Prop := pulsesTwoRow.holds Try.pinned (OpenSpec.ofChange pulsesTwoSpec)

/-- ITS FALSE NEIGHBOUR: 'it returns false'. Refute it at one input. -/
def pulsesTwoWrong : ChangeSpec := { name := "pulsesTwo", fn := fun _ => fun
  | [d1, d2] => { results := [.lit (.bool false)], args := [d1, d2] }
  | _ => none }
def PulsesTwoWrongFalsely : Prop := pulsesTwoRow.holds Try.pinned (OpenSpec.ofChange pulsesTwoWrong)

/-- 'shellaclaw13.PulsesFewest': WHATEVER THE INPUT: true; the input reads as it did. -/
def pulsesFewestSpec : ChangeSpec := { name := "pulsesFewest", fn := fun _ => fun
  | [d] => { results := [.lit (.bool true)], args := [d] }
  | _ => none }
def pulsesFewestRow : OpenClaim := { program := "ytekplngjaddccaa", sum := "ecfa64d024daeda138e1d124363225272e828ea8c04383715ff5bfd6c805ea2c", func := "shellac/shellaclaw13.PulsesFewest", spec := "pulsesFewest", unfollowed := true, recurses := true, apart := false }
def PulsesFewestSaid : Prop := pulsesFewestRow.holds Try.pinned (OpenSpec.ofChange pulsesFewestSpec)

/-- ITS FALSE NEIGHBOUR: 'it returns false'. Refute it at one input. -/
def pulsesFewestWrong : ChangeSpec := { name := "pulsesFewest", fn := fun _ => fun
  | [d] => { results := [.lit (.bool false)], args := [d] }
  | _ => none }
def PulsesFewestWrongFalsely : Prop := pulsesFewestRow.holds Try.pinned (OpenSpec.ofChange pulsesFewestWrong)

/-- 'shellaclaw13.PulsesWritten': WHATEVER THE INPUT: true; the input reads as it did. -/
def pulsesWrittenSpec : ChangeSpec := { name := "pulsesWritten", fn := fun _ => fun
  | [d1, d2, d3] => { results := [.lit (.bool true)], args := [d1, d2, d3] }
  | _ => none }
def pulsesWrittenRow : OpenClaim := { program := "ytekplngjaddccaa", sum := "ecfa64d024daeda138e1d124363225272e828ea8c04383715ff5bfd6c805ea2c", func := "shellac/shellaclaw13.PulsesWritten", spec := "pulsesWritten", unfollowed := true, recurses := true, apart := false }
def PulsesWrittenSaid : Prop := pulsesWrittenRow.holds Try.pinned (OpenSpec.ofChange pulsesWrittenSpec)

/-- ITS FALSE NEIGHBOUR: 'it returns false'. Refute it at one input. -/
def pulsesWrittenWrong : ChangeSpec := { name := "pulsesWritten", fn := fun _ => fun
  | [d1, d2, d3] => { results := [.lit (.bool false)], args := [d1, d2, d3] }
  | _ => none }
def PulsesWrittenWrongFalsely : Prop := pulsesWrittenRow.holds Try.pinned (OpenSpec.ofChange pulsesWrittenWrong)

/-- 'shellaclaw13.PulsesReal': WHATEVER THE INPUT: true; the input reads as it did. -/
def pulsesRealSpec : ChangeSpec := { name := "pulsesReal", fn := fun _ => fun
  | [d1, d2] => { results := [.lit (.bool true)], args := [d1, d2] }
  | _ => none }
def pulsesRealRow : OpenClaim := { program := "ytekplngjaddccaa", sum := "ecfa64d024daeda138e1d124363225272e828ea8c04383715ff5bfd6c805ea2c", func := "shellac/shellaclaw13.PulsesReal", spec := "pulsesReal", unfollowed := true, recurses := true, apart := false }
def PulsesRealSaid : Prop := pulsesRealRow.holds Try.pinned (OpenSpec.ofChange pulsesRealSpec)

/-- ITS FALSE NEIGHBOUR: 'it returns false'. Refute it at one input. -/
def pulsesRealWrong : ChangeSpec := { name := "pulsesReal", fn := fun _ => fun
  | [d1, d2] => { results := [.lit (.bool false)], args := [d1, d2] }
  | _ => none }
def PulsesRealWrongFalsely : Prop := pulsesRealRow.holds Try.pinned (OpenSpec.ofChange pulsesRealWrong)

/-- 'shellaclaw13.PulsesMore': WHATEVER THE INPUT: true; the input reads as it did. -/
def pulsesMoreSpec : ChangeSpec := { name := "pulsesMore", fn := fun _ => fun
  | [d1, d2, d3] => { results := [.lit (.bool true)], args := [d1, d2, d3] }
  | _ => none }
def pulsesMoreRow : OpenClaim := { program := "ytekplngjaddccaa", sum := "ecfa64d024daeda138e1d124363225272e828ea8c04383715ff5bfd6c805ea2c", func := "shellac/shellaclaw13.PulsesMore", spec := "pulsesMore", unfollowed := true, recurses := true, apart := false }
def PulsesMoreSaid : Prop := pulsesMoreRow.holds Try.pinned (OpenSpec.ofChange pulsesMoreSpec)

/-- ITS FALSE NEIGHBOUR: 'it returns false'. Refute it at one input. -/
def pulsesMoreWrong : ChangeSpec := { name := "pulsesMore", fn := fun _ => fun
  | [d1, d2, d3] => { results := [.lit (.bool false)], args := [d1, d2, d3] }
  | _ => none }
def PulsesMoreWrongFalsely : Prop := pulsesMoreRow.holds Try.pinned (OpenSpec.ofChange pulsesMoreWrong)

/-- 'shellaclaw13.PulsesMoved': WHATEVER THE INPUT: true; the input reads as it did. -/
def pulsesMovedSpec : ChangeSpec := { name := "pulsesMoved", fn := fun _ => fun
  | [d1, d2, d3] => { results := [.lit (.bool true)], args := [d1, d2, d3] }
  | _ => none }
def pulsesMovedRow : OpenClaim := { program := "ytekplngjaddccaa", sum := "ecfa64d024daeda138e1d124363225272e828ea8c04383715ff5bfd6c805ea2c", func := "shellac/shellaclaw13.PulsesMoved", spec := "pulsesMoved", unfollowed := true, recurses := true, apart := false }
def PulsesMovedSaid : Prop := pulsesMovedRow.holds Try.pinned (OpenSpec.ofChange pulsesMovedSpec)

/-- ITS FALSE NEIGHBOUR: 'it returns false'. Refute it at one input. -/
def pulsesMovedWrong : ChangeSpec := { name := "pulsesMoved", fn := fun _ => fun
  | [d1, d2, d3] => { results := [.lit (.bool false)], args := [d1, d2, d3] }
  | _ => none }
def PulsesMovedWrongFalsely : Prop := pulsesMovedRow.holds Try.pinned (OpenSpec.ofChange pulsesMovedWrong)

/-- 'shellaclaw13.PulsesEach': WHATEVER THE INPUT: true; the input reads as it did. -/
def pulsesEachSpec : ChangeSpec := { name := "pulsesEach", fn := fun _ => fun
  | [d1, d2, d3] => { results := [.lit (.bool true)], args := [d1, d2, d3] }
  | _ => none }
def pulsesEachRow : OpenClaim := { program := "ytekplngjaddccaa", sum := "ecfa64d024daeda138e1d124363225272e828ea8c04383715ff5bfd6c805ea2c", func := "shellac/shellaclaw13.PulsesEach", spec := "pulsesEach", unfollowed := true, recurses := true, apart := false }
def PulsesEachSaid : Prop := pulsesEachRow.holds Try.pinned (OpenSpec.ofChange pulsesEachSpec)

/-- ITS FALSE NEIGHBOUR: 'it returns false'. Refute it at one input. -/
def pulsesEachWrong : ChangeSpec := { name := "pulsesEach", fn := fun _ => fun
  | [d1, d2, d3] => { results := [.lit (.bool false)], args := [d1, d2, d3] }
  | _ => none }
def PulsesEachWrongFalsely : Prop := pulsesEachRow.holds Try.pinned (OpenSpec.ofChange pulsesEachWrong)

/-- 'shellaclaw13.PulsesPlays': WHATEVER THE INPUT: true; the input reads as it did. -/
def pulsesPlaysSpec : ChangeSpec := { name := "pulsesPlays", fn := fun _ => fun
  | [d1, d2] => { results := [.lit (.bool true)], args := [d1, d2] }
  | _ => none }
def pulsesPlaysRow : OpenClaim := { program := "ytekplngjaddccaa", sum := "ecfa64d024daeda138e1d124363225272e828ea8c04383715ff5bfd6c805ea2c", func := "shellac/shellaclaw13.PulsesPlays", spec := "pulsesPlays", unfollowed := true, recurses := true, apart := false }
def PulsesPlaysSaid : Prop := pulsesPlaysRow.holds Try.pinned (OpenSpec.ofChange pulsesPlaysSpec)

/-- ITS FALSE NEIGHBOUR: 'it returns false'. Refute it at one input. -/
def pulsesPlaysWrong : ChangeSpec := { name := "pulsesPlays", fn := fun _ => fun
  | [d1, d2] => { results := [.lit (.bool false)], args := [d1, d2] }
  | _ => none }
def PulsesPlaysWrongFalsely : Prop := pulsesPlaysRow.holds Try.pinned (OpenSpec.ofChange pulsesPlaysWrong)

/- THE SECOND FORM. 'bulk': how many values and letters a reading holds, each counted each time it is reached (what is shared counts as often as it is met; a slice's spare places count too). A statement '..UptoSaid' is the law's where the arguments, and the package variables that the reading takes, are together of bulk at most 1048576: NARROWER than '..Said'. Prove '..Said' where nothing that the law and all that it calls make is longer than what came in: it says more and counts as full. Else prove '..UptoSaid'. A law counts once. -/
mutual
def uptoBulk {H : Type} : DataW H → Nat
  | .lit (.string bytes) => bytes.length + 1
  | .lit _ => 1
  | .nil => 1
  | .ptr d => uptoBulk d + 1
  | .slice elems spare => uptoBulkAll elems + uptoBulkAll spare + 1
  | .agg parts => uptoBulkAll parts + 1
  | .iface _ d => uptoBulk d + 1
  | .map entries => uptoBulkEntries entries + 1
  | .held _ => 1
def uptoBulkAll {H : Type} : List (DataW H) → Nat
  | [] => 0
  | d :: r => uptoBulk d + uptoBulkAll r
def uptoBulkEntries {H : Type} : List (Lit × DataW H) → Nat
  | [] => 0
  | x :: r => uptoBulkEntry x + uptoBulkEntries r
def uptoBulkEntry {H : Type} : Lit × DataW H → Nat
  | (.string bytes, d) => bytes.length + uptoBulk d + 1
  | (_, d) => uptoBulk d + 1
 end
def uptoSmall : (H : Type) → List (DataW H) → Bool := fun _ ds => decide (uptoBulkAll ds ≤ 1048576)
def OpenSpec.upto (s : _root_.Go.ChangeSpec) : _root_.Go.OpenSpec := { _root_.Go.OpenSpec.ofChange s with cond := some uptoSmall }

/-- 'shellaclaw13.PulsesWrite', WHERE WHAT IT READS IS OF BULK AT MOST 1048576: true; the input reads as it did. -/
def pulsesWriteUptoRow : OpenClaim := { program := "ytekplngjaddccaa", sum := "ecfa64d024daeda138e1d124363225272e828ea8c04383715ff5bfd6c805ea2c", func := "shellac/shellaclaw13.PulsesWrite", spec := "pulsesWrite", unfollowed := true, recurses := true, apart := false, narrowed := true }
def PulsesWriteUptoSaid : Prop := pulsesWriteUptoRow.holds Try.pinned (OpenSpec.upto pulsesWriteSpec)

/-- 'shellaclaw13.PulsesMany', WHERE WHAT IT READS IS OF BULK AT MOST 1048576: true; the input reads as it did. -/
def pulsesManyUptoRow : OpenClaim := { program := "ytekplngjaddccaa", sum := "ecfa64d024daeda138e1d124363225272e828ea8c04383715ff5bfd6c805ea2c", func := "shellac/shellaclaw13.PulsesMany", spec := "pulsesMany", unfollowed := true, recurses := true, apart := false, narrowed := true }
def PulsesManyUptoSaid : Prop := pulsesManyUptoRow.holds Try.pinned (OpenSpec.upto pulsesManySpec)

/-- 'shellaclaw13.PulsesOne', WHERE WHAT IT READS IS OF BULK AT MOST 1048576: true; the input reads as it did. -/
def pulsesOneUptoRow : OpenClaim := { program := "ytekplngjaddccaa", sum := "ecfa64d024daeda138e1d124363225272e828ea8c04383715ff5bfd6c805ea2c", func := "shellac/shellaclaw13.PulsesOne", spec := "pulsesOne", unfollowed := true, recurses := true, apart := false, narrowed := true }
def PulsesOneUptoSaid : Prop := pulsesOneUptoRow.holds Try.pinned (OpenSpec.upto pulsesOneSpec)

/-- 'shellaclaw13.PulsesTwo', WHERE WHAT IT READS IS OF BULK AT MOST 1048576: true; the input reads as it did. -/
def pulsesTwoUptoRow : OpenClaim := { program := "ytekplngjaddccaa", sum := "ecfa64d024daeda138e1d124363225272e828ea8c04383715ff5bfd6c805ea2c", func := "shellac/shellaclaw13.PulsesTwo", spec := "pulsesTwo", unfollowed := true, recurses := true, apart := false, narrowed := true }
def PulsesTwoUptoSaid : Prop := pulsesTwoUptoRow.holds Try.pinned (OpenSpec.upto pulsesTwoSpec)

/-- 'shellaclaw13.PulsesFewest', WHERE WHAT IT READS IS OF BULK AT MOST 1048576: true; the input reads as it did. -/
def pulsesFewestUptoRow : OpenClaim := { program := "ytekplngjaddccaa", sum := "ecfa64d024daeda138e1d124363225272e828ea8c04383715ff5bfd6c805ea2c", func := "shellac/shellaclaw13.PulsesFewest", spec := "pulsesFewest", unfollowed := true, recurses := true, apart := false, narrowed := true }
def PulsesFewestUptoSaid : Prop := pulsesFewestUptoRow.holds Try.pinned (OpenSpec.upto pulsesFewestSpec)

/-- 'shellaclaw13.PulsesWritten', WHERE WHAT IT READS IS OF BULK AT MOST 1048576: true; the input reads as it did. -/
def pulsesWrittenUptoRow : OpenClaim := { program := "ytekplngjaddccaa", sum := "ecfa64d024daeda138e1d124363225272e828ea8c04383715ff5bfd6c805ea2c", func := "shellac/shellaclaw13.PulsesWritten", spec := "pulsesWritten", unfollowed := true, recurses := true, apart := false, narrowed := true }
def PulsesWrittenUptoSaid : Prop := pulsesWrittenUptoRow.holds Try.pinned (OpenSpec.upto pulsesWrittenSpec)

/-- 'shellaclaw13.PulsesReal', WHERE WHAT IT READS IS OF BULK AT MOST 1048576: true; the input reads as it did. -/
def pulsesRealUptoRow : OpenClaim := { program := "ytekplngjaddccaa", sum := "ecfa64d024daeda138e1d124363225272e828ea8c04383715ff5bfd6c805ea2c", func := "shellac/shellaclaw13.PulsesReal", spec := "pulsesReal", unfollowed := true, recurses := true, apart := false, narrowed := true }
def PulsesRealUptoSaid : Prop := pulsesRealUptoRow.holds Try.pinned (OpenSpec.upto pulsesRealSpec)

/-- 'shellaclaw13.PulsesMore', WHERE WHAT IT READS IS OF BULK AT MOST 1048576: true; the input reads as it did. -/
def pulsesMoreUptoRow : OpenClaim := { program := "ytekplngjaddccaa", sum := "ecfa64d024daeda138e1d124363225272e828ea8c04383715ff5bfd6c805ea2c", func := "shellac/shellaclaw13.PulsesMore", spec := "pulsesMore", unfollowed := true, recurses := true, apart := false, narrowed := true }
def PulsesMoreUptoSaid : Prop := pulsesMoreUptoRow.holds Try.pinned (OpenSpec.upto pulsesMoreSpec)

/-- 'shellaclaw13.PulsesMoved', WHERE WHAT IT READS IS OF BULK AT MOST 1048576: true; the input reads as it did. -/
def pulsesMovedUptoRow : OpenClaim := { program := "ytekplngjaddccaa", sum := "ecfa64d024daeda138e1d124363225272e828ea8c04383715ff5bfd6c805ea2c", func := "shellac/shellaclaw13.PulsesMoved", spec := "pulsesMoved", unfollowed := true, recurses := true, apart := false, narrowed := true }
def PulsesMovedUptoSaid : Prop := pulsesMovedUptoRow.holds Try.pinned (OpenSpec.upto pulsesMovedSpec)

/-- 'shellaclaw13.PulsesEach', WHERE WHAT IT READS IS OF BULK AT MOST 1048576: true; the input reads as it did. -/
def pulsesEachUptoRow : OpenClaim := { program := "ytekplngjaddccaa", sum := "ecfa64d024daeda138e1d124363225272e828ea8c04383715ff5bfd6c805ea2c", func := "shellac/shellaclaw13.PulsesEach", spec := "pulsesEach", unfollowed := true, recurses := true, apart := false, narrowed := true }
def PulsesEachUptoSaid : Prop := pulsesEachUptoRow.holds Try.pinned (OpenSpec.upto pulsesEachSpec)

/-- 'shellaclaw13.PulsesPlays', WHERE WHAT IT READS IS OF BULK AT MOST 1048576: true; the input reads as it did. -/
def pulsesPlaysUptoRow : OpenClaim := { program := "ytekplngjaddccaa", sum := "ecfa64d024daeda138e1d124363225272e828ea8c04383715ff5bfd6c805ea2c", func := "shellac/shellaclaw13.PulsesPlays", spec := "pulsesPlays", unfollowed := true, recurses := true, apart := false, narrowed := true }
def PulsesPlaysUptoSaid : Prop := pulsesPlaysUptoRow.holds Try.pinned (OpenSpec.upto pulsesPlaysSpec)

end Rows
end Go.Proofs.Ytekplngjaddccaa
