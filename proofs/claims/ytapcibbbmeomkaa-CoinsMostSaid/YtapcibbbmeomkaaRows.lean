/-
  No cell of these rows narrows 'for every input' (looked for: loops, veiled, ifaces, maps, wideKeys, modest, calm, conditions, laid).
  DERIVED. THE GIVEN ROWS OF THIS SEAT. 13 by the template 'for every input the law returns true; each argument reads behind the call as it read before'; 0 by the template 'total and deterministic' (their statements: YtapcibbbmeomkaaTotals.lean).
  GIVEN WITH THE SEED: the statements are not yours to turn. If you find one false, say at which input.
  Laid BY PROGRAM, IN A SANDBOX (cutbox-rows.mjs): the forced cells as the released guide's own fill.sh prints them over the translation a3ca0be8b72b7642… (all of the seat's roots in one cut). By AI agents, Wed Nov 11 2026. No macro, syntax, notation, axiom, sorry.
-/
import Derived.Test.YtapcibbbmeomkaaChecked
import GoSem.Claim
import GoSem.ClaimJoined
import GoSem.ClaimMapViews
import Derived.JoinedTies
import Derived.KernelRfl
namespace Go.Proofs.Ytapcibbbmeomkaa
/- THE CELL 'sum', in the pinned program and in every row, IS THE sha256 OF THE DUMP (.gsa) THAT YtapcibbbmeomkaaProg.lean LOADS. Nothing in Lean hashes anything: it is a label: what it is worth is what the hold of that sum in a sandbox is worth. -/
noncomputable def Try.pinned : Pinned := { name := "ytapcibbbmeomkaa", sum := "a3ca0be8b72b7642831210daf296a103658c05cd27a62ed56904d5e12a2058aa", checked := Try.checked }
namespace Rows
def none {H : Type} : Left H := { results := [], args := [] }

/-- 'shellaclaw01.CoinsCheapest': WHATEVER THE INPUT: true; the input reads as it did. -/
def coinsCheapestSpec : ChangeSpec := { name := "coinsCheapest", fn := fun _ => fun
  | [d1, d2] => { results := [.lit (.bool true)], args := [d1, d2] }
  | _ => none }
def coinsCheapestRow : OpenClaim := { program := "ytapcibbbmeomkaa", sum := "a3ca0be8b72b7642831210daf296a103658c05cd27a62ed56904d5e12a2058aa", func := "shellac/shellaclaw01.CoinsCheapest", spec := "coinsCheapest", unfollowed := true, recurses := true, plainKeys := false, apart := false }
def CoinsCheapestSaid : Prop := coinsCheapestRow.holds Try.pinned (OpenSpec.ofChange coinsCheapestSpec)

/-- ITS FALSE NEIGHBOUR: 'it returns false'. Refute it at one input. -/
def coinsCheapestWrong : ChangeSpec := { name := "coinsCheapest", fn := fun _ => fun
  | [d1, d2] => { results := [.lit (.bool false)], args := [d1, d2] }
  | _ => none }
def CoinsCheapestWrongFalsely : Prop := coinsCheapestRow.holds Try.pinned (OpenSpec.ofChange coinsCheapestWrong)

/-- 'shellaclaw01.CoinsMore': WHATEVER THE INPUT: true; the input reads as it did. -/
def coinsMoreSpec : ChangeSpec := { name := "coinsMore", fn := fun _ => fun
  | [d1, d2, d3] => { results := [.lit (.bool true)], args := [d1, d2, d3] }
  | _ => none }
def coinsMoreRow : OpenClaim := { program := "ytapcibbbmeomkaa", sum := "a3ca0be8b72b7642831210daf296a103658c05cd27a62ed56904d5e12a2058aa", func := "shellac/shellaclaw01.CoinsMore", spec := "coinsMore", unfollowed := true, recurses := true, plainKeys := false, apart := false }
def CoinsMoreSaid : Prop := coinsMoreRow.holds Try.pinned (OpenSpec.ofChange coinsMoreSpec)

/-- ITS FALSE NEIGHBOUR: 'it returns false'. Refute it at one input. -/
def coinsMoreWrong : ChangeSpec := { name := "coinsMore", fn := fun _ => fun
  | [d1, d2, d3] => { results := [.lit (.bool false)], args := [d1, d2, d3] }
  | _ => none }
def CoinsMoreWrongFalsely : Prop := coinsMoreRow.holds Try.pinned (OpenSpec.ofChange coinsMoreWrong)

/-- 'shellaclaw01.CoinsCheap': WHATEVER THE INPUT: true; the input reads as it did. -/
def coinsCheapSpec : ChangeSpec := { name := "coinsCheap", fn := fun _ => fun
  | [d1, d2, d3] => { results := [.lit (.bool true)], args := [d1, d2, d3] }
  | _ => none }
def coinsCheapRow : OpenClaim := { program := "ytapcibbbmeomkaa", sum := "a3ca0be8b72b7642831210daf296a103658c05cd27a62ed56904d5e12a2058aa", func := "shellac/shellaclaw01.CoinsCheap", spec := "coinsCheap", unfollowed := true, recurses := true, plainKeys := false, apart := false }
def CoinsCheapSaid : Prop := coinsCheapRow.holds Try.pinned (OpenSpec.ofChange coinsCheapSpec)

/-- ITS FALSE NEIGHBOUR: 'it returns false'. Refute it at one input. -/
def coinsCheapWrong : ChangeSpec := { name := "coinsCheap", fn := fun _ => fun
  | [d1, d2, d3] => { results := [.lit (.bool false)], args := [d1, d2, d3] }
  | _ => none }
def CoinsCheapWrongFalsely : Prop := coinsCheapRow.holds Try.pinned (OpenSpec.ofChange coinsCheapWrong)

/-- 'shellaclaw01.CoinsCould': WHATEVER THE INPUT: true; the input reads as it did. -/
def coinsCouldSpec : ChangeSpec := { name := "coinsCould", fn := fun _ => fun
  | [d1, d2] => { results := [.lit (.bool true)], args := [d1, d2] }
  | _ => none }
def coinsCouldRow : OpenClaim := { program := "ytapcibbbmeomkaa", sum := "a3ca0be8b72b7642831210daf296a103658c05cd27a62ed56904d5e12a2058aa", func := "shellac/shellaclaw01.CoinsCould", spec := "coinsCould", unfollowed := true, recurses := true, plainKeys := false, apart := false }
def CoinsCouldSaid : Prop := coinsCouldRow.holds Try.pinned (OpenSpec.ofChange coinsCouldSpec)

/-- ITS FALSE NEIGHBOUR: 'it returns false'. Refute it at one input. -/
def coinsCouldWrong : ChangeSpec := { name := "coinsCould", fn := fun _ => fun
  | [d1, d2] => { results := [.lit (.bool false)], args := [d1, d2] }
  | _ => none }
def CoinsCouldWrongFalsely : Prop := coinsCouldRow.holds Try.pinned (OpenSpec.ofChange coinsCouldWrong)

/-- 'shellaclaw01.CoinsSeen': WHATEVER THE INPUT: true; the input reads as it did. -/
def coinsSeenSpec : ChangeSpec := { name := "coinsSeen", fn := fun _ => fun
  | [d1, d2, d3] => { results := [.lit (.bool true)], args := [d1, d2, d3] }
  | _ => none }
def coinsSeenRow : OpenClaim := { program := "ytapcibbbmeomkaa", sum := "a3ca0be8b72b7642831210daf296a103658c05cd27a62ed56904d5e12a2058aa", func := "shellac/shellaclaw01.CoinsSeen", spec := "coinsSeen", unfollowed := true, recurses := true, plainKeys := false, apart := false }
def CoinsSeenSaid : Prop := coinsSeenRow.holds Try.pinned (OpenSpec.ofChange coinsSeenSpec)

/-- ITS FALSE NEIGHBOUR: 'it returns false'. Refute it at one input. -/
def coinsSeenWrong : ChangeSpec := { name := "coinsSeen", fn := fun _ => fun
  | [d1, d2, d3] => { results := [.lit (.bool false)], args := [d1, d2, d3] }
  | _ => none }
def CoinsSeenWrongFalsely : Prop := coinsSeenRow.holds Try.pinned (OpenSpec.ofChange coinsSeenWrong)

/-- 'shellaclaw01.CoinsRun': WHATEVER THE INPUT: true; the input reads as it did. -/
def coinsRunSpec : ChangeSpec := { name := "coinsRun", fn := fun _ => fun
  | [d1, d2, d3] => { results := [.lit (.bool true)], args := [d1, d2, d3] }
  | _ => none }
def coinsRunRow : OpenClaim := { program := "ytapcibbbmeomkaa", sum := "a3ca0be8b72b7642831210daf296a103658c05cd27a62ed56904d5e12a2058aa", func := "shellac/shellaclaw01.CoinsRun", spec := "coinsRun", unfollowed := true, recurses := true, plainKeys := false, apart := false }
def CoinsRunSaid : Prop := coinsRunRow.holds Try.pinned (OpenSpec.ofChange coinsRunSpec)

/-- ITS FALSE NEIGHBOUR: 'it returns false'. Refute it at one input. -/
def coinsRunWrong : ChangeSpec := { name := "coinsRun", fn := fun _ => fun
  | [d1, d2, d3] => { results := [.lit (.bool false)], args := [d1, d2, d3] }
  | _ => none }
def CoinsRunWrongFalsely : Prop := coinsRunRow.holds Try.pinned (OpenSpec.ofChange coinsRunWrong)

/-- 'shellaclaw01.CoinsSum': WHATEVER THE INPUT: true; the input reads as it did. -/
def coinsSumSpec : ChangeSpec := { name := "coinsSum", fn := fun _ => fun
  | [d1, d2, d3] => { results := [.lit (.bool true)], args := [d1, d2, d3] }
  | _ => none }
def coinsSumRow : OpenClaim := { program := "ytapcibbbmeomkaa", sum := "a3ca0be8b72b7642831210daf296a103658c05cd27a62ed56904d5e12a2058aa", func := "shellac/shellaclaw01.CoinsSum", spec := "coinsSum", unfollowed := true, recurses := true, plainKeys := false, apart := false }
def CoinsSumSaid : Prop := coinsSumRow.holds Try.pinned (OpenSpec.ofChange coinsSumSpec)

/-- ITS FALSE NEIGHBOUR: 'it returns false'. Refute it at one input. -/
def coinsSumWrong : ChangeSpec := { name := "coinsSum", fn := fun _ => fun
  | [d1, d2, d3] => { results := [.lit (.bool false)], args := [d1, d2, d3] }
  | _ => none }
def CoinsSumWrongFalsely : Prop := coinsSumRow.holds Try.pinned (OpenSpec.ofChange coinsSumWrong)

/-- 'shellaclaw01.CoinsAround': WHATEVER THE INPUT: true; the input reads as it did. -/
def coinsAroundSpec : ChangeSpec := { name := "coinsAround", fn := fun _ => fun
  | [d1, d2, d3] => { results := [.lit (.bool true)], args := [d1, d2, d3] }
  | _ => none }
def coinsAroundRow : OpenClaim := { program := "ytapcibbbmeomkaa", sum := "a3ca0be8b72b7642831210daf296a103658c05cd27a62ed56904d5e12a2058aa", func := "shellac/shellaclaw01.CoinsAround", spec := "coinsAround", unfollowed := true, recurses := true, plainKeys := false, apart := false }
def CoinsAroundSaid : Prop := coinsAroundRow.holds Try.pinned (OpenSpec.ofChange coinsAroundSpec)

/-- ITS FALSE NEIGHBOUR: 'it returns false'. Refute it at one input. -/
def coinsAroundWrong : ChangeSpec := { name := "coinsAround", fn := fun _ => fun
  | [d1, d2, d3] => { results := [.lit (.bool false)], args := [d1, d2, d3] }
  | _ => none }
def CoinsAroundWrongFalsely : Prop := coinsAroundRow.holds Try.pinned (OpenSpec.ofChange coinsAroundWrong)

/-- 'shellaclaw01.CoinsAny': WHATEVER THE INPUT: true; the input reads as it did. -/
def coinsAnySpec : ChangeSpec := { name := "coinsAny", fn := fun _ => fun
  | [d1, d2] => { results := [.lit (.bool true)], args := [d1, d2] }
  | _ => none }
def coinsAnyRow : OpenClaim := { program := "ytapcibbbmeomkaa", sum := "a3ca0be8b72b7642831210daf296a103658c05cd27a62ed56904d5e12a2058aa", func := "shellac/shellaclaw01.CoinsAny", spec := "coinsAny", unfollowed := true, recurses := true, plainKeys := false, apart := false }
def CoinsAnySaid : Prop := coinsAnyRow.holds Try.pinned (OpenSpec.ofChange coinsAnySpec)

/-- ITS FALSE NEIGHBOUR: 'it returns false'. Refute it at one input. -/
def coinsAnyWrong : ChangeSpec := { name := "coinsAny", fn := fun _ => fun
  | [d1, d2] => { results := [.lit (.bool false)], args := [d1, d2] }
  | _ => none }
def CoinsAnyWrongFalsely : Prop := coinsAnyRow.holds Try.pinned (OpenSpec.ofChange coinsAnyWrong)

/-- 'shellaclaw01.CoinsWasted': WHATEVER THE INPUT: true; the input reads as it did. -/
def coinsWastedSpec : ChangeSpec := { name := "coinsWasted", fn := fun _ => fun
  | [d1, d2, d3] => { results := [.lit (.bool true)], args := [d1, d2, d3] }
  | _ => none }
def coinsWastedRow : OpenClaim := { program := "ytapcibbbmeomkaa", sum := "a3ca0be8b72b7642831210daf296a103658c05cd27a62ed56904d5e12a2058aa", func := "shellac/shellaclaw01.CoinsWasted", spec := "coinsWasted", unfollowed := true, recurses := true, plainKeys := false, apart := false }
def CoinsWastedSaid : Prop := coinsWastedRow.holds Try.pinned (OpenSpec.ofChange coinsWastedSpec)

/-- ITS FALSE NEIGHBOUR: 'it returns false'. Refute it at one input. -/
def coinsWastedWrong : ChangeSpec := { name := "coinsWasted", fn := fun _ => fun
  | [d1, d2, d3] => { results := [.lit (.bool false)], args := [d1, d2, d3] }
  | _ => none }
def CoinsWastedWrongFalsely : Prop := coinsWastedRow.holds Try.pinned (OpenSpec.ofChange coinsWastedWrong)

/-- 'shellaclaw01.CoinsTell': WHATEVER THE INPUT: true; the input reads as it did. -/
def coinsTellSpec : ChangeSpec := { name := "coinsTell", fn := fun _ => fun
  | [d] => { results := [.lit (.bool true)], args := [d] }
  | _ => none }
def coinsTellRow : OpenClaim := { program := "ytapcibbbmeomkaa", sum := "a3ca0be8b72b7642831210daf296a103658c05cd27a62ed56904d5e12a2058aa", func := "shellac/shellaclaw01.CoinsTell", spec := "coinsTell", unfollowed := true, recurses := true, plainKeys := false, apart := false }
def CoinsTellSaid : Prop := coinsTellRow.holds Try.pinned (OpenSpec.ofChange coinsTellSpec)

/-- ITS FALSE NEIGHBOUR: 'it returns false'. Refute it at one input. -/
def coinsTellWrong : ChangeSpec := { name := "coinsTell", fn := fun _ => fun
  | [d] => { results := [.lit (.bool false)], args := [d] }
  | _ => none }
def CoinsTellWrongFalsely : Prop := coinsTellRow.holds Try.pinned (OpenSpec.ofChange coinsTellWrong)

/-- 'shellaclaw01.CoinsTold': WHATEVER THE INPUT: true; the input reads as it did. -/
def coinsToldSpec : ChangeSpec := { name := "coinsTold", fn := fun _ => fun
  | [d1, d2] => { results := [.lit (.bool true)], args := [d1, d2] }
  | _ => none }
def coinsToldRow : OpenClaim := { program := "ytapcibbbmeomkaa", sum := "a3ca0be8b72b7642831210daf296a103658c05cd27a62ed56904d5e12a2058aa", func := "shellac/shellaclaw01.CoinsTold", spec := "coinsTold", unfollowed := true, recurses := true, plainKeys := false, apart := false }
def CoinsToldSaid : Prop := coinsToldRow.holds Try.pinned (OpenSpec.ofChange coinsToldSpec)

/-- ITS FALSE NEIGHBOUR: 'it returns false'. Refute it at one input. -/
def coinsToldWrong : ChangeSpec := { name := "coinsTold", fn := fun _ => fun
  | [d1, d2] => { results := [.lit (.bool false)], args := [d1, d2] }
  | _ => none }
def CoinsToldWrongFalsely : Prop := coinsToldRow.holds Try.pinned (OpenSpec.ofChange coinsToldWrong)

/-- 'shellaclaw01.CoinsMost': WHATEVER THE INPUT: true; the input reads as it did. -/
def coinsMostSpec : ChangeSpec := { name := "coinsMost", fn := fun _ => fun
  | [d1, d2] => { results := [.lit (.bool true)], args := [d1, d2] }
  | _ => none }
def coinsMostRow : OpenClaim := { program := "ytapcibbbmeomkaa", sum := "a3ca0be8b72b7642831210daf296a103658c05cd27a62ed56904d5e12a2058aa", func := "shellac/shellaclaw01.CoinsMost", spec := "coinsMost", unfollowed := true, recurses := true, plainKeys := false, apart := false }
def CoinsMostSaid : Prop := coinsMostRow.holds Try.pinned (OpenSpec.ofChange coinsMostSpec)

/-- ITS FALSE NEIGHBOUR: 'it returns false'. Refute it at one input. -/
def coinsMostWrong : ChangeSpec := { name := "coinsMost", fn := fun _ => fun
  | [d1, d2] => { results := [.lit (.bool false)], args := [d1, d2] }
  | _ => none }
def CoinsMostWrongFalsely : Prop := coinsMostRow.holds Try.pinned (OpenSpec.ofChange coinsMostWrong)

/- THE SECOND FORM. 'bulk': how many values and letters a reading holds, each counted each time it is reached (what is shared counts as often as it is met; a slice's spare places count too). A statement '..UptoSaid' is the law's where the arguments, and the package variables that the reading takes, are together of bulk at most 1048576: NARROWER than '..Said'. Prove '..Said' where nothing that the law and all that it calls make is longer than what came in: it says more and counts as full. Else prove '..UptoSaid'. A law counts once. -/
mutual
def uptoBulk {H : Type} : DataW H → Nat
  | .lit (.string bytes) => bytes.length + 1
  | .lit _ => 1
  | .nil => 1
  | .ptr d => uptoBulk d + 1
  | .slice elems spare => uptoBulkAll elems + uptoBulkAll spare + 1
  | .agg parts => uptoBulkAll parts + 1
  | .iface _ d => uptoBulk d + 1
  | .map entries => uptoBulkEntries entries + 1
  | .held _ => 1
def uptoBulkAll {H : Type} : List (DataW H) → Nat
  | [] => 0
  | d :: r => uptoBulk d + uptoBulkAll r
def uptoBulkEntries {H : Type} : List (Lit × DataW H) → Nat
  | [] => 0
  | x :: r => uptoBulkEntry x + uptoBulkEntries r
def uptoBulkEntry {H : Type} : Lit × DataW H → Nat
  | (.string bytes, d) => bytes.length + uptoBulk d + 1
  | (_, d) => uptoBulk d + 1
 end
def uptoSmall : (H : Type) → List (DataW H) → Bool := fun _ ds => decide (uptoBulkAll ds ≤ 1048576)
def OpenSpec.upto (s : _root_.Go.ChangeSpec) : _root_.Go.OpenSpec := { _root_.Go.OpenSpec.ofChange s with cond := some uptoSmall }

/-- 'shellaclaw01.CoinsCheapest', WHERE WHAT IT READS IS OF BULK AT MOST 1048576: true; the input reads as it did. -/
def coinsCheapestUptoRow : OpenClaim := { program := "ytapcibbbmeomkaa", sum := "a3ca0be8b72b7642831210daf296a103658c05cd27a62ed56904d5e12a2058aa", func := "shellac/shellaclaw01.CoinsCheapest", spec := "coinsCheapest", unfollowed := true, recurses := true, plainKeys := false, apart := false, narrowed := true }
def CoinsCheapestUptoSaid : Prop := coinsCheapestUptoRow.holds Try.pinned (OpenSpec.upto coinsCheapestSpec)

/-- 'shellaclaw01.CoinsMore', WHERE WHAT IT READS IS OF BULK AT MOST 1048576: true; the input reads as it did. -/
def coinsMoreUptoRow : OpenClaim := { program := "ytapcibbbmeomkaa", sum := "a3ca0be8b72b7642831210daf296a103658c05cd27a62ed56904d5e12a2058aa", func := "shellac/shellaclaw01.CoinsMore", spec := "coinsMore", unfollowed := true, recurses := true, plainKeys := false, apart := false, narrowed := true }
def CoinsMoreUptoSaid : Prop := coinsMoreUptoRow.holds Try.pinned (OpenSpec.upto coinsMoreSpec)

/-- 'shellaclaw01.CoinsCheap', WHERE WHAT IT READS IS OF BULK AT MOST 1048576: true; the input reads as it did. -/
def coinsCheapUptoRow : OpenClaim := { program := "ytapcibbbmeomkaa", sum := "a3ca0be8b72b7642831210daf296a103658c05cd27a62ed56904d5e12a2058aa", func := "shellac/shellaclaw01.CoinsCheap", spec := "coinsCheap", unfollowed := true, recurses := true, plainKeys := false, apart := false, narrowed := true }
def CoinsCheapUptoSaid : Prop := coinsCheapUptoRow.holds Try.pinned (OpenSpec.upto coinsCheapSpec)

/-- 'shellaclaw01.CoinsCould', WHERE WHAT IT READS IS OF BULK AT MOST 1048576: true; the input reads as it did. -/
def coinsCouldUptoRow : OpenClaim := { program := "ytapcibbbmeomkaa", sum := "a3ca0be8b72b7642831210daf296a103658c05cd27a62ed56904d5e12a2058aa", func := "shellac/shellaclaw01.CoinsCould", spec := "coinsCould", unfollowed := true, recurses := true, plainKeys := false, apart := false, narrowed := true }
def CoinsCouldUptoSaid : Prop := coinsCouldUptoRow.holds Try.pinned (OpenSpec.upto coinsCouldSpec)

/-- 'shellaclaw01.CoinsSeen', WHERE WHAT IT READS IS OF BULK AT MOST 1048576: true; the input reads as it did. -/
def coinsSeenUptoRow : OpenClaim := { program := "ytapcibbbmeomkaa", sum := "a3ca0be8b72b7642831210daf296a103658c05cd27a62ed56904d5e12a2058aa", func := "shellac/shellaclaw01.CoinsSeen", spec := "coinsSeen", unfollowed := true, recurses := true, plainKeys := false, apart := false, narrowed := true }
def CoinsSeenUptoSaid : Prop := coinsSeenUptoRow.holds Try.pinned (OpenSpec.upto coinsSeenSpec)

/-- 'shellaclaw01.CoinsRun', WHERE WHAT IT READS IS OF BULK AT MOST 1048576: true; the input reads as it did. -/
def coinsRunUptoRow : OpenClaim := { program := "ytapcibbbmeomkaa", sum := "a3ca0be8b72b7642831210daf296a103658c05cd27a62ed56904d5e12a2058aa", func := "shellac/shellaclaw01.CoinsRun", spec := "coinsRun", unfollowed := true, recurses := true, plainKeys := false, apart := false, narrowed := true }
def CoinsRunUptoSaid : Prop := coinsRunUptoRow.holds Try.pinned (OpenSpec.upto coinsRunSpec)

/-- 'shellaclaw01.CoinsSum', WHERE WHAT IT READS IS OF BULK AT MOST 1048576: true; the input reads as it did. -/
def coinsSumUptoRow : OpenClaim := { program := "ytapcibbbmeomkaa", sum := "a3ca0be8b72b7642831210daf296a103658c05cd27a62ed56904d5e12a2058aa", func := "shellac/shellaclaw01.CoinsSum", spec := "coinsSum", unfollowed := true, recurses := true, plainKeys := false, apart := false, narrowed := true }
def CoinsSumUptoSaid : Prop := coinsSumUptoRow.holds Try.pinned (OpenSpec.upto coinsSumSpec)

/-- 'shellaclaw01.CoinsAround', WHERE WHAT IT READS IS OF BULK AT MOST 1048576: true; the input reads as it did. -/
def coinsAroundUptoRow : OpenClaim := { program := "ytapcibbbmeomkaa", sum := "a3ca0be8b72b7642831210daf296a103658c05cd27a62ed56904d5e12a2058aa", func := "shellac/shellaclaw01.CoinsAround", spec := "coinsAround", unfollowed := true, recurses := true, plainKeys := false, apart := false, narrowed := true }
def CoinsAroundUptoSaid : Prop := coinsAroundUptoRow.holds Try.pinned (OpenSpec.upto coinsAroundSpec)

/-- 'shellaclaw01.CoinsAny', WHERE WHAT IT READS IS OF BULK AT MOST 1048576: true; the input reads as it did. -/
def coinsAnyUptoRow : OpenClaim := { program := "ytapcibbbmeomkaa", sum := "a3ca0be8b72b7642831210daf296a103658c05cd27a62ed56904d5e12a2058aa", func := "shellac/shellaclaw01.CoinsAny", spec := "coinsAny", unfollowed := true, recurses := true, plainKeys := false, apart := false, narrowed := true }
def CoinsAnyUptoSaid : Prop := coinsAnyUptoRow.holds Try.pinned (OpenSpec.upto coinsAnySpec)

/-- 'shellaclaw01.CoinsWasted', WHERE WHAT IT READS IS OF BULK AT MOST 1048576: true; the input reads as it did. -/
def coinsWastedUptoRow : OpenClaim := { program := "ytapcibbbmeomkaa", sum := "a3ca0be8b72b7642831210daf296a103658c05cd27a62ed56904d5e12a2058aa", func := "shellac/shellaclaw01.CoinsWasted", spec := "coinsWasted", unfollowed := true, recurses := true, plainKeys := false, apart := false, narrowed := true }
def CoinsWastedUptoSaid : Prop := coinsWastedUptoRow.holds Try.pinned (OpenSpec.upto coinsWastedSpec)

/-- 'shellaclaw01.CoinsTell', WHERE WHAT IT READS IS OF BULK AT MOST 1048576: true; the input reads as it did. -/
def coinsTellUptoRow : OpenClaim := { program := "ytapcibbbmeomkaa", sum := "a3ca0be8b72b7642831210daf296a103658c05cd27a62ed56904d5e12a2058aa", func := "shellac/shellaclaw01.CoinsTell", spec := "coinsTell", unfollowed := true, recurses := true, plainKeys := false, apart := false, narrowed := true }
def CoinsTellUptoSaid : Prop := coinsTellUptoRow.holds Try.pinned (OpenSpec.upto coinsTellSpec)

/-- 'shellaclaw01.CoinsTold', WHERE WHAT IT READS IS OF BULK AT MOST 1048576: true; the input reads as it did. -/
def coinsToldUptoRow : OpenClaim := { program := "ytapcibbbmeomkaa", sum := "a3ca0be8b72b7642831210daf296a103658c05cd27a62ed56904d5e12a2058aa", func := "shellac/shellaclaw01.CoinsTold", spec := "coinsTold", unfollowed := true, recurses := true, plainKeys := false, apart := false, narrowed := true }
def CoinsToldUptoSaid : Prop := coinsToldUptoRow.holds Try.pinned (OpenSpec.upto coinsToldSpec)

/-- 'shellaclaw01.CoinsMost', WHERE WHAT IT READS IS OF BULK AT MOST 1048576: true; the input reads as it did. -/
def coinsMostUptoRow : OpenClaim := { program := "ytapcibbbmeomkaa", sum := "a3ca0be8b72b7642831210daf296a103658c05cd27a62ed56904d5e12a2058aa", func := "shellac/shellaclaw01.CoinsMost", spec := "coinsMost", unfollowed := true, recurses := true, plainKeys := false, apart := false, narrowed := true }
def CoinsMostUptoSaid : Prop := coinsMostUptoRow.holds Try.pinned (OpenSpec.upto coinsMostSpec)

end Rows
end Go.Proofs.Ytapcibbbmeomkaa
