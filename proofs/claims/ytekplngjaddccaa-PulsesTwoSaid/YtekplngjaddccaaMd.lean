/-
  What the functions compute (printed by gen.py).
  Conditions: none.
-/
import Derived.Test.YtekplngjaddccaaAmN
set_option linter.all false
namespace Go.Law
open Go Go.AM
set_option linter.unusedVariables false
structure Pulse where
  Letters : Int
  Numbers : Int
  Pitch : Int
  Slack : Int
  Gap : Int
  Pause : Int
  Sparks : Int
  Times : List Int
  deriving DecidableEq, Inhabited, Repr
abbrev Pulse.cells (x : Pulse) : List AV := [.v (.int .i64 x.Letters), .v (.int .i64 x.Numbers), .v (.int .i64 x.Pitch), .v (.int .i64 x.Slack), .v (.int .i64 x.Gap), .v (.int .i64 x.Pause), .v (.int .i64 x.Sparks), .sl .no 1 (x.Times.map cI)]
structure An58 where
  n : Int
  low : Int
  high : Int
  deriving DecidableEq, Inhabited, Repr
abbrev An58.cells (x : An58) : List AV := [.v (.int .i64 x.n), .v (.int .i64 x.low), .v (.int .i64 x.high)]
structure Train_ where
  Pulse : Pulse
  deriving DecidableEq, Inhabited, Repr
abbrev Train_.cells (x : Train_) : List AV := [.v (.int .i64 x.Pulse.Letters), .v (.int .i64 x.Pulse.Numbers), .v (.int .i64 x.Pulse.Pitch), .v (.int .i64 x.Pulse.Slack), .v (.int .i64 x.Pulse.Gap), .v (.int .i64 x.Pulse.Pause), .v (.int .i64 x.Pulse.Sparks), .sl .no 1 (x.Pulse.Times.map cI)]
structure Groups_ where
  letter : Int
  number : Int
  deriving DecidableEq, Inhabited, Repr
abbrev Groups_.cells (x : Groups_) : List AV := [.v (.int .i64 x.letter), .v (.int .i64 x.number)]
structure Reading_ where
  sparks : Int
  list : List Int
  deriving DecidableEq, Inhabited, Repr
abbrev Reading_.cells (x : Reading_) : List AV := [.v (.int .u64 x.sparks), .sl .no 1 (x.list.map cI)]
structure Span where
  Low : Int
  High : Int
  deriving DecidableEq, Inhabited, Repr
abbrev Span.cells (x : Span) : List AV := [.v (.int .i64 x.Low), .v (.int .i64 x.High)]
structure Reading where
  Sparks : List Int
  List_ : List Int
  deriving DecidableEq, Inhabited, Repr
abbrev Reading.cells (x : Reading) : List AV := [.sl .no 1 (x.Sparks.map cI), .sl .no 1 (x.List_.map cI)]
structure WirePress where
  Letter : Int
  Number : Int
  Got : Int
  deriving DecidableEq, Inhabited, Repr
abbrev WirePress.cells (x : WirePress) : List AV := [.v (.int .i64 x.Letter), .v (.int .i64 x.Number), .v (.int .i64 x.Got)]
structure Wire where
  Letters : Int
  Numbers : Int
  Presses : List WirePress
  Faults : Int
  deriving DecidableEq, Inhabited, Repr
abbrev Wire.cells (x : Wire) : List AV := [.v (.int .i64 x.Letters), .v (.int .i64 x.Numbers), .sl .no 3 (x.Presses.map WirePress.cells), .v (.int .i64 x.Faults)]
structure WireFault where
  Kind : Int
  A : Int
  B : Int
  deriving DecidableEq, Inhabited, Repr
abbrev WireFault.cells (x : WireFault) : List AV := [.v (.int .i64 x.Kind), .v (.int .i64 x.A), .v (.int .i64 x.B)]
structure Wiring_ where
  Wire : Wire
  all : List WireFault
  deriving DecidableEq, Inhabited, Repr
abbrev Wiring_.cells (x : Wiring_) : List AV := [.v (.int .i64 x.Wire.Letters), .v (.int .i64 x.Wire.Numbers), .sl .no 3 (x.Wire.Presses.map WirePress.cells), .v (.int .i64 x.Wire.Faults), .sl .no 3 (x.all.map WireFault.cells)]
/-- shellac/pulses.within -/
def pulses_within_j1 (v1 : Bool) : Option (Bool) :=
  some v1
def pulses_within (a0 : Int) (a1 : Int) (a2 : Int) : Option (Bool) :=
  if decide (a1 ≤ a0) = true then
    pulses_within_j1 (decide (a0 ≤ a2))
  else
    pulses_within_j1 false
/-- shellac/pulses.Check -/
def pulses_Check_j2 : Option (Int) :=
  some 0
def pulses_Check_j3 (rec1 : Int → Option (Int)) (v1 : Int) (v4 : Bool) : Option (Int) :=
  if v4 = true then
    some 130
  else
    rec1 (w64 (v1 + 1))
def pulses_Check_l1_b (a0 : Pulse) (rec1 : Int → Option (Int)) (v1 : Int) : Option (Int) :=
  if decide (v1 < (a0.Times.length : Int)) = true then
    Option.bind (idx a0.Times v1) fun x3 =>
    Option.bind (pulses_within x3 0 99999) fun r6 =>
    if (!r6) = true then
      pulses_Check_j3 rec1 v1 true
    else
      if decide (v1 > 0) = true then
        Option.bind (idx a0.Times (w64 (v1 - 1))) fun x9 =>
        pulses_Check_j3 rec1 v1 (decide (x3 ≤ x9))
      else
        pulses_Check_j3 rec1 v1 false
  else
    pulses_Check_j2
def pulses_Check_l1 (a0 : Pulse) : Nat → Int → Option (Int)
  | 0, _ => none
  | m + 1, v1 => pulses_Check_l1_b a0 (pulses_Check_l1 a0 m) v1
def pulses_Check_j1 (n : Nat) (a0 : Pulse) : Option (Int) :=
  pulses_Check_l1 a0 n 0
def pulses_Check_l2_b (n : Nat) (a0 : Pulse) (rec2 : Int → Option (Int)) (v10 : Int) : Option (Int) :=
  if decide (v10 < 8) = true then
    Option.bind (idx ([(⟨a0.Letters, 1, 5⟩ : An58), (⟨a0.Numbers, 1, 5⟩ : An58), (⟨a0.Pitch, 1, 99⟩ : An58), (⟨a0.Slack, 0, w64 (a0.Pitch - 1)⟩ : An58), (⟨a0.Gap, w64 ((w64 (a0.Pitch + a0.Slack)) + 1), w64 (a0.Pause - 1)⟩ : An58), (⟨a0.Pause, 0, 999⟩ : An58), (⟨a0.Sparks, 0, 3⟩ : An58), (⟨(a0.Times.length : Int), 0, 24⟩ : An58)] : List An58) v10) fun x12 =>
    Option.bind (pulses_within x12.n x12.low x12.high) fun r13 =>
    if (!r13) = true then
      some 130
    else
      rec2 (w64 (v10 + 1))
  else
    pulses_Check_j1 n a0
def pulses_Check_l2 (n : Nat) (a0 : Pulse) : Nat → Int → Option (Int)
  | 0, _ => none
  | m + 1, v10 => pulses_Check_l2_b n a0 (pulses_Check_l2 n a0 m) v10
def pulses_Check (n : Nat) (a0 : Pulse) : Option (Int) :=
  pulses_Check_l2 n a0 n 0
/-- shellac/pulses.isTime -/
def pulses_isTime (a0 : Int) : Option (Bool) :=
  Option.bind (pulses_within a0 0 99999) fun r1 =>
  some r1
/-- slices.IndexFunc[[]int,int] -/
def slices_IndexFunc_int_j1 {S : Type} (v1 : S) : Option (Int × S) :=
  some ((-1), v1)
def slices_IndexFunc_int_l1_b {S : Type} (a0 : List Int) (aF : Int → S → Option (Bool × S)) (rec1 : Int → S → Option (Int × S)) (v3 : Int) (v4 : S) : Option (Int × S) :=
  if decide (v3 < (a0.length : Int)) = true then
    Option.bind (idx a0 v3) fun x6 =>
    Option.bind (aF x6 v4) fun r7 =>
    if r7.1 = true then
      some (v3, r7.2)
    else
      rec1 (w64 (v3 + 1)) r7.2
  else
    slices_IndexFunc_int_j1 v4
def slices_IndexFunc_int_l1 {S : Type} (a0 : List Int) (aF : Int → S → Option (Bool × S)) : Nat → Int → S → Option (Int × S)
  | 0, _, _ => none
  | m + 1, v3, v4 => slices_IndexFunc_int_l1_b a0 aF (slices_IndexFunc_int_l1 a0 aF m) v3 v4
def slices_IndexFunc_int {S : Type} (n : Nat) (aF : Int → S → Option (Bool × S)) (a0 : List Int) (st : S) : Option (Int × S) :=
  slices_IndexFunc_int_l1 a0 aF n 0 st
/-- slices.ContainsFunc[[]int,int] -/
def slices_ContainsFunc_int {S : Type} (n : Nat) (aF : Int → S → Option (Bool × S)) (a0 : List Int) (st : S) : Option (Bool × S) :=
  Option.bind (slices_IndexFunc_int n aF a0 st) fun r1 =>
  some (decide (r1.1 ≥ 0), r1.2)
/-- (shellac/pulses.train).isSelection -/
def pulses_train_isSelection (a0 : Train_) (a1 : Int) : Option (Bool) :=
  Option.bind (pulses_within a1 0 (w64 ((w64 (a0.Pulse.Letters * a0.Pulse.Numbers)) - 1))) fun r1 =>
  some r1
/-- shellac/pulses.Write$1 -/
def pulses_Write_c1 (a0 : Int) (a1 : Train_) : Option (Bool) :=
  Option.bind (pulses_train_isSelection a1 a0) fun r1 =>
  some (!r1)
/-- shellac/pulses.Write$2 -/
def pulses_Write_c2_j1 (rec1 : Int → Int → (List Int) → Int → Option (Unit × ((List Int) × Int))) (a4 : Pulse) (v4 : Int) (v5 : List Int) (v8 : Int) : Option (Unit × ((List Int) × Int)) :=
  Option.bind (app v5 ([v8] : List Int)) fun l9 =>
  rec1 a4.Pitch (w64 (v4 + 1)) l9 v8
def pulses_Write_c2_l1_b (a1 : Int) (a4 : Pulse) (rec1 : Int → Int → (List Int) → Int → Option (Unit × ((List Int) × Int))) (v3 : Int) (v4 : Int) (v5 : List Int) (v6 : Int) : Option (Unit × ((List Int) × Int)) :=
  if decide (v4 < a1) = true then
    if decide ((v5.length : Int) > 0) = true then
      pulses_Write_c2_j1 rec1 a4 v4 v5 (w64 (v6 + v3))
    else
      pulses_Write_c2_j1 rec1 a4 v4 v5 v6
  else
    some ((), (v5, v6))
def pulses_Write_c2_l1 (a1 : Int) (a4 : Pulse) : Nat → Int → Int → (List Int) → Int → Option (Unit × ((List Int) × Int))
  | 0, _, _, _, _ => none
  | m + 1, v3, v4, v5, v6 => pulses_Write_c2_l1_b a1 a4 (pulses_Write_c2_l1 a1 a4 m) v3 v4 v5 v6
def pulses_Write_c2 (n : Nat) (a0 : Int) (a1 : Int) (a4 : Pulse) (st : (List Int) × Int) : Option (Unit × ((List Int) × Int)) :=
  pulses_Write_c2_l1 a1 a4 n a0 0 st.1 st.2
/-- shellac/pulses.Write -/
def pulses_Write_j3 (v5 : List Int) (v7 : Bool) : Option ((List Int) × Int) :=
  if v7 = true then
    some (([] : List Int), 131)
  else
    some (v5, 0)
def pulses_Write_j2 (v5 : List Int) (v6 : Int) : Option ((List Int) × Int) :=
  if decide ((v5.length : Int) > 24) = true then
    pulses_Write_j3 v5 true
  else
    Option.bind (pulses_isTime v6) fun r10 =>
    pulses_Write_j3 v5 (!r10)
def pulses_Write_l1_b (n : Nat) (a0 : Pulse) (a1 : List Int) (rec1 : Int → (List Int) → Int → Option ((List Int) × Int)) (v12 : Int) (v13 : List Int) (v14 : Int) : Option ((List Int) × Int) :=
  if decide (v12 < (a1.length : Int)) = true then
    Option.bind (idx a1 v12) fun x16 =>
    Option.bind (quo x16 a0.Numbers) fun q17 =>
    Option.bind (pulses_Write_c2 n a0.Pause (w64 (q17 + 1)) a0 (v13, v14)) fun r18 =>
    Option.bind (rem x16 a0.Numbers) fun q19 =>
    Option.bind (pulses_Write_c2 n a0.Gap (w64 (q19 + 1)) a0 (r18.2.1, r18.2.2)) fun r20 =>
    rec1 (w64 (v12 + 1)) r20.2.1 r20.2.2
  else
    pulses_Write_j2 v13 v14
def pulses_Write_l1 (n : Nat) (a0 : Pulse) (a1 : List Int) : Nat → Int → (List Int) → Int → Option ((List Int) × Int)
  | 0, _, _, _ => none
  | m + 1, v12, v13, v14 => pulses_Write_l1_b n a0 a1 (pulses_Write_l1 n a0 a1 m) v12 v13 v14
def pulses_Write_j1 (n : Nat) (a0 : Pulse) (a1 : List Int) (a2 : Int) (v3 : Bool) : Option ((List Int) × Int) :=
  if v3 = true then
    some (([] : List Int), 1)
  else
    pulses_Write_l1 n a0 a1 n 0 ([] : List Int) a2
def pulses_Write (n : Nat) (a0 : Pulse) (a1 : List Int) (a2 : Int) : Option ((List Int) × Int) :=
  Option.bind (pulses_Check n a0) fun r1 =>
  if (r1 != 0) = true then
    some (([] : List Int), r1)
  else
    if decide ((a1.length : Int) > 24) = true then
      pulses_Write_j1 n a0 a1 a2 true
    else
      Option.bind (pulses_isTime a2) fun r22 =>
      if (!r22) = true then
        pulses_Write_j1 n a0 a1 a2 true
      else
        Option.bind (slices_ContainsFunc_int n (fun (x0 : Int) (_ : Unit) => (pulses_Write_c1 x0 (⟨a0⟩ : Train_)).map fun y => (y, ())) a1 ()) fun r24 =>
        pulses_Write_j1 n a0 a1 a2 r24.1
/-- shellac/shellacref01.SameInts -/
def ref01_SameInts_j1 : Option (Bool) :=
  some true
def ref01_SameInts_l1_b (a0 : List Int) (a1 : List Int) (rec1 : Int → Option (Bool)) (v2 : Int) : Option (Bool) :=
  if decide (v2 < (a0.length : Int)) = true then
    Option.bind (idx a0 v2) fun x4 =>
    Option.bind (idx a1 v2) fun x5 =>
    if (x4 != x5) = true then
      some false
    else
      rec1 (w64 (v2 + 1))
  else
    ref01_SameInts_j1
def ref01_SameInts_l1 (a0 : List Int) (a1 : List Int) : Nat → Int → Option (Bool)
  | 0, _ => none
  | m + 1, v2 => ref01_SameInts_l1_b a0 a1 (ref01_SameInts_l1 a0 a1 m) v2
def ref01_SameInts (n : Nat) (a0 : List Int) (a1 : List Int) : Option (Bool) :=
  if ((a0.length : Int) != (a1.length : Int)) = true then
    some false
  else
    ref01_SameInts_l1 a0 a1 n 0
/-- (shellac/pulses.train).sets -/
def pulses_train_sets_j1 {S : Type} (v3 : S) : Option (Bool × S) :=
  some (true, v3)
def pulses_train_sets_l1_b {S : Type} (rec : Train_ → Int → Int → Int → S → Option (Bool × S)) (a0 : Train_) (a1 : Int) (a3 : Int) (rec1 : Int → S → Option (Bool × S)) (v5 : Int) (v6 : S) : Option (Bool × S) :=
  if decide (v5 < (a0.Pulse.Times.length : Int)) = true then
    Option.bind (shl64 1 v5) fun q8 =>
    Option.bind (rec a0 (or64 a1 q8) (w64 (v5 + 1)) (w64 (a3 - 1)) v6) fun r9 =>
    if (!r9.1) = true then
      some (false, r9.2)
    else
      rec1 (w64 (v5 + 1)) r9.2
  else
    pulses_train_sets_j1 v6
def pulses_train_sets_l1 {S : Type} (rec : Train_ → Int → Int → Int → S → Option (Bool × S)) (a0 : Train_) (a1 : Int) (a3 : Int) : Nat → Int → S → Option (Bool × S)
  | 0, _, _ => none
  | m + 1, v5, v6 => pulses_train_sets_l1_b rec a0 a1 a3 (pulses_train_sets_l1 rec a0 a1 a3 m) v5 v6
def pulses_train_sets_b {S : Type} (n : Nat) (rec : Train_ → Int → Int → Int → S → Option (Bool × S)) (aF : Int → S → Option (Bool × S)) (a0 : Train_) (a1 : Int) (a2 : Int) (a3 : Int) (st : S) : Option (Bool × S) :=
  if (a3 == 0) = true then
    Option.bind (aF a1 st) fun r2 =>
    some (r2.1, r2.2)
  else
    pulses_train_sets_l1 rec a0 a1 a3 n a2 st
def pulses_train_sets {S : Type} : Nat → (Int → S → Option (Bool × S)) → Train_ → Int → Int → Int → S → Option (Bool × S)
  | 0, _, _, _, _, _, _ => none
  | n + 1, aF, a0, a1, a2, a3, st => pulses_train_sets_b n (pulses_train_sets n aF) aF a0 a1 a2 a3 st
/-- (shellac/pulses.set).has -/
def pulses_set_has (a0 : Int) (a1 : Int) : Option (Bool) :=
  Option.bind (shr64 a0 a1) fun q1 =>
  some ((and64 q1 1) == 1)
/-- (shellac/pulses.train).list$1 -/
def pulses_train_list_c1_j1 (l1 : List Int) (v2 : Bool) : Option (Bool × (List Int)) :=
  some (v2, l1)
def pulses_train_list_c1 (a1 : Groups_) (a2 : Train_) (st : (List Int)) : Option (Bool × (List Int)) :=
  Option.bind (app st ([w64 ((w64 ((w64 ((w64 (a1.letter - 1)) * a2.Pulse.Numbers)) + a1.number)) - 1)] : List Int)) fun l1 =>
  Option.bind (pulses_within a1.letter 1 a2.Pulse.Letters) fun r3 =>
  if r3 = true then
    Option.bind (pulses_within a1.number 1 a2.Pulse.Numbers) fun r5 =>
    pulses_train_list_c1_j1 l1 r5
  else
    pulses_train_list_c1_j1 l1 false
/-- (shellac/pulses.train).says -/
def pulses_train_says (a0 : Train_) (a1 : Int) : Option (Int) :=
  if decide (a1 ≥ a0.Pulse.Pause) = true then
    some 3
  else
    if decide (a1 ≥ a0.Pulse.Gap) = true then
      some 2
    else
      Option.bind (pulses_within a1 (w64 (a0.Pulse.Pitch - a0.Pulse.Slack)) (w64 (a0.Pulse.Pitch + a0.Pulse.Slack))) fun r3 =>
      if r3 = true then
        some 1
      else
        some 0
/-- (shellac/pulses.train).list -/
def pulses_train_list_j2 (v4 : Bool) (v5 : List Int) : Option ((List Int) × Bool) :=
  if v4 = true then
    some (([] : List Int), false)
  else
    some (v5, true)
def pulses_train_list_j1 (a0 : Train_) (a1 : List Int) (v1 : Int) (v2 : Int) (v3 : List Int) : Option ((List Int) × Bool) :=
  if decide ((a1.length : Int) > 0) = true then
    Option.bind (pulses_train_list_c1 (⟨v1, v2⟩ : Groups_) a0 v3) fun r8 =>
    pulses_train_list_j2 (!r8.1) r8.2
  else
    pulses_train_list_j2 false v3
def pulses_train_list_j3 (rec1 : Int → Int → Int → (List Int) → Option ((List Int) × Bool)) (v10 : Int) (v15 : Int) (v16 : Int) (v17 : List Int) : Option ((List Int) × Bool) :=
  rec1 (w64 (v10 + 1)) v15 v16 v17
def pulses_train_list_l1_b (a0 : Train_) (a1 : List Int) (rec1 : Int → Int → Int → (List Int) → Option ((List Int) × Bool)) (v10 : Int) (v11 : Int) (v12 : Int) (v13 : List Int) : Option ((List Int) × Bool) :=
  if decide (v10 < (a1.length : Int)) = true then
    Option.bind (idx a1 v10) fun x18 =>
    if (v10 == 0) = true then
      pulses_train_list_j3 rec1 v10 1 0 v13
    else
      Option.bind (idx a1 (w64 (v10 - 1))) fun x20 =>
      Option.bind (pulses_train_says a0 (w64 (x18 - x20))) fun r21 =>
      if (r21 == 1) = true then
        if decide (v12 > 0) = true then
          pulses_train_list_j3 rec1 v10 v11 (w64 (v12 + 1)) v13
        else
          pulses_train_list_j3 rec1 v10 (w64 (v11 + 1)) v12 v13
      else
        if (r21 == 2) = true then
          if decide (v12 > 0) = true then
            some (([] : List Int), false)
          else
            pulses_train_list_j3 rec1 v10 v11 1 v13
        else
          if (r21 == 3) = true then
            Option.bind (pulses_train_list_c1 (⟨v11, v12⟩ : Groups_) a0 v13) fun r27 =>
            if (!r27.1) = true then
              some (([] : List Int), false)
            else
              pulses_train_list_j3 rec1 v10 1 0 r27.2
          else
            some (([] : List Int), false)
  else
    pulses_train_list_j1 a0 a1 v11 v12 v13
def pulses_train_list_l1 (a0 : Train_) (a1 : List Int) : Nat → Int → Int → Int → (List Int) → Option ((List Int) × Bool)
  | 0, _, _, _, _ => none
  | m + 1, v10, v11, v12, v13 => pulses_train_list_l1_b a0 a1 (pulses_train_list_l1 a0 a1 m) v10 v11 v12 v13
def pulses_train_list (n : Nat) (a0 : Train_) (a1 : List Int) : Option ((List Int) × Bool) :=
  pulses_train_list_l1 a0 a1 n 0 0 0 ([] : List Int)
/-- (shellac/pulses.train).readings$1$1 -/
def pulses_train_readings_c1_c1_j2 {S : Type} (v3 : Bool) (v4 : S) : Option (Bool × S) :=
  some (v3, v4)
def pulses_train_readings_c1_c1_j1 {S : Type} (n : Nat) (a0 : Int) (aF : Reading_ → S → Option (Bool × S)) (st : S) (a1 : Train_) (v1 : List Int) : Option (Bool × S) :=
  Option.bind (pulses_train_list n a1 v1) fun r2 =>
  if (!r2.2) = true then
    pulses_train_readings_c1_c1_j2 true st
  else
    Option.bind (aF (⟨a0, r2.1⟩ : Reading_) st) fun r6 =>
    pulses_train_readings_c1_c1_j2 r6.1 r6.2
def pulses_train_readings_c1_c1_j3 {S : Type} (rec1 : (List Int) → Int → Option (Bool × S)) (v8 : Int) (v10 : List Int) : Option (Bool × S) :=
  rec1 v10 (w64 (v8 + 1))
def pulses_train_readings_c1_c1_l1_b {S : Type} (n : Nat) (a0 : Int) (aF : Reading_ → S → Option (Bool × S)) (st : S) (a1 : Train_) (rec1 : (List Int) → Int → Option (Bool × S)) (v7 : List Int) (v8 : Int) : Option (Bool × S) :=
  if decide (v8 < (a1.Pulse.Times.length : Int)) = true then
    Option.bind (idx a1.Pulse.Times v8) fun x11 =>
    Option.bind (pulses_set_has a0 v8) fun r12 =>
    if (!r12) = true then
      Option.bind (app v7 ([x11] : List Int)) fun l14 =>
      pulses_train_readings_c1_c1_j3 rec1 v8 l14
    else
      pulses_train_readings_c1_c1_j3 rec1 v8 v7
  else
    pulses_train_readings_c1_c1_j1 n a0 aF st a1 v7
def pulses_train_readings_c1_c1_l1 {S : Type} (n : Nat) (a0 : Int) (aF : Reading_ → S → Option (Bool × S)) (st : S) (a1 : Train_) : Nat → (List Int) → Int → Option (Bool × S)
  | 0, _, _ => none
  | m + 1, v7, v8 => pulses_train_readings_c1_c1_l1_b n a0 aF st a1 (pulses_train_readings_c1_c1_l1 n a0 aF st a1 m) v7 v8
def pulses_train_readings_c1_c1 {S : Type} (n : Nat) (aF : Reading_ → S → Option (Bool × S)) (a0 : Int) (a1 : Train_) (st : S) : Option (Bool × S) :=
  pulses_train_readings_c1_c1_l1 n a0 aF st a1 n ([] : List Int) 0
/-- (shellac/pulses.train).readings$1 -/
def pulses_train_readings_c1 {S : Type} (n : Nat) (aF : Reading_ → S → Option (Bool × S)) (a1 : Train_) (a2 : Int) (st : S) : Option (Unit × S) :=
  Option.bind (pulses_train_sets n (fun (x0 : Int) s => pulses_train_readings_c1_c1 n aF x0 a1 s) a1 0 0 a2 st) fun r1 =>
  some ((), r1.2)
/-- slices.AppendSeq[[]shellac/pulses.reading,shellac/pulses.reading] -/
def slices_AppendSeq_pulsesreading_r1 (y1 : Reading_) (s : (List Reading_)) : Option (Bool × ((List Reading_))) :=
  Option.bind (app s ([y1] : List Reading_)) fun l2 =>
  some (true, l2)
def slices_AppendSeq_pulsesreading (n : Nat) (a0 : List Reading_) (a91 : Train_) (a92 : Int) : Option ((List Reading_)) :=
  Option.bind (pulses_train_readings_c1 n (slices_AppendSeq_pulsesreading_r1) a91 a92 a0) fun r3 =>
  some r3.2
/-- shellac/pulses.open -/
def pulses_open_j1 {S : Type} (r3 : Bool × S) (v5 : List Reading_) : Option (((List Reading_) × Int) × S) :=
  if ((v5.length : Int) == 0) = true then
    some ((([] : List Reading_), 3), r3.2)
  else
    some ((v5, 0), r3.2)
def pulses_open_l1_b {S : Type} (n : Nat) (a0 : Pulse) (r3 : Bool × S) (rec1 : (List Reading_) → Int → Option (((List Reading_) × Int) × S)) (v7 : List Reading_) (v8 : Int) : Option (((List Reading_) × Int) × S) :=
  if decide (v8 < (w64 (a0.Sparks + 1))) = true then
    Option.bind (slices_AppendSeq_pulsesreading n v7 (⟨a0⟩ : Train_) v8) fun r10 =>
    rec1 r10 (w64 (v8 + 1))
  else
    pulses_open_j1 r3 v7
def pulses_open_l1 {S : Type} (n : Nat) (a0 : Pulse) (r3 : Bool × S) : Nat → (List Reading_) → Int → Option (((List Reading_) × Int) × S)
  | 0, _, _ => none
  | m + 1, v7, v8 => pulses_open_l1_b n a0 r3 (pulses_open_l1 n a0 r3 m) v7 v8
def pulses_open {S : Type} (n : Nat) (aF : Train_ → S → Option (Bool × S)) (a0 : Pulse) (st : S) : Option (((List Reading_) × Int) × S) :=
  Option.bind (pulses_Check n a0) fun r1 =>
  if (r1 != 0) = true then
    some ((([] : List Reading_), r1), st)
  else
    Option.bind (aF (⟨a0⟩ : Train_) st) fun r3 =>
    if (!r3.1) = true then
      some ((([] : List Reading_), 1), r3.2)
    else
      pulses_open_l1 n a0 r3 n ([] : List Reading_) 0
/-- shellac/pulses.anything -/
def pulses_anything (a0 : Train_) : Option (Bool) :=
  some true
/-- shellac/pulses.Many -/
def pulses_Many (n : Nat) (a0 : Pulse) : Option (Int × Int) :=
  Option.bind (pulses_open n (fun (x0 : Train_) (_ : Unit) => (pulses_anything x0).map fun y => (y, ())) a0 ()) fun r1 =>
  some ((r1.1.1.length : Int), r1.1.2)
/-- slices.IndexFunc[[][]int,[]int] -/
def slices_IndexFunc_Lint_j1 {S : Type} (v1 : S) : Option (Int × S) :=
  some ((-1), v1)
def slices_IndexFunc_Lint_l1_b {S : Type} (a0 : List (List Int)) (aF : (List Int) → S → Option (Bool × S)) (rec1 : Int → S → Option (Int × S)) (v3 : Int) (v4 : S) : Option (Int × S) :=
  if decide (v3 < (a0.length : Int)) = true then
    Option.bind (idx a0 v3) fun x6 =>
    Option.bind (aF x6 v4) fun r7 =>
    if r7.1 = true then
      some (v3, r7.2)
    else
      rec1 (w64 (v3 + 1)) r7.2
  else
    slices_IndexFunc_Lint_j1 v4
def slices_IndexFunc_Lint_l1 {S : Type} (a0 : List (List Int)) (aF : (List Int) → S → Option (Bool × S)) : Nat → Int → S → Option (Int × S)
  | 0, _, _ => none
  | m + 1, v3, v4 => slices_IndexFunc_Lint_l1_b a0 aF (slices_IndexFunc_Lint_l1 a0 aF m) v3 v4
def slices_IndexFunc_Lint {S : Type} (n : Nat) (aF : (List Int) → S → Option (Bool × S)) (a0 : List (List Int)) (st : S) : Option (Int × S) :=
  slices_IndexFunc_Lint_l1 a0 aF n 0 st
/-- slices.ContainsFunc[[][]int,[]int] -/
def slices_ContainsFunc_Lint {S : Type} (n : Nat) (aF : (List Int) → S → Option (Bool × S)) (a0 : List (List Int)) (st : S) : Option (Bool × S) :=
  Option.bind (slices_IndexFunc_Lint n aF a0 st) fun r1 =>
  some (decide (r1.1 ≥ 0), r1.2)
/-- slices.Equal[[]int,int] -/
def slices_Equal_int_j1 : Option (Bool) :=
  some true
def slices_Equal_int_l1_b (a0 : List Int) (a1 : List Int) (rec1 : Int → Option (Bool)) (v2 : Int) : Option (Bool) :=
  if decide (v2 < (a0.length : Int)) = true then
    Option.bind (idx a0 v2) fun x4 =>
    Option.bind (idx a1 v2) fun x5 =>
    if (x4 != x5) = true then
      some false
    else
      rec1 (w64 (v2 + 1))
  else
    slices_Equal_int_j1
def slices_Equal_int_l1 (a0 : List Int) (a1 : List Int) : Nat → Int → Option (Bool)
  | 0, _ => none
  | m + 1, v2 => slices_Equal_int_l1_b a0 a1 (slices_Equal_int_l1 a0 a1 m) v2
def slices_Equal_int (n : Nat) (a0 : List Int) (a1 : List Int) : Option (Bool) :=
  if ((a0.length : Int) != (a1.length : Int)) = true then
    some false
  else
    slices_Equal_int_l1 a0 a1 n 0
/-- shellac/pulses.lists$1 -/
def pulses_lists_c1 (n : Nat) (a0 : List Int) (a1 : Reading_) : Option (Bool) :=
  Option.bind (slices_Equal_int n a0 a1.list) fun r1 =>
  some r1
/-- shellac/pulses.lists -/
def pulses_lists_j1 (v1 : List (List Int)) : Option ((List (List Int))) :=
  some v1
def pulses_lists_j2 (rec1 : (List (List Int)) → Int → Option ((List (List Int)))) (v3 : Int) (v5 : List (List Int)) : Option ((List (List Int))) :=
  rec1 v5 (w64 (v3 + 1))
def pulses_lists_l1_b (n : Nat) (a0 : List Reading_) (rec1 : (List (List Int)) → Int → Option ((List (List Int)))) (v2 : List (List Int)) (v3 : Int) : Option ((List (List Int))) :=
  if decide (v3 < (a0.length : Int)) = true then
    Option.bind (idx a0 v3) fun x6 =>
    Option.bind (slices_ContainsFunc_Lint n (fun (x0 : List Int) (_ : Unit) => (pulses_lists_c1 n x0 x6).map fun y => (y, ())) v2 ()) fun r7 =>
    if (!r7.1) = true then
      Option.bind (app v2 ([x6.list] : List (List Int))) fun l9 =>
      pulses_lists_j2 rec1 v3 l9
    else
      pulses_lists_j2 rec1 v3 v2
  else
    pulses_lists_j1 v2
def pulses_lists_l1 (n : Nat) (a0 : List Reading_) : Nat → (List (List Int)) → Int → Option ((List (List Int)))
  | 0, _, _ => none
  | m + 1, v2, v3 => pulses_lists_l1_b n a0 (pulses_lists_l1 n a0 m) v2 v3
def pulses_lists (n : Nat) (a0 : List Reading_) : Option ((List (List Int))) :=
  pulses_lists_l1 n a0 n ([] : List (List Int)) 0
/-- shellac/pulses.Lists -/
def pulses_Lists (n : Nat) (a0 : Pulse) : Option (Int × Int) :=
  Option.bind (pulses_open n (fun (x0 : Train_) (_ : Unit) => (pulses_anything x0).map fun y => (y, ())) a0 ()) fun r1 =>
  Option.bind (pulses_lists n r1.1.1) fun r2 =>
  some ((r2.length : Int), r1.1.2)
/-- shellac/pulses.one -/
def pulses_one (n : Nat) (a0 : List Reading_) : Option ((List Int) × Int) :=
  Option.bind (pulses_lists n a0) fun r1 =>
  if decide ((r1.length : Int) > 1) = true then
    some (([] : List Int), 2)
  else
    Option.bind (idx r1 0) fun x3 =>
    some (x3, 0)
/-- shellac/pulses.Read -/
def pulses_Read (n : Nat) (a0 : Pulse) : Option ((List Int) × Int) :=
  Option.bind (pulses_open n (fun (x0 : Train_) (_ : Unit) => (pulses_anything x0).map fun y => (y, ())) a0 ()) fun r1 =>
  if (r1.1.2 != 0) = true then
    some (([] : List Int), r1.1.2)
  else
    Option.bind (pulses_one n r1.1.1) fun r3 =>
    some (r3.1, r3.2)
/-- shellac/pulses.Asked$1 -/
def pulses_Asked_c1 (a0 : Train_) (a1 : Int) : Option (Bool) :=
  Option.bind (pulses_train_isSelection a0 a1) fun r1 =>
  some r1
/-- shellac/pulses.count[int] -/
def pulses_count_int_j1 {S : Type} (v1 : Int) (v2 : S) : Option (Int × S) :=
  some (v1, v2)
def pulses_count_int_j2 {S : Type} (rec1 : Int → Int → S → Option (Int × S)) (v6 : Int) (v9 : Int) (v10 : S) : Option (Int × S) :=
  rec1 v9 (w64 (v6 + 1)) v10
def pulses_count_int_l1_b {S : Type} (a0 : List Int) (aF : Int → S → Option (Bool × S)) (rec1 : Int → Int → S → Option (Int × S)) (v5 : Int) (v6 : Int) (v7 : S) : Option (Int × S) :=
  if decide (v6 < (a0.length : Int)) = true then
    Option.bind (idx a0 v6) fun x11 =>
    Option.bind (aF x11 v7) fun r12 =>
    if r12.1 = true then
      pulses_count_int_j2 rec1 v6 (w64 (v5 + 1)) r12.2
    else
      pulses_count_int_j2 rec1 v6 v5 r12.2
  else
    pulses_count_int_j1 v5 v7
def pulses_count_int_l1 {S : Type} (a0 : List Int) (aF : Int → S → Option (Bool × S)) : Nat → Int → Int → S → Option (Int × S)
  | 0, _, _, _ => none
  | m + 1, v5, v6, v7 => pulses_count_int_l1_b a0 aF (pulses_count_int_l1 a0 aF m) v5 v6 v7
def pulses_count_int {S : Type} (n : Nat) (aF : Int → S → Option (Bool × S)) (a0 : List Int) (st : S) : Option (Int × S) :=
  pulses_count_int_l1 a0 aF n 0 0 st
/-- shellac/pulses.Asked$2 -/
def pulses_Asked_c2 (a0 : Int) (a1 : Int) : Option (Bool) :=
  some (a0 == a1)
/-- shellac/pulses.Asked -/
def pulses_Asked_j1 (v3 : Int) (v4 : Int) : Option (Span × Int) :=
  some ((⟨v3, v4⟩ : Span), 0)
def pulses_Asked_l1_b (n : Nat) (a1 : Int) (r1 : ((List Reading_) × Int) × Unit) (rec1 : Int → Int → Int → Option (Span × Int)) (v6 : Int) (v7 : Int) (v8 : Int) : Option (Span × Int) :=
  if decide (v6 < (r1.1.1.length : Int)) = true then
    Option.bind (idx r1.1.1 v6) fun x10 =>
    Option.bind (pulses_count_int n (fun (x0 : Int) (_ : Unit) => (pulses_Asked_c2 x0 a1).map fun y => (y, ())) x10.list ()) fun r11 =>
    rec1 (w64 (v6 + 1)) (min v7 r11.1) (max v8 r11.1)
  else
    pulses_Asked_j1 v7 v8
def pulses_Asked_l1 (n : Nat) (a1 : Int) (r1 : ((List Reading_) × Int) × Unit) : Nat → Int → Int → Int → Option (Span × Int)
  | 0, _, _, _ => none
  | m + 1, v6, v7, v8 => pulses_Asked_l1_b n a1 r1 (pulses_Asked_l1 n a1 r1 m) v6 v7 v8
def pulses_Asked (n : Nat) (a0 : Pulse) (a1 : Int) : Option (Span × Int) :=
  Option.bind (pulses_open n (fun (x0 : Train_) (_ : Unit) => (pulses_Asked_c1 x0 a1).map fun y => (y, ())) a0 ()) fun r1 =>
  if (r1.1.2 != 0) = true then
    some ((⟨0, 0⟩ : Span), r1.1.2)
  else
    pulses_Asked_l1 n a1 r1 n 0 24 0
/-- shellac/shellaclaw13.Example -/
def law13_Example : Option (Pulse) :=
  some (⟨3, 4, 10, 2, 30, 100, 1, ([0, 10, 40, 50, 60] : List Int)⟩ : Pulse)
/-- shellac/shellaclaw13.works -/
def law13_works_j1 (v7 : Bool) : Option (Bool) :=
  some v7
def law13_works (n : Nat) : Option (Bool) :=
  Option.bind (law13_Example) fun r1 =>
  Option.bind (pulses_Many n r1) fun r2 =>
  Option.bind (pulses_Lists n r1) fun r3 =>
  Option.bind (pulses_Asked n r1 6) fun r4 =>
  Option.bind (pulses_Write n r1 ([1, 4] : List Int) 7) fun r5 =>
  Option.bind (pulses_Read n (⟨r1.Letters, r1.Numbers, r1.Pitch, r1.Slack, r1.Gap, r1.Pause, 0, r1.Times⟩ : Pulse)) fun r6 =>
  if (r2.2 == 0) = true then
    if (r3.2 == 0) = true then
      if (r4.2 == 0) = true then
        if (r5.2 == 0) = true then
          if (r6.2 == 0) = true then
            if (r2.1 == 5) = true then
              if (r3.1 == 3) = true then
                if ((r4.1.Low == 0) && ((r4.1.High == 1) && true)) = true then
                  Option.bind (ref01_SameInts n r5.1 ([7, 37, 47, 147, 157, 187] : List Int)) fun r16 =>
                  if r16 = true then
                    Option.bind (ref01_SameInts n r6.1 ([6] : List Int)) fun r18 =>
                    law13_works_j1 r18
                  else
                    law13_works_j1 false
                else
                  law13_works_j1 false
              else
                law13_works_j1 false
            else
              law13_works_j1 false
          else
            law13_works_j1 false
        else
          law13_works_j1 false
      else
        law13_works_j1 false
    else
      law13_works_j1 false
  else
    law13_works_j1 false
/-- shellac/shellacref13.Copy -/
def ref13_Copy (a0 : Pulse) : Option (Pulse) :=
  Option.bind (app ([] : List Int) a0.Times) fun l1 =>
  some (⟨a0.Letters, a0.Numbers, a0.Pitch, a0.Slack, a0.Gap, a0.Pause, a0.Sparks, l1⟩ : Pulse)
/-- shellac/shellacref01.Within -/
def ref01_Within_j1 (v1 : Bool) : Option (Bool) :=
  some v1
def ref01_Within (a0 : Int) (a1 : Int) (a2 : Int) : Option (Bool) :=
  if decide (a0 ≥ a1) = true then
    ref01_Within_j1 (decide (a0 ≤ a2))
  else
    ref01_Within_j1 false
/-- shellac/shellacref13.within -/
def ref13_within (a0 : Int) (a1 : Int) (a2 : Int) : Option (Bool) :=
  Option.bind (ref01_Within a0 a1 a2) fun r1 =>
  some r1
/-- shellac/shellacref01.Rising -/
def ref01_Rising_j1 : Option (Bool) :=
  some true
def ref01_Rising_j2 (rec1 : Int → Option (Bool)) (v1 : Int) (v3 : Bool) : Option (Bool) :=
  if v3 = true then
    some false
  else
    rec1 (w64 (v1 + 1))
def ref01_Rising_l1_b (a0 : List Int) (a1 : Int) (a2 : Int) (rec1 : Int → Option (Bool)) (v1 : Int) : Option (Bool) :=
  if decide (v1 < (a0.length : Int)) = true then
    Option.bind (idx a0 v1) fun x5 =>
    Option.bind (ref01_Within x5 a1 a2) fun r6 =>
    if (!r6) = true then
      ref01_Rising_j2 rec1 v1 true
    else
      if decide (v1 > 0) = true then
        Option.bind (idx a0 v1) fun x9 =>
        Option.bind (idx a0 (w64 (v1 - 1))) fun x10 =>
        ref01_Rising_j2 rec1 v1 (decide (x9 ≤ x10))
      else
        ref01_Rising_j2 rec1 v1 false
  else
    ref01_Rising_j1
def ref01_Rising_l1 (a0 : List Int) (a1 : Int) (a2 : Int) : Nat → Int → Option (Bool)
  | 0, _ => none
  | m + 1, v1 => ref01_Rising_l1_b a0 a1 a2 (ref01_Rising_l1 a0 a1 a2 m) v1
def ref01_Rising (n : Nat) (a0 : List Int) (a1 : Int) (a2 : Int) : Option (Bool) :=
  ref01_Rising_l1 a0 a1 a2 n 0
/-- shellac/shellacref13.Check -/
def ref13_Check_j1 (v1 : Bool) : Option (Int) :=
  if v1 = true then
    some 130
  else
    some 0
def ref13_Check (n : Nat) (a0 : Pulse) : Option (Int) :=
  Option.bind (ref13_within a0.Letters 1 5) fun r3 =>
  if (!r3) = true then
    ref13_Check_j1 true
  else
    Option.bind (ref13_within a0.Numbers 1 5) fun r5 =>
    if (!r5) = true then
      ref13_Check_j1 true
    else
      Option.bind (ref13_within a0.Pitch 1 99) fun r7 =>
      if (!r7) = true then
        ref13_Check_j1 true
      else
        Option.bind (ref13_within a0.Slack 0 (w64 (a0.Pitch - 1))) fun r9 =>
        if (!r9) = true then
          ref13_Check_j1 true
        else
          Option.bind (ref13_within a0.Pause 1 999) fun r11 =>
          if (!r11) = true then
            ref13_Check_j1 true
          else
            Option.bind (ref13_within a0.Gap (w64 ((w64 (a0.Pitch + a0.Slack)) + 1)) (w64 (a0.Pause - 1))) fun r13 =>
            if (!r13) = true then
              ref13_Check_j1 true
            else
              Option.bind (ref13_within a0.Sparks 0 3) fun r15 =>
              if (!r15) = true then
                ref13_Check_j1 true
              else
                if decide ((a0.Times.length : Int) > 24) = true then
                  ref13_Check_j1 true
                else
                  Option.bind (ref01_Rising n a0.Times 0 99999) fun r18 =>
                  ref13_Check_j1 (!r18)
/-- shellac/shellaclaw13.Far -/
def law13_Far_j1 (v1 : Bool) : Option (Bool) :=
  some v1
def law13_Far (n : Nat) (a0 : Pulse) : Option (Bool) :=
  if decide ((a0.Times.length : Int) > 40) = true then
    law13_Far_j1 true
  else
    Option.bind (ref13_Check n a0) fun r3 =>
    if (r3 == 0) = true then
      law13_Far_j1 (decide ((a0.Times.length : Int) > 14))
    else
      law13_Far_j1 false
/-- shellac/pulses.Fewest -/
def pulses_Fewest_j1 (v3 : Int) : Option (Int × Int) :=
  some (0, 3)
def pulses_Fewest_r2 (v5 : Int) (y4 : Reading_) (s : Int × Bool) : Option (Bool × (Int × Bool)) :=
  if s.2 = true then
    none
  else
    some (false, (v5, true))
def pulses_Fewest_l1_b (n : Nat) (a0 : Pulse) (rec1 : Int → Int → Option (Int × Int)) (v5 : Int) (v6 : Int) : Option (Int × Int) :=
  if decide (v5 < 4) = true then
    Option.bind (pulses_train_readings_c1 n (pulses_Fewest_r2 v5) (⟨a0⟩ : Train_) v5 (v6, false)) fun r9 =>
    if r9.2.2 = true then
      some (r9.2.1, 0)
    else
      rec1 (w64 (v5 + 1)) r9.2.1
  else
    pulses_Fewest_j1 v6
def pulses_Fewest_l1 (n : Nat) (a0 : Pulse) : Nat → Int → Int → Option (Int × Int)
  | 0, _, _ => none
  | m + 1, v5, v6 => pulses_Fewest_l1_b n a0 (pulses_Fewest_l1 n a0 m) v5 v6
def pulses_Fewest (n : Nat) (a0 : Pulse) : Option (Int × Int) :=
  Option.bind (pulses_Check n a0) fun r1 =>
  if (r1 != 0) = true then
    some (0, r1)
  else
    pulses_Fewest_l1 n a0 n 0 0
/-- shellac/shellaclaw13.ready -/
def law13_ready_j1 (v1 : Bool) : Option (Bool) :=
  some v1
def law13_ready (n : Nat) (a0 : Pulse) : Option (Bool) :=
  Option.bind (law13_Far n a0) fun r2 =>
  if (!r2) = true then
    Option.bind (ref13_Check n a0) fun r4 =>
    law13_ready_j1 (r4 == 0)
  else
    law13_ready_j1 false
/-- shellac/shellaclaw13.isKnown -/
def law13_isKnown_j1 (v1 : Bool) : Option (Bool) :=
  some v1
def law13_isKnown (a0 : Int) : Option (Bool) :=
  if (a0 == 0) = true then
    law13_isKnown_j1 true
  else
    law13_isKnown_j1 (a0 == 3)
/-- shellac/shellaclaw13.PulsesTwo -/
def law13_PulsesTwo_j8 (v25 : Bool) : Option (Bool) :=
  some v25
def law13_PulsesTwo_j9 (v31 : Bool) : Option (Bool) :=
  some v31
def law13_PulsesTwo_j7 (n : Nat) (r20 : (List Int) × Int) (r21 : (List Int) × Int) (r22 : (List Int) × Int) (v23 : Bool) : Option (Bool) :=
  if v23 = true then
    Option.bind (law13_isKnown r20.2) fun r26 =>
    if r26 = true then
      Option.bind (law13_isKnown r21.2) fun r28 =>
      if r28 = true then
        Option.bind (law13_works n) fun r30 =>
        law13_PulsesTwo_j8 r30
      else
        law13_PulsesTwo_j8 false
    else
      law13_PulsesTwo_j8 false
  else
    if (r22.2 == 0) = true then
      Option.bind (app ([] : List Int) r20.1) fun l33 =>
      Option.bind (app l33 r21.1) fun l34 =>
      Option.bind (ref01_SameInts n r22.1 l34) fun r35 =>
      if r35 = true then
        Option.bind (law13_works n) fun r37 =>
        law13_PulsesTwo_j9 r37
      else
        law13_PulsesTwo_j9 false
    else
      law13_PulsesTwo_j9 false
def law13_PulsesTwo_j6 (n : Nat) (a0 : Pulse) (r4 : Pulse) (r5 : Pulse) (v7 : List Int) (v8 : List Int) (v17 : Bool) : Option (Bool) :=
  if v17 = true then
    some false
  else
    Option.bind (ref13_Copy a0) fun r19 =>
    Option.bind (pulses_Read n (⟨r19.Letters, r19.Numbers, r19.Pitch, r19.Slack, r19.Gap, r19.Pause, 0, r19.Times⟩ : Pulse)) fun r20 =>
    Option.bind (pulses_Read n (⟨r4.Letters, r4.Numbers, r4.Pitch, r4.Slack, r4.Gap, r4.Pause, 0, v8⟩ : Pulse)) fun r21 =>
    Option.bind (pulses_Read n (⟨r5.Letters, r5.Numbers, r5.Pitch, r5.Slack, r5.Gap, r5.Pause, 0, v7⟩ : Pulse)) fun r22 =>
    if (r20.2 != 0) = true then
      law13_PulsesTwo_j7 n r20 r21 r22 true
    else
      law13_PulsesTwo_j7 n r20 r21 r22 (r21.2 != 0)
def law13_PulsesTwo_j5 (n : Nat) (a0 : Pulse) (r4 : Pulse) (r5 : Pulse) (v7 : List Int) (v8 : List Int) (r12 : Int × Int) (r13 : Int × Int) (r14 : Int × Int) (v15 : Bool) : Option (Bool) :=
  if v15 = true then
    some false
  else
    if (r12.2 == 0) = true then
      if (r13.2 == 0) = true then
        if decide ((w64 (r12.1 + r13.1)) ≤ 3) = true then
          if (r14.2 != 0) = true then
            law13_PulsesTwo_j6 n a0 r4 r5 v7 v8 true
          else
            law13_PulsesTwo_j6 n a0 r4 r5 v7 v8 (decide (r14.1 > (w64 (r12.1 + r13.1))))
        else
          law13_PulsesTwo_j6 n a0 r4 r5 v7 v8 false
      else
        law13_PulsesTwo_j6 n a0 r4 r5 v7 v8 false
    else
      law13_PulsesTwo_j6 n a0 r4 r5 v7 v8 false
def law13_PulsesTwo_j4 (n : Nat) (a0 : Pulse) (r4 : Pulse) (r5 : Pulse) (v7 : List Int) (v8 : List Int) (v9 : Bool) : Option (Bool) :=
  if v9 = true then
    Option.bind (law13_works n) fun r11 =>
    some r11
  else
    Option.bind (pulses_Fewest n a0) fun r12 =>
    Option.bind (pulses_Fewest n (⟨r4.Letters, r4.Numbers, r4.Pitch, r4.Slack, r4.Gap, r4.Pause, r4.Sparks, v8⟩ : Pulse)) fun r13 =>
    Option.bind (pulses_Fewest n (⟨r5.Letters, r5.Numbers, r5.Pitch, r5.Slack, r5.Gap, r5.Pause, r5.Sparks, v7⟩ : Pulse)) fun r14 =>
    Option.bind (law13_isKnown r12.2) fun r43 =>
    if (!r43) = true then
      law13_PulsesTwo_j5 n a0 r4 r5 v7 v8 r12 r13 r14 true
    else
      Option.bind (law13_isKnown r13.2) fun r45 =>
      if (!r45) = true then
        law13_PulsesTwo_j5 n a0 r4 r5 v7 v8 r12 r13 r14 true
      else
        Option.bind (law13_isKnown r14.2) fun r47 =>
        if (!r47) = true then
          law13_PulsesTwo_j5 n a0 r4 r5 v7 v8 r12 r13 r14 true
        else
          if decide ((min (min r12.1 r13.1) r14.1) < 0) = true then
            law13_PulsesTwo_j5 n a0 r4 r5 v7 v8 r12 r13 r14 true
          else
            law13_PulsesTwo_j5 n a0 r4 r5 v7 v8 r12 r13 r14 (decide ((max r12.1 r13.1) > 3))
def law13_PulsesTwo_j3 (n : Nat) (a0 : Pulse) (r4 : Pulse) (r5 : Pulse) (v7 : List Int) (v8 : List Int) : Option (Bool) :=
  Option.bind (law13_ready n (⟨r4.Letters, r4.Numbers, r4.Pitch, r4.Slack, r4.Gap, r4.Pause, r4.Sparks, v8⟩ : Pulse)) fun r50 =>
  if (!r50) = true then
    law13_PulsesTwo_j4 n a0 r4 r5 v7 v8 true
  else
    Option.bind (law13_ready n (⟨r5.Letters, r5.Numbers, r5.Pitch, r5.Slack, r5.Gap, r5.Pause, r5.Sparks, v7⟩ : Pulse)) fun r52 =>
    law13_PulsesTwo_j4 n a0 r4 r5 v7 v8 (!r52)
def law13_PulsesTwo_j10 (n : Nat) (rec1 : Int → Int → (List Int) → (List Int) → Option (Bool)) (a1 : List Int) (v55 : Int) (v56 : Int) (v57 : List Int) (v58 : List Int) (v60 : Bool) : Option (Bool) :=
  if v60 = true then
    Option.bind (law13_works n) fun r62 =>
    some r62
  else
    Option.bind (idx a1 v56) fun x63 =>
    Option.bind (app v58 ([w64 (v55 + x63)] : List Int)) fun l64 =>
    Option.bind (app v57 ([w64 (v55 + x63)] : List Int)) fun l65 =>
    rec1 (w64 (v55 + x63)) (w64 (v56 + 1)) l65 l64
def law13_PulsesTwo_l1_b (n : Nat) (a0 : Pulse) (a1 : List Int) (r4 : Pulse) (r5 : Pulse) (rec1 : Int → Int → (List Int) → (List Int) → Option (Bool)) (v55 : Int) (v56 : Int) (v57 : List Int) (v58 : List Int) : Option (Bool) :=
  if decide (v56 < (a1.length : Int)) = true then
    Option.bind (idx a1 v56) fun x66 =>
    if decide (x66 < 0) = true then
      law13_PulsesTwo_j10 n rec1 a1 v55 v56 v57 v58 true
    else
      Option.bind (idx a1 v56) fun x68 =>
      law13_PulsesTwo_j10 n rec1 a1 v55 v56 v57 v58 (decide (x68 > 99999))
  else
    law13_PulsesTwo_j3 n a0 r4 r5 v57 v58
def law13_PulsesTwo_l1 (n : Nat) (a0 : Pulse) (a1 : List Int) (r4 : Pulse) (r5 : Pulse) : Nat → Int → Int → (List Int) → (List Int) → Option (Bool)
  | 0, _, _, _, _ => none
  | m + 1, v55, v56, v57, v58 => law13_PulsesTwo_l1_b n a0 a1 r4 r5 (law13_PulsesTwo_l1 n a0 a1 r4 r5 m) v55 v56 v57 v58
def law13_PulsesTwo_j2 (n : Nat) (a0 : Pulse) (a1 : List Int) (r4 : Pulse) (r5 : Pulse) (v6 : Int) : Option (Bool) :=
  law13_PulsesTwo_l1 n a0 a1 r4 r5 n v6 0 r5.Times ([] : List Int)
def law13_PulsesTwo_j1 (n : Nat) (a0 : Pulse) (a1 : List Int) (v1 : Bool) : Option (Bool) :=
  if v1 = true then
    Option.bind (law13_works n) fun r3 =>
    some r3
  else
    Option.bind (ref13_Copy a0) fun r4 =>
    Option.bind (ref13_Copy a0) fun r5 =>
    if decide ((a0.Times.length : Int) > 0) = true then
      Option.bind (idx a0.Times (w64 ((a0.Times.length : Int) - 1))) fun x70 =>
      law13_PulsesTwo_j2 n a0 a1 r4 r5 (w64 (x70 + a0.Pause))
    else
      law13_PulsesTwo_j2 n a0 a1 r4 r5 0
def law13_PulsesTwo (n : Nat) (a0 : Pulse) (a1 : List Int) : Option (Bool) :=
  Option.bind (law13_ready n a0) fun r71 =>
  if (!r71) = true then
    law13_PulsesTwo_j1 n a0 a1 true
  else
    law13_PulsesTwo_j1 n a0 a1 (decide ((a1.length : Int) > 14))
end Go.Law
