/-
  What the functions compute (printed by gen.py).
  Conditions: none.
-/
import Derived.Test.YtneghcnkcfblmaaAmN
set_option linter.all false
namespace Go.Law
open Go Go.AM
set_option linter.unusedVariables false
structure WirePress where
  Letter : Int
  Number : Int
  Got : Int
  deriving DecidableEq, Inhabited, Repr
abbrev WirePress.cells (x : WirePress) : List AV := [.v (.int .i64 x.Letter), .v (.int .i64 x.Number), .v (.int .i64 x.Got)]
structure Wire where
  Letters : Int
  Numbers : Int
  Presses : List WirePress
  Faults : Int
  deriving DecidableEq, Inhabited, Repr
abbrev Wire.cells (x : Wire) : List AV := [.v (.int .i64 x.Letters), .v (.int .i64 x.Numbers), .sl .no 3 (x.Presses.map WirePress.cells), .v (.int .i64 x.Faults)]
structure WireFault where
  Kind : Int
  A : Int
  B : Int
  deriving DecidableEq, Inhabited, Repr
abbrev WireFault.cells (x : WireFault) : List AV := [.v (.int .i64 x.Kind), .v (.int .i64 x.A), .v (.int .i64 x.B)]
structure Wiring_ where
  Wire : Wire
  all : List WireFault
  deriving DecidableEq, Inhabited, Repr
abbrev Wiring_.cells (x : Wiring_) : List AV := [.v (.int .i64 x.Wire.Letters), .v (.int .i64 x.Wire.Numbers), .sl .no 3 (x.Wire.Presses.map WirePress.cells), .v (.int .i64 x.Wire.Faults), .sl .no 3 (x.all.map WireFault.cells)]
structure Keys_ where
  c0 : Int
  c1 : Int
  c2 : Int
  c3 : Int
  c4 : Int
  deriving DecidableEq, Inhabited, Repr
abbrev Keys_.cells (x : Keys_) : List AV := [.v (.int .i64 x.c0), .v (.int .i64 x.c1), .v (.int .i64 x.c2), .v (.int .i64 x.c3), .v (.int .i64 x.c4)]
structure Panel_ where
  letters : Keys_
  numbers : Keys_
  deriving DecidableEq, Inhabited, Repr
abbrev Panel_.cells (x : Panel_) : List AV := [.v (.int .i64 x.letters.c0), .v (.int .i64 x.letters.c1), .v (.int .i64 x.letters.c2), .v (.int .i64 x.letters.c3), .v (.int .i64 x.letters.c4), .v (.int .i64 x.numbers.c0), .v (.int .i64 x.numbers.c1), .v (.int .i64 x.numbers.c2), .v (.int .i64 x.numbers.c3), .v (.int .i64 x.numbers.c4)]
structure Ask_ where
  Letter : Int
  Number : Int
  deriving DecidableEq, Inhabited, Repr
abbrev Ask_.cells (x : Ask_) : List AV := [.v (.int .i64 x.Letter), .v (.int .i64 x.Number)]
def okWireFault (x : WireFault) : Bool := ([x.Kind, x.A, x.B] : List Int).all okI
def kvWireFault (x : WireFault) : Value := .agg (([x.Kind, x.A, x.B] : List Int).map kvI).toArray
/-- shellac/shellacref01.Within -/
def ref01_Within_j1 (v1 : Bool) : Option (Bool) :=
  some v1
def ref01_Within (a0 : Int) (a1 : Int) (a2 : Int) : Option (Bool) :=
  if decide (a0 ≥ a1) = true then
    ref01_Within_j1 (decide (a0 ≤ a2))
  else
    ref01_Within_j1 false
/-- shellac/shellacref11.within -/
def ref11_within (a0 : Int) (a1 : Int) (a2 : Int) : Option (Bool) :=
  Option.bind (ref01_Within a0 a1 a2) fun r1 =>
  some r1
/-- shellac/shellacref11.IsButton -/
def ref11_IsButton_j1 (v1 : Bool) : Option (Bool) :=
  some v1
def ref11_IsButton (a0 : Wire) (a1 : Int) (a2 : Int) : Option (Bool) :=
  Option.bind (ref11_within a1 0 (w64 (a0.Letters - 1))) fun r2 =>
  if r2 = true then
    Option.bind (ref11_within a2 0 (w64 (a0.Numbers - 1))) fun r4 =>
    ref11_IsButton_j1 r4
  else
    ref11_IsButton_j1 false
/-- shellac/shellacref11.Check -/
def ref11_Check_j2 : Option (Int) :=
  some 0
def ref11_Check_j3 (rec1 : Int → Option (Int)) (v3 : Int) (v6 : Bool) : Option (Int) :=
  if v6 = true then
    some 110
  else
    rec1 (w64 (v3 + 1))
def ref11_Check_l1_b (a0 : Wire) (rec1 : Int → Option (Int)) (v3 : Int) : Option (Int) :=
  if decide (v3 < (a0.Presses.length : Int)) = true then
    Option.bind (idx a0.Presses v3) fun x5 =>
    Option.bind (ref11_IsButton a0 x5.Letter x5.Number) fun r8 =>
    if (!r8) = true then
      ref11_Check_j3 rec1 v3 true
    else
      Option.bind (ref11_within x5.Got (-1) (w64 ((w64 (a0.Letters * a0.Numbers)) - 1))) fun r10 =>
      ref11_Check_j3 rec1 v3 (!r10)
  else
    ref11_Check_j2
def ref11_Check_l1 (a0 : Wire) : Nat → Int → Option (Int)
  | 0, _ => none
  | m + 1, v3 => ref11_Check_l1_b a0 (ref11_Check_l1 a0 m) v3
def ref11_Check_j1 (n : Nat) (a0 : Wire) (v1 : Bool) : Option (Int) :=
  if v1 = true then
    some 110
  else
    ref11_Check_l1 a0 n 0
def ref11_Check (n : Nat) (a0 : Wire) : Option (Int) :=
  Option.bind (ref11_within a0.Letters 1 5) fun r11 =>
  if (!r11) = true then
    ref11_Check_j1 n a0 true
  else
    Option.bind (ref11_within a0.Numbers 1 5) fun r13 =>
    if (!r13) = true then
      ref11_Check_j1 n a0 true
    else
      if decide ((a0.Presses.length : Int) > 8) = true then
        ref11_Check_j1 n a0 true
      else
        Option.bind (ref11_within a0.Faults 0 3) fun r16 =>
        ref11_Check_j1 n a0 (!r16)
/-- shellac/shellaclaw11.Far -/
def law11_Far_j1 (v1 : Bool) : Option (Bool) :=
  some v1
def law11_Far (n : Nat) (a0 : Wire) : Option (Bool) :=
  if decide ((a0.Presses.length : Int) > 40) = true then
    law11_Far_j1 true
  else
    Option.bind (ref11_Check n a0) fun r3 =>
    if (r3 == 0) = true then
      if decide ((max a0.Letters a0.Numbers) > 4) = true then
        law11_Far_j1 true
      else
        law11_Far_j1 (decide (a0.Faults > 2))
    else
      law11_Far_j1 false
/-- shellac/wires.within -/
def wires_within_j1 (v1 : Bool) : Option (Bool) :=
  some v1
def wires_within (a0 : Int) (a1 : Int) (a2 : Int) : Option (Bool) :=
  if decide (a1 ≤ a0) = true then
    wires_within_j1 (decide (a0 ≤ a2))
  else
    wires_within_j1 false
/-- shellac/wires.isPress -/
def wires_isPress_j1 (v1 : Bool) : Option (Bool) :=
  some v1
def wires_isPress (a0 : Wire) (a1 : Int) (a2 : Int) : Option (Bool) :=
  Option.bind (wires_within a1 0 (w64 (a0.Letters - 1))) fun r2 =>
  if r2 = true then
    Option.bind (wires_within a2 0 (w64 (a0.Numbers - 1))) fun r4 =>
    wires_isPress_j1 r4
  else
    wires_isPress_j1 false
/-- shellac/wires.Check$1 -/
def wires_Check_c1_j1 (v1 : Bool) : Option (Bool) :=
  some v1
def wires_Check_c1 (a0 : WirePress) (a1 : Wire) : Option (Bool) :=
  Option.bind (wires_isPress a1 a0.Letter a0.Number) fun r2 =>
  if (!r2) = true then
    wires_Check_c1_j1 true
  else
    Option.bind (wires_within a0.Got (-1) (w64 ((w64 (a1.Letters * a1.Numbers)) - 1))) fun r4 =>
    wires_Check_c1_j1 (!r4)
/-- slices.IndexFunc[[]shellac/api.WirePress,shellac/api.WirePress] -/
def slices_IndexFunc_apiWirePress_j1 {S : Type} (v1 : S) : Option (Int × S) :=
  some ((-1), v1)
def slices_IndexFunc_apiWirePress_l1_b {S : Type} (a0 : List WirePress) (aF : WirePress → S → Option (Bool × S)) (rec1 : Int → S → Option (Int × S)) (v3 : Int) (v4 : S) : Option (Int × S) :=
  if decide (v3 < (a0.length : Int)) = true then
    Option.bind (idx a0 v3) fun x6 =>
    Option.bind (aF x6 v4) fun r7 =>
    if r7.1 = true then
      some (v3, r7.2)
    else
      rec1 (w64 (v3 + 1)) r7.2
  else
    slices_IndexFunc_apiWirePress_j1 v4
def slices_IndexFunc_apiWirePress_l1 {S : Type} (a0 : List WirePress) (aF : WirePress → S → Option (Bool × S)) : Nat → Int → S → Option (Int × S)
  | 0, _, _ => none
  | m + 1, v3, v4 => slices_IndexFunc_apiWirePress_l1_b a0 aF (slices_IndexFunc_apiWirePress_l1 a0 aF m) v3 v4
def slices_IndexFunc_apiWirePress {S : Type} (n : Nat) (aF : WirePress → S → Option (Bool × S)) (a0 : List WirePress) (st : S) : Option (Int × S) :=
  slices_IndexFunc_apiWirePress_l1 a0 aF n 0 st
/-- slices.ContainsFunc[[]shellac/api.WirePress,shellac/api.WirePress] -/
def slices_ContainsFunc_apiWirePress {S : Type} (n : Nat) (aF : WirePress → S → Option (Bool × S)) (a0 : List WirePress) (st : S) : Option (Bool × S) :=
  Option.bind (slices_IndexFunc_apiWirePress n aF a0 st) fun r1 =>
  some (decide (r1.1 ≥ 0), r1.2)
/-- shellac/wires.Check -/
def wires_Check_j1 (v1 : Bool) : Option (Int) :=
  if v1 = true then
    some 110
  else
    some 0
def wires_Check (n : Nat) (a0 : Wire) : Option (Int) :=
  Option.bind (wires_within a0.Letters 1 5) fun r3 =>
  if (!r3) = true then
    wires_Check_j1 true
  else
    Option.bind (wires_within a0.Numbers 1 5) fun r5 =>
    if (!r5) = true then
      wires_Check_j1 true
    else
      Option.bind (wires_within a0.Faults 0 3) fun r7 =>
      if (!r7) = true then
        wires_Check_j1 true
      else
        if decide ((a0.Presses.length : Int) > 8) = true then
          wires_Check_j1 true
        else
          Option.bind (slices_ContainsFunc_apiWirePress n (fun (x0 : WirePress) (_ : Unit) => (wires_Check_c1 x0 a0).map fun y => (y, ())) a0.Presses ()) fun r10 =>
          wires_Check_j1 r10.1
/-- shellac/wires.open -/
def wires_open_j1 (a0 : Wire) (v1 : List WireFault) : Option ((Option Wiring_)) :=
  some (some (⟨a0, v1⟩ : Wiring_))
def wires_open_j2 (rec1 : Int → (List WireFault) → Option ((Option Wiring_))) (v3 : Int) (v6 : List WireFault) : Option ((Option Wiring_)) :=
  rec1 (w64 (v3 + 1)) v6
def wires_open_j4 (rec2 : Int → (List WireFault) → Option ((Option Wiring_))) (v10 : Int) (v13 : List WireFault) : Option ((Option Wiring_)) :=
  rec2 (w64 (v10 + 1)) v13
def wires_open_l3_b (rec2 : Int → (List WireFault) → Option ((Option Wiring_))) (x7 : Int) (v8 : Int) (v10 : Int) (rec3 : Int → (List WireFault) → Option ((Option Wiring_))) (v18 : Int) (v19 : List WireFault) : Option ((Option Wiring_)) :=
  if decide (v18 < v8) = true then
    Option.bind (app v19 ([(⟨x7, v10, v18⟩ : WireFault)] : List WireFault)) fun l21 =>
    rec3 (w64 (v18 + 1)) l21
  else
    wires_open_j4 rec2 v10 v19
def wires_open_l3 (rec2 : Int → (List WireFault) → Option ((Option Wiring_))) (x7 : Int) (v8 : Int) (v10 : Int) : Nat → Int → (List WireFault) → Option ((Option Wiring_))
  | 0, _, _ => none
  | m + 1, v18, v19 => wires_open_l3_b rec2 x7 v8 v10 (wires_open_l3 rec2 x7 v8 v10 m) v18 v19
def wires_open_j5 (n : Nat) (rec2 : Int → (List WireFault) → Option ((Option Wiring_))) (x7 : Int) (v8 : Int) (v10 : Int) (v11 : List WireFault) (v14 : Bool) : Option ((Option Wiring_)) :=
  if v14 = true then
    Option.bind (app v11 ([(⟨x7, v10, 0⟩ : WireFault)] : List WireFault)) fun l16 =>
    wires_open_j4 rec2 v10 l16
  else
    wires_open_l3 rec2 x7 v8 v10 n (w64 (v10 + 1)) v11
def wires_open_l2_b (n : Nat) (rec1 : Int → (List WireFault) → Option ((Option Wiring_))) (v3 : Int) (x7 : Int) (v8 : Int) (rec2 : Int → (List WireFault) → Option ((Option Wiring_))) (v10 : Int) (v11 : List WireFault) : Option ((Option Wiring_)) :=
  if decide (v10 < v8) = true then
    if (x7 == 1) = true then
      wires_open_j5 n rec2 x7 v8 v10 v11 true
    else
      wires_open_j5 n rec2 x7 v8 v10 v11 (x7 == 2)
  else
    wires_open_j2 rec1 v3 v11
def wires_open_l2 (n : Nat) (rec1 : Int → (List WireFault) → Option ((Option Wiring_))) (v3 : Int) (x7 : Int) (v8 : Int) : Nat → Int → (List WireFault) → Option ((Option Wiring_))
  | 0, _, _ => none
  | m + 1, v10, v11 => wires_open_l2_b n rec1 v3 x7 v8 (wires_open_l2 n rec1 v3 x7 v8 m) v10 v11
def wires_open_j3 (n : Nat) (rec1 : Int → (List WireFault) → Option ((Option Wiring_))) (v3 : Int) (v4 : List WireFault) (x7 : Int) (v8 : Int) : Option ((Option Wiring_)) :=
  wires_open_l2 n rec1 v3 x7 v8 n 0 v4
def wires_open_j6 (n : Nat) (rec1 : Int → (List WireFault) → Option ((Option Wiring_))) (a0 : Wire) (v3 : Int) (v4 : List WireFault) (x7 : Int) (v23 : Bool) : Option ((Option Wiring_)) :=
  if v23 = true then
    wires_open_j3 n rec1 v3 v4 x7 a0.Numbers
  else
    wires_open_j3 n rec1 v3 v4 x7 a0.Letters
def wires_open_l1_b (n : Nat) (a0 : Wire) (rec1 : Int → (List WireFault) → Option ((Option Wiring_))) (v3 : Int) (v4 : List WireFault) : Option ((Option Wiring_)) :=
  if decide (v3 < 4) = true then
    Option.bind (idx ([1, 2, 3, 4] : List Int) v3) fun x7 =>
    if (x7 == 2) = true then
      wires_open_j6 n rec1 a0 v3 v4 x7 true
    else
      wires_open_j6 n rec1 a0 v3 v4 x7 (x7 == 4)
  else
    wires_open_j1 a0 v4
def wires_open_l1 (n : Nat) (a0 : Wire) : Nat → Int → (List WireFault) → Option ((Option Wiring_))
  | 0, _, _ => none
  | m + 1, v3, v4 => wires_open_l1_b n a0 (wires_open_l1 n a0 m) v3 v4
def wires_open (n : Nat) (a0 : Wire) : Option ((Option Wiring_)) :=
  wires_open_l1 n a0 n 0 ([] : List WireFault)
/-- slices.IndexFunc[[]shellac/api.WireFault,shellac/api.WireFault] -/
def slices_IndexFunc_apiWireFault_j1 {S : Type} (v1 : S) : Option (Int × S) :=
  some ((-1), v1)
def slices_IndexFunc_apiWireFault_l1_b {S : Type} (a0 : List WireFault) (aF : WireFault → S → Option (Bool × S)) (rec1 : Int → S → Option (Int × S)) (v3 : Int) (v4 : S) : Option (Int × S) :=
  if decide (v3 < (a0.length : Int)) = true then
    Option.bind (idx a0 v3) fun x6 =>
    Option.bind (aF x6 v4) fun r7 =>
    if r7.1 = true then
      some (v3, r7.2)
    else
      rec1 (w64 (v3 + 1)) r7.2
  else
    slices_IndexFunc_apiWireFault_j1 v4
def slices_IndexFunc_apiWireFault_l1 {S : Type} (a0 : List WireFault) (aF : WireFault → S → Option (Bool × S)) : Nat → Int → S → Option (Int × S)
  | 0, _, _ => none
  | m + 1, v3, v4 => slices_IndexFunc_apiWireFault_l1_b a0 aF (slices_IndexFunc_apiWireFault_l1 a0 aF m) v3 v4
def slices_IndexFunc_apiWireFault {S : Type} (n : Nat) (aF : WireFault → S → Option (Bool × S)) (a0 : List WireFault) (st : S) : Option (Int × S) :=
  slices_IndexFunc_apiWireFault_l1 a0 aF n 0 st
/-- slices.ContainsFunc[[]shellac/api.WireFault,shellac/api.WireFault] -/
def slices_ContainsFunc_apiWireFault {S : Type} (n : Nat) (aF : WireFault → S → Option (Bool × S)) (a0 : List WireFault) (st : S) : Option (Bool × S) :=
  Option.bind (slices_IndexFunc_apiWireFault n aF a0 st) fun r1 =>
  some (decide (r1.1 ≥ 0), r1.2)
/-- shellac/wires.clash -/
def wires_clash_j1 (v1 : Bool) : Option (Bool) :=
  some v1
def wires_clash (a0 : WireFault) (a1 : WireFault) : Option (Bool) :=
  if (a0.Kind == a1.Kind) = true then
    if decide (a0.Kind ≥ 3) = true then
      if (a0.A == a1.A) = true then
        wires_clash_j1 true
      else
        if (a0.A == a1.B) = true then
          wires_clash_j1 true
        else
          if (a0.B == a1.A) = true then
            wires_clash_j1 true
          else
            wires_clash_j1 (a0.B == a1.B)
    else
      wires_clash_j1 false
  else
    wires_clash_j1 false
/-- (*shellac/wires.wiring).sets$1 -/
def wires_wiring_sets_c1 (a0 : WireFault) (a1 : WireFault) : Option (Bool) :=
  Option.bind (wires_clash a1 a0) fun r1 =>
  some r1
/-- (*shellac/wires.wiring).sets -/
def wires_wiring_sets_j1 {S : Type} (v4 : S) : Option (Bool × S) :=
  some (true, v4)
def wires_wiring_sets_j2 {S : Type} (rec1 : Int → S → Option (Bool × S)) (v6 : Int) (v10 : S) : Option (Bool × S) :=
  rec1 (w64 (v6 + 1)) v10
def wires_wiring_sets_l1_b {S : Type} (n : Nat) (rec : (Option Wiring_) → (List WireFault) → Int → Int → S → Option (Bool × S)) (a0 : Option Wiring_) (a1 : List WireFault) (a3 : Int) (rec1 : Int → S → Option (Bool × S)) (v6 : Int) (v7 : S) : Option (Bool × S) :=
  Option.bind (a0) fun x8 =>
  if decide (v6 < (x8.all.length : Int)) = true then
    Option.bind (a0) fun x11 =>
    Option.bind (idx x11.all v6) fun x12 =>
    Option.bind (slices_ContainsFunc_apiWireFault n (fun (x0 : WireFault) (_ : Unit) => (wires_wiring_sets_c1 x0 x12).map fun y => (y, ())) a1 ()) fun r13 =>
    if r13.1 = true then
      wires_wiring_sets_j2 rec1 v6 v7
    else
      Option.bind (cut a1 0 (a1.length : Int)) fun c15 =>
      Option.bind (app c15 ([x12] : List WireFault)) fun l16 =>
      Option.bind (rec a0 l16 (w64 (v6 + 1)) (w64 (a3 - 1)) v7) fun r17 =>
      if (!r17.1) = true then
        some (false, r17.2)
      else
        wires_wiring_sets_j2 rec1 v6 r17.2
  else
    wires_wiring_sets_j1 v7
def wires_wiring_sets_l1 {S : Type} (n : Nat) (rec : (Option Wiring_) → (List WireFault) → Int → Int → S → Option (Bool × S)) (a0 : Option Wiring_) (a1 : List WireFault) (a3 : Int) : Nat → Int → S → Option (Bool × S)
  | 0, _, _ => none
  | m + 1, v6, v7 => wires_wiring_sets_l1_b n rec a0 a1 a3 (wires_wiring_sets_l1 n rec a0 a1 a3 m) v6 v7
def wires_wiring_sets_b {S : Type} (n : Nat) (rec : (Option Wiring_) → (List WireFault) → Int → Int → S → Option (Bool × S)) (aF : (List WireFault) → S → Option (Bool × S)) (a0 : Option Wiring_) (a1 : List WireFault) (a2 : Int) (a3 : Int) (st : S) : Option (Bool × S) :=
  Option.bind (aF a1 st) fun r1 =>
  if (!r1.1) = true then
    some (false, r1.2)
  else
    if (a3 == 0) = true then
      some (true, r1.2)
    else
      wires_wiring_sets_l1 n rec a0 a1 a3 n a2 r1.2
def wires_wiring_sets {S : Type} : Nat → ((List WireFault) → S → Option (Bool × S)) → (Option Wiring_) → (List WireFault) → Int → Int → S → Option (Bool × S)
  | 0, _, _, _, _, _, _ => none
  | n + 1, aF, a0, a1, a2, a3, st => wires_wiring_sets_b n (wires_wiring_sets n aF) aF a0 a1 a2 a3 st
/-- shellac/wires.wire$1 -/
def wires_wire_c1 (xs : List Int) (off : Nat) (a1 : WireFault) : Option (List Int) :=
  if (0 ≤ a1.A ∧ a1.A < 5) ∧ (0 ≤ a1.B ∧ a1.B < 5) ∧ off + 5 ≤ xs.length then some ((xs.set (off + a1.A.toNat) a1.B).set (off + a1.B.toNat) a1.A) else none
/-- shellac/wires.wire -/
def wires_wire_j3 (v21 : Int) (v22 : Int) (v23 : Int) (v24 : Int) (v25 : Int) (v26 : Int) (v27 : Int) (v28 : Int) (v29 : Int) (v30 : Int) : Option (Panel_) :=
  some (⟨(⟨v21, v22, v23, v24, v25⟩ : Keys_), (⟨v26, v27, v28, v29, v30⟩ : Keys_)⟩ : Panel_)
def wires_wire_j4 (rec1 : Int → Int → Int → Int → Int → Int → Int → Int → Int → Int → Int → Option (Panel_)) (v32 : Int) (v44 : Int) (v45 : Int) (v46 : Int) (v47 : Int) (v48 : Int) (v49 : Int) (v50 : Int) (v51 : Int) (v52 : Int) (v53 : Int) : Option (Panel_) :=
  rec1 (w64 (v32 + 1)) v44 v45 v46 v47 v48 v49 v50 v51 v52 v53
def wires_wire_l1_b (a0 : List WireFault) (rec1 : Int → Int → Int → Int → Int → Int → Int → Int → Int → Int → Int → Option (Panel_)) (v32 : Int) (v33 : Int) (v34 : Int) (v35 : Int) (v36 : Int) (v37 : Int) (v38 : Int) (v39 : Int) (v40 : Int) (v41 : Int) (v42 : Int) : Option (Panel_) :=
  if decide (v32 < (a0.length : Int)) = true then
    Option.bind (idx a0 v32) fun x54 =>
    if (x54.Kind == 1) = true then
      Option.bind (idx ([v33, v34, v35, v36, v37] : List Int) x54.A) fun x56 =>
      Option.bind (setI ([v33, v34, v35, v36, v37] : List Int) x54.A (-1)) fun l57 =>
      wires_wire_j4 rec1 v32 (l57.getD 0 0) (l57.getD 1 0) (l57.getD 2 0) (l57.getD 3 0) (l57.getD 4 0) v38 v39 v40 v41 v42
    else
      if (x54.Kind == 2) = true then
        Option.bind (idx ([v38, v39, v40, v41, v42] : List Int) x54.A) fun x59 =>
        Option.bind (setI ([v38, v39, v40, v41, v42] : List Int) x54.A (-1)) fun l60 =>
        wires_wire_j4 rec1 v32 v33 v34 v35 v36 v37 (l60.getD 0 0) (l60.getD 1 0) (l60.getD 2 0) (l60.getD 3 0) (l60.getD 4 0)
      else
        wires_wire_j4 rec1 v32 v33 v34 v35 v36 v37 v38 v39 v40 v41 v42
  else
    wires_wire_j3 v33 v34 v35 v36 v37 v38 v39 v40 v41 v42
def wires_wire_l1 (a0 : List WireFault) : Nat → Int → Int → Int → Int → Int → Int → Int → Int → Int → Int → Int → Option (Panel_)
  | 0, _, _, _, _, _, _, _, _, _, _, _ => none
  | m + 1, v32, v33, v34, v35, v36, v37, v38, v39, v40, v41, v42 => wires_wire_l1_b a0 (wires_wire_l1 a0 m) v32 v33 v34 v35 v36 v37 v38 v39 v40 v41 v42
def wires_wire_j2 (n : Nat) (a0 : List WireFault) (v11 : Int) (v12 : Int) (v13 : Int) (v14 : Int) (v15 : Int) (v16 : Int) (v17 : Int) (v18 : Int) (v19 : Int) (v20 : Int) : Option (Panel_) :=
  wires_wire_l1 a0 n 0 v11 v12 v13 v14 v15 v16 v17 v18 v19 v20
def wires_wire_j5 (rec2 : Int → Int → Int → Int → Int → Int → Int → Int → Int → Int → Int → Option (Panel_)) (v62 : Int) (v74 : Int) (v75 : Int) (v76 : Int) (v77 : Int) (v78 : Int) (v79 : Int) (v80 : Int) (v81 : Int) (v82 : Int) (v83 : Int) : Option (Panel_) :=
  rec2 (w64 (v62 + 1)) v74 v75 v76 v77 v78 v79 v80 v81 v82 v83
def wires_wire_l2_b (n : Nat) (a0 : List WireFault) (rec2 : Int → Int → Int → Int → Int → Int → Int → Int → Int → Int → Int → Option (Panel_)) (v62 : Int) (v63 : Int) (v64 : Int) (v65 : Int) (v66 : Int) (v67 : Int) (v68 : Int) (v69 : Int) (v70 : Int) (v71 : Int) (v72 : Int) : Option (Panel_) :=
  if decide (v62 < (a0.length : Int)) = true then
    Option.bind (idx a0 v62) fun x84 =>
    if (x84.Kind == 3) = true then
      Option.bind (wires_wire_c1 ([v63, v64, v65, v66, v67, v68, v69, v70, v71, v72] : List Int) 0 x84) fun l86 =>
      wires_wire_j5 rec2 v62 (l86.getD 0 0) (l86.getD 1 0) (l86.getD 2 0) (l86.getD 3 0) (l86.getD 4 0) (l86.getD 5 0) (l86.getD 6 0) (l86.getD 7 0) (l86.getD 8 0) (l86.getD 9 0)
    else
      if (x84.Kind == 4) = true then
        Option.bind (wires_wire_c1 ([v63, v64, v65, v66, v67, v68, v69, v70, v71, v72] : List Int) 5 x84) fun l88 =>
        wires_wire_j5 rec2 v62 (l88.getD 0 0) (l88.getD 1 0) (l88.getD 2 0) (l88.getD 3 0) (l88.getD 4 0) (l88.getD 5 0) (l88.getD 6 0) (l88.getD 7 0) (l88.getD 8 0) (l88.getD 9 0)
      else
        wires_wire_j5 rec2 v62 v63 v64 v65 v66 v67 v68 v69 v70 v71 v72
  else
    wires_wire_j2 n a0 v63 v64 v65 v66 v67 v68 v69 v70 v71 v72
def wires_wire_l2 (n : Nat) (a0 : List WireFault) : Nat → Int → Int → Int → Int → Int → Int → Int → Int → Int → Int → Int → Option (Panel_)
  | 0, _, _, _, _, _, _, _, _, _, _, _ => none
  | m + 1, v62, v63, v64, v65, v66, v67, v68, v69, v70, v71, v72 => wires_wire_l2_b n a0 (wires_wire_l2 n a0 m) v62 v63 v64 v65 v66 v67 v68 v69 v70 v71 v72
def wires_wire_j1 (n : Nat) (a0 : List WireFault) (v1 : Int) (v2 : Int) (v3 : Int) (v4 : Int) (v5 : Int) (v6 : Int) (v7 : Int) (v8 : Int) (v9 : Int) (v10 : Int) : Option (Panel_) :=
  wires_wire_l2 n a0 n 0 v1 v2 v3 v4 v5 v6 v7 v8 v9 v10
def wires_wire_l3_b (n : Nat) (a0 : List WireFault) (rec3 : Int → Int → Int → Int → Int → Int → Int → Int → Int → Int → Int → Option (Panel_)) (v90 : Int) (v91 : Int) (v92 : Int) (v93 : Int) (v94 : Int) (v95 : Int) (v96 : Int) (v97 : Int) (v98 : Int) (v99 : Int) (v100 : Int) : Option (Panel_) :=
  if decide (v90 < 5) = true then
    Option.bind (idx ([v91, v92, v93, v94, v95] : List Int) v90) fun x102 =>
    Option.bind (setI ([v91, v92, v93, v94, v95] : List Int) v90 v90) fun l103 =>
    Option.bind (idx ([v96, v97, v98, v99, v100] : List Int) v90) fun x104 =>
    Option.bind (setI ([v96, v97, v98, v99, v100] : List Int) v90 v90) fun l105 =>
    rec3 (w64 (v90 + 1)) (l103.getD 0 0) (l103.getD 1 0) (l103.getD 2 0) (l103.getD 3 0) (l103.getD 4 0) (l105.getD 0 0) (l105.getD 1 0) (l105.getD 2 0) (l105.getD 3 0) (l105.getD 4 0)
  else
    wires_wire_j1 n a0 v91 v92 v93 v94 v95 v96 v97 v98 v99 v100
def wires_wire_l3 (n : Nat) (a0 : List WireFault) : Nat → Int → Int → Int → Int → Int → Int → Int → Int → Int → Int → Int → Option (Panel_)
  | 0, _, _, _, _, _, _, _, _, _, _, _ => none
  | m + 1, v90, v91, v92, v93, v94, v95, v96, v97, v98, v99, v100 => wires_wire_l3_b n a0 (wires_wire_l3 n a0 m) v90 v91 v92 v93 v94 v95 v96 v97 v98 v99 v100
def wires_wire (n : Nat) (a0 : List WireFault) : Option (Panel_) :=
  wires_wire_l3 n a0 n 0 0 0 0 0 0 0 0 0 0 0
/-- (*shellac/wires.wiring).plays -/
def wires_wiring_plays_j1 (a0 : Option Wiring_) (x1 : Int) (x2 : Int) (v3 : Bool) : Option (Int) :=
  if v3 = true then
    some (-1)
  else
    Option.bind (a0) fun x5 =>
    some (w64 ((w64 (x1 * x5.Wire.Numbers)) + x2))
def wires_wiring_plays (a0 : Option Wiring_) (a1 : Panel_) (a2 : Int) (a3 : Int) : Option (Int) :=
  Option.bind (idx ([a1.letters.c0, a1.letters.c1, a1.letters.c2, a1.letters.c3, a1.letters.c4] : List Int) a2) fun x1 =>
  Option.bind (idx ([a1.numbers.c0, a1.numbers.c1, a1.numbers.c2, a1.numbers.c3, a1.numbers.c4] : List Int) a3) fun x2 =>
  if decide (x1 < 0) = true then
    wires_wiring_plays_j1 a0 x1 x2 true
  else
    wires_wiring_plays_j1 a0 x1 x2 (decide (x2 < 0))
/-- (*shellac/wires.wiring).explains$1 -/
def wires_wiring_explains_c1 (a0 : WirePress) (a1 : Option Wiring_) (a2 : Panel_) : Option (Bool) :=
  Option.bind (wires_wiring_plays a1 a2 a0.Letter a0.Number) fun r1 =>
  some (r1 != a0.Got)
/-- (*shellac/wires.wiring).explains -/
def wires_wiring_explains (n : Nat) (a0 : Option Wiring_) (a1 : List WireFault) (a2 : List WirePress) : Option (Bool) :=
  Option.bind (wires_wire n a1) fun r1 =>
  Option.bind (slices_ContainsFunc_apiWirePress n (fun (x0 : WirePress) (_ : Unit) => (wires_wiring_explains_c1 x0 a0 r1).map fun y => (y, ())) a2 ()) fun r2 =>
  some (!r2.1)
/-- (*shellac/wires.wiring).explained$1$1 -/
def wires_wiring_explained_c1_c1_j1 {S : Type} (v1 : Bool) (v2 : S) : Option (Bool × S) :=
  some (v1, v2)
def wires_wiring_explained_c1_c1 {S : Type} (n : Nat) (aF : (List WireFault) → S → Option (Bool × S)) (a0 : List WireFault) (a1 : Option Wiring_) (a2 : List WirePress) (st : S) : Option (Bool × S) :=
  Option.bind (wires_wiring_explains n a1 a0 a2) fun r3 =>
  if (!r3) = true then
    wires_wiring_explained_c1_c1_j1 true st
  else
    Option.bind (aF a0 st) fun r5 =>
    wires_wiring_explained_c1_c1_j1 r5.1 r5.2
/-- (*shellac/wires.wiring).explained$1 -/
def wires_wiring_explained_c1 {S : Type} (n : Nat) (aF : (List WireFault) → S → Option (Bool × S)) (a1 : Option Wiring_) (a2 : Int) (a3 : List WirePress) (st : S) : Option (Unit × S) :=
  Option.bind (wires_wiring_sets n (fun (x0 : List WireFault) s => wires_wiring_explained_c1_c1 n aF x0 a1 a3 s) a1 ([] : List WireFault) 0 a2 st) fun r1 =>
  some ((), r1.2)
/-- (*shellac/wires.wiring).explained -/
def wires_wiring_explained (n : Nat) (a0 : Option Wiring_) (a1 : List WirePress) (a2 : Int) : Option (((Option Wiring_) × Int × (List WirePress))) :=
  some (a0, a2, a1)
/-- (*shellac/wires.wiring).truths -/
def wires_wiring_truths {S : Type} (n : Nat) (aF : (List WireFault) → S → Option (Bool × S)) (a0 : Option Wiring_) (st : S) : Option (Unit × S) :=
  Option.bind (a0) fun x1 =>
  Option.bind (a0) fun x2 =>
  Option.bind (wires_wiring_explained n a0 x1.Wire.Presses x2.Wire.Faults) fun r3 =>
  Option.bind (wires_wiring_explained_c1 n aF r3.1 r3.2.1 r3.2.2 st) fun r4 =>
  some ((), r4.2)
/-- shellac/wires.ask -/
def wires_ask_r1 (r4 : (Option Wiring_)) (y1 : List WireFault) (s : (Option Wiring_) × Bool) : Option (Bool × ((Option Wiring_) × Bool)) :=
  if s.2 = true then
    none
  else
    some (false, (r4, true))
def wires_ask (n : Nat) (a0 : Wire) (a1 : Bool) : Option ((Option Wiring_) × Int) :=
  Option.bind (wires_Check n a0) fun r1 =>
  if (r1 != 0) = true then
    some ((none : Option Wiring_), r1)
  else
    if (!a1) = true then
      some ((none : Option Wiring_), 1)
    else
      Option.bind (wires_open n a0) fun r4 =>
      Option.bind (wires_wiring_truths n (wires_ask_r1 r4) r4 ((none : Option Wiring_), false)) fun r6 =>
      if r6.2.2 = true then
        some (r6.2.1, 0)
      else
        some ((none : Option Wiring_), 3)
/-- (*shellac/wires.wiring).many -/
def wires_wiring_many_r1 (y1 : List WireFault) (s : Int) : Option (Bool × (Int)) :=
  some (true, (w64 (s + 1)))
def wires_wiring_many (n : Nat) (a0 : Option Wiring_) : Option (Int) :=
  Option.bind (wires_wiring_truths n (wires_wiring_many_r1) a0 0) fun r2 =>
  some r2.2
/-- shellac/wires.Many -/
def wires_Many (n : Nat) (a0 : Wire) : Option (Int × Int) :=
  Option.bind (wires_ask n a0 true) fun r1 =>
  if (r1.2 != 0) = true then
    some (0, r1.2)
  else
    Option.bind (wires_wiring_many n r1.1) fun r3 =>
    some (r3, 0)
/-- shellac/wires.faults -/
def wires_faults_l2_b (y1 : List WireFault) (rec2 : Int → (List (WireFault × Int)) → Option (Bool × ((List (WireFault × Int))))) (v5 : Int) (v6 : List (WireFault × Int)) : Option (Bool × ((List (WireFault × Int)))) :=
  if decide (v5 < (y1.length : Int)) = true then
    Option.bind (idx y1 v5) fun x8 =>
    Option.bind (mlook okWireFault v6 x8) fun x9 =>
    Option.bind (mlook okWireFault v6 x8) fun x10 =>
    rec2 (w64 (v5 + 1)) (mset v6 x8 (w64 (x9 + 1)))
  else
    some (true, v6)
def wires_faults_l2 (y1 : List WireFault) : Nat → Int → (List (WireFault × Int)) → Option (Bool × ((List (WireFault × Int))))
  | 0, _, _ => none
  | m + 1, v5, v6 => wires_faults_l2_b y1 (wires_faults_l2 y1 m) v5 v6
def wires_faults_r1 (n : Nat) (y1 : List WireFault) (s : (List (WireFault × Int))) : Option (Bool × ((List (WireFault × Int)))) :=
  wires_faults_l2 y1 n 0 s
def wires_faults_j1 {S : Type} (v12 : List WireFault) (v13 : S) : Option (((List WireFault) × Int) × S) :=
  some ((v12, 0), v13)
def wires_faults_j2 {S : Type} (rec3 : (List WireFault) → Int → S → Option (((List WireFault) × Int) × S)) (v18 : Int) (v21 : List WireFault) (v22 : S) : Option (((List WireFault) × Int) × S) :=
  rec3 v21 (w64 (v18 + 1)) v22
def wires_faults_l3_b {S : Type} (n : Nat) (aF : Int → Int → S → Option (Bool × S)) (r1 : (Option Wiring_) × Int) (r11 : Unit × ((List (WireFault × Int)))) (x14 : Wiring_) (rec3 : (List WireFault) → Int → S → Option (((List WireFault) × Int) × S)) (v17 : List WireFault) (v18 : Int) (v19 : S) : Option (((List WireFault) × Int) × S) :=
  if decide (v18 < (x14.all.length : Int)) = true then
    Option.bind (idx x14.all v18) fun x23 =>
    Option.bind (mlook okWireFault r11.2 x23) fun x24 =>
    Option.bind (wires_wiring_many n r1.1) fun r25 =>
    Option.bind (aF x24 r25 v19) fun r26 =>
    if r26.1 = true then
      Option.bind (app v17 ([x23] : List WireFault)) fun l28 =>
      wires_faults_j2 rec3 v18 l28 r26.2
    else
      wires_faults_j2 rec3 v18 v17 r26.2
  else
    wires_faults_j1 v17 v19
def wires_faults_l3 {S : Type} (n : Nat) (aF : Int → Int → S → Option (Bool × S)) (r1 : (Option Wiring_) × Int) (r11 : Unit × ((List (WireFault × Int)))) (x14 : Wiring_) : Nat → (List WireFault) → Int → S → Option (((List WireFault) × Int) × S)
  | 0, _, _, _ => none
  | m + 1, v17, v18, v19 => wires_faults_l3_b n aF r1 r11 x14 (wires_faults_l3 n aF r1 r11 x14 m) v17 v18 v19
def wires_faults {S : Type} (n : Nat) (aF : Int → Int → S → Option (Bool × S)) (a0 : Wire) (st : S) : Option (((List WireFault) × Int) × S) :=
  Option.bind (wires_ask n a0 true) fun r1 =>
  if (r1.2 != 0) = true then
    some ((([] : List WireFault), r1.2), st)
  else
    Option.bind (wires_wiring_truths n (wires_faults_r1 n) r1.1 ([] : List (WireFault × Int))) fun r11 =>
    Option.bind (r1.1) fun x14 =>
    wires_faults_l3 n aF r1 r11 x14 n ([] : List WireFault) 0 st
/-- shellac/wires.Sure$1 -/
def wires_Sure_c1 (a0 : Int) (a1 : Int) : Option (Bool) :=
  some (a0 == a1)
/-- shellac/wires.Sure -/
def wires_Sure (n : Nat) (a0 : Wire) : Option ((List WireFault) × Int) :=
  Option.bind (wires_faults n (fun (x0 : Int) (x1 : Int) (_ : Unit) => (wires_Sure_c1 x0 x1).map fun y => (y, ())) a0 ()) fun r1 =>
  some (r1.1.1, r1.1.2)
/-- shellac/shellaclaw11.SameFaults -/
def law11_SameFaults_j1 : Option (Bool) :=
  some true
def law11_SameFaults_l1_b (a0 : List WireFault) (a1 : List WireFault) (rec1 : Int → Option (Bool)) (v2 : Int) : Option (Bool) :=
  if decide (v2 < (a0.length : Int)) = true then
    Option.bind (idx a0 v2) fun x4 =>
    Option.bind (idx a1 v2) fun x5 =>
    if (!((x4.Kind == x5.Kind) && ((x4.A == x5.A) && ((x4.B == x5.B) && true)))) = true then
      some false
    else
      rec1 (w64 (v2 + 1))
  else
    law11_SameFaults_j1
def law11_SameFaults_l1 (a0 : List WireFault) (a1 : List WireFault) : Nat → Int → Option (Bool)
  | 0, _ => none
  | m + 1, v2 => law11_SameFaults_l1_b a0 a1 (law11_SameFaults_l1 a0 a1 m) v2
def law11_SameFaults (n : Nat) (a0 : List WireFault) (a1 : List WireFault) : Option (Bool) :=
  if ((a0.length : Int) != (a1.length : Int)) = true then
    some false
  else
    law11_SameFaults_l1 a0 a1 n 0
/-- (*shellac/wires.wiring).shows -/
def wires_wiring_shows_r1 (n : Nat) (a0 : Option Wiring_) (a1 : Int) (a2 : Int) (y1 : List WireFault) (s : (List (Int × Int))) : Option (Bool × ((List (Int × Int)))) :=
  Option.bind (wires_wire n y1) fun r2 =>
  Option.bind (wires_wiring_plays a0 r2 a1 a2) fun r3 =>
  Option.bind (mlook okI s r3) fun x4 =>
  Option.bind (mstore okI s r3 (w64 (x4 + 1))) fun l5 =>
  some (true, l5)
def wires_wiring_shows (n : Nat) (a0 : Option Wiring_) (a1 : Int) (a2 : Int) : Option ((List (Int × Int))) :=
  Option.bind (wires_wiring_truths n (wires_wiring_shows_r1 n a0 a1 a2) a0 ([] : List (Int × Int))) fun r6 =>
  some r6.2
/-- cmp.isNaN[int] -/
def cmp_isNaN_int (a0 : Int) : Option (Bool) :=
  some (a0 != a0)
/-- shellac/wires.Shows -/
def wires_Shows (n : Nat) (a0 : Wire) (a1 : Int) (a2 : Int) : Option (List Int × Int) :=
  Option.bind (wires_isPress a0 a1 a2) fun r1 =>
  Option.bind (wires_ask n a0 r1) fun r2 =>
  if (r2.2 != 0) = true then
    some (([] : List Int), r2.2)
  else
    Option.bind (wires_wiring_shows n r2.1 a1 a2) fun r4 =>
    if decide (r4.length ≤ 1048576) = true then
      some (isort (r4.map fun p => p.1), 0)
    else
      none
/-- (shellac/wires.wiring).left -/
def wires_wiring_left (n : Nat) (a0 : Option Wiring_) (a1 : Int) (a2 : Int) : Option (Int) :=
  Option.bind (wires_wiring_shows n a0 a1 a2) fun m =>
  some (m.foldl (fun b p => max b p.2) 0)
/-- shellac/wires.Next -/
def wires_Next_j1 (v4 : Int) (v5 : Int) (v6 : Int) : Option (Int × Int × Int) :=
  some (v4, v5, v6)
def wires_Next_j2 (rec1 : Int → Int → Int → Int → Int → Option (Int × Int × Int)) (v11 : Int) (v13 : Int) (v14 : Int) (v15 : Int) (v16 : Int) : Option (Int × Int × Int) :=
  rec1 v13 v14 v15 v16 (w64 (v11 + 1))
def wires_Next_j3 (rec2 : Int → Int → Int → Int → Int → Option (Int × Int × Int)) (v21 : Int) (v23 : Int) (v24 : Int) (v25 : Int) (v26 : Int) : Option (Int × Int × Int) :=
  rec2 v23 v24 v25 v26 (w64 (v21 + 1))
def wires_Next_l2_b (n : Nat) (rec1 : Int → Int → Int → Int → Int → Option (Int × Int × Int)) (a0 : Wire) (r1 : (Option Wiring_) × Int) (v11 : Int) (rec2 : Int → Int → Int → Int → Int → Option (Int × Int × Int)) (v17 : Int) (v18 : Int) (v19 : Int) (v20 : Int) (v21 : Int) : Option (Int × Int × Int) :=
  if decide (v21 < a0.Numbers) = true then
    Option.bind (wires_wiring_left n r1.1 v11 v21) fun r27 =>
    if decide (r27 < v20) = true then
      wires_Next_j3 rec2 v21 v11 v21 0 r27
    else
      wires_Next_j3 rec2 v21 v17 v18 v19 v20
  else
    wires_Next_j2 rec1 v11 v17 v18 v19 v20
def wires_Next_l2 (n : Nat) (rec1 : Int → Int → Int → Int → Int → Option (Int × Int × Int)) (a0 : Wire) (r1 : (Option Wiring_) × Int) (v11 : Int) : Nat → Int → Int → Int → Int → Int → Option (Int × Int × Int)
  | 0, _, _, _, _, _ => none
  | m + 1, v17, v18, v19, v20, v21 => wires_Next_l2_b n rec1 a0 r1 v11 (wires_Next_l2 n rec1 a0 r1 v11 m) v17 v18 v19 v20 v21
def wires_Next_l1_b (n : Nat) (a0 : Wire) (r1 : (Option Wiring_) × Int) (rec1 : Int → Int → Int → Int → Int → Option (Int × Int × Int)) (v7 : Int) (v8 : Int) (v9 : Int) (v10 : Int) (v11 : Int) : Option (Int × Int × Int) :=
  if decide (v11 < a0.Letters) = true then
    wires_Next_l2 n rec1 a0 r1 v11 n v7 v8 v9 v10 0
  else
    wires_Next_j1 v7 v8 v9
def wires_Next_l1 (n : Nat) (a0 : Wire) (r1 : (Option Wiring_) × Int) : Nat → Int → Int → Int → Int → Int → Option (Int × Int × Int)
  | 0, _, _, _, _, _ => none
  | m + 1, v7, v8, v9, v10, v11 => wires_Next_l1_b n a0 r1 (wires_Next_l1 n a0 r1 m) v7 v8 v9 v10 v11
def wires_Next (n : Nat) (a0 : Wire) : Option (Int × Int × Int) :=
  Option.bind (wires_ask n a0 true) fun r1 =>
  if (r1.2 != 0) = true then
    some (0, 0, r1.2)
  else
    Option.bind (wires_wiring_many n r1.1) fun r3 =>
    wires_Next_l1 n a0 r1 n 0 0 3 r3 0
/-- shellac/shellacref01.SameInts -/
def ref01_SameInts_j1 : Option (Bool) :=
  some true
def ref01_SameInts_l1_b (a0 : List Int) (a1 : List Int) (rec1 : Int → Option (Bool)) (v2 : Int) : Option (Bool) :=
  if decide (v2 < (a0.length : Int)) = true then
    Option.bind (idx a0 v2) fun x4 =>
    Option.bind (idx a1 v2) fun x5 =>
    if (x4 != x5) = true then
      some false
    else
      rec1 (w64 (v2 + 1))
  else
    ref01_SameInts_j1
def ref01_SameInts_l1 (a0 : List Int) (a1 : List Int) : Nat → Int → Option (Bool)
  | 0, _ => none
  | m + 1, v2 => ref01_SameInts_l1_b a0 a1 (ref01_SameInts_l1 a0 a1 m) v2
def ref01_SameInts (n : Nat) (a0 : List Int) (a1 : List Int) : Option (Bool) :=
  if ((a0.length : Int) != (a1.length : Int)) = true then
    some false
  else
    ref01_SameInts_l1 a0 a1 n 0
/-- slices.Index[[]shellac/api.WireFault,shellac/api.WireFault] -/
def slices_Index_apiWireFault_j1 : Option (Int) :=
  some (-1)
def slices_Index_apiWireFault_l1_b (a0 : List WireFault) (a1 : WireFault) (rec1 : Int → Option (Int)) (v1 : Int) : Option (Int) :=
  if decide (v1 < (a0.length : Int)) = true then
    Option.bind (idx a0 v1) fun x3 =>
    if ((a1.Kind == x3.Kind) && ((a1.A == x3.A) && ((a1.B == x3.B) && true))) = true then
      some v1
    else
      rec1 (w64 (v1 + 1))
  else
    slices_Index_apiWireFault_j1
def slices_Index_apiWireFault_l1 (a0 : List WireFault) (a1 : WireFault) : Nat → Int → Option (Int)
  | 0, _ => none
  | m + 1, v1 => slices_Index_apiWireFault_l1_b a0 a1 (slices_Index_apiWireFault_l1 a0 a1 m) v1
def slices_Index_apiWireFault (n : Nat) (a0 : List WireFault) (a1 : WireFault) : Option (Int) :=
  slices_Index_apiWireFault_l1 a0 a1 n 0
/-- slices.Contains[[]shellac/api.WireFault,shellac/api.WireFault] -/
def slices_Contains_apiWireFault (n : Nat) (a0 : List WireFault) (a1 : WireFault) : Option (Bool) :=
  Option.bind (slices_Index_apiWireFault n a0 a1) fun r1 =>
  some (decide (r1 ≥ 0))
/-- cmp.Or[int] -/
def cmp_Or_int_j1 : Option (Int) :=
  some 0
def cmp_Or_int_l1_b (a0 : List Int) (rec1 : Int → Option (Int)) (v1 : Int) : Option (Int) :=
  if decide (v1 < (a0.length : Int)) = true then
    Option.bind (idx a0 v1) fun x3 =>
    if (x3 != 0) = true then
      some x3
    else
      rec1 (w64 (v1 + 1))
  else
    cmp_Or_int_j1
def cmp_Or_int_l1 (a0 : List Int) : Nat → Int → Option (Int)
  | 0, _ => none
  | m + 1, v1 => cmp_Or_int_l1_b a0 (cmp_Or_int_l1 a0 m) v1
def cmp_Or_int (n : Nat) (a0 : List Int) : Option (Int) :=
  cmp_Or_int_l1 a0 n 0
/-- cmp.Compare[int] -/
def cmp_Compare_int (a0 : Int) (a1 : Int) : Option (Int) :=
  Option.bind (cmp_isNaN_int a0) fun r1 =>
  Option.bind (cmp_isNaN_int a1) fun r2 =>
  if r1 = true then
    if r2 = true then
      some 0
    else
      some (-1)
  else
    if r2 = true then
      some 1
    else
      if decide (a0 < a1) = true then
        some (-1)
      else
        if decide (a0 > a1) = true then
          some 1
        else
          some 0
/-- shellac/wires.order -/
def wires_order (n : Nat) (a0 : WireFault) (a1 : WireFault) : Option (Int) :=
  Option.bind (cmp_Compare_int a0.Kind a1.Kind) fun r1 =>
  Option.bind (cmp_Compare_int a0.A a1.A) fun r2 =>
  Option.bind (cmp_Compare_int a0.B a1.B) fun r3 =>
  Option.bind (cmp_Or_int n ([r1, r2, r3] : List Int)) fun r4 =>
  some r4
/-- (*shellac/wires.wiring).isSet$1 -/
def wires_wiring_isSet_c1 (a0 : WireFault) (a1 : WireFault) : Option (Bool) :=
  Option.bind (wires_clash a1 a0) fun r1 =>
  some r1
/-- (*shellac/wires.wiring).isSet -/
def wires_wiring_isSet_j1 : Option (Bool) :=
  some true
def wires_wiring_isSet_j2 (rec1 : Int → Option (Bool)) (v1 : Int) (v4 : Bool) : Option (Bool) :=
  if v4 = true then
    some false
  else
    rec1 (w64 (v1 + 1))
def wires_wiring_isSet_l1_b (n : Nat) (a0 : Option Wiring_) (a1 : List WireFault) (rec1 : Int → Option (Bool)) (v1 : Int) : Option (Bool) :=
  if decide (v1 < (a1.length : Int)) = true then
    Option.bind (idx a1 v1) fun x3 =>
    Option.bind (a0) fun x6 =>
    Option.bind (slices_Contains_apiWireFault n x6.all x3) fun r7 =>
    if (!r7) = true then
      wires_wiring_isSet_j2 rec1 v1 true
    else
      if decide (v1 > 0) = true then
        Option.bind (idx a1 (w64 (v1 - 1))) fun x10 =>
        Option.bind (wires_order n x10 x3) fun r11 =>
        if decide (r11 ≥ 0) = true then
          wires_wiring_isSet_j2 rec1 v1 true
        else
          Option.bind (cut a1 0 v1) fun c13 =>
          Option.bind (slices_ContainsFunc_apiWireFault n (fun (x0 : WireFault) (_ : Unit) => (wires_wiring_isSet_c1 x0 x3).map fun y => (y, ())) c13 ()) fun r14 =>
          wires_wiring_isSet_j2 rec1 v1 r14.1
      else
        Option.bind (cut a1 0 v1) fun c15 =>
        Option.bind (slices_ContainsFunc_apiWireFault n (fun (x0 : WireFault) (_ : Unit) => (wires_wiring_isSet_c1 x0 x3).map fun y => (y, ())) c15 ()) fun r16 =>
        wires_wiring_isSet_j2 rec1 v1 r16.1
  else
    wires_wiring_isSet_j1
def wires_wiring_isSet_l1 (n : Nat) (a0 : Option Wiring_) (a1 : List WireFault) : Nat → Int → Option (Bool)
  | 0, _ => none
  | m + 1, v1 => wires_wiring_isSet_l1_b n a0 a1 (wires_wiring_isSet_l1 n a0 a1 m) v1
def wires_wiring_isSet (n : Nat) (a0 : Option Wiring_) (a1 : List WireFault) : Option (Bool) :=
  wires_wiring_isSet_l1 n a0 a1 n 0
/-- shellac/wires.Plays -/
def wires_Plays_j1 (n : Nat) (a1 : List WireFault) (a2 : Int) (a3 : Int) (r3 : (Option Wiring_)) (v4 : Bool) : Option (Int × Int) :=
  if v4 = true then
    some (0, 1)
  else
    Option.bind (wires_wire n a1) fun r6 =>
    Option.bind (wires_wiring_plays r3 r6 a2 a3) fun r7 =>
    some (r7, 0)
def wires_Plays (n : Nat) (a0 : Wire) (a1 : List WireFault) (a2 : Int) (a3 : Int) : Option (Int × Int) :=
  Option.bind (wires_Check n a0) fun r1 =>
  if (r1 != 0) = true then
    some (0, r1)
  else
    Option.bind (wires_open n a0) fun r3 =>
    Option.bind (wires_wiring_isSet n r3 a1) fun r8 =>
    if (!r8) = true then
      wires_Plays_j1 n a1 a2 a3 r3 true
    else
      Option.bind (wires_isPress a0 a2 a3) fun r10 =>
      wires_Plays_j1 n a1 a2 a3 r3 (!r10)
/-- shellac/shellaclaw11.Example -/
def law11_Example : Option (Wire) :=
  some (⟨2, 3, ([(⟨0, 0, 3⟩ : WirePress), (⟨1, 1, (-1)⟩ : WirePress)] : List WirePress), 2⟩ : Wire)
/-- shellac/shellaclaw11.works -/
def law11_works_j1 (v7 : Bool) : Option (Bool) :=
  some v7
def law11_works (n : Nat) : Option (Bool) :=
  Option.bind (law11_Example) fun r1 =>
  Option.bind (wires_Many n r1) fun r2 =>
  Option.bind (wires_Sure n r1) fun r3 =>
  Option.bind (wires_Shows n r1 0 1) fun r4 =>
  Option.bind (wires_Next n r1) fun r5 =>
  Option.bind (wires_Plays n r1 ([] : List WireFault) 1 2) fun r6 =>
  if (r2.2 == 0) = true then
    if (r3.2 == 0) = true then
      if (r4.2 == 0) = true then
        if (r5.2.2 == 0) = true then
          if (r6.2 == 0) = true then
            if (r2.1 == 2) = true then
              Option.bind (law11_SameFaults n r3.1 ([(⟨3, 0, 1⟩ : WireFault)] : List WireFault)) fun r14 =>
              if r14 = true then
                Option.bind (ref01_SameInts n r4.1 ([(-1), 4] : List Int)) fun r16 =>
                if r16 = true then
                  if (r5.1 == 0) = true then
                    if (r5.2.1 == 1) = true then
                      law11_works_j1 (r6.1 == 5)
                    else
                      law11_works_j1 false
                  else
                    law11_works_j1 false
                else
                  law11_works_j1 false
              else
                law11_works_j1 false
            else
              law11_works_j1 false
          else
            law11_works_j1 false
        else
          law11_works_j1 false
      else
        law11_works_j1 false
    else
      law11_works_j1 false
  else
    law11_works_j1 false
/-- shellac/shellacref11.Copy -/
def ref11_Copy (a0 : Wire) : Option (Wire) :=
  Option.bind (appB 24 ([] : List WirePress) a0.Presses) fun l1 =>
  some (⟨a0.Letters, a0.Numbers, l1, a0.Faults⟩ : Wire)
/-- shellac/shellacref11.place -/
def ref11_place_j1 : Option (Int) :=
  some (-1)
def ref11_place_l1_b (a0 : List WireFault) (a1 : WireFault) (rec1 : Int → Option (Int)) (v1 : Int) : Option (Int) :=
  if decide (v1 < (a0.length : Int)) = true then
    Option.bind (idx a0 v1) fun x3 =>
    if ((x3.Kind == a1.Kind) && ((x3.A == a1.A) && ((x3.B == a1.B) && true))) = true then
      some v1
    else
      rec1 (w64 (v1 + 1))
  else
    ref11_place_j1
def ref11_place_l1 (a0 : List WireFault) (a1 : WireFault) : Nat → Int → Option (Int)
  | 0, _ => none
  | m + 1, v1 => ref11_place_l1_b a0 a1 (ref11_place_l1 a0 a1 m) v1
def ref11_place (n : Nat) (a0 : List WireFault) (a1 : WireFault) : Option (Int) :=
  ref11_place_l1 a0 a1 n 0
/-- shellac/shellacref11.Has -/
def ref11_Has (n : Nat) (a0 : List WireFault) (a1 : WireFault) : Option (Bool) :=
  Option.bind (ref11_place n a0 a1) fun r1 =>
  some (decide (r1 ≥ 0))
/-- shellac/wires.Maybe$1 -/
def wires_Maybe_c1 (a0 : Int) (a1 : Int) : Option (Bool) :=
  some (decide (a0 > 0))
/-- shellac/wires.Maybe -/
def wires_Maybe (n : Nat) (a0 : Wire) : Option ((List WireFault) × Int) :=
  Option.bind (wires_faults n (fun (x0 : Int) (x1 : Int) (_ : Unit) => (wires_Maybe_c1 x0 x1).map fun y => (y, ())) a0 ()) fun r1 =>
  some (r1.1.1, r1.1.2)
/-- shellac/shellaclaw11.ready -/
def law11_ready_j1 (v1 : Bool) : Option (Bool) :=
  some v1
def law11_ready (n : Nat) (a0 : Wire) : Option (Bool) :=
  Option.bind (law11_Far n a0) fun r2 =>
  if (!r2) = true then
    Option.bind (ref11_Check n a0) fun r4 =>
    law11_ready_j1 (r4 == 0)
  else
    law11_ready_j1 false
/-- shellac/shellaclaw11.isKnown -/
def law11_isKnown_j1 (v1 : Bool) : Option (Bool) :=
  some v1
def law11_isKnown (a0 : Int) : Option (Bool) :=
  if (a0 == 0) = true then
    law11_isKnown_j1 true
  else
    law11_isKnown_j1 (a0 == 3)
/-- shellac/shellaclaw11.areIn -/
def law11_areIn_j2 : Option (Bool) :=
  some true
def law11_areIn_l1_b (n : Nat) (a0 : List WireFault) (a1 : List WireFault) (rec1 : Int → Option (Bool)) (v3 : Int) : Option (Bool) :=
  if decide (v3 < (a0.length : Int)) = true then
    Option.bind (idx a0 v3) fun x5 =>
    Option.bind (ref11_Has n a1 x5) fun r6 =>
    if (!r6) = true then
      some false
    else
      rec1 (w64 (v3 + 1))
  else
    law11_areIn_j2
def law11_areIn_l1 (n : Nat) (a0 : List WireFault) (a1 : List WireFault) : Nat → Int → Option (Bool)
  | 0, _ => none
  | m + 1, v3 => law11_areIn_l1_b n a0 a1 (law11_areIn_l1 n a0 a1 m) v3
def law11_areIn_j1 (n : Nat) (a0 : List WireFault) (a1 : List WireFault) (v1 : Bool) : Option (Bool) :=
  if v1 = true then
    some false
  else
    law11_areIn_l1 n a0 a1 n 0
def law11_areIn (n : Nat) (a0 : List WireFault) (a1 : List WireFault) : Option (Bool) :=
  if decide ((a0.length : Int) > 40) = true then
    law11_areIn_j1 n a0 a1 true
  else
    law11_areIn_j1 n a0 a1 (decide ((a1.length : Int) > 40))
/-- shellac/shellaclaw11.WiresMore -/
def law11_WiresMore_j3 (v13 : Bool) : Option (Bool) :=
  some v13
def law11_WiresMore_j2 (n : Nat) (r5 : Int × Int) (r6 : Int × Int) (r7 : (List WireFault) × Int) (r8 : (List WireFault) × Int) (r9 : (List WireFault) × Int) (r10 : (List WireFault) × Int) (v11 : Bool) : Option (Bool) :=
  if v11 = true then
    some false
  else
    if (r5.2 != 0) = true then
      Option.bind (law11_works n) fun r15 =>
      law11_WiresMore_j3 r15
    else
      if (r6.2 == 0) = true then
        if decide (r6.1 ≥ r5.1) = true then
          Option.bind (law11_areIn n r8.1 r7.1) fun r18 =>
          if r18 = true then
            Option.bind (law11_areIn n r9.1 r10.1) fun r20 =>
            if r20 = true then
              Option.bind (law11_works n) fun r22 =>
              law11_WiresMore_j3 r22
            else
              law11_WiresMore_j3 false
          else
            law11_WiresMore_j3 false
        else
          law11_WiresMore_j3 false
      else
        law11_WiresMore_j3 false
def law11_WiresMore_j1 (n : Nat) (a0 : Wire) (r1 : Wire) (v2 : Bool) : Option (Bool) :=
  if v2 = true then
    Option.bind (law11_works n) fun r4 =>
    some r4
  else
    Option.bind (wires_Many n a0) fun r5 =>
    Option.bind (wires_Many n (⟨r1.Letters, r1.Numbers, r1.Presses, w64 (r1.Faults + 1)⟩ : Wire)) fun r6 =>
    Option.bind (wires_Sure n a0) fun r7 =>
    Option.bind (wires_Sure n (⟨r1.Letters, r1.Numbers, r1.Presses, w64 (r1.Faults + 1)⟩ : Wire)) fun r8 =>
    Option.bind (wires_Maybe n a0) fun r9 =>
    Option.bind (wires_Maybe n (⟨r1.Letters, r1.Numbers, r1.Presses, w64 (r1.Faults + 1)⟩ : Wire)) fun r10 =>
    Option.bind (law11_isKnown r5.2) fun r23 =>
    if (!r23) = true then
      law11_WiresMore_j2 n r5 r6 r7 r8 r9 r10 true
    else
      Option.bind (law11_isKnown r6.2) fun r25 =>
      if (!r25) = true then
        law11_WiresMore_j2 n r5 r6 r7 r8 r9 r10 true
      else
        if (r7.2 != r5.2) = true then
          law11_WiresMore_j2 n r5 r6 r7 r8 r9 r10 true
        else
          if (r9.2 != r5.2) = true then
            law11_WiresMore_j2 n r5 r6 r7 r8 r9 r10 true
          else
            if (r8.2 != r6.2) = true then
              law11_WiresMore_j2 n r5 r6 r7 r8 r9 r10 true
            else
              law11_WiresMore_j2 n r5 r6 r7 r8 r9 r10 (r10.2 != r6.2)
def law11_WiresMore (n : Nat) (a0 : Wire) : Option (Bool) :=
  Option.bind (ref11_Copy a0) fun r1 =>
  Option.bind (law11_ready n a0) fun r30 =>
  if (!r30) = true then
    law11_WiresMore_j1 n a0 r1 true
  else
    Option.bind (law11_ready n (⟨r1.Letters, r1.Numbers, r1.Presses, w64 (r1.Faults + 1)⟩ : Wire)) fun r32 =>
    law11_WiresMore_j1 n a0 r1 (!r32)
end Go.Law
