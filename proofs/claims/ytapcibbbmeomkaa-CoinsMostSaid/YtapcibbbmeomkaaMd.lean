/-
  What the functions compute (printed by gen.py).
  Conditions: none.
-/
import Derived.Test.YtapcibbbmeomkaaAmN
set_option linter.all false
namespace Go.Law
open Go Go.AM
set_option linter.unusedVariables false
structure Wheel where
  Round : Int
  Notches : List Int
  Coins : List Int
  deriving DecidableEq, Inhabited, Repr
abbrev Wheel.cells (x : Wheel) : List AV := [.v (.int .i64 x.Round), .sl .no 1 (x.Notches.map cI), .sl .no 1 (x.Coins.map cI)]
structure Wheel_ where
  Wheel : Wheel
  deriving DecidableEq, Inhabited, Repr
abbrev Wheel_.cells (x : Wheel_) : List AV := [.v (.int .i64 x.Wheel.Round), .sl .no 1 (x.Wheel.Notches.map cI), .sl .no 1 (x.Wheel.Coins.map cI)]
structure Stand where
  Place : Int
  Credit : Int
  deriving DecidableEq, Inhabited, Repr
abbrev Stand.cells (x : Stand) : List AV := [.v (.int .i64 x.Place), .v (.int .i64 x.Credit)]
structure Point_ where
  Stand : Stand
  bought : Int
  deriving DecidableEq, Inhabited, Repr
abbrev Point_.cells (x : Point_) : List AV := [.v (.int .i64 x.Stand.Place), .v (.int .i64 x.Stand.Credit), .v (.int .i64 x.bought)]
structure Bag_ where
  c0 : Int
  c1 : Int
  c2 : Int
  c3 : Int
  deriving DecidableEq, Inhabited, Repr
abbrev Bag_.cells (x : Bag_) : List AV := [.v (.int .i64 x.c0), .v (.int .i64 x.c1), .v (.int .i64 x.c2), .v (.int .i64 x.c3)]
structure Spot_ where
  left : Bag_
  place : Int
  credit : Int
  deriving DecidableEq, Inhabited, Repr
abbrev Spot_.cells (x : Spot_) : List AV := [.v (.int .i64 x.left.c0), .v (.int .i64 x.left.c1), .v (.int .i64 x.left.c2), .v (.int .i64 x.left.c3), .v (.int .i64 x.place), .v (.int .i64 x.credit)]
structure Seen where
  Kind : Int
  Plays : Int
  deriving DecidableEq, Inhabited, Repr
abbrev Seen.cells (x : Seen) : List AV := [.v (.int .i64 x.Kind), .v (.int .i64 x.Plays)]
structure Extra where
  Kind : Int
  Notch : Int
  deriving DecidableEq, Inhabited, Repr
abbrev Extra.cells (x : Extra) : List AV := [.v (.int .i64 x.Kind), .v (.int .i64 x.Notch)]
structure Two where
  A : Int
  B : Int
  deriving DecidableEq, Inhabited, Repr
abbrev Two.cells (x : Two) : List AV := [.v (.int .i64 x.A), .v (.int .i64 x.B)]
structure Bought where
  Most : Int
  Least : Int
  deriving DecidableEq, Inhabited, Repr
abbrev Bought.cells (x : Bought) : List AV := [.v (.int .i64 x.Most), .v (.int .i64 x.Least)]
def okPoint_ (x : Point_) : Bool := ([x.Stand.Place, x.Stand.Credit, x.bought] : List Int).all okI
def kvPoint_ (x : Point_) : Value := .agg (([x.Stand.Place, x.Stand.Credit, x.bought] : List Int).map kvI).toArray
def okSpot_ (x : Spot_) : Bool := ([x.left.c0, x.left.c1, x.left.c2, x.left.c3, x.place, x.credit] : List Int).all okI
def kvSpot_ (x : Spot_) : Value := .agg (([x.left.c0, x.left.c1, x.left.c2, x.left.c3, x.place, x.credit] : List Int).map kvI).toArray
def coins_more (a0 : Int) (a1 : Int) : Option (Bool) :=
  some (decide (a0 > a1))
def coins_less (a0 : Int) (a1 : Int) : Option (Bool) :=
  some (decide (a0 < a1))
def coins_better (b : Bool) (x y : Int) : Option Bool := cond b (coins_more x y) (coins_less x y)
def law01_far_j1 (v1 : Bool) : Option (Bool) :=
  some v1
def law01_far (a0 : Wheel) : Option (Bool) :=
  if decide ((a0.Notches.length : Int) > 40) = true then
    law01_far_j1 true
  else
    law01_far_j1 (decide ((a0.Coins.length : Int) > 40))
def coins_within_j1 (v1 : Bool) : Option (Bool) :=
  some v1
def coins_within (a0 : Int) (a1 : Int) (a2 : Int) : Option (Bool) :=
  if decide (a1 ≤ a0) = true then
    coins_within_j1 (decide (a0 ≤ a2))
  else
    coins_within_j1 false
def coins_rising_j1 (a0 : List Int) (a1 : Int) : Option (Bool) :=
  some (decide ((a0.length : Int) ≤ a1))
def coins_rising_j2 (rec1 : Int → Option (Bool)) (v1 : Int) (v4 : Bool) : Option (Bool) :=
  if v4 = true then
    some false
  else
    rec1 (w64 (v1 + 1))
def coins_rising_l1_b (a0 : List Int) (a1 : Int) (a2 : Int) (rec1 : Int → Option (Bool)) (v1 : Int) : Option (Bool) :=
  if decide (v1 < (a0.length : Int)) = true then
    Option.bind (idx a0 v1) fun x3 =>
    Option.bind (coins_within x3 1 a2) fun r6 =>
    if (!r6) = true then
      coins_rising_j2 rec1 v1 true
    else
      if decide (v1 > 0) = true then
        Option.bind (idx a0 (w64 (v1 - 1))) fun x9 =>
        coins_rising_j2 rec1 v1 (decide (x3 ≤ x9))
      else
        coins_rising_j2 rec1 v1 false
  else
    coins_rising_j1 a0 a1
def coins_rising_l1 (a0 : List Int) (a1 : Int) (a2 : Int) : Nat → Int → Option (Bool)
  | 0, _ => none
  | m + 1, v1 => coins_rising_l1_b a0 a1 a2 (coins_rising_l1 a0 a1 a2 m) v1
def coins_rising (n : Nat) (a0 : List Int) (a1 : Int) (a2 : Int) : Option (Bool) :=
  coins_rising_l1 a0 a1 a2 n 0
def coins_Check_j1 (v1 : Bool) : Option (Int) :=
  if v1 = true then
    some 10
  else
    some 0
def coins_Check (n : Nat) (a0 : Wheel) : Option (Int) :=
  Option.bind (coins_within a0.Round 1 200) fun r3 =>
  if (!r3) = true then
    coins_Check_j1 true
  else
    Option.bind (coins_rising n a0.Notches 12 a0.Round) fun r5 =>
    if (!r5) = true then
      coins_Check_j1 true
    else
      Option.bind (coins_rising n a0.Coins 4 100) fun r7 =>
      coins_Check_j1 (!r7)
def coins_open {S : Type} (n : Nat) (aF : Wheel_ → S → Option (Bool × S)) (a0 : Wheel) (st : S) : Option ((Wheel_ × Int) × S) :=
  Option.bind (coins_Check n a0) fun r1 =>
  if (r1 != 0) = true then
    some (((⟨(⟨0, ([] : List Int), ([] : List Int)⟩ : Wheel)⟩ : Wheel_), r1), st)
  else
    Option.bind (aF (⟨a0⟩ : Wheel_) st) fun r3 =>
    if (!r3.1) = true then
      some (((⟨(⟨0, ([] : List Int), ([] : List Int)⟩ : Wheel)⟩ : Wheel_), 1), r3.2)
    else
      some (((⟨a0⟩ : Wheel_), 0), r3.2)
def coins_Cheapest_c1 (a0 : Wheel_) (a1 : Int) : Option (Bool) :=
  Option.bind (coins_within a1 1 20) fun r1 =>
  some r1
def coins_wheel_turn_j1 (a0 : Wheel_) (a1 : Int) (a2 : Int) (v1 : Int) : Option (Int × Int) :=
  Option.bind (rem (w64 (a1 + a2)) a0.Wheel.Round) fun q2 =>
  some (q2, v1)
def coins_wheel_turn_l1_b (a0 : Wheel_) (a1 : Int) (a2 : Int) (rec1 : Int → Int → Option (Int × Int)) (v3 : Int) (v4 : Int) : Option (Int × Int) :=
  if decide (v4 < (a0.Wheel.Notches.length : Int)) = true then
    Option.bind (idx a0.Wheel.Notches v4) fun x6 =>
    Option.bind (quo (w64 ((w64 ((w64 (a1 + a2)) - x6)) + a0.Wheel.Round)) a0.Wheel.Round) fun q7 =>
    Option.bind (quo (w64 ((w64 (a1 - x6)) + a0.Wheel.Round)) a0.Wheel.Round) fun q8 =>
    rec1 (w64 (v3 + (w64 (q7 - q8)))) (w64 (v4 + 1))
  else
    coins_wheel_turn_j1 a0 a1 a2 v3
def coins_wheel_turn_l1 (a0 : Wheel_) (a1 : Int) (a2 : Int) : Nat → Int → Int → Option (Int × Int)
  | 0, _, _ => none
  | m + 1, v3, v4 => coins_wheel_turn_l1_b a0 a1 a2 (coins_wheel_turn_l1 a0 a1 a2 m) v3 v4
def coins_wheel_turn (n : Nat) (a0 : Wheel_) (a1 : Int) (a2 : Int) : Option (Int × Int) :=
  coins_wheel_turn_l1 a0 a1 a2 n 0 0
def coins_wheel_act (n : Nat) (a0 : Wheel_) (a1 : Stand) (a2 : Int) : Option (Stand) :=
  if (a2 != (-1)) = true then
    Option.bind (idx a0.Wheel.Coins a2) fun x2 =>
    Option.bind (coins_wheel_turn n a0 a1.Place x2) fun r3 =>
    some (⟨r3.1, w64 (a1.Credit + r3.2)⟩ : Stand)
  else
    if decide (a1.Credit > 0) = true then
      some (⟨0, w64 (a1.Credit - 1)⟩ : Stand)
    else
      some a1
def coins_Cheapest_j2 (rec1 : Int → (List (Point_ × Int)) → (List (List Point_)) → Option (Int × Int)) (v6 : Int) (v12 : List (Point_ × Int)) (v13 : List (List Point_)) : Option (Int × Int) :=
  rec1 (w64 (v6 + 1)) v12 v13
def coins_Cheapest_j4 (rec2 : Int → (List (Point_ × Int)) → (List (List Point_)) → Option (Int × Int)) (v23 : Int) (v27 : List (Point_ × Int)) (v28 : List (List Point_)) : Option (Int × Int) :=
  rec2 (w64 (v23 + 1)) v27 v28
def coins_Cheapest_j6 (rec3 : Int → (List (List Point_)) → Option (Int × Int)) (v37 : Int) (v40 : List (List Point_)) : Option (Int × Int) :=
  rec3 (w64 (v37 + 1)) v40
def coins_Cheapest_l4_b (n : Nat) (rec3 : Int → (List (List Point_)) → Option (Int × Int)) (a0 : Wheel) (a1 : Int) (r1 : (Wheel_ × Int) × Unit) (v6 : Int) (x29 : Point_) (v37 : Int) (x41 : Stand) (rec4 : Int → (List (List Point_)) → Option (Int × Int)) (v43 : Int) (v44 : List (List Point_)) : Option (Int × Int) :=
  if decide (v43 < (a0.Coins.length : Int)) = true then
    Option.bind (idx a0.Coins v43) fun x46 =>
    Option.bind (coins_wheel_act n r1.1.1 x41 v43) fun r47 =>
    Option.bind (idx v44 (w64 (v6 + x46))) fun x48 =>
    Option.bind (app x48 ([(⟨(⟨r47.Place, (min r47.Credit a1)⟩ : Stand), w64 (x29.bought + (w64 (r47.Credit - x41.Credit)))⟩ : Point_)] : List Point_)) fun l49 =>
    Option.bind (idx v44 (w64 (v6 + x46))) fun x50 =>
    rec4 (w64 (v43 + 1)) (v44.set (Int.toNat (w64 (v6 + x46))) l49)
  else
    coins_Cheapest_j6 rec3 v37 v44
def coins_Cheapest_l4 (n : Nat) (rec3 : Int → (List (List Point_)) → Option (Int × Int)) (a0 : Wheel) (a1 : Int) (r1 : (Wheel_ × Int) × Unit) (v6 : Int) (x29 : Point_) (v37 : Int) (x41 : Stand) : Nat → Int → (List (List Point_)) → Option (Int × Int)
  | 0, _, _ => none
  | m + 1, v43, v44 => coins_Cheapest_l4_b n rec3 a0 a1 r1 v6 x29 v37 x41 (coins_Cheapest_l4 n rec3 a0 a1 r1 v6 x29 v37 x41 m) v43 v44
def coins_Cheapest_l3_b (n : Nat) (rec2 : Int → (List (Point_ × Int)) → (List (List Point_)) → Option (Int × Int)) (a0 : Wheel) (a1 : Int) (r1 : (Wheel_ × Int) × Unit) (v6 : Int) (v23 : Int) (v24 : List (Point_ × Int)) (x29 : Point_) (x31 : Int) (v35 : List Stand) (rec3 : Int → (List (List Point_)) → Option (Int × Int)) (v37 : Int) (v38 : List (List Point_)) : Option (Int × Int) :=
  if decide (v37 < (v35.length : Int)) = true then
    Option.bind (idx v35 v37) fun x41 =>
    coins_Cheapest_l4 n rec3 a0 a1 r1 v6 x29 v37 x41 n 0 v38
  else
    coins_Cheapest_j4 rec2 v23 (mset v24 x29 (w64 (x31 + 1))) v38
def coins_Cheapest_l3 (n : Nat) (rec2 : Int → (List (Point_ × Int)) → (List (List Point_)) → Option (Int × Int)) (a0 : Wheel) (a1 : Int) (r1 : (Wheel_ × Int) × Unit) (v6 : Int) (v23 : Int) (v24 : List (Point_ × Int)) (x29 : Point_) (x31 : Int) (v35 : List Stand) : Nat → Int → (List (List Point_)) → Option (Int × Int)
  | 0, _, _ => none
  | m + 1, v37, v38 => coins_Cheapest_l3_b n rec2 a0 a1 r1 v6 v23 v24 x29 x31 v35 (coins_Cheapest_l3 n rec2 a0 a1 r1 v6 v23 v24 x29 x31 v35 m) v37 v38
def coins_Cheapest_j5 (n : Nat) (rec2 : Int → (List (Point_ × Int)) → (List (List Point_)) → Option (Int × Int)) (a0 : Wheel) (a1 : Int) (r1 : (Wheel_ × Int) × Unit) (v6 : Int) (v23 : Int) (v24 : List (Point_ × Int)) (v25 : List (List Point_)) (x29 : Point_) (x31 : Int) (v35 : List Stand) : Option (Int × Int) :=
  coins_Cheapest_l3 n rec2 a0 a1 r1 v6 v23 v24 x29 x31 v35 n 0 v25
def coins_Cheapest_j7 (n : Nat) (rec2 : Int → (List (Point_ × Int)) → (List (List Point_)) → Option (Int × Int)) (a0 : Wheel) (a1 : Int) (r1 : (Wheel_ × Int) × Unit) (v6 : Int) (v23 : Int) (v24 : List (Point_ × Int)) (v25 : List (List Point_)) (x29 : Point_) (x31 : Int) (v51 : Bool) : Option (Int × Int) :=
  if v51 = true then
    Option.bind (coins_wheel_act n r1.1.1 x29.Stand (-1)) fun r53 =>
    Option.bind (app ([x29.Stand] : List Stand) ([r53] : List Stand)) fun l54 =>
    coins_Cheapest_j5 n rec2 a0 a1 r1 v6 v23 v24 v25 x29 x31 l54
  else
    coins_Cheapest_j5 n rec2 a0 a1 r1 v6 v23 v24 v25 x29 x31 ([x29.Stand] : List Stand)
def coins_Cheapest_l2_b (n : Nat) (rec1 : Int → (List (Point_ × Int)) → (List (List Point_)) → Option (Int × Int)) (a0 : Wheel) (a1 : Int) (r1 : (Wheel_ × Int) × Unit) (v6 : Int) (x21 : List Point_) (rec2 : Int → (List (Point_ × Int)) → (List (List Point_)) → Option (Int × Int)) (v23 : Int) (v24 : List (Point_ × Int)) (v25 : List (List Point_)) : Option (Int × Int) :=
  if decide (v23 < (x21.length : Int)) = true then
    Option.bind (idx x21 v23) fun x29 =>
    if decide (x29.bought ≥ a1) = true then
      some (v6, 0)
    else
      Option.bind (mlook okPoint_ v24 x29) fun x31 =>
      Option.bind (mlook okPoint_ v24 x29) fun x32 =>
      Option.bind (mlook okPoint_ (mset v24 x29 (w64 (x31 + 1))) x29) fun x33 =>
      if decide (x33 > 1) = true then
        coins_Cheapest_j4 rec2 v23 (mset v24 x29 (w64 (x31 + 1))) v25
      else
        if decide (x29.Stand.Credit > 0) = true then
          coins_Cheapest_j7 n rec2 a0 a1 r1 v6 v23 v24 v25 x29 x31 (decide (x29.Stand.Place > 0))
        else
          coins_Cheapest_j7 n rec2 a0 a1 r1 v6 v23 v24 v25 x29 x31 false
  else
    coins_Cheapest_j2 rec1 v6 v24 v25
def coins_Cheapest_l2 (n : Nat) (rec1 : Int → (List (Point_ × Int)) → (List (List Point_)) → Option (Int × Int)) (a0 : Wheel) (a1 : Int) (r1 : (Wheel_ × Int) × Unit) (v6 : Int) (x21 : List Point_) : Nat → Int → (List (Point_ × Int)) → (List (List Point_)) → Option (Int × Int)
  | 0, _, _, _ => none
  | m + 1, v23, v24, v25 => coins_Cheapest_l2_b n rec1 a0 a1 r1 v6 x21 (coins_Cheapest_l2 n rec1 a0 a1 r1 v6 x21 m) v23 v24 v25
def coins_Cheapest_j3 (n : Nat) (rec1 : Int → (List (Point_ × Int)) → (List (List Point_)) → Option (Int × Int)) (a0 : Wheel) (a1 : Int) (r1 : (Wheel_ × Int) × Unit) (v6 : Int) (v7 : List (Point_ × Int)) (v17 : List (List Point_)) : Option (Int × Int) :=
  Option.bind (idx v17 v6) fun x21 =>
  coins_Cheapest_l2 n rec1 a0 a1 r1 v6 x21 n 0 v7 v17
def coins_Cheapest_l5_b (n : Nat) (rec1 : Int → (List (Point_ × Int)) → (List (List Point_)) → Option (Int × Int)) (a0 : Wheel) (a1 : Int) (r1 : (Wheel_ × Int) × Unit) (v6 : Int) (v7 : List (Point_ × Int)) (rec5 : (List (List Point_)) → Option (Int × Int)) (v56 : List (List Point_)) : Option (Int × Int) :=
  if decide ((v56.length : Int) ≤ (w64 (v6 + 100))) = true then
    Option.bind (app v56 ([[]] : List (List Point_))) fun l62 =>
    rec5 l62
  else
    coins_Cheapest_j3 n rec1 a0 a1 r1 v6 v7 v56
def coins_Cheapest_l5 (n : Nat) (rec1 : Int → (List (Point_ × Int)) → (List (List Point_)) → Option (Int × Int)) (a0 : Wheel) (a1 : Int) (r1 : (Wheel_ × Int) × Unit) (v6 : Int) (v7 : List (Point_ × Int)) : Nat → (List (List Point_)) → Option (Int × Int)
  | 0, _ => none
  | m + 1, v56 => coins_Cheapest_l5_b n rec1 a0 a1 r1 v6 v7 (coins_Cheapest_l5 n rec1 a0 a1 r1 v6 v7 m) v56
def coins_Cheapest_l1_b (n : Nat) (a0 : Wheel) (a1 : Int) (r1 : (Wheel_ × Int) × Unit) (rec1 : Int → (List (Point_ × Int)) → (List (List Point_)) → Option (Int × Int)) (v6 : Int) (v7 : List (Point_ × Int)) (v8 : List (List Point_)) : Option (Int × Int) :=
  coins_Cheapest_l5 n rec1 a0 a1 r1 v6 v7 n v8
def coins_Cheapest_l1 (n : Nat) (a0 : Wheel) (a1 : Int) (r1 : (Wheel_ × Int) × Unit) : Nat → Int → (List (Point_ × Int)) → (List (List Point_)) → Option (Int × Int)
  | 0, _, _, _ => none
  | m + 1, v6, v7, v8 => coins_Cheapest_l1_b n a0 a1 r1 (coins_Cheapest_l1 n a0 a1 r1 m) v6 v7 v8
def coins_Cheapest_j1 (n : Nat) (a0 : Wheel) (a1 : Int) (r1 : (Wheel_ × Int) × Unit) (v3 : Bool) : Option (Int × Int) :=
  if v3 = true then
    some (0, 3)
  else
    coins_Cheapest_l1 n a0 a1 r1 n 0 ([] : List (Point_ × Int)) ([([(⟨(⟨0, 0⟩ : Stand), 0⟩ : Point_)] : List Point_)] : List (List Point_))
def coins_Cheapest (n : Nat) (a0 : Wheel) (a1 : Int) : Option (Int × Int) :=
  Option.bind (coins_open n (fun (x0 : Wheel_) (_ : Unit) => (coins_Cheapest_c1 x0 a1).map fun y => (y, ())) a0 ()) fun r1 =>
  if (r1.1.2 != 0) = true then
    some (0, r1.1.2)
  else
    if ((a0.Coins.length : Int) == 0) = true then
      coins_Cheapest_j1 n a0 a1 r1 true
    else
      coins_Cheapest_j1 n a0 a1 r1 ((a0.Notches.length : Int) == 0)
def coins_seek_c1_j2 (st : Spot_) (v2 : Int) (v3 : Int) (v4 : Int) (v5 : Int) (v6 : Bool) : Option (Bool × Spot_) :=
  some (v6, (⟨(⟨v2, v3, v4, v5⟩ : Bag_), st.place, st.credit⟩ : Spot_))
def coins_seek_c1_j1 (a0 : Wheel_) (st : Spot_) (a1 : List Int) (v1 : Int) (v2 : Int) (v3 : Int) (v4 : Int) (v5 : Int) : Option (Bool × Spot_) :=
  if ((a1.length : Int) == (a0.Wheel.Coins.length : Int)) = true then
    coins_seek_c1_j2 st v2 v3 v4 v5 (decide (v1 ≤ 12))
  else
    coins_seek_c1_j2 st v2 v3 v4 v5 false
def coins_seek_c1_j3 (rec1 : Int → Int → Int → Int → Int → Int → Option (Bool × Spot_)) (st : Spot_) (v10 : Int) (v11 : Int) (v12 : Int) (v13 : Int) (v14 : Int) (v15 : Int) (x17 : Int) (v18 : Bool) : Option (Bool × Spot_) :=
  if v18 = true then
    some (false, (⟨(⟨v12, v13, v14, v15⟩ : Bag_), st.place, st.credit⟩ : Spot_))
  else
    Option.bind (idx ([v12, v13, v14, v15] : List Int) v11) fun x20 =>
    Option.bind (setI ([v12, v13, v14, v15] : List Int) v11 x17) fun l21 =>
    rec1 (w64 (v10 + x17)) (w64 (v11 + 1)) (l21.getD 0 0) (l21.getD 1 0) (l21.getD 2 0) (l21.getD 3 0)
def coins_seek_c1_l1_b (a0 : Wheel_) (st : Spot_) (a1 : List Int) (rec1 : Int → Int → Int → Int → Int → Int → Option (Bool × Spot_)) (v10 : Int) (v11 : Int) (v12 : Int) (v13 : Int) (v14 : Int) (v15 : Int) : Option (Bool × Spot_) :=
  if decide (v11 < (a1.length : Int)) = true then
    Option.bind (idx a1 v11) fun x17 =>
    if decide (v11 ≥ (a0.Wheel.Coins.length : Int)) = true then
      coins_seek_c1_j3 rec1 st v10 v11 v12 v13 v14 v15 x17 true
    else
      Option.bind (coins_within x17 0 12) fun r23 =>
      coins_seek_c1_j3 rec1 st v10 v11 v12 v13 v14 v15 x17 (!r23)
  else
    coins_seek_c1_j1 a0 st a1 v10 v12 v13 v14 v15
def coins_seek_c1_l1 (a0 : Wheel_) (st : Spot_) (a1 : List Int) : Nat → Int → Int → Int → Int → Int → Int → Option (Bool × Spot_)
  | 0, _, _, _, _, _, _ => none
  | m + 1, v10, v11, v12, v13, v14, v15 => coins_seek_c1_l1_b a0 st a1 (coins_seek_c1_l1 a0 st a1 m) v10 v11 v12 v13 v14 v15
def coins_seek_c1 (n : Nat) (a0 : Wheel_) (a1 : List Int) (st : Spot_) : Option (Bool × Spot_) :=
  coins_seek_c1_l1 a0 st a1 n 0 0 st.left.c0 st.left.c1 st.left.c2 st.left.c3
def coins_seek (n : Nat) (a0 : Wheel) (a1 : List Int) (a2 : Bool) : Option ((Option Wheel_) × Spot_ × Int) :=
  Option.bind (coins_open n (fun (x0 : Wheel_) s => coins_seek_c1 n x0 a1 s) a0 (⟨(⟨0, 0, 0, 0⟩ : Bag_), 0, 0⟩ : Spot_)) fun r1 =>
  if (r1.1.2 != 0) = true then
    some ((none : Option Wheel_), (⟨(⟨0, 0, 0, 0⟩ : Bag_), 0, 0⟩ : Spot_), r1.1.2)
  else
    some ((some r1.1.1), r1.2, 0)
def coins_wheel_after_j1 (n : Nat) (a0 : Wheel_) (a2 : Int) (v1 : Int) (v2 : Int) (v3 : Int) (v4 : Int) (v5 : Int) (v6 : Int) : Option (Spot_ × Int) :=
  Option.bind (idx a0.Wheel.Coins a2) fun x7 =>
  Option.bind (coins_wheel_turn n a0 v5 x7) fun r8 =>
  Option.bind (idx ([v1, v2, v3, v4] : List Int) a2) fun x9 =>
  Option.bind (idx ([v1, v2, v3, v4] : List Int) a2) fun x10 =>
  Option.bind (setI ([v1, v2, v3, v4] : List Int) a2 (w64 (x9 - 1))) fun l11 =>
  some ((⟨(⟨(l11.getD 0 0), (l11.getD 1 0), (l11.getD 2 0), (l11.getD 3 0)⟩ : Bag_), r8.1, w64 (v6 + r8.2)⟩ : Spot_), r8.2)
def coins_wheel_after (n : Nat) (a0 : Wheel_) (a1 : Spot_) (a2 : Int) (a3 : Bool) : Option (Spot_ × Int) :=
  if a3 = true then
    coins_wheel_after_j1 n a0 a2 a1.left.c0 a1.left.c1 a1.left.c2 a1.left.c3 0 (w64 (a1.credit - 1))
  else
    coins_wheel_after_j1 n a0 a2 a1.left.c0 a1.left.c1 a1.left.c2 a1.left.c3 a1.place a1.credit
def coins_search_next_j1 {S : Type} (rec1 : Int → Int → Int → Int → Int → S → Option (Unit × S)) (v2 : Int) (v3 : Int) (v4 : Int) (v5 : Int) (v6 : Int) (v9 : S) : Option (Unit × S) :=
  rec1 v2 v3 v4 v5 (w64 (v6 + 1)) v9
def coins_search_next_j2 {S : Type} (n : Nat) (rec1 : Int → Int → Int → Int → Int → S → Option (Unit × S)) (a0 : Wheel_ × Bool) (a1 : Spot_) (aF : (List Int) → Spot_ → Int → S → Option (Bool × S)) (v2 : Int) (v3 : Int) (v4 : Int) (v5 : Int) (v6 : Int) (r13 : Bool × S) (v15 : Bool) : Option (Unit × S) :=
  if v15 = true then
    coins_search_next_j1 rec1 v2 v3 v4 v5 v6 r13.2
  else
    Option.bind (coins_wheel_after n a0.1 (⟨(⟨v2, v3, v4, v5⟩ : Bag_), a1.place, a1.credit⟩ : Spot_) v6 true) fun r17 =>
    Option.bind (aF ([(-1), v6] : List Int) r17.1 r17.2 r13.2) fun r18 =>
    if (!r18.1) = true then
      some ((), r18.2)
    else
      coins_search_next_j1 rec1 v2 v3 v4 v5 v6 r18.2
def coins_search_next_l1_b {S : Type} (n : Nat) (a0 : Wheel_ × Bool) (a1 : Spot_) (aF : (List Int) → Spot_ → Int → S → Option (Bool × S)) (rec1 : Int → Int → Int → Int → Int → S → Option (Unit × S)) (v2 : Int) (v3 : Int) (v4 : Int) (v5 : Int) (v6 : Int) (v7 : S) : Option (Unit × S) :=
  if decide (v6 < (a0.1.Wheel.Coins.length : Int)) = true then
    Option.bind (idx ([v2, v3, v4, v5] : List Int) v6) fun x10 =>
    if (x10 == 0) = true then
      coins_search_next_j1 rec1 v2 v3 v4 v5 v6 v7
    else
      Option.bind (coins_wheel_after n a0.1 (⟨(⟨v2, v3, v4, v5⟩ : Bag_), a1.place, a1.credit⟩ : Spot_) v6 false) fun r12 =>
      Option.bind (aF ([v6] : List Int) r12.1 r12.2 v7) fun r13 =>
      if (!r13.1) = true then
        some ((), r13.2)
      else
        if (a1.credit == 0) = true then
          coins_search_next_j2 n rec1 a0 a1 aF v2 v3 v4 v5 v6 r13 true
        else
          coins_search_next_j2 n rec1 a0 a1 aF v2 v3 v4 v5 v6 r13 (a1.place == 0)
  else
    some ((), v7)
def coins_search_next_l1 {S : Type} (n : Nat) (a0 : Wheel_ × Bool) (a1 : Spot_) (aF : (List Int) → Spot_ → Int → S → Option (Bool × S)) : Nat → Int → Int → Int → Int → Int → S → Option (Unit × S)
  | 0, _, _, _, _, _, _ => none
  | m + 1, v2, v3, v4, v5, v6, v7 => coins_search_next_l1_b n a0 a1 aF (coins_search_next_l1 n a0 a1 aF m) v2 v3 v4 v5 v6 v7
def coins_search_next {S : Type} (n : Nat) (aF : (List Int) → Spot_ → Int → S → Option (Bool × S)) (a0 : Wheel_ × Bool) (a1 : Spot_) (st : S) : Option (Unit × S) :=
  coins_search_next_l1 n a0 a1 aF n a1.left.c0 a1.left.c1 a1.left.c2 a1.left.c3 0 st
def coins_search_buys_c1_j1 (v1 : Bool) (v2 : Int) (v3 : List (Spot_ × Int)) : Option (Bool × (Bool × Int × (List (Spot_ × Int)))) :=
  some (true, (v1, v2, v3))
def coins_search_buys_c1_j2 (a2 : Int) (st : Bool × Int × (List (Spot_ × Int))) (r4 : Int × (List (Spot_ × Int))) (v5 : Bool) : Option (Bool × (Bool × Int × (List (Spot_ × Int)))) :=
  if v5 = true then
    coins_search_buys_c1_j1 false (w64 (a2 + r4.1)) r4.2
  else
    coins_search_buys_c1_j1 st.1 st.2.1 r4.2
def coins_search_buys_c1 (rec : (Wheel_ × Bool) → Spot_ → (List (Spot_ × Int)) → Option (Int × (List (Spot_ × Int)))) (a0 : List Int) (a1 : Spot_) (a2 : Int) (a3 : Wheel_ × Bool) (st : Bool × Int × (List (Spot_ × Int))) : Option (Bool × (Bool × Int × (List (Spot_ × Int)))) :=
  Option.bind (rec a3 a1 st.2.2) fun r4 =>
  if st.1 = true then
    coins_search_buys_c1_j2 a2 st r4 true
  else
    Option.bind (coins_better a3.2 (w64 (a2 + r4.1)) st.2.1) fun r8 =>
    coins_search_buys_c1_j2 a2 st r4 r8
def coins_search_buys_j2 (n : Nat) (rec : (Wheel_ × Bool) → Spot_ → (List (Spot_ × Int)) → Option (Int × (List (Spot_ × Int)))) (a0 : Wheel_ × Bool) (a1 : Spot_) (st : (List (Spot_ × Int))) (v1 : Int) (v2 : Int) (v3 : Int) (v4 : Int) (v5 : Int) (x6 : Int) (v7 : Bool) : Option (Int × (List (Spot_ × Int))) :=
  if v7 = true then
    some (x6, st)
  else
    Option.bind (coins_search_next n (fun (x0 : List Int) (x1 : Spot_) (x2 : Int) s => coins_search_buys_c1 rec x0 x1 x2 a0 s) a0 (⟨(⟨v2, v3, v4, v5⟩ : Bag_), a1.place, (min a1.credit v1)⟩ : Spot_) (true, 0, st)) fun r9 =>
    Option.bind (mstore okSpot_ r9.2.2.2 (⟨(⟨v2, v3, v4, v5⟩ : Bag_), a1.place, (min a1.credit v1)⟩ : Spot_) r9.2.2.1) fun l10 =>
    some (r9.2.2.1, l10)
def coins_search_buys_j1 (n : Nat) (rec : (Wheel_ × Bool) → Spot_ → (List (Spot_ × Int)) → Option (Int × (List (Spot_ × Int)))) (a0 : Wheel_ × Bool) (a1 : Spot_) (st : (List (Spot_ × Int))) (v1 : Int) (v2 : Int) (v3 : Int) (v4 : Int) (v5 : Int) : Option (Int × (List (Spot_ × Int))) :=
  Option.bind (mlook okSpot_ st (⟨(⟨v2, v3, v4, v5⟩ : Bag_), a1.place, (min a1.credit v1)⟩ : Spot_)) fun x6 =>
  if (mhas st (⟨(⟨v2, v3, v4, v5⟩ : Bag_), a1.place, (min a1.credit v1)⟩ : Spot_)) = true then
    coins_search_buys_j2 n rec a0 a1 st v1 v2 v3 v4 v5 x6 true
  else
    coins_search_buys_j2 n rec a0 a1 st v1 v2 v3 v4 v5 x6 (v1 == 0)
def coins_search_buys_l1_b (n : Nat) (rec : (Wheel_ × Bool) → Spot_ → (List (Spot_ × Int)) → Option (Int × (List (Spot_ × Int)))) (a0 : Wheel_ × Bool) (a1 : Spot_) (st : (List (Spot_ × Int))) (rec1 : Int → Int → Option (Int × (List (Spot_ × Int)))) (v12 : Int) (v13 : Int) : Option (Int × (List (Spot_ × Int))) :=
  if decide (v13 < 4) = true then
    Option.bind (idx ([a1.left.c0, a1.left.c1, a1.left.c2, a1.left.c3] : List Int) v13) fun x15 =>
    rec1 (w64 (v12 + x15)) (w64 (v13 + 1))
  else
    coins_search_buys_j1 n rec a0 a1 st v12 a1.left.c0 a1.left.c1 a1.left.c2 a1.left.c3
def coins_search_buys_l1 (n : Nat) (rec : (Wheel_ × Bool) → Spot_ → (List (Spot_ × Int)) → Option (Int × (List (Spot_ × Int)))) (a0 : Wheel_ × Bool) (a1 : Spot_) (st : (List (Spot_ × Int))) : Nat → Int → Int → Option (Int × (List (Spot_ × Int)))
  | 0, _, _ => none
  | m + 1, v12, v13 => coins_search_buys_l1_b n rec a0 a1 st (coins_search_buys_l1 n rec a0 a1 st m) v12 v13
def coins_search_buys_b (n : Nat) (rec : (Wheel_ × Bool) → Spot_ → (List (Spot_ × Int)) → Option (Int × (List (Spot_ × Int)))) (a0 : Wheel_ × Bool) (a1 : Spot_) (st : (List (Spot_ × Int))) : Option (Int × (List (Spot_ × Int))) :=
  coins_search_buys_l1 n rec a0 a1 st n 0 0
def coins_search_buys : Nat → (Wheel_ × Bool) → Spot_ → (List (Spot_ × Int)) → Option (Int × (List (Spot_ × Int)))
  | 0, _, _, _ => none
  | n + 1, a0, a1, st => coins_search_buys_b n (coins_search_buys n) a0 a1 st
def coins_Most (n : Nat) (a0 : Wheel) (a1 : List Int) : Option (Int × Int) :=
  Option.bind (coins_seek n a0 a1 true) fun r1 =>
  if r1.1.isSome = true then
    Option.bind (r1.1) fun x3 =>
    if (r1.2.2 != 0) = true then
      some (0, r1.2.2)
    else
      Option.bind (coins_search_buys n (x3, true) r1.2.1 ([] : List (Spot_ × Int))) fun r5 =>
      some (r5.1, 0)
  else
    if (r1.2.2 != 0) = true then
      some (0, r1.2.2)
    else
      none
def slices_IndexFunc_apiSeen_j1 {S : Type} (v1 : S) : Option (Int × S) :=
  some ((-1), v1)
def slices_IndexFunc_apiSeen_l1_b {S : Type} (a0 : List Seen) (aF : Seen → S → Option (Bool × S)) (rec1 : Int → S → Option (Int × S)) (v3 : Int) (v4 : S) : Option (Int × S) :=
  if decide (v3 < (a0.length : Int)) = true then
    Option.bind (idx a0 v3) fun x6 =>
    Option.bind (aF x6 v4) fun r7 =>
    if r7.1 = true then
      some (v3, r7.2)
    else
      rec1 (w64 (v3 + 1)) r7.2
  else
    slices_IndexFunc_apiSeen_j1 v4
def slices_IndexFunc_apiSeen_l1 {S : Type} (a0 : List Seen) (aF : Seen → S → Option (Bool × S)) : Nat → Int → S → Option (Int × S)
  | 0, _, _ => none
  | m + 1, v3, v4 => slices_IndexFunc_apiSeen_l1_b a0 aF (slices_IndexFunc_apiSeen_l1 a0 aF m) v3 v4
def slices_IndexFunc_apiSeen {S : Type} (n : Nat) (aF : Seen → S → Option (Bool × S)) (a0 : List Seen) (st : S) : Option (Int × S) :=
  slices_IndexFunc_apiSeen_l1 a0 aF n 0 st
def slices_ContainsFunc_apiSeen {S : Type} (n : Nat) (aF : Seen → S → Option (Bool × S)) (a0 : List Seen) (st : S) : Option (Bool × S) :=
  Option.bind (slices_IndexFunc_apiSeen n aF a0 st) fun r1 =>
  some (decide (r1.1 ≥ 0), r1.2)
def coins_all_apiSeen_c1 {S : Type} (aF : Seen → S → Option (Bool × S)) (a0 : Seen) (st : S) : Option (Bool × S) :=
  Option.bind (aF a0 st) fun r1 =>
  some ((!r1.1), r1.2)
def coins_all_apiSeen_j1 {S : Type} (v1 : Bool) (v2 : S) : Option (Bool × S) :=
  some (v1, v2)
def coins_all_apiSeen {S : Type} (n : Nat) (aF : Seen → S → Option (Bool × S)) (a0 : List Seen) (st : S) : Option (Bool × S) :=
  if decide ((a0.length : Int) ≤ 20) = true then
    Option.bind (slices_ContainsFunc_apiSeen n (coins_all_apiSeen_c1 aF) a0 st) fun r4 =>
    coins_all_apiSeen_j1 (!r4.1) r4.2
  else
    coins_all_apiSeen_j1 false st
def coins_wheel_isKind (a0 : Wheel_) (a1 : Int) : Option (Bool) :=
  Option.bind (coins_within a1 0 (w64 ((a0.Wheel.Coins.length : Int) - 1))) fun r1 =>
  some r1
def coins_stood_c1_c1_j1 (v1 : Bool) : Option (Bool) :=
  some v1
def coins_stood_c1_c1 (a0 : Seen) (a1 : Wheel_) : Option (Bool) :=
  Option.bind (coins_wheel_isKind a1 a0.Kind) fun r2 =>
  if r2 = true then
    Option.bind (coins_within a0.Plays 0 2400) fun r4 =>
    coins_stood_c1_c1_j1 r4
  else
    coins_stood_c1_c1_j1 false
def coins_stood_c1 (n : Nat) (a0 : Wheel_) (a1 : List Seen) : Option (Bool) :=
  Option.bind (coins_all_apiSeen n (fun (x0 : Seen) (_ : Unit) => (coins_stood_c1_c1 x0 a0).map fun y => (y, ())) a1 ()) fun r1 =>
  some r1.1
def coins_wheel_gives_j1 (v1 : Int) : Option (Int × Bool) :=
  some (v1, true)
def coins_wheel_gives_l1_b (n : Nat) (a0 : Wheel_) (a2 : List Seen) (rec1 : Int → Int → Option (Int × Bool)) (v2 : Int) (v3 : Int) : Option (Int × Bool) :=
  if decide (v3 < (a2.length : Int)) = true then
    Option.bind (idx a2 v3) fun x5 =>
    Option.bind (idx a0.Wheel.Coins x5.Kind) fun x6 =>
    Option.bind (coins_wheel_turn n a0 v2 x6) fun r7 =>
    if (r7.2 != x5.Plays) = true then
      some (0, false)
    else
      rec1 r7.1 (w64 (v3 + 1))
  else
    coins_wheel_gives_j1 v2
def coins_wheel_gives_l1 (n : Nat) (a0 : Wheel_) (a2 : List Seen) : Nat → Int → Int → Option (Int × Bool)
  | 0, _, _ => none
  | m + 1, v2, v3 => coins_wheel_gives_l1_b n a0 a2 (coins_wheel_gives_l1 n a0 a2 m) v2 v3
def coins_wheel_gives (n : Nat) (a0 : Wheel_) (a1 : Int) (a2 : List Seen) : Option (Int × Bool) :=
  coins_wheel_gives_l1 n a0 a2 n a1 0
def coins_stood_c2_j1 {S : Type} (rec1 : Int → S → Option (Unit × S)) (v2 : Int) (v6 : Bool) (v7 : S) : Option (Unit × S) :=
  if v6 = true then
    some ((), v7)
  else
    rec1 (w64 (v2 + 1)) v7
def coins_stood_c2_l1_b {S : Type} (n : Nat) (aF : Int → Int → S → Option (Bool × S)) (a1 : Wheel_) (a2 : List Seen) (rec1 : Int → S → Option (Unit × S)) (v2 : Int) (v3 : S) : Option (Unit × S) :=
  if decide (v2 < a1.Wheel.Round) = true then
    Option.bind (coins_wheel_gives n a1 v2 a2) fun r5 =>
    if r5.2 = true then
      Option.bind (aF v2 r5.1 v3) fun r10 =>
      coins_stood_c2_j1 rec1 v2 (!r10.1) r10.2
    else
      coins_stood_c2_j1 rec1 v2 false v3
  else
    some ((), v3)
def coins_stood_c2_l1 {S : Type} (n : Nat) (aF : Int → Int → S → Option (Bool × S)) (a1 : Wheel_) (a2 : List Seen) : Nat → Int → S → Option (Unit × S)
  | 0, _, _ => none
  | m + 1, v2, v3 => coins_stood_c2_l1_b n aF a1 a2 (coins_stood_c2_l1 n aF a1 a2 m) v2 v3
def coins_stood_c2 {S : Type} (n : Nat) (aF : Int → Int → S → Option (Bool × S)) (a1 : Wheel_) (a2 : List Seen) (st : S) : Option (Unit × S) :=
  coins_stood_c2_l1 n aF a1 a2 n 0 st
def coins_stood_r1 (a1 : List Seen) (r1 : (Wheel_ × Int) × Unit) (y1 : Int) (yy1 : Int) (s : (Option (Wheel_ × (List Seen))) × Bool) : Option (Bool × ((Option (Wheel_ × (List Seen))) × Bool)) :=
  if s.2 = true then
    none
  else
    some (false, ((some (r1.1.1, a1)), true))
def coins_stood (n : Nat) (a0 : Wheel) (a1 : List Seen) : Option ((Option (Wheel_ × (List Seen))) × Int) :=
  Option.bind (coins_open n (fun (x0 : Wheel_) (_ : Unit) => (coins_stood_c1 n x0 a1).map fun y => (y, ())) a0 ()) fun r1 =>
  if (r1.1.2 != 0) = true then
    some ((none : Option (Wheel_ × (List Seen))), r1.1.2)
  else
    Option.bind (coins_stood_c2 n (coins_stood_r1 a1 r1) r1.1.1 a1 ((none : Option (Wheel_ × (List Seen))), false)) fun r4 =>
    if r4.2.2 = true then
      some (r4.2.1, 0)
    else
      some ((none : Option (Wheel_ × (List Seen))), 3)
def coins_Now_r1 (y1 : Int) (yy1 : Int) (s : (List Int)) : Option (Bool × ((List Int))) :=
  Option.bind (app s ([yy1] : List Int)) fun l5 =>
  some (true, l5)
def coins_Now (n : Nat) (a0 : Wheel) (a1 : List Seen) : Option ((List Int) × Int) :=
  Option.bind (coins_stood n a0 a1) fun r1 =>
  if (r1.2 != 0) = true then
    some (([] : List Int), r1.2)
  else
    Option.bind (r1.1) fun x3 =>
    Option.bind (coins_stood_c2 n (coins_Now_r1) x3.1 x3.2 ([] : List Int)) fun r6 =>
    if decide (r6.2.length ≤ 1048576) = true then some (uniqF none (isort r6.2), 0) else none
def ref01_SameInts_j1 : Option (Bool) :=
  some true
def ref01_SameInts_l1_b (a0 : List Int) (a1 : List Int) (rec1 : Int → Option (Bool)) (v2 : Int) : Option (Bool) :=
  if decide (v2 < (a0.length : Int)) = true then
    Option.bind (idx a0 v2) fun x4 =>
    Option.bind (idx a1 v2) fun x5 =>
    if (x4 != x5) = true then
      some false
    else
      rec1 (w64 (v2 + 1))
  else
    ref01_SameInts_j1
def ref01_SameInts_l1 (a0 : List Int) (a1 : List Int) : Nat → Int → Option (Bool)
  | 0, _ => none
  | m + 1, v2 => ref01_SameInts_l1_b a0 a1 (ref01_SameInts_l1 a0 a1 m) v2
def ref01_SameInts (n : Nat) (a0 : List Int) (a1 : List Int) : Option (Bool) :=
  if ((a0.length : Int) != (a1.length : Int)) = true then
    some false
  else
    ref01_SameInts_l1 a0 a1 n 0
def coins_wheel_isPlace (a0 : Wheel_) (a1 : Int) : Option (Bool) :=
  Option.bind (coins_within a1 0 (w64 (a0.Wheel.Round - 1))) fun r1 =>
  some r1
def slices_IndexFunc_int_j1 {S : Type} (v1 : S) : Option (Int × S) :=
  some ((-1), v1)
def slices_IndexFunc_int_l1_b {S : Type} (a0 : List Int) (aF : Int → S → Option (Bool × S)) (rec1 : Int → S → Option (Int × S)) (v3 : Int) (v4 : S) : Option (Int × S) :=
  if decide (v3 < (a0.length : Int)) = true then
    Option.bind (idx a0 v3) fun x6 =>
    Option.bind (aF x6 v4) fun r7 =>
    if r7.1 = true then
      some (v3, r7.2)
    else
      rec1 (w64 (v3 + 1)) r7.2
  else
    slices_IndexFunc_int_j1 v4
def slices_IndexFunc_int_l1 {S : Type} (a0 : List Int) (aF : Int → S → Option (Bool × S)) : Nat → Int → S → Option (Int × S)
  | 0, _, _ => none
  | m + 1, v3, v4 => slices_IndexFunc_int_l1_b a0 aF (slices_IndexFunc_int_l1 a0 aF m) v3 v4
def slices_IndexFunc_int {S : Type} (n : Nat) (aF : Int → S → Option (Bool × S)) (a0 : List Int) (st : S) : Option (Int × S) :=
  slices_IndexFunc_int_l1 a0 aF n 0 st
def slices_ContainsFunc_int {S : Type} (n : Nat) (aF : Int → S → Option (Bool × S)) (a0 : List Int) (st : S) : Option (Bool × S) :=
  Option.bind (slices_IndexFunc_int n aF a0 st) fun r1 =>
  some (decide (r1.1 ≥ 0), r1.2)
def coins_all_int_c1 {S : Type} (aF : Int → S → Option (Bool × S)) (a0 : Int) (st : S) : Option (Bool × S) :=
  Option.bind (aF a0 st) fun r1 =>
  some ((!r1.1), r1.2)
def coins_all_int_j1 {S : Type} (v1 : Bool) (v2 : S) : Option (Bool × S) :=
  some (v1, v2)
def coins_all_int {S : Type} (n : Nat) (aF : Int → S → Option (Bool × S)) (a0 : List Int) (st : S) : Option (Bool × S) :=
  if decide ((a0.length : Int) ≤ 20) = true then
    Option.bind (slices_ContainsFunc_int n (coins_all_int_c1 aF) a0 st) fun r4 =>
    coins_all_int_j1 (!r4.1) r4.2
  else
    coins_all_int_j1 false st
def coins_wheel_isAct_j1 (v1 : Bool) : Option (Bool) :=
  some v1
def coins_wheel_isAct (a0 : Wheel_) (a1 : Int) : Option (Bool) :=
  if (a1 == (-1)) = true then
    coins_wheel_isAct_j1 true
  else
    Option.bind (coins_wheel_isKind a0 a1) fun r3 =>
    coins_wheel_isAct_j1 r3
def coins_Run_c1_j1 (v1 : Bool) : Option (Bool) :=
  some v1
def coins_Run_c1 (n : Nat) (a0 : Wheel_) (a1 : Stand) (a2 : List Int) : Option (Bool) :=
  Option.bind (coins_wheel_isPlace a0 a1.Place) fun r2 =>
  if r2 = true then
    Option.bind (coins_within a1.Credit 0 20) fun r4 =>
    if r4 = true then
      Option.bind (coins_all_int n (fun (x0 : Int) (_ : Unit) => (coins_wheel_isAct a0 x0).map fun y => (y, ())) a2 ()) fun r6 =>
      coins_Run_c1_j1 r6.1
    else
      coins_Run_c1_j1 false
  else
    coins_Run_c1_j1 false
def coins_Run_j1 (v3 : Int) (v4 : Int) (v5 : Int) : Option (Stand × Int × Int) :=
  some ((⟨v4, v5⟩ : Stand), v3, 0)
def coins_Run_j2 (n : Nat) (rec1 : Int → Int → Int → Int → Option (Stand × Int × Int)) (r1 : (Wheel_ × Int) × Unit) (v9 : Int) (v10 : Int) (v11 : Int) (x13 : Int) (v14 : Int) : Option (Stand × Int × Int) :=
  Option.bind (coins_wheel_act n r1.1.1 (⟨v10, v11⟩ : Stand) x13) fun r15 =>
  rec1 v14 (w64 (v9 + 1)) r15.Place r15.Credit
def coins_Run_j3 (n : Nat) (rec1 : Int → Int → Int → Int → Option (Stand × Int × Int)) (r1 : (Wheel_ × Int) × Unit) (v8 : Int) (v9 : Int) (v10 : Int) (v11 : Int) (x13 : Int) (v16 : Bool) : Option (Stand × Int × Int) :=
  if v16 = true then
    coins_Run_j2 n rec1 r1 v9 v10 v11 x13 (w64 (v8 + 1))
  else
    coins_Run_j2 n rec1 r1 v9 v10 v11 x13 v8
def coins_Run_l1_b (n : Nat) (a2 : List Int) (r1 : (Wheel_ × Int) × Unit) (rec1 : Int → Int → Int → Int → Option (Stand × Int × Int)) (v8 : Int) (v9 : Int) (v10 : Int) (v11 : Int) : Option (Stand × Int × Int) :=
  if decide (v9 < (a2.length : Int)) = true then
    Option.bind (idx a2 v9) fun x13 =>
    if (x13 == (-1)) = true then
      coins_Run_j3 n rec1 r1 v8 v9 v10 v11 x13 (decide (v11 > 0))
    else
      coins_Run_j3 n rec1 r1 v8 v9 v10 v11 x13 false
  else
    coins_Run_j1 v8 v10 v11
def coins_Run_l1 (n : Nat) (a2 : List Int) (r1 : (Wheel_ × Int) × Unit) : Nat → Int → Int → Int → Int → Option (Stand × Int × Int)
  | 0, _, _, _, _ => none
  | m + 1, v8, v9, v10, v11 => coins_Run_l1_b n a2 r1 (coins_Run_l1 n a2 r1 m) v8 v9 v10 v11
def coins_Run (n : Nat) (a0 : Wheel) (a1 : Stand) (a2 : List Int) : Option (Stand × Int × Int) :=
  Option.bind (coins_open n (fun (x0 : Wheel_) (_ : Unit) => (coins_Run_c1 n x0 a1 a2).map fun y => (y, ())) a0 ()) fun r1 =>
  if (r1.1.2 != 0) = true then
    some ((⟨0, 0⟩ : Stand), 0, r1.1.2)
  else
    coins_Run_l1 n a2 r1 n 0 0 a1.Place a1.Credit
def coins_Least (n : Nat) (a0 : Wheel) (a1 : List Int) : Option (Int × Int) :=
  Option.bind (coins_seek n a0 a1 false) fun r1 =>
  if r1.1.isSome = true then
    Option.bind (r1.1) fun x3 =>
    if (r1.2.2 != 0) = true then
      some (0, r1.2.2)
    else
      Option.bind (coins_search_buys n (x3, false) r1.2.1 ([] : List (Spot_ × Int))) fun r5 =>
      some (r5.1, 0)
  else
    if (r1.2.2 != 0) = true then
      some (0, r1.2.2)
    else
      none
def law01_Example : Option (Wheel) :=
  some (⟨50, ([10, 20, 25] : List Int), ([5, 10, 25] : List Int)⟩ : Wheel)
def law01_works_j1 (v7 : Bool) : Option (Bool) :=
  some v7
def law01_works (n : Nat) : Option (Bool) :=
  Option.bind (law01_Example) fun r1 =>
  Option.bind (coins_Run n r1 (⟨0, 0⟩ : Stand) ([0, (-1), 1, (-1), 1] : List Int)) fun r2 =>
  Option.bind (coins_Most n r1 ([0, 0, 2] : List Int)) fun r3 =>
  Option.bind (coins_Least n r1 ([0, 0, 2] : List Int)) fun r4 =>
  Option.bind (coins_Cheapest n r1 4) fun r5 =>
  Option.bind (coins_Now n (⟨5, ([2, 3] : List Int), ([1, 2] : List Int)⟩ : Wheel) ([(⟨0, 0⟩ : Seen), (⟨0, 1⟩ : Seen)] : List Seen)) fun r6 =>
  if (r2.2.2 == 0) = true then
    if (r3.2 == 0) = true then
      if (r4.2 == 0) = true then
        if (r5.2 == 0) = true then
          if (r6.2 == 0) = true then
            if ((r2.1.Place == 10) && ((r2.1.Credit == 1) && true)) = true then
              if (r2.2.1 == 1) = true then
                if (r3.1 == 6) = true then
                  if (r4.1 == 3) = true then
                    if (r5.1 == 35) = true then
                      Option.bind (ref01_SameInts n r6.1 ([2] : List Int)) fun r18 =>
                      law01_works_j1 r18
                    else
                      law01_works_j1 false
                  else
                    law01_works_j1 false
                else
                  law01_works_j1 false
              else
                law01_works_j1 false
            else
              law01_works_j1 false
          else
            law01_works_j1 false
        else
          law01_works_j1 false
      else
        law01_works_j1 false
    else
      law01_works_j1 false
  else
    law01_works_j1 false
def ref01_Copy (a0 : Wheel) : Option (Wheel) :=
  Option.bind (app ([] : List Int) a0.Notches) fun l1 =>
  Option.bind (app ([] : List Int) a0.Coins) fun l2 =>
  some (⟨a0.Round, l1, l2⟩ : Wheel)
def ref01_Within_j1 (v1 : Bool) : Option (Bool) :=
  some v1
def ref01_Within (a0 : Int) (a1 : Int) (a2 : Int) : Option (Bool) :=
  if decide (a0 ≥ a1) = true then
    ref01_Within_j1 (decide (a0 ≤ a2))
  else
    ref01_Within_j1 false
def ref01_Rising_j1 : Option (Bool) :=
  some true
def ref01_Rising_j2 (rec1 : Int → Option (Bool)) (v1 : Int) (v3 : Bool) : Option (Bool) :=
  if v3 = true then
    some false
  else
    rec1 (w64 (v1 + 1))
def ref01_Rising_l1_b (a0 : List Int) (a1 : Int) (a2 : Int) (rec1 : Int → Option (Bool)) (v1 : Int) : Option (Bool) :=
  if decide (v1 < (a0.length : Int)) = true then
    Option.bind (idx a0 v1) fun x5 =>
    Option.bind (ref01_Within x5 a1 a2) fun r6 =>
    if (!r6) = true then
      ref01_Rising_j2 rec1 v1 true
    else
      if decide (v1 > 0) = true then
        Option.bind (idx a0 v1) fun x9 =>
        Option.bind (idx a0 (w64 (v1 - 1))) fun x10 =>
        ref01_Rising_j2 rec1 v1 (decide (x9 ≤ x10))
      else
        ref01_Rising_j2 rec1 v1 false
  else
    ref01_Rising_j1
def ref01_Rising_l1 (a0 : List Int) (a1 : Int) (a2 : Int) : Nat → Int → Option (Bool)
  | 0, _ => none
  | m + 1, v1 => ref01_Rising_l1_b a0 a1 a2 (ref01_Rising_l1 a0 a1 a2 m) v1
def ref01_Rising (n : Nat) (a0 : List Int) (a1 : Int) (a2 : Int) : Option (Bool) :=
  ref01_Rising_l1 a0 a1 a2 n 0
def ref01_Check_j1 (v1 : Bool) : Option (Int) :=
  if v1 = true then
    some 10
  else
    some 0
def ref01_Check (n : Nat) (a0 : Wheel) : Option (Int) :=
  Option.bind (ref01_Within a0.Round 1 200) fun r3 =>
  if (!r3) = true then
    ref01_Check_j1 true
  else
    if decide ((a0.Notches.length : Int) > 12) = true then
      ref01_Check_j1 true
    else
      Option.bind (ref01_Rising n a0.Notches 1 a0.Round) fun r6 =>
      if (!r6) = true then
        ref01_Check_j1 true
      else
        if decide ((a0.Coins.length : Int) > 4) = true then
          ref01_Check_j1 true
        else
          Option.bind (ref01_Rising n a0.Coins 1 100) fun r9 =>
          ref01_Check_j1 (!r9)
def ref01_In_j1 : Option (Bool) :=
  some false
def ref01_In_l1_b (a0 : List Int) (a1 : Int) (rec1 : Int → Option (Bool)) (v1 : Int) : Option (Bool) :=
  if decide (v1 < (a0.length : Int)) = true then
    Option.bind (idx a0 v1) fun x3 =>
    if (x3 == a1) = true then
      some true
    else
      rec1 (w64 (v1 + 1))
  else
    ref01_In_j1
def ref01_In_l1 (a0 : List Int) (a1 : Int) : Nat → Int → Option (Bool)
  | 0, _ => none
  | m + 1, v1 => ref01_In_l1_b a0 a1 (ref01_In_l1 a0 a1 m) v1
def ref01_In (n : Nat) (a0 : List Int) (a1 : Int) : Option (Bool) :=
  ref01_In_l1 a0 a1 n 0
def ref01_Put_j1 (v1 : Int) (v2 : Int) : Option (Int × Int) :=
  some (v1, v2)
def ref01_Put_j2 (rec1 : Int → Int → Int → Option (Int × Int)) (v5 : Int) (v7 : Int) (v8 : Int) : Option (Int × Int) :=
  rec1 v7 v8 (w64 (v5 + 1))
def ref01_Put_j3 (rec1 : Int → Int → Int → Option (Int × Int)) (a0 : Wheel) (v3 : Int) (v5 : Int) (v9 : Int) : Option (Int × Int) :=
  if ((w64 (v3 + 1)) == a0.Round) = true then
    ref01_Put_j2 rec1 v5 0 v9
  else
    ref01_Put_j2 rec1 v5 (w64 (v3 + 1)) v9
def ref01_Put_l1_b (n : Nat) (a0 : Wheel) (a2 : Int) (rec1 : Int → Int → Int → Option (Int × Int)) (v3 : Int) (v4 : Int) (v5 : Int) : Option (Int × Int) :=
  if decide (v5 < a2) = true then
    Option.bind (ref01_In n a0.Notches (w64 (v3 + 1))) fun r11 =>
    if r11 = true then
      ref01_Put_j3 rec1 a0 v3 v5 (w64 (v4 + 1))
    else
      ref01_Put_j3 rec1 a0 v3 v5 v4
  else
    ref01_Put_j1 v3 v4
def ref01_Put_l1 (n : Nat) (a0 : Wheel) (a2 : Int) : Nat → Int → Int → Int → Option (Int × Int)
  | 0, _, _, _ => none
  | m + 1, v3, v4, v5 => ref01_Put_l1_b n a0 a2 (ref01_Put_l1 n a0 a2 m) v3 v4 v5
def ref01_Put (n : Nat) (a0 : Wheel) (a1 : Int) (a2 : Int) : Option (Int × Int) :=
  ref01_Put_l1 n a0 a2 n a1 0 0
def law01_same_j1 (v1 : Bool) : Option (Bool) :=
  some v1
def law01_same (n : Nat) (a0 : Wheel) (a1 : Wheel) : Option (Bool) :=
  if (a0.Round == a1.Round) = true then
    Option.bind (ref01_SameInts n a0.Notches a1.Notches) fun r3 =>
    if r3 = true then
      Option.bind (ref01_SameInts n a0.Coins a1.Coins) fun r5 =>
      law01_same_j1 r5
    else
      law01_same_j1 false
  else
    law01_same_j1 false
def ref01_IsPurse_j1 (v2 : Int) : Option (Bool) :=
  some (decide (v2 ≤ 12))
def ref01_IsPurse_l1_b (a1 : List Int) (rec1 : Int → Int → Option (Bool)) (v3 : Int) (v4 : Int) : Option (Bool) :=
  if decide (v4 < (a1.length : Int)) = true then
    Option.bind (idx a1 v4) fun x6 =>
    Option.bind (ref01_Within x6 0 12) fun r7 =>
    if (!r7) = true then
      some false
    else
      Option.bind (idx a1 v4) fun x9 =>
      rec1 (w64 (v3 + x9)) (w64 (v4 + 1))
  else
    ref01_IsPurse_j1 v3
def ref01_IsPurse_l1 (a1 : List Int) : Nat → Int → Int → Option (Bool)
  | 0, _, _ => none
  | m + 1, v3, v4 => ref01_IsPurse_l1_b a1 (ref01_IsPurse_l1 a1 m) v3 v4
def ref01_IsPurse (n : Nat) (a0 : Wheel) (a1 : List Int) : Option (Bool) :=
  if ((a1.length : Int) != (a0.Coins.length : Int)) = true then
    some false
  else
    ref01_IsPurse_l1 a1 n 0 0
def law01_rich_j2 (v4 : Int) : Option (Bool) :=
  some (decide (v4 > 6))
def law01_rich_l1_b (a1 : List Int) (rec1 : Int → Int → Option (Bool)) (v5 : Int) (v6 : Int) : Option (Bool) :=
  if decide (v6 < (a1.length : Int)) = true then
    Option.bind (idx a1 v6) fun x8 =>
    rec1 (w64 (v5 + x8)) (w64 (v6 + 1))
  else
    law01_rich_j2 v5
def law01_rich_l1 (a1 : List Int) : Nat → Int → Int → Option (Bool)
  | 0, _, _ => none
  | m + 1, v5, v6 => law01_rich_l1_b a1 (law01_rich_l1 a1 m) v5 v6
def law01_rich_j1 (n : Nat) (a1 : List Int) (v2 : Bool) : Option (Bool) :=
  if v2 = true then
    some false
  else
    law01_rich_l1 a1 n 0 0
def law01_rich (n : Nat) (a0 : Wheel) (a1 : List Int) : Option (Bool) :=
  if decide ((a1.length : Int) > 40) = true then
    some true
  else
    Option.bind (ref01_Check n a0) fun r9 =>
    if (r9 != 0) = true then
      law01_rich_j1 n a1 true
    else
      Option.bind (ref01_IsPurse n a0 a1) fun r11 =>
      law01_rich_j1 n a1 (!r11)
def ref01_PurseWorth_j1 (v1 : Int) : Option (Int) :=
  some v1
def ref01_PurseWorth_l1_b (a0 : Wheel) (a1 : List Int) (rec1 : Int → Int → Option (Int)) (v2 : Int) (v3 : Int) : Option (Int) :=
  if decide (v3 < (a1.length : Int)) = true then
    Option.bind (idx a1 v3) fun x5 =>
    Option.bind (idx a0.Coins v3) fun x6 =>
    rec1 (w64 (v2 + (w64 (x5 * x6)))) (w64 (v3 + 1))
  else
    ref01_PurseWorth_j1 v2
def ref01_PurseWorth_l1 (a0 : Wheel) (a1 : List Int) : Nat → Int → Int → Option (Int)
  | 0, _, _ => none
  | m + 1, v2, v3 => ref01_PurseWorth_l1_b a0 a1 (ref01_PurseWorth_l1 a0 a1 m) v2 v3
def ref01_PurseWorth (n : Nat) (a0 : Wheel) (a1 : List Int) : Option (Int) :=
  ref01_PurseWorth_l1 a0 a1 n 0 0
def ref01_Act (n : Nat) (a0 : Wheel) (a1 : Stand) (a2 : Int) : Option (Stand × Bool) :=
  if decide (a2 ≥ 0) = true then
    Option.bind (idx a0.Coins a2) fun x2 =>
    Option.bind (ref01_Put n a0 a1.Place x2) fun r3 =>
    some ((⟨r3.1, w64 (a1.Credit + r3.2)⟩ : Stand), false)
  else
    if (a1.Credit == 0) = true then
      some (a1, false)
    else
      some ((⟨0, w64 (a1.Credit - 1)⟩ : Stand), true)
def ref01_Bag_j1 (v1 : List Int) : Option ((List Int)) :=
  some v1
def ref01_Bag_j2 (rec1 : (List Int) → Int → Option ((List Int))) (v3 : Int) (v5 : List Int) : Option ((List Int)) :=
  rec1 v5 (w64 (v3 + 1))
def ref01_Bag_j3 (rec1 : (List Int) → Int → Option ((List Int))) (v2 : List Int) (v3 : Int) (v6 : Int) : Option ((List Int)) :=
  Option.bind (app v2 ([v6] : List Int)) fun l7 =>
  ref01_Bag_j2 rec1 v3 l7
def ref01_Bag_j4 (rec2 : Int → Int → Option ((List Int))) (v9 : Int) (v11 : Int) : Option ((List Int)) :=
  rec2 v11 (w64 (v9 + 1))
def ref01_Bag_l2_b (rec1 : (List Int) → Int → Option ((List Int))) (a1 : List Int) (v2 : List Int) (v3 : Int) (rec2 : Int → Int → Option ((List Int))) (v8 : Int) (v9 : Int) : Option ((List Int)) :=
  if decide (v9 < (a1.length : Int)) = true then
    Option.bind (idx a1 v9) fun x12 =>
    if (x12 == v3) = true then
      ref01_Bag_j4 rec2 v9 (w64 (v8 + 1))
    else
      ref01_Bag_j4 rec2 v9 v8
  else
    ref01_Bag_j3 rec1 v2 v3 v8
def ref01_Bag_l2 (rec1 : (List Int) → Int → Option ((List Int))) (a1 : List Int) (v2 : List Int) (v3 : Int) : Nat → Int → Int → Option ((List Int))
  | 0, _, _ => none
  | m + 1, v8, v9 => ref01_Bag_l2_b rec1 a1 v2 v3 (ref01_Bag_l2 rec1 a1 v2 v3 m) v8 v9
def ref01_Bag_l1_b (n : Nat) (a0 : Wheel) (a1 : List Int) (rec1 : (List Int) → Int → Option ((List Int))) (v2 : List Int) (v3 : Int) : Option ((List Int)) :=
  if decide (v3 < (a0.Coins.length : Int)) = true then
    ref01_Bag_l2 rec1 a1 v2 v3 n 0 0
  else
    ref01_Bag_j1 v2
def ref01_Bag_l1 (n : Nat) (a0 : Wheel) (a1 : List Int) : Nat → (List Int) → Int → Option ((List Int))
  | 0, _, _ => none
  | m + 1, v2, v3 => ref01_Bag_l1_b n a0 a1 (ref01_Bag_l1 n a0 a1 m) v2 v3
def ref01_Bag (n : Nat) (a0 : Wheel) (a1 : List Int) : Option ((List Int)) :=
  ref01_Bag_l1 n a0 a1 n ([] : List Int) 0
def coins_Order_c1 (n : Nat) (a0 : List Int) (a1 : Spot_) (a2 : Int) (a3 : Wheel_ × Bool) (a4 : Int) (st : (List Int) × Spot_ × Bool × (List (Spot_ × Int))) : Option (Bool × ((List Int) × Spot_ × Bool × (List (Spot_ × Int)))) :=
  Option.bind (coins_search_buys n a3 a1 st.2.2.2) fun r1 =>
  if ((w64 (a2 + r1.1)) != a4) = true then
    some (true, (st.1, st.2.1, st.2.2.1, r1.2))
  else
    Option.bind (app st.1 a0) fun l3 =>
    some (false, (l3, a1, true, r1.2))
def coins_Order_j1 (v6 : List Int) : Option ((List Int) × Int) :=
  some (v6, 0)
def coins_Order_l1_b (n : Nat) (x3 : Wheel_) (rec1 : Bool → (List Int) → Int → Int → Int → Int → Int → Int → (List (Spot_ × Int)) → Option ((List Int) × Int)) (v9 : Bool) (v10 : List Int) (v11 : Int) (v12 : Int) (v13 : Int) (v14 : Int) (v15 : Int) (v16 : Int) (v17 : List (Spot_ × Int)) : Option ((List Int) × Int) :=
  if v9 = true then
    Option.bind (coins_search_buys n (x3, true) (⟨(⟨v11, v12, v13, v14⟩ : Bag_), v15, v16⟩ : Spot_) v17) fun r19 =>
    Option.bind (coins_search_next n (fun (x0 : List Int) (x1 : Spot_) (x2 : Int) s => coins_Order_c1 n x0 x1 x2 (x3, true) r19.1 s) (x3, true) (⟨(⟨v11, v12, v13, v14⟩ : Bag_), v15, v16⟩ : Spot_) (v10, (⟨(⟨v11, v12, v13, v14⟩ : Bag_), v15, v16⟩ : Spot_), false, r19.2)) fun r20 =>
    rec1 r20.2.2.2.1 r20.2.1 r20.2.2.1.left.c0 r20.2.2.1.left.c1 r20.2.2.1.left.c2 r20.2.2.1.left.c3 r20.2.2.1.place r20.2.2.1.credit r20.2.2.2.2
  else
    coins_Order_j1 v10
def coins_Order_l1 (n : Nat) (x3 : Wheel_) : Nat → Bool → (List Int) → Int → Int → Int → Int → Int → Int → (List (Spot_ × Int)) → Option ((List Int) × Int)
  | 0, _, _, _, _, _, _, _, _, _ => none
  | m + 1, v9, v10, v11, v12, v13, v14, v15, v16, v17 => coins_Order_l1_b n x3 (coins_Order_l1 n x3 m) v9 v10 v11 v12 v13 v14 v15 v16 v17
def coins_Order_l2_b (rec2 : Option ((List Int) × Int)) : Option ((List Int) × Int) :=
  none
def coins_Order_l2 : Nat → Option ((List Int) × Int)
  | 0 => none
  | m + 1 => coins_Order_l2_b (coins_Order_l2 m)
def coins_Order (n : Nat) (a0 : Wheel) (a1 : List Int) : Option ((List Int) × Int) :=
  Option.bind (coins_seek n a0 a1 true) fun r1 =>
  if r1.1.isSome = true then
    Option.bind (r1.1) fun x3 =>
    if (r1.2.2 != 0) = true then
      some (([] : List Int), r1.2.2)
    else
      coins_Order_l1 n x3 n true ([] : List Int) r1.2.1.left.c0 r1.2.1.left.c1 r1.2.1.left.c2 r1.2.1.left.c3 r1.2.1.place r1.2.1.credit ([] : List (Spot_ × Int))
  else
    if (r1.2.2 != 0) = true then
      some (([] : List Int), r1.2.2)
    else
      coins_Order_l2 n
def ref01_Buys_j1 (v1 : Int) : Option (Int) :=
  some v1
def ref01_Buys_j2 (rec1 : Int → Int → Int → Int → Option (Int)) (v5 : Int) (r10 : Stand × Bool) (v11 : Int) : Option (Int) :=
  rec1 v11 (w64 (v5 + 1)) r10.1.Place r10.1.Credit
def ref01_Buys_l1_b (n : Nat) (a0 : Wheel) (a1 : List Int) (rec1 : Int → Int → Int → Int → Option (Int)) (v4 : Int) (v5 : Int) (v6 : Int) (v7 : Int) : Option (Int) :=
  if decide (v5 < (a1.length : Int)) = true then
    Option.bind (idx a1 v5) fun x9 =>
    Option.bind (ref01_Act n a0 (⟨v6, v7⟩ : Stand) x9) fun r10 =>
    if r10.2 = true then
      ref01_Buys_j2 rec1 v5 r10 (w64 ((w64 (v4 + (w64 (r10.1.Credit - v7)))) + 1))
    else
      ref01_Buys_j2 rec1 v5 r10 (w64 (v4 + (w64 (r10.1.Credit - v7))))
  else
    ref01_Buys_j1 v4
def ref01_Buys_l1 (n : Nat) (a0 : Wheel) (a1 : List Int) : Nat → Int → Int → Int → Int → Option (Int)
  | 0, _, _, _, _ => none
  | m + 1, v4, v5, v6, v7 => ref01_Buys_l1_b n a0 a1 (ref01_Buys_l1 n a0 a1 m) v4 v5 v6 v7
def ref01_Buys (n : Nat) (a0 : Wheel) (a1 : List Int) : Option (Int) :=
  ref01_Buys_l1 n a0 a1 n 0 0 0 0
def law01_isWay_j2 (v2 : Bool) : Option (Bool) :=
  some v2
def law01_isWay_j1 (n : Nat) (a0 : Wheel) (a1 : List Int) (a2 : List Int) (v1 : Int) : Option (Bool) :=
  if decide ((a2.length : Int) ≤ (w64 (2 * v1))) = true then
    Option.bind (ref01_Bag n a0 a2) fun r4 =>
    Option.bind (ref01_SameInts n r4 a1) fun r5 =>
    law01_isWay_j2 r5
  else
    law01_isWay_j2 false
def law01_isWay_j3 (rec1 : Int → Int → Option (Bool)) (v7 : Int) (v9 : Int) : Option (Bool) :=
  rec1 v9 (w64 (v7 + 1))
def law01_isWay_j4 (rec1 : Int → Int → Option (Bool)) (a2 : List Int) (v6 : Int) (v7 : Int) (v10 : Bool) : Option (Bool) :=
  if v10 = true then
    some false
  else
    Option.bind (idx a2 v7) fun x12 =>
    if decide (x12 ≥ 0) = true then
      law01_isWay_j3 rec1 v7 (w64 (v6 + 1))
    else
      law01_isWay_j3 rec1 v7 v6
def law01_isWay_l1_b (n : Nat) (a0 : Wheel) (a1 : List Int) (a2 : List Int) (rec1 : Int → Int → Option (Bool)) (v6 : Int) (v7 : Int) : Option (Bool) :=
  if decide (v7 < (a2.length : Int)) = true then
    Option.bind (idx a2 v7) fun x14 =>
    if decide (x14 < (-1)) = true then
      law01_isWay_j4 rec1 a2 v6 v7 true
    else
      Option.bind (idx a2 v7) fun x16 =>
      law01_isWay_j4 rec1 a2 v6 v7 (decide (x16 ≥ (a0.Coins.length : Int)))
  else
    law01_isWay_j1 n a0 a1 a2 v6
def law01_isWay_l1 (n : Nat) (a0 : Wheel) (a1 : List Int) (a2 : List Int) : Nat → Int → Int → Option (Bool)
  | 0, _, _ => none
  | m + 1, v6, v7 => law01_isWay_l1_b n a0 a1 a2 (law01_isWay_l1 n a0 a1 a2 m) v6 v7
def law01_isWay (n : Nat) (a0 : Wheel) (a1 : List Int) (a2 : List Int) : Option (Bool) :=
  law01_isWay_l1 n a0 a1 a2 n 0 0
def coins_parts_l1_b {S : Type} (rec : Bag_ → Int → S → Option (Unit × S)) (a1 : Int) (rec1 : Int → Int → Int → Int → Int → S → Option (Unit × S)) (v5 : Int) (v6 : Int) (v7 : Int) (v8 : Int) (v9 : Int) (v10 : S) : Option (Unit × S) :=
  if decide (v5 ≥ 0) = true then
    Option.bind (idx ([v6, v7, v8, v9] : List Int) a1) fun x12 =>
    Option.bind (setI ([v6, v7, v8, v9] : List Int) a1 v5) fun l13 =>
    Option.bind (rec (⟨(l13.getD 0 0), (l13.getD 1 0), (l13.getD 2 0), (l13.getD 3 0)⟩ : Bag_) (w64 (a1 + 1)) v10) fun r14 =>
    rec1 (w64 (v5 - 1)) (l13.getD 0 0) (l13.getD 1 0) (l13.getD 2 0) (l13.getD 3 0) r14.2
  else
    some ((), v10)
def coins_parts_l1 {S : Type} (rec : Bag_ → Int → S → Option (Unit × S)) (a1 : Int) : Nat → Int → Int → Int → Int → Int → S → Option (Unit × S)
  | 0, _, _, _, _, _, _ => none
  | m + 1, v5, v6, v7, v8, v9, v10 => coins_parts_l1_b rec a1 (coins_parts_l1 rec a1 m) v5 v6 v7 v8 v9 v10
def coins_parts_b {S : Type} (n : Nat) (rec : Bag_ → Int → S → Option (Unit × S)) (aF : Bag_ → S → Option (Unit × S)) (a0 : Bag_) (a1 : Int) (st : S) : Option (Unit × S) :=
  if (a1 == 4) = true then
    Option.bind (aF a0 st) fun r2 =>
    some ((), r2.2)
  else
    Option.bind (idx ([a0.c0, a0.c1, a0.c2, a0.c3] : List Int) a1) fun x3 =>
    coins_parts_l1 rec a1 n x3 a0.c0 a0.c1 a0.c2 a0.c3 st
def coins_parts {S : Type} : Nat → (Bag_ → S → Option (Unit × S)) → Bag_ → Int → S → Option (Unit × S)
  | 0, _, _, _, _ => none
  | n + 1, aF, a0, a1, st => coins_parts_b n (coins_parts n aF) aF a0 a1 st
def coins_wheel_worth_j1 (v1 : Int) : Option (Int) :=
  some v1
def coins_wheel_worth_l1_b (a0 : Wheel_) (a1 : Bag_) (rec1 : Int → Int → Option (Int)) (v2 : Int) (v3 : Int) : Option (Int) :=
  if decide (v3 < (a0.Wheel.Coins.length : Int)) = true then
    Option.bind (idx a0.Wheel.Coins v3) fun x5 =>
    Option.bind (idx ([a1.c0, a1.c1, a1.c2, a1.c3] : List Int) v3) fun x6 =>
    rec1 (w64 (v2 + (w64 (x5 * x6)))) (w64 (v3 + 1))
  else
    coins_wheel_worth_j1 v2
def coins_wheel_worth_l1 (a0 : Wheel_) (a1 : Bag_) : Nat → Int → Int → Option (Int)
  | 0, _, _ => none
  | m + 1, v2, v3 => coins_wheel_worth_l1_b a0 a1 (coins_wheel_worth_l1 a0 a1 m) v2 v3
def coins_wheel_worth (n : Nat) (a0 : Wheel_) (a1 : Bag_) : Option (Int) :=
  coins_wheel_worth_l1 a0 a1 n 0 0
def coins_Wasted_c1_j1 (st : Int × (List (Spot_ × Int))) (r1 : Int) (r2 : Int) (v3 : Bool) (v4 : List (Spot_ × Int)) : Option (Unit × (Int × (List (Spot_ × Int)))) :=
  if v3 = true then
    some ((), (w64 (r1 - r2), v4))
  else
    some ((), (st.1, v4))
def coins_Wasted_c1 (n : Nat) (a0 : Bag_) (a1 : Wheel_ × Bool) (a2 : Spot_) (a4 : Int) (st : Int × (List (Spot_ × Int))) : Option (Unit × (Int × (List (Spot_ × Int)))) :=
  Option.bind (coins_wheel_worth n a1.1 a2.left) fun r1 =>
  Option.bind (coins_wheel_worth n a1.1 a0) fun r2 =>
  if decide ((w64 (r1 - r2)) > st.1) = true then
    Option.bind (coins_search_buys n a1 (⟨a0, 0, 0⟩ : Spot_) st.2) fun r7 =>
    coins_Wasted_c1_j1 st r1 r2 (r7.1 == a4) r7.2
  else
    coins_Wasted_c1_j1 st r1 r2 false st.2
def coins_Wasted (n : Nat) (a0 : Wheel) (a1 : List Int) : Option (Int × Int) :=
  Option.bind (coins_seek n a0 a1 true) fun r1 =>
  if r1.1.isSome = true then
    Option.bind (r1.1) fun x3 =>
    if (r1.2.2 != 0) = true then
      some (0, r1.2.2)
    else
      Option.bind (coins_search_buys n (x3, true) r1.2.1 ([] : List (Spot_ × Int))) fun r5 =>
      Option.bind (coins_parts n (fun (x0 : Bag_) s => coins_Wasted_c1 n x0 (x3, true) r1.2.1 r5.1 s) r1.2.1.left 0 (0, r5.2)) fun r6 =>
      some (r6.2.1, 0)
  else
    if (r1.2.2 != 0) = true then
      some (0, r1.2.2)
    else
      none
def ref01_less (a0 : List Int) (a1 : Int) : Option ((List Int)) :=
  Option.bind (app ([] : List Int) a0) fun l1 =>
  Option.bind (idx l1 a1) fun x2 =>
  Option.bind (idx l1 a1) fun x3 =>
  some (l1.set (Int.toNat a1) (w64 (x2 - 1)))
def ref01_all_j2 (v4 : Int) (v5 : Int) : Option (Bought) :=
  some (⟨v4, v5⟩ : Bought)
def ref01_all_j3 (n : Nat) (rec : Wheel → Stand → (List Int) → Option (Bought)) (a0 : Wheel) (a1 : Stand) (a2 : List Int) (v2 : Int) (v3 : Int) (v6 : Bool) : Option (Bought) :=
  if v6 = true then
    Option.bind (ref01_Act n a0 a1 (-1)) fun r8 =>
    Option.bind (rec a0 r8.1 a2) fun r9 =>
    ref01_all_j2 (max v2 r9.Most) (min v3 r9.Least)
  else
    ref01_all_j2 v2 v3
def ref01_all_j1 (n : Nat) (rec : Wheel → Stand → (List Int) → Option (Bought)) (a0 : Wheel) (a1 : Stand) (a2 : List Int) (v1 : Bool) (v2 : Int) (v3 : Int) : Option (Bought) :=
  if (!v1) = true then
    if decide (a1.Credit > 0) = true then
      ref01_all_j3 n rec a0 a1 a2 v2 v3 (decide (a1.Place > 0))
    else
      ref01_all_j3 n rec a0 a1 a2 v2 v3 false
  else
    ref01_all_j3 n rec a0 a1 a2 v2 v3 false
def ref01_all_j4 (rec1 : Bool → Int → Int → Int → Option (Bought)) (v15 : Int) (v19 : Bool) (v20 : Int) (v21 : Int) : Option (Bought) :=
  rec1 v19 (w64 (v15 + 1)) v20 v21
def ref01_all_j5 (rec1 : Bool → Int → Int → Int → Option (Bought)) (a1 : Stand) (v15 : Int) (r24 : Stand × Bool) (r26 : Bought) (v27 : Int) (v28 : Int) : Option (Bought) :=
  ref01_all_j4 rec1 v15 false (max v27 (w64 ((w64 (r24.1.Credit - a1.Credit)) + r26.Most))) (min v28 (w64 ((w64 (r24.1.Credit - a1.Credit)) + r26.Least)))
def ref01_all_l1_b (n : Nat) (rec : Wheel → Stand → (List Int) → Option (Bought)) (a0 : Wheel) (a1 : Stand) (a2 : List Int) (rec1 : Bool → Int → Int → Int → Option (Bought)) (v14 : Bool) (v15 : Int) (v16 : Int) (v17 : Int) : Option (Bought) :=
  if decide (v15 < (a2.length : Int)) = true then
    Option.bind (idx a2 v15) fun x22 =>
    if (x22 == 0) = true then
      ref01_all_j4 rec1 v15 v14 v16 v17
    else
      Option.bind (ref01_Act n a0 a1 v15) fun r24 =>
      Option.bind (ref01_less a2 v15) fun r25 =>
      Option.bind (rec a0 r24.1 r25) fun r26 =>
      if v14 = true then
        ref01_all_j5 rec1 a1 v15 r24 r26 (w64 ((w64 (r24.1.Credit - a1.Credit)) + r26.Most)) (w64 ((w64 (r24.1.Credit - a1.Credit)) + r26.Least))
      else
        ref01_all_j5 rec1 a1 v15 r24 r26 v16 v17
  else
    ref01_all_j1 n rec a0 a1 a2 v14 v16 v17
def ref01_all_l1 (n : Nat) (rec : Wheel → Stand → (List Int) → Option (Bought)) (a0 : Wheel) (a1 : Stand) (a2 : List Int) : Nat → Bool → Int → Int → Int → Option (Bought)
  | 0, _, _, _, _ => none
  | m + 1, v14, v15, v16, v17 => ref01_all_l1_b n rec a0 a1 a2 (ref01_all_l1 n rec a0 a1 a2 m) v14 v15 v16 v17
def ref01_all_b (n : Nat) (rec : Wheel → Stand → (List Int) → Option (Bought)) (a0 : Wheel) (a1 : Stand) (a2 : List Int) : Option (Bought) :=
  ref01_all_l1 n rec a0 a1 a2 n true 0 0 0
def ref01_all : Nat → Wheel → Stand → (List Int) → Option (Bought)
  | 0, _, _, _ => none
  | n + 1, a0, a1, a2 => ref01_all_b n (ref01_all n) a0 a1 a2
def ref01_Most (n : Nat) (a0 : Wheel) (a1 : List Int) : Option (Int × Int) :=
  Option.bind (ref01_Check n a0) fun r1 =>
  if (r1 != 0) = true then
    some (0, r1)
  else
    Option.bind (ref01_IsPurse n a0 a1) fun r3 =>
    if (!r3) = true then
      some (0, 1)
    else
      Option.bind (ref01_all n a0 (⟨0, 0⟩ : Stand) a1) fun r5 =>
      some (r5.Most, 0)
def ref01_Least (n : Nat) (a0 : Wheel) (a1 : List Int) : Option (Int × Int) :=
  Option.bind (ref01_Check n a0) fun r1 =>
  if (r1 != 0) = true then
    some (0, r1)
  else
    Option.bind (ref01_IsPurse n a0 a1) fun r3 =>
    if (!r3) = true then
      some (0, 1)
    else
      Option.bind (ref01_all n a0 (⟨0, 0⟩ : Stand) a1) fun r5 =>
      some (r5.Least, 0)
def ref01_parts_j1 (v2 : List (List Int)) : Option ((List (List Int))) :=
  some v2
def ref01_parts_l1_b (rec : (List Int) → (List Int) → Option ((List (List Int)))) (a0 : List Int) (a1 : List Int) (rec1 : (List (List Int)) → Int → Option ((List (List Int)))) (v3 : List (List Int)) (v4 : Int) : Option ((List (List Int))) :=
  Option.bind (idx a0 (a1.length : Int)) fun x5 =>
  if decide (v4 ≤ x5) = true then
    Option.bind (app ([] : List Int) a1) fun l7 =>
    Option.bind (app l7 ([v4] : List Int)) fun l8 =>
    Option.bind (rec a0 l8) fun r9 =>
    Option.bind (app v3 r9) fun l10 =>
    rec1 l10 (w64 (v4 + 1))
  else
    ref01_parts_j1 v3
def ref01_parts_l1 (rec : (List Int) → (List Int) → Option ((List (List Int)))) (a0 : List Int) (a1 : List Int) : Nat → (List (List Int)) → Int → Option ((List (List Int)))
  | 0, _, _ => none
  | m + 1, v3, v4 => ref01_parts_l1_b rec a0 a1 (ref01_parts_l1 rec a0 a1 m) v3 v4
def ref01_parts_b (n : Nat) (rec : (List Int) → (List Int) → Option ((List (List Int)))) (a0 : List Int) (a1 : List Int) : Option ((List (List Int))) :=
  if ((a1.length : Int) == (a0.length : Int)) = true then
    some ([a1] : List (List Int))
  else
    ref01_parts_l1 rec a0 a1 n ([] : List (List Int)) 0
def ref01_parts : Nat → (List Int) → (List Int) → Option ((List (List Int)))
  | 0, _, _ => none
  | n + 1, a0, a1 => ref01_parts_b n (ref01_parts n) a0 a1
def ref01_Wasted_j1 (v8 : Int) : Option (Int × Int) :=
  some (v8, 0)
def ref01_Wasted_j2 (rec1 : Int → Int → Option (Int × Int)) (v10 : Int) (v12 : Int) : Option (Int × Int) :=
  rec1 v12 (w64 (v10 + 1))
def ref01_Wasted_j3 (rec1 : Int → Int → Option (Int × Int)) (r6 : Int) (v9 : Int) (v10 : Int) (r14 : Int) (v15 : Bool) : Option (Int × Int) :=
  if v15 = true then
    ref01_Wasted_j2 rec1 v10 (w64 (r6 - r14))
  else
    ref01_Wasted_j2 rec1 v10 v9
def ref01_Wasted_l1_b (n : Nat) (a0 : Wheel) (r5 : Bought) (r6 : Int) (r7 : (List (List Int))) (rec1 : Int → Int → Option (Int × Int)) (v9 : Int) (v10 : Int) : Option (Int × Int) :=
  if decide (v10 < (r7.length : Int)) = true then
    Option.bind (idx r7 v10) fun x13 =>
    Option.bind (ref01_PurseWorth n a0 x13) fun r14 =>
    if decide ((w64 (r6 - r14)) > v9) = true then
      Option.bind (idx r7 v10) fun x18 =>
      Option.bind (ref01_all n a0 (⟨0, 0⟩ : Stand) x18) fun r19 =>
      ref01_Wasted_j3 rec1 r6 v9 v10 r14 (r19.Most == r5.Most)
    else
      ref01_Wasted_j3 rec1 r6 v9 v10 r14 false
  else
    ref01_Wasted_j1 v9
def ref01_Wasted_l1 (n : Nat) (a0 : Wheel) (r5 : Bought) (r6 : Int) (r7 : (List (List Int))) : Nat → Int → Int → Option (Int × Int)
  | 0, _, _ => none
  | m + 1, v9, v10 => ref01_Wasted_l1_b n a0 r5 r6 r7 (ref01_Wasted_l1 n a0 r5 r6 r7 m) v9 v10
def ref01_Wasted (n : Nat) (a0 : Wheel) (a1 : List Int) : Option (Int × Int) :=
  Option.bind (ref01_Check n a0) fun r1 =>
  if (r1 != 0) = true then
    some (0, r1)
  else
    Option.bind (ref01_IsPurse n a0 a1) fun r3 =>
    if (!r3) = true then
      some (0, 1)
    else
      Option.bind (ref01_all n a0 (⟨0, 0⟩ : Stand) a1) fun r5 =>
      Option.bind (ref01_PurseWorth n a0 a1) fun r6 =>
      Option.bind (ref01_parts n a1 ([] : List Int)) fun r7 =>
      ref01_Wasted_l1 n a0 r5 r6 r7 n 0 0
def law01_CoinsMost_j4 (v18 : Bool) : Option (Bool) :=
  some v18
def law01_CoinsMost_j5 (v21 : Bool) : Option (Bool) :=
  some v21
def law01_CoinsMost_j3 (n : Nat) (a0 : Wheel) (a1 : List Int) (r7 : Int × Int) (r14 : (List Int) × Int) (v15 : Bool) : Option (Bool) :=
  if v15 = true then
    some false
  else
    if (r7.2 != 0) = true then
      if ((r14.1.length : Int) == 0) = true then
        Option.bind (law01_works n) fun r20 =>
        law01_CoinsMost_j4 r20
      else
        law01_CoinsMost_j4 false
    else
      Option.bind (law01_isWay n a0 a1 r14.1) fun r22 =>
      if r22 = true then
        Option.bind (ref01_Buys n a0 r14.1) fun r24 =>
        if (r24 == r7.1) = true then
          Option.bind (law01_works n) fun r26 =>
          law01_CoinsMost_j5 r26
        else
          law01_CoinsMost_j5 false
      else
        law01_CoinsMost_j5 false
def law01_CoinsMost_j2 (n : Nat) (a0 : Wheel) (a1 : List Int) (r4 : Wheel) (l5 : List Int) (r7 : Int × Int) (v10 : Bool) : Option (Bool) :=
  if v10 = true then
    some false
  else
    Option.bind (coins_Wasted n r4 l5) fun r12 =>
    Option.bind (ref01_Wasted n a0 a1) fun r13 =>
    Option.bind (coins_Order n r4 l5) fun r14 =>
    if (r12.1 != r13.1) = true then
      law01_CoinsMost_j3 n a0 a1 r7 r14 true
    else
      if (r12.2 != r13.2) = true then
        law01_CoinsMost_j3 n a0 a1 r7 r14 true
      else
        if (r14.2 != r7.2) = true then
          law01_CoinsMost_j3 n a0 a1 r7 r14 true
        else
          Option.bind (law01_same n r4 a0) fun r30 =>
          if (!r30) = true then
            law01_CoinsMost_j3 n a0 a1 r7 r14 true
          else
            Option.bind (ref01_SameInts n l5 a1) fun r32 =>
            if (!r32) = true then
              law01_CoinsMost_j3 n a0 a1 r7 r14 true
            else
              law01_CoinsMost_j3 n a0 a1 r7 r14 (decide ((r14.1.length : Int) > 24))
def law01_CoinsMost_j1 (n : Nat) (a0 : Wheel) (a1 : List Int) (v1 : Bool) : Option (Bool) :=
  if v1 = true then
    Option.bind (law01_works n) fun r3 =>
    some r3
  else
    Option.bind (ref01_Copy a0) fun r4 =>
    Option.bind (app ([] : List Int) a1) fun l5 =>
    Option.bind (coins_Most n r4 l5) fun r6 =>
    Option.bind (ref01_Most n a0 a1) fun r7 =>
    Option.bind (coins_Least n r4 l5) fun r8 =>
    Option.bind (ref01_Least n a0 a1) fun r9 =>
    if (r6.1 != r7.1) = true then
      law01_CoinsMost_j2 n a0 a1 r4 l5 r7 true
    else
      if (r6.2 != r7.2) = true then
        law01_CoinsMost_j2 n a0 a1 r4 l5 r7 true
      else
        if (r8.1 != r9.1) = true then
          law01_CoinsMost_j2 n a0 a1 r4 l5 r7 true
        else
          law01_CoinsMost_j2 n a0 a1 r4 l5 r7 (r8.2 != r9.2)
def law01_CoinsMost (n : Nat) (a0 : Wheel) (a1 : List Int) : Option (Bool) :=
  Option.bind (law01_far a0) fun r37 =>
  if r37 = true then
    law01_CoinsMost_j1 n a0 a1 true
  else
    Option.bind (law01_rich n a0 a1) fun r39 =>
    law01_CoinsMost_j1 n a0 a1 r39
end Go.Law
