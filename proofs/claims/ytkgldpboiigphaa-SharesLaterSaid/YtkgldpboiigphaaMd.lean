/-
  What the functions compute (printed by gen.py).
  Conditions: none.
-/
import Derived.Test.YtkgldpboiigphaaAmN
set_option linter.all false
namespace Go.Law
open Go Go.AM
set_option linter.unusedVariables false
structure Clause where
  Kind : Int
  Cents : Int
  Part : Int
  More : Int
  deriving DecidableEq, Inhabited, Repr
abbrev Clause.cells (x : Clause) : List AV := [.v (.int .i64 x.Kind), .v (.int .i64 x.Cents), .v (.int .i64 x.Part), .v (.int .i64 x.More)]
structure Share where
  Clauses : List Clause
  Loan : Int
  deriving DecidableEq, Inhabited, Repr
abbrev Share.cells (x : Share) : List AV := [.sl .no 4 (x.Clauses.map Clause.cells), .v (.int .i64 x.Loan)]
structure Split where
  Operator : Int
  Owner : Int
  Repaid : Int
  deriving DecidableEq, Inhabited, Repr
abbrev Split.cells (x : Split) : List AV := [.v (.int .i64 x.Operator), .v (.int .i64 x.Owner), .v (.int .i64 x.Repaid)]
structure Week_ where
  Split : Split
  rest : Int
  owed : Int
  deriving DecidableEq, Inhabited, Repr
abbrev Week_.cells (x : Week_) : List AV := [.v (.int .i64 x.Split.Operator), .v (.int .i64 x.Split.Owner), .v (.int .i64 x.Split.Repaid), .v (.int .i64 x.rest), .v (.int .i64 x.owed)]
structure Ask_ where
  Takings : Int
  Gift : Int
  Clause : Int
  deriving DecidableEq, Inhabited, Repr
abbrev Ask_.cells (x : Ask_) : List AV := [.v (.int .i64 x.Takings), .v (.int .i64 x.Gift), .v (.int .i64 x.Clause)]
structure More where
  Goal : Int
  Takings : Int
  deriving DecidableEq, Inhabited, Repr
abbrev More.cells (x : More) : List AV := [.v (.int .i64 x.Goal), .v (.int .i64 x.Takings)]
/-- shellac/shellaclaw09.far -/
def law09_far (a0 : Share) : Option (Bool) :=
  some (decide ((a0.Clauses.length : Int) > 40))
/-- shellac/shares.within -/
def shares_within_j1 (v1 : Bool) : Option (Bool) :=
  some v1
def shares_within (a0 : Int) (a1 : Int) (a2 : Int) : Option (Bool) :=
  if decide (a1 ≤ a0) = true then
    shares_within_j1 (decide (a0 ≤ a2))
  else
    shares_within_j1 false
/-- shellac/shares.isCents -/
def shares_isCents (a0 : Int) : Option (Bool) :=
  Option.bind (shares_within a0 0 9999) fun r1 =>
  some r1
/-- shellac/shares.Check$1 -/
def shares_Check_c1_j1 (v1 : Bool) : Option (Bool) :=
  some v1
def shares_Check_c1 (a0 : Clause) : Option (Bool) :=
  Option.bind (shares_within a0.Kind 1 5) fun r2 =>
  if (!r2) = true then
    shares_Check_c1_j1 true
  else
    Option.bind (shares_isCents a0.Cents) fun r4 =>
    if (!r4) = true then
      shares_Check_c1_j1 true
    else
      Option.bind (shares_within a0.Part 0 100) fun r6 =>
      if (!r6) = true then
        shares_Check_c1_j1 true
      else
        Option.bind (shares_within a0.More 0 100) fun r8 =>
        shares_Check_c1_j1 (!r8)
/-- slices.IndexFunc[[]shellac/api.Clause,shellac/api.Clause] -/
def slices_IndexFunc_apiClause_j1 : Option (Int) :=
  some (-1)
def slices_IndexFunc_apiClause_l1_b (a0 : List Clause) (a1 : Clause → Option Bool) (rec1 : Int → Option (Int)) (v1 : Int) : Option (Int) :=
  if decide (v1 < (a0.length : Int)) = true then
    Option.bind (idx a0 v1) fun x3 =>
    Option.bind (a1 x3) fun r4 =>
    if r4 = true then
      some v1
    else
      rec1 (w64 (v1 + 1))
  else
    slices_IndexFunc_apiClause_j1
def slices_IndexFunc_apiClause_l1 (a0 : List Clause) (a1 : Clause → Option Bool) : Nat → Int → Option (Int)
  | 0, _ => none
  | m + 1, v1 => slices_IndexFunc_apiClause_l1_b a0 a1 (slices_IndexFunc_apiClause_l1 a0 a1 m) v1
def slices_IndexFunc_apiClause (n : Nat) (a0 : List Clause) (a1 : Clause → Option Bool) : Option (Int) :=
  slices_IndexFunc_apiClause_l1 a0 a1 n 0
/-- slices.ContainsFunc[[]shellac/api.Clause,shellac/api.Clause] -/
def slices_ContainsFunc_apiClause (n : Nat) (a0 : List Clause) (a1 : Clause → Option Bool) : Option (Bool) :=
  Option.bind (slices_IndexFunc_apiClause n a0 a1) fun r1 =>
  some (decide (r1 ≥ 0))
/-- shellac/shares.Check -/
def shares_Check_j1 (v1 : Bool) : Option (Int) :=
  if v1 = true then
    some 90
  else
    some 0
def shares_Check (n : Nat) (a0 : Share) : Option (Int) :=
  if decide ((a0.Clauses.length : Int) > 5) = true then
    shares_Check_j1 true
  else
    Option.bind (slices_ContainsFunc_apiClause n a0.Clauses shares_Check_c1) fun r4 =>
    if r4 = true then
      shares_Check_j1 true
    else
      Option.bind (shares_isCents a0.Loan) fun r6 =>
      shares_Check_j1 (!r6)
/-- shellac/shares.ask -/
def shares_ask (n : Nat) (a0 : Share) (a1 : Bool) : Option (Int) :=
  Option.bind (shares_Check n a0) fun r1 =>
  if (r1 != 0) = true then
    some r1
  else
    if (!a1) = true then
      some 1
    else
      some 0
/-- slices.Index[[]int,int] -/
def slices_Index_int_j1 : Option (Int) :=
  some (-1)
def slices_Index_int_l1_b (a0 : List Int) (a1 : Int) (rec1 : Int → Option (Int)) (v1 : Int) : Option (Int) :=
  if decide (v1 < (a0.length : Int)) = true then
    Option.bind (idx a0 v1) fun x3 =>
    if (a1 == x3) = true then
      some v1
    else
      rec1 (w64 (v1 + 1))
  else
    slices_Index_int_j1
def slices_Index_int_l1 (a0 : List Int) (a1 : Int) : Nat → Int → Option (Int)
  | 0, _ => none
  | m + 1, v1 => slices_Index_int_l1_b a0 a1 (slices_Index_int_l1 a0 a1 m) v1
def slices_Index_int (n : Nat) (a0 : List Int) (a1 : Int) : Option (Int) :=
  slices_Index_int_l1 a0 a1 n 0
/-- slices.Contains[[]int,int] -/
def slices_Contains_int (n : Nat) (a0 : List Int) (a1 : Int) : Option (Bool) :=
  Option.bind (slices_Index_int n a0 a1) fun r1 =>
  some (decide (r1 ≥ 0))
/-- slices.Clone -/
def slices_Clone_int (a0 : List Int) : Option (List Int) := app [] a0
/-- shellac/shares.orders -/
def shares_orders_j1 {S : Type} (v3 : S) : Option (Bool × S) :=
  some (true, v3)
def shares_orders_j2 {S : Type} (rec1 : Int → S → Option (Bool × S)) (v5 : Int) (v8 : Bool) (v9 : S) : Option (Bool × S) :=
  if v8 = true then
    some (false, v9)
  else
    rec1 (w64 (v5 + 1)) v9
def shares_orders_l1_b {S : Type} (n : Nat) (rec : Int → (List Int) → S → Option (Bool × S)) (a0 : Int) (a1 : List Int) (rec1 : Int → S → Option (Bool × S)) (v5 : Int) (v6 : S) : Option (Bool × S) :=
  if decide (v5 < a0) = true then
    Option.bind (slices_Contains_int n a1 v5) fun r11 =>
    if (!r11) = true then
      Option.bind (slices_Clone_int a1) fun l13 =>
      Option.bind (app l13 ([v5] : List Int)) fun l14 =>
      Option.bind (rec a0 l14 v6) fun r15 =>
      shares_orders_j2 rec1 v5 (!r15.1) r15.2
    else
      shares_orders_j2 rec1 v5 false v6
  else
    shares_orders_j1 v6
def shares_orders_l1 {S : Type} (n : Nat) (rec : Int → (List Int) → S → Option (Bool × S)) (a0 : Int) (a1 : List Int) : Nat → Int → S → Option (Bool × S)
  | 0, _, _ => none
  | m + 1, v5, v6 => shares_orders_l1_b n rec a0 a1 (shares_orders_l1 n rec a0 a1 m) v5 v6
def shares_orders_b {S : Type} (n : Nat) (rec : Int → (List Int) → S → Option (Bool × S)) (a2 : (List Int) → S → Option (Bool × S)) (a0 : Int) (a1 : List Int) (st : S) : Option (Bool × S) :=
  if ((a1.length : Int) == a0) = true then
    Option.bind (a2 a1 st) fun r2 =>
    some (r2.1, r2.2)
  else
    shares_orders_l1 n rec a0 a1 n 0 st
def shares_orders {S : Type} (a2 : (List Int) → S → Option (Bool × S)) : Nat → Int → (List Int) → S → Option (Bool × S)
  | 0, _, _, _ => none
  | n + 1, a0, a1, st => shares_orders_b n (shares_orders a2 n) a2 a0 a1 st
/-- (*shellac/shares.week).owner -/
def shares_week_owner (a0 : Week_) (a1 : Int) : Option (Week_ × Int) :=
  some ((⟨(⟨a0.Split.Operator, w64 (a0.Split.Owner + a1), a0.Split.Repaid⟩ : Split), w64 (a0.rest - a1), a0.owed⟩ : Week_), a1)
/-- (*shellac/shares.week).operator -/
def shares_week_operator (a0 : Week_) (a1 : Int) : Option (Week_ × Int) :=
  some ((⟨(⟨w64 (a0.Split.Operator + a1), a0.Split.Owner, a0.Split.Repaid⟩ : Split), w64 (a0.rest - a1), a0.owed⟩ : Week_), a1)
/-- shellac/shares.rules$1 -/
def shares_rules_c1 (a0 : Week_) (a1 : Clause) : Option (Week_ × Int) :=
  Option.bind (shares_week_operator a0 (min a0.rest a1.Cents)) fun r1 =>
  some (r1.1, r1.2)
/-- (*shellac/shares.week).repay -/
def shares_week_repay (a0 : Week_) (a1 : Clause) : Option (Week_ × Int) :=
  Option.bind (shares_week_operator a0 (min (min a0.rest a1.Cents) a0.owed)) fun r1 =>
  some ((⟨(⟨r1.1.Split.Operator, r1.1.Split.Owner, w64 (r1.1.Split.Repaid + r1.2)⟩ : Split), r1.1.rest, w64 (r1.1.owed - r1.2)⟩ : Week_), r1.2)
/-- shellac/shares.five -/
def shares_five (a0 : Int) : Option (Int) :=
  Option.bind (quo a0 500) fun q1 =>
  some (w64 (q1 * 5))
/-- shellac/shares.rules$2 -/
def shares_rules_c2 (a0 : Week_) (a1 : Clause) : Option (Week_ × Int) :=
  Option.bind (shares_five (w64 (a1.Part * a0.rest))) fun r1 =>
  Option.bind (shares_week_owner a0 r1) fun r2 =>
  some (r2.1, r2.2)
/-- shellac/shares.rules$3 -/
def shares_rules_c3 (a0 : Week_) (a1 : Clause) : Option (Week_ × Int) :=
  Option.bind (shares_five (w64 ((w64 (a1.Part * (min a0.rest a1.Cents))) + (w64 (a1.More * (w64 (a0.rest - (min a0.rest a1.Cents)))))))) fun r1 =>
  Option.bind (shares_week_owner a0 r1) fun r2 =>
  some (r2.1, r2.2)
/-- shellac/shares.rules$4 -/
def shares_rules_c4 (a0 : Week_) (a1 : Clause) : Option (Week_ × Int) :=
  Option.bind (shares_week_owner a0 (min a0.rest (max 0 (w64 (a1.Cents - a0.Split.Owner))))) fun r1 =>
  some (r1.1, r1.2)
/-- shellac/shares.settle -/
def shares_settle_j1 (v2 : List Int) (v3 : Int) (v4 : Int) (v5 : Int) (v6 : Int) (v7 : Int) : Option (Week_ × (List Int)) :=
  Option.bind (shares_week_operator (⟨(⟨v3, v4, v5⟩ : Split), v6, v7⟩ : Week_) v6) fun r8 =>
  some (r8.1, v2)
def shares_settle_l1_b (a0 : List Clause) (rec1 : (List Int) → Int → Int → Int → Int → Int → Int → Option (Week_ × (List Int))) (v11 : List Int) (v12 : Int) (v13 : Int) (v14 : Int) (v15 : Int) (v16 : Int) (v17 : Int) : Option (Week_ × (List Int)) :=
  if decide (v12 < (a0.length : Int)) = true then
    Option.bind (idx a0 v12) fun x19 =>
    if (x19.Kind == 1) = true then
      Option.bind (shares_rules_c1 (⟨(⟨v13, v14, v15⟩ : Split), v16, v17⟩ : Week_) x19) fun r21 =>
      Option.bind (app v11 ([r21.2] : List Int)) fun l22 =>
      rec1 l22 (w64 (v12 + 1)) r21.1.Split.Operator r21.1.Split.Owner r21.1.Split.Repaid r21.1.rest r21.1.owed
    else
      if (x19.Kind == 2) = true then
        Option.bind (shares_week_repay (⟨(⟨v13, v14, v15⟩ : Split), v16, v17⟩ : Week_) x19) fun r24 =>
        Option.bind (app v11 ([r24.2] : List Int)) fun l25 =>
        rec1 l25 (w64 (v12 + 1)) r24.1.Split.Operator r24.1.Split.Owner r24.1.Split.Repaid r24.1.rest r24.1.owed
      else
        if (x19.Kind == 3) = true then
          Option.bind (shares_rules_c2 (⟨(⟨v13, v14, v15⟩ : Split), v16, v17⟩ : Week_) x19) fun r27 =>
          Option.bind (app v11 ([r27.2] : List Int)) fun l28 =>
          rec1 l28 (w64 (v12 + 1)) r27.1.Split.Operator r27.1.Split.Owner r27.1.Split.Repaid r27.1.rest r27.1.owed
        else
          if (x19.Kind == 4) = true then
            Option.bind (shares_rules_c3 (⟨(⟨v13, v14, v15⟩ : Split), v16, v17⟩ : Week_) x19) fun r30 =>
            Option.bind (app v11 ([r30.2] : List Int)) fun l31 =>
            rec1 l31 (w64 (v12 + 1)) r30.1.Split.Operator r30.1.Split.Owner r30.1.Split.Repaid r30.1.rest r30.1.owed
          else
            if (x19.Kind == 5) = true then
              Option.bind (shares_rules_c4 (⟨(⟨v13, v14, v15⟩ : Split), v16, v17⟩ : Week_) x19) fun r33 =>
              Option.bind (app v11 ([r33.2] : List Int)) fun l34 =>
              rec1 l34 (w64 (v12 + 1)) r33.1.Split.Operator r33.1.Split.Owner r33.1.Split.Repaid r33.1.rest r33.1.owed
            else
              none
  else
    shares_settle_j1 v11 v13 v14 v15 v16 v17
def shares_settle_l1 (a0 : List Clause) : Nat → (List Int) → Int → Int → Int → Int → Int → Int → Option (Week_ × (List Int))
  | 0, _, _, _, _, _, _, _ => none
  | m + 1, v11, v12, v13, v14, v15, v16, v17 => shares_settle_l1_b a0 (shares_settle_l1 a0 m) v11 v12 v13 v14 v15 v16 v17
def shares_settle (n : Nat) (a0 : List Clause) (a1 : Int) (a2 : Int) (a3 : Int) : Option (Week_ × (List Int)) :=
  Option.bind (shares_week_owner (⟨(⟨0, 0, 0⟩ : Split), a2, a1⟩ : Week_) (min a3 a2)) fun r1 =>
  shares_settle_l1 a0 n ([] : List Int) 0 r1.1.Split.Operator r1.1.Split.Owner r1.1.Split.Repaid r1.1.rest r1.1.owed
/-- shellac/shares.owners -/
def shares_owners (n : Nat) (a0 : List Clause) (a1 : Int) (a2 : Int) : Option (Int) :=
  Option.bind (shares_settle n a0 a1 a2 0) fun r1 =>
  some r1.1.Split.Owner
/-- shellac/shares.Best$1 -/
def shares_Best_c1_j2 (st : Share × Int × Int × (List Int)) (v2 : Int) (v3 : List Int) : Option (Bool × (Share × Int × Int × (List Int))) :=
  some (true, st.1, st.2.1, v2, v3)
def shares_Best_c1_j1 (n : Nat) (a0 : List Int) (st : Share × Int × Int × (List Int)) (v1 : List Clause) : Option (Bool × (Share × Int × Int × (List Int))) :=
  Option.bind (shares_owners n v1 st.1.Loan st.2.1) fun r4 =>
  if decide (r4 > st.2.2.1) = true then
    shares_Best_c1_j2 st r4 a0
  else
    shares_Best_c1_j2 st st.2.2.1 st.2.2.2
def shares_Best_c1_l1_b (n : Nat) (a0 : List Int) (st : Share × Int × Int × (List Int)) (rec1 : (List Clause) → Int → Option (Bool × (Share × Int × Int × (List Int)))) (v6 : List Clause) (v7 : Int) : Option (Bool × (Share × Int × Int × (List Int))) :=
  if decide (v7 < (a0.length : Int)) = true then
    Option.bind (idx a0 v7) fun x9 =>
    Option.bind (idx st.1.Clauses x9) fun x10 =>
    Option.bind (app v6 ([x10] : List Clause)) fun l11 =>
    rec1 l11 (w64 (v7 + 1))
  else
    shares_Best_c1_j1 n a0 st v6
def shares_Best_c1_l1 (n : Nat) (a0 : List Int) (st : Share × Int × Int × (List Int)) : Nat → (List Clause) → Int → Option (Bool × (Share × Int × Int × (List Int)))
  | 0, _, _ => none
  | m + 1, v6, v7 => shares_Best_c1_l1_b n a0 st (shares_Best_c1_l1 n a0 st m) v6 v7
def shares_Best_c1 (n : Nat) (a0 : List Int) (st : Share × Int × Int × (List Int)) : Option (Bool × (Share × Int × Int × (List Int))) :=
  shares_Best_c1_l1 n a0 st n ([] : List Clause) 0
/-- shellac/shares.Best -/
def shares_Best (n : Nat) (a0 : Share) (a1 : Int) : Option ((List Int) × Int) :=
  Option.bind (shares_isCents a1) fun r1 =>
  Option.bind (shares_ask n a0 r1) fun r2 =>
  if (r2 != 0) = true then
    some (([] : List Int), r2)
  else
    Option.bind (shares_orders (shares_Best_c1 n) n (a0.Clauses.length : Int) ([] : List Int) (a0, a1, (-1), ([] : List Int))) fun r4 =>
    some (r4.2.2.2.2, 0)
/-- shellac/shares.Repaid -/
def shares_Repaid_j1 : Option (Int × Int) :=
  some (0, 3)
def shares_Repaid_l1_b (n : Nat) (a0 : Share) (a1 : Int) (rec1 : Int → Int → Option (Int × Int)) (v4 : Int) (v5 : Int) : Option (Int × Int) :=
  if decide (v5 < 1001) = true then
    if (v4 == 0) = true then
      some (v5, 0)
    else
      Option.bind (shares_settle n a0.Clauses v4 a1 0) fun r8 =>
      rec1 r8.1.owed (w64 (v5 + 1))
  else
    shares_Repaid_j1
def shares_Repaid_l1 (n : Nat) (a0 : Share) (a1 : Int) : Nat → Int → Int → Option (Int × Int)
  | 0, _, _ => none
  | m + 1, v4, v5 => shares_Repaid_l1_b n a0 a1 (shares_Repaid_l1 n a0 a1 m) v4 v5
def shares_Repaid (n : Nat) (a0 : Share) (a1 : Int) : Option (Int × Int) :=
  Option.bind (shares_isCents a1) fun r1 =>
  Option.bind (shares_ask n a0 r1) fun r2 =>
  if (r2 != 0) = true then
    some (0, r2)
  else
    shares_Repaid_l1 n a0 a1 n a0.Loan 0
/-- shellac/shellacref01.SameInts -/
def ref01_SameInts_j1 : Option (Bool) :=
  some true
def ref01_SameInts_l1_b (a0 : List Int) (a1 : List Int) (rec1 : Int → Option (Bool)) (v2 : Int) : Option (Bool) :=
  if decide (v2 < (a0.length : Int)) = true then
    Option.bind (idx a0 v2) fun x4 =>
    Option.bind (idx a1 v2) fun x5 =>
    if (x4 != x5) = true then
      some false
    else
      rec1 (w64 (v2 + 1))
  else
    ref01_SameInts_j1
def ref01_SameInts_l1 (a0 : List Int) (a1 : List Int) : Nat → Int → Option (Bool)
  | 0, _ => none
  | m + 1, v2 => ref01_SameInts_l1_b a0 a1 (ref01_SameInts_l1 a0 a1 m) v2
def ref01_SameInts (n : Nat) (a0 : List Int) (a1 : List Int) : Option (Bool) :=
  if ((a0.length : Int) != (a1.length : Int)) = true then
    some false
  else
    ref01_SameInts_l1 a0 a1 n 0
/-- shellac/shares.Gift -/
def shares_Gift_j1 (n : Nat) (a0 : Share) (a1 : Int) (a2 : Int) (v1 : Int) : Option (Split × Int) :=
  if (v1 != 0) = true then
    some ((⟨0, 0, 0⟩ : Split), v1)
  else
    Option.bind (shares_settle n a0.Clauses a0.Loan a1 a2) fun r3 =>
    some (r3.1.Split, 0)
def shares_Gift (n : Nat) (a0 : Share) (a1 : Int) (a2 : Int) : Option (Split × Int) :=
  Option.bind (shares_isCents a1) fun r4 =>
  if r4 = true then
    Option.bind (shares_isCents a2) fun r6 =>
    Option.bind (shares_ask n a0 r6) fun r7 =>
    shares_Gift_j1 n a0 a1 a2 r7
  else
    Option.bind (shares_ask n a0 false) fun r8 =>
    shares_Gift_j1 n a0 a1 a2 r8
/-- shellac/shares.Week -/
def shares_Week (n : Nat) (a0 : Share) (a1 : Int) : Option (Split × Int) :=
  Option.bind (shares_Gift n a0 a1 0) fun r1 =>
  some (r1.1, r1.2)
/-- shellac/shellaclaw09.Example -/
def law09_Example : Option (Share) :=
  some (⟨([(⟨1, 500, 0, 0⟩ : Clause), (⟨2, 300, 0, 0⟩ : Clause), (⟨4, 1000, 40, 60⟩ : Clause), (⟨5, 450, 0, 0⟩ : Clause)] : List Clause), 700⟩ : Share)
/-- shellac/shellaclaw09.works -/
def law09_works_j1 (v6 : Bool) : Option (Bool) :=
  some v6
def law09_works (n : Nat) : Option (Bool) :=
  Option.bind (law09_Example) fun r1 =>
  Option.bind (shares_Week n r1 2013) fun r2 =>
  Option.bind (shares_Best n r1 2013) fun r3 =>
  Option.bind (shares_Repaid n r1 2013) fun r4 =>
  Option.bind (shares_Gift n r1 2013 100) fun r5 =>
  if (r2.2 == 0) = true then
    if (r3.2 == 0) = true then
      if (r4.2 == 0) = true then
        if (r5.2 == 0) = true then
          if ((r2.1.Operator == 1488) && ((r2.1.Owner == 525) && ((r2.1.Repaid == 300) && true))) = true then
            Option.bind (ref01_SameInts n r3.1 ([3, 2, 0, 1] : List Int)) fun r12 =>
            if r12 = true then
              if (r4.1 == 3) = true then
                law09_works_j1 ((r5.1.Operator == 1448) && ((r5.1.Owner == 565) && ((r5.1.Repaid == 300) && true)))
              else
                law09_works_j1 false
            else
              law09_works_j1 false
          else
            law09_works_j1 false
        else
          law09_works_j1 false
      else
        law09_works_j1 false
    else
      law09_works_j1 false
  else
    law09_works_j1 false
/-- shellac/shellacref09.Copy -/
def ref09_Copy (a0 : Share) : Option (Share) :=
  Option.bind (app ([] : List Clause) a0.Clauses) fun l1 =>
  some (⟨l1, a0.Loan⟩ : Share)
/-- shellac/shellacref01.Within -/
def ref01_Within_j1 (v1 : Bool) : Option (Bool) :=
  some v1
def ref01_Within (a0 : Int) (a1 : Int) (a2 : Int) : Option (Bool) :=
  if decide (a0 ≥ a1) = true then
    ref01_Within_j1 (decide (a0 ≤ a2))
  else
    ref01_Within_j1 false
/-- shellac/shellacref09.within -/
def ref09_within (a0 : Int) (a1 : Int) (a2 : Int) : Option (Bool) :=
  Option.bind (ref01_Within a0 a1 a2) fun r1 =>
  some r1
/-- shellac/shellacref09.IsCents -/
def ref09_IsCents (a0 : Int) : Option (Bool) :=
  Option.bind (ref09_within a0 0 9999) fun r1 =>
  some r1
/-- shellac/shellacref09.Ordered -/
def ref09_Ordered_j1 (a0 : Share) (v1 : List Clause) : Option (Share) :=
  some (⟨v1, a0.Loan⟩ : Share)
def ref09_Ordered_l1_b (a0 : Share) (a1 : List Int) (rec1 : Int → (List Clause) → Option (Share)) (v3 : Int) (v4 : List Clause) : Option (Share) :=
  if decide (v3 < (a1.length : Int)) = true then
    Option.bind (idx a1 v3) fun x6 =>
    Option.bind (idx a0.Clauses x6) fun x7 =>
    Option.bind (app v4 ([x7] : List Clause)) fun l8 =>
    rec1 (w64 (v3 + 1)) l8
  else
    ref09_Ordered_j1 a0 v4
def ref09_Ordered_l1 (a0 : Share) (a1 : List Int) : Nat → Int → (List Clause) → Option (Share)
  | 0, _, _ => none
  | m + 1, v3, v4 => ref09_Ordered_l1_b a0 a1 (ref09_Ordered_l1 a0 a1 m) v3 v4
def ref09_Ordered (n : Nat) (a0 : Share) (a1 : List Int) : Option (Share) :=
  ref09_Ordered_l1 a0 a1 n 0 ([] : List Clause)
/-- shellac/shellacref09.Check -/
def ref09_Check_j2 : Option (Int) :=
  some 0
def ref09_Check_j3 (rec1 : Int → Option (Int)) (v3 : Int) (v6 : Bool) : Option (Int) :=
  if v6 = true then
    some 90
  else
    rec1 (w64 (v3 + 1))
def ref09_Check_l1_b (a0 : Share) (rec1 : Int → Option (Int)) (v3 : Int) : Option (Int) :=
  if decide (v3 < (a0.Clauses.length : Int)) = true then
    Option.bind (idx a0.Clauses v3) fun x5 =>
    Option.bind (ref09_within x5.Kind 1 5) fun r8 =>
    if (!r8) = true then
      ref09_Check_j3 rec1 v3 true
    else
      Option.bind (ref09_IsCents x5.Cents) fun r10 =>
      if (!r10) = true then
        ref09_Check_j3 rec1 v3 true
      else
        Option.bind (ref09_within x5.Part 0 100) fun r12 =>
        if (!r12) = true then
          ref09_Check_j3 rec1 v3 true
        else
          Option.bind (ref09_within x5.More 0 100) fun r14 =>
          ref09_Check_j3 rec1 v3 (!r14)
  else
    ref09_Check_j2
def ref09_Check_l1 (a0 : Share) : Nat → Int → Option (Int)
  | 0, _ => none
  | m + 1, v3 => ref09_Check_l1_b a0 (ref09_Check_l1 a0 m) v3
def ref09_Check_j1 (n : Nat) (a0 : Share) (v1 : Bool) : Option (Int) :=
  if v1 = true then
    some 90
  else
    ref09_Check_l1 a0 n 0
def ref09_Check (n : Nat) (a0 : Share) : Option (Int) :=
  if decide ((a0.Clauses.length : Int) > 5) = true then
    ref09_Check_j1 n a0 true
  else
    Option.bind (ref09_IsCents a0.Loan) fun r16 =>
    ref09_Check_j1 n a0 (!r16)
/-- shellac/shellacref09.ask -/
def ref09_ask (n : Nat) (a0 : Share) (a1 : Bool) : Option (Int) :=
  Option.bind (ref09_Check n a0) fun r1 =>
  if (r1 != 0) = true then
    some r1
  else
    if (!a1) = true then
      some 1
    else
      some 0
/-- shellac/shellacref01.In -/
def ref01_In_j1 : Option (Bool) :=
  some false
def ref01_In_l1_b (a0 : List Int) (a1 : Int) (rec1 : Int → Option (Bool)) (v1 : Int) : Option (Bool) :=
  if decide (v1 < (a0.length : Int)) = true then
    Option.bind (idx a0 v1) fun x3 =>
    if (x3 == a1) = true then
      some true
    else
      rec1 (w64 (v1 + 1))
  else
    ref01_In_j1
def ref01_In_l1 (a0 : List Int) (a1 : Int) : Nat → Int → Option (Bool)
  | 0, _ => none
  | m + 1, v1 => ref01_In_l1_b a0 a1 (ref01_In_l1 a0 a1 m) v1
def ref01_In (n : Nat) (a0 : List Int) (a1 : Int) : Option (Bool) :=
  ref01_In_l1 a0 a1 n 0
/-- shellac/shellacref09.Orders -/
def ref09_Orders_j1 (v2 : List (List Int)) : Option ((List (List Int))) :=
  some v2
def ref09_Orders_j2 (rec1 : (List (List Int)) → Int → Option ((List (List Int)))) (v4 : Int) (v6 : List (List Int)) : Option ((List (List Int))) :=
  rec1 v6 (w64 (v4 + 1))
def ref09_Orders_l1_b (n : Nat) (rec : Int → (List Int) → Option ((List (List Int)))) (a0 : Int) (a1 : List Int) (rec1 : (List (List Int)) → Int → Option ((List (List Int)))) (v3 : List (List Int)) (v4 : Int) : Option ((List (List Int))) :=
  if decide (v4 < a0) = true then
    Option.bind (ref01_In n a1 v4) fun r7 =>
    if (!r7) = true then
      Option.bind (app ([] : List Int) a1) fun l9 =>
      Option.bind (app l9 ([v4] : List Int)) fun l10 =>
      Option.bind (rec a0 l10) fun r11 =>
      Option.bind (app v3 r11) fun l12 =>
      ref09_Orders_j2 rec1 v4 l12
    else
      ref09_Orders_j2 rec1 v4 v3
  else
    ref09_Orders_j1 v3
def ref09_Orders_l1 (n : Nat) (rec : Int → (List Int) → Option ((List (List Int)))) (a0 : Int) (a1 : List Int) : Nat → (List (List Int)) → Int → Option ((List (List Int)))
  | 0, _, _ => none
  | m + 1, v3, v4 => ref09_Orders_l1_b n rec a0 a1 (ref09_Orders_l1 n rec a0 a1 m) v3 v4
def ref09_Orders_b (n : Nat) (rec : Int → (List Int) → Option ((List (List Int)))) (a0 : Int) (a1 : List Int) : Option ((List (List Int))) :=
  if ((a1.length : Int) == a0) = true then
    some ([a1] : List (List Int))
  else
    ref09_Orders_l1 n rec a0 a1 n ([] : List (List Int)) 0
def ref09_Orders : Nat → Int → (List Int) → Option ((List (List Int)))
  | 0, _, _ => none
  | n + 1, a0, a1 => ref09_Orders_b n (ref09_Orders n) a0 a1
/-- shellac/shellacref09.IsOwners -/
def ref09_IsOwners (a0 : Clause) : Option (Bool) :=
  some (decide (a0.Kind ≥ 3))
/-- shellac/shellacref09.Given -/
def ref09_Given (a0 : Clause) (a1 : Int) (a2 : Int) (a3 : Int) : Option (Int) :=
  if (a0.Kind == 1) = true then
    some (min a1 a0.Cents)
  else
    if (a0.Kind == 2) = true then
      some (min (min a1 a0.Cents) a3)
    else
      if (a0.Kind == 3) = true then
        Option.bind (quo (w64 (a0.Part * a1)) 500) fun q4 =>
        some (w64 (q4 * 5))
      else
        if (a0.Kind == 4) = true then
          Option.bind (quo (w64 ((w64 (a0.Part * (min a1 a0.Cents))) + (w64 (a0.More * (w64 (a1 - (min a1 a0.Cents))))))) 500) fun q6 =>
          some (w64 (q6 * 5))
        else
          some (min a1 (max 0 (w64 (a0.Cents - a2))))
/-- shellac/shellacref09.Gone -/
def ref09_Gone_j1 (a1 : Int) (v1 : List Int) (v2 : Int) (v3 : Int) : Option ((List Int) × Split) :=
  some (v1, (⟨w64 (a1 - v2), v2, v3⟩ : Split))
def ref09_Gone_j2 (rec1 : Int → (List Int) → Int → Int → Int → Option ((List Int) × Split)) (v9 : Int) (v13 : Int) (v14 : List Int) (v15 : Int) (v16 : Int) : Option ((List Int) × Split) :=
  rec1 v13 v14 (w64 (v9 + 1)) v15 v16
def ref09_Gone_j3 (rec1 : Int → (List Int) → Int → Int → Int → Option ((List Int) × Split)) (v7 : Int) (v9 : Int) (v11 : Int) (x17 : Clause) (r18 : Int) (l19 : List Int) (v20 : Int) : Option ((List Int) × Split) :=
  if (x17.Kind == 2) = true then
    ref09_Gone_j2 rec1 v9 (w64 (v7 - r18)) l19 v20 (w64 (v11 + r18))
  else
    ref09_Gone_j2 rec1 v9 (w64 (v7 - r18)) l19 v20 v11
def ref09_Gone_l1_b (a0 : Share) (a1 : Int) (rec1 : Int → (List Int) → Int → Int → Int → Option ((List Int) × Split)) (v7 : Int) (v8 : List Int) (v9 : Int) (v10 : Int) (v11 : Int) : Option ((List Int) × Split) :=
  if decide (v9 < (a0.Clauses.length : Int)) = true then
    Option.bind (idx a0.Clauses v9) fun x17 =>
    Option.bind (ref09_Given x17 v7 v10 (w64 (a0.Loan - v11))) fun r18 =>
    Option.bind (app v8 ([r18] : List Int)) fun l19 =>
    Option.bind (ref09_IsOwners x17) fun r22 =>
    if r22 = true then
      ref09_Gone_j3 rec1 v7 v9 v11 x17 r18 l19 (w64 (v10 + r18))
    else
      ref09_Gone_j3 rec1 v7 v9 v11 x17 r18 l19 v10
  else
    ref09_Gone_j1 a1 v8 v10 v11
def ref09_Gone_l1 (a0 : Share) (a1 : Int) : Nat → Int → (List Int) → Int → Int → Int → Option ((List Int) × Split)
  | 0, _, _, _, _, _ => none
  | m + 1, v7, v8, v9, v10, v11 => ref09_Gone_l1_b a0 a1 (ref09_Gone_l1 a0 a1 m) v7 v8 v9 v10 v11
def ref09_Gone (n : Nat) (a0 : Share) (a1 : Int) (a2 : Int) : Option ((List Int) × Split) :=
  ref09_Gone_l1 a0 a1 n (w64 (a1 - (min a2 a1))) ([] : List Int) 0 (min a2 a1) 0
/-- shellac/shellacref09.Best -/
def ref09_Best_j1 (r4 : (List (List Int))) (v5 : Int) : Option ((List Int) × Int) :=
  Option.bind (idx r4 v5) fun x6 =>
  some (x6, 0)
def ref09_Best_j2 (rec1 : Int → Int → Int → Option ((List Int) × Int)) (v9 : Int) (v11 : Int) (v12 : Int) : Option ((List Int) × Int) :=
  rec1 v11 v12 (w64 (v9 + 1))
def ref09_Best_l1_b (n : Nat) (a0 : Share) (a1 : Int) (r4 : (List (List Int))) (rec1 : Int → Int → Int → Option ((List Int) × Int)) (v7 : Int) (v8 : Int) (v9 : Int) : Option ((List Int) × Int) :=
  if decide (v9 < (r4.length : Int)) = true then
    Option.bind (idx r4 v9) fun x13 =>
    Option.bind (ref09_Ordered n a0 x13) fun r14 =>
    Option.bind (ref09_Gone n r14 a1 0) fun r15 =>
    if decide (r15.2.Owner > v8) = true then
      ref09_Best_j2 rec1 v9 v9 r15.2.Owner
    else
      ref09_Best_j2 rec1 v9 v7 v8
  else
    ref09_Best_j1 r4 v7
def ref09_Best_l1 (n : Nat) (a0 : Share) (a1 : Int) (r4 : (List (List Int))) : Nat → Int → Int → Int → Option ((List Int) × Int)
  | 0, _, _, _ => none
  | m + 1, v7, v8, v9 => ref09_Best_l1_b n a0 a1 r4 (ref09_Best_l1 n a0 a1 r4 m) v7 v8 v9
def ref09_Best (n : Nat) (a0 : Share) (a1 : Int) : Option ((List Int) × Int) :=
  Option.bind (ref09_IsCents a1) fun r1 =>
  Option.bind (ref09_ask n a0 r1) fun r2 =>
  if (r2 != 0) = true then
    some (([] : List Int), r2)
  else
    Option.bind (ref09_Orders n (a0.Clauses.length : Int) ([] : List Int)) fun r4 =>
    ref09_Best_l1 n a0 a1 r4 n 0 (-1) 0
/-- shellac/shellacref09.Repaid -/
def ref09_Repaid_j1 : Option (Int × Int) :=
  some (0, 3)
def ref09_Repaid_l1_b (n : Nat) (a1 : Int) (r4 : Share) (rec1 : Int → Int → Option (Int × Int)) (v6 : Int) (v7 : Int) : Option (Int × Int) :=
  if decide (v6 ≤ 1000) = true then
    if (v7 == 0) = true then
      some (v6, 0)
    else
      Option.bind (ref09_Gone n (⟨r4.Clauses, v7⟩ : Share) a1 0) fun r10 =>
      rec1 (w64 (v6 + 1)) (w64 (v7 - r10.2.Repaid))
  else
    ref09_Repaid_j1
def ref09_Repaid_l1 (n : Nat) (a1 : Int) (r4 : Share) : Nat → Int → Int → Option (Int × Int)
  | 0, _, _ => none
  | m + 1, v6, v7 => ref09_Repaid_l1_b n a1 r4 (ref09_Repaid_l1 n a1 r4 m) v6 v7
def ref09_Repaid (n : Nat) (a0 : Share) (a1 : Int) : Option (Int × Int) :=
  Option.bind (ref09_IsCents a1) fun r1 =>
  Option.bind (ref09_ask n a0 r1) fun r2 =>
  if (r2 != 0) = true then
    some (0, r2)
  else
    Option.bind (ref09_Copy a0) fun r4 =>
    ref09_Repaid_l1 n a1 r4 n 0 r4.Loan
/-- shellac/shellaclaw09.same -/
def law09_same_j2 : Option (Bool) :=
  some true
def law09_same_l1_b (a0 : Share) (a1 : Share) (rec1 : Int → Option (Bool)) (v3 : Int) : Option (Bool) :=
  if decide (v3 < (a0.Clauses.length : Int)) = true then
    Option.bind (idx a0.Clauses v3) fun x5 =>
    Option.bind (idx a1.Clauses v3) fun x6 =>
    if (!((x5.Kind == x6.Kind) && ((x5.Cents == x6.Cents) && ((x5.Part == x6.Part) && ((x5.More == x6.More) && true))))) = true then
      some false
    else
      rec1 (w64 (v3 + 1))
  else
    law09_same_j2
def law09_same_l1 (a0 : Share) (a1 : Share) : Nat → Int → Option (Bool)
  | 0, _ => none
  | m + 1, v3 => law09_same_l1_b a0 a1 (law09_same_l1 a0 a1 m) v3
def law09_same_j1 (n : Nat) (a0 : Share) (a1 : Share) (v1 : Bool) : Option (Bool) :=
  if v1 = true then
    some false
  else
    law09_same_l1 a0 a1 n 0
def law09_same (n : Nat) (a0 : Share) (a1 : Share) : Option (Bool) :=
  if (a0.Loan != a1.Loan) = true then
    law09_same_j1 n a0 a1 true
  else
    law09_same_j1 n a0 a1 ((a0.Clauses.length : Int) != (a1.Clauses.length : Int))
/-- shellac/shellaclaw09.SharesBest -/
def law09_SharesBest_j1 (v9 : Bool) : Option (Bool) :=
  some v9
def law09_SharesBest (n : Nat) (a0 : Share) (a1 : Int) : Option (Bool) :=
  Option.bind (law09_far a0) fun r1 =>
  if r1 = true then
    Option.bind (law09_works n) fun r3 =>
    some r3
  else
    Option.bind (ref09_Copy a0) fun r4 =>
    Option.bind (shares_Best n r4 a1) fun r5 =>
    Option.bind (ref09_Best n a0 a1) fun r6 =>
    Option.bind (shares_Repaid n r4 a1) fun r7 =>
    Option.bind (ref09_Repaid n a0 a1) fun r8 =>
    Option.bind (ref01_SameInts n r5.1 r6.1) fun r10 =>
    if r10 = true then
      if (r5.2 == r6.2) = true then
        if (r7.1 == r8.1) = true then
          if (r7.2 == r8.2) = true then
            Option.bind (law09_same n r4 a0) fun r15 =>
            if r15 = true then
              Option.bind (law09_works n) fun r17 =>
              law09_SharesBest_j1 r17
            else
              law09_SharesBest_j1 false
          else
            law09_SharesBest_j1 false
        else
          law09_SharesBest_j1 false
      else
        law09_SharesBest_j1 false
    else
      law09_SharesBest_j1 false
/-- shellac/shellaclaw09.isShare -/
def law09_isShare_j1 (v1 : Bool) : Option (Bool) :=
  some v1
def law09_isShare (n : Nat) (a0 : Share) : Option (Bool) :=
  Option.bind (law09_far a0) fun r2 =>
  if (!r2) = true then
    Option.bind (ref09_Check n a0) fun r4 =>
    law09_isShare_j1 (r4 == 0)
  else
    law09_isShare_j1 false
/-- shellac/shellaclaw09.isSplit -/
def law09_isSplit_j1 (v1 : Bool) : Option (Bool) :=
  some v1
def law09_isSplit (a0 : Split) (a1 : Int) (a2 : Int) : Option (Bool) :=
  if decide (a0.Operator ≥ 0) = true then
    if decide (a0.Operator ≤ a1) = true then
      if (a0.Owner == (w64 (a1 - a0.Operator))) = true then
        if decide (a0.Repaid ≥ 0) = true then
          law09_isSplit_j1 (decide (a0.Repaid ≤ (min a0.Operator a2)))
        else
          law09_isSplit_j1 false
      else
        law09_isSplit_j1 false
    else
      law09_isSplit_j1 false
  else
    law09_isSplit_j1 false
/-- shellac/shellaclaw09.SharesGreater -/
def law09_SharesGreater_j3 (v7 : Bool) : Option (Bool) :=
  some v7
def law09_SharesGreater_j2 (n : Nat) (a0 : Share) (a1 : Int) (a2 : Int) (v4 : Int) : Option (Bool) :=
  Option.bind (shares_Week n a0 a1) fun r5 =>
  Option.bind (shares_Week n a0 (w64 (a1 + a2))) fun r6 =>
  if (r5.2 == 0) = true then
    if (r6.2 == 0) = true then
      Option.bind (law09_isSplit r5.1 a1 a0.Loan) fun r10 =>
      if r10 = true then
        Option.bind (law09_isSplit r6.1 (w64 (a1 + a2)) a0.Loan) fun r12 =>
        if r12 = true then
          if decide (v4 > 1) = true then
            Option.bind (law09_works n) fun r15 =>
            law09_SharesGreater_j3 r15
          else
            if decide (r6.1.Owner ≥ r5.1.Owner) = true then
              Option.bind (law09_works n) fun r17 =>
              law09_SharesGreater_j3 r17
            else
              law09_SharesGreater_j3 false
        else
          law09_SharesGreater_j3 false
      else
        law09_SharesGreater_j3 false
    else
      law09_SharesGreater_j3 false
  else
    law09_SharesGreater_j3 false
def law09_SharesGreater_j4 (rec1 : Int → Int → Option (Bool)) (v19 : Int) (v21 : Int) : Option (Bool) :=
  rec1 v21 (w64 (v19 + 1))
def law09_SharesGreater_j5 (rec1 : Int → Int → Option (Bool)) (v18 : Int) (v19 : Int) (v23 : Bool) : Option (Bool) :=
  if v23 = true then
    law09_SharesGreater_j4 rec1 v19 (w64 (v18 + 1))
  else
    law09_SharesGreater_j4 rec1 v19 v18
def law09_SharesGreater_l1_b (n : Nat) (a0 : Share) (a1 : Int) (a2 : Int) (rec1 : Int → Int → Option (Bool)) (v18 : Int) (v19 : Int) : Option (Bool) :=
  if decide (v19 < (a0.Clauses.length : Int)) = true then
    Option.bind (idx a0.Clauses v19) fun x22 =>
    if (x22.Kind == 3) = true then
      law09_SharesGreater_j5 rec1 v18 v19 true
    else
      law09_SharesGreater_j5 rec1 v18 v19 (x22.Kind == 4)
  else
    law09_SharesGreater_j2 n a0 a1 a2 v18
def law09_SharesGreater_l1 (n : Nat) (a0 : Share) (a1 : Int) (a2 : Int) : Nat → Int → Int → Option (Bool)
  | 0, _, _ => none
  | m + 1, v18, v19 => law09_SharesGreater_l1_b n a0 a1 a2 (law09_SharesGreater_l1 n a0 a1 a2 m) v18 v19
def law09_SharesGreater_j1 (n : Nat) (a0 : Share) (a1 : Int) (a2 : Int) (v1 : Bool) : Option (Bool) :=
  if v1 = true then
    Option.bind (law09_works n) fun r3 =>
    some r3
  else
    law09_SharesGreater_l1 n a0 a1 a2 n 0 0
def law09_SharesGreater (n : Nat) (a0 : Share) (a1 : Int) (a2 : Int) : Option (Bool) :=
  Option.bind (law09_isShare n a0) fun r26 =>
  if (!r26) = true then
    law09_SharesGreater_j1 n a0 a1 a2 true
  else
    Option.bind (ref09_IsCents a1) fun r28 =>
    if (!r28) = true then
      law09_SharesGreater_j1 n a0 a1 a2 true
    else
      Option.bind (ref09_IsCents a2) fun r30 =>
      if (!r30) = true then
        law09_SharesGreater_j1 n a0 a1 a2 true
      else
        Option.bind (ref09_IsCents (w64 (a1 + a2))) fun r32 =>
        law09_SharesGreater_j1 n a0 a1 a2 (!r32)
/-- shellac/shellacref09.IsOrder -/
def ref09_IsOrder_j1 (a0 : Share) (a1 : List Int) : Option (Bool) :=
  some ((a1.length : Int) == (a0.Clauses.length : Int))
def ref09_IsOrder_l1_b (n : Nat) (a0 : Share) (a1 : List Int) (rec1 : Int → Option (Bool)) (v1 : Int) : Option (Bool) :=
  if decide (v1 < (a0.Clauses.length : Int)) = true then
    Option.bind (ref01_In n a1 v1) fun r3 =>
    if (!r3) = true then
      some false
    else
      rec1 (w64 (v1 + 1))
  else
    ref09_IsOrder_j1 a0 a1
def ref09_IsOrder_l1 (n : Nat) (a0 : Share) (a1 : List Int) : Nat → Int → Option (Bool)
  | 0, _ => none
  | m + 1, v1 => ref09_IsOrder_l1_b n a0 a1 (ref09_IsOrder_l1 n a0 a1 m) v1
def ref09_IsOrder (n : Nat) (a0 : Share) (a1 : List Int) : Option (Bool) :=
  ref09_IsOrder_l1 n a0 a1 n 0
/-- shellac/shellaclaw09.SharesOrder -/
def law09_SharesOrder_j4 (n : Nat) : Option (Bool) :=
  Option.bind (law09_works n) fun r13 =>
  some r13
def law09_SharesOrder_j6 (v20 : Bool) : Option (Bool) :=
  some v20
def law09_SharesOrder_j5 (n : Nat) (rec1 : Int → Option (Bool)) (a2 : List Int) (r4 : (List Int) × Int) (v14 : Int) (v15 : Bool) : Option (Bool) :=
  if v15 = true then
    Option.bind (idx r4.1 v14) fun x17 =>
    Option.bind (idx a2 v14) fun x18 =>
    if (x17 != x18) = true then
      Option.bind (idx r4.1 v14) fun x21 =>
      Option.bind (idx a2 v14) fun x22 =>
      if decide (x21 < x22) = true then
        Option.bind (law09_works n) fun r24 =>
        law09_SharesOrder_j6 r24
      else
        law09_SharesOrder_j6 false
    else
      rec1 (w64 (v14 + 1))
  else
    law09_SharesOrder_j4 n
def law09_SharesOrder_l1_b (n : Nat) (a2 : List Int) (r4 : (List Int) × Int) (r8 : Split × Int) (r10 : Split × Int) (rec1 : Int → Option (Bool)) (v14 : Int) : Option (Bool) :=
  if decide (v14 < (r4.1.length : Int)) = true then
    law09_SharesOrder_j5 n rec1 a2 r4 v14 (r8.1.Owner == r10.1.Owner)
  else
    law09_SharesOrder_j5 n rec1 a2 r4 v14 false
def law09_SharesOrder_l1 (n : Nat) (a2 : List Int) (r4 : (List Int) × Int) (r8 : Split × Int) (r10 : Split × Int) : Nat → Int → Option (Bool)
  | 0, _ => none
  | m + 1, v14 => law09_SharesOrder_l1_b n a2 r4 r8 r10 (law09_SharesOrder_l1 n a2 r4 r8 r10 m) v14
def law09_SharesOrder_j3 (n : Nat) (a2 : List Int) (r4 : (List Int) × Int) (r8 : Split × Int) (r10 : Split × Int) (v11 : Bool) : Option (Bool) :=
  if v11 = true then
    some false
  else
    law09_SharesOrder_l1 n a2 r4 r8 r10 n 0
def law09_SharesOrder_j2 (n : Nat) (a0 : Share) (a1 : Int) (a2 : List Int) (r4 : (List Int) × Int) (v5 : Bool) : Option (Bool) :=
  if v5 = true then
    some false
  else
    Option.bind (ref09_Ordered n a0 a2) fun r7 =>
    Option.bind (shares_Week n r7 a1) fun r8 =>
    Option.bind (ref09_Ordered n a0 r4.1) fun r9 =>
    Option.bind (shares_Week n r9 a1) fun r10 =>
    if (r8.2 != 0) = true then
      law09_SharesOrder_j3 n a2 r4 r8 r10 true
    else
      if (r10.2 != 0) = true then
        law09_SharesOrder_j3 n a2 r4 r8 r10 true
      else
        law09_SharesOrder_j3 n a2 r4 r8 r10 (decide (r8.1.Owner > r10.1.Owner))
def law09_SharesOrder_j1 (n : Nat) (a0 : Share) (a1 : Int) (a2 : List Int) (v1 : Bool) : Option (Bool) :=
  if v1 = true then
    Option.bind (law09_works n) fun r3 =>
    some r3
  else
    Option.bind (shares_Best n a0 a1) fun r4 =>
    if (r4.2 != 0) = true then
      law09_SharesOrder_j2 n a0 a1 a2 r4 true
    else
      if decide ((r4.1.length : Int) > 40) = true then
        law09_SharesOrder_j2 n a0 a1 a2 r4 true
      else
        Option.bind (ref09_IsOrder n a0 r4.1) fun r30 =>
        law09_SharesOrder_j2 n a0 a1 a2 r4 (!r30)
def law09_SharesOrder (n : Nat) (a0 : Share) (a1 : Int) (a2 : List Int) : Option (Bool) :=
  Option.bind (law09_isShare n a0) fun r31 =>
  if (!r31) = true then
    law09_SharesOrder_j1 n a0 a1 a2 true
  else
    Option.bind (ref09_IsCents a1) fun r33 =>
    if (!r33) = true then
      law09_SharesOrder_j1 n a0 a1 a2 true
    else
      if decide ((a2.length : Int) > 40) = true then
        law09_SharesOrder_j1 n a0 a1 a2 true
      else
        Option.bind (ref09_IsOrder n a0 a2) fun r36 =>
        law09_SharesOrder_j1 n a0 a1 a2 (!r36)
/-- shellac/shares.isClause -/
def shares_isClause (a0 : Share) (a1 : Int) : Option (Bool) :=
  Option.bind (shares_within a1 0 (w64 ((a0.Clauses.length : Int) - 1))) fun r1 =>
  some r1
/-- shellac/shares.Gives -/
def shares_Gives_j1 (n : Nat) (a0 : Share) (a1 : Int) (a2 : Int) (v1 : Int) : Option (Int × Int) :=
  if (v1 != 0) = true then
    some (0, v1)
  else
    Option.bind (shares_settle n a0.Clauses a0.Loan a1 0) fun r3 =>
    Option.bind (idx r3.2 a2) fun x4 =>
    some (x4, 0)
def shares_Gives (n : Nat) (a0 : Share) (a1 : Int) (a2 : Int) : Option (Int × Int) :=
  Option.bind (shares_isCents a1) fun r5 =>
  if r5 = true then
    Option.bind (shares_isClause a0 a2) fun r7 =>
    Option.bind (shares_ask n a0 r7) fun r8 =>
    shares_Gives_j1 n a0 a1 a2 r8
  else
    Option.bind (shares_ask n a0 false) fun r9 =>
    shares_Gives_j1 n a0 a1 a2 r9
/-- shellac/shellaclaw09.SharesCent -/
def law09_SharesCent_j4 (v10 : Bool) : Option (Bool) :=
  some v10
def law09_SharesCent_j3 (n : Nat) (r4 : Split × Int) (v8 : Int) (v9 : Int) : Option (Bool) :=
  if (v8 == r4.1.Owner) = true then
    if (v9 == r4.1.Repaid) = true then
      Option.bind (law09_works n) fun r13 =>
      law09_SharesCent_j4 r13
    else
      law09_SharesCent_j4 false
  else
    law09_SharesCent_j4 false
def law09_SharesCent_j5 (rec1 : Int → Int → Int → Int → Option (Bool)) (v17 : Int) (v19 : Int) (v20 : Int) (v21 : Int) : Option (Bool) :=
  rec1 v19 v20 v21 (w64 (v17 + 1))
def law09_SharesCent_j7 (rec1 : Int → Int → Int → Int → Option (Bool)) (a0 : Share) (v14 : Int) (v16 : Int) (v17 : Int) (r22 : Int × Int) (v25 : Int) : Option (Bool) :=
  Option.bind (idx a0.Clauses v17) fun x26 =>
  if (x26.Kind == 2) = true then
    law09_SharesCent_j5 rec1 v17 (w64 (v14 + r22.1)) v25 (w64 (v16 + r22.1))
  else
    law09_SharesCent_j5 rec1 v17 (w64 (v14 + r22.1)) v25 v16
def law09_SharesCent_j6 (rec1 : Int → Int → Int → Int → Option (Bool)) (a0 : Share) (v14 : Int) (v15 : Int) (v16 : Int) (v17 : Int) (r22 : Int × Int) (v23 : Bool) : Option (Bool) :=
  if v23 = true then
    some false
  else
    Option.bind (idx a0.Clauses v17) fun x28 =>
    Option.bind (ref09_IsOwners x28) fun r29 =>
    if r29 = true then
      law09_SharesCent_j7 rec1 a0 v14 v16 v17 r22 (w64 (v15 + r22.1))
    else
      law09_SharesCent_j7 rec1 a0 v14 v16 v17 r22 v15
def law09_SharesCent_l1_b (n : Nat) (a0 : Share) (a1 : Ask_) (r4 : Split × Int) (rec1 : Int → Int → Int → Int → Option (Bool)) (v14 : Int) (v15 : Int) (v16 : Int) (v17 : Int) : Option (Bool) :=
  if decide (v17 < (a0.Clauses.length : Int)) = true then
    Option.bind (shares_Gives n a0 a1.Takings v17) fun r22 =>
    if (r22.2 != 0) = true then
      law09_SharesCent_j6 rec1 a0 v14 v15 v16 v17 r22 true
    else
      if decide (r22.1 < 0) = true then
        law09_SharesCent_j6 rec1 a0 v14 v15 v16 v17 r22 true
      else
        law09_SharesCent_j6 rec1 a0 v14 v15 v16 v17 r22 (decide (r22.1 > (w64 (a1.Takings - v14))))
  else
    law09_SharesCent_j3 n r4 v15 v16
def law09_SharesCent_l1 (n : Nat) (a0 : Share) (a1 : Ask_) (r4 : Split × Int) : Nat → Int → Int → Int → Int → Option (Bool)
  | 0, _, _, _, _ => none
  | m + 1, v14, v15, v16, v17 => law09_SharesCent_l1_b n a0 a1 r4 (law09_SharesCent_l1 n a0 a1 r4 m) v14 v15 v16 v17
def law09_SharesCent_j2 (n : Nat) (a0 : Share) (a1 : Ask_) (r4 : Split × Int) (v6 : Bool) : Option (Bool) :=
  if v6 = true then
    some false
  else
    law09_SharesCent_l1 n a0 a1 r4 n 0 0 0 0
def law09_SharesCent_j1 (n : Nat) (a0 : Share) (a1 : Ask_) (v1 : Bool) : Option (Bool) :=
  if v1 = true then
    Option.bind (law09_works n) fun r3 =>
    some r3
  else
    Option.bind (shares_Week n a0 a1.Takings) fun r4 =>
    Option.bind (shares_Gift n a0 a1.Takings a1.Gift) fun r5 =>
    if (r4.2 != 0) = true then
      law09_SharesCent_j2 n a0 a1 r4 true
    else
      if (r5.2 != 0) = true then
        law09_SharesCent_j2 n a0 a1 r4 true
      else
        Option.bind (law09_isSplit r4.1 a1.Takings a0.Loan) fun r35 =>
        if (!r35) = true then
          law09_SharesCent_j2 n a0 a1 r4 true
        else
          Option.bind (law09_isSplit r5.1 a1.Takings a0.Loan) fun r37 =>
          if (!r37) = true then
            law09_SharesCent_j2 n a0 a1 r4 true
          else
            law09_SharesCent_j2 n a0 a1 r4 (decide (r5.1.Owner < (min a1.Gift a1.Takings)))
def law09_SharesCent (n : Nat) (a0 : Share) (a1 : Ask_) : Option (Bool) :=
  Option.bind (law09_isShare n a0) fun r39 =>
  if (!r39) = true then
    law09_SharesCent_j1 n a0 a1 true
  else
    Option.bind (ref09_IsCents a1.Takings) fun r41 =>
    if (!r41) = true then
      law09_SharesCent_j1 n a0 a1 true
    else
      Option.bind (ref09_IsCents a1.Gift) fun r43 =>
      law09_SharesCent_j1 n a0 a1 (!r43)
/-- shellac/shares.Enough -/
def shares_Enough_j1 : Option (Int × Int) :=
  some (0, 3)
def shares_Enough_l1_b (n : Nat) (a0 : Share) (a1 : Int) (rec1 : Int → Option (Int × Int)) (v4 : Int) : Option (Int × Int) :=
  if decide (v4 < 10000) = true then
    Option.bind (shares_owners n a0.Clauses a0.Loan v4) fun r6 =>
    if decide (r6 ≥ a1) = true then
      some (v4, 0)
    else
      rec1 (w64 (v4 + 1))
  else
    shares_Enough_j1
def shares_Enough_l1 (n : Nat) (a0 : Share) (a1 : Int) : Nat → Int → Option (Int × Int)
  | 0, _ => none
  | m + 1, v4 => shares_Enough_l1_b n a0 a1 (shares_Enough_l1 n a0 a1 m) v4
def shares_Enough (n : Nat) (a0 : Share) (a1 : Int) : Option (Int × Int) :=
  Option.bind (shares_isCents a1) fun r1 =>
  Option.bind (shares_ask n a0 r1) fun r2 =>
  if (r2 != 0) = true then
    some (0, r2)
  else
    shares_Enough_l1 n a0 a1 n 0
/-- shellac/shellacref09.Enough -/
def ref09_Enough_j1 : Option (Int × Int) :=
  some (0, 3)
def ref09_Enough_l1_b (n : Nat) (a0 : Share) (a1 : Int) (rec1 : Int → Option (Int × Int)) (v4 : Int) : Option (Int × Int) :=
  if decide (v4 ≤ 9999) = true then
    Option.bind (ref09_Gone n a0 v4 0) fun r6 =>
    if decide (r6.2.Owner ≥ a1) = true then
      some (v4, 0)
    else
      rec1 (w64 (v4 + 1))
  else
    ref09_Enough_j1
def ref09_Enough_l1 (n : Nat) (a0 : Share) (a1 : Int) : Nat → Int → Option (Int × Int)
  | 0, _ => none
  | m + 1, v4 => ref09_Enough_l1_b n a0 a1 (ref09_Enough_l1 n a0 a1 m) v4
def ref09_Enough (n : Nat) (a0 : Share) (a1 : Int) : Option (Int × Int) :=
  Option.bind (ref09_IsCents a1) fun r1 =>
  Option.bind (ref09_ask n a0 r1) fun r2 =>
  if (r2 != 0) = true then
    some (0, r2)
  else
    ref09_Enough_l1 n a0 a1 n 0
/-- shellac/shellaclaw09.SharesEnough -/
def law09_SharesEnough_j1 (v7 : Bool) : Option (Bool) :=
  some v7
def law09_SharesEnough (n : Nat) (a0 : Share) (a1 : Int) : Option (Bool) :=
  Option.bind (law09_far a0) fun r1 =>
  if r1 = true then
    Option.bind (law09_works n) fun r3 =>
    some r3
  else
    Option.bind (ref09_Copy a0) fun r4 =>
    Option.bind (shares_Enough n r4 a1) fun r5 =>
    Option.bind (ref09_Enough n a0 a1) fun r6 =>
    if (r5.1 == r6.1) = true then
      if (r5.2 == r6.2) = true then
        Option.bind (law09_same n r4 a0) fun r10 =>
        if r10 = true then
          Option.bind (law09_works n) fun r12 =>
          law09_SharesEnough_j1 r12
        else
          law09_SharesEnough_j1 false
      else
        law09_SharesEnough_j1 false
    else
      law09_SharesEnough_j1 false
/-- shellac/shellaclaw09.isKnown -/
def law09_isKnown_j1 (v1 : Bool) : Option (Bool) :=
  some v1
def law09_isKnown (a0 : Int) : Option (Bool) :=
  if (a0 == 0) = true then
    law09_isKnown_j1 true
  else
    law09_isKnown_j1 (a0 == 3)
/-- shellac/shellaclaw09.SharesGoal -/
def law09_SharesGoal_j3 (v10 : Bool) : Option (Bool) :=
  some v10
def law09_SharesGoal_j4 (v16 : Bool) : Option (Bool) :=
  some v16
def law09_SharesGoal_j2 (n : Nat) (a0 : Share) (a1 : Int) (a2 : More) (r4 : Int × Int) (r6 : Split × Int) (v7 : Bool) : Option (Bool) :=
  if v7 = true then
    some false
  else
    if (r4.2 != 0) = true then
      if decide (r6.1.Owner < a1) = true then
        Option.bind (law09_works n) fun r12 =>
        law09_SharesGoal_j3 r12
      else
        law09_SharesGoal_j3 false
    else
      Option.bind (ref09_IsCents r4.1) fun r13 =>
      if (!r13) = true then
        some false
      else
        Option.bind (shares_Week n a0 r4.1) fun r15 =>
        if (r15.2 == 0) = true then
          if decide (r15.1.Owner ≥ a1) = true then
            if decide (a2.Takings ≥ r4.1) = true then
              Option.bind (law09_works n) fun r20 =>
              law09_SharesGoal_j4 r20
            else
              if decide (r6.1.Owner < a1) = true then
                Option.bind (law09_works n) fun r22 =>
                law09_SharesGoal_j4 r22
              else
                law09_SharesGoal_j4 false
          else
            law09_SharesGoal_j4 false
        else
          law09_SharesGoal_j4 false
def law09_SharesGoal_j1 (n : Nat) (a0 : Share) (a1 : Int) (a2 : More) (v1 : Bool) : Option (Bool) :=
  if v1 = true then
    Option.bind (law09_works n) fun r3 =>
    some r3
  else
    Option.bind (shares_Enough n a0 a1) fun r4 =>
    Option.bind (shares_Enough n a0 (w64 (a1 + a2.Goal))) fun r5 =>
    Option.bind (shares_Week n a0 a2.Takings) fun r6 =>
    Option.bind (law09_isKnown r4.2) fun r23 =>
    if (!r23) = true then
      law09_SharesGoal_j2 n a0 a1 a2 r4 r6 true
    else
      Option.bind (law09_isKnown r5.2) fun r25 =>
      if (!r25) = true then
        law09_SharesGoal_j2 n a0 a1 a2 r4 r6 true
      else
        if (r6.2 != 0) = true then
          law09_SharesGoal_j2 n a0 a1 a2 r4 r6 true
        else
          if (r5.2 == 0) = true then
            if (r4.2 != 0) = true then
              law09_SharesGoal_j2 n a0 a1 a2 r4 r6 true
            else
              law09_SharesGoal_j2 n a0 a1 a2 r4 r6 (decide (r5.1 < r4.1))
          else
            law09_SharesGoal_j2 n a0 a1 a2 r4 r6 false
def law09_SharesGoal (n : Nat) (a0 : Share) (a1 : Int) (a2 : More) : Option (Bool) :=
  Option.bind (law09_isShare n a0) fun r30 =>
  if (!r30) = true then
    law09_SharesGoal_j1 n a0 a1 a2 true
  else
    Option.bind (ref09_IsCents a1) fun r32 =>
    if (!r32) = true then
      law09_SharesGoal_j1 n a0 a1 a2 true
    else
      Option.bind (ref09_IsCents a2.Goal) fun r34 =>
      if (!r34) = true then
        law09_SharesGoal_j1 n a0 a1 a2 true
      else
        Option.bind (ref09_IsCents (w64 (a1 + a2.Goal))) fun r36 =>
        if (!r36) = true then
          law09_SharesGoal_j1 n a0 a1 a2 true
        else
          Option.bind (ref09_IsCents a2.Takings) fun r38 =>
          law09_SharesGoal_j1 n a0 a1 a2 (!r38)
/-- shellac/shares.Weeks -/
def shares_Weeks_j1 (v4 : List Split) (v5 : Int) : Option ((List Split) × Int × Int) :=
  some (v4, v5, 0)
def shares_Weeks_l1_b (n : Nat) (a0 : Share) (a1 : List Int) (rec1 : (List Split) → Int → Int → Option ((List Split) × Int × Int)) (v6 : List Split) (v7 : Int) (v8 : Int) : Option ((List Split) × Int × Int) :=
  if decide (v8 < (a1.length : Int)) = true then
    Option.bind (idx a1 v8) fun x10 =>
    Option.bind (shares_isCents x10) fun r11 =>
    if (!r11) = true then
      some (([] : List Split), 0, 1)
    else
      Option.bind (shares_settle n a0.Clauses v7 x10 0) fun r13 =>
      Option.bind (app v6 ([r13.1.Split] : List Split)) fun l14 =>
      rec1 l14 r13.1.owed (w64 (v8 + 1))
  else
    shares_Weeks_j1 v6 v7
def shares_Weeks_l1 (n : Nat) (a0 : Share) (a1 : List Int) : Nat → (List Split) → Int → Int → Option ((List Split) × Int × Int)
  | 0, _, _, _ => none
  | m + 1, v6, v7, v8 => shares_Weeks_l1_b n a0 a1 (shares_Weeks_l1 n a0 a1 m) v6 v7 v8
def shares_Weeks (n : Nat) (a0 : Share) (a1 : List Int) : Option ((List Split) × Int × Int) :=
  Option.bind (shares_Check n a0) fun r1 =>
  if (r1 != 0) = true then
    some (([] : List Split), 0, r1)
  else
    if decide ((a1.length : Int) > 6) = true then
      some (([] : List Split), 0, 2)
    else
      shares_Weeks_l1 n a0 a1 n ([] : List Split) a0.Loan 0
/-- shellac/shellacref09.Weeks -/
def ref09_Weeks_j2 (v6 : List Split) (v7 : Int) : Option ((List Split) × Int × Int) :=
  some (v6, v7, 0)
def ref09_Weeks_l1_b (n : Nat) (a1 : List Int) (r5 : Share) (rec1 : (List Split) → Int → Int → Option ((List Split) × Int × Int)) (v10 : List Split) (v11 : Int) (v12 : Int) : Option ((List Split) × Int × Int) :=
  if decide (v11 < (a1.length : Int)) = true then
    Option.bind (idx a1 v11) fun x14 =>
    Option.bind (ref09_Gone n (⟨r5.Clauses, v12⟩ : Share) x14 0) fun r15 =>
    Option.bind (app v10 ([r15.2] : List Split)) fun l16 =>
    rec1 l16 (w64 (v11 + 1)) (w64 (v12 - r15.2.Repaid))
  else
    ref09_Weeks_j2 v10 v12
def ref09_Weeks_l1 (n : Nat) (a1 : List Int) (r5 : Share) : Nat → (List Split) → Int → Int → Option ((List Split) × Int × Int)
  | 0, _, _, _ => none
  | m + 1, v10, v11, v12 => ref09_Weeks_l1_b n a1 r5 (ref09_Weeks_l1 n a1 r5 m) v10 v11 v12
def ref09_Weeks_j1 (n : Nat) (a0 : Share) (a1 : List Int) (v4 : List Split) : Option ((List Split) × Int × Int) :=
  Option.bind (ref09_Copy a0) fun r5 =>
  ref09_Weeks_l1 n a1 r5 n v4 0 r5.Loan
def ref09_Weeks_l2_b (n : Nat) (a0 : Share) (a1 : List Int) (rec2 : (List Split) → Int → Option ((List Split) × Int × Int)) (v17 : List Split) (v18 : Int) : Option ((List Split) × Int × Int) :=
  if decide (v18 < (a1.length : Int)) = true then
    Option.bind (idx a1 v18) fun x20 =>
    Option.bind (ref09_IsCents x20) fun r21 =>
    if (!r21) = true then
      some (([] : List Split), 0, 1)
    else
      rec2 v17 (w64 (v18 + 1))
  else
    ref09_Weeks_j1 n a0 a1 v17
def ref09_Weeks_l2 (n : Nat) (a0 : Share) (a1 : List Int) : Nat → (List Split) → Int → Option ((List Split) × Int × Int)
  | 0, _, _ => none
  | m + 1, v17, v18 => ref09_Weeks_l2_b n a0 a1 (ref09_Weeks_l2 n a0 a1 m) v17 v18
def ref09_Weeks (n : Nat) (a0 : Share) (a1 : List Int) : Option ((List Split) × Int × Int) :=
  Option.bind (ref09_Check n a0) fun r1 =>
  if (r1 != 0) = true then
    some (([] : List Split), 0, r1)
  else
    if decide ((a1.length : Int) > 6) = true then
      some (([] : List Split), 0, 2)
    else
      ref09_Weeks_l2 n a0 a1 n ([] : List Split) 0
/-- shellac/shellaclaw09.sameSplits -/
def law09_sameSplits_j1 : Option (Bool) :=
  some true
def law09_sameSplits_l1_b (a0 : List Split) (a1 : List Split) (rec1 : Int → Option (Bool)) (v2 : Int) : Option (Bool) :=
  if decide (v2 < (a0.length : Int)) = true then
    Option.bind (idx a0 v2) fun x4 =>
    Option.bind (idx a1 v2) fun x5 =>
    if (!((x4.Operator == x5.Operator) && ((x4.Owner == x5.Owner) && ((x4.Repaid == x5.Repaid) && true)))) = true then
      some false
    else
      rec1 (w64 (v2 + 1))
  else
    law09_sameSplits_j1
def law09_sameSplits_l1 (a0 : List Split) (a1 : List Split) : Nat → Int → Option (Bool)
  | 0, _ => none
  | m + 1, v2 => law09_sameSplits_l1_b a0 a1 (law09_sameSplits_l1 a0 a1 m) v2
def law09_sameSplits (n : Nat) (a0 : List Split) (a1 : List Split) : Option (Bool) :=
  if ((a0.length : Int) != (a1.length : Int)) = true then
    some false
  else
    law09_sameSplits_l1 a0 a1 n 0
/-- shellac/shellaclaw09.SharesWeeks -/
def law09_SharesWeeks_j2 (v8 : Bool) : Option (Bool) :=
  some v8
def law09_SharesWeeks_j1 (n : Nat) (a0 : Share) (a1 : List Int) (v1 : Bool) : Option (Bool) :=
  if v1 = true then
    Option.bind (law09_works n) fun r3 =>
    some r3
  else
    Option.bind (ref09_Copy a0) fun r4 =>
    Option.bind (app ([] : List Int) a1) fun l5 =>
    Option.bind (shares_Weeks n r4 l5) fun r6 =>
    Option.bind (ref09_Weeks n a0 a1) fun r7 =>
    Option.bind (law09_sameSplits n r6.1 r7.1) fun r9 =>
    if r9 = true then
      if (r6.2.1 == r7.2.1) = true then
        if (r6.2.2 == r7.2.2) = true then
          Option.bind (law09_same n r4 a0) fun r13 =>
          if r13 = true then
            Option.bind (ref01_SameInts n l5 a1) fun r15 =>
            if r15 = true then
              Option.bind (law09_works n) fun r17 =>
              law09_SharesWeeks_j2 r17
            else
              law09_SharesWeeks_j2 false
          else
            law09_SharesWeeks_j2 false
        else
          law09_SharesWeeks_j2 false
      else
        law09_SharesWeeks_j2 false
    else
      law09_SharesWeeks_j2 false
def law09_SharesWeeks (n : Nat) (a0 : Share) (a1 : List Int) : Option (Bool) :=
  Option.bind (law09_far a0) fun r18 =>
  if r18 = true then
    law09_SharesWeeks_j1 n a0 a1 true
  else
    law09_SharesWeeks_j1 n a0 a1 (decide ((a1.length : Int) > 40))
/-- shellac/shellaclaw09.SharesLater -/
def law09_SharesLater_j5 (v20 : Bool) : Option (Bool) :=
  some v20
def law09_SharesLater_j4 (n : Nat) (a0 : Share) (l5 : List Int) (r13 : (List Split) × Int × Int) (v14 : Bool) : Option (Bool) :=
  if v14 = true then
    some false
  else
    if ((l5.length : Int) == 0) = true then
      Option.bind (law09_works n) fun r17 =>
      some r17
    else
      Option.bind (idx l5 0) fun x18 =>
      Option.bind (shares_Week n a0 x18) fun r19 =>
      if (r19.2 == 0) = true then
        Option.bind (idx r13.1 0) fun x22 =>
        if ((r19.1.Operator == x22.Operator) && ((r19.1.Owner == x22.Owner) && ((r19.1.Repaid == x22.Repaid) && true))) = true then
          Option.bind (law09_works n) fun r24 =>
          law09_SharesLater_j5 r24
        else
          law09_SharesLater_j5 false
      else
        law09_SharesLater_j5 false
def law09_SharesLater_j3 (n : Nat) (a0 : Share) (a1 : List Int) (a2 : List Int) (l5 : List Int) (r7 : (List Split) × Int × Int) (v8 : Bool) : Option (Bool) :=
  if v8 = true then
    some false
  else
    Option.bind (ref09_Copy a0) fun r10 =>
    Option.bind (app ([] : List Int) a2) fun l11 =>
    Option.bind (shares_Weeks n (⟨r10.Clauses, r7.2.1⟩ : Share) l11) fun r12 =>
    Option.bind (shares_Weeks n a0 l5) fun r13 =>
    if (r12.2.2 != 0) = true then
      law09_SharesLater_j4 n a0 l5 r13 true
    else
      if (r13.2.2 != 0) = true then
        law09_SharesLater_j4 n a0 l5 r13 true
      else
        if ((r12.1.length : Int) != (a2.length : Int)) = true then
          law09_SharesLater_j4 n a0 l5 r13 true
        else
          if ((r13.1.length : Int) != (l5.length : Int)) = true then
            law09_SharesLater_j4 n a0 l5 r13 true
          else
            if (r12.2.1 != r13.2.1) = true then
              law09_SharesLater_j4 n a0 l5 r13 true
            else
              if decide (r12.2.1 < 0) = true then
                law09_SharesLater_j4 n a0 l5 r13 true
              else
                if decide (r12.2.1 > r7.2.1) = true then
                  law09_SharesLater_j4 n a0 l5 r13 true
                else
                  Option.bind (cut r13.1 0 (a1.length : Int)) fun c32 =>
                  Option.bind (law09_sameSplits n c32 r7.1) fun r33 =>
                  if (!r33) = true then
                    law09_SharesLater_j4 n a0 l5 r13 true
                  else
                    Option.bind (cut r13.1 (a1.length : Int) (r13.1.length : Int)) fun c35 =>
                    Option.bind (law09_sameSplits n c35 r12.1) fun r36 =>
                    law09_SharesLater_j4 n a0 l5 r13 (!r36)
def law09_SharesLater_j2 (n : Nat) (a0 : Share) (a1 : List Int) (a2 : List Int) (l5 : List Int) : Option (Bool) :=
  Option.bind (app ([] : List Int) a1) fun l6 =>
  Option.bind (shares_Weeks n a0 l6) fun r7 =>
  if (r7.2.2 != 0) = true then
    law09_SharesLater_j3 n a0 a1 a2 l5 r7 true
  else
    if ((r7.1.length : Int) != (a1.length : Int)) = true then
      law09_SharesLater_j3 n a0 a1 a2 l5 r7 true
    else
      if decide (r7.2.1 < 0) = true then
        law09_SharesLater_j3 n a0 a1 a2 l5 r7 true
      else
        law09_SharesLater_j3 n a0 a1 a2 l5 r7 (decide (r7.2.1 > a0.Loan))
def law09_SharesLater_l1_b (n : Nat) (a0 : Share) (a1 : List Int) (a2 : List Int) (l5 : List Int) (rec1 : Int → Option (Bool)) (v40 : Int) : Option (Bool) :=
  if decide (v40 < (l5.length : Int)) = true then
    Option.bind (idx l5 v40) fun x42 =>
    Option.bind (ref09_IsCents x42) fun r43 =>
    if (!r43) = true then
      Option.bind (law09_works n) fun r45 =>
      some r45
    else
      rec1 (w64 (v40 + 1))
  else
    law09_SharesLater_j2 n a0 a1 a2 l5
def law09_SharesLater_l1 (n : Nat) (a0 : Share) (a1 : List Int) (a2 : List Int) (l5 : List Int) : Nat → Int → Option (Bool)
  | 0, _ => none
  | m + 1, v40 => law09_SharesLater_l1_b n a0 a1 a2 l5 (law09_SharesLater_l1 n a0 a1 a2 l5 m) v40
def law09_SharesLater_j1 (n : Nat) (a0 : Share) (a1 : List Int) (a2 : List Int) (v1 : Bool) : Option (Bool) :=
  if v1 = true then
    Option.bind (law09_works n) fun r3 =>
    some r3
  else
    Option.bind (app ([] : List Int) a1) fun l4 =>
    Option.bind (app l4 a2) fun l5 =>
    law09_SharesLater_l1 n a0 a1 a2 l5 n 0
def law09_SharesLater (n : Nat) (a0 : Share) (a1 : List Int) (a2 : List Int) : Option (Bool) :=
  Option.bind (law09_isShare n a0) fun r46 =>
  if (!r46) = true then
    law09_SharesLater_j1 n a0 a1 a2 true
  else
    law09_SharesLater_j1 n a0 a1 a2 (decide ((w64 ((a1.length : Int) + (a2.length : Int))) > 6))
/-- shellac/shellaclaw09.SharesRepaid -/
def law09_SharesRepaid_j3 (n : Nat) : Option (Bool) :=
  Option.bind (law09_works n) fun r7 =>
  some r7
def law09_SharesRepaid_j4 (rec1 : (List Int) → Int → Option (Bool)) (v9 : Int) (l11 : List Int) (v14 : Bool) : Option (Bool) :=
  if v14 = true then
    some false
  else
    rec1 l11 (w64 (v9 + 1))
def law09_SharesRepaid_l1_b (n : Nat) (a0 : Share) (a1 : Int) (r4 : Int × Int) (rec1 : (List Int) → Int → Option (Bool)) (v8 : List Int) (v9 : Int) : Option (Bool) :=
  if decide (v9 < 6) = true then
    Option.bind (app v8 ([a1] : List Int)) fun l11 =>
    Option.bind (app ([] : List Int) l11) fun l12 =>
    Option.bind (shares_Weeks n a0 l12) fun r13 =>
    if (r13.2.2 != 0) = true then
      law09_SharesRepaid_j4 rec1 v9 l11 true
    else
      if (r4.2 == 0) = true then
        law09_SharesRepaid_j4 rec1 v9 l11 (!((r13.2.1 == 0) == (decide (r4.1 ≤ (w64 (v9 + 1))))))
      else
        law09_SharesRepaid_j4 rec1 v9 l11 (!((r13.2.1 == 0) == false))
  else
    law09_SharesRepaid_j3 n
def law09_SharesRepaid_l1 (n : Nat) (a0 : Share) (a1 : Int) (r4 : Int × Int) : Nat → (List Int) → Int → Option (Bool)
  | 0, _, _ => none
  | m + 1, v8, v9 => law09_SharesRepaid_l1_b n a0 a1 r4 (law09_SharesRepaid_l1 n a0 a1 r4 m) v8 v9
def law09_SharesRepaid_j2 (n : Nat) (a0 : Share) (a1 : Int) (r4 : Int × Int) (v5 : Bool) : Option (Bool) :=
  if v5 = true then
    some false
  else
    law09_SharesRepaid_l1 n a0 a1 r4 n ([] : List Int) 0
def law09_SharesRepaid_j1 (n : Nat) (a0 : Share) (a1 : Int) (v1 : Bool) : Option (Bool) :=
  if v1 = true then
    Option.bind (law09_works n) fun r3 =>
    some r3
  else
    Option.bind (shares_Repaid n a0 a1) fun r4 =>
    Option.bind (law09_isKnown r4.2) fun r18 =>
    if (!r18) = true then
      law09_SharesRepaid_j2 n a0 a1 r4 true
    else
      if (r4.2 == 0) = true then
        if decide (r4.1 < 0) = true then
          law09_SharesRepaid_j2 n a0 a1 r4 true
        else
          if decide (r4.1 > 1000) = true then
            law09_SharesRepaid_j2 n a0 a1 r4 true
          else
            law09_SharesRepaid_j2 n a0 a1 r4 (!((r4.1 == 0) == (a0.Loan == 0)))
      else
        law09_SharesRepaid_j2 n a0 a1 r4 false
def law09_SharesRepaid (n : Nat) (a0 : Share) (a1 : Int) : Option (Bool) :=
  Option.bind (law09_isShare n a0) fun r23 =>
  if (!r23) = true then
    law09_SharesRepaid_j1 n a0 a1 true
  else
    Option.bind (ref09_IsCents a1) fun r25 =>
    law09_SharesRepaid_j1 n a0 a1 (!r25)
/-- shellac/shellacref09.Week -/
def ref09_Week (n : Nat) (a0 : Share) (a1 : Int) : Option (Split × Int) :=
  Option.bind (ref09_IsCents a1) fun r1 =>
  Option.bind (ref09_ask n a0 r1) fun r2 =>
  if (r2 != 0) = true then
    some ((⟨0, 0, 0⟩ : Split), r2)
  else
    Option.bind (ref09_Gone n a0 a1 0) fun r4 =>
    some (r4.2, 0)
/-- shellac/shellacref09.Gift -/
def ref09_Gift_j1 (n : Nat) (a0 : Share) (a1 : Int) (a2 : Int) (v1 : Int) : Option (Split × Int) :=
  if (v1 != 0) = true then
    some ((⟨0, 0, 0⟩ : Split), v1)
  else
    Option.bind (ref09_Gone n a0 a1 a2) fun r3 =>
    some (r3.2, 0)
def ref09_Gift (n : Nat) (a0 : Share) (a1 : Int) (a2 : Int) : Option (Split × Int) :=
  Option.bind (ref09_IsCents a1) fun r4 =>
  if r4 = true then
    Option.bind (ref09_IsCents a2) fun r6 =>
    Option.bind (ref09_ask n a0 r6) fun r7 =>
    ref09_Gift_j1 n a0 a1 a2 r7
  else
    Option.bind (ref09_ask n a0 false) fun r8 =>
    ref09_Gift_j1 n a0 a1 a2 r8
/-- shellac/shellacref09.IsClause -/
def ref09_IsClause (a0 : Share) (a1 : Int) : Option (Bool) :=
  Option.bind (ref09_within a1 0 (w64 ((a0.Clauses.length : Int) - 1))) fun r1 =>
  some r1
/-- shellac/shellacref09.Gives -/
def ref09_Gives_j1 (n : Nat) (a0 : Share) (a1 : Int) (a2 : Int) (v1 : Int) : Option (Int × Int) :=
  if (v1 != 0) = true then
    some (0, v1)
  else
    Option.bind (ref09_Gone n a0 a1 0) fun r3 =>
    Option.bind (idx r3.1 a2) fun x4 =>
    some (x4, 0)
def ref09_Gives (n : Nat) (a0 : Share) (a1 : Int) (a2 : Int) : Option (Int × Int) :=
  Option.bind (ref09_IsCents a1) fun r5 =>
  if r5 = true then
    Option.bind (ref09_IsClause a0 a2) fun r7 =>
    Option.bind (ref09_ask n a0 r7) fun r8 =>
    ref09_Gives_j1 n a0 a1 a2 r8
  else
    Option.bind (ref09_ask n a0 false) fun r9 =>
    ref09_Gives_j1 n a0 a1 a2 r9
/-- slices.Clone -/
def slices_Clone_apiClause (a0 : List Clause) : Option (List Clause) := app [] a0
/-- shellac/shellacref09.Less -/
def ref09_Less_j1 (a0 : Share) (v1 : List Clause) : Option (Share) :=
  some (⟨v1, a0.Loan⟩ : Share)
def ref09_Less_j2 (rec1 : Int → (List Clause) → Option (Share)) (v3 : Int) (v6 : List Clause) : Option (Share) :=
  rec1 (w64 (v3 + 1)) v6
def ref09_Less_l1_b (a0 : Share) (a1 : Int) (rec1 : Int → (List Clause) → Option (Share)) (v3 : Int) (v4 : List Clause) : Option (Share) :=
  if decide (v3 < (a0.Clauses.length : Int)) = true then
    if (v3 != a1) = true then
      Option.bind (idx a0.Clauses v3) fun x8 =>
      Option.bind (app v4 ([x8] : List Clause)) fun l9 =>
      ref09_Less_j2 rec1 v3 l9
    else
      ref09_Less_j2 rec1 v3 v4
  else
    ref09_Less_j1 a0 v4
def ref09_Less_l1 (a0 : Share) (a1 : Int) : Nat → Int → (List Clause) → Option (Share)
  | 0, _, _ => none
  | m + 1, v3, v4 => ref09_Less_l1_b a0 a1 (ref09_Less_l1 a0 a1 m) v3 v4
def ref09_Less (n : Nat) (a0 : Share) (a1 : Int) : Option (Share) :=
  ref09_Less_l1 a0 a1 n 0 ([] : List Clause)
/-- shellac/shellacref09.Without -/
def ref09_Without_j1 (n : Nat) (a0 : Share) (a1 : Int) (a2 : Int) (v1 : Int) : Option (Int × Int) :=
  if (v1 != 0) = true then
    some (0, v1)
  else
    Option.bind (ref09_Gone n a0 a1 0) fun r3 =>
    Option.bind (ref09_Less n a0 a2) fun r4 =>
    Option.bind (ref09_Gone n r4 a1 0) fun r5 =>
    some (w64 (r5.2.Owner - r3.2.Owner), 0)
def ref09_Without (n : Nat) (a0 : Share) (a1 : Int) (a2 : Int) : Option (Int × Int) :=
  Option.bind (ref09_IsCents a1) fun r6 =>
  if r6 = true then
    Option.bind (ref09_IsClause a0 a2) fun r8 =>
    Option.bind (ref09_ask n a0 r8) fun r9 =>
    ref09_Without_j1 n a0 a1 a2 r9
  else
    Option.bind (ref09_ask n a0 false) fun r10 =>
    ref09_Without_j1 n a0 a1 a2 r10
end Go.Law
