/-
  What the functions compute (printed by gen.py).
  Conditions: none.
-/
import Derived.Test.YtkgldpboiigphaaAmN
set_option linter.all false
namespace Go.Law
open Go Go.AM
set_option linter.unusedVariables false
structure Clause where
  Kind : Int
  Cents : Int
  Part : Int
  More : Int
  deriving DecidableEq, Inhabited, Repr
abbrev Clause.cells (x : Clause) : List AV := [.v (.int .i64 x.Kind), .v (.int .i64 x.Cents), .v (.int .i64 x.Part), .v (.int .i64 x.More)]
structure Share where
  Clauses : List Clause
  Loan : Int
  deriving DecidableEq, Inhabited, Repr
abbrev Share.cells (x : Share) : List AV := [.sl .no 4 (x.Clauses.map Clause.cells), .v (.int .i64 x.Loan)]
structure Split where
  Operator : Int
  Owner : Int
  Repaid : Int
  deriving DecidableEq, Inhabited, Repr
abbrev Split.cells (x : Split) : List AV := [.v (.int .i64 x.Operator), .v (.int .i64 x.Owner), .v (.int .i64 x.Repaid)]
structure Week_ where
  Split : Split
  rest : Int
  owed : Int
  deriving DecidableEq, Inhabited, Repr
abbrev Week_.cells (x : Week_) : List AV := [.v (.int .i64 x.Split.Operator), .v (.int .i64 x.Split.Owner), .v (.int .i64 x.Split.Repaid), .v (.int .i64 x.rest), .v (.int .i64 x.owed)]
structure Ask_ where
  Takings : Int
  Gift : Int
  Clause : Int
  deriving DecidableEq, Inhabited, Repr
abbrev Ask_.cells (x : Ask_) : List AV := [.v (.int .i64 x.Takings), .v (.int .i64 x.Gift), .v (.int .i64 x.Clause)]
structure More where
  Goal : Int
  Takings : Int
  deriving DecidableEq, Inhabited, Repr
abbrev More.cells (x : More) : List AV := [.v (.int .i64 x.Goal), .v (.int .i64 x.Takings)]
/-- shellac/shellaclaw09.far -/
def law09_far (a0 : Share) : Option (Bool) :=
  some (decide ((a0.Clauses.length : Int) > 40))
/-- shellac/shares.within -/
def shares_within_j1 (v1 : Bool) : Option (Bool) :=
  some v1
def shares_within (a0 : Int) (a1 : Int) (a2 : Int) : Option (Bool) :=
  if decide (a1 ≤ a0) = true then
    shares_within_j1 (decide (a0 ≤ a2))
  else
    shares_within_j1 false
/-- shellac/shares.isCents -/
def shares_isCents (a0 : Int) : Option (Bool) :=
  Option.bind (shares_within a0 0 9999) fun r1 =>
  some r1
/-- shellac/shares.Check$1 -/
def shares_Check_c1_j1 (v1 : Bool) : Option (Bool) :=
  some v1
def shares_Check_c1 (a0 : Clause) : Option (Bool) :=
  Option.bind (shares_within a0.Kind 1 5) fun r2 =>
  if (!r2) = true then
    shares_Check_c1_j1 true
  else
    Option.bind (shares_isCents a0.Cents) fun r4 =>
    if (!r4) = true then
      shares_Check_c1_j1 true
    else
      Option.bind (shares_within a0.Part 0 100) fun r6 =>
      if (!r6) = true then
        shares_Check_c1_j1 true
      else
        Option.bind (shares_within a0.More 0 100) fun r8 =>
        shares_Check_c1_j1 (!r8)
/-- slices.IndexFunc[[]shellac/api.Clause,shellac/api.Clause] -/
def slices_IndexFunc_apiClause_j1 {S : Type} (v1 : S) : Option (Int × S) :=
  some ((-1), v1)
def slices_IndexFunc_apiClause_l1_b {S : Type} (a0 : List Clause) (aF : Clause → S → Option (Bool × S)) (rec1 : Int → S → Option (Int × S)) (v3 : Int) (v4 : S) : Option (Int × S) :=
  if decide (v3 < (a0.length : Int)) = true then
    Option.bind (idx a0 v3) fun x6 =>
    Option.bind (aF x6 v4) fun r7 =>
    if r7.1 = true then
      some (v3, r7.2)
    else
      rec1 (w64 (v3 + 1)) r7.2
  else
    slices_IndexFunc_apiClause_j1 v4
def slices_IndexFunc_apiClause_l1 {S : Type} (a0 : List Clause) (aF : Clause → S → Option (Bool × S)) : Nat → Int → S → Option (Int × S)
  | 0, _, _ => none
  | m + 1, v3, v4 => slices_IndexFunc_apiClause_l1_b a0 aF (slices_IndexFunc_apiClause_l1 a0 aF m) v3 v4
def slices_IndexFunc_apiClause {S : Type} (n : Nat) (aF : Clause → S → Option (Bool × S)) (a0 : List Clause) (st : S) : Option (Int × S) :=
  slices_IndexFunc_apiClause_l1 a0 aF n 0 st
/-- slices.ContainsFunc[[]shellac/api.Clause,shellac/api.Clause] -/
def slices_ContainsFunc_apiClause {S : Type} (n : Nat) (aF : Clause → S → Option (Bool × S)) (a0 : List Clause) (st : S) : Option (Bool × S) :=
  Option.bind (slices_IndexFunc_apiClause n aF a0 st) fun r1 =>
  some (decide (r1.1 ≥ 0), r1.2)
/-- shellac/shares.Check -/
def shares_Check_j1 (v1 : Bool) : Option (Int) :=
  if v1 = true then
    some 90
  else
    some 0
def shares_Check (n : Nat) (a0 : Share) : Option (Int) :=
  if decide ((a0.Clauses.length : Int) > 5) = true then
    shares_Check_j1 true
  else
    Option.bind (slices_ContainsFunc_apiClause n (fun (x0 : Clause) (_ : Unit) => (shares_Check_c1 x0).map fun y => (y, ())) a0.Clauses ()) fun r4 =>
    if r4.1 = true then
      shares_Check_j1 true
    else
      Option.bind (shares_isCents a0.Loan) fun r6 =>
      shares_Check_j1 (!r6)
/-- shellac/shares.ask -/
def shares_ask (n : Nat) (a0 : Share) (a1 : Bool) : Option (Int) :=
  Option.bind (shares_Check n a0) fun r1 =>
  if (r1 != 0) = true then
    some r1
  else
    if (!a1) = true then
      some 1
    else
      some 0
/-- slices.Index[[]int,int] -/
def slices_Index_int_j1 : Option (Int) :=
  some (-1)
def slices_Index_int_l1_b (a0 : List Int) (a1 : Int) (rec1 : Int → Option (Int)) (v1 : Int) : Option (Int) :=
  if decide (v1 < (a0.length : Int)) = true then
    Option.bind (idx a0 v1) fun x3 =>
    if (a1 == x3) = true then
      some v1
    else
      rec1 (w64 (v1 + 1))
  else
    slices_Index_int_j1
def slices_Index_int_l1 (a0 : List Int) (a1 : Int) : Nat → Int → Option (Int)
  | 0, _ => none
  | m + 1, v1 => slices_Index_int_l1_b a0 a1 (slices_Index_int_l1 a0 a1 m) v1
def slices_Index_int (n : Nat) (a0 : List Int) (a1 : Int) : Option (Int) :=
  slices_Index_int_l1 a0 a1 n 0
/-- slices.Contains[[]int,int] -/
def slices_Contains_int (n : Nat) (a0 : List Int) (a1 : Int) : Option (Bool) :=
  Option.bind (slices_Index_int n a0 a1) fun r1 =>
  some (decide (r1 ≥ 0))
/-- slices.Clone -/
def slices_Clone_int (a0 : List Int) : Option (List Int) := app [] a0
/-- shellac/shares.orders -/
def shares_orders_j1 {S : Type} (v3 : S) : Option (Bool × S) :=
  some (true, v3)
def shares_orders_j2 {S : Type} (rec1 : Int → S → Option (Bool × S)) (v5 : Int) (v8 : Bool) (v9 : S) : Option (Bool × S) :=
  if v8 = true then
    some (false, v9)
  else
    rec1 (w64 (v5 + 1)) v9
def shares_orders_l1_b {S : Type} (n : Nat) (rec : Int → (List Int) → S → Option (Bool × S)) (a0 : Int) (a1 : List Int) (rec1 : Int → S → Option (Bool × S)) (v5 : Int) (v6 : S) : Option (Bool × S) :=
  if decide (v5 < a0) = true then
    Option.bind (slices_Contains_int n a1 v5) fun r11 =>
    if (!r11) = true then
      Option.bind (slices_Clone_int a1) fun l13 =>
      Option.bind (app l13 ([v5] : List Int)) fun l14 =>
      Option.bind (rec a0 l14 v6) fun r15 =>
      shares_orders_j2 rec1 v5 (!r15.1) r15.2
    else
      shares_orders_j2 rec1 v5 false v6
  else
    shares_orders_j1 v6
def shares_orders_l1 {S : Type} (n : Nat) (rec : Int → (List Int) → S → Option (Bool × S)) (a0 : Int) (a1 : List Int) : Nat → Int → S → Option (Bool × S)
  | 0, _, _ => none
  | m + 1, v5, v6 => shares_orders_l1_b n rec a0 a1 (shares_orders_l1 n rec a0 a1 m) v5 v6
def shares_orders_b {S : Type} (n : Nat) (rec : Int → (List Int) → S → Option (Bool × S)) (aF : (List Int) → S → Option (Bool × S)) (a0 : Int) (a1 : List Int) (st : S) : Option (Bool × S) :=
  if ((a1.length : Int) == a0) = true then
    Option.bind (aF a1 st) fun r2 =>
    some (r2.1, r2.2)
  else
    shares_orders_l1 n rec a0 a1 n 0 st
def shares_orders {S : Type} : Nat → ((List Int) → S → Option (Bool × S)) → Int → (List Int) → S → Option (Bool × S)
  | 0, _, _, _, _ => none
  | n + 1, aF, a0, a1, st => shares_orders_b n (shares_orders n aF) aF a0 a1 st
/-- (*shellac/shares.week).owner -/
def shares_week_owner (a0 : Week_) (a1 : Int) : Option (Week_ × Int) :=
  some ((⟨(⟨a0.Split.Operator, w64 (a0.Split.Owner + a1), a0.Split.Repaid⟩ : Split), w64 (a0.rest - a1), a0.owed⟩ : Week_), a1)
/-- (*shellac/shares.week).operator -/
def shares_week_operator (a0 : Week_) (a1 : Int) : Option (Week_ × Int) :=
  some ((⟨(⟨w64 (a0.Split.Operator + a1), a0.Split.Owner, a0.Split.Repaid⟩ : Split), w64 (a0.rest - a1), a0.owed⟩ : Week_), a1)
/-- shellac/shares.rules$1 -/
def shares_rules_c1 (a0 : Week_) (a1 : Clause) : Option (Week_ × Int) :=
  Option.bind (shares_week_operator a0 (min a0.rest a1.Cents)) fun r1 =>
  some (r1.1, r1.2)
/-- (*shellac/shares.week).repay -/
def shares_week_repay (a0 : Week_) (a1 : Clause) : Option (Week_ × Int) :=
  Option.bind (shares_week_operator a0 (min (min a0.rest a1.Cents) a0.owed)) fun r1 =>
  some ((⟨(⟨r1.1.Split.Operator, r1.1.Split.Owner, w64 (r1.1.Split.Repaid + r1.2)⟩ : Split), r1.1.rest, w64 (r1.1.owed - r1.2)⟩ : Week_), r1.2)
/-- shellac/shares.five -/
def shares_five (a0 : Int) : Option (Int) :=
  Option.bind (quo a0 500) fun q1 =>
  some (w64 (q1 * 5))
/-- shellac/shares.rules$2 -/
def shares_rules_c2 (a0 : Week_) (a1 : Clause) : Option (Week_ × Int) :=
  Option.bind (shares_five (w64 (a1.Part * a0.rest))) fun r1 =>
  Option.bind (shares_week_owner a0 r1) fun r2 =>
  some (r2.1, r2.2)
/-- shellac/shares.rules$3 -/
def shares_rules_c3 (a0 : Week_) (a1 : Clause) : Option (Week_ × Int) :=
  Option.bind (shares_five (w64 ((w64 (a1.Part * (min a0.rest a1.Cents))) + (w64 (a1.More * (w64 (a0.rest - (min a0.rest a1.Cents)))))))) fun r1 =>
  Option.bind (shares_week_owner a0 r1) fun r2 =>
  some (r2.1, r2.2)
/-- shellac/shares.rules$4 -/
def shares_rules_c4 (a0 : Week_) (a1 : Clause) : Option (Week_ × Int) :=
  Option.bind (shares_week_owner a0 (min a0.rest (max 0 (w64 (a1.Cents - a0.Split.Owner))))) fun r1 =>
  some (r1.1, r1.2)
/-- shellac/shares.settle -/
def shares_settle_j1 (v2 : List Int) (v3 : Int) (v4 : Int) (v5 : Int) (v6 : Int) (v7 : Int) : Option (Week_ × (List Int)) :=
  Option.bind (shares_week_operator (⟨(⟨v3, v4, v5⟩ : Split), v6, v7⟩ : Week_) v6) fun r8 =>
  some (r8.1, v2)
def shares_settle_l1_b (a0 : List Clause) (rec1 : (List Int) → Int → Int → Int → Int → Int → Int → Option (Week_ × (List Int))) (v11 : List Int) (v12 : Int) (v13 : Int) (v14 : Int) (v15 : Int) (v16 : Int) (v17 : Int) : Option (Week_ × (List Int)) :=
  if decide (v12 < (a0.length : Int)) = true then
    Option.bind (idx a0 v12) fun x19 =>
    if (x19.Kind == 1) = true then
      Option.bind (shares_rules_c1 (⟨(⟨v13, v14, v15⟩ : Split), v16, v17⟩ : Week_) x19) fun r21 =>
      Option.bind (app v11 ([r21.2] : List Int)) fun l22 =>
      rec1 l22 (w64 (v12 + 1)) r21.1.Split.Operator r21.1.Split.Owner r21.1.Split.Repaid r21.1.rest r21.1.owed
    else
      if (x19.Kind == 2) = true then
        Option.bind (shares_week_repay (⟨(⟨v13, v14, v15⟩ : Split), v16, v17⟩ : Week_) x19) fun r24 =>
        Option.bind (app v11 ([r24.2] : List Int)) fun l25 =>
        rec1 l25 (w64 (v12 + 1)) r24.1.Split.Operator r24.1.Split.Owner r24.1.Split.Repaid r24.1.rest r24.1.owed
      else
        if (x19.Kind == 3) = true then
          Option.bind (shares_rules_c2 (⟨(⟨v13, v14, v15⟩ : Split), v16, v17⟩ : Week_) x19) fun r27 =>
          Option.bind (app v11 ([r27.2] : List Int)) fun l28 =>
          rec1 l28 (w64 (v12 + 1)) r27.1.Split.Operator r27.1.Split.Owner r27.1.Split.Repaid r27.1.rest r27.1.owed
        else
          if (x19.Kind == 4) = true then
            Option.bind (shares_rules_c3 (⟨(⟨v13, v14, v15⟩ : Split), v16, v17⟩ : Week_) x19) fun r30 =>
            Option.bind (app v11 ([r30.2] : List Int)) fun l31 =>
            rec1 l31 (w64 (v12 + 1)) r30.1.Split.Operator r30.1.Split.Owner r30.1.Split.Repaid r30.1.rest r30.1.owed
          else
            if (x19.Kind == 5) = true then
              Option.bind (shares_rules_c4 (⟨(⟨v13, v14, v15⟩ : Split), v16, v17⟩ : Week_) x19) fun r33 =>
              Option.bind (app v11 ([r33.2] : List Int)) fun l34 =>
              rec1 l34 (w64 (v12 + 1)) r33.1.Split.Operator r33.1.Split.Owner r33.1.Split.Repaid r33.1.rest r33.1.owed
            else
              none
  else
    shares_settle_j1 v11 v13 v14 v15 v16 v17
def shares_settle_l1 (a0 : List Clause) : Nat → (List Int) → Int → Int → Int → Int → Int → Int → Option (Week_ × (List Int))
  | 0, _, _, _, _, _, _, _ => none
  | m + 1, v11, v12, v13, v14, v15, v16, v17 => shares_settle_l1_b a0 (shares_settle_l1 a0 m) v11 v12 v13 v14 v15 v16 v17
def shares_settle (n : Nat) (a0 : List Clause) (a1 : Int) (a2 : Int) (a3 : Int) : Option (Week_ × (List Int)) :=
  Option.bind (shares_week_owner (⟨(⟨0, 0, 0⟩ : Split), a2, a1⟩ : Week_) (min a3 a2)) fun r1 =>
  shares_settle_l1 a0 n ([] : List Int) 0 r1.1.Split.Operator r1.1.Split.Owner r1.1.Split.Repaid r1.1.rest r1.1.owed
/-- shellac/shares.owners -/
def shares_owners (n : Nat) (a0 : List Clause) (a1 : Int) (a2 : Int) : Option (Int) :=
  Option.bind (shares_settle n a0 a1 a2 0) fun r1 =>
  some r1.1.Split.Owner
/-- shellac/shares.Best$1 -/
def shares_Best_c1_j2 (v2 : Int) (v3 : List Int) : Option (Bool × (Int × (List Int))) :=
  some (true, (v2, v3))
def shares_Best_c1_j1 (n : Nat) (a0 : List Int) (st : Int × (List Int)) (a1 : Share) (a2 : Int) (v1 : List Clause) : Option (Bool × (Int × (List Int))) :=
  Option.bind (shares_owners n v1 a1.Loan a2) fun r4 =>
  if decide (r4 > st.1) = true then
    shares_Best_c1_j2 r4 a0
  else
    shares_Best_c1_j2 st.1 st.2
def shares_Best_c1_l1_b (n : Nat) (a0 : List Int) (st : Int × (List Int)) (a1 : Share) (a2 : Int) (rec1 : (List Clause) → Int → Option (Bool × (Int × (List Int)))) (v6 : List Clause) (v7 : Int) : Option (Bool × (Int × (List Int))) :=
  if decide (v7 < (a0.length : Int)) = true then
    Option.bind (idx a0 v7) fun x9 =>
    Option.bind (idx a1.Clauses x9) fun x10 =>
    Option.bind (app v6 ([x10] : List Clause)) fun l11 =>
    rec1 l11 (w64 (v7 + 1))
  else
    shares_Best_c1_j1 n a0 st a1 a2 v6
def shares_Best_c1_l1 (n : Nat) (a0 : List Int) (st : Int × (List Int)) (a1 : Share) (a2 : Int) : Nat → (List Clause) → Int → Option (Bool × (Int × (List Int)))
  | 0, _, _ => none
  | m + 1, v6, v7 => shares_Best_c1_l1_b n a0 st a1 a2 (shares_Best_c1_l1 n a0 st a1 a2 m) v6 v7
def shares_Best_c1 (n : Nat) (a0 : List Int) (a1 : Share) (a2 : Int) (st : Int × (List Int)) : Option (Bool × (Int × (List Int))) :=
  shares_Best_c1_l1 n a0 st a1 a2 n ([] : List Clause) 0
/-- shellac/shares.Best -/
def shares_Best (n : Nat) (a0 : Share) (a1 : Int) : Option ((List Int) × Int) :=
  Option.bind (shares_isCents a1) fun r1 =>
  Option.bind (shares_ask n a0 r1) fun r2 =>
  if (r2 != 0) = true then
    some (([] : List Int), r2)
  else
    Option.bind (shares_orders n (fun (x0 : List Int) s => shares_Best_c1 n x0 a0 a1 s) (a0.Clauses.length : Int) ([] : List Int) ((-1), ([] : List Int))) fun r4 =>
    some (r4.2.2, 0)
/-- shellac/shares.Repaid -/
def shares_Repaid_j1 : Option (Int × Int) :=
  some (0, 3)
def shares_Repaid_l1_b (n : Nat) (a0 : Share) (a1 : Int) (rec1 : Int → Int → Option (Int × Int)) (v4 : Int) (v5 : Int) : Option (Int × Int) :=
  if decide (v5 < 1001) = true then
    if (v4 == 0) = true then
      some (v5, 0)
    else
      Option.bind (shares_settle n a0.Clauses v4 a1 0) fun r8 =>
      rec1 r8.1.owed (w64 (v5 + 1))
  else
    shares_Repaid_j1
def shares_Repaid_l1 (n : Nat) (a0 : Share) (a1 : Int) : Nat → Int → Int → Option (Int × Int)
  | 0, _, _ => none
  | m + 1, v4, v5 => shares_Repaid_l1_b n a0 a1 (shares_Repaid_l1 n a0 a1 m) v4 v5
def shares_Repaid (n : Nat) (a0 : Share) (a1 : Int) : Option (Int × Int) :=
  Option.bind (shares_isCents a1) fun r1 =>
  Option.bind (shares_ask n a0 r1) fun r2 =>
  if (r2 != 0) = true then
    some (0, r2)
  else
    shares_Repaid_l1 n a0 a1 n a0.Loan 0
/-- shellac/shellacref01.SameInts -/
def ref01_SameInts_j1 : Option (Bool) :=
  some true
def ref01_SameInts_l1_b (a0 : List Int) (a1 : List Int) (rec1 : Int → Option (Bool)) (v2 : Int) : Option (Bool) :=
  if decide (v2 < (a0.length : Int)) = true then
    Option.bind (idx a0 v2) fun x4 =>
    Option.bind (idx a1 v2) fun x5 =>
    if (x4 != x5) = true then
      some false
    else
      rec1 (w64 (v2 + 1))
  else
    ref01_SameInts_j1
def ref01_SameInts_l1 (a0 : List Int) (a1 : List Int) : Nat → Int → Option (Bool)
  | 0, _ => none
  | m + 1, v2 => ref01_SameInts_l1_b a0 a1 (ref01_SameInts_l1 a0 a1 m) v2
def ref01_SameInts (n : Nat) (a0 : List Int) (a1 : List Int) : Option (Bool) :=
  if ((a0.length : Int) != (a1.length : Int)) = true then
    some false
  else
    ref01_SameInts_l1 a0 a1 n 0
/-- shellac/shares.Gift -/
def shares_Gift_j1 (n : Nat) (a0 : Share) (a1 : Int) (a2 : Int) (v1 : Int) : Option (Split × Int) :=
  if (v1 != 0) = true then
    some ((⟨0, 0, 0⟩ : Split), v1)
  else
    Option.bind (shares_settle n a0.Clauses a0.Loan a1 a2) fun r3 =>
    some (r3.1.Split, 0)
def shares_Gift (n : Nat) (a0 : Share) (a1 : Int) (a2 : Int) : Option (Split × Int) :=
  Option.bind (shares_isCents a1) fun r4 =>
  if r4 = true then
    Option.bind (shares_isCents a2) fun r6 =>
    Option.bind (shares_ask n a0 r6) fun r7 =>
    shares_Gift_j1 n a0 a1 a2 r7
  else
    Option.bind (shares_ask n a0 false) fun r8 =>
    shares_Gift_j1 n a0 a1 a2 r8
/-- shellac/shares.Week -/
def shares_Week (n : Nat) (a0 : Share) (a1 : Int) : Option (Split × Int) :=
  Option.bind (shares_Gift n a0 a1 0) fun r1 =>
  some (r1.1, r1.2)
/-- shellac/shellaclaw09.Example -/
def law09_Example : Option (Share) :=
  some (⟨([(⟨1, 500, 0, 0⟩ : Clause), (⟨2, 300, 0, 0⟩ : Clause), (⟨4, 1000, 40, 60⟩ : Clause), (⟨5, 450, 0, 0⟩ : Clause)] : List Clause), 700⟩ : Share)
/-- shellac/shellaclaw09.works -/
def law09_works_j1 (v6 : Bool) : Option (Bool) :=
  some v6
def law09_works (n : Nat) : Option (Bool) :=
  Option.bind (law09_Example) fun r1 =>
  Option.bind (shares_Week n r1 2013) fun r2 =>
  Option.bind (shares_Best n r1 2013) fun r3 =>
  Option.bind (shares_Repaid n r1 2013) fun r4 =>
  Option.bind (shares_Gift n r1 2013 100) fun r5 =>
  if (r2.2 == 0) = true then
    if (r3.2 == 0) = true then
      if (r4.2 == 0) = true then
        if (r5.2 == 0) = true then
          if ((r2.1.Operator == 1488) && ((r2.1.Owner == 525) && ((r2.1.Repaid == 300) && true))) = true then
            Option.bind (ref01_SameInts n r3.1 ([3, 2, 0, 1] : List Int)) fun r12 =>
            if r12 = true then
              if (r4.1 == 3) = true then
                law09_works_j1 ((r5.1.Operator == 1448) && ((r5.1.Owner == 565) && ((r5.1.Repaid == 300) && true)))
              else
                law09_works_j1 false
            else
              law09_works_j1 false
          else
            law09_works_j1 false
        else
          law09_works_j1 false
      else
        law09_works_j1 false
    else
      law09_works_j1 false
  else
    law09_works_j1 false
/-- shellac/shellacref09.Copy -/
def ref09_Copy (a0 : Share) : Option (Share) :=
  Option.bind (app ([] : List Clause) a0.Clauses) fun l1 =>
  some (⟨l1, a0.Loan⟩ : Share)
/-- shellac/shellacref01.Within -/
def ref01_Within_j1 (v1 : Bool) : Option (Bool) :=
  some v1
def ref01_Within (a0 : Int) (a1 : Int) (a2 : Int) : Option (Bool) :=
  if decide (a0 ≥ a1) = true then
    ref01_Within_j1 (decide (a0 ≤ a2))
  else
    ref01_Within_j1 false
/-- shellac/shellacref09.within -/
def ref09_within (a0 : Int) (a1 : Int) (a2 : Int) : Option (Bool) :=
  Option.bind (ref01_Within a0 a1 a2) fun r1 =>
  some r1
/-- shellac/shellacref09.IsCents -/
def ref09_IsCents (a0 : Int) : Option (Bool) :=
  Option.bind (ref09_within a0 0 9999) fun r1 =>
  some r1
/-- shellac/shellacref09.Check -/
def ref09_Check_j2 : Option (Int) :=
  some 0
def ref09_Check_j3 (rec1 : Int → Option (Int)) (v3 : Int) (v6 : Bool) : Option (Int) :=
  if v6 = true then
    some 90
  else
    rec1 (w64 (v3 + 1))
def ref09_Check_l1_b (a0 : Share) (rec1 : Int → Option (Int)) (v3 : Int) : Option (Int) :=
  if decide (v3 < (a0.Clauses.length : Int)) = true then
    Option.bind (idx a0.Clauses v3) fun x5 =>
    Option.bind (ref09_within x5.Kind 1 5) fun r8 =>
    if (!r8) = true then
      ref09_Check_j3 rec1 v3 true
    else
      Option.bind (ref09_IsCents x5.Cents) fun r10 =>
      if (!r10) = true then
        ref09_Check_j3 rec1 v3 true
      else
        Option.bind (ref09_within x5.Part 0 100) fun r12 =>
        if (!r12) = true then
          ref09_Check_j3 rec1 v3 true
        else
          Option.bind (ref09_within x5.More 0 100) fun r14 =>
          ref09_Check_j3 rec1 v3 (!r14)
  else
    ref09_Check_j2
def ref09_Check_l1 (a0 : Share) : Nat → Int → Option (Int)
  | 0, _ => none
  | m + 1, v3 => ref09_Check_l1_b a0 (ref09_Check_l1 a0 m) v3
def ref09_Check_j1 (n : Nat) (a0 : Share) (v1 : Bool) : Option (Int) :=
  if v1 = true then
    some 90
  else
    ref09_Check_l1 a0 n 0
def ref09_Check (n : Nat) (a0 : Share) : Option (Int) :=
  if decide ((a0.Clauses.length : Int) > 5) = true then
    ref09_Check_j1 n a0 true
  else
    Option.bind (ref09_IsCents a0.Loan) fun r16 =>
    ref09_Check_j1 n a0 (!r16)
/-- shellac/shellacref09.ask -/
def ref09_ask (n : Nat) (a0 : Share) (a1 : Bool) : Option (Int) :=
  Option.bind (ref09_Check n a0) fun r1 =>
  if (r1 != 0) = true then
    some r1
  else
    if (!a1) = true then
      some 1
    else
      some 0
/-- shellac/shellacref09.IsOwners -/
def ref09_IsOwners (a0 : Clause) : Option (Bool) :=
  some (decide (a0.Kind ≥ 3))
/-- shellac/shellacref09.Given -/
def ref09_Given (a0 : Clause) (a1 : Int) (a2 : Int) (a3 : Int) : Option (Int) :=
  if (a0.Kind == 1) = true then
    some (min a1 a0.Cents)
  else
    if (a0.Kind == 2) = true then
      some (min (min a1 a0.Cents) a3)
    else
      if (a0.Kind == 3) = true then
        Option.bind (quo (w64 (a0.Part * a1)) 500) fun q4 =>
        some (w64 (q4 * 5))
      else
        if (a0.Kind == 4) = true then
          Option.bind (quo (w64 ((w64 (a0.Part * (min a1 a0.Cents))) + (w64 (a0.More * (w64 (a1 - (min a1 a0.Cents))))))) 500) fun q6 =>
          some (w64 (q6 * 5))
        else
          some (min a1 (max 0 (w64 (a0.Cents - a2))))
/-- shellac/shellacref09.Gone -/
def ref09_Gone_j1 (a1 : Int) (v1 : List Int) (v2 : Int) (v3 : Int) : Option ((List Int) × Split) :=
  some (v1, (⟨w64 (a1 - v2), v2, v3⟩ : Split))
def ref09_Gone_j2 (rec1 : Int → (List Int) → Int → Int → Int → Option ((List Int) × Split)) (v9 : Int) (v13 : Int) (v14 : List Int) (v15 : Int) (v16 : Int) : Option ((List Int) × Split) :=
  rec1 v13 v14 (w64 (v9 + 1)) v15 v16
def ref09_Gone_j3 (rec1 : Int → (List Int) → Int → Int → Int → Option ((List Int) × Split)) (v7 : Int) (v9 : Int) (v11 : Int) (x17 : Clause) (r18 : Int) (l19 : List Int) (v20 : Int) : Option ((List Int) × Split) :=
  if (x17.Kind == 2) = true then
    ref09_Gone_j2 rec1 v9 (w64 (v7 - r18)) l19 v20 (w64 (v11 + r18))
  else
    ref09_Gone_j2 rec1 v9 (w64 (v7 - r18)) l19 v20 v11
def ref09_Gone_l1_b (a0 : Share) (a1 : Int) (rec1 : Int → (List Int) → Int → Int → Int → Option ((List Int) × Split)) (v7 : Int) (v8 : List Int) (v9 : Int) (v10 : Int) (v11 : Int) : Option ((List Int) × Split) :=
  if decide (v9 < (a0.Clauses.length : Int)) = true then
    Option.bind (idx a0.Clauses v9) fun x17 =>
    Option.bind (ref09_Given x17 v7 v10 (w64 (a0.Loan - v11))) fun r18 =>
    Option.bind (app v8 ([r18] : List Int)) fun l19 =>
    Option.bind (ref09_IsOwners x17) fun r22 =>
    if r22 = true then
      ref09_Gone_j3 rec1 v7 v9 v11 x17 r18 l19 (w64 (v10 + r18))
    else
      ref09_Gone_j3 rec1 v7 v9 v11 x17 r18 l19 v10
  else
    ref09_Gone_j1 a1 v8 v10 v11
def ref09_Gone_l1 (a0 : Share) (a1 : Int) : Nat → Int → (List Int) → Int → Int → Int → Option ((List Int) × Split)
  | 0, _, _, _, _, _ => none
  | m + 1, v7, v8, v9, v10, v11 => ref09_Gone_l1_b a0 a1 (ref09_Gone_l1 a0 a1 m) v7 v8 v9 v10 v11
def ref09_Gone (n : Nat) (a0 : Share) (a1 : Int) (a2 : Int) : Option ((List Int) × Split) :=
  ref09_Gone_l1 a0 a1 n (w64 (a1 - (min a2 a1))) ([] : List Int) 0 (min a2 a1) 0
/-- shellac/shellaclaw09.same -/
def law09_same_j2 : Option (Bool) :=
  some true
def law09_same_l1_b (a0 : Share) (a1 : Share) (rec1 : Int → Option (Bool)) (v3 : Int) : Option (Bool) :=
  if decide (v3 < (a0.Clauses.length : Int)) = true then
    Option.bind (idx a0.Clauses v3) fun x5 =>
    Option.bind (idx a1.Clauses v3) fun x6 =>
    if (!((x5.Kind == x6.Kind) && ((x5.Cents == x6.Cents) && ((x5.Part == x6.Part) && ((x5.More == x6.More) && true))))) = true then
      some false
    else
      rec1 (w64 (v3 + 1))
  else
    law09_same_j2
def law09_same_l1 (a0 : Share) (a1 : Share) : Nat → Int → Option (Bool)
  | 0, _ => none
  | m + 1, v3 => law09_same_l1_b a0 a1 (law09_same_l1 a0 a1 m) v3
def law09_same_j1 (n : Nat) (a0 : Share) (a1 : Share) (v1 : Bool) : Option (Bool) :=
  if v1 = true then
    some false
  else
    law09_same_l1 a0 a1 n 0
def law09_same (n : Nat) (a0 : Share) (a1 : Share) : Option (Bool) :=
  if (a0.Loan != a1.Loan) = true then
    law09_same_j1 n a0 a1 true
  else
    law09_same_j1 n a0 a1 ((a0.Clauses.length : Int) != (a1.Clauses.length : Int))
/-- shellac/shares.isClause -/
def shares_isClause (a0 : Share) (a1 : Int) : Option (Bool) :=
  Option.bind (shares_within a1 0 (w64 ((a0.Clauses.length : Int) - 1))) fun r1 =>
  some r1
/-- shellac/shares.Gives -/
def shares_Gives_j1 (n : Nat) (a0 : Share) (a1 : Int) (a2 : Int) (v1 : Int) : Option (Int × Int) :=
  if (v1 != 0) = true then
    some (0, v1)
  else
    Option.bind (shares_settle n a0.Clauses a0.Loan a1 0) fun r3 =>
    Option.bind (idx r3.2 a2) fun x4 =>
    some (x4, 0)
def shares_Gives (n : Nat) (a0 : Share) (a1 : Int) (a2 : Int) : Option (Int × Int) :=
  Option.bind (shares_isCents a1) fun r5 =>
  if r5 = true then
    Option.bind (shares_isClause a0 a2) fun r7 =>
    Option.bind (shares_ask n a0 r7) fun r8 =>
    shares_Gives_j1 n a0 a1 a2 r8
  else
    Option.bind (shares_ask n a0 false) fun r9 =>
    shares_Gives_j1 n a0 a1 a2 r9
/-- shellac/shellacref09.Week -/
def ref09_Week (n : Nat) (a0 : Share) (a1 : Int) : Option (Split × Int) :=
  Option.bind (ref09_IsCents a1) fun r1 =>
  Option.bind (ref09_ask n a0 r1) fun r2 =>
  if (r2 != 0) = true then
    some ((⟨0, 0, 0⟩ : Split), r2)
  else
    Option.bind (ref09_Gone n a0 a1 0) fun r4 =>
    some (r4.2, 0)
/-- shellac/shellacref09.Gift -/
def ref09_Gift_j1 (n : Nat) (a0 : Share) (a1 : Int) (a2 : Int) (v1 : Int) : Option (Split × Int) :=
  if (v1 != 0) = true then
    some ((⟨0, 0, 0⟩ : Split), v1)
  else
    Option.bind (ref09_Gone n a0 a1 a2) fun r3 =>
    some (r3.2, 0)
def ref09_Gift (n : Nat) (a0 : Share) (a1 : Int) (a2 : Int) : Option (Split × Int) :=
  Option.bind (ref09_IsCents a1) fun r4 =>
  if r4 = true then
    Option.bind (ref09_IsCents a2) fun r6 =>
    Option.bind (ref09_ask n a0 r6) fun r7 =>
    ref09_Gift_j1 n a0 a1 a2 r7
  else
    Option.bind (ref09_ask n a0 false) fun r8 =>
    ref09_Gift_j1 n a0 a1 a2 r8
/-- shellac/shellacref09.IsClause -/
def ref09_IsClause (a0 : Share) (a1 : Int) : Option (Bool) :=
  Option.bind (ref09_within a1 0 (w64 ((a0.Clauses.length : Int) - 1))) fun r1 =>
  some r1
/-- shellac/shellacref09.Gives -/
def ref09_Gives_j1 (n : Nat) (a0 : Share) (a1 : Int) (a2 : Int) (v1 : Int) : Option (Int × Int) :=
  if (v1 != 0) = true then
    some (0, v1)
  else
    Option.bind (ref09_Gone n a0 a1 0) fun r3 =>
    Option.bind (idx r3.1 a2) fun x4 =>
    some (x4, 0)
def ref09_Gives (n : Nat) (a0 : Share) (a1 : Int) (a2 : Int) : Option (Int × Int) :=
  Option.bind (ref09_IsCents a1) fun r5 =>
  if r5 = true then
    Option.bind (ref09_IsClause a0 a2) fun r7 =>
    Option.bind (ref09_ask n a0 r7) fun r8 =>
    ref09_Gives_j1 n a0 a1 a2 r8
  else
    Option.bind (ref09_ask n a0 false) fun r9 =>
    ref09_Gives_j1 n a0 a1 a2 r9

/-- slices.Clone -/
def slices_Clone_apiClause (a0 : List Clause) : Option (List Clause) := app [] a0
/-- shellac/shares.Without -/
def shares_Without_j1 (n : Nat) (a0 : Share) (a1 : Int) (a2 : Int) (v1 : Int) : Option (Int × Int) :=
  if (v1 != 0) = true then
    some (0, v1)
  else
    Option.bind (slices_Clone_apiClause a0.Clauses) fun r3 =>
    Option.bind (delL r3 a2 (w64 (a2 + 1))) fun l4 =>
    Option.bind (shares_owners n l4 a0.Loan a1) fun r5 =>
    Option.bind (shares_owners n a0.Clauses a0.Loan a1) fun r6 =>
    some (w64 (r5 - r6), 0)
def shares_Without (n : Nat) (a0 : Share) (a1 : Int) (a2 : Int) : Option (Int × Int) :=
  Option.bind (shares_isCents a1) fun r7 =>
  if r7 = true then
    Option.bind (shares_isClause a0 a2) fun r9 =>
    Option.bind (shares_ask n a0 r9) fun r10 =>
    shares_Without_j1 n a0 a1 a2 r10
  else
    Option.bind (shares_ask n a0 false) fun r11 =>
    shares_Without_j1 n a0 a1 a2 r11
/-- shellac/shellacref09.Less -/
def ref09_Less_j1 (a0 : Share) (v1 : List Clause) : Option (Share) :=
  some (⟨v1, a0.Loan⟩ : Share)
def ref09_Less_j2 (rec1 : Int → (List Clause) → Option (Share)) (v3 : Int) (v6 : List Clause) : Option (Share) :=
  rec1 (w64 (v3 + 1)) v6
def ref09_Less_l1_b (a0 : Share) (a1 : Int) (rec1 : Int → (List Clause) → Option (Share)) (v3 : Int) (v4 : List Clause) : Option (Share) :=
  if decide (v3 < (a0.Clauses.length : Int)) = true then
    if (v3 != a1) = true then
      Option.bind (idx a0.Clauses v3) fun x8 =>
      Option.bind (app v4 ([x8] : List Clause)) fun l9 =>
      ref09_Less_j2 rec1 v3 l9
    else
      ref09_Less_j2 rec1 v3 v4
  else
    ref09_Less_j1 a0 v4
def ref09_Less_l1 (a0 : Share) (a1 : Int) : Nat → Int → (List Clause) → Option (Share)
  | 0, _, _ => none
  | m + 1, v3, v4 => ref09_Less_l1_b a0 a1 (ref09_Less_l1 a0 a1 m) v3 v4
def ref09_Less (n : Nat) (a0 : Share) (a1 : Int) : Option (Share) :=
  ref09_Less_l1 a0 a1 n 0 ([] : List Clause)
/-- shellac/shellacref09.Without -/
def ref09_Without_j1 (n : Nat) (a0 : Share) (a1 : Int) (a2 : Int) (v1 : Int) : Option (Int × Int) :=
  if (v1 != 0) = true then
    some (0, v1)
  else
    Option.bind (ref09_Gone n a0 a1 0) fun r3 =>
    Option.bind (ref09_Less n a0 a2) fun r4 =>
    Option.bind (ref09_Gone n r4 a1 0) fun r5 =>
    some (w64 (r5.2.Owner - r3.2.Owner), 0)
def ref09_Without (n : Nat) (a0 : Share) (a1 : Int) (a2 : Int) : Option (Int × Int) :=
  Option.bind (ref09_IsCents a1) fun r6 =>
  if r6 = true then
    Option.bind (ref09_IsClause a0 a2) fun r8 =>
    Option.bind (ref09_ask n a0 r8) fun r9 =>
    ref09_Without_j1 n a0 a1 a2 r9
  else
    Option.bind (ref09_ask n a0 false) fun r10 =>
    ref09_Without_j1 n a0 a1 a2 r10
/-- shellac/shellaclaw09.SharesWeek -/
def law09_SharesWeek_j2 (v18 : Bool) : Option (Bool) :=
  some v18
def law09_SharesWeek_j1 (n : Nat) (a0 : Share) (a1 : Ask_) (r4 : Share) (v12 : Bool) : Option (Bool) :=
  if v12 = true then
    some false
  else
    Option.bind (shares_Gives n r4 a1.Takings a1.Clause) fun r14 =>
    Option.bind (ref09_Gives n a0 a1.Takings a1.Clause) fun r15 =>
    Option.bind (shares_Without n r4 a1.Takings a1.Clause) fun r16 =>
    Option.bind (ref09_Without n a0 a1.Takings a1.Clause) fun r17 =>
    if (r14.1 == r15.1) = true then
      if (r14.2 == r15.2) = true then
        if (r16.1 == r17.1) = true then
          if (r16.2 == r17.2) = true then
            Option.bind (law09_same n r4 a0) fun r23 =>
            if r23 = true then
              Option.bind (law09_works n) fun r25 =>
              law09_SharesWeek_j2 r25
            else
              law09_SharesWeek_j2 false
          else
            law09_SharesWeek_j2 false
        else
          law09_SharesWeek_j2 false
      else
        law09_SharesWeek_j2 false
    else
      law09_SharesWeek_j2 false
def law09_SharesWeek (n : Nat) (a0 : Share) (a1 : Ask_) : Option (Bool) :=
  Option.bind (law09_far a0) fun r1 =>
  if r1 = true then
    Option.bind (law09_works n) fun r3 =>
    some r3
  else
    Option.bind (ref09_Copy a0) fun r4 =>
    Option.bind (shares_Check n r4) fun r5 =>
    Option.bind (ref09_Check n a0) fun r6 =>
    if (r5 != r6) = true then
      some false
    else
      Option.bind (shares_Week n r4 a1.Takings) fun r8 =>
      Option.bind (ref09_Week n a0 a1.Takings) fun r9 =>
      Option.bind (shares_Gift n r4 a1.Takings a1.Gift) fun r10 =>
      Option.bind (ref09_Gift n a0 a1.Takings a1.Gift) fun r11 =>
      if (!((r8.1.Operator == r9.1.Operator) && ((r8.1.Owner == r9.1.Owner) && ((r8.1.Repaid == r9.1.Repaid) && true)))) = true then
        law09_SharesWeek_j1 n a0 a1 r4 true
      else
        if (r8.2 != r9.2) = true then
          law09_SharesWeek_j1 n a0 a1 r4 true
        else
          if (!((r10.1.Operator == r11.1.Operator) && ((r10.1.Owner == r11.1.Owner) && ((r10.1.Repaid == r11.1.Repaid) && true)))) = true then
            law09_SharesWeek_j1 n a0 a1 r4 true
          else
            law09_SharesWeek_j1 n a0 a1 r4 (r10.2 != r11.2)
end Go.Law
