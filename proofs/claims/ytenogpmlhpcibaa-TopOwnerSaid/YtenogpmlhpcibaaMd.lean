/-
  What the functions compute (printed by gen.py).
  Conditions: none.
-/
import Derived.Test.YtenogpmlhpcibaaAmN
set_option linter.all false
namespace Go.Law
open Go Go.AM
set_option linter.unusedVariables false
structure Wheel where
 Round:Int
 Notches:List Int
 Coins:List Int
 deriving DecidableEq,Inhabited,Repr
abbrev Wheel.cells (x:Wheel):List AV:=[.v (.int .i64 x.Round),.sl .no 1 (x.Notches.map cI),.sl .no 1 (x.Coins.map cI)]
structure Box where
 Wheel:Wheel
 Found:List Int
 Marked:List Int
 Slugs:List Int
 Plays:Int
 Skips:Int
 deriving DecidableEq,Inhabited,Repr
abbrev Box.cells (x:Box):List AV:=[.v (.int .i64 x.Wheel.Round),.sl .no 1 (x.Wheel.Notches.map cI),.sl .no 1 (x.Wheel.Coins.map cI),.sl .no 1 (x.Found.map cI),.sl .no 1 (x.Marked.map cI),.sl .no 1 (x.Slugs.map cI),.v (.int .i64 x.Plays),.v (.int .i64 x.Skips)]
structure Box_ where
 Box:Box
 deriving DecidableEq,Inhabited,Repr
abbrev Box_.cells (x:Box_):List AV:=[.v (.int .i64 x.Box.Wheel.Round),.sl .no 1 (x.Box.Wheel.Notches.map cI),.sl .no 1 (x.Box.Wheel.Coins.map cI),.sl .no 1 (x.Box.Found.map cI),.sl .no 1 (x.Box.Marked.map cI),.sl .no 1 (x.Box.Slugs.map cI),.v (.int .i64 x.Box.Plays),.v (.int .i64 x.Box.Skips)]
structure Bag_ where
 c0:Int
 c1:Int
 c2:Int
 c3:Int
 deriving DecidableEq,Inhabited,Repr
abbrev Bag_.cells (x:Bag_):List AV:=[.v (.int .i64 x.c0),.v (.int .i64 x.c1),.v (.int .i64 x.c2),.v (.int .i64 x.c3)]
structure Wheel_ where
 Wheel:Wheel
 deriving DecidableEq,Inhabited,Repr
abbrev Wheel_.cells (x:Wheel_):List AV:=[.v (.int .i64 x.Wheel.Round),.sl .no 1 (x.Wheel.Notches.map cI),.sl .no 1 (x.Wheel.Coins.map cI)]
structure Stand where
 Place:Int
 Credit:Int
 deriving DecidableEq,Inhabited,Repr
abbrev Stand.cells (x:Stand):List AV:=[.v (.int .i64 x.Place),.v (.int .i64 x.Credit)]
structure Gap_ where
 purse:List Int
 acts:List Int
 deriving DecidableEq,Inhabited,Repr
abbrev Gap_.cells (x:Gap_):List AV:=[.sl .no 1 (x.purse.map cI),.sl .no 1 (x.acts.map cI)]
structure SpotR_ where
 stand:Stand
 bought:Int
 deriving DecidableEq,Inhabited,Repr
abbrev SpotR_.cells (x:SpotR_):List AV:=[.v (.int .i64 x.stand.Place),.v (.int .i64 x.stand.Credit),.v (.int .i64 x.bought)]
structure Spot_ where
 left:Bag_
 place:Int
 credit:Int
 deriving DecidableEq,Inhabited,Repr
abbrev Spot_.cells (x:Spot_):List AV:=[.v (.int .i64 x.left.c0),.v (.int .i64 x.left.c1),.v (.int .i64 x.left.c2),.v (.int .i64 x.left.c3),.v (.int .i64 x.place),.v (.int .i64 x.credit)]
structure Clause where
 Kind:Int
 Cents:Int
 Part:Int
 More:Int
 deriving DecidableEq,Inhabited,Repr
abbrev Clause.cells (x:Clause):List AV:=[.v (.int .i64 x.Kind),.v (.int .i64 x.Cents),.v (.int .i64 x.Part),.v (.int .i64 x.More)]
structure Share where
 Clauses:List Clause
 Loan:Int
 deriving DecidableEq,Inhabited,Repr
abbrev Share.cells (x:Share):List AV:=[.sl .no 4 (x.Clauses.map Clause.cells),.v (.int .i64 x.Loan)]
structure Split where
 Operator:Int
 Owner:Int
 Repaid:Int
 deriving DecidableEq,Inhabited,Repr
abbrev Split.cells (x:Split):List AV:=[.v (.int .i64 x.Operator),.v (.int .i64 x.Owner),.v (.int .i64 x.Repaid)]
structure Week_ where
 Split:Split
 rest:Int
 owed:Int
 deriving DecidableEq,Inhabited,Repr
abbrev Week_.cells (x:Week_):List AV:=[.v (.int .i64 x.Split.Operator),.v (.int .i64 x.Split.Owner),.v (.int .i64 x.Split.Repaid),.v (.int .i64 x.rest),.v (.int .i64 x.owed)]
structure Point_ where
 Stand:Stand
 bought:Int
 deriving DecidableEq,Inhabited,Repr
abbrev Point_.cells (x:Point_):List AV:=[.v (.int .i64 x.Stand.Place),.v (.int .i64 x.Stand.Credit),.v (.int .i64 x.bought)]
structure WearRecord where
 Worn:Int
 Limit:Int
 Price:Int
 Plays:List Int
 deriving DecidableEq,Inhabited,Repr
abbrev WearRecord.cells (x:WearRecord):List AV:=[.v (.int .i64 x.Worn),.v (.int .i64 x.Limit),.v (.int .i64 x.Price),.sl .no 1 (x.Plays.map cI)]
structure Wear where
 Weeks:Int
 Price:Int
 Age:Int
 Step:Int
 Rough:List Int
 Records:List WearRecord
 deriving DecidableEq,Inhabited,Repr
abbrev Wear.cells (x:Wear):List AV:=[.v (.int .i64 x.Weeks),.v (.int .i64 x.Price),.v (.int .i64 x.Age),.v (.int .i64 x.Step),.sl .no 1 (x.Rough.map cI),.sl .no 4 (x.Records.map WearRecord.cells)]
structure WearWeek where
 Needle:Int
 Records:List Int
 deriving DecidableEq,Inhabited,Repr
abbrev WearWeek.cells (x:WearWeek):List AV:=[.v (.int .i64 x.Needle),.sl .no 1 (x.Records.map cI)]
structure BoxW_ where
 Wear:Wear
 deriving DecidableEq,Inhabited,Repr
abbrev BoxW_.cells (x:BoxW_):List AV:=[.v (.int .i64 x.Wear.Weeks),.v (.int .i64 x.Wear.Price),.v (.int .i64 x.Wear.Age),.v (.int .i64 x.Wear.Step),.sl .no 1 (x.Wear.Rough.map cI),.sl .no 4 (x.Wear.Records.map WearRecord.cells)]
structure PointT_ where
 Stand:Stand
 in_:Bag_
 bought:Int
 deriving DecidableEq,Inhabited,Repr
abbrev PointT_.cells (x:PointT_):List AV:=[.v (.int .i64 x.Stand.Place),.v (.int .i64 x.Stand.Credit),.v (.int .i64 x.in_.c0),.v (.int .i64 x.in_.c1),.v (.int .i64 x.in_.c2),.v (.int .i64 x.in_.c3),.v (.int .i64 x.bought)]
def okSpot_ (x:Spot_):Bool:=([x.left.c0,x.left.c1,x.left.c2,x.left.c3,x.place,x.credit]:List Int).all okI
def okPointT_ (x:PointT_):Bool:=([x.Stand.Place,x.Stand.Credit,x.in_.c0,x.in_.c1,x.in_.c2,x.in_.c3,x.bought]:List Int).all okI
def kvPointT_ (x:PointT_):Value:=.agg (([x.Stand.Place,x.Stand.Credit,x.in_.c0,x.in_.c1,x.in_.c2,x.in_.c3,x.bought]:List Int).map kvI).toArray
def ref05_Both_j1 (v1:List Int):Option ((List Int)) :=
 some v1
def ref05_Both_l1_b (a0:List Int) (a1:List Int) (rec1:(List Int)→Int→Option ((List Int))) (v2:List Int) (v3:Int):Option ((List Int)) :=
 if decide (v3<(a0.length:Int))=true then
  Option.bind (idx a0 v3) fun x5 =>
  Option.bind (idx a1 v3) fun x6 =>
  Option.bind (app v2 ([w64 (x5+x6)]:List Int)) fun l7 =>
  rec1 l7 (w64 (v3+1))
 else
  ref05_Both_j1 v2
def ref05_Both_l1 (a0:List Int) (a1:List Int):Nat→(List Int)→Int→Option ((List Int))
 | 0,_,_=>none
 | m+1,v2,v3=>ref05_Both_l1_b a0 a1 (ref05_Both_l1 a0 a1 m) v2 v3
def ref05_Both (n:Nat) (a0:List Int) (a1:List Int):Option ((List Int)) :=
 ref05_Both_l1 a0 a1 n ([]:List Int) 0
def ref05_Put (n:Nat) (a0:Box):Option ((List Int)) :=
 Option.bind (ref05_Both n a0.Found a0.Slugs) fun r1 =>
 some r1
def ref01_Within_j1 (v1:Bool):Option (Bool) :=
 some v1
def ref01_Within (a0:Int) (a1:Int) (a2:Int):Option (Bool) :=
 if decide (a0≥a1)=true then
  ref01_Within_j1 (decide (a0≤a2))
 else
  ref01_Within_j1 false
def ref01_Rising_j1:Option (Bool) :=
 some true
def ref01_Rising_j2 (rec1:Int→Option (Bool)) (v1:Int) (v3:Bool):Option (Bool) :=
 if v3=true then
  some false
 else
  rec1 (w64 (v1+1))
def ref01_Rising_l1_b (a0:List Int) (a1:Int) (a2:Int) (rec1:Int→Option (Bool)) (v1:Int):Option (Bool) :=
 if decide (v1<(a0.length:Int))=true then
  Option.bind (idx a0 v1) fun x5 =>
  Option.bind (ref01_Within x5 a1 a2) fun r6 =>
  if (!r6)=true then
   ref01_Rising_j2 rec1 v1 true
  else
   if decide (v1>0)=true then
    Option.bind (idx a0 v1) fun x9 =>
    Option.bind (idx a0 (w64 (v1-1))) fun x10 =>
    ref01_Rising_j2 rec1 v1 (decide (x9≤x10))
   else
    ref01_Rising_j2 rec1 v1 false
 else
  ref01_Rising_j1
def ref01_Rising_l1 (a0:List Int) (a1:Int) (a2:Int):Nat→Int→Option (Bool)
 | 0,_=>none
 | m+1,v1=>ref01_Rising_l1_b a0 a1 a2 (ref01_Rising_l1 a0 a1 a2 m) v1
def ref01_Rising (n:Nat) (a0:List Int) (a1:Int) (a2:Int):Option (Bool) :=
 ref01_Rising_l1 a0 a1 a2 n 0
def ref01_Check_j1 (v1:Bool):Option (Int) :=
 if v1=true then
  some 10
 else
  some 0
def ref01_Check (n:Nat) (a0:Wheel):Option (Int) :=
 Option.bind (ref01_Within a0.Round 1 200) fun r3 =>
 if (!r3)=true then
  ref01_Check_j1 true
 else
  if decide ((a0.Notches.length:Int)>12)=true then
   ref01_Check_j1 true
  else
   Option.bind (ref01_Rising n a0.Notches 1 a0.Round) fun r6 =>
   if (!r6)=true then
    ref01_Check_j1 true
   else
    if decide ((a0.Coins.length:Int)>4)=true then
     ref01_Check_j1 true
    else
     Option.bind (ref01_Rising n a0.Coins 1 100) fun r9 =>
     ref01_Check_j1 (!r9)
def ref01_IsPurse_j1 (v2:Int):Option (Bool) :=
 some (decide (v2≤12))
def ref01_IsPurse_l1_b (a1:List Int) (rec1:Int→Int→Option (Bool)) (v3:Int) (v4:Int):Option (Bool) :=
 if decide (v4<(a1.length:Int))=true then
  Option.bind (idx a1 v4) fun x6 =>
  Option.bind (ref01_Within x6 0 12) fun r7 =>
  if (!r7)=true then
   some false
  else
   Option.bind (idx a1 v4) fun x9 =>
   rec1 (w64 (v3+x9)) (w64 (v4+1))
 else
  ref01_IsPurse_j1 v3
def ref01_IsPurse_l1 (a1:List Int):Nat→Int→Int→Option (Bool)
 | 0,_,_=>none
 | m+1,v3,v4=>ref01_IsPurse_l1_b a1 (ref01_IsPurse_l1 a1 m) v3 v4
def ref01_IsPurse (n:Nat) (a0:Wheel) (a1:List Int):Option (Bool) :=
 if ((a1.length:Int) != (a0.Coins.length:Int))=true then
  some false
 else
  ref01_IsPurse_l1 a1 n 0 0
def ref05_within (a0:Int) (a1:Int) (a2:Int):Option (Bool) :=
 Option.bind (ref01_Within a0 a1 a2) fun r1 =>
 some r1
def ref05_Check_j2 (n:Nat) (a0:Box):Option (Int) :=
 Option.bind (ref05_Both n a0.Found a0.Slugs) fun r3 =>
 Option.bind (ref01_IsPurse n a0.Wheel r3) fun r4 =>
 if (!r4)=true then
  some 50
 else
  some 0
def ref05_Check_l1_b (n:Nat) (a0:Box) (rec1:Int→Option (Int)) (v6:Int):Option (Int) :=
 if decide (v6<(a0.Found.length:Int))=true then
  Option.bind (idx a0.Marked v6) fun x8 =>
  Option.bind (idx a0.Found v6) fun x9 =>
  Option.bind (ref05_within x8 0 x9) fun r10 =>
  if (!r10)=true then
   some 50
  else
   rec1 (w64 (v6+1))
 else
  ref05_Check_j2 n a0
def ref05_Check_l1 (n:Nat) (a0:Box):Nat→Int→Option (Int)
 | 0,_=>none
 | m+1,v6=>ref05_Check_l1_b n a0 (ref05_Check_l1 n a0 m) v6
def ref05_Check_j1 (n:Nat) (a0:Box) (v1:Bool):Option (Int) :=
 if v1=true then
  some 50
 else
  ref05_Check_l1 n a0 n 0
def ref05_Check (n:Nat) (a0:Box):Option (Int) :=
 Option.bind (ref01_Check n a0.Wheel) fun r12 =>
 if (r12 != 0)=true then
  ref05_Check_j1 n a0 true
 else
  Option.bind (ref01_IsPurse n a0.Wheel a0.Found) fun r14 =>
  if (!r14)=true then
   ref05_Check_j1 n a0 true
  else
   Option.bind (ref01_IsPurse n a0.Wheel a0.Slugs) fun r16 =>
   if (!r16)=true then
    ref05_Check_j1 n a0 true
   else
    if ((a0.Marked.length:Int) != (a0.Found.length:Int))=true then
     ref05_Check_j1 n a0 true
    else
     Option.bind (ref05_within a0.Plays 0 9999) fun r19 =>
     if (!r19)=true then
      ref05_Check_j1 n a0 true
     else
      Option.bind (ref05_within a0.Skips 0 9) fun r21 =>
      ref05_Check_j1 n a0 (!r21)
def ref05_Total_j1 (v1:Int):Option (Int) :=
 some v1
def ref05_Total_l1_b (a0:List Int) (rec1:Int→Int→Option (Int)) (v2:Int) (v3:Int):Option (Int) :=
 if decide (v3<(a0.length:Int))=true then
  Option.bind (idx a0 v3) fun x5 =>
  rec1 (w64 (v2+x5)) (w64 (v3+1))
 else
  ref05_Total_j1 v2
def ref05_Total_l1 (a0:List Int):Nat→Int→Int→Option (Int)
 | 0,_,_=>none
 | m+1,v2,v3=>ref05_Total_l1_b a0 (ref05_Total_l1 a0 m) v2 v3
def ref05_Total (n:Nat) (a0:List Int):Option (Int) :=
 ref05_Total_l1 a0 n 0 0
def law05_Far_j1 (v2:Bool):Option (Bool) :=
 some v2
def law05_Far (n:Nat) (a0:Box):Option (Bool) :=
 if decide ((max (max (max (max (a0.Wheel.Notches.length:Int) (a0.Wheel.Coins.length:Int)) (a0.Found.length:Int)) (a0.Marked.length:Int)) (a0.Slugs.length:Int))>40)=true then
  some true
 else
  Option.bind (ref05_Check n a0) fun r3 =>
  if (r3==0)=true then
   Option.bind (ref05_Put n a0) fun r5 =>
   Option.bind (ref05_Total n r5) fun r6 =>
   if decide (r6>3)=true then
    law05_Far_j1 true
   else
    law05_Far_j1 (decide ((a0.Found.length:Int)>3))
  else
   law05_Far_j1 false
def coins_within_j1 (v1:Bool):Option (Bool) :=
 some v1
def coins_within (a0:Int) (a1:Int) (a2:Int):Option (Bool) :=
 if decide (a1≤a0)=true then
  coins_within_j1 (decide (a0≤a2))
 else
  coins_within_j1 false
def coins_rising_j1 (a0:List Int) (a1:Int):Option (Bool) :=
 some (decide ((a0.length:Int)≤a1))
def coins_rising_j2 (rec1:Int→Option (Bool)) (v1:Int) (v4:Bool):Option (Bool) :=
 if v4=true then
  some false
 else
  rec1 (w64 (v1+1))
def coins_rising_l1_b (a0:List Int) (a1:Int) (a2:Int) (rec1:Int→Option (Bool)) (v1:Int):Option (Bool) :=
 if decide (v1<(a0.length:Int))=true then
  Option.bind (idx a0 v1) fun x3 =>
  Option.bind (coins_within x3 1 a2) fun r6 =>
  if (!r6)=true then
   coins_rising_j2 rec1 v1 true
  else
   if decide (v1>0)=true then
    Option.bind (idx a0 (w64 (v1-1))) fun x9 =>
    coins_rising_j2 rec1 v1 (decide (x3≤x9))
   else
    coins_rising_j2 rec1 v1 false
 else
  coins_rising_j1 a0 a1
def coins_rising_l1 (a0:List Int) (a1:Int) (a2:Int):Nat→Int→Option (Bool)
 | 0,_=>none
 | m+1,v1=>coins_rising_l1_b a0 a1 a2 (coins_rising_l1 a0 a1 a2 m) v1
def coins_rising (n:Nat) (a0:List Int) (a1:Int) (a2:Int):Option (Bool) :=
 coins_rising_l1 a0 a1 a2 n 0
def coins_Check_j1 (v1:Bool):Option (Int) :=
 if v1=true then
  some 10
 else
  some 0
def coins_Check (n:Nat) (a0:Wheel):Option (Int) :=
 Option.bind (coins_within a0.Round 1 200) fun r3 =>
 if (!r3)=true then
  coins_Check_j1 true
 else
  Option.bind (coins_rising n a0.Notches 12 a0.Round) fun r5 =>
  if (!r5)=true then
   coins_Check_j1 true
  else
   Option.bind (coins_rising n a0.Coins 4 100) fun r7 =>
   coins_Check_j1 (!r7)
def takings_within_j1 (v1:Bool):Option (Bool) :=
 some v1
def takings_within (a0:Int) (a1:Int) (a2:Int):Option (Bool) :=
 if decide (a1≤a0)=true then
  takings_within_j1 (decide (a0≤a2))
 else
  takings_within_j1 false
def slices_IndexFunc_int_j1 {S:Type} (v1:S):Option (Int×S) :=
 some ((-1),v1)
def slices_IndexFunc_int_l1_b {S:Type} (a0:List Int) (aF:Int→S→Option (Bool×S)) (rec1:Int→S→Option (Int×S)) (v3:Int) (v4:S):Option (Int×S) :=
 if decide (v3<(a0.length:Int))=true then
  Option.bind (idx a0 v3) fun x6 =>
  Option.bind (aF x6 v4) fun r7 =>
  if r7.1=true then
   some (v3,r7.2)
  else
   rec1 (w64 (v3+1)) r7.2
 else
  slices_IndexFunc_int_j1 v4
def slices_IndexFunc_int_l1 {S:Type} (a0:List Int) (aF:Int→S→Option (Bool×S)):Nat→Int→S→Option (Int×S)
 | 0,_,_=>none
 | m+1,v3,v4=>slices_IndexFunc_int_l1_b a0 aF (slices_IndexFunc_int_l1 a0 aF m) v3 v4
def slices_IndexFunc_int {S:Type} (n:Nat) (aF:Int→S→Option (Bool×S)) (a0:List Int) (st:S):Option (Int×S) :=
 slices_IndexFunc_int_l1 a0 aF n 0 st
def slices_ContainsFunc_int {S:Type} (n:Nat) (aF:Int→S→Option (Bool×S)) (a0:List Int) (st:S):Option (Bool×S) :=
 Option.bind (slices_IndexFunc_int n aF a0 st) fun r1 =>
 some (decide (r1.1≥0),r1.2)
def takings_Check_c1 (a0:Int):Option (Bool) :=
 Option.bind (takings_within a0 0 12) fun r1 =>
 some (!r1)
def takings_Check_j3 (v3:Int):Option (Int) :=
 if decide (v3>12)=true then
  some 50
 else
  some 0
def takings_Check_l1_b (a0:Box) (rec1:Int→Int→Option (Int)) (v5:Int) (v6:Int):Option (Int) :=
 if decide (v6<(a0.Found.length:Int))=true then
  Option.bind (idx a0.Found v6) fun x8 =>
  Option.bind (idx a0.Marked v6) fun x9 =>
  if decide (x9>x8)=true then
   some 50
  else
   Option.bind (idx a0.Slugs v6) fun x11 =>
   rec1 (w64 (v5+(w64 (x8+x11)))) (w64 (v6+1))
 else
  takings_Check_j3 v5
def takings_Check_l1 (a0:Box):Nat→Int→Int→Option (Int)
 | 0,_,_=>none
 | m+1,v5,v6=>takings_Check_l1_b a0 (takings_Check_l1 a0 m) v5 v6
def takings_Check_j2 (n:Nat) (a0:Box):Option (Int) :=
 takings_Check_l1 a0 n 0 0
def takings_Check_j4 (rec2:Int→Option (Int)) (v12:Int) (v15:Bool):Option (Int) :=
 if v15=true then
  some 50
 else
  rec2 (w64 (v12+1))
def takings_Check_l2_b (n:Nat) (a0:Box) (rec2:Int→Option (Int)) (v12:Int):Option (Int) :=
 if decide (v12<3)=true then
  Option.bind (idx ([a0.Found,a0.Marked,a0.Slugs]:List (List Int)) v12) fun x14 =>
  if ((x14.length:Int) != (a0.Wheel.Coins.length:Int))=true then
   takings_Check_j4 rec2 v12 true
  else
   Option.bind (slices_ContainsFunc_int n (fun (x0:Int) (_:Unit)=>(takings_Check_c1 x0).map fun y=>(y,())) x14 ()) fun r18 =>
   takings_Check_j4 rec2 v12 r18.1
 else
  takings_Check_j2 n a0
def takings_Check_l2 (n:Nat) (a0:Box):Nat→Int→Option (Int)
 | 0,_=>none
 | m+1,v12=>takings_Check_l2_b n a0 (takings_Check_l2 n a0 m) v12
def takings_Check_j1 (n:Nat) (a0:Box) (v1:Bool):Option (Int) :=
 if v1=true then
  some 50
 else
  takings_Check_l2 n a0 n 0
def takings_Check (n:Nat) (a0:Box):Option (Int) :=
 Option.bind (coins_Check n a0.Wheel) fun r19 =>
 if (r19 != 0)=true then
  takings_Check_j1 n a0 true
 else
  Option.bind (takings_within a0.Plays 0 9999) fun r21 =>
  if (!r21)=true then
   takings_Check_j1 n a0 true
  else
   Option.bind (takings_within a0.Skips 0 9) fun r23 =>
   takings_Check_j1 n a0 (!r23)
def takings_open (n:Nat) (a0:Box):Option ((Option Box_)×Int) :=
 Option.bind (takings_Check n a0) fun r1 =>
 if (r1 != 0)=true then
  some ((none:Option Box_),r1)
 else
  some ((some (⟨a0⟩:Box_)),0)
structure Step_ where
 act:Int
 from_:PointT_
 deriving DecidableEq,Inhabited,Repr
abbrev Step_.cells (x:Step_):List AV:=[.v (.int .i64 x.act),.v (.int .i64 x.from_.Stand.Place),.v (.int .i64 x.from_.Stand.Credit),.v (.int .i64 x.from_.in_.c0),.v (.int .i64 x.from_.in_.c1),.v (.int .i64 x.from_.in_.c2),.v (.int .i64 x.from_.in_.c3),.v (.int .i64 x.from_.bought)]
def kvStep_ (x:Step_):Value:=.agg (([x.act,x.from_.Stand.Place,x.from_.Stand.Credit,x.from_.in_.c0,x.from_.in_.c1,x.from_.in_.c2,x.from_.in_.c3,x.from_.bought]:List Int).map kvI).toArray
abbrev zeroPt:PointT_:=⟨⟨0,0⟩,⟨0,0,0,0⟩,0⟩
abbrev zeroStep:Step_:=⟨0,zeroPt⟩
def eqBag (x y:Bag_):Bool:=(x.c0==y.c0)&&((x.c1==y.c1)&&((x.c2==y.c2)&&((x.c3==y.c3)&&true)))
def betterT (p o:PointT_):Bool:=decide (p.Stand.Place<o.Stand.Place) || ((p.Stand.Place==o.Stand.Place)&&decide (p.Stand.Credit<o.Stand.Credit))
def endsB (al:Bag_) (E:List (Int×PointT_)) (p:PointT_):Bool:=eqBag p.in_ al&&(!mhas E p.bought || betterT p (vget zeroPt E p.bought))
def endStep (al:Bag_) (E:List (Int×PointT_)) (p:PointT_):List (Int×PointT_):=if endsB al E p=true then mset E p.bought p else E
def endsOf (al:Bag_) (M:List (PointT_×Step_)):List (Int×PointT_):=(M.map (·.1)).foldl (endStep al) []
def okSeen (M:List (PointT_×Step_)):Bool:=M.all (fun p=>okI p.1.bought)&&decide (M.length≤1048576)
def takings_bag_many_j1 (v1:Int):Option (Int) :=
 some v1
def takings_bag_many_l1_b (a0:Bag_) (rec1:Int→Int→Option (Int)) (v2:Int) (v3:Int):Option (Int) :=
 if decide (v3<4)=true then
  Option.bind (idx ([a0.c0,a0.c1,a0.c2,a0.c3]:List Int) v3) fun x5 =>
  rec1 (w64 (v2+x5)) (w64 (v3+1))
 else
  takings_bag_many_j1 v2
def takings_bag_many_l1 (a0:Bag_):Nat→Int→Int→Option (Int)
 | 0,_,_=>none
 | m+1,v2,v3=>takings_bag_many_l1_b a0 (takings_bag_many_l1 a0 m) v2 v3
def takings_bag_many (n:Nat) (a0:Bag_):Option (Int) :=
 takings_bag_many_l1 a0 n 0 0
abbrev Seen_:=List (PointT_×Step_)×List PointT_
abbrev clampT (y:PointT_) (c:Int):PointT_:=⟨⟨y.Stand.Place,min y.Stand.Credit c⟩,y.in_,y.bought⟩
def takings_add (n:Nat) (al:Bag_) (x:PointT_) (act:Int) (y:PointT_) (S:Seen_):Option Seen_ :=
 Option.bind (takings_bag_many n al) fun r1 =>
 Option.bind (takings_bag_many n y.in_) fun r2 =>
 Option.bind (vlook okPointT_ zeroStep S.1 (clampT y (w64 (r1-r2)))) fun u =>
 if mhas S.1 (clampT y (w64 (r1-r2)))=true then some S
 else
  Option.bind (mstore okPointT_ S.1 (clampT y (w64 (r1-r2))) ⟨act,x⟩) fun m =>
  if S.2.length+1≤1048576 then some (m,S.2++[clampT y (w64 (r1-r2))]) else none
def coins_open {S:Type} (n:Nat) (aF:Wheel_→S→Option (Bool×S)) (a0:Wheel) (st:S):Option ((Wheel_×Int)×S) :=
 Option.bind (coins_Check n a0) fun r1 =>
 if (r1 != 0)=true then
  some (((⟨(⟨0,([]:List Int),([]:List Int)⟩:Wheel)⟩:Wheel_),r1),st)
 else
  Option.bind (aF (⟨a0⟩:Wheel_) st) fun r3 =>
  if (!r3.1)=true then
   some (((⟨(⟨0,([]:List Int),([]:List Int)⟩:Wheel)⟩:Wheel_),1),r3.2)
  else
   some (((⟨a0⟩:Wheel_),0),r3.2)
def coins_wheel_turn_j1 (a0:Wheel_) (a1:Int) (a2:Int) (v1:Int):Option (Int×Int) :=
 Option.bind (rem (w64 (a1+a2)) a0.Wheel.Round) fun q2 =>
 some (q2,v1)
def coins_wheel_turn_l1_b (a0:Wheel_) (a1:Int) (a2:Int) (rec1:Int→Int→Option (Int×Int)) (v3:Int) (v4:Int):Option (Int×Int) :=
 if decide (v4<(a0.Wheel.Notches.length:Int))=true then
  Option.bind (idx a0.Wheel.Notches v4) fun x6 =>
  Option.bind (quo (w64 ((w64 ((w64 (a1+a2))-x6))+a0.Wheel.Round)) a0.Wheel.Round) fun q7 =>
  Option.bind (quo (w64 ((w64 (a1-x6))+a0.Wheel.Round)) a0.Wheel.Round) fun q8 =>
  rec1 (w64 (v3+(w64 (q7-q8)))) (w64 (v4+1))
 else
  coins_wheel_turn_j1 a0 a1 a2 v3
def coins_wheel_turn_l1 (a0:Wheel_) (a1:Int) (a2:Int):Nat→Int→Int→Option (Int×Int)
 | 0,_,_=>none
 | m+1,v3,v4=>coins_wheel_turn_l1_b a0 a1 a2 (coins_wheel_turn_l1 a0 a1 a2 m) v3 v4
def coins_wheel_turn (n:Nat) (a0:Wheel_) (a1:Int) (a2:Int):Option (Int×Int) :=
 coins_wheel_turn_l1 a0 a1 a2 n 0 0
def coins_wheel_act (n:Nat) (a0:Wheel_) (a1:Stand) (a2:Int):Option (Stand) :=
 if (a2 != (-1))=true then
  Option.bind (idx a0.Wheel.Coins a2) fun x2 =>
  Option.bind (coins_wheel_turn n a0 a1.Place x2) fun r3 =>
  some (⟨r3.1,w64 (a1.Credit+r3.2)⟩:Stand)
 else
  if decide (a1.Credit>0)=true then
   some (⟨0,w64 (a1.Credit-1)⟩:Stand)
  else
   some a1
def coins_wheel_isPlace (a0:Wheel_) (a1:Int):Option (Bool) :=
 Option.bind (coins_within a1 0 (w64 (a0.Wheel.Round-1))) fun r1 =>
 some r1
def coins_all_int_c1 {S:Type} (aF:Int→S→Option (Bool×S)) (a0:Int) (st:S):Option (Bool×S) :=
 Option.bind (aF a0 st) fun r1 =>
 some ((!r1.1),r1.2)
def coins_all_int_j1 {S:Type} (v1:Bool) (v2:S):Option (Bool×S) :=
 some (v1,v2)
def coins_all_int {S:Type} (n:Nat) (aF:Int→S→Option (Bool×S)) (a0:List Int) (st:S):Option (Bool×S) :=
 if decide ((a0.length:Int)≤20)=true then
  Option.bind (slices_ContainsFunc_int n (coins_all_int_c1 aF) a0 st) fun r4 =>
  coins_all_int_j1 (!r4.1) r4.2
 else
  coins_all_int_j1 false st
def coins_wheel_isKind (a0:Wheel_) (a1:Int):Option (Bool) :=
 Option.bind (coins_within a1 0 (w64 ((a0.Wheel.Coins.length:Int)-1))) fun r1 =>
 some r1
def coins_wheel_isAct_j1 (v1:Bool):Option (Bool) :=
 some v1
def coins_wheel_isAct (a0:Wheel_) (a1:Int):Option (Bool) :=
 if (a1==(-1))=true then
  coins_wheel_isAct_j1 true
 else
  Option.bind (coins_wheel_isKind a0 a1) fun r3 =>
  coins_wheel_isAct_j1 r3
def coins_Run_c1_j1 (v1:Bool):Option (Bool) :=
 some v1
def coins_Run_c1 (n:Nat) (a0:Wheel_) (a1:Stand) (a2:List Int):Option (Bool) :=
 Option.bind (coins_wheel_isPlace a0 a1.Place) fun r2 =>
 if r2=true then
  Option.bind (coins_within a1.Credit 0 20) fun r4 =>
  if r4=true then
   Option.bind (coins_all_int n (fun (x0:Int) (_:Unit)=>(coins_wheel_isAct a0 x0).map fun y=>(y,())) a2 ()) fun r6 =>
   coins_Run_c1_j1 r6.1
  else
   coins_Run_c1_j1 false
 else
  coins_Run_c1_j1 false
def coins_Run_j1 (v3:Int) (v4:Int) (v5:Int):Option (Stand×Int×Int) :=
 some ((⟨v4,v5⟩:Stand),v3,0)
def coins_Run_j2 (n:Nat) (rec1:Int→Int→Int→Int→Option (Stand×Int×Int)) (r1:(Wheel_×Int)×Unit) (v9:Int) (v10:Int) (v11:Int) (x13:Int) (v14:Int):Option (Stand×Int×Int) :=
 Option.bind (coins_wheel_act n r1.1.1 (⟨v10,v11⟩:Stand) x13) fun r15 =>
 rec1 v14 (w64 (v9+1)) r15.Place r15.Credit
def coins_Run_j3 (n:Nat) (rec1:Int→Int→Int→Int→Option (Stand×Int×Int)) (r1:(Wheel_×Int)×Unit) (v8:Int) (v9:Int) (v10:Int) (v11:Int) (x13:Int) (v16:Bool):Option (Stand×Int×Int) :=
 if v16=true then
  coins_Run_j2 n rec1 r1 v9 v10 v11 x13 (w64 (v8+1))
 else
  coins_Run_j2 n rec1 r1 v9 v10 v11 x13 v8
def coins_Run_l1_b (n:Nat) (a2:List Int) (r1:(Wheel_×Int)×Unit) (rec1:Int→Int→Int→Int→Option (Stand×Int×Int)) (v8:Int) (v9:Int) (v10:Int) (v11:Int):Option (Stand×Int×Int) :=
 if decide (v9<(a2.length:Int))=true then
  Option.bind (idx a2 v9) fun x13 =>
  if (x13==(-1))=true then
   coins_Run_j3 n rec1 r1 v8 v9 v10 v11 x13 (decide (v11>0))
  else
   coins_Run_j3 n rec1 r1 v8 v9 v10 v11 x13 false
 else
  coins_Run_j1 v8 v10 v11
def coins_Run_l1 (n:Nat) (a2:List Int) (r1:(Wheel_×Int)×Unit):Nat→Int→Int→Int→Int→Option (Stand×Int×Int)
 | 0,_,_,_,_=>none
 | m+1,v8,v9,v10,v11=>coins_Run_l1_b n a2 r1 (coins_Run_l1 n a2 r1 m) v8 v9 v10 v11
def coins_Run (n:Nat) (a0:Wheel) (a1:Stand) (a2:List Int):Option (Stand×Int×Int) :=
 Option.bind (coins_open n (fun (x0:Wheel_) (_:Unit)=>(coins_Run_c1 n x0 a1 a2).map fun y=>(y,())) a0 ()) fun r1 =>
 if (r1.1.2 != 0)=true then
  some ((⟨0,0⟩:Stand),0,r1.1.2)
 else
  coins_Run_l1 n a2 r1 n 0 0 a1.Place a1.Credit
def takings_walk_k (n:Nat) (b:Box_) (al:Bag_) (x:PointT_):Nat→Int→Seen_→Option Seen_
 | 0,_,_=>none
 | m+1,k,S =>
  if decide (k<(b.Box.Wheel.Coins.length:Int))=true then
   Option.bind (idx ([x.in_.c0,x.in_.c1,x.in_.c2,x.in_.c3]:List Int) k) fun e1 =>
   Option.bind (idx ([al.c0,al.c1,al.c2,al.c3]:List Int) k) fun e2 =>
   if (e1==e2)=true then takings_walk_k n b al x m (w64 (k+1)) S
   else
    Option.bind (coins_Run n b.Box.Wheel ⟨x.Stand.Place,0⟩ [k]) fun r =>
    Option.bind (setI ([x.in_.c0,x.in_.c1,x.in_.c2,x.in_.c3]:List Int) k (w64 (e1+1))) fun u =>
    Option.bind (takings_add n al x k ⟨⟨r.1.Place,w64 (x.Stand.Credit+r.1.Credit)⟩,⟨u.getD 0 0,u.getD 1 0,u.getD 2 0,u.getD 3 0⟩,w64 (x.bought+r.1.Credit)⟩ S) fun S2 =>
    takings_walk_k n b al x m (w64 (k+1)) S2
  else some S
def takings_walk_s (n:Nat) (b:Box_) (al:Bag_) (x:PointT_) (S:Seen_):Option Seen_ :=
 if decide (x.Stand.Credit>0)=true then
  if decide (x.Stand.Place>0)=true then
   Option.bind (coins_Run n b.Box.Wheel ⟨x.Stand.Place,1⟩ [-1]) fun r =>
   takings_add n al x (-1) ⟨⟨r.1.Place,w64 (x.Stand.Credit-1)⟩,x.in_,x.bought⟩ S
  else some S
 else some S
def takings_walk_l (n:Nat) (b:Box_) (al:Bag_):Nat→Seen_→Option (List (PointT_×Step_))
 | 0,_=>none
 | m+1,S=>match S.2 with
  | []=>some S.1
  | x::q =>
   Option.bind (takings_walk_s n b al x (S.1,q)) fun S1 =>
   Option.bind (takings_walk_k n b al x n 0 S1) fun S2 =>
   takings_walk_l n b al m S2
def takings_box_walk (n:Nat) (a0:Option Box_) (al:Bag_):Option (List (PointT_×Step_)) :=
 Option.bind a0 fun b=>takings_walk_l n b al n ([(zeroPt,⟨-2,zeroPt⟩)],[zeroPt])
def takings_box_put_j1 (v1:Int) (v2:Int) (v3:Int) (v4:Int):Option (Bag_) :=
 some (⟨v1,v2,v3,v4⟩:Bag_)
def takings_box_put_l1_b (a0:Option Box_) (x5:Box_) (rec1:Int→Int→Int→Int→Int→Option (Bag_)) (v7:Int) (v8:Int) (v9:Int) (v10:Int) (v11:Int):Option (Bag_) :=
 if decide (v7<(x5.Box.Found.length:Int))=true then
  Option.bind (idx x5.Box.Found v7) fun x13 =>
  Option.bind (a0) fun x14 =>
  Option.bind (idx x14.Box.Slugs v7) fun x15 =>
  Option.bind (idx ([v8,v9,v10,v11]:List Int) v7) fun x16 =>
  Option.bind (setI ([v8,v9,v10,v11]:List Int) v7 (w64 (x13+x15))) fun l17 =>
  rec1 (w64 (v7+1)) (l17.getD 0 0) (l17.getD 1 0) (l17.getD 2 0) (l17.getD 3 0)
 else
  takings_box_put_j1 v8 v9 v10 v11
def takings_box_put_l1 (a0:Option Box_) (x5:Box_):Nat→Int→Int→Int→Int→Int→Option (Bag_)
 | 0,_,_,_,_,_=>none
 | m+1,v7,v8,v9,v10,v11=>takings_box_put_l1_b a0 x5 (takings_box_put_l1 a0 x5 m) v7 v8 v9 v10 v11
def takings_box_put (n:Nat) (a0:Option Box_):Option (Bag_) :=
 Option.bind (a0) fun x5 =>
 takings_box_put_l1 a0 x5 n 0 0 0 0 0
def slices_Clone_int (a0:List Int):Option (List Int):=app [] a0
def takings_box_gaps_l1_b {S:Type} (rec:(Option Box_)→(List Int)→Int→S→Option (Unit×S)) (a0:Option Box_) (a1:List Int) (a2:Int) (rec1:Int→S→Option (Unit×S)) (v5:Int) (v6:S):Option (Unit×S) :=
 if decide (v5<(w64 (a2+1)))=true then
  Option.bind (slices_Clone_int a1) fun l8 =>
  Option.bind (app l8 ([v5]:List Int)) fun l9 =>
  Option.bind (rec a0 l9 (w64 (a2-v5)) v6) fun r10 =>
  rec1 (w64 (v5+1)) r10.2
 else
  some ((),v6)
def takings_box_gaps_l1 {S:Type} (rec:(Option Box_)→(List Int)→Int→S→Option (Unit×S)) (a0:Option Box_) (a1:List Int) (a2:Int):Nat→Int→S→Option (Unit×S)
 | 0,_,_=>none
 | m+1,v5,v6=>takings_box_gaps_l1_b rec a0 a1 a2 (takings_box_gaps_l1 rec a0 a1 a2 m) v5 v6
def takings_box_gaps_b {S:Type} (n:Nat) (rec:(Option Box_)→(List Int)→Int→S→Option (Unit×S)) (aF:(List Int)→S→Option (Unit×S)) (a0:Option Box_) (a1:List Int) (a2:Int) (st:S):Option (Unit×S) :=
 Option.bind (a0) fun x1 =>
 if ((a1.length:Int)==(x1.Box.Wheel.Coins.length:Int))=true then
  Option.bind (aF a1 st) fun r3 =>
  some ((),r3.2)
 else
  takings_box_gaps_l1 rec a0 a1 a2 n 0 st
def takings_box_gaps {S:Type}:Nat→((List Int)→S→Option (Unit×S))→(Option Box_)→(List Int)→Int→S→Option (Unit×S)
 | 0,_,_,_,_,_=>none
 | n+1,aF,a0,a1,a2,st=>takings_box_gaps_b n (takings_box_gaps n aF) aF a0 a1 a2 st
def takings_box_worth_j1 (v1:Int):Option (Int) :=
 some v1
def takings_box_worth_l1_b (a0:Option Box_) (a1:List Int) (rec1:Int→Int→Option (Int)) (v2:Int) (v3:Int):Option (Int) :=
 if decide (v3<(a1.length:Int))=true then
  Option.bind (idx a1 v3) fun x5 =>
  Option.bind (a0) fun x6 =>
  Option.bind (idx x6.Box.Wheel.Coins v3) fun x7 =>
  rec1 (w64 (v2+(w64 (x5*x7)))) (w64 (v3+1))
 else
  takings_box_worth_j1 v2
def takings_box_worth_l1 (a0:Option Box_) (a1:List Int):Nat→Int→Int→Option (Int)
 | 0,_,_=>none
 | m+1,v2,v3=>takings_box_worth_l1_b a0 a1 (takings_box_worth_l1 a0 a1 m) v2 v3
def takings_box_worth (n:Nat) (a0:Option Box_) (a1:List Int):Option (Int) :=
 takings_box_worth_l1 a0 a1 n 0 0
def takings_explain_a (purse:List Int):Nat→Int→Bag_→Option Bag_
 | 0,_,_=>none
 | m+1,k,al =>
  if decide (k<(purse.length:Int))=true then
   Option.bind (idx purse k) fun x =>
   Option.bind (idx ([al.c0,al.c1,al.c2,al.c3]:List Int) k) fun e =>
   Option.bind (setI ([al.c0,al.c1,al.c2,al.c3]:List Int) k (w64 (e+x))) fun u =>
   takings_explain_a purse m (w64 (k+1)) ⟨u.getD 0 0,u.getD 1 0,u.getD 2 0,u.getD 3 0⟩
  else some al
def takings_back (M:List (PointT_×Step_)):Nat→Step_→List Int→Option (List Int)
 | 0,_,_=>none
 | m+1,s,acts =>
  if (s.act != -2)=true then
   if acts.length+1≤1048576 then
    Option.bind (vlook okPointT_ zeroStep M s.from_) fun s2=>takings_back M m s2 (acts++[s.act])
   else none
  else some acts
def takings_explain_l (n:Nat) (b:Box_) (M:List (PointT_×Step_)) (E:List (Int×PointT_)) (bs:List Int):Nat→Int→Option (List Int×Bool)
 | 0,_=>none
 | m+1,k =>
  if decide (k<(bs.length:Int))=true then
   Option.bind (idx bs k) fun x =>
   Option.bind (takings_within x b.Box.Plays (w64 (b.Box.Plays+b.Box.Skips))) fun w =>
   if (!w)=true then takings_explain_l n b M E bs m (w64 (k+1))
   else
    Option.bind (vlook okI zeroPt E x) fun p =>
    Option.bind (vlook okPointT_ zeroStep M p) fun s =>
    Option.bind (takings_back M n s []) fun acts =>
    some (acts.reverse,true)
  else some ([],false)
def takings_box_explain (n:Nat) (a0:Option Box_) (purse:List Int):Option (List Int×Bool) :=
 Option.bind a0 fun b =>
 Option.bind (takings_box_put n a0) fun r1 =>
 Option.bind (takings_explain_a purse n 0 r1) fun al =>
 Option.bind (takings_box_walk n a0 al) fun M =>
 if okSeen M=true then takings_explain_l n b M (endsOf al M) (isort ((endsOf al M).map (·.1))) n 0 else none
def takings_box_missing_c1 (n:Nat) (a:Option Box_) (purse:List Int):List Gap_→Option (Unit×List Gap_)
 | [] =>
  Option.bind (takings_box_explain n a purse) fun e =>
  if (!e.2)=true then some ((),[]) else some ((),[⟨purse,e.1⟩])
 | x::gs =>
  Option.bind (takings_box_worth n a purse) fun w1 =>
  Option.bind (takings_box_worth n a x.purse) fun w2 =>
  if decide (w1>w2)=true then some ((),x::gs)
  else
   Option.bind (takings_box_explain n a purse) fun e =>
   if (!e.2)=true then some ((),x::gs)
   else
    Option.bind (takings_box_worth n a purse) fun w3 =>
    Option.bind (takings_box_worth n a x.purse) fun w4 =>
    if decide (w3<w4)=true then some ((),[⟨purse,e.1⟩])
    else Option.bind (app (x::gs) ([⟨purse,e.1⟩]:List Gap_)) fun l=>some ((),l)
def takings_box_missing (n:Nat) (a0:Option Box_):Option (List Gap_) :=
 Option.bind (takings_box_gaps n (fun x0 s=>takings_box_missing_c1 n a0 x0 s) a0 ([]:List Int) 2 ([]:List Gap_)) fun r =>
 some r.2
def takings_settle (n:Nat) (a0:Box):Option ((Option Box_)×(List Gap_)×Int) :=
 Option.bind (takings_open n a0) fun r1 =>
 if (r1.2 != 0)=true then
  some ((none:Option Box_),([]:List Gap_),r1.2)
 else
  Option.bind (takings_box_missing n r1.1) fun r3 =>
  if ((r3.length:Int)==0)=true then
   some ((none:Option Box_),([]:List Gap_),3)
  else
   some (r1.1,r3,0)
def takings_Missing (n:Nat) (a0:Box):Option (Int×Int) :=
 Option.bind (takings_settle n a0) fun r1 =>
 if (r1.2.2 != 0)=true then
  some (0,r1.2.2)
 else
  Option.bind (idx r1.2.1 0) fun x3 =>
  Option.bind (takings_box_worth n r1.1 x3.purse) fun r4 =>
  some (r4,0)
def takings_Cash (n:Nat) (a0:Box):Option (Int×Int×Int×Int) :=
 Option.bind (takings_open n a0) fun r1 =>
 if (r1.2 != 0)=true then
  some (0,0,0,r1.2)
 else
  Option.bind (takings_box_worth n r1.1 a0.Marked) fun r3 =>
  Option.bind (takings_box_worth n r1.1 a0.Found) fun r4 =>
  Option.bind (takings_box_worth n r1.1 a0.Slugs) fun r5 =>
  some (w64 (r4-r3),r3,r5,0)
def ref01_Copy (a0:Wheel):Option (Wheel) :=
 Option.bind (app ([]:List Int) a0.Notches) fun l1 =>
 Option.bind (app ([]:List Int) a0.Coins) fun l2 =>
 some (⟨a0.Round,l1,l2⟩:Wheel)
def ref05_Copy (a0:Box):Option (Box) :=
 Option.bind (ref01_Copy a0.Wheel) fun r1 =>
 Option.bind (app ([]:List Int) a0.Found) fun l2 =>
 Option.bind (app ([]:List Int) a0.Marked) fun l3 =>
 Option.bind (app ([]:List Int) a0.Slugs) fun l4 =>
 some (⟨r1,l2,l3,l4,a0.Plays,a0.Skips⟩:Box)
def ref09_within (a0:Int) (a1:Int) (a2:Int):Option (Bool) :=
 Option.bind (ref01_Within a0 a1 a2) fun r1 =>
 some r1
def ref09_IsCents (a0:Int):Option (Bool) :=
 Option.bind (ref09_within a0 0 9999) fun r1 =>
 some r1
def ref09_Check_j2:Option (Int) :=
 some 0
def ref09_Check_j3 (rec1:Int→Option (Int)) (v3:Int) (v6:Bool):Option (Int) :=
 if v6=true then
  some 90
 else
  rec1 (w64 (v3+1))
def ref09_Check_l1_b (a0:Share) (rec1:Int→Option (Int)) (v3:Int):Option (Int) :=
 if decide (v3<(a0.Clauses.length:Int))=true then
  Option.bind (idx a0.Clauses v3) fun x5 =>
  Option.bind (ref09_within x5.Kind 1 5) fun r8 =>
  if (!r8)=true then
   ref09_Check_j3 rec1 v3 true
  else
   Option.bind (ref09_IsCents x5.Cents) fun r10 =>
   if (!r10)=true then
    ref09_Check_j3 rec1 v3 true
   else
    Option.bind (ref09_within x5.Part 0 100) fun r12 =>
    if (!r12)=true then
     ref09_Check_j3 rec1 v3 true
    else
     Option.bind (ref09_within x5.More 0 100) fun r14 =>
     ref09_Check_j3 rec1 v3 (!r14)
 else
  ref09_Check_j2
def ref09_Check_l1 (a0:Share):Nat→Int→Option (Int)
 | 0,_=>none
 | m+1,v3=>ref09_Check_l1_b a0 (ref09_Check_l1 a0 m) v3
def ref09_Check_j1 (n:Nat) (a0:Share) (v1:Bool):Option (Int) :=
 if v1=true then
  some 90
 else
  ref09_Check_l1 a0 n 0
def ref09_Check (n:Nat) (a0:Share):Option (Int) :=
 if decide ((a0.Clauses.length:Int)>5)=true then
  ref09_Check_j1 n a0 true
 else
  Option.bind (ref09_IsCents a0.Loan) fun r16 =>
  ref09_Check_j1 n a0 (!r16)
def top_even_j2 (v3:Int):Option (Bool) :=
 some (decide (v3≤1))
def top_even_j3 (rec1:Int→Int→Option (Bool)) (v5:Int) (v7:Int):Option (Bool) :=
 rec1 v7 (w64 (v5+1))
def top_even_j4 (rec1:Int→Int→Option (Bool)) (v4:Int) (v5:Int) (v9:Bool):Option (Bool) :=
 if v9=true then
  top_even_j3 rec1 v5 (w64 (v4+1))
 else
  top_even_j3 rec1 v5 v4
def top_even_l1_b (a0:Share) (rec1:Int→Int→Option (Bool)) (v4:Int) (v5:Int):Option (Bool) :=
 if decide (v5<(a0.Clauses.length:Int))=true then
  Option.bind (idx a0.Clauses v5) fun x8 =>
  if (x8.Kind==3)=true then
   top_even_j4 rec1 v4 v5 true
  else
   top_even_j4 rec1 v4 v5 (x8.Kind==4)
 else
  top_even_j2 v4
def top_even_l1 (a0:Share):Nat→Int→Int→Option (Bool)
 | 0,_,_=>none
 | m+1,v4,v5=>top_even_l1_b a0 (top_even_l1 a0 m) v4 v5
def top_even_j1 (n:Nat) (a0:Share) (v1:Bool):Option (Bool) :=
 if v1=true then
  some false
 else
  top_even_l1 a0 n 0 0
def top_even (n:Nat) (a0:Share):Option (Bool) :=
 if decide ((a0.Clauses.length:Int)>40)=true then
  top_even_j1 n a0 true
 else
  Option.bind (ref09_Check n a0) fun r13 =>
  top_even_j1 n a0 (r13 != 0)
def shares_week_owner (a0:Week_) (a1:Int):Option (Week_×Int) :=
 some ((⟨(⟨a0.Split.Operator,w64 (a0.Split.Owner+a1),a0.Split.Repaid⟩:Split),w64 (a0.rest-a1),a0.owed⟩:Week_),a1)
def shares_week_operator (a0:Week_) (a1:Int):Option (Week_×Int) :=
 some ((⟨(⟨w64 (a0.Split.Operator+a1),a0.Split.Owner,a0.Split.Repaid⟩:Split),w64 (a0.rest-a1),a0.owed⟩:Week_),a1)
def shares_rules_c1 (a0:Week_) (a1:Clause):Option (Week_×Int) :=
 Option.bind (shares_week_operator a0 (min a0.rest a1.Cents)) fun r1 =>
 some (r1.1,r1.2)
def shares_week_repay (a0:Week_) (a1:Clause):Option (Week_×Int) :=
 Option.bind (shares_week_operator a0 (min (min a0.rest a1.Cents) a0.owed)) fun r1 =>
 some ((⟨(⟨r1.1.Split.Operator,r1.1.Split.Owner,w64 (r1.1.Split.Repaid+r1.2)⟩:Split),r1.1.rest,w64 (r1.1.owed-r1.2)⟩:Week_),r1.2)
def shares_five (a0:Int):Option (Int) :=
 Option.bind (quo a0 500) fun q1 =>
 some (w64 (q1*5))
def shares_rules_c2 (a0:Week_) (a1:Clause):Option (Week_×Int) :=
 Option.bind (shares_five (w64 (a1.Part*a0.rest))) fun r1 =>
 Option.bind (shares_week_owner a0 r1) fun r2 =>
 some (r2.1,r2.2)
def shares_rules_c3 (a0:Week_) (a1:Clause):Option (Week_×Int) :=
 Option.bind (shares_five (w64 ((w64 (a1.Part*(min a0.rest a1.Cents)))+(w64 (a1.More*(w64 (a0.rest-(min a0.rest a1.Cents)))))))) fun r1 =>
 Option.bind (shares_week_owner a0 r1) fun r2 =>
 some (r2.1,r2.2)
def shares_rules_c4 (a0:Week_) (a1:Clause):Option (Week_×Int) :=
 Option.bind (shares_week_owner a0 (min a0.rest (max 0 (w64 (a1.Cents-a0.Split.Owner))))) fun r1 =>
 some (r1.1,r1.2)
def shares_settle_j1 (v2:List Int) (v3:Int) (v4:Int) (v5:Int) (v6:Int) (v7:Int):Option (Week_×(List Int)) :=
 Option.bind (shares_week_operator (⟨(⟨v3,v4,v5⟩:Split),v6,v7⟩:Week_) v6) fun r8 =>
 some (r8.1,v2)
def shares_settle_l1_b (a0:List Clause) (rec1:(List Int)→Int→Int→Int→Int→Int→Int→Option (Week_×(List Int))) (v11:List Int) (v12:Int) (v13:Int) (v14:Int) (v15:Int) (v16:Int) (v17:Int):Option (Week_×(List Int)) :=
 if decide (v12<(a0.length:Int))=true then
  Option.bind (idx a0 v12) fun x19 =>
  if (x19.Kind==1)=true then
   Option.bind (shares_rules_c1 (⟨(⟨v13,v14,v15⟩:Split),v16,v17⟩:Week_) x19) fun r21 =>
   Option.bind (app v11 ([r21.2]:List Int)) fun l22 =>
   rec1 l22 (w64 (v12+1)) r21.1.Split.Operator r21.1.Split.Owner r21.1.Split.Repaid r21.1.rest r21.1.owed
  else
   if (x19.Kind==2)=true then
    Option.bind (shares_week_repay (⟨(⟨v13,v14,v15⟩:Split),v16,v17⟩:Week_) x19) fun r24 =>
    Option.bind (app v11 ([r24.2]:List Int)) fun l25 =>
    rec1 l25 (w64 (v12+1)) r24.1.Split.Operator r24.1.Split.Owner r24.1.Split.Repaid r24.1.rest r24.1.owed
   else
    if (x19.Kind==3)=true then
     Option.bind (shares_rules_c2 (⟨(⟨v13,v14,v15⟩:Split),v16,v17⟩:Week_) x19) fun r27 =>
     Option.bind (app v11 ([r27.2]:List Int)) fun l28 =>
     rec1 l28 (w64 (v12+1)) r27.1.Split.Operator r27.1.Split.Owner r27.1.Split.Repaid r27.1.rest r27.1.owed
    else
     if (x19.Kind==4)=true then
      Option.bind (shares_rules_c3 (⟨(⟨v13,v14,v15⟩:Split),v16,v17⟩:Week_) x19) fun r30 =>
      Option.bind (app v11 ([r30.2]:List Int)) fun l31 =>
      rec1 l31 (w64 (v12+1)) r30.1.Split.Operator r30.1.Split.Owner r30.1.Split.Repaid r30.1.rest r30.1.owed
     else
      if (x19.Kind==5)=true then
       Option.bind (shares_rules_c4 (⟨(⟨v13,v14,v15⟩:Split),v16,v17⟩:Week_) x19) fun r33 =>
       Option.bind (app v11 ([r33.2]:List Int)) fun l34 =>
       rec1 l34 (w64 (v12+1)) r33.1.Split.Operator r33.1.Split.Owner r33.1.Split.Repaid r33.1.rest r33.1.owed
      else
       none
 else
  shares_settle_j1 v11 v13 v14 v15 v16 v17
def shares_settle_l1 (a0:List Clause):Nat→(List Int)→Int→Int→Int→Int→Int→Int→Option (Week_×(List Int))
 | 0,_,_,_,_,_,_,_=>none
 | m+1,v11,v12,v13,v14,v15,v16,v17=>shares_settle_l1_b a0 (shares_settle_l1 a0 m) v11 v12 v13 v14 v15 v16 v17
def shares_settle (n:Nat) (a0:List Clause) (a1:Int) (a2:Int) (a3:Int):Option (Week_×(List Int)) :=
 Option.bind (shares_week_owner (⟨(⟨0,0,0⟩:Split),a2,a1⟩:Week_) (min a3 a2)) fun r1 =>
 shares_settle_l1 a0 n ([]:List Int) 0 r1.1.Split.Operator r1.1.Split.Owner r1.1.Split.Repaid r1.1.rest r1.1.owed
def shares_within_j1 (v1:Bool):Option (Bool) :=
 some v1
def shares_within (a0:Int) (a1:Int) (a2:Int):Option (Bool) :=
 if decide (a1≤a0)=true then
  shares_within_j1 (decide (a0≤a2))
 else
  shares_within_j1 false
def shares_isCents (a0:Int):Option (Bool) :=
 Option.bind (shares_within a0 0 9999) fun r1 =>
 some r1
def shares_Check_c1_j1 (v1:Bool):Option (Bool) :=
 some v1
def shares_Check_c1 (a0:Clause):Option (Bool) :=
 Option.bind (shares_within a0.Kind 1 5) fun r2 =>
 if (!r2)=true then
  shares_Check_c1_j1 true
 else
  Option.bind (shares_isCents a0.Cents) fun r4 =>
  if (!r4)=true then
   shares_Check_c1_j1 true
  else
   Option.bind (shares_within a0.Part 0 100) fun r6 =>
   if (!r6)=true then
    shares_Check_c1_j1 true
   else
    Option.bind (shares_within a0.More 0 100) fun r8 =>
    shares_Check_c1_j1 (!r8)
def slices_IndexFunc_apiClause_j1 {S:Type} (v1:S):Option (Int×S) :=
 some ((-1),v1)
def slices_IndexFunc_apiClause_l1_b {S:Type} (a0:List Clause) (aF:Clause→S→Option (Bool×S)) (rec1:Int→S→Option (Int×S)) (v3:Int) (v4:S):Option (Int×S) :=
 if decide (v3<(a0.length:Int))=true then
  Option.bind (idx a0 v3) fun x6 =>
  Option.bind (aF x6 v4) fun r7 =>
  if r7.1=true then
   some (v3,r7.2)
  else
   rec1 (w64 (v3+1)) r7.2
 else
  slices_IndexFunc_apiClause_j1 v4
def slices_IndexFunc_apiClause_l1 {S:Type} (a0:List Clause) (aF:Clause→S→Option (Bool×S)):Nat→Int→S→Option (Int×S)
 | 0,_,_=>none
 | m+1,v3,v4=>slices_IndexFunc_apiClause_l1_b a0 aF (slices_IndexFunc_apiClause_l1 a0 aF m) v3 v4
def slices_IndexFunc_apiClause {S:Type} (n:Nat) (aF:Clause→S→Option (Bool×S)) (a0:List Clause) (st:S):Option (Int×S) :=
 slices_IndexFunc_apiClause_l1 a0 aF n 0 st
def slices_ContainsFunc_apiClause {S:Type} (n:Nat) (aF:Clause→S→Option (Bool×S)) (a0:List Clause) (st:S):Option (Bool×S) :=
 Option.bind (slices_IndexFunc_apiClause n aF a0 st) fun r1 =>
 some (decide (r1.1≥0),r1.2)
def shares_Check_j1 (v1:Bool):Option (Int) :=
 if v1=true then
  some 90
 else
  some 0
def shares_Check (n:Nat) (a0:Share):Option (Int) :=
 if decide ((a0.Clauses.length:Int)>5)=true then
  shares_Check_j1 true
 else
  Option.bind (slices_ContainsFunc_apiClause n (fun (x0:Clause) (_:Unit)=>(shares_Check_c1 x0).map fun y=>(y,())) a0.Clauses ()) fun r4 =>
  if r4.1=true then
   shares_Check_j1 true
  else
   Option.bind (shares_isCents a0.Loan) fun r6 =>
   shares_Check_j1 (!r6)
def shares_ask (n:Nat) (a0:Share) (a1:Bool):Option (Int) :=
 Option.bind (shares_Check n a0) fun r1 =>
 if (r1 != 0)=true then
  some r1
 else
  if (!a1)=true then
   some 1
  else
   some 0
def shares_Gift_j1 (n:Nat) (a0:Share) (a1:Int) (a2:Int) (v1:Int):Option (Split×Int) :=
 if (v1 != 0)=true then
  some ((⟨0,0,0⟩:Split),v1)
 else
  Option.bind (shares_settle n a0.Clauses a0.Loan a1 a2) fun r3 =>
  some (r3.1.Split,0)
def shares_Gift (n:Nat) (a0:Share) (a1:Int) (a2:Int):Option (Split×Int) :=
 Option.bind (shares_isCents a1) fun r4 =>
 if r4=true then
  Option.bind (shares_isCents a2) fun r6 =>
  Option.bind (shares_ask n a0 r6) fun r7 =>
  shares_Gift_j1 n a0 a1 a2 r7
 else
  Option.bind (shares_ask n a0 false) fun r8 =>
  shares_Gift_j1 n a0 a1 a2 r8
def shares_Week (n:Nat) (a0:Share) (a1:Int):Option (Split×Int) :=
 Option.bind (shares_Gift n a0 a1 0) fun r1 =>
 some (r1.1,r1.2)
def top_halved_j1 (v2:Bool):Option (Bool) :=
 some v2
def top_halved (n:Nat):Option (Bool) :=
 Option.bind (shares_Week n (⟨([(⟨3,0,50,0⟩:Clause)]:List Clause),0⟩:Share) 110) fun r1 =>
 if (r1.2==0)=true then
  top_halved_j1 ((r1.1.Operator==55)&&((r1.1.Owner==55)&&((r1.1.Repaid==0)&&true)))
 else
  top_halved_j1 false
def shares_owners (n:Nat) (a0:List Clause) (a1:Int) (a2:Int):Option (Int) :=
 Option.bind (shares_settle n a0 a1 a2 0) fun r1 =>
 some r1.1.Split.Owner
def shares_Box_j1 (r5:Week_×(List Int)) (v6:Int):Option (Split×Int×Int) :=
 some (r5.1.Split,v6,0)
def shares_Box (n:Nat) (a0:Share) (a1:Box):Option (Split×Int×Int) :=
 Option.bind (shares_Check n a0) fun r1 =>
 if (r1 != 0)=true then
  some ((⟨0,0,0⟩:Split),0,r1)
 else
  Option.bind (takings_Cash n a1) fun r3 =>
  if (r3.2.2.2 != 0)=true then
   some ((⟨0,0,0⟩:Split),0,r3.2.2.2)
  else
   Option.bind (shares_settle n a0.Clauses a0.Loan r3.1 0) fun r5 =>
   Option.bind (takings_Missing n a1) fun r7 =>
   if (r7.2==0)=true then
    Option.bind (shares_owners n a0.Clauses a0.Loan (w64 (r3.1+r7.1))) fun r9 =>
    shares_Box_j1 r5 (w64 (r9-r5.1.Split.Owner))
   else
    shares_Box_j1 r5 0
def top_TopOwner_j3 (v13:Bool):Option (Bool) :=
 some v13
def top_TopOwner_j2 (n:Nat) (a0:Share) (r5:Split×Int×Int) (r7:Int×Int×Int×Int) (v10:Bool):Option (Bool) :=
 if v10=true then
  some false
 else
  Option.bind (shares_Week n a0 r7.1) fun r12 =>
  if (r12.2==0)=true then
   if ((r5.1.Operator==r12.1.Operator)&&((r5.1.Owner==r12.1.Owner)&&((r5.1.Repaid==r12.1.Repaid)&&true)))=true then
    if decide (r5.1.Operator≥0)=true then
     if decide (r5.1.Owner≥0)=true then
      if ((w64 (r5.1.Operator+r5.1.Owner))==r7.1)=true then
       Option.bind (top_halved n) fun r19 =>
       top_TopOwner_j3 r19
      else
       top_TopOwner_j3 false
     else
      top_TopOwner_j3 false
    else
     top_TopOwner_j3 false
   else
    top_TopOwner_j3 false
  else
   top_TopOwner_j3 false
def top_TopOwner_j1 (n:Nat) (a0:Share) (a1:Box) (v1:Bool):Option (Bool) :=
 if v1=true then
  Option.bind (top_halved n) fun r3 =>
  some r3
 else
  Option.bind (ref05_Copy a1) fun r4 =>
  Option.bind (shares_Box n a0 r4) fun r5 =>
  Option.bind (ref05_Copy a1) fun r6 =>
  Option.bind (takings_Cash n r6) fun r7 =>
  Option.bind (ref05_Copy a1) fun r8 =>
  Option.bind (takings_Missing n r8) fun r9 =>
  if (r5.2.2 != 0)=true then
   top_TopOwner_j2 n a0 r5 r7 true
  else
   if (r7.2.2.2 != 0)=true then
    top_TopOwner_j2 n a0 r5 r7 true
   else
    if (r9.2 != 0)=true then
     if (r9.2 != 3)=true then
      top_TopOwner_j2 n a0 r5 r7 true
     else
      if decide (r5.2.1<0)=true then
       top_TopOwner_j2 n a0 r5 r7 true
      else
       top_TopOwner_j2 n a0 r5 r7 (r5.2.1 != 0)
    else
     if decide (r5.2.1<0)=true then
      top_TopOwner_j2 n a0 r5 r7 true
     else
      if (r9.1==0)=true then
       top_TopOwner_j2 n a0 r5 r7 (r5.2.1 != 0)
      else
       top_TopOwner_j2 n a0 r5 r7 false
def top_TopOwner (n:Nat) (a0:Share) (a1:Box):Option (Bool) :=
 Option.bind (top_even n a0) fun r27 =>
 if (!r27)=true then
  top_TopOwner_j1 n a0 a1 true
 else
  Option.bind (law05_Far n a1) fun r29 =>
  if r29=true then
   top_TopOwner_j1 n a0 a1 true
  else
   Option.bind (ref05_Check n a1) fun r31 =>
   top_TopOwner_j1 n a0 a1 (r31 != 0)
end Go.Law
