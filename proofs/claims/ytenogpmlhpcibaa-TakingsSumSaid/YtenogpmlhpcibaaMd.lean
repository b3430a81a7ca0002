/-
  What the functions compute (printed by gen.py).
  Conditions: none.
-/
import Derived.Test.YtenogpmlhpcibaaAmN
set_option linter.all false
namespace Go.Law
open Go Go.AM
set_option linter.unusedVariables false
structure Wheel where
 Round:Int
 Notches:List Int
 Coins:List Int
 deriving DecidableEq,Inhabited,Repr
abbrev Wheel.cells (x:Wheel):List AV:=[.v (.int .i64 x.Round),.sl .no 1 (x.Notches.map cI),.sl .no 1 (x.Coins.map cI)]
structure Box where
 Wheel:Wheel
 Found:List Int
 Marked:List Int
 Slugs:List Int
 Plays:Int
 Skips:Int
 deriving DecidableEq,Inhabited,Repr
abbrev Box.cells (x:Box):List AV:=[.v (.int .i64 x.Wheel.Round),.sl .no 1 (x.Wheel.Notches.map cI),.sl .no 1 (x.Wheel.Coins.map cI),.sl .no 1 (x.Found.map cI),.sl .no 1 (x.Marked.map cI),.sl .no 1 (x.Slugs.map cI),.v (.int .i64 x.Plays),.v (.int .i64 x.Skips)]
structure Box_ where
 Box:Box
 deriving DecidableEq,Inhabited,Repr
abbrev Box_.cells (x:Box_):List AV:=[.v (.int .i64 x.Box.Wheel.Round),.sl .no 1 (x.Box.Wheel.Notches.map cI),.sl .no 1 (x.Box.Wheel.Coins.map cI),.sl .no 1 (x.Box.Found.map cI),.sl .no 1 (x.Box.Marked.map cI),.sl .no 1 (x.Box.Slugs.map cI),.v (.int .i64 x.Box.Plays),.v (.int .i64 x.Box.Skips)]
structure Bag_ where
 c0:Int
 c1:Int
 c2:Int
 c3:Int
 deriving DecidableEq,Inhabited,Repr
abbrev Bag_.cells (x:Bag_):List AV:=[.v (.int .i64 x.c0),.v (.int .i64 x.c1),.v (.int .i64 x.c2),.v (.int .i64 x.c3)]
structure Wheel_ where
 Wheel:Wheel
 deriving DecidableEq,Inhabited,Repr
abbrev Wheel_.cells (x:Wheel_):List AV:=[.v (.int .i64 x.Wheel.Round),.sl .no 1 (x.Wheel.Notches.map cI),.sl .no 1 (x.Wheel.Coins.map cI)]
structure Stand where
 Place:Int
 Credit:Int
 deriving DecidableEq,Inhabited,Repr
abbrev Stand.cells (x:Stand):List AV:=[.v (.int .i64 x.Place),.v (.int .i64 x.Credit)]
structure Gap_ where
 purse:List Int
 acts:List Int
 deriving DecidableEq,Inhabited,Repr
abbrev Gap_.cells (x:Gap_):List AV:=[.sl .no 1 (x.purse.map cI),.sl .no 1 (x.acts.map cI)]
structure SpotR_ where
 stand:Stand
 bought:Int
 deriving DecidableEq,Inhabited,Repr
abbrev SpotR_.cells (x:SpotR_):List AV:=[.v (.int .i64 x.stand.Place),.v (.int .i64 x.stand.Credit),.v (.int .i64 x.bought)]
structure Spot_ where
 left:Bag_
 place:Int
 credit:Int
 deriving DecidableEq,Inhabited,Repr
abbrev Spot_.cells (x:Spot_):List AV:=[.v (.int .i64 x.left.c0),.v (.int .i64 x.left.c1),.v (.int .i64 x.left.c2),.v (.int .i64 x.left.c3),.v (.int .i64 x.place),.v (.int .i64 x.credit)]
structure Clause where
 Kind:Int
 Cents:Int
 Part:Int
 More:Int
 deriving DecidableEq,Inhabited,Repr
abbrev Clause.cells (x:Clause):List AV:=[.v (.int .i64 x.Kind),.v (.int .i64 x.Cents),.v (.int .i64 x.Part),.v (.int .i64 x.More)]
structure Share where
 Clauses:List Clause
 Loan:Int
 deriving DecidableEq,Inhabited,Repr
abbrev Share.cells (x:Share):List AV:=[.sl .no 4 (x.Clauses.map Clause.cells),.v (.int .i64 x.Loan)]
structure Split where
 Operator:Int
 Owner:Int
 Repaid:Int
 deriving DecidableEq,Inhabited,Repr
abbrev Split.cells (x:Split):List AV:=[.v (.int .i64 x.Operator),.v (.int .i64 x.Owner),.v (.int .i64 x.Repaid)]
structure Week_ where
 Split:Split
 rest:Int
 owed:Int
 deriving DecidableEq,Inhabited,Repr
abbrev Week_.cells (x:Week_):List AV:=[.v (.int .i64 x.Split.Operator),.v (.int .i64 x.Split.Owner),.v (.int .i64 x.Split.Repaid),.v (.int .i64 x.rest),.v (.int .i64 x.owed)]
structure Point_ where
 Stand:Stand
 bought:Int
 deriving DecidableEq,Inhabited,Repr
abbrev Point_.cells (x:Point_):List AV:=[.v (.int .i64 x.Stand.Place),.v (.int .i64 x.Stand.Credit),.v (.int .i64 x.bought)]
structure WearRecord where
 Worn:Int
 Limit:Int
 Price:Int
 Plays:List Int
 deriving DecidableEq,Inhabited,Repr
abbrev WearRecord.cells (x:WearRecord):List AV:=[.v (.int .i64 x.Worn),.v (.int .i64 x.Limit),.v (.int .i64 x.Price),.sl .no 1 (x.Plays.map cI)]
structure Wear where
 Weeks:Int
 Price:Int
 Age:Int
 Step:Int
 Rough:List Int
 Records:List WearRecord
 deriving DecidableEq,Inhabited,Repr
abbrev Wear.cells (x:Wear):List AV:=[.v (.int .i64 x.Weeks),.v (.int .i64 x.Price),.v (.int .i64 x.Age),.v (.int .i64 x.Step),.sl .no 1 (x.Rough.map cI),.sl .no 4 (x.Records.map WearRecord.cells)]
structure WearWeek where
 Needle:Int
 Records:List Int
 deriving DecidableEq,Inhabited,Repr
abbrev WearWeek.cells (x:WearWeek):List AV:=[.v (.int .i64 x.Needle),.sl .no 1 (x.Records.map cI)]
structure BoxW_ where
 Wear:Wear
 deriving DecidableEq,Inhabited,Repr
abbrev BoxW_.cells (x:BoxW_):List AV:=[.v (.int .i64 x.Wear.Weeks),.v (.int .i64 x.Wear.Price),.v (.int .i64 x.Wear.Age),.v (.int .i64 x.Wear.Step),.sl .no 1 (x.Wear.Rough.map cI),.sl .no 4 (x.Wear.Records.map WearRecord.cells)]
structure PointT_ where
 Stand:Stand
 in_:Bag_
 bought:Int
 deriving DecidableEq,Inhabited,Repr
abbrev PointT_.cells (x:PointT_):List AV:=[.v (.int .i64 x.Stand.Place),.v (.int .i64 x.Stand.Credit),.v (.int .i64 x.in_.c0),.v (.int .i64 x.in_.c1),.v (.int .i64 x.in_.c2),.v (.int .i64 x.in_.c3),.v (.int .i64 x.bought)]
def znd (x:Spot_):Bool:=([x.left.c0,x.left.c1,x.left.c2,x.left.c3,x.place,x.credit]:List Int).all okI
def zbK (x:PointT_):Bool:=([x.Stand.Place,x.Stand.Credit,x.in_.c0,x.in_.c1,x.in_.c2,x.in_.c3,x.bought]:List Int).all okI
def zad (x:PointT_):Value:=.agg (([x.Stand.Place,x.Stand.Credit,x.in_.c0,x.in_.c1,x.in_.c2,x.in_.c3,x.bought]:List Int).map kvI).toArray
def zgB (v1:List Int):Option ((List Int)) :=
 some v1
def zfh (a0:List Int) (a1:List Int) (rec1:(List Int)->Int->Option ((List Int))) (v2:List Int) (v3:Int):Option ((List Int)) :=
 if decide (v3<(a0.length:Int))=true then
  Option.bind (idx a0 v3) fun x5 =>
  Option.bind (idx a1 v3) fun x6 =>
  Option.bind (app v2 ([w64 (x5+x6)]:List Int)) fun l7 =>
  rec1 l7 (w64 (v3+1))
 else
  zgB v2
def zdA (a0:List Int) (a1:List Int):Nat->(List Int)->Int->Option ((List Int))
 | 0,_,_=>none
 | m+1,v2,v3=>zfh a0 a1 (zdA a0 a1 m) v2 v3
def ziC (n:Nat) (a0:List Int) (a1:List Int):Option ((List Int)) :=
 zdA a0 a1 n ([]:List Int) 0
def zii (n:Nat) (a0:Box):Option ((List Int)) :=
 Option.bind (ziC n a0.Found a0.Slugs) fun r1 =>
 some r1
def zef (v1:Bool):Option (Bool) :=
 some v1
def zeg (a0:Int) (a1:Int) (a2:Int):Option (Bool) :=
 if decide (a0≥a1)=true then
  zef (decide (a0<=a2))
 else
  zef false
def zfi:Option (Bool) :=
 some true
def zck (rec1:Int->Option (Bool)) (v1:Int) (v3:Bool):Option (Bool) :=
 if v3=true then
  some false
 else
  rec1 (w64 (v1+1))
def zev (a0:List Int) (a1:Int) (a2:Int) (rec1:Int->Option (Bool)) (v1:Int):Option (Bool) :=
 if decide (v1<(a0.length:Int))=true then
  Option.bind (idx a0 v1) fun x5 =>
  Option.bind (zeg x5 a1 a2) fun r6 =>
  if (!r6)=true then
   zck rec1 v1 true
  else
   if decide (v1>0)=true then
    Option.bind (idx a0 v1) fun x9 =>
    Option.bind (idx a0 (w64 (v1-1))) fun x10 =>
    zck rec1 v1 (decide (x9<=x10))
   else
    zck rec1 v1 false
 else
  zfi
def zbV (a0:List Int) (a1:Int) (a2:Int):Nat->Int->Option (Bool)
 | 0,_=>none
 | m+1,v1=>zev a0 a1 a2 (zbV a0 a1 a2 m) v1
def zg5 (n:Nat) (a0:List Int) (a1:Int) (a2:Int):Option (Bool) :=
 zbV a0 a1 a2 n 0
def zcE (v1:Bool):Option (Int) :=
 if v1=true then
  some 10
 else
  some 0
def zhJ (n:Nat) (a0:Wheel):Option (Int) :=
 Option.bind (zeg a0.Round 1 200) fun r3 =>
 if (!r3)=true then
  zcE true
 else
  if decide ((a0.Notches.length:Int)>12)=true then
   zcE true
  else
   Option.bind (zg5 n a0.Notches 1 a0.Round) fun r6 =>
   if (!r6)=true then
    zcE true
   else
    if decide ((a0.Coins.length:Int)>4)=true then
     zcE true
    else
     Option.bind (zg5 n a0.Coins 1 100) fun r9 =>
     zcE (!r9)
def zeS (v2:Int):Option (Bool) :=
 some (decide (v2<=12))
def zd0 (a1:List Int) (rec1:Int->Int->Option (Bool)) (v3:Int) (v4:Int):Option (Bool) :=
 if decide (v4<(a1.length:Int))=true then
  Option.bind (idx a1 v4) fun x6 =>
  Option.bind (zeg x6 0 12) fun r7 =>
  if (!r7)=true then
   some false
  else
   Option.bind (idx a1 v4) fun x9 =>
   rec1 (w64 (v3+x9)) (w64 (v4+1))
 else
  zeS v3
def zb4 (a1:List Int):Nat->Int->Int->Option (Bool)
 | 0,_,_=>none
 | m+1,v3,v4=>zd0 a1 (zb4 a1 m) v3 v4
def zew (n:Nat) (a0:Wheel) (a1:List Int):Option (Bool) :=
 if ((a1.length:Int) != (a0.Coins.length:Int))=true then
  some false
 else
  zb4 a1 n 0 0
def zeh (a0:Int) (a1:Int) (a2:Int):Option (Bool) :=
 Option.bind (zeg a0 a1 a2) fun r1 =>
 some r1
def zeK (n:Nat) (a0:Box):Option (Int) :=
 Option.bind (ziC n a0.Found a0.Slugs) fun r3 =>
 Option.bind (zew n a0.Wheel r3) fun r4 =>
 if (!r4)=true then
  some 50
 else
  some 0
def zeT (n:Nat) (a0:Box) (rec1:Int->Option (Int)) (v6:Int):Option (Int) :=
 if decide (v6<(a0.Found.length:Int))=true then
  Option.bind (idx a0.Marked v6) fun x8 =>
  Option.bind (idx a0.Found v6) fun x9 =>
  Option.bind (zeh x8 0 x9) fun r10 =>
  if (!r10)=true then
   some 50
  else
   rec1 (w64 (v6+1))
 else
  zeK n a0
def zch (n:Nat) (a0:Box):Nat->Int->Option (Int)
 | 0,_=>none
 | m+1,v6=>zeT n a0 (zch n a0 m) v6
def zci (n:Nat) (a0:Box) (v1:Bool):Option (Int) :=
 if v1=true then
  some 50
 else
  zch n a0 n 0
def zfM (n:Nat) (a0:Box):Option (Int) :=
 Option.bind (zhJ n a0.Wheel) fun r12 =>
 if (r12 != 0)=true then
  zci n a0 true
 else
  Option.bind (zew n a0.Wheel a0.Found) fun r14 =>
  if (!r14)=true then
   zci n a0 true
  else
   Option.bind (zew n a0.Wheel a0.Slugs) fun r16 =>
   if (!r16)=true then
    zci n a0 true
   else
    if ((a0.Marked.length:Int) != (a0.Found.length:Int))=true then
     zci n a0 true
    else
     Option.bind (zeh a0.Plays 0 9999) fun r19 =>
     if (!r19)=true then
      zci n a0 true
     else
      Option.bind (zeh a0.Skips 0 9) fun r21 =>
      zci n a0 (!r21)
def zfY (v1:Int):Option (Int) :=
 some v1
def zeU (a0:List Int) (rec1:Int->Int->Option (Int)) (v2:Int) (v3:Int):Option (Int) :=
 if decide (v3<(a0.length:Int))=true then
  Option.bind (idx a0 v3) fun x5 =>
  rec1 (w64 (v2+x5)) (w64 (v3+1))
 else
  zfY v2
def zc6 (a0:List Int):Nat->Int->Int->Option (Int)
 | 0,_,_=>none
 | m+1,v2,v3=>zeU a0 (zc6 a0 m) v2 v3
def zfN (n:Nat) (a0:List Int):Option (Int) :=
 zc6 a0 n 0 0
def zfa (v2:Bool):Option (Bool) :=
 some v2
def zij (n:Nat) (a0:Box):Option (Bool) :=
 if decide ((max (max (max (max (a0.Wheel.Notches.length:Int) (a0.Wheel.Coins.length:Int)) (a0.Found.length:Int)) (a0.Marked.length:Int)) (a0.Slugs.length:Int))>40)=true then
  some true
 else
  Option.bind (zfM n a0) fun r3 =>
  if (r3==0)=true then
   Option.bind (zii n a0) fun r5 =>
   Option.bind (zfN n r5) fun r6 =>
   if decide (r6>3)=true then
    zfa true
   else
    zfa (decide ((a0.Found.length:Int)>3))
  else
   zfa false
def zei (v1:Bool):Option (Bool) :=
 some v1
def zdx (a0:Int) (a1:Int) (a2:Int):Option (Bool) :=
 if decide (a1<=a0)=true then
  zei (decide (a0<=a2))
 else
  zei false
def zfj (a0:List Int) (a1:Int):Option (Bool) :=
 some (decide ((a0.length:Int)<=a1))
def zcl (rec1:Int->Option (Bool)) (v1:Int) (v4:Bool):Option (Bool) :=
 if v4=true then
  some false
 else
  rec1 (w64 (v1+1))
def zex (a0:List Int) (a1:Int) (a2:Int) (rec1:Int->Option (Bool)) (v1:Int):Option (Bool) :=
 if decide (v1<(a0.length:Int))=true then
  Option.bind (idx a0 v1) fun x3 =>
  Option.bind (zdx x3 1 a2) fun r6 =>
  if (!r6)=true then
   zcl rec1 v1 true
  else
   if decide (v1>0)=true then
    Option.bind (idx a0 (w64 (v1-1))) fun x9 =>
    zcl rec1 v1 (decide (x3<=x9))
   else
    zcl rec1 v1 false
 else
  zfj a0 a1
def zbW (a0:List Int) (a1:Int) (a2:Int):Nat->Int->Option (Bool)
 | 0,_=>none
 | m+1,v1=>zex a0 a1 a2 (zbW a0 a1 a2 m) v1
def zg6 (n:Nat) (a0:List Int) (a1:Int) (a2:Int):Option (Bool) :=
 zbW a0 a1 a2 n 0
def zdS (v1:Bool):Option (Int) :=
 if v1=true then
  some 10
 else
  some 0
def zgT (n:Nat) (a0:Wheel):Option (Int) :=
 Option.bind (zdx a0.Round 1 200) fun r3 =>
 if (!r3)=true then
  zdS true
 else
  Option.bind (zg6 n a0.Notches 12 a0.Round) fun r5 =>
  if (!r5)=true then
   zdS true
  else
   Option.bind (zg6 n a0.Coins 4 100) fun r7 =>
   zdS (!r7)
def zdo (v1:Bool):Option (Bool) :=
 some v1
def zc7 (a0:Int) (a1:Int) (a2:Int):Option (Bool) :=
 if decide (a1<=a0)=true then
  zdo (decide (a0<=a2))
 else
  zdo false
def zbX {S:Type} (v1:S):Option (Int×S) :=
 some ((-1),v1)
def zbf {S:Type} (a0:List Int) (aF:Int->S->Option (Bool×S)) (rec1:Int->S->Option (Int×S)) (v3:Int) (v4:S):Option (Int×S) :=
 if decide (v3<(a0.length:Int))=true then
  Option.bind (idx a0 v3) fun x6 =>
  Option.bind (aF x6 v4) fun r7 =>
  if r7.1=true then
   some (v3,r7.2)
  else
   rec1 (w64 (v3+1)) r7.2
 else
  zbX v4
def zaB {S:Type} (a0:List Int) (aF:Int->S->Option (Bool×S)):Nat->Int->S->Option (Int×S)
 | 0,_,_=>none
 | m+1,v3,v4=>zbf a0 aF (zaB a0 aF m) v3 v4
def zdf {S:Type} (n:Nat) (aF:Int->S->Option (Bool×S)) (a0:List Int) (st:S):Option (Int×S) :=
 zaB a0 aF n 0 st
def zbq {S:Type} (n:Nat) (aF:Int->S->Option (Bool×S)) (a0:List Int) (st:S):Option (Bool×S) :=
 Option.bind (zdf n aF a0 st) fun r1 =>
 some (decide (r1.1≥0),r1.2)
def zdK (a0:Int):Option (Bool) :=
 Option.bind (zc7 a0 0 12) fun r1 =>
 some (!r1)
def zeV (v3:Int):Option (Int) :=
 if decide (v3>12)=true then
  some 50
 else
  some 0
def zd1 (a0:Box) (rec1:Int->Int->Option (Int)) (v5:Int) (v6:Int):Option (Int) :=
 if decide (v6<(a0.Found.length:Int))=true then
  Option.bind (idx a0.Found v6) fun x8 =>
  Option.bind (idx a0.Marked v6) fun x9 =>
  if decide (x9>x8)=true then
   some 50
  else
   Option.bind (idx a0.Slugs v6) fun x11 =>
   rec1 (w64 (v5+(w64 (x8+x11)))) (w64 (v6+1))
 else
  zeV v5
def zbA (a0:Box):Nat->Int->Int->Option (Int)
 | 0,_,_=>none
 | m+1,v5,v6=>zd1 a0 (zbA a0 m) v5 v6
def zgx (n:Nat) (a0:Box):Option (Int) :=
 zbA a0 n 0 0
def zdL (rec2:Int->Option (Int)) (v12:Int) (v15:Bool):Option (Int) :=
 if v15=true then
  some 50
 else
  rec2 (w64 (v12+1))
def zfk (n:Nat) (a0:Box) (rec2:Int->Option (Int)) (v12:Int):Option (Int) :=
 if decide (v12<3)=true then
  Option.bind (idx ([a0.Found,a0.Marked,a0.Slugs]:List (List Int)) v12) fun x14 =>
  if ((x14.length:Int) != (a0.Wheel.Coins.length:Int))=true then
   zdL rec2 v12 true
  else
   Option.bind (zbq n (fun (x0:Int) (_:Unit)=>(zdK x0).map fun y=>(y,())) x14 ()) fun r18 =>
   zdL rec2 v12 r18.1
 else
  zgx n a0
def zaS (n:Nat) (a0:Box):Nat->Int->Option (Int)
 | 0,_=>none
 | m+1,v12=>zfk n a0 (zaS n a0 m) v12
def zcQ (n:Nat) (a0:Box) (v1:Bool):Option (Int) :=
 if v1=true then
  some 50
 else
  zaS n a0 n 0
def zfl (n:Nat) (a0:Box):Option (Int) :=
 Option.bind (zgT n a0.Wheel) fun r19 =>
 if (r19 != 0)=true then
  zcQ n a0 true
 else
  Option.bind (zc7 a0.Plays 0 9999) fun r21 =>
  if (!r21)=true then
   zcQ n a0 true
  else
   Option.bind (zc7 a0.Skips 0 9) fun r23 =>
   zcQ n a0 (!r23)
def zej (n:Nat) (a0:Box):Option ((Option Box_)×Int) :=
 Option.bind (zfl n a0) fun r1 =>
 if (r1 != 0)=true then
  some ((none:Option Box_),r1)
 else
  some ((some (⟨a0⟩:Box_)),0)
structure Step_ where
 act:Int
 from_:PointT_
 deriving DecidableEq,Inhabited,Repr
abbrev Step_.cells (x:Step_):List AV:=[.v (.int .i64 x.act),.v (.int .i64 x.from_.Stand.Place),.v (.int .i64 x.from_.Stand.Credit),.v (.int .i64 x.from_.in_.c0),.v (.int .i64 x.from_.in_.c1),.v (.int .i64 x.from_.in_.c2),.v (.int .i64 x.from_.in_.c3),.v (.int .i64 x.from_.bought)]
def zat (x:Step_):Value:=.agg (([x.act,x.from_.Stand.Place,x.from_.Stand.Credit,x.from_.in_.c0,x.from_.in_.c1,x.from_.in_.c2,x.from_.in_.c3,x.from_.bought]:List Int).map kvI).toArray
abbrev zaP:PointT_:=⟨⟨0,0⟩,⟨0,0,0,0⟩,0⟩
abbrev zba:Step_:=⟨0,zaP⟩
def zmm (x y:Bag_):Bool:=(x.c0==y.c0)&&((x.c1==y.c1)&&((x.c2==y.c2)&&((x.c3==y.c3)&&true)))
def zfO (p o:PointT_):Bool:=decide (p.Stand.Place<o.Stand.Place) || ((p.Stand.Place==o.Stand.Place)&&decide (p.Stand.Credit<o.Stand.Credit))
def zls (al:Bag_) (E:List (Int×PointT_)) (p:PointT_):Bool:=zmm p.in_ al&&(!zcz E p.bought || zfO p (zhC zaP E p.bought))
def zbb (al:Bag_) (E:List (Int×PointT_)) (p:PointT_):List (Int×PointT_):=if zls al E p=true then zh1 E p.bought p else E
def zfb (al:Bag_) (M:List (PointT_×Step_)):List (Int×PointT_):=(M.map (·.1)).foldl (zbb al) []
def zjw (M:List (PointT_×Step_)):Bool:=M.all (fun p=>okI p.1.bought)&&decide (M.length<=1048576)
def zdB (v1:Int):Option (Int) :=
 some v1
def zcT (a0:Bag_) (rec1:Int->Int->Option (Int)) (v2:Int) (v3:Int):Option (Int) :=
 if decide (v3<4)=true then
  Option.bind (idx ([a0.c0,a0.c1,a0.c2,a0.c3]:List Int) v3) fun x5 =>
  rec1 (w64 (v2+x5)) (w64 (v3+1))
 else
  zdB v2
def zbn (a0:Bag_):Nat->Int->Int->Option (Int)
 | 0,_,_=>none
 | m+1,v2,v3=>zcT a0 (zbn a0 m) v2 v3
def zdM (n:Nat) (a0:Bag_):Option (Int) :=
 zbn a0 n 0 0
abbrev zjx:=List (PointT_×Step_)×List PointT_
abbrev zeL (y:PointT_) (c:Int):PointT_:=⟨⟨y.Stand.Place,min y.Stand.Credit c⟩,y.in_,y.bought⟩
def ze6 (n:Nat) (al:Bag_) (x:PointT_) (act:Int) (y:PointT_) (S:zjx):Option zjx :=
 Option.bind (zdM n al) fun r1 =>
 Option.bind (zdM n y.in_) fun r2 =>
 Option.bind (zhp zbK zba S.1 (zeL y (w64 (r1-r2)))) fun u =>
 if zcz S.1 (zeL y (w64 (r1-r2)))=true then some S
 else
  Option.bind (zlm zbK S.1 (zeL y (w64 (r1-r2))) ⟨act,x⟩) fun m =>
  if S.2.length+1<=1048576 then some (m,S.2++[zeL y (w64 (r1-r2))]) else none
def ziD {S:Type} (n:Nat) (aF:Wheel_->S->Option (Bool×S)) (a0:Wheel) (st:S):Option ((Wheel_×Int)×S) :=
 Option.bind (zgT n a0) fun r1 =>
 if (r1 != 0)=true then
  some (((⟨(⟨0,([]:List Int),([]:List Int)⟩:Wheel)⟩:Wheel_),r1),st)
 else
  Option.bind (aF (⟨a0⟩:Wheel_) st) fun r3 =>
  if (!r3.1)=true then
   some (((⟨(⟨0,([]:List Int),([]:List Int)⟩:Wheel)⟩:Wheel_),1),r3.2)
  else
   some (((⟨a0⟩:Wheel_),0),r3.2)
def zdC (a0:Wheel_) (a1:Int) (a2:Int) (v1:Int):Option (Int×Int) :=
 Option.bind (rem (w64 (a1+a2)) a0.Wheel.Round) fun q2 =>
 some (q2,v1)
def zcU (a0:Wheel_) (a1:Int) (a2:Int) (rec1:Int->Int->Option (Int×Int)) (v3:Int) (v4:Int):Option (Int×Int) :=
 if decide (v4<(a0.Wheel.Notches.length:Int))=true then
  Option.bind (idx a0.Wheel.Notches v4) fun x6 =>
  Option.bind (quo (w64 ((w64 ((w64 (a1+a2))-x6))+a0.Wheel.Round)) a0.Wheel.Round) fun q7 =>
  Option.bind (quo (w64 ((w64 (a1-x6))+a0.Wheel.Round)) a0.Wheel.Round) fun q8 =>
  rec1 (w64 (v3+(w64 (q7-q8)))) (w64 (v4+1))
 else
  zdC a0 a1 a2 v3
def zbo (a0:Wheel_) (a1:Int) (a2:Int):Nat->Int->Int->Option (Int×Int)
 | 0,_,_=>none
 | m+1,v3,v4=>zcU a0 a1 a2 (zbo a0 a1 a2 m) v3 v4
def zeW (n:Nat) (a0:Wheel_) (a1:Int) (a2:Int):Option (Int×Int) :=
 zbo a0 a1 a2 n 0 0
def zfm (n:Nat) (a0:Wheel_) (a1:Stand) (a2:Int):Option (Stand) :=
 if (a2 != (-1))=true then
  Option.bind (idx a0.Wheel.Coins a2) fun x2 =>
  Option.bind (zeW n a0 a1.Place x2) fun r3 =>
  some (⟨r3.1,w64 (a1.Credit+r3.2)⟩:Stand)
 else
  if decide (a1.Credit>0)=true then
   some (⟨0,w64 (a1.Credit-1)⟩:Stand)
  else
   some a1
def zdD (a0:Wheel_) (a1:Int):Option (Bool) :=
 Option.bind (zdx a1 0 (w64 (a0.Wheel.Round-1))) fun r1 =>
 some r1
def zcv {S:Type} (aF:Int->S->Option (Bool×S)) (a0:Int) (st:S):Option (Bool×S) :=
 Option.bind (aF a0 st) fun r1 =>
 some ((!r1.1),r1.2)
def zdN {S:Type} (v1:Bool) (v2:S):Option (Bool×S) :=
 some (v1,v2)
def zgC {S:Type} (n:Nat) (aF:Int->S->Option (Bool×S)) (a0:List Int) (st:S):Option (Bool×S) :=
 if decide ((a0.length:Int)<=20)=true then
  Option.bind (zbq n (zcv aF) a0 st) fun r4 =>
  zdN (!r4.1) r4.2
 else
  zdN false st
def zd2 (a0:Wheel_) (a1:Int):Option (Bool) :=
 Option.bind (zdx a1 0 (w64 ((a0.Wheel.Coins.length:Int)-1))) fun r1 =>
 some r1
def zcA (v1:Bool):Option (Bool) :=
 some v1
def zcH (a0:Wheel_) (a1:Int):Option (Bool) :=
 if (a1==(-1))=true then
  zcA true
 else
  Option.bind (zd2 a0 a1) fun r3 =>
  zcA r3
def zdp (v1:Bool):Option (Bool) :=
 some v1
def zgg (n:Nat) (a0:Wheel_) (a1:Stand) (a2:List Int):Option (Bool) :=
 Option.bind (zdD a0 a1.Place) fun r2 =>
 if r2=true then
  Option.bind (zdx a1.Credit 0 20) fun r4 =>
  if r4=true then
   Option.bind (zgC n (fun (x0:Int) (_:Unit)=>(zcH a0 x0).map fun y=>(y,())) a2 ()) fun r6 =>
   zdp r6.1
  else
   zdp false
 else
  zdp false
def zg7 (v3:Int) (v4:Int) (v5:Int):Option (Stand×Int×Int) :=
 some ((⟨v4,v5⟩:Stand),v3,0)
def zgh (n:Nat) (rec1:Int->Int->Int->Int->Option (Stand×Int×Int)) (r1:(Wheel_×Int)×Unit) (v9:Int) (v10:Int) (v11:Int) (x13:Int) (v14:Int):Option (Stand×Int×Int) :=
 Option.bind (zfm n r1.1.1 (⟨v10,v11⟩:Stand) x13) fun r15 =>
 rec1 v14 (w64 (v9+1)) r15.Place r15.Credit
def zfc (n:Nat) (rec1:Int->Int->Int->Int->Option (Stand×Int×Int)) (r1:(Wheel_×Int)×Unit) (v8:Int) (v9:Int) (v10:Int) (v11:Int) (x13:Int) (v16:Bool):Option (Stand×Int×Int) :=
 if v16=true then
  zgh n rec1 r1 v9 v10 v11 x13 (w64 (v8+1))
 else
  zgh n rec1 r1 v9 v10 v11 x13 v8
def zfZ (n:Nat) (a2:List Int) (r1:(Wheel_×Int)×Unit) (rec1:Int->Int->Int->Int->Option (Stand×Int×Int)) (v8:Int) (v9:Int) (v10:Int) (v11:Int):Option (Stand×Int×Int) :=
 if decide (v9<(a2.length:Int))=true then
  Option.bind (idx a2 v9) fun x13 =>
  if (x13==(-1))=true then
   zfc n rec1 r1 v8 v9 v10 v11 x13 (decide (v11>0))
  else
   zfc n rec1 r1 v8 v9 v10 v11 x13 false
 else
  zg7 v8 v10 v11
def zbL (n:Nat) (a2:List Int) (r1:(Wheel_×Int)×Unit):Nat->Int->Int->Int->Int->Option (Stand×Int×Int)
 | 0,_,_,_,_=>none
 | m+1,v8,v9,v10,v11=>zfZ n a2 r1 (zbL n a2 r1 m) v8 v9 v10 v11
def zfn (n:Nat) (a0:Wheel) (a1:Stand) (a2:List Int):Option (Stand×Int×Int) :=
 Option.bind (ziD n (fun (x0:Wheel_) (_:Unit)=>(zgg n x0 a1 a2).map fun y=>(y,())) a0 ()) fun r1 =>
 if (r1.1.2 != 0)=true then
  some ((⟨0,0⟩:Stand),0,r1.1.2)
 else
  zbL n a2 r1 n 0 0 a1.Place a1.Credit
def zby (n:Nat) (b:Box_) (al:Bag_) (x:PointT_):Nat->Int->zjx->Option zjx
 | 0,_,_=>none
 | m+1,k,S =>
  if decide (k<(b.Box.Wheel.Coins.length:Int))=true then
   Option.bind (idx ([x.in_.c0,x.in_.c1,x.in_.c2,x.in_.c3]:List Int) k) fun e1 =>
   Option.bind (idx ([al.c0,al.c1,al.c2,al.c3]:List Int) k) fun e2 =>
   if (e1==e2)=true then zby n b al x m (w64 (k+1)) S
   else
    Option.bind (zfn n b.Box.Wheel ⟨x.Stand.Place,0⟩ [k]) fun r =>
    Option.bind (ztE ([x.in_.c0,x.in_.c1,x.in_.c2,x.in_.c3]:List Int) k (w64 (e1+1))) fun u =>
    Option.bind (ze6 n al x k ⟨⟨r.1.Place,w64 (x.Stand.Credit+r.1.Credit)⟩,⟨u.getD 0 0,u.getD 1 0,u.getD 2 0,u.getD 3 0⟩,w64 (x.bought+r.1.Credit)⟩ S) fun S2 =>
    zby n b al x m (w64 (k+1)) S2
  else some S
def zf0 (n:Nat) (b:Box_) (al:Bag_) (x:PointT_) (S:zjx):Option zjx :=
 if decide (x.Stand.Credit>0)=true then
  if decide (x.Stand.Place>0)=true then
   Option.bind (zfn n b.Box.Wheel ⟨x.Stand.Place,1⟩ [-1]) fun r =>
   ze6 n al x (-1) ⟨⟨r.1.Place,w64 (x.Stand.Credit-1)⟩,x.in_,x.bought⟩ S
  else some S
 else some S
def zdT (n:Nat) (b:Box_) (al:Bag_):Nat->zjx->Option (List (PointT_×Step_))
 | 0,_=>none
 | m+1,S=>match S.2 with
  | []=>some S.1
  | x::q =>
   Option.bind (zf0 n b al x (S.1,q)) fun S1 =>
   Option.bind (zby n b al x n 0 S1) fun S2 =>
   zdT n b al m S2
def zdO (n:Nat) (a0:Option Box_) (al:Bag_):Option (List (PointT_×Step_)) :=
 Option.bind a0 fun b=>zdT n b al n ([(zaP,⟨-2,zaP⟩)],[zaP])
def zd3 (v1:Int) (v2:Int) (v3:Int) (v4:Int):Option (Bag_) :=
 some (⟨v1,v2,v3,v4⟩:Bag_)
def zdg (a0:Option Box_) (x5:Box_) (rec1:Int->Int->Int->Int->Int->Option (Bag_)) (v7:Int) (v8:Int) (v9:Int) (v10:Int) (v11:Int):Option (Bag_) :=
 if decide (v7<(x5.Box.Found.length:Int))=true then
  Option.bind (idx x5.Box.Found v7) fun x13 =>
  Option.bind (a0) fun x14 =>
  Option.bind (idx x14.Box.Slugs v7) fun x15 =>
  Option.bind (idx ([v8,v9,v10,v11]:List Int) v7) fun x16 =>
  Option.bind (ztE ([v8,v9,v10,v11]:List Int) v7 (w64 (x13+x15))) fun l17 =>
  rec1 (w64 (v7+1)) (l17.getD 0 0) (l17.getD 1 0) (l17.getD 2 0) (l17.getD 3 0)
 else
  zd3 v8 v9 v10 v11
def zbY (a0:Option Box_) (x5:Box_):Nat->Int->Int->Int->Int->Int->Option (Bag_)
 | 0,_,_,_,_,_=>none
 | m+1,v7,v8,v9,v10,v11=>zdg a0 x5 (zbY a0 x5 m) v7 v8 v9 v10 v11
def zek (n:Nat) (a0:Option Box_):Option (Bag_) :=
 Option.bind (a0) fun x5 =>
 zbY a0 x5 n 0 0 0 0 0
def zdq (n:Nat) (a0:Option Box_):Option (List Int) :=
 Option.bind (zek n a0) fun r1 =>
 Option.bind (zdO n a0 r1) fun M =>
 Option.bind (zek n a0) fun r2 =>
 if zjw M=true then some (zfK ((zfb r2 M).map (·.1))) else none
def zhK (n:Nat) (a0:Box):Option ((List Int)×Int) :=
 Option.bind (zej n a0) fun r1 =>
 if (r1.2 != 0)=true then
  some (([]:List Int),r1.2)
 else
  Option.bind (zdq n r1.1) fun r3 =>
  some (r3,0)
def slices_Clone_int (a0:List Int):Option (List Int):=app [] a0
def zcm {S:Type} (rec:(Option Box_)->(List Int)->Int->S->Option (Unit×S)) (a0:Option Box_) (a1:List Int) (a2:Int) (rec1:Int->S->Option (Unit×S)) (v5:Int) (v6:S):Option (Unit×S) :=
 if decide (v5<(w64 (a2+1)))=true then
  Option.bind (slices_Clone_int a1) fun l8 =>
  Option.bind (app l8 ([v5]:List Int)) fun l9 =>
  Option.bind (rec a0 l9 (w64 (a2-v5)) v6) fun r10 =>
  rec1 (w64 (v5+1)) r10.2
 else
  some ((),v6)
def zbC {S:Type} (rec:(Option Box_)->(List Int)->Int->S->Option (Unit×S)) (a0:Option Box_) (a1:List Int) (a2:Int):Nat->Int->S->Option (Unit×S)
 | 0,_,_=>none
 | m+1,v5,v6=>zcm rec a0 a1 a2 (zbC rec a0 a1 a2 m) v5 v6
def zcV {S:Type} (n:Nat) (rec:(Option Box_)->(List Int)->Int->S->Option (Unit×S)) (aF:(List Int)->S->Option (Unit×S)) (a0:Option Box_) (a1:List Int) (a2:Int) (st:S):Option (Unit×S) :=
 Option.bind (a0) fun x1 =>
 if ((a1.length:Int)==(x1.Box.Wheel.Coins.length:Int))=true then
  Option.bind (aF a1 st) fun r3 =>
  some ((),r3.2)
 else
  zbC rec a0 a1 a2 n 0 st
def zbB {S:Type}:Nat->((List Int)->S->Option (Unit×S))->(Option Box_)->(List Int)->Int->S->Option (Unit×S)
 | 0,_,_,_,_,_=>none
 | n+1,aF,a0,a1,a2,st=>zcV n (zbB n aF) aF a0 a1 a2 st
def zdh (v1:Int):Option (Int) :=
 some v1
def zcO (a0:Option Box_) (a1:List Int) (rec1:Int->Int->Option (Int)) (v2:Int) (v3:Int):Option (Int) :=
 if decide (v3<(a1.length:Int))=true then
  Option.bind (idx a1 v3) fun x5 =>
  Option.bind (a0) fun x6 =>
  Option.bind (idx x6.Box.Wheel.Coins v3) fun x7 =>
  rec1 (w64 (v2+(w64 (x5*x7)))) (w64 (v3+1))
 else
  zdh v2
def zbt (a0:Option Box_) (a1:List Int):Nat->Int->Int->Option (Int)
 | 0,_,_=>none
 | m+1,v2,v3=>zcO a0 a1 (zbt a0 a1 m) v2 v3
def zbg (n:Nat) (a0:Option Box_) (a1:List Int):Option (Int) :=
 zbt a0 a1 n 0 0
def zbM (purse:List Int):Nat->Int->Bag_->Option Bag_
 | 0,_,_=>none
 | m+1,k,al =>
  if decide (k<(purse.length:Int))=true then
   Option.bind (idx purse k) fun x =>
   Option.bind (idx ([al.c0,al.c1,al.c2,al.c3]:List Int) k) fun e =>
   Option.bind (ztE ([al.c0,al.c1,al.c2,al.c3]:List Int) k (w64 (e+x))) fun u =>
   zbM purse m (w64 (k+1)) ⟨u.getD 0 0,u.getD 1 0,u.getD 2 0,u.getD 3 0⟩
  else some al
def zel (M:List (PointT_×Step_)):Nat->Step_->List Int->Option (List Int)
 | 0,_,_=>none
 | m+1,s,acts =>
  if (s.act != -2)=true then
   if acts.length+1<=1048576 then
    Option.bind (zhp zbK zba M s.from_) fun s2=>zel M m s2 (acts++[s.act])
   else none
  else some acts
def zbN (n:Nat) (b:Box_) (M:List (PointT_×Step_)) (E:List (Int×PointT_)) (bs:List Int):Nat->Int->Option (List Int×Bool)
 | 0,_=>none
 | m+1,k =>
  if decide (k<(bs.length:Int))=true then
   Option.bind (idx bs k) fun x =>
   Option.bind (zc7 x b.Box.Plays (w64 (b.Box.Plays+b.Box.Skips))) fun w =>
   if (!w)=true then zbN n b M E bs m (w64 (k+1))
   else
    Option.bind (zhp okI zaP E x) fun p =>
    Option.bind (zhp zbK zba M p) fun s =>
    Option.bind (zel M n s []) fun acts =>
    some (acts.reverse,true)
  else some ([],false)
def zcc (n:Nat) (a0:Option Box_) (purse:List Int):Option (List Int×Bool) :=
 Option.bind a0 fun b =>
 Option.bind (zek n a0) fun r1 =>
 Option.bind (zbM purse n 0 r1) fun al =>
 Option.bind (zdO n a0 al) fun M =>
 if zjw M=true then zbN n b M (zfb al M) (zfK ((zfb al M).map (·.1))) n 0 else none
def zaO (n:Nat) (a:Option Box_) (purse:List Int):List Gap_->Option (Unit×List Gap_)
 | [] =>
  Option.bind (zcc n a purse) fun e =>
  if (!e.2)=true then some ((),[]) else some ((),[⟨purse,e.1⟩])
 | x::gs =>
  Option.bind (zbg n a purse) fun w1 =>
  Option.bind (zbg n a x.purse) fun w2 =>
  if decide (w1>w2)=true then some ((),x::gs)
  else
   Option.bind (zcc n a purse) fun e =>
   if (!e.2)=true then some ((),x::gs)
   else
    Option.bind (zbg n a purse) fun w3 =>
    Option.bind (zbg n a x.purse) fun w4 =>
    if decide (w3<w4)=true then some ((),[⟨purse,e.1⟩])
    else Option.bind (app (x::gs) ([⟨purse,e.1⟩]:List Gap_)) fun l=>some ((),l)
def zcd (n:Nat) (a0:Option Box_):Option (List Gap_) :=
 Option.bind (zbB n (fun x0 s=>zaO n a0 x0 s) a0 ([]:List Int) 2 ([]:List Gap_)) fun r =>
 some r.2
def zeM (n:Nat) (a0:Box):Option ((Option Box_)×(List Gap_)×Int) :=
 Option.bind (zej n a0) fun r1 =>
 if (r1.2 != 0)=true then
  some ((none:Option Box_),([]:List Gap_),r1.2)
 else
  Option.bind (zcd n r1.1) fun r3 =>
  if ((r3.length:Int)==0)=true then
   some ((none:Option Box_),([]:List Gap_),3)
  else
   some (r1.1,r3,0)
def zcJ (n:Nat) (a0:Box):Option (Int×Int) :=
 Option.bind (zeM n a0) fun r1 =>
 if (r1.2.2 != 0)=true then
  some (0,r1.2.2)
 else
  Option.bind (idx r1.2.1 0) fun x3 =>
  Option.bind (zbg n r1.1 x3.purse) fun r4 =>
  some (r4,0)
def zgi (n:Nat) (a0:Box):Option (Int×Int×Int×Int) :=
 Option.bind (zej n a0) fun r1 =>
 if (r1.2 != 0)=true then
  some (0,0,0,r1.2)
 else
  Option.bind (zbg n r1.1 a0.Marked) fun r3 =>
  Option.bind (zbg n r1.1 a0.Found) fun r4 =>
  Option.bind (zbg n r1.1 a0.Slugs) fun r5 =>
  some (w64 (r4-r3),r3,r5,0)
def zey:Option (Bool) :=
 some true
def zdE (a0:List Int) (a1:List Int) (rec1:Int->Option (Bool)) (v2:Int):Option (Bool) :=
 if decide (v2<(a0.length:Int))=true then
  Option.bind (idx a0 v2) fun x4 =>
  Option.bind (idx a1 v2) fun x5 =>
  if (x4 != x5)=true then
   some false
  else
   rec1 (w64 (v2+1))
 else
  zey
def zbO (a0:List Int) (a1:List Int):Nat->Int->Option (Bool)
 | 0,_=>none
 | m+1,v2=>zdE a0 a1 (zbO a0 a1 m) v2
def zbR (n:Nat) (a0:List Int) (a1:List Int):Option (Bool) :=
 if ((a0.length:Int) != (a1.length:Int))=true then
  some false
 else
  zbO a0 a1 n 0
def zez (v2:Int):Option (Int) :=
 some v2
def zdF (a0:List Int) (rec1:Int->Int->Option (Int)) (v3:Int) (v4:Int):Option (Int) :=
 if decide (v4<(a0.length:Int))=true then
  Option.bind (idx a0 v4) fun x6 =>
  rec1 (max v3 x6) (w64 (v4+1))
 else
  zez v3
def zce (a0:List Int):Nat->Int->Int->Option (Int)
 | 0,_,_=>none
 | m+1,v3,v4=>zdF a0 (zce a0 m) v3 v4
def zeA (n:Nat) (a0:List Int):Option (Int) :=
 Option.bind (idx a0 0) fun x1 =>
 zce a0 n x1 1
def slices_Max_int (n:Nat) (a0:List Int):Option (Int) :=
 if decide ((a0.length:Int)<1)=true then
  none
 else
  zeA n a0
def zgD (n:Nat) (a0:Box):Option (Int×Int) :=
 Option.bind (zej n a0) fun r1 =>
 if (r1.2 != 0)=true then
  some (0,r1.2)
 else
  Option.bind (zdq n r1.1) fun r3 =>
  Option.bind (slices_Max_int n r3) fun r4 =>
  some ((max 0 (w64 (a0.Plays-r4))),0)
def zjy:Option (Wheel) :=
 some (⟨50,([10,20,25]:List Int),([5,10,25]:List Int)⟩:Wheel)
def zhL:Option (Box) :=
 Option.bind (zjy) fun r1 =>
 some (⟨r1,([0,2,1]:List Int),([0,1,0]:List Int),([0,0,0]:List Int),6,0⟩:Box)
def zbz (v6:Bool):Option (Bool) :=
 some v6
def zfP (n:Nat):Option (Bool) :=
 Option.bind (zhL) fun r1 =>
 Option.bind (zhK n r1) fun r2 =>
 Option.bind (zgi n r1) fun r3 =>
 Option.bind (zcJ n r1) fun r4 =>
 Option.bind (zgD n r1) fun r5 =>
 if (r2.2==0)=true then
  if (r3.2.2.2==0)=true then
   if (r4.2==0)=true then
    if (r5.2==0)=true then
     Option.bind (zbR n r2.1 ([3,4,5]:List Int)) fun r11 =>
     if r11=true then
      if (r3.1==35)=true then
       if (r3.2.1==10)=true then
        if (r4.1==5)=true then
         zbz (r5.1==1)
        else
         zbz false
       else
        zbz false
      else
       zbz false
     else
      zbz false
    else
     zbz false
   else
    zbz false
  else
   zbz false
 else
  zbz false
def ziE (a0:Wheel):Option (Wheel) :=
 Option.bind (app ([]:List Int) a0.Notches) fun l1 =>
 Option.bind (app ([]:List Int) a0.Coins) fun l2 =>
 some (⟨a0.Round,l1,l2⟩:Wheel)
def ziF (a0:Box):Option (Box) :=
 Option.bind (ziE a0.Wheel) fun r1 =>
 Option.bind (app ([]:List Int) a0.Found) fun l2 =>
 Option.bind (app ([]:List Int) a0.Marked) fun l3 =>
 Option.bind (app ([]:List Int) a0.Slugs) fun l4 =>
 some (⟨r1,l2,l3,l4,a0.Plays,a0.Skips⟩:Box)
def zdG (v1:Int):Option (Int) :=
 some v1
def zcW (a0:Wheel) (a1:List Int) (rec1:Int->Int->Option (Int)) (v2:Int) (v3:Int):Option (Int) :=
 if decide (v3<(a1.length:Int))=true then
  Option.bind (idx a1 v3) fun x5 =>
  Option.bind (idx a0.Coins v3) fun x6 =>
  rec1 (w64 (v2+(w64 (x5*x6)))) (w64 (v3+1))
 else
  zdG v2
def zbD (a0:Wheel) (a1:List Int):Nat->Int->Int->Option (Int)
 | 0,_,_=>none
 | m+1,v2,v3=>zcW a0 a1 (zbD a0 a1 m) v2 v3
def zcw (n:Nat) (a0:Wheel) (a1:List Int):Option (Int) :=
 zbD a0 a1 n 0 0
def zhM (a0:Box) (a1:Int):Option (Bool) :=
 Option.bind (zeh a1 a0.Plays (w64 (a0.Plays+a0.Skips))) fun r1 =>
 some r1
def zhN:Option (Bool) :=
 some false
def zgE (a0:List Int) (a1:Int) (rec1:Int->Option (Bool)) (v1:Int):Option (Bool) :=
 if decide (v1<(a0.length:Int))=true then
  Option.bind (idx a0 v1) fun x3 =>
  if (x3==a1)=true then
   some true
  else
   rec1 (w64 (v1+1))
 else
  zhN
def ze7 (a0:List Int) (a1:Int):Nat->Int->Option (Bool)
 | 0,_=>none
 | m+1,v1=>zgE a0 a1 (ze7 a0 a1 m) v1
def zne (n:Nat) (a0:List Int) (a1:Int):Option (Bool) :=
 ze7 a0 a1 n 0
def zg8 (v1:Int) (v2:Int):Option (Int×Int) :=
 some (v1,v2)
def zgj (rec1:Int->Int->Int->Option (Int×Int)) (v5:Int) (v7:Int) (v8:Int):Option (Int×Int) :=
 rec1 v7 v8 (w64 (v5+1))
def zgk (rec1:Int->Int->Int->Option (Int×Int)) (a0:Wheel) (v3:Int) (v5:Int) (v9:Int):Option (Int×Int) :=
 if ((w64 (v3+1))==a0.Round)=true then
  zgj rec1 v5 0 v9
 else
  zgj rec1 v5 (w64 (v3+1)) v9
def zf1 (n:Nat) (a0:Wheel) (a2:Int) (rec1:Int->Int->Int->Option (Int×Int)) (v3:Int) (v4:Int) (v5:Int):Option (Int×Int) :=
 if decide (v5<a2)=true then
  Option.bind (zne n a0.Notches (w64 (v3+1))) fun r11 =>
  if r11=true then
   zgk rec1 a0 v3 v5 (w64 (v4+1))
  else
   zgk rec1 a0 v3 v5 v4
 else
  zg8 v3 v4
def zcn (n:Nat) (a0:Wheel) (a2:Int):Nat->Int->Int->Int->Option (Int×Int)
 | 0,_,_,_=>none
 | m+1,v3,v4,v5=>zf1 n a0 a2 (zcn n a0 a2 m) v3 v4 v5
def zjz (n:Nat) (a0:Wheel) (a1:Int) (a2:Int):Option (Int×Int) :=
 zcn n a0 a2 n a1 0 0
def zeN (n:Nat) (a0:Wheel) (a1:Stand) (a2:Int):Option (Stand×Bool) :=
 if decide (a2≥0)=true then
  Option.bind (idx a0.Coins a2) fun x2 =>
  Option.bind (zjz n a0 a1.Place x2) fun r3 =>
  some ((⟨r3.1,w64 (a1.Credit+r3.2)⟩:Stand),false)
 else
  if (a1.Credit==0)=true then
   some (a1,false)
  else
   some ((⟨0,w64 (a1.Credit-1)⟩:Stand),true)
def zf2 (v2:List (List Int)):Option ((List (List Int))) :=
 some v2
def zeX (rec:(List Int)->(List Int)->Option ((List (List Int)))) (a0:List Int) (a1:List Int) (rec1:(List (List Int))->Int->Option ((List (List Int)))) (v3:List (List Int)) (v4:Int):Option ((List (List Int))) :=
 Option.bind (idx a0 (a1.length:Int)) fun x5 =>
 if decide (v4<=x5)=true then
  Option.bind (app ([]:List Int) a1) fun l7 =>
  Option.bind (app l7 ([v4]:List Int)) fun l8 =>
  Option.bind (rec a0 l8) fun r9 =>
  Option.bind (app v3 r9) fun l10 =>
  rec1 l10 (w64 (v4+1))
 else
  zf2 v3
def zc8 (rec:(List Int)->(List Int)->Option ((List (List Int)))) (a0:List Int) (a1:List Int):Nat->(List (List Int))->Int->Option ((List (List Int)))
 | 0,_,_=>none
 | m+1,v3,v4=>zeX rec a0 a1 (zc8 rec a0 a1 m) v3 v4
def zgF (n:Nat) (rec:(List Int)->(List Int)->Option ((List (List Int)))) (a0:List Int) (a1:List Int):Option ((List (List Int))) :=
 if ((a1.length:Int)==(a0.length:Int))=true then
  some ([a1]:List (List Int))
 else
  zc8 rec a0 a1 n ([]:List (List Int)) 0
def zcK:Nat->(List Int)->(List Int)->Option ((List (List Int)))
 | 0,_,_=>none
 | n+1,a0,a1=>zgF n (zcK n) a0 a1
def zem (rec:Wheel->(List SpotR_)->SpotR_->Option ((List SpotR_))) (a0:Wheel) (a2:SpotR_) (l1:List SpotR_) (r2:Stand×Bool) (v3:Bool):Option ((List SpotR_)) :=
 if v3=true then
  some l1
 else
  Option.bind (rec a0 l1 (⟨r2.1,a2.bought⟩:SpotR_)) fun r5 =>
  some r5
def zen (n:Nat) (rec:Wheel->(List SpotR_)->SpotR_->Option ((List SpotR_))) (a0:Wheel) (a1:List SpotR_) (a2:SpotR_):Option ((List SpotR_)) :=
 Option.bind (app a1 ([a2]:List SpotR_)) fun l1 =>
 Option.bind (zeN n a0 a2.stand (-1)) fun r2 =>
 if (!r2.2)=true then
  zem rec a0 a2 l1 r2 true
 else
  zem rec a0 a2 l1 r2 (a2.stand.Place==0)
def zf3 (n:Nat) (rec:Wheel->(List SpotR_)->SpotR_->Option ((List SpotR_))) (a0:Wheel) (a1:List SpotR_) (a2:SpotR_) (rec1:Int->Option ((List SpotR_))) (v7:Int):Option ((List SpotR_)) :=
 if decide (v7<(a1.length:Int))=true then
  Option.bind (idx a1 v7) fun x9 =>
  if ((x9.stand.Place==a2.stand.Place)&&((x9.stand.Credit==a2.stand.Credit)&&((x9.bought==a2.bought)&&true)))=true then
   some a1
  else
   rec1 (w64 (v7+1))
 else
  zen n rec a0 a1 a2
def zdy (n:Nat) (rec:Wheel->(List SpotR_)->SpotR_->Option ((List SpotR_))) (a0:Wheel) (a1:List SpotR_) (a2:SpotR_):Nat->Int->Option ((List SpotR_))
 | 0,_=>none
 | m+1,v7=>zf3 n rec a0 a1 a2 (zdy n rec a0 a1 a2 m) v7
def zfQ (n:Nat) (rec:Wheel->(List SpotR_)->SpotR_->Option ((List SpotR_))) (a0:Wheel) (a1:List SpotR_) (a2:SpotR_):Option ((List SpotR_)) :=
 zdy n rec a0 a1 a2 n 0
def zfo:Nat->Wheel->(List SpotR_)->SpotR_->Option ((List SpotR_))
 | 0,_,_,_=>none
 | n+1,a0,a1,a2=>zfQ n (zfo n) a0 a1 a2
def zfp (v1:Int):Option (Int) :=
 some v1
def zeB (a0:List Int) (a1:List Int) (rec1:Int->Int->Option (Int)) (v2:Int) (v3:Int):Option (Int) :=
 if decide (v3<(a1.length:Int))=true then
  Option.bind (idx a0 v3) fun x5 =>
  Option.bind (idx a1 v3) fun x6 =>
  rec1 (w64 (v2+(max 0 (w64 (x5-x6))))) (w64 (v3+1))
 else
  zfp v2
def zcL (a0:List Int) (a1:List Int):Nat->Int->Int->Option (Int)
 | 0,_,_=>none
 | m+1,v2,v3=>zeB a0 a1 (zcL a0 a1 m) v2 v3
def zik (n:Nat) (a0:List Int) (a1:List Int):Option (Int) :=
 zcL a0 a1 n 0 0
def zf4 (v1:Int):Option (Int) :=
 some v1
def zeY (a0:List Int) (a1:List Int) (rec1:Int->Int->Option (Int)) (v2:Int) (v3:Int):Option (Int) :=
 if decide (v3<(a0.length:Int))=true then
  Option.bind (idx a0 v3) fun x5 =>
  Option.bind (idx a1 v3) fun x6 =>
  rec1 (w64 ((w64 (v2*(w64 (x5+1))))+x6)) (w64 (v3+1))
 else
  zf4 v2
def zc9 (a0:List Int) (a1:List Int):Nat->Int->Int->Option (Int)
 | 0,_,_=>none
 | m+1,v2,v3=>zeY a0 a1 (zc9 a0 a1 m) v2 v3
def zjc (n:Nat) (a0:List Int) (a1:List Int):Option (Int) :=
 zc9 a0 a1 n 0 0
def zhr (a0:List Int) (a1:Int):Option ((List Int)) :=
 Option.bind (app ([]:List Int) a0) fun l1 =>
 Option.bind (idx l1 a1) fun x2 =>
 Option.bind (idx l1 a1) fun x3 =>
 some (l1.set (Int.toNat a1) (w64 (x2-1)))
def zeZ (v2:List Int):Option ((List Int)) :=
 some v2
def zcx (rec1:(List Int)->Int->Option ((List Int))) (v4:Int) (v6:List Int):Option ((List Int)) :=
 rec1 v6 (w64 (v4+1))
def zd4 (rec1:(List Int)->Int->Option ((List Int))) (a0:List SpotR_) (v4:Int) (rec2:(List Int)->Int->Option ((List Int))) (v7:List Int) (v8:Int):Option ((List Int)) :=
 if decide (v8<(a0.length:Int))=true then
  Option.bind (idx a0 v8) fun x10 =>
  if (x10.bought==v4)=true then
   Option.bind (app v7 ([v4]:List Int)) fun l12 =>
   zcx rec1 v4 l12
  else
   rec2 v7 (w64 (v8+1))
 else
  zcx rec1 v4 v7
def zb5 (rec1:(List Int)->Int->Option ((List Int))) (a0:List SpotR_) (v4:Int):Nat->(List Int)->Int->Option ((List Int))
 | 0,_,_=>none
 | m+1,v7,v8=>zd4 rec1 a0 v4 (zb5 rec1 a0 v4 m) v7 v8
def zd5 (n:Nat) (a0:List SpotR_) (v1:Int) (rec1:(List Int)->Int->Option ((List Int))) (v3:List Int) (v4:Int):Option ((List Int)) :=
 if decide (v4<=v1)=true then
  zb5 rec1 a0 v4 n v3 0
 else
  zeZ v3
def za6 (n:Nat) (a0:List SpotR_) (v1:Int):Nat->(List Int)->Int->Option ((List Int))
 | 0,_,_=>none
 | m+1,v3,v4=>zd5 n a0 v1 (za6 n a0 v1 m) v3 v4
def zdP (n:Nat) (a0:List SpotR_) (v1:Int):Option ((List Int)) :=
 za6 n a0 v1 n ([]:List Int) 0
def zd6 (n:Nat) (a0:List SpotR_) (rec3:Int->Int->Option ((List Int))) (v13:Int) (v14:Int):Option ((List Int)) :=
 if decide (v14<(a0.length:Int))=true then
  Option.bind (idx a0 v14) fun x16 =>
  rec3 (max v13 x16.bought) (w64 (v14+1))
 else
  zdP n a0 v13
def zb6 (n:Nat) (a0:List SpotR_):Nat->Int->Int->Option ((List Int))
 | 0,_,_=>none
 | m+1,v13,v14=>zd6 n a0 (zb6 n a0 m) v13 v14
def zgG (n:Nat) (a0:List SpotR_):Option ((List Int)) :=
 zb6 n a0 n 0 0
def zf5 (v2:List (List Int)):Option ((List (List Int))) :=
 some v2
def zf6 (rec1:(List (List SpotR_))->(List (List Int))->Int->Option ((List (List Int)))) (v5:Int) (v7:List (List SpotR_)) (v8:List (List Int)):Option ((List (List Int))) :=
 rec1 v7 v8 (w64 (v5+1))
def zda (n:Nat) (rec1:(List (List SpotR_))->(List (List Int))->Int->Option ((List (List Int)))) (v3:List (List SpotR_)) (v4:List (List Int)) (v5:Int) (v10:List SpotR_):Option ((List (List Int))) :=
 Option.bind (app v3 ([v10]:List (List SpotR_))) fun l11 =>
 Option.bind (zgG n v10) fun r12 =>
 Option.bind (app v4 ([r12]:List (List Int))) fun l13 =>
 zf6 rec1 v5 l11 l13
def zdb (rec2:(List SpotR_)->Int->Option ((List (List Int)))) (v15:Int) (v18:List SpotR_):Option ((List (List Int))) :=
 rec2 v18 (w64 (v15+1))
def ze0 (n:Nat) (rec2:(List SpotR_)->Int->Option ((List (List Int)))) (a0:Wheel) (v15:Int) (x25:List SpotR_) (rec3:(List SpotR_)->Int->Option ((List (List Int)))) (v26:List SpotR_) (v27:Int):Option ((List (List Int))) :=
 if decide (v27<(x25.length:Int))=true then
  Option.bind (idx x25 v27) fun x29 =>
  Option.bind (zeN n a0 x29.stand v15) fun r30 =>
  Option.bind (idx x25 v27) fun x31 =>
  Option.bind (idx x25 v27) fun x32 =>
  Option.bind (zfo n a0 v26 (⟨r30.1,w64 ((w64 (x31.bought+r30.1.Credit))-x32.stand.Credit)⟩:SpotR_)) fun r33 =>
  rec3 r33 (w64 (v27+1))
 else
  zdb rec2 v15 v26
def zcF (n:Nat) (rec2:(List SpotR_)->Int->Option ((List (List Int)))) (a0:Wheel) (v15:Int) (x25:List SpotR_):Nat->(List SpotR_)->Int->Option ((List (List Int)))
 | 0,_,_=>none
 | m+1,v26,v27=>ze0 n rec2 a0 v15 x25 (zcF n rec2 a0 v15 x25 m) v26 v27
def zcG (n:Nat) (rec1:(List (List SpotR_))->(List (List Int))->Int->Option ((List (List Int)))) (rec2:(List SpotR_)->Int->Option ((List (List Int)))) (a0:Wheel) (a1:List Int) (r1:(List (List Int))) (v3:List (List SpotR_)) (v4:List (List Int)) (v5:Int) (v14:List SpotR_) (v15:Int) (v16:Bool):Option ((List (List Int))) :=
 if v16=true then
  Option.bind (idx r1 v5) fun x19 =>
  Option.bind (idx x19 v15) fun x20 =>
  if (x20==0)=true then
   zdb rec2 v15 v14
  else
   Option.bind (idx r1 v5) fun x22 =>
   Option.bind (zhr x22 v15) fun r23 =>
   Option.bind (zjc n a1 r23) fun r24 =>
   Option.bind (idx v3 r24) fun x25 =>
   zcF n rec2 a0 v15 x25 n v14 0
 else
  zda n rec1 v3 v4 v5 v14
def zdQ (n:Nat) (rec1:(List (List SpotR_))->(List (List Int))->Int->Option ((List (List Int)))) (a0:Wheel) (a1:List Int) (a2:List Int) (r1:(List (List Int))) (v3:List (List SpotR_)) (v4:List (List Int)) (v5:Int) (rec2:(List SpotR_)->Int->Option ((List (List Int)))) (v14:List SpotR_) (v15:Int):Option ((List (List Int))) :=
 if decide (v15<(a1.length:Int))=true then
  Option.bind (idx r1 v5) fun x35 =>
  Option.bind (zik n x35 a2) fun r36 =>
  zcG n rec1 rec2 a0 a1 r1 v3 v4 v5 v14 v15 (decide (r36<=2))
 else
  zcG n rec1 rec2 a0 a1 r1 v3 v4 v5 v14 v15 false
def zaX (n:Nat) (rec1:(List (List SpotR_))->(List (List Int))->Int->Option ((List (List Int)))) (a0:Wheel) (a1:List Int) (a2:List Int) (r1:(List (List Int))) (v3:List (List SpotR_)) (v4:List (List Int)) (v5:Int):Nat->(List SpotR_)->Int->Option ((List (List Int)))
 | 0,_,_=>none
 | m+1,v14,v15=>zdQ n rec1 a0 a1 a2 r1 v3 v4 v5 (zaX n rec1 a0 a1 a2 r1 v3 v4 v5 m) v14 v15
def zdc (n:Nat) (rec1:(List (List SpotR_))->(List (List Int))->Int->Option ((List (List Int)))) (a0:Wheel) (a1:List Int) (a2:List Int) (r1:(List (List Int))) (v3:List (List SpotR_)) (v4:List (List Int)) (v5:Int) (v9:List SpotR_):Option ((List (List Int))) :=
 zaX n rec1 a0 a1 a2 r1 v3 v4 v5 n v9 0
def ze1 (n:Nat) (a0:Wheel) (a1:List Int) (a2:List Int) (r1:(List (List Int))) (rec1:(List (List SpotR_))->(List (List Int))->Int->Option ((List (List Int)))) (v3:List (List SpotR_)) (v4:List (List Int)) (v5:Int):Option ((List (List Int))) :=
 if decide (v5<(r1.length:Int))=true then
  Option.bind (idx r1 v5) fun x37 =>
  Option.bind (zfN n x37) fun r38 =>
  if (r38==0)=true then
   Option.bind (zfo n a0 ([]:List SpotR_) (⟨(⟨0,0⟩:Stand),0⟩:SpotR_)) fun r40 =>
   zdc n rec1 a0 a1 a2 r1 v3 v4 v5 r40
  else
   zdc n rec1 a0 a1 a2 r1 v3 v4 v5 ([]:List SpotR_)
 else
  zf5 v4
def zay (n:Nat) (a0:Wheel) (a1:List Int) (a2:List Int) (r1:(List (List Int))):Nat->(List (List SpotR_))->(List (List Int))->Int->Option ((List (List Int)))
 | 0,_,_,_=>none
 | m+1,v3,v4,v5=>ze1 n a0 a1 a2 r1 (zay n a0 a1 a2 r1 m) v3 v4 v5
def zhO (n:Nat) (a0:Wheel) (a1:List Int) (a2:List Int):Option ((List (List Int))) :=
 Option.bind (zcK n a1 ([]:List Int)) fun r1 =>
 zay n a0 a1 a2 r1 n ([]:List (List SpotR_)) ([]:List (List Int)) 0
def zgK (n:Nat) (a0:Box):Option (Int×Int×Int×Int) :=
 Option.bind (zfM n a0) fun r1 =>
 if (r1 != 0)=true then
  some (0,0,0,r1)
 else
  Option.bind (zcw n a0.Wheel a0.Marked) fun r3 =>
  Option.bind (zcw n a0.Wheel a0.Found) fun r4 =>
  Option.bind (zcw n a0.Wheel a0.Slugs) fun r5 =>
  some (w64 (r4-r3),r3,r5,0)
def zbZ (v1:Bool):Option (Bool) :=
 some v1
def ziG (n:Nat) (a0:Box) (a1:Box):Option (Bool) :=
 if (a0.Wheel.Round==a1.Wheel.Round)=true then
  Option.bind (zbR n a0.Wheel.Notches a1.Wheel.Notches) fun r3 =>
  if r3=true then
   Option.bind (zbR n a0.Wheel.Coins a1.Wheel.Coins) fun r5 =>
   if r5=true then
    Option.bind (zbR n a0.Found a1.Found) fun r7 =>
    if r7=true then
     Option.bind (zbR n a0.Marked a1.Marked) fun r9 =>
     if r9=true then
      Option.bind (zbR n a0.Slugs a1.Slugs) fun r11 =>
      if r11=true then
       if (a0.Plays==a1.Plays)=true then
        zbZ (a0.Skips==a1.Skips)
       else
        zbZ false
      else
       zbZ false
     else
      zbZ false
    else
     zbZ false
   else
    zbZ false
  else
   zbZ false
 else
  zbZ false
def zf7 (v5:Int) (v6:Int) (v7:Int):Option (Int×Int×Int×Int) :=
 some (v5,v6,v7,0)
def zeO (rec1:Int->Int->Int->Int->Option (Int×Int×Int×Int)) (v11:Int) (v13:Int) (v14:Int) (v15:Int):Option (Int×Int×Int×Int) :=
 rec1 v13 v14 v15 (w64 (v11+1))
def ze2 (n:Nat) (a0:List Box) (rec1:Int->Int->Int->Int->Option (Int×Int×Int×Int)) (v8:Int) (v9:Int) (v10:Int) (v11:Int):Option (Int×Int×Int×Int) :=
 if decide (v11<(a0.length:Int))=true then
  Option.bind (idx a0 v11) fun x16 =>
  Option.bind (zgi n x16) fun r17 =>
  Option.bind (zcJ n x16) fun r18 =>
  if (r18.2==0)=true then
   zeO rec1 v11 (w64 (v8+r17.1)) (w64 (v9+r18.1)) v10
  else
   zeO rec1 v11 (w64 (v8+r17.1)) v9 (w64 (v10+1))
 else
  zf7 v8 v9 v10
def zcj (n:Nat) (a0:List Box):Nat->Int->Int->Int->Int->Option (Int×Int×Int×Int)
 | 0,_,_,_,_=>none
 | m+1,v8,v9,v10,v11=>ze2 n a0 (zcj n a0 m) v8 v9 v10 v11
def zdU (n:Nat) (a0:List Box) (v2:Int) (v3:Int) (v4:Int):Option (Int×Int×Int×Int) :=
 zcj n a0 n v2 v3 v4 0
def zdR (n:Nat) (a0:List Box) (rec2:Int->Int->Int->Int->Option (Int×Int×Int×Int)) (v20:Int) (v21:Int) (v22:Int) (v23:Int):Option (Int×Int×Int×Int) :=
 if decide (v23<(a0.length:Int))=true then
  Option.bind (idx a0 v23) fun x25 =>
  Option.bind (zfl n x25) fun r26 =>
  if (r26 != 0)=true then
   some (0,0,0,r26)
  else
   rec2 v20 v21 v22 (w64 (v23+1))
 else
  zdU n a0 v20 v21 v22
def zbS (n:Nat) (a0:List Box):Nat->Int->Int->Int->Int->Option (Int×Int×Int×Int)
 | 0,_,_,_,_=>none
 | m+1,v20,v21,v22,v23=>zdR n a0 (zbS n a0 m) v20 v21 v22 v23
def zeo (n:Nat) (a0:List Box):Option (Int×Int×Int×Int) :=
 if decide ((a0.length:Int)>5)=true then
  some (0,0,0,2)
 else
  zbS n a0 n 0 0 0 0
def zcq (n:Nat) (a0:List Int):Option (Bool) :=
 Option.bind (zfN n a0) fun r1 =>
 some (decide (r1<=2))
def zdi (n:Nat) (a0:List Int) (rec1:Int->Option (Bool)) (v2:Int):Option (Bool) :=
 if decide (v2<(a0.length:Int))=true then
  Option.bind (idx a0 v2) fun x4 =>
  if decide (x4<0)=true then
   some false
  else
   rec1 (w64 (v2+1))
 else
  zcq n a0
def zb0 (n:Nat) (a0:List Int):Nat->Int->Option (Bool)
 | 0,_=>none
 | m+1,v2=>zdi n a0 (zb0 n a0 m) v2
def zfq (n:Nat) (a0:List Int):Option (Bool) :=
 zb0 n a0 n 0
def zgH:Option (Bool) :=
 some false
def zfr (a0:Box) (a1:List Int) (rec1:Int->Option (Bool)) (v1:Int):Option (Bool) :=
 if decide (v1<(a1.length:Int))=true then
  Option.bind (idx a1 v1) fun x3 =>
  Option.bind (zhM a0 x3) fun r4 =>
  if r4=true then
   some true
  else
   rec1 (w64 (v1+1))
 else
  zgH
def zdH (a0:Box) (a1:List Int):Nat->Int->Option (Bool)
 | 0,_=>none
 | m+1,v1=>zfr a0 a1 (zdH a0 a1 m) v1
def zke (n:Nat) (a0:Box) (a1:List Int):Option (Bool) :=
 zdH a0 a1 n 0
def zd7 (v5:List (List Int)):Option ((List (List Int))) :=
 some v5
def zcr (rec1:(List (List Int))->Int->Option ((List (List Int)))) (v7:Int) (v9:List (List Int)):Option ((List (List Int))) :=
 rec1 v9 (w64 (v7+1))
def zcs (rec1:(List (List Int))->Int->Option ((List (List Int)))) (v6:List (List Int)) (v7:Int) (v10:List Int) (v11:Bool):Option ((List (List Int))) :=
 if v11=true then
  Option.bind (app v6 ([v10]:List (List Int))) fun l13 =>
  zcr rec1 v7 l13
 else
  zcr rec1 v7 v6
def zct (n:Nat) (rec1:(List (List Int))->Int->Option ((List (List Int)))) (a0:Box) (r4:(List (List Int))) (v6:List (List Int)) (v7:Int) (v10:List Int):Option ((List (List Int))) :=
 Option.bind (zfq n v10) fun r14 =>
 if r14=true then
  Option.bind (idx r4 v7) fun x16 =>
  Option.bind (zke n a0 x16) fun r17 =>
  zcs rec1 v6 v7 v10 r17
 else
  zcs rec1 v6 v7 v10 false
def zdj (n:Nat) (rec1:(List (List Int))->Int->Option ((List (List Int)))) (a0:Box) (r1:(List Int)) (r3:(List (List Int))) (r4:(List (List Int))) (v6:List (List Int)) (v7:Int) (rec2:(List Int)->Int->Option ((List (List Int)))) (v18:List Int) (v19:Int):Option ((List (List Int))) :=
 if decide (v19<(r1.length:Int))=true then
  Option.bind (idx r3 v7) fun x21 =>
  Option.bind (idx x21 v19) fun x22 =>
  Option.bind (idx r1 v19) fun x23 =>
  Option.bind (app v18 ([w64 (x22-x23)]:List Int)) fun l24 =>
  rec2 l24 (w64 (v19+1))
 else
  zct n rec1 a0 r4 v6 v7 v18
def zbu (n:Nat) (rec1:(List (List Int))->Int->Option ((List (List Int)))) (a0:Box) (r1:(List Int)) (r3:(List (List Int))) (r4:(List (List Int))) (v6:List (List Int)) (v7:Int):Nat->(List Int)->Int->Option ((List (List Int)))
 | 0,_,_=>none
 | m+1,v18,v19=>zdj n rec1 a0 r1 r3 r4 v6 v7 (zbu n rec1 a0 r1 r3 r4 v6 v7 m) v18 v19
def zdk (n:Nat) (a0:Box) (r1:(List Int)) (r3:(List (List Int))) (r4:(List (List Int))) (rec1:(List (List Int))->Int->Option ((List (List Int)))) (v6:List (List Int)) (v7:Int):Option ((List (List Int))) :=
 if decide (v7<(r3.length:Int))=true then
  zbu n rec1 a0 r1 r3 r4 v6 v7 n ([]:List Int) 0
 else
  zd7 v6
def zaN (n:Nat) (a0:Box) (r1:(List Int)) (r3:(List (List Int))) (r4:(List (List Int))):Nat->(List (List Int))->Int->Option ((List (List Int)))
 | 0,_,_=>none
 | m+1,v6,v7=>zdk n a0 r1 r3 r4 (zaN n a0 r1 r3 r4 m) v6 v7
def zcX (n:Nat) (a0:Box) (r1:(List Int)) (v2:List Int):Option ((List (List Int))) :=
 Option.bind (zcK n v2 ([]:List Int)) fun r3 =>
 Option.bind (zhO n a0.Wheel v2 r1) fun r4 =>
 zaN n a0 r1 r3 r4 n ([]:List (List Int)) 0
def zdl (n:Nat) (a0:Box) (r1:(List Int)) (rec3:(List Int)->Int->Option ((List (List Int)))) (v25:List Int) (v26:Int):Option ((List (List Int))) :=
 if decide (v26<(r1.length:Int))=true then
  Option.bind (idx r1 v26) fun x28 =>
  Option.bind (app v25 ([w64 (x28+2)]:List Int)) fun l29 =>
  rec3 l29 (w64 (v26+1))
 else
  zcX n a0 r1 v25
def zbv (n:Nat) (a0:Box) (r1:(List Int)):Nat->(List Int)->Int->Option ((List (List Int)))
 | 0,_,_=>none
 | m+1,v25,v26=>zdl n a0 r1 (zbv n a0 r1 m) v25 v26
def zfs (n:Nat) (a0:Box):Option ((List (List Int))) :=
 Option.bind (zii n a0) fun r1 =>
 zbv n a0 r1 n ([]:List Int) 0
def ze3 (v7:Int):Option (Int×Int) :=
 some (v7,0)
def zd8 (n:Nat) (a0:Box) (r3:(List (List Int))) (rec1:Int->Int->Option (Int×Int)) (v8:Int) (v9:Int):Option (Int×Int) :=
 if decide (v9<(r3.length:Int))=true then
  Option.bind (idx r3 v9) fun x11 =>
  Option.bind (zcw n a0.Wheel x11) fun r12 =>
  rec1 (min v8 r12) (w64 (v9+1))
 else
  ze3 v8
def zcy (n:Nat) (a0:Box) (r3:(List (List Int))):Nat->Int->Int->Option (Int×Int)
 | 0,_,_=>none
 | m+1,v8,v9=>zd8 n a0 r3 (zcy n a0 r3 m) v8 v9
def zft (n:Nat) (a0:Box):Option (Int×Int) :=
 Option.bind (zfM n a0) fun r1 =>
 if (r1 != 0)=true then
  some (0,r1)
 else
  Option.bind (zfs n a0) fun r3 =>
  if ((r3.length:Int)==0)=true then
   some (0,3)
  else
   Option.bind (idx r3 0) fun x5 =>
   Option.bind (zcw n a0.Wheel x5) fun r6 =>
   zcy n a0 r3 n r6 0
def zg9 (v2:Int) (v3:Int) (v4:Int):Option (Int×Int×Int×Int) :=
 some (v2,v3,v4,0)
def zgl (rec1:Int->Int->Int->Int->Option (Int×Int×Int×Int)) (v8:Int) (v10:Int) (v11:Int) (v12:Int):Option (Int×Int×Int×Int) :=
 rec1 v10 v11 v12 (w64 (v8+1))
def zf8 (n:Nat) (a0:List Box) (rec1:Int->Int->Int->Int->Option (Int×Int×Int×Int)) (v5:Int) (v6:Int) (v7:Int) (v8:Int):Option (Int×Int×Int×Int) :=
 if decide (v8<(a0.length:Int))=true then
  Option.bind (idx a0 v8) fun x13 =>
  Option.bind (zgK n x13) fun r14 =>
  if (r14.2.2.2 != 0)=true then
   some (0,0,0,r14.2.2.2)
  else
   Option.bind (idx a0 v8) fun x16 =>
   Option.bind (zft n x16) fun r17 =>
   if (r17.2 != 0)=true then
    zgl rec1 v8 (w64 (v5+r14.1)) (w64 (v6+r17.1)) (w64 (v7+1))
   else
    zgl rec1 v8 (w64 (v5+r14.1)) (w64 (v6+r17.1)) v7
 else
  zg9 v5 v6 v7
def zcY (n:Nat) (a0:List Box):Nat->Int->Int->Int->Int->Option (Int×Int×Int×Int)
 | 0,_,_,_,_=>none
 | m+1,v5,v6,v7,v8=>zf8 n a0 (zcY n a0 m) v5 v6 v7 v8
def zhs (n:Nat) (a0:List Box):Option (Int×Int×Int×Int) :=
 if decide ((a0.length:Int)>5)=true then
  some (0,0,0,2)
 else
  zcY n a0 n 0 0 0 0
def zbE (v7:Bool):Option (Bool) :=
 some v7
def zdI (n:Nat) (r5:Int×Int×Int×Int) (r6:Int×Int×Int×Int):Option (Bool) :=
 if (r5.1==r6.1)=true then
  if (r5.2.1==r6.2.1)=true then
   if (r5.2.2.1==r6.2.2.1)=true then
    if (r5.2.2.2==r6.2.2.2)=true then
     Option.bind (zfP n) fun r12 =>
     zbE r12
    else
     zbE false
   else
    zbE false
  else
   zbE false
 else
  zbE false
def zcZ (n:Nat) (a0:List Box) (v4:List Box) (r5:Int×Int×Int×Int) (r6:Int×Int×Int×Int) (rec1:Int->Option (Bool)) (v13:Int):Option (Bool) :=
 if decide (v13<(a0.length:Int))=true then
  Option.bind (idx v4 v13) fun x15 =>
  Option.bind (idx a0 v13) fun x16 =>
  Option.bind (ziG n x15 x16) fun r17 =>
  if (!r17)=true then
   some false
  else
   rec1 (w64 (v13+1))
 else
  zdI n r5 r6
def zbF (n:Nat) (a0:List Box) (v4:List Box) (r5:Int×Int×Int×Int) (r6:Int×Int×Int×Int):Nat->Int->Option (Bool)
 | 0,_=>none
 | m+1,v13=>zcZ n a0 v4 r5 r6 (zbF n a0 v4 r5 r6 m) v13
def zcM (n:Nat) (a0:List Box) (v4:List Box):Option (Bool) :=
 Option.bind (zeo n v4) fun r5 =>
 Option.bind (zhs n a0) fun r6 =>
 zbF n a0 v4 r5 r6 n 0
def zc0 (n:Nat) (a0:List Box) (rec2:(List Box)->Int->Option (Bool)) (v19:List Box) (v20:Int):Option (Bool) :=
 if decide (v20<(a0.length:Int))=true then
  Option.bind (idx a0 v20) fun x22 =>
  Option.bind (zij n x22) fun r23 =>
  if r23=true then
   Option.bind (zfP n) fun r25 =>
   some r25
  else
   Option.bind (idx a0 v20) fun x26 =>
   Option.bind (ziF x26) fun r27 =>
   Option.bind (app v19 ([r27]:List Box)) fun l28 =>
   rec2 l28 (w64 (v20+1))
 else
  zcM n a0 v19
def zbG (n:Nat) (a0:List Box):Nat->(List Box)->Int->Option (Bool)
 | 0,_,_=>none
 | m+1,v19,v20=>zc0 n a0 (zbG n a0 m) v19 v20
def zbc (n:Nat) (a0:List Box) (v1:Bool):Option (Bool) :=
 if v1=true then
  Option.bind (zfP n) fun r3 =>
  some r3
 else
  zbG n a0 n ([]:List Box) 0
def zgy (n:Nat) (a0:List Box):Option (Bool) :=
 if decide ((a0.length:Int)>40)=true then
  zbc n a0 true
 else
  if decide ((a0.length:Int)>3)=true then
   zbc n a0 (decide ((a0.length:Int)<=5))
  else
   zbc n a0 false
end Go.Law
