/-
  What the functions compute (printed by gen.py).
  Conditions: none.
-/
import Derived.Test.YtenogpmlhpcibaaAmN
set_option linter.all false
namespace Go.Law
open Go Go.AM
set_option linter.unusedVariables false
structure Wheel where
 Round:Int
 Notches:List Int
 Coins:List Int
 deriving DecidableEq,Inhabited,Repr
abbrev Wheel.cells (x:Wheel):List AV:=[.v (.int .i64 x.Round),.sl .no 1 (x.Notches.map cI),.sl .no 1 (x.Coins.map cI)]
structure Box where
 Wheel:Wheel
 Found:List Int
 Marked:List Int
 Slugs:List Int
 Plays:Int
 Skips:Int
 deriving DecidableEq,Inhabited,Repr
abbrev Box.cells (x:Box):List AV:=[.v (.int .i64 x.Wheel.Round),.sl .no 1 (x.Wheel.Notches.map cI),.sl .no 1 (x.Wheel.Coins.map cI),.sl .no 1 (x.Found.map cI),.sl .no 1 (x.Marked.map cI),.sl .no 1 (x.Slugs.map cI),.v (.int .i64 x.Plays),.v (.int .i64 x.Skips)]
structure Box_ where
 Box:Box
 deriving DecidableEq,Inhabited,Repr
abbrev Box_.cells (x:Box_):List AV:=[.v (.int .i64 x.Box.Wheel.Round),.sl .no 1 (x.Box.Wheel.Notches.map cI),.sl .no 1 (x.Box.Wheel.Coins.map cI),.sl .no 1 (x.Box.Found.map cI),.sl .no 1 (x.Box.Marked.map cI),.sl .no 1 (x.Box.Slugs.map cI),.v (.int .i64 x.Box.Plays),.v (.int .i64 x.Box.Skips)]
structure Bag_ where
 c0:Int
 c1:Int
 c2:Int
 c3:Int
 deriving DecidableEq,Inhabited,Repr
abbrev Bag_.cells (x:Bag_):List AV:=[.v (.int .i64 x.c0),.v (.int .i64 x.c1),.v (.int .i64 x.c2),.v (.int .i64 x.c3)]
structure Wheel_ where
 Wheel:Wheel
 deriving DecidableEq,Inhabited,Repr
abbrev Wheel_.cells (x:Wheel_):List AV:=[.v (.int .i64 x.Wheel.Round),.sl .no 1 (x.Wheel.Notches.map cI),.sl .no 1 (x.Wheel.Coins.map cI)]
structure Stand where
 Place:Int
 Credit:Int
 deriving DecidableEq,Inhabited,Repr
abbrev Stand.cells (x:Stand):List AV:=[.v (.int .i64 x.Place),.v (.int .i64 x.Credit)]
structure Gap_ where
 purse:List Int
 acts:List Int
 deriving DecidableEq,Inhabited,Repr
abbrev Gap_.cells (x:Gap_):List AV:=[.sl .no 1 (x.purse.map cI),.sl .no 1 (x.acts.map cI)]
structure SpotR_ where
 stand:Stand
 bought:Int
 deriving DecidableEq,Inhabited,Repr
abbrev SpotR_.cells (x:SpotR_):List AV:=[.v (.int .i64 x.stand.Place),.v (.int .i64 x.stand.Credit),.v (.int .i64 x.bought)]
structure Spot_ where
 left:Bag_
 place:Int
 credit:Int
 deriving DecidableEq,Inhabited,Repr
abbrev Spot_.cells (x:Spot_):List AV:=[.v (.int .i64 x.left.c0),.v (.int .i64 x.left.c1),.v (.int .i64 x.left.c2),.v (.int .i64 x.left.c3),.v (.int .i64 x.place),.v (.int .i64 x.credit)]
structure Clause where
 Kind:Int
 Cents:Int
 Part:Int
 More:Int
 deriving DecidableEq,Inhabited,Repr
abbrev Clause.cells (x:Clause):List AV:=[.v (.int .i64 x.Kind),.v (.int .i64 x.Cents),.v (.int .i64 x.Part),.v (.int .i64 x.More)]
structure Share where
 Clauses:List Clause
 Loan:Int
 deriving DecidableEq,Inhabited,Repr
abbrev Share.cells (x:Share):List AV:=[.sl .no 4 (x.Clauses.map Clause.cells),.v (.int .i64 x.Loan)]
structure Split where
 Operator:Int
 Owner:Int
 Repaid:Int
 deriving DecidableEq,Inhabited,Repr
abbrev Split.cells (x:Split):List AV:=[.v (.int .i64 x.Operator),.v (.int .i64 x.Owner),.v (.int .i64 x.Repaid)]
structure Week_ where
 Split:Split
 rest:Int
 owed:Int
 deriving DecidableEq,Inhabited,Repr
abbrev Week_.cells (x:Week_):List AV:=[.v (.int .i64 x.Split.Operator),.v (.int .i64 x.Split.Owner),.v (.int .i64 x.Split.Repaid),.v (.int .i64 x.rest),.v (.int .i64 x.owed)]
structure Point_ where
 Stand:Stand
 bought:Int
 deriving DecidableEq,Inhabited,Repr
abbrev Point_.cells (x:Point_):List AV:=[.v (.int .i64 x.Stand.Place),.v (.int .i64 x.Stand.Credit),.v (.int .i64 x.bought)]
structure WearRecord where
 Worn:Int
 Limit:Int
 Price:Int
 Plays:List Int
 deriving DecidableEq,Inhabited,Repr
abbrev WearRecord.cells (x:WearRecord):List AV:=[.v (.int .i64 x.Worn),.v (.int .i64 x.Limit),.v (.int .i64 x.Price),.sl .no 1 (x.Plays.map cI)]
structure Wear where
 Weeks:Int
 Price:Int
 Age:Int
 Step:Int
 Rough:List Int
 Records:List WearRecord
 deriving DecidableEq,Inhabited,Repr
abbrev Wear.cells (x:Wear):List AV:=[.v (.int .i64 x.Weeks),.v (.int .i64 x.Price),.v (.int .i64 x.Age),.v (.int .i64 x.Step),.sl .no 1 (x.Rough.map cI),.sl .no 4 (x.Records.map WearRecord.cells)]
structure WearWeek where
 Needle:Int
 Records:List Int
 deriving DecidableEq,Inhabited,Repr
abbrev WearWeek.cells (x:WearWeek):List AV:=[.v (.int .i64 x.Needle),.sl .no 1 (x.Records.map cI)]
structure BoxW_ where
 Wear:Wear
 deriving DecidableEq,Inhabited,Repr
abbrev BoxW_.cells (x:BoxW_):List AV:=[.v (.int .i64 x.Wear.Weeks),.v (.int .i64 x.Wear.Price),.v (.int .i64 x.Wear.Age),.v (.int .i64 x.Wear.Step),.sl .no 1 (x.Wear.Rough.map cI),.sl .no 4 (x.Wear.Records.map WearRecord.cells)]
structure PointT_ where
 Stand:Stand
 in_:Bag_
 bought:Int
 deriving DecidableEq,Inhabited,Repr
abbrev PointT_.cells (x:PointT_):List AV:=[.v (.int .i64 x.Stand.Place),.v (.int .i64 x.Stand.Credit),.v (.int .i64 x.in_.c0),.v (.int .i64 x.in_.c1),.v (.int .i64 x.in_.c2),.v (.int .i64 x.in_.c3),.v (.int .i64 x.bought)]
def zg7 (x:Spot_):Bool:=([x.left.c0,x.left.c1,x.left.c2,x.left.c3,x.place,x.credit]:List Int).all okI
def zan (x:Spot_):Value:=.agg (([x.left.c0,x.left.c1,x.left.c2,x.left.c3,x.place,x.credit]:List Int).map kvI).toArray
def zbG (x:PointT_):Bool:=([x.Stand.Place,x.Stand.Credit,x.in_.c0,x.in_.c1,x.in_.c2,x.in_.c3,x.bought]:List Int).all okI
def zad (x:PointT_):Value:=.agg (([x.Stand.Place,x.Stand.Credit,x.in_.c0,x.in_.c1,x.in_.c2,x.in_.c3,x.bought]:List Int).map kvI).toArray
def zlV (a0:Int) (a1:Int):Option (Bool) :=
 some (decide (a0<a1))
def zlW (a0:Int) (a1:Int):Option (Bool) :=
 some (decide (a0>a1))
def zhB (b:Bool) (x y:Int):Option Bool:=cond b (zlW x y) (zlV x y)
def zfI (v1:List Int):Option ((List Int)) :=
 some v1
def zeG (a0:List Int) (a1:List Int) (rec1:(List Int)->Int->Option ((List Int))) (v2:List Int) (v3:Int):Option ((List Int)) :=
 if decide (v3<(a0.length:Int))=true then
  Option.bind (idx a0 v3) fun x5 =>
  Option.bind (idx a1 v3) fun x6 =>
  Option.bind (app v2 ([w64 (x5+x6)]:List Int)) fun l7 =>
  rec1 l7 (w64 (v3+1))
 else
  zfI v2
def zdb (a0:List Int) (a1:List Int):Nat->(List Int)->Int->Option ((List Int))
 | 0,_,_=>none
 | m+1,v2,v3=>zeG a0 a1 (zdb a0 a1 m) v2 v3
def zhT (n:Nat) (a0:List Int) (a1:List Int):Option ((List Int)) :=
 zdb a0 a1 n ([]:List Int) 0
def ziI (n:Nat) (a0:Box):Option ((List Int)) :=
 Option.bind (zhT n a0.Found a0.Slugs) fun r1 =>
 some r1
def zdK (v1:Bool):Option (Bool) :=
 some v1
def zc9 (a0:Int) (a1:Int) (a2:Int):Option (Bool) :=
 if decide (a0≥a1)=true then
  zdK (decide (a0<=a2))
 else
  zdK false
def zeH:Option (Bool) :=
 some true
def zcn (rec1:Int->Option (Bool)) (v1:Int) (v3:Bool):Option (Bool) :=
 if v3=true then
  some false
 else
  rec1 (w64 (v1+1))
def zdT (a0:List Int) (a1:Int) (a2:Int) (rec1:Int->Option (Bool)) (v1:Int):Option (Bool) :=
 if decide (v1<(a0.length:Int))=true then
  Option.bind (idx a0 v1) fun x5 =>
  Option.bind (zc9 x5 a1 a2) fun r6 =>
  if (!r6)=true then
   zcn rec1 v1 true
  else
   if decide (v1>0)=true then
    Option.bind (idx a0 v1) fun x9 =>
    Option.bind (idx a0 (w64 (v1-1))) fun x10 =>
    zcn rec1 v1 (decide (x9<=x10))
   else
    zcn rec1 v1 false
 else
  zeH
def zbO (a0:List Int) (a1:Int) (a2:Int):Nat->Int->Option (Bool)
 | 0,_=>none
 | m+1,v1=>zdT a0 a1 a2 (zbO a0 a1 a2 m) v1
def zgl (n:Nat) (a0:List Int) (a1:Int) (a2:Int):Option (Bool) :=
 zbO a0 a1 a2 n 0
def zcC (v1:Bool):Option (Int) :=
 if v1=true then
  some 10
 else
  some 0
def zfZ (n:Nat) (a0:Wheel):Option (Int) :=
 Option.bind (zc9 a0.Round 1 200) fun r3 =>
 if (!r3)=true then
  zcC true
 else
  if decide ((a0.Notches.length:Int)>12)=true then
   zcC true
  else
   Option.bind (zgl n a0.Notches 1 a0.Round) fun r6 =>
   if (!r6)=true then
    zcC true
   else
    if decide ((a0.Coins.length:Int)>4)=true then
     zcC true
    else
     Option.bind (zgl n a0.Coins 1 100) fun r9 =>
     zcC (!r9)
def zee (v2:Int):Option (Bool) :=
 some (decide (v2<=12))
def zdy (a1:List Int) (rec1:Int->Int->Option (Bool)) (v3:Int) (v4:Int):Option (Bool) :=
 if decide (v4<(a1.length:Int))=true then
  Option.bind (idx a1 v4) fun x6 =>
  Option.bind (zc9 x6 0 12) fun r7 =>
  if (!r7)=true then
   some false
  else
   Option.bind (idx a1 v4) fun x9 =>
   rec1 (w64 (v3+x9)) (w64 (v4+1))
 else
  zee v3
def zb2 (a1:List Int):Nat->Int->Int->Option (Bool)
 | 0,_,_=>none
 | m+1,v3,v4=>zdy a1 (zb2 a1 m) v3 v4
def zdU (n:Nat) (a0:Wheel) (a1:List Int):Option (Bool) :=
 if ((a1.length:Int) != (a0.Coins.length:Int))=true then
  some false
 else
  zb2 a1 n 0 0
def zeu (a0:Int) (a1:Int) (a2:Int):Option (Bool) :=
 Option.bind (zc9 a0 a1 a2) fun r1 =>
 some r1
def zd6 (n:Nat) (a0:Box):Option (Int) :=
 Option.bind (zhT n a0.Found a0.Slugs) fun r3 =>
 Option.bind (zdU n a0.Wheel r3) fun r4 =>
 if (!r4)=true then
  some 50
 else
  some 0
def zef (n:Nat) (a0:Box) (rec1:Int->Option (Int)) (v6:Int):Option (Int) :=
 if decide (v6<(a0.Found.length:Int))=true then
  Option.bind (idx a0.Marked v6) fun x8 =>
  Option.bind (idx a0.Found v6) fun x9 =>
  Option.bind (zeu x8 0 x9) fun r10 =>
  if (!r10)=true then
   some 50
  else
   rec1 (w64 (v6+1))
 else
  zd6 n a0
def zcg (n:Nat) (a0:Box):Nat->Int->Option (Int)
 | 0,_=>none
 | m+1,v6=>zef n a0 (zcg n a0 m) v6
def zch (n:Nat) (a0:Box) (v1:Bool):Option (Int) :=
 if v1=true then
  some 50
 else
  zcg n a0 n 0
def zf0 (n:Nat) (a0:Box):Option (Int) :=
 Option.bind (zfZ n a0.Wheel) fun r12 =>
 if (r12 != 0)=true then
  zch n a0 true
 else
  Option.bind (zdU n a0.Wheel a0.Found) fun r14 =>
  if (!r14)=true then
   zch n a0 true
  else
   Option.bind (zdU n a0.Wheel a0.Slugs) fun r16 =>
   if (!r16)=true then
    zch n a0 true
   else
    if ((a0.Marked.length:Int) != (a0.Found.length:Int))=true then
     zch n a0 true
    else
     Option.bind (zeu a0.Plays 0 9999) fun r19 =>
     if (!r19)=true then
      zch n a0 true
     else
      Option.bind (zeu a0.Skips 0 9) fun r21 =>
      zch n a0 (!r21)
def ze8 (v1:Int):Option (Int) :=
 some v1
def zeg (a0:List Int) (rec1:Int->Int->Option (Int)) (v2:Int) (v3:Int):Option (Int) :=
 if decide (v3<(a0.length:Int))=true then
  Option.bind (idx a0 v3) fun x5 =>
  rec1 (w64 (v2+x5)) (w64 (v3+1))
 else
  ze8 v2
def zcX (a0:List Int):Nat->Int->Int->Option (Int)
 | 0,_,_=>none
 | m+1,v2,v3=>zeg a0 (zcX a0 m) v2 v3
def zg8 (n:Nat) (a0:List Int):Option (Int) :=
 zcX a0 n 0 0
def zev (v2:Bool):Option (Bool) :=
 some v2
def zhC (n:Nat) (a0:Box):Option (Bool) :=
 if decide ((max (max (max (max (a0.Wheel.Notches.length:Int) (a0.Wheel.Coins.length:Int)) (a0.Found.length:Int)) (a0.Marked.length:Int)) (a0.Slugs.length:Int))>40)=true then
  some true
 else
  Option.bind (zf0 n a0) fun r3 =>
  if (r3==0)=true then
   Option.bind (ziI n a0) fun r5 =>
   Option.bind (zg8 n r5) fun r6 =>
   if decide (r6>3)=true then
    zev true
   else
    zev (decide ((a0.Found.length:Int)>3))
  else
   zev false
def ze9 (v1:Bool):Option (Bool) :=
 some v1
def zf1 (n:Nat) (a0:Box):Option (Bool) :=
 Option.bind (zhC n a0) fun r2 =>
 if (!r2)=true then
  Option.bind (zf0 n a0) fun r4 =>
  ze9 (r4==0)
 else
  ze9 false
def zdL (v1:Bool):Option (Bool) :=
 some v1
def zcQ (a0:Int) (a1:Int) (a2:Int):Option (Bool) :=
 if decide (a1<=a0)=true then
  zdL (decide (a0<=a2))
 else
  zdL false
def zeI (a0:List Int) (a1:Int):Option (Bool) :=
 some (decide ((a0.length:Int)<=a1))
def zco (rec1:Int->Option (Bool)) (v1:Int) (v4:Bool):Option (Bool) :=
 if v4=true then
  some false
 else
  rec1 (w64 (v1+1))
def zdV (a0:List Int) (a1:Int) (a2:Int) (rec1:Int->Option (Bool)) (v1:Int):Option (Bool) :=
 if decide (v1<(a0.length:Int))=true then
  Option.bind (idx a0 v1) fun x3 =>
  Option.bind (zcQ x3 1 a2) fun r6 =>
  if (!r6)=true then
   zco rec1 v1 true
  else
   if decide (v1>0)=true then
    Option.bind (idx a0 (w64 (v1-1))) fun x9 =>
    zco rec1 v1 (decide (x3<=x9))
   else
    zco rec1 v1 false
 else
  zeI a0 a1
def zbP (a0:List Int) (a1:Int) (a2:Int):Nat->Int->Option (Bool)
 | 0,_=>none
 | m+1,v1=>zdV a0 a1 a2 (zbP a0 a1 a2 m) v1
def zgm (n:Nat) (a0:List Int) (a1:Int) (a2:Int):Option (Bool) :=
 zbP a0 a1 a2 n 0
def zdt (v1:Bool):Option (Int) :=
 if v1=true then
  some 10
 else
  some 0
def zf2 (n:Nat) (a0:Wheel):Option (Int) :=
 Option.bind (zcQ a0.Round 1 200) fun r3 =>
 if (!r3)=true then
  zdt true
 else
  Option.bind (zgm n a0.Notches 12 a0.Round) fun r5 =>
  if (!r5)=true then
   zdt true
  else
   Option.bind (zgm n a0.Coins 4 100) fun r7 =>
   zdt (!r7)
def zc3 (v1:Bool):Option (Bool) :=
 some v1
def zcY (a0:Int) (a1:Int) (a2:Int):Option (Bool) :=
 if decide (a1<=a0)=true then
  zc3 (decide (a0<=a2))
 else
  zc3 false
def zbQ {S:Type} (v1:S):Option (Int×S) :=
 some ((-1),v1)
def zbb {S:Type} (a0:List Int) (aF:Int->S->Option (Bool×S)) (rec1:Int->S->Option (Int×S)) (v3:Int) (v4:S):Option (Int×S) :=
 if decide (v3<(a0.length:Int))=true then
  Option.bind (idx a0 v3) fun x6 =>
  Option.bind (aF x6 v4) fun r7 =>
  if r7.1=true then
   some (v3,r7.2)
  else
   rec1 (w64 (v3+1)) r7.2
 else
  zbQ v4
def zas {S:Type} (a0:List Int) (aF:Int->S->Option (Bool×S)):Nat->Int->S->Option (Int×S)
 | 0,_,_=>none
 | m+1,v3,v4=>zbb a0 aF (zas a0 aF m) v3 v4
def zc0 {S:Type} (n:Nat) (aF:Int->S->Option (Bool×S)) (a0:List Int) (st:S):Option (Int×S) :=
 zas a0 aF n 0 st
def zbr {S:Type} (n:Nat) (aF:Int->S->Option (Bool×S)) (a0:List Int) (st:S):Option (Bool×S) :=
 Option.bind (zc0 n aF a0 st) fun r1 =>
 some (decide (r1.1≥0),r1.2)
def zdj (a0:Int):Option (Bool) :=
 Option.bind (zcY a0 0 12) fun r1 =>
 some (!r1)
def zeh (v3:Int):Option (Int) :=
 if decide (v3>12)=true then
  some 50
 else
  some 0
def zdz (a0:Box) (rec1:Int->Int->Option (Int)) (v5:Int) (v6:Int):Option (Int) :=
 if decide (v6<(a0.Found.length:Int))=true then
  Option.bind (idx a0.Found v6) fun x8 =>
  Option.bind (idx a0.Marked v6) fun x9 =>
  if decide (x9>x8)=true then
   some 50
  else
   Option.bind (idx a0.Slugs v6) fun x11 =>
   rec1 (w64 (v5+(w64 (x8+x11)))) (w64 (v6+1))
 else
  zeh v5
def zbB (a0:Box):Nat->Int->Int->Option (Int)
 | 0,_,_=>none
 | m+1,v5,v6=>zdz a0 (zbB a0 m) v5 v6
def zfE (n:Nat) (a0:Box):Option (Int) :=
 zbB a0 n 0 0
def zdk (rec2:Int->Option (Int)) (v12:Int) (v15:Bool):Option (Int) :=
 if v15=true then
  some 50
 else
  rec2 (w64 (v12+1))
def zeJ (n:Nat) (a0:Box) (rec2:Int->Option (Int)) (v12:Int):Option (Int) :=
 if decide (v12<3)=true then
  Option.bind (idx ([a0.Found,a0.Marked,a0.Slugs]:List (List Int)) v12) fun x14 =>
  if ((x14.length:Int) != (a0.Wheel.Coins.length:Int))=true then
   zdk rec2 v12 true
  else
   Option.bind (zbr n (fun (x0:Int) (_:Unit)=>(zdj x0).map fun y=>(y,())) x14 ()) fun r18 =>
   zdk rec2 v12 r18.1
 else
  zfE n a0
def zaQ (n:Nat) (a0:Box):Nat->Int->Option (Int)
 | 0,_=>none
 | m+1,v12=>zeJ n a0 (zaQ n a0 m) v12
def zcM (n:Nat) (a0:Box) (v1:Bool):Option (Int) :=
 if v1=true then
  some 50
 else
  zaQ n a0 n 0
def zfJ (n:Nat) (a0:Box):Option (Int) :=
 Option.bind (zf2 n a0.Wheel) fun r19 =>
 if (r19 != 0)=true then
  zcM n a0 true
 else
  Option.bind (zcY a0.Plays 0 9999) fun r21 =>
  if (!r21)=true then
   zcM n a0 true
  else
   Option.bind (zcY a0.Skips 0 9) fun r23 =>
   zcM n a0 (!r23)
def zdM (n:Nat) (a0:Box):Option ((Option Box_)×Int) :=
 Option.bind (zfJ n a0) fun r1 =>
 if (r1 != 0)=true then
  some ((none:Option Box_),r1)
 else
  some ((some (⟨a0⟩:Box_)),0)
structure Step_ where
 act:Int
 from_:PointT_
 deriving DecidableEq,Inhabited,Repr
abbrev Step_.cells (x:Step_):List AV:=[.v (.int .i64 x.act),.v (.int .i64 x.from_.Stand.Place),.v (.int .i64 x.from_.Stand.Credit),.v (.int .i64 x.from_.in_.c0),.v (.int .i64 x.from_.in_.c1),.v (.int .i64 x.from_.in_.c2),.v (.int .i64 x.from_.in_.c3),.v (.int .i64 x.from_.bought)]
def zao (x:Step_):Value:=.agg (([x.act,x.from_.Stand.Place,x.from_.Stand.Credit,x.from_.in_.c0,x.from_.in_.c1,x.from_.in_.c2,x.from_.in_.c3,x.from_.bought]:List Int).map kvI).toArray
abbrev zaN:PointT_:=⟨⟨0,0⟩,⟨0,0,0,0⟩,0⟩
abbrev za7:Step_:=⟨0,zaN⟩
def zlx (x y:Bag_):Bool:=(x.c0==y.c0)&&((x.c1==y.c1)&&((x.c2==y.c2)&&((x.c3==y.c3)&&true)))
def zeY (p o:PointT_):Bool:=decide (p.Stand.Place<o.Stand.Place) || ((p.Stand.Place==o.Stand.Place)&&decide (p.Stand.Credit<o.Stand.Credit))
def zkM (al:Bag_) (E:List (Int×PointT_)) (p:PointT_):Bool:=zlx p.in_ al&&(!zbv E p.bought || zeY p (zg0 zaN E p.bought))
def za8 (al:Bag_) (E:List (Int×PointT_)) (p:PointT_):List (Int×PointT_):=if zkM al E p=true then zgh E p.bought p else E
def zew (al:Bag_) (M:List (PointT_×Step_)):List (Int×PointT_):=(M.map (·.1)).foldl (za8 al) []
def ziJ (M:List (PointT_×Step_)):Bool:=M.all (fun p=>okI p.1.bought)&&decide (M.length<=1048576)
def zdc (v1:Int):Option (Int) :=
 some v1
def zcR (a0:Bag_) (rec1:Int->Int->Option (Int)) (v2:Int) (v3:Int):Option (Int) :=
 if decide (v3<4)=true then
  Option.bind (idx ([a0.c0,a0.c1,a0.c2,a0.c3]:List Int) v3) fun x5 =>
  rec1 (w64 (v2+x5)) (w64 (v3+1))
 else
  zdc v2
def zbl (a0:Bag_):Nat->Int->Int->Option (Int)
 | 0,_,_=>none
 | m+1,v2,v3=>zcR a0 (zbl a0 m) v2 v3
def zdl (n:Nat) (a0:Bag_):Option (Int) :=
 zbl a0 n 0 0
abbrev ziK:=List (PointT_×Step_)×List PointT_
abbrev zd7 (y:PointT_) (c:Int):PointT_:=⟨⟨y.Stand.Place,min y.Stand.Credit c⟩,y.in_,y.bought⟩
def zel (n:Nat) (al:Bag_) (x:PointT_) (act:Int) (y:PointT_) (S:ziK):Option ziK :=
 Option.bind (zdl n al) fun r1 =>
 Option.bind (zdl n y.in_) fun r2 =>
 Option.bind (zgI zbG za7 S.1 (zd7 y (w64 (r1-r2)))) fun u =>
 if zbv S.1 (zd7 y (w64 (r1-r2)))=true then some S
 else
  Option.bind (zhA zbG S.1 (zd7 y (w64 (r1-r2))) ⟨act,x⟩) fun m =>
  if S.2.length+1<=1048576 then some (m,S.2++[zd7 y (w64 (r1-r2))]) else none
def zeZ {S:Type} (n:Nat) (aF:Wheel_->S->Option (Bool×S)) (a0:Wheel) (st:S):Option ((Wheel_×Int)×S) :=
 Option.bind (zf2 n a0) fun r1 =>
 if (r1 != 0)=true then
  some (((⟨(⟨0,([]:List Int),([]:List Int)⟩:Wheel)⟩:Wheel_),r1),st)
 else
  Option.bind (aF (⟨a0⟩:Wheel_) st) fun r3 =>
  if (!r3.1)=true then
   some (((⟨(⟨0,([]:List Int),([]:List Int)⟩:Wheel)⟩:Wheel_),1),r3.2)
  else
   some (((⟨a0⟩:Wheel_),0),r3.2)
def zdd (a0:Wheel_) (a1:Int) (a2:Int) (v1:Int):Option (Int×Int) :=
 Option.bind (rem (w64 (a1+a2)) a0.Wheel.Round) fun q2 =>
 some (q2,v1)
def zcS (a0:Wheel_) (a1:Int) (a2:Int) (rec1:Int->Int->Option (Int×Int)) (v3:Int) (v4:Int):Option (Int×Int) :=
 if decide (v4<(a0.Wheel.Notches.length:Int))=true then
  Option.bind (idx a0.Wheel.Notches v4) fun x6 =>
  Option.bind (quo (w64 ((w64 ((w64 (a1+a2))-x6))+a0.Wheel.Round)) a0.Wheel.Round) fun q7 =>
  Option.bind (quo (w64 ((w64 (a1-x6))+a0.Wheel.Round)) a0.Wheel.Round) fun q8 =>
  rec1 (w64 (v3+(w64 (q7-q8)))) (w64 (v4+1))
 else
  zdd a0 a1 a2 v3
def zbm (a0:Wheel_) (a1:Int) (a2:Int):Nat->Int->Int->Option (Int×Int)
 | 0,_,_=>none
 | m+1,v3,v4=>zcS a0 a1 a2 (zbm a0 a1 a2 m) v3 v4
def zdm (n:Nat) (a0:Wheel_) (a1:Int) (a2:Int):Option (Int×Int) :=
 zbm a0 a1 a2 n 0 0
def zeK (n:Nat) (a0:Wheel_) (a1:Stand) (a2:Int):Option (Stand) :=
 if (a2 != (-1))=true then
  Option.bind (idx a0.Wheel.Coins a2) fun x2 =>
  Option.bind (zdm n a0 a1.Place x2) fun r3 =>
  some (⟨r3.1,w64 (a1.Credit+r3.2)⟩:Stand)
 else
  if decide (a1.Credit>0)=true then
   some (⟨0,w64 (a1.Credit-1)⟩:Stand)
  else
   some a1
def zde (a0:Wheel_) (a1:Int):Option (Bool) :=
 Option.bind (zcQ a1 0 (w64 (a0.Wheel.Round-1))) fun r1 =>
 some r1
def zcw {S:Type} (aF:Int->S->Option (Bool×S)) (a0:Int) (st:S):Option (Bool×S) :=
 Option.bind (aF a0 st) fun r1 =>
 some ((!r1.1),r1.2)
def zdn {S:Type} (v1:Bool) (v2:S):Option (Bool×S) :=
 some (v1,v2)
def zfK {S:Type} (n:Nat) (aF:Int->S->Option (Bool×S)) (a0:List Int) (st:S):Option (Bool×S) :=
 if decide ((a0.length:Int)<=20)=true then
  Option.bind (zbr n (zcw aF) a0 st) fun r4 =>
  zdn (!r4.1) r4.2
 else
  zdn false st
def zdA (a0:Wheel_) (a1:Int):Option (Bool) :=
 Option.bind (zcQ a1 0 (w64 ((a0.Wheel.Coins.length:Int)-1))) fun r1 =>
 some r1
def zcx (v1:Bool):Option (Bool) :=
 some v1
def zcE (a0:Wheel_) (a1:Int):Option (Bool) :=
 if (a1==(-1))=true then
  zcx true
 else
  Option.bind (zdA a0 a1) fun r3 =>
  zcx r3
def zc4 (v1:Bool):Option (Bool) :=
 some v1
def zfn (n:Nat) (a0:Wheel_) (a1:Stand) (a2:List Int):Option (Bool) :=
 Option.bind (zde a0 a1.Place) fun r2 =>
 if r2=true then
  Option.bind (zcQ a1.Credit 0 20) fun r4 =>
  if r4=true then
   Option.bind (zfK n (fun (x0:Int) (_:Unit)=>(zcE a0 x0).map fun y=>(y,())) a2 ()) fun r6 =>
   zc4 r6.1
  else
   zc4 false
 else
  zc4 false
def zgn (v3:Int) (v4:Int) (v5:Int):Option (Stand×Int×Int) :=
 some ((⟨v4,v5⟩:Stand),v3,0)
def zfo (n:Nat) (rec1:Int->Int->Int->Int->Option (Stand×Int×Int)) (r1:(Wheel_×Int)×Unit) (v9:Int) (v10:Int) (v11:Int) (x13:Int) (v14:Int):Option (Stand×Int×Int) :=
 Option.bind (zeK n r1.1.1 (⟨v10,v11⟩:Stand) x13) fun r15 =>
 rec1 v14 (w64 (v9+1)) r15.Place r15.Credit
def zex (n:Nat) (rec1:Int->Int->Int->Int->Option (Stand×Int×Int)) (r1:(Wheel_×Int)×Unit) (v8:Int) (v9:Int) (v10:Int) (v11:Int) (x13:Int) (v16:Bool):Option (Stand×Int×Int) :=
 if v16=true then
  zfo n rec1 r1 v9 v10 v11 x13 (w64 (v8+1))
 else
  zfo n rec1 r1 v9 v10 v11 x13 v8
def zfa (n:Nat) (a2:List Int) (r1:(Wheel_×Int)×Unit) (rec1:Int->Int->Int->Int->Option (Stand×Int×Int)) (v8:Int) (v9:Int) (v10:Int) (v11:Int):Option (Stand×Int×Int) :=
 if decide (v9<(a2.length:Int))=true then
  Option.bind (idx a2 v9) fun x13 =>
  if (x13==(-1))=true then
   zex n rec1 r1 v8 v9 v10 v11 x13 (decide (v11>0))
  else
   zex n rec1 r1 v8 v9 v10 v11 x13 false
 else
  zgn v8 v10 v11
def zbH (n:Nat) (a2:List Int) (r1:(Wheel_×Int)×Unit):Nat->Int->Int->Int->Int->Option (Stand×Int×Int)
 | 0,_,_,_,_=>none
 | m+1,v8,v9,v10,v11=>zfa n a2 r1 (zbH n a2 r1 m) v8 v9 v10 v11
def zeL (n:Nat) (a0:Wheel) (a1:Stand) (a2:List Int):Option (Stand×Int×Int) :=
 Option.bind (zeZ n (fun (x0:Wheel_) (_:Unit)=>(zfn n x0 a1 a2).map fun y=>(y,())) a0 ()) fun r1 =>
 if (r1.1.2 != 0)=true then
  some ((⟨0,0⟩:Stand),0,r1.1.2)
 else
  zbH n a2 r1 n 0 0 a1.Place a1.Credit
def zby (n:Nat) (b:Box_) (al:Bag_) (x:PointT_):Nat->Int->ziK->Option ziK
 | 0,_,_=>none
 | m+1,k,S =>
  if decide (k<(b.Box.Wheel.Coins.length:Int))=true then
   Option.bind (idx ([x.in_.c0,x.in_.c1,x.in_.c2,x.in_.c3]:List Int) k) fun e1 =>
   Option.bind (idx ([al.c0,al.c1,al.c2,al.c3]:List Int) k) fun e2 =>
   if (e1==e2)=true then zby n b al x m (w64 (k+1)) S
   else
    Option.bind (zeL n b.Box.Wheel ⟨x.Stand.Place,0⟩ [k]) fun r =>
    Option.bind (zqm ([x.in_.c0,x.in_.c1,x.in_.c2,x.in_.c3]:List Int) k (w64 (e1+1))) fun u =>
    Option.bind (zel n al x k ⟨⟨r.1.Place,w64 (x.Stand.Credit+r.1.Credit)⟩,⟨u.getD 0 0,u.getD 1 0,u.getD 2 0,u.getD 3 0⟩,w64 (x.bought+r.1.Credit)⟩ S) fun S2 =>
    zby n b al x m (w64 (k+1)) S2
  else some S
def zfb (n:Nat) (b:Box_) (al:Bag_) (x:PointT_) (S:ziK):Option ziK :=
 if decide (x.Stand.Credit>0)=true then
  if decide (x.Stand.Place>0)=true then
   Option.bind (zeL n b.Box.Wheel ⟨x.Stand.Place,1⟩ [-1]) fun r =>
   zel n al x (-1) ⟨⟨r.1.Place,w64 (x.Stand.Credit-1)⟩,x.in_,x.bought⟩ S
  else some S
 else some S
def zdu (n:Nat) (b:Box_) (al:Bag_):Nat->ziK->Option (List (PointT_×Step_))
 | 0,_=>none
 | m+1,S=>match S.2 with
  | []=>some S.1
  | x::q =>
   Option.bind (zfb n b al x (S.1,q)) fun S1 =>
   Option.bind (zby n b al x n 0 S1) fun S2 =>
   zdu n b al m S2
def zdo (n:Nat) (a0:Option Box_) (al:Bag_):Option (List (PointT_×Step_)) :=
 Option.bind a0 fun b=>zdu n b al n ([(zaN,⟨-2,zaN⟩)],[zaN])
def zdB (v1:Int) (v2:Int) (v3:Int) (v4:Int):Option (Bag_) :=
 some (⟨v1,v2,v3,v4⟩:Bag_)
def zc1 (a0:Option Box_) (x5:Box_) (rec1:Int->Int->Int->Int->Int->Option (Bag_)) (v7:Int) (v8:Int) (v9:Int) (v10:Int) (v11:Int):Option (Bag_) :=
 if decide (v7<(x5.Box.Found.length:Int))=true then
  Option.bind (idx x5.Box.Found v7) fun x13 =>
  Option.bind (a0) fun x14 =>
  Option.bind (idx x14.Box.Slugs v7) fun x15 =>
  Option.bind (idx ([v8,v9,v10,v11]:List Int) v7) fun x16 =>
  Option.bind (zqm ([v8,v9,v10,v11]:List Int) v7 (w64 (x13+x15))) fun l17 =>
  rec1 (w64 (v7+1)) (l17.getD 0 0) (l17.getD 1 0) (l17.getD 2 0) (l17.getD 3 0)
 else
  zdB v8 v9 v10 v11
def zbR (a0:Option Box_) (x5:Box_):Nat->Int->Int->Int->Int->Int->Option (Bag_)
 | 0,_,_,_,_,_=>none
 | m+1,v7,v8,v9,v10,v11=>zc1 a0 x5 (zbR a0 x5 m) v7 v8 v9 v10 v11
def zdN (n:Nat) (a0:Option Box_):Option (Bag_) :=
 Option.bind (a0) fun x5 =>
 zbR a0 x5 n 0 0 0 0 0
def zc5 (n:Nat) (a0:Option Box_):Option (List Int) :=
 Option.bind (zdN n a0) fun r1 =>
 Option.bind (zdo n a0 r1) fun M =>
 Option.bind (zdN n a0) fun r2 =>
 if ziJ M=true then some (zeX ((zew r2 M).map (·.1))) else none
def zf3 (n:Nat) (a0:Box):Option ((List Int)×Int) :=
 Option.bind (zdM n a0) fun r1 =>
 if (r1.2 != 0)=true then
  some (([]:List Int),r1.2)
 else
  Option.bind (zc5 n r1.1) fun r3 =>
  some (r3,0)
def slices_Clone_int (a0:List Int):Option (List Int):=app [] a0
def zcp {S:Type} (rec:(Option Box_)->(List Int)->Int->S->Option (Unit×S)) (a0:Option Box_) (a1:List Int) (a2:Int) (rec1:Int->S->Option (Unit×S)) (v5:Int) (v6:S):Option (Unit×S) :=
 if decide (v5<(w64 (a2+1)))=true then
  Option.bind (slices_Clone_int a1) fun l8 =>
  Option.bind (app l8 ([v5]:List Int)) fun l9 =>
  Option.bind (rec a0 l9 (w64 (a2-v5)) v6) fun r10 =>
  rec1 (w64 (v5+1)) r10.2
 else
  some ((),v6)
def zbE {S:Type} (rec:(Option Box_)->(List Int)->Int->S->Option (Unit×S)) (a0:Option Box_) (a1:List Int) (a2:Int):Nat->Int->S->Option (Unit×S)
 | 0,_,_=>none
 | m+1,v5,v6=>zcp rec a0 a1 a2 (zbE rec a0 a1 a2 m) v5 v6
def zcT {S:Type} (n:Nat) (rec:(Option Box_)->(List Int)->Int->S->Option (Unit×S)) (aF:(List Int)->S->Option (Unit×S)) (a0:Option Box_) (a1:List Int) (a2:Int) (st:S):Option (Unit×S) :=
 Option.bind (a0) fun x1 =>
 if ((a1.length:Int)==(x1.Box.Wheel.Coins.length:Int))=true then
  Option.bind (aF a1 st) fun r3 =>
  some ((),r3.2)
 else
  zbE rec a0 a1 a2 n 0 st
def zbC {S:Type}:Nat->((List Int)->S->Option (Unit×S))->(Option Box_)->(List Int)->Int->S->Option (Unit×S)
 | 0,_,_,_,_,_=>none
 | n+1,aF,a0,a1,a2,st=>zcT n (zbC n aF) aF a0 a1 a2 st
def zc2 (v1:Int):Option (Int) :=
 some v1
def zcI (a0:Option Box_) (a1:List Int) (rec1:Int->Int->Option (Int)) (v2:Int) (v3:Int):Option (Int) :=
 if decide (v3<(a1.length:Int))=true then
  Option.bind (idx a1 v3) fun x5 =>
  Option.bind (a0) fun x6 =>
  Option.bind (idx x6.Box.Wheel.Coins v3) fun x7 =>
  rec1 (w64 (v2+(w64 (x5*x7)))) (w64 (v3+1))
 else
  zc2 v2
def zbs (a0:Option Box_) (a1:List Int):Nat->Int->Int->Option (Int)
 | 0,_,_=>none
 | m+1,v2,v3=>zcI a0 a1 (zbs a0 a1 m) v2 v3
def zbc (n:Nat) (a0:Option Box_) (a1:List Int):Option (Int) :=
 zbs a0 a1 n 0 0
def zbI (purse:List Int):Nat->Int->Bag_->Option Bag_
 | 0,_,_=>none
 | m+1,k,al =>
  if decide (k<(purse.length:Int))=true then
   Option.bind (idx purse k) fun x =>
   Option.bind (idx ([al.c0,al.c1,al.c2,al.c3]:List Int) k) fun e =>
   Option.bind (zqm ([al.c0,al.c1,al.c2,al.c3]:List Int) k (w64 (e+x))) fun u =>
   zbI purse m (w64 (k+1)) ⟨u.getD 0 0,u.getD 1 0,u.getD 2 0,u.getD 3 0⟩
  else some al
def zdO (M:List (PointT_×Step_)):Nat->Step_->List Int->Option (List Int)
 | 0,_,_=>none
 | m+1,s,acts =>
  if (s.act != -2)=true then
   if acts.length+1<=1048576 then
    Option.bind (zgI zbG za7 M s.from_) fun s2=>zdO M m s2 (acts++[s.act])
   else none
  else some acts
def zbJ (n:Nat) (b:Box_) (M:List (PointT_×Step_)) (E:List (Int×PointT_)) (bs:List Int):Nat->Int->Option (List Int×Bool)
 | 0,_=>none
 | m+1,k =>
  if decide (k<(bs.length:Int))=true then
   Option.bind (idx bs k) fun x =>
   Option.bind (zcY x b.Box.Plays (w64 (b.Box.Plays+b.Box.Skips))) fun w =>
   if (!w)=true then zbJ n b M E bs m (w64 (k+1))
   else
    Option.bind (zgI okI zaN E x) fun p =>
    Option.bind (zgI zbG za7 M p) fun s =>
    Option.bind (zdO M n s []) fun acts =>
    some (acts.reverse,true)
  else some ([],false)
def zca (n:Nat) (a0:Option Box_) (purse:List Int):Option (List Int×Bool) :=
 Option.bind a0 fun b =>
 Option.bind (zdN n a0) fun r1 =>
 Option.bind (zbI purse n 0 r1) fun al =>
 Option.bind (zdo n a0 al) fun M =>
 if ziJ M=true then zbJ n b M (zew al M) (zeX ((zew al M).map (·.1))) n 0 else none
def zaM (n:Nat) (a:Option Box_) (purse:List Int):List Gap_->Option (Unit×List Gap_)
 | [] =>
  Option.bind (zca n a purse) fun e =>
  if (!e.2)=true then some ((),[]) else some ((),[⟨purse,e.1⟩])
 | x::gs =>
  Option.bind (zbc n a purse) fun w1 =>
  Option.bind (zbc n a x.purse) fun w2 =>
  if decide (w1>w2)=true then some ((),x::gs)
  else
   Option.bind (zca n a purse) fun e =>
   if (!e.2)=true then some ((),x::gs)
   else
    Option.bind (zbc n a purse) fun w3 =>
    Option.bind (zbc n a x.purse) fun w4 =>
    if decide (w3<w4)=true then some ((),[⟨purse,e.1⟩])
    else Option.bind (app (x::gs) ([⟨purse,e.1⟩]:List Gap_)) fun l=>some ((),l)
def zcb (n:Nat) (a0:Option Box_):Option (List Gap_) :=
 Option.bind (zbC n (fun x0 s=>zaM n a0 x0 s) a0 ([]:List Int) 2 ([]:List Gap_)) fun r =>
 some r.2
def zd8 (n:Nat) (a0:Box):Option ((Option Box_)×(List Gap_)×Int) :=
 Option.bind (zdM n a0) fun r1 =>
 if (r1.2 != 0)=true then
  some ((none:Option Box_),([]:List Gap_),r1.2)
 else
  Option.bind (zcb n r1.1) fun r3 =>
  if ((r3.length:Int)==0)=true then
   some ((none:Option Box_),([]:List Gap_),3)
  else
   some (r1.1,r3,0)
def zeM (n:Nat) (a0:Box):Option (Int×Int) :=
 Option.bind (zd8 n a0) fun r1 =>
 if (r1.2.2 != 0)=true then
  some (0,r1.2.2)
 else
  Option.bind (idx r1.2.1 0) fun x3 =>
  Option.bind (zbc n r1.1 x3.purse) fun r4 =>
  some (r4,0)
def zgo (n:Nat) (a0:Box):Option (Int×Int×Int×Int) :=
 Option.bind (zdM n a0) fun r1 =>
 if (r1.2 != 0)=true then
  some (0,0,0,r1.2)
 else
  Option.bind (zbc n r1.1 a0.Marked) fun r3 =>
  Option.bind (zbc n r1.1 a0.Found) fun r4 =>
  Option.bind (zbc n r1.1 a0.Slugs) fun r5 =>
  some (w64 (r4-r3),r3,r5,0)
def zdW:Option (Bool) :=
 some true
def zdf (a0:List Int) (a1:List Int) (rec1:Int->Option (Bool)) (v2:Int):Option (Bool) :=
 if decide (v2<(a0.length:Int))=true then
  Option.bind (idx a0 v2) fun x4 =>
  Option.bind (idx a1 v2) fun x5 =>
  if (x4 != x5)=true then
   some false
  else
   rec1 (w64 (v2+1))
 else
  zdW
def zbK (a0:List Int) (a1:List Int):Nat->Int->Option (Bool)
 | 0,_=>none
 | m+1,v2=>zdf a0 a1 (zbK a0 a1 m) v2
def zfc (n:Nat) (a0:List Int) (a1:List Int):Option (Bool) :=
 if ((a0.length:Int) != (a1.length:Int))=true then
  some false
 else
  zbK a0 a1 n 0
def zdX (v2:Int):Option (Int) :=
 some v2
def zdg (a0:List Int) (rec1:Int->Int->Option (Int)) (v3:Int) (v4:Int):Option (Int) :=
 if decide (v4<(a0.length:Int))=true then
  Option.bind (idx a0 v4) fun x6 =>
  rec1 (max v3 x6) (w64 (v4+1))
 else
  zdX v3
def zcc (a0:List Int):Nat->Int->Int->Option (Int)
 | 0,_,_=>none
 | m+1,v3,v4=>zdg a0 (zcc a0 m) v3 v4
def zdY (n:Nat) (a0:List Int):Option (Int) :=
 Option.bind (idx a0 0) fun x1 =>
 zcc a0 n x1 1
def slices_Max_int (n:Nat) (a0:List Int):Option (Int) :=
 if decide ((a0.length:Int)<1)=true then
  none
 else
  zdY n a0
def zfL (n:Nat) (a0:Box):Option (Int×Int) :=
 Option.bind (zdM n a0) fun r1 =>
 if (r1.2 != 0)=true then
  some (0,r1.2)
 else
  Option.bind (zc5 n r1.1) fun r3 =>
  Option.bind (slices_Max_int n r3) fun r4 =>
  some ((max 0 (w64 (a0.Plays-r4))),0)
def ziL:Option (Wheel) :=
 some (⟨50,([10,20,25]:List Int),([5,10,25]:List Int)⟩:Wheel)
def zg9:Option (Box) :=
 Option.bind (ziL) fun r1 =>
 some (⟨r1,([0,2,1]:List Int),([0,1,0]:List Int),([0,0,0]:List Int),6,0⟩:Box)
def zbz (v6:Bool):Option (Bool) :=
 some v6
def ze0 (n:Nat):Option (Bool) :=
 Option.bind (zg9) fun r1 =>
 Option.bind (zf3 n r1) fun r2 =>
 Option.bind (zgo n r1) fun r3 =>
 Option.bind (zeM n r1) fun r4 =>
 Option.bind (zfL n r1) fun r5 =>
 if (r2.2==0)=true then
  if (r3.2.2.2==0)=true then
   if (r4.2==0)=true then
    if (r5.2==0)=true then
     Option.bind (zfc n r2.1 ([3,4,5]:List Int)) fun r11 =>
     if r11=true then
      if (r3.1==35)=true then
       if (r3.2.1==10)=true then
        if (r4.1==5)=true then
         zbz (r5.1==1)
        else
         zbz false
       else
        zbz false
      else
       zbz false
     else
      zbz false
    else
     zbz false
   else
    zbz false
  else
   zbz false
 else
  zbz false
def zhU (a0:Wheel):Option (Wheel) :=
 Option.bind (app ([]:List Int) a0.Notches) fun l1 =>
 Option.bind (app ([]:List Int) a0.Coins) fun l2 =>
 some (⟨a0.Round,l1,l2⟩:Wheel)
def zhV (a0:Box):Option (Box) :=
 Option.bind (zhU a0.Wheel) fun r1 =>
 Option.bind (app ([]:List Int) a0.Found) fun l2 =>
 Option.bind (app ([]:List Int) a0.Marked) fun l3 =>
 Option.bind (app ([]:List Int) a0.Slugs) fun l4 =>
 some (⟨r1,l2,l3,l4,a0.Plays,a0.Skips⟩:Box)
def zdZ (a1:List Int):Option (Bool) :=
 some (decide ((a1.length:Int)<=20))
def zdh (a0:Wheel) (a1:List Int) (a2:Int) (rec1:Int->Option (Bool)) (v1:Int):Option (Bool) :=
 if decide (v1<(a1.length:Int))=true then
  Option.bind (idx a1 v1) fun x3 =>
  Option.bind (zc9 x3 a2 (w64 ((a0.Coins.length:Int)-1))) fun r4 =>
  if (!r4)=true then
   some false
  else
   rec1 (w64 (v1+1))
 else
  zdZ a1
def zcd (a0:Wheel) (a1:List Int) (a2:Int):Nat->Int->Option (Bool)
 | 0,_=>none
 | m+1,v1=>zdh a0 a1 a2 (zcd a0 a1 a2 m) v1
def zgC (n:Nat) (a0:Wheel) (a1:List Int) (a2:Int):Option (Bool) :=
 zcd a0 a1 a2 n 0
def zf4 (n:Nat) (a0:Wheel) (a1:List Int):Option (Bool) :=
 Option.bind (zgC n a0 a1 (-1)) fun r1 =>
 some r1
def zgp (v1:List Int):Option ((List Int)) :=
 some v1
def zgq (rec1:(List Int)->Int->Option ((List Int))) (v3:Int) (v5:List Int):Option ((List Int)) :=
 rec1 v5 (w64 (v3+1))
def zey (rec1:(List Int)->Int->Option ((List Int))) (v2:List Int) (v3:Int) (v6:Int):Option ((List Int)) :=
 Option.bind (app v2 ([v6]:List Int)) fun l7 =>
 zgq rec1 v3 l7
def zfp (rec2:Int->Int->Option ((List Int))) (v9:Int) (v11:Int):Option ((List Int)) :=
 rec2 v11 (w64 (v9+1))
def zfd (rec1:(List Int)->Int->Option ((List Int))) (a1:List Int) (v2:List Int) (v3:Int) (rec2:Int->Int->Option ((List Int))) (v8:Int) (v9:Int):Option ((List Int)) :=
 if decide (v9<(a1.length:Int))=true then
  Option.bind (idx a1 v9) fun x12 =>
  if (x12==v3)=true then
   zfp rec2 v9 (w64 (v8+1))
  else
   zfp rec2 v9 v8
 else
  zey rec1 v2 v3 v8
def zcq (rec1:(List Int)->Int->Option ((List Int))) (a1:List Int) (v2:List Int) (v3:Int):Nat->Int->Int->Option ((List Int))
 | 0,_,_=>none
 | m+1,v8,v9=>zfd rec1 a1 v2 v3 (zcq rec1 a1 v2 v3 m) v8 v9
def zfe (n:Nat) (a0:Wheel) (a1:List Int) (rec1:(List Int)->Int->Option ((List Int))) (v2:List Int) (v3:Int):Option ((List Int)) :=
 if decide (v3<(a0.Coins.length:Int))=true then
  zcq rec1 a1 v2 v3 n 0 0
 else
  zgp v2
def zbe (n:Nat) (a0:Wheel) (a1:List Int):Nat->(List Int)->Int->Option ((List Int))
 | 0,_,_=>none
 | m+1,v2,v3=>zfe n a0 a1 (zbe n a0 a1 m) v2 v3
def ziM (n:Nat) (a0:Wheel) (a1:List Int):Option ((List Int)) :=
 zbe n a0 a1 n ([]:List Int) 0
def zha:Option (Bool) :=
 some false
def zfM (a0:List Int) (a1:Int) (rec1:Int->Option (Bool)) (v1:Int):Option (Bool) :=
 if decide (v1<(a0.length:Int))=true then
  Option.bind (idx a0 v1) fun x3 =>
  if (x3==a1)=true then
   some true
  else
   rec1 (w64 (v1+1))
 else
  zha
def zem (a0:List Int) (a1:Int):Nat->Int->Option (Bool)
 | 0,_=>none
 | m+1,v1=>zfM a0 a1 (zem a0 a1 m) v1
def zkb (n:Nat) (a0:List Int) (a1:Int):Option (Bool) :=
 zem a0 a1 n 0
def zgr (v1:Int) (v2:Int):Option (Int×Int) :=
 some (v1,v2)
def zfq (rec1:Int->Int->Int->Option (Int×Int)) (v5:Int) (v7:Int) (v8:Int):Option (Int×Int) :=
 rec1 v7 v8 (w64 (v5+1))
def zfr (rec1:Int->Int->Int->Option (Int×Int)) (a0:Wheel) (v3:Int) (v5:Int) (v9:Int):Option (Int×Int) :=
 if ((w64 (v3+1))==a0.Round)=true then
  zfq rec1 v5 0 v9
 else
  zfq rec1 v5 (w64 (v3+1)) v9
def zff (n:Nat) (a0:Wheel) (a2:Int) (rec1:Int->Int->Int->Option (Int×Int)) (v3:Int) (v4:Int) (v5:Int):Option (Int×Int) :=
 if decide (v5<a2)=true then
  Option.bind (zkb n a0.Notches (w64 (v3+1))) fun r11 =>
  if r11=true then
   zfr rec1 a0 v3 v5 (w64 (v4+1))
  else
   zfr rec1 a0 v3 v5 v4
 else
  zgr v3 v4
def zcr (n:Nat) (a0:Wheel) (a2:Int):Nat->Int->Int->Int->Option (Int×Int)
 | 0,_,_,_=>none
 | m+1,v3,v4,v5=>zff n a0 a2 (zcr n a0 a2 m) v3 v4 v5
def ziN (n:Nat) (a0:Wheel) (a1:Int) (a2:Int):Option (Int×Int) :=
 zcr n a0 a2 n a1 0 0
def ziO (n:Nat) (a0:Wheel) (a1:Stand) (a2:Int):Option (Stand×Bool) :=
 if decide (a2≥0)=true then
  Option.bind (idx a0.Coins a2) fun x2 =>
  Option.bind (ziN n a0 a1.Place x2) fun r3 =>
  some ((⟨r3.1,w64 (a1.Credit+r3.2)⟩:Stand),false)
 else
  if (a1.Credit==0)=true then
   some (a1,false)
  else
   some ((⟨0,w64 (a1.Credit-1)⟩:Stand),true)
def zfN (v1:Int):Option (Int) :=
 some v1
def zeN (rec1:Int->Int->Int->Int->Option (Int)) (v5:Int) (r10:Stand×Bool) (v11:Int):Option (Int) :=
 rec1 v11 (w64 (v5+1)) r10.1.Place r10.1.Credit
def zeO (n:Nat) (a0:Wheel) (a1:List Int) (rec1:Int->Int->Int->Int->Option (Int)) (v4:Int) (v5:Int) (v6:Int) (v7:Int):Option (Int) :=
 if decide (v5<(a1.length:Int))=true then
  Option.bind (idx a1 v5) fun x9 =>
  Option.bind (ziO n a0 (⟨v6,v7⟩:Stand) x9) fun r10 =>
  if r10.2=true then
   zeN rec1 v5 r10 (w64 ((w64 (v4+(w64 (r10.1.Credit-v7))))+1))
  else
   zeN rec1 v5 r10 (w64 (v4+(w64 (r10.1.Credit-v7))))
 else
  zfN v4
def zci (n:Nat) (a0:Wheel) (a1:List Int):Nat->Int->Int->Int->Int->Option (Int)
 | 0,_,_,_,_=>none
 | m+1,v4,v5,v6,v7=>zeO n a0 a1 (zci n a0 a1 m) v4 v5 v6 v7
def zhW (n:Nat) (a0:Wheel) (a1:List Int):Option (Int) :=
 zci n a0 a1 n 0 0 0 0
def zdp (st:Spot_) (v2:Int) (v3:Int) (v4:Int) (v5:Int) (v6:Bool):Option (Bool×Spot_) :=
 some (v6,(⟨(⟨v2,v3,v4,v5⟩:Bag_),st.place,st.credit⟩:Spot_))
def zei (a0:Wheel_) (st:Spot_) (a1:List Int) (v1:Int) (v2:Int) (v3:Int) (v4:Int) (v5:Int):Option (Bool×Spot_) :=
 if ((a1.length:Int)==(a0.Wheel.Coins.length:Int))=true then
  zdp st v2 v3 v4 v5 (decide (v1<=12))
 else
  zdp st v2 v3 v4 v5 false
def zcN (rec1:Int->Int->Int->Int->Int->Int->Option (Bool×Spot_)) (st:Spot_) (v10:Int) (v11:Int) (v12:Int) (v13:Int) (v14:Int) (v15:Int) (x17:Int) (v18:Bool):Option (Bool×Spot_) :=
 if v18=true then
  some (false,(⟨(⟨v12,v13,v14,v15⟩:Bag_),st.place,st.credit⟩:Spot_))
 else
  Option.bind (idx ([v12,v13,v14,v15]:List Int) v11) fun x20 =>
  Option.bind (zqm ([v12,v13,v14,v15]:List Int) v11 x17) fun l21 =>
  rec1 (w64 (v10+x17)) (w64 (v11+1)) (l21.getD 0 0) (l21.getD 1 0) (l21.getD 2 0) (l21.getD 3 0)
def zdC (a0:Wheel_) (st:Spot_) (a1:List Int) (rec1:Int->Int->Int->Int->Int->Int->Option (Bool×Spot_)) (v10:Int) (v11:Int) (v12:Int) (v13:Int) (v14:Int) (v15:Int):Option (Bool×Spot_) :=
 if decide (v11<(a1.length:Int))=true then
  Option.bind (idx a1 v11) fun x17 =>
  if decide (v11≥(a0.Wheel.Coins.length:Int))=true then
   zcN rec1 st v10 v11 v12 v13 v14 v15 x17 true
  else
   Option.bind (zcQ x17 0 12) fun r23 =>
   zcN rec1 st v10 v11 v12 v13 v14 v15 x17 (!r23)
 else
  zei a0 st a1 v10 v12 v13 v14 v15
def zbD (a0:Wheel_) (st:Spot_) (a1:List Int):Nat->Int->Int->Int->Int->Int->Int->Option (Bool×Spot_)
 | 0,_,_,_,_,_,_=>none
 | m+1,v10,v11,v12,v13,v14,v15=>zdC a0 st a1 (zbD a0 st a1 m) v10 v11 v12 v13 v14 v15
def zdi (n:Nat) (a0:Wheel_) (a1:List Int) (st:Spot_):Option (Bool×Spot_) :=
 zbD a0 st a1 n 0 0 st.left.c0 st.left.c1 st.left.c2 st.left.c3
def zfQ (n:Nat) (a0:Wheel) (a1:List Int) (a2:Bool):Option ((Option Wheel_)×Spot_×Int) :=
 Option.bind (zeZ n (fun (x0:Wheel_) s=>zdi n x0 a1 s) a0 (⟨(⟨0,0,0,0⟩:Bag_),0,0⟩:Spot_)) fun r1 =>
 if (r1.1.2 != 0)=true then
  some ((none:Option Wheel_),(⟨(⟨0,0,0,0⟩:Bag_),0,0⟩:Spot_),r1.1.2)
 else
  some ((some r1.1.1),r1.2,0)
def zbt (n:Nat) (a0:Wheel_) (a2:Int) (v1:Int) (v2:Int) (v3:Int) (v4:Int) (v5:Int) (v6:Int):Option (Spot_×Int) :=
 Option.bind (idx a0.Wheel.Coins a2) fun x7 =>
 Option.bind (zdm n a0 v5 x7) fun r8 =>
 Option.bind (idx ([v1,v2,v3,v4]:List Int) a2) fun x9 =>
 Option.bind (idx ([v1,v2,v3,v4]:List Int) a2) fun x10 =>
 Option.bind (zqm ([v1,v2,v3,v4]:List Int) a2 (w64 (x9-1))) fun l11 =>
 some ((⟨(⟨(l11.getD 0 0),(l11.getD 1 0),(l11.getD 2 0),(l11.getD 3 0)⟩:Bag_),r8.1,w64 (v6+r8.2)⟩:Spot_),r8.2)
def zce (n:Nat) (a0:Wheel_) (a1:Spot_) (a2:Int) (a3:Bool):Option (Spot_×Int) :=
 if a3=true then
  zbt n a0 a2 a1.left.c0 a1.left.c1 a1.left.c2 a1.left.c3 0 (w64 (a1.credit-1))
 else
  zbt n a0 a2 a1.left.c0 a1.left.c1 a1.left.c2 a1.left.c3 a1.place a1.credit
def zbf {S:Type} (rec1:Int->Int->Int->Int->Int->S->Option (Unit×S)) (v2:Int) (v3:Int) (v4:Int) (v5:Int) (v6:Int) (v9:S):Option (Unit×S) :=
 rec1 v2 v3 v4 v5 (w64 (v6+1)) v9
def za4 {S:Type} (n:Nat) (rec1:Int->Int->Int->Int->Int->S->Option (Unit×S)) (a0:Wheel_×Bool) (a1:Spot_) (aF:(List Int)->Spot_->Int->S->Option (Bool×S)) (v2:Int) (v3:Int) (v4:Int) (v5:Int) (v6:Int) (r13:Bool×S) (v15:Bool):Option (Unit×S) :=
 if v15=true then
  zbf rec1 v2 v3 v4 v5 v6 r13.2
 else
  Option.bind (zce n a0.1 (⟨(⟨v2,v3,v4,v5⟩:Bag_),a1.place,a1.credit⟩:Spot_) v6 true) fun r17 =>
  Option.bind (aF ([(-1),v6]:List Int) r17.1 r17.2 r13.2) fun r18 =>
  if (!r18.1)=true then
   some ((),r18.2)
  else
   zbf rec1 v2 v3 v4 v5 v6 r18.2
def zcJ {S:Type} (n:Nat) (a0:Wheel_×Bool) (a1:Spot_) (aF:(List Int)->Spot_->Int->S->Option (Bool×S)) (rec1:Int->Int->Int->Int->Int->S->Option (Unit×S)) (v2:Int) (v3:Int) (v4:Int) (v5:Int) (v6:Int) (v7:S):Option (Unit×S) :=
 if decide (v6<(a0.1.Wheel.Coins.length:Int))=true then
  Option.bind (idx ([v2,v3,v4,v5]:List Int) v6) fun x10 =>
  if (x10==0)=true then
   zbf rec1 v2 v3 v4 v5 v6 v7
  else
   Option.bind (zce n a0.1 (⟨(⟨v2,v3,v4,v5⟩:Bag_),a1.place,a1.credit⟩:Spot_) v6 false) fun r12 =>
   Option.bind (aF ([v6]:List Int) r12.1 r12.2 v7) fun r13 =>
   if (!r13.1)=true then
    some ((),r13.2)
   else
    if (a1.credit==0)=true then
     za4 n rec1 a0 a1 aF v2 v3 v4 v5 v6 r13 true
    else
     za4 n rec1 a0 a1 aF v2 v3 v4 v5 v6 r13 (a1.place==0)
 else
  some ((),v7)
def zaU {S:Type} (n:Nat) (a0:Wheel_×Bool) (a1:Spot_) (aF:(List Int)->Spot_->Int->S->Option (Bool×S)):Nat->Int->Int->Int->Int->Int->S->Option (Unit×S)
 | 0,_,_,_,_,_,_=>none
 | m+1,v2,v3,v4,v5,v6,v7=>zcJ n a0 a1 aF (zaU n a0 a1 aF m) v2 v3 v4 v5 v6 v7
def ze1 {S:Type} (n:Nat) (aF:(List Int)->Spot_->Int->S->Option (Bool×S)) (a0:Wheel_×Bool) (a1:Spot_) (st:S):Option (Unit×S) :=
 zaU n a0 a1 aF n a1.left.c0 a1.left.c1 a1.left.c2 a1.left.c3 0 st
def zbS (v1:Bool) (v2:Int) (v3:List (Spot_×Int)):Option (Bool×(Bool×Int×(List (Spot_×Int)))) :=
 some (true,(v1,v2,v3))
def zbT (a2:Int) (st:Bool×Int×(List (Spot_×Int))) (r4:Int×(List (Spot_×Int))) (v5:Bool):Option (Bool×(Bool×Int×(List (Spot_×Int)))) :=
 if v5=true then
  zbS false (w64 (a2+r4.1)) r4.2
 else
  zbS st.1 st.2.1 r4.2
def zbX (rec:(Wheel_×Bool)->Spot_->(List (Spot_×Int))->Option (Int×(List (Spot_×Int)))) (a0:List Int) (a1:Spot_) (a2:Int) (a3:Wheel_×Bool) (st:Bool×Int×(List (Spot_×Int))):Option (Bool×(Bool×Int×(List (Spot_×Int)))) :=
 Option.bind (rec a3 a1 st.2.2) fun r4 =>
 if st.1=true then
  zbT a2 st r4 true
 else
  Option.bind (zhB a3.2 (w64 (a2+r4.1)) st.2.1) fun r8 =>
  zbT a2 st r4 r8
def zbY (n:Nat) (rec:(Wheel_×Bool)->Spot_->(List (Spot_×Int))->Option (Int×(List (Spot_×Int)))) (a0:Wheel_×Bool) (a1:Spot_) (st:(List (Spot_×Int))) (v1:Int) (v2:Int) (v3:Int) (v4:Int) (v5:Int) (x6:Int) (v7:Bool):Option (Int×(List (Spot_×Int))) :=
 if v7=true then
  some (x6,st)
 else
  Option.bind (ze1 n (fun (x0:List Int) (x1:Spot_) (x2:Int) s=>zbX rec x0 x1 x2 a0 s) a0 (⟨(⟨v2,v3,v4,v5⟩:Bag_),a1.place,(min a1.credit v1)⟩:Spot_) (true,0,st)) fun r9 =>
  Option.bind (zhA zg7 r9.2.2.2 (⟨(⟨v2,v3,v4,v5⟩:Bag_),a1.place,(min a1.credit v1)⟩:Spot_) r9.2.2.1) fun l10 =>
  some (r9.2.2.1,l10)
def zbZ (n:Nat) (rec:(Wheel_×Bool)->Spot_->(List (Spot_×Int))->Option (Int×(List (Spot_×Int)))) (a0:Wheel_×Bool) (a1:Spot_) (st:(List (Spot_×Int))) (v1:Int) (v2:Int) (v3:Int) (v4:Int) (v5:Int):Option (Int×(List (Spot_×Int))) :=
 Option.bind (zrF zg7 st (⟨(⟨v2,v3,v4,v5⟩:Bag_),a1.place,(min a1.credit v1)⟩:Spot_)) fun x6 =>
 if (zbv st (⟨(⟨v2,v3,v4,v5⟩:Bag_),a1.place,(min a1.credit v1)⟩:Spot_))=true then
  zbY n rec a0 a1 st v1 v2 v3 v4 v5 x6 true
 else
  zbY n rec a0 a1 st v1 v2 v3 v4 v5 x6 (v1==0)
def zdx (n:Nat) (rec:(Wheel_×Bool)->Spot_->(List (Spot_×Int))->Option (Int×(List (Spot_×Int)))) (a0:Wheel_×Bool) (a1:Spot_) (st:(List (Spot_×Int))) (rec1:Int->Int->Option (Int×(List (Spot_×Int)))) (v12:Int) (v13:Int):Option (Int×(List (Spot_×Int))) :=
 if decide (v13<4)=true then
  Option.bind (idx ([a1.left.c0,a1.left.c1,a1.left.c2,a1.left.c3]:List Int) v13) fun x15 =>
  rec1 (w64 (v12+x15)) (w64 (v13+1))
 else
  zbZ n rec a0 a1 st v12 a1.left.c0 a1.left.c1 a1.left.c2 a1.left.c3
def zcy (n:Nat) (rec:(Wheel_×Bool)->Spot_->(List (Spot_×Int))->Option (Int×(List (Spot_×Int)))) (a0:Wheel_×Bool) (a1:Spot_) (st:(List (Spot_×Int))):Nat->Int->Int->Option (Int×(List (Spot_×Int)))
 | 0,_,_=>none
 | m+1,v12,v13=>zdx n rec a0 a1 st (zcy n rec a0 a1 st m) v12 v13
def zcf (n:Nat) (rec:(Wheel_×Bool)->Spot_->(List (Spot_×Int))->Option (Int×(List (Spot_×Int)))) (a0:Wheel_×Bool) (a1:Spot_) (st:(List (Spot_×Int))):Option (Int×(List (Spot_×Int))) :=
 zcy n rec a0 a1 st n 0 0
def zbd:Nat->(Wheel_×Bool)->Spot_->(List (Spot_×Int))->Option (Int×(List (Spot_×Int)))
 | 0,_,_,_=>none
 | n+1,a0,a1,st=>zcf n (zbd n) a0 a1 st
def zf5 (n:Nat) (a0:Wheel) (a1:List Int):Option (Int×Int) :=
 Option.bind (zfQ n a0 a1 false) fun r1 =>
 if r1.1.isSome=true then
  Option.bind (r1.1) fun x3 =>
  if (r1.2.2 != 0)=true then
   some (0,r1.2.2)
  else
   Option.bind (zbd n (x3,false) r1.2.1 ([]:List (Spot_×Int))) fun r5 =>
   some (r5.1,0)
 else
  if (r1.2.2 != 0)=true then
   some (0,r1.2.2)
  else
   none
def zgJ (n:Nat) (a0:Wheel) (a1:List Int):Option (Int×Int) :=
 Option.bind (zfQ n a0 a1 true) fun r1 =>
 if r1.1.isSome=true then
  Option.bind (r1.1) fun x3 =>
  if (r1.2.2 != 0)=true then
   some (0,r1.2.2)
  else
   Option.bind (zbd n (x3,true) r1.2.1 ([]:List (Spot_×Int))) fun r5 =>
   some (r5.1,0)
 else
  if (r1.2.2 != 0)=true then
   some (0,r1.2.2)
  else
   none
def za0 (v16:Bool):Option (Bool) :=
 some v16
def za9 (n:Nat) (a0:Wheel) (a1:List Int) (v1:Bool):Option (Bool) :=
 if v1=true then
  Option.bind (ze0 n) fun r3 =>
  some r3
 else
  Option.bind (ziM n a0 a1) fun r4 =>
  Option.bind (zvl (r4.length:Int)) fun l5 =>
  Option.bind (zvl (r4.length:Int)) fun l6 =>
  Option.bind (zf1 n (⟨a0,r4,l5,l6,0,0⟩:Box)) fun r7 =>
  if (!r7)=true then
   Option.bind (ze0 n) fun r9 =>
   some r9
  else
   Option.bind (zhV (⟨a0,r4,l5,l6,0,0⟩:Box)) fun r10 =>
   Option.bind (zf3 n r10) fun r11 =>
   Option.bind (app ([]:List Int) r4) fun l12 =>
   Option.bind (zf5 n a0 l12) fun r13 =>
   Option.bind (app ([]:List Int) r4) fun l14 =>
   Option.bind (zgJ n a0 l14) fun r15 =>
   if (r11.2==0)=true then
    if (r13.2==0)=true then
     if (r15.2==0)=true then
      if decide ((r11.1.length:Int)>0)=true then
       if decide ((r11.1.length:Int)<10000)=true then
        Option.bind (idx r11.1 0) fun x22 =>
        if (x22==r13.1)=true then
         Option.bind (idx r11.1 (w64 ((r11.1.length:Int)-1))) fun x24 =>
         if (x24==r15.1)=true then
          Option.bind (zhW n a0 a1) fun r26 =>
          Option.bind (zkb n r11.1 r26) fun r27 =>
          if r27=true then
           Option.bind (ze0 n) fun r29 =>
           za0 r29
          else
           za0 false
         else
          za0 false
        else
         za0 false
       else
        za0 false
      else
       za0 false
     else
      za0 false
    else
     za0 false
   else
    za0 false
def zej (n:Nat) (a0:Wheel) (a1:List Int):Option (Bool) :=
 if decide ((max (a0.Notches.length:Int) (a0.Coins.length:Int))>40)=true then
  za9 n a0 a1 true
 else
  Option.bind (zfZ n a0) fun r31 =>
  if (r31 != 0)=true then
   za9 n a0 a1 true
  else
   Option.bind (zf4 n a0 a1) fun r33 =>
   za9 n a0 a1 (!r33)
end Go.Law
