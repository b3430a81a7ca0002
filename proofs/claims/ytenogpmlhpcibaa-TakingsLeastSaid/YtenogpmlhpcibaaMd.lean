/-
  What the functions compute (printed by gen.py).
  Conditions: none.
-/
import Derived.Test.YtenogpmlhpcibaaAmN
set_option linter.all false
namespace Go.Law
open Go Go.AM
set_option linter.unusedVariables false
structure Wheel where
 Round:Int
 Notches:List Int
 Coins:List Int
 deriving DecidableEq,Inhabited,Repr
abbrev Wheel.cells (x:Wheel):List AV:=[.v (.int .i64 x.Round),.sl .no 1 (x.Notches.map cI),.sl .no 1 (x.Coins.map cI)]
structure Box where
 Wheel:Wheel
 Found:List Int
 Marked:List Int
 Slugs:List Int
 Plays:Int
 Skips:Int
 deriving DecidableEq,Inhabited,Repr
abbrev Box.cells (x:Box):List AV:=[.v (.int .i64 x.Wheel.Round),.sl .no 1 (x.Wheel.Notches.map cI),.sl .no 1 (x.Wheel.Coins.map cI),.sl .no 1 (x.Found.map cI),.sl .no 1 (x.Marked.map cI),.sl .no 1 (x.Slugs.map cI),.v (.int .i64 x.Plays),.v (.int .i64 x.Skips)]
structure Box_ where
 Box:Box
 deriving DecidableEq,Inhabited,Repr
abbrev Box_.cells (x:Box_):List AV:=[.v (.int .i64 x.Box.Wheel.Round),.sl .no 1 (x.Box.Wheel.Notches.map cI),.sl .no 1 (x.Box.Wheel.Coins.map cI),.sl .no 1 (x.Box.Found.map cI),.sl .no 1 (x.Box.Marked.map cI),.sl .no 1 (x.Box.Slugs.map cI),.v (.int .i64 x.Box.Plays),.v (.int .i64 x.Box.Skips)]
structure Bag_ where
 c0:Int
 c1:Int
 c2:Int
 c3:Int
 deriving DecidableEq,Inhabited,Repr
abbrev Bag_.cells (x:Bag_):List AV:=[.v (.int .i64 x.c0),.v (.int .i64 x.c1),.v (.int .i64 x.c2),.v (.int .i64 x.c3)]
structure Wheel_ where
 Wheel:Wheel
 deriving DecidableEq,Inhabited,Repr
abbrev Wheel_.cells (x:Wheel_):List AV:=[.v (.int .i64 x.Wheel.Round),.sl .no 1 (x.Wheel.Notches.map cI),.sl .no 1 (x.Wheel.Coins.map cI)]
structure Stand where
 Place:Int
 Credit:Int
 deriving DecidableEq,Inhabited,Repr
abbrev Stand.cells (x:Stand):List AV:=[.v (.int .i64 x.Place),.v (.int .i64 x.Credit)]
structure Gap_ where
 purse:List Int
 acts:List Int
 deriving DecidableEq,Inhabited,Repr
abbrev Gap_.cells (x:Gap_):List AV:=[.sl .no 1 (x.purse.map cI),.sl .no 1 (x.acts.map cI)]
structure SpotR_ where
 stand:Stand
 bought:Int
 deriving DecidableEq,Inhabited,Repr
abbrev SpotR_.cells (x:SpotR_):List AV:=[.v (.int .i64 x.stand.Place),.v (.int .i64 x.stand.Credit),.v (.int .i64 x.bought)]
structure Spot_ where
 left:Bag_
 place:Int
 credit:Int
 deriving DecidableEq,Inhabited,Repr
abbrev Spot_.cells (x:Spot_):List AV:=[.v (.int .i64 x.left.c0),.v (.int .i64 x.left.c1),.v (.int .i64 x.left.c2),.v (.int .i64 x.left.c3),.v (.int .i64 x.place),.v (.int .i64 x.credit)]
structure Clause where
 Kind:Int
 Cents:Int
 Part:Int
 More:Int
 deriving DecidableEq,Inhabited,Repr
abbrev Clause.cells (x:Clause):List AV:=[.v (.int .i64 x.Kind),.v (.int .i64 x.Cents),.v (.int .i64 x.Part),.v (.int .i64 x.More)]
structure Share where
 Clauses:List Clause
 Loan:Int
 deriving DecidableEq,Inhabited,Repr
abbrev Share.cells (x:Share):List AV:=[.sl .no 4 (x.Clauses.map Clause.cells),.v (.int .i64 x.Loan)]
structure Split where
 Operator:Int
 Owner:Int
 Repaid:Int
 deriving DecidableEq,Inhabited,Repr
abbrev Split.cells (x:Split):List AV:=[.v (.int .i64 x.Operator),.v (.int .i64 x.Owner),.v (.int .i64 x.Repaid)]
structure Week_ where
 Split:Split
 rest:Int
 owed:Int
 deriving DecidableEq,Inhabited,Repr
abbrev Week_.cells (x:Week_):List AV:=[.v (.int .i64 x.Split.Operator),.v (.int .i64 x.Split.Owner),.v (.int .i64 x.Split.Repaid),.v (.int .i64 x.rest),.v (.int .i64 x.owed)]
structure Point_ where
 Stand:Stand
 bought:Int
 deriving DecidableEq,Inhabited,Repr
abbrev Point_.cells (x:Point_):List AV:=[.v (.int .i64 x.Stand.Place),.v (.int .i64 x.Stand.Credit),.v (.int .i64 x.bought)]
structure WearRecord where
 Worn:Int
 Limit:Int
 Price:Int
 Plays:List Int
 deriving DecidableEq,Inhabited,Repr
abbrev WearRecord.cells (x:WearRecord):List AV:=[.v (.int .i64 x.Worn),.v (.int .i64 x.Limit),.v (.int .i64 x.Price),.sl .no 1 (x.Plays.map cI)]
structure Wear where
 Weeks:Int
 Price:Int
 Age:Int
 Step:Int
 Rough:List Int
 Records:List WearRecord
 deriving DecidableEq,Inhabited,Repr
abbrev Wear.cells (x:Wear):List AV:=[.v (.int .i64 x.Weeks),.v (.int .i64 x.Price),.v (.int .i64 x.Age),.v (.int .i64 x.Step),.sl .no 1 (x.Rough.map cI),.sl .no 4 (x.Records.map WearRecord.cells)]
structure WearWeek where
 Needle:Int
 Records:List Int
 deriving DecidableEq,Inhabited,Repr
abbrev WearWeek.cells (x:WearWeek):List AV:=[.v (.int .i64 x.Needle),.sl .no 1 (x.Records.map cI)]
structure BoxW_ where
 Wear:Wear
 deriving DecidableEq,Inhabited,Repr
abbrev BoxW_.cells (x:BoxW_):List AV:=[.v (.int .i64 x.Wear.Weeks),.v (.int .i64 x.Wear.Price),.v (.int .i64 x.Wear.Age),.v (.int .i64 x.Wear.Step),.sl .no 1 (x.Wear.Rough.map cI),.sl .no 4 (x.Wear.Records.map WearRecord.cells)]
structure PointT_ where
 Stand:Stand
 in_:Bag_
 bought:Int
 deriving DecidableEq,Inhabited,Repr
abbrev PointT_.cells (x:PointT_):List AV:=[.v (.int .i64 x.Stand.Place),.v (.int .i64 x.Stand.Credit),.v (.int .i64 x.in_.c0),.v (.int .i64 x.in_.c1),.v (.int .i64 x.in_.c2),.v (.int .i64 x.in_.c3),.v (.int .i64 x.bought)]
def zlY (x:Spot_):Bool:=([x.left.c0,x.left.c1,x.left.c2,x.left.c3,x.place,x.credit]:List Int).all okI
def zbE (x:PointT_):Bool:=([x.Stand.Place,x.Stand.Credit,x.in_.c0,x.in_.c1,x.in_.c2,x.in_.c3,x.bought]:List Int).all okI
def zad (x:PointT_):Value:=.agg (([x.Stand.Place,x.Stand.Credit,x.in_.c0,x.in_.c1,x.in_.c2,x.in_.c3,x.bought]:List Int).map kvI).toArray
def zfy (v1:List Int):Option ((List Int)) :=
 some v1
def zeF (a0:List Int) (a1:List Int) (rec1:(List Int)->Int->Option ((List Int))) (v2:List Int) (v3:Int):Option ((List Int)) :=
 if decide (v3<(a0.length:Int))=true then
  Option.bind (idx a0 v3) fun x5 =>
  Option.bind (idx a1 v3) fun x6 =>
  Option.bind (app v2 ([w64 (x5+x6)]:List Int)) fun l7 =>
  rec1 l7 (w64 (v3+1))
 else
  zfy v2
def zda (a0:List Int) (a1:List Int):Nat->(List Int)->Int->Option ((List Int))
 | 0,_,_=>none
 | m+1,v2,v3=>zeF a0 a1 (zda a0 a1 m) v2 v3
def zgw (n:Nat) (a0:List Int) (a1:List Int):Option ((List Int)) :=
 zda a0 a1 n ([]:List Int) 0
def zgx (n:Nat) (a0:Box):Option ((List Int)) :=
 Option.bind (zgw n a0.Found a0.Slugs) fun r1 =>
 some r1
def zdK (v1:Bool):Option (Bool) :=
 some v1
def zc4 (a0:Int) (a1:Int) (a2:Int):Option (Bool) :=
 if decide (a0≥a1)=true then
  zdK (decide (a0<=a2))
 else
  zdK false
def zeG:Option (Bool) :=
 some true
def zca (rec1:Int->Option (Bool)) (v1:Int) (v3:Bool):Option (Bool) :=
 if v3=true then
  some false
 else
  rec1 (w64 (v1+1))
def zdW (a0:List Int) (a1:Int) (a2:Int) (rec1:Int->Option (Bool)) (v1:Int):Option (Bool) :=
 if decide (v1<(a0.length:Int))=true then
  Option.bind (idx a0 v1) fun x5 =>
  Option.bind (zc4 x5 a1 a2) fun r6 =>
  if (!r6)=true then
   zca rec1 v1 true
  else
   if decide (v1>0)=true then
    Option.bind (idx a0 v1) fun x9 =>
    Option.bind (idx a0 (w64 (v1-1))) fun x10 =>
    zca rec1 v1 (decide (x9<=x10))
   else
    zca rec1 v1 false
 else
  zeG
def zbO (a0:List Int) (a1:Int) (a2:Int):Nat->Int->Option (Bool)
 | 0,_=>none
 | m+1,v1=>zdW a0 a1 a2 (zbO a0 a1 a2 m) v1
def zf9 (n:Nat) (a0:List Int) (a1:Int) (a2:Int):Option (Bool) :=
 zbO a0 a1 a2 n 0
def zcw (v1:Bool):Option (Int) :=
 if v1=true then
  some 10
 else
  some 0
def zgS (n:Nat) (a0:Wheel):Option (Int) :=
 Option.bind (zc4 a0.Round 1 200) fun r3 =>
 if (!r3)=true then
  zcw true
 else
  if decide ((a0.Notches.length:Int)>12)=true then
   zcw true
  else
   Option.bind (zf9 n a0.Notches 1 a0.Round) fun r6 =>
   if (!r6)=true then
    zcw true
   else
    if decide ((a0.Coins.length:Int)>4)=true then
     zcw true
    else
     Option.bind (zf9 n a0.Coins 1 100) fun r9 =>
     zcw (!r9)
def zei (v2:Int):Option (Bool) :=
 some (decide (v2<=12))
def zdx (a1:List Int) (rec1:Int->Int->Option (Bool)) (v3:Int) (v4:Int):Option (Bool) :=
 if decide (v4<(a1.length:Int))=true then
  Option.bind (idx a1 v4) fun x6 =>
  Option.bind (zc4 x6 0 12) fun r7 =>
  if (!r7)=true then
   some false
  else
   Option.bind (idx a1 v4) fun x9 =>
   rec1 (w64 (v3+x9)) (w64 (v4+1))
 else
  zei v3
def zbV (a1:List Int):Nat->Int->Int->Option (Bool)
 | 0,_,_=>none
 | m+1,v3,v4=>zdx a1 (zbV a1 m) v3 v4
def zdX (n:Nat) (a0:Wheel) (a1:List Int):Option (Bool) :=
 if ((a1.length:Int) != (a0.Coins.length:Int))=true then
  some false
 else
  zbV a1 n 0 0
def zc5 (a0:Int) (a1:Int) (a2:Int):Option (Bool) :=
 Option.bind (zc4 a0 a1 a2) fun r1 =>
 some r1
def zd8 (n:Nat) (a0:Box):Option (Int) :=
 Option.bind (zgw n a0.Found a0.Slugs) fun r3 =>
 Option.bind (zdX n a0.Wheel r3) fun r4 =>
 if (!r4)=true then
  some 50
 else
  some 0
def zej (n:Nat) (a0:Box) (rec1:Int->Option (Int)) (v6:Int):Option (Int) :=
 if decide (v6<(a0.Found.length:Int))=true then
  Option.bind (idx a0.Marked v6) fun x8 =>
  Option.bind (idx a0.Found v6) fun x9 =>
  Option.bind (zc5 x8 0 x9) fun r10 =>
  if (!r10)=true then
   some 50
  else
   rec1 (w64 (v6+1))
 else
  zd8 n a0
def zb6 (n:Nat) (a0:Box):Nat->Int->Option (Int)
 | 0,_=>none
 | m+1,v6=>zej n a0 (zb6 n a0 m) v6
def zb7 (n:Nat) (a0:Box) (v1:Bool):Option (Int) :=
 if v1=true then
  some 50
 else
  zb6 n a0 n 0
def zfR (n:Nat) (a0:Box):Option (Int) :=
 Option.bind (zgS n a0.Wheel) fun r12 =>
 if (r12 != 0)=true then
  zb7 n a0 true
 else
  Option.bind (zdX n a0.Wheel a0.Found) fun r14 =>
  if (!r14)=true then
   zb7 n a0 true
  else
   Option.bind (zdX n a0.Wheel a0.Slugs) fun r16 =>
   if (!r16)=true then
    zb7 n a0 true
   else
    if ((a0.Marked.length:Int) != (a0.Found.length:Int))=true then
     zb7 n a0 true
    else
     Option.bind (zc5 a0.Plays 0 9999) fun r19 =>
     if (!r19)=true then
      zb7 n a0 true
     else
      Option.bind (zc5 a0.Skips 0 9) fun r21 =>
      zb7 n a0 (!r21)
def ze6 (v1:Int):Option (Int) :=
 some v1
def zek (a0:List Int) (rec1:Int->Int->Option (Int)) (v2:Int) (v3:Int):Option (Int) :=
 if decide (v3<(a0.length:Int))=true then
  Option.bind (idx a0 v3) fun x5 =>
  rec1 (w64 (v2+x5)) (w64 (v3+1))
 else
  ze6 v2
def zcO (a0:List Int):Nat->Int->Int->Option (Int)
 | 0,_,_=>none
 | m+1,v2,v3=>zek a0 (zcO a0 m) v2 v3
def zeX (n:Nat) (a0:List Int):Option (Int) :=
 zcO a0 n 0 0
def zev (v2:Bool):Option (Bool) :=
 some v2
def zhr (n:Nat) (a0:Box):Option (Bool) :=
 if decide ((max (max (max (max (a0.Wheel.Notches.length:Int) (a0.Wheel.Coins.length:Int)) (a0.Found.length:Int)) (a0.Marked.length:Int)) (a0.Slugs.length:Int))>40)=true then
  some true
 else
  Option.bind (zfR n a0) fun r3 =>
  if (r3==0)=true then
   Option.bind (zgx n a0) fun r5 =>
   Option.bind (zeX n r5) fun r6 =>
   if decide (r6>3)=true then
    zev true
   else
    zev (decide ((a0.Found.length:Int)>3))
  else
   zev false
def ze7 (v1:Bool):Option (Bool) :=
 some v1
def zfS (n:Nat) (a0:Box):Option (Bool) :=
 Option.bind (zhr n a0) fun r2 =>
 if (!r2)=true then
  Option.bind (zfR n a0) fun r4 =>
  ze7 (r4==0)
 else
  ze7 false
def zdL (v1:Bool):Option (Bool) :=
 some v1
def zc6 (a0:Int) (a1:Int) (a2:Int):Option (Bool) :=
 if decide (a1<=a0)=true then
  zdL (decide (a0<=a2))
 else
  zdL false
def zeH (a0:List Int) (a1:Int):Option (Bool) :=
 some (decide ((a0.length:Int)<=a1))
def zcb (rec1:Int->Option (Bool)) (v1:Int) (v4:Bool):Option (Bool) :=
 if v4=true then
  some false
 else
  rec1 (w64 (v1+1))
def zdY (a0:List Int) (a1:Int) (a2:Int) (rec1:Int->Option (Bool)) (v1:Int):Option (Bool) :=
 if decide (v1<(a0.length:Int))=true then
  Option.bind (idx a0 v1) fun x3 =>
  Option.bind (zc6 x3 1 a2) fun r6 =>
  if (!r6)=true then
   zcb rec1 v1 true
  else
   if decide (v1>0)=true then
    Option.bind (idx a0 (w64 (v1-1))) fun x9 =>
    zcb rec1 v1 (decide (x3<=x9))
   else
    zcb rec1 v1 false
 else
  zeH a0 a1
def zbP (a0:List Int) (a1:Int) (a2:Int):Nat->Int->Option (Bool)
 | 0,_=>none
 | m+1,v1=>zdY a0 a1 a2 (zbP a0 a1 a2 m) v1
def zga (n:Nat) (a0:List Int) (a1:Int) (a2:Int):Option (Bool) :=
 zbP a0 a1 a2 n 0
def zdq (v1:Bool):Option (Int) :=
 if v1=true then
  some 10
 else
  some 0
def zfT (n:Nat) (a0:Wheel):Option (Int) :=
 Option.bind (zc6 a0.Round 1 200) fun r3 =>
 if (!r3)=true then
  zdq true
 else
  Option.bind (zga n a0.Notches 12 a0.Round) fun r5 =>
  if (!r5)=true then
   zdq true
  else
   Option.bind (zga n a0.Coins 4 100) fun r7 =>
   zdq (!r7)
def zcU (v1:Bool):Option (Bool) :=
 some v1
def zcP (a0:Int) (a1:Int) (a2:Int):Option (Bool) :=
 if decide (a1<=a0)=true then
  zcU (decide (a0<=a2))
 else
  zcU false
def zbQ {S:Type} (v1:S):Option (Int×S) :=
 some ((-1),v1)
def za7 {S:Type} (a0:List Int) (aF:Int->S->Option (Bool×S)) (rec1:Int->S->Option (Int×S)) (v3:Int) (v4:S):Option (Int×S) :=
 if decide (v3<(a0.length:Int))=true then
  Option.bind (idx a0 v3) fun x6 =>
  Option.bind (aF x6 v4) fun r7 =>
  if r7.1=true then
   some (v3,r7.2)
  else
   rec1 (w64 (v3+1)) r7.2
 else
  zbQ v4
def zar {S:Type} (a0:List Int) (aF:Int->S->Option (Bool×S)):Nat->Int->S->Option (Int×S)
 | 0,_,_=>none
 | m+1,v3,v4=>za7 a0 aF (zar a0 aF m) v3 v4
def zcR {S:Type} (n:Nat) (aF:Int->S->Option (Bool×S)) (a0:List Int) (st:S):Option (Int×S) :=
 zar a0 aF n 0 st
def zbq {S:Type} (n:Nat) (aF:Int->S->Option (Bool×S)) (a0:List Int) (st:S):Option (Bool×S) :=
 Option.bind (zcR n aF a0 st) fun r1 =>
 some (decide (r1.1≥0),r1.2)
def zdk (a0:Int):Option (Bool) :=
 Option.bind (zcP a0 0 12) fun r1 =>
 some (!r1)
def zel (v3:Int):Option (Int) :=
 if decide (v3>12)=true then
  some 50
 else
  some 0
def zdy (a0:Box) (rec1:Int->Int->Option (Int)) (v5:Int) (v6:Int):Option (Int) :=
 if decide (v6<(a0.Found.length:Int))=true then
  Option.bind (idx a0.Found v6) fun x8 =>
  Option.bind (idx a0.Marked v6) fun x9 =>
  if decide (x9>x8)=true then
   some 50
  else
   Option.bind (idx a0.Slugs v6) fun x11 =>
   rec1 (w64 (v5+(w64 (x8+x11)))) (w64 (v6+1))
 else
  zel v5
def zbz (a0:Box):Nat->Int->Int->Option (Int)
 | 0,_,_=>none
 | m+1,v5,v6=>zdy a0 (zbz a0 m) v5 v6
def zfw (n:Nat) (a0:Box):Option (Int) :=
 zbz a0 n 0 0
def zdl (rec2:Int->Option (Int)) (v12:Int) (v15:Bool):Option (Int) :=
 if v15=true then
  some 50
 else
  rec2 (w64 (v12+1))
def zeI (n:Nat) (a0:Box) (rec2:Int->Option (Int)) (v12:Int):Option (Int) :=
 if decide (v12<3)=true then
  Option.bind (idx ([a0.Found,a0.Marked,a0.Slugs]:List (List Int)) v12) fun x14 =>
  if ((x14.length:Int) != (a0.Wheel.Coins.length:Int))=true then
   zdl rec2 v12 true
  else
   Option.bind (zbq n (fun (x0:Int) (_:Unit)=>(zdk x0).map fun y=>(y,())) x14 ()) fun r18 =>
   zdl rec2 v12 r18.1
 else
  zfw n a0
def zaN (n:Nat) (a0:Box):Nat->Int->Option (Int)
 | 0,_=>none
 | m+1,v12=>zeI n a0 (zaN n a0 m) v12
def zcG (n:Nat) (a0:Box) (v1:Bool):Option (Int) :=
 if v1=true then
  some 50
 else
  zaN n a0 n 0
def zfz (n:Nat) (a0:Box):Option (Int) :=
 Option.bind (zfT n a0.Wheel) fun r19 =>
 if (r19 != 0)=true then
  zcG n a0 true
 else
  Option.bind (zcP a0.Plays 0 9999) fun r21 =>
  if (!r21)=true then
   zcG n a0 true
  else
   Option.bind (zcP a0.Skips 0 9) fun r23 =>
   zcG n a0 (!r23)
def zdM (n:Nat) (a0:Box):Option ((Option Box_)×Int) :=
 Option.bind (zfz n a0) fun r1 =>
 if (r1 != 0)=true then
  some ((none:Option Box_),r1)
 else
  some ((some (⟨a0⟩:Box_)),0)
structure Step_ where
 act:Int
 from_:PointT_
 deriving DecidableEq,Inhabited,Repr
abbrev Step_.cells (x:Step_):List AV:=[.v (.int .i64 x.act),.v (.int .i64 x.from_.Stand.Place),.v (.int .i64 x.from_.Stand.Credit),.v (.int .i64 x.from_.in_.c0),.v (.int .i64 x.from_.in_.c1),.v (.int .i64 x.from_.in_.c2),.v (.int .i64 x.from_.in_.c3),.v (.int .i64 x.from_.bought)]
def zam (x:Step_):Value:=.agg (([x.act,x.from_.Stand.Place,x.from_.Stand.Credit,x.from_.in_.c0,x.from_.in_.c1,x.from_.in_.c2,x.from_.in_.c3,x.from_.bought]:List Int).map kvI).toArray
abbrev zaJ:PointT_:=⟨⟨0,0⟩,⟨0,0,0,0⟩,0⟩
abbrev za4:Step_:=⟨0,zaJ⟩
def zk7 (x y:Bag_):Bool:=(x.c0==y.c0)&&((x.c1==y.c1)&&((x.c2==y.c2)&&((x.c3==y.c3)&&true)))
def zeY (p o:PointT_):Bool:=decide (p.Stand.Place<o.Stand.Place) || ((p.Stand.Place==o.Stand.Place)&&decide (p.Stand.Credit<o.Stand.Credit))
def zko (al:Bag_) (E:List (Int×PointT_)) (p:PointT_):Bool:=zk7 p.in_ al&&(!zcm E p.bought || zeY p (zgM zaJ E p.bought))
def za5 (al:Bag_) (E:List (Int×PointT_)) (p:PointT_):List (Int×PointT_):=if zko al E p=true then zg9 E p.bought p else E
def zew (al:Bag_) (M:List (PointT_×Step_)):List (Int×PointT_):=(M.map (·.1)).foldl (za5 al) []
def zis (M:List (PointT_×Step_)):Bool:=M.all (fun p=>okI p.1.bought)&&decide (M.length<=1048576)
def zdb (v1:Int):Option (Int) :=
 some v1
def zcI (a0:Bag_) (rec1:Int->Int->Option (Int)) (v2:Int) (v3:Int):Option (Int) :=
 if decide (v3<4)=true then
  Option.bind (idx ([a0.c0,a0.c1,a0.c2,a0.c3]:List Int) v3) fun x5 =>
  rec1 (w64 (v2+x5)) (w64 (v3+1))
 else
  zdb v2
def zbd (a0:Bag_):Nat->Int->Int->Option (Int)
 | 0,_,_=>none
 | m+1,v2,v3=>zcI a0 (zbd a0 m) v2 v3
def zdm (n:Nat) (a0:Bag_):Option (Int) :=
 zbd a0 n 0 0
abbrev zit:=List (PointT_×Step_)×List PointT_
abbrev zd9 (y:PointT_) (c:Int):PointT_:=⟨⟨y.Stand.Place,min y.Stand.Credit c⟩,y.in_,y.bought⟩
def zeq (n:Nat) (al:Bag_) (x:PointT_) (act:Int) (y:PointT_) (S:zit):Option zit :=
 Option.bind (zdm n al) fun r1 =>
 Option.bind (zdm n y.in_) fun r2 =>
 Option.bind (zgu zbE za4 S.1 (zd9 y (w64 (r1-r2)))) fun u =>
 if zcm S.1 (zd9 y (w64 (r1-r2)))=true then some S
 else
  Option.bind (zkj zbE S.1 (zd9 y (w64 (r1-r2))) ⟨act,x⟩) fun m =>
  if S.2.length+1<=1048576 then some (m,S.2++[zd9 y (w64 (r1-r2))]) else none
def zhI {S:Type} (n:Nat) (aF:Wheel_->S->Option (Bool×S)) (a0:Wheel) (st:S):Option ((Wheel_×Int)×S) :=
 Option.bind (zfT n a0) fun r1 =>
 if (r1 != 0)=true then
  some (((⟨(⟨0,([]:List Int),([]:List Int)⟩:Wheel)⟩:Wheel_),r1),st)
 else
  Option.bind (aF (⟨a0⟩:Wheel_) st) fun r3 =>
  if (!r3.1)=true then
   some (((⟨(⟨0,([]:List Int),([]:List Int)⟩:Wheel)⟩:Wheel_),1),r3.2)
  else
   some (((⟨a0⟩:Wheel_),0),r3.2)
def zdc (a0:Wheel_) (a1:Int) (a2:Int) (v1:Int):Option (Int×Int) :=
 Option.bind (rem (w64 (a1+a2)) a0.Wheel.Round) fun q2 =>
 some (q2,v1)
def zcJ (a0:Wheel_) (a1:Int) (a2:Int) (rec1:Int->Int->Option (Int×Int)) (v3:Int) (v4:Int):Option (Int×Int) :=
 if decide (v4<(a0.Wheel.Notches.length:Int))=true then
  Option.bind (idx a0.Wheel.Notches v4) fun x6 =>
  Option.bind (quo (w64 ((w64 ((w64 (a1+a2))-x6))+a0.Wheel.Round)) a0.Wheel.Round) fun q7 =>
  Option.bind (quo (w64 ((w64 (a1-x6))+a0.Wheel.Round)) a0.Wheel.Round) fun q8 =>
  rec1 (w64 (v3+(w64 (q7-q8)))) (w64 (v4+1))
 else
  zdc a0 a1 a2 v3
def zbe (a0:Wheel_) (a1:Int) (a2:Int):Nat->Int->Int->Option (Int×Int)
 | 0,_,_=>none
 | m+1,v3,v4=>zcJ a0 a1 a2 (zbe a0 a1 a2 m) v3 v4
def zem (n:Nat) (a0:Wheel_) (a1:Int) (a2:Int):Option (Int×Int) :=
 zbe a0 a1 a2 n 0 0
def zeJ (n:Nat) (a0:Wheel_) (a1:Stand) (a2:Int):Option (Stand) :=
 if (a2 != (-1))=true then
  Option.bind (idx a0.Wheel.Coins a2) fun x2 =>
  Option.bind (zem n a0 a1.Place x2) fun r3 =>
  some (⟨r3.1,w64 (a1.Credit+r3.2)⟩:Stand)
 else
  if decide (a1.Credit>0)=true then
   some (⟨0,w64 (a1.Credit-1)⟩:Stand)
  else
   some a1
def zdd (a0:Wheel_) (a1:Int):Option (Bool) :=
 Option.bind (zc6 a1 0 (w64 (a0.Wheel.Round-1))) fun r1 =>
 some r1
def zcl {S:Type} (aF:Int->S->Option (Bool×S)) (a0:Int) (st:S):Option (Bool×S) :=
 Option.bind (aF a0 st) fun r1 =>
 some ((!r1.1),r1.2)
def zdn {S:Type} (v1:Bool) (v2:S):Option (Bool×S) :=
 some (v1,v2)
def zfA {S:Type} (n:Nat) (aF:Int->S->Option (Bool×S)) (a0:List Int) (st:S):Option (Bool×S) :=
 if decide ((a0.length:Int)<=20)=true then
  Option.bind (zbq n (zcl aF) a0 st) fun r4 =>
  zdn (!r4.1) r4.2
 else
  zdn false st
def zdz (a0:Wheel_) (a1:Int):Option (Bool) :=
 Option.bind (zc6 a1 0 (w64 ((a0.Wheel.Coins.length:Int)-1))) fun r1 =>
 some r1
def zcn (v1:Bool):Option (Bool) :=
 some v1
def zcx (a0:Wheel_) (a1:Int):Option (Bool) :=
 if (a1==(-1))=true then
  zcn true
 else
  Option.bind (zdz a0 a1) fun r3 =>
  zcn r3
def zcV (v1:Bool):Option (Bool) :=
 some v1
def zfg (n:Nat) (a0:Wheel_) (a1:Stand) (a2:List Int):Option (Bool) :=
 Option.bind (zdd a0 a1.Place) fun r2 =>
 if r2=true then
  Option.bind (zc6 a1.Credit 0 20) fun r4 =>
  if r4=true then
   Option.bind (zfA n (fun (x0:Int) (_:Unit)=>(zcx a0 x0).map fun y=>(y,())) a2 ()) fun r6 =>
   zcV r6.1
  else
   zcV false
 else
  zcV false
def zgb (v3:Int) (v4:Int) (v5:Int):Option (Stand×Int×Int) :=
 some ((⟨v4,v5⟩:Stand),v3,0)
def zfh (n:Nat) (rec1:Int->Int->Int->Int->Option (Stand×Int×Int)) (r1:(Wheel_×Int)×Unit) (v9:Int) (v10:Int) (v11:Int) (x13:Int) (v14:Int):Option (Stand×Int×Int) :=
 Option.bind (zeJ n r1.1.1 (⟨v10,v11⟩:Stand) x13) fun r15 =>
 rec1 v14 (w64 (v9+1)) r15.Place r15.Credit
def zex (n:Nat) (rec1:Int->Int->Int->Int->Option (Stand×Int×Int)) (r1:(Wheel_×Int)×Unit) (v8:Int) (v9:Int) (v10:Int) (v11:Int) (x13:Int) (v16:Bool):Option (Stand×Int×Int) :=
 if v16=true then
  zfh n rec1 r1 v9 v10 v11 x13 (w64 (v8+1))
 else
  zfh n rec1 r1 v9 v10 v11 x13 v8
def ze8 (n:Nat) (a2:List Int) (r1:(Wheel_×Int)×Unit) (rec1:Int->Int->Int->Int->Option (Stand×Int×Int)) (v8:Int) (v9:Int) (v10:Int) (v11:Int):Option (Stand×Int×Int) :=
 if decide (v9<(a2.length:Int))=true then
  Option.bind (idx a2 v9) fun x13 =>
  if (x13==(-1))=true then
   zex n rec1 r1 v8 v9 v10 v11 x13 (decide (v11>0))
  else
   zex n rec1 r1 v8 v9 v10 v11 x13 false
 else
  zgb v8 v10 v11
def zbF (n:Nat) (a2:List Int) (r1:(Wheel_×Int)×Unit):Nat->Int->Int->Int->Int->Option (Stand×Int×Int)
 | 0,_,_,_,_=>none
 | m+1,v8,v9,v10,v11=>ze8 n a2 r1 (zbF n a2 r1 m) v8 v9 v10 v11
def zeK (n:Nat) (a0:Wheel) (a1:Stand) (a2:List Int):Option (Stand×Int×Int) :=
 Option.bind (zhI n (fun (x0:Wheel_) (_:Unit)=>(zfg n x0 a1 a2).map fun y=>(y,())) a0 ()) fun r1 =>
 if (r1.1.2 != 0)=true then
  some ((⟨0,0⟩:Stand),0,r1.1.2)
 else
  zbF n a2 r1 n 0 0 a1.Place a1.Credit
def zbw (n:Nat) (b:Box_) (al:Bag_) (x:PointT_):Nat->Int->zit->Option zit
 | 0,_,_=>none
 | m+1,k,S =>
  if decide (k<(b.Box.Wheel.Coins.length:Int))=true then
   Option.bind (idx ([x.in_.c0,x.in_.c1,x.in_.c2,x.in_.c3]:List Int) k) fun e1 =>
   Option.bind (idx ([al.c0,al.c1,al.c2,al.c3]:List Int) k) fun e2 =>
   if (e1==e2)=true then zbw n b al x m (w64 (k+1)) S
   else
    Option.bind (zeK n b.Box.Wheel ⟨x.Stand.Place,0⟩ [k]) fun r =>
    Option.bind (zr8 ([x.in_.c0,x.in_.c1,x.in_.c2,x.in_.c3]:List Int) k (w64 (e1+1))) fun u =>
    Option.bind (zeq n al x k ⟨⟨r.1.Place,w64 (x.Stand.Credit+r.1.Credit)⟩,⟨u.getD 0 0,u.getD 1 0,u.getD 2 0,u.getD 3 0⟩,w64 (x.bought+r.1.Credit)⟩ S) fun S2 =>
    zbw n b al x m (w64 (k+1)) S2
  else some S
def ze9 (n:Nat) (b:Box_) (al:Bag_) (x:PointT_) (S:zit):Option zit :=
 if decide (x.Stand.Credit>0)=true then
  if decide (x.Stand.Place>0)=true then
   Option.bind (zeK n b.Box.Wheel ⟨x.Stand.Place,1⟩ [-1]) fun r =>
   zeq n al x (-1) ⟨⟨r.1.Place,w64 (x.Stand.Credit-1)⟩,x.in_,x.bought⟩ S
  else some S
 else some S
def zdr (n:Nat) (b:Box_) (al:Bag_):Nat->zit->Option (List (PointT_×Step_))
 | 0,_=>none
 | m+1,S=>match S.2 with
  | []=>some S.1
  | x::q =>
   Option.bind (ze9 n b al x (S.1,q)) fun S1 =>
   Option.bind (zbw n b al x n 0 S1) fun S2 =>
   zdr n b al m S2
def zdo (n:Nat) (a0:Option Box_) (al:Bag_):Option (List (PointT_×Step_)) :=
 Option.bind a0 fun b=>zdr n b al n ([(zaJ,⟨-2,zaJ⟩)],[zaJ])
def zdA (v1:Int) (v2:Int) (v3:Int) (v4:Int):Option (Bag_) :=
 some (⟨v1,v2,v3,v4⟩:Bag_)
def zcS (a0:Option Box_) (x5:Box_) (rec1:Int->Int->Int->Int->Int->Option (Bag_)) (v7:Int) (v8:Int) (v9:Int) (v10:Int) (v11:Int):Option (Bag_) :=
 if decide (v7<(x5.Box.Found.length:Int))=true then
  Option.bind (idx x5.Box.Found v7) fun x13 =>
  Option.bind (a0) fun x14 =>
  Option.bind (idx x14.Box.Slugs v7) fun x15 =>
  Option.bind (idx ([v8,v9,v10,v11]:List Int) v7) fun x16 =>
  Option.bind (zr8 ([v8,v9,v10,v11]:List Int) v7 (w64 (x13+x15))) fun l17 =>
  rec1 (w64 (v7+1)) (l17.getD 0 0) (l17.getD 1 0) (l17.getD 2 0) (l17.getD 3 0)
 else
  zdA v8 v9 v10 v11
def zbR (a0:Option Box_) (x5:Box_):Nat->Int->Int->Int->Int->Int->Option (Bag_)
 | 0,_,_,_,_,_=>none
 | m+1,v7,v8,v9,v10,v11=>zcS a0 x5 (zbR a0 x5 m) v7 v8 v9 v10 v11
def zdN (n:Nat) (a0:Option Box_):Option (Bag_) :=
 Option.bind (a0) fun x5 =>
 zbR a0 x5 n 0 0 0 0 0
def zcW (n:Nat) (a0:Option Box_):Option (List Int) :=
 Option.bind (zdN n a0) fun r1 =>
 Option.bind (zdo n a0 r1) fun M =>
 Option.bind (zdN n a0) fun r2 =>
 if zis M=true then some (zeW ((zew r2 M).map (·.1))) else none
def zfU (n:Nat) (a0:Box):Option ((List Int)×Int) :=
 Option.bind (zdM n a0) fun r1 =>
 if (r1.2 != 0)=true then
  some (([]:List Int),r1.2)
 else
  Option.bind (zcW n r1.1) fun r3 =>
  some (r3,0)
def slices_Clone_int (a0:List Int):Option (List Int):=app [] a0
def zcc {S:Type} (rec:(Option Box_)->(List Int)->Int->S->Option (Unit×S)) (a0:Option Box_) (a1:List Int) (a2:Int) (rec1:Int->S->Option (Unit×S)) (v5:Int) (v6:S):Option (Unit×S) :=
 if decide (v5<(w64 (a2+1)))=true then
  Option.bind (slices_Clone_int a1) fun l8 =>
  Option.bind (app l8 ([v5]:List Int)) fun l9 =>
  Option.bind (rec a0 l9 (w64 (a2-v5)) v6) fun r10 =>
  rec1 (w64 (v5+1)) r10.2
 else
  some ((),v6)
def zbB {S:Type} (rec:(Option Box_)->(List Int)->Int->S->Option (Unit×S)) (a0:Option Box_) (a1:List Int) (a2:Int):Nat->Int->S->Option (Unit×S)
 | 0,_,_=>none
 | m+1,v5,v6=>zcc rec a0 a1 a2 (zbB rec a0 a1 a2 m) v5 v6
def zcK {S:Type} (n:Nat) (rec:(Option Box_)->(List Int)->Int->S->Option (Unit×S)) (aF:(List Int)->S->Option (Unit×S)) (a0:Option Box_) (a1:List Int) (a2:Int) (st:S):Option (Unit×S) :=
 Option.bind (a0) fun x1 =>
 if ((a1.length:Int)==(x1.Box.Wheel.Coins.length:Int))=true then
  Option.bind (aF a1 st) fun r3 =>
  some ((),r3.2)
 else
  zbB rec a0 a1 a2 n 0 st
def zbA {S:Type}:Nat->((List Int)->S->Option (Unit×S))->(Option Box_)->(List Int)->Int->S->Option (Unit×S)
 | 0,_,_,_,_,_=>none
 | n+1,aF,a0,a1,a2,st=>zcK n (zbA n aF) aF a0 a1 a2 st
def zcT (v1:Int):Option (Int) :=
 some v1
def zcA (a0:Option Box_) (a1:List Int) (rec1:Int->Int->Option (Int)) (v2:Int) (v3:Int):Option (Int) :=
 if decide (v3<(a1.length:Int))=true then
  Option.bind (idx a1 v3) fun x5 =>
  Option.bind (a0) fun x6 =>
  Option.bind (idx x6.Box.Wheel.Coins v3) fun x7 =>
  rec1 (w64 (v2+(w64 (x5*x7)))) (w64 (v3+1))
 else
  zcT v2
def zbr (a0:Option Box_) (a1:List Int):Nat->Int->Int->Option (Int)
 | 0,_,_=>none
 | m+1,v2,v3=>zcA a0 a1 (zbr a0 a1 m) v2 v3
def za8 (n:Nat) (a0:Option Box_) (a1:List Int):Option (Int) :=
 zbr a0 a1 n 0 0
def zbG (purse:List Int):Nat->Int->Bag_->Option Bag_
 | 0,_,_=>none
 | m+1,k,al =>
  if decide (k<(purse.length:Int))=true then
   Option.bind (idx purse k) fun x =>
   Option.bind (idx ([al.c0,al.c1,al.c2,al.c3]:List Int) k) fun e =>
   Option.bind (zr8 ([al.c0,al.c1,al.c2,al.c3]:List Int) k (w64 (e+x))) fun u =>
   zbG purse m (w64 (k+1)) ⟨u.getD 0 0,u.getD 1 0,u.getD 2 0,u.getD 3 0⟩
  else some al
def zdO (M:List (PointT_×Step_)):Nat->Step_->List Int->Option (List Int)
 | 0,_,_=>none
 | m+1,s,acts =>
  if (s.act != -2)=true then
   if acts.length+1<=1048576 then
    Option.bind (zgu zbE za4 M s.from_) fun s2=>zdO M m s2 (acts++[s.act])
   else none
  else some acts
def zbH (n:Nat) (b:Box_) (M:List (PointT_×Step_)) (E:List (Int×PointT_)) (bs:List Int):Nat->Int->Option (List Int×Bool)
 | 0,_=>none
 | m+1,k =>
  if decide (k<(bs.length:Int))=true then
   Option.bind (idx bs k) fun x =>
   Option.bind (zcP x b.Box.Plays (w64 (b.Box.Plays+b.Box.Skips))) fun w =>
   if (!w)=true then zbH n b M E bs m (w64 (k+1))
   else
    Option.bind (zgu okI zaJ E x) fun p =>
    Option.bind (zgu zbE za4 M p) fun s =>
    Option.bind (zdO M n s []) fun acts =>
    some (acts.reverse,true)
  else some ([],false)
def zb2 (n:Nat) (a0:Option Box_) (purse:List Int):Option (List Int×Bool) :=
 Option.bind a0 fun b =>
 Option.bind (zdN n a0) fun r1 =>
 Option.bind (zbG purse n 0 r1) fun al =>
 Option.bind (zdo n a0 al) fun M =>
 if zis M=true then zbH n b M (zew al M) (zeW ((zew al M).map (·.1))) n 0 else none
def zaI (n:Nat) (a:Option Box_) (purse:List Int):List Gap_->Option (Unit×List Gap_)
 | [] =>
  Option.bind (zb2 n a purse) fun e =>
  if (!e.2)=true then some ((),[]) else some ((),[⟨purse,e.1⟩])
 | x::gs =>
  Option.bind (za8 n a purse) fun w1 =>
  Option.bind (za8 n a x.purse) fun w2 =>
  if decide (w1>w2)=true then some ((),x::gs)
  else
   Option.bind (zb2 n a purse) fun e =>
   if (!e.2)=true then some ((),x::gs)
   else
    Option.bind (za8 n a purse) fun w3 =>
    Option.bind (za8 n a x.purse) fun w4 =>
    if decide (w3<w4)=true then some ((),[⟨purse,e.1⟩])
    else Option.bind (app (x::gs) ([⟨purse,e.1⟩]:List Gap_)) fun l=>some ((),l)
def zb3 (n:Nat) (a0:Option Box_):Option (List Gap_) :=
 Option.bind (zbA n (fun x0 s=>zaI n a0 x0 s) a0 ([]:List Int) 2 ([]:List Gap_)) fun r =>
 some r.2
def zds (n:Nat) (a0:Box):Option ((Option Box_)×(List Gap_)×Int) :=
 Option.bind (zdM n a0) fun r1 =>
 if (r1.2 != 0)=true then
  some ((none:Option Box_),([]:List Gap_),r1.2)
 else
  Option.bind (zb3 n r1.1) fun r3 =>
  if ((r3.length:Int)==0)=true then
   some ((none:Option Box_),([]:List Gap_),3)
  else
   some (r1.1,r3,0)
def zdP (n:Nat) (a0:Box):Option (Int×Int) :=
 Option.bind (zds n a0) fun r1 =>
 if (r1.2.2 != 0)=true then
  some (0,r1.2.2)
 else
  Option.bind (idx r1.2.1 0) fun x3 =>
  Option.bind (za8 n r1.1 x3.purse) fun r4 =>
  some (r4,0)
def zgc (n:Nat) (a0:Box):Option (Int×Int×Int×Int) :=
 Option.bind (zdM n a0) fun r1 =>
 if (r1.2 != 0)=true then
  some (0,0,0,r1.2)
 else
  Option.bind (za8 n r1.1 a0.Marked) fun r3 =>
  Option.bind (za8 n r1.1 a0.Found) fun r4 =>
  Option.bind (za8 n r1.1 a0.Slugs) fun r5 =>
  some (w64 (r4-r3),r3,r5,0)
def zdZ:Option (Bool) :=
 some true
def zde (a0:List Int) (a1:List Int) (rec1:Int->Option (Bool)) (v2:Int):Option (Bool) :=
 if decide (v2<(a0.length:Int))=true then
  Option.bind (idx a0 v2) fun x4 =>
  Option.bind (idx a1 v2) fun x5 =>
  if (x4 != x5)=true then
   some false
  else
   rec1 (w64 (v2+1))
 else
  zdZ
def zbI (a0:List Int) (a1:List Int):Nat->Int->Option (Bool)
 | 0,_=>none
 | m+1,v2=>zde a0 a1 (zbI a0 a1 m) v2
def zdt (n:Nat) (a0:List Int) (a1:List Int):Option (Bool) :=
 if ((a0.length:Int) != (a1.length:Int))=true then
  some false
 else
  zbI a0 a1 n 0
def zd0 (v2:Int):Option (Int) :=
 some v2
def zdf (a0:List Int) (rec1:Int->Int->Option (Int)) (v3:Int) (v4:Int):Option (Int) :=
 if decide (v4<(a0.length:Int))=true then
  Option.bind (idx a0 v4) fun x6 =>
  rec1 (max v3 x6) (w64 (v4+1))
 else
  zd0 v3
def zb4 (a0:List Int):Nat->Int->Int->Option (Int)
 | 0,_,_=>none
 | m+1,v3,v4=>zdf a0 (zb4 a0 m) v3 v4
def zd1 (n:Nat) (a0:List Int):Option (Int) :=
 Option.bind (idx a0 0) fun x1 =>
 zb4 a0 n x1 1
def slices_Max_int (n:Nat) (a0:List Int):Option (Int) :=
 if decide ((a0.length:Int)<1)=true then
  none
 else
  zd1 n a0
def zfB (n:Nat) (a0:Box):Option (Int×Int) :=
 Option.bind (zdM n a0) fun r1 =>
 if (r1.2 != 0)=true then
  some (0,r1.2)
 else
  Option.bind (zcW n r1.1) fun r3 =>
  Option.bind (slices_Max_int n r3) fun r4 =>
  some ((max 0 (w64 (a0.Plays-r4))),0)
def ziu:Option (Wheel) :=
 some (⟨50,([10,20,25]:List Int),([5,10,25]:List Int)⟩:Wheel)
def zgT:Option (Box) :=
 Option.bind (ziu) fun r1 =>
 some (⟨r1,([0,2,1]:List Int),([0,1,0]:List Int),([0,0,0]:List Int),6,0⟩:Box)
def zbx (v6:Bool):Option (Bool) :=
 some v6
def zeZ (n:Nat):Option (Bool) :=
 Option.bind (zgT) fun r1 =>
 Option.bind (zfU n r1) fun r2 =>
 Option.bind (zgc n r1) fun r3 =>
 Option.bind (zdP n r1) fun r4 =>
 Option.bind (zfB n r1) fun r5 =>
 if (r2.2==0)=true then
  if (r3.2.2.2==0)=true then
   if (r4.2==0)=true then
    if (r5.2==0)=true then
     Option.bind (zdt n r2.1 ([3,4,5]:List Int)) fun r11 =>
     if r11=true then
      if (r3.1==35)=true then
       if (r3.2.1==10)=true then
        if (r4.1==5)=true then
         zbx (r5.1==1)
        else
         zbx false
       else
        zbx false
      else
       zbx false
     else
      zbx false
    else
     zbx false
   else
    zbx false
  else
   zbx false
 else
  zbx false
def zen (v1:Bool):Option (Bool) :=
 some v1
def zgU (a0:Int):Option (Bool) :=
 if (a0==0)=true then
  zen true
 else
  zen (a0==3)
def zdg (v1:Int):Option (Int) :=
 some v1
def zcL (a0:Wheel) (a1:List Int) (rec1:Int->Int->Option (Int)) (v2:Int) (v3:Int):Option (Int) :=
 if decide (v3<(a1.length:Int))=true then
  Option.bind (idx a1 v3) fun x5 =>
  Option.bind (idx a0.Coins v3) fun x6 =>
  rec1 (w64 (v2+(w64 (x5*x6)))) (w64 (v3+1))
 else
  zdg v2
def zbC (a0:Wheel) (a1:List Int):Nat->Int->Int->Option (Int)
 | 0,_,_=>none
 | m+1,v2,v3=>zcL a0 a1 (zbC a0 a1 m) v2 v3
def zeo (n:Nat) (a0:Wheel) (a1:List Int):Option (Int) :=
 zbC a0 a1 n 0 0
def zd2 (a1:List Int):Option (Bool) :=
 some (decide ((a1.length:Int)<=20))
def zdh (a0:Wheel) (a1:List Int) (a2:Int) (rec1:Int->Option (Bool)) (v1:Int):Option (Bool) :=
 if decide (v1<(a1.length:Int))=true then
  Option.bind (idx a1 v1) fun x3 =>
  Option.bind (zc4 x3 a2 (w64 ((a0.Coins.length:Int)-1))) fun r4 =>
  if (!r4)=true then
   some false
  else
   rec1 (w64 (v1+1))
 else
  zd2 a1
def zb5 (a0:Wheel) (a1:List Int) (a2:Int):Nat->Int->Option (Bool)
 | 0,_=>none
 | m+1,v1=>zdh a0 a1 a2 (zb5 a0 a1 a2 m) v1
def zgn (n:Nat) (a0:Wheel) (a1:List Int) (a2:Int):Option (Bool) :=
 zb5 a0 a1 a2 n 0
def zfV (n:Nat) (a0:Wheel) (a1:List Int):Option (Bool) :=
 Option.bind (zgn n a0 a1 (-1)) fun r1 =>
 some r1
def zcX (n:Nat) (a0:Box):Option ((List Int)×(List Int)×Int) :=
 Option.bind (zds n a0) fun r1 =>
 if (r1.2.2 != 0)=true then
  some (([]:List Int),([]:List Int),r1.2.2)
 else
  Option.bind (idx r1.2.1 0) fun x3 =>
  Option.bind (idx r1.2.1 0) fun x4 =>
  some (x3.purse,x4.acts,0)
def zdi (a0:Box) (a1:Int):Option (Bool) :=
 Option.bind (zc5 a1 a0.Plays (w64 (a0.Plays+a0.Skips))) fun r1 =>
 some r1
def zey (v1:List Int):Option ((List Int)) :=
 some v1
def zez (rec1:(List Int)->Int->Option ((List Int))) (v3:Int) (v5:List Int):Option ((List Int)) :=
 rec1 v5 (w64 (v3+1))
def zc7 (rec1:(List Int)->Int->Option ((List Int))) (v2:List Int) (v3:Int) (v6:Int):Option ((List Int)) :=
 Option.bind (app v2 ([v6]:List Int)) fun l7 =>
 zez rec1 v3 l7
def zdQ (rec2:Int->Int->Option ((List Int))) (v9:Int) (v11:Int):Option ((List Int)) :=
 rec2 v11 (w64 (v9+1))
def zea (rec1:(List Int)->Int->Option ((List Int))) (a1:List Int) (v2:List Int) (v3:Int) (rec2:Int->Int->Option ((List Int))) (v8:Int) (v9:Int):Option ((List Int)) :=
 if decide (v9<(a1.length:Int))=true then
  Option.bind (idx a1 v9) fun x12 =>
  if (x12==v3)=true then
   zdQ rec2 v9 (w64 (v8+1))
  else
   zdQ rec2 v9 v8
 else
  zc7 rec1 v2 v3 v8
def zbf (rec1:(List Int)->Int->Option ((List Int))) (a1:List Int) (v2:List Int) (v3:Int):Nat->Int->Int->Option ((List Int))
 | 0,_,_=>none
 | m+1,v8,v9=>zea rec1 a1 v2 v3 (zbf rec1 a1 v2 v3 m) v8 v9
def zeb (n:Nat) (a0:Wheel) (a1:List Int) (rec1:(List Int)->Int->Option ((List Int))) (v2:List Int) (v3:Int):Option ((List Int)) :=
 if decide (v3<(a0.Coins.length:Int))=true then
  zbf rec1 a1 v2 v3 n 0 0
 else
  zey v2
def zaL (n:Nat) (a0:Wheel) (a1:List Int):Nat->(List Int)->Int->Option ((List Int))
 | 0,_,_=>none
 | m+1,v2,v3=>zeb n a0 a1 (zaL n a0 a1 m) v2 v3
def zgy (n:Nat) (a0:Wheel) (a1:List Int):Option ((List Int)) :=
 zaL n a0 a1 n ([]:List Int) 0
def zcM (n:Nat) (a1:List Int):Option (Bool) :=
 Option.bind (zeX n a1) fun r2 =>
 some (decide (r2<=2))
def zbs (n:Nat) (a1:List Int) (rec1:Int->Option (Bool)) (v3:Int):Option (Bool) :=
 if decide (v3<(a1.length:Int))=true then
  Option.bind (idx a1 v3) fun x5 =>
  Option.bind (zc5 x5 0 2) fun r6 =>
  if (!r6)=true then
   some false
  else
   rec1 (w64 (v3+1))
 else
  zcM n a1
def zaV (n:Nat) (a1:List Int):Nat->Int->Option (Bool)
 | 0,_=>none
 | m+1,v3=>zbs n a1 (zaV n a1 m) v3
def zby (n:Nat) (a0:Box) (a1:List Int):Option (Bool) :=
 if ((a1.length:Int) != (a0.Found.length:Int))=true then
  some false
 else
  zaV n a1 n 0
def zgV:Option (Bool) :=
 some false
def zfC (a0:List Int) (a1:Int) (rec1:Int->Option (Bool)) (v1:Int):Option (Bool) :=
 if decide (v1<(a0.length:Int))=true then
  Option.bind (idx a0 v1) fun x3 =>
  if (x3==a1)=true then
   some true
  else
   rec1 (w64 (v1+1))
 else
  zgV
def zer (a0:List Int) (a1:Int):Nat->Int->Option (Bool)
 | 0,_=>none
 | m+1,v1=>zfC a0 a1 (zer a0 a1 m) v1
def zlZ (n:Nat) (a0:List Int) (a1:Int):Option (Bool) :=
 zer a0 a1 n 0
def zgd (v1:Int) (v2:Int):Option (Int×Int) :=
 some (v1,v2)
def zfi (rec1:Int->Int->Int->Option (Int×Int)) (v5:Int) (v7:Int) (v8:Int):Option (Int×Int) :=
 rec1 v7 v8 (w64 (v5+1))
def zfj (rec1:Int->Int->Int->Option (Int×Int)) (a0:Wheel) (v3:Int) (v5:Int) (v9:Int):Option (Int×Int) :=
 if ((w64 (v3+1))==a0.Round)=true then
  zfi rec1 v5 0 v9
 else
  zfi rec1 v5 (w64 (v3+1)) v9
def zfa (n:Nat) (a0:Wheel) (a2:Int) (rec1:Int->Int->Int->Option (Int×Int)) (v3:Int) (v4:Int) (v5:Int):Option (Int×Int) :=
 if decide (v5<a2)=true then
  Option.bind (zlZ n a0.Notches (w64 (v3+1))) fun r11 =>
  if r11=true then
   zfj rec1 a0 v3 v5 (w64 (v4+1))
  else
   zfj rec1 a0 v3 v5 v4
 else
  zgd v3 v4
def zcd (n:Nat) (a0:Wheel) (a2:Int):Nat->Int->Int->Int->Option (Int×Int)
 | 0,_,_,_=>none
 | m+1,v3,v4,v5=>zfa n a0 a2 (zcd n a0 a2 m) v3 v4 v5
def ziv (n:Nat) (a0:Wheel) (a1:Int) (a2:Int):Option (Int×Int) :=
 zcd n a0 a2 n a1 0 0
def ziw (n:Nat) (a0:Wheel) (a1:Stand) (a2:Int):Option (Stand×Bool) :=
 if decide (a2≥0)=true then
  Option.bind (idx a0.Coins a2) fun x2 =>
  Option.bind (ziv n a0 a1.Place x2) fun r3 =>
  some ((⟨r3.1,w64 (a1.Credit+r3.2)⟩:Stand),false)
 else
  if (a1.Credit==0)=true then
   some (a1,false)
  else
   some ((⟨0,w64 (a1.Credit-1)⟩:Stand),true)
def zfD (v1:Int):Option (Int) :=
 some v1
def zeL (rec1:Int->Int->Int->Int->Option (Int)) (v5:Int) (r10:Stand×Bool) (v11:Int):Option (Int) :=
 rec1 v11 (w64 (v5+1)) r10.1.Place r10.1.Credit
def zeM (n:Nat) (a0:Wheel) (a1:List Int) (rec1:Int->Int->Int->Int->Option (Int)) (v4:Int) (v5:Int) (v6:Int) (v7:Int):Option (Int) :=
 if decide (v5<(a1.length:Int))=true then
  Option.bind (idx a1 v5) fun x9 =>
  Option.bind (ziw n a0 (⟨v6,v7⟩:Stand) x9) fun r10 =>
  if r10.2=true then
   zeL rec1 v5 r10 (w64 ((w64 (v4+(w64 (r10.1.Credit-v7))))+1))
  else
   zeL rec1 v5 r10 (w64 (v4+(w64 (r10.1.Credit-v7))))
 else
  zfD v4
def zb8 (n:Nat) (a0:Wheel) (a1:List Int):Nat->Int->Int->Int->Int->Option (Int)
 | 0,_,_,_,_=>none
 | m+1,v4,v5,v6,v7=>zeM n a0 a1 (zb8 n a0 a1 m) v4 v5 v6 v7
def zgz (n:Nat) (a0:Wheel) (a1:List Int):Option (Int) :=
 zb8 n a0 a1 n 0 0 0 0
def zco (v5:Bool):Option (Bool) :=
 some v5
def zcp (n:Nat) (a0:Box) (a1:List Int) (a2:List Int):Option (Bool) :=
 Option.bind (zgx n a0) fun r3 =>
 Option.bind (zgw n r3 a1) fun r4 =>
 Option.bind (zeX n r4) fun r6 =>
 if decide ((a2.length:Int)<=(w64 (2*r6)))=true then
  Option.bind (zgy n a0.Wheel a2) fun r8 =>
  Option.bind (zdt n r8 r4) fun r9 =>
  if r9=true then
   Option.bind (zgz n a0.Wheel a2) fun r11 =>
   Option.bind (zdi a0 r11) fun r12 =>
   zco r12
  else
   zco false
 else
  zco false
def zcq (rec1:Int->Option (Bool)) (v13:Int) (v15:Bool):Option (Bool) :=
 if v15=true then
  some false
 else
  rec1 (w64 (v13+1))
def zcB (n:Nat) (a0:Box) (a1:List Int) (a2:List Int) (rec1:Int->Option (Bool)) (v13:Int):Option (Bool) :=
 if decide (v13<(a2.length:Int))=true then
  Option.bind (idx a2 v13) fun x17 =>
  if decide (x17<(-1))=true then
   zcq rec1 v13 true
  else
   Option.bind (idx a2 v13) fun x19 =>
   zcq rec1 v13 (decide (x19≥(a0.Found.length:Int)))
 else
  zcp n a0 a1 a2
def zaZ (n:Nat) (a0:Box) (a1:List Int) (a2:List Int):Nat->Int->Option (Bool)
 | 0,_=>none
 | m+1,v13=>zcB n a0 a1 a2 (zaZ n a0 a1 a2 m) v13
def zbt (n:Nat) (a0:Box) (a1:List Int) (a2:List Int) (v1:Bool):Option (Bool) :=
 if v1=true then
  some false
 else
  zaZ n a0 a1 a2 n 0
def zd3 (n:Nat) (a0:Box) (a1:List Int) (a2:List Int):Option (Bool) :=
 if decide ((a2.length:Int)>40)=true then
  zbt n a0 a1 a2 true
 else
  if decide ((a1.length:Int)>40)=true then
   zbt n a0 a1 a2 true
  else
   Option.bind (zby n a0 a1) fun r22 =>
   zbt n a0 a1 a2 (!r22)
def zce (v20:Bool):Option (Bool) :=
 some v20
def za2 (n:Nat) (a0:Box) (r5:Int×Int) (v16:List Int) (v17:Bool):Option (Bool) :=
 if v17=true then
  Option.bind (zeZ n) fun r19 =>
  some r19
 else
  if (r5.2==0)=true then
   Option.bind (zeo n a0.Wheel v16) fun r22 =>
   if decide (r5.1<=r22)=true then
    Option.bind (zeZ n) fun r24 =>
    zce r24
   else
    zce false
  else
   zce false
def zcf (n:Nat) (a0:Box) (a1:List Int) (r5:Int×Int) (v16:List Int):Option (Bool) :=
 Option.bind (zby n a0 v16) fun r25 =>
 if (!r25)=true then
  za2 n a0 r5 v16 true
 else
  Option.bind (zgz n a0.Wheel a1) fun r27 =>
  Option.bind (zdi a0 r27) fun r28 =>
  za2 n a0 r5 v16 (!r28)
def zcu (n:Nat) (a0:Box) (a1:List Int) (r5:Int×Int) (r15:(List Int)) (rec1:Int->(List Int)->Option (Bool)) (v30:Int) (v31:List Int):Option (Bool) :=
 if decide (v30<(r15.length:Int))=true then
  Option.bind (idx v31 v30) fun x33 =>
  Option.bind (idx r15 v30) fun x34 =>
  Option.bind (idx v31 v30) fun x35 =>
  rec1 (w64 (v30+1)) (v31.set (Int.toNat v30) (w64 (x33-x34)))
 else
  zcf n a0 a1 r5 v31
def zbg (n:Nat) (a0:Box) (a1:List Int) (r5:Int×Int) (r15:(List Int)):Nat->Int->(List Int)->Option (Bool)
 | 0,_,_=>none
 | m+1,v30,v31=>zcu n a0 a1 r5 r15 (zbg n a0 a1 r5 r15 m) v30 v31
def zbh (n:Nat) (a0:Box) (a1:List Int) (r5:Int×Int) (v12:Bool):Option (Bool) :=
 if v12=true then
  some false
 else
  Option.bind (zgy n a0.Wheel a1) fun r14 =>
  Option.bind (zgx n a0) fun r15 =>
  zbg n a0 a1 r5 r15 n 0 r14
def zbi (n:Nat) (a0:Box) (a1:List Int) (r5:Int×Int) (r6:(List Int)×(List Int)×Int) (v10:Bool):Option (Bool) :=
 if v10=true then
  some false
 else
  if (r5.2==0)=true then
   Option.bind (zd3 n a0 r6.1 r6.2.1) fun r37 =>
   if (!r37)=true then
    zbh n a0 a1 r5 true
   else
    Option.bind (zeo n a0.Wheel r6.1) fun r39 =>
    zbh n a0 a1 r5 (r39 != r5.1)
  else
   zbh n a0 a1 r5 false
def zcg (n:Nat) (a0:Box) (a1:List Int) (r5:Int×Int) (r6:(List Int)×(List Int)×Int) (v9:Bool):Option (Bool) :=
 if (r5.2==0)=true then
  zbi n a0 a1 r5 r6 (!(v9==(r5.1==0)))
 else
  zbi n a0 a1 r5 r6 (!(v9==false))
def zbJ (rec2:Bool->Int->Option (Bool)) (v42:Int) (v44:Bool):Option (Bool) :=
 rec2 v44 (w64 (v42+1))
def zcv (n:Nat) (a0:Box) (a1:List Int) (r4:(List Int)×Int) (r5:Int×Int) (r6:(List Int)×(List Int)×Int) (rec2:Bool->Int->Option (Bool)) (v41:Bool) (v42:Int):Option (Bool) :=
 if decide (v42<(r4.1.length:Int))=true then
  if v41=true then
   zbJ rec2 v42 true
  else
   Option.bind (idx r4.1 v42) fun x46 =>
   Option.bind (zdi a0 x46) fun r47 =>
   zbJ rec2 v42 r47
 else
  zcg n a0 a1 r5 r6 v41
def zaT (n:Nat) (a0:Box) (a1:List Int) (r4:(List Int)×Int) (r5:Int×Int) (r6:(List Int)×(List Int)×Int):Nat->Bool->Int->Option (Bool)
 | 0,_,_=>none
 | m+1,v41,v42=>zcv n a0 a1 r4 r5 r6 (zaT n a0 a1 r4 r5 r6 m) v41 v42
def zbj (n:Nat) (a0:Box) (a1:List Int) (r4:(List Int)×Int) (r5:Int×Int) (r6:(List Int)×(List Int)×Int) (v7:Bool):Option (Bool) :=
 if v7=true then
  some false
 else
  zaT n a0 a1 r4 r5 r6 n false 0
def za3 (n:Nat) (a0:Box) (a1:List Int) (v1:Bool):Option (Bool) :=
 if v1=true then
  Option.bind (zeZ n) fun r3 =>
  some r3
 else
  Option.bind (zfU n a0) fun r4 =>
  Option.bind (zdP n a0) fun r5 =>
  Option.bind (zcX n a0) fun r6 =>
  if (r4.2 != 0)=true then
   zbj n a0 a1 r4 r5 r6 true
  else
   Option.bind (zgU r5.2) fun r49 =>
   if (!r49)=true then
    zbj n a0 a1 r4 r5 r6 true
   else
    if (r6.2.2 != r5.2)=true then
     zbj n a0 a1 r4 r5 r6 true
    else
     zbj n a0 a1 r4 r5 r6 (decide ((r4.1.length:Int)>10000))
def zdB (n:Nat) (a0:Box) (a1:List Int):Option (Bool) :=
 Option.bind (zfS n a0) fun r52 =>
 if (!r52)=true then
  za3 n a0 a1 true
 else
  Option.bind (zfV n a0.Wheel a1) fun r54 =>
  za3 n a0 a1 (!r54)
end Go.Law
