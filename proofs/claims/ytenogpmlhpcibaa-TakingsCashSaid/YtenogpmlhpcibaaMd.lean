/-
  What the functions compute (printed by gen.py).
  Conditions: none.
-/
import Derived.Test.YtenogpmlhpcibaaAmN
set_option linter.all false
namespace Go.Law
open Go Go.AM
set_option linter.unusedVariables false
structure Wheel where
 Round:Int
 Notches:List Int
 Coins:List Int
 deriving DecidableEq,Inhabited,Repr
abbrev Wheel.cells (x:Wheel):List AV:=[.v (.int .i64 x.Round),.sl .no 1 (x.Notches.map cI),.sl .no 1 (x.Coins.map cI)]
structure Box where
 Wheel:Wheel
 Found:List Int
 Marked:List Int
 Slugs:List Int
 Plays:Int
 Skips:Int
 deriving DecidableEq,Inhabited,Repr
abbrev Box.cells (x:Box):List AV:=[.v (.int .i64 x.Wheel.Round),.sl .no 1 (x.Wheel.Notches.map cI),.sl .no 1 (x.Wheel.Coins.map cI),.sl .no 1 (x.Found.map cI),.sl .no 1 (x.Marked.map cI),.sl .no 1 (x.Slugs.map cI),.v (.int .i64 x.Plays),.v (.int .i64 x.Skips)]
structure Box_ where
 Box:Box
 deriving DecidableEq,Inhabited,Repr
abbrev Box_.cells (x:Box_):List AV:=[.v (.int .i64 x.Box.Wheel.Round),.sl .no 1 (x.Box.Wheel.Notches.map cI),.sl .no 1 (x.Box.Wheel.Coins.map cI),.sl .no 1 (x.Box.Found.map cI),.sl .no 1 (x.Box.Marked.map cI),.sl .no 1 (x.Box.Slugs.map cI),.v (.int .i64 x.Box.Plays),.v (.int .i64 x.Box.Skips)]
structure Bag_ where
 c0:Int
 c1:Int
 c2:Int
 c3:Int
 deriving DecidableEq,Inhabited,Repr
abbrev Bag_.cells (x:Bag_):List AV:=[.v (.int .i64 x.c0),.v (.int .i64 x.c1),.v (.int .i64 x.c2),.v (.int .i64 x.c3)]
structure Wheel_ where
 Wheel:Wheel
 deriving DecidableEq,Inhabited,Repr
abbrev Wheel_.cells (x:Wheel_):List AV:=[.v (.int .i64 x.Wheel.Round),.sl .no 1 (x.Wheel.Notches.map cI),.sl .no 1 (x.Wheel.Coins.map cI)]
structure Stand where
 Place:Int
 Credit:Int
 deriving DecidableEq,Inhabited,Repr
abbrev Stand.cells (x:Stand):List AV:=[.v (.int .i64 x.Place),.v (.int .i64 x.Credit)]
structure Gap_ where
 purse:List Int
 acts:List Int
 deriving DecidableEq,Inhabited,Repr
abbrev Gap_.cells (x:Gap_):List AV:=[.sl .no 1 (x.purse.map cI),.sl .no 1 (x.acts.map cI)]
structure SpotR_ where
 stand:Stand
 bought:Int
 deriving DecidableEq,Inhabited,Repr
abbrev SpotR_.cells (x:SpotR_):List AV:=[.v (.int .i64 x.stand.Place),.v (.int .i64 x.stand.Credit),.v (.int .i64 x.bought)]
structure Spot_ where
 left:Bag_
 place:Int
 credit:Int
 deriving DecidableEq,Inhabited,Repr
abbrev Spot_.cells (x:Spot_):List AV:=[.v (.int .i64 x.left.c0),.v (.int .i64 x.left.c1),.v (.int .i64 x.left.c2),.v (.int .i64 x.left.c3),.v (.int .i64 x.place),.v (.int .i64 x.credit)]
structure Clause where
 Kind:Int
 Cents:Int
 Part:Int
 More:Int
 deriving DecidableEq,Inhabited,Repr
abbrev Clause.cells (x:Clause):List AV:=[.v (.int .i64 x.Kind),.v (.int .i64 x.Cents),.v (.int .i64 x.Part),.v (.int .i64 x.More)]
structure Share where
 Clauses:List Clause
 Loan:Int
 deriving DecidableEq,Inhabited,Repr
abbrev Share.cells (x:Share):List AV:=[.sl .no 4 (x.Clauses.map Clause.cells),.v (.int .i64 x.Loan)]
structure Split where
 Operator:Int
 Owner:Int
 Repaid:Int
 deriving DecidableEq,Inhabited,Repr
abbrev Split.cells (x:Split):List AV:=[.v (.int .i64 x.Operator),.v (.int .i64 x.Owner),.v (.int .i64 x.Repaid)]
structure Week_ where
 Split:Split
 rest:Int
 owed:Int
 deriving DecidableEq,Inhabited,Repr
abbrev Week_.cells (x:Week_):List AV:=[.v (.int .i64 x.Split.Operator),.v (.int .i64 x.Split.Owner),.v (.int .i64 x.Split.Repaid),.v (.int .i64 x.rest),.v (.int .i64 x.owed)]
structure Point_ where
 Stand:Stand
 bought:Int
 deriving DecidableEq,Inhabited,Repr
abbrev Point_.cells (x:Point_):List AV:=[.v (.int .i64 x.Stand.Place),.v (.int .i64 x.Stand.Credit),.v (.int .i64 x.bought)]
structure WearRecord where
 Worn:Int
 Limit:Int
 Price:Int
 Plays:List Int
 deriving DecidableEq,Inhabited,Repr
abbrev WearRecord.cells (x:WearRecord):List AV:=[.v (.int .i64 x.Worn),.v (.int .i64 x.Limit),.v (.int .i64 x.Price),.sl .no 1 (x.Plays.map cI)]
structure Wear where
 Weeks:Int
 Price:Int
 Age:Int
 Step:Int
 Rough:List Int
 Records:List WearRecord
 deriving DecidableEq,Inhabited,Repr
abbrev Wear.cells (x:Wear):List AV:=[.v (.int .i64 x.Weeks),.v (.int .i64 x.Price),.v (.int .i64 x.Age),.v (.int .i64 x.Step),.sl .no 1 (x.Rough.map cI),.sl .no 4 (x.Records.map WearRecord.cells)]
structure WearWeek where
 Needle:Int
 Records:List Int
 deriving DecidableEq,Inhabited,Repr
abbrev WearWeek.cells (x:WearWeek):List AV:=[.v (.int .i64 x.Needle),.sl .no 1 (x.Records.map cI)]
structure BoxW_ where
 Wear:Wear
 deriving DecidableEq,Inhabited,Repr
abbrev BoxW_.cells (x:BoxW_):List AV:=[.v (.int .i64 x.Wear.Weeks),.v (.int .i64 x.Wear.Price),.v (.int .i64 x.Wear.Age),.v (.int .i64 x.Wear.Step),.sl .no 1 (x.Wear.Rough.map cI),.sl .no 4 (x.Wear.Records.map WearRecord.cells)]
structure PointT_ where
 Stand:Stand
 in_:Bag_
 bought:Int
 deriving DecidableEq,Inhabited,Repr
abbrev PointT_.cells (x:PointT_):List AV:=[.v (.int .i64 x.Stand.Place),.v (.int .i64 x.Stand.Credit),.v (.int .i64 x.in_.c0),.v (.int .i64 x.in_.c1),.v (.int .i64 x.in_.c2),.v (.int .i64 x.in_.c3),.v (.int .i64 x.bought)]
def zk0 (x:Spot_):Bool:=([x.left.c0,x.left.c1,x.left.c2,x.left.c3,x.place,x.credit]:List Int).all okI
def zbp (x:PointT_):Bool:=([x.Stand.Place,x.Stand.Credit,x.in_.c0,x.in_.c1,x.in_.c2,x.in_.c3,x.bought]:List Int).all okI
def zad (x:PointT_):Value:=.agg (([x.Stand.Place,x.Stand.Credit,x.in_.c0,x.in_.c1,x.in_.c2,x.in_.c3,x.bought]:List Int).map kvI).toArray
def zeR (v1:List Int):Option ((List Int)) :=
 some v1
def zdW (a0:List Int) (a1:List Int) (rec1:(List Int)->Int->Option ((List Int))) (v2:List Int) (v3:Int):Option ((List Int)) :=
 if decide (v3<(a0.length:Int))=true then
  Option.bind (idx a0 v3) fun x5 =>
  Option.bind (idx a1 v3) fun x6 =>
  Option.bind (app v2 ([w64 (x5+x6)]:List Int)) fun l7 =>
  rec1 l7 (w64 (v3+1))
 else
  zeR v2
def zcA (a0:List Int) (a1:List Int):Nat->(List Int)->Int->Option ((List Int))
 | 0,_,_=>none
 | m+1,v2,v3=>zdW a0 a1 (zcA a0 a1 m) v2 v3
def zgM (n:Nat) (a0:List Int) (a1:List Int):Option ((List Int)) :=
 zcA a0 a1 n ([]:List Int) 0
def zhz (n:Nat) (a0:Box):Option ((List Int)) :=
 Option.bind (zgM n a0.Found a0.Slugs) fun r1 =>
 some r1
def zc5 (v1:Bool):Option (Bool) :=
 some v1
def zc6 (a0:Int) (a1:Int) (a2:Int):Option (Bool) :=
 if decide (a0≥a1)=true then
  zc5 (decide (a0<=a2))
 else
  zc5 false
def zdX:Option (Bool) :=
 some true
def zbR (rec1:Int->Option (Bool)) (v1:Int) (v3:Bool):Option (Bool) :=
 if v3=true then
  some false
 else
  rec1 (w64 (v1+1))
def zdi (a0:List Int) (a1:Int) (a2:Int) (rec1:Int->Option (Bool)) (v1:Int):Option (Bool) :=
 if decide (v1<(a0.length:Int))=true then
  Option.bind (idx a0 v1) fun x5 =>
  Option.bind (zc6 x5 a1 a2) fun r6 =>
  if (!r6)=true then
   zbR rec1 v1 true
  else
   if decide (v1>0)=true then
    Option.bind (idx a0 v1) fun x9 =>
    Option.bind (idx a0 (w64 (v1-1))) fun x10 =>
    zbR rec1 v1 (decide (x9<=x10))
   else
    zbR rec1 v1 false
 else
  zdX
def zbw (a0:List Int) (a1:Int) (a2:Int):Nat->Int->Option (Bool)
 | 0,_=>none
 | m+1,v1=>zdi a0 a1 a2 (zbw a0 a1 a2 m) v1
def zfl (n:Nat) (a0:List Int) (a1:Int) (a2:Int):Option (Bool) :=
 zbw a0 a1 a2 n 0
def zb5 (v1:Bool):Option (Int) :=
 if v1=true then
  some 10
 else
  some 0
def zfV (n:Nat) (a0:Wheel):Option (Int) :=
 Option.bind (zc6 a0.Round 1 200) fun r3 =>
 if (!r3)=true then
  zb5 true
 else
  if decide ((a0.Notches.length:Int)>12)=true then
   zb5 true
  else
   Option.bind (zfl n a0.Notches 1 a0.Round) fun r6 =>
   if (!r6)=true then
    zb5 true
   else
    if decide ((a0.Coins.length:Int)>4)=true then
     zb5 true
    else
     Option.bind (zfl n a0.Coins 1 100) fun r9 =>
     zb5 (!r9)
def zdB (v2:Int):Option (Bool) :=
 some (decide (v2<=12))
def zcS (a1:List Int) (rec1:Int->Int->Option (Bool)) (v3:Int) (v4:Int):Option (Bool) :=
 if decide (v4<(a1.length:Int))=true then
  Option.bind (idx a1 v4) fun x6 =>
  Option.bind (zc6 x6 0 12) fun r7 =>
  if (!r7)=true then
   some false
  else
   Option.bind (idx a1 v4) fun x9 =>
   rec1 (w64 (v3+x9)) (w64 (v4+1))
 else
  zdB v3
def zbA (a1:List Int):Nat->Int->Int->Option (Bool)
 | 0,_,_=>none
 | m+1,v3,v4=>zcS a1 (zbA a1 m) v3 v4
def zdj (n:Nat) (a0:Wheel) (a1:List Int):Option (Bool) :=
 if ((a1.length:Int) != (a0.Coins.length:Int))=true then
  some false
 else
  zbA a1 n 0 0
def zdN (a0:Int) (a1:Int) (a2:Int):Option (Bool) :=
 Option.bind (zc6 a0 a1 a2) fun r1 =>
 some r1
def zds (n:Nat) (a0:Box):Option (Int) :=
 Option.bind (zgM n a0.Found a0.Slugs) fun r3 =>
 Option.bind (zdj n a0.Wheel r3) fun r4 =>
 if (!r4)=true then
  some 50
 else
  some 0
def zdC (n:Nat) (a0:Box) (rec1:Int->Option (Int)) (v6:Int):Option (Int) :=
 if decide (v6<(a0.Found.length:Int))=true then
  Option.bind (idx a0.Marked v6) fun x8 =>
  Option.bind (idx a0.Found v6) fun x9 =>
  Option.bind (zdN x8 0 x9) fun r10 =>
  if (!r10)=true then
   some 50
  else
   rec1 (w64 (v6+1))
 else
  zds n a0
def zbO (n:Nat) (a0:Box):Nat->Int->Option (Int)
 | 0,_=>none
 | m+1,v6=>zdC n a0 (zbO n a0 m) v6
def zbP (n:Nat) (a0:Box) (v1:Bool):Option (Int) :=
 if v1=true then
  some 50
 else
  zbO n a0 n 0
def ze6 (n:Nat) (a0:Box):Option (Int) :=
 Option.bind (zfV n a0.Wheel) fun r12 =>
 if (r12 != 0)=true then
  zbP n a0 true
 else
  Option.bind (zdj n a0.Wheel a0.Found) fun r14 =>
  if (!r14)=true then
   zbP n a0 true
  else
   Option.bind (zdj n a0.Wheel a0.Slugs) fun r16 =>
   if (!r16)=true then
    zbP n a0 true
   else
    if ((a0.Marked.length:Int) != (a0.Found.length:Int))=true then
     zbP n a0 true
    else
     Option.bind (zdN a0.Plays 0 9999) fun r19 =>
     if (!r19)=true then
      zbP n a0 true
     else
      Option.bind (zdN a0.Skips 0 9) fun r21 =>
      zbP n a0 (!r21)
def zeq (v1:Int):Option (Int) :=
 some v1
def zdD (a0:List Int) (rec1:Int->Int->Option (Int)) (v2:Int) (v3:Int):Option (Int) :=
 if decide (v3<(a0.length:Int))=true then
  Option.bind (idx a0 v3) fun x5 =>
  rec1 (w64 (v2+x5)) (w64 (v3+1))
 else
  zeq v2
def zci (a0:List Int):Nat->Int->Int->Option (Int)
 | 0,_,_=>none
 | m+1,v2,v3=>zdD a0 (zci a0 m) v2 v3
def zfW (n:Nat) (a0:List Int):Option (Int) :=
 zci a0 n 0 0
def zdO (v2:Bool):Option (Bool) :=
 some v2
def zgu (n:Nat) (a0:Box):Option (Bool) :=
 if decide ((max (max (max (max (a0.Wheel.Notches.length:Int) (a0.Wheel.Coins.length:Int)) (a0.Found.length:Int)) (a0.Marked.length:Int)) (a0.Slugs.length:Int))>40)=true then
  some true
 else
  Option.bind (ze6 n a0) fun r3 =>
  if (r3==0)=true then
   Option.bind (zhz n a0) fun r5 =>
   Option.bind (zfW n r5) fun r6 =>
   if decide (r6>3)=true then
    zdO true
   else
    zdO (decide ((a0.Found.length:Int)>3))
  else
   zdO false
def zer (v1:Bool):Option (Bool) :=
 some v1
def ze7 (n:Nat) (a0:Box):Option (Bool) :=
 Option.bind (zgu n a0) fun r2 =>
 if (!r2)=true then
  Option.bind (ze6 n a0) fun r4 =>
  zer (r4==0)
 else
  zer false
def zc7 (v1:Bool):Option (Bool) :=
 some v1
def zcy (a0:Int) (a1:Int) (a2:Int):Option (Bool) :=
 if decide (a1<=a0)=true then
  zc7 (decide (a0<=a2))
 else
  zc7 false
def zdY (a0:List Int) (a1:Int):Option (Bool) :=
 some (decide ((a0.length:Int)<=a1))
def zbS (rec1:Int->Option (Bool)) (v1:Int) (v4:Bool):Option (Bool) :=
 if v4=true then
  some false
 else
  rec1 (w64 (v1+1))
def zdk (a0:List Int) (a1:Int) (a2:Int) (rec1:Int->Option (Bool)) (v1:Int):Option (Bool) :=
 if decide (v1<(a0.length:Int))=true then
  Option.bind (idx a0 v1) fun x3 =>
  Option.bind (zcy x3 1 a2) fun r6 =>
  if (!r6)=true then
   zbS rec1 v1 true
  else
   if decide (v1>0)=true then
    Option.bind (idx a0 (w64 (v1-1))) fun x9 =>
    zbS rec1 v1 (decide (x3<=x9))
   else
    zbS rec1 v1 false
 else
  zdY a0 a1
def zbx (a0:List Int) (a1:Int) (a2:Int):Nat->Int->Option (Bool)
 | 0,_=>none
 | m+1,v1=>zdk a0 a1 a2 (zbx a0 a1 a2 m) v1
def zfm (n:Nat) (a0:List Int) (a1:Int) (a2:Int):Option (Bool) :=
 zbx a0 a1 a2 n 0
def zcN (v1:Bool):Option (Int) :=
 if v1=true then
  some 10
 else
  some 0
def ze8 (n:Nat) (a0:Wheel):Option (Int) :=
 Option.bind (zcy a0.Round 1 200) fun r3 =>
 if (!r3)=true then
  zcN true
 else
  Option.bind (zfm n a0.Notches 12 a0.Round) fun r5 =>
  if (!r5)=true then
   zcN true
  else
   Option.bind (zfm n a0.Coins 4 100) fun r7 =>
   zcN (!r7)
def zcr (v1:Bool):Option (Bool) :=
 some v1
def zcj (a0:Int) (a1:Int) (a2:Int):Option (Bool) :=
 if decide (a1<=a0)=true then
  zcr (decide (a0<=a2))
 else
  zcr false
def zby {S:Type} (v1:S):Option (Int×S) :=
 some ((-1),v1)
def za0 {S:Type} (a0:List Int) (aF:Int->S->Option (Bool×S)) (rec1:Int->S->Option (Int×S)) (v3:Int) (v4:S):Option (Int×S) :=
 if decide (v3<(a0.length:Int))=true then
  Option.bind (idx a0 v3) fun x6 =>
  Option.bind (aF x6 v4) fun r7 =>
  if r7.1=true then
   some (v3,r7.2)
  else
   rec1 (w64 (v3+1)) r7.2
 else
  zby v4
def zam {S:Type} (a0:List Int) (aF:Int->S->Option (Bool×S)):Nat->Int->S->Option (Int×S)
 | 0,_,_=>none
 | m+1,v3,v4=>za0 a0 aF (zam a0 aF m) v3 v4
def zcn {S:Type} (n:Nat) (aF:Int->S->Option (Bool×S)) (a0:List Int) (st:S):Option (Int×S) :=
 zam a0 aF n 0 st
def zbe {S:Type} (n:Nat) (aF:Int->S->Option (Bool×S)) (a0:List Int) (st:S):Option (Bool×S) :=
 Option.bind (zcn n aF a0 st) fun r1 =>
 some (decide (r1.1≥0),r1.2)
def zcI (a0:Int):Option (Bool) :=
 Option.bind (zcj a0 0 12) fun r1 =>
 some (!r1)
def zdE (v3:Int):Option (Int) :=
 if decide (v3>12)=true then
  some 50
 else
  some 0
def zcT (a0:Box) (rec1:Int->Int->Option (Int)) (v5:Int) (v6:Int):Option (Int) :=
 if decide (v6<(a0.Found.length:Int))=true then
  Option.bind (idx a0.Found v6) fun x8 =>
  Option.bind (idx a0.Marked v6) fun x9 =>
  if decide (x9>x8)=true then
   some 50
  else
   Option.bind (idx a0.Slugs v6) fun x11 =>
   rec1 (w64 (v5+(w64 (x8+x11)))) (w64 (v6+1))
 else
  zdE v5
def zbl (a0:Box):Nat->Int->Int->Option (Int)
 | 0,_,_=>none
 | m+1,v5,v6=>zcT a0 (zbl a0 m) v5 v6
def zeK (n:Nat) (a0:Box):Option (Int) :=
 zbl a0 n 0 0
def zcJ (rec2:Int->Option (Int)) (v12:Int) (v15:Bool):Option (Int) :=
 if v15=true then
  some 50
 else
  rec2 (w64 (v12+1))
def zdZ (n:Nat) (a0:Box) (rec2:Int->Option (Int)) (v12:Int):Option (Int) :=
 if decide (v12<3)=true then
  Option.bind (idx ([a0.Found,a0.Marked,a0.Slugs]:List (List Int)) v12) fun x14 =>
  if ((x14.length:Int) != (a0.Wheel.Coins.length:Int))=true then
   zcJ rec2 v12 true
  else
   Option.bind (zbe n (fun (x0:Int) (_:Unit)=>(zcI x0).map fun y=>(y,())) x14 ()) fun r18 =>
   zcJ rec2 v12 r18.1
 else
  zeK n a0
def zaF (n:Nat) (a0:Box):Nat->Int->Option (Int)
 | 0,_=>none
 | m+1,v12=>zdZ n a0 (zaF n a0 m) v12
def zcb (n:Nat) (a0:Box) (v1:Bool):Option (Int) :=
 if v1=true then
  some 50
 else
  zaF n a0 n 0
def zeS (n:Nat) (a0:Box):Option (Int) :=
 Option.bind (ze8 n a0.Wheel) fun r19 =>
 if (r19 != 0)=true then
  zcb n a0 true
 else
  Option.bind (zcj a0.Plays 0 9999) fun r21 =>
  if (!r21)=true then
   zcb n a0 true
  else
   Option.bind (zcj a0.Skips 0 9) fun r23 =>
   zcb n a0 (!r23)
def zc8 (n:Nat) (a0:Box):Option ((Option Box_)×Int) :=
 Option.bind (zeS n a0) fun r1 =>
 if (r1 != 0)=true then
  some ((none:Option Box_),r1)
 else
  some ((some (⟨a0⟩:Box_)),0)
structure Step_ where
 act:Int
 from_:PointT_
 deriving DecidableEq,Inhabited,Repr
abbrev Step_.cells (x:Step_):List AV:=[.v (.int .i64 x.act),.v (.int .i64 x.from_.Stand.Place),.v (.int .i64 x.from_.Stand.Credit),.v (.int .i64 x.from_.in_.c0),.v (.int .i64 x.from_.in_.c1),.v (.int .i64 x.from_.in_.c2),.v (.int .i64 x.from_.in_.c3),.v (.int .i64 x.from_.bought)]
def zah (x:Step_):Value:=.agg (([x.act,x.from_.Stand.Place,x.from_.Stand.Credit,x.from_.in_.c0,x.from_.in_.c1,x.from_.in_.c2,x.from_.in_.c3,x.from_.bought]:List Int).map kvI).toArray
abbrev zaA:PointT_:=⟨⟨0,0⟩,⟨0,0,0,0⟩,0⟩
abbrev zaW:Step_:=⟨0,zaA⟩
def zj5 (x y:Bag_):Bool:=(x.c0==y.c0)&&((x.c1==y.c1)&&((x.c2==y.c2)&&((x.c3==y.c3)&&true)))
def zeg (p o:PointT_):Bool:=decide (p.Stand.Place<o.Stand.Place) || ((p.Stand.Place==o.Stand.Place)&&decide (p.Stand.Credit<o.Stand.Credit))
def zjp (al:Bag_) (E:List (Int×PointT_)) (p:PointT_):Bool:=zj5 p.in_ al&&(!zb2 E p.bought || zeg p (zfP zaA E p.bought))
def zaX (al:Bag_) (E:List (Int×PointT_)) (p:PointT_):List (Int×PointT_):=if zjp al E p=true then zgb E p.bought p else E
def zdP (al:Bag_) (M:List (PointT_×Step_)):List (Int×PointT_):=(M.map (·.1)).foldl (zaX al) []
def zhA (M:List (PointT_×Step_)):Bool:=M.all (fun p=>okI p.1.bought)&&decide (M.length<=1048576)
def zcB (v1:Int):Option (Int) :=
 some v1
def zcd (a0:Bag_) (rec1:Int->Int->Option (Int)) (v2:Int) (v3:Int):Option (Int) :=
 if decide (v3<4)=true then
  Option.bind (idx ([a0.c0,a0.c1,a0.c2,a0.c3]:List Int) v3) fun x5 =>
  rec1 (w64 (v2+x5)) (w64 (v3+1))
 else
  zcB v2
def za8 (a0:Bag_):Nat->Int->Int->Option (Int)
 | 0,_,_=>none
 | m+1,v2,v3=>zcd a0 (za8 a0 m) v2 v3
def zcK (n:Nat) (a0:Bag_):Option (Int) :=
 za8 a0 n 0 0
abbrev zhB:=List (PointT_×Step_)×List PointT_
abbrev zdt (y:PointT_) (c:Int):PointT_:=⟨⟨y.Stand.Place,min y.Stand.Credit c⟩,y.in_,y.bought⟩
def zdI (n:Nat) (al:Bag_) (x:PointT_) (act:Int) (y:PointT_) (S:zhB):Option zhB :=
 Option.bind (zcK n al) fun r1 =>
 Option.bind (zcK n y.in_) fun r2 =>
 Option.bind (zfD zbp zaW S.1 (zdt y (w64 (r1-r2)))) fun u =>
 if zb2 S.1 (zdt y (w64 (r1-r2)))=true then some S
 else
  Option.bind (zjl zbp S.1 (zdt y (w64 (r1-r2))) ⟨act,x⟩) fun m =>
  if S.2.length+1<=1048576 then some (m,S.2++[zdt y (w64 (r1-r2))]) else none
def zgN {S:Type} (n:Nat) (aF:Wheel_->S->Option (Bool×S)) (a0:Wheel) (st:S):Option ((Wheel_×Int)×S) :=
 Option.bind (ze8 n a0) fun r1 =>
 if (r1 != 0)=true then
  some (((⟨(⟨0,([]:List Int),([]:List Int)⟩:Wheel)⟩:Wheel_),r1),st)
 else
  Option.bind (aF (⟨a0⟩:Wheel_) st) fun r3 =>
  if (!r3.1)=true then
   some (((⟨(⟨0,([]:List Int),([]:List Int)⟩:Wheel)⟩:Wheel_),1),r3.2)
  else
   some (((⟨a0⟩:Wheel_),0),r3.2)
def zcC (a0:Wheel_) (a1:Int) (a2:Int) (v1:Int):Option (Int×Int) :=
 Option.bind (rem (w64 (a1+a2)) a0.Wheel.Round) fun q2 =>
 some (q2,v1)
def zce (a0:Wheel_) (a1:Int) (a2:Int) (rec1:Int->Int->Option (Int×Int)) (v3:Int) (v4:Int):Option (Int×Int) :=
 if decide (v4<(a0.Wheel.Notches.length:Int))=true then
  Option.bind (idx a0.Wheel.Notches v4) fun x6 =>
  Option.bind (quo (w64 ((w64 ((w64 (a1+a2))-x6))+a0.Wheel.Round)) a0.Wheel.Round) fun q7 =>
  Option.bind (quo (w64 ((w64 (a1-x6))+a0.Wheel.Round)) a0.Wheel.Round) fun q8 =>
  rec1 (w64 (v3+(w64 (q7-q8)))) (w64 (v4+1))
 else
  zcC a0 a1 a2 v3
def za9 (a0:Wheel_) (a1:Int) (a2:Int):Nat->Int->Int->Option (Int×Int)
 | 0,_,_=>none
 | m+1,v3,v4=>zce a0 a1 a2 (za9 a0 a1 a2 m) v3 v4
def zdF (n:Nat) (a0:Wheel_) (a1:Int) (a2:Int):Option (Int×Int) :=
 za9 a0 a1 a2 n 0 0
def zd0 (n:Nat) (a0:Wheel_) (a1:Stand) (a2:Int):Option (Stand) :=
 if (a2 != (-1))=true then
  Option.bind (idx a0.Wheel.Coins a2) fun x2 =>
  Option.bind (zdF n a0 a1.Place x2) fun r3 =>
  some (⟨r3.1,w64 (a1.Credit+r3.2)⟩:Stand)
 else
  if decide (a1.Credit>0)=true then
   some (⟨0,w64 (a1.Credit-1)⟩:Stand)
  else
   some a1
def zcD (a0:Wheel_) (a1:Int):Option (Bool) :=
 Option.bind (zcy a1 0 (w64 (a0.Wheel.Round-1))) fun r1 =>
 some r1
def zb0 {S:Type} (aF:Int->S->Option (Bool×S)) (a0:Int) (st:S):Option (Bool×S) :=
 Option.bind (aF a0 st) fun r1 =>
 some ((!r1.1),r1.2)
def zcL {S:Type} (v1:Bool) (v2:S):Option (Bool×S) :=
 some (v1,v2)
def zeT {S:Type} (n:Nat) (aF:Int->S->Option (Bool×S)) (a0:List Int) (st:S):Option (Bool×S) :=
 if decide ((a0.length:Int)<=20)=true then
  Option.bind (zbe n (zb0 aF) a0 st) fun r4 =>
  zcL (!r4.1) r4.2
 else
  zcL false st
def zcU (a0:Wheel_) (a1:Int):Option (Bool) :=
 Option.bind (zcy a1 0 (w64 ((a0.Wheel.Coins.length:Int)-1))) fun r1 =>
 some r1
def zb3 (v1:Bool):Option (Bool) :=
 some v1
def zb6 (a0:Wheel_) (a1:Int):Option (Bool) :=
 if (a1==(-1))=true then
  zb3 true
 else
  Option.bind (zcU a0 a1) fun r3 =>
  zb3 r3
def zcs (v1:Bool):Option (Bool) :=
 some v1
def zez (n:Nat) (a0:Wheel_) (a1:Stand) (a2:List Int):Option (Bool) :=
 Option.bind (zcD a0 a1.Place) fun r2 =>
 if r2=true then
  Option.bind (zcy a1.Credit 0 20) fun r4 =>
  if r4=true then
   Option.bind (zeT n (fun (x0:Int) (_:Unit)=>(zb6 a0 x0).map fun y=>(y,())) a2 ()) fun r6 =>
   zcs r6.1
  else
   zcs false
 else
  zcs false
def zfn (v3:Int) (v4:Int) (v5:Int):Option (Stand×Int×Int) :=
 some ((⟨v4,v5⟩:Stand),v3,0)
def zeA (n:Nat) (rec1:Int->Int->Int->Int->Option (Stand×Int×Int)) (r1:(Wheel_×Int)×Unit) (v9:Int) (v10:Int) (v11:Int) (x13:Int) (v14:Int):Option (Stand×Int×Int) :=
 Option.bind (zd0 n r1.1.1 (⟨v10,v11⟩:Stand) x13) fun r15 =>
 rec1 v14 (w64 (v9+1)) r15.Place r15.Credit
def zdQ (n:Nat) (rec1:Int->Int->Int->Int->Option (Stand×Int×Int)) (r1:(Wheel_×Int)×Unit) (v8:Int) (v9:Int) (v10:Int) (v11:Int) (x13:Int) (v16:Bool):Option (Stand×Int×Int) :=
 if v16=true then
  zeA n rec1 r1 v9 v10 v11 x13 (w64 (v8+1))
 else
  zeA n rec1 r1 v9 v10 v11 x13 v8
def zes (n:Nat) (a2:List Int) (r1:(Wheel_×Int)×Unit) (rec1:Int->Int->Int->Int->Option (Stand×Int×Int)) (v8:Int) (v9:Int) (v10:Int) (v11:Int):Option (Stand×Int×Int) :=
 if decide (v9<(a2.length:Int))=true then
  Option.bind (idx a2 v9) fun x13 =>
  if (x13==(-1))=true then
   zdQ n rec1 r1 v8 v9 v10 v11 x13 (decide (v11>0))
  else
   zdQ n rec1 r1 v8 v9 v10 v11 x13 false
 else
  zfn v8 v10 v11
def zbq (n:Nat) (a2:List Int) (r1:(Wheel_×Int)×Unit):Nat->Int->Int->Int->Int->Option (Stand×Int×Int)
 | 0,_,_,_,_=>none
 | m+1,v8,v9,v10,v11=>zes n a2 r1 (zbq n a2 r1 m) v8 v9 v10 v11
def zd1 (n:Nat) (a0:Wheel) (a1:Stand) (a2:List Int):Option (Stand×Int×Int) :=
 Option.bind (zgN n (fun (x0:Wheel_) (_:Unit)=>(zez n x0 a1 a2).map fun y=>(y,())) a0 ()) fun r1 =>
 if (r1.1.2 != 0)=true then
  some ((⟨0,0⟩:Stand),0,r1.1.2)
 else
  zbq n a2 r1 n 0 0 a1.Place a1.Credit
def zbj (n:Nat) (b:Box_) (al:Bag_) (x:PointT_):Nat->Int->zhB->Option zhB
 | 0,_,_=>none
 | m+1,k,S =>
  if decide (k<(b.Box.Wheel.Coins.length:Int))=true then
   Option.bind (idx ([x.in_.c0,x.in_.c1,x.in_.c2,x.in_.c3]:List Int) k) fun e1 =>
   Option.bind (idx ([al.c0,al.c1,al.c2,al.c3]:List Int) k) fun e2 =>
   if (e1==e2)=true then zbj n b al x m (w64 (k+1)) S
   else
    Option.bind (zd1 n b.Box.Wheel ⟨x.Stand.Place,0⟩ [k]) fun r =>
    Option.bind (zqM ([x.in_.c0,x.in_.c1,x.in_.c2,x.in_.c3]:List Int) k (w64 (e1+1))) fun u =>
    Option.bind (zdI n al x k ⟨⟨r.1.Place,w64 (x.Stand.Credit+r.1.Credit)⟩,⟨u.getD 0 0,u.getD 1 0,u.getD 2 0,u.getD 3 0⟩,w64 (x.bought+r.1.Credit)⟩ S) fun S2 =>
    zbj n b al x m (w64 (k+1)) S2
  else some S
def zet (n:Nat) (b:Box_) (al:Bag_) (x:PointT_) (S:zhB):Option zhB :=
 if decide (x.Stand.Credit>0)=true then
  if decide (x.Stand.Place>0)=true then
   Option.bind (zd1 n b.Box.Wheel ⟨x.Stand.Place,1⟩ [-1]) fun r =>
   zdI n al x (-1) ⟨⟨r.1.Place,w64 (x.Stand.Credit-1)⟩,x.in_,x.bought⟩ S
  else some S
 else some S
def zcO (n:Nat) (b:Box_) (al:Bag_):Nat->zhB->Option (List (PointT_×Step_))
 | 0,_=>none
 | m+1,S=>match S.2 with
  | []=>some S.1
  | x::q =>
   Option.bind (zet n b al x (S.1,q)) fun S1 =>
   Option.bind (zbj n b al x n 0 S1) fun S2 =>
   zcO n b al m S2
def zcM (n:Nat) (a0:Option Box_) (al:Bag_):Option (List (PointT_×Step_)) :=
 Option.bind a0 fun b=>zcO n b al n ([(zaA,⟨-2,zaA⟩)],[zaA])
def zcV (v1:Int) (v2:Int) (v3:Int) (v4:Int):Option (Bag_) :=
 some (⟨v1,v2,v3,v4⟩:Bag_)
def zco (a0:Option Box_) (x5:Box_) (rec1:Int->Int->Int->Int->Int->Option (Bag_)) (v7:Int) (v8:Int) (v9:Int) (v10:Int) (v11:Int):Option (Bag_) :=
 if decide (v7<(x5.Box.Found.length:Int))=true then
  Option.bind (idx x5.Box.Found v7) fun x13 =>
  Option.bind (a0) fun x14 =>
  Option.bind (idx x14.Box.Slugs v7) fun x15 =>
  Option.bind (idx ([v8,v9,v10,v11]:List Int) v7) fun x16 =>
  Option.bind (zqM ([v8,v9,v10,v11]:List Int) v7 (w64 (x13+x15))) fun l17 =>
  rec1 (w64 (v7+1)) (l17.getD 0 0) (l17.getD 1 0) (l17.getD 2 0) (l17.getD 3 0)
 else
  zcV v8 v9 v10 v11
def zbz (a0:Option Box_) (x5:Box_):Nat->Int->Int->Int->Int->Int->Option (Bag_)
 | 0,_,_,_,_,_=>none
 | m+1,v7,v8,v9,v10,v11=>zco a0 x5 (zbz a0 x5 m) v7 v8 v9 v10 v11
def zc9 (n:Nat) (a0:Option Box_):Option (Bag_) :=
 Option.bind (a0) fun x5 =>
 zbz a0 x5 n 0 0 0 0 0
def zct (n:Nat) (a0:Option Box_):Option (List Int) :=
 Option.bind (zc9 n a0) fun r1 =>
 Option.bind (zcM n a0 r1) fun M =>
 Option.bind (zc9 n a0) fun r2 =>
 if zhA M=true then some (zef ((zdP r2 M).map (·.1))) else none
def zeh (n:Nat) (a0:Box):Option ((List Int)×Int) :=
 Option.bind (zc8 n a0) fun r1 =>
 if (r1.2 != 0)=true then
  some (([]:List Int),r1.2)
 else
  Option.bind (zct n r1.1) fun r3 =>
  some (r3,0)
def slices_Clone_int (a0:List Int):Option (List Int):=app [] a0
def zbT {S:Type} (rec:(Option Box_)->(List Int)->Int->S->Option (Unit×S)) (a0:Option Box_) (a1:List Int) (a2:Int) (rec1:Int->S->Option (Unit×S)) (v5:Int) (v6:S):Option (Unit×S) :=
 if decide (v5<(w64 (a2+1)))=true then
  Option.bind (slices_Clone_int a1) fun l8 =>
  Option.bind (app l8 ([v5]:List Int)) fun l9 =>
  Option.bind (rec a0 l9 (w64 (a2-v5)) v6) fun r10 =>
  rec1 (w64 (v5+1)) r10.2
 else
  some ((),v6)
def zbn {S:Type} (rec:(Option Box_)->(List Int)->Int->S->Option (Unit×S)) (a0:Option Box_) (a1:List Int) (a2:Int):Nat->Int->S->Option (Unit×S)
 | 0,_,_=>none
 | m+1,v5,v6=>zbT rec a0 a1 a2 (zbn rec a0 a1 a2 m) v5 v6
def zcf {S:Type} (n:Nat) (rec:(Option Box_)->(List Int)->Int->S->Option (Unit×S)) (aF:(List Int)->S->Option (Unit×S)) (a0:Option Box_) (a1:List Int) (a2:Int) (st:S):Option (Unit×S) :=
 Option.bind (a0) fun x1 =>
 if ((a1.length:Int)==(x1.Box.Wheel.Coins.length:Int))=true then
  Option.bind (aF a1 st) fun r3 =>
  some ((),r3.2)
 else
  zbn rec a0 a1 a2 n 0 st
def zbm {S:Type}:Nat->((List Int)->S->Option (Unit×S))->(Option Box_)->(List Int)->Int->S->Option (Unit×S)
 | 0,_,_,_,_,_=>none
 | n+1,aF,a0,a1,a2,st=>zcf n (zbm n aF) aF a0 a1 a2 st
def zcp (v1:Int):Option (Int) :=
 some v1
def zca (a0:Option Box_) (a1:List Int) (rec1:Int->Int->Option (Int)) (v2:Int) (v3:Int):Option (Int) :=
 if decide (v3<(a1.length:Int))=true then
  Option.bind (idx a1 v3) fun x5 =>
  Option.bind (a0) fun x6 =>
  Option.bind (idx x6.Box.Wheel.Coins v3) fun x7 =>
  rec1 (w64 (v2+(w64 (x5*x7)))) (w64 (v3+1))
 else
  zcp v2
def zbg (a0:Option Box_) (a1:List Int):Nat->Int->Int->Option (Int)
 | 0,_,_=>none
 | m+1,v2,v3=>zca a0 a1 (zbg a0 a1 m) v2 v3
def za1 (n:Nat) (a0:Option Box_) (a1:List Int):Option (Int) :=
 zbg a0 a1 n 0 0
def zbr (purse:List Int):Nat->Int->Bag_->Option Bag_
 | 0,_,_=>none
 | m+1,k,al =>
  if decide (k<(purse.length:Int))=true then
   Option.bind (idx purse k) fun x =>
   Option.bind (idx ([al.c0,al.c1,al.c2,al.c3]:List Int) k) fun e =>
   Option.bind (zqM ([al.c0,al.c1,al.c2,al.c3]:List Int) k (w64 (e+x))) fun u =>
   zbr purse m (w64 (k+1)) ⟨u.getD 0 0,u.getD 1 0,u.getD 2 0,u.getD 3 0⟩
  else some al
def zda (M:List (PointT_×Step_)):Nat->Step_->List Int->Option (List Int)
 | 0,_,_=>none
 | m+1,s,acts =>
  if (s.act != -2)=true then
   if acts.length+1<=1048576 then
    Option.bind (zfD zbp zaW M s.from_) fun s2=>zda M m s2 (acts++[s.act])
   else none
  else some acts
def zbs (n:Nat) (b:Box_) (M:List (PointT_×Step_)) (E:List (Int×PointT_)) (bs:List Int):Nat->Int->Option (List Int×Bool)
 | 0,_=>none
 | m+1,k =>
  if decide (k<(bs.length:Int))=true then
   Option.bind (idx bs k) fun x =>
   Option.bind (zcj x b.Box.Plays (w64 (b.Box.Plays+b.Box.Skips))) fun w =>
   if (!w)=true then zbs n b M E bs m (w64 (k+1))
   else
    Option.bind (zfD okI zaA E x) fun p =>
    Option.bind (zfD zbp zaW M p) fun s =>
    Option.bind (zda M n s []) fun acts =>
    some (acts.reverse,true)
  else some ([],false)
def zbK (n:Nat) (a0:Option Box_) (purse:List Int):Option (List Int×Bool) :=
 Option.bind a0 fun b =>
 Option.bind (zc9 n a0) fun r1 =>
 Option.bind (zbr purse n 0 r1) fun al =>
 Option.bind (zcM n a0 al) fun M =>
 if zhA M=true then zbs n b M (zdP al M) (zef ((zdP al M).map (·.1))) n 0 else none
def zaz (n:Nat) (a:Option Box_) (purse:List Int):List Gap_->Option (Unit×List Gap_)
 | [] =>
  Option.bind (zbK n a purse) fun e =>
  if (!e.2)=true then some ((),[]) else some ((),[⟨purse,e.1⟩])
 | x::gs =>
  Option.bind (za1 n a purse) fun w1 =>
  Option.bind (za1 n a x.purse) fun w2 =>
  if decide (w1>w2)=true then some ((),x::gs)
  else
   Option.bind (zbK n a purse) fun e =>
   if (!e.2)=true then some ((),x::gs)
   else
    Option.bind (za1 n a purse) fun w3 =>
    Option.bind (za1 n a x.purse) fun w4 =>
    if decide (w3<w4)=true then some ((),[⟨purse,e.1⟩])
    else Option.bind (app (x::gs) ([⟨purse,e.1⟩]:List Gap_)) fun l=>some ((),l)
def zbL (n:Nat) (a0:Option Box_):Option (List Gap_) :=
 Option.bind (zbm n (fun x0 s=>zaz n a0 x0 s) a0 ([]:List Int) 2 ([]:List Gap_)) fun r =>
 some r.2
def zdu (n:Nat) (a0:Box):Option ((Option Box_)×(List Gap_)×Int) :=
 Option.bind (zc8 n a0) fun r1 =>
 if (r1.2 != 0)=true then
  some ((none:Option Box_),([]:List Gap_),r1.2)
 else
  Option.bind (zbL n r1.1) fun r3 =>
  if ((r3.length:Int)==0)=true then
   some ((none:Option Box_),([]:List Gap_),3)
  else
   some (r1.1,r3,0)
def zcu (n:Nat) (a0:Box):Option (Int×Int) :=
 Option.bind (zdu n a0) fun r1 =>
 if (r1.2.2 != 0)=true then
  some (0,r1.2.2)
 else
  Option.bind (idx r1.2.1 0) fun x3 =>
  Option.bind (za1 n r1.1 x3.purse) fun r4 =>
  some (r4,0)
def zdR (n:Nat) (a0:Box):Option (Int×Int×Int×Int) :=
 Option.bind (zc8 n a0) fun r1 =>
 if (r1.2 != 0)=true then
  some (0,0,0,r1.2)
 else
  Option.bind (za1 n r1.1 a0.Marked) fun r3 =>
  Option.bind (za1 n r1.1 a0.Found) fun r4 =>
  Option.bind (za1 n r1.1 a0.Slugs) fun r5 =>
  some (w64 (r4-r3),r3,r5,0)
def zdl:Option (Bool) :=
 some true
def zcE (a0:List Int) (a1:List Int) (rec1:Int->Option (Bool)) (v2:Int):Option (Bool) :=
 if decide (v2<(a0.length:Int))=true then
  Option.bind (idx a0 v2) fun x4 =>
  Option.bind (idx a1 v2) fun x5 =>
  if (x4 != x5)=true then
   some false
  else
   rec1 (w64 (v2+1))
 else
  zdl
def zbt (a0:List Int) (a1:List Int):Nat->Int->Option (Bool)
 | 0,_=>none
 | m+1,v2=>zcE a0 a1 (zbt a0 a1 m) v2
def zdv (n:Nat) (a0:List Int) (a1:List Int):Option (Bool) :=
 if ((a0.length:Int) != (a1.length:Int))=true then
  some false
 else
  zbt a0 a1 n 0
def zdm (v2:Int):Option (Int) :=
 some v2
def zcF (a0:List Int) (rec1:Int->Int->Option (Int)) (v3:Int) (v4:Int):Option (Int) :=
 if decide (v4<(a0.length:Int))=true then
  Option.bind (idx a0 v4) fun x6 =>
  rec1 (max v3 x6) (w64 (v4+1))
 else
  zdm v3
def zbM (a0:List Int):Nat->Int->Int->Option (Int)
 | 0,_,_=>none
 | m+1,v3,v4=>zcF a0 (zbM a0 m) v3 v4
def zdn (n:Nat) (a0:List Int):Option (Int) :=
 Option.bind (idx a0 0) fun x1 =>
 zbM a0 n x1 1
def slices_Max_int (n:Nat) (a0:List Int):Option (Int) :=
 if decide ((a0.length:Int)<1)=true then
  none
 else
  zdn n a0
def zeU (n:Nat) (a0:Box):Option (Int×Int) :=
 Option.bind (zc8 n a0) fun r1 =>
 if (r1.2 != 0)=true then
  some (0,r1.2)
 else
  Option.bind (zct n r1.1) fun r3 =>
  Option.bind (slices_Max_int n r3) fun r4 =>
  some ((max 0 (w64 (a0.Plays-r4))),0)
def zhC:Option (Wheel) :=
 some (⟨50,([10,20,25]:List Int),([5,10,25]:List Int)⟩:Wheel)
def zfX:Option (Box) :=
 Option.bind (zhC) fun r1 =>
 some (⟨r1,([0,2,1]:List Int),([0,1,0]:List Int),([0,0,0]:List Int),6,0⟩:Box)
def zbk (v6:Bool):Option (Bool) :=
 some v6
def zei (n:Nat):Option (Bool) :=
 Option.bind (zfX) fun r1 =>
 Option.bind (zeh n r1) fun r2 =>
 Option.bind (zdR n r1) fun r3 =>
 Option.bind (zcu n r1) fun r4 =>
 Option.bind (zeU n r1) fun r5 =>
 if (r2.2==0)=true then
  if (r3.2.2.2==0)=true then
   if (r4.2==0)=true then
    if (r5.2==0)=true then
     Option.bind (zdv n r2.1 ([3,4,5]:List Int)) fun r11 =>
     if r11=true then
      if (r3.1==35)=true then
       if (r3.2.1==10)=true then
        if (r4.1==5)=true then
         zbk (r5.1==1)
        else
         zbk false
       else
        zbk false
      else
       zbk false
     else
      zbk false
    else
     zbk false
   else
    zbk false
  else
   zbk false
 else
  zbk false
def zgO (a0:Wheel):Option (Wheel) :=
 Option.bind (app ([]:List Int) a0.Notches) fun l1 =>
 Option.bind (app ([]:List Int) a0.Coins) fun l2 =>
 some (⟨a0.Round,l1,l2⟩:Wheel)
def zgP (a0:Box):Option (Box) :=
 Option.bind (zgO a0.Wheel) fun r1 =>
 Option.bind (app ([]:List Int) a0.Found) fun l2 =>
 Option.bind (app ([]:List Int) a0.Marked) fun l3 =>
 Option.bind (app ([]:List Int) a0.Slugs) fun l4 =>
 some (⟨r1,l2,l3,l4,a0.Plays,a0.Skips⟩:Box)
def zcG (v1:Int):Option (Int) :=
 some v1
def zcg (a0:Wheel) (a1:List Int) (rec1:Int->Int->Option (Int)) (v2:Int) (v3:Int):Option (Int) :=
 if decide (v3<(a1.length:Int))=true then
  Option.bind (idx a1 v3) fun x5 =>
  Option.bind (idx a0.Coins v3) fun x6 =>
  rec1 (w64 (v2+(w64 (x5*x6)))) (w64 (v3+1))
 else
  zcG v2
def zbo (a0:Wheel) (a1:List Int):Nat->Int->Int->Option (Int)
 | 0,_,_=>none
 | m+1,v2,v3=>zcg a0 a1 (zbo a0 a1 m) v2 v3
def zeL (n:Nat) (a0:Wheel) (a1:List Int):Option (Int) :=
 zbo a0 a1 n 0 0
def zaP (v19:Bool):Option (Bool) :=
 some v19
def za3 (n:Nat) (a0:Box) (a1:Int) (r4:Int×Int×Int×Int) (v8:Bool):Option (Bool) :=
 if v8=true then
  Option.bind (zei n) fun r10 =>
  some r10
 else
  Option.bind (zgP a0) fun r11 =>
  Option.bind (idx r11.Marked a1) fun x12 =>
  Option.bind (idx r11.Marked a1) fun x13 =>
  Option.bind (zdR n (⟨r11.Wheel,r11.Found,(r11.Marked.set (Int.toNat a1) (w64 (x12+1))),r11.Slugs,r11.Plays,r11.Skips⟩:Box)) fun r14 =>
  Option.bind (zeh n a0) fun r15 =>
  Option.bind (zeh n (⟨r11.Wheel,r11.Found,(r11.Marked.set (Int.toNat a1) (w64 (x12+1))),r11.Slugs,r11.Plays,r11.Skips⟩:Box)) fun r16 =>
  Option.bind (zcu n a0) fun r17 =>
  Option.bind (zcu n (⟨r11.Wheel,r11.Found,(r11.Marked.set (Int.toNat a1) (w64 (x12+1))),r11.Slugs,r11.Plays,r11.Skips⟩:Box)) fun r18 =>
  if (r14.2.2.2==0)=true then
   Option.bind (idx a0.Wheel.Coins a1) fun x21 =>
   if (r14.1==(w64 (r4.1-x21)))=true then
    Option.bind (idx a0.Wheel.Coins a1) fun x23 =>
    if (r14.2.1==(w64 (r4.2.1+x23)))=true then
     if (r14.2.2.1==r4.2.2.1)=true then
      Option.bind (zdv n r15.1 r16.1) fun r26 =>
      if r26=true then
       if (r15.2==r16.2)=true then
        if (r17.1==r18.1)=true then
         if (r17.2==r18.2)=true then
          Option.bind (zei n) fun r31 =>
          zaP r31
         else
          zaP false
        else
         zaP false
       else
        zaP false
      else
       zaP false
     else
      zaP false
    else
     zaP false
   else
    zaP false
  else
   zaP false
def za4 (n:Nat) (a0:Box) (a1:Int) (r4:Int×Int×Int×Int) (v6:Bool):Option (Bool) :=
 if v6=true then
  some false
 else
  if decide (a1<0)=true then
   za3 n a0 a1 r4 true
  else
   if decide (a1≥(a0.Found.length:Int))=true then
    za3 n a0 a1 r4 true
   else
    Option.bind (idx a0.Marked a1) fun x34 =>
    Option.bind (idx a0.Found a1) fun x35 =>
    za3 n a0 a1 r4 (x34==x35)
def zej (n:Nat) (a0:Box) (a1:Int):Option (Bool) :=
 Option.bind (ze7 n a0) fun r1 =>
 if (!r1)=true then
  Option.bind (zei n) fun r3 =>
  some r3
 else
  Option.bind (zdR n a0) fun r4 =>
  Option.bind (zeL n a0.Wheel a0.Found) fun r5 =>
  if (r4.2.2.2 != 0)=true then
   za4 n a0 a1 r4 true
  else
   if decide (r4.1<0)=true then
    za4 n a0 a1 r4 true
   else
    if decide (r4.2.1<0)=true then
     za4 n a0 a1 r4 true
    else
     if decide (r4.1>r5)=true then
      za4 n a0 a1 r4 true
     else
      za4 n a0 a1 r4 ((w64 (r4.1+r4.2.1)) != r5)
end Go.Law
