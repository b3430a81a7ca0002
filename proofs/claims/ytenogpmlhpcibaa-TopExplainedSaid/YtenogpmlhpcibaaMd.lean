/-
  What the functions compute (printed by gen.py).
  Conditions: none.
-/
import Derived.Test.YtenogpmlhpcibaaAmN
set_option linter.all false
namespace Go.Law
open Go Go.AM
set_option linter.unusedVariables false
structure Wheel where
 Round:Int
 Notches:List Int
 Coins:List Int
 deriving DecidableEq,Inhabited,Repr
abbrev Wheel.cells (x:Wheel):List AV:=[.v (.int .i64 x.Round),.sl .no 1 (x.Notches.map cI),.sl .no 1 (x.Coins.map cI)]
structure Box where
 Wheel:Wheel
 Found:List Int
 Marked:List Int
 Slugs:List Int
 Plays:Int
 Skips:Int
 deriving DecidableEq,Inhabited,Repr
abbrev Box.cells (x:Box):List AV:=[.v (.int .i64 x.Wheel.Round),.sl .no 1 (x.Wheel.Notches.map cI),.sl .no 1 (x.Wheel.Coins.map cI),.sl .no 1 (x.Found.map cI),.sl .no 1 (x.Marked.map cI),.sl .no 1 (x.Slugs.map cI),.v (.int .i64 x.Plays),.v (.int .i64 x.Skips)]
structure Box_ where
 Box:Box
 deriving DecidableEq,Inhabited,Repr
abbrev Box_.cells (x:Box_):List AV:=[.v (.int .i64 x.Box.Wheel.Round),.sl .no 1 (x.Box.Wheel.Notches.map cI),.sl .no 1 (x.Box.Wheel.Coins.map cI),.sl .no 1 (x.Box.Found.map cI),.sl .no 1 (x.Box.Marked.map cI),.sl .no 1 (x.Box.Slugs.map cI),.v (.int .i64 x.Box.Plays),.v (.int .i64 x.Box.Skips)]
structure Bag_ where
 c0:Int
 c1:Int
 c2:Int
 c3:Int
 deriving DecidableEq,Inhabited,Repr
abbrev Bag_.cells (x:Bag_):List AV:=[.v (.int .i64 x.c0),.v (.int .i64 x.c1),.v (.int .i64 x.c2),.v (.int .i64 x.c3)]
structure Wheel_ where
 Wheel:Wheel
 deriving DecidableEq,Inhabited,Repr
abbrev Wheel_.cells (x:Wheel_):List AV:=[.v (.int .i64 x.Wheel.Round),.sl .no 1 (x.Wheel.Notches.map cI),.sl .no 1 (x.Wheel.Coins.map cI)]
structure Stand where
 Place:Int
 Credit:Int
 deriving DecidableEq,Inhabited,Repr
abbrev Stand.cells (x:Stand):List AV:=[.v (.int .i64 x.Place),.v (.int .i64 x.Credit)]
structure Gap_ where
 purse:List Int
 acts:List Int
 deriving DecidableEq,Inhabited,Repr
abbrev Gap_.cells (x:Gap_):List AV:=[.sl .no 1 (x.purse.map cI),.sl .no 1 (x.acts.map cI)]
structure SpotR_ where
 stand:Stand
 bought:Int
 deriving DecidableEq,Inhabited,Repr
abbrev SpotR_.cells (x:SpotR_):List AV:=[.v (.int .i64 x.stand.Place),.v (.int .i64 x.stand.Credit),.v (.int .i64 x.bought)]
structure Spot_ where
 left:Bag_
 place:Int
 credit:Int
 deriving DecidableEq,Inhabited,Repr
abbrev Spot_.cells (x:Spot_):List AV:=[.v (.int .i64 x.left.c0),.v (.int .i64 x.left.c1),.v (.int .i64 x.left.c2),.v (.int .i64 x.left.c3),.v (.int .i64 x.place),.v (.int .i64 x.credit)]
structure Clause where
 Kind:Int
 Cents:Int
 Part:Int
 More:Int
 deriving DecidableEq,Inhabited,Repr
abbrev Clause.cells (x:Clause):List AV:=[.v (.int .i64 x.Kind),.v (.int .i64 x.Cents),.v (.int .i64 x.Part),.v (.int .i64 x.More)]
structure Share where
 Clauses:List Clause
 Loan:Int
 deriving DecidableEq,Inhabited,Repr
abbrev Share.cells (x:Share):List AV:=[.sl .no 4 (x.Clauses.map Clause.cells),.v (.int .i64 x.Loan)]
structure Split where
 Operator:Int
 Owner:Int
 Repaid:Int
 deriving DecidableEq,Inhabited,Repr
abbrev Split.cells (x:Split):List AV:=[.v (.int .i64 x.Operator),.v (.int .i64 x.Owner),.v (.int .i64 x.Repaid)]
structure Week_ where
 Split:Split
 rest:Int
 owed:Int
 deriving DecidableEq,Inhabited,Repr
abbrev Week_.cells (x:Week_):List AV:=[.v (.int .i64 x.Split.Operator),.v (.int .i64 x.Split.Owner),.v (.int .i64 x.Split.Repaid),.v (.int .i64 x.rest),.v (.int .i64 x.owed)]
structure Point_ where
 Stand:Stand
 bought:Int
 deriving DecidableEq,Inhabited,Repr
abbrev Point_.cells (x:Point_):List AV:=[.v (.int .i64 x.Stand.Place),.v (.int .i64 x.Stand.Credit),.v (.int .i64 x.bought)]
structure WearRecord where
 Worn:Int
 Limit:Int
 Price:Int
 Plays:List Int
 deriving DecidableEq,Inhabited,Repr
abbrev WearRecord.cells (x:WearRecord):List AV:=[.v (.int .i64 x.Worn),.v (.int .i64 x.Limit),.v (.int .i64 x.Price),.sl .no 1 (x.Plays.map cI)]
structure Wear where
 Weeks:Int
 Price:Int
 Age:Int
 Step:Int
 Rough:List Int
 Records:List WearRecord
 deriving DecidableEq,Inhabited,Repr
abbrev Wear.cells (x:Wear):List AV:=[.v (.int .i64 x.Weeks),.v (.int .i64 x.Price),.v (.int .i64 x.Age),.v (.int .i64 x.Step),.sl .no 1 (x.Rough.map cI),.sl .no 4 (x.Records.map WearRecord.cells)]
structure WearWeek where
 Needle:Int
 Records:List Int
 deriving DecidableEq,Inhabited,Repr
abbrev WearWeek.cells (x:WearWeek):List AV:=[.v (.int .i64 x.Needle),.sl .no 1 (x.Records.map cI)]
structure BoxW_ where
 Wear:Wear
 deriving DecidableEq,Inhabited,Repr
abbrev BoxW_.cells (x:BoxW_):List AV:=[.v (.int .i64 x.Wear.Weeks),.v (.int .i64 x.Wear.Price),.v (.int .i64 x.Wear.Age),.v (.int .i64 x.Wear.Step),.sl .no 1 (x.Wear.Rough.map cI),.sl .no 4 (x.Wear.Records.map WearRecord.cells)]
structure PointT_ where
 Stand:Stand
 in_:Bag_
 bought:Int
 deriving DecidableEq,Inhabited,Repr
abbrev PointT_.cells (x:PointT_):List AV:=[.v (.int .i64 x.Stand.Place),.v (.int .i64 x.Stand.Credit),.v (.int .i64 x.in_.c0),.v (.int .i64 x.in_.c1),.v (.int .i64 x.in_.c2),.v (.int .i64 x.in_.c3),.v (.int .i64 x.bought)]
def zhq (x:Spot_):Bool:=([x.left.c0,x.left.c1,x.left.c2,x.left.c3,x.place,x.credit]:List Int).all okI
def zap (x:Spot_):Value:=.agg (([x.left.c0,x.left.c1,x.left.c2,x.left.c3,x.place,x.credit]:List Int).map kvI).toArray
def zd4 (x:Point_):Bool:=([x.Stand.Place,x.Stand.Credit,x.bought]:List Int).all okI
def zaS (x:Point_):Value:=.agg (([x.Stand.Place,x.Stand.Credit,x.bought]:List Int).map kvI).toArray
def zbN (x:PointT_):Bool:=([x.Stand.Place,x.Stand.Credit,x.in_.c0,x.in_.c1,x.in_.c2,x.in_.c3,x.bought]:List Int).all okI
def zad (x:PointT_):Value:=.agg (([x.Stand.Place,x.Stand.Credit,x.in_.c0,x.in_.c1,x.in_.c2,x.in_.c3,x.bought]:List Int).map kvI).toArray
def zmA (a0:Int) (a1:Int):Option (Bool) :=
 some (decide (a0<a1))
def zmB (a0:Int) (a1:Int):Option (Bool) :=
 some (decide (a0>a1))
def zhP (b:Bool) (x y:Int):Option Bool:=cond b (zmB x y) (zmA x y)
def zf8 (v1:List Int):Option ((List Int)) :=
 some v1
def ze9 (a0:List Int) (a1:List Int) (rec1:(List Int)->Int->Option ((List Int))) (v2:List Int) (v3:Int):Option ((List Int)) :=
 if decide (v3<(a0.length:Int))=true then
  Option.bind (idx a0 v3) fun x5 =>
  Option.bind (idx a1 v3) fun x6 =>
  Option.bind (app v2 ([w64 (x5+x6)]:List Int)) fun l7 =>
  rec1 l7 (w64 (v3+1))
 else
  zf8 v2
def zdA (a0:List Int) (a1:List Int):Nat->(List Int)->Int->Option ((List Int))
 | 0,_,_=>none
 | m+1,v2,v3=>ze9 a0 a1 (zdA a0 a1 m) v2 v3
def zib (n:Nat) (a0:List Int) (a1:List Int):Option ((List Int)) :=
 zdA a0 a1 n ([]:List Int) 0
def zhQ (n:Nat) (a0:Box):Option ((List Int)) :=
 Option.bind (zib n a0.Found a0.Slugs) fun r1 =>
 some r1
def zeg (v1:Bool):Option (Bool) :=
 some v1
def zeh (a0:Int) (a1:Int) (a2:Int):Option (Bool) :=
 if decide (a0≥a1)=true then
  zeg (decide (a0<=a2))
 else
  zeg false
def zfa:Option (Bool) :=
 some true
def zcA (rec1:Int->Option (Bool)) (v1:Int) (v3:Bool):Option (Bool) :=
 if v3=true then
  some false
 else
  rec1 (w64 (v1+1))
def zet (a0:List Int) (a1:Int) (a2:Int) (rec1:Int->Option (Bool)) (v1:Int):Option (Bool) :=
 if decide (v1<(a0.length:Int))=true then
  Option.bind (idx a0 v1) fun x5 =>
  Option.bind (zeh x5 a1 a2) fun r6 =>
  if (!r6)=true then
   zcA rec1 v1 true
  else
   if decide (v1>0)=true then
    Option.bind (idx a0 v1) fun x9 =>
    Option.bind (idx a0 (w64 (v1-1))) fun x10 =>
    zcA rec1 v1 (decide (x9<=x10))
   else
    zcA rec1 v1 false
 else
  zfa
def zbZ (a0:List Int) (a1:Int) (a2:Int):Nat->Int->Option (Bool)
 | 0,_=>none
 | m+1,v1=>zet a0 a1 a2 (zbZ a0 a1 a2 m) v1
def zgM (n:Nat) (a0:List Int) (a1:Int) (a2:Int):Option (Bool) :=
 zbZ a0 a1 a2 n 0
def zcO (v1:Bool):Option (Int) :=
 if v1=true then
  some 10
 else
  some 0
def zhr (n:Nat) (a0:Wheel):Option (Int) :=
 Option.bind (zeh a0.Round 1 200) fun r3 =>
 if (!r3)=true then
  zcO true
 else
  if decide ((a0.Notches.length:Int)>12)=true then
   zcO true
  else
   Option.bind (zgM n a0.Notches 1 a0.Round) fun r6 =>
   if (!r6)=true then
    zcO true
   else
    if decide ((a0.Coins.length:Int)>4)=true then
     zcO true
    else
     Option.bind (zgM n a0.Coins 1 100) fun r9 =>
     zcO (!r9)
def zeJ (v2:Int):Option (Bool) :=
 some (decide (v2<=12))
def zd5 (a1:List Int) (rec1:Int->Int->Option (Bool)) (v3:Int) (v4:Int):Option (Bool) :=
 if decide (v4<(a1.length:Int))=true then
  Option.bind (idx a1 v4) fun x6 =>
  Option.bind (zeh x6 0 12) fun r7 =>
  if (!r7)=true then
   some false
  else
   Option.bind (idx a1 v4) fun x9 =>
   rec1 (w64 (v3+x9)) (w64 (v4+1))
 else
  zeJ v3
def zce (a1:List Int):Nat->Int->Int->Option (Bool)
 | 0,_,_=>none
 | m+1,v3,v4=>zd5 a1 (zce a1 m) v3 v4
def zeu (n:Nat) (a0:Wheel) (a1:List Int):Option (Bool) :=
 if ((a1.length:Int) != (a0.Coins.length:Int))=true then
  some false
 else
  zce a1 n 0 0
def zeY (a0:Int) (a1:Int) (a2:Int):Option (Bool) :=
 Option.bind (zeh a0 a1 a2) fun r1 =>
 some r1
def zeC (n:Nat) (a0:Box):Option (Int) :=
 Option.bind (zib n a0.Found a0.Slugs) fun r3 =>
 Option.bind (zeu n a0.Wheel r3) fun r4 =>
 if (!r4)=true then
  some 50
 else
  some 0
def zeK (n:Nat) (a0:Box) (rec1:Int->Option (Int)) (v6:Int):Option (Int) :=
 if decide (v6<(a0.Found.length:Int))=true then
  Option.bind (idx a0.Marked v6) fun x8 =>
  Option.bind (idx a0.Found v6) fun x9 =>
  Option.bind (zeY x8 0 x9) fun r10 =>
  if (!r10)=true then
   some 50
  else
   rec1 (w64 (v6+1))
 else
  zeC n a0
def zcu (n:Nat) (a0:Box):Nat->Int->Option (Int)
 | 0,_=>none
 | m+1,v6=>zeK n a0 (zcu n a0 m) v6
def zcv (n:Nat) (a0:Box) (v1:Bool):Option (Int) :=
 if v1=true then
  some 50
 else
  zcu n a0 n 0
def zgq (n:Nat) (a0:Box):Option (Int) :=
 Option.bind (zhr n a0.Wheel) fun r12 =>
 if (r12 != 0)=true then
  zcv n a0 true
 else
  Option.bind (zeu n a0.Wheel a0.Found) fun r14 =>
  if (!r14)=true then
   zcv n a0 true
  else
   Option.bind (zeu n a0.Wheel a0.Slugs) fun r16 =>
   if (!r16)=true then
    zcv n a0 true
   else
    if ((a0.Marked.length:Int) != (a0.Found.length:Int))=true then
     zcv n a0 true
    else
     Option.bind (zeY a0.Plays 0 9999) fun r19 =>
     if (!r19)=true then
      zcv n a0 true
     else
      Option.bind (zeY a0.Skips 0 9) fun r21 =>
      zcv n a0 (!r21)
def zfC (v1:Int):Option (Int) :=
 some v1
def zeL (a0:List Int) (rec1:Int->Int->Option (Int)) (v2:Int) (v3:Int):Option (Int) :=
 if decide (v3<(a0.length:Int))=true then
  Option.bind (idx a0 v3) fun x5 =>
  rec1 (w64 (v2+x5)) (w64 (v3+1))
 else
  zfC v2
def zdc (a0:List Int):Nat->Int->Int->Option (Int)
 | 0,_,_=>none
 | m+1,v2,v3=>zeL a0 (zdc a0 m) v2 v3
def zhs (n:Nat) (a0:List Int):Option (Int) :=
 zdc a0 n 0 0
def zeZ (v2:Bool):Option (Bool) :=
 some v2
def zhR (n:Nat) (a0:Box):Option (Bool) :=
 if decide ((max (max (max (max (a0.Wheel.Notches.length:Int) (a0.Wheel.Coins.length:Int)) (a0.Found.length:Int)) (a0.Marked.length:Int)) (a0.Slugs.length:Int))>40)=true then
  some true
 else
  Option.bind (zgq n a0) fun r3 =>
  if (r3==0)=true then
   Option.bind (zhQ n a0) fun r5 =>
   Option.bind (zhs n r5) fun r6 =>
   if decide (r6>3)=true then
    zeZ true
   else
    zeZ (decide ((a0.Found.length:Int)>3))
  else
   zeZ false
def zei (v1:Bool):Option (Bool) :=
 some v1
def zcP (a0:Int) (a1:Int) (a2:Int):Option (Bool) :=
 if decide (a1<=a0)=true then
  zei (decide (a0<=a2))
 else
  zei false
def zfb (a0:List Int) (a1:Int):Option (Bool) :=
 some (decide ((a0.length:Int)<=a1))
def zcB (rec1:Int->Option (Bool)) (v1:Int) (v4:Bool):Option (Bool) :=
 if v4=true then
  some false
 else
  rec1 (w64 (v1+1))
def zev (a0:List Int) (a1:Int) (a2:Int) (rec1:Int->Option (Bool)) (v1:Int):Option (Bool) :=
 if decide (v1<(a0.length:Int))=true then
  Option.bind (idx a0 v1) fun x3 =>
  Option.bind (zcP x3 1 a2) fun r6 =>
  if (!r6)=true then
   zcB rec1 v1 true
  else
   if decide (v1>0)=true then
    Option.bind (idx a0 (w64 (v1-1))) fun x9 =>
    zcB rec1 v1 (decide (x3<=x9))
   else
    zcB rec1 v1 false
 else
  zfb a0 a1
def zb0 (a0:List Int) (a1:Int) (a2:Int):Nat->Int->Option (Bool)
 | 0,_=>none
 | m+1,v1=>zev a0 a1 a2 (zb0 a0 a1 a2 m) v1
def zgN (n:Nat) (a0:List Int) (a1:Int) (a2:Int):Option (Bool) :=
 zb0 a0 a1 a2 n 0
def zdY (v1:Bool):Option (Int) :=
 if v1=true then
  some 10
 else
  some 0
def zgr (n:Nat) (a0:Wheel):Option (Int) :=
 Option.bind (zcP a0.Round 1 200) fun r3 =>
 if (!r3)=true then
  zdY true
 else
  Option.bind (zgN n a0.Notches 12 a0.Round) fun r5 =>
  if (!r5)=true then
   zdY true
  else
   Option.bind (zgN n a0.Coins 4 100) fun r7 =>
   zdY (!r7)
def zdm (v1:Bool):Option (Bool) :=
 some v1
def zdd (a0:Int) (a1:Int) (a2:Int):Option (Bool) :=
 if decide (a1<=a0)=true then
  zdm (decide (a0<=a2))
 else
  zdm false
def zb1 {S:Type} (v1:S):Option (Int×S) :=
 some ((-1),v1)
def zbf {S:Type} (a0:List Int) (aF:Int->S->Option (Bool×S)) (rec1:Int->S->Option (Int×S)) (v3:Int) (v4:S):Option (Int×S) :=
 if decide (v3<(a0.length:Int))=true then
  Option.bind (idx a0 v3) fun x6 =>
  Option.bind (aF x6 v4) fun r7 =>
  if r7.1=true then
   some (v3,r7.2)
  else
   rec1 (w64 (v3+1)) r7.2
 else
  zb1 v4
def zav {S:Type} (a0:List Int) (aF:Int->S->Option (Bool×S)):Nat->Int->S->Option (Int×S)
 | 0,_,_=>none
 | m+1,v3,v4=>zbf a0 aF (zav a0 aF m) v3 v4
def zdg {S:Type} (n:Nat) (aF:Int->S->Option (Bool×S)) (a0:List Int) (st:S):Option (Int×S) :=
 zav a0 aF n 0 st
def zbt {S:Type} (n:Nat) (aF:Int->S->Option (Bool×S)) (a0:List Int) (st:S):Option (Bool×S) :=
 Option.bind (zdg n aF a0 st) fun r1 =>
 some (decide (r1.1≥0),r1.2)
def zdN (a0:Int):Option (Bool) :=
 Option.bind (zdd a0 0 12) fun r1 =>
 some (!r1)
def zeM (v3:Int):Option (Int) :=
 if decide (v3>12)=true then
  some 50
 else
  some 0
def zd6 (a0:Box) (rec1:Int->Int->Option (Int)) (v5:Int) (v6:Int):Option (Int) :=
 if decide (v6<(a0.Found.length:Int))=true then
  Option.bind (idx a0.Found v6) fun x8 =>
  Option.bind (idx a0.Marked v6) fun x9 =>
  if decide (x9>x8)=true then
   some 50
  else
   Option.bind (idx a0.Slugs v6) fun x11 =>
   rec1 (w64 (v5+(w64 (x8+x11)))) (w64 (v6+1))
 else
  zeM v5
def zbB (a0:Box):Nat->Int->Int->Option (Int)
 | 0,_,_=>none
 | m+1,v5,v6=>zd6 a0 (zbB a0 m) v5 v6
def zf0 (n:Nat) (a0:Box):Option (Int) :=
 zbB a0 n 0 0
def zdO (rec2:Int->Option (Int)) (v12:Int) (v15:Bool):Option (Int) :=
 if v15=true then
  some 50
 else
  rec2 (w64 (v12+1))
def zfc (n:Nat) (a0:Box) (rec2:Int->Option (Int)) (v12:Int):Option (Int) :=
 if decide (v12<3)=true then
  Option.bind (idx ([a0.Found,a0.Marked,a0.Slugs]:List (List Int)) v12) fun x14 =>
  if ((x14.length:Int) != (a0.Wheel.Coins.length:Int))=true then
   zdO rec2 v12 true
  else
   Option.bind (zbt n (fun (x0:Int) (_:Unit)=>(zdN x0).map fun y=>(y,())) x14 ()) fun r18 =>
   zdO rec2 v12 r18.1
 else
  zf0 n a0
def zaV (n:Nat) (a0:Box):Nat->Int->Option (Int)
 | 0,_=>none
 | m+1,v12=>zfc n a0 (zaV n a0 m) v12
def zc3 (n:Nat) (a0:Box) (v1:Bool):Option (Int) :=
 if v1=true then
  some 50
 else
  zaV n a0 n 0
def zf9 (n:Nat) (a0:Box):Option (Int) :=
 Option.bind (zgr n a0.Wheel) fun r19 =>
 if (r19 != 0)=true then
  zc3 n a0 true
 else
  Option.bind (zdd a0.Plays 0 9999) fun r21 =>
  if (!r21)=true then
   zc3 n a0 true
  else
   Option.bind (zdd a0.Skips 0 9) fun r23 =>
   zc3 n a0 (!r23)
def ze0 (n:Nat) (a0:Box):Option ((Option Box_)×Int) :=
 Option.bind (zf9 n a0) fun r1 =>
 if (r1 != 0)=true then
  some ((none:Option Box_),r1)
 else
  some ((some (⟨a0⟩:Box_)),0)
structure Step_ where
 act:Int
 from_:PointT_
 deriving DecidableEq,Inhabited,Repr
abbrev Step_.cells (x:Step_):List AV:=[.v (.int .i64 x.act),.v (.int .i64 x.from_.Stand.Place),.v (.int .i64 x.from_.Stand.Credit),.v (.int .i64 x.from_.in_.c0),.v (.int .i64 x.from_.in_.c1),.v (.int .i64 x.from_.in_.c2),.v (.int .i64 x.from_.in_.c3),.v (.int .i64 x.from_.bought)]
def zar (x:Step_):Value:=.agg (([x.act,x.from_.Stand.Place,x.from_.Stand.Credit,x.from_.in_.c0,x.from_.in_.c1,x.from_.in_.c2,x.from_.in_.c3,x.from_.bought]:List Int).map kvI).toArray
abbrev zaP:PointT_:=⟨⟨0,0⟩,⟨0,0,0,0⟩,0⟩
abbrev zbc:Step_:=⟨0,zaP⟩
def zmc (x y:Bag_):Bool:=(x.c0==y.c0)&&((x.c1==y.c1)&&((x.c2==y.c2)&&((x.c3==y.c3)&&true)))
def zfr (p o:PointT_):Bool:=decide (p.Stand.Place<o.Stand.Place) || ((p.Stand.Place==o.Stand.Place)&&decide (p.Stand.Credit<o.Stand.Credit))
def zlq (al:Bag_) (E:List (Int×PointT_)) (p:PointT_):Bool:=zmc p.in_ al&&(!zbm E p.bought || zfr p (zhh zaP E p.bought))
def zbd (al:Bag_) (E:List (Int×PointT_)) (p:PointT_):List (Int×PointT_):=if zlq al E p=true then zcW E p.bought p else E
def zfd (al:Bag_) (M:List (PointT_×Step_)):List (Int×PointT_):=(M.map (·.1)).foldl (zbd al) []
def zjb (M:List (PointT_×Step_)):Bool:=M.all (fun p=>okI p.1.bought)&&decide (M.length<=1048576)
def zdB (v1:Int):Option (Int) :=
 some v1
def zc7 (a0:Bag_) (rec1:Int->Int->Option (Int)) (v2:Int) (v3:Int):Option (Int) :=
 if decide (v3<4)=true then
  Option.bind (idx ([a0.c0,a0.c1,a0.c2,a0.c3]:List Int) v3) fun x5 =>
  rec1 (w64 (v2+x5)) (w64 (v3+1))
 else
  zdB v2
def zbo (a0:Bag_):Nat->Int->Int->Option (Int)
 | 0,_,_=>none
 | m+1,v2,v3=>zc7 a0 (zbo a0 m) v2 v3
def zdP (n:Nat) (a0:Bag_):Option (Int) :=
 zbo a0 n 0 0
abbrev zjc:=List (PointT_×Step_)×List PointT_
abbrev zeD (y:PointT_) (c:Int):PointT_:=⟨⟨y.Stand.Place,min y.Stand.Credit c⟩,y.in_,y.bought⟩
def zeR (n:Nat) (al:Bag_) (x:PointT_) (act:Int) (y:PointT_) (S:zjc):Option zjc :=
 Option.bind (zdP n al) fun r1 =>
 Option.bind (zdP n y.in_) fun r2 =>
 Option.bind (zg3 zbN zbc S.1 (zeD y (w64 (r1-r2)))) fun u =>
 if zbm S.1 (zeD y (w64 (r1-r2)))=true then some S
 else
  Option.bind (zhO zbN S.1 (zeD y (w64 (r1-r2))) ⟨act,x⟩) fun m =>
  if S.2.length+1<=1048576 then some (m,S.2++[zeD y (w64 (r1-r2))]) else none
def ze1 {S:Type} (n:Nat) (aF:Wheel_->S->Option (Bool×S)) (a0:Wheel) (st:S):Option ((Wheel_×Int)×S) :=
 Option.bind (zgr n a0) fun r1 =>
 if (r1 != 0)=true then
  some (((⟨(⟨0,([]:List Int),([]:List Int)⟩:Wheel)⟩:Wheel_),r1),st)
 else
  Option.bind (aF (⟨a0⟩:Wheel_) st) fun r3 =>
  if (!r3.1)=true then
   some (((⟨(⟨0,([]:List Int),([]:List Int)⟩:Wheel)⟩:Wheel_),1),r3.2)
  else
   some (((⟨a0⟩:Wheel_),0),r3.2)
def zdC (a0:Wheel_) (a1:Int) (a2:Int) (v1:Int):Option (Int×Int) :=
 Option.bind (rem (w64 (a1+a2)) a0.Wheel.Round) fun q2 =>
 some (q2,v1)
def zc8 (a0:Wheel_) (a1:Int) (a2:Int) (rec1:Int->Int->Option (Int×Int)) (v3:Int) (v4:Int):Option (Int×Int) :=
 if decide (v4<(a0.Wheel.Notches.length:Int))=true then
  Option.bind (idx a0.Wheel.Notches v4) fun x6 =>
  Option.bind (quo (w64 ((w64 ((w64 (a1+a2))-x6))+a0.Wheel.Round)) a0.Wheel.Round) fun q7 =>
  Option.bind (quo (w64 ((w64 (a1-x6))+a0.Wheel.Round)) a0.Wheel.Round) fun q8 =>
  rec1 (w64 (v3+(w64 (q7-q8)))) (w64 (v4+1))
 else
  zdC a0 a1 a2 v3
def zbp (a0:Wheel_) (a1:Int) (a2:Int):Nat->Int->Int->Option (Int×Int)
 | 0,_,_=>none
 | m+1,v3,v4=>zc8 a0 a1 a2 (zbp a0 a1 a2 m) v3 v4
def zdQ (n:Nat) (a0:Wheel_) (a1:Int) (a2:Int):Option (Int×Int) :=
 zbp a0 a1 a2 n 0 0
def zcX (n:Nat) (a0:Wheel_) (a1:Stand) (a2:Int):Option (Stand) :=
 if (a2 != (-1))=true then
  Option.bind (idx a0.Wheel.Coins a2) fun x2 =>
  Option.bind (zdQ n a0 a1.Place x2) fun r3 =>
  some (⟨r3.1,w64 (a1.Credit+r3.2)⟩:Stand)
 else
  if decide (a1.Credit>0)=true then
   some (⟨0,w64 (a1.Credit-1)⟩:Stand)
  else
   some a1
def zdD (a0:Wheel_) (a1:Int):Option (Bool) :=
 Option.bind (zcP a1 0 (w64 (a0.Wheel.Round-1))) fun r1 =>
 some r1
def zcI {S:Type} (aF:Int->S->Option (Bool×S)) (a0:Int) (st:S):Option (Bool×S) :=
 Option.bind (aF a0 st) fun r1 =>
 some ((!r1.1),r1.2)
def zdR {S:Type} (v1:Bool) (v2:S):Option (Bool×S) :=
 some (v1,v2)
def zga {S:Type} (n:Nat) (aF:Int->S->Option (Bool×S)) (a0:List Int) (st:S):Option (Bool×S) :=
 if decide ((a0.length:Int)<=20)=true then
  Option.bind (zbt n (zcI aF) a0 st) fun r4 =>
  zdR (!r4.1) r4.2
 else
  zdR false st
def zd7 (a0:Wheel_) (a1:Int):Option (Bool) :=
 Option.bind (zcP a1 0 (w64 ((a0.Wheel.Coins.length:Int)-1))) fun r1 =>
 some r1
def zcK (v1:Bool):Option (Bool) :=
 some v1
def zcQ (a0:Wheel_) (a1:Int):Option (Bool) :=
 if (a1==(-1))=true then
  zcK true
 else
  Option.bind (zd7 a0 a1) fun r3 =>
  zcK r3
def zdn (v1:Bool):Option (Bool) :=
 some v1
def zfM (n:Nat) (a0:Wheel_) (a1:Stand) (a2:List Int):Option (Bool) :=
 Option.bind (zdD a0 a1.Place) fun r2 =>
 if r2=true then
  Option.bind (zcP a1.Credit 0 20) fun r4 =>
  if r4=true then
   Option.bind (zga n (fun (x0:Int) (_:Unit)=>(zcQ a0 x0).map fun y=>(y,())) a2 ()) fun r6 =>
   zdn r6.1
  else
   zdn false
 else
  zdn false
def zgO (v3:Int) (v4:Int) (v5:Int):Option (Stand×Int×Int) :=
 some ((⟨v4,v5⟩:Stand),v3,0)
def zfN (n:Nat) (rec1:Int->Int->Int->Int->Option (Stand×Int×Int)) (r1:(Wheel_×Int)×Unit) (v9:Int) (v10:Int) (v11:Int) (x13:Int) (v14:Int):Option (Stand×Int×Int) :=
 Option.bind (zcX n r1.1.1 (⟨v10,v11⟩:Stand) x13) fun r15 =>
 rec1 v14 (w64 (v9+1)) r15.Place r15.Credit
def ze2 (n:Nat) (rec1:Int->Int->Int->Int->Option (Stand×Int×Int)) (r1:(Wheel_×Int)×Unit) (v8:Int) (v9:Int) (v10:Int) (v11:Int) (x13:Int) (v16:Bool):Option (Stand×Int×Int) :=
 if v16=true then
  zfN n rec1 r1 v9 v10 v11 x13 (w64 (v8+1))
 else
  zfN n rec1 r1 v9 v10 v11 x13 v8
def zfD (n:Nat) (a2:List Int) (r1:(Wheel_×Int)×Unit) (rec1:Int->Int->Int->Int->Option (Stand×Int×Int)) (v8:Int) (v9:Int) (v10:Int) (v11:Int):Option (Stand×Int×Int) :=
 if decide (v9<(a2.length:Int))=true then
  Option.bind (idx a2 v9) fun x13 =>
  if (x13==(-1))=true then
   ze2 n rec1 r1 v8 v9 v10 v11 x13 (decide (v11>0))
  else
   ze2 n rec1 r1 v8 v9 v10 v11 x13 false
 else
  zgO v8 v10 v11
def zbO (n:Nat) (a2:List Int) (r1:(Wheel_×Int)×Unit):Nat->Int->Int->Int->Int->Option (Stand×Int×Int)
 | 0,_,_,_,_=>none
 | m+1,v8,v9,v10,v11=>zfD n a2 r1 (zbO n a2 r1 m) v8 v9 v10 v11
def zfe (n:Nat) (a0:Wheel) (a1:Stand) (a2:List Int):Option (Stand×Int×Int) :=
 Option.bind (ze1 n (fun (x0:Wheel_) (_:Unit)=>(zfM n x0 a1 a2).map fun y=>(y,())) a0 ()) fun r1 =>
 if (r1.1.2 != 0)=true then
  some ((⟨0,0⟩:Stand),0,r1.1.2)
 else
  zbO n a2 r1 n 0 0 a1.Place a1.Credit
def zbA (n:Nat) (b:Box_) (al:Bag_) (x:PointT_):Nat->Int->zjc->Option zjc
 | 0,_,_=>none
 | m+1,k,S =>
  if decide (k<(b.Box.Wheel.Coins.length:Int))=true then
   Option.bind (idx ([x.in_.c0,x.in_.c1,x.in_.c2,x.in_.c3]:List Int) k) fun e1 =>
   Option.bind (idx ([al.c0,al.c1,al.c2,al.c3]:List Int) k) fun e2 =>
   if (e1==e2)=true then zbA n b al x m (w64 (k+1)) S
   else
    Option.bind (zfe n b.Box.Wheel ⟨x.Stand.Place,0⟩ [k]) fun r =>
    Option.bind (zrr ([x.in_.c0,x.in_.c1,x.in_.c2,x.in_.c3]:List Int) k (w64 (e1+1))) fun u =>
    Option.bind (zeR n al x k ⟨⟨r.1.Place,w64 (x.Stand.Credit+r.1.Credit)⟩,⟨u.getD 0 0,u.getD 1 0,u.getD 2 0,u.getD 3 0⟩,w64 (x.bought+r.1.Credit)⟩ S) fun S2 =>
    zbA n b al x m (w64 (k+1)) S2
  else some S
def zfE (n:Nat) (b:Box_) (al:Bag_) (x:PointT_) (S:zjc):Option zjc :=
 if decide (x.Stand.Credit>0)=true then
  if decide (x.Stand.Place>0)=true then
   Option.bind (zfe n b.Box.Wheel ⟨x.Stand.Place,1⟩ [-1]) fun r =>
   zeR n al x (-1) ⟨⟨r.1.Place,w64 (x.Stand.Credit-1)⟩,x.in_,x.bought⟩ S
  else some S
 else some S
def zdZ (n:Nat) (b:Box_) (al:Bag_):Nat->zjc->Option (List (PointT_×Step_))
 | 0,_=>none
 | m+1,S=>match S.2 with
  | []=>some S.1
  | x::q =>
   Option.bind (zfE n b al x (S.1,q)) fun S1 =>
   Option.bind (zbA n b al x n 0 S1) fun S2 =>
   zdZ n b al m S2
def zdS (n:Nat) (a0:Option Box_) (al:Bag_):Option (List (PointT_×Step_)) :=
 Option.bind a0 fun b=>zdZ n b al n ([(zaP,⟨-2,zaP⟩)],[zaP])
def zd8 (v1:Int) (v2:Int) (v3:Int) (v4:Int):Option (Bag_) :=
 some (⟨v1,v2,v3,v4⟩:Bag_)
def zdh (a0:Option Box_) (x5:Box_) (rec1:Int->Int->Int->Int->Int->Option (Bag_)) (v7:Int) (v8:Int) (v9:Int) (v10:Int) (v11:Int):Option (Bag_) :=
 if decide (v7<(x5.Box.Found.length:Int))=true then
  Option.bind (idx x5.Box.Found v7) fun x13 =>
  Option.bind (a0) fun x14 =>
  Option.bind (idx x14.Box.Slugs v7) fun x15 =>
  Option.bind (idx ([v8,v9,v10,v11]:List Int) v7) fun x16 =>
  Option.bind (zrr ([v8,v9,v10,v11]:List Int) v7 (w64 (x13+x15))) fun l17 =>
  rec1 (w64 (v7+1)) (l17.getD 0 0) (l17.getD 1 0) (l17.getD 2 0) (l17.getD 3 0)
 else
  zd8 v8 v9 v10 v11
def zb2 (a0:Option Box_) (x5:Box_):Nat->Int->Int->Int->Int->Int->Option (Bag_)
 | 0,_,_,_,_,_=>none
 | m+1,v7,v8,v9,v10,v11=>zdh a0 x5 (zb2 a0 x5 m) v7 v8 v9 v10 v11
def zej (n:Nat) (a0:Option Box_):Option (Bag_) :=
 Option.bind (a0) fun x5 =>
 zb2 a0 x5 n 0 0 0 0 0
def zdo (n:Nat) (a0:Option Box_):Option (List Int) :=
 Option.bind (zej n a0) fun r1 =>
 Option.bind (zdS n a0 r1) fun M =>
 Option.bind (zej n a0) fun r2 =>
 if zjb M=true then some (zfK ((zfd r2 M).map (·.1))) else none
def slices_Clone_int (a0:List Int):Option (List Int):=app [] a0
def zcC {S:Type} (rec:(Option Box_)->(List Int)->Int->S->Option (Unit×S)) (a0:Option Box_) (a1:List Int) (a2:Int) (rec1:Int->S->Option (Unit×S)) (v5:Int) (v6:S):Option (Unit×S) :=
 if decide (v5<(w64 (a2+1)))=true then
  Option.bind (slices_Clone_int a1) fun l8 =>
  Option.bind (app l8 ([v5]:List Int)) fun l9 =>
  Option.bind (rec a0 l9 (w64 (a2-v5)) v6) fun r10 =>
  rec1 (w64 (v5+1)) r10.2
 else
  some ((),v6)
def zbF {S:Type} (rec:(Option Box_)->(List Int)->Int->S->Option (Unit×S)) (a0:Option Box_) (a1:List Int) (a2:Int):Nat->Int->S->Option (Unit×S)
 | 0,_,_=>none
 | m+1,v5,v6=>zcC rec a0 a1 a2 (zbF rec a0 a1 a2 m) v5 v6
def zc9 {S:Type} (n:Nat) (rec:(Option Box_)->(List Int)->Int->S->Option (Unit×S)) (aF:(List Int)->S->Option (Unit×S)) (a0:Option Box_) (a1:List Int) (a2:Int) (st:S):Option (Unit×S) :=
 Option.bind (a0) fun x1 =>
 if ((a1.length:Int)==(x1.Box.Wheel.Coins.length:Int))=true then
  Option.bind (aF a1 st) fun r3 =>
  some ((),r3.2)
 else
  zbF rec a0 a1 a2 n 0 st
def zbC {S:Type}:Nat->((List Int)->S->Option (Unit×S))->(Option Box_)->(List Int)->Int->S->Option (Unit×S)
 | 0,_,_,_,_,_=>none
 | n+1,aF,a0,a1,a2,st=>zc9 n (zbC n aF) aF a0 a1 a2 st
def zdi (v1:Int):Option (Int) :=
 some v1
def zc1 (a0:Option Box_) (a1:List Int) (rec1:Int->Int->Option (Int)) (v2:Int) (v3:Int):Option (Int) :=
 if decide (v3<(a1.length:Int))=true then
  Option.bind (idx a1 v3) fun x5 =>
  Option.bind (a0) fun x6 =>
  Option.bind (idx x6.Box.Wheel.Coins v3) fun x7 =>
  rec1 (w64 (v2+(w64 (x5*x7)))) (w64 (v3+1))
 else
  zdi v2
def zbw (a0:Option Box_) (a1:List Int):Nat->Int->Int->Option (Int)
 | 0,_,_=>none
 | m+1,v2,v3=>zc1 a0 a1 (zbw a0 a1 m) v2 v3
def zck (n:Nat) (a0:Option Box_) (a1:List Int):Option (Int) :=
 zbw a0 a1 n 0 0
def zbP (purse:List Int):Nat->Int->Bag_->Option Bag_
 | 0,_,_=>none
 | m+1,k,al =>
  if decide (k<(purse.length:Int))=true then
   Option.bind (idx purse k) fun x =>
   Option.bind (idx ([al.c0,al.c1,al.c2,al.c3]:List Int) k) fun e =>
   Option.bind (zrr ([al.c0,al.c1,al.c2,al.c3]:List Int) k (w64 (e+x))) fun u =>
   zbP purse m (w64 (k+1)) ⟨u.getD 0 0,u.getD 1 0,u.getD 2 0,u.getD 3 0⟩
  else some al
def zek (M:List (PointT_×Step_)):Nat->Step_->List Int->Option (List Int)
 | 0,_,_=>none
 | m+1,s,acts =>
  if (s.act != -2)=true then
   if acts.length+1<=1048576 then
    Option.bind (zg3 zbN zbc M s.from_) fun s2=>zek M m s2 (acts++[s.act])
   else none
  else some acts
def zbQ (n:Nat) (b:Box_) (M:List (PointT_×Step_)) (E:List (Int×PointT_)) (bs:List Int):Nat->Int->Option (List Int×Bool)
 | 0,_=>none
 | m+1,k =>
  if decide (k<(bs.length:Int))=true then
   Option.bind (idx bs k) fun x =>
   Option.bind (zdd x b.Box.Plays (w64 (b.Box.Plays+b.Box.Skips))) fun w =>
   if (!w)=true then zbQ n b M E bs m (w64 (k+1))
   else
    Option.bind (zg3 okI zaP E x) fun p =>
    Option.bind (zg3 zbN zbc M p) fun s =>
    Option.bind (zek M n s []) fun acts =>
    some (acts.reverse,true)
  else some ([],false)
def zcl (n:Nat) (a0:Option Box_) (purse:List Int):Option (List Int×Bool) :=
 Option.bind a0 fun b =>
 Option.bind (zej n a0) fun r1 =>
 Option.bind (zbP purse n 0 r1) fun al =>
 Option.bind (zdS n a0 al) fun M =>
 if zjb M=true then zbQ n b M (zfd al M) (zfK ((zfd al M).map (·.1))) n 0 else none
def zaM (n:Nat) (a:Option Box_) (purse:List Int):List Gap_->Option (Unit×List Gap_)
 | [] =>
  Option.bind (zcl n a purse) fun e =>
  if (!e.2)=true then some ((),[]) else some ((),[⟨purse,e.1⟩])
 | x::gs =>
  Option.bind (zck n a purse) fun w1 =>
  Option.bind (zck n a x.purse) fun w2 =>
  if decide (w1>w2)=true then some ((),x::gs)
  else
   Option.bind (zcl n a purse) fun e =>
   if (!e.2)=true then some ((),x::gs)
   else
    Option.bind (zck n a purse) fun w3 =>
    Option.bind (zck n a x.purse) fun w4 =>
    if decide (w3<w4)=true then some ((),[⟨purse,e.1⟩])
    else Option.bind (app (x::gs) ([⟨purse,e.1⟩]:List Gap_)) fun l=>some ((),l)
def zcm (n:Nat) (a0:Option Box_):Option (List Gap_) :=
 Option.bind (zbC n (fun x0 s=>zaM n a0 x0 s) a0 ([]:List Int) 2 ([]:List Gap_)) fun r =>
 some r.2
def zeE (n:Nat) (a0:Box):Option ((Option Box_)×(List Gap_)×Int) :=
 Option.bind (ze0 n a0) fun r1 =>
 if (r1.2 != 0)=true then
  some ((none:Option Box_),([]:List Gap_),r1.2)
 else
  Option.bind (zcm n r1.1) fun r3 =>
  if ((r3.length:Int)==0)=true then
   some ((none:Option Box_),([]:List Gap_),3)
  else
   some (r1.1,r3,0)
def zbq (n:Nat) (a0:Box):Option (Int×Int) :=
 Option.bind (zeE n a0) fun r1 =>
 if (r1.2.2 != 0)=true then
  some (0,r1.2.2)
 else
  Option.bind (idx r1.2.1 0) fun x3 =>
  Option.bind (zck n r1.1 x3.purse) fun r4 =>
  some (r4,0)
def zew (v2:Int):Option (Int) :=
 some v2
def zdE (a0:List Int) (rec1:Int->Int->Option (Int)) (v3:Int) (v4:Int):Option (Int) :=
 if decide (v4<(a0.length:Int))=true then
  Option.bind (idx a0 v4) fun x6 =>
  rec1 (max v3 x6) (w64 (v4+1))
 else
  zew v3
def zcn (a0:List Int):Nat->Int->Int->Option (Int)
 | 0,_,_=>none
 | m+1,v3,v4=>zdE a0 (zcn a0 m) v3 v4
def zex (n:Nat) (a0:List Int):Option (Int) :=
 Option.bind (idx a0 0) fun x1 =>
 zcn a0 n x1 1
def slices_Max_int (n:Nat) (a0:List Int):Option (Int) :=
 if decide ((a0.length:Int)<1)=true then
  none
 else
  zex n a0
def zcM (n:Nat) (a0:Box):Option (Int×Int) :=
 Option.bind (ze0 n a0) fun r1 =>
 if (r1.2 != 0)=true then
  some (0,r1.2)
 else
  Option.bind (zdo n r1.1) fun r3 =>
  Option.bind (slices_Max_int n r3) fun r4 =>
  some ((max 0 (w64 (a0.Plays-r4))),0)
def zic (a0:Wheel):Option (Wheel) :=
 Option.bind (app ([]:List Int) a0.Notches) fun l1 =>
 Option.bind (app ([]:List Int) a0.Coins) fun l2 =>
 some (⟨a0.Round,l1,l2⟩:Wheel)
def zid (a0:Box):Option (Box) :=
 Option.bind (zic a0.Wheel) fun r1 =>
 Option.bind (app ([]:List Int) a0.Found) fun l2 =>
 Option.bind (app ([]:List Int) a0.Marked) fun l3 =>
 Option.bind (app ([]:List Int) a0.Slugs) fun l4 =>
 some (⟨r1,l2,l3,l4,a0.Plays,a0.Skips⟩:Box)
def zdF (v1:Int):Option (Int) :=
 some v1
def zda (a0:Wheel) (a1:List Int) (rec1:Int->Int->Option (Int)) (v2:Int) (v3:Int):Option (Int) :=
 if decide (v3<(a1.length:Int))=true then
  Option.bind (idx a1 v3) fun x5 =>
  Option.bind (idx a0.Coins v3) fun x6 =>
  rec1 (w64 (v2+(w64 (x5*x6)))) (w64 (v3+1))
 else
  zdF v2
def zbG (a0:Wheel) (a1:List Int):Nat->Int->Int->Option (Int)
 | 0,_,_=>none
 | m+1,v2,v3=>zda a0 a1 (zbG a0 a1 m) v2 v3
def zf1 (n:Nat) (a0:Wheel) (a1:List Int):Option (Int) :=
 zbG a0 a1 n 0 0
def zd9:Option (Int×Int) :=
 some (0,3)
def zdj (a0:Box) (r3:(List Int)) (rec1:Int->Option (Int×Int)) (v4:Int):Option (Int×Int) :=
 if decide (v4<(r3.length:Int))=true then
  Option.bind (idx r3 v4) fun x6 =>
  if decide (x6≥a0.Plays)=true then
   some (w64 (x6-a0.Plays),0)
  else
   rec1 (w64 (v4+1))
 else
  zd9
def zb3 (a0:Box) (r3:(List Int)):Nat->Int->Option (Int×Int)
 | 0,_=>none
 | m+1,v4=>zdj a0 r3 (zb3 a0 r3 m) v4
def zb4 (n:Nat) (a0:Box):Option (Int×Int) :=
 Option.bind (ze0 n a0) fun r1 =>
 if (r1.2 != 0)=true then
  some (0,r1.2)
 else
  Option.bind (zdo n r1.1) fun r3 =>
  zb3 a0 r3 n 0
def zdT (st:Spot_) (v2:Int) (v3:Int) (v4:Int) (v5:Int) (v6:Bool):Option (Bool×Spot_) :=
 some (v6,(⟨(⟨v2,v3,v4,v5⟩:Bag_),st.place,st.credit⟩:Spot_))
def zeN (a0:Wheel_) (st:Spot_) (a1:List Int) (v1:Int) (v2:Int) (v3:Int) (v4:Int) (v5:Int):Option (Bool×Spot_) :=
 if ((a1.length:Int)==(a0.Wheel.Coins.length:Int))=true then
  zdT st v2 v3 v4 v5 (decide (v1<=12))
 else
  zdT st v2 v3 v4 v5 false
def zc4 (rec1:Int->Int->Int->Int->Int->Int->Option (Bool×Spot_)) (st:Spot_) (v10:Int) (v11:Int) (v12:Int) (v13:Int) (v14:Int) (v15:Int) (x17:Int) (v18:Bool):Option (Bool×Spot_) :=
 if v18=true then
  some (false,(⟨(⟨v12,v13,v14,v15⟩:Bag_),st.place,st.credit⟩:Spot_))
 else
  Option.bind (idx ([v12,v13,v14,v15]:List Int) v11) fun x20 =>
  Option.bind (zrr ([v12,v13,v14,v15]:List Int) v11 x17) fun l21 =>
  rec1 (w64 (v10+x17)) (w64 (v11+1)) (l21.getD 0 0) (l21.getD 1 0) (l21.getD 2 0) (l21.getD 3 0)
def zea (a0:Wheel_) (st:Spot_) (a1:List Int) (rec1:Int->Int->Int->Int->Int->Int->Option (Bool×Spot_)) (v10:Int) (v11:Int) (v12:Int) (v13:Int) (v14:Int) (v15:Int):Option (Bool×Spot_) :=
 if decide (v11<(a1.length:Int))=true then
  Option.bind (idx a1 v11) fun x17 =>
  if decide (v11≥(a0.Wheel.Coins.length:Int))=true then
   zc4 rec1 st v10 v11 v12 v13 v14 v15 x17 true
  else
   Option.bind (zcP x17 0 12) fun r23 =>
   zc4 rec1 st v10 v11 v12 v13 v14 v15 x17 (!r23)
 else
  zeN a0 st a1 v10 v12 v13 v14 v15
def zbD (a0:Wheel_) (st:Spot_) (a1:List Int):Nat->Int->Int->Int->Int->Int->Int->Option (Bool×Spot_)
 | 0,_,_,_,_,_,_=>none
 | m+1,v10,v11,v12,v13,v14,v15=>zea a0 st a1 (zbD a0 st a1 m) v10 v11 v12 v13 v14 v15
def zdG (n:Nat) (a0:Wheel_) (a1:List Int) (st:Spot_):Option (Bool×Spot_) :=
 zbD a0 st a1 n 0 0 st.left.c0 st.left.c1 st.left.c2 st.left.c3
def zgf (n:Nat) (a0:Wheel) (a1:List Int) (a2:Bool):Option ((Option Wheel_)×Spot_×Int) :=
 Option.bind (ze1 n (fun (x0:Wheel_) s=>zdG n x0 a1 s) a0 (⟨(⟨0,0,0,0⟩:Bag_),0,0⟩:Spot_)) fun r1 =>
 if (r1.1.2 != 0)=true then
  some ((none:Option Wheel_),(⟨(⟨0,0,0,0⟩:Bag_),0,0⟩:Spot_),r1.1.2)
 else
  some ((some r1.1.1),r1.2,0)
def zbx (n:Nat) (a0:Wheel_) (a2:Int) (v1:Int) (v2:Int) (v3:Int) (v4:Int) (v5:Int) (v6:Int):Option (Spot_×Int) :=
 Option.bind (idx a0.Wheel.Coins a2) fun x7 =>
 Option.bind (zdQ n a0 v5 x7) fun r8 =>
 Option.bind (idx ([v1,v2,v3,v4]:List Int) a2) fun x9 =>
 Option.bind (idx ([v1,v2,v3,v4]:List Int) a2) fun x10 =>
 Option.bind (zrr ([v1,v2,v3,v4]:List Int) a2 (w64 (x9-1))) fun l11 =>
 some ((⟨(⟨(l11.getD 0 0),(l11.getD 1 0),(l11.getD 2 0),(l11.getD 3 0)⟩:Bag_),r8.1,w64 (v6+r8.2)⟩:Spot_),r8.2)
def zco (n:Nat) (a0:Wheel_) (a1:Spot_) (a2:Int) (a3:Bool):Option (Spot_×Int) :=
 if a3=true then
  zbx n a0 a2 a1.left.c0 a1.left.c1 a1.left.c2 a1.left.c3 0 (w64 (a1.credit-1))
 else
  zbx n a0 a2 a1.left.c0 a1.left.c1 a1.left.c2 a1.left.c3 a1.place a1.credit
def zbh {S:Type} (rec1:Int->Int->Int->Int->Int->S->Option (Unit×S)) (v2:Int) (v3:Int) (v4:Int) (v5:Int) (v6:Int) (v9:S):Option (Unit×S) :=
 rec1 v2 v3 v4 v5 (w64 (v6+1)) v9
def za9 {S:Type} (n:Nat) (rec1:Int->Int->Int->Int->Int->S->Option (Unit×S)) (a0:Wheel_×Bool) (a1:Spot_) (aF:(List Int)->Spot_->Int->S->Option (Bool×S)) (v2:Int) (v3:Int) (v4:Int) (v5:Int) (v6:Int) (r13:Bool×S) (v15:Bool):Option (Unit×S) :=
 if v15=true then
  zbh rec1 v2 v3 v4 v5 v6 r13.2
 else
  Option.bind (zco n a0.1 (⟨(⟨v2,v3,v4,v5⟩:Bag_),a1.place,a1.credit⟩:Spot_) v6 true) fun r17 =>
  Option.bind (aF ([(-1),v6]:List Int) r17.1 r17.2 r13.2) fun r18 =>
  if (!r18.1)=true then
   some ((),r18.2)
  else
   zbh rec1 v2 v3 v4 v5 v6 r18.2
def zc2 {S:Type} (n:Nat) (a0:Wheel_×Bool) (a1:Spot_) (aF:(List Int)->Spot_->Int->S->Option (Bool×S)) (rec1:Int->Int->Int->Int->Int->S->Option (Unit×S)) (v2:Int) (v3:Int) (v4:Int) (v5:Int) (v6:Int) (v7:S):Option (Unit×S) :=
 if decide (v6<(a0.1.Wheel.Coins.length:Int))=true then
  Option.bind (idx ([v2,v3,v4,v5]:List Int) v6) fun x10 =>
  if (x10==0)=true then
   zbh rec1 v2 v3 v4 v5 v6 v7
  else
   Option.bind (zco n a0.1 (⟨(⟨v2,v3,v4,v5⟩:Bag_),a1.place,a1.credit⟩:Spot_) v6 false) fun r12 =>
   Option.bind (aF ([v6]:List Int) r12.1 r12.2 v7) fun r13 =>
   if (!r13.1)=true then
    some ((),r13.2)
   else
    if (a1.credit==0)=true then
     za9 n rec1 a0 a1 aF v2 v3 v4 v5 v6 r13 true
    else
     za9 n rec1 a0 a1 aF v2 v3 v4 v5 v6 r13 (a1.place==0)
 else
  some ((),v7)
def zaX {S:Type} (n:Nat) (a0:Wheel_×Bool) (a1:Spot_) (aF:(List Int)->Spot_->Int->S->Option (Bool×S)):Nat->Int->Int->Int->Int->Int->S->Option (Unit×S)
 | 0,_,_,_,_,_,_=>none
 | m+1,v2,v3,v4,v5,v6,v7=>zc2 n a0 a1 aF (zaX n a0 a1 aF m) v2 v3 v4 v5 v6 v7
def zfs {S:Type} (n:Nat) (aF:(List Int)->Spot_->Int->S->Option (Bool×S)) (a0:Wheel_×Bool) (a1:Spot_) (st:S):Option (Unit×S) :=
 zaX n a0 a1 aF n a1.left.c0 a1.left.c1 a1.left.c2 a1.left.c3 0 st
def zb5 (v1:Bool) (v2:Int) (v3:List (Spot_×Int)):Option (Bool×(Bool×Int×(List (Spot_×Int)))) :=
 some (true,(v1,v2,v3))
def zb6 (a2:Int) (st:Bool×Int×(List (Spot_×Int))) (r4:Int×(List (Spot_×Int))) (v5:Bool):Option (Bool×(Bool×Int×(List (Spot_×Int)))) :=
 if v5=true then
  zb5 false (w64 (a2+r4.1)) r4.2
 else
  zb5 st.1 st.2.1 r4.2
def zcb (rec:(Wheel_×Bool)->Spot_->(List (Spot_×Int))->Option (Int×(List (Spot_×Int)))) (a0:List Int) (a1:Spot_) (a2:Int) (a3:Wheel_×Bool) (st:Bool×Int×(List (Spot_×Int))):Option (Bool×(Bool×Int×(List (Spot_×Int)))) :=
 Option.bind (rec a3 a1 st.2.2) fun r4 =>
 if st.1=true then
  zb6 a2 st r4 true
 else
  Option.bind (zhP a3.2 (w64 (a2+r4.1)) st.2.1) fun r8 =>
  zb6 a2 st r4 r8
def zcc (n:Nat) (rec:(Wheel_×Bool)->Spot_->(List (Spot_×Int))->Option (Int×(List (Spot_×Int)))) (a0:Wheel_×Bool) (a1:Spot_) (st:(List (Spot_×Int))) (v1:Int) (v2:Int) (v3:Int) (v4:Int) (v5:Int) (x6:Int) (v7:Bool):Option (Int×(List (Spot_×Int))) :=
 if v7=true then
  some (x6,st)
 else
  Option.bind (zfs n (fun (x0:List Int) (x1:Spot_) (x2:Int) s=>zcb rec x0 x1 x2 a0 s) a0 (⟨(⟨v2,v3,v4,v5⟩:Bag_),a1.place,(min a1.credit v1)⟩:Spot_) (true,0,st)) fun r9 =>
  Option.bind (zhO zhq r9.2.2.2 (⟨(⟨v2,v3,v4,v5⟩:Bag_),a1.place,(min a1.credit v1)⟩:Spot_) r9.2.2.1) fun l10 =>
  some (r9.2.2.1,l10)
def zcd (n:Nat) (rec:(Wheel_×Bool)->Spot_->(List (Spot_×Int))->Option (Int×(List (Spot_×Int)))) (a0:Wheel_×Bool) (a1:Spot_) (st:(List (Spot_×Int))) (v1:Int) (v2:Int) (v3:Int) (v4:Int) (v5:Int):Option (Int×(List (Spot_×Int))) :=
 Option.bind (ziM zhq st (⟨(⟨v2,v3,v4,v5⟩:Bag_),a1.place,(min a1.credit v1)⟩:Spot_)) fun x6 =>
 if (zbm st (⟨(⟨v2,v3,v4,v5⟩:Bag_),a1.place,(min a1.credit v1)⟩:Spot_))=true then
  zcc n rec a0 a1 st v1 v2 v3 v4 v5 x6 true
 else
  zcc n rec a0 a1 st v1 v2 v3 v4 v5 x6 (v1==0)
def zd2 (n:Nat) (rec:(Wheel_×Bool)->Spot_->(List (Spot_×Int))->Option (Int×(List (Spot_×Int)))) (a0:Wheel_×Bool) (a1:Spot_) (st:(List (Spot_×Int))) (rec1:Int->Int->Option (Int×(List (Spot_×Int)))) (v12:Int) (v13:Int):Option (Int×(List (Spot_×Int))) :=
 if decide (v13<4)=true then
  Option.bind (idx ([a1.left.c0,a1.left.c1,a1.left.c2,a1.left.c3]:List Int) v13) fun x15 =>
  rec1 (w64 (v12+x15)) (w64 (v13+1))
 else
  zcd n rec a0 a1 st v12 a1.left.c0 a1.left.c1 a1.left.c2 a1.left.c3
def zcL (n:Nat) (rec:(Wheel_×Bool)->Spot_->(List (Spot_×Int))->Option (Int×(List (Spot_×Int)))) (a0:Wheel_×Bool) (a1:Spot_) (st:(List (Spot_×Int))):Nat->Int->Int->Option (Int×(List (Spot_×Int)))
 | 0,_,_=>none
 | m+1,v12,v13=>zd2 n rec a0 a1 st (zcL n rec a0 a1 st m) v12 v13
def zcp (n:Nat) (rec:(Wheel_×Bool)->Spot_->(List (Spot_×Int))->Option (Int×(List (Spot_×Int)))) (a0:Wheel_×Bool) (a1:Spot_) (st:(List (Spot_×Int))):Option (Int×(List (Spot_×Int))) :=
 zcL n rec a0 a1 st n 0 0
def zbg:Nat->(Wheel_×Bool)->Spot_->(List (Spot_×Int))->Option (Int×(List (Spot_×Int)))
 | 0,_,_,_=>none
 | n+1,a0,a1,st=>zcp n (zbg n) a0 a1 st
def zgs (n:Nat) (a0:Wheel) (a1:List Int):Option (Int×Int) :=
 Option.bind (zgf n a0 a1 false) fun r1 =>
 if r1.1.isSome=true then
  Option.bind (r1.1) fun x3 =>
  if (r1.2.2 != 0)=true then
   some (0,r1.2.2)
  else
   Option.bind (zbg n (x3,false) r1.2.1 ([]:List (Spot_×Int))) fun r5 =>
   some (r5.1,0)
 else
  if (r1.2.2 != 0)=true then
   some (0,r1.2.2)
  else
   none
def ze3 (n:Nat) (a0:Wheel) (a1:List Int):Option (Int×Int) :=
 Option.bind (zgf n a0 a1 true) fun r1 =>
 if r1.1.isSome=true then
  Option.bind (r1.1) fun x3 =>
  if (r1.2.2 != 0)=true then
   some (0,r1.2.2)
  else
   Option.bind (zbg n (x3,true) r1.2.1 ([]:List (Spot_×Int))) fun r5 =>
   some (r5.1,0)
 else
  if (r1.2.2 != 0)=true then
   some (0,r1.2.2)
  else
   none
def zcR (v3:Bool):Option (Bool) :=
 some v3
def zd0 (n:Nat):Option (Bool) :=
 Option.bind (ze3 n (⟨50,([10,20,25]:List Int),([5,10,25]:List Int)⟩:Wheel) ([0,0,2]:List Int)) fun r1 =>
 Option.bind (zbq n (⟨(⟨50,([10,20,25]:List Int),([5,10,25]:List Int)⟩:Wheel),([0,0,0]:List Int),([0,0,0]:List Int),([0,0,0]:List Int),3,0⟩:Box)) fun r2 =>
 if (r1.2==0)=true then
  if (r2.2==0)=true then
   if (r1.1==6)=true then
    zcR (r2.1==25)
   else
    zcR false
  else
   zcR false
 else
  zcR false
def zdp (a0:Wheel_) (a1:Int):Option (Bool) :=
 Option.bind (zcP a1 1 20) fun r1 =>
 some r1
def zcS (rec1:Int->(List (Point_×Int))->(List (List Point_))->Option (Int×Int)) (v6:Int) (v12:List (Point_×Int)) (v13:List (List Point_)):Option (Int×Int) :=
 rec1 (w64 (v6+1)) v12 v13
def zbR (rec2:Int->(List (Point_×Int))->(List (List Point_))->Option (Int×Int)) (v23:Int) (v27:List (Point_×Int)) (v28:List (List Point_)):Option (Int×Int) :=
 rec2 (w64 (v23+1)) v27 v28
def zdq (rec3:Int->(List (List Point_))->Option (Int×Int)) (v37:Int) (v40:List (List Point_)):Option (Int×Int) :=
 rec3 (w64 (v37+1)) v40
def zdH (n:Nat) (rec3:Int->(List (List Point_))->Option (Int×Int)) (a0:Wheel) (a1:Int) (r1:(Wheel_×Int)×Unit) (v6:Int) (x29:Point_) (v37:Int) (x41:Stand) (rec4:Int->(List (List Point_))->Option (Int×Int)) (v43:Int) (v44:List (List Point_)):Option (Int×Int) :=
 if decide (v43<(a0.Coins.length:Int))=true then
  Option.bind (idx a0.Coins v43) fun x46 =>
  Option.bind (zcX n r1.1.1 x41 v43) fun r47 =>
  Option.bind (idx v44 (w64 (v6+x46))) fun x48 =>
  Option.bind (app x48 ([(⟨(⟨r47.Place,(min r47.Credit a1)⟩:Stand),w64 (x29.bought+(w64 (r47.Credit-x41.Credit)))⟩:Point_)]:List Point_)) fun l49 =>
  Option.bind (idx v44 (w64 (v6+x46))) fun x50 =>
  rec4 (w64 (v43+1)) (v44.set (Int.toNat (w64 (v6+x46))) l49)
 else
  zdq rec3 v37 v44
def zcq (n:Nat) (rec3:Int->(List (List Point_))->Option (Int×Int)) (a0:Wheel) (a1:Int) (r1:(Wheel_×Int)×Unit) (v6:Int) (x29:Point_) (v37:Int) (x41:Stand):Nat->Int->(List (List Point_))->Option (Int×Int)
 | 0,_,_=>none
 | m+1,v43,v44=>zdH n rec3 a0 a1 r1 v6 x29 v37 x41 (zcq n rec3 a0 a1 r1 v6 x29 v37 x41 m) v43 v44
def zdI (n:Nat) (rec2:Int->(List (Point_×Int))->(List (List Point_))->Option (Int×Int)) (a0:Wheel) (a1:Int) (r1:(Wheel_×Int)×Unit) (v6:Int) (v23:Int) (v24:List (Point_×Int)) (x29:Point_) (x31:Int) (v35:List Stand) (rec3:Int->(List (List Point_))->Option (Int×Int)) (v37:Int) (v38:List (List Point_)):Option (Int×Int) :=
 if decide (v37<(v35.length:Int))=true then
  Option.bind (idx v35 v37) fun x41 =>
  zcq n rec3 a0 a1 r1 v6 x29 v37 x41 n 0 v38
 else
  zbR rec2 v23 (zcW v24 x29 (w64 (x31+1))) v38
def zaY (n:Nat) (rec2:Int->(List (Point_×Int))->(List (List Point_))->Option (Int×Int)) (a0:Wheel) (a1:Int) (r1:(Wheel_×Int)×Unit) (v6:Int) (v23:Int) (v24:List (Point_×Int)) (x29:Point_) (x31:Int) (v35:List Stand):Nat->Int->(List (List Point_))->Option (Int×Int)
 | 0,_,_=>none
 | m+1,v37,v38=>zdI n rec2 a0 a1 r1 v6 v23 v24 x29 x31 v35 (zaY n rec2 a0 a1 r1 v6 v23 v24 x29 x31 v35 m) v37 v38
def zcT (n:Nat) (rec2:Int->(List (Point_×Int))->(List (List Point_))->Option (Int×Int)) (a0:Wheel) (a1:Int) (r1:(Wheel_×Int)×Unit) (v6:Int) (v23:Int) (v24:List (Point_×Int)) (v25:List (List Point_)) (x29:Point_) (x31:Int) (v35:List Stand):Option (Int×Int) :=
 zaY n rec2 a0 a1 r1 v6 v23 v24 x29 x31 v35 n 0 v25
def zbu (n:Nat) (rec2:Int->(List (Point_×Int))->(List (List Point_))->Option (Int×Int)) (a0:Wheel) (a1:Int) (r1:(Wheel_×Int)×Unit) (v6:Int) (v23:Int) (v24:List (Point_×Int)) (v25:List (List Point_)) (x29:Point_) (x31:Int) (v51:Bool):Option (Int×Int) :=
 if v51=true then
  Option.bind (zcX n r1.1.1 x29.Stand (-1)) fun r53 =>
  Option.bind (app ([x29.Stand]:List Stand) ([r53]:List Stand)) fun l54 =>
  zcT n rec2 a0 a1 r1 v6 v23 v24 v25 x29 x31 l54
 else
  zcT n rec2 a0 a1 r1 v6 v23 v24 v25 x29 x31 ([x29.Stand]:List Stand)
def zdJ (n:Nat) (rec1:Int->(List (Point_×Int))->(List (List Point_))->Option (Int×Int)) (a0:Wheel) (a1:Int) (r1:(Wheel_×Int)×Unit) (v6:Int) (x21:List Point_) (rec2:Int->(List (Point_×Int))->(List (List Point_))->Option (Int×Int)) (v23:Int) (v24:List (Point_×Int)) (v25:List (List Point_)):Option (Int×Int) :=
 if decide (v23<(x21.length:Int))=true then
  Option.bind (idx x21 v23) fun x29 =>
  if decide (x29.bought≥a1)=true then
   some (v6,0)
  else
   Option.bind (ziM zd4 v24 x29) fun x31 =>
   Option.bind (ziM zd4 v24 x29) fun x32 =>
   Option.bind (ziM zd4 (zcW v24 x29 (w64 (x31+1))) x29) fun x33 =>
   if decide (x33>1)=true then
    zbR rec2 v23 (zcW v24 x29 (w64 (x31+1))) v25
   else
    if decide (x29.Stand.Credit>0)=true then
     zbu n rec2 a0 a1 r1 v6 v23 v24 v25 x29 x31 (decide (x29.Stand.Place>0))
    else
     zbu n rec2 a0 a1 r1 v6 v23 v24 v25 x29 x31 false
 else
  zcS rec1 v6 v24 v25
def zaj (n:Nat) (rec1:Int->(List (Point_×Int))->(List (List Point_))->Option (Int×Int)) (a0:Wheel) (a1:Int) (r1:(Wheel_×Int)×Unit) (v6:Int) (x21:List Point_):Nat->Int->(List (Point_×Int))->(List (List Point_))->Option (Int×Int)
 | 0,_,_,_=>none
 | m+1,v23,v24,v25=>zdJ n rec1 a0 a1 r1 v6 x21 (zaj n rec1 a0 a1 r1 v6 x21 m) v23 v24 v25
def zdr (n:Nat) (rec1:Int->(List (Point_×Int))->(List (List Point_))->Option (Int×Int)) (a0:Wheel) (a1:Int) (r1:(Wheel_×Int)×Unit) (v6:Int) (v7:List (Point_×Int)) (v17:List (List Point_)):Option (Int×Int) :=
 Option.bind (idx v17 v6) fun x21 =>
 zaj n rec1 a0 a1 r1 v6 x21 n 0 v7 v17
def zdK (n:Nat) (rec1:Int->(List (Point_×Int))->(List (List Point_))->Option (Int×Int)) (a0:Wheel) (a1:Int) (r1:(Wheel_×Int)×Unit) (v6:Int) (v7:List (Point_×Int)) (rec5:(List (List Point_))->Option (Int×Int)) (v56:List (List Point_)):Option (Int×Int) :=
 if decide ((v56.length:Int)<=(w64 (v6+100)))=true then
  Option.bind (app v56 ([[]]:List (List Point_))) fun l62 =>
  rec5 l62
 else
  zdr n rec1 a0 a1 r1 v6 v7 v56
def zcr (n:Nat) (rec1:Int->(List (Point_×Int))->(List (List Point_))->Option (Int×Int)) (a0:Wheel) (a1:Int) (r1:(Wheel_×Int)×Unit) (v6:Int) (v7:List (Point_×Int)):Nat->(List (List Point_))->Option (Int×Int)
 | 0,_=>none
 | m+1,v56=>zdK n rec1 a0 a1 r1 v6 v7 (zcr n rec1 a0 a1 r1 v6 v7 m) v56
def zeS (n:Nat) (a0:Wheel) (a1:Int) (r1:(Wheel_×Int)×Unit) (rec1:Int->(List (Point_×Int))->(List (List Point_))->Option (Int×Int)) (v6:Int) (v7:List (Point_×Int)) (v8:List (List Point_)):Option (Int×Int) :=
 zcr n rec1 a0 a1 r1 v6 v7 n v8
def zah (n:Nat) (a0:Wheel) (a1:Int) (r1:(Wheel_×Int)×Unit):Nat->Int->(List (Point_×Int))->(List (List Point_))->Option (Int×Int)
 | 0,_,_,_=>none
 | m+1,v6,v7,v8=>zeS n a0 a1 r1 (zah n a0 a1 r1 m) v6 v7 v8
def zds (n:Nat) (a0:Wheel) (a1:Int) (r1:(Wheel_×Int)×Unit) (v3:Bool):Option (Int×Int) :=
 if v3=true then
  some (0,3)
 else
  zah n a0 a1 r1 n 0 ([]:List (Point_×Int)) ([([(⟨(⟨0,0⟩:Stand),0⟩:Point_)]:List Point_)]:List (List Point_))
def zeF (n:Nat) (a0:Wheel) (a1:Int):Option (Int×Int) :=
 Option.bind (ze1 n (fun (x0:Wheel_) (_:Unit)=>(zdp x0 a1).map fun y=>(y,())) a0 ()) fun r1 =>
 if (r1.1.2 != 0)=true then
  some (0,r1.1.2)
 else
  if ((a0.Coins.length:Int)==0)=true then
   zds n a0 a1 r1 true
  else
   zds n a0 a1 r1 ((a0.Notches.length:Int)==0)
def zcs (v22:Bool):Option (Bool) :=
 some v22
def zbH (n:Nat) (a0:Box) (r4:(List Int)) (r6:Int×Int) (v18:Bool):Option (Bool) :=
 if v18=true then
  Option.bind (zd0 n) fun r20 =>
  some r20
 else
  Option.bind (zeF n a0.Wheel r6.1) fun r21 =>
  if (r21.2==0)=true then
   if decide (r21.1≥1)=true then
    Option.bind (zf1 n a0.Wheel r4) fun r25 =>
    if decide (r21.1<=r25)=true then
     Option.bind (zd0 n) fun r27 =>
     zcs r27
    else
     zcs false
   else
    zcs false
  else
   zcs false
def zay (n:Nat) (a0:Box) (r4:(List Int)) (r6:Int×Int) (v16:Bool):Option (Bool) :=
 if v16=true then
  some false
 else
  if decide (r6.1<1)=true then
   zbH n a0 r4 r6 true
  else
   zbH n a0 r4 r6 (decide (r6.1>20))
def zcY (n:Nat) (a0:Box) (r4:(List Int)) (r6:Int×Int) (r11:Box) (v12:Int):Option (Bool) :=
 Option.bind (zbq n (⟨r11.Wheel,r11.Found,r11.Marked,r11.Slugs,w64 (r6.1+1),0⟩:Box)) fun r13 =>
 Option.bind (zcM n (⟨r11.Wheel,r11.Found,r11.Marked,r11.Slugs,w64 (r6.1+1),0⟩:Box)) fun r14 =>
 Option.bind (zb4 n (⟨r11.Wheel,r11.Found,r11.Marked,r11.Slugs,w64 (r6.1+1),0⟩:Box)) fun r15 =>
 if (r13.2==0)=true then
  if decide (r13.1<1)=true then
   zay n a0 r4 r6 true
  else
   if (r13.2 != 0)=true then
    if (r13.2 != 3)=true then
     zay n a0 r4 r6 true
    else
     if (r14.2 != 0)=true then
      zay n a0 r4 r6 true
     else
      if (r14.1 != 1)=true then
       zay n a0 r4 r6 true
      else
       zay n a0 r4 r6 (r15.2 != 3)
   else
    if (r14.2 != 0)=true then
     zay n a0 r4 r6 true
    else
     if (r14.1 != 1)=true then
      zay n a0 r4 r6 true
     else
      zay n a0 r4 r6 (r15.2 != 3)
 else
  if (r13.2 != 0)=true then
   if (r13.2 != 3)=true then
    zay n a0 r4 r6 true
   else
    if (r14.2 != 0)=true then
     zay n a0 r4 r6 true
    else
     if (r14.1 != 1)=true then
      zay n a0 r4 r6 true
     else
      zay n a0 r4 r6 (r15.2 != 3)
  else
   if (r14.2 != 0)=true then
    zay n a0 r4 r6 true
   else
    if (r14.1 != 1)=true then
     zay n a0 r4 r6 true
    else
     zay n a0 r4 r6 (r15.2 != 3)
def zbe (rec1:Int->Int->Option (Bool)) (v44:Int) (x47:Int) (v51:Bool):Option (Bool) :=
 if v51=true then
  some false
 else
  rec1 (w64 (v44+1)) x47
def zdb (n:Nat) (a0:Box) (r4:(List Int)) (r6:Int×Int) (r8:Int×Int) (r11:Box) (rec1:Int->Int->Option (Bool)) (v44:Int) (v45:Int):Option (Bool) :=
 if decide (v44<2)=true then
  Option.bind (idx ([r6.1,r8.1]:List Int) v44) fun x47 =>
  Option.bind (zbq n (⟨r11.Wheel,r11.Found,r11.Marked,r11.Slugs,x47,0⟩:Box)) fun r48 =>
  Option.bind (zcM n (⟨r11.Wheel,r11.Found,r11.Marked,r11.Slugs,x47,0⟩:Box)) fun r49 =>
  Option.bind (zb4 n (⟨r11.Wheel,r11.Found,r11.Marked,r11.Slugs,x47,0⟩:Box)) fun r50 =>
  if (r48.2 != 0)=true then
   zbe rec1 v44 x47 true
  else
   if (r49.2 != 0)=true then
    zbe rec1 v44 x47 true
   else
    if (r50.2 != 0)=true then
     zbe rec1 v44 x47 true
    else
     if (r48.1 != 0)=true then
      zbe rec1 v44 x47 true
     else
      if (r49.1 != 0)=true then
       zbe rec1 v44 x47 true
      else
       zbe rec1 v44 x47 (r50.1 != 0)
 else
  zcY n a0 r4 r6 r11 v45
def za1 (n:Nat) (a0:Box) (r4:(List Int)) (r6:Int×Int) (r8:Int×Int) (r11:Box):Nat->Int->Int->Option (Bool)
 | 0,_,_=>none
 | m+1,v44,v45=>zdb n a0 r4 r6 r8 r11 (za1 n a0 r4 r6 r8 r11 m) v44 v45
def zbr (n:Nat) (a0:Box) (r4:(List Int)) (r6:Int×Int) (r8:Int×Int) (v9:Bool):Option (Bool) :=
 if v9=true then
  some false
 else
  Option.bind (zid a0) fun r11 =>
  za1 n a0 r4 r6 r8 r11 n 0 r11.Plays
def zbs (n:Nat) (a0:Box) (v1:Bool):Option (Bool) :=
 if v1=true then
  Option.bind (zd0 n) fun r3 =>
  some r3
 else
  Option.bind (zhQ n a0) fun r4 =>
  Option.bind (app ([]:List Int) r4) fun l5 =>
  Option.bind (ze3 n a0.Wheel l5) fun r6 =>
  Option.bind (app ([]:List Int) r4) fun l7 =>
  Option.bind (zgs n a0.Wheel l7) fun r8 =>
  if (r6.2 != 0)=true then
   zbr n a0 r4 r6 r8 true
  else
   if (r8.2 != 0)=true then
    zbr n a0 r4 r6 r8 true
   else
    if decide (r8.1<0)=true then
     zbr n a0 r4 r6 r8 true
    else
     if decide (r8.1>r6.1)=true then
      zbr n a0 r4 r6 r8 true
     else
      zbr n a0 r4 r6 r8 (decide (r6.1≥9999))
def zf2 (n:Nat) (a0:Box):Option (Bool) :=
 Option.bind (zhR n a0) fun r62 =>
 if r62=true then
  zbs n a0 true
 else
  Option.bind (zgq n a0) fun r64 =>
  zbs n a0 (r64 != 0)
end Go.Law
