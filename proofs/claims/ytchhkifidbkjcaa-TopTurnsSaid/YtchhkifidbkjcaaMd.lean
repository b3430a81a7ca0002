/-
  What the functions compute (printed by gen.py).
  Conditions: none.
-/
import Derived.Test.YtchhkifidbkjcaaAmPh
set_option linter.all false
namespace Go.Law
open Go Go.AM
set_option linter.unusedVariables false
structure Wheel where
 Round:Int
 Notches:List Int
 Coins:List Int
 deriving DecidableEq,Inhabited,Repr
abbrev Wheel.cells (x:Wheel):List AV:=[.v (.int .i64 x.Round),.sl .no 1 (x.Notches.map cI),.sl .no 1 (x.Coins.map cI)]
structure Wheel_ where
 Wheel:Wheel
 deriving DecidableEq,Inhabited,Repr
abbrev Wheel_.cells (x:Wheel_):List AV:=[.v (.int .i64 x.Wheel.Round),.sl .no 1 (x.Wheel.Notches.map cI),.sl .no 1 (x.Wheel.Coins.map cI)]
structure Bag_ where
 c0:Int
 c1:Int
 c2:Int
 c3:Int
 deriving DecidableEq,Inhabited,Repr
abbrev Bag_.cells (x:Bag_):List AV:=[.v (.int .i64 x.c0),.v (.int .i64 x.c1),.v (.int .i64 x.c2),.v (.int .i64 x.c3)]
structure Spot_ where
 left:Bag_
 place:Int
 credit:Int
 deriving DecidableEq,Inhabited,Repr
abbrev Spot_.cells (x:Spot_):List AV:=[.v (.int .i64 x.left.c0),.v (.int .i64 x.left.c1),.v (.int .i64 x.left.c2),.v (.int .i64 x.left.c3),.v (.int .i64 x.place),.v (.int .i64 x.credit)]
structure Box where
 Wheel:Wheel
 Found:List Int
 Marked:List Int
 Slugs:List Int
 Plays:Int
 Skips:Int
 deriving DecidableEq,Inhabited,Repr
abbrev Box.cells (x:Box):List AV:=[.v (.int .i64 x.Wheel.Round),.sl .no 1 (x.Wheel.Notches.map cI),.sl .no 1 (x.Wheel.Coins.map cI),.sl .no 1 (x.Found.map cI),.sl .no 1 (x.Marked.map cI),.sl .no 1 (x.Slugs.map cI),.v (.int .i64 x.Plays),.v (.int .i64 x.Skips)]
structure Box_ where
 Box:Box
 deriving DecidableEq,Inhabited,Repr
abbrev Box_.cells (x:Box_):List AV:=[.v (.int .i64 x.Box.Wheel.Round),.sl .no 1 (x.Box.Wheel.Notches.map cI),.sl .no 1 (x.Box.Wheel.Coins.map cI),.sl .no 1 (x.Box.Found.map cI),.sl .no 1 (x.Box.Marked.map cI),.sl .no 1 (x.Box.Slugs.map cI),.v (.int .i64 x.Box.Plays),.v (.int .i64 x.Box.Skips)]
structure Stand where
 Place:Int
 Credit:Int
 deriving DecidableEq,Inhabited,Repr
abbrev Stand.cells (x:Stand):List AV:=[.v (.int .i64 x.Place),.v (.int .i64 x.Credit)]
structure Gap_ where
 purse:List Int
 acts:List Int
 deriving DecidableEq,Inhabited,Repr
abbrev Gap_.cells (x:Gap_):List AV:=[.sl .no 1 (x.purse.map cI),.sl .no 1 (x.acts.map cI)]
structure WearRecord where
 Worn:Int
 Limit:Int
 Price:Int
 Plays:List Int
 deriving DecidableEq,Inhabited,Repr
abbrev WearRecord.cells (x:WearRecord):List AV:=[.v (.int .i64 x.Worn),.v (.int .i64 x.Limit),.v (.int .i64 x.Price),.sl .no 1 (x.Plays.map cI)]
structure Wear where
 Weeks:Int
 Price:Int
 Age:Int
 Step:Int
 Rough:List Int
 Records:List WearRecord
 deriving DecidableEq,Inhabited,Repr
abbrev Wear.cells (x:Wear):List AV:=[.v (.int .i64 x.Weeks),.v (.int .i64 x.Price),.v (.int .i64 x.Age),.v (.int .i64 x.Step),.sl .no 1 (x.Rough.map cI),.sl .no 4 (x.Records.map WearRecord.cells)]
structure WearWeek where
 Needle:Int
 Records:List Int
 deriving DecidableEq,Inhabited,Repr
abbrev WearWeek.cells (x:WearWeek):List AV:=[.v (.int .i64 x.Needle),.sl .no 1 (x.Records.map cI)]
structure BoxW_ where
 Wear:Wear
 deriving DecidableEq,Inhabited,Repr
abbrev BoxW_.cells (x:BoxW_):List AV:=[.v (.int .i64 x.Wear.Weeks),.v (.int .i64 x.Wear.Price),.v (.int .i64 x.Wear.Age),.v (.int .i64 x.Wear.Step),.sl .no 1 (x.Wear.Rough.map cI),.sl .no 4 (x.Wear.Records.map WearRecord.cells)]
structure Turning where
 Step:Int
 Rough:Int
 Age:Int
 deriving DecidableEq,Inhabited,Repr
abbrev Turning.cells (x:Turning):List AV:=[.v (.int .i64 x.Step),.v (.int .i64 x.Rough),.v (.int .i64 x.Age)]
structure PointT_ where
 Stand:Stand
 in_:Bag_
 bought:Int
 deriving DecidableEq,Inhabited,Repr
abbrev PointT_.cells (x:PointT_):List AV:=[.v (.int .i64 x.Stand.Place),.v (.int .i64 x.Stand.Credit),.v (.int .i64 x.in_.c0),.v (.int .i64 x.in_.c1),.v (.int .i64 x.in_.c2),.v (.int .i64 x.in_.c3),.v (.int .i64 x.bought)]
def zgZ (x:Spot_):Bool:=([x.left.c0,x.left.c1,x.left.c2,x.left.c3,x.place,x.credit]:List Int).all okI
def zaq (x:Spot_):Value:=.agg (([x.left.c0,x.left.c1,x.left.c2,x.left.c3,x.place,x.credit]:List Int).map kvI).toArray
def zbF (x:PointT_):Bool:=([x.Stand.Place,x.Stand.Credit,x.in_.c0,x.in_.c1,x.in_.c2,x.in_.c3,x.bought]:List Int).all okI
def zad (x:PointT_):Value:=.agg (([x.Stand.Place,x.Stand.Credit,x.in_.c0,x.in_.c1,x.in_.c2,x.in_.c3,x.bought]:List Int).map kvI).toArray
def zji (a0:Int) (a1:Int):Option (Bool) :=
 some (decide (a0>a1))
def zhv (b:Bool) (x y:Int):Option Bool:=cond b (zji x y) (zji x y)
def zdQ (v1:Bool):Option (Bool) :=
 some v1
def zet (a0:Int) (a1:Int) (a2:Int):Option (Bool) :=
 if decide (a0≥a1)=true then
  zdQ (decide (a0<=a2))
 else
  zdQ false
def zeB:Option (Bool) :=
 some true
def zcj (rec1:Int->Option (Bool)) (v1:Int) (v3:Bool):Option (Bool) :=
 if v3=true then
  some false
 else
  rec1 (w64 (v1+1))
def zd3 (a0:List Int) (a1:Int) (a2:Int) (rec1:Int->Option (Bool)) (v1:Int):Option (Bool) :=
 if decide (v1<(a0.length:Int))=true then
  Option.bind (idx a0 v1) fun x5 =>
  Option.bind (zet x5 a1 a2) fun r6 =>
  if (!r6)=true then
   zcj rec1 v1 true
  else
   if decide (v1>0)=true then
    Option.bind (idx a0 v1) fun x9 =>
    Option.bind (idx a0 (w64 (v1-1))) fun x10 =>
    zcj rec1 v1 (decide (x9<=x10))
   else
    zcj rec1 v1 false
 else
  zeB
def zbO (a0:List Int) (a1:Int) (a2:Int):Nat->Int->Option (Bool)
 | 0,_=>none
 | m+1,v1=>zd3 a0 a1 a2 (zbO a0 a1 a2 m) v1
def zgd (n:Nat) (a0:List Int) (a1:Int) (a2:Int):Option (Bool) :=
 zbO a0 a1 a2 n 0
def zcz (v1:Bool):Option (Int) :=
 if v1=true then
  some 10
 else
  some 0
def zg0 (n:Nat) (a0:Wheel):Option (Int) :=
 Option.bind (zet a0.Round 1 200) fun r3 =>
 if (!r3)=true then
  zcz true
 else
  if decide ((a0.Notches.length:Int)>12)=true then
   zcz true
  else
   Option.bind (zgd n a0.Notches 1 a0.Round) fun r6 =>
   if (!r6)=true then
    zcz true
   else
    if decide ((a0.Coins.length:Int)>4)=true then
     zcz true
    else
     Option.bind (zgd n a0.Coins 1 100) fun r9 =>
     zcz (!r9)
def zej (v2:Int):Option (Bool) :=
 some (decide (v2<=12))
def zdE (a1:List Int) (rec1:Int->Int->Option (Bool)) (v3:Int) (v4:Int):Option (Bool) :=
 if decide (v4<(a1.length:Int))=true then
  Option.bind (idx a1 v4) fun x6 =>
  Option.bind (zet x6 0 12) fun r7 =>
  if (!r7)=true then
   some false
  else
   Option.bind (idx a1 v4) fun x9 =>
   rec1 (w64 (v3+x9)) (w64 (v4+1))
 else
  zej v3
def zb3 (a1:List Int):Nat->Int->Int->Option (Bool)
 | 0,_,_=>none
 | m+1,v3,v4=>zdE a1 (zb3 a1 m) v3 v4
def zfE (n:Nat) (a0:Wheel) (a1:List Int):Option (Bool) :=
 if ((a1.length:Int) != (a0.Coins.length:Int))=true then
  some false
 else
  zb3 a1 n 0 0
def ze6 (v1:Int):Option (Int) :=
 some v1
def zek (a0:List Int) (rec1:Int->Int->Option (Int)) (v2:Int) (v3:Int):Option (Int) :=
 if decide (v3<(a0.length:Int))=true then
  Option.bind (idx a0 v3) fun x5 =>
  rec1 (w64 (v2+x5)) (w64 (v3+1))
 else
  ze6 v2
def zcX (a0:List Int):Nat->Int->Int->Option (Int)
 | 0,_,_=>none
 | m+1,v2,v3=>zek a0 (zcX a0 m) v2 v3
def zg1 (n:Nat) (a0:List Int):Option (Int) :=
 zcX a0 n 0 0
def zdR (v1:Bool):Option (Bool) :=
 some v1
def zcP (a0:Int) (a1:Int) (a2:Int):Option (Bool) :=
 if decide (a1<=a0)=true then
  zdR (decide (a0<=a2))
 else
  zdR false
def zeC (a0:List Int) (a1:Int):Option (Bool) :=
 some (decide ((a0.length:Int)<=a1))
def zck (rec1:Int->Option (Bool)) (v1:Int) (v4:Bool):Option (Bool) :=
 if v4=true then
  some false
 else
  rec1 (w64 (v1+1))
def zd4 (a0:List Int) (a1:Int) (a2:Int) (rec1:Int->Option (Bool)) (v1:Int):Option (Bool) :=
 if decide (v1<(a0.length:Int))=true then
  Option.bind (idx a0 v1) fun x3 =>
  Option.bind (zcP x3 1 a2) fun r6 =>
  if (!r6)=true then
   zck rec1 v1 true
  else
   if decide (v1>0)=true then
    Option.bind (idx a0 (w64 (v1-1))) fun x9 =>
    zck rec1 v1 (decide (x3<=x9))
   else
    zck rec1 v1 false
 else
  zeC a0 a1
def zbP (a0:List Int) (a1:Int) (a2:Int):Nat->Int->Option (Bool)
 | 0,_=>none
 | m+1,v1=>zd4 a0 a1 a2 (zbP a0 a1 a2 m) v1
def zge (n:Nat) (a0:List Int) (a1:Int) (a2:Int):Option (Bool) :=
 zbP a0 a1 a2 n 0
def zdx (v1:Bool):Option (Int) :=
 if v1=true then
  some 10
 else
  some 0
def zfU (n:Nat) (a0:Wheel):Option (Int) :=
 Option.bind (zcP a0.Round 1 200) fun r3 =>
 if (!r3)=true then
  zdx true
 else
  Option.bind (zge n a0.Notches 12 a0.Round) fun r5 =>
  if (!r5)=true then
   zdx true
  else
   Option.bind (zge n a0.Coins 4 100) fun r7 =>
   zdx (!r7)
def zeY {S:Type} (n:Nat) (aF:Wheel_->S->Option (Bool×S)) (a0:Wheel) (st:S):Option ((Wheel_×Int)×S) :=
 Option.bind (zfU n a0) fun r1 =>
 if (r1 != 0)=true then
  some (((⟨(⟨0,([]:List Int),([]:List Int)⟩:Wheel)⟩:Wheel_),r1),st)
 else
  Option.bind (aF (⟨a0⟩:Wheel_) st) fun r3 =>
  if (!r3.1)=true then
   some (((⟨(⟨0,([]:List Int),([]:List Int)⟩:Wheel)⟩:Wheel_),1),r3.2)
  else
   some (((⟨a0⟩:Wheel_),0),r3.2)
def zdr (st:Spot_) (v2:Int) (v3:Int) (v4:Int) (v5:Int) (v6:Bool):Option (Bool×Spot_) :=
 some (v6,(⟨(⟨v2,v3,v4,v5⟩:Bag_),st.place,st.credit⟩:Spot_))
def zel (a0:Wheel_) (st:Spot_) (a1:List Int) (v1:Int) (v2:Int) (v3:Int) (v4:Int) (v5:Int):Option (Bool×Spot_) :=
 if ((a1.length:Int)==(a0.Wheel.Coins.length:Int))=true then
  zdr st v2 v3 v4 v5 (decide (v1<=12))
 else
  zdr st v2 v3 v4 v5 false
def zcM (rec1:Int->Int->Int->Int->Int->Int->Option (Bool×Spot_)) (st:Spot_) (v10:Int) (v11:Int) (v12:Int) (v13:Int) (v14:Int) (v15:Int) (x17:Int) (v18:Bool):Option (Bool×Spot_) :=
 if v18=true then
  some (false,(⟨(⟨v12,v13,v14,v15⟩:Bag_),st.place,st.credit⟩:Spot_))
 else
  Option.bind (idx ([v12,v13,v14,v15]:List Int) v11) fun x20 =>
  Option.bind (zqt ([v12,v13,v14,v15]:List Int) v11 x17) fun l21 =>
  rec1 (w64 (v10+x17)) (w64 (v11+1)) (l21.getD 0 0) (l21.getD 1 0) (l21.getD 2 0) (l21.getD 3 0)
def zdF (a0:Wheel_) (st:Spot_) (a1:List Int) (rec1:Int->Int->Int->Int->Int->Int->Option (Bool×Spot_)) (v10:Int) (v11:Int) (v12:Int) (v13:Int) (v14:Int) (v15:Int):Option (Bool×Spot_) :=
 if decide (v11<(a1.length:Int))=true then
  Option.bind (idx a1 v11) fun x17 =>
  if decide (v11≥(a0.Wheel.Coins.length:Int))=true then
   zcM rec1 st v10 v11 v12 v13 v14 v15 x17 true
  else
   Option.bind (zcP x17 0 12) fun r23 =>
   zcM rec1 st v10 v11 v12 v13 v14 v15 x17 (!r23)
 else
  zel a0 st a1 v10 v12 v13 v14 v15
def zbv (a0:Wheel_) (st:Spot_) (a1:List Int):Nat->Int->Int->Int->Int->Int->Int->Option (Bool×Spot_)
 | 0,_,_,_,_,_,_=>none
 | m+1,v10,v11,v12,v13,v14,v15=>zdF a0 st a1 (zbv a0 st a1 m) v10 v11 v12 v13 v14 v15
def zdi (n:Nat) (a0:Wheel_) (a1:List Int) (st:Spot_):Option (Bool×Spot_) :=
 zbv a0 st a1 n 0 0 st.left.c0 st.left.c1 st.left.c2 st.left.c3
def zgD (n:Nat) (a0:Wheel) (a1:List Int) (a2:Bool):Option ((Option Wheel_)×Spot_×Int) :=
 Option.bind (zeY n (fun (x0:Wheel_) s=>zdi n x0 a1 s) a0 (⟨(⟨0,0,0,0⟩:Bag_),0,0⟩:Spot_)) fun r1 =>
 if (r1.1.2 != 0)=true then
  some ((none:Option Wheel_),(⟨(⟨0,0,0,0⟩:Bag_),0,0⟩:Spot_),r1.1.2)
 else
  some ((some r1.1.1),r1.2,0)
def zdj (a0:Wheel_) (a1:Int) (a2:Int) (v1:Int):Option (Int×Int) :=
 Option.bind (rem (w64 (a1+a2)) a0.Wheel.Round) fun q2 =>
 some (q2,v1)
def zcQ (a0:Wheel_) (a1:Int) (a2:Int) (rec1:Int->Int->Option (Int×Int)) (v3:Int) (v4:Int):Option (Int×Int) :=
 if decide (v4<(a0.Wheel.Notches.length:Int))=true then
  Option.bind (idx a0.Wheel.Notches v4) fun x6 =>
  Option.bind (quo (w64 ((w64 ((w64 (a1+a2))-x6))+a0.Wheel.Round)) a0.Wheel.Round) fun q7 =>
  Option.bind (quo (w64 ((w64 (a1-x6))+a0.Wheel.Round)) a0.Wheel.Round) fun q8 =>
  rec1 (w64 (v3+(w64 (q7-q8)))) (w64 (v4+1))
 else
  zdj a0 a1 a2 v3
def zbh (a0:Wheel_) (a1:Int) (a2:Int):Nat->Int->Int->Option (Int×Int)
 | 0,_,_=>none
 | m+1,v3,v4=>zcQ a0 a1 a2 (zbh a0 a1 a2 m) v3 v4
def zds (n:Nat) (a0:Wheel_) (a1:Int) (a2:Int):Option (Int×Int) :=
 zbh a0 a1 a2 n 0 0
def zbp (n:Nat) (a0:Wheel_) (a2:Int) (v1:Int) (v2:Int) (v3:Int) (v4:Int) (v5:Int) (v6:Int):Option (Spot_×Int) :=
 Option.bind (idx a0.Wheel.Coins a2) fun x7 =>
 Option.bind (zds n a0 v5 x7) fun r8 =>
 Option.bind (idx ([v1,v2,v3,v4]:List Int) a2) fun x9 =>
 Option.bind (idx ([v1,v2,v3,v4]:List Int) a2) fun x10 =>
 Option.bind (zqt ([v1,v2,v3,v4]:List Int) a2 (w64 (x9-1))) fun l11 =>
 some ((⟨(⟨(l11.getD 0 0),(l11.getD 1 0),(l11.getD 2 0),(l11.getD 3 0)⟩:Bag_),r8.1,w64 (v6+r8.2)⟩:Spot_),r8.2)
def zca (n:Nat) (a0:Wheel_) (a1:Spot_) (a2:Int) (a3:Bool):Option (Spot_×Int) :=
 if a3=true then
  zbp n a0 a2 a1.left.c0 a1.left.c1 a1.left.c2 a1.left.c3 0 (w64 (a1.credit-1))
 else
  zbp n a0 a2 a1.left.c0 a1.left.c1 a1.left.c2 a1.left.c3 a1.place a1.credit
def zbb {S:Type} (rec1:Int->Int->Int->Int->Int->S->Option (Unit×S)) (v2:Int) (v3:Int) (v4:Int) (v5:Int) (v6:Int) (v9:S):Option (Unit×S) :=
 rec1 v2 v3 v4 v5 (w64 (v6+1)) v9
def za1 {S:Type} (n:Nat) (rec1:Int->Int->Int->Int->Int->S->Option (Unit×S)) (a0:Wheel_×Bool) (a1:Spot_) (aF:(List Int)->Spot_->Int->S->Option (Bool×S)) (v2:Int) (v3:Int) (v4:Int) (v5:Int) (v6:Int) (r13:Bool×S) (v15:Bool):Option (Unit×S) :=
 if v15=true then
  zbb rec1 v2 v3 v4 v5 v6 r13.2
 else
  Option.bind (zca n a0.1 (⟨(⟨v2,v3,v4,v5⟩:Bag_),a1.place,a1.credit⟩:Spot_) v6 true) fun r17 =>
  Option.bind (aF ([(-1),v6]:List Int) r17.1 r17.2 r13.2) fun r18 =>
  if (!r18.1)=true then
   some ((),r18.2)
  else
   zbb rec1 v2 v3 v4 v5 v6 r18.2
def zcG {S:Type} (n:Nat) (a0:Wheel_×Bool) (a1:Spot_) (aF:(List Int)->Spot_->Int->S->Option (Bool×S)) (rec1:Int->Int->Int->Int->Int->S->Option (Unit×S)) (v2:Int) (v3:Int) (v4:Int) (v5:Int) (v6:Int) (v7:S):Option (Unit×S) :=
 if decide (v6<(a0.1.Wheel.Coins.length:Int))=true then
  Option.bind (idx ([v2,v3,v4,v5]:List Int) v6) fun x10 =>
  if (x10==0)=true then
   zbb rec1 v2 v3 v4 v5 v6 v7
  else
   Option.bind (zca n a0.1 (⟨(⟨v2,v3,v4,v5⟩:Bag_),a1.place,a1.credit⟩:Spot_) v6 false) fun r12 =>
   Option.bind (aF ([v6]:List Int) r12.1 r12.2 v7) fun r13 =>
   if (!r13.1)=true then
    some ((),r13.2)
   else
    if (a1.credit==0)=true then
     za1 n rec1 a0 a1 aF v2 v3 v4 v5 v6 r13 true
    else
     za1 n rec1 a0 a1 aF v2 v3 v4 v5 v6 r13 (a1.place==0)
 else
  some ((),v7)
def zaN {S:Type} (n:Nat) (a0:Wheel_×Bool) (a1:Spot_) (aF:(List Int)->Spot_->Int->S->Option (Bool×S)):Nat->Int->Int->Int->Int->Int->S->Option (Unit×S)
 | 0,_,_,_,_,_,_=>none
 | m+1,v2,v3,v4,v5,v6,v7=>zcG n a0 a1 aF (zaN n a0 a1 aF m) v2 v3 v4 v5 v6 v7
def zeZ {S:Type} (n:Nat) (aF:(List Int)->Spot_->Int->S->Option (Bool×S)) (a0:Wheel_×Bool) (a1:Spot_) (st:S):Option (Unit×S) :=
 zaN n a0 a1 aF n a1.left.c0 a1.left.c1 a1.left.c2 a1.left.c3 0 st
def zbQ (v1:Bool) (v2:Int) (v3:List (Spot_×Int)):Option (Bool×(Bool×Int×(List (Spot_×Int)))) :=
 some (true,(v1,v2,v3))
def zbR (a2:Int) (st:Bool×Int×(List (Spot_×Int))) (r4:Int×(List (Spot_×Int))) (v5:Bool):Option (Bool×(Bool×Int×(List (Spot_×Int)))) :=
 if v5=true then
  zbQ false (w64 (a2+r4.1)) r4.2
 else
  zbQ st.1 st.2.1 r4.2
def zbY (n:Nat) (rec:(Wheel_×Bool)->Spot_->(List (Spot_×Int))->Option (Int×(List (Spot_×Int)))) (a0:List Int) (a1:Spot_) (a2:Int) (a3:Wheel_×Bool) (st:Bool×Int×(List (Spot_×Int))):Option (Bool×(Bool×Int×(List (Spot_×Int)))) :=
 Option.bind (rec a3 a1 st.2.2) fun r4 =>
 if st.1=true then
  zbR a2 st r4 true
 else
  Option.bind (zhv a3.2 (w64 (a2+r4.1)) st.2.1) fun r8 =>
  zbR a2 st r4 r8
def zbZ (n:Nat) (rec:(Wheel_×Bool)->Spot_->(List (Spot_×Int))->Option (Int×(List (Spot_×Int)))) (a0:Wheel_×Bool) (a1:Spot_) (st:(List (Spot_×Int))) (v1:Int) (v2:Int) (v3:Int) (v4:Int) (v5:Int) (x6:Int) (v7:Bool):Option (Int×(List (Spot_×Int))) :=
 if v7=true then
  some (x6,st)
 else
  Option.bind (zeZ n (fun (x0:List Int) (x1:Spot_) (x2:Int) s=>zbY n rec x0 x1 x2 a0 s) a0 (⟨(⟨v2,v3,v4,v5⟩:Bag_),a1.place,(min a1.credit v1)⟩:Spot_) (true,0,st)) fun r9 =>
  Option.bind (zhp zgZ r9.2.2.2 (⟨(⟨v2,v3,v4,v5⟩:Bag_),a1.place,(min a1.credit v1)⟩:Spot_) r9.2.2.1) fun l10 =>
  some (r9.2.2.1,l10)
def zb0 (n:Nat) (rec:(Wheel_×Bool)->Spot_->(List (Spot_×Int))->Option (Int×(List (Spot_×Int)))) (a0:Wheel_×Bool) (a1:Spot_) (st:(List (Spot_×Int))) (v1:Int) (v2:Int) (v3:Int) (v4:Int) (v5:Int):Option (Int×(List (Spot_×Int))) :=
 Option.bind (zrF zgZ st (⟨(⟨v2,v3,v4,v5⟩:Bag_),a1.place,(min a1.credit v1)⟩:Spot_)) fun x6 =>
 if (zbt st (⟨(⟨v2,v3,v4,v5⟩:Bag_),a1.place,(min a1.credit v1)⟩:Spot_))=true then
  zbZ n rec a0 a1 st v1 v2 v3 v4 v5 x6 true
 else
  zbZ n rec a0 a1 st v1 v2 v3 v4 v5 x6 (v1==0)
def zdD (n:Nat) (rec:(Wheel_×Bool)->Spot_->(List (Spot_×Int))->Option (Int×(List (Spot_×Int)))) (a0:Wheel_×Bool) (a1:Spot_) (st:(List (Spot_×Int))) (rec1:Int->Int->Option (Int×(List (Spot_×Int)))) (v12:Int) (v13:Int):Option (Int×(List (Spot_×Int))) :=
 if decide (v13<4)=true then
  Option.bind (idx ([a1.left.c0,a1.left.c1,a1.left.c2,a1.left.c3]:List Int) v13) fun x15 =>
  rec1 (w64 (v12+x15)) (w64 (v13+1))
 else
  zb0 n rec a0 a1 st v12 a1.left.c0 a1.left.c1 a1.left.c2 a1.left.c3
def zct (n:Nat) (rec:(Wheel_×Bool)->Spot_->(List (Spot_×Int))->Option (Int×(List (Spot_×Int)))) (a0:Wheel_×Bool) (a1:Spot_) (st:(List (Spot_×Int))):Nat->Int->Int->Option (Int×(List (Spot_×Int)))
 | 0,_,_=>none
 | m+1,v12,v13=>zdD n rec a0 a1 st (zct n rec a0 a1 st m) v12 v13
def zcb (n:Nat) (rec:(Wheel_×Bool)->Spot_->(List (Spot_×Int))->Option (Int×(List (Spot_×Int)))) (a0:Wheel_×Bool) (a1:Spot_) (st:(List (Spot_×Int))):Option (Int×(List (Spot_×Int))) :=
 zct n rec a0 a1 st n 0 0
def zbl:Nat->(Wheel_×Bool)->Spot_->(List (Spot_×Int))->Option (Int×(List (Spot_×Int)))
 | 0,_,_,_=>none
 | n+1,a0,a1,st=>zcb n (zbl n) a0 a1 st
def zeu (n:Nat) (a0:Wheel) (a1:List Int):Option (Int×Int) :=
 Option.bind (zgD n a0 a1 true) fun r1 =>
 if r1.1.isSome=true then
  Option.bind (r1.1) fun x3 =>
  if (r1.2.2 != 0)=true then
   some (0,r1.2.2)
  else
   Option.bind (zbl n (x3,true) r1.2.1 ([]:List (Spot_×Int))) fun r5 =>
   some (r5.1,0)
 else
  if (r1.2.2 != 0)=true then
   some (0,r1.2.2)
  else
   none
def zbm {S:Type} (v1:S):Option (Int×S) :=
 some ((-1),v1)
def zaZ {S:Type} (a0:List Int) (aF:Int->S->Option (Bool×S)) (rec1:Int->S->Option (Int×S)) (v3:Int) (v4:S):Option (Int×S) :=
 if decide (v3<(a0.length:Int))=true then
  Option.bind (idx a0 v3) fun x6 =>
  Option.bind (aF x6 v4) fun r7 =>
  if r7.1=true then
   some (v3,r7.2)
  else
   rec1 (w64 (v3+1)) r7.2
 else
  zbm v4
def zak {S:Type} (a0:List Int) (aF:Int->S->Option (Bool×S)):Nat->Int->S->Option (Int×S)
 | 0,_,_=>none
 | m+1,v3,v4=>zaZ a0 aF (zak a0 aF m) v3 v4
def zcu {S:Type} (n:Nat) (aF:Int->S->Option (Bool×S)) (a0:List Int) (st:S):Option (Int×S) :=
 zak a0 aF n 0 st
def zaX {S:Type} (n:Nat) (aF:Int->S->Option (Bool×S)) (a0:List Int) (st:S):Option (Bool×S) :=
 Option.bind (zcu n aF a0 st) fun r1 =>
 some (decide (r1.1≥0),r1.2)
def zc6 (v1:Bool):Option (Bool) :=
 some v1
def zcY (a0:Int) (a1:Int) (a2:Int):Option (Bool) :=
 if decide (a1<=a0)=true then
  zc6 (decide (a0<=a2))
 else
  zc6 false
def zdt (a0:Int):Option (Bool) :=
 Option.bind (zcY a0 0 12) fun r1 =>
 some (!r1)
def zem (v3:Int):Option (Int) :=
 if decide (v3>12)=true then
  some 50
 else
  some 0
def zdG (a0:Box) (rec1:Int->Int->Option (Int)) (v5:Int) (v6:Int):Option (Int) :=
 if decide (v6<(a0.Found.length:Int))=true then
  Option.bind (idx a0.Found v6) fun x8 =>
  Option.bind (idx a0.Marked v6) fun x9 =>
  if decide (x9>x8)=true then
   some 50
  else
   Option.bind (idx a0.Slugs v6) fun x11 =>
   rec1 (w64 (v5+(w64 (x8+x11)))) (w64 (v6+1))
 else
  zem v5
def zbw (a0:Box):Nat->Int->Int->Option (Int)
 | 0,_,_=>none
 | m+1,v5,v6=>zdG a0 (zbw a0 m) v5 v6
def zfy (n:Nat) (a0:Box):Option (Int) :=
 zbw a0 n 0 0
def zdu (rec2:Int->Option (Int)) (v12:Int) (v15:Bool):Option (Int) :=
 if v15=true then
  some 50
 else
  rec2 (w64 (v12+1))
def zeD (n:Nat) (a0:Box) (rec2:Int->Option (Int)) (v12:Int):Option (Int) :=
 if decide (v12<3)=true then
  Option.bind (idx ([a0.Found,a0.Marked,a0.Slugs]:List (List Int)) v12) fun x14 =>
  if ((x14.length:Int) != (a0.Wheel.Coins.length:Int))=true then
   zdu rec2 v12 true
  else
   Option.bind (zaX n (fun (x0:Int) (_:Unit)=>(zdt x0).map fun y=>(y,())) x14 ()) fun r18 =>
   zdu rec2 v12 r18.1
 else
  zfy n a0
def zaM (n:Nat) (a0:Box):Nat->Int->Option (Int)
 | 0,_=>none
 | m+1,v12=>zeD n a0 (zaM n a0 m) v12
def zcN (n:Nat) (a0:Box) (v1:Bool):Option (Int) :=
 if v1=true then
  some 50
 else
  zaM n a0 n 0
def zfF (n:Nat) (a0:Box):Option (Int) :=
 Option.bind (zfU n a0.Wheel) fun r19 =>
 if (r19 != 0)=true then
  zcN n a0 true
 else
  Option.bind (zcY a0.Plays 0 9999) fun r21 =>
  if (!r21)=true then
   zcN n a0 true
  else
   Option.bind (zcY a0.Skips 0 9) fun r23 =>
   zcN n a0 (!r23)
def zgf (n:Nat) (a0:Box):Option ((Option Box_)×Int) :=
 Option.bind (zfF n a0) fun r1 =>
 if (r1 != 0)=true then
  some ((none:Option Box_),r1)
 else
  some ((some (⟨a0⟩:Box_)),0)
def slices_Clone_int (a0:List Int):Option (List Int):=app [] a0
def zcl {S:Type} (rec:(Option Box_)->(List Int)->Int->S->Option (Unit×S)) (a0:Option Box_) (a1:List Int) (a2:Int) (rec1:Int->S->Option (Unit×S)) (v5:Int) (v6:S):Option (Unit×S) :=
 if decide (v5<(w64 (a2+1)))=true then
  Option.bind (slices_Clone_int a1) fun l8 =>
  Option.bind (app l8 ([v5]:List Int)) fun l9 =>
  Option.bind (rec a0 l9 (w64 (a2-v5)) v6) fun r10 =>
  rec1 (w64 (v5+1)) r10.2
 else
  some ((),v6)
def zbB {S:Type} (rec:(Option Box_)->(List Int)->Int->S->Option (Unit×S)) (a0:Option Box_) (a1:List Int) (a2:Int):Nat->Int->S->Option (Unit×S)
 | 0,_,_=>none
 | m+1,v5,v6=>zcl rec a0 a1 a2 (zbB rec a0 a1 a2 m) v5 v6
def zcR {S:Type} (n:Nat) (rec:(Option Box_)->(List Int)->Int->S->Option (Unit×S)) (aF:(List Int)->S->Option (Unit×S)) (a0:Option Box_) (a1:List Int) (a2:Int) (st:S):Option (Unit×S) :=
 Option.bind (a0) fun x1 =>
 if ((a1.length:Int)==(x1.Box.Wheel.Coins.length:Int))=true then
  Option.bind (aF a1 st) fun r3 =>
  some ((),r3.2)
 else
  zbB rec a0 a1 a2 n 0 st
def zbx {S:Type}:Nat->((List Int)->S->Option (Unit×S))->(Option Box_)->(List Int)->Int->S->Option (Unit×S)
 | 0,_,_,_,_,_=>none
 | n+1,aF,a0,a1,a2,st=>zcR n (zbx n aF) aF a0 a1 a2 st
def zc1 (v1:Int):Option (Int) :=
 some v1
def zcH (a0:Option Box_) (a1:List Int) (rec1:Int->Int->Option (Int)) (v2:Int) (v3:Int):Option (Int) :=
 if decide (v3<(a1.length:Int))=true then
  Option.bind (idx a1 v3) fun x5 =>
  Option.bind (a0) fun x6 =>
  Option.bind (idx x6.Box.Wheel.Coins v3) fun x7 =>
  rec1 (w64 (v2+(w64 (x5*x7)))) (w64 (v3+1))
 else
  zc1 v2
def zbq (a0:Option Box_) (a1:List Int):Nat->Int->Int->Option (Int)
 | 0,_,_=>none
 | m+1,v2,v3=>zcH a0 a1 (zbq a0 a1 m) v2 v3
def zcc (n:Nat) (a0:Option Box_) (a1:List Int):Option (Int) :=
 zbq a0 a1 n 0 0
def zdH (v1:Int) (v2:Int) (v3:Int) (v4:Int):Option (Bag_) :=
 some (⟨v1,v2,v3,v4⟩:Bag_)
def zc2 (a0:Option Box_) (x5:Box_) (rec1:Int->Int->Int->Int->Int->Option (Bag_)) (v7:Int) (v8:Int) (v9:Int) (v10:Int) (v11:Int):Option (Bag_) :=
 if decide (v7<(x5.Box.Found.length:Int))=true then
  Option.bind (idx x5.Box.Found v7) fun x13 =>
  Option.bind (a0) fun x14 =>
  Option.bind (idx x14.Box.Slugs v7) fun x15 =>
  Option.bind (idx ([v8,v9,v10,v11]:List Int) v7) fun x16 =>
  Option.bind (zqt ([v8,v9,v10,v11]:List Int) v7 (w64 (x13+x15))) fun l17 =>
  rec1 (w64 (v7+1)) (l17.getD 0 0) (l17.getD 1 0) (l17.getD 2 0) (l17.getD 3 0)
 else
  zdH v8 v9 v10 v11
def zbS (a0:Option Box_) (x5:Box_):Nat->Int->Int->Int->Int->Int->Option (Bag_)
 | 0,_,_,_,_,_=>none
 | m+1,v7,v8,v9,v10,v11=>zc2 a0 x5 (zbS a0 x5 m) v7 v8 v9 v10 v11
def zfV (n:Nat) (a0:Option Box_):Option (Bag_) :=
 Option.bind (a0) fun x5 =>
 zbS a0 x5 n 0 0 0 0 0
def zdk (v1:Int):Option (Int) :=
 some v1
def zcS (a0:Bag_) (rec1:Int->Int->Option (Int)) (v2:Int) (v3:Int):Option (Int) :=
 if decide (v3<4)=true then
  Option.bind (idx ([a0.c0,a0.c1,a0.c2,a0.c3]:List Int) v3) fun x5 =>
  rec1 (w64 (v2+x5)) (w64 (v3+1))
 else
  zdk v2
def zbi (a0:Bag_):Nat->Int->Int->Option (Int)
 | 0,_,_=>none
 | m+1,v2,v3=>zcS a0 (zbi a0 m) v2 v3
def zdv (n:Nat) (a0:Bag_):Option (Int) :=
 zbi a0 n 0 0
structure Step_ where
 act:Int
 from_:PointT_
 deriving DecidableEq,Inhabited,Repr
abbrev Step_.cells (x:Step_):List AV:=[.v (.int .i64 x.act),.v (.int .i64 x.from_.Stand.Place),.v (.int .i64 x.from_.Stand.Credit),.v (.int .i64 x.from_.in_.c0),.v (.int .i64 x.from_.in_.c1),.v (.int .i64 x.from_.in_.c2),.v (.int .i64 x.from_.in_.c3),.v (.int .i64 x.from_.bought)]
def zan (x:Step_):Value:=.agg (([x.act,x.from_.Stand.Place,x.from_.Stand.Credit,x.from_.in_.c0,x.from_.in_.c1,x.from_.in_.c2,x.from_.in_.c3,x.from_.bought]:List Int).map kvI).toArray
abbrev zaG:PointT_:=⟨⟨0,0⟩,⟨0,0,0,0⟩,0⟩
abbrev za9:Step_:=⟨0,zaG⟩
def zlu (x y:Bag_):Bool:=(x.c0==y.c0)&&((x.c1==y.c1)&&((x.c2==y.c2)&&((x.c3==y.c3)&&true)))
def ze0 (p o:PointT_):Bool:=decide (p.Stand.Place<o.Stand.Place) || ((p.Stand.Place==o.Stand.Place)&&decide (p.Stand.Credit<o.Stand.Credit))
def zkO (al:Bag_) (E:List (Int×PointT_)) (p:PointT_):Bool:=zlu p.in_ al&&(!zbt E p.bought || ze0 p (zgO zaG E p.bought))
def zbr (al:Bag_) (E:List (Int×PointT_)) (p:PointT_):List (Int×PointT_):=if zkO al E p=true then zf8 E p.bought p else E
def zgg (al:Bag_) (M:List (PointT_×Step_)):List (Int×PointT_):=(M.map (·.1)).foldl (zbr al) []
def zl4 (M:List (PointT_×Step_)):Bool:=M.all (fun p=>okI p.1.bought)&&decide (M.length<=1048576)
abbrev ziO:=List (PointT_×Step_)×List PointT_
abbrev zeb (y:PointT_) (c:Int):PointT_:=⟨⟨y.Stand.Place,min y.Stand.Credit c⟩,y.in_,y.bought⟩
def zer (n:Nat) (al:Bag_) (x:PointT_) (act:Int) (y:PointT_) (S:ziO):Option ziO :=
 Option.bind (zdv n al) fun r1 =>
 Option.bind (zdv n y.in_) fun r2 =>
 Option.bind (zgz zbF za9 S.1 (zeb y (w64 (r1-r2)))) fun u =>
 if zbt S.1 (zeb y (w64 (r1-r2)))=true then some S
 else
  Option.bind (zhp zbF S.1 (zeb y (w64 (r1-r2))) ⟨act,x⟩) fun m =>
  if S.2.length+1<=1048576 then some (m,S.2++[zeb y (w64 (r1-r2))]) else none
def zdl (a0:Wheel_) (a1:Int):Option (Bool) :=
 Option.bind (zcP a1 0 (w64 (a0.Wheel.Round-1))) fun r1 =>
 some r1
def zcs {S:Type} (aF:Int->S->Option (Bool×S)) (a0:Int) (st:S):Option (Bool×S) :=
 Option.bind (aF a0 st) fun r1 =>
 some ((!r1.1),r1.2)
def zdw {S:Type} (v1:Bool) (v2:S):Option (Bool×S) :=
 some (v1,v2)
def zfG {S:Type} (n:Nat) (aF:Int->S->Option (Bool×S)) (a0:List Int) (st:S):Option (Bool×S) :=
 if decide ((a0.length:Int)<=20)=true then
  Option.bind (zaX n (zcs aF) a0 st) fun r4 =>
  zdw (!r4.1) r4.2
 else
  zdw false st
def zdI (a0:Wheel_) (a1:Int):Option (Bool) :=
 Option.bind (zcP a1 0 (w64 ((a0.Wheel.Coins.length:Int)-1))) fun r1 =>
 some r1
def zcv (v1:Bool):Option (Bool) :=
 some v1
def zcA (a0:Wheel_) (a1:Int):Option (Bool) :=
 if (a1==(-1))=true then
  zcv true
 else
  Option.bind (zdI a0 a1) fun r3 =>
  zcv r3
def zc7 (v1:Bool):Option (Bool) :=
 some v1
def zfi (n:Nat) (a0:Wheel_) (a1:Stand) (a2:List Int):Option (Bool) :=
 Option.bind (zdl a0 a1.Place) fun r2 =>
 if r2=true then
  Option.bind (zcP a1.Credit 0 20) fun r4 =>
  if r4=true then
   Option.bind (zfG n (fun (x0:Int) (_:Unit)=>(zcA a0 x0).map fun y=>(y,())) a2 ()) fun r6 =>
   zc7 r6.1
  else
   zc7 false
 else
  zc7 false
def zeE (n:Nat) (a0:Wheel_) (a1:Stand) (a2:Int):Option (Stand) :=
 if (a2 != (-1))=true then
  Option.bind (idx a0.Wheel.Coins a2) fun x2 =>
  Option.bind (zds n a0 a1.Place x2) fun r3 =>
  some (⟨r3.1,w64 (a1.Credit+r3.2)⟩:Stand)
 else
  if decide (a1.Credit>0)=true then
   some (⟨0,w64 (a1.Credit-1)⟩:Stand)
  else
   some a1
def zgh (v3:Int) (v4:Int) (v5:Int):Option (Stand×Int×Int) :=
 some ((⟨v4,v5⟩:Stand),v3,0)
def zfj (n:Nat) (rec1:Int->Int->Int->Int->Option (Stand×Int×Int)) (r1:(Wheel_×Int)×Unit) (v9:Int) (v10:Int) (v11:Int) (x13:Int) (v14:Int):Option (Stand×Int×Int) :=
 Option.bind (zeE n r1.1.1 (⟨v10,v11⟩:Stand) x13) fun r15 =>
 rec1 v14 (w64 (v9+1)) r15.Place r15.Credit
def zev (n:Nat) (rec1:Int->Int->Int->Int->Option (Stand×Int×Int)) (r1:(Wheel_×Int)×Unit) (v8:Int) (v9:Int) (v10:Int) (v11:Int) (x13:Int) (v16:Bool):Option (Stand×Int×Int) :=
 if v16=true then
  zfj n rec1 r1 v9 v10 v11 x13 (w64 (v8+1))
 else
  zfj n rec1 r1 v9 v10 v11 x13 v8
def ze7 (n:Nat) (a2:List Int) (r1:(Wheel_×Int)×Unit) (rec1:Int->Int->Int->Int->Option (Stand×Int×Int)) (v8:Int) (v9:Int) (v10:Int) (v11:Int):Option (Stand×Int×Int) :=
 if decide (v9<(a2.length:Int))=true then
  Option.bind (idx a2 v9) fun x13 =>
  if (x13==(-1))=true then
   zev n rec1 r1 v8 v9 v10 v11 x13 (decide (v11>0))
  else
   zev n rec1 r1 v8 v9 v10 v11 x13 false
 else
  zgh v8 v10 v11
def zbG (n:Nat) (a2:List Int) (r1:(Wheel_×Int)×Unit):Nat->Int->Int->Int->Int->Option (Stand×Int×Int)
 | 0,_,_,_,_=>none
 | m+1,v8,v9,v10,v11=>ze7 n a2 r1 (zbG n a2 r1 m) v8 v9 v10 v11
def zeF (n:Nat) (a0:Wheel) (a1:Stand) (a2:List Int):Option (Stand×Int×Int) :=
 Option.bind (zeY n (fun (x0:Wheel_) (_:Unit)=>(zfi n x0 a1 a2).map fun y=>(y,())) a0 ()) fun r1 =>
 if (r1.1.2 != 0)=true then
  some ((⟨0,0⟩:Stand),0,r1.1.2)
 else
  zbG n a2 r1 n 0 0 a1.Place a1.Credit
def zbu (n:Nat) (b:Box_) (al:Bag_) (x:PointT_):Nat->Int->ziO->Option ziO
 | 0,_,_=>none
 | m+1,k,S =>
  if decide (k<(b.Box.Wheel.Coins.length:Int))=true then
   Option.bind (idx ([x.in_.c0,x.in_.c1,x.in_.c2,x.in_.c3]:List Int) k) fun e1 =>
   Option.bind (idx ([al.c0,al.c1,al.c2,al.c3]:List Int) k) fun e2 =>
   if (e1==e2)=true then zbu n b al x m (w64 (k+1)) S
   else
    Option.bind (zeF n b.Box.Wheel ⟨x.Stand.Place,0⟩ [k]) fun r =>
    Option.bind (zqt ([x.in_.c0,x.in_.c1,x.in_.c2,x.in_.c3]:List Int) k (w64 (e1+1))) fun u =>
    Option.bind (zer n al x k ⟨⟨r.1.Place,w64 (x.Stand.Credit+r.1.Credit)⟩,⟨u.getD 0 0,u.getD 1 0,u.getD 2 0,u.getD 3 0⟩,w64 (x.bought+r.1.Credit)⟩ S) fun S2 =>
    zbu n b al x m (w64 (k+1)) S2
  else some S
def ze8 (n:Nat) (b:Box_) (al:Bag_) (x:PointT_) (S:ziO):Option ziO :=
 if decide (x.Stand.Credit>0)=true then
  if decide (x.Stand.Place>0)=true then
   Option.bind (zeF n b.Box.Wheel ⟨x.Stand.Place,1⟩ [-1]) fun r =>
   zer n al x (-1) ⟨⟨r.1.Place,w64 (x.Stand.Credit-1)⟩,x.in_,x.bought⟩ S
  else some S
 else some S
def zdy (n:Nat) (b:Box_) (al:Bag_):Nat->ziO->Option (List (PointT_×Step_))
 | 0,_=>none
 | m+1,S=>match S.2 with
  | []=>some S.1
  | x::q =>
   Option.bind (ze8 n b al x (S.1,q)) fun S1 =>
   Option.bind (zbu n b al x n 0 S1) fun S2 =>
   zdy n b al m S2
def zen (n:Nat) (a0:Option Box_) (al:Bag_):Option (List (PointT_×Step_)) :=
 Option.bind a0 fun b=>zdy n b al n ([(zaG,⟨-2,zaG⟩)],[zaG])
def zbH (purse:List Int):Nat->Int->Bag_->Option Bag_
 | 0,_,_=>none
 | m+1,k,al =>
  if decide (k<(purse.length:Int))=true then
   Option.bind (idx purse k) fun x =>
   Option.bind (idx ([al.c0,al.c1,al.c2,al.c3]:List Int) k) fun e =>
   Option.bind (zqt ([al.c0,al.c1,al.c2,al.c3]:List Int) k (w64 (e+x))) fun u =>
   zbH purse m (w64 (k+1)) ⟨u.getD 0 0,u.getD 1 0,u.getD 2 0,u.getD 3 0⟩
  else some al
def zdS (M:List (PointT_×Step_)):Nat->Step_->List Int->Option (List Int)
 | 0,_,_=>none
 | m+1,s,acts =>
  if (s.act != -2)=true then
   if acts.length+1<=1048576 then
    Option.bind (zgz zbF za9 M s.from_) fun s2=>zdS M m s2 (acts++[s.act])
   else none
  else some acts
def zbI (n:Nat) (b:Box_) (M:List (PointT_×Step_)) (E:List (Int×PointT_)) (bs:List Int):Nat->Int->Option (List Int×Bool)
 | 0,_=>none
 | m+1,k =>
  if decide (k<(bs.length:Int))=true then
   Option.bind (idx bs k) fun x =>
   Option.bind (zcY x b.Box.Plays (w64 (b.Box.Plays+b.Box.Skips))) fun w =>
   if (!w)=true then zbI n b M E bs m (w64 (k+1))
   else
    Option.bind (zgz okI zaG E x) fun p =>
    Option.bind (zgz zbF za9 M p) fun s =>
    Option.bind (zdS M n s []) fun acts =>
    some (acts.reverse,true)
  else some ([],false)
def zcd (n:Nat) (a0:Option Box_) (purse:List Int):Option (List Int×Bool) :=
 Option.bind a0 fun b =>
 Option.bind (zfV n a0) fun r1 =>
 Option.bind (zbH purse n 0 r1) fun al =>
 Option.bind (zen n a0 al) fun M =>
 if zl4 M=true then zbI n b M (zgg al M) (zgp ((zgg al M).map (·.1))) n 0 else none
def zaE (n:Nat) (a:Option Box_) (purse:List Int):List Gap_->Option (Unit×List Gap_)
 | [] =>
  Option.bind (zcd n a purse) fun e =>
  if (!e.2)=true then some ((),[]) else some ((),[⟨purse,e.1⟩])
 | x::gs =>
  Option.bind (zcc n a purse) fun w1 =>
  Option.bind (zcc n a x.purse) fun w2 =>
  if decide (w1>w2)=true then some ((),x::gs)
  else
   Option.bind (zcd n a purse) fun e =>
   if (!e.2)=true then some ((),x::gs)
   else
    Option.bind (zcc n a purse) fun w3 =>
    Option.bind (zcc n a x.purse) fun w4 =>
    if decide (w3<w4)=true then some ((),[⟨purse,e.1⟩])
    else Option.bind (app (x::gs) ([⟨purse,e.1⟩]:List Gap_)) fun l=>some ((),l)
def zce (n:Nat) (a0:Option Box_):Option (List Gap_) :=
 Option.bind (zbx n (fun x0 s=>zaE n a0 x0 s) a0 ([]:List Int) 2 ([]:List Gap_)) fun r =>
 some r.2
def zec (n:Nat) (a0:Box):Option ((Option Box_)×(List Gap_)×Int) :=
 Option.bind (zgf n a0) fun r1 =>
 if (r1.2 != 0)=true then
  some ((none:Option Box_),([]:List Gap_),r1.2)
 else
  Option.bind (zce n r1.1) fun r3 =>
  if ((r3.length:Int)==0)=true then
   some ((none:Option Box_),([]:List Gap_),3)
  else
   some (r1.1,r3,0)
def zdT (n:Nat) (a0:Box):Option (Int×Int) :=
 Option.bind (zec n a0) fun r1 =>
 if (r1.2.2 != 0)=true then
  some (0,r1.2.2)
 else
  Option.bind (idx r1.2.1 0) fun x3 =>
  Option.bind (zcc n r1.1 x3.purse) fun r4 =>
  some (r4,0)
def zcB (v3:Bool):Option (Bool) :=
 some v3
def zdz (n:Nat):Option (Bool) :=
 Option.bind (zeu n (⟨50,([10,20,25]:List Int),([5,10,25]:List Int)⟩:Wheel) ([0,0,2]:List Int)) fun r1 =>
 Option.bind (zdT n (⟨(⟨50,([10,20,25]:List Int),([5,10,25]:List Int)⟩:Wheel),([0,0,0]:List Int),([0,0,0]:List Int),([0,0,0]:List Int),3,0⟩:Box)) fun r2 =>
 if (r1.2==0)=true then
  if (r2.2==0)=true then
   if (r1.1==6)=true then
    zcB (r2.1==25)
   else
    zcB false
  else
   zcB false
 else
  zcB false
def zed (v1:Bool):Option (Bool) :=
 some v1
def zbC (a0:Int) (a1:Int) (a2:Int):Option (Bool) :=
 if decide (a1<=a0)=true then
  zed (decide (a0<=a2))
 else
  zed false
def zeG (a0:Int):Option (Bool) :=
 Option.bind (zbC a0 0 99) fun r1 =>
 some r1
def zd5 {S:Type} (aF:Int->S->Option (Bool×S)) (a0:Int) (st:S):Option (Bool×S) :=
 Option.bind (aF a0 st) fun r1 =>
 some ((!r1.1),r1.2)
def ze9 {S:Type} (n:Nat) (aF:Int->S->Option (Bool×S)) (a0:List Int) (st:S):Option (Bool×S) :=
 Option.bind (zaX n (zd5 aF) a0 st) fun r1 =>
 some ((!r1.1),r1.2)
def zg2:Option (Int) :=
 some 0
def zcw (rec1:Int->Option (Int)) (v3:Int) (v6:Bool):Option (Int) :=
 if v6=true then
  some 30
 else
  rec1 (w64 (v3+1))
def zeH (n:Nat) (a0:Wear) (rec1:Int->Option (Int)) (v3:Int):Option (Int) :=
 if decide (v3<(a0.Records.length:Int))=true then
  Option.bind (idx a0.Records v3) fun x5 =>
  Option.bind (zbC x5.Worn 0 99999) fun r8 =>
  if (!r8)=true then
   zcw rec1 v3 true
  else
   Option.bind (zbC x5.Limit 0 99999) fun r10 =>
   if (!r10)=true then
    zcw rec1 v3 true
   else
    Option.bind (zbC x5.Price 0 999) fun r12 =>
    if (!r12)=true then
     zcw rec1 v3 true
    else
     if ((x5.Plays.length:Int) != a0.Weeks)=true then
      zcw rec1 v3 true
     else
      Option.bind (ze9 n (fun (x0:Int) (_:Unit)=>(zeG x0).map fun y=>(y,())) x5.Plays ()) fun r15 =>
      zcw rec1 v3 (!r15.1)
 else
  zg2
def zcT (n:Nat) (a0:Wear):Nat->Int->Option (Int)
 | 0,_=>none
 | m+1,v3=>zeH n a0 (zcT n a0 m) v3
def zfH (n:Nat) (a0:Wear):Option (Int) :=
 zcT n a0 n 0
def zdm (rec2:Int->Option (Int)) (v16:Int) (v19:Bool):Option (Int) :=
 if v19=true then
  some 30
 else
  rec2 (w64 (v16+1))
def zeI (n:Nat) (a0:Wear) (rec2:Int->Option (Int)) (v16:Int):Option (Int) :=
 if decide (v16<(a0.Rough.length:Int))=true then
  Option.bind (idx a0.Rough v16) fun x18 =>
  Option.bind (zbC x18 0 99) fun r21 =>
  if (!r21)=true then
   zdm rec2 v16 true
  else
   if decide (v16>0)=true then
    Option.bind (idx a0.Rough (w64 (v16-1))) fun x24 =>
    zdm rec2 v16 (decide (x18<x24))
   else
    zdm rec2 v16 false
 else
  zfH n a0
def zcU (n:Nat) (a0:Wear):Nat->Int->Option (Int)
 | 0,_=>none
 | m+1,v16=>zeI n a0 (zcU n a0 m) v16
def zbT (n:Nat) (a0:Wear) (v1:Bool):Option (Int) :=
 if v1=true then
  some 30
 else
  zcU n a0 n 0
def zfJ (n:Nat) (a0:Wear):Option (Int) :=
 Option.bind (zbC a0.Weeks 0 6) fun r25 =>
 if (!r25)=true then
  zbT n a0 true
 else
  Option.bind (zbC a0.Age 0 9999) fun r27 =>
  if (!r27)=true then
   zbT n a0 true
  else
   Option.bind (zbC a0.Step 1 999) fun r29 =>
   if (!r29)=true then
    zbT n a0 true
   else
    Option.bind (zbC a0.Price 0 999) fun r31 =>
    if (!r31)=true then
     zbT n a0 true
    else
     Option.bind (zbC (a0.Rough.length:Int) 1 8) fun r33 =>
     if (!r33)=true then
      zbT n a0 true
     else
      zbT n a0 (decide ((a0.Records.length:Int)>4))
def zbn {S:Type} (v1:S):Option (Int×S) :=
 some ((-1),v1)
def zbU {S:Type} (a0:List WearWeek) (aF:WearWeek->S->Option (Bool×S)) (rec1:Int->S->Option (Int×S)) (v3:Int) (v4:S):Option (Int×S) :=
 if decide (v3<(a0.length:Int))=true then
  Option.bind (idx a0 v3) fun x6 =>
  Option.bind (aF x6 v4) fun r7 =>
  if r7.1=true then
   some (v3,r7.2)
  else
   rec1 (w64 (v3+1)) r7.2
 else
  zbn v4
def za5 {S:Type} (a0:List WearWeek) (aF:WearWeek->S->Option (Bool×S)):Nat->Int->S->Option (Int×S)
 | 0,_,_=>none
 | m+1,v3,v4=>zbU a0 aF (za5 a0 aF m) v3 v4
def zcx {S:Type} (n:Nat) (aF:WearWeek->S->Option (Bool×S)) (a0:List WearWeek) (st:S):Option (Int×S) :=
 za5 a0 aF n 0 st
def zcf {S:Type} (n:Nat) (aF:WearWeek->S->Option (Bool×S)) (a0:List WearWeek) (st:S):Option (Bool×S) :=
 Option.bind (zcx n aF a0 st) fun r1 =>
 some (decide (r1.1≥0),r1.2)
def zch {S:Type} (aF:WearWeek->S->Option (Bool×S)) (a0:WearWeek) (st:S):Option (Bool×S) :=
 Option.bind (aF a0 st) fun r1 =>
 some ((!r1.1),r1.2)
def zcI {S:Type} (n:Nat) (aF:WearWeek->S->Option (Bool×S)) (a0:List WearWeek) (st:S):Option (Bool×S) :=
 Option.bind (zcf n (zch aF) a0 st) fun r1 =>
 some ((!r1.1),r1.2)
def zdJ (a1:WearWeek):Option (Bool) :=
 Option.bind (zbC a1.Needle 0 1) fun r1 =>
 some r1
def zcV (rec1:Int->Option (Bool)) (v2:Int) (v5:Bool):Option (Bool) :=
 if v5=true then
  some false
 else
  rec1 (w64 (v2+1))
def zd9 (a0:BoxW_) (a1:WearWeek) (rec1:Int->Option (Bool)) (v2:Int):Option (Bool) :=
 if decide (v2<(a1.Records.length:Int))=true then
  Option.bind (idx a1.Records v2) fun x4 =>
  Option.bind (zbC x4 0 (w64 ((a0.Wear.Records.length:Int)-1))) fun r7 =>
  if (!r7)=true then
   zcV rec1 v2 true
  else
   if decide (v2>0)=true then
    Option.bind (idx a1.Records (w64 (v2-1))) fun x10 =>
    zcV rec1 v2 (decide (x4<=x10))
   else
    zcV rec1 v2 false
 else
  zdJ a1
def zbV (a0:BoxW_) (a1:WearWeek):Nat->Int->Option (Bool)
 | 0,_=>none
 | m+1,v2=>zd9 a0 a1 (zbV a0 a1 m) v2
def zc8 (n:Nat) (a0:BoxW_) (a1:WearWeek):Option (Bool) :=
 zbV a0 a1 n 0
def zeJ (a0:Wear) (v3:Bool):Option (BoxW_×Int) :=
 if v3=true then
  some ((⟨(⟨0,0,0,0,([]:List Int),([]:List WearRecord)⟩:Wear)⟩:BoxW_),1)
 else
  some ((⟨a0⟩:BoxW_),0)
def zhR (n:Nat) (a0:Wear) (a1:List WearWeek):Option (BoxW_×Int) :=
 Option.bind (zfJ n a0) fun r1 =>
 if (r1 != 0)=true then
  some ((⟨(⟨0,0,0,0,([]:List Int),([]:List WearRecord)⟩:Wear)⟩:BoxW_),r1)
 else
  if ((a1.length:Int) != a0.Weeks)=true then
   zeJ a0 true
  else
   Option.bind (zcI n (fun (x0:WearWeek) (_:Unit)=>(zc8 n (⟨a0⟩:BoxW_) x0).map fun y=>(y,())) a1 ()) fun r6 =>
   zeJ a0 (!r6.1)
def zfa (a0:BoxW_) (a1:Int):Option (Int) :=
 Option.bind (quo a1 a0.Wear.Step) fun q1 =>
 Option.bind (idx a0.Wear.Rough (min q1 (w64 ((a0.Wear.Rough.length:Int)-1)))) fun x2 =>
 some x2
def zdn (v1:Int) (v2:Int):Option (Int×Int) :=
 some (v2,v1)
def zcW (a1:BoxW_) (a2:Int) (rec1:Int->Int->Int->Option (Int×Int)) (v5:Int) (v6:Int) (v7:Int):Option (Int×Int) :=
 if decide (v6<a2)=true then
  Option.bind (zfa a1 v7) fun r9 =>
  rec1 (w64 (v5+r9)) (w64 (v6+1)) (w64 (v7+1))
 else
  zdn v5 v7
def zbj (a1:BoxW_) (a2:Int):Nat->Int->Int->Int->Option (Int×Int)
 | 0,_,_,_=>none
 | m+1,v5,v6,v7=>zcW a1 a2 (zbj a1 a2 m) v5 v6 v7
def zfz (n:Nat) (a0:Int) (a1:BoxW_) (a2:Int):Option (Int×Int) :=
 zbj a1 a2 n 0 0 a0
def zgE (n:Nat) (a3:BoxW_) (rc:WearRecord) (a1:WearWeek) (st:Int×Int×Int):Option (Int×Int×Int) :=
 Option.bind (idx rc.Plays 0) fun x =>
 Option.bind (zfz n (if a1.Needle=1 then 0 else st.2.1) a3 x) fun r =>
 some (w64 (st.1+r.2),r.1,(if a1.Needle=1 then w64 (st.2.2+a3.Wear.Price) else st.2.2))
def zcD {S:Type} (n:Nat) (aF:Int->S->Option (Bool×S)) (a1:List WearWeek) (a3:BoxW_) (st:(Int×Int×Int)×S):Option ((Int×Int×Int)×S) :=
 match a1,a3.Wear.Records with
 | [⟨k,[]⟩],[rc]=>Option.bind (zgE n a3 rc ⟨k,[]⟩ st.1) fun t=>Option.bind (aF 0 st.2) fun y=>some (t,y.2)
 | _,_=>none
def zhw (n:Nat) (a1:List WearWeek) (b:BoxW_):Option (List Int×Int×Int×Int) :=
 match b.Wear.Records with
 | [rc]=>Option.bind (zcD n (fun _ (_:Unit)=>some (true,())) a1 b ((rc.Worn,b.Wear.Age,0),())) fun t=>some ([t.1.1],t.1.2.1,t.1.2.2,0)
 | _=>none
def zg3 (n:Nat) (a0:Wear) (a1:List WearWeek):Option (List Int×Int×Int×Int) :=
 Option.bind (zhR n a0 a1) fun r =>
 if (r.2 != 0)=true then
  some (([]:List Int),0,0,r.2)
 else
  zhw n a1 r.1
def zd6:Option (Bool) :=
 some true
def zdo (a0:List Int) (a1:List Int) (rec1:Int->Option (Bool)) (v2:Int):Option (Bool) :=
 if decide (v2<(a0.length:Int))=true then
  Option.bind (idx a0 v2) fun x4 =>
  Option.bind (idx a1 v2) fun x5 =>
  if (x4 != x5)=true then
   some false
  else
   rec1 (w64 (v2+1))
 else
  zd6
def zbJ (a0:List Int) (a1:List Int):Nat->Int->Option (Bool)
 | 0,_=>none
 | m+1,v2=>zdo a0 a1 (zbJ a0 a1 m) v2
def zee (n:Nat) (a0:List Int) (a1:List Int):Option (Bool) :=
 if ((a0.length:Int) != (a1.length:Int))=true then
  some false
 else
  zbJ a0 a1 n 0
def zbW (v13:Bool):Option (Bool) :=
 some v13
def zcm (n:Nat) (a2:Turning) (r5:Int×Int) (v8:Bool):Option (Bool) :=
 if v8=true then
  Option.bind (zdz n) fun r10 =>
  some r10
 else
  Option.bind (zg3 n (⟨1,0,a2.Age,a2.Step,([a2.Rough]:List Int),([(⟨0,99999,0,([r5.1]:List Int)⟩:WearRecord)]:List WearRecord)⟩:Wear) ([(⟨0,([]:List Int)⟩:WearWeek)]:List WearWeek)) fun r11 =>
  Option.bind (zg3 n (⟨1,0,a2.Age,a2.Step,([a2.Rough]:List Int),([(⟨0,99999,0,([r5.1]:List Int)⟩:WearRecord)]:List WearRecord)⟩:Wear) ([(⟨1,([]:List Int)⟩:WearWeek)]:List WearWeek)) fun r12 =>
  if (r11.2.2.2==0)=true then
   if (r12.2.2.2==0)=true then
    if (r11.2.1==(w64 (a2.Age+r5.1)))=true then
     if (r12.2.1==r5.1)=true then
      Option.bind (zee n r11.1 ([w64 (r5.1*a2.Rough)]:List Int)) fun r18 =>
      if r18=true then
       Option.bind (zee n r12.1 ([w64 (r5.1*a2.Rough)]:List Int)) fun r20 =>
       if r20=true then
        Option.bind (zdz n) fun r22 =>
        zbW r22
       else
        zbW false
      else
       zbW false
     else
      zbW false
    else
     zbW false
   else
    zbW false
  else
   zbW false
def zdU (n:Nat) (a2:Turning) (r5:Int×Int) (v6:Bool):Option (Bool) :=
 if v6=true then
  some false
 else
  if decide (r5.1>99)=true then
   zcm n a2 r5 true
  else
   Option.bind (zfJ n (⟨1,0,a2.Age,a2.Step,([a2.Rough]:List Int),([(⟨0,99999,0,([r5.1]:List Int)⟩:WearRecord)]:List WearRecord)⟩:Wear)) fun r24 =>
   zcm n a2 r5 (r24 != 0)
def zbX (n:Nat) (a0:Wheel) (a1:List Int) (a2:Turning) (v1:Bool):Option (Bool) :=
 if v1=true then
  Option.bind (zdz n) fun r3 =>
  some r3
 else
  Option.bind (app ([]:List Int) a1) fun l4 =>
  Option.bind (zeu n a0 l4) fun r5 =>
  if (r5.2 != 0)=true then
   zdU n a2 r5 true
  else
   zdU n a2 r5 (decide (r5.1<0))
def zhx (n:Nat) (a0:Wheel) (a1:List Int) (a2:Turning):Option (Bool) :=
 if decide ((max (max (a0.Notches.length:Int) (a0.Coins.length:Int)) (a1.length:Int))>40)=true then
  zbX n a0 a1 a2 true
 else
  Option.bind (zg0 n a0) fun r27 =>
  if (r27 != 0)=true then
   zbX n a0 a1 a2 true
  else
   Option.bind (zfE n a0 a1) fun r29 =>
   if (!r29)=true then
    zbX n a0 a1 a2 true
   else
    Option.bind (zg1 n a1) fun r31 =>
    zbX n a0 a1 a2 (decide (r31>5))
end Go.Law
