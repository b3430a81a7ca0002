/-
  What the functions compute (printed by gen.py).
  Conditions: none.
-/
import Derived.Test.YtenogpmlhpcibaaGreatAmN
set_option linter.all false
namespace Go.Law
open Go Go.AM
set_option linter.unusedVariables false
structure Wheel where
 Round:Int
 Notches:List Int
 Coins:List Int
 deriving DecidableEq,Inhabited,Repr
abbrev Wheel.cells (x:Wheel):List AV:=[.v (.int .i64 x.Round),.sl .no 1 (x.Notches.map cI),.sl .no 1 (x.Coins.map cI)]
structure Box where
 Wheel:Wheel
 Found:List Int
 Marked:List Int
 Slugs:List Int
 Plays:Int
 Skips:Int
 deriving DecidableEq,Inhabited,Repr
abbrev Box.cells (x:Box):List AV:=[.v (.int .i64 x.Wheel.Round),.sl .no 1 (x.Wheel.Notches.map cI),.sl .no 1 (x.Wheel.Coins.map cI),.sl .no 1 (x.Found.map cI),.sl .no 1 (x.Marked.map cI),.sl .no 1 (x.Slugs.map cI),.v (.int .i64 x.Plays),.v (.int .i64 x.Skips)]
structure Box_ where
 Box:Box
 deriving DecidableEq,Inhabited,Repr
abbrev Box_.cells (x:Box_):List AV:=[.v (.int .i64 x.Box.Wheel.Round),.sl .no 1 (x.Box.Wheel.Notches.map cI),.sl .no 1 (x.Box.Wheel.Coins.map cI),.sl .no 1 (x.Box.Found.map cI),.sl .no 1 (x.Box.Marked.map cI),.sl .no 1 (x.Box.Slugs.map cI),.v (.int .i64 x.Box.Plays),.v (.int .i64 x.Box.Skips)]
structure Bag_ where
 c0:Int
 c1:Int
 c2:Int
 c3:Int
 deriving DecidableEq,Inhabited,Repr
abbrev Bag_.cells (x:Bag_):List AV:=[.v (.int .i64 x.c0),.v (.int .i64 x.c1),.v (.int .i64 x.c2),.v (.int .i64 x.c3)]
structure Wheel_ where
 Wheel:Wheel
 deriving DecidableEq,Inhabited,Repr
abbrev Wheel_.cells (x:Wheel_):List AV:=[.v (.int .i64 x.Wheel.Round),.sl .no 1 (x.Wheel.Notches.map cI),.sl .no 1 (x.Wheel.Coins.map cI)]
structure Stand where
 Place:Int
 Credit:Int
 deriving DecidableEq,Inhabited,Repr
abbrev Stand.cells (x:Stand):List AV:=[.v (.int .i64 x.Place),.v (.int .i64 x.Credit)]
structure Gap_ where
 purse:List Int
 acts:List Int
 deriving DecidableEq,Inhabited,Repr
abbrev Gap_.cells (x:Gap_):List AV:=[.sl .no 1 (x.purse.map cI),.sl .no 1 (x.acts.map cI)]
structure SpotR_ where
 stand:Stand
 bought:Int
 deriving DecidableEq,Inhabited,Repr
abbrev SpotR_.cells (x:SpotR_):List AV:=[.v (.int .i64 x.stand.Place),.v (.int .i64 x.stand.Credit),.v (.int .i64 x.bought)]
structure Clause where
 Kind:Int
 Cents:Int
 Part:Int
 More:Int
 deriving DecidableEq,Inhabited,Repr
abbrev Clause.cells (x:Clause):List AV:=[.v (.int .i64 x.Kind),.v (.int .i64 x.Cents),.v (.int .i64 x.Part),.v (.int .i64 x.More)]
structure Share where
 Clauses:List Clause
 Loan:Int
 deriving DecidableEq,Inhabited,Repr
abbrev Share.cells (x:Share):List AV:=[.sl .no 4 (x.Clauses.map Clause.cells),.v (.int .i64 x.Loan)]
structure Split where
 Operator:Int
 Owner:Int
 Repaid:Int
 deriving DecidableEq,Inhabited,Repr
abbrev Split.cells (x:Split):List AV:=[.v (.int .i64 x.Operator),.v (.int .i64 x.Owner),.v (.int .i64 x.Repaid)]
structure Week_ where
 Split:Split
 rest:Int
 owed:Int
 deriving DecidableEq,Inhabited,Repr
abbrev Week_.cells (x:Week_):List AV:=[.v (.int .i64 x.Split.Operator),.v (.int .i64 x.Split.Owner),.v (.int .i64 x.Split.Repaid),.v (.int .i64 x.rest),.v (.int .i64 x.owed)]
structure PointT_ where
 Stand:Stand
 in_:Bag_
 bought:Int
 deriving DecidableEq,Inhabited,Repr
abbrev PointT_.cells (x:PointT_):List AV:=[.v (.int .i64 x.Stand.Place),.v (.int .i64 x.Stand.Credit),.v (.int .i64 x.in_.c0),.v (.int .i64 x.in_.c1),.v (.int .i64 x.in_.c2),.v (.int .i64 x.in_.c3),.v (.int .i64 x.bought)]
def zbZ (x:PointT_):Bool:=([x.Stand.Place,x.Stand.Credit,x.in_.c0,x.in_.c1,x.in_.c2,x.in_.c3,x.bought]:List Int).all okI
def zad (x:PointT_):Value:=.agg (([x.Stand.Place,x.Stand.Credit,x.in_.c0,x.in_.c1,x.in_.c2,x.in_.c3,x.bought]:List Int).map kvI).toArray
def zgZ (v1:List Int):Option ((List Int)) :=
 some v1
def zfK (a0:List Int) (a1:List Int) (rec1:(List Int)->Int->Option ((List Int))) (v2:List Int) (v3:Int):Option ((List Int)) :=
 if decide (v3<(a0.length:Int))=true then
  Option.bind (idx a0 v3) fun x5 =>
  Option.bind (idx a1 v3) fun x6 =>
  Option.bind (app v2 ([w64 (x5+x6)]:List Int)) fun l7 =>
  rec1 l7 (w64 (v3+1))
 else
  zgZ v2
def zdR (a0:List Int) (a1:List Int):Nat->(List Int)->Int->Option ((List Int))
 | 0,_,_=>none
 | m+1,v2,v3=>zfK a0 a1 (zdR a0 a1 m) v2 v3
def zhW (n:Nat) (a0:List Int) (a1:List Int):Option ((List Int)) :=
 zdR a0 a1 n ([]:List Int) 0
def zey (v1:Bool):Option (Bool) :=
 some v1
def zez (a0:Int) (a1:Int) (a2:Int):Option (Bool) :=
 if decide (a0≥a1)=true then
  zey (decide (a0<=a2))
 else
  zey false
def zfL:Option (Bool) :=
 some true
def zcE (rec1:Int->Option (Bool)) (v1:Int) (v3:Bool):Option (Bool) :=
 if v3=true then
  some false
 else
  rec1 (w64 (v1+1))
def zeO (a0:List Int) (a1:Int) (a2:Int) (rec1:Int->Option (Bool)) (v1:Int):Option (Bool) :=
 if decide (v1<(a0.length:Int))=true then
  Option.bind (idx a0 v1) fun x5 =>
  Option.bind (zez x5 a1 a2) fun r6 =>
  if (!r6)=true then
   zcE rec1 v1 true
  else
   if decide (v1>0)=true then
    Option.bind (idx a0 v1) fun x9 =>
    Option.bind (idx a0 (w64 (v1-1))) fun x10 =>
    zcE rec1 v1 (decide (x9<=x10))
   else
    zcE rec1 v1 false
 else
  zfL
def zb8 (a0:List Int) (a1:Int) (a2:Int):Nat->Int->Option (Bool)
 | 0,_=>none
 | m+1,v1=>zeO a0 a1 a2 (zb8 a0 a1 a2 m) v1
def zhx (n:Nat) (a0:List Int) (a1:Int) (a2:Int):Option (Bool) :=
 zb8 a0 a1 a2 n 0
def zcY (v1:Bool):Option (Int) :=
 if v1=true then
  some 10
 else
  some 0
def zii (n:Nat) (a0:Wheel):Option (Int) :=
 Option.bind (zez a0.Round 1 200) fun r3 =>
 if (!r3)=true then
  zcY true
 else
  if decide ((a0.Notches.length:Int)>12)=true then
   zcY true
  else
   Option.bind (zhx n a0.Notches 1 a0.Round) fun r6 =>
   if (!r6)=true then
    zcY true
   else
    if decide ((a0.Coins.length:Int)>4)=true then
     zcY true
    else
     Option.bind (zhx n a0.Coins 1 100) fun r9 =>
     zcY (!r9)
def zfg (v2:Int):Option (Bool) :=
 some (decide (v2<=12))
def zeh (a1:List Int) (rec1:Int->Int->Option (Bool)) (v3:Int) (v4:Int):Option (Bool) :=
 if decide (v4<(a1.length:Int))=true then
  Option.bind (idx a1 v4) fun x6 =>
  Option.bind (zez x6 0 12) fun r7 =>
  if (!r7)=true then
   some false
  else
   Option.bind (idx a1 v4) fun x9 =>
   rec1 (w64 (v3+x9)) (w64 (v4+1))
 else
  zfg v3
def zci (a1:List Int):Nat->Int->Int->Option (Bool)
 | 0,_,_=>none
 | m+1,v3,v4=>zeh a1 (zci a1 m) v3 v4
def zeP (n:Nat) (a0:Wheel) (a1:List Int):Option (Bool) :=
 if ((a1.length:Int) != (a0.Coins.length:Int))=true then
  some false
 else
  zci a1 n 0 0
def zdN (a0:Int) (a1:Int) (a2:Int):Option (Bool) :=
 Option.bind (zez a0 a1 a2) fun r1 =>
 some r1
def ze6 (n:Nat) (a0:Box):Option (Int) :=
 Option.bind (zhW n a0.Found a0.Slugs) fun r3 =>
 Option.bind (zeP n a0.Wheel r3) fun r4 =>
 if (!r4)=true then
  some 50
 else
  some 0
def zfh (n:Nat) (a0:Box) (rec1:Int->Option (Int)) (v6:Int):Option (Int) :=
 if decide (v6<(a0.Found.length:Int))=true then
  Option.bind (idx a0.Marked v6) fun x8 =>
  Option.bind (idx a0.Found v6) fun x9 =>
  Option.bind (zdN x8 0 x9) fun r10 =>
  if (!r10)=true then
   some 50
  else
   rec1 (w64 (v6+1))
 else
  ze6 n a0
def zcy (n:Nat) (a0:Box):Nat->Int->Option (Int)
 | 0,_=>none
 | m+1,v6=>zfh n a0 (zcy n a0 m) v6
def zcz (n:Nat) (a0:Box) (v1:Bool):Option (Int) :=
 if v1=true then
  some 50
 else
  zcy n a0 n 0
def zhl (n:Nat) (a0:Box):Option (Int) :=
 Option.bind (zii n a0.Wheel) fun r12 =>
 if (r12 != 0)=true then
  zcz n a0 true
 else
  Option.bind (zeP n a0.Wheel a0.Found) fun r14 =>
  if (!r14)=true then
   zcz n a0 true
  else
   Option.bind (zeP n a0.Wheel a0.Slugs) fun r16 =>
   if (!r16)=true then
    zcz n a0 true
   else
    if ((a0.Marked.length:Int) != (a0.Found.length:Int))=true then
     zcz n a0 true
    else
     Option.bind (zdN a0.Plays 0 9999) fun r19 =>
     if (!r19)=true then
      zcz n a0 true
     else
      Option.bind (zdN a0.Skips 0 9) fun r21 =>
      zcz n a0 (!r21)
def zgn (v1:Int):Option (Int) :=
 some v1
def zfi (a0:List Int) (rec1:Int->Int->Option (Int)) (v2:Int) (v3:Int):Option (Int) :=
 if decide (v3<(a0.length:Int))=true then
  Option.bind (idx a0 v3) fun x5 =>
  rec1 (w64 (v2+x5)) (w64 (v3+1))
 else
  zgn v2
def zdq (a0:List Int):Nat->Int->Int->Option (Int)
 | 0,_,_=>none
 | m+1,v2,v3=>zfi a0 (zdq a0 m) v2 v3
def zeA (n:Nat) (a0:List Int):Option (Int) :=
 zdq a0 n 0 0
def zhX (n:Nat) (a0:Box):Option ((List Int)) :=
 Option.bind (zhW n a0.Found a0.Slugs) fun r1 =>
 some r1
def zfC (v2:Bool):Option (Bool) :=
 some v2
def ziL (n:Nat) (a0:Box):Option (Bool) :=
 if decide ((max (max (max (max (a0.Wheel.Notches.length:Int) (a0.Wheel.Coins.length:Int)) (a0.Found.length:Int)) (a0.Marked.length:Int)) (a0.Slugs.length:Int))>40)=true then
  some true
 else
  Option.bind (zhl n a0) fun r3 =>
  if (r3==0)=true then
   Option.bind (zhX n a0) fun r5 =>
   Option.bind (zeA n r5) fun r6 =>
   if decide (r6>3)=true then
    zfC true
   else
    zfC (decide ((a0.Found.length:Int)>3))
  else
   zfC false
def zeB (v1:Bool):Option (Bool) :=
 some v1
def zdO (a0:Int) (a1:Int) (a2:Int):Option (Bool) :=
 if decide (a1<=a0)=true then
  zeB (decide (a0<=a2))
 else
  zeB false
def zfM (a0:List Int) (a1:Int):Option (Bool) :=
 some (decide ((a0.length:Int)<=a1))
def zcF (rec1:Int->Option (Bool)) (v1:Int) (v4:Bool):Option (Bool) :=
 if v4=true then
  some false
 else
  rec1 (w64 (v1+1))
def zeQ (a0:List Int) (a1:Int) (a2:Int) (rec1:Int->Option (Bool)) (v1:Int):Option (Bool) :=
 if decide (v1<(a0.length:Int))=true then
  Option.bind (idx a0 v1) fun x3 =>
  Option.bind (zdO x3 1 a2) fun r6 =>
  if (!r6)=true then
   zcF rec1 v1 true
  else
   if decide (v1>0)=true then
    Option.bind (idx a0 (w64 (v1-1))) fun x9 =>
    zcF rec1 v1 (decide (x3<=x9))
   else
    zcF rec1 v1 false
 else
  zfM a0 a1
def zb9 (a0:List Int) (a1:Int) (a2:Int):Nat->Int->Option (Bool)
 | 0,_=>none
 | m+1,v1=>zeQ a0 a1 a2 (zb9 a0 a1 a2 m) v1
def zhy (n:Nat) (a0:List Int) (a1:Int) (a2:Int):Option (Bool) :=
 zb9 a0 a1 a2 n 0
def zeb (v1:Bool):Option (Int) :=
 if v1=true then
  some 10
 else
  some 0
def zhm (n:Nat) (a0:Wheel):Option (Int) :=
 Option.bind (zdO a0.Round 1 200) fun r3 =>
 if (!r3)=true then
  zeb true
 else
  Option.bind (zhy n a0.Notches 12 a0.Round) fun r5 =>
  if (!r5)=true then
   zeb true
  else
   Option.bind (zhy n a0.Coins 4 100) fun r7 =>
   zeb (!r7)
def zdH (v1:Bool):Option (Bool) :=
 some v1
def zdr (a0:Int) (a1:Int) (a2:Int):Option (Bool) :=
 if decide (a1<=a0)=true then
  zdH (decide (a0<=a2))
 else
  zdH false
def zca {S:Type} (v1:S):Option (Int×S) :=
 some ((-1),v1)
def zbl {S:Type} (a0:List Int) (aF:Int->S->Option (Bool×S)) (rec1:Int->S->Option (Int×S)) (v3:Int) (v4:S):Option (Int×S) :=
 if decide (v3<(a0.length:Int))=true then
  Option.bind (idx a0 v3) fun x6 =>
  Option.bind (aF x6 v4) fun r7 =>
  if r7.1=true then
   some (v3,r7.2)
  else
   rec1 (w64 (v3+1)) r7.2
 else
  zca v4
def zaA {S:Type} (a0:List Int) (aF:Int->S->Option (Bool×S)):Nat->Int->S->Option (Int×S)
 | 0,_,_=>none
 | m+1,v3,v4=>zbl a0 aF (zaA a0 aF m) v3 v4
def zdz {S:Type} (n:Nat) (aF:Int->S->Option (Bool×S)) (a0:List Int) (st:S):Option (Int×S) :=
 zaA a0 aF n 0 st
def zbz {S:Type} (n:Nat) (aF:Int->S->Option (Bool×S)) (a0:List Int) (st:S):Option (Bool×S) :=
 Option.bind (zdz n aF a0 st) fun r1 =>
 some (decide (r1.1≥0),r1.2)
def zd1 (a0:Int):Option (Bool) :=
 Option.bind (zdr a0 0 12) fun r1 =>
 some (!r1)
def zfj (v3:Int):Option (Int) :=
 if decide (v3>12)=true then
  some 50
 else
  some 0
def zei (a0:Box) (rec1:Int->Int->Option (Int)) (v5:Int) (v6:Int):Option (Int) :=
 if decide (v6<(a0.Found.length:Int))=true then
  Option.bind (idx a0.Found v6) fun x8 =>
  Option.bind (idx a0.Marked v6) fun x9 =>
  if decide (x9>x8)=true then
   some 50
  else
   Option.bind (idx a0.Slugs v6) fun x11 =>
   rec1 (w64 (v5+(w64 (x8+x11)))) (w64 (v6+1))
 else
  zfj v5
def zbO (a0:Box):Nat->Int->Int->Option (Int)
 | 0,_,_=>none
 | m+1,v5,v6=>zei a0 (zbO a0 m) v5 v6
def zgS (n:Nat) (a0:Box):Option (Int) :=
 zbO a0 n 0 0
def zd2 (rec2:Int->Option (Int)) (v12:Int) (v15:Bool):Option (Int) :=
 if v15=true then
  some 50
 else
  rec2 (w64 (v12+1))
def zfN (n:Nat) (a0:Box) (rec2:Int->Option (Int)) (v12:Int):Option (Int) :=
 if decide (v12<3)=true then
  Option.bind (idx ([a0.Found,a0.Marked,a0.Slugs]:List (List Int)) v12) fun x14 =>
  if ((x14.length:Int) != (a0.Wheel.Coins.length:Int))=true then
   zd2 rec2 v12 true
  else
   Option.bind (zbz n (fun (x0:Int) (_:Unit)=>(zd1 x0).map fun y=>(y,())) x14 ()) fun r18 =>
   zd2 rec2 v12 r18.1
 else
  zgS n a0
def zaV (n:Nat) (a0:Box):Nat->Int->Option (Int)
 | 0,_=>none
 | m+1,v12=>zfN n a0 (zaV n a0 m) v12
def zda (n:Nat) (a0:Box) (v1:Bool):Option (Int) :=
 if v1=true then
  some 50
 else
  zaV n a0 n 0
def zg0 (n:Nat) (a0:Box):Option (Int) :=
 Option.bind (zhm n a0.Wheel) fun r19 =>
 if (r19 != 0)=true then
  zda n a0 true
 else
  Option.bind (zdr a0.Plays 0 9999) fun r21 =>
  if (!r21)=true then
   zda n a0 true
  else
   Option.bind (zdr a0.Skips 0 9) fun r23 =>
   zda n a0 (!r23)
def zde (n:Nat) (a0:Box):Option ((Option Box_)×Int) :=
 Option.bind (zg0 n a0) fun r1 =>
 if (r1 != 0)=true then
  some ((none:Option Box_),r1)
 else
  some ((some (⟨a0⟩:Box_)),0)
def slices_Clone_int (a0:List Int):Option (List Int):=app [] a0
def zcG {S:Type} (rec:(Option Box_)->(List Int)->Int->S->Option (Unit×S)) (a0:Option Box_) (a1:List Int) (a2:Int) (rec1:Int->S->Option (Unit×S)) (v5:Int) (v6:S):Option (Unit×S) :=
 if decide (v5<(w64 (a2+1)))=true then
  Option.bind (slices_Clone_int a1) fun l8 =>
  Option.bind (app l8 ([v5]:List Int)) fun l9 =>
  Option.bind (rec a0 l9 (w64 (a2-v5)) v6) fun r10 =>
  rec1 (w64 (v5+1)) r10.2
 else
  some ((),v6)
def zbT {S:Type} (rec:(Option Box_)->(List Int)->Int->S->Option (Unit×S)) (a0:Option Box_) (a1:List Int) (a2:Int):Nat->Int->S->Option (Unit×S)
 | 0,_,_=>none
 | m+1,v5,v6=>zcG rec a0 a1 a2 (zbT rec a0 a1 a2 m) v5 v6
def zdf {S:Type} (n:Nat) (rec:(Option Box_)->(List Int)->Int->S->Option (Unit×S)) (aF:(List Int)->S->Option (Unit×S)) (a0:Option Box_) (a1:List Int) (a2:Int) (st:S):Option (Unit×S) :=
 Option.bind (a0) fun x1 =>
 if ((a1.length:Int)==(x1.Box.Wheel.Coins.length:Int))=true then
  Option.bind (aF a1 st) fun r3 =>
  some ((),r3.2)
 else
  zbT rec a0 a1 a2 n 0 st
def zbP {S:Type}:Nat->((List Int)->S->Option (Unit×S))->(Option Box_)->(List Int)->Int->S->Option (Unit×S)
 | 0,_,_,_,_,_=>none
 | n+1,aF,a0,a1,a2,st=>zdf n (zbP n aF) aF a0 a1 a2 st
def zdA (v1:Int):Option (Int) :=
 some v1
def zc8 (a0:Option Box_) (a1:List Int) (rec1:Int->Int->Option (Int)) (v2:Int) (v3:Int):Option (Int) :=
 if decide (v3<(a1.length:Int))=true then
  Option.bind (idx a1 v3) fun x5 =>
  Option.bind (a0) fun x6 =>
  Option.bind (idx x6.Box.Wheel.Coins v3) fun x7 =>
  rec1 (w64 (v2+(w64 (x5*x7)))) (w64 (v3+1))
 else
  zdA v2
def zbC (a0:Option Box_) (a1:List Int):Nat->Int->Int->Option (Int)
 | 0,_,_=>none
 | m+1,v2,v3=>zc8 a0 a1 (zbC a0 a1 m) v2 v3
def zbm (n:Nat) (a0:Option Box_) (a1:List Int):Option (Int) :=
 zbC a0 a1 n 0 0
structure Step_ where
 act:Int
 from_:PointT_
 deriving DecidableEq,Inhabited,Repr
abbrev Step_.cells (x:Step_):List AV:=[.v (.int .i64 x.act),.v (.int .i64 x.from_.Stand.Place),.v (.int .i64 x.from_.Stand.Credit),.v (.int .i64 x.from_.in_.c0),.v (.int .i64 x.from_.in_.c1),.v (.int .i64 x.from_.in_.c2),.v (.int .i64 x.from_.in_.c3),.v (.int .i64 x.from_.bought)]
def zax (x:Step_):Value:=.agg (([x.act,x.from_.Stand.Place,x.from_.Stand.Credit,x.from_.in_.c0,x.from_.in_.c1,x.from_.in_.c2,x.from_.in_.c3,x.from_.bought]:List Int).map kvI).toArray
abbrev zaQ:PointT_:=⟨⟨0,0⟩,⟨0,0,0,0⟩,0⟩
abbrev zbj:Step_:=⟨0,zaQ⟩
def zmZ (x y:Bag_):Bool:=(x.c0==y.c0)&&((x.c1==y.c1)&&((x.c2==y.c2)&&((x.c3==y.c3)&&true)))
def zge (p o:PointT_):Bool:=decide (p.Stand.Place<o.Stand.Place) || ((p.Stand.Place==o.Stand.Place)&&decide (p.Stand.Credit<o.Stand.Credit))
def zl6 (al:Bag_) (E:List (Int×PointT_)) (p:PointT_):Bool:=zmZ p.in_ al&&(!zdo E p.bought || zge p (zib zaQ E p.bought))
def zbk (al:Bag_) (E:List (Int×PointT_)) (p:PointT_):List (Int×PointT_):=if zl6 al E p=true then zkG E p.bought p else E
def zfD (al:Bag_) (M:List (PointT_×Step_)):List (Int×PointT_):=(M.map (·.1)).foldl (zbk al) []
def zj2 (M:List (PointT_×Step_)):Bool:=M.all (fun p=>okI p.1.bought)&&decide (M.length<=1048576)
def zdS (v1:Int):Option (Int) :=
 some v1
def zdg (a0:Bag_) (rec1:Int->Int->Option (Int)) (v2:Int) (v3:Int):Option (Int) :=
 if decide (v3<4)=true then
  Option.bind (idx ([a0.c0,a0.c1,a0.c2,a0.c3]:List Int) v3) fun x5 =>
  rec1 (w64 (v2+x5)) (w64 (v3+1))
 else
  zdS v2
def zbu (a0:Bag_):Nat->Int->Int->Option (Int)
 | 0,_,_=>none
 | m+1,v2,v3=>zdg a0 (zbu a0 m) v2 v3
def zd3 (n:Nat) (a0:Bag_):Option (Int) :=
 zbu a0 n 0 0
abbrev zj3:=List (PointT_×Step_)×List PointT_
abbrev ze7 (y:PointT_) (c:Int):PointT_:=⟨⟨y.Stand.Place,min y.Stand.Credit c⟩,y.in_,y.bought⟩
def zfx (n:Nat) (al:Bag_) (x:PointT_) (act:Int) (y:PointT_) (S:zj3):Option zj3 :=
 Option.bind (zd3 n al) fun r1 =>
 Option.bind (zd3 n y.in_) fun r2 =>
 Option.bind (zhV zbZ zbj S.1 (ze7 y (w64 (r1-r2)))) fun u =>
 if zdo S.1 (ze7 y (w64 (r1-r2)))=true then some S
 else
  Option.bind (zl2 zbZ S.1 (ze7 y (w64 (r1-r2))) ⟨act,x⟩) fun m =>
  if S.2.length+1<=1048576 then some (m,S.2++[ze7 y (w64 (r1-r2))]) else none
def zja {S:Type} (n:Nat) (aF:Wheel_->S->Option (Bool×S)) (a0:Wheel) (st:S):Option ((Wheel_×Int)×S) :=
 Option.bind (zhm n a0) fun r1 =>
 if (r1 != 0)=true then
  some (((⟨(⟨0,([]:List Int),([]:List Int)⟩:Wheel)⟩:Wheel_),r1),st)
 else
  Option.bind (aF (⟨a0⟩:Wheel_) st) fun r3 =>
  if (!r3.1)=true then
   some (((⟨(⟨0,([]:List Int),([]:List Int)⟩:Wheel)⟩:Wheel_),1),r3.2)
  else
   some (((⟨a0⟩:Wheel_),0),r3.2)
def zdT (a0:Wheel_) (a1:Int):Option (Bool) :=
 Option.bind (zdO a1 0 (w64 (a0.Wheel.Round-1))) fun r1 =>
 some r1
def zcO {S:Type} (aF:Int->S->Option (Bool×S)) (a0:Int) (st:S):Option (Bool×S) :=
 Option.bind (aF a0 st) fun r1 =>
 some ((!r1.1),r1.2)
def zd4 {S:Type} (v1:Bool) (v2:S):Option (Bool×S) :=
 some (v1,v2)
def zg1 {S:Type} (n:Nat) (aF:Int->S->Option (Bool×S)) (a0:List Int) (st:S):Option (Bool×S) :=
 if decide ((a0.length:Int)<=20)=true then
  Option.bind (zbz n (zcO aF) a0 st) fun r4 =>
  zd4 (!r4.1) r4.2
 else
  zd4 false st
def zej (a0:Wheel_) (a1:Int):Option (Bool) :=
 Option.bind (zdO a1 0 (w64 ((a0.Wheel.Coins.length:Int)-1))) fun r1 =>
 some r1
def zcR (v1:Bool):Option (Bool) :=
 some v1
def zc1 (a0:Wheel_) (a1:Int):Option (Bool) :=
 if (a1==(-1))=true then
  zcR true
 else
  Option.bind (zej a0 a1) fun r3 =>
  zcR r3
def zdI (v1:Bool):Option (Bool) :=
 some v1
def zgE (n:Nat) (a0:Wheel_) (a1:Stand) (a2:List Int):Option (Bool) :=
 Option.bind (zdT a0 a1.Place) fun r2 =>
 if r2=true then
  Option.bind (zdO a1.Credit 0 20) fun r4 =>
  if r4=true then
   Option.bind (zg1 n (fun (x0:Int) (_:Unit)=>(zc1 a0 x0).map fun y=>(y,())) a2 ()) fun r6 =>
   zdI r6.1
  else
   zdI false
 else
  zdI false
def zdU (a0:Wheel_) (a1:Int) (a2:Int) (v1:Int):Option (Int×Int) :=
 Option.bind (rem (w64 (a1+a2)) a0.Wheel.Round) fun q2 =>
 some (q2,v1)
def zdh (a0:Wheel_) (a1:Int) (a2:Int) (rec1:Int->Int->Option (Int×Int)) (v3:Int) (v4:Int):Option (Int×Int) :=
 if decide (v4<(a0.Wheel.Notches.length:Int))=true then
  Option.bind (idx a0.Wheel.Notches v4) fun x6 =>
  Option.bind (quo (w64 ((w64 ((w64 (a1+a2))-x6))+a0.Wheel.Round)) a0.Wheel.Round) fun q7 =>
  Option.bind (quo (w64 ((w64 (a1-x6))+a0.Wheel.Round)) a0.Wheel.Round) fun q8 =>
  rec1 (w64 (v3+(w64 (q7-q8)))) (w64 (v4+1))
 else
  zdU a0 a1 a2 v3
def zbv (a0:Wheel_) (a1:Int) (a2:Int):Nat->Int->Int->Option (Int×Int)
 | 0,_,_=>none
 | m+1,v3,v4=>zdh a0 a1 a2 (zbv a0 a1 a2 m) v3 v4
def zfk (n:Nat) (a0:Wheel_) (a1:Int) (a2:Int):Option (Int×Int) :=
 zbv a0 a1 a2 n 0 0
def zfO (n:Nat) (a0:Wheel_) (a1:Stand) (a2:Int):Option (Stand) :=
 if (a2 != (-1))=true then
  Option.bind (idx a0.Wheel.Coins a2) fun x2 =>
  Option.bind (zfk n a0 a1.Place x2) fun r3 =>
  some (⟨r3.1,w64 (a1.Credit+r3.2)⟩:Stand)
 else
  if decide (a1.Credit>0)=true then
   some (⟨0,w64 (a1.Credit-1)⟩:Stand)
  else
   some a1
def zhz (v3:Int) (v4:Int) (v5:Int):Option (Stand×Int×Int) :=
 some ((⟨v4,v5⟩:Stand),v3,0)
def zgF (n:Nat) (rec1:Int->Int->Int->Int->Option (Stand×Int×Int)) (r1:(Wheel_×Int)×Unit) (v9:Int) (v10:Int) (v11:Int) (x13:Int) (v14:Int):Option (Stand×Int×Int) :=
 Option.bind (zfO n r1.1.1 (⟨v10,v11⟩:Stand) x13) fun r15 =>
 rec1 v14 (w64 (v9+1)) r15.Place r15.Credit
def zfE (n:Nat) (rec1:Int->Int->Int->Int->Option (Stand×Int×Int)) (r1:(Wheel_×Int)×Unit) (v8:Int) (v9:Int) (v10:Int) (v11:Int) (x13:Int) (v16:Bool):Option (Stand×Int×Int) :=
 if v16=true then
  zgF n rec1 r1 v9 v10 v11 x13 (w64 (v8+1))
 else
  zgF n rec1 r1 v9 v10 v11 x13 v8
def zgo (n:Nat) (a2:List Int) (r1:(Wheel_×Int)×Unit) (rec1:Int->Int->Int->Int->Option (Stand×Int×Int)) (v8:Int) (v9:Int) (v10:Int) (v11:Int):Option (Stand×Int×Int) :=
 if decide (v9<(a2.length:Int))=true then
  Option.bind (idx a2 v9) fun x13 =>
  if (x13==(-1))=true then
   zfE n rec1 r1 v8 v9 v10 v11 x13 (decide (v11>0))
  else
   zfE n rec1 r1 v8 v9 v10 v11 x13 false
 else
  zhz v8 v10 v11
def zb0 (n:Nat) (a2:List Int) (r1:(Wheel_×Int)×Unit):Nat->Int->Int->Int->Int->Option (Stand×Int×Int)
 | 0,_,_,_,_=>none
 | m+1,v8,v9,v10,v11=>zgo n a2 r1 (zb0 n a2 r1 m) v8 v9 v10 v11
def zfP (n:Nat) (a0:Wheel) (a1:Stand) (a2:List Int):Option (Stand×Int×Int) :=
 Option.bind (zja n (fun (x0:Wheel_) (_:Unit)=>(zgE n x0 a1 a2).map fun y=>(y,())) a0 ()) fun r1 =>
 if (r1.1.2 != 0)=true then
  some ((⟨0,0⟩:Stand),0,r1.1.2)
 else
  zb0 n a2 r1 n 0 0 a1.Place a1.Credit
def zbL (n:Nat) (b:Box_) (al:Bag_) (x:PointT_):Nat->Int->zj3->Option zj3
 | 0,_,_=>none
 | m+1,k,S =>
  if decide (k<(b.Box.Wheel.Coins.length:Int))=true then
   Option.bind (idx ([x.in_.c0,x.in_.c1,x.in_.c2,x.in_.c3]:List Int) k) fun e1 =>
   Option.bind (idx ([al.c0,al.c1,al.c2,al.c3]:List Int) k) fun e2 =>
   if (e1==e2)=true then zbL n b al x m (w64 (k+1)) S
   else
    Option.bind (zfP n b.Box.Wheel ⟨x.Stand.Place,0⟩ [k]) fun r =>
    Option.bind (zt8 ([x.in_.c0,x.in_.c1,x.in_.c2,x.in_.c3]:List Int) k (w64 (e1+1))) fun u =>
    Option.bind (zfx n al x k ⟨⟨r.1.Place,w64 (x.Stand.Credit+r.1.Credit)⟩,⟨u.getD 0 0,u.getD 1 0,u.getD 2 0,u.getD 3 0⟩,w64 (x.bought+r.1.Credit)⟩ S) fun S2 =>
    zbL n b al x m (w64 (k+1)) S2
  else some S
def zgp (n:Nat) (b:Box_) (al:Bag_) (x:PointT_) (S:zj3):Option zj3 :=
 if decide (x.Stand.Credit>0)=true then
  if decide (x.Stand.Place>0)=true then
   Option.bind (zfP n b.Box.Wheel ⟨x.Stand.Place,1⟩ [-1]) fun r =>
   zfx n al x (-1) ⟨⟨r.1.Place,w64 (x.Stand.Credit-1)⟩,x.in_,x.bought⟩ S
  else some S
 else some S
def zec (n:Nat) (b:Box_) (al:Bag_):Nat->zj3->Option (List (PointT_×Step_))
 | 0,_=>none
 | m+1,S=>match S.2 with
  | []=>some S.1
  | x::q =>
   Option.bind (zgp n b al x (S.1,q)) fun S1 =>
   Option.bind (zbL n b al x n 0 S1) fun S2 =>
   zec n b al m S2
def zd5 (n:Nat) (a0:Option Box_) (al:Bag_):Option (List (PointT_×Step_)) :=
 Option.bind a0 fun b=>zec n b al n ([(zaQ,⟨-2,zaQ⟩)],[zaQ])
def zek (v1:Int) (v2:Int) (v3:Int) (v4:Int):Option (Bag_) :=
 some (⟨v1,v2,v3,v4⟩:Bag_)
def zdB (a0:Option Box_) (x5:Box_) (rec1:Int->Int->Int->Int->Int->Option (Bag_)) (v7:Int) (v8:Int) (v9:Int) (v10:Int) (v11:Int):Option (Bag_) :=
 if decide (v7<(x5.Box.Found.length:Int))=true then
  Option.bind (idx x5.Box.Found v7) fun x13 =>
  Option.bind (a0) fun x14 =>
  Option.bind (idx x14.Box.Slugs v7) fun x15 =>
  Option.bind (idx ([v8,v9,v10,v11]:List Int) v7) fun x16 =>
  Option.bind (zt8 ([v8,v9,v10,v11]:List Int) v7 (w64 (x13+x15))) fun l17 =>
  rec1 (w64 (v7+1)) (l17.getD 0 0) (l17.getD 1 0) (l17.getD 2 0) (l17.getD 3 0)
 else
  zek v8 v9 v10 v11
def zcb (a0:Option Box_) (x5:Box_):Nat->Int->Int->Int->Int->Int->Option (Bag_)
 | 0,_,_,_,_,_=>none
 | m+1,v7,v8,v9,v10,v11=>zdB a0 x5 (zcb a0 x5 m) v7 v8 v9 v10 v11
def zeC (n:Nat) (a0:Option Box_):Option (Bag_) :=
 Option.bind (a0) fun x5 =>
 zcb a0 x5 n 0 0 0 0 0
def zb1 (purse:List Int):Nat->Int->Bag_->Option Bag_
 | 0,_,_=>none
 | m+1,k,al =>
  if decide (k<(purse.length:Int))=true then
   Option.bind (idx purse k) fun x =>
   Option.bind (idx ([al.c0,al.c1,al.c2,al.c3]:List Int) k) fun e =>
   Option.bind (zt8 ([al.c0,al.c1,al.c2,al.c3]:List Int) k (w64 (e+x))) fun u =>
   zb1 purse m (w64 (k+1)) ⟨u.getD 0 0,u.getD 1 0,u.getD 2 0,u.getD 3 0⟩
  else some al
def zeD (M:List (PointT_×Step_)):Nat->Step_->List Int->Option (List Int)
 | 0,_,_=>none
 | m+1,s,acts =>
  if (s.act != -2)=true then
   if acts.length+1<=1048576 then
    Option.bind (zhV zbZ zbj M s.from_) fun s2=>zeD M m s2 (acts++[s.act])
   else none
  else some acts
def zb2 (n:Nat) (b:Box_) (M:List (PointT_×Step_)) (E:List (Int×PointT_)) (bs:List Int):Nat->Int->Option (List Int×Bool)
 | 0,_=>none
 | m+1,k =>
  if decide (k<(bs.length:Int))=true then
   Option.bind (idx bs k) fun x =>
   Option.bind (zdr x b.Box.Plays (w64 (b.Box.Plays+b.Box.Skips))) fun w =>
   if (!w)=true then zb2 n b M E bs m (w64 (k+1))
   else
    Option.bind (zhV okI zaQ E x) fun p =>
    Option.bind (zhV zbZ zbj M p) fun s =>
    Option.bind (zeD M n s []) fun acts =>
    some (acts.reverse,true)
  else some ([],false)
def zcv (n:Nat) (a0:Option Box_) (purse:List Int):Option (List Int×Bool) :=
 Option.bind a0 fun b =>
 Option.bind (zeC n a0) fun r1 =>
 Option.bind (zb1 purse n 0 r1) fun al =>
 Option.bind (zd5 n a0 al) fun M =>
 if zj2 M=true then zb2 n b M (zfD al M) (zgd ((zfD al M).map (·.1))) n 0 else none
def zaO (n:Nat) (a:Option Box_) (purse:List Int):List Gap_->Option (Unit×List Gap_)
 | [] =>
  Option.bind (zcv n a purse) fun e =>
  if (!e.2)=true then some ((),[]) else some ((),[⟨purse,e.1⟩])
 | x::gs =>
  Option.bind (zbm n a purse) fun w1 =>
  Option.bind (zbm n a x.purse) fun w2 =>
  if decide (w1>w2)=true then some ((),x::gs)
  else
   Option.bind (zcv n a purse) fun e =>
   if (!e.2)=true then some ((),x::gs)
   else
    Option.bind (zbm n a purse) fun w3 =>
    Option.bind (zbm n a x.purse) fun w4 =>
    if decide (w3<w4)=true then some ((),[⟨purse,e.1⟩])
    else Option.bind (app (x::gs) ([⟨purse,e.1⟩]:List Gap_)) fun l=>some ((),l)
def zbw (n:Nat) (a0:Option Box_):Option (List Gap_) :=
 Option.bind (zbP n (fun x0 s=>zaO n a0 x0 s) a0 ([]:List Int) 2 ([]:List Gap_)) fun r =>
 some r.2
def zcA (n:Nat) (a0:Box):Option ((Option Box_)×(List Gap_)×Int) :=
 Option.bind (zde n a0) fun r1 =>
 if (r1.2 != 0)=true then
  some ((none:Option Box_),([]:List Gap_),r1.2)
 else
  Option.bind (zbw n r1.1) fun r3 =>
  if ((r3.length:Int)==0)=true then
   some ((none:Option Box_),([]:List Gap_),3)
  else
   some (r1.1,r3,0)
def zcc (n:Nat) (a0:Box):Option (Int×Int) :=
 Option.bind (zcA n a0) fun r1 =>
 if (r1.2.2 != 0)=true then
  some (0,r1.2.2)
 else
  Option.bind (idx r1.2.1 0) fun x3 =>
  Option.bind (zbm n r1.1 x3.purse) fun r4 =>
  some (r4,0)
def zeR:Option (Bool) :=
 some true
def zdV (a0:List Int) (a1:List Int) (rec1:Int->Option (Bool)) (v2:Int):Option (Bool) :=
 if decide (v2<(a0.length:Int))=true then
  Option.bind (idx a0 v2) fun x4 =>
  Option.bind (idx a1 v2) fun x5 =>
  if (x4 != x5)=true then
   some false
  else
   rec1 (w64 (v2+1))
 else
  zeR
def zb3 (a0:List Int) (a1:List Int):Nat->Int->Option (Bool)
 | 0,_=>none
 | m+1,v2=>zdV a0 a1 (zb3 a0 a1 m) v2
def zby (n:Nat) (a0:List Int) (a1:List Int):Option (Bool) :=
 if ((a0.length:Int) != (a1.length:Int))=true then
  some false
 else
  zb3 a0 a1 n 0
def zj4:Option (Wheel) :=
 some (⟨50,([10,20,25]:List Int),([5,10,25]:List Int)⟩:Wheel)
def zij:Option (Box) :=
 Option.bind (zj4) fun r1 =>
 some (⟨r1,([0,2,1]:List Int),([0,1,0]:List Int),([0,0,0]:List Int),6,0⟩:Box)
def zdJ (n:Nat) (a0:Option Box_):Option (List Int) :=
 Option.bind (zeC n a0) fun r1 =>
 Option.bind (zd5 n a0 r1) fun M =>
 Option.bind (zeC n a0) fun r2 =>
 if zj2 M=true then some (zgd ((zfD r2 M).map (·.1))) else none
def zik (n:Nat) (a0:Box):Option ((List Int)×Int) :=
 Option.bind (zde n a0) fun r1 =>
 if (r1.2 != 0)=true then
  some (([]:List Int),r1.2)
 else
  Option.bind (zdJ n r1.1) fun r3 =>
  some (r3,0)
def zhA (n:Nat) (a0:Box):Option (Int×Int×Int×Int) :=
 Option.bind (zde n a0) fun r1 =>
 if (r1.2 != 0)=true then
  some (0,0,0,r1.2)
 else
  Option.bind (zbm n r1.1 a0.Marked) fun r3 =>
  Option.bind (zbm n r1.1 a0.Found) fun r4 =>
  Option.bind (zbm n r1.1 a0.Slugs) fun r5 =>
  some (w64 (r4-r3),r3,r5,0)
def zeS (v2:Int):Option (Int) :=
 some v2
def zdW (a0:List Int) (rec1:Int->Int->Option (Int)) (v3:Int) (v4:Int):Option (Int) :=
 if decide (v4<(a0.length:Int))=true then
  Option.bind (idx a0 v4) fun x6 =>
  rec1 (max v3 x6) (w64 (v4+1))
 else
  zeS v3
def zcw (a0:List Int):Nat->Int->Int->Option (Int)
 | 0,_,_=>none
 | m+1,v3,v4=>zdW a0 (zcw a0 m) v3 v4
def zeT (n:Nat) (a0:List Int):Option (Int) :=
 Option.bind (idx a0 0) fun x1 =>
 zcw a0 n x1 1
def slices_Max_int (n:Nat) (a0:List Int):Option (Int) :=
 if decide ((a0.length:Int)<1)=true then
  none
 else
  zeT n a0
def zg2 (n:Nat) (a0:Box):Option (Int×Int) :=
 Option.bind (zde n a0) fun r1 =>
 if (r1.2 != 0)=true then
  some (0,r1.2)
 else
  Option.bind (zdJ n r1.1) fun r3 =>
  Option.bind (slices_Max_int n r3) fun r4 =>
  some ((max 0 (w64 (a0.Plays-r4))),0)
def zbM (v6:Bool):Option (Bool) :=
 some v6
def zgf (n:Nat):Option (Bool) :=
 Option.bind (zij) fun r1 =>
 Option.bind (zik n r1) fun r2 =>
 Option.bind (zhA n r1) fun r3 =>
 Option.bind (zcc n r1) fun r4 =>
 Option.bind (zg2 n r1) fun r5 =>
 if (r2.2==0)=true then
  if (r3.2.2.2==0)=true then
   if (r4.2==0)=true then
    if (r5.2==0)=true then
     Option.bind (zby n r2.1 ([3,4,5]:List Int)) fun r11 =>
     if r11=true then
      if (r3.1==35)=true then
       if (r3.2.1==10)=true then
        if (r4.1==5)=true then
         zbM (r5.1==1)
        else
         zbM false
       else
        zbM false
      else
       zbM false
     else
      zbM false
    else
     zbM false
   else
    zbM false
  else
   zbM false
 else
  zbM false
def zjb (a0:Wheel):Option (Wheel) :=
 Option.bind (app ([]:List Int) a0.Notches) fun l1 =>
 Option.bind (app ([]:List Int) a0.Coins) fun l2 =>
 some (⟨a0.Round,l1,l2⟩:Wheel)
def zjc (a0:Box):Option (Box) :=
 Option.bind (zjb a0.Wheel) fun r1 =>
 Option.bind (app ([]:List Int) a0.Found) fun l2 =>
 Option.bind (app ([]:List Int) a0.Marked) fun l3 =>
 Option.bind (app ([]:List Int) a0.Slugs) fun l4 =>
 some (⟨r1,l2,l3,l4,a0.Plays,a0.Skips⟩:Box)
def zdX (v1:Int):Option (Int) :=
 some v1
def zdi (a0:Wheel) (a1:List Int) (rec1:Int->Int->Option (Int)) (v2:Int) (v3:Int):Option (Int) :=
 if decide (v3<(a1.length:Int))=true then
  Option.bind (idx a1 v3) fun x5 =>
  Option.bind (idx a0.Coins v3) fun x6 =>
  rec1 (w64 (v2+(w64 (x5*x6)))) (w64 (v3+1))
 else
  zdX v2
def zbU (a0:Wheel) (a1:List Int):Nat->Int->Int->Option (Int)
 | 0,_,_=>none
 | m+1,v2,v3=>zdi a0 a1 (zbU a0 a1 m) v2 v3
def zdb (n:Nat) (a0:Wheel) (a1:List Int):Option (Int) :=
 zbU a0 a1 n 0 0
def zgq (v2:List (List Int)):Option ((List (List Int))) :=
 some v2
def zfl (rec:(List Int)->(List Int)->Option ((List (List Int)))) (a0:List Int) (a1:List Int) (rec1:(List (List Int))->Int->Option ((List (List Int)))) (v3:List (List Int)) (v4:Int):Option ((List (List Int))) :=
 Option.bind (idx a0 (a1.length:Int)) fun x5 =>
 if decide (v4<=x5)=true then
  Option.bind (app ([]:List Int) a1) fun l7 =>
  Option.bind (app l7 ([v4]:List Int)) fun l8 =>
  Option.bind (rec a0 l8) fun r9 =>
  Option.bind (app v3 r9) fun l10 =>
  rec1 l10 (w64 (v4+1))
 else
  zgq v3
def zds (rec:(List Int)->(List Int)->Option ((List (List Int)))) (a0:List Int) (a1:List Int):Nat->(List (List Int))->Int->Option ((List (List Int)))
 | 0,_,_=>none
 | m+1,v3,v4=>zfl rec a0 a1 (zds rec a0 a1 m) v3 v4
def zg3 (n:Nat) (rec:(List Int)->(List Int)->Option ((List (List Int)))) (a0:List Int) (a1:List Int):Option ((List (List Int))) :=
 if ((a1.length:Int)==(a0.length:Int))=true then
  some ([a1]:List (List Int))
 else
  zds rec a0 a1 n ([]:List (List Int)) 0
def zc3:Nat->(List Int)->(List Int)->Option ((List (List Int)))
 | 0,_,_=>none
 | n+1,a0,a1=>zg3 n (zc3 n) a0 a1
def zil:Option (Bool) :=
 some false
def zg4 (a0:List Int) (a1:Int) (rec1:Int->Option (Bool)) (v1:Int):Option (Bool) :=
 if decide (v1<(a0.length:Int))=true then
  Option.bind (idx a0 v1) fun x3 =>
  if (x3==a1)=true then
   some true
  else
   rec1 (w64 (v1+1))
 else
  zil
def zfy (a0:List Int) (a1:Int):Nat->Int->Option (Bool)
 | 0,_=>none
 | m+1,v1=>zg4 a0 a1 (zfy a0 a1 m) v1
def znR (n:Nat) (a0:List Int) (a1:Int):Option (Bool) :=
 zfy a0 a1 n 0
def zhB (v1:Int) (v2:Int):Option (Int×Int) :=
 some (v1,v2)
def zgG (rec1:Int->Int->Int->Option (Int×Int)) (v5:Int) (v7:Int) (v8:Int):Option (Int×Int) :=
 rec1 v7 v8 (w64 (v5+1))
def zgH (rec1:Int->Int->Int->Option (Int×Int)) (a0:Wheel) (v3:Int) (v5:Int) (v9:Int):Option (Int×Int) :=
 if ((w64 (v3+1))==a0.Round)=true then
  zgG rec1 v5 0 v9
 else
  zgG rec1 v5 (w64 (v3+1)) v9
def zgr (n:Nat) (a0:Wheel) (a2:Int) (rec1:Int->Int->Int->Option (Int×Int)) (v3:Int) (v4:Int) (v5:Int):Option (Int×Int) :=
 if decide (v5<a2)=true then
  Option.bind (znR n a0.Notches (w64 (v3+1))) fun r11 =>
  if r11=true then
   zgH rec1 a0 v3 v5 (w64 (v4+1))
  else
   zgH rec1 a0 v3 v5 v4
 else
  zhB v3 v4
def zcH (n:Nat) (a0:Wheel) (a2:Int):Nat->Int->Int->Int->Option (Int×Int)
 | 0,_,_,_=>none
 | m+1,v3,v4,v5=>zgr n a0 a2 (zcH n a0 a2 m) v3 v4 v5
def zj5 (n:Nat) (a0:Wheel) (a1:Int) (a2:Int):Option (Int×Int) :=
 zcH n a0 a2 n a1 0 0
def zeE (n:Nat) (a0:Wheel) (a1:Stand) (a2:Int):Option (Stand×Bool) :=
 if decide (a2≥0)=true then
  Option.bind (idx a0.Coins a2) fun x2 =>
  Option.bind (zj5 n a0 a1.Place x2) fun r3 =>
  some ((⟨r3.1,w64 (a1.Credit+r3.2)⟩:Stand),false)
 else
  if (a1.Credit==0)=true then
   some (a1,false)
  else
   some ((⟨0,w64 (a1.Credit-1)⟩:Stand),true)
def zeF (rec:Wheel->(List SpotR_)->SpotR_->Option ((List SpotR_))) (a0:Wheel) (a2:SpotR_) (l1:List SpotR_) (r2:Stand×Bool) (v3:Bool):Option ((List SpotR_)) :=
 if v3=true then
  some l1
 else
  Option.bind (rec a0 l1 (⟨r2.1,a2.bought⟩:SpotR_)) fun r5 =>
  some r5
def zeG (n:Nat) (rec:Wheel->(List SpotR_)->SpotR_->Option ((List SpotR_))) (a0:Wheel) (a1:List SpotR_) (a2:SpotR_):Option ((List SpotR_)) :=
 Option.bind (app a1 ([a2]:List SpotR_)) fun l1 =>
 Option.bind (zeE n a0 a2.stand (-1)) fun r2 =>
 if (!r2.2)=true then
  zeF rec a0 a2 l1 r2 true
 else
  zeF rec a0 a2 l1 r2 (a2.stand.Place==0)
def zgs (n:Nat) (rec:Wheel->(List SpotR_)->SpotR_->Option ((List SpotR_))) (a0:Wheel) (a1:List SpotR_) (a2:SpotR_) (rec1:Int->Option ((List SpotR_))) (v7:Int):Option ((List SpotR_)) :=
 if decide (v7<(a1.length:Int))=true then
  Option.bind (idx a1 v7) fun x9 =>
  if ((x9.stand.Place==a2.stand.Place)&&((x9.stand.Credit==a2.stand.Credit)&&((x9.bought==a2.bought)&&true)))=true then
   some a1
  else
   rec1 (w64 (v7+1))
 else
  zeG n rec a0 a1 a2
def zdP (n:Nat) (rec:Wheel->(List SpotR_)->SpotR_->Option ((List SpotR_))) (a0:Wheel) (a1:List SpotR_) (a2:SpotR_):Nat->Int->Option ((List SpotR_))
 | 0,_=>none
 | m+1,v7=>zgs n rec a0 a1 a2 (zdP n rec a0 a1 a2 m) v7
def zgg (n:Nat) (rec:Wheel->(List SpotR_)->SpotR_->Option ((List SpotR_))) (a0:Wheel) (a1:List SpotR_) (a2:SpotR_):Option ((List SpotR_)) :=
 zdP n rec a0 a1 a2 n 0
def zfQ:Nat->Wheel->(List SpotR_)->SpotR_->Option ((List SpotR_))
 | 0,_,_,_=>none
 | n+1,a0,a1,a2=>zgg n (zfQ n) a0 a1 a2
def zfR (v1:Int):Option (Int) :=
 some v1
def zeU (a0:List Int) (a1:List Int) (rec1:Int->Int->Option (Int)) (v2:Int) (v3:Int):Option (Int) :=
 if decide (v3<(a1.length:Int))=true then
  Option.bind (idx a0 v3) fun x5 =>
  Option.bind (idx a1 v3) fun x6 =>
  rec1 (w64 (v2+(max 0 (w64 (x5-x6))))) (w64 (v3+1))
 else
  zfR v2
def zc4 (a0:List Int) (a1:List Int):Nat->Int->Int->Option (Int)
 | 0,_,_=>none
 | m+1,v2,v3=>zeU a0 a1 (zc4 a0 a1 m) v2 v3
def ziM (n:Nat) (a0:List Int) (a1:List Int):Option (Int) :=
 zc4 a0 a1 n 0 0
def zgt (v1:Int):Option (Int) :=
 some v1
def zfm (a0:List Int) (a1:List Int) (rec1:Int->Int->Option (Int)) (v2:Int) (v3:Int):Option (Int) :=
 if decide (v3<(a0.length:Int))=true then
  Option.bind (idx a0 v3) fun x5 =>
  Option.bind (idx a1 v3) fun x6 =>
  rec1 (w64 ((w64 (v2*(w64 (x5+1))))+x6)) (w64 (v3+1))
 else
  zgt v2
def zdt (a0:List Int) (a1:List Int):Nat->Int->Int->Option (Int)
 | 0,_,_=>none
 | m+1,v2,v3=>zfm a0 a1 (zdt a0 a1 m) v2 v3
def zjE (n:Nat) (a0:List Int) (a1:List Int):Option (Int) :=
 zdt a0 a1 n 0 0
def zhY (a0:List Int) (a1:Int):Option ((List Int)) :=
 Option.bind (app ([]:List Int) a0) fun l1 =>
 Option.bind (idx l1 a1) fun x2 =>
 Option.bind (idx l1 a1) fun x3 =>
 some (l1.set (Int.toNat a1) (w64 (x2-1)))
def zfn (v2:List Int):Option ((List Int)) :=
 some v2
def zcP (rec1:(List Int)->Int->Option ((List Int))) (v4:Int) (v6:List Int):Option ((List Int)) :=
 rec1 v6 (w64 (v4+1))
def zel (rec1:(List Int)->Int->Option ((List Int))) (a0:List SpotR_) (v4:Int) (rec2:(List Int)->Int->Option ((List Int))) (v7:List Int) (v8:Int):Option ((List Int)) :=
 if decide (v8<(a0.length:Int))=true then
  Option.bind (idx a0 v8) fun x10 =>
  if (x10.bought==v4)=true then
   Option.bind (app v7 ([v4]:List Int)) fun l12 =>
   zcP rec1 v4 l12
  else
   rec2 v7 (w64 (v8+1))
 else
  zcP rec1 v4 v7
def zcj (rec1:(List Int)->Int->Option ((List Int))) (a0:List SpotR_) (v4:Int):Nat->(List Int)->Int->Option ((List Int))
 | 0,_,_=>none
 | m+1,v7,v8=>zel rec1 a0 v4 (zcj rec1 a0 v4 m) v7 v8
def zem (n:Nat) (a0:List SpotR_) (v1:Int) (rec1:(List Int)->Int->Option ((List Int))) (v3:List Int) (v4:Int):Option ((List Int)) :=
 if decide (v4<=v1)=true then
  zcj rec1 a0 v4 n v3 0
 else
  zfn v3
def zbe (n:Nat) (a0:List SpotR_) (v1:Int):Nat->(List Int)->Int->Option ((List Int))
 | 0,_,_=>none
 | m+1,v3,v4=>zem n a0 v1 (zbe n a0 v1 m) v3 v4
def zd6 (n:Nat) (a0:List SpotR_) (v1:Int):Option ((List Int)) :=
 zbe n a0 v1 n ([]:List Int) 0
def zen (n:Nat) (a0:List SpotR_) (rec3:Int->Int->Option ((List Int))) (v13:Int) (v14:Int):Option ((List Int)) :=
 if decide (v14<(a0.length:Int))=true then
  Option.bind (idx a0 v14) fun x16 =>
  rec3 (max v13 x16.bought) (w64 (v14+1))
 else
  zd6 n a0 v13
def zck (n:Nat) (a0:List SpotR_):Nat->Int->Int->Option ((List Int))
 | 0,_,_=>none
 | m+1,v13,v14=>zen n a0 (zck n a0 m) v13 v14
def zg5 (n:Nat) (a0:List SpotR_):Option ((List Int)) :=
 zck n a0 n 0 0
def zgu (v2:List (List Int)):Option ((List (List Int))) :=
 some v2
def zgv (rec1:(List (List SpotR_))->(List (List Int))->Int->Option ((List (List Int)))) (v5:Int) (v7:List (List SpotR_)) (v8:List (List Int)):Option ((List (List Int))) :=
 rec1 v7 v8 (w64 (v5+1))
def zdu (n:Nat) (rec1:(List (List SpotR_))->(List (List Int))->Int->Option ((List (List Int)))) (v3:List (List SpotR_)) (v4:List (List Int)) (v5:Int) (v10:List SpotR_):Option ((List (List Int))) :=
 Option.bind (app v3 ([v10]:List (List SpotR_))) fun l11 =>
 Option.bind (zg5 n v10) fun r12 =>
 Option.bind (app v4 ([r12]:List (List Int))) fun l13 =>
 zgv rec1 v5 l11 l13
def zdv (rec2:(List SpotR_)->Int->Option ((List (List Int)))) (v15:Int) (v18:List SpotR_):Option ((List (List Int))) :=
 rec2 v18 (w64 (v15+1))
def zfo (n:Nat) (rec2:(List SpotR_)->Int->Option ((List (List Int)))) (a0:Wheel) (v15:Int) (x25:List SpotR_) (rec3:(List SpotR_)->Int->Option ((List (List Int)))) (v26:List SpotR_) (v27:Int):Option ((List (List Int))) :=
 if decide (v27<(x25.length:Int))=true then
  Option.bind (idx x25 v27) fun x29 =>
  Option.bind (zeE n a0 x29.stand v15) fun r30 =>
  Option.bind (idx x25 v27) fun x31 =>
  Option.bind (idx x25 v27) fun x32 =>
  Option.bind (zfQ n a0 v26 (⟨r30.1,w64 ((w64 (x31.bought+r30.1.Credit))-x32.stand.Credit)⟩:SpotR_)) fun r33 =>
  rec3 r33 (w64 (v27+1))
 else
  zdv rec2 v15 v26
def zcZ (n:Nat) (rec2:(List SpotR_)->Int->Option ((List (List Int)))) (a0:Wheel) (v15:Int) (x25:List SpotR_):Nat->(List SpotR_)->Int->Option ((List (List Int)))
 | 0,_,_=>none
 | m+1,v26,v27=>zfo n rec2 a0 v15 x25 (zcZ n rec2 a0 v15 x25 m) v26 v27
def zc0 (n:Nat) (rec1:(List (List SpotR_))->(List (List Int))->Int->Option ((List (List Int)))) (rec2:(List SpotR_)->Int->Option ((List (List Int)))) (a0:Wheel) (a1:List Int) (r1:(List (List Int))) (v3:List (List SpotR_)) (v4:List (List Int)) (v5:Int) (v14:List SpotR_) (v15:Int) (v16:Bool):Option ((List (List Int))) :=
 if v16=true then
  Option.bind (idx r1 v5) fun x19 =>
  Option.bind (idx x19 v15) fun x20 =>
  if (x20==0)=true then
   zdv rec2 v15 v14
  else
   Option.bind (idx r1 v5) fun x22 =>
   Option.bind (zhY x22 v15) fun r23 =>
   Option.bind (zjE n a1 r23) fun r24 =>
   Option.bind (idx v3 r24) fun x25 =>
   zcZ n rec2 a0 v15 x25 n v14 0
 else
  zdu n rec1 v3 v4 v5 v14
def zd7 (n:Nat) (rec1:(List (List SpotR_))->(List (List Int))->Int->Option ((List (List Int)))) (a0:Wheel) (a1:List Int) (a2:List Int) (r1:(List (List Int))) (v3:List (List SpotR_)) (v4:List (List Int)) (v5:Int) (rec2:(List SpotR_)->Int->Option ((List (List Int)))) (v14:List SpotR_) (v15:Int):Option ((List (List Int))) :=
 if decide (v15<(a1.length:Int))=true then
  Option.bind (idx r1 v5) fun x35 =>
  Option.bind (ziM n x35 a2) fun r36 =>
  zc0 n rec1 rec2 a0 a1 r1 v3 v4 v5 v14 v15 (decide (r36<=2))
 else
  zc0 n rec1 rec2 a0 a1 r1 v3 v4 v5 v14 v15 false
def zaZ (n:Nat) (rec1:(List (List SpotR_))->(List (List Int))->Int->Option ((List (List Int)))) (a0:Wheel) (a1:List Int) (a2:List Int) (r1:(List (List Int))) (v3:List (List SpotR_)) (v4:List (List Int)) (v5:Int):Nat->(List SpotR_)->Int->Option ((List (List Int)))
 | 0,_,_=>none
 | m+1,v14,v15=>zd7 n rec1 a0 a1 a2 r1 v3 v4 v5 (zaZ n rec1 a0 a1 a2 r1 v3 v4 v5 m) v14 v15
def zdw (n:Nat) (rec1:(List (List SpotR_))->(List (List Int))->Int->Option ((List (List Int)))) (a0:Wheel) (a1:List Int) (a2:List Int) (r1:(List (List Int))) (v3:List (List SpotR_)) (v4:List (List Int)) (v5:Int) (v9:List SpotR_):Option ((List (List Int))) :=
 zaZ n rec1 a0 a1 a2 r1 v3 v4 v5 n v9 0
def zfp (n:Nat) (a0:Wheel) (a1:List Int) (a2:List Int) (r1:(List (List Int))) (rec1:(List (List SpotR_))->(List (List Int))->Int->Option ((List (List Int)))) (v3:List (List SpotR_)) (v4:List (List Int)) (v5:Int):Option ((List (List Int))) :=
 if decide (v5<(r1.length:Int))=true then
  Option.bind (idx r1 v5) fun x37 =>
  Option.bind (zeA n x37) fun r38 =>
  if (r38==0)=true then
   Option.bind (zfQ n a0 ([]:List SpotR_) (⟨(⟨0,0⟩:Stand),0⟩:SpotR_)) fun r40 =>
   zdw n rec1 a0 a1 a2 r1 v3 v4 v5 r40
  else
   zdw n rec1 a0 a1 a2 r1 v3 v4 v5 ([]:List SpotR_)
 else
  zgu v4
def zay (n:Nat) (a0:Wheel) (a1:List Int) (a2:List Int) (r1:(List (List Int))):Nat->(List (List SpotR_))->(List (List Int))->Int->Option ((List (List Int)))
 | 0,_,_,_=>none
 | m+1,v3,v4,v5=>zfp n a0 a1 a2 r1 (zay n a0 a1 a2 r1 m) v3 v4 v5
def zim (n:Nat) (a0:Wheel) (a1:List Int) (a2:List Int):Option ((List (List Int))) :=
 Option.bind (zc3 n a1 ([]:List Int)) fun r1 =>
 zay n a0 a1 a2 r1 n ([]:List (List SpotR_)) ([]:List (List Int)) 0
def zcJ (n:Nat) (a0:List Int):Option (Bool) :=
 Option.bind (zeA n a0) fun r1 =>
 some (decide (r1<=2))
def zdC (n:Nat) (a0:List Int) (rec1:Int->Option (Bool)) (v2:Int):Option (Bool) :=
 if decide (v2<(a0.length:Int))=true then
  Option.bind (idx a0 v2) fun x4 =>
  if decide (x4<0)=true then
   some false
  else
   rec1 (w64 (v2+1))
 else
  zcJ n a0
def zcd (n:Nat) (a0:List Int):Nat->Int->Option (Bool)
 | 0,_=>none
 | m+1,v2=>zdC n a0 (zcd n a0 m) v2
def zfS (n:Nat) (a0:List Int):Option (Bool) :=
 zcd n a0 n 0
def zfT (a0:Box) (a1:Int):Option (Bool) :=
 Option.bind (zdN a1 a0.Plays (w64 (a0.Plays+a0.Skips))) fun r1 =>
 some r1
def zg6:Option (Bool) :=
 some false
def zfU (a0:Box) (a1:List Int) (rec1:Int->Option (Bool)) (v1:Int):Option (Bool) :=
 if decide (v1<(a1.length:Int))=true then
  Option.bind (idx a1 v1) fun x3 =>
  Option.bind (zfT a0 x3) fun r4 =>
  if r4=true then
   some true
  else
   rec1 (w64 (v1+1))
 else
  zg6
def zdY (a0:Box) (a1:List Int):Nat->Int->Option (Bool)
 | 0,_=>none
 | m+1,v1=>zfU a0 a1 (zdY a0 a1 m) v1
def zkR (n:Nat) (a0:Box) (a1:List Int):Option (Bool) :=
 zdY a0 a1 n 0
def zeo (v5:List (List Int)):Option ((List (List Int))) :=
 some v5
def zcK (rec1:(List (List Int))->Int->Option ((List (List Int)))) (v7:Int) (v9:List (List Int)):Option ((List (List Int))) :=
 rec1 v9 (w64 (v7+1))
def zcL (rec1:(List (List Int))->Int->Option ((List (List Int)))) (v6:List (List Int)) (v7:Int) (v10:List Int) (v11:Bool):Option ((List (List Int))) :=
 if v11=true then
  Option.bind (app v6 ([v10]:List (List Int))) fun l13 =>
  zcK rec1 v7 l13
 else
  zcK rec1 v7 v6
def zcM (n:Nat) (rec1:(List (List Int))->Int->Option ((List (List Int)))) (a0:Box) (r4:(List (List Int))) (v6:List (List Int)) (v7:Int) (v10:List Int):Option ((List (List Int))) :=
 Option.bind (zfS n v10) fun r14 =>
 if r14=true then
  Option.bind (idx r4 v7) fun x16 =>
  Option.bind (zkR n a0 x16) fun r17 =>
  zcL rec1 v6 v7 v10 r17
 else
  zcL rec1 v6 v7 v10 false
def zdD (n:Nat) (rec1:(List (List Int))->Int->Option ((List (List Int)))) (a0:Box) (r1:(List Int)) (r3:(List (List Int))) (r4:(List (List Int))) (v6:List (List Int)) (v7:Int) (rec2:(List Int)->Int->Option ((List (List Int)))) (v18:List Int) (v19:Int):Option ((List (List Int))) :=
 if decide (v19<(r1.length:Int))=true then
  Option.bind (idx r3 v7) fun x21 =>
  Option.bind (idx x21 v19) fun x22 =>
  Option.bind (idx r1 v19) fun x23 =>
  Option.bind (app v18 ([w64 (x22-x23)]:List Int)) fun l24 =>
  rec2 l24 (w64 (v19+1))
 else
  zcM n rec1 a0 r4 v6 v7 v18
def zbE (n:Nat) (rec1:(List (List Int))->Int->Option ((List (List Int)))) (a0:Box) (r1:(List Int)) (r3:(List (List Int))) (r4:(List (List Int))) (v6:List (List Int)) (v7:Int):Nat->(List Int)->Int->Option ((List (List Int)))
 | 0,_,_=>none
 | m+1,v18,v19=>zdD n rec1 a0 r1 r3 r4 v6 v7 (zbE n rec1 a0 r1 r3 r4 v6 v7 m) v18 v19
def zdE (n:Nat) (a0:Box) (r1:(List Int)) (r3:(List (List Int))) (r4:(List (List Int))) (rec1:(List (List Int))->Int->Option ((List (List Int)))) (v6:List (List Int)) (v7:Int):Option ((List (List Int))) :=
 if decide (v7<(r3.length:Int))=true then
  zbE n rec1 a0 r1 r3 r4 v6 v7 n ([]:List Int) 0
 else
  zeo v6
def zaN (n:Nat) (a0:Box) (r1:(List Int)) (r3:(List (List Int))) (r4:(List (List Int))):Nat->(List (List Int))->Int->Option ((List (List Int)))
 | 0,_,_=>none
 | m+1,v6,v7=>zdE n a0 r1 r3 r4 (zaN n a0 r1 r3 r4 m) v6 v7
def zdj (n:Nat) (a0:Box) (r1:(List Int)) (v2:List Int):Option ((List (List Int))) :=
 Option.bind (zc3 n v2 ([]:List Int)) fun r3 =>
 Option.bind (zim n a0.Wheel v2 r1) fun r4 =>
 zaN n a0 r1 r3 r4 n ([]:List (List Int)) 0
def zdF (n:Nat) (a0:Box) (r1:(List Int)) (rec3:(List Int)->Int->Option ((List (List Int)))) (v25:List Int) (v26:Int):Option ((List (List Int))) :=
 if decide (v26<(r1.length:Int))=true then
  Option.bind (idx r1 v26) fun x28 =>
  Option.bind (app v25 ([w64 (x28+2)]:List Int)) fun l29 =>
  rec3 l29 (w64 (v26+1))
 else
  zdj n a0 r1 v25
def zbF (n:Nat) (a0:Box) (r1:(List Int)):Nat->(List Int)->Int->Option ((List (List Int)))
 | 0,_,_=>none
 | m+1,v25,v26=>zdF n a0 r1 (zbF n a0 r1 m) v25 v26
def zeH (n:Nat) (a0:Box):Option ((List (List Int))) :=
 Option.bind (zhX n a0) fun r1 =>
 zbF n a0 r1 n ([]:List Int) 0
def zfq (v7:Int):Option (Int×Int) :=
 some (v7,0)
def zep (n:Nat) (a0:Box) (r3:(List (List Int))) (rec1:Int->Int->Option (Int×Int)) (v8:Int) (v9:Int):Option (Int×Int) :=
 if decide (v9<(r3.length:Int))=true then
  Option.bind (idx r3 v9) fun x11 =>
  Option.bind (zdb n a0.Wheel x11) fun r12 =>
  rec1 (min v8 r12) (w64 (v9+1))
 else
  zfq v8
def zcQ (n:Nat) (a0:Box) (r3:(List (List Int))):Nat->Int->Int->Option (Int×Int)
 | 0,_,_=>none
 | m+1,v8,v9=>zep n a0 r3 (zcQ n a0 r3 m) v8 v9
def zdk (n:Nat) (a0:Box):Option (Int×Int) :=
 Option.bind (zhl n a0) fun r1 =>
 if (r1 != 0)=true then
  some (0,r1)
 else
  Option.bind (zeH n a0) fun r3 =>
  if ((r3.length:Int)==0)=true then
   some (0,3)
  else
   Option.bind (idx r3 0) fun x5 =>
   Option.bind (zdb n a0.Wheel x5) fun r6 =>
   zcQ n a0 r3 n r6 0
def zbG {S:Type} (v1:S):Option (Int×S) :=
 some ((-1),v1)
def zbs {S:Type} (a0:List Gap_) (aF:Gap_->S->Option (Bool×S)) (rec1:Int->S->Option (Int×S)) (v3:Int) (v4:S):Option (Int×S) :=
 if decide (v3<(a0.length:Int))=true then
  Option.bind (idx a0 v3) fun x6 =>
  Option.bind (aF x6 v4) fun r7 =>
  if r7.1=true then
   some (v3,r7.2)
  else
   rec1 (w64 (v3+1)) r7.2
 else
  zbG v4
def zaI {S:Type} (a0:List Gap_) (aF:Gap_->S->Option (Bool×S)):Nat->Int->S->Option (Int×S)
 | 0,_,_=>none
 | m+1,v3,v4=>zbs a0 aF (zaI a0 aF m) v3 v4
def zc5 {S:Type} (n:Nat) (aF:Gap_->S->Option (Bool×S)) (a0:List Gap_) (st:S):Option (Int×S) :=
 zaI a0 aF n 0 st
def zbH {S:Type} (n:Nat) (aF:Gap_->S->Option (Bool×S)) (a0:List Gap_) (st:S):Option (Bool×S) :=
 Option.bind (zc5 n aF a0 st) fun r1 =>
 some (decide (r1.1≥0),r1.2)
def zd8 (a0:Gap_) (a1:Int):Option (Bool) :=
 Option.bind (idx a0.purse a1) fun x1 =>
 some (decide (x1>0))
def zfr (v3:List Int):Option ((List Int)×Int) :=
 some (v3,0)
def zd9 (rec1:(List Int)->Int->Option ((List Int)×Int)) (v5:Int) (v7:List Int):Option ((List Int)×Int) :=
 rec1 v7 (w64 (v5+1))
def zeq (n:Nat) (a0:Box) (r1:(Option Box_)×(List Gap_)×Int) (rec1:(List Int)->Int->Option ((List Int)×Int)) (v4:List Int) (v5:Int):Option ((List Int)×Int) :=
 if decide (v5<(a0.Wheel.Coins.length:Int))=true then
  Option.bind (zbH n (fun (x0:Gap_) (_:Unit)=>(zd8 x0 v5).map fun y=>(y,())) r1.2.1 ()) fun r8 =>
  if r8.1=true then
   Option.bind (app v4 ([v5]:List Int)) fun l10 =>
   zd9 rec1 v5 l10
  else
   zd9 rec1 v5 v4
 else
  zfr v4
def zbQ (n:Nat) (a0:Box) (r1:(Option Box_)×(List Gap_)×Int):Nat->(List Int)->Int->Option ((List Int)×Int)
 | 0,_,_=>none
 | m+1,v4,v5=>zeq n a0 r1 (zbQ n a0 r1 m) v4 v5
def zdZ (n:Nat) (a0:Box):Option ((List Int)×Int) :=
 Option.bind (zcA n a0) fun r1 =>
 if (r1.2.2 != 0)=true then
  some (([]:List Int),r1.2.2)
 else
  zbQ n a0 r1 n ([]:List Int) 0
def zgw (v4:List Int):Option ((List Int)×Int) :=
 some (v4,0)
def zdx (rec1:(List Int)->Int->Option ((List Int)×Int)) (v6:Int) (v8:List Int):Option ((List Int)×Int) :=
 rec1 v8 (w64 (v6+1))
def ze8 (rec1:(List Int)->Int->Option ((List Int)×Int)) (rec2:(List Int)->Int->Option ((List Int)×Int)) (v6:Int) (v9:List Int) (v10:Int) (v12:Bool):Option ((List Int)×Int) :=
 if v12=true then
  Option.bind (app v9 ([v6]:List Int)) fun l14 =>
  zdx rec1 v6 l14
 else
  rec2 v9 (w64 (v10+1))
def zfs (n:Nat) (rec1:(List Int)->Int->Option ((List Int)×Int)) (a0:Box) (r1:Int×Int) (r3:(List (List Int))) (v6:Int) (rec2:(List Int)->Int->Option ((List Int)×Int)) (v9:List Int) (v10:Int):Option ((List Int)×Int) :=
 if decide (v10<(r3.length:Int))=true then
  Option.bind (idx r3 v10) fun x15 =>
  Option.bind (idx x15 v6) fun x16 =>
  if decide (x16>0)=true then
   Option.bind (idx r3 v10) fun x18 =>
   Option.bind (zdb n a0.Wheel x18) fun r19 =>
   ze8 rec1 rec2 v6 v9 v10 (r19==r1.1)
  else
   ze8 rec1 rec2 v6 v9 v10 false
 else
  zdx rec1 v6 v9
def zbN (n:Nat) (rec1:(List Int)->Int->Option ((List Int)×Int)) (a0:Box) (r1:Int×Int) (r3:(List (List Int))) (v6:Int):Nat->(List Int)->Int->Option ((List Int)×Int)
 | 0,_,_=>none
 | m+1,v9,v10=>zfs n rec1 a0 r1 r3 v6 (zbN n rec1 a0 r1 r3 v6 m) v9 v10
def zft (n:Nat) (a0:Box) (r1:Int×Int) (r3:(List (List Int))) (rec1:(List Int)->Int->Option ((List Int)×Int)) (v5:List Int) (v6:Int):Option ((List Int)×Int) :=
 if decide (v6<(a0.Found.length:Int))=true then
  zbN n rec1 a0 r1 r3 v6 n v5 0
 else
  zgw v5
def za7 (n:Nat) (a0:Box) (r1:Int×Int) (r3:(List (List Int))):Nat->(List Int)->Int->Option ((List Int)×Int)
 | 0,_,_=>none
 | m+1,v5,v6=>zft n a0 r1 r3 (za7 n a0 r1 r3 m) v5 v6
def zfz (n:Nat) (a0:Box):Option ((List Int)×Int) :=
 Option.bind (zdk n a0) fun r1 =>
 if (r1.2 != 0)=true then
  some (([]:List Int),r1.2)
 else
  Option.bind (zeH n a0) fun r3 =>
  za7 n a0 r1 r3 n ([]:List Int) 0
def zc6 (n:Nat) (a0:Box):Option ((List Int)×(List Int)×Int) :=
 Option.bind (zcA n a0) fun r1 =>
 if (r1.2.2 != 0)=true then
  some (([]:List Int),([]:List Int),r1.2.2)
 else
  Option.bind (idx r1.2.1 0) fun x3 =>
  Option.bind (idx r1.2.1 0) fun x4 =>
  some (x3.purse,x4.acts,0)
def zce (v1:Bool):Option (Bool) :=
 some v1
def zjd (n:Nat) (a0:Box) (a1:Box):Option (Bool) :=
 if (a0.Wheel.Round==a1.Wheel.Round)=true then
  Option.bind (zby n a0.Wheel.Notches a1.Wheel.Notches) fun r3 =>
  if r3=true then
   Option.bind (zby n a0.Wheel.Coins a1.Wheel.Coins) fun r5 =>
   if r5=true then
    Option.bind (zby n a0.Found a1.Found) fun r7 =>
    if r7=true then
     Option.bind (zby n a0.Marked a1.Marked) fun r9 =>
     if r9=true then
      Option.bind (zby n a0.Slugs a1.Slugs) fun r11 =>
      if r11=true then
       if (a0.Plays==a1.Plays)=true then
        zce (a0.Skips==a1.Skips)
       else
        zce false
      else
       zce false
     else
      zce false
    else
     zce false
   else
    zce false
  else
   zce false
 else
  zce false
def zer (n:Nat) (a1:List Int):Option (Bool) :=
 Option.bind (zeA n a1) fun r2 =>
 some (decide (r2<=2))
def zdG (n:Nat) (a1:List Int) (rec1:Int->Option (Bool)) (v3:Int):Option (Bool) :=
 if decide (v3<(a1.length:Int))=true then
  Option.bind (idx a1 v3) fun x5 =>
  Option.bind (zdN x5 0 2) fun r6 =>
  if (!r6)=true then
   some false
  else
   rec1 (w64 (v3+1))
 else
  zer n a1
def zcf (n:Nat) (a1:List Int):Nat->Int->Option (Bool)
 | 0,_=>none
 | m+1,v3=>zdG n a1 (zcf n a1 m) v3
def zfV (n:Nat) (a0:Box) (a1:List Int):Option (Bool) :=
 if ((a1.length:Int) != (a0.Found.length:Int))=true then
  some false
 else
  zcf n a1 n 0
def zhC (v1:List Int):Option ((List Int)) :=
 some v1
def zhD (rec1:(List Int)->Int->Option ((List Int))) (v3:Int) (v5:List Int):Option ((List Int)) :=
 rec1 v5 (w64 (v3+1))
def zfF (rec1:(List Int)->Int->Option ((List Int))) (v2:List Int) (v3:Int) (v6:Int):Option ((List Int)) :=
 Option.bind (app v2 ([v6]:List Int)) fun l7 =>
 zhD rec1 v3 l7
def zgI (rec2:Int->Int->Option ((List Int))) (v9:Int) (v11:Int):Option ((List Int)) :=
 rec2 v11 (w64 (v9+1))
def zgx (rec1:(List Int)->Int->Option ((List Int))) (a1:List Int) (v2:List Int) (v3:Int) (rec2:Int->Int->Option ((List Int))) (v8:Int) (v9:Int):Option ((List Int)) :=
 if decide (v9<(a1.length:Int))=true then
  Option.bind (idx a1 v9) fun x12 =>
  if (x12==v3)=true then
   zgI rec2 v9 (w64 (v8+1))
  else
   zgI rec2 v9 v8
 else
  zfF rec1 v2 v3 v8
def zcI (rec1:(List Int)->Int->Option ((List Int))) (a1:List Int) (v2:List Int) (v3:Int):Nat->Int->Int->Option ((List Int))
 | 0,_,_=>none
 | m+1,v8,v9=>zgx rec1 a1 v2 v3 (zcI rec1 a1 v2 v3 m) v8 v9
def zgy (n:Nat) (a0:Wheel) (a1:List Int) (rec1:(List Int)->Int->Option ((List Int))) (v2:List Int) (v3:Int):Option ((List Int)) :=
 if decide (v3<(a0.Coins.length:Int))=true then
  zcI rec1 a1 v2 v3 n 0 0
 else
  zhC v2
def zbo (n:Nat) (a0:Wheel) (a1:List Int):Nat->(List Int)->Int->Option ((List Int))
 | 0,_,_=>none
 | m+1,v2,v3=>zgy n a0 a1 (zbo n a0 a1 m) v2 v3
def zj6 (n:Nat) (a0:Wheel) (a1:List Int):Option ((List Int)) :=
 zbo n a0 a1 n ([]:List Int) 0
def zg7 (v1:Int):Option (Int) :=
 some v1
def zfW (rec1:Int->Int->Int->Int->Option (Int)) (v5:Int) (r10:Stand×Bool) (v11:Int):Option (Int) :=
 rec1 v11 (w64 (v5+1)) r10.1.Place r10.1.Credit
def zfX (n:Nat) (a0:Wheel) (a1:List Int) (rec1:Int->Int->Int->Int->Option (Int)) (v4:Int) (v5:Int) (v6:Int) (v7:Int):Option (Int) :=
 if decide (v5<(a1.length:Int))=true then
  Option.bind (idx a1 v5) fun x9 =>
  Option.bind (zeE n a0 (⟨v6,v7⟩:Stand) x9) fun r10 =>
  if r10.2=true then
   zfW rec1 v5 r10 (w64 ((w64 (v4+(w64 (r10.1.Credit-v7))))+1))
  else
   zfW rec1 v5 r10 (w64 (v4+(w64 (r10.1.Credit-v7))))
 else
  zg7 v4
def zcB (n:Nat) (a0:Wheel) (a1:List Int):Nat->Int->Int->Int->Int->Option (Int)
 | 0,_,_,_,_=>none
 | m+1,v4,v5,v6,v7=>zfX n a0 a1 (zcB n a0 a1 m) v4 v5 v6 v7
def zje (n:Nat) (a0:Wheel) (a1:List Int):Option (Int) :=
 zcB n a0 a1 n 0 0 0 0
def zcS (v5:Bool):Option (Bool) :=
 some v5
def zcT (n:Nat) (a0:Box) (a1:List Int) (a2:List Int):Option (Bool) :=
 Option.bind (zhX n a0) fun r3 =>
 Option.bind (zhW n r3 a1) fun r4 =>
 Option.bind (zeA n r4) fun r6 =>
 if decide ((a2.length:Int)<=(w64 (2*r6)))=true then
  Option.bind (zj6 n a0.Wheel a2) fun r8 =>
  Option.bind (zby n r8 r4) fun r9 =>
  if r9=true then
   Option.bind (zje n a0.Wheel a2) fun r11 =>
   Option.bind (zfT a0 r11) fun r12 =>
   zcS r12
  else
   zcS false
 else
  zcS false
def zcU (rec1:Int->Option (Bool)) (v13:Int) (v15:Bool):Option (Bool) :=
 if v15=true then
  some false
 else
  rec1 (w64 (v13+1))
def zc9 (n:Nat) (a0:Box) (a1:List Int) (a2:List Int) (rec1:Int->Option (Bool)) (v13:Int):Option (Bool) :=
 if decide (v13<(a2.length:Int))=true then
  Option.bind (idx a2 v13) fun x17 =>
  if decide (x17<(-1))=true then
   zcU rec1 v13 true
  else
   Option.bind (idx a2 v13) fun x19 =>
   zcU rec1 v13 (decide (x19≥(a0.Found.length:Int)))
 else
  zcT n a0 a1 a2
def zbd (n:Nat) (a0:Box) (a1:List Int) (a2:List Int):Nat->Int->Option (Bool)
 | 0,_=>none
 | m+1,v13=>zc9 n a0 a1 a2 (zbd n a0 a1 a2 m) v13
def zbD (n:Nat) (a0:Box) (a1:List Int) (a2:List Int) (v1:Bool):Option (Bool) :=
 if v1=true then
  some false
 else
  zbd n a0 a1 a2 n 0
def zeV (n:Nat) (a0:Box) (a1:List Int) (a2:List Int):Option (Bool) :=
 if decide ((a2.length:Int)>40)=true then
  zbD n a0 a1 a2 true
 else
  if decide ((a1.length:Int)>40)=true then
   zbD n a0 a1 a2 true
  else
   Option.bind (zfV n a0 a1) fun r22 =>
   zbD n a0 a1 a2 (!r22)
def zcV (v13:Bool):Option (Bool) :=
 some v13
def zcg (v16:Bool):Option (Bool) :=
 some v16
def zaH (n:Nat) (a0:Box) (r6:Int×Int) (r9:(List Int)×(List Int)×Int) (v10:Bool):Option (Bool) :=
 if v10=true then
  some false
 else
  if (r6.2 != 0)=true then
   if ((w64 ((r9.1.length:Int)+(r9.2.1.length:Int)))==0)=true then
    Option.bind (zgf n) fun r15 =>
    zcV r15
   else
    zcV false
  else
   Option.bind (zeV n a0 r9.1 r9.2.1) fun r17 =>
   if r17=true then
    Option.bind (zdb n a0.Wheel r9.1) fun r19 =>
    if (r19==r6.1)=true then
     Option.bind (zgf n) fun r21 =>
     zcg r21
    else
     zcg false
   else
    zcg false
def ze2 (n:Nat) (a0:Box):Option (Bool) :=
 Option.bind (ziL n a0) fun r1 =>
 if r1=true then
  Option.bind (zgf n) fun r3 =>
  some r3
 else
  Option.bind (zjc a0) fun r4 =>
  Option.bind (zcc n r4) fun r5 =>
  Option.bind (zdk n a0) fun r6 =>
  Option.bind (zdZ n r4) fun r7 =>
  Option.bind (zfz n a0) fun r8 =>
  Option.bind (zc6 n r4) fun r9 =>
  if (r5.1 != r6.1)=true then
   zaH n a0 r6 r9 true
  else
   if (r5.2 != r6.2)=true then
    zaH n a0 r6 r9 true
   else
    Option.bind (zby n r7.1 r8.1) fun r24 =>
    if (!r24)=true then
     zaH n a0 r6 r9 true
    else
     if (r7.2 != r8.2)=true then
      zaH n a0 r6 r9 true
     else
      if (r9.2.2 != r6.2)=true then
       zaH n a0 r6 r9 true
      else
       Option.bind (zjd n r4 a0) fun r28 =>
       zaH n a0 r6 r9 (!r28)
end Go.Law
