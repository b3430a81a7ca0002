/-
  What the functions compute (printed by gen.py).
  Conditions: none.
-/
import Derived.Test.YtenogpmlhpcibaaGreatAmN
set_option linter.all false
namespace Go.Law
open Go Go.AM
set_option linter.unusedVariables false
structure Wheel where
 Round:Int
 Notches:List Int
 Coins:List Int
 deriving DecidableEq,Inhabited,Repr
abbrev Wheel.cells (x:Wheel):List AV:=[.v (.int .i64 x.Round),.sl .no 1 (x.Notches.map cI),.sl .no 1 (x.Coins.map cI)]
structure Box where
 Wheel:Wheel
 Found:List Int
 Marked:List Int
 Slugs:List Int
 Plays:Int
 Skips:Int
 deriving DecidableEq,Inhabited,Repr
abbrev Box.cells (x:Box):List AV:=[.v (.int .i64 x.Wheel.Round),.sl .no 1 (x.Wheel.Notches.map cI),.sl .no 1 (x.Wheel.Coins.map cI),.sl .no 1 (x.Found.map cI),.sl .no 1 (x.Marked.map cI),.sl .no 1 (x.Slugs.map cI),.v (.int .i64 x.Plays),.v (.int .i64 x.Skips)]
structure Box_ where
 Box:Box
 deriving DecidableEq,Inhabited,Repr
abbrev Box_.cells (x:Box_):List AV:=[.v (.int .i64 x.Box.Wheel.Round),.sl .no 1 (x.Box.Wheel.Notches.map cI),.sl .no 1 (x.Box.Wheel.Coins.map cI),.sl .no 1 (x.Box.Found.map cI),.sl .no 1 (x.Box.Marked.map cI),.sl .no 1 (x.Box.Slugs.map cI),.v (.int .i64 x.Box.Plays),.v (.int .i64 x.Box.Skips)]
structure Bag_ where
 c0:Int
 c1:Int
 c2:Int
 c3:Int
 deriving DecidableEq,Inhabited,Repr
abbrev Bag_.cells (x:Bag_):List AV:=[.v (.int .i64 x.c0),.v (.int .i64 x.c1),.v (.int .i64 x.c2),.v (.int .i64 x.c3)]
structure Wheel_ where
 Wheel:Wheel
 deriving DecidableEq,Inhabited,Repr
abbrev Wheel_.cells (x:Wheel_):List AV:=[.v (.int .i64 x.Wheel.Round),.sl .no 1 (x.Wheel.Notches.map cI),.sl .no 1 (x.Wheel.Coins.map cI)]
structure Stand where
 Place:Int
 Credit:Int
 deriving DecidableEq,Inhabited,Repr
abbrev Stand.cells (x:Stand):List AV:=[.v (.int .i64 x.Place),.v (.int .i64 x.Credit)]
structure Gap_ where
 purse:List Int
 acts:List Int
 deriving DecidableEq,Inhabited,Repr
abbrev Gap_.cells (x:Gap_):List AV:=[.sl .no 1 (x.purse.map cI),.sl .no 1 (x.acts.map cI)]
structure SpotR_ where
 stand:Stand
 bought:Int
 deriving DecidableEq,Inhabited,Repr
abbrev SpotR_.cells (x:SpotR_):List AV:=[.v (.int .i64 x.stand.Place),.v (.int .i64 x.stand.Credit),.v (.int .i64 x.bought)]
structure Clause where
 Kind:Int
 Cents:Int
 Part:Int
 More:Int
 deriving DecidableEq,Inhabited,Repr
abbrev Clause.cells (x:Clause):List AV:=[.v (.int .i64 x.Kind),.v (.int .i64 x.Cents),.v (.int .i64 x.Part),.v (.int .i64 x.More)]
structure Share where
 Clauses:List Clause
 Loan:Int
 deriving DecidableEq,Inhabited,Repr
abbrev Share.cells (x:Share):List AV:=[.sl .no 4 (x.Clauses.map Clause.cells),.v (.int .i64 x.Loan)]
structure Split where
 Operator:Int
 Owner:Int
 Repaid:Int
 deriving DecidableEq,Inhabited,Repr
abbrev Split.cells (x:Split):List AV:=[.v (.int .i64 x.Operator),.v (.int .i64 x.Owner),.v (.int .i64 x.Repaid)]
structure Week_ where
 Split:Split
 rest:Int
 owed:Int
 deriving DecidableEq,Inhabited,Repr
abbrev Week_.cells (x:Week_):List AV:=[.v (.int .i64 x.Split.Operator),.v (.int .i64 x.Split.Owner),.v (.int .i64 x.Split.Repaid),.v (.int .i64 x.rest),.v (.int .i64 x.owed)]
structure PointT_ where
 Stand:Stand
 in_:Bag_
 bought:Int
 deriving DecidableEq,Inhabited,Repr
abbrev PointT_.cells (x:PointT_):List AV:=[.v (.int .i64 x.Stand.Place),.v (.int .i64 x.Stand.Credit),.v (.int .i64 x.in_.c0),.v (.int .i64 x.in_.c1),.v (.int .i64 x.in_.c2),.v (.int .i64 x.in_.c3),.v (.int .i64 x.bought)]
def zbV (x:PointT_):Bool:=([x.Stand.Place,x.Stand.Credit,x.in_.c0,x.in_.c1,x.in_.c2,x.in_.c3,x.bought]:List Int).all okI
def zaf (x:PointT_):Value:=.agg (([x.Stand.Place,x.Stand.Credit,x.in_.c0,x.in_.c1,x.in_.c2,x.in_.c3,x.bought]:List Int).map kvI).toArray
def zg8 (v1:List Int):Option ((List Int)) :=
 some v1
def zfF (a0:List Int) (a1:List Int) (rec1:(List Int)->Int->Option ((List Int))) (v2:List Int) (v3:Int):Option ((List Int)) :=
 if decide (v3<(a0.length:Int))=true then
  Option.bind (idx a0 v3) fun x5 =>
  Option.bind (idx a1 v3) fun x6 =>
  Option.bind (app v2 ([w64 (x5+x6)]:List Int)) fun l7 =>
  rec1 l7 (w64 (v3+1))
 else
  zg8 v2
def zdK (a0:List Int) (a1:List Int):Nat->(List Int)->Int->Option ((List Int))
 | 0,_,_=>none
 | m+1,v2,v3=>zfF a0 a1 (zdK a0 a1 m) v2 v3
def zjK (n:Nat) (a0:List Int) (a1:List Int):Option ((List Int)) :=
 zdK a0 a1 n ([]:List Int) 0
def zdx (v1:Bool):Option (Bool) :=
 some v1
def zcQ (a0:Int) (a1:Int) (a2:Int):Option (Bool) :=
 if decide (a0≥a1)=true then
  zdx (decide (a0<=a2))
 else
  zdx false
def zfG:Option (Bool) :=
 some true
def zcv (rec1:Int->Option (Bool)) (v1:Int) (v3:Bool):Option (Bool) :=
 if v3=true then
  some false
 else
  rec1 (w64 (v1+1))
def zeL (a0:List Int) (a1:Int) (a2:Int) (rec1:Int->Option (Bool)) (v1:Int):Option (Bool) :=
 if decide (v1<(a0.length:Int))=true then
  Option.bind (idx a0 v1) fun x5 =>
  Option.bind (zcQ x5 a1 a2) fun r6 =>
  if (!r6)=true then
   zcv rec1 v1 true
  else
   if decide (v1>0)=true then
    Option.bind (idx a0 v1) fun x9 =>
    Option.bind (idx a0 (w64 (v1-1))) fun x10 =>
    zcv rec1 v1 (decide (x9<=x10))
   else
    zcv rec1 v1 false
 else
  zfG
def zb3 (a0:List Int) (a1:Int) (a2:Int):Nat->Int->Option (Bool)
 | 0,_=>none
 | m+1,v1=>zeL a0 a1 a2 (zb3 a0 a1 a2 m) v1
def zhW (n:Nat) (a0:List Int) (a1:Int) (a2:Int):Option (Bool) :=
 zb3 a0 a1 a2 n 0
def zcR (v1:Bool):Option (Int) :=
 if v1=true then
  some 10
 else
  some 0
def ziJ (n:Nat) (a0:Wheel):Option (Int) :=
 Option.bind (zcQ a0.Round 1 200) fun r3 =>
 if (!r3)=true then
  zcR true
 else
  if decide ((a0.Notches.length:Int)>12)=true then
   zcR true
  else
   Option.bind (zhW n a0.Notches 1 a0.Round) fun r6 =>
   if (!r6)=true then
    zcR true
   else
    if decide ((a0.Coins.length:Int)>4)=true then
     zcR true
    else
     Option.bind (zhW n a0.Coins 1 100) fun r9 =>
     zcR (!r9)
def zfa (v2:Int):Option (Bool) :=
 some (decide (v2<=12))
def zee (a1:List Int) (rec1:Int->Int->Option (Bool)) (v3:Int) (v4:Int):Option (Bool) :=
 if decide (v4<(a1.length:Int))=true then
  Option.bind (idx a1 v4) fun x6 =>
  Option.bind (zcQ x6 0 12) fun r7 =>
  if (!r7)=true then
   some false
  else
   Option.bind (idx a1 v4) fun x9 =>
   rec1 (w64 (v3+x9)) (w64 (v4+1))
 else
  zfa v3
def zce (a1:List Int):Nat->Int->Int->Option (Bool)
 | 0,_,_=>none
 | m+1,v3,v4=>zee a1 (zce a1 m) v3 v4
def zeM (n:Nat) (a0:Wheel) (a1:List Int):Option (Bool) :=
 if ((a1.length:Int) != (a0.Coins.length:Int))=true then
  some false
 else
  zce a1 n 0 0
def zeu (a0:Int) (a1:Int) (a2:Int):Option (Bool) :=
 Option.bind (zcQ a0 a1 a2) fun r1 =>
 some r1
def zeY (n:Nat) (a0:Box):Option (Int) :=
 Option.bind (zjK n a0.Found a0.Slugs) fun r3 =>
 Option.bind (zeM n a0.Wheel r3) fun r4 =>
 if (!r4)=true then
  some 50
 else
  some 0
def zfb (n:Nat) (a0:Box) (rec1:Int->Option (Int)) (v6:Int):Option (Int) :=
 if decide (v6<(a0.Found.length:Int))=true then
  Option.bind (idx a0.Marked v6) fun x8 =>
  Option.bind (idx a0.Found v6) fun x9 =>
  Option.bind (zeu x8 0 x9) fun r10 =>
  if (!r10)=true then
   some 50
  else
   rec1 (w64 (v6+1))
 else
  zeY n a0
def zcr (n:Nat) (a0:Box):Nat->Int->Option (Int)
 | 0,_=>none
 | m+1,v6=>zfb n a0 (zcr n a0 m) v6
def zcs (n:Nat) (a0:Box) (v1:Bool):Option (Int) :=
 if v1=true then
  some 50
 else
  zcr n a0 n 0
def zgi (n:Nat) (a0:Box):Option (Int) :=
 Option.bind (ziJ n a0.Wheel) fun r12 =>
 if (r12 != 0)=true then
  zcs n a0 true
 else
  Option.bind (zeM n a0.Wheel a0.Found) fun r14 =>
  if (!r14)=true then
   zcs n a0 true
  else
   Option.bind (zeM n a0.Wheel a0.Slugs) fun r16 =>
   if (!r16)=true then
    zcs n a0 true
   else
    if ((a0.Marked.length:Int) != (a0.Found.length:Int))=true then
     zcs n a0 true
    else
     Option.bind (zeu a0.Plays 0 9999) fun r19 =>
     if (!r19)=true then
      zcs n a0 true
     else
      Option.bind (zeu a0.Skips 0 9) fun r21 =>
      zcs n a0 (!r21)
def zgv (v1:Int):Option (Int) :=
 some v1
def zfc (a0:List Int) (rec1:Int->Int->Option (Int)) (v2:Int) (v3:Int):Option (Int) :=
 if decide (v3<(a0.length:Int))=true then
  Option.bind (idx a0 v3) fun x5 =>
  rec1 (w64 (v2+x5)) (w64 (v3+1))
 else
  zgv v2
def zdh (a0:List Int):Nat->Int->Int->Option (Int)
 | 0,_,_=>none
 | m+1,v2,v3=>zfc a0 (zdh a0 m) v2 v3
def zgj (n:Nat) (a0:List Int):Option (Int) :=
 zdh a0 n 0 0
def zjh (n:Nat) (a0:Box):Option ((List Int)) :=
 Option.bind (zjK n a0.Found a0.Slugs) fun r1 =>
 some r1
def zfx (v2:Bool):Option (Bool) :=
 some v2
def zji (n:Nat) (a0:Box):Option (Bool) :=
 if decide ((max (max (max (max (a0.Wheel.Notches.length:Int) (a0.Wheel.Coins.length:Int)) (a0.Found.length:Int)) (a0.Marked.length:Int)) (a0.Slugs.length:Int))>40)=true then
  some true
 else
  Option.bind (zgi n a0) fun r3 =>
  if (r3==0)=true then
   Option.bind (zjh n a0) fun r5 =>
   Option.bind (zgj n r5) fun r6 =>
   if decide (r6>3)=true then
    zfx true
   else
    zfx (decide ((a0.Found.length:Int)>3))
  else
   zfx false
def zev (v1:Bool):Option (Bool) :=
 some v1
def zdI (a0:Int) (a1:Int) (a2:Int):Option (Bool) :=
 if decide (a1<=a0)=true then
  zev (decide (a0<=a2))
 else
  zev false
def zfH (a0:List Int) (a1:Int):Option (Bool) :=
 some (decide ((a0.length:Int)<=a1))
def zcw (rec1:Int->Option (Bool)) (v1:Int) (v4:Bool):Option (Bool) :=
 if v4=true then
  some false
 else
  rec1 (w64 (v1+1))
def zeN (a0:List Int) (a1:Int) (a2:Int) (rec1:Int->Option (Bool)) (v1:Int):Option (Bool) :=
 if decide (v1<(a0.length:Int))=true then
  Option.bind (idx a0 v1) fun x3 =>
  Option.bind (zdI x3 1 a2) fun r6 =>
  if (!r6)=true then
   zcw rec1 v1 true
  else
   if decide (v1>0)=true then
    Option.bind (idx a0 (w64 (v1-1))) fun x9 =>
    zcw rec1 v1 (decide (x3<=x9))
   else
    zcw rec1 v1 false
 else
  zfH a0 a1
def zb4 (a0:List Int) (a1:Int) (a2:Int):Nat->Int->Option (Bool)
 | 0,_=>none
 | m+1,v1=>zeN a0 a1 a2 (zb4 a0 a1 a2 m) v1
def zhX (n:Nat) (a0:List Int) (a1:Int) (a2:Int):Option (Bool) :=
 zb4 a0 a1 a2 n 0
def zd6 (v1:Bool):Option (Int) :=
 if v1=true then
  some 10
 else
  some 0
def zhy (n:Nat) (a0:Wheel):Option (Int) :=
 Option.bind (zdI a0.Round 1 200) fun r3 =>
 if (!r3)=true then
  zd6 true
 else
  Option.bind (zhX n a0.Notches 12 a0.Round) fun r5 =>
  if (!r5)=true then
   zd6 true
  else
   Option.bind (zhX n a0.Coins 4 100) fun r7 =>
   zd6 (!r7)
def zdy (v1:Bool):Option (Bool) :=
 some v1
def zdi (a0:Int) (a1:Int) (a2:Int):Option (Bool) :=
 if decide (a1<=a0)=true then
  zdy (decide (a0<=a2))
 else
  zdy false
def zb5 {S:Type} (v1:S):Option (Int×S) :=
 some ((-1),v1)
def zbj {S:Type} (a0:List Int) (aF:Int->S->Option (Bool×S)) (rec1:Int->S->Option (Int×S)) (v3:Int) (v4:S):Option (Int×S) :=
 if decide (v3<(a0.length:Int))=true then
  Option.bind (idx a0 v3) fun x6 =>
  Option.bind (aF x6 v4) fun r7 =>
  if r7.1=true then
   some (v3,r7.2)
  else
   rec1 (w64 (v3+1)) r7.2
 else
  zb5 v4
def zaD {S:Type} (a0:List Int) (aF:Int->S->Option (Bool×S)):Nat->Int->S->Option (Int×S)
 | 0,_,_=>none
 | m+1,v3,v4=>zbj a0 aF (zaD a0 aF m) v3 v4
def zdp {S:Type} (n:Nat) (aF:Int->S->Option (Bool×S)) (a0:List Int) (st:S):Option (Int×S) :=
 zaD a0 aF n 0 st
def zbv {S:Type} (n:Nat) (aF:Int->S->Option (Bool×S)) (a0:List Int) (st:S):Option (Bool×S) :=
 Option.bind (zdp n aF a0 st) fun r1 =>
 some (decide (r1.1≥0),r1.2)
def zdX (a0:Int):Option (Bool) :=
 Option.bind (zdi a0 0 12) fun r1 =>
 some (!r1)
def zfd (v3:Int):Option (Int) :=
 if decide (v3>12)=true then
  some 50
 else
  some 0
def zef (a0:Box) (rec1:Int->Int->Option (Int)) (v5:Int) (v6:Int):Option (Int) :=
 if decide (v6<(a0.Found.length:Int))=true then
  Option.bind (idx a0.Found v6) fun x8 =>
  Option.bind (idx a0.Marked v6) fun x9 =>
  if decide (x9>x8)=true then
   some 50
  else
   Option.bind (idx a0.Slugs v6) fun x11 =>
   rec1 (w64 (v5+(w64 (x8+x11)))) (w64 (v6+1))
 else
  zfd v5
def zbJ (a0:Box):Nat->Int->Int->Option (Int)
 | 0,_,_=>none
 | m+1,v5,v6=>zef a0 (zbJ a0 m) v5 v6
def zg1 (n:Nat) (a0:Box):Option (Int) :=
 zbJ a0 n 0 0
def zdY (rec2:Int->Option (Int)) (v12:Int) (v15:Bool):Option (Int) :=
 if v15=true then
  some 50
 else
  rec2 (w64 (v12+1))
def zfI (n:Nat) (a0:Box) (rec2:Int->Option (Int)) (v12:Int):Option (Int) :=
 if decide (v12<3)=true then
  Option.bind (idx ([a0.Found,a0.Marked,a0.Slugs]:List (List Int)) v12) fun x14 =>
  if ((x14.length:Int) != (a0.Wheel.Coins.length:Int))=true then
   zdY rec2 v12 true
  else
   Option.bind (zbv n (fun (x0:Int) (_:Unit)=>(zdX x0).map fun y=>(y,())) x14 ()) fun r18 =>
   zdY rec2 v12 r18.1
 else
  zg1 n a0
def zaZ (n:Nat) (a0:Box):Nat->Int->Option (Int)
 | 0,_=>none
 | m+1,v12=>zfI n a0 (zaZ n a0 m) v12
def zc3 (n:Nat) (a0:Box) (v1:Bool):Option (Int) :=
 if v1=true then
  some 50
 else
  zaZ n a0 n 0
def zg9 (n:Nat) (a0:Box):Option (Int) :=
 Option.bind (zhy n a0.Wheel) fun r19 =>
 if (r19 != 0)=true then
  zc3 n a0 true
 else
  Option.bind (zdi a0.Plays 0 9999) fun r21 =>
  if (!r21)=true then
   zc3 n a0 true
  else
   Option.bind (zdi a0.Skips 0 9) fun r23 =>
   zc3 n a0 (!r23)
def zew (n:Nat) (a0:Box):Option ((Option Box_)×Int) :=
 Option.bind (zg9 n a0) fun r1 =>
 if (r1 != 0)=true then
  some ((none:Option Box_),r1)
 else
  some ((some (⟨a0⟩:Box_)),0)
def slices_Clone_int (a0:List Int):Option (List Int):=app [] a0
def zcx {S:Type} (rec:(Option Box_)->(List Int)->Int->S->Option (Unit×S)) (a0:Option Box_) (a1:List Int) (a2:Int) (rec1:Int->S->Option (Unit×S)) (v5:Int) (v6:S):Option (Unit×S) :=
 if decide (v5<(w64 (a2+1)))=true then
  Option.bind (slices_Clone_int a1) fun l8 =>
  Option.bind (app l8 ([v5]:List Int)) fun l9 =>
  Option.bind (rec a0 l9 (w64 (a2-v5)) v6) fun r10 =>
  rec1 (w64 (v5+1)) r10.2
 else
  some ((),v6)
def zbQ {S:Type} (rec:(Option Box_)->(List Int)->Int->S->Option (Unit×S)) (a0:Option Box_) (a1:List Int) (a2:Int):Nat->Int->S->Option (Unit×S)
 | 0,_,_=>none
 | m+1,v5,v6=>zcx rec a0 a1 a2 (zbQ rec a0 a1 a2 m) v5 v6
def zc7 {S:Type} (n:Nat) (rec:(Option Box_)->(List Int)->Int->S->Option (Unit×S)) (aF:(List Int)->S->Option (Unit×S)) (a0:Option Box_) (a1:List Int) (a2:Int) (st:S):Option (Unit×S) :=
 Option.bind (a0) fun x1 =>
 if ((a1.length:Int)==(x1.Box.Wheel.Coins.length:Int))=true then
  Option.bind (aF a1 st) fun r3 =>
  some ((),r3.2)
 else
  zbQ rec a0 a1 a2 n 0 st
def zbK {S:Type}:Nat->((List Int)->S->Option (Unit×S))->(Option Box_)->(List Int)->Int->S->Option (Unit×S)
 | 0,_,_,_,_,_=>none
 | n+1,aF,a0,a1,a2,st=>zc7 n (zbK n aF) aF a0 a1 a2 st
def zdq (v1:Int):Option (Int) :=
 some v1
def zc0 (a0:Option Box_) (a1:List Int) (rec1:Int->Int->Option (Int)) (v2:Int) (v3:Int):Option (Int) :=
 if decide (v3<(a1.length:Int))=true then
  Option.bind (idx a1 v3) fun x5 =>
  Option.bind (a0) fun x6 =>
  Option.bind (idx x6.Box.Wheel.Coins v3) fun x7 =>
  rec1 (w64 (v2+(w64 (x5*x7)))) (w64 (v3+1))
 else
  zdq v2
def zbz (a0:Option Box_) (a1:List Int):Nat->Int->Int->Option (Int)
 | 0,_,_=>none
 | m+1,v2,v3=>zc0 a0 a1 (zbz a0 a1 m) v2 v3
def zbk (n:Nat) (a0:Option Box_) (a1:List Int):Option (Int) :=
 zbz a0 a1 n 0 0
structure Step_ where
 act:Int
 from_:PointT_
 deriving DecidableEq,Inhabited,Repr
abbrev Step_.cells (x:Step_):List AV:=[.v (.int .i64 x.act),.v (.int .i64 x.from_.Stand.Place),.v (.int .i64 x.from_.Stand.Credit),.v (.int .i64 x.from_.in_.c0),.v (.int .i64 x.from_.in_.c1),.v (.int .i64 x.from_.in_.c2),.v (.int .i64 x.from_.in_.c3),.v (.int .i64 x.from_.bought)]
def zaz (x:Step_):Value:=.agg (([x.act,x.from_.Stand.Place,x.from_.Stand.Credit,x.from_.in_.c0,x.from_.in_.c1,x.from_.in_.c2,x.from_.in_.c3,x.from_.bought]:List Int).map kvI).toArray
abbrev zaU:PointT_:=⟨⟨0,0⟩,⟨0,0,0,0⟩,0⟩
abbrev zbe:Step_:=⟨0,zaU⟩
def zn3 (x y:Bag_):Bool:=(x.c0==y.c0)&&((x.c1==y.c1)&&((x.c2==y.c2)&&((x.c3==y.c3)&&true)))
def zgk (p o:PointT_):Bool:=decide (p.Stand.Place<o.Stand.Place) || ((p.Stand.Place==o.Stand.Place)&&decide (p.Stand.Credit<o.Stand.Credit))
def zm8 (al:Bag_) (E:List (Int×PointT_)) (p:PointT_):Bool:=zn3 p.in_ al&&(!zdf E p.bought || zgk p (ziB zaU E p.bought))
def zbA (al:Bag_) (E:List (Int×PointT_)) (p:PointT_):List (Int×PointT_):=if zm8 al E p=true then zln E p.bought p else E
def zhY (al:Bag_) (M:List (PointT_×Step_)):List (Int×PointT_):=(M.map (·.1)).foldl (zbA al) []
def zot (M:List (PointT_×Step_)):Bool:=M.all (fun p=>okI p.1.bought)&&decide (M.length<=1048576)
def zdL (v1:Int):Option (Int) :=
 some v1
def zc8 (a0:Bag_) (rec1:Int->Int->Option (Int)) (v2:Int) (v3:Int):Option (Int) :=
 if decide (v3<4)=true then
  Option.bind (idx ([a0.c0,a0.c1,a0.c2,a0.c3]:List Int) v3) fun x5 =>
  rec1 (w64 (v2+x5)) (w64 (v3+1))
 else
  zdL v2
def zbr (a0:Bag_):Nat->Int->Int->Option (Int)
 | 0,_,_=>none
 | m+1,v2,v3=>zc8 a0 (zbr a0 m) v2 v3
def zdZ (n:Nat) (a0:Bag_):Option (Int) :=
 zbr a0 n 0 0
abbrev zkJ:=List (PointT_×Step_)×List PointT_
abbrev zeZ (y:PointT_) (c:Int):PointT_:=⟨⟨y.Stand.Place,min y.Stand.Credit c⟩,y.in_,y.bought⟩
def zfr (n:Nat) (al:Bag_) (x:PointT_) (act:Int) (y:PointT_) (S:zkJ):Option zkJ :=
 Option.bind (zdZ n al) fun r1 =>
 Option.bind (zdZ n y.in_) fun r2 =>
 Option.bind (zii zbV zbe S.1 (zeZ y (w64 (r1-r2)))) fun u =>
 if zdf S.1 (zeZ y (w64 (r1-r2)))=true then some S
 else
  Option.bind (zmZ zbV S.1 (zeZ y (w64 (r1-r2))) ⟨act,x⟩) fun m =>
  if S.2.length+1<=1048576 then some (m,S.2++[zeZ y (w64 (r1-r2))]) else none
def zjL {S:Type} (n:Nat) (aF:Wheel_->S->Option (Bool×S)) (a0:Wheel) (st:S):Option ((Wheel_×Int)×S) :=
 Option.bind (zhy n a0) fun r1 =>
 if (r1 != 0)=true then
  some (((⟨(⟨0,([]:List Int),([]:List Int)⟩:Wheel)⟩:Wheel_),r1),st)
 else
  Option.bind (aF (⟨a0⟩:Wheel_) st) fun r3 =>
  if (!r3.1)=true then
   some (((⟨(⟨0,([]:List Int),([]:List Int)⟩:Wheel)⟩:Wheel_),1),r3.2)
  else
   some (((⟨a0⟩:Wheel_),0),r3.2)
def zdM (a0:Wheel_) (a1:Int):Option (Bool) :=
 Option.bind (zdI a1 0 (w64 (a0.Wheel.Round-1))) fun r1 =>
 some r1
def zcH {S:Type} (aF:Int->S->Option (Bool×S)) (a0:Int) (st:S):Option (Bool×S) :=
 Option.bind (aF a0 st) fun r1 =>
 some ((!r1.1),r1.2)
def zd0 {S:Type} (v1:Bool) (v2:S):Option (Bool×S) :=
 some (v1,v2)
def zha {S:Type} (n:Nat) (aF:Int->S->Option (Bool×S)) (a0:List Int) (st:S):Option (Bool×S) :=
 if decide ((a0.length:Int)<=20)=true then
  Option.bind (zbv n (zcH aF) a0 st) fun r4 =>
  zd0 (!r4.1) r4.2
 else
  zd0 false st
def zeg (a0:Wheel_) (a1:Int):Option (Bool) :=
 Option.bind (zdI a1 0 (w64 ((a0.Wheel.Coins.length:Int)-1))) fun r1 =>
 some r1
def zcN (v1:Bool):Option (Bool) :=
 some v1
def zcU (a0:Wheel_) (a1:Int):Option (Bool) :=
 if (a1==(-1))=true then
  zcN true
 else
  Option.bind (zeg a0 a1) fun r3 =>
  zcN r3
def zdz (v1:Bool):Option (Bool) :=
 some v1
def zgL (n:Nat) (a0:Wheel_) (a1:Stand) (a2:List Int):Option (Bool) :=
 Option.bind (zdM a0 a1.Place) fun r2 =>
 if r2=true then
  Option.bind (zdI a1.Credit 0 20) fun r4 =>
  if r4=true then
   Option.bind (zha n (fun (x0:Int) (_:Unit)=>(zcU a0 x0).map fun y=>(y,())) a2 ()) fun r6 =>
   zdz r6.1
  else
   zdz false
 else
  zdz false
def zdN (a0:Wheel_) (a1:Int) (a2:Int) (v1:Int):Option (Int×Int) :=
 Option.bind (rem (w64 (a1+a2)) a0.Wheel.Round) fun q2 =>
 some (q2,v1)
def zc9 (a0:Wheel_) (a1:Int) (a2:Int) (rec1:Int->Int->Option (Int×Int)) (v3:Int) (v4:Int):Option (Int×Int) :=
 if decide (v4<(a0.Wheel.Notches.length:Int))=true then
  Option.bind (idx a0.Wheel.Notches v4) fun x6 =>
  Option.bind (quo (w64 ((w64 ((w64 (a1+a2))-x6))+a0.Wheel.Round)) a0.Wheel.Round) fun q7 =>
  Option.bind (quo (w64 ((w64 (a1-x6))+a0.Wheel.Round)) a0.Wheel.Round) fun q8 =>
  rec1 (w64 (v3+(w64 (q7-q8)))) (w64 (v4+1))
 else
  zdN a0 a1 a2 v3
def zbs (a0:Wheel_) (a1:Int) (a2:Int):Nat->Int->Int->Option (Int×Int)
 | 0,_,_=>none
 | m+1,v3,v4=>zc9 a0 a1 a2 (zbs a0 a1 a2 m) v3 v4
def zfe (n:Nat) (a0:Wheel_) (a1:Int) (a2:Int):Option (Int×Int) :=
 zbs a0 a1 a2 n 0 0
def zfJ (n:Nat) (a0:Wheel_) (a1:Stand) (a2:Int):Option (Stand) :=
 if (a2 != (-1))=true then
  Option.bind (idx a0.Wheel.Coins a2) fun x2 =>
  Option.bind (zfe n a0 a1.Place x2) fun r3 =>
  some (⟨r3.1,w64 (a1.Credit+r3.2)⟩:Stand)
 else
  if decide (a1.Credit>0)=true then
   some (⟨0,w64 (a1.Credit-1)⟩:Stand)
  else
   some a1
def zhZ (v3:Int) (v4:Int) (v5:Int):Option (Stand×Int×Int) :=
 some ((⟨v4,v5⟩:Stand),v3,0)
def zgM (n:Nat) (rec1:Int->Int->Int->Int->Option (Stand×Int×Int)) (r1:(Wheel_×Int)×Unit) (v9:Int) (v10:Int) (v11:Int) (x13:Int) (v14:Int):Option (Stand×Int×Int) :=
 Option.bind (zfJ n r1.1.1 (⟨v10,v11⟩:Stand) x13) fun r15 =>
 rec1 v14 (w64 (v9+1)) r15.Place r15.Credit
def zfy (n:Nat) (rec1:Int->Int->Int->Int->Option (Stand×Int×Int)) (r1:(Wheel_×Int)×Unit) (v8:Int) (v9:Int) (v10:Int) (v11:Int) (x13:Int) (v16:Bool):Option (Stand×Int×Int) :=
 if v16=true then
  zgM n rec1 r1 v9 v10 v11 x13 (w64 (v8+1))
 else
  zgM n rec1 r1 v9 v10 v11 x13 v8
def zgw (n:Nat) (a2:List Int) (r1:(Wheel_×Int)×Unit) (rec1:Int->Int->Int->Int->Option (Stand×Int×Int)) (v8:Int) (v9:Int) (v10:Int) (v11:Int):Option (Stand×Int×Int) :=
 if decide (v9<(a2.length:Int))=true then
  Option.bind (idx a2 v9) fun x13 =>
  if (x13==(-1))=true then
   zfy n rec1 r1 v8 v9 v10 v11 x13 (decide (v11>0))
  else
   zfy n rec1 r1 v8 v9 v10 v11 x13 false
 else
  zhZ v8 v10 v11
def zbW (n:Nat) (a2:List Int) (r1:(Wheel_×Int)×Unit):Nat->Int->Int->Int->Int->Option (Stand×Int×Int)
 | 0,_,_,_,_=>none
 | m+1,v8,v9,v10,v11=>zgw n a2 r1 (zbW n a2 r1 m) v8 v9 v10 v11
def zfK (n:Nat) (a0:Wheel) (a1:Stand) (a2:List Int):Option (Stand×Int×Int) :=
 Option.bind (zjL n (fun (x0:Wheel_) (_:Unit)=>(zgL n x0 a1 a2).map fun y=>(y,())) a0 ()) fun r1 =>
 if (r1.1.2 != 0)=true then
  some ((⟨0,0⟩:Stand),0,r1.1.2)
 else
  zbW n a2 r1 n 0 0 a1.Place a1.Credit
def zbG (n:Nat) (b:Box_) (al:Bag_) (x:PointT_):Nat->Int->zkJ->Option zkJ
 | 0,_,_=>none
 | m+1,k,S =>
  if decide (k<(b.Box.Wheel.Coins.length:Int))=true then
   Option.bind (idx ([x.in_.c0,x.in_.c1,x.in_.c2,x.in_.c3]:List Int) k) fun e1 =>
   Option.bind (idx ([al.c0,al.c1,al.c2,al.c3]:List Int) k) fun e2 =>
   if (e1==e2)=true then zbG n b al x m (w64 (k+1)) S
   else
    Option.bind (zfK n b.Box.Wheel ⟨x.Stand.Place,0⟩ [k]) fun r =>
    Option.bind (zve ([x.in_.c0,x.in_.c1,x.in_.c2,x.in_.c3]:List Int) k (w64 (e1+1))) fun u =>
    Option.bind (zfr n al x k ⟨⟨r.1.Place,w64 (x.Stand.Credit+r.1.Credit)⟩,⟨u.getD 0 0,u.getD 1 0,u.getD 2 0,u.getD 3 0⟩,w64 (x.bought+r.1.Credit)⟩ S) fun S2 =>
    zbG n b al x m (w64 (k+1)) S2
  else some S
def zgx (n:Nat) (b:Box_) (al:Bag_) (x:PointT_) (S:zkJ):Option zkJ :=
 if decide (x.Stand.Credit>0)=true then
  if decide (x.Stand.Place>0)=true then
   Option.bind (zfK n b.Box.Wheel ⟨x.Stand.Place,1⟩ [-1]) fun r =>
   zfr n al x (-1) ⟨⟨r.1.Place,w64 (x.Stand.Credit-1)⟩,x.in_,x.bought⟩ S
  else some S
 else some S
def zd7 (n:Nat) (b:Box_) (al:Bag_):Nat->zkJ->Option (List (PointT_×Step_))
 | 0,_=>none
 | m+1,S=>match S.2 with
  | []=>some S.1
  | x::q =>
   Option.bind (zgx n b al x (S.1,q)) fun S1 =>
   Option.bind (zbG n b al x n 0 S1) fun S2 =>
   zd7 n b al m S2
def zff (n:Nat) (a0:Option Box_) (al:Bag_):Option (List (PointT_×Step_)) :=
 Option.bind a0 fun b=>zd7 n b al n ([(zaU,⟨-2,zaU⟩)],[zaU])
def zeh (v1:Int) (v2:Int) (v3:Int) (v4:Int):Option (Bag_) :=
 some (⟨v1,v2,v3,v4⟩:Bag_)
def zdr (a0:Option Box_) (x5:Box_) (rec1:Int->Int->Int->Int->Int->Option (Bag_)) (v7:Int) (v8:Int) (v9:Int) (v10:Int) (v11:Int):Option (Bag_) :=
 if decide (v7<(x5.Box.Found.length:Int))=true then
  Option.bind (idx x5.Box.Found v7) fun x13 =>
  Option.bind (a0) fun x14 =>
  Option.bind (idx x14.Box.Slugs v7) fun x15 =>
  Option.bind (idx ([v8,v9,v10,v11]:List Int) v7) fun x16 =>
  Option.bind (zve ([v8,v9,v10,v11]:List Int) v7 (w64 (x13+x15))) fun l17 =>
  rec1 (w64 (v7+1)) (l17.getD 0 0) (l17.getD 1 0) (l17.getD 2 0) (l17.getD 3 0)
 else
  zeh v8 v9 v10 v11
def zb6 (a0:Option Box_) (x5:Box_):Nat->Int->Int->Int->Int->Int->Option (Bag_)
 | 0,_,_,_,_,_=>none
 | m+1,v7,v8,v9,v10,v11=>zdr a0 x5 (zb6 a0 x5 m) v7 v8 v9 v10 v11
def zhz (n:Nat) (a0:Option Box_):Option (Bag_) :=
 Option.bind (a0) fun x5 =>
 zb6 a0 x5 n 0 0 0 0 0
def zbX (purse:List Int):Nat->Int->Bag_->Option Bag_
 | 0,_,_=>none
 | m+1,k,al =>
  if decide (k<(purse.length:Int))=true then
   Option.bind (idx purse k) fun x =>
   Option.bind (idx ([al.c0,al.c1,al.c2,al.c3]:List Int) k) fun e =>
   Option.bind (zve ([al.c0,al.c1,al.c2,al.c3]:List Int) k (w64 (e+x))) fun u =>
   zbX purse m (w64 (k+1)) ⟨u.getD 0 0,u.getD 1 0,u.getD 2 0,u.getD 3 0⟩
  else some al
def zex (M:List (PointT_×Step_)):Nat->Step_->List Int->Option (List Int)
 | 0,_,_=>none
 | m+1,s,acts =>
  if (s.act != -2)=true then
   if acts.length+1<=1048576 then
    Option.bind (zii zbV zbe M s.from_) fun s2=>zex M m s2 (acts++[s.act])
   else none
  else some acts
def zbY (n:Nat) (b:Box_) (M:List (PointT_×Step_)) (E:List (Int×PointT_)) (bs:List Int):Nat->Int->Option (List Int×Bool)
 | 0,_=>none
 | m+1,k =>
  if decide (k<(bs.length:Int))=true then
   Option.bind (idx bs k) fun x =>
   Option.bind (zdi x b.Box.Plays (w64 (b.Box.Plays+b.Box.Skips))) fun w =>
   if (!w)=true then zbY n b M E bs m (w64 (k+1))
   else
    Option.bind (zii okI zaU E x) fun p =>
    Option.bind (zii zbV zbe M p) fun s =>
    Option.bind (zex M n s []) fun acts =>
    some (acts.reverse,true)
  else some ([],false)
def zcp (n:Nat) (a0:Option Box_) (purse:List Int):Option (List Int×Bool) :=
 Option.bind a0 fun b =>
 Option.bind (zhz n a0) fun r1 =>
 Option.bind (zbX purse n 0 r1) fun al =>
 Option.bind (zff n a0 al) fun M =>
 if zot M=true then zbY n b M (zhY al M) (zia ((zhY al M).map (·.1))) n 0 else none
def zaS (n:Nat) (a:Option Box_) (purse:List Int):List Gap_->Option (Unit×List Gap_)
 | [] =>
  Option.bind (zcp n a purse) fun e =>
  if (!e.2)=true then some ((),[]) else some ((),[⟨purse,e.1⟩])
 | x::gs =>
  Option.bind (zbk n a purse) fun w1 =>
  Option.bind (zbk n a x.purse) fun w2 =>
  if decide (w1>w2)=true then some ((),x::gs)
  else
   Option.bind (zcp n a purse) fun e =>
   if (!e.2)=true then some ((),x::gs)
   else
    Option.bind (zbk n a purse) fun w3 =>
    Option.bind (zbk n a x.purse) fun w4 =>
    if decide (w3<w4)=true then some ((),[⟨purse,e.1⟩])
    else Option.bind (app (x::gs) ([⟨purse,e.1⟩]:List Gap_)) fun l=>some ((),l)
def zbR (n:Nat) (a0:Option Box_):Option (List Gap_) :=
 Option.bind (zbK n (fun x0 s=>zaS n a0 x0 s) a0 ([]:List Int) 2 ([]:List Gap_)) fun r =>
 some r.2
def ze0 (n:Nat) (a0:Box):Option ((Option Box_)×(List Gap_)×Int) :=
 Option.bind (zew n a0) fun r1 =>
 if (r1.2 != 0)=true then
  some ((none:Option Box_),([]:List Gap_),r1.2)
 else
  Option.bind (zbR n r1.1) fun r3 =>
  if ((r3.length:Int)==0)=true then
   some ((none:Option Box_),([]:List Gap_),3)
  else
   some (r1.1,r3,0)
def zdA (n:Nat) (a0:Box):Option (Int×Int) :=
 Option.bind (ze0 n a0) fun r1 =>
 if (r1.2.2 != 0)=true then
  some (0,r1.2.2)
 else
  Option.bind (idx r1.2.1 0) fun x3 =>
  Option.bind (zbk n r1.1 x3.purse) fun r4 =>
  some (r4,0)
def zgl:Option (Bool) :=
 some true
def zhA (a0:List Int) (a1:List Int) (rec1:Int->Option (Bool)) (v2:Int):Option (Bool) :=
 if decide (v2<(a0.length:Int))=true then
  Option.bind (idx a0 v2) fun x4 =>
  Option.bind (idx a1 v2) fun x5 =>
  if (x4 != x5)=true then
   some false
  else
   rec1 (w64 (v2+1))
 else
  zgl
def zeO (a0:List Int) (a1:List Int):Nat->Int->Option (Bool)
 | 0,_=>none
 | m+1,v2=>zhA a0 a1 (zeO a0 a1 m) v2
def zj6 (n:Nat) (a0:List Int) (a1:List Int):Option (Bool) :=
 if ((a0.length:Int) != (a1.length:Int))=true then
  some false
 else
  zeO a0 a1 n 0
def zfz (n:Nat) (a0:Box):Option (Int×Int×Int×Int) :=
 Option.bind (zew n a0) fun r1 =>
 if (r1.2 != 0)=true then
  some (0,0,0,r1.2)
 else
  Option.bind (zbk n r1.1 a0.Marked) fun r3 =>
  Option.bind (zbk n r1.1 a0.Found) fun r4 =>
  Option.bind (zbk n r1.1 a0.Slugs) fun r5 =>
  some (w64 (r4-r3),r3,r5,0)
def zjM (a0:Wheel):Option (Wheel) :=
 Option.bind (app ([]:List Int) a0.Notches) fun l1 =>
 Option.bind (app ([]:List Int) a0.Coins) fun l2 =>
 some (⟨a0.Round,l1,l2⟩:Wheel)
def zjN (a0:Box):Option (Box) :=
 Option.bind (zjM a0.Wheel) fun r1 =>
 Option.bind (app ([]:List Int) a0.Found) fun l2 =>
 Option.bind (app ([]:List Int) a0.Marked) fun l3 =>
 Option.bind (app ([]:List Int) a0.Slugs) fun l4 =>
 some (⟨r1,l2,l3,l4,a0.Plays,a0.Skips⟩:Box)
def zdO (v1:Int):Option (Int) :=
 some v1
def zda (a0:Wheel) (a1:List Int) (rec1:Int->Int->Option (Int)) (v2:Int) (v3:Int):Option (Int) :=
 if decide (v3<(a1.length:Int))=true then
  Option.bind (idx a1 v3) fun x5 =>
  Option.bind (idx a0.Coins v3) fun x6 =>
  rec1 (w64 (v2+(w64 (x5*x6)))) (w64 (v3+1))
 else
  zdO v2
def zbS (a0:Wheel) (a1:List Int):Nat->Int->Int->Option (Int)
 | 0,_,_=>none
 | m+1,v2,v3=>zda a0 a1 (zbS a0 a1 m) v2 v3
def zcI (n:Nat) (a0:Wheel) (a1:List Int):Option (Int) :=
 zbS a0 a1 n 0 0
def zgy (v2:List (List Int)):Option ((List (List Int))) :=
 some v2
def zfg (rec:(List Int)->(List Int)->Option ((List (List Int)))) (a0:List Int) (a1:List Int) (rec1:(List (List Int))->Int->Option ((List (List Int)))) (v3:List (List Int)) (v4:Int):Option ((List (List Int))) :=
 Option.bind (idx a0 (a1.length:Int)) fun x5 =>
 if decide (v4<=x5)=true then
  Option.bind (app ([]:List Int) a1) fun l7 =>
  Option.bind (app l7 ([v4]:List Int)) fun l8 =>
  Option.bind (rec a0 l8) fun r9 =>
  Option.bind (app v3 r9) fun l10 =>
  rec1 l10 (w64 (v4+1))
 else
  zgy v3
def zdj (rec:(List Int)->(List Int)->Option ((List (List Int)))) (a0:List Int) (a1:List Int):Nat->(List (List Int))->Int->Option ((List (List Int)))
 | 0,_,_=>none
 | m+1,v3,v4=>zfg rec a0 a1 (zdj rec a0 a1 m) v3 v4
def zhb (n:Nat) (rec:(List Int)->(List Int)->Option ((List (List Int)))) (a0:List Int) (a1:List Int):Option ((List (List Int))) :=
 if ((a1.length:Int)==(a0.length:Int))=true then
  some ([a1]:List (List Int))
 else
  zdj rec a0 a1 n ([]:List (List Int)) 0
def zcW:Nat->(List Int)->(List Int)->Option ((List (List Int)))
 | 0,_,_=>none
 | n+1,a0,a1=>zhb n (zcW n) a0 a1
def ziK:Option (Bool) :=
 some false
def zhc (a0:List Int) (a1:Int) (rec1:Int->Option (Bool)) (v1:Int):Option (Bool) :=
 if decide (v1<(a0.length:Int))=true then
  Option.bind (idx a0 v1) fun x3 =>
  if (x3==a1)=true then
   some true
  else
   rec1 (w64 (v1+1))
 else
  ziK
def zfs (a0:List Int) (a1:Int):Nat->Int->Option (Bool)
 | 0,_=>none
 | m+1,v1=>zhc a0 a1 (zfs a0 a1 m) v1
def zoX (n:Nat) (a0:List Int) (a1:Int):Option (Bool) :=
 zfs a0 a1 n 0
def zh0 (v1:Int) (v2:Int):Option (Int×Int) :=
 some (v1,v2)
def zgN (rec1:Int->Int->Int->Option (Int×Int)) (v5:Int) (v7:Int) (v8:Int):Option (Int×Int) :=
 rec1 v7 v8 (w64 (v5+1))
def zgO (rec1:Int->Int->Int->Option (Int×Int)) (a0:Wheel) (v3:Int) (v5:Int) (v9:Int):Option (Int×Int) :=
 if ((w64 (v3+1))==a0.Round)=true then
  zgN rec1 v5 0 v9
 else
  zgN rec1 v5 (w64 (v3+1)) v9
def zgz (n:Nat) (a0:Wheel) (a2:Int) (rec1:Int->Int->Int->Option (Int×Int)) (v3:Int) (v4:Int) (v5:Int):Option (Int×Int) :=
 if decide (v5<a2)=true then
  Option.bind (zoX n a0.Notches (w64 (v3+1))) fun r11 =>
  if r11=true then
   zgO rec1 a0 v3 v5 (w64 (v4+1))
  else
   zgO rec1 a0 v3 v5 v4
 else
  zh0 v3 v4
def zcy (n:Nat) (a0:Wheel) (a2:Int):Nat->Int->Int->Int->Option (Int×Int)
 | 0,_,_,_=>none
 | m+1,v3,v4,v5=>zgz n a0 a2 (zcy n a0 a2 m) v3 v4 v5
def zkK (n:Nat) (a0:Wheel) (a1:Int) (a2:Int):Option (Int×Int) :=
 zcy n a0 a2 n a1 0 0
def ze1 (n:Nat) (a0:Wheel) (a1:Stand) (a2:Int):Option (Stand×Bool) :=
 if decide (a2≥0)=true then
  Option.bind (idx a0.Coins a2) fun x2 =>
  Option.bind (zkK n a0 a1.Place x2) fun r3 =>
  some ((⟨r3.1,w64 (a1.Credit+r3.2)⟩:Stand),false)
 else
  if (a1.Credit==0)=true then
   some (a1,false)
  else
   some ((⟨0,w64 (a1.Credit-1)⟩:Stand),true)
def zey (rec:Wheel->(List SpotR_)->SpotR_->Option ((List SpotR_))) (a0:Wheel) (a2:SpotR_) (l1:List SpotR_) (r2:Stand×Bool) (v3:Bool):Option ((List SpotR_)) :=
 if v3=true then
  some l1
 else
  Option.bind (rec a0 l1 (⟨r2.1,a2.bought⟩:SpotR_)) fun r5 =>
  some r5
def zez (n:Nat) (rec:Wheel->(List SpotR_)->SpotR_->Option ((List SpotR_))) (a0:Wheel) (a1:List SpotR_) (a2:SpotR_):Option ((List SpotR_)) :=
 Option.bind (app a1 ([a2]:List SpotR_)) fun l1 =>
 Option.bind (ze1 n a0 a2.stand (-1)) fun r2 =>
 if (!r2.2)=true then
  zey rec a0 a2 l1 r2 true
 else
  zey rec a0 a2 l1 r2 (a2.stand.Place==0)
def zgA (n:Nat) (rec:Wheel->(List SpotR_)->SpotR_->Option ((List SpotR_))) (a0:Wheel) (a1:List SpotR_) (a2:SpotR_) (rec1:Int->Option ((List SpotR_))) (v7:Int):Option ((List SpotR_)) :=
 if decide (v7<(a1.length:Int))=true then
  Option.bind (idx a1 v7) fun x9 =>
  if ((x9.stand.Place==a2.stand.Place)&&((x9.stand.Credit==a2.stand.Credit)&&((x9.bought==a2.bought)&&true)))=true then
   some a1
  else
   rec1 (w64 (v7+1))
 else
  zez n rec a0 a1 a2
def zdJ (n:Nat) (rec:Wheel->(List SpotR_)->SpotR_->Option ((List SpotR_))) (a0:Wheel) (a1:List SpotR_) (a2:SpotR_):Nat->Int->Option ((List SpotR_))
 | 0,_=>none
 | m+1,v7=>zgA n rec a0 a1 a2 (zdJ n rec a0 a1 a2 m) v7
def zgm (n:Nat) (rec:Wheel->(List SpotR_)->SpotR_->Option ((List SpotR_))) (a0:Wheel) (a1:List SpotR_) (a2:SpotR_):Option ((List SpotR_)) :=
 zdJ n rec a0 a1 a2 n 0
def zfL:Nat->Wheel->(List SpotR_)->SpotR_->Option ((List SpotR_))
 | 0,_,_,_=>none
 | n+1,a0,a1,a2=>zgm n (zfL n) a0 a1 a2
def zfM (v1:Int):Option (Int) :=
 some v1
def zeP (a0:List Int) (a1:List Int) (rec1:Int->Int->Option (Int)) (v2:Int) (v3:Int):Option (Int) :=
 if decide (v3<(a1.length:Int))=true then
  Option.bind (idx a0 v3) fun x5 =>
  Option.bind (idx a1 v3) fun x6 =>
  rec1 (w64 (v2+(max 0 (w64 (x5-x6))))) (w64 (v3+1))
 else
  zfM v2
def zcX (a0:List Int) (a1:List Int):Nat->Int->Int->Option (Int)
 | 0,_,_=>none
 | m+1,v2,v3=>zeP a0 a1 (zcX a0 a1 m) v2 v3
def zjj (n:Nat) (a0:List Int) (a1:List Int):Option (Int) :=
 zcX a0 a1 n 0 0
def zgB (v1:Int):Option (Int) :=
 some v1
def zfh (a0:List Int) (a1:List Int) (rec1:Int->Int->Option (Int)) (v2:Int) (v3:Int):Option (Int) :=
 if decide (v3<(a0.length:Int))=true then
  Option.bind (idx a0 v3) fun x5 =>
  Option.bind (idx a1 v3) fun x6 =>
  rec1 (w64 ((w64 (v2*(w64 (x5+1))))+x6)) (w64 (v3+1))
 else
  zgB v2
def zdk (a0:List Int) (a1:List Int):Nat->Int->Int->Option (Int)
 | 0,_,_=>none
 | m+1,v2,v3=>zfh a0 a1 (zdk a0 a1 m) v2 v3
def zkk (n:Nat) (a0:List Int) (a1:List Int):Option (Int) :=
 zdk a0 a1 n 0 0
def zij (a0:List Int) (a1:Int):Option ((List Int)) :=
 Option.bind (app ([]:List Int) a0) fun l1 =>
 Option.bind (idx l1 a1) fun x2 =>
 Option.bind (idx l1 a1) fun x3 =>
 some (l1.set (Int.toNat a1) (w64 (x2-1)))
def zfi (v2:List Int):Option ((List Int)) :=
 some v2
def zcJ (rec1:(List Int)->Int->Option ((List Int))) (v4:Int) (v6:List Int):Option ((List Int)) :=
 rec1 v6 (w64 (v4+1))
def zei (rec1:(List Int)->Int->Option ((List Int))) (a0:List SpotR_) (v4:Int) (rec2:(List Int)->Int->Option ((List Int))) (v7:List Int) (v8:Int):Option ((List Int)) :=
 if decide (v8<(a0.length:Int))=true then
  Option.bind (idx a0 v8) fun x10 =>
  if (x10.bought==v4)=true then
   Option.bind (app v7 ([v4]:List Int)) fun l12 =>
   zcJ rec1 v4 l12
  else
   rec2 v7 (w64 (v8+1))
 else
  zcJ rec1 v4 v7
def zcf (rec1:(List Int)->Int->Option ((List Int))) (a0:List SpotR_) (v4:Int):Nat->(List Int)->Int->Option ((List Int))
 | 0,_,_=>none
 | m+1,v7,v8=>zei rec1 a0 v4 (zcf rec1 a0 v4 m) v7 v8
def zej (n:Nat) (a0:List SpotR_) (v1:Int) (rec1:(List Int)->Int->Option ((List Int))) (v3:List Int) (v4:Int):Option ((List Int)) :=
 if decide (v4<=v1)=true then
  zcf rec1 a0 v4 n v3 0
 else
  zfi v3
def zbb (n:Nat) (a0:List SpotR_) (v1:Int):Nat->(List Int)->Int->Option ((List Int))
 | 0,_,_=>none
 | m+1,v3,v4=>zej n a0 v1 (zbb n a0 v1 m) v3 v4
def zd1 (n:Nat) (a0:List SpotR_) (v1:Int):Option ((List Int)) :=
 zbb n a0 v1 n ([]:List Int) 0
def zek (n:Nat) (a0:List SpotR_) (rec3:Int->Int->Option ((List Int))) (v13:Int) (v14:Int):Option ((List Int)) :=
 if decide (v14<(a0.length:Int))=true then
  Option.bind (idx a0 v14) fun x16 =>
  rec3 (max v13 x16.bought) (w64 (v14+1))
 else
  zd1 n a0 v13
def zcg (n:Nat) (a0:List SpotR_):Nat->Int->Int->Option ((List Int))
 | 0,_,_=>none
 | m+1,v13,v14=>zek n a0 (zcg n a0 m) v13 v14
def zhd (n:Nat) (a0:List SpotR_):Option ((List Int)) :=
 zcg n a0 n 0 0
def zgC (v2:List (List Int)):Option ((List (List Int))) :=
 some v2
def zgD (rec1:(List (List SpotR_))->(List (List Int))->Int->Option ((List (List Int)))) (v5:Int) (v7:List (List SpotR_)) (v8:List (List Int)):Option ((List (List Int))) :=
 rec1 v7 v8 (w64 (v5+1))
def zdl (n:Nat) (rec1:(List (List SpotR_))->(List (List Int))->Int->Option ((List (List Int)))) (v3:List (List SpotR_)) (v4:List (List Int)) (v5:Int) (v10:List SpotR_):Option ((List (List Int))) :=
 Option.bind (app v3 ([v10]:List (List SpotR_))) fun l11 =>
 Option.bind (zhd n v10) fun r12 =>
 Option.bind (app v4 ([r12]:List (List Int))) fun l13 =>
 zgD rec1 v5 l11 l13
def zdm (rec2:(List SpotR_)->Int->Option ((List (List Int)))) (v15:Int) (v18:List SpotR_):Option ((List (List Int))) :=
 rec2 v18 (w64 (v15+1))
def zfj (n:Nat) (rec2:(List SpotR_)->Int->Option ((List (List Int)))) (a0:Wheel) (v15:Int) (x25:List SpotR_) (rec3:(List SpotR_)->Int->Option ((List (List Int)))) (v26:List SpotR_) (v27:Int):Option ((List (List Int))) :=
 if decide (v27<(x25.length:Int))=true then
  Option.bind (idx x25 v27) fun x29 =>
  Option.bind (ze1 n a0 x29.stand v15) fun r30 =>
  Option.bind (idx x25 v27) fun x31 =>
  Option.bind (idx x25 v27) fun x32 =>
  Option.bind (zfL n a0 v26 (⟨r30.1,w64 ((w64 (x31.bought+r30.1.Credit))-x32.stand.Credit)⟩:SpotR_)) fun r33 =>
  rec3 r33 (w64 (v27+1))
 else
  zdm rec2 v15 v26
def zcS (n:Nat) (rec2:(List SpotR_)->Int->Option ((List (List Int)))) (a0:Wheel) (v15:Int) (x25:List SpotR_):Nat->(List SpotR_)->Int->Option ((List (List Int)))
 | 0,_,_=>none
 | m+1,v26,v27=>zfj n rec2 a0 v15 x25 (zcS n rec2 a0 v15 x25 m) v26 v27
def zcT (n:Nat) (rec1:(List (List SpotR_))->(List (List Int))->Int->Option ((List (List Int)))) (rec2:(List SpotR_)->Int->Option ((List (List Int)))) (a0:Wheel) (a1:List Int) (r1:(List (List Int))) (v3:List (List SpotR_)) (v4:List (List Int)) (v5:Int) (v14:List SpotR_) (v15:Int) (v16:Bool):Option ((List (List Int))) :=
 if v16=true then
  Option.bind (idx r1 v5) fun x19 =>
  Option.bind (idx x19 v15) fun x20 =>
  if (x20==0)=true then
   zdm rec2 v15 v14
  else
   Option.bind (idx r1 v5) fun x22 =>
   Option.bind (zij x22 v15) fun r23 =>
   Option.bind (zkk n a1 r23) fun r24 =>
   Option.bind (idx v3 r24) fun x25 =>
   zcS n rec2 a0 v15 x25 n v14 0
 else
  zdl n rec1 v3 v4 v5 v14
def zd2 (n:Nat) (rec1:(List (List SpotR_))->(List (List Int))->Int->Option ((List (List Int)))) (a0:Wheel) (a1:List Int) (a2:List Int) (r1:(List (List Int))) (v3:List (List SpotR_)) (v4:List (List Int)) (v5:Int) (rec2:(List SpotR_)->Int->Option ((List (List Int)))) (v14:List SpotR_) (v15:Int):Option ((List (List Int))) :=
 if decide (v15<(a1.length:Int))=true then
  Option.bind (idx r1 v5) fun x35 =>
  Option.bind (zjj n x35 a2) fun r36 =>
  zcT n rec1 rec2 a0 a1 r1 v3 v4 v5 v14 v15 (decide (r36<=2))
 else
  zcT n rec1 rec2 a0 a1 r1 v3 v4 v5 v14 v15 false
def za2 (n:Nat) (rec1:(List (List SpotR_))->(List (List Int))->Int->Option ((List (List Int)))) (a0:Wheel) (a1:List Int) (a2:List Int) (r1:(List (List Int))) (v3:List (List SpotR_)) (v4:List (List Int)) (v5:Int):Nat->(List SpotR_)->Int->Option ((List (List Int)))
 | 0,_,_=>none
 | m+1,v14,v15=>zd2 n rec1 a0 a1 a2 r1 v3 v4 v5 (za2 n rec1 a0 a1 a2 r1 v3 v4 v5 m) v14 v15
def zdn (n:Nat) (rec1:(List (List SpotR_))->(List (List Int))->Int->Option ((List (List Int)))) (a0:Wheel) (a1:List Int) (a2:List Int) (r1:(List (List Int))) (v3:List (List SpotR_)) (v4:List (List Int)) (v5:Int) (v9:List SpotR_):Option ((List (List Int))) :=
 za2 n rec1 a0 a1 a2 r1 v3 v4 v5 n v9 0
def zfk (n:Nat) (a0:Wheel) (a1:List Int) (a2:List Int) (r1:(List (List Int))) (rec1:(List (List SpotR_))->(List (List Int))->Int->Option ((List (List Int)))) (v3:List (List SpotR_)) (v4:List (List Int)) (v5:Int):Option ((List (List Int))) :=
 if decide (v5<(r1.length:Int))=true then
  Option.bind (idx r1 v5) fun x37 =>
  Option.bind (zgj n x37) fun r38 =>
  if (r38==0)=true then
   Option.bind (zfL n a0 ([]:List SpotR_) (⟨(⟨0,0⟩:Stand),0⟩:SpotR_)) fun r40 =>
   zdn n rec1 a0 a1 a2 r1 v3 v4 v5 r40
  else
   zdn n rec1 a0 a1 a2 r1 v3 v4 v5 ([]:List SpotR_)
 else
  zgC v4
def zaA (n:Nat) (a0:Wheel) (a1:List Int) (a2:List Int) (r1:(List (List Int))):Nat->(List (List SpotR_))->(List (List Int))->Int->Option ((List (List Int)))
 | 0,_,_,_=>none
 | m+1,v3,v4,v5=>zfk n a0 a1 a2 r1 (zaA n a0 a1 a2 r1 m) v3 v4 v5
def ziL (n:Nat) (a0:Wheel) (a1:List Int) (a2:List Int):Option ((List (List Int))) :=
 Option.bind (zcW n a1 ([]:List Int)) fun r1 =>
 zaA n a0 a1 a2 r1 n ([]:List (List SpotR_)) ([]:List (List Int)) 0
def zcA (n:Nat) (a0:List Int):Option (Bool) :=
 Option.bind (zgj n a0) fun r1 =>
 some (decide (r1<=2))
def zds (n:Nat) (a0:List Int) (rec1:Int->Option (Bool)) (v2:Int):Option (Bool) :=
 if decide (v2<(a0.length:Int))=true then
  Option.bind (idx a0 v2) fun x4 =>
  if decide (x4<0)=true then
   some false
  else
   rec1 (w64 (v2+1))
 else
  zcA n a0
def zb7 (n:Nat) (a0:List Int):Nat->Int->Option (Bool)
 | 0,_=>none
 | m+1,v2=>zds n a0 (zb7 n a0 m) v2
def zfN (n:Nat) (a0:List Int):Option (Bool) :=
 zb7 n a0 n 0
def ziM (a0:Box) (a1:Int):Option (Bool) :=
 Option.bind (zeu a1 a0.Plays (w64 (a0.Plays+a0.Skips))) fun r1 =>
 some r1
def zhe:Option (Bool) :=
 some false
def zfO (a0:Box) (a1:List Int) (rec1:Int->Option (Bool)) (v1:Int):Option (Bool) :=
 if decide (v1<(a1.length:Int))=true then
  Option.bind (idx a1 v1) fun x3 =>
  Option.bind (ziM a0 x3) fun r4 =>
  if r4=true then
   some true
  else
   rec1 (w64 (v1+1))
 else
  zhe
def zdP (a0:Box) (a1:List Int):Nat->Int->Option (Bool)
 | 0,_=>none
 | m+1,v1=>zfO a0 a1 (zdP a0 a1 m) v1
def zlz (n:Nat) (a0:Box) (a1:List Int):Option (Bool) :=
 zdP a0 a1 n 0
def zel (v5:List (List Int)):Option ((List (List Int))) :=
 some v5
def zcB (rec1:(List (List Int))->Int->Option ((List (List Int)))) (v7:Int) (v9:List (List Int)):Option ((List (List Int))) :=
 rec1 v9 (w64 (v7+1))
def zcC (rec1:(List (List Int))->Int->Option ((List (List Int)))) (v6:List (List Int)) (v7:Int) (v10:List Int) (v11:Bool):Option ((List (List Int))) :=
 if v11=true then
  Option.bind (app v6 ([v10]:List (List Int))) fun l13 =>
  zcB rec1 v7 l13
 else
  zcB rec1 v7 v6
def zcD (n:Nat) (rec1:(List (List Int))->Int->Option ((List (List Int)))) (a0:Box) (r4:(List (List Int))) (v6:List (List Int)) (v7:Int) (v10:List Int):Option ((List (List Int))) :=
 Option.bind (zfN n v10) fun r14 =>
 if r14=true then
  Option.bind (idx r4 v7) fun x16 =>
  Option.bind (zlz n a0 x16) fun r17 =>
  zcC rec1 v6 v7 v10 r17
 else
  zcC rec1 v6 v7 v10 false
def zdt (n:Nat) (rec1:(List (List Int))->Int->Option ((List (List Int)))) (a0:Box) (r1:(List Int)) (r3:(List (List Int))) (r4:(List (List Int))) (v6:List (List Int)) (v7:Int) (rec2:(List Int)->Int->Option ((List (List Int)))) (v18:List Int) (v19:Int):Option ((List (List Int))) :=
 if decide (v19<(r1.length:Int))=true then
  Option.bind (idx r3 v7) fun x21 =>
  Option.bind (idx x21 v19) fun x22 =>
  Option.bind (idx r1 v19) fun x23 =>
  Option.bind (app v18 ([w64 (x22-x23)]:List Int)) fun l24 =>
  rec2 l24 (w64 (v19+1))
 else
  zcD n rec1 a0 r4 v6 v7 v18
def zbC (n:Nat) (rec1:(List (List Int))->Int->Option ((List (List Int)))) (a0:Box) (r1:(List Int)) (r3:(List (List Int))) (r4:(List (List Int))) (v6:List (List Int)) (v7:Int):Nat->(List Int)->Int->Option ((List (List Int)))
 | 0,_,_=>none
 | m+1,v18,v19=>zdt n rec1 a0 r1 r3 r4 v6 v7 (zbC n rec1 a0 r1 r3 r4 v6 v7 m) v18 v19
def zdu (n:Nat) (a0:Box) (r1:(List Int)) (r3:(List (List Int))) (r4:(List (List Int))) (rec1:(List (List Int))->Int->Option ((List (List Int)))) (v6:List (List Int)) (v7:Int):Option ((List (List Int))) :=
 if decide (v7<(r3.length:Int))=true then
  zbC n rec1 a0 r1 r3 r4 v6 v7 n ([]:List Int) 0
 else
  zel v6
def zaR (n:Nat) (a0:Box) (r1:(List Int)) (r3:(List (List Int))) (r4:(List (List Int))):Nat->(List (List Int))->Int->Option ((List (List Int)))
 | 0,_,_=>none
 | m+1,v6,v7=>zdu n a0 r1 r3 r4 (zaR n a0 r1 r3 r4 m) v6 v7
def zdb (n:Nat) (a0:Box) (r1:(List Int)) (v2:List Int):Option ((List (List Int))) :=
 Option.bind (zcW n v2 ([]:List Int)) fun r3 =>
 Option.bind (ziL n a0.Wheel v2 r1) fun r4 =>
 zaR n a0 r1 r3 r4 n ([]:List (List Int)) 0
def zdv (n:Nat) (a0:Box) (r1:(List Int)) (rec3:(List Int)->Int->Option ((List (List Int)))) (v25:List Int) (v26:Int):Option ((List (List Int))) :=
 if decide (v26<(r1.length:Int))=true then
  Option.bind (idx r1 v26) fun x28 =>
  Option.bind (app v25 ([w64 (x28+2)]:List Int)) fun l29 =>
  rec3 l29 (w64 (v26+1))
 else
  zdb n a0 r1 v25
def zbD (n:Nat) (a0:Box) (r1:(List Int)):Nat->(List Int)->Int->Option ((List (List Int)))
 | 0,_,_=>none
 | m+1,v25,v26=>zdv n a0 r1 (zbD n a0 r1 m) v25 v26
def zfP (n:Nat) (a0:Box):Option ((List (List Int))) :=
 Option.bind (zjh n a0) fun r1 =>
 zbD n a0 r1 n ([]:List Int) 0
def zfl (v7:Int):Option (Int×Int) :=
 some (v7,0)
def zem (n:Nat) (a0:Box) (r3:(List (List Int))) (rec1:Int->Int->Option (Int×Int)) (v8:Int) (v9:Int):Option (Int×Int) :=
 if decide (v9<(r3.length:Int))=true then
  Option.bind (idx r3 v9) fun x11 =>
  Option.bind (zcI n a0.Wheel x11) fun r12 =>
  rec1 (min v8 r12) (w64 (v9+1))
 else
  zfl v8
def zcK (n:Nat) (a0:Box) (r3:(List (List Int))):Nat->Int->Int->Option (Int×Int)
 | 0,_,_=>none
 | m+1,v8,v9=>zem n a0 r3 (zcK n a0 r3 m) v8 v9
def zfQ (n:Nat) (a0:Box):Option (Int×Int) :=
 Option.bind (zgi n a0) fun r1 =>
 if (r1 != 0)=true then
  some (0,r1)
 else
  Option.bind (zfP n a0) fun r3 =>
  if ((r3.length:Int)==0)=true then
   some (0,3)
  else
   Option.bind (idx r3 0) fun x5 =>
   Option.bind (zcI n a0.Wheel x5) fun r6 =>
   zcK n a0 r3 n r6 0
def zm9 (a0:Share):Option (Bool) :=
 some (decide ((a0.Clauses.length:Int)>40))
def zkL:Option (Share) :=
 some (⟨([(⟨1,500,0,0⟩:Clause),(⟨2,300,0,0⟩:Clause),(⟨4,1000,40,60⟩:Clause),(⟨5,450,0,0⟩:Clause)]:List Clause),700⟩:Share)
def zbw (a0:Week_) (a1:Int):Option (Week_×Int) :=
 some ((⟨(⟨a0.Split.Operator,w64 (a0.Split.Owner+a1),a0.Split.Repaid⟩:Split),w64 (a0.rest-a1),a0.owed⟩:Week_),a1)
def zbB (a0:Week_) (a1:Int):Option (Week_×Int) :=
 some ((⟨(⟨w64 (a0.Split.Operator+a1),a0.Split.Owner,a0.Split.Repaid⟩:Split),w64 (a0.rest-a1),a0.owed⟩:Week_),a1)
def zhB (a0:Week_) (a1:Clause):Option (Week_×Int) :=
 Option.bind (zbB a0 (min a0.rest a1.Cents)) fun r1 =>
 some (r1.1,r1.2)
def zgn (a0:Week_) (a1:Clause):Option (Week_×Int) :=
 Option.bind (zbB a0 (min (min a0.rest a1.Cents) a0.owed)) fun r1 =>
 some ((⟨(⟨r1.1.Split.Operator,r1.1.Split.Owner,w64 (r1.1.Split.Repaid+r1.2)⟩:Split),r1.1.rest,w64 (r1.1.owed-r1.2)⟩:Week_),r1.2)
def zhC (a0:Int):Option (Int) :=
 Option.bind (quo a0 500) fun q1 =>
 some (w64 (q1*5))
def zhD (a0:Week_) (a1:Clause):Option (Week_×Int) :=
 Option.bind (zhC (w64 (a1.Part*a0.rest))) fun r1 =>
 Option.bind (zbw a0 r1) fun r2 =>
 some (r2.1,r2.2)
def zhE (a0:Week_) (a1:Clause):Option (Week_×Int) :=
 Option.bind (zhC (w64 ((w64 (a1.Part*(min a0.rest a1.Cents)))+(w64 (a1.More*(w64 (a0.rest-(min a0.rest a1.Cents)))))))) fun r1 =>
 Option.bind (zbw a0 r1) fun r2 =>
 some (r2.1,r2.2)
def zhF (a0:Week_) (a1:Clause):Option (Week_×Int) :=
 Option.bind (zbw a0 (min a0.rest (max 0 (w64 (a1.Cents-a0.Split.Owner))))) fun r1 =>
 some (r1.1,r1.2)
def zfm (v2:List Int) (v3:Int) (v4:Int) (v5:Int) (v6:Int) (v7:Int):Option (Week_×(List Int)) :=
 Option.bind (zbB (⟨(⟨v3,v4,v5⟩:Split),v6,v7⟩:Week_) v6) fun r8 =>
 some (r8.1,v2)
def zen (a0:List Clause) (rec1:(List Int)->Int->Int->Int->Int->Int->Int->Option (Week_×(List Int))) (v11:List Int) (v12:Int) (v13:Int) (v14:Int) (v15:Int) (v16:Int) (v17:Int):Option (Week_×(List Int)) :=
 if decide (v12<(a0.length:Int))=true then
  Option.bind (idx a0 v12) fun x19 =>
  if (x19.Kind==1)=true then
   Option.bind (zhB (⟨(⟨v13,v14,v15⟩:Split),v16,v17⟩:Week_) x19) fun r21 =>
   Option.bind (app v11 ([r21.2]:List Int)) fun l22 =>
   rec1 l22 (w64 (v12+1)) r21.1.Split.Operator r21.1.Split.Owner r21.1.Split.Repaid r21.1.rest r21.1.owed
  else
   if (x19.Kind==2)=true then
    Option.bind (zgn (⟨(⟨v13,v14,v15⟩:Split),v16,v17⟩:Week_) x19) fun r24 =>
    Option.bind (app v11 ([r24.2]:List Int)) fun l25 =>
    rec1 l25 (w64 (v12+1)) r24.1.Split.Operator r24.1.Split.Owner r24.1.Split.Repaid r24.1.rest r24.1.owed
   else
    if (x19.Kind==3)=true then
     Option.bind (zhD (⟨(⟨v13,v14,v15⟩:Split),v16,v17⟩:Week_) x19) fun r27 =>
     Option.bind (app v11 ([r27.2]:List Int)) fun l28 =>
     rec1 l28 (w64 (v12+1)) r27.1.Split.Operator r27.1.Split.Owner r27.1.Split.Repaid r27.1.rest r27.1.owed
    else
     if (x19.Kind==4)=true then
      Option.bind (zhE (⟨(⟨v13,v14,v15⟩:Split),v16,v17⟩:Week_) x19) fun r30 =>
      Option.bind (app v11 ([r30.2]:List Int)) fun l31 =>
      rec1 l31 (w64 (v12+1)) r30.1.Split.Operator r30.1.Split.Owner r30.1.Split.Repaid r30.1.rest r30.1.owed
     else
      if (x19.Kind==5)=true then
       Option.bind (zhF (⟨(⟨v13,v14,v15⟩:Split),v16,v17⟩:Week_) x19) fun r33 =>
       Option.bind (app v11 ([r33.2]:List Int)) fun l34 =>
       rec1 l34 (w64 (v12+1)) r33.1.Split.Operator r33.1.Split.Owner r33.1.Split.Repaid r33.1.rest r33.1.owed
      else
       none
 else
  zfm v11 v13 v14 v15 v16 v17
def zcL (a0:List Clause):Nat->(List Int)->Int->Int->Int->Int->Int->Int->Option (Week_×(List Int))
 | 0,_,_,_,_,_,_,_=>none
 | m+1,v11,v12,v13,v14,v15,v16,v17=>zen a0 (zcL a0 m) v11 v12 v13 v14 v15 v16 v17
def zdQ (n:Nat) (a0:List Clause) (a1:Int) (a2:Int) (a3:Int):Option (Week_×(List Int)) :=
 Option.bind (zbw (⟨(⟨0,0,0⟩:Split),a2,a1⟩:Week_) (min a3 a2)) fun r1 =>
 zcL a0 n ([]:List Int) 0 r1.1.Split.Operator r1.1.Split.Owner r1.1.Split.Repaid r1.1.rest r1.1.owed
def zd3 (v1:Bool):Option (Bool) :=
 some v1
def zdR (a0:Int) (a1:Int) (a2:Int):Option (Bool) :=
 if decide (a1<=a0)=true then
  zd3 (decide (a0<=a2))
 else
  zd3 false
def zct (a0:Int):Option (Bool) :=
 Option.bind (zdR a0 0 9999) fun r1 =>
 some r1
def zb8 (v1:Bool):Option (Bool) :=
 some v1
def zdB (a0:Clause):Option (Bool) :=
 Option.bind (zdR a0.Kind 1 5) fun r2 =>
 if (!r2)=true then
  zb8 true
 else
  Option.bind (zct a0.Cents) fun r4 =>
  if (!r4)=true then
   zb8 true
  else
   Option.bind (zdR a0.Part 0 100) fun r6 =>
   if (!r6)=true then
    zb8 true
   else
    Option.bind (zdR a0.More 0 100) fun r8 =>
    zb8 (!r8)
def zbL {S:Type} (v1:S):Option (Int×S) :=
 some ((-1),v1)
def zbx {S:Type} (a0:List Clause) (aF:Clause->S->Option (Bool×S)) (rec1:Int->S->Option (Int×S)) (v3:Int) (v4:S):Option (Int×S) :=
 if decide (v3<(a0.length:Int))=true then
  Option.bind (idx a0 v3) fun x6 =>
  Option.bind (aF x6 v4) fun r7 =>
  if r7.1=true then
   some (v3,r7.2)
  else
   rec1 (w64 (v3+1)) r7.2
 else
  zbL v4
def zaK {S:Type} (a0:List Clause) (aF:Clause->S->Option (Bool×S)):Nat->Int->S->Option (Int×S)
 | 0,_,_=>none
 | m+1,v3,v4=>zbx a0 aF (zaK a0 aF m) v3 v4
def zc2 {S:Type} (n:Nat) (aF:Clause->S->Option (Bool×S)) (a0:List Clause) (st:S):Option (Int×S) :=
 zaK a0 aF n 0 st
def zbM {S:Type} (n:Nat) (aF:Clause->S->Option (Bool×S)) (a0:List Clause) (st:S):Option (Bool×S) :=
 Option.bind (zc2 n aF a0 st) fun r1 =>
 some (decide (r1.1≥0),r1.2)
def zdC (v1:Bool):Option (Int) :=
 if v1=true then
  some 90
 else
  some 0
def zgP (n:Nat) (a0:Share):Option (Int) :=
 if decide ((a0.Clauses.length:Int)>5)=true then
  zdC true
 else
  Option.bind (zbM n (fun (x0:Clause) (_:Unit)=>(zdB x0).map fun y=>(y,())) a0.Clauses ()) fun r4 =>
  if r4.1=true then
   zdC true
  else
   Option.bind (zct a0.Loan) fun r6 =>
   zdC (!r6)
def zik (n:Nat) (a0:Share) (a1:Bool):Option (Int) :=
 Option.bind (zgP n a0) fun r1 =>
 if (r1 != 0)=true then
  some r1
 else
  if (!a1)=true then
   some 1
  else
   some 0
def zgE (n:Nat) (a0:Share) (a1:Int) (a2:Int) (v1:Int):Option (Split×Int) :=
 if (v1 != 0)=true then
  some ((⟨0,0,0⟩:Split),v1)
 else
  Option.bind (zdQ n a0.Clauses a0.Loan a1 a2) fun r3 =>
  some (r3.1.Split,0)
def zkl (n:Nat) (a0:Share) (a1:Int) (a2:Int):Option (Split×Int) :=
 Option.bind (zct a1) fun r4 =>
 if r4=true then
  Option.bind (zct a2) fun r6 =>
  Option.bind (zik n a0 r6) fun r7 =>
  zgE n a0 a1 a2 r7
 else
  Option.bind (zik n a0 false) fun r8 =>
  zgE n a0 a1 a2 r8
def zna (n:Nat) (a0:Share) (a1:Int):Option (Split×Int) :=
 Option.bind (zkl n a0 a1 0) fun r1 =>
 some (r1.1,r1.2)
def zft:Option (Int) :=
 some (-1)
def zgQ (a0:List Int) (a1:Int) (rec1:Int->Option (Int)) (v1:Int):Option (Int) :=
 if decide (v1<(a0.length:Int))=true then
  Option.bind (idx a0 v1) fun x3 =>
  if (a1==x3)=true then
   some v1
  else
   rec1 (w64 (v1+1))
 else
  zft
def zdS (a0:List Int) (a1:Int):Nat->Int->Option (Int)
 | 0,_=>none
 | m+1,v1=>zgQ a0 a1 (zdS a0 a1 m) v1
def slices_Index_int (n:Nat) (a0:List Int) (a1:Int):Option (Int) :=
 zdS a0 a1 n 0
def slices_Contains_int (n:Nat) (a0:List Int) (a1:Int):Option (Bool) :=
 Option.bind (slices_Index_int n a0 a1) fun r1 =>
 some (decide (r1≥0))
def zg2 {S:Type} (v3:S):Option (Bool×S) :=
 some (true,v3)
def zfn {S:Type} (rec1:Int->S->Option (Bool×S)) (v5:Int) (v8:Bool) (v9:S):Option (Bool×S) :=
 if v8=true then
  some (false,v9)
 else
  rec1 (w64 (v5+1)) v9
def zh1 {S:Type} (n:Nat) (rec:Int->(List Int)->S->Option (Bool×S)) (a0:Int) (a1:List Int) (rec1:Int->S->Option (Bool×S)) (v5:Int) (v6:S):Option (Bool×S) :=
 if decide (v5<a0)=true then
  Option.bind (slices_Contains_int n a1 v5) fun r11 =>
  if (!r11)=true then
   Option.bind (slices_Clone_int a1) fun l13 =>
   Option.bind (app l13 ([v5]:List Int)) fun l14 =>
   Option.bind (rec a0 l14 v6) fun r15 =>
   zfn rec1 v5 (!r15.1) r15.2
  else
   zfn rec1 v5 false v6
 else
  zg2 v6
def zc4 {S:Type} (n:Nat) (rec:Int->(List Int)->S->Option (Bool×S)) (a0:Int) (a1:List Int):Nat->Int->S->Option (Bool×S)
 | 0,_,_=>none
 | m+1,v5,v6=>zh1 n rec a0 a1 (zc4 n rec a0 a1 m) v5 v6
def zjk {S:Type} (n:Nat) (rec:Int->(List Int)->S->Option (Bool×S)) (aF:(List Int)->S->Option (Bool×S)) (a0:Int) (a1:List Int) (st:S):Option (Bool×S) :=
 if ((a1.length:Int)==a0)=true then
  Option.bind (aF a1 st) fun r2 =>
  some (r2.1,r2.2)
 else
  zc4 n rec a0 a1 n 0 st
def zhf {S:Type}:Nat->((List Int)->S->Option (Bool×S))->Int->(List Int)->S->Option (Bool×S)
 | 0,_,_,_,_=>none
 | n+1,aF,a0,a1,st=>zjk n (zhf n aF) aF a0 a1 st
def zfR (n:Nat) (a0:List Clause) (a1:Int) (a2:Int):Option (Int) :=
 Option.bind (zdQ n a0 a1 a2 0) fun r1 =>
 some r1.1.Split.Owner
def zeQ (v2:Int) (v3:List Int):Option (Bool×(Int×(List Int))) :=
 some (true,(v2,v3))
def zgo (n:Nat) (a0:List Int) (st:Int×(List Int)) (a1:Share) (a2:Int) (v1:List Clause):Option (Bool×(Int×(List Int))) :=
 Option.bind (zfR n v1 a1.Loan a2) fun r4 =>
 if decide (r4>st.1)=true then
  zeQ r4 a0
 else
  zeQ st.1 st.2
def zhG (n:Nat) (a0:List Int) (st:Int×(List Int)) (a1:Share) (a2:Int) (rec1:(List Clause)->Int->Option (Bool×(Int×(List Int)))) (v6:List Clause) (v7:Int):Option (Bool×(Int×(List Int))) :=
 if decide (v7<(a0.length:Int))=true then
  Option.bind (idx a0 v7) fun x9 =>
  Option.bind (idx a1.Clauses x9) fun x10 =>
  Option.bind (app v6 ([x10]:List Clause)) fun l11 =>
  rec1 l11 (w64 (v7+1))
 else
  zgo n a0 st a1 a2 v6
def zeR (n:Nat) (a0:List Int) (st:Int×(List Int)) (a1:Share) (a2:Int):Nat->(List Clause)->Int->Option (Bool×(Int×(List Int)))
 | 0,_,_=>none
 | m+1,v6,v7=>zhG n a0 st a1 a2 (zeR n a0 st a1 a2 m) v6 v7
def zib (n:Nat) (a0:List Int) (a1:Share) (a2:Int) (st:Int×(List Int)):Option (Bool×(Int×(List Int))) :=
 zeR n a0 st a1 a2 n ([]:List Clause) 0
def znb (n:Nat) (a0:Share) (a1:Int):Option ((List Int)×Int) :=
 Option.bind (zct a1) fun r1 =>
 Option.bind (zik n a0 r1) fun r2 =>
 if (r2 != 0)=true then
  some (([]:List Int),r2)
 else
  Option.bind (zhf n (fun (x0:List Int) s=>zib n x0 a0 a1 s) (a0.Clauses.length:Int) ([]:List Int) ((-1),([]:List Int))) fun r4 =>
  some (r4.2.2,0)
def zg3:Option (Int×Int) :=
 some (0,3)
def zh2 (n:Nat) (a0:Share) (a1:Int) (rec1:Int->Int->Option (Int×Int)) (v4:Int) (v5:Int):Option (Int×Int) :=
 if decide (v5<1001)=true then
  if (v4==0)=true then
   some (v5,0)
  else
   Option.bind (zdQ n a0.Clauses v4 a1 0) fun r8 =>
   rec1 r8.1.owed (w64 (v5+1))
 else
  zg3
def zfo (n:Nat) (a0:Share) (a1:Int):Nat->Int->Int->Option (Int×Int)
 | 0,_,_=>none
 | m+1,v4,v5=>zh2 n a0 a1 (zfo n a0 a1 m) v4 v5
def zkM (n:Nat) (a0:Share) (a1:Int):Option (Int×Int) :=
 Option.bind (zct a1) fun r1 =>
 Option.bind (zik n a0 r1) fun r2 =>
 if (r2 != 0)=true then
  some (0,r2)
 else
  zfo n a0 a1 n a0.Loan 0
def zb0 (v6:Bool):Option (Bool) :=
 some v6
def zhH (n:Nat):Option (Bool) :=
 Option.bind (zkL) fun r1 =>
 Option.bind (zna n r1 2013) fun r2 =>
 Option.bind (znb n r1 2013) fun r3 =>
 Option.bind (zkM n r1 2013) fun r4 =>
 Option.bind (zkl n r1 2013 100) fun r5 =>
 if (r2.2==0)=true then
  if (r3.2==0)=true then
   if (r4.2==0)=true then
    if (r5.2==0)=true then
     if ((r2.1.Operator==1488)&&((r2.1.Owner==525)&&((r2.1.Repaid==300)&&true)))=true then
      Option.bind (zj6 n r3.1 ([3,2,0,1]:List Int)) fun r12 =>
      if r12=true then
       if (r4.1==3)=true then
        zb0 ((r5.1.Operator==1448)&&((r5.1.Owner==565)&&((r5.1.Repaid==300)&&true)))
       else
        zb0 false
      else
       zb0 false
     else
      zb0 false
    else
     zb0 false
   else
    zb0 false
  else
   zb0 false
 else
  zb0 false
def zjO (a0:Share):Option (Share) :=
 Option.bind (app ([]:List Clause) a0.Clauses) fun l1 =>
 some (⟨l1,a0.Loan⟩:Share)
def zfS (r5:Week_×(List Int)) (v6:Int):Option (Split×Int×Int) :=
 some (r5.1.Split,v6,0)
def zfA (n:Nat) (a0:Share) (a1:Box):Option (Split×Int×Int) :=
 Option.bind (zgP n a0) fun r1 =>
 if (r1 != 0)=true then
  some ((⟨0,0,0⟩:Split),0,r1)
 else
  Option.bind (zfz n a1) fun r3 =>
  if (r3.2.2.2 != 0)=true then
   some ((⟨0,0,0⟩:Split),0,r3.2.2.2)
  else
   Option.bind (zdQ n a0.Clauses a0.Loan r3.1 0) fun r5 =>
   Option.bind (zdA n a1) fun r7 =>
   if (r7.2==0)=true then
    Option.bind (zfR n a0.Clauses a0.Loan (w64 (r3.1+r7.1))) fun r9 =>
    zfS r5 (w64 (r9-r5.1.Split.Owner))
   else
    zfS r5 0
def zeA (a0:Int) (a1:Int) (a2:Int):Option (Bool) :=
 Option.bind (zcQ a0 a1 a2) fun r1 =>
 some r1
def zfT (a0:Int):Option (Bool) :=
 Option.bind (zeA a0 0 9999) fun r1 =>
 some r1
def zgF:Option (Int) :=
 some 0
def zdo (rec1:Int->Option (Int)) (v3:Int) (v6:Bool):Option (Int) :=
 if v6=true then
  some 90
 else
  rec1 (w64 (v3+1))
def zfp (a0:Share) (rec1:Int->Option (Int)) (v3:Int):Option (Int) :=
 if decide (v3<(a0.Clauses.length:Int))=true then
  Option.bind (idx a0.Clauses v3) fun x5 =>
  Option.bind (zeA x5.Kind 1 5) fun r8 =>
  if (!r8)=true then
   zdo rec1 v3 true
  else
   Option.bind (zfT x5.Cents) fun r10 =>
   if (!r10)=true then
    zdo rec1 v3 true
   else
    Option.bind (zeA x5.Part 0 100) fun r12 =>
    if (!r12)=true then
     zdo rec1 v3 true
    else
     Option.bind (zeA x5.More 0 100) fun r14 =>
     zdo rec1 v3 (!r14)
 else
  zgF
def zbH (a0:Share):Nat->Int->Option (Int)
 | 0,_=>none
 | m+1,v3=>zfp a0 (zbH a0 m) v3
def ze2 (n:Nat) (a0:Share) (v1:Bool):Option (Int) :=
 if v1=true then
  some 90
 else
  zbH a0 n 0
def ziN (n:Nat) (a0:Share):Option (Int) :=
 if decide ((a0.Clauses.length:Int)>5)=true then
  ze2 n a0 true
 else
  Option.bind (zfT a0.Loan) fun r16 =>
  ze2 n a0 (!r16)
def zho (n:Nat) (a0:Box):Option (Int×Int×Int×Int) :=
 Option.bind (zgi n a0) fun r1 =>
 if (r1 != 0)=true then
  some (0,0,0,r1)
 else
  Option.bind (zcI n a0.Wheel a0.Marked) fun r3 =>
  Option.bind (zcI n a0.Wheel a0.Found) fun r4 =>
  Option.bind (zcI n a0.Wheel a0.Slugs) fun r5 =>
  some (w64 (r4-r3),r3,r5,0)
def ziO (a0:Clause) (a1:Int) (a2:Int) (a3:Int):Option (Int) :=
 if (a0.Kind==1)=true then
  some (min a1 a0.Cents)
 else
  if (a0.Kind==2)=true then
   some (min (min a1 a0.Cents) a3)
  else
   if (a0.Kind==3)=true then
    Option.bind (quo (w64 (a0.Part*a1)) 500) fun q4 =>
    some (w64 (q4*5))
   else
    if (a0.Kind==4)=true then
     Option.bind (quo (w64 ((w64 (a0.Part*(min a1 a0.Cents)))+(w64 (a0.More*(w64 (a1-(min a1 a0.Cents))))))) 500) fun q6 =>
     some (w64 (q6*5))
    else
     some (min a1 (max 0 (w64 (a0.Cents-a2))))
def zic (a0:Clause):Option (Bool) :=
 some (decide (a0.Kind≥3))
def zhg (a1:Int) (v1:List Int) (v2:Int) (v3:Int):Option ((List Int)×Split) :=
 some (v1,(⟨w64 (a1-v2),v2,v3⟩:Split))
def zfU (rec1:Int->(List Int)->Int->Int->Int->Option ((List Int)×Split)) (v9:Int) (v13:Int) (v14:List Int) (v15:Int) (v16:Int):Option ((List Int)×Split) :=
 rec1 v13 v14 (w64 (v9+1)) v15 v16
def zfV (rec1:Int->(List Int)->Int->Int->Int->Option ((List Int)×Split)) (v7:Int) (v9:Int) (v11:Int) (x17:Clause) (r18:Int) (l19:List Int) (v20:Int):Option ((List Int)×Split) :=
 if (x17.Kind==2)=true then
  zfU rec1 v9 (w64 (v7-r18)) l19 v20 (w64 (v11+r18))
 else
  zfU rec1 v9 (w64 (v7-r18)) l19 v20 v11
def zfW (a0:Share) (a1:Int) (rec1:Int->(List Int)->Int->Int->Int->Option ((List Int)×Split)) (v7:Int) (v8:List Int) (v9:Int) (v10:Int) (v11:Int):Option ((List Int)×Split) :=
 if decide (v9<(a0.Clauses.length:Int))=true then
  Option.bind (idx a0.Clauses v9) fun x17 =>
  Option.bind (ziO x17 v7 v10 (w64 (a0.Loan-v11))) fun r18 =>
  Option.bind (app v8 ([r18]:List Int)) fun l19 =>
  Option.bind (zic x17) fun r22 =>
  if r22=true then
   zfV rec1 v7 v9 v11 x17 r18 l19 (w64 (v10+r18))
  else
   zfV rec1 v7 v9 v11 x17 r18 l19 v10
 else
  zhg a1 v8 v10 v11
def zb9 (a0:Share) (a1:Int):Nat->Int->(List Int)->Int->Int->Int->Option ((List Int)×Split)
 | 0,_,_,_,_,_=>none
 | m+1,v7,v8,v9,v10,v11=>zfW a0 a1 (zb9 a0 a1 m) v7 v8 v9 v10 v11
def zil (n:Nat) (a0:Share) (a1:Int) (a2:Int):Option ((List Int)×Split) :=
 zb9 a0 a1 n (w64 (a1-(min a2 a1))) ([]:List Int) 0 (min a2 a1) 0
def zhI (n:Nat) (a0:Share) (a1:Box):Option (Split×Int×Int) :=
 Option.bind (ziN n a0) fun r1 =>
 if (r1 != 0)=true then
  some ((⟨0,0,0⟩:Split),0,r1)
 else
  Option.bind (zho n a1) fun r3 =>
  if (r3.2.2.2 != 0)=true then
   some ((⟨0,0,0⟩:Split),0,r3.2.2.2)
  else
   Option.bind (zil n a0 r3.1 0) fun r5 =>
   Option.bind (zfQ n a1) fun r6 =>
   if (r6.2 != 0)=true then
    some (r5.2,0,0)
   else
    Option.bind (zil n a0 (w64 (r3.1+r6.1)) 0) fun r8 =>
    some (r5.2,w64 (r8.2.Owner-r5.2.Owner),0)
def zhh:Option (Bool) :=
 some true
def zfX (a0:Share) (a1:Share) (rec1:Int->Option (Bool)) (v3:Int):Option (Bool) :=
 if decide (v3<(a0.Clauses.length:Int))=true then
  Option.bind (idx a0.Clauses v3) fun x5 =>
  Option.bind (idx a1.Clauses v3) fun x6 =>
  if (!((x5.Kind==x6.Kind)&&((x5.Cents==x6.Cents)&&((x5.Part==x6.Part)&&((x5.More==x6.More)&&true)))))=true then
   some false
  else
   rec1 (w64 (v3+1))
 else
  zhh
def zdT (a0:Share) (a1:Share):Nat->Int->Option (Bool)
 | 0,_=>none
 | m+1,v3=>zfX a0 a1 (zdT a0 a1 m) v3
def zfY (n:Nat) (a0:Share) (a1:Share) (v1:Bool):Option (Bool) :=
 if v1=true then
  some false
 else
  zdT a0 a1 n 0
def zim (n:Nat) (a0:Share) (a1:Share):Option (Bool) :=
 if (a0.Loan != a1.Loan)=true then
  zfY n a0 a1 true
 else
  zfY n a0 a1 ((a0.Clauses.length:Int) != (a1.Clauses.length:Int))
def za7 (v8:Bool):Option (Bool) :=
 some v8
def zca (n:Nat) (a0:Share) (a1:Box) (v1:Bool):Option (Bool) :=
 if v1=true then
  Option.bind (zhH n) fun r3 =>
  some r3
 else
  Option.bind (zjO a0) fun r4 =>
  Option.bind (zjN a1) fun r5 =>
  Option.bind (zfA n r4 r5) fun r6 =>
  Option.bind (zhI n a0 a1) fun r7 =>
  if ((r6.1.Operator==r7.1.Operator)&&((r6.1.Owner==r7.1.Owner)&&((r6.1.Repaid==r7.1.Repaid)&&true)))=true then
   if (r6.2.1==r7.2.1)=true then
    if (r6.2.2==r7.2.2)=true then
     Option.bind (zim n r4 a0) fun r12 =>
     if r12=true then
      Option.bind (zhH n) fun r14 =>
      za7 r14
     else
      za7 false
    else
     za7 false
   else
    za7 false
  else
   za7 false
def zhJ (n:Nat) (a0:Share) (a1:Box):Option (Bool) :=
 Option.bind (zm9 a0) fun r15 =>
 if r15=true then
  zca n a0 a1 true
 else
  Option.bind (zji n a1) fun r17 =>
  zca n a0 a1 r17
end Go.Law
