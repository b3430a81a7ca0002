/-
  What the functions compute (printed by gen.py).
  Conditions: none.
-/
import Derived.Test.YtebfppngmmdfkaaAmPg
set_option linter.all false
namespace Go.Law
open Go Go.AM
set_option linter.unusedVariables false
structure Pulse where
 Letters:Int
 Numbers:Int
 Pitch:Int
 Slack:Int
 Gap:Int
 Pause:Int
 Sparks:Int
 Times:List Int
 deriving DecidableEq,Inhabited,Repr
abbrev Pulse.cells (x:Pulse):List AV:=[.v (.int .i64 x.Letters),.v (.int .i64 x.Numbers),.v (.int .i64 x.Pitch),.v (.int .i64 x.Slack),.v (.int .i64 x.Gap),.v (.int .i64 x.Pause),.v (.int .i64 x.Sparks),.sl .no 1 (x.Times.map cI)]
structure An103 where
 n:Int
 low:Int
 high:Int
 deriving DecidableEq,Inhabited,Repr
abbrev An103.cells (x:An103):List AV:=[.v (.int .i64 x.n),.v (.int .i64 x.low),.v (.int .i64 x.high)]
structure Train_ where
 Pulse:Pulse
 deriving DecidableEq,Inhabited,Repr
abbrev Train_.cells (x:Train_):List AV:=[.v (.int .i64 x.Pulse.Letters),.v (.int .i64 x.Pulse.Numbers),.v (.int .i64 x.Pulse.Pitch),.v (.int .i64 x.Pulse.Slack),.v (.int .i64 x.Pulse.Gap),.v (.int .i64 x.Pulse.Pause),.v (.int .i64 x.Pulse.Sparks),.sl .no 1 (x.Pulse.Times.map cI)]
structure Groups_ where
 letter:Int
 number:Int
 deriving DecidableEq,Inhabited,Repr
abbrev Groups_.cells (x:Groups_):List AV:=[.v (.int .i64 x.letter),.v (.int .i64 x.number)]
structure Reading_ where
 sparks:Int
 list:List Int
 deriving DecidableEq,Inhabited,Repr
abbrev Reading_.cells (x:Reading_):List AV:=[.v (.int .u64 x.sparks),.sl .fr 1 (x.list.map cI)]
structure Span where
 Low:Int
 High:Int
 deriving DecidableEq,Inhabited,Repr
abbrev Span.cells (x:Span):List AV:=[.v (.int .i64 x.Low),.v (.int .i64 x.High)]
structure WirePress where
 Letter:Int
 Number:Int
 Got:Int
 deriving DecidableEq,Inhabited,Repr
abbrev WirePress.cells (x:WirePress):List AV:=[.v (.int .i64 x.Letter),.v (.int .i64 x.Number),.v (.int .i64 x.Got)]
structure Wire where
 Letters:Int
 Numbers:Int
 Presses:List WirePress
 Faults:Int
 deriving DecidableEq,Inhabited,Repr
abbrev Wire.cells (x:Wire):List AV:=[.v (.int .i64 x.Letters),.v (.int .i64 x.Numbers),.sl .no 3 (x.Presses.map WirePress.cells),.v (.int .i64 x.Faults)]
structure WireFault where
 Kind:Int
 A:Int
 B:Int
 deriving DecidableEq,Inhabited,Repr
abbrev WireFault.cells (x:WireFault):List AV:=[.v (.int .i64 x.Kind),.v (.int .i64 x.A),.v (.int .i64 x.B)]
structure Wiring_ where
 Wire:Wire
 all:List WireFault
 deriving DecidableEq,Inhabited,Repr
abbrev Wiring_.cells (x:Wiring_):List AV:=[.v (.int .i64 x.Wire.Letters),.v (.int .i64 x.Wire.Numbers),.sl .no 3 (x.Wire.Presses.map WirePress.cells),.v (.int .i64 x.Wire.Faults),.sl .no 3 (x.all.map WireFault.cells)]
structure Keys_ where
 c0:Int
 c1:Int
 c2:Int
 c3:Int
 c4:Int
 deriving DecidableEq,Inhabited,Repr
abbrev Keys_.cells (x:Keys_):List AV:=[.v (.int .i64 x.c0),.v (.int .i64 x.c1),.v (.int .i64 x.c2),.v (.int .i64 x.c3),.v (.int .i64 x.c4)]
structure Panel_ where
 letters:Keys_
 numbers:Keys_
 deriving DecidableEq,Inhabited,Repr
abbrev Panel_.cells (x:Panel_):List AV:=[.v (.int .i64 x.letters.c0),.v (.int .i64 x.letters.c1),.v (.int .i64 x.letters.c2),.v (.int .i64 x.letters.c3),.v (.int .i64 x.letters.c4),.v (.int .i64 x.numbers.c0),.v (.int .i64 x.numbers.c1),.v (.int .i64 x.numbers.c2),.v (.int .i64 x.numbers.c3),.v (.int .i64 x.numbers.c4)]
structure Reading where
 Sparks:List Int
 List_:List Int
 deriving DecidableEq,Inhabited,Repr
abbrev Reading.cells (x:Reading):List AV:=[.sl .no 1 (x.Sparks.map cI),.sl .no 1 (x.List_.map cI)]
def zdo (v1:Bool):Option (Bool) :=
 some v1
def zef (a0:Int) (a1:Int) (a2:Int):Option (Bool) :=
 if decide (a0≥a1)=true then
  zdo (decide (a0<=a2))
 else
  zdo false
def zbS (a0:Int) (a1:Int) (a2:Int):Option (Bool) :=
 Option.bind (zef a0 a1 a2) fun r1 =>
 some r1
def zeZ:Option (Bool) :=
 some true
def zcr (rec1:Int->Option (Bool)) (v1:Int) (v3:Bool):Option (Bool) :=
 if v3=true then
  some false
 else
  rec1 (w64 (v1+1))
def zeq (a0:List Int) (a1:Int) (a2:Int) (rec1:Int->Option (Bool)) (v1:Int):Option (Bool) :=
 if decide (v1<(a0.length:Int))=true then
  Option.bind (idx a0 v1) fun x5 =>
  Option.bind (zef x5 a1 a2) fun r6 =>
  if (!r6)=true then
   zcr rec1 v1 true
  else
   if decide (v1>0)=true then
    Option.bind (idx a0 v1) fun x9 =>
    Option.bind (idx a0 (w64 (v1-1))) fun x10 =>
    zcr rec1 v1 (decide (x9<=x10))
   else
    zcr rec1 v1 false
 else
  zeZ
def zb4 (a0:List Int) (a1:Int) (a2:Int):Nat->Int->Option (Bool)
 | 0,_=>none
 | m+1,v1=>zeq a0 a1 a2 (zb4 a0 a1 a2 m) v1
def zh1 (n:Nat) (a0:List Int) (a1:Int) (a2:Int):Option (Bool) :=
 zb4 a0 a1 a2 n 0
def zby (v1:Bool):Option (Int) :=
 if v1=true then
  some 130
 else
  some 0
def zfy (n:Nat) (a0:Pulse):Option (Int) :=
 Option.bind (zbS a0.Letters 1 5) fun r3 =>
 if (!r3)=true then
  zby true
 else
  Option.bind (zbS a0.Numbers 1 5) fun r5 =>
  if (!r5)=true then
   zby true
  else
   Option.bind (zbS a0.Pitch 1 99) fun r7 =>
   if (!r7)=true then
    zby true
   else
    Option.bind (zbS a0.Slack 0 (w64 (a0.Pitch-1))) fun r9 =>
    if (!r9)=true then
     zby true
    else
     Option.bind (zbS a0.Pause 1 999) fun r11 =>
     if (!r11)=true then
      zby true
     else
      Option.bind (zbS a0.Gap (w64 ((w64 (a0.Pitch+a0.Slack))+1)) (w64 (a0.Pause-1))) fun r13 =>
      if (!r13)=true then
       zby true
      else
       Option.bind (zbS a0.Sparks 0 3) fun r15 =>
       if (!r15)=true then
        zby true
       else
        if decide ((a0.Times.length:Int)>24)=true then
         zby true
        else
         Option.bind (zh1 n a0.Times 0 99999) fun r18 =>
         zby (!r18)
def zeV (v1:Bool):Option (Bool) :=
 some v1
def ziZ (n:Nat) (a0:Pulse):Option (Bool) :=
 if decide ((a0.Times.length:Int)>40)=true then
  zeV true
 else
  Option.bind (zfy n a0) fun r3 =>
  if (r3==0)=true then
   zeV (decide ((a0.Times.length:Int)>14))
  else
   zeV false
def zdp:Option (Bool) :=
 some true
def zch (a0:List Int) (a1:List Int) (rec1:Int->Option (Bool)) (v2:Int):Option (Bool) :=
 if decide (v2<(a0.length:Int))=true then
  Option.bind (idx a0 v2) fun x4 =>
  Option.bind (idx a1 v2) fun x5 =>
  if (x4 != x5)=true then
   some false
  else
   rec1 (w64 (v2+1))
 else
  zdp
def zba (a0:List Int) (a1:List Int):Nat->Int->Option (Bool)
 | 0,_=>none
 | m+1,v2=>zch a0 a1 (zba a0 a1 m) v2
def zbN (n:Nat) (a0:List Int) (a1:List Int):Option (Bool) :=
 if ((a0.length:Int) != (a1.length:Int))=true then
  some false
 else
  zba a0 a1 n 0
def zi0:Option (Pulse) :=
 some (⟨3,4,10,2,30,100,1,([0,10,40,50,60]:List Int)⟩:Pulse)
def zdL (v1:Bool):Option (Bool) :=
 some v1
def zck (a0:Int) (a1:Int) (a2:Int):Option (Bool) :=
 if decide (a1<=a0)=true then
  zdL (decide (a0<=a2))
 else
  zdL false
def ze0:Option (Int) :=
 some 0
def zcs (rec1:Int->Option (Int)) (v1:Int) (v4:Bool):Option (Int) :=
 if v4=true then
  some 130
 else
  rec1 (w64 (v1+1))
def zer (a0:Pulse) (rec1:Int->Option (Int)) (v1:Int):Option (Int) :=
 if decide (v1<(a0.Times.length:Int))=true then
  Option.bind (idx a0.Times v1) fun x3 =>
  Option.bind (zck x3 0 99999) fun r6 =>
  if (!r6)=true then
   zcs rec1 v1 true
  else
   if decide (v1>0)=true then
    Option.bind (idx a0.Times (w64 (v1-1))) fun x9 =>
    zcs rec1 v1 (decide (x3<=x9))
   else
    zcs rec1 v1 false
 else
  ze0
def zb5 (a0:Pulse):Nat->Int->Option (Int)
 | 0,_=>none
 | m+1,v1=>zer a0 (zb5 a0 m) v1
def zgx (n:Nat) (a0:Pulse):Option (Int) :=
 zb5 a0 n 0
def zes (n:Nat) (a0:Pulse) (rec2:Int->Option (Int)) (v10:Int):Option (Int) :=
 if decide (v10<8)=true then
  Option.bind (idx ([(⟨a0.Letters,1,5⟩:An103),(⟨a0.Numbers,1,5⟩:An103),(⟨a0.Pitch,1,99⟩:An103),(⟨a0.Slack,0,w64 (a0.Pitch-1)⟩:An103),(⟨a0.Gap,w64 ((w64 (a0.Pitch+a0.Slack))+1),w64 (a0.Pause-1)⟩:An103),(⟨a0.Pause,0,999⟩:An103),(⟨a0.Sparks,0,3⟩:An103),(⟨(a0.Times.length:Int),0,24⟩:An103)]:List An103) v10) fun x12 =>
  Option.bind (zck x12.n x12.low x12.high) fun r13 =>
  if (!r13)=true then
   some 130
  else
   rec2 (w64 (v10+1))
 else
  zgx n a0
def zbv (n:Nat) (a0:Pulse):Nat->Int->Option (Int)
 | 0,_=>none
 | m+1,v10=>zes n a0 (zbv n a0 m) v10
def zfU (n:Nat) (a0:Pulse):Option (Int) :=
 zbv n a0 n 0
def zdn {S:Type} (v3:S):Option (Bool×S) :=
 some (true,v3)
def zcY {S:Type} (rec:Train_->Int->Int->Int->S->Option (Bool×S)) (a0:Train_) (a1:Int) (a3:Int) (rec1:Int->S->Option (Bool×S)) (v5:Int) (v6:S):Option (Bool×S) :=
 if decide (v5<(a0.Pulse.Times.length:Int))=true then
  Option.bind (zp8 1 v5) fun q8 =>
  Option.bind (rec a0 (ztZ a1 q8) (w64 (v5+1)) (w64 (a3-1)) v6) fun r9 =>
  if (!r9.1)=true then
   some (false,r9.2)
  else
   rec1 (w64 (v5+1)) r9.2
 else
  zdn v6
def zbE {S:Type} (rec:Train_->Int->Int->Int->S->Option (Bool×S)) (a0:Train_) (a1:Int) (a3:Int):Nat->Int->S->Option (Bool×S)
 | 0,_,_=>none
 | m+1,v5,v6=>zcY rec a0 a1 a3 (zbE rec a0 a1 a3 m) v5 v6
def zdC {S:Type} (n:Nat) (rec:Train_->Int->Int->Int->S->Option (Bool×S)) (aF:Int->S->Option (Bool×S)) (a0:Train_) (a1:Int) (a2:Int) (a3:Int) (st:S):Option (Bool×S) :=
 if (a3==0)=true then
  Option.bind (aF a1 st) fun r2 =>
  some (r2.1,r2.2)
 else
  zbE rec a0 a1 a3 n a2 st
def zbB {S:Type}:Nat->(Int->S->Option (Bool×S))->Train_->Int->Int->Int->S->Option (Bool×S)
 | 0,_,_,_,_,_,_=>none
 | n+1,aF,a0,a1,a2,a3,st=>zdC n (zbB n aF) aF a0 a1 a2 a3 st
def zfH (a0:Int) (a1:Int):Option (Bool) :=
 Option.bind (zrG a0 a1) fun q1 =>
 some ((zmU q1 1)==1)
def zb6 (l1:List Int) (v2:Bool):Option (Bool×(List Int)) :=
 some (v2,l1)
def zcC (a1:Groups_) (a2:Train_) (st:(List Int)):Option (Bool×(List Int)) :=
 Option.bind (app st ([w64 ((w64 ((w64 ((w64 (a1.letter-1))*a2.Pulse.Numbers))+a1.number))-1)]:List Int)) fun l1 =>
 Option.bind (zck a1.letter 1 a2.Pulse.Letters) fun r3 =>
 if r3=true then
  Option.bind (zck a1.number 1 a2.Pulse.Numbers) fun r5 =>
  zb6 l1 r5
 else
  zb6 l1 false
def zet (a0:Train_) (a1:Int):Option (Int) :=
 if decide (a1≥a0.Pulse.Pause)=true then
  some 3
 else
  if decide (a1≥a0.Pulse.Gap)=true then
   some 2
  else
   Option.bind (zck a1 (w64 (a0.Pulse.Pitch-a0.Pulse.Slack)) (w64 (a0.Pulse.Pitch+a0.Pulse.Slack))) fun r3 =>
   if r3=true then
    some 1
   else
    some 0
def zcc (v4:Bool) (v5:List Int):Option ((List Int)×Bool) :=
 if v4=true then
  some (([]:List Int),false)
 else
  some (v5,true)
def zcD (a0:Train_) (a1:List Int) (v1:Int) (v2:Int) (v3:List Int):Option ((List Int)×Bool) :=
 if decide ((a1.length:Int)>0)=true then
  Option.bind (zcC (⟨v1,v2⟩:Groups_) a0 v3) fun r8 =>
  zcc (!r8.1) r8.2
 else
  zcc false v3
def zaX (rec1:Int->Int->Int->(List Int)->Option ((List Int)×Bool)) (v10:Int) (v15:Int) (v16:Int) (v17:List Int):Option ((List Int)×Bool) :=
 rec1 (w64 (v10+1)) v15 v16 v17
def zbK (a0:Train_) (a1:List Int) (rec1:Int->Int->Int->(List Int)->Option ((List Int)×Bool)) (v10:Int) (v11:Int) (v12:Int) (v13:List Int):Option ((List Int)×Bool) :=
 if decide (v10<(a1.length:Int))=true then
  Option.bind (idx a1 v10) fun x18 =>
  if (v10==0)=true then
   zaX rec1 v10 1 0 v13
  else
   Option.bind (idx a1 (w64 (v10-1))) fun x20 =>
   Option.bind (zet a0 (w64 (x18-x20))) fun r21 =>
   if (r21==1)=true then
    if decide (v12>0)=true then
     zaX rec1 v10 v11 (w64 (v12+1)) v13
    else
     zaX rec1 v10 (w64 (v11+1)) v12 v13
   else
    if (r21==2)=true then
     if decide (v12>0)=true then
      some (([]:List Int),false)
     else
      zaX rec1 v10 v11 1 v13
    else
     if (r21==3)=true then
      Option.bind (zcC (⟨v11,v12⟩:Groups_) a0 v13) fun r27 =>
      if (!r27.1)=true then
       some (([]:List Int),false)
      else
       zaX rec1 v10 1 0 r27.2
     else
      some (([]:List Int),false)
 else
  zcD a0 a1 v11 v12 v13
def zaM (a0:Train_) (a1:List Int):Nat->Int->Int->Int->(List Int)->Option ((List Int)×Bool)
 | 0,_,_,_,_=>none
 | m+1,v10,v11,v12,v13=>zbK a0 a1 (zaM a0 a1 m) v10 v11 v12 v13
def zeu (n:Nat) (a0:Train_) (a1:List Int):Option ((List Int)×Bool) :=
 zaM a0 a1 n 0 0 0 ([]:List Int)
def zbe {S:Type} (v3:Bool) (v4:S):Option (Bool×S) :=
 some (v3,v4)
def zbG {S:Type} (n:Nat) (a0:Int) (aF:Reading_->S->Option (Bool×S)) (st:S) (a1:Train_) (v1:List Int):Option (Bool×S) :=
 Option.bind (zeu n a1 v1) fun r2 =>
 if (!r2.2)=true then
  zbe true st
 else
  Option.bind (aF (⟨a0,r2.1⟩:Reading_) st) fun r6 =>
  zbe r6.1 r6.2
def zbf {S:Type} (rec1:(List Int)->Int->Option (Bool×S)) (v8:Int) (v10:List Int):Option (Bool×S) :=
 rec1 v10 (w64 (v8+1))
def zbs {S:Type} (n:Nat) (a0:Int) (aF:Reading_->S->Option (Bool×S)) (st:S) (a1:Train_) (rec1:(List Int)->Int->Option (Bool×S)) (v7:List Int) (v8:Int):Option (Bool×S) :=
 if decide (v8<(a1.Pulse.Times.length:Int))=true then
  Option.bind (idx a1.Pulse.Times v8) fun x11 =>
  Option.bind (zfH a0 v8) fun r12 =>
  if (!r12)=true then
   Option.bind (app v7 ([x11]:List Int)) fun l14 =>
   zbf rec1 v8 l14
  else
   zbf rec1 v8 v7
 else
  zbG n a0 aF st a1 v7
def zaD {S:Type} (n:Nat) (a0:Int) (aF:Reading_->S->Option (Bool×S)) (st:S) (a1:Train_):Nat->(List Int)->Int->Option (Bool×S)
 | 0,_,_=>none
 | m+1,v7,v8=>zbs n a0 aF st a1 (zaD n a0 aF st a1 m) v7 v8
def zbb {S:Type} (n:Nat) (aF:Reading_->S->Option (Bool×S)) (a0:Int) (a1:Train_) (st:S):Option (Bool×S) :=
 zaD n a0 aF st a1 n ([]:List Int) 0
def zcw {S:Type} (n:Nat) (aF:Reading_->S->Option (Bool×S)) (a1:Train_) (a2:Int) (st:S):Option (Unit×S) :=
 Option.bind (zbB n (fun (x0:Int) s=>zbb n aF x0 a1 s) a1 0 0 a2 st) fun r1 =>
 some ((),r1.2)
def za4 (y1:Reading_) (s:(List Reading_)):Option (Bool×((List Reading_))) :=
 Option.bind (app s ([y1]:List Reading_)) fun l2 =>
 some (true,l2)
def zbH (n:Nat) (a0:List Reading_) (a91:Train_) (a92:Int):Option ((List Reading_)) :=
 Option.bind (zcw n (za4) a91 a92 a0) fun r3 =>
 some r3.2
def zeC {S:Type} (r3:Bool×S) (v5:List Reading_):Option (((List Reading_)×Int)×S) :=
 if ((v5.length:Int)==0)=true then
  some ((([]:List Reading_),3),r3.2)
 else
  some ((v5,0),r3.2)
def zeN {S:Type} (n:Nat) (a0:Pulse) (r3:Bool×S) (rec1:(List Reading_)->Int->Option (((List Reading_)×Int)×S)) (v7:List Reading_) (v8:Int):Option (((List Reading_)×Int)×S) :=
 if decide (v8<(w64 (a0.Sparks+1)))=true then
  Option.bind (zbH n v7 (⟨a0⟩:Train_) v8) fun r10 =>
  rec1 r10 (w64 (v8+1))
 else
  zeC r3 v7
def zcL {S:Type} (n:Nat) (a0:Pulse) (r3:Bool×S):Nat->(List Reading_)->Int->Option (((List Reading_)×Int)×S)
 | 0,_,_=>none
 | m+1,v7,v8=>zeN n a0 r3 (zcL n a0 r3 m) v7 v8
def zeg {S:Type} (n:Nat) (aF:Train_->S->Option (Bool×S)) (a0:Pulse) (st:S):Option (((List Reading_)×Int)×S) :=
 Option.bind (zfU n a0) fun r1 =>
 if (r1 != 0)=true then
  some ((([]:List Reading_),r1),st)
 else
  Option.bind (aF (⟨a0⟩:Train_) st) fun r3 =>
  if (!r3.1)=true then
   some ((([]:List Reading_),1),r3.2)
  else
   zcL n a0 r3 n ([]:List Reading_) 0
def zcR (a0:Train_):Option (Bool) :=
 some true
def zkI (n:Nat) (a0:Pulse):Option (Int×Int) :=
 Option.bind (zeg n (fun (x0:Train_) (_:Unit)=>(zcR x0).map fun y=>(y,())) a0 ()) fun r1 =>
 some ((r1.1.1.length:Int),r1.1.2)
def zcx {S:Type} (v1:S):Option (Int×S) :=
 some ((-1),v1)
def zcg {S:Type} (a0:List (List Int)) (aF:(List Int)->S->Option (Bool×S)) (rec1:Int->S->Option (Int×S)) (v3:Int) (v4:S):Option (Int×S) :=
 if decide (v3<(a0.length:Int))=true then
  Option.bind (idx a0 v3) fun x6 =>
  Option.bind (aF x6 v4) fun r7 =>
  if r7.1=true then
   some (v3,r7.2)
  else
   rec1 (w64 (v3+1)) r7.2
 else
  zcx v4
def zbc {S:Type} (a0:List (List Int)) (aF:(List Int)->S->Option (Bool×S)):Nat->Int->S->Option (Int×S)
 | 0,_,_=>none
 | m+1,v3,v4=>zcg a0 aF (zbc a0 aF m) v3 v4
def zeh {S:Type} (n:Nat) (aF:(List Int)->S->Option (Bool×S)) (a0:List (List Int)) (st:S):Option (Int×S) :=
 zbc a0 aF n 0 st
def zcy {S:Type} (n:Nat) (aF:(List Int)->S->Option (Bool×S)) (a0:List (List Int)) (st:S):Option (Bool×S) :=
 Option.bind (zeh n aF a0 st) fun r1 =>
 some (decide (r1.1≥0),r1.2)
def zdD:Option (Bool) :=
 some true
def zc7 (a0:List Int) (a1:List Int) (rec1:Int->Option (Bool)) (v2:Int):Option (Bool) :=
 if decide (v2<(a0.length:Int))=true then
  Option.bind (idx a0 v2) fun x4 =>
  Option.bind (idx a1 v2) fun x5 =>
  if (x4 != x5)=true then
   some false
  else
   rec1 (w64 (v2+1))
 else
  zdD
def zbQ (a0:List Int) (a1:List Int):Nat->Int->Option (Bool)
 | 0,_=>none
 | m+1,v2=>zc7 a0 a1 (zbQ a0 a1 m) v2
def slices_Equal_int (n:Nat) (a0:List Int) (a1:List Int):Option (Bool) :=
 if ((a0.length:Int) != (a1.length:Int))=true then
  some false
 else
  zbQ a0 a1 n 0
def zdq (n:Nat) (a0:List Int) (a1:Reading_):Option (Bool) :=
 Option.bind (slices_Equal_int n a0 a1.list) fun r1 =>
 some r1
def ze1 (v1:List (List Int)):Option ((List (List Int))) :=
 some v1
def zdr (rec1:(List (List Int))->Int->Option ((List (List Int)))) (v3:Int) (v5:List (List Int)):Option ((List (List Int))) :=
 rec1 v5 (w64 (v3+1))
def zev (n:Nat) (a0:List Reading_) (rec1:(List (List Int))->Int->Option ((List (List Int)))) (v2:List (List Int)) (v3:Int):Option ((List (List Int))) :=
 if decide (v3<(a0.length:Int))=true then
  Option.bind (idx a0 v3) fun x6 =>
  Option.bind (zcy n (fun (x0:List Int) (_:Unit)=>(zdq n x0 x6).map fun y=>(y,())) v2 ()) fun r7 =>
  if (!r7.1)=true then
   Option.bind (app v2 ([x6.list]:List (List Int))) fun l9 =>
   zdr rec1 v3 l9
  else
   zdr rec1 v3 v2
 else
  ze1 v2
def zb7 (n:Nat) (a0:List Reading_):Nat->(List (List Int))->Int->Option ((List (List Int)))
 | 0,_,_=>none
 | m+1,v2,v3=>zev n a0 (zb7 n a0 m) v2 v3
def zgX (n:Nat) (a0:List Reading_):Option ((List (List Int))) :=
 zb7 n a0 n ([]:List (List Int)) 0
def zjN (n:Nat) (a0:Pulse):Option (Int×Int) :=
 Option.bind (zeg n (fun (x0:Train_) (_:Unit)=>(zcR x0).map fun y=>(y,())) a0 ()) fun r1 =>
 Option.bind (zgX n r1.1.1) fun r2 =>
 some ((r2.length:Int),r1.1.2)
def zds (a0:Train_) (a1:Int):Option (Bool) :=
 Option.bind (zck a1 0 (w64 ((w64 (a0.Pulse.Letters*a0.Pulse.Numbers))-1))) fun r1 =>
 some r1
def zgy (a0:Train_) (a1:Int):Option (Bool) :=
 Option.bind (zds a0 a1) fun r1 =>
 some r1
def zeT {S:Type} (v1:Int) (v2:S):Option (Int×S) :=
 some (v1,v2)
def zdE {S:Type} (rec1:Int->Int->S->Option (Int×S)) (v6:Int) (v9:Int) (v10:S):Option (Int×S) :=
 rec1 v9 (w64 (v6+1)) v10
def zfV {S:Type} (a0:List Int) (aF:Int->S->Option (Bool×S)) (rec1:Int->Int->S->Option (Int×S)) (v5:Int) (v6:Int) (v7:S):Option (Int×S) :=
 if decide (v6<(a0.length:Int))=true then
  Option.bind (idx a0 v6) fun x11 =>
  Option.bind (aF x11 v7) fun r12 =>
  if r12.1=true then
   zdE rec1 v6 (w64 (v5+1)) r12.2
  else
   zdE rec1 v6 v5 r12.2
 else
  zeT v5 v7
def zci {S:Type} (a0:List Int) (aF:Int->S->Option (Bool×S)):Nat->Int->Int->S->Option (Int×S)
 | 0,_,_,_=>none
 | m+1,v5,v6,v7=>zfV a0 aF (zci a0 aF m) v5 v6 v7
def zhF {S:Type} (n:Nat) (aF:Int->S->Option (Bool×S)) (a0:List Int) (st:S):Option (Int×S) :=
 zci a0 aF n 0 0 st
def zgz (a0:Int) (a1:Int):Option (Bool) :=
 some (a0==a1)
def zgA (v3:Int) (v4:Int):Option (Span×Int) :=
 some ((⟨v3,v4⟩:Span),0)
def zha (n:Nat) (a1:Int) (r1:((List Reading_)×Int)×Unit) (rec1:Int->Int->Int->Option (Span×Int)) (v6:Int) (v7:Int) (v8:Int):Option (Span×Int) :=
 if decide (v6<(r1.1.1.length:Int))=true then
  Option.bind (idx r1.1.1 v6) fun x10 =>
  Option.bind (zhF n (fun (x0:Int) (_:Unit)=>(zgz x0 a1).map fun y=>(y,())) x10.list ()) fun r11 =>
  rec1 (w64 (v6+1)) (min v7 r11.1) (max v8 r11.1)
 else
  zgA v7 v8
def ze2 (n:Nat) (a1:Int) (r1:((List Reading_)×Int)×Unit):Nat->Int->Int->Int->Option (Span×Int)
 | 0,_,_,_=>none
 | m+1,v6,v7,v8=>zha n a1 r1 (ze2 n a1 r1 m) v6 v7 v8
def zjO (n:Nat) (a0:Pulse) (a1:Int):Option (Span×Int) :=
 Option.bind (zeg n (fun (x0:Train_) (_:Unit)=>(zgy x0 a1).map fun y=>(y,())) a0 ()) fun r1 =>
 if (r1.1.2 != 0)=true then
  some ((⟨0,0⟩:Span),r1.1.2)
 else
  ze2 n a1 r1 n 0 24 0
def zho (a0:Int):Option (Bool) :=
 Option.bind (zck a0 0 99999) fun r1 =>
 some r1
def zdF {S:Type} (v1:S):Option (Int×S) :=
 some ((-1),v1)
def zeD {S:Type} (a0:List Int) (aF:Int->S->Option (Bool×S)) (rec1:Int->S->Option (Int×S)) (v3:Int) (v4:S):Option (Int×S) :=
 if decide (v3<(a0.length:Int))=true then
  Option.bind (idx a0 v3) fun x6 =>
  Option.bind (aF x6 v4) fun r7 =>
  if r7.1=true then
   some (v3,r7.2)
  else
   rec1 (w64 (v3+1)) r7.2
 else
  zdF v4
def zcG {S:Type} (a0:List Int) (aF:Int->S->Option (Bool×S)):Nat->Int->S->Option (Int×S)
 | 0,_,_=>none
 | m+1,v3,v4=>zeD a0 aF (zcG a0 aF m) v3 v4
def zf3 {S:Type} (n:Nat) (aF:Int->S->Option (Bool×S)) (a0:List Int) (st:S):Option (Int×S) :=
 zcG a0 aF n 0 st
def ze3 {S:Type} (n:Nat) (aF:Int->S->Option (Bool×S)) (a0:List Int) (st:S):Option (Bool×S) :=
 Option.bind (zf3 n aF a0 st) fun r1 =>
 some (decide (r1.1≥0),r1.2)
def zgB (a0:Int) (a1:Train_):Option (Bool) :=
 Option.bind (zds a1 a0) fun r1 =>
 some (!r1)
def zd2 (rec1:Int->Int->(List Int)->Int->Option (Unit×((List Int)×Int))) (a4:Pulse) (v4:Int) (v5:List Int) (v8:Int):Option (Unit×((List Int)×Int)) :=
 Option.bind (app v5 ([v8]:List Int)) fun l9 =>
 rec1 a4.Pitch (w64 (v4+1)) l9 v8
def zf4 (a1:Int) (a4:Pulse) (rec1:Int->Int->(List Int)->Int->Option (Unit×((List Int)×Int))) (v3:Int) (v4:Int) (v5:List Int) (v6:Int):Option (Unit×((List Int)×Int)) :=
 if decide (v4<a1)=true then
  if decide ((v5.length:Int)>0)=true then
   zd2 rec1 a4 v4 v5 (w64 (v6+v3))
  else
   zd2 rec1 a4 v4 v5 v6
 else
  some ((),(v5,v6))
def zcz (a1:Int) (a4:Pulse):Nat->Int->Int->(List Int)->Int->Option (Unit×((List Int)×Int))
 | 0,_,_,_,_=>none
 | m+1,v3,v4,v5,v6=>zf4 a1 a4 (zcz a1 a4 m) v3 v4 v5 v6
def zgC (n:Nat) (a0:Int) (a1:Int) (a4:Pulse) (st:(List Int)×Int):Option (Unit×((List Int)×Int)) :=
 zcz a1 a4 n a0 0 st.1 st.2
def ze4 (v5:List Int) (v7:Bool):Option ((List Int)×Int) :=
 if v7=true then
  some (([]:List Int),131)
 else
  some (v5,0)
def zgD (v5:List Int) (v6:Int):Option ((List Int)×Int) :=
 if decide ((v5.length:Int)>24)=true then
  ze4 v5 true
 else
  Option.bind (zho v6) fun r10 =>
  ze4 v5 (!r10)
def zhb (n:Nat) (a0:Pulse) (a1:List Int) (rec1:Int->(List Int)->Int->Option ((List Int)×Int)) (v12:Int) (v13:List Int) (v14:Int):Option ((List Int)×Int) :=
 if decide (v12<(a1.length:Int))=true then
  Option.bind (idx a1 v12) fun x16 =>
  Option.bind (quo x16 a0.Numbers) fun q17 =>
  Option.bind (zgC n a0.Pause (w64 (q17+1)) a0 (v13,v14)) fun r18 =>
  Option.bind (rem x16 a0.Numbers) fun q19 =>
  Option.bind (zgC n a0.Gap (w64 (q19+1)) a0 (r18.2.1,r18.2.2)) fun r20 =>
  rec1 (w64 (v12+1)) r20.2.1 r20.2.2
 else
  zgD v13 v14
def ze5 (n:Nat) (a0:Pulse) (a1:List Int):Nat->Int->(List Int)->Int->Option ((List Int)×Int)
 | 0,_,_,_=>none
 | m+1,v12,v13,v14=>zhb n a0 a1 (ze5 n a0 a1 m) v12 v13 v14
def zei (n:Nat) (a0:Pulse) (a1:List Int) (a2:Int) (v3:Bool):Option ((List Int)×Int) :=
 if v3=true then
  some (([]:List Int),1)
 else
  ze5 n a0 a1 n 0 ([]:List Int) a2
def zjP (n:Nat) (a0:Pulse) (a1:List Int) (a2:Int):Option ((List Int)×Int) :=
 Option.bind (zfU n a0) fun r1 =>
 if (r1 != 0)=true then
  some (([]:List Int),r1)
 else
  if decide ((a1.length:Int)>24)=true then
   zei n a0 a1 a2 true
  else
   Option.bind (zho a2) fun r22 =>
   if (!r22)=true then
    zei n a0 a1 a2 true
   else
    Option.bind (ze3 n (fun (x0:Int) (_:Unit)=>(zgB x0 (⟨a0⟩:Train_)).map fun y=>(y,())) a1 ()) fun r24 =>
    zei n a0 a1 a2 r24.1
def zfz (n:Nat) (a0:List Reading_):Option ((List Int)×Int) :=
 Option.bind (zgX n a0) fun r1 =>
 if decide ((r1.length:Int)>1)=true then
  some (([]:List Int),2)
 else
  Option.bind (idx r1 0) fun x3 =>
  some (x3,0)
def zkJ (n:Nat) (a0:Pulse):Option ((List Int)×Int) :=
 Option.bind (zeg n (fun (x0:Train_) (_:Unit)=>(zcR x0).map fun y=>(y,())) a0 ()) fun r1 =>
 if (r1.1.2 != 0)=true then
  some (([]:List Int),r1.1.2)
 else
  Option.bind (zfz n r1.1.1) fun r3 =>
  some (r3.1,r3.2)
def zbz (v7:Bool):Option (Bool) :=
 some v7
def zhp (n:Nat):Option (Bool) :=
 Option.bind (zi0) fun r1 =>
 Option.bind (zkI n r1) fun r2 =>
 Option.bind (zjN n r1) fun r3 =>
 Option.bind (zjO n r1 6) fun r4 =>
 Option.bind (zjP n r1 ([1,4]:List Int) 7) fun r5 =>
 Option.bind (zkJ n (⟨r1.Letters,r1.Numbers,r1.Pitch,r1.Slack,r1.Gap,r1.Pause,0,r1.Times⟩:Pulse)) fun r6 =>
 if (r2.2==0)=true then
  if (r3.2==0)=true then
   if (r4.2==0)=true then
    if (r5.2==0)=true then
     if (r6.2==0)=true then
      if (r2.1==5)=true then
       if (r3.1==3)=true then
        if ((r4.1.Low==0)&&((r4.1.High==1)&&true))=true then
         Option.bind (zbN n r5.1 ([7,37,47,147,157,187]:List Int)) fun r16 =>
         if r16=true then
          Option.bind (zbN n r6.1 ([6]:List Int)) fun r18 =>
          zbz r18
         else
          zbz false
        else
         zbz false
       else
        zbz false
      else
       zbz false
     else
      zbz false
    else
     zbz false
   else
    zbz false
  else
   zbz false
 else
  zbz false
def zik (a0:Pulse):Option (Pulse) :=
 Option.bind (app ([]:List Int) a0.Times) fun l1 =>
 some (⟨a0.Letters,a0.Numbers,a0.Pitch,a0.Slack,a0.Gap,a0.Pause,a0.Sparks,l1⟩:Pulse)
def zej (v1:Bool):Option (Bool) :=
 some v1
def zc8 (a0:Int) (a1:Int) (a2:Int):Option (Bool) :=
 if decide (a1<=a0)=true then
  zej (decide (a0<=a2))
 else
  zej false
def zdM (v1:Bool):Option (Bool) :=
 some v1
def ze6 (a0:Wire) (a1:Int) (a2:Int):Option (Bool) :=
 Option.bind (zc8 a1 0 (w64 (a0.Letters-1))) fun r2 =>
 if r2=true then
  Option.bind (zc8 a2 0 (w64 (a0.Numbers-1))) fun r4 =>
  zdM r4
 else
  zdM false
def zdt (v1:Bool):Option (Bool) :=
 some v1
def zdT (a0:WirePress) (a1:Wire):Option (Bool) :=
 Option.bind (ze6 a1 a0.Letter a0.Number) fun r2 =>
 if (!r2)=true then
  zdt true
 else
  Option.bind (zc8 a0.Got (-1) (w64 ((w64 (a1.Letters*a1.Numbers))-1))) fun r4 =>
  zdt (!r4)
def zbt {S:Type} (v1:S):Option (Int×S) :=
 some ((-1),v1)
def zbi {S:Type} (a0:List WirePress) (aF:WirePress->S->Option (Bool×S)) (rec1:Int->S->Option (Int×S)) (v3:Int) (v4:S):Option (Int×S) :=
 if decide (v3<(a0.length:Int))=true then
  Option.bind (idx a0 v3) fun x6 =>
  Option.bind (aF x6 v4) fun r7 =>
  if r7.1=true then
   some (v3,r7.2)
  else
   rec1 (w64 (v3+1)) r7.2
 else
  zbt v4
def zax {S:Type} (a0:List WirePress) (aF:WirePress->S->Option (Bool×S)):Nat->Int->S->Option (Int×S)
 | 0,_,_=>none
 | m+1,v3,v4=>zbi a0 aF (zax a0 aF m) v3 v4
def zcA {S:Type} (n:Nat) (aF:WirePress->S->Option (Bool×S)) (a0:List WirePress) (st:S):Option (Int×S) :=
 zax a0 aF n 0 st
def za8 {S:Type} (n:Nat) (aF:WirePress->S->Option (Bool×S)) (a0:List WirePress) (st:S):Option (Bool×S) :=
 Option.bind (zcA n aF a0 st) fun r1 =>
 some (decide (r1.1≥0),r1.2)
def zbA (v1:Bool):Option (Int) :=
 if v1=true then
  some 110
 else
  some 0
def zgE (n:Nat) (a0:Wire):Option (Int) :=
 Option.bind (zc8 a0.Letters 1 5) fun r3 =>
 if (!r3)=true then
  zbA true
 else
  Option.bind (zc8 a0.Numbers 1 5) fun r5 =>
  if (!r5)=true then
   zbA true
  else
   Option.bind (zc8 a0.Faults 0 3) fun r7 =>
   if (!r7)=true then
    zbA true
   else
    if decide ((a0.Presses.length:Int)>8)=true then
     zbA true
    else
     Option.bind (za8 n (fun (x0:WirePress) (_:Unit)=>(zdT x0 a0).map fun y=>(y,())) a0.Presses ()) fun r10 =>
     zbA r10.1
def zhq (a0:Wire) (v1:List WireFault):Option ((Option Wiring_)) :=
 some (some (⟨a0,v1⟩:Wiring_))
def zhr (rec1:Int->(List WireFault)->Option ((Option Wiring_))) (v3:Int) (v6:List WireFault):Option ((Option Wiring_)) :=
 rec1 (w64 (v3+1)) v6
def zgd (rec2:Int->(List WireFault)->Option ((Option Wiring_))) (v10:Int) (v13:List WireFault):Option ((Option Wiring_)) :=
 rec2 (w64 (v10+1)) v13
def zh2 (rec2:Int->(List WireFault)->Option ((Option Wiring_))) (x7:Int) (v8:Int) (v10:Int) (rec3:Int->(List WireFault)->Option ((Option Wiring_))) (v18:Int) (v19:List WireFault):Option ((Option Wiring_)) :=
 if decide (v18<v8)=true then
  Option.bind (app v19 ([(⟨x7,v10,v18⟩:WireFault)]:List WireFault)) fun l21 =>
  rec3 (w64 (v18+1)) l21
 else
  zgd rec2 v10 v19
def zge (rec2:Int->(List WireFault)->Option ((Option Wiring_))) (x7:Int) (v8:Int) (v10:Int):Nat->Int->(List WireFault)->Option ((Option Wiring_))
 | 0,_,_=>none
 | m+1,v18,v19=>zh2 rec2 x7 v8 v10 (zge rec2 x7 v8 v10 m) v18 v19
def zgf (n:Nat) (rec2:Int->(List WireFault)->Option ((Option Wiring_))) (x7:Int) (v8:Int) (v10:Int) (v11:List WireFault) (v14:Bool):Option ((Option Wiring_)) :=
 if v14=true then
  Option.bind (app v11 ([(⟨x7,v10,0⟩:WireFault)]:List WireFault)) fun l16 =>
  zgd rec2 v10 l16
 else
  zge rec2 x7 v8 v10 n (w64 (v10+1)) v11
def zh3 (n:Nat) (rec1:Int->(List WireFault)->Option ((Option Wiring_))) (v3:Int) (x7:Int) (v8:Int) (rec2:Int->(List WireFault)->Option ((Option Wiring_))) (v10:Int) (v11:List WireFault):Option ((Option Wiring_)) :=
 if decide (v10<v8)=true then
  if (x7==1)=true then
   zgf n rec2 x7 v8 v10 v11 true
  else
   zgf n rec2 x7 v8 v10 v11 (x7==2)
 else
  zhr rec1 v3 v11
def zb8 (n:Nat) (rec1:Int->(List WireFault)->Option ((Option Wiring_))) (v3:Int) (x7:Int) (v8:Int):Nat->Int->(List WireFault)->Option ((Option Wiring_))
 | 0,_,_=>none
 | m+1,v10,v11=>zh3 n rec1 v3 x7 v8 (zb8 n rec1 v3 x7 v8 m) v10 v11
def zgg (n:Nat) (rec1:Int->(List WireFault)->Option ((Option Wiring_))) (v3:Int) (v4:List WireFault) (x7:Int) (v8:Int):Option ((Option Wiring_)) :=
 zb8 n rec1 v3 x7 v8 n 0 v4
def zgh (n:Nat) (rec1:Int->(List WireFault)->Option ((Option Wiring_))) (a0:Wire) (v3:Int) (v4:List WireFault) (x7:Int) (v23:Bool):Option ((Option Wiring_)) :=
 if v23=true then
  zgg n rec1 v3 v4 x7 a0.Numbers
 else
  zgg n rec1 v3 v4 x7 a0.Letters
def zh4 (n:Nat) (a0:Wire) (rec1:Int->(List WireFault)->Option ((Option Wiring_))) (v3:Int) (v4:List WireFault):Option ((Option Wiring_)) :=
 if decide (v3<4)=true then
  Option.bind (idx ([1,2,3,4]:List Int) v3) fun x7 =>
  if (x7==2)=true then
   zgh n rec1 a0 v3 v4 x7 true
  else
   zgh n rec1 a0 v3 v4 x7 (x7==4)
 else
  zhq a0 v4
def zaQ (n:Nat) (a0:Wire):Nat->Int->(List WireFault)->Option ((Option Wiring_))
 | 0,_,_=>none
 | m+1,v3,v4=>zh4 n a0 (zaQ n a0 m) v3 v4
def zil (n:Nat) (a0:Wire):Option ((Option Wiring_)) :=
 zaQ n a0 n 0 ([]:List WireFault)
def zbV:Option (Int) :=
 some (-1)
def zbI (a0:List WireFault) (a1:WireFault) (rec1:Int->Option (Int)) (v1:Int):Option (Int) :=
 if decide (v1<(a0.length:Int))=true then
  Option.bind (idx a0 v1) fun x3 =>
  if ((a1.Kind==x3.Kind)&&((a1.A==x3.A)&&((a1.B==x3.B)&&true)))=true then
   some v1
  else
   rec1 (w64 (v1+1))
 else
  zbV
def zaV (a0:List WireFault) (a1:WireFault):Nat->Int->Option (Int)
 | 0,_=>none
 | m+1,v1=>zbI a0 a1 (zaV a0 a1 m) v1
def zbO (n:Nat) (a0:List WireFault) (a1:WireFault):Option (Int) :=
 zaV a0 a1 n 0
def zbW (n:Nat) (a0:List WireFault) (a1:WireFault):Option (Bool) :=
 Option.bind (zbO n a0 a1) fun r1 =>
 some (decide (r1≥0))
def zgi:Option (Int) :=
 some 0
def ze7 (a0:List Int) (rec1:Int->Option (Int)) (v1:Int):Option (Int) :=
 if decide (v1<(a0.length:Int))=true then
  Option.bind (idx a0 v1) fun x3 =>
  if (x3 != 0)=true then
   some x3
  else
   rec1 (w64 (v1+1))
 else
  zgi
def zdG (a0:List Int):Nat->Int->Option (Int)
 | 0,_=>none
 | m+1,v1=>ze7 a0 (zdG a0 m) v1
def zim (n:Nat) (a0:List Int):Option (Int) :=
 zdG a0 n 0
def cmp_isNaN_int (a0:Int):Option (Bool) :=
 some (a0 != a0)
def cmp_Compare_int (a0:Int) (a1:Int):Option (Int) :=
 Option.bind (cmp_isNaN_int a0) fun r1 =>
 Option.bind (cmp_isNaN_int a1) fun r2 =>
 if r1=true then
  if r2=true then
   some 0
  else
   some (-1)
 else
  if r2=true then
   some 1
  else
   if decide (a0<a1)=true then
    some (-1)
   else
    if decide (a0>a1)=true then
     some 1
    else
     some 0
def zhs (n:Nat) (a0:WireFault) (a1:WireFault):Option (Int) :=
 Option.bind (cmp_Compare_int a0.Kind a1.Kind) fun r1 =>
 Option.bind (cmp_Compare_int a0.A a1.A) fun r2 =>
 Option.bind (cmp_Compare_int a0.B a1.B) fun r3 =>
 Option.bind (zim n ([r1,r2,r3]:List Int)) fun r4 =>
 some r4
def zbu {S:Type} (v1:S):Option (Int×S) :=
 some ((-1),v1)
def zbj {S:Type} (a0:List WireFault) (aF:WireFault->S->Option (Bool×S)) (rec1:Int->S->Option (Int×S)) (v3:Int) (v4:S):Option (Int×S) :=
 if decide (v3<(a0.length:Int))=true then
  Option.bind (idx a0 v3) fun x6 =>
  Option.bind (aF x6 v4) fun r7 =>
  if r7.1=true then
   some (v3,r7.2)
  else
   rec1 (w64 (v3+1)) r7.2
 else
  zbu v4
def zay {S:Type} (a0:List WireFault) (aF:WireFault->S->Option (Bool×S)):Nat->Int->S->Option (Int×S)
 | 0,_,_=>none
 | m+1,v3,v4=>zbj a0 aF (zay a0 aF m) v3 v4
def zcB {S:Type} (n:Nat) (aF:WireFault->S->Option (Bool×S)) (a0:List WireFault) (st:S):Option (Int×S) :=
 zay a0 aF n 0 st
def zaS {S:Type} (n:Nat) (aF:WireFault->S->Option (Bool×S)) (a0:List WireFault) (st:S):Option (Bool×S) :=
 Option.bind (zcB n aF a0 st) fun r1 =>
 some (decide (r1.1≥0),r1.2)
def zcl (v1:Bool):Option (Bool) :=
 some v1
def zht (a0:WireFault) (a1:WireFault):Option (Bool) :=
 if (a0.Kind==a1.Kind)=true then
  if decide (a0.Kind≥3)=true then
   if (a0.A==a1.A)=true then
    zcl true
   else
    if (a0.A==a1.B)=true then
     zcl true
    else
     if (a0.B==a1.A)=true then
      zcl true
     else
      zcl (a0.B==a1.B)
  else
   zcl false
 else
  zcl false
def zbg (a0:WireFault) (a1:WireFault):Option (Bool) :=
 Option.bind (zht a1 a0) fun r1 =>
 some r1
def zc9:Option (Bool) :=
 some true
def zbw (rec1:Int->Option (Bool)) (v1:Int) (v4:Bool):Option (Bool) :=
 if v4=true then
  some false
 else
  rec1 (w64 (v1+1))
def zcH (n:Nat) (a0:Option Wiring_) (a1:List WireFault) (rec1:Int->Option (Bool)) (v1:Int):Option (Bool) :=
 if decide (v1<(a1.length:Int))=true then
  Option.bind (idx a1 v1) fun x3 =>
  Option.bind (a0) fun x6 =>
  Option.bind (zbW n x6.all x3) fun r7 =>
  if (!r7)=true then
   zbw rec1 v1 true
  else
   if decide (v1>0)=true then
    Option.bind (idx a1 (w64 (v1-1))) fun x10 =>
    Option.bind (zhs n x10 x3) fun r11 =>
    if decide (r11≥0)=true then
     zbw rec1 v1 true
    else
     Option.bind (cut a1 0 v1) fun c13 =>
     Option.bind (zaS n (fun (x0:WireFault) (_:Unit)=>(zbg x0 x3).map fun y=>(y,())) c13 ()) fun r14 =>
     zbw rec1 v1 r14.1
   else
    Option.bind (cut a1 0 v1) fun c15 =>
    Option.bind (zaS n (fun (x0:WireFault) (_:Unit)=>(zbg x0 x3).map fun y=>(y,())) c15 ()) fun r16 =>
    zbw rec1 v1 r16.1
 else
  zc9
def za5 (n:Nat) (a0:Option Wiring_) (a1:List WireFault):Nat->Int->Option (Bool)
 | 0,_=>none
 | m+1,v1=>zcH n a0 a1 (za5 n a0 a1 m) v1
def zda (n:Nat) (a0:Option Wiring_) (a1:List WireFault):Option (Bool) :=
 za5 n a0 a1 n 0
def zdb (xs:List Int) (off:Nat) (a1:WireFault):Option (List Int) :=
 if (0<=a1.A/\a1.A<5)/\(0<=a1.B/\a1.B<5)/\off+5<=xs.length then some ((xs.set (off+a1.A.toNat) a1.B).set (off+a1.B.toNat) a1.A) else none
def zgj (v21:Int) (v22:Int) (v23:Int) (v24:Int) (v25:Int) (v26:Int) (v27:Int) (v28:Int) (v29:Int) (v30:Int):Option (Panel_) :=
 some (⟨(⟨v21,v22,v23,v24,v25⟩:Keys_),(⟨v26,v27,v28,v29,v30⟩:Keys_)⟩:Panel_)
def zdc (rec1:Int->Int->Int->Int->Int->Int->Int->Int->Int->Int->Int->Option (Panel_)) (v32:Int) (v44:Int) (v45:Int) (v46:Int) (v47:Int) (v48:Int) (v49:Int) (v50:Int) (v51:Int) (v52:Int) (v53:Int):Option (Panel_) :=
 rec1 (w64 (v32+1)) v44 v45 v46 v47 v48 v49 v50 v51 v52 v53
def ze8 (a0:List WireFault) (rec1:Int->Int->Int->Int->Int->Int->Int->Int->Int->Int->Int->Option (Panel_)) (v32:Int) (v33:Int) (v34:Int) (v35:Int) (v36:Int) (v37:Int) (v38:Int) (v39:Int) (v40:Int) (v41:Int) (v42:Int):Option (Panel_) :=
 if decide (v32<(a0.length:Int))=true then
  Option.bind (idx a0 v32) fun x54 =>
  if (x54.Kind==1)=true then
   Option.bind (idx ([v33,v34,v35,v36,v37]:List Int) x54.A) fun x56 =>
   Option.bind (zsX ([v33,v34,v35,v36,v37]:List Int) x54.A (-1)) fun l57 =>
   zdc rec1 v32 (l57.getD 0 0) (l57.getD 1 0) (l57.getD 2 0) (l57.getD 3 0) (l57.getD 4 0) v38 v39 v40 v41 v42
  else
   if (x54.Kind==2)=true then
    Option.bind (idx ([v38,v39,v40,v41,v42]:List Int) x54.A) fun x59 =>
    Option.bind (zsX ([v38,v39,v40,v41,v42]:List Int) x54.A (-1)) fun l60 =>
    zdc rec1 v32 v33 v34 v35 v36 v37 (l60.getD 0 0) (l60.getD 1 0) (l60.getD 2 0) (l60.getD 3 0) (l60.getD 4 0)
   else
    zdc rec1 v32 v33 v34 v35 v36 v37 v38 v39 v40 v41 v42
 else
  zgj v33 v34 v35 v36 v37 v38 v39 v40 v41 v42
def zcI (a0:List WireFault):Nat->Int->Int->Int->Int->Int->Int->Int->Int->Int->Int->Int->Option (Panel_)
 | 0,_,_,_,_,_,_,_,_,_,_,_=>none
 | m+1,v32,v33,v34,v35,v36,v37,v38,v39,v40,v41,v42=>ze8 a0 (zcI a0 m) v32 v33 v34 v35 v36 v37 v38 v39 v40 v41 v42
def ze9 (n:Nat) (a0:List WireFault) (v11:Int) (v12:Int) (v13:Int) (v14:Int) (v15:Int) (v16:Int) (v17:Int) (v18:Int) (v19:Int) (v20:Int):Option (Panel_) :=
 zcI a0 n 0 v11 v12 v13 v14 v15 v16 v17 v18 v19 v20
def zdd (rec2:Int->Int->Int->Int->Int->Int->Int->Int->Int->Int->Int->Option (Panel_)) (v62:Int) (v74:Int) (v75:Int) (v76:Int) (v77:Int) (v78:Int) (v79:Int) (v80:Int) (v81:Int) (v82:Int) (v83:Int):Option (Panel_) :=
 rec2 (w64 (v62+1)) v74 v75 v76 v77 v78 v79 v80 v81 v82 v83
def zfa (n:Nat) (a0:List WireFault) (rec2:Int->Int->Int->Int->Int->Int->Int->Int->Int->Int->Int->Option (Panel_)) (v62:Int) (v63:Int) (v64:Int) (v65:Int) (v66:Int) (v67:Int) (v68:Int) (v69:Int) (v70:Int) (v71:Int) (v72:Int):Option (Panel_) :=
 if decide (v62<(a0.length:Int))=true then
  Option.bind (idx a0 v62) fun x84 =>
  if (x84.Kind==3)=true then
   Option.bind (zdb ([v63,v64,v65,v66,v67,v68,v69,v70,v71,v72]:List Int) 0 x84) fun l86 =>
   zdd rec2 v62 (l86.getD 0 0) (l86.getD 1 0) (l86.getD 2 0) (l86.getD 3 0) (l86.getD 4 0) (l86.getD 5 0) (l86.getD 6 0) (l86.getD 7 0) (l86.getD 8 0) (l86.getD 9 0)
  else
   if (x84.Kind==4)=true then
    Option.bind (zdb ([v63,v64,v65,v66,v67,v68,v69,v70,v71,v72]:List Int) 5 x84) fun l88 =>
    zdd rec2 v62 (l88.getD 0 0) (l88.getD 1 0) (l88.getD 2 0) (l88.getD 3 0) (l88.getD 4 0) (l88.getD 5 0) (l88.getD 6 0) (l88.getD 7 0) (l88.getD 8 0) (l88.getD 9 0)
   else
    zdd rec2 v62 v63 v64 v65 v66 v67 v68 v69 v70 v71 v72
 else
  ze9 n a0 v63 v64 v65 v66 v67 v68 v69 v70 v71 v72
def zcJ (n:Nat) (a0:List WireFault):Nat->Int->Int->Int->Int->Int->Int->Int->Int->Int->Int->Int->Option (Panel_)
 | 0,_,_,_,_,_,_,_,_,_,_,_=>none
 | m+1,v62,v63,v64,v65,v66,v67,v68,v69,v70,v71,v72=>zfa n a0 (zcJ n a0 m) v62 v63 v64 v65 v66 v67 v68 v69 v70 v71 v72
def zew (n:Nat) (a0:List WireFault) (v1:Int) (v2:Int) (v3:Int) (v4:Int) (v5:Int) (v6:Int) (v7:Int) (v8:Int) (v9:Int) (v10:Int):Option (Panel_) :=
 zcJ n a0 n 0 v1 v2 v3 v4 v5 v6 v7 v8 v9 v10
def zh5 (n:Nat) (a0:List WireFault) (rec3:Int->Int->Int->Int->Int->Int->Int->Int->Int->Int->Int->Option (Panel_)) (v90:Int) (v91:Int) (v92:Int) (v93:Int) (v94:Int) (v95:Int) (v96:Int) (v97:Int) (v98:Int) (v99:Int) (v100:Int):Option (Panel_) :=
 if decide (v90<5)=true then
  Option.bind (idx ([v91,v92,v93,v94,v95]:List Int) v90) fun x102 =>
  Option.bind (zsX ([v91,v92,v93,v94,v95]:List Int) v90 v90) fun l103 =>
  Option.bind (idx ([v96,v97,v98,v99,v100]:List Int) v90) fun x104 =>
  Option.bind (zsX ([v96,v97,v98,v99,v100]:List Int) v90 v90) fun l105 =>
  rec3 (w64 (v90+1)) (l103.getD 0 0) (l103.getD 1 0) (l103.getD 2 0) (l103.getD 3 0) (l103.getD 4 0) (l105.getD 0 0) (l105.getD 1 0) (l105.getD 2 0) (l105.getD 3 0) (l105.getD 4 0)
 else
  zew n a0 v91 v92 v93 v94 v95 v96 v97 v98 v99 v100
def zgk (n:Nat) (a0:List WireFault):Nat->Int->Int->Int->Int->Int->Int->Int->Int->Int->Int->Int->Option (Panel_)
 | 0,_,_,_,_,_,_,_,_,_,_,_=>none
 | m+1,v90,v91,v92,v93,v94,v95,v96,v97,v98,v99,v100=>zh5 n a0 (zgk n a0 m) v90 v91 v92 v93 v94 v95 v96 v97 v98 v99 v100
def zhc (n:Nat) (a0:List WireFault):Option (Panel_) :=
 zgk n a0 n 0 0 0 0 0 0 0 0 0 0 0
def zct (a0:Option Wiring_) (x1:Int) (x2:Int) (v3:Bool):Option (Int) :=
 if v3=true then
  some (-1)
 else
  Option.bind (a0) fun x5 =>
  some (w64 ((w64 (x1*x5.Wire.Numbers))+x2))
def zde (a0:Option Wiring_) (a1:Panel_) (a2:Int) (a3:Int):Option (Int) :=
 Option.bind (idx ([a1.letters.c0,a1.letters.c1,a1.letters.c2,a1.letters.c3,a1.letters.c4]:List Int) a2) fun x1 =>
 Option.bind (idx ([a1.numbers.c0,a1.numbers.c1,a1.numbers.c2,a1.numbers.c3,a1.numbers.c4]:List Int) a3) fun x2 =>
 if decide (x1<0)=true then
  zct a0 x1 x2 true
 else
  zct a0 x1 x2 (decide (x2<0))
def zbT (a0:WirePress) (a1:Option Wiring_) (a2:Panel_):Option (Bool) :=
 Option.bind (zde a1 a2 a0.Letter a0.Number) fun r1 =>
 some (r1 != a0.Got)
def zdf (n:Nat) (a0:Option Wiring_) (a1:List WireFault) (a2:List WirePress):Option (Bool) :=
 Option.bind (zhc n a1) fun r1 =>
 Option.bind (za8 n (fun (x0:WirePress) (_:Unit)=>(zbT x0 a0 r1).map fun y=>(y,())) a2 ()) fun r2 =>
 some (!r2.1)
def zfI (n:Nat) (a0:Wire) (a1:List WireFault):Option (Bool×Int) :=
 Option.bind (zgE n a0) fun r1 =>
 if (r1 != 0)=true then
  some (false,r1)
 else
  Option.bind (zil n a0) fun r3 =>
  Option.bind (zda n r3 a1) fun r4 =>
  if (!r4)=true then
   some (false,1)
  else
   Option.bind (zdf n r3 a1 a0.Presses) fun r6 =>
   some (r6,0)
def zdN (a0:Train_):Option (Wire) :=
 some (⟨a0.Pulse.Letters,a0.Pulse.Numbers,([]:List WirePress),0⟩:Wire)
def zdu (n:Nat) (a0:Train_) (a1:List WireFault):Option (Bool) :=
 Option.bind (zdN a0) fun r1 =>
 Option.bind (zfI n r1 a1) fun r2 =>
 some (r2.2==0)
def zdU (n:Nat) (a1:List WireFault) (a2:Int) (a3:Int) (r3:(Option Wiring_)) (v4:Bool):Option (Int×Int) :=
 if v4=true then
  some (0,1)
 else
  Option.bind (zhc n a1) fun r6 =>
  Option.bind (zde r3 r6 a2 a3) fun r7 =>
  some (r7,0)
def zgF (n:Nat) (a0:Wire) (a1:List WireFault) (a2:Int) (a3:Int):Option (Int×Int) :=
 Option.bind (zgE n a0) fun r1 =>
 if (r1 != 0)=true then
  some (0,r1)
 else
  Option.bind (zil n a0) fun r3 =>
  Option.bind (zda n r3 a1) fun r8 =>
  if (!r8)=true then
   zdU n a1 a2 a3 r3 true
  else
   Option.bind (ze6 a0 a2 a3) fun r10 =>
   zdU n a1 a2 a3 r3 (!r10)
def zfb (r3:(List Int)×Int) (v6:List Int):Option ((List Int)×Int) :=
 Option.bind (zuW r3.1.length v6) fun x7 =>
 some (v6,0)
def zex (n:Nat) (a0:Pulse) (a1:List WireFault) (r3:(List Int)×Int) (rec1:Int->(List Int)->Option ((List Int)×Int)) (v9:Int) (v10:List Int):Option ((List Int)×Int) :=
 if decide (v9<(r3.1.length:Int))=true then
  Option.bind (zsE r3.1.length v10 v9) fun x12 =>
  Option.bind (zdN (⟨a0⟩:Train_)) fun r13 =>
  Option.bind (quo x12 a0.Numbers) fun q14 =>
  Option.bind (rem x12 a0.Numbers) fun q15 =>
  Option.bind (zgF n r13 a1 q14 q15) fun r16 =>
  Option.bind (zsE r3.1.length v10 v9) fun x17 =>
  rec1 (w64 (v9+1)) (v10.set (Int.toNat v9) r16.1)
 else
  zfb r3 v10
def zcS (n:Nat) (a0:Pulse) (a1:List WireFault) (r3:(List Int)×Int):Nat->Int->(List Int)->Option ((List Int)×Int)
 | 0,_,_=>none
 | m+1,v9,v10=>zex n a0 a1 r3 (zcS n a0 a1 r3 m) v9 v10
def zgY (n:Nat) (a0:Pulse) (a1:List WireFault):Option ((List Int)×Int) :=
 Option.bind (zeg n (fun (x0:Train_) (_:Unit)=>(zdu n x0 a1).map fun y=>(y,())) a0 ()) fun r1 =>
 if (r1.1.2 != 0)=true then
  some (([]:List Int),r1.1.2)
 else
  Option.bind (zfz n r1.1.1) fun r3 =>
  if (r3.2 != 0)=true then
   some (([]:List Int),r3.2)
  else
   if (r3.1.length==0)=true then
    some (([]:List Int),0)
   else
    zcS n a0 a1 r3 n 0 r3.1
def zfc (v4:List WireFault):Option ((List WireFault)) :=
 some v4
def zfd (rec1:(List WireFault)->Int->Option ((List WireFault))) (v6:Int) (v8:List WireFault):Option ((List WireFault)) :=
 rec1 v8 (w64 (v6+1))
def zf5 (rec1:(List WireFault)->Int->Option ((List WireFault))) (a0:Wire) (v6:Int) (rec2:(List WireFault)->Int->Option ((List WireFault))) (v9:List WireFault) (v10:Int):Option ((List WireFault)) :=
 if decide (v10<a0.Numbers)=true then
  Option.bind (app v9 ([(⟨4,v6,v10⟩:WireFault)]:List WireFault)) fun l12 =>
  rec2 l12 (w64 (v10+1))
 else
  zfd rec1 v6 v9
def zd3 (rec1:(List WireFault)->Int->Option ((List WireFault))) (a0:Wire) (v6:Int):Nat->(List WireFault)->Int->Option ((List WireFault))
 | 0,_,_=>none
 | m+1,v9,v10=>zf5 rec1 a0 v6 (zd3 rec1 a0 v6 m) v9 v10
def zf6 (n:Nat) (a0:Wire) (rec1:(List WireFault)->Int->Option ((List WireFault))) (v5:List WireFault) (v6:Int):Option ((List WireFault)) :=
 if decide (v6<a0.Numbers)=true then
  zd3 rec1 a0 v6 n v5 (w64 (v6+1))
 else
  zfc v5
def zbp (n:Nat) (a0:Wire):Nat->(List WireFault)->Int->Option ((List WireFault))
 | 0,_,_=>none
 | m+1,v5,v6=>zf6 n a0 (zbp n a0 m) v5 v6
def zfe (n:Nat) (a0:Wire) (v3:List WireFault):Option ((List WireFault)) :=
 zbp n a0 n v3 0
def zff (rec3:(List WireFault)->Int->Option ((List WireFault))) (v14:Int) (v16:List WireFault):Option ((List WireFault)) :=
 rec3 v16 (w64 (v14+1))
def zf7 (rec3:(List WireFault)->Int->Option ((List WireFault))) (a0:Wire) (v14:Int) (rec4:(List WireFault)->Int->Option ((List WireFault))) (v17:List WireFault) (v18:Int):Option ((List WireFault)) :=
 if decide (v18<a0.Letters)=true then
  Option.bind (app v17 ([(⟨3,v14,v18⟩:WireFault)]:List WireFault)) fun l20 =>
  rec4 l20 (w64 (v18+1))
 else
  zff rec3 v14 v17
def zd4 (rec3:(List WireFault)->Int->Option ((List WireFault))) (a0:Wire) (v14:Int):Nat->(List WireFault)->Int->Option ((List WireFault))
 | 0,_,_=>none
 | m+1,v17,v18=>zf7 rec3 a0 v14 (zd4 rec3 a0 v14 m) v17 v18
def zf8 (n:Nat) (a0:Wire) (rec3:(List WireFault)->Int->Option ((List WireFault))) (v13:List WireFault) (v14:Int):Option ((List WireFault)) :=
 if decide (v14<a0.Letters)=true then
  zd4 rec3 a0 v14 n v13 (w64 (v14+1))
 else
  zfe n a0 v13
def zbq (n:Nat) (a0:Wire):Nat->(List WireFault)->Int->Option ((List WireFault))
 | 0,_,_=>none
 | m+1,v13,v14=>zf8 n a0 (zbq n a0 m) v13 v14
def zfg (n:Nat) (a0:Wire) (v2:List WireFault):Option ((List WireFault)) :=
 zbq n a0 n v2 0
def zf9 (n:Nat) (a0:Wire) (rec5:(List WireFault)->Int->Option ((List WireFault))) (v21:List WireFault) (v22:Int):Option ((List WireFault)) :=
 if decide (v22<a0.Numbers)=true then
  Option.bind (app v21 ([(⟨2,v22,0⟩:WireFault)]:List WireFault)) fun l24 =>
  rec5 l24 (w64 (v22+1))
 else
  zfg n a0 v21
def zd5 (n:Nat) (a0:Wire):Nat->(List WireFault)->Int->Option ((List WireFault))
 | 0,_,_=>none
 | m+1,v21,v22=>zf9 n a0 (zd5 n a0 m) v21 v22
def zfh (n:Nat) (a0:Wire) (v1:List WireFault):Option ((List WireFault)) :=
 zd5 n a0 n v1 0
def zga (n:Nat) (a0:Wire) (rec6:(List WireFault)->Int->Option ((List WireFault))) (v25:List WireFault) (v26:Int):Option ((List WireFault)) :=
 if decide (v26<a0.Letters)=true then
  Option.bind (app v25 ([(⟨1,v26,0⟩:WireFault)]:List WireFault)) fun l28 =>
  rec6 l28 (w64 (v26+1))
 else
  zfh n a0 v25
def zd6 (n:Nat) (a0:Wire):Nat->(List WireFault)->Int->Option ((List WireFault))
 | 0,_,_=>none
 | m+1,v25,v26=>zga n a0 (zd6 n a0 m) v25 v26
def zgG (n:Nat) (a0:Wire):Option ((List WireFault)) :=
 zd6 n a0 n ([]:List WireFault) 0
def zeE:Option (Int) :=
 some (-1)
def zc5 (a0:List WireFault) (a1:WireFault) (rec1:Int->Option (Int)) (v1:Int):Option (Int) :=
 if decide (v1<(a0.length:Int))=true then
  Option.bind (idx a0 v1) fun x3 =>
  if ((x3.Kind==a1.Kind)&&((x3.A==a1.A)&&((x3.B==a1.B)&&true)))=true then
   some v1
  else
   rec1 (w64 (v1+1))
 else
  zeE
def zbZ (a0:List WireFault) (a1:WireFault):Nat->Int->Option (Int)
 | 0,_=>none
 | m+1,v1=>zc5 a0 a1 (zbZ a0 a1 m) v1
def zek (n:Nat) (a0:List WireFault) (a1:WireFault):Option (Int) :=
 zbZ a0 a1 n 0
def zcM (v1:Bool):Option (Bool) :=
 some v1
def ziI (a0:WireFault) (a1:WireFault):Option (Bool) :=
 if (a0.Kind==a1.Kind)=true then
  if decide (a0.Kind≥3)=true then
   if (a0.A==a1.A)=true then
    zcM true
   else
    if (a0.A==a1.B)=true then
     zcM true
    else
     if (a0.B==a1.A)=true then
      zcM true
     else
      zcM (a0.B==a1.B)
  else
   zcM false
 else
  zcM false
def zfJ:Option (Bool) :=
 some true
def zeF (rec1:Int->Int->Option (Bool)) (v3:Int) (v5:Int):Option (Bool) :=
 rec1 v5 (w64 (v3+1))
def zeO (rec1:Int->Int->Option (Bool)) (a1:List WireFault) (v3:Int) (r7:Int) (rec2:Int->Option (Bool)) (v9:Int):Option (Bool) :=
 if decide (v9<v3)=true then
  Option.bind (idx a1 v9) fun x11 =>
  Option.bind (idx a1 v3) fun x12 =>
  Option.bind (ziI x11 x12) fun r13 =>
  if r13=true then
   some false
  else
   rec2 (w64 (v9+1))
 else
  zeF rec1 v3 r7
def zdj (rec1:Int->Int->Option (Bool)) (a1:List WireFault) (v3:Int) (r7:Int):Nat->Int->Option (Bool)
 | 0,_=>none
 | m+1,v9=>zeO rec1 a1 v3 r7 (zdj rec1 a1 v3 r7 m) v9
def zeP (n:Nat) (a1:List WireFault) (r1:(List WireFault)) (rec1:Int->Int->Option (Bool)) (v2:Int) (v3:Int):Option (Bool) :=
 if decide (v3<(a1.length:Int))=true then
  Option.bind (idx a1 v3) fun x6 =>
  Option.bind (zek n r1 x6) fun r7 =>
  if decide (r7<=v2)=true then
   some false
  else
   zdj rec1 a1 v3 r7 n 0
 else
  zfJ
def zbd (n:Nat) (a1:List WireFault) (r1:(List WireFault)):Nat->Int->Int->Option (Bool)
 | 0,_,_=>none
 | m+1,v2,v3=>zeP n a1 r1 (zbd n a1 r1 m) v2 v3
def zhu (n:Nat) (a0:Wire) (a1:List WireFault):Option (Bool) :=
 Option.bind (zgG n a0) fun r1 =>
 zbd n a1 r1 n (-1) 0
def zh6 (a0:Pulse):Option (Wire) :=
 some (⟨a0.Letters,a0.Numbers,([]:List WirePress),0⟩:Wire)
def zfi (v1:List (List Int)):Option ((List (List Int))) :=
 some v1
def zdH (rec:(List Int)->Int->Int->Int->Option ((List (List Int)))) (rec1:(List (List Int))->Int->Option ((List (List Int)))) (a0:List Int) (a2:Int) (a3:Int) (v2:List (List Int)) (v3:Int) (v4:Bool):Option ((List (List Int))) :=
 if v4=true then
  Option.bind (app ([]:List Int) a0) fun l6 =>
  Option.bind (app l6 ([v3]:List Int)) fun l7 =>
  Option.bind (rec l7 (w64 (v3+1)) a2 (w64 (a3-1))) fun r8 =>
  Option.bind (app v2 r8) fun l9 =>
  rec1 l9 (w64 (v3+1))
 else
  zfi v2
def zel (rec:(List Int)->Int->Int->Int->Option ((List (List Int)))) (a0:List Int) (a2:Int) (a3:Int) (rec1:(List (List Int))->Int->Option ((List (List Int)))) (v2:List (List Int)) (v3:Int):Option ((List (List Int))) :=
 if decide (v3<a2)=true then
  zdH rec rec1 a0 a2 a3 v2 v3 (decide (a3>0))
 else
  zdH rec rec1 a0 a2 a3 v2 v3 false
def zcm (rec:(List Int)->Int->Int->Int->Option ((List (List Int)))) (a0:List Int) (a2:Int) (a3:Int):Nat->(List (List Int))->Int->Option ((List (List Int)))
 | 0,_,_=>none
 | m+1,v2,v3=>zel rec a0 a2 a3 (zcm rec a0 a2 a3 m) v2 v3
def zgZ (n:Nat) (rec:(List Int)->Int->Int->Int->Option ((List (List Int)))) (a0:List Int) (a1:Int) (a2:Int) (a3:Int):Option ((List (List Int))) :=
 zcm rec a0 a2 a3 n ([a0]:List (List Int)) a1
def zey:Nat->(List Int)->Int->Int->Int->Option ((List (List Int)))
 | 0,_,_,_,_=>none
 | n+1,a0,a1,a2,a3=>zgZ n (zey n) a0 a1 a2 a3
def zeG (v1:Int):Option (Int) :=
 some v1
def zdV (rec1:Int->Option (Int)) (v2:Int) (v3:Bool):Option (Int) :=
 if v3=true then
  rec1 (w64 (v2+1))
 else
  zeG v2
def zeQ (a0:Pulse) (a1:List Int) (a2:Int) (rec1:Int->Option (Int)) (v2:Int):Option (Int) :=
 if decide ((w64 (a2+v2))<(a1.length:Int))=true then
  Option.bind (idx a1 (w64 (a2+v2))) fun x6 =>
  Option.bind (idx a1 (w64 ((w64 (a2+v2))-1))) fun x7 =>
  Option.bind (zbS (w64 (x6-x7)) (w64 (a0.Pitch-a0.Slack)) (w64 (a0.Pitch+a0.Slack))) fun r8 =>
  zdV rec1 v2 r8
 else
  zdV rec1 v2 false
def zcn (a0:Pulse) (a1:List Int) (a2:Int):Nat->Int->Option (Int)
 | 0,_=>none
 | m+1,v2=>zeQ a0 a1 a2 (zcn a0 a1 a2 m) v2
def zhv (n:Nat) (a0:Pulse) (a1:List Int) (a2:Int):Option (Int) :=
 zcn a0 a1 a2 n 1
def zeH (v1:List Int):Option ((List Int)×Bool) :=
 some (v1,true)
def zdW (rec1:(List Int)->Int->Option ((List Int)×Bool)) (v3:Int) (r5:Int) (v6:Int) (l9:List Int) (v10:Bool):Option ((List Int)×Bool) :=
 if v10=true then
  some (([]:List Int),false)
 else
  rec1 l9 (w64 (v3+(w64 (r5+v6))))
def zb0 (rec1:(List Int)->Int->Option ((List Int)×Bool)) (a0:Pulse) (a1:List Int) (v2:List Int) (v3:Int) (r5:Int) (v6:Int) (v7:Bool):Option ((List Int)×Bool) :=
 if v7=true then
  some (([]:List Int),false)
 else
  Option.bind (app v2 ([w64 ((w64 ((w64 ((w64 (r5-1))*a0.Numbers))+v6))-1)]:List Int)) fun l9 =>
  if decide ((w64 (v3+(w64 (r5+v6))))<(a1.length:Int))=true then
   Option.bind (idx a1 (w64 (v3+(w64 (r5+v6))))) fun x13 =>
   Option.bind (idx a1 (w64 ((w64 (v3+(w64 (r5+v6))))-1))) fun x14 =>
   zdW rec1 v3 r5 v6 l9 (decide ((w64 (x13-x14))<a0.Pause))
  else
   zdW rec1 v3 r5 v6 l9 false
def zdX (rec1:(List Int)->Int->Option ((List Int)×Bool)) (a0:Pulse) (a1:List Int) (v2:List Int) (v3:Int) (r5:Int) (v6:Int):Option ((List Int)×Bool) :=
 if decide (r5>a0.Letters)=true then
  zb0 rec1 a0 a1 v2 v3 r5 v6 true
 else
  Option.bind (zbS v6 1 a0.Numbers) fun r16 =>
  zb0 rec1 a0 a1 v2 v3 r5 v6 (!r16)
def zdk (n:Nat) (rec1:(List Int)->Int->Option ((List Int)×Bool)) (a0:Pulse) (a1:List Int) (v2:List Int) (v3:Int) (r5:Int) (v17:Bool):Option ((List Int)×Bool) :=
 if v17=true then
  Option.bind (zhv n a0 a1 (w64 (v3+r5))) fun r19 =>
  zdX rec1 a0 a1 v2 v3 r5 r19
 else
  zdX rec1 a0 a1 v2 v3 r5 0
def zdO (n:Nat) (a0:Pulse) (a1:List Int) (rec1:(List Int)->Int->Option ((List Int)×Bool)) (v2:List Int) (v3:Int):Option ((List Int)×Bool) :=
 if decide (v3<(a1.length:Int))=true then
  Option.bind (zhv n a0 a1 v3) fun r5 =>
  if decide ((w64 (v3+r5))<(a1.length:Int))=true then
   Option.bind (idx a1 (w64 (v3+r5))) fun x21 =>
   Option.bind (idx a1 (w64 ((w64 (v3+r5))-1))) fun x22 =>
   Option.bind (zbS (w64 (x21-x22)) a0.Gap (w64 (a0.Pause-1))) fun r23 =>
   zdk n rec1 a0 a1 v2 v3 r5 r23
  else
   zdk n rec1 a0 a1 v2 v3 r5 false
 else
  zeH v2
def zaY (n:Nat) (a0:Pulse) (a1:List Int):Nat->(List Int)->Int->Option ((List Int)×Bool)
 | 0,_,_=>none
 | m+1,v2,v3=>zdO n a0 a1 (zaY n a0 a1 m) v2 v3
def zhw (n:Nat) (a0:Pulse) (a1:List Int):Option ((List Int)×Bool) :=
 zaY n a0 a1 n ([]:List Int) 0
def zhx:Option (Bool) :=
 some false
def zgl (a0:List Int) (a1:Int) (rec1:Int->Option (Bool)) (v1:Int):Option (Bool) :=
 if decide (v1<(a0.length:Int))=true then
  Option.bind (idx a0 v1) fun x3 =>
  if (x3==a1)=true then
   some true
  else
   rec1 (w64 (v1+1))
 else
  zhx
def zeU (a0:List Int) (a1:Int):Nat->Int->Option (Bool)
 | 0,_=>none
 | m+1,v1=>zgl a0 a1 (zeU a0 a1 m) v1
def zmb (n:Nat) (a0:List Int) (a1:Int):Option (Bool) :=
 zeU a0 a1 n 0
def zgm (v1:List Int):Option ((List Int)) :=
 some v1
def zfj (rec1:(List Int)->Int->Option ((List Int))) (v3:Int) (v5:List Int):Option ((List Int)) :=
 rec1 v5 (w64 (v3+1))
def zfk (n:Nat) (a0:List Int) (a1:List Int) (rec1:(List Int)->Int->Option ((List Int))) (v2:List Int) (v3:Int):Option ((List Int)) :=
 if decide (v3<(a0.length:Int))=true then
  Option.bind (zmb n a1 v3) fun r6 =>
  if (!r6)=true then
   Option.bind (idx a0 v3) fun x8 =>
   Option.bind (app v2 ([x8]:List Int)) fun l9 =>
   zfj rec1 v3 l9
  else
   zfj rec1 v3 v2
 else
  zgm v2
def zcK (n:Nat) (a0:List Int) (a1:List Int):Nat->(List Int)->Int->Option ((List Int))
 | 0,_,_=>none
 | m+1,v2,v3=>zfk n a0 a1 (zcK n a0 a1 m) v2 v3
def zju (n:Nat) (a0:List Int) (a1:List Int):Option ((List Int)) :=
 zcK n a0 a1 n ([]:List Int) 0
def zez (v2:List Reading):Option ((List Reading)) :=
 some v2
def zdv (rec1:(List Reading)->Int->Option ((List Reading))) (v4:Int) (v6:List Reading):Option ((List Reading)) :=
 rec1 v6 (w64 (v4+1))
def zdI (n:Nat) (a0:Pulse) (r1:(List (List Int))) (rec1:(List Reading)->Int->Option ((List Reading))) (v3:List Reading) (v4:Int):Option ((List Reading)) :=
 if decide (v4<(r1.length:Int))=true then
  Option.bind (idx r1 v4) fun x7 =>
  Option.bind (zju n a0.Times x7) fun r8 =>
  Option.bind (zhw n a0 r8) fun r9 =>
  if r9.2=true then
   Option.bind (idx r1 v4) fun x11 =>
   Option.bind (app v3 ([(⟨x11,r9.1⟩:Reading)]:List Reading)) fun l12 =>
   zdv rec1 v4 l12
  else
   zdv rec1 v4 v3
 else
  zez v3
def zbC (n:Nat) (a0:Pulse) (r1:(List (List Int))):Nat->(List Reading)->Int->Option ((List Reading))
 | 0,_,_=>none
 | m+1,v3,v4=>zdI n a0 r1 (zbC n a0 r1 m) v3 v4
def zfK (n:Nat) (a0:Pulse) (a1:Int):Option ((List Reading)) :=
 Option.bind (zey n ([]:List Int) 0 (a0.Times.length:Int) a1) fun r1 =>
 zbC n a0 r1 n ([]:List Reading) 0
def zgH (n:Nat) (a0:Pulse) (a1:Bool):Option ((List Reading)×Int) :=
 Option.bind (zfy n a0) fun r1 =>
 if (r1 != 0)=true then
  some (([]:List Reading),r1)
 else
  if (!a1)=true then
   some (([]:List Reading),1)
  else
   Option.bind (zfK n a0 a0.Sparks) fun r4 =>
   if ((r4.length:Int)==0)=true then
    some (([]:List Reading),3)
   else
    some (r4,0)
def zgn (r1:(List Reading)×Int):Option ((List Int)×Int) :=
 Option.bind (idx r1.1 0) fun x3 =>
 some (x3.List_,0)
def zfl (n:Nat) (r1:(List Reading)×Int) (rec1:Int->Option ((List Int)×Int)) (v4:Int):Option ((List Int)×Int) :=
 if decide (v4<(r1.1.length:Int))=true then
  Option.bind (idx r1.1 v4) fun x6 =>
  Option.bind (idx r1.1 0) fun x7 =>
  Option.bind (zbN n x6.List_ x7.List_) fun r8 =>
  if (!r8)=true then
   some (([]:List Int),2)
  else
   rec1 (w64 (v4+1))
 else
  zgn r1
def zdg (n:Nat) (r1:(List Reading)×Int):Nat->Int->Option ((List Int)×Int)
 | 0,_=>none
 | m+1,v4=>zfl n r1 (zdg n r1 m) v4
def zhd (n:Nat) (a0:Pulse):Option ((List Int)×Int) :=
 Option.bind (zgH n a0 true) fun r1 =>
 if (r1.2 != 0)=true then
  some (([]:List Int),r1.2)
 else
  zdg n r1 n 0
def zh7 (n:Nat) (a0:List WireFault) (a1:WireFault):Option (Bool) :=
 Option.bind (zek n a0 a1) fun r1 =>
 some (decide (r1≥0))
def zfL (a2:Int):Option (Int) :=
 some a2
def zeI (rec1:Int->Option (Int)) (v1:Int):Option (Int) :=
 rec1 (w64 (v1+1))
def zeR (a0:List WireFault) (a1:Int) (a2:Int) (rec1:Int->Option (Int)) (v1:Int):Option (Int) :=
 if decide (v1<(a0.length:Int))=true then
  Option.bind (idx a0 v1) fun x3 =>
  if (x3.Kind==a1)=true then
   if (x3.A==a2)=true then
    some x3.B
   else
    if (x3.B==a2)=true then
     some x3.A
    else
     zeI rec1 v1
  else
   zeI rec1 v1
 else
  zfL a2
def zco (a0:List WireFault) (a1:Int) (a2:Int):Nat->Int->Option (Int)
 | 0,_=>none
 | m+1,v1=>zeR a0 a1 a2 (zco a0 a1 a2 m) v1
def zgI (n:Nat) (a0:List WireFault) (a1:Int) (a2:Int):Option (Int) :=
 zco a0 a1 a2 n 0
def zdP (n:Nat) (a0:Wire) (a1:List WireFault) (a2:Int) (a3:Int) (v1:Bool):Option (Int) :=
 if v1=true then
  some (-1)
 else
  Option.bind (zgI n a1 3 a2) fun r3 =>
  Option.bind (zgI n a1 4 a3) fun r4 =>
  some (w64 ((w64 (r3*a0.Numbers))+r4))
def zgo (n:Nat) (a0:Wire) (a1:List WireFault) (a2:Int) (a3:Int):Option (Int) :=
 Option.bind (zh7 n a1 (⟨1,a2,0⟩:WireFault)) fun r5 =>
 if r5=true then
  zdP n a0 a1 a2 a3 true
 else
  Option.bind (zh7 n a1 (⟨2,a3,0⟩:WireFault)) fun r7 =>
  zdP n a0 a1 a2 a3 r7
def zfM (v8:List Int):Option ((List Int)×Int) :=
 some (v8,0)
def zeS (n:Nat) (a0:Pulse) (a1:List WireFault) (r6:(List Int)×Int) (rec1:(List Int)->Int->Option ((List Int)×Int)) (v9:List Int) (v10:Int):Option ((List Int)×Int) :=
 if decide (v10<(r6.1.length:Int))=true then
  Option.bind (zh6 a0) fun r12 =>
  Option.bind (idx r6.1 v10) fun x13 =>
  Option.bind (quo x13 a0.Numbers) fun q14 =>
  Option.bind (idx r6.1 v10) fun x15 =>
  Option.bind (rem x15 a0.Numbers) fun q16 =>
  Option.bind (zgo n r12 a1 q14 q16) fun r17 =>
  Option.bind (app v9 ([r17]:List Int)) fun l18 =>
  rec1 l18 (w64 (v10+1))
 else
  zfM v9
def zdl (n:Nat) (a0:Pulse) (a1:List WireFault) (r6:(List Int)×Int):Nat->(List Int)->Int->Option ((List Int)×Int)
 | 0,_,_=>none
 | m+1,v9,v10=>zeS n a0 a1 r6 (zdl n a0 a1 r6 m) v9 v10
def zhy (n:Nat) (a0:Pulse) (a1:List WireFault):Option ((List Int)×Int) :=
 Option.bind (zfy n a0) fun r1 =>
 if (r1 != 0)=true then
  some (([]:List Int),r1)
 else
  Option.bind (zh6 a0) fun r3 =>
  Option.bind (zhu n r3 a1) fun r4 =>
  if (!r4)=true then
   some (([]:List Int),1)
  else
   Option.bind (zhd n a0) fun r6 =>
   if (r6.2 != 0)=true then
    some (([]:List Int),r6.2)
   else
    zdl n a0 a1 r6 n ([]:List Int) 0
def zb9 (v1:Bool):Option (Bool) :=
 some v1
def zin (n:Nat) (a0:Pulse) (a1:Pulse):Option (Bool) :=
 if (a0.Letters==a1.Letters)=true then
  if (a0.Numbers==a1.Numbers)=true then
   if (a0.Pitch==a1.Pitch)=true then
    if (a0.Slack==a1.Slack)=true then
     if (a0.Gap==a1.Gap)=true then
      if (a0.Pause==a1.Pause)=true then
       if (a0.Sparks==a1.Sparks)=true then
        Option.bind (zbN n a0.Times a1.Times) fun r9 =>
        zb9 r9
       else
        zb9 false
      else
       zb9 false
     else
      zb9 false
    else
     zb9 false
   else
    zb9 false
  else
   zb9 false
 else
  zb9 false
def zcd (v8:Bool):Option (Bool) :=
 some v8
def zcE (n:Nat) (a0:Pulse) (r4:Pulse) (r6:(List Int)×Int) (r7:(List Int)×Int):Option (Bool) :=
 Option.bind (zbN n r6.1 r7.1) fun r9 =>
 if r9=true then
  if (r6.2==r7.2)=true then
   Option.bind (zin n r4 a0) fun r12 =>
   if r12=true then
    Option.bind (zhp n) fun r14 =>
    zcd r14
   else
    zcd false
  else
   zcd false
 else
  zcd false
def zcZ (n:Nat) (a0:Pulse) (a1:List WireFault) (r4:Pulse) (l5:List WireFault) (r6:(List Int)×Int) (r7:(List Int)×Int) (rec1:Int->Option (Bool)) (v15:Int):Option (Bool) :=
 if decide (v15<(l5.length:Int))=true then
  Option.bind (idx l5 v15) fun x17 =>
  Option.bind (idx a1 v15) fun x18 =>
  if (!((x17.Kind==x18.Kind)&&((x17.A==x18.A)&&((x17.B==x18.B)&&true))))=true then
   some false
  else
   rec1 (w64 (v15+1))
 else
  zcE n a0 r4 r6 r7
def zbm (n:Nat) (a0:Pulse) (a1:List WireFault) (r4:Pulse) (l5:List WireFault) (r6:(List Int)×Int) (r7:(List Int)×Int):Nat->Int->Option (Bool)
 | 0,_=>none
 | m+1,v15=>zcZ n a0 a1 r4 l5 r6 r7 (zbm n a0 a1 r4 l5 r6 r7 m) v15
def zbF (n:Nat) (a0:Pulse) (a1:List WireFault) (v1:Bool):Option (Bool) :=
 if v1=true then
  Option.bind (zhp n) fun r3 =>
  some r3
 else
  Option.bind (zik a0) fun r4 =>
  Option.bind (app ([]:List WireFault) a1) fun l5 =>
  Option.bind (zgY n r4 l5) fun r6 =>
  Option.bind (zhy n a0 a1) fun r7 =>
  zbm n a0 a1 r4 l5 r6 r7 n 0
def zfA (n:Nat) (a0:Pulse) (a1:List WireFault):Option (Bool) :=
 Option.bind (ziZ n a0) fun r20 =>
 if r20=true then
  zbF n a0 a1 true
 else
  zbF n a0 a1 (decide ((a1.length:Int)>40))
end Go.Law
