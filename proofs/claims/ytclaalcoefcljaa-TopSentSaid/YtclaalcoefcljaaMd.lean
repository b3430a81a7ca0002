/-
  What the functions compute (printed by gen.py).
  Conditions: none.
-/
import Derived.Test.YtclaalcoefcljaaAmPc
set_option linter.all false
namespace Go.Law
open Go Go.AM
set_option linter.unusedVariables false
structure TrayRecord where
 Front:Int
 Back:Int
 deriving DecidableEq,Inhabited,Repr
abbrev TrayRecord.cells (x:TrayRecord):List AV:=[.v (.int .i64 x.Front),.v (.int .i64 x.Back)]
structure TrayPress where
 Side:Int
 Time:Int
 deriving DecidableEq,Inhabited,Repr
abbrev TrayPress.cells (x:TrayPress):List AV:=[.v (.int .i64 x.Side),.v (.int .i64 x.Time)]
structure Tray where
 Records:List TrayRecord
 At:Int
 Way:Int
 Step:Int
 Presses:List TrayPress
 deriving DecidableEq,Inhabited,Repr
abbrev Tray.cells (x:Tray):List AV:=[.sl .no 2 (x.Records.map TrayRecord.cells),.v (.int .i64 x.At),.v (.int .i64 x.Way),.v (.int .i64 x.Step),.sl .no 2 (x.Presses.map TrayPress.cells)]
structure RoyalPart where
 Who:Int
 Percent:Int
 deriving DecidableEq,Inhabited,Repr
abbrev RoyalPart.cells (x:RoyalPart):List AV:=[.v (.int .i64 x.Who),.v (.int .i64 x.Percent)]
structure RoyalSide where
 Plays:Int
 Parts:List RoyalPart
 deriving DecidableEq,Inhabited,Repr
abbrev RoyalSide.cells (x:RoyalSide):List AV:=[.v (.int .i64 x.Plays),.sl .no 2 (x.Parts.map RoyalPart.cells)]
structure Royal where
 Pool:Int
 Sides:List RoyalSide
 Owed:List Int
 deriving DecidableEq,Inhabited,Repr
abbrev Royal.cells (x:Royal):List AV:=[.v (.int .i64 x.Pool),.sl .no 2 (x.Sides.map RoyalSide.cells),.sl .no 1 (x.Owed.map cI)]
structure Weights_ where
 of_:List Int
 all:Int
 deriving DecidableEq,Inhabited,Repr
abbrev Weights_.cells (x:Weights_):List AV:=[.sl .no 1 (x.of_.map cI),.v (.int .i64 x.all)]
structure TrayStand where
 At:Int
 Way:Int
 Side:Int
 deriving DecidableEq,Inhabited,Repr
abbrev TrayStand.cells (x:TrayStand):List AV:=[.v (.int .i64 x.At),.v (.int .i64 x.Way),.v (.int .i64 x.Side)]
structure Spell_ where
 TrayStand:TrayStand
 from_:Int
 deriving DecidableEq,Inhabited,Repr
abbrev Spell_.cells (x:Spell_):List AV:=[.v (.int .i64 x.TrayStand.At),.v (.int .i64 x.TrayStand.Way),.v (.int .i64 x.TrayStand.Side),.v (.int .i64 x.from_)]
structure TrayPlay where
 Side:Int
 Time:Int
 deriving DecidableEq,Inhabited,Repr
abbrev TrayPlay.cells (x:TrayPlay):List AV:=[.v (.int .i64 x.Side),.v (.int .i64 x.Time)]
structure Run_ where
 spells:List Spell_
 plays:List TrayPlay
 steps:Int
 end_:Int
 deriving DecidableEq,Inhabited,Repr
abbrev Run_.cells (x:Run_):List AV:=[.sl .no 4 (x.spells.map Spell_.cells),.sl .no 2 (x.plays.map TrayPlay.cells),.v (.int .i64 x.steps),.v (.int .i64 x.end_)]
structure Carriage_ where
 t:Tray
 queue:List TrayPress
 pins:List Bool
 now:Int
 at_:TrayStand
 run:Run_
 deriving DecidableEq,Inhabited,Repr
abbrev Carriage_.cells (x:Carriage_):List AV:=[.sl .no 2 (x.t.Records.map TrayRecord.cells),.v (.int .i64 x.t.At),.v (.int .i64 x.t.Way),.v (.int .i64 x.t.Step),.sl .no 2 (x.t.Presses.map TrayPress.cells),.sl .no 2 (x.queue.map TrayPress.cells),.sl .no 1 (x.pins.map cB),.v (.int .i64 x.now),.v (.int .i64 x.at_.At),.v (.int .i64 x.at_.Way),.v (.int .i64 x.at_.Side),.sl .no 4 (x.run.spells.map Spell_.cells),.sl .no 2 (x.run.plays.map TrayPlay.cells),.v (.int .i64 x.run.steps),.v (.int .i64 x.run.end_)]
structure WirePress where
 Letter:Int
 Number:Int
 Got:Int
 deriving DecidableEq,Inhabited,Repr
abbrev WirePress.cells (x:WirePress):List AV:=[.v (.int .i64 x.Letter),.v (.int .i64 x.Number),.v (.int .i64 x.Got)]
structure Wire where
 Letters:Int
 Numbers:Int
 Presses:List WirePress
 Faults:Int
 deriving DecidableEq,Inhabited,Repr
abbrev Wire.cells (x:Wire):List AV:=[.v (.int .i64 x.Letters),.v (.int .i64 x.Numbers),.sl .no 3 (x.Presses.map WirePress.cells),.v (.int .i64 x.Faults)]
structure WireFault where
 Kind:Int
 A:Int
 B:Int
 deriving DecidableEq,Inhabited,Repr
abbrev WireFault.cells (x:WireFault):List AV:=[.v (.int .i64 x.Kind),.v (.int .i64 x.A),.v (.int .i64 x.B)]
structure Wiring_ where
 Wire:Wire
 all:List WireFault
 deriving DecidableEq,Inhabited,Repr
abbrev Wiring_.cells (x:Wiring_):List AV:=[.v (.int .i64 x.Wire.Letters),.v (.int .i64 x.Wire.Numbers),.sl .no 3 (x.Wire.Presses.map WirePress.cells),.v (.int .i64 x.Wire.Faults),.sl .no 3 (x.all.map WireFault.cells)]
structure Keys_ where
 c0:Int
 c1:Int
 c2:Int
 c3:Int
 c4:Int
 deriving DecidableEq,Inhabited,Repr
abbrev Keys_.cells (x:Keys_):List AV:=[.v (.int .i64 x.c0),.v (.int .i64 x.c1),.v (.int .i64 x.c2),.v (.int .i64 x.c3),.v (.int .i64 x.c4)]
structure Panel_ where
 letters:Keys_
 numbers:Keys_
 deriving DecidableEq,Inhabited,Repr
abbrev Panel_.cells (x:Panel_):List AV:=[.v (.int .i64 x.letters.c0),.v (.int .i64 x.letters.c1),.v (.int .i64 x.letters.c2),.v (.int .i64 x.letters.c3),.v (.int .i64 x.letters.c4),.v (.int .i64 x.numbers.c0),.v (.int .i64 x.numbers.c1),.v (.int .i64 x.numbers.c2),.v (.int .i64 x.numbers.c3),.v (.int .i64 x.numbers.c4)]
structure Pulse where
 Letters:Int
 Numbers:Int
 Pitch:Int
 Slack:Int
 Gap:Int
 Pause:Int
 Sparks:Int
 Times:List Int
 deriving DecidableEq,Inhabited,Repr
abbrev Pulse.cells (x:Pulse):List AV:=[.v (.int .i64 x.Letters),.v (.int .i64 x.Numbers),.v (.int .i64 x.Pitch),.v (.int .i64 x.Slack),.v (.int .i64 x.Gap),.v (.int .i64 x.Pause),.v (.int .i64 x.Sparks),.sl .no 1 (x.Times.map cI)]
structure An163 where
 n:Int
 low:Int
 high:Int
 deriving DecidableEq,Inhabited,Repr
abbrev An163.cells (x:An163):List AV:=[.v (.int .i64 x.n),.v (.int .i64 x.low),.v (.int .i64 x.high)]
structure Train_ where
 Pulse:Pulse
 deriving DecidableEq,Inhabited,Repr
abbrev Train_.cells (x:Train_):List AV:=[.v (.int .i64 x.Pulse.Letters),.v (.int .i64 x.Pulse.Numbers),.v (.int .i64 x.Pulse.Pitch),.v (.int .i64 x.Pulse.Slack),.v (.int .i64 x.Pulse.Gap),.v (.int .i64 x.Pulse.Pause),.v (.int .i64 x.Pulse.Sparks),.sl .no 1 (x.Pulse.Times.map cI)]
structure Groups_ where
 letter:Int
 number:Int
 deriving DecidableEq,Inhabited,Repr
abbrev Groups_.cells (x:Groups_):List AV:=[.v (.int .i64 x.letter),.v (.int .i64 x.number)]
structure Reading_ where
 sparks:Int
 list:List Int
 deriving DecidableEq,Inhabited,Repr
abbrev Reading_.cells (x:Reading_):List AV:=[.v (.int .u64 x.sparks),.sl .no 1 (x.list.map cI)]
def zfy (v1:Bool):Option (Bool) :=
 some v1
def zic (a0:Tray):Option (Bool) :=
 if decide ((a0.Records.length:Int)>40)=true then
  zfy true
 else
  zfy (decide ((a0.Presses.length:Int)>40))
def zd3 (v1:Bool):Option (Bool) :=
 some v1
def zcq (a0:Int) (a1:Int) (a2:Int):Option (Bool) :=
 if decide (a1<=a0)=true then
  zd3 (decide (a0<=a2))
 else
  zd3 false
def zge (a0:Tray) (a1:Int):Option (Bool) :=
 Option.bind (zcq a1 0 (w64 ((w64 (2*(a0.Records.length:Int)))-1))) fun r1 =>
 some r1
def zgf (a0:Int):Option (Bool) :=
 Option.bind (zcq a0 0 9999) fun r1 =>
 some r1
def zeP:Option (Int) :=
 some 0
def zdd (rec1:Int->Option (Int)) (v2:Int) (v4:Bool):Option (Int) :=
 if v4=true then
  some 20
 else
  rec1 (w64 (v2+1))
def zdT (a0:Tray) (rec1:Int->Option (Int)) (v2:Int):Option (Int) :=
 if decide (v2<(a0.Presses.length:Int))=true then
  Option.bind (idx a0.Presses v2) fun x6 =>
  Option.bind (zge a0 x6.Side) fun r7 =>
  if (!r7)=true then
   zdd rec1 v2 true
  else
   Option.bind (idx a0.Presses v2) fun x9 =>
   Option.bind (zgf x9.Time) fun r10 =>
   zdd rec1 v2 (!r10)
 else
  zeP
def zbZ (a0:Tray):Nat->Int->Option (Int)
 | 0,_=>none
 | m+1,v2=>zdT a0 (zbZ a0 m) v2
def zfI (n:Nat) (a0:Tray) (a1:Int):Option (Int) :=
 if decide ((a0.Presses.length:Int)>a1)=true then
  some 20
 else
  zbZ a0 n 0
def zfp (n:Nat) (a0:Tray):Option (Int) :=
 Option.bind (zfI n a0 12) fun r3 =>
 some r3
def zdS (rec1:Int->Option (Int)) (v4:Int) (v6:Bool):Option (Int) :=
 if v6=true then
  some 20
 else
  rec1 (w64 (v4+1))
def zeQ (n:Nat) (a0:Tray) (rec1:Int->Option (Int)) (v4:Int):Option (Int) :=
 if decide (v4<(a0.Records.length:Int))=true then
  Option.bind (idx a0.Records v4) fun x8 =>
  Option.bind (zcq x8.Front 1 999) fun r9 =>
  if (!r9)=true then
   zdS rec1 v4 true
  else
   Option.bind (idx a0.Records v4) fun x11 =>
   Option.bind (zcq x11.Back 1 999) fun r12 =>
   zdS rec1 v4 (!r12)
 else
  zfp n a0
def zcb (n:Nat) (a0:Tray):Nat->Int->Option (Int)
 | 0,_=>none
 | m+1,v4=>zeQ n a0 (zcb n a0 m) v4
def zcc (n:Nat) (a0:Tray) (v1:Bool):Option (Int) :=
 if v1=true then
  some 20
 else
  zcb n a0 n 0
def zgJ (n:Nat) (a0:Tray):Option (Int) :=
 Option.bind (zcq (a0.Records.length:Int) 1 6) fun r13 =>
 if (!r13)=true then
  zcc n a0 true
 else
  Option.bind (zcq a0.At 0 (w64 ((a0.Records.length:Int)-1))) fun r15 =>
  if (!r15)=true then
   zcc n a0 true
  else
   if (a0.Way != 1)=true then
    if (a0.Way != (-1))=true then
     zcc n a0 true
    else
     Option.bind (zcq a0.Step 0 60) fun r19 =>
     zcc n a0 (!r19)
   else
    Option.bind (zcq a0.Step 0 60) fun r20 =>
    zcc n a0 (!r20)
def zhu (a0:Tray):Option (Tray) :=
 Option.bind (app ([]:List TrayRecord) a0.Records) fun l1 =>
 Option.bind (app ([]:List TrayPress) a0.Presses) fun l2 =>
 some (⟨l1,a0.At,a0.Way,a0.Step,l2⟩:Tray)
def zeG (v1:Bool):Option (Bool) :=
 some v1
def zhW (a0:Tray) (a1:Int):Option (Bool) :=
 if decide (a1≥0)=true then
  zeG (decide (a1<(w64 (2*(a0.Records.length:Int)))))
 else
  zeG false
def zeH (v1:Bool):Option (Bool) :=
 some v1
def zhX (a0:Int):Option (Bool) :=
 if decide (a0≥0)=true then
  zeH (decide (a0<=9999))
 else
  zeH false
def zfJ (v3:Bool):Option (Int) :=
 if (!v3)=true then
  some 20
 else
  some 0
def zej (rec1:Bool->Int->Option (Int)) (v6:Int) (v8:Bool):Option (Int) :=
 rec1 v8 (w64 (v6+1))
def ze3 (a0:Tray) (rec1:Bool->Int->Option (Int)) (v5:Bool) (v6:Int):Option (Int) :=
 if decide (v6<(a0.Presses.length:Int))=true then
  Option.bind (idx a0.Presses v6) fun x9 =>
  if v5=true then
   Option.bind (zhW a0 x9.Side) fun r11 =>
   if r11=true then
    Option.bind (zhX x9.Time) fun r13 =>
    zej rec1 v6 r13
   else
    zej rec1 v6 false
  else
   zej rec1 v6 false
 else
  zfJ v5
def zcC (a0:Tray):Nat->Bool->Int->Option (Int)
 | 0,_,_=>none
 | m+1,v5,v6=>ze3 a0 (zcC a0 m) v5 v6
def zgK (n:Nat) (a0:Tray) (v2:Bool):Option (Int) :=
 zcC a0 n v2 0
def zdh (rec2:Bool->Int->Option (Int)) (v15:Int) (v17:Bool):Option (Int) :=
 rec2 v17 (w64 (v15+1))
def ze4 (n:Nat) (a0:Tray) (rec2:Bool->Int->Option (Int)) (v14:Bool) (v15:Int):Option (Int) :=
 if decide (v15<(a0.Records.length:Int))=true then
  Option.bind (idx a0.Records v15) fun x18 =>
  if v14=true then
   if decide (x18.Front≥1)=true then
    if decide (x18.Front<=999)=true then
     if decide (x18.Back≥1)=true then
      zdh rec2 v15 (decide (x18.Back<=999))
     else
      zdh rec2 v15 false
    else
     zdh rec2 v15 false
   else
    zdh rec2 v15 false
  else
   zdh rec2 v15 false
 else
  zgK n a0 v14
def zcD (n:Nat) (a0:Tray):Nat->Bool->Int->Option (Int)
 | 0,_,_=>none
 | m+1,v14,v15=>ze4 n a0 (zcD n a0 m) v14 v15
def zbt (n:Nat) (a0:Tray) (v1:Bool):Option (Int) :=
 zcD n a0 n v1 0
def zhv (n:Nat) (a0:Tray):Option (Int) :=
 if decide ((a0.Records.length:Int)≥1)=true then
  if decide ((a0.Records.length:Int)<=6)=true then
   if decide (a0.At≥0)=true then
    if decide (a0.At<(a0.Records.length:Int))=true then
     if (a0.Way==1)=true then
      if decide (a0.Step≥0)=true then
       if decide (a0.Step<=60)=true then
        zbt n a0 (decide ((a0.Presses.length:Int)<=12))
       else
        zbt n a0 false
      else
       zbt n a0 false
     else
      if (a0.Way==(-1))=true then
       if decide (a0.Step≥0)=true then
        if decide (a0.Step<=60)=true then
         zbt n a0 (decide ((a0.Presses.length:Int)<=12))
        else
         zbt n a0 false
       else
        zbt n a0 false
      else
       zbt n a0 false
    else
     zbt n a0 false
   else
    zbt n a0 false
  else
   zbt n a0 false
 else
  zbt n a0 false
def zbU (a0:List TrayPress):Option (List TrayPress):=app [] a0
def zaV {S:Type} (rec1:Int->(List TrayPress)->S->Option (Unit×((List TrayPress)×S))) (v2:Int) (v6:List TrayPress) (v7:S):Option (Unit×((List TrayPress)×S)) :=
 rec1 (w64 (v2+1)) v6 v7
def zaB {S:Type} (rec1:Int->(List TrayPress)->S->Option (Unit×((List TrayPress)×S))) (rec2:Int->(List TrayPress)->S->Option (Unit×((List TrayPress)×S))) (mz0:Nat) (v2:Int) (v9:Int) (v10:List TrayPress) (v12:Bool) (v13:S):Option (Unit×((List TrayPress)×S)) :=
 if v12=true then
  Option.bind (zkW mz0 v10 (w64 (v9-1))) fun x15 =>
  Option.bind (zkW mz0 v10 v9) fun x16 =>
  Option.bind (zkW mz0 v10 v9) fun x17 =>
  Option.bind (zkW mz0 (v10.set (Int.toNat v9) x15) (w64 (v9-1))) fun x18 =>
  rec2 (w64 (v9-1)) ((v10.set (Int.toNat v9) x15).set (Int.toNat (w64 (v9-1))) x16) v13
 else
  zaV rec1 v2 v10 v13
def zaR {S:Type} (rec1:Int->(List TrayPress)->S->Option (Unit×((List TrayPress)×S))) (a1:Int) (aF:TrayPress->TrayPress->S->Option (Int×S)) (mz0:Nat) (v2:Int) (rec2:Int->(List TrayPress)->S->Option (Unit×((List TrayPress)×S))) (v9:Int) (v10:List TrayPress) (v11:S):Option (Unit×((List TrayPress)×S)) :=
 if decide (v9>a1)=true then
  Option.bind (zkW mz0 v10 v9) fun x20 =>
  Option.bind (zkW mz0 v10 (w64 (v9-1))) fun x21 =>
  Option.bind (aF x20 x21 v11) fun r22 =>
  zaB rec1 rec2 mz0 v2 v9 v10 (decide (r22.1<0)) r22.2
 else
  zaB rec1 rec2 mz0 v2 v9 v10 false v11
def zao {S:Type} (rec1:Int->(List TrayPress)->S->Option (Unit×((List TrayPress)×S))) (a1:Int) (aF:TrayPress->TrayPress->S->Option (Int×S)) (mz0:Nat) (v2:Int):Nat->Int->(List TrayPress)->S->Option (Unit×((List TrayPress)×S))
 | 0,_,_,_=>none
 | m+1,v9,v10,v11=>zaR rec1 a1 aF mz0 v2 (zao rec1 a1 aF mz0 v2 m) v9 v10 v11
def zaS {S:Type} (n:Nat) (a1:Int) (a2:Int) (aF:TrayPress->TrayPress->S->Option (Int×S)) (mz0:Nat) (rec1:Int->(List TrayPress)->S->Option (Unit×((List TrayPress)×S))) (v2:Int) (v3:List TrayPress) (v4:S):Option (Unit×((List TrayPress)×S)) :=
 if decide (v2<a2)=true then
  zao rec1 a1 aF mz0 v2 n v2 v3 v4
 else
  some ((),(v3,v4))
def zab {S:Type} (n:Nat) (a1:Int) (a2:Int) (aF:TrayPress->TrayPress->S->Option (Int×S)) (mz0:Nat):Nat->Int->(List TrayPress)->S->Option (Unit×((List TrayPress)×S))
 | 0,_,_,_=>none
 | m+1,v2,v3,v4=>zaS n a1 a2 aF mz0 (zab n a1 a2 aF mz0 m) v2 v3 v4
def za1 {S:Type} (n:Nat) (aF:TrayPress->TrayPress->S->Option (Int×S)) (a1:Int) (a2:Int) (mz0:Nat) (st:(List TrayPress)×S):Option (Unit×((List TrayPress)×S)) :=
 zab n a1 a2 aF mz0 n (w64 (a1+1)) st.1 st.2
def za9 (rec1:Int->Option (Unit)) (v1:Int):Option (Unit) :=
 rec1 (w64 (v1+1))
def zba (rec1:Int->Option (Unit)) (v1:Int):Option (Unit) :=
 za9 rec1 v1
def zbV (rec1:Int->Option (Unit)) (a1:Int) (v1:Int) (rec2:Int->Option (Unit)) (v3:Int):Option (Unit) :=
 if decide (v3>a1)=true then
  none
 else
  zba rec1 v1
def zaT (rec1:Int->Option (Unit)) (a1:Int) (v1:Int):Nat->Int->Option (Unit)
 | 0,_=>none
 | m+1,v3=>zbV rec1 a1 v1 (zaT rec1 a1 v1 m) v3
def za3 (n:Nat) (a1:Int) (a2:Int) (rec1:Int->Option (Unit)) (v1:Int):Option (Unit) :=
 if decide (v1<a2)=true then
  zaT rec1 a1 v1 n v1
 else
  some ()
def zae (n:Nat) (a1:Int) (a2:Int):Nat->Int->Option (Unit)
 | 0,_=>none
 | m+1,v1=>za3 n a1 a2 (zae n a1 a2 m) v1
def zaY (n:Nat) (a1:Int) (a2:Int):Option (Unit) :=
 zae n a1 a2 n (w64 (a1+1))
def zbW {S:Type} (rec1:Int->Option (Unit×((List TrayPress)×S))) (v5:Int):Option (Unit×((List TrayPress)×S)) :=
 rec1 (w64 (v5*2))
def zbX {S:Type} (rec1:Int->Option (Unit×((List TrayPress)×S))) (a1:Int) (v5:Int) (v7:Int):Option (Unit×((List TrayPress)×S)) :=
 if decide ((w64 (v7+v5))<a1)=true then
  none
 else
  zbW rec1 v5
def zcL {S:Type} (rec1:Int->Option (Unit×((List TrayPress)×S))) (a1:Int) (v5:Int) (rec2:Int->Int->Option (Unit×((List TrayPress)×S))) (v9:Int) (v10:Int):Option (Unit×((List TrayPress)×S)) :=
 if decide (v10<=a1)=true then
  none
 else
  zbX rec1 a1 v5 v9
def zbe {S:Type} (rec1:Int->Option (Unit×((List TrayPress)×S))) (a1:Int) (v5:Int):Nat->Int->Int->Option (Unit×((List TrayPress)×S))
 | 0,_,_=>none
 | m+1,v9,v10=>zcL rec1 a1 v5 (zbe rec1 a1 v5 m) v9 v10
def zbG {S:Type} (n:Nat) (a1:Int) (r4:Unit×((List TrayPress)×S)) (rec1:Int->Option (Unit×((List TrayPress)×S))) (v5:Int):Option (Unit×((List TrayPress)×S)) :=
 if decide (v5<a1)=true then
  zbe rec1 a1 v5 n 0 (w64 (2*v5))
 else
  some ((),(r4.2.1,r4.2.2))
def zal {S:Type} (n:Nat) (a1:Int) (r4:Unit×((List TrayPress)×S)):Nat->Int->Option (Unit×((List TrayPress)×S))
 | 0,_=>none
 | m+1,v5=>zbG n a1 r4 (zal n a1 r4 m) v5
def zbf {S:Type} (n:Nat) (a1:Int) (aF:TrayPress->TrayPress->S->Option (Int×S)) (mz0:Nat) (v1:Int) (v2:List TrayPress) (v3:S):Option (Unit×((List TrayPress)×S)) :=
 Option.bind (za1 n aF v1 a1 mz0 (v2,v3)) fun r4 =>
 zal n a1 r4 n 20
def zbH {S:Type} (n:Nat) (a1:Int) (aF:TrayPress->TrayPress->S->Option (Int×S)) (mz0:Nat) (rec3:Int->Int->(List TrayPress)->S->Option (Unit×((List TrayPress)×S))) (v14:Int) (v15:Int) (v16:List TrayPress) (v17:S):Option (Unit×((List TrayPress)×S)) :=
 if decide (v15<=a1)=true then
  Option.bind (za1 n aF v14 v15 mz0 (v16,v17)) fun r19 =>
  rec3 v15 (w64 (v15+20)) r19.2.1 r19.2.2
 else
  zbf n a1 aF mz0 v14 v16 v17
def zaX {S:Type} (n:Nat) (a1:Int) (aF:TrayPress->TrayPress->S->Option (Int×S)) (mz0:Nat):Nat->Int->Int->(List TrayPress)->S->Option (Unit×((List TrayPress)×S))
 | 0,_,_,_,_=>none
 | m+1,v14,v15,v16,v17=>zbH n a1 aF mz0 (zaX n a1 aF mz0 m) v14 v15 v16 v17
def zch {S:Type} (n:Nat) (aF:TrayPress->TrayPress->S->Option (Int×S)) (a1:Int) (mz0:Nat) (st:(List TrayPress)×S):Option (Unit×((List TrayPress)×S)) :=
 zaX n a1 aF mz0 n 0 20 st.1 st.2
def zbI (rec1:Int->Option (Unit)) (v3:Int):Option (Unit) :=
 rec1 (w64 (v3*2))
def zbJ (rec1:Int->Option (Unit)) (a1:Int) (v3:Int) (v5:Int):Option (Unit) :=
 if decide ((w64 (v5+v3))<a1)=true then
  none
 else
  zbI rec1 v3
def zcB (rec1:Int->Option (Unit)) (a1:Int) (v3:Int) (rec2:Int->Int->Option (Unit)) (v7:Int) (v8:Int):Option (Unit) :=
 if decide (v8<=a1)=true then
  none
 else
  zbJ rec1 a1 v3 v7
def za4 (rec1:Int->Option (Unit)) (a1:Int) (v3:Int):Nat->Int->Int->Option (Unit)
 | 0,_,_=>none
 | m+1,v7,v8=>zcB rec1 a1 v3 (za4 rec1 a1 v3 m) v7 v8
def zbv (n:Nat) (a1:Int) (rec1:Int->Option (Unit)) (v3:Int):Option (Unit) :=
 if decide (v3<a1)=true then
  za4 rec1 a1 v3 n 0 (w64 (2*v3))
 else
  some ()
def zaj (n:Nat) (a1:Int):Nat->Int->Option (Unit)
 | 0,_=>none
 | m+1,v3=>zbv n a1 (zaj n a1 m) v3
def za5 (n:Nat) (a1:Int) (v1:Int):Option (Unit) :=
 Option.bind (zaY n v1 a1) fun r2 =>
 zaj n a1 n 20
def zbw (n:Nat) (a1:Int) (rec3:Int->Int->Option (Unit)) (v10:Int) (v11:Int):Option (Unit) :=
 if decide (v11<=a1)=true then
  Option.bind (zaY n v10 v11) fun r13 =>
  rec3 v11 (w64 (v11+20))
 else
  za5 n a1 v10
def zaU (n:Nat) (a1:Int):Nat->Int->Int->Option (Unit)
 | 0,_,_=>none
 | m+1,v10,v11=>zbw n a1 (zaU n a1 m) v10 v11
def zb2 (n:Nat) (a1:Int):Option (Unit) :=
 zaU n a1 n 0 20
def zbq {S:Type} (n:Nat) (aF:TrayPress->TrayPress->S->Option (Int×S)) (mz0:Nat) (st:(List TrayPress)×S):Option (Unit×((List TrayPress)×S)) :=
 Option.bind (zch n aF (mz0:Int) mz0 (st.1,st.2)) fun r1 =>
 some ((),(r1.2.1,r1.2.2))
def zbg (n:Nat):Option (Unit) :=
 Option.bind (zb2 n (([]:List TrayPress).length:Int)) fun r1 =>
 some ()
def zgg (a0:TrayPress) (a1:TrayPress):Option (Int) :=
 some (w64 (a0.Time-a1.Time))
def zbO (a1:Int) (st:Carriage_):Option (Unit×Carriage_) :=
 Option.bind (app st.run.spells ([(⟨(⟨st.at_.At,st.at_.Way,a1⟩:TrayStand),st.now⟩:Spell_)]:List Spell_)) fun l1 =>
 some ((),(⟨st.t,st.queue,st.pins,st.now,(⟨st.at_.At,st.at_.Way,a1⟩:TrayStand),(⟨l1,st.run.plays,st.run.steps,st.run.end_⟩:Run_)⟩:Carriage_))
def zcy (rec1:(List TrayPress)->(List Bool)->Option (Unit×Carriage_)) (st:Carriage_) (v1:List TrayPress) (v2:List Bool) (v3:Bool):Option (Unit×Carriage_) :=
 if v3=true then
  Option.bind (idx v1 0) fun x5 =>
  Option.bind (zkW (2*st.t.Records.length) v2 x5.Side) fun x6 =>
  Option.bind (cut v1 1 (v1.length:Int)) fun c7 =>
  rec1 c7 (v2.set (Int.toNat x5.Side) true)
 else
  some ((),(⟨st.t,v1,v2,st.now,st.at_,st.run⟩:Carriage_))
def zdu (st:Carriage_) (rec1:(List TrayPress)->(List Bool)->Option (Unit×Carriage_)) (v1:List TrayPress) (v2:List Bool):Option (Unit×Carriage_) :=
 if decide ((v1.length:Int)>0)=true then
  Option.bind (idx v1 0) fun x9 =>
  zcy rec1 st v1 v2 (decide (x9.Time<=st.now))
 else
  zcy rec1 st v1 v2 false
def za6 (st:Carriage_):Nat->(List TrayPress)->(List Bool)->Option (Unit×Carriage_)
 | 0,_,_=>none
 | m+1,v1,v2=>zdu st (za6 st m) v1 v2
def zeW (n:Nat) (st:Carriage_):Option (Unit×Carriage_) :=
 za6 st n st.queue st.pins
def zdq:Option (Int) :=
 some (-1)
def zc7 (a0:List Bool) (a1:Bool) (rec1:Int->Option (Int)) (v1:Int):Option (Int) :=
 if decide (v1<(a0.length:Int))=true then
  Option.bind (idx a0 v1) fun x3 =>
  if (a1==x3)=true then
   some v1
  else
   rec1 (w64 (v1+1))
 else
  zdq
def zbM (a0:List Bool) (a1:Bool):Nat->Int->Option (Int)
 | 0,_=>none
 | m+1,v1=>zc7 a0 a1 (zbM a0 a1 m) v1
def zek (n:Nat) (a0:List Bool) (a1:Bool):Option (Int) :=
 zbM a0 a1 n 0
def zdr (n:Nat) (a0:List Bool) (a1:Bool):Option (Bool) :=
 Option.bind (zek n a0 a1) fun r1 =>
 some (decide (r1≥0))
def zid (a0:Tray) (a1:Int):Option (Int) :=
 Option.bind (rem a1 2) fun q1 =>
 if (q1==0)=true then
  Option.bind (quo a1 2) fun q3 =>
  Option.bind (idx a0.Records q3) fun x4 =>
  some x4.Front
 else
  Option.bind (quo a1 2) fun q5 =>
  Option.bind (idx a0.Records q5) fun x6 =>
  some x6.Back
def zb5 (st:Carriage_) (v1:Int) (v2:Int) (v3:Int) (v4:Int):Option (Unit×Carriage_) :=
 Option.bind (zbO (-1) (⟨st.t,st.queue,st.pins,v1,(⟨v2,v3,st.at_.Side⟩:TrayStand),(⟨st.run.spells,st.run.plays,v4,st.run.end_⟩:Run_)⟩:Carriage_)) fun r5 =>
 some ((),r5.2)
def zbk (st:Carriage_) (v6:Bool):Option (Unit×Carriage_) :=
 if v6=true then
  zb5 st (w64 (st.now+st.t.Step)) (w64 (st.at_.At+st.at_.Way)) st.at_.Way (w64 (st.run.steps+1))
 else
  zb5 st st.now st.at_.At (w64 (0-st.at_.Way)) st.run.steps
def zdU (st:Carriage_):Option (Unit×Carriage_) :=
 if decide ((w64 (st.at_.At+st.at_.Way))≥0)=true then
  zbk st (decide ((w64 (st.at_.At+st.at_.Way))<(st.t.Records.length:Int)))
 else
  zbk st false
def zcm (v8:List TrayRecord) (v9:Int) (v10:Int) (v11:Int) (v12:List TrayPress) (v13:List TrayPress) (v14:Int) (v15:Int) (v16:Int) (v17:Int) (v18:List Spell_) (v19:List TrayPlay) (v20:Int) (v21:Int) (v22:List Bool):Option (Bool×Carriage_) :=
 Option.bind (zdU (⟨(⟨v8,v9,v10,v11,v12⟩:Tray),v13,v22,v14,(⟨v15,v16,v17⟩:TrayStand),(⟨v18,v19,v20,v21⟩:Run_)⟩:Carriage_)) fun r23 =>
 some (true,r23.2)
def zcn (r1:Unit×Carriage_) (v7:Int):Option (Bool×Carriage_) :=
 Option.bind (zkW (2*r1.2.t.Records.length) r1.2.pins v7) fun x24 =>
 if x24=true then
  Option.bind (zkW (2*r1.2.t.Records.length) r1.2.pins v7) fun x26 =>
  Option.bind (app r1.2.run.plays ([(⟨v7,r1.2.now⟩:TrayPlay)]:List TrayPlay)) fun l27 =>
  Option.bind (zbO v7 (⟨r1.2.t,r1.2.queue,(r1.2.pins.set (Int.toNat v7) false),r1.2.now,r1.2.at_,(⟨r1.2.run.spells,l27,r1.2.run.steps,r1.2.run.end_⟩:Run_)⟩:Carriage_)) fun r28 =>
  Option.bind (zid r28.2.t v7) fun r29 =>
  Option.bind (zbO (-1) (⟨r28.2.t,r28.2.queue,r28.2.pins,w64 (r28.2.now+r29),r28.2.at_,(⟨r28.2.run.spells,r28.2.run.plays,r28.2.run.steps,w64 (r28.2.now+r29)⟩:Run_)⟩:Carriage_)) fun r30 =>
  zcm r30.2.t.Records r30.2.t.At r30.2.t.Way r30.2.t.Step r30.2.t.Presses r30.2.queue r30.2.now r30.2.at_.At r30.2.at_.Way r30.2.at_.Side r30.2.run.spells r30.2.run.plays r30.2.run.steps r30.2.run.end_ r30.2.pins
 else
  zcm r1.2.t.Records r1.2.t.At r1.2.t.Way r1.2.t.Step r1.2.t.Presses r1.2.queue r1.2.now r1.2.at_.At r1.2.at_.Way r1.2.at_.Side r1.2.run.spells r1.2.run.plays r1.2.run.steps r1.2.run.end_ r1.2.pins
def zcz (n:Nat) (st:Carriage_):Option (Bool×Carriage_) :=
 Option.bind (zeW n st) fun r1 =>
 Option.bind (zqY (2*r1.2.t.Records.length) r1.2.pins) fun x2 =>
 Option.bind (zdr n r1.2.pins true) fun r3 =>
 if (!r3)=true then
  if ((r1.2.queue.length:Int)==0)=true then
   some (false,r1.2)
  else
   Option.bind (idx r1.2.queue 0) fun x6 =>
   some (true,(⟨r1.2.t,r1.2.queue,r1.2.pins,x6.Time,r1.2.at_,r1.2.run⟩:Carriage_))
 else
  if decide (r1.2.at_.Way<0)=true then
   zcn r1 (w64 ((w64 (2*r1.2.at_.At))+1))
  else
   zcn r1 (w64 (2*r1.2.at_.At))
def zhe (v6:List TrayRecord) (v7:Int) (v8:Int) (v9:Int) (v10:List TrayPress) (v11:List TrayPress) (v12:Int) (v13:Int) (v14:Int) (v15:Int) (v16:List Spell_) (v17:List TrayPlay) (v18:Int) (v19:Int) (v20:List Bool):Option (Run_) :=
 some (⟨v16,v17,v18,v19⟩:Run_)
def zgn (n:Nat) (rec1:(List TrayRecord)->Int->Int->Int->(List TrayPress)->(List TrayPress)->Int->Int->Int->Int->(List Spell_)->(List TrayPlay)->Int->Int->(List Bool)->Option (Run_)) (v21:List TrayRecord) (v22:Int) (v23:Int) (v24:Int) (v25:List TrayPress) (v26:List TrayPress) (v27:Int) (v28:Int) (v29:Int) (v30:Int) (v31:List Spell_) (v32:List TrayPlay) (v33:Int) (v34:Int) (v35:List Bool):Option (Run_) :=
 Option.bind (zcz n (⟨(⟨v21,v22,v23,v24,v25⟩:Tray),v26,v35,v27,(⟨v28,v29,v30⟩:TrayStand),(⟨v31,v32,v33,v34⟩:Run_)⟩:Carriage_)) fun r36 =>
 if r36.1=true then
  rec1 r36.2.t.Records r36.2.t.At r36.2.t.Way r36.2.t.Step r36.2.t.Presses r36.2.queue r36.2.now r36.2.at_.At r36.2.at_.Way r36.2.at_.Side r36.2.run.spells r36.2.run.plays r36.2.run.steps r36.2.run.end_ r36.2.pins
 else
  zhe r36.2.t.Records r36.2.t.At r36.2.t.Way r36.2.t.Step r36.2.t.Presses r36.2.queue r36.2.now r36.2.at_.At r36.2.at_.Way r36.2.at_.Side r36.2.run.spells r36.2.run.plays r36.2.run.steps r36.2.run.end_ r36.2.pins
def zd4 (n:Nat):Nat->(List TrayRecord)->Int->Int->Int->(List TrayPress)->(List TrayPress)->Int->Int->Int->Int->(List Spell_)->(List TrayPlay)->Int->Int->(List Bool)->Option (Run_)
 | 0,_,_,_,_,_,_,_,_,_,_,_,_,_,_,_=>none
 | m+1,v21,v22,v23,v24,v25,v26,v27,v28,v29,v30,v31,v32,v33,v34,v35=>zgn n (zd4 n m) v21 v22 v23 v24 v25 v26 v27 v28 v29 v30 v31 v32 v33 v34 v35
def zhf (v42:List TrayRecord) (v43:Int) (v44:Int) (v45:Int) (v46:List TrayPress) (v47:List TrayPress) (v48:Int) (v49:Int) (v50:Int) (v51:Int) (v52:List Spell_) (v53:List TrayPlay) (v54:Int) (v55:Int) (v56:List Bool):Option (Run_) :=
 some (⟨v52,v53,v54,v55⟩:Run_)
def zgo (n:Nat) (rec2:(List TrayRecord)->Int->Int->Int->(List TrayPress)->(List TrayPress)->Int->Int->Int->Int->(List Spell_)->(List TrayPlay)->Int->Int->(List Bool)->Option (Run_)) (v57:List TrayRecord) (v58:Int) (v59:Int) (v60:Int) (v61:List TrayPress) (v62:List TrayPress) (v63:Int) (v64:Int) (v65:Int) (v66:Int) (v67:List Spell_) (v68:List TrayPlay) (v69:Int) (v70:Int) (v71:List Bool):Option (Run_) :=
 Option.bind (zcz n (⟨(⟨v57,v58,v59,v60,v61⟩:Tray),v62,v71,v63,(⟨v64,v65,v66⟩:TrayStand),(⟨v67,v68,v69,v70⟩:Run_)⟩:Carriage_)) fun r72 =>
 if r72.1=true then
  rec2 r72.2.t.Records r72.2.t.At r72.2.t.Way r72.2.t.Step r72.2.t.Presses r72.2.queue r72.2.now r72.2.at_.At r72.2.at_.Way r72.2.at_.Side r72.2.run.spells r72.2.run.plays r72.2.run.steps r72.2.run.end_ r72.2.pins
 else
  zhf r72.2.t.Records r72.2.t.At r72.2.t.Way r72.2.t.Step r72.2.t.Presses r72.2.queue r72.2.now r72.2.at_.At r72.2.at_.Way r72.2.at_.Side r72.2.run.spells r72.2.run.plays r72.2.run.steps r72.2.run.end_ r72.2.pins
def ze0 (n:Nat):Nat->(List TrayRecord)->Int->Int->Int->(List TrayPress)->(List TrayPress)->Int->Int->Int->Int->(List Spell_)->(List TrayPlay)->Int->Int->(List Bool)->Option (Run_)
 | 0,_,_,_,_,_,_,_,_,_,_,_,_,_,_,_=>none
 | m+1,v57,v58,v59,v60,v61,v62,v63,v64,v65,v66,v67,v68,v69,v70,v71=>zgo n (ze0 n m) v57 v58 v59 v60 v61 v62 v63 v64 v65 v66 v67 v68 v69 v70 v71
def zie (n:Nat) (a0:Tray):Option (Run_) :=
 Option.bind (zbU a0.Presses) fun r1 =>
 if (r1.length==0)=true then
  Option.bind (mkN (2*a0.Records.length) (w64 (2*(a0.Records.length:Int))) false) fun l3 =>
  Option.bind (zbg n) fun r4 =>
  Option.bind (zbO (-1) (⟨a0,([]:List TrayPress),l3,0,(⟨a0.At,a0.Way,(-1)⟩:TrayStand),(⟨([]:List Spell_),([]:List TrayPlay),0,0⟩:Run_)⟩:Carriage_)) fun r5 =>
  zd4 n n r5.2.t.Records r5.2.t.At r5.2.t.Way r5.2.t.Step r5.2.t.Presses r5.2.queue r5.2.now r5.2.at_.At r5.2.at_.Way r5.2.at_.Side r5.2.run.spells r5.2.run.plays r5.2.run.steps r5.2.run.end_ r5.2.pins
 else
  Option.bind (mkN (2*a0.Records.length) (w64 (2*(a0.Records.length:Int))) false) fun l38 =>
  Option.bind (zbq n (fun (x0:TrayPress) (x1:TrayPress) (_:Unit)=>(zgg x0 x1).map fun y=>(y,())) r1.length (r1,())) fun r39 =>
  Option.bind (zqY r1.length r39.2.1) fun x40 =>
  Option.bind (zbO (-1) (⟨a0,r39.2.1,l38,0,(⟨a0.At,a0.Way,(-1)⟩:TrayStand),(⟨([]:List Spell_),([]:List TrayPlay),0,0⟩:Run_)⟩:Carriage_)) fun r41 =>
  ze0 n n r41.2.t.Records r41.2.t.At r41.2.t.Way r41.2.t.Step r41.2.t.Presses r41.2.queue r41.2.now r41.2.at_.At r41.2.at_.Way r41.2.at_.Side r41.2.run.spells r41.2.run.plays r41.2.run.steps r41.2.run.end_ r41.2.pins
def zhw (n:Nat) (a0:Tray):Option ((List TrayPlay)×Int) :=
 Option.bind (zhv n a0) fun r1 =>
 if (r1 != 0)=true then
  some (([]:List TrayPlay),r1)
 else
  Option.bind (zie n a0) fun r3 =>
  some (r3.plays,0)
def zfY (v1:Bool):Option (Bool) :=
 some v1
def zdF (a0:Int) (a1:Int) (a2:Int):Option (Bool) :=
 if decide (a1<=a0)=true then
  zfY (decide (a0<=a2))
 else
  zfY false
def zfC (v1:Bool):Option (Bool) :=
 some v1
def zgL (a0:Wire) (a1:Int) (a2:Int):Option (Bool) :=
 Option.bind (zdF a1 0 (w64 (a0.Letters-1))) fun r2 =>
 if r2=true then
  Option.bind (zdF a2 0 (w64 (a0.Numbers-1))) fun r4 =>
  zfC r4
 else
  zfC false
def zfj (v1:Bool):Option (Bool) :=
 some v1
def zfq (a0:WirePress) (a1:Wire):Option (Bool) :=
 Option.bind (zgL a1 a0.Letter a0.Number) fun r2 =>
 if (!r2)=true then
  zfj true
 else
  Option.bind (zdF a0.Got (-1) (w64 ((w64 (a1.Letters*a1.Numbers))-1))) fun r4 =>
  zfj (!r4)
def zdp {S:Type} (v1:S):Option (Int×S) :=
 some ((-1),v1)
def zb8 {S:Type} (a0:List WirePress) (aF:WirePress->S->Option (Bool×S)) (rec1:Int->S->Option (Int×S)) (v3:Int) (v4:S):Option (Int×S) :=
 if decide (v3<(a0.length:Int))=true then
  Option.bind (idx a0 v3) fun x6 =>
  Option.bind (aF x6 v4) fun r7 =>
  if r7.1=true then
   some (v3,r7.2)
  else
   rec1 (w64 (v3+1)) r7.2
 else
  zdp v4
def zaH {S:Type} (a0:List WirePress) (aF:WirePress->S->Option (Bool×S)):Nat->Int->S->Option (Int×S)
 | 0,_,_=>none
 | m+1,v3,v4=>zb8 a0 aF (zaH a0 aF m) v3 v4
def zdP {S:Type} (n:Nat) (aF:WirePress->S->Option (Bool×S)) (a0:List WirePress) (st:S):Option (Int×S) :=
 zaH a0 aF n 0 st
def zct {S:Type} (n:Nat) (aF:WirePress->S->Option (Bool×S)) (a0:List WirePress) (st:S):Option (Bool×S) :=
 Option.bind (zdP n aF a0 st) fun r1 =>
 some (decide (r1.1≥0),r1.2)
def zcd (v1:Bool):Option (Int) :=
 if v1=true then
  some 110
 else
  some 0
def zjD (n:Nat) (a0:Wire):Option (Int) :=
 Option.bind (zdF a0.Letters 1 5) fun r3 =>
 if (!r3)=true then
  zcd true
 else
  Option.bind (zdF a0.Numbers 1 5) fun r5 =>
  if (!r5)=true then
   zcd true
  else
   Option.bind (zdF a0.Faults 0 3) fun r7 =>
   if (!r7)=true then
    zcd true
   else
    if decide ((a0.Presses.length:Int)>8)=true then
     zcd true
    else
     Option.bind (zct n (fun (x0:WirePress) (_:Unit)=>(zfq x0 a0).map fun y=>(y,())) a0.Presses ()) fun r10 =>
     zcd r10.1
def zdQ (v1:Bool):Option (Bool) :=
 some v1
def zcE (a0:Int) (a1:Int) (a2:Int):Option (Bool) :=
 if decide (a1<=a0)=true then
  zdQ (decide (a0<=a2))
 else
  zdQ false
def ze5:Option (Int) :=
 some 0
def zcH (rec1:Int->Option (Int)) (v1:Int) (v4:Bool):Option (Int) :=
 if v4=true then
  some 130
 else
  rec1 (w64 (v1+1))
def zel (a0:Pulse) (rec1:Int->Option (Int)) (v1:Int):Option (Int) :=
 if decide (v1<(a0.Times.length:Int))=true then
  Option.bind (idx a0.Times v1) fun x3 =>
  Option.bind (zcE x3 0 99999) fun r6 =>
  if (!r6)=true then
   zcH rec1 v1 true
  else
   if decide (v1>0)=true then
    Option.bind (idx a0.Times (w64 (v1-1))) fun x9 =>
    zcH rec1 v1 (decide (x3<=x9))
   else
    zcH rec1 v1 false
 else
  ze5
def zci (a0:Pulse):Nat->Int->Option (Int)
 | 0,_=>none
 | m+1,v1=>zel a0 (zci a0 m) v1
def zfZ (n:Nat) (a0:Pulse):Option (Int) :=
 zci a0 n 0
def zem (n:Nat) (a0:Pulse) (rec2:Int->Option (Int)) (v10:Int):Option (Int) :=
 if decide (v10<8)=true then
  Option.bind (idx ([(⟨a0.Letters,1,5⟩:An163),(⟨a0.Numbers,1,5⟩:An163),(⟨a0.Pitch,1,99⟩:An163),(⟨a0.Slack,0,w64 (a0.Pitch-1)⟩:An163),(⟨a0.Gap,w64 ((w64 (a0.Pitch+a0.Slack))+1),w64 (a0.Pause-1)⟩:An163),(⟨a0.Pause,0,999⟩:An163),(⟨a0.Sparks,0,3⟩:An163),(⟨(a0.Times.length:Int),0,24⟩:An163)]:List An163) v10) fun x12 =>
  Option.bind (zcE x12.n x12.low x12.high) fun r13 =>
  if (!r13)=true then
   some 130
  else
   rec2 (w64 (v10+1))
 else
  zfZ n a0
def zbD (n:Nat) (a0:Pulse):Nat->Int->Option (Int)
 | 0,_=>none
 | m+1,v10=>zem n a0 (zbD n a0 m) v10
def zfz (n:Nat) (a0:Pulse):Option (Int) :=
 zbD n a0 n 0
def zds {S:Type} (v3:S):Option (Bool×S) :=
 some (true,v3)
def zc8 {S:Type} (rec:Train_->Int->Int->Int->S->Option (Bool×S)) (a0:Train_) (a1:Int) (a3:Int) (rec1:Int->S->Option (Bool×S)) (v5:Int) (v6:S):Option (Bool×S) :=
 if decide (v5<(a0.Pulse.Times.length:Int))=true then
  Option.bind (zoH 1 v5) fun q8 =>
  Option.bind (rec a0 (zsw a1 q8) (w64 (v5+1)) (w64 (a3-1)) v6) fun r9 =>
  if (!r9.1)=true then
   some (false,r9.2)
  else
   rec1 (w64 (v5+1)) r9.2
 else
  zds v6
def zbN {S:Type} (rec:Train_->Int->Int->Int->S->Option (Bool×S)) (a0:Train_) (a1:Int) (a3:Int):Nat->Int->S->Option (Bool×S)
 | 0,_,_=>none
 | m+1,v5,v6=>zc8 rec a0 a1 a3 (zbN rec a0 a1 a3 m) v5 v6
def zdK {S:Type} (n:Nat) (rec:Train_->Int->Int->Int->S->Option (Bool×S)) (aF:Int->S->Option (Bool×S)) (a0:Train_) (a1:Int) (a2:Int) (a3:Int) (st:S):Option (Bool×S) :=
 if (a3==0)=true then
  Option.bind (aF a1 st) fun r2 =>
  some (r2.1,r2.2)
 else
  zbN rec a0 a1 a3 n a2 st
def zbK {S:Type}:Nat->(Int->S->Option (Bool×S))->Train_->Int->Int->Int->S->Option (Bool×S)
 | 0,_,_,_,_,_,_=>none
 | n+1,aF,a0,a1,a2,a3,st=>zdK n (zbK n aF) aF a0 a1 a2 a3 st
def zfr (a0:Int) (a1:Int):Option (Bool) :=
 Option.bind (zp2 a0 a1) fun q1 =>
 some ((zlt q1 1)==1)
def zcj (l1:List Int) (v2:Bool):Option (Bool×(List Int)) :=
 some (v2,l1)
def zcQ (a1:Groups_) (a2:Train_) (st:(List Int)):Option (Bool×(List Int)) :=
 Option.bind (app st ([w64 ((w64 ((w64 ((w64 (a1.letter-1))*a2.Pulse.Numbers))+a1.number))-1)]:List Int)) fun l1 =>
 Option.bind (zcE a1.letter 1 a2.Pulse.Letters) fun r3 =>
 if r3=true then
  Option.bind (zcE a1.number 1 a2.Pulse.Numbers) fun r5 =>
  zcj l1 r5
 else
  zcj l1 false
def zen (a0:Train_) (a1:Int):Option (Int) :=
 if decide (a1≥a0.Pulse.Pause)=true then
  some 3
 else
  if decide (a1≥a0.Pulse.Gap)=true then
   some 2
  else
   Option.bind (zcE a1 (w64 (a0.Pulse.Pitch-a0.Pulse.Slack)) (w64 (a0.Pulse.Pitch+a0.Pulse.Slack))) fun r3 =>
   if r3=true then
    some 1
   else
    some 0
def zco (v4:Bool) (v5:List Int):Option ((List Int)×Bool) :=
 if v4=true then
  some (([]:List Int),false)
 else
  some (v5,true)
def zcR (a0:Train_) (a1:List Int) (v1:Int) (v2:Int) (v3:List Int):Option ((List Int)×Bool) :=
 if decide ((a1.length:Int)>0)=true then
  Option.bind (zcQ (⟨v1,v2⟩:Groups_) a0 v3) fun r8 =>
  zco (!r8.1) r8.2
 else
  zco false v3
def zaZ (rec1:Int->Int->Int->(List Int)->Option ((List Int)×Bool)) (v10:Int) (v15:Int) (v16:Int) (v17:List Int):Option ((List Int)×Bool) :=
 rec1 (w64 (v10+1)) v15 v16 v17
def zbR (a0:Train_) (a1:List Int) (rec1:Int->Int->Int->(List Int)->Option ((List Int)×Bool)) (v10:Int) (v11:Int) (v12:Int) (v13:List Int):Option ((List Int)×Bool) :=
 if decide (v10<(a1.length:Int))=true then
  Option.bind (idx a1 v10) fun x18 =>
  if (v10==0)=true then
   zaZ rec1 v10 1 0 v13
  else
   Option.bind (idx a1 (w64 (v10-1))) fun x20 =>
   Option.bind (zen a0 (w64 (x18-x20))) fun r21 =>
   if (r21==1)=true then
    if decide (v12>0)=true then
     zaZ rec1 v10 v11 (w64 (v12+1)) v13
    else
     zaZ rec1 v10 (w64 (v11+1)) v12 v13
   else
    if (r21==2)=true then
     if decide (v12>0)=true then
      some (([]:List Int),false)
     else
      zaZ rec1 v10 v11 1 v13
    else
     if (r21==3)=true then
      Option.bind (zcQ (⟨v11,v12⟩:Groups_) a0 v13) fun r27 =>
      if (!r27.1)=true then
       some (([]:List Int),false)
      else
       zaZ rec1 v10 1 0 r27.2
     else
      some (([]:List Int),false)
 else
  zcR a0 a1 v11 v12 v13
def zaN (a0:Train_) (a1:List Int):Nat->Int->Int->Int->(List Int)->Option ((List Int)×Bool)
 | 0,_,_,_,_=>none
 | m+1,v10,v11,v12,v13=>zbR a0 a1 (zaN a0 a1 m) v10 v11 v12 v13
def zeo (n:Nat) (a0:Train_) (a1:List Int):Option ((List Int)×Bool) :=
 zaN a0 a1 n 0 0 0 ([]:List Int)
def zbl {S:Type} (v3:Bool) (v4:S):Option (Bool×S) :=
 some (v3,v4)
def zbP {S:Type} (n:Nat) (a0:Int) (aF:Reading_->S->Option (Bool×S)) (st:S) (a1:Train_) (v1:List Int):Option (Bool×S) :=
 Option.bind (zeo n a1 v1) fun r2 =>
 if (!r2.2)=true then
  zbl true st
 else
  Option.bind (aF (⟨a0,r2.1⟩:Reading_) st) fun r6 =>
  zbl r6.1 r6.2
def zbm {S:Type} (rec1:(List Int)->Int->Option (Bool×S)) (v8:Int) (v10:List Int):Option (Bool×S) :=
 rec1 v10 (w64 (v8+1))
def zbz {S:Type} (n:Nat) (a0:Int) (aF:Reading_->S->Option (Bool×S)) (st:S) (a1:Train_) (rec1:(List Int)->Int->Option (Bool×S)) (v7:List Int) (v8:Int):Option (Bool×S) :=
 if decide (v8<(a1.Pulse.Times.length:Int))=true then
  Option.bind (idx a1.Pulse.Times v8) fun x11 =>
  Option.bind (zfr a0 v8) fun r12 =>
  if (!r12)=true then
   Option.bind (app v7 ([x11]:List Int)) fun l14 =>
   zbm rec1 v8 l14
  else
   zbm rec1 v8 v7
 else
  zbP n a0 aF st a1 v7
def zaF {S:Type} (n:Nat) (a0:Int) (aF:Reading_->S->Option (Bool×S)) (st:S) (a1:Train_):Nat->(List Int)->Int->Option (Bool×S)
 | 0,_,_=>none
 | m+1,v7,v8=>zbz n a0 aF st a1 (zaF n a0 aF st a1 m) v7 v8
def zbb {S:Type} (n:Nat) (aF:Reading_->S->Option (Bool×S)) (a0:Int) (a1:Train_) (st:S):Option (Bool×S) :=
 zaF n a0 aF st a1 n ([]:List Int) 0
def zcM {S:Type} (n:Nat) (aF:Reading_->S->Option (Bool×S)) (a1:Train_) (a2:Int) (st:S):Option (Unit×S) :=
 Option.bind (zbK n (fun (x0:Int) s=>zbb n aF x0 a1 s) a1 0 0 a2 st) fun r1 =>
 some ((),r1.2)
def za2 (y1:Reading_) (s:(List Reading_)):Option (Bool×((List Reading_))) :=
 Option.bind (app s ([y1]:List Reading_)) fun l2 =>
 some (true,l2)
def zbQ (n:Nat) (a0:List Reading_) (a91:Train_) (a92:Int):Option ((List Reading_)) :=
 Option.bind (zcM n (za2) a91 a92 a0) fun r3 =>
 some r3.2
def zeI {S:Type} (r3:Bool×S) (v5:List Reading_):Option (((List Reading_)×Int)×S) :=
 if ((v5.length:Int)==0)=true then
  some ((([]:List Reading_),3),r3.2)
 else
  some ((v5,0),r3.2)
def zeR {S:Type} (n:Nat) (a0:Pulse) (r3:Bool×S) (rec1:(List Reading_)->Int->Option (((List Reading_)×Int)×S)) (v7:List Reading_) (v8:Int):Option (((List Reading_)×Int)×S) :=
 if decide (v8<(w64 (a0.Sparks+1)))=true then
  Option.bind (zbQ n v7 (⟨a0⟩:Train_) v8) fun r10 =>
  rec1 r10 (w64 (v8+1))
 else
  zeI r3 v7
def zcY {S:Type} (n:Nat) (a0:Pulse) (r3:Bool×S):Nat->(List Reading_)->Int->Option (((List Reading_)×Int)×S)
 | 0,_,_=>none
 | m+1,v7,v8=>zeR n a0 r3 (zcY n a0 r3 m) v7 v8
def zf0 {S:Type} (n:Nat) (aF:Train_->S->Option (Bool×S)) (a0:Pulse) (st:S):Option (((List Reading_)×Int)×S) :=
 Option.bind (zfz n a0) fun r1 =>
 if (r1 != 0)=true then
  some ((([]:List Reading_),r1),st)
 else
  Option.bind (aF (⟨a0⟩:Train_) st) fun r3 =>
  if (!r3.1)=true then
   some ((([]:List Reading_),1),r3.2)
  else
   zcY n a0 r3 n ([]:List Reading_) 0
def zd5 (a0:Train_):Option (Bool) :=
 some true
def zcN {S:Type} (v1:S):Option (Int×S) :=
 some ((-1),v1)
def zcv {S:Type} (a0:List (List Int)) (aF:(List Int)->S->Option (Bool×S)) (rec1:Int->S->Option (Int×S)) (v3:Int) (v4:S):Option (Int×S) :=
 if decide (v3<(a0.length:Int))=true then
  Option.bind (idx a0 v3) fun x6 =>
  Option.bind (aF x6 v4) fun r7 =>
  if r7.1=true then
   some (v3,r7.2)
  else
   rec1 (w64 (v3+1)) r7.2
 else
  zcN v4
def zbc {S:Type} (a0:List (List Int)) (aF:(List Int)->S->Option (Bool×S)):Nat->Int->S->Option (Int×S)
 | 0,_,_=>none
 | m+1,v3,v4=>zcv a0 aF (zbc a0 aF m) v3 v4
def zd6 {S:Type} (n:Nat) (aF:(List Int)->S->Option (Bool×S)) (a0:List (List Int)) (st:S):Option (Int×S) :=
 zbc a0 aF n 0 st
def zcO {S:Type} (n:Nat) (aF:(List Int)->S->Option (Bool×S)) (a0:List (List Int)) (st:S):Option (Bool×S) :=
 Option.bind (zd6 n aF a0 st) fun r1 =>
 some (decide (r1.1≥0),r1.2)
def zdL:Option (Bool) :=
 some true
def zdi (a0:List Int) (a1:List Int) (rec1:Int->Option (Bool)) (v2:Int):Option (Bool) :=
 if decide (v2<(a0.length:Int))=true then
  Option.bind (idx a0 v2) fun x4 =>
  Option.bind (idx a1 v2) fun x5 =>
  if (x4 != x5)=true then
   some false
  else
   rec1 (w64 (v2+1))
 else
  zdL
def zb3 (a0:List Int) (a1:List Int):Nat->Int->Option (Bool)
 | 0,_=>none
 | m+1,v2=>zdi a0 a1 (zb3 a0 a1 m) v2
def slices_Equal_int (n:Nat) (a0:List Int) (a1:List Int):Option (Bool) :=
 if ((a0.length:Int) != (a1.length:Int))=true then
  some false
 else
  zb3 a0 a1 n 0
def zdv (n:Nat) (a0:List Int) (a1:Reading_):Option (Bool) :=
 Option.bind (slices_Equal_int n a0 a1.list) fun r1 =>
 some r1
def ze6 (v1:List (List Int)):Option ((List (List Int))) :=
 some v1
def zdw (rec1:(List (List Int))->Int->Option ((List (List Int)))) (v3:Int) (v5:List (List Int)):Option ((List (List Int))) :=
 rec1 v5 (w64 (v3+1))
def zep (n:Nat) (a0:List Reading_) (rec1:(List (List Int))->Int->Option ((List (List Int)))) (v2:List (List Int)) (v3:Int):Option ((List (List Int))) :=
 if decide (v3<(a0.length:Int))=true then
  Option.bind (idx a0 v3) fun x6 =>
  Option.bind (zcO n (fun (x0:List Int) (_:Unit)=>(zdv n x0 x6).map fun y=>(y,())) v2 ()) fun r7 =>
  if (!r7.1)=true then
   Option.bind (app v2 ([x6.list]:List (List Int))) fun l9 =>
   zdw rec1 v3 l9
  else
   zdw rec1 v3 v2
 else
  ze6 v2
def zck (n:Nat) (a0:List Reading_):Nat->(List (List Int))->Int->Option ((List (List Int)))
 | 0,_,_=>none
 | m+1,v2,v3=>zep n a0 (zck n a0 m) v2 v3
def zhg (n:Nat) (a0:List Reading_):Option ((List (List Int))) :=
 zck n a0 n ([]:List (List Int)) 0
def zhx (n:Nat) (a0:List Reading_):Option ((List Int)×Int) :=
 Option.bind (zhg n a0) fun r1 =>
 if decide ((r1.length:Int)>1)=true then
  some (([]:List Int),2)
 else
  Option.bind (idx r1 0) fun x3 =>
  some (x3,0)
def zfk (n:Nat) (a0:Pulse):Option ((List Int)×Int) :=
 Option.bind (zf0 n (fun (x0:Train_) (_:Unit)=>(zd5 x0).map fun y=>(y,())) a0 ()) fun r1 =>
 if (r1.1.2 != 0)=true then
  some (([]:List Int),r1.1.2)
 else
  Option.bind (zhx n r1.1.1) fun r3 =>
  some (r3.1,r3.2)
def zdx:Option (Bool) :=
 some true
def zcA (a0:List Int) (a1:List Int) (rec1:Int->Option (Bool)) (v2:Int):Option (Bool) :=
 if decide (v2<(a0.length:Int))=true then
  Option.bind (idx a0 v2) fun x4 =>
  Option.bind (idx a1 v2) fun x5 =>
  if (x4 != x5)=true then
   some false
  else
   rec1 (w64 (v2+1))
 else
  zdx
def zbd (a0:List Int) (a1:List Int):Nat->Int->Option (Bool)
 | 0,_=>none
 | m+1,v2=>zcA a0 a1 (zbd a0 a1 m) v2
def zdm (n:Nat) (a0:List Int) (a1:List Int):Option (Bool) :=
 if ((a0.length:Int) != (a1.length:Int))=true then
  some false
 else
  zbd a0 a1 n 0
def zfK (v2:Bool):Option (Bool) :=
 some v2
def zgt (n:Nat):Option (Bool) :=
 Option.bind (zfk n (⟨3,4,10,2,30,100,0,([0,10,40,50,60]:List Int)⟩:Pulse)) fun r1 =>
 if (r1.2==0)=true then
  Option.bind (zdm n r1.1 ([6]:List Int)) fun r4 =>
  zfK r4
 else
  zfK false
def zhy (a0:Pulse):Option (Pulse) :=
 Option.bind (app ([]:List Int) a0.Times) fun l1 =>
 some (⟨a0.Letters,a0.Numbers,a0.Pitch,a0.Slack,a0.Gap,a0.Pause,a0.Sparks,l1⟩:Pulse)
def zdy (v1:Bool):Option (Bool) :=
 some v1
def zd7 (a0:Int) (a1:Int) (a2:Int):Option (Bool) :=
 if decide (a0≥a1)=true then
  zdy (decide (a0<=a2))
 else
  zdy false
def zcI (a0:Int) (a1:Int) (a2:Int):Option (Bool) :=
 Option.bind (zd7 a0 a1 a2) fun r1 =>
 some r1
def ze7:Option (Bool) :=
 some true
def zcJ (rec1:Int->Option (Bool)) (v1:Int) (v3:Bool):Option (Bool) :=
 if v3=true then
  some false
 else
  rec1 (w64 (v1+1))
def zeq (a0:List Int) (a1:Int) (a2:Int) (rec1:Int->Option (Bool)) (v1:Int):Option (Bool) :=
 if decide (v1<(a0.length:Int))=true then
  Option.bind (idx a0 v1) fun x5 =>
  Option.bind (zd7 x5 a1 a2) fun r6 =>
  if (!r6)=true then
   zcJ rec1 v1 true
  else
   if decide (v1>0)=true then
    Option.bind (idx a0 v1) fun x9 =>
    Option.bind (idx a0 (w64 (v1-1))) fun x10 =>
    zcJ rec1 v1 (decide (x9<=x10))
   else
    zcJ rec1 v1 false
 else
  ze7
def zcl (a0:List Int) (a1:Int) (a2:Int):Nat->Int->Option (Bool)
 | 0,_=>none
 | m+1,v1=>zeq a0 a1 a2 (zcl a0 a1 a2 m) v1
def zhh (n:Nat) (a0:List Int) (a1:Int) (a2:Int):Option (Bool) :=
 zcl a0 a1 a2 n 0
def zbE (v1:Bool):Option (Int) :=
 if v1=true then
  some 130
 else
  some 0
def zf1 (n:Nat) (a0:Pulse):Option (Int) :=
 Option.bind (zcI a0.Letters 1 5) fun r3 =>
 if (!r3)=true then
  zbE true
 else
  Option.bind (zcI a0.Numbers 1 5) fun r5 =>
  if (!r5)=true then
   zbE true
  else
   Option.bind (zcI a0.Pitch 1 99) fun r7 =>
   if (!r7)=true then
    zbE true
   else
    Option.bind (zcI a0.Slack 0 (w64 (a0.Pitch-1))) fun r9 =>
    if (!r9)=true then
     zbE true
    else
     Option.bind (zcI a0.Pause 1 999) fun r11 =>
     if (!r11)=true then
      zbE true
     else
      Option.bind (zcI a0.Gap (w64 ((w64 (a0.Pitch+a0.Slack))+1)) (w64 (a0.Pause-1))) fun r13 =>
      if (!r13)=true then
       zbE true
      else
       Option.bind (zcI a0.Sparks 0 3) fun r15 =>
       if (!r15)=true then
        zbE true
       else
        if decide ((a0.Times.length:Int)>24)=true then
         zbE true
        else
         Option.bind (zhh n a0.Times 0 99999) fun r18 =>
         zbE (!r18)
def zfl (a0:Pulse) (a1:Int):Option (Bool) :=
 Option.bind (zcI a1 0 (w64 ((w64 (a0.Letters*a0.Numbers))-1))) fun r1 =>
 some r1
def ze8 (a1:List Int):Option (Bool) :=
 some (decide ((a1.length:Int)<=24))
def zer (a0:Pulse) (a1:List Int) (rec1:Int->Option (Bool)) (v1:Int):Option (Bool) :=
 if decide (v1<(a1.length:Int))=true then
  Option.bind (idx a1 v1) fun x3 =>
  Option.bind (zfl a0 x3) fun r4 =>
  if (!r4)=true then
   some false
  else
   rec1 (w64 (v1+1))
 else
  ze8 a1
def zc4 (a0:Pulse) (a1:List Int):Nat->Int->Option (Bool)
 | 0,_=>none
 | m+1,v1=>zer a0 a1 (zc4 a0 a1 m) v1
def zhi (n:Nat) (a0:Pulse) (a1:List Int):Option (Bool) :=
 zc4 a0 a1 n 0
def ze9 (a0:Int):Option (Bool) :=
 Option.bind (zcE a0 0 99999) fun r1 =>
 some r1
def zcU {S:Type} (v1:S):Option (Int×S) :=
 some ((-1),v1)
def zcF {S:Type} (a0:List Int) (aF:Int->S->Option (Bool×S)) (rec1:Int->S->Option (Int×S)) (v3:Int) (v4:S):Option (Int×S) :=
 if decide (v3<(a0.length:Int))=true then
  Option.bind (idx a0 v3) fun x6 =>
  Option.bind (aF x6 v4) fun r7 =>
  if r7.1=true then
   some (v3,r7.2)
  else
   rec1 (w64 (v3+1)) r7.2
 else
  zcU v4
def zbo {S:Type} (a0:List Int) (aF:Int->S->Option (Bool×S)):Nat->Int->S->Option (Int×S)
 | 0,_,_=>none
 | m+1,v3,v4=>zcF a0 aF (zbo a0 aF m) v3 v4
def zeA {S:Type} (n:Nat) (aF:Int->S->Option (Bool×S)) (a0:List Int) (st:S):Option (Int×S) :=
 zbo a0 aF n 0 st
def zcV {S:Type} (n:Nat) (aF:Int->S->Option (Bool×S)) (a0:List Int) (st:S):Option (Bool×S) :=
 Option.bind (zeA n aF a0 st) fun r1 =>
 some (decide (r1.1≥0),r1.2)
def zdz (a0:Train_) (a1:Int):Option (Bool) :=
 Option.bind (zcE a1 0 (w64 ((w64 (a0.Pulse.Letters*a0.Pulse.Numbers))-1))) fun r1 =>
 some r1
def zd8 (a0:Int) (a1:Train_):Option (Bool) :=
 Option.bind (zdz a1 a0) fun r1 =>
 some (!r1)
def zdj (rec1:Int->Int->(List Int)->Int->Option (Unit×((List Int)×Int))) (a4:Pulse) (v4:Int) (v5:List Int) (v8:Int):Option (Unit×((List Int)×Int)) :=
 Option.bind (app v5 ([v8]:List Int)) fun l9 =>
 rec1 a4.Pitch (w64 (v4+1)) l9 v8
def zdt (a1:Int) (a4:Pulse) (rec1:Int->Int->(List Int)->Int->Option (Unit×((List Int)×Int))) (v3:Int) (v4:Int) (v5:List Int) (v6:Int):Option (Unit×((List Int)×Int)) :=
 if decide (v4<a1)=true then
  if decide ((v5.length:Int)>0)=true then
   zdj rec1 a4 v4 v5 (w64 (v6+v3))
  else
   zdj rec1 a4 v4 v5 v6
 else
  some ((),(v5,v6))
def zbh (a1:Int) (a4:Pulse):Nat->Int->Int->(List Int)->Int->Option (Unit×((List Int)×Int))
 | 0,_,_,_,_=>none
 | m+1,v3,v4,v5,v6=>zdt a1 a4 (zbh a1 a4 m) v3 v4 v5 v6
def zd9 (n:Nat) (a0:Int) (a1:Int) (a4:Pulse) (st:(List Int)×Int):Option (Unit×((List Int)×Int)) :=
 zbh a1 a4 n a0 0 st.1 st.2
def zea (v5:List Int) (v7:Bool):Option ((List Int)×Int) :=
 if v7=true then
  some (([]:List Int),131)
 else
  some (v5,0)
def zeb (v5:List Int) (v6:Int):Option ((List Int)×Int) :=
 if decide ((v5.length:Int)>24)=true then
  zea v5 true
 else
  Option.bind (ze9 v6) fun r10 =>
  zea v5 (!r10)
def zes (n:Nat) (a0:Pulse) (a1:List Int) (rec1:Int->(List Int)->Int->Option ((List Int)×Int)) (v12:Int) (v13:List Int) (v14:Int):Option ((List Int)×Int) :=
 if decide (v12<(a1.length:Int))=true then
  Option.bind (idx a1 v12) fun x16 =>
  Option.bind (quo x16 a0.Numbers) fun q17 =>
  Option.bind (zd9 n a0.Pause (w64 (q17+1)) a0 (v13,v14)) fun r18 =>
  Option.bind (rem x16 a0.Numbers) fun q19 =>
  Option.bind (zd9 n a0.Gap (w64 (q19+1)) a0 (r18.2.1,r18.2.2)) fun r20 =>
  rec1 (w64 (v12+1)) r20.2.1 r20.2.2
 else
  zeb v13 v14
def zcK (n:Nat) (a0:Pulse) (a1:List Int):Nat->Int->(List Int)->Int->Option ((List Int)×Int)
 | 0,_,_,_=>none
 | m+1,v12,v13,v14=>zes n a0 a1 (zcK n a0 a1 m) v12 v13 v14
def zdA (n:Nat) (a0:Pulse) (a1:List Int) (a2:Int) (v3:Bool):Option ((List Int)×Int) :=
 if v3=true then
  some (([]:List Int),1)
 else
  zcK n a0 a1 n 0 ([]:List Int) a2
def zgh (n:Nat) (a0:Pulse) (a1:List Int) (a2:Int):Option ((List Int)×Int) :=
 Option.bind (zfz n a0) fun r1 =>
 if (r1 != 0)=true then
  some (([]:List Int),r1)
 else
  if decide ((a1.length:Int)>24)=true then
   zdA n a0 a1 a2 true
  else
   Option.bind (ze9 a2) fun r22 =>
   if (!r22)=true then
    zdA n a0 a1 a2 true
   else
    Option.bind (zcV n (fun (x0:Int) (_:Unit)=>(zd8 x0 (⟨a0⟩:Train_)).map fun y=>(y,())) a1 ()) fun r24 =>
    zdA n a0 a1 a2 r24.1
def zf2 (r1:Pulse) (l7:List Int) (v8:Bool):Option (Pulse×Int) :=
 if v8=true then
  some ((⟨r1.Letters,r1.Numbers,r1.Pitch,r1.Slack,r1.Gap,r1.Pause,0,l7⟩:Pulse),(-1))
 else
  some ((⟨r1.Letters,r1.Numbers,r1.Pitch,r1.Slack,r1.Gap,r1.Pause,0,l7⟩:Pulse),1)
def zfm (n:Nat) (a1:List Int) (r1:Pulse) (v2:Bool):Option (Pulse×Int) :=
 if v2=true then
  some ((⟨r1.Letters,r1.Numbers,r1.Pitch,r1.Slack,r1.Gap,r1.Pause,0,([]:List Int)⟩:Pulse),0)
 else
  Option.bind (app ([]:List Int) a1) fun l4 =>
  Option.bind (zgh n (⟨r1.Letters,r1.Numbers,r1.Pitch,r1.Slack,r1.Gap,r1.Pause,0,([]:List Int)⟩:Pulse) l4 0) fun r5 =>
  if (r5.2==131)=true then
   some ((⟨r1.Letters,r1.Numbers,r1.Pitch,r1.Slack,r1.Gap,r1.Pause,0,([]:List Int)⟩:Pulse),0)
  else
   Option.bind (app ([]:List Int) r5.1) fun l7 =>
   if (r5.2 != 0)=true then
    zf2 r1 l7 true
   else
    if decide ((r5.1.length:Int)>24)=true then
     zf2 r1 l7 true
    else
     Option.bind (zf1 n (⟨r1.Letters,r1.Numbers,r1.Pitch,r1.Slack,r1.Gap,r1.Pause,0,l7⟩:Pulse)) fun r12 =>
     zf2 r1 l7 (r12 != 0)
def zi7 (n:Nat) (a0:Pulse) (a1:List Int):Option (Pulse×Int) :=
 Option.bind (zhy a0) fun r1 =>
 Option.bind (zf1 n (⟨r1.Letters,r1.Numbers,r1.Pitch,r1.Slack,r1.Gap,r1.Pause,0,([]:List Int)⟩:Pulse)) fun r13 =>
 if (r13 != 0)=true then
  zfm n a1 r1 true
 else
  Option.bind (zhi n (⟨r1.Letters,r1.Numbers,r1.Pitch,r1.Slack,r1.Gap,r1.Pause,0,([]:List Int)⟩:Pulse) a1) fun r15 =>
  zfm n a1 r1 (!r15)
def zgM:Option (Bool) :=
 some false
def zfL (a0:List Int) (a1:Int) (rec1:Int->Option (Bool)) (v1:Int):Option (Bool) :=
 if decide (v1<(a0.length:Int))=true then
  Option.bind (idx a0 v1) fun x3 =>
  if (x3==a1)=true then
   some true
  else
   rec1 (w64 (v1+1))
 else
  zgM
def zeX (a0:List Int) (a1:Int):Nat->Int->Option (Bool)
 | 0,_=>none
 | m+1,v1=>zfL a0 a1 (zeX a0 a1 m) v1
def zif (n:Nat) (a0:List Int) (a1:Int):Option (Bool) :=
 zeX a0 a1 n 0
def zfs (v6:Bool):Option (Bool) :=
 some v6
def zft (n:Nat):Option (Bool) :=
 Option.bind (zgt n) fun r18 =>
 some r18
def zeS (n:Nat) (r9:(List Int)×Int) (v17:List Int) (rec1:Int->Option (Bool)) (v19:Int):Option (Bool) :=
 if decide (v19<(r9.1.length:Int))=true then
  Option.bind (idx r9.1 v19) fun x21 =>
  Option.bind (zif n v17 x21) fun r22 =>
  if (!r22)=true then
   some false
  else
   rec1 (w64 (v19+1))
 else
  zft n
def zdn (n:Nat) (r9:(List Int)×Int) (v17:List Int):Nat->Int->Option (Bool)
 | 0,_=>none
 | m+1,v19=>zeS n r9 v17 (zdn n r9 v17 m) v19
def zfu (n:Nat) (r9:(List Int)×Int) (v17:List Int):Option (Bool) :=
 zdn n r9 v17 n 0
def zeJ (rec2:(List Int)->Int->Option (Bool)) (r14:(List TrayPlay)×Int) (v24:List Int) (v25:Int) (v27:Bool):Option (Bool) :=
 if v27=true then
  some false
 else
  Option.bind (idx r14.1 v25) fun x29 =>
  Option.bind (app v24 ([x29.Side]:List Int)) fun l30 =>
  rec2 l30 (w64 (v25+1))
def zeT (n:Nat) (r9:(List Int)×Int) (r14:(List TrayPlay)×Int) (rec2:(List Int)->Int->Option (Bool)) (v24:List Int) (v25:Int):Option (Bool) :=
 if decide (v25<(r14.1.length:Int))=true then
  Option.bind (idx r14.1 v25) fun x31 =>
  Option.bind (zif n v24 x31.Side) fun r32 =>
  if r32=true then
   zeJ rec2 r14 v24 v25 true
  else
   Option.bind (idx r14.1 v25) fun x34 =>
   Option.bind (zif n r9.1 x34.Side) fun r35 =>
   zeJ rec2 r14 v24 v25 (!r35)
 else
  zfu n r9 v24
def zcG (n:Nat) (r9:(List Int)×Int) (r14:(List TrayPlay)×Int):Nat->(List Int)->Int->Option (Bool)
 | 0,_,_=>none
 | m+1,v24,v25=>zeT n r9 r14 (zcG n r9 r14 m) v24 v25
def zeK (n:Nat) (r9:(List Int)×Int) (r14:(List TrayPlay)×Int) (v15:Bool):Option (Bool) :=
 if v15=true then
  some false
 else
  zcG n r9 r14 n ([]:List Int) 0
def zeL (n:Nat) (r9:(List Int)×Int) (r12:Tray) (v13:List TrayPress):Option (Bool) :=
 Option.bind (zhw n (⟨r12.Records,r12.At,r12.Way,r12.Step,v13⟩:Tray)) fun r14 =>
 if (r14.2 != 0)=true then
  zeK n r9 r14 true
 else
  zeK n r9 r14 (decide ((r14.1.length:Int)>(r9.1.length:Int)))
def zeU (n:Nat) (r9:(List Int)×Int) (r12:Tray) (rec3:Int->(List TrayPress)->Option (Bool)) (v38:Int) (v39:List TrayPress):Option (Bool) :=
 if decide (v38<(r9.1.length:Int))=true then
  Option.bind (idx r9.1 v38) fun x41 =>
  Option.bind (app v39 ([(⟨x41,0⟩:TrayPress)]:List TrayPress)) fun l42 =>
  rec3 (w64 (v38+1)) l42
 else
  zeL n r9 r12 v39
def zdo (n:Nat) (r9:(List Int)×Int) (r12:Tray):Nat->Int->(List TrayPress)->Option (Bool)
 | 0,_,_=>none
 | m+1,v38,v39=>zeU n r9 r12 (zdo n r9 r12 m) v38 v39
def zeM (n:Nat) (a2:Tray) (r9:(List Int)×Int) (v10:Bool):Option (Bool) :=
 if v10=true then
  some false
 else
  Option.bind (zhu a2) fun r12 =>
  zdo n r9 r12 n 0 ([]:List TrayPress)
def zce (n:Nat) (a0:Pulse) (a1:List Int) (a2:Tray) (v1:Bool):Option (Bool) :=
 if v1=true then
  Option.bind (zgt n) fun r3 =>
  some r3
 else
  Option.bind (zi7 n (⟨(a2.Records.length:Int),2,a0.Pitch,a0.Slack,a0.Gap,a0.Pause,a0.Sparks,a0.Times⟩:Pulse) a1) fun r4 =>
  if decide (r4.2<1)=true then
   if (r4.2==0)=true then
    Option.bind (zgt n) fun r8 =>
    zfs r8
   else
    zfs false
  else
   Option.bind (zfk n r4.1) fun r9 =>
   if (r9.2 != 0)=true then
    zeM n a2 r9 true
   else
    Option.bind (zdm n r9.1 a1) fun r44 =>
    zeM n a2 r9 (!r44)
def zhY (n:Nat) (a0:Pulse) (a1:List Int) (a2:Tray):Option (Bool) :=
 if decide ((a0.Times.length:Int)>40)=true then
  zce n a0 a1 a2 true
 else
  if decide ((a1.length:Int)>12)=true then
   zce n a0 a1 a2 true
  else
   Option.bind (zic a2) fun r47 =>
   if r47=true then
    zce n a0 a1 a2 true
   else
    Option.bind (zgJ n a2) fun r49 =>
    if (r49 != 0)=true then
     zce n a0 a1 a2 true
    else
     zce n a0 a1 a2 (decide ((a2.Records.length:Int)>5))
end Go.Law
