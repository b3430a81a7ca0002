/-
  What the functions compute (printed by gen.py).
  Conditions: none.
-/
import Derived.Test.YtclaalcoefcljaaAmPc
set_option linter.all false
namespace Go.Law
open Go Go.AM
set_option linter.unusedVariables false
structure TrayRecord where
 Front:Int
 Back:Int
 deriving DecidableEq,Inhabited,Repr
abbrev TrayRecord.cells (x:TrayRecord):List AV:=[.v (.int .i64 x.Front),.v (.int .i64 x.Back)]
structure TrayPress where
 Side:Int
 Time:Int
 deriving DecidableEq,Inhabited,Repr
abbrev TrayPress.cells (x:TrayPress):List AV:=[.v (.int .i64 x.Side),.v (.int .i64 x.Time)]
structure Tray where
 Records:List TrayRecord
 At:Int
 Way:Int
 Step:Int
 Presses:List TrayPress
 deriving DecidableEq,Inhabited,Repr
abbrev Tray.cells (x:Tray):List AV:=[.sl .no 2 (x.Records.map TrayRecord.cells),.v (.int .i64 x.At),.v (.int .i64 x.Way),.v (.int .i64 x.Step),.sl .no 2 (x.Presses.map TrayPress.cells)]
structure RoyalPart where
 Who:Int
 Percent:Int
 deriving DecidableEq,Inhabited,Repr
abbrev RoyalPart.cells (x:RoyalPart):List AV:=[.v (.int .i64 x.Who),.v (.int .i64 x.Percent)]
structure RoyalSide where
 Plays:Int
 Parts:List RoyalPart
 deriving DecidableEq,Inhabited,Repr
abbrev RoyalSide.cells (x:RoyalSide):List AV:=[.v (.int .i64 x.Plays),.sl .no 2 (x.Parts.map RoyalPart.cells)]
structure Royal where
 Pool:Int
 Sides:List RoyalSide
 Owed:List Int
 deriving DecidableEq,Inhabited,Repr
abbrev Royal.cells (x:Royal):List AV:=[.v (.int .i64 x.Pool),.sl .no 2 (x.Sides.map RoyalSide.cells),.sl .no 1 (x.Owed.map cI)]
structure Weights_ where
 of_:List Int
 all:Int
 deriving DecidableEq,Inhabited,Repr
abbrev Weights_.cells (x:Weights_):List AV:=[.sl .no 1 (x.of_.map cI),.v (.int .i64 x.all)]
structure TrayStand where
 At:Int
 Way:Int
 Side:Int
 deriving DecidableEq,Inhabited,Repr
abbrev TrayStand.cells (x:TrayStand):List AV:=[.v (.int .i64 x.At),.v (.int .i64 x.Way),.v (.int .i64 x.Side)]
structure Spell_ where
 TrayStand:TrayStand
 from_:Int
 deriving DecidableEq,Inhabited,Repr
abbrev Spell_.cells (x:Spell_):List AV:=[.v (.int .i64 x.TrayStand.At),.v (.int .i64 x.TrayStand.Way),.v (.int .i64 x.TrayStand.Side),.v (.int .i64 x.from_)]
structure TrayPlay where
 Side:Int
 Time:Int
 deriving DecidableEq,Inhabited,Repr
abbrev TrayPlay.cells (x:TrayPlay):List AV:=[.v (.int .i64 x.Side),.v (.int .i64 x.Time)]
structure Run_ where
 spells:List Spell_
 plays:List TrayPlay
 steps:Int
 end_:Int
 deriving DecidableEq,Inhabited,Repr
abbrev Run_.cells (x:Run_):List AV:=[.sl .no 4 (x.spells.map Spell_.cells),.sl .no 2 (x.plays.map TrayPlay.cells),.v (.int .i64 x.steps),.v (.int .i64 x.end_)]
structure Carriage_ where
 t:Tray
 queue:List TrayPress
 pins:List Bool
 now:Int
 at_:TrayStand
 run:Run_
 deriving DecidableEq,Inhabited,Repr
abbrev Carriage_.cells (x:Carriage_):List AV:=[.sl .no 2 (x.t.Records.map TrayRecord.cells),.v (.int .i64 x.t.At),.v (.int .i64 x.t.Way),.v (.int .i64 x.t.Step),.sl .no 2 (x.t.Presses.map TrayPress.cells),.sl .no 2 (x.queue.map TrayPress.cells),.sl .no 1 (x.pins.map cB),.v (.int .i64 x.now),.v (.int .i64 x.at_.At),.v (.int .i64 x.at_.Way),.v (.int .i64 x.at_.Side),.sl .no 4 (x.run.spells.map Spell_.cells),.sl .no 2 (x.run.plays.map TrayPlay.cells),.v (.int .i64 x.run.steps),.v (.int .i64 x.run.end_)]
structure WirePress where
 Letter:Int
 Number:Int
 Got:Int
 deriving DecidableEq,Inhabited,Repr
abbrev WirePress.cells (x:WirePress):List AV:=[.v (.int .i64 x.Letter),.v (.int .i64 x.Number),.v (.int .i64 x.Got)]
structure Wire where
 Letters:Int
 Numbers:Int
 Presses:List WirePress
 Faults:Int
 deriving DecidableEq,Inhabited,Repr
abbrev Wire.cells (x:Wire):List AV:=[.v (.int .i64 x.Letters),.v (.int .i64 x.Numbers),.sl .no 3 (x.Presses.map WirePress.cells),.v (.int .i64 x.Faults)]
structure WireFault where
 Kind:Int
 A:Int
 B:Int
 deriving DecidableEq,Inhabited,Repr
abbrev WireFault.cells (x:WireFault):List AV:=[.v (.int .i64 x.Kind),.v (.int .i64 x.A),.v (.int .i64 x.B)]
structure Wiring_ where
 Wire:Wire
 all:List WireFault
 deriving DecidableEq,Inhabited,Repr
abbrev Wiring_.cells (x:Wiring_):List AV:=[.v (.int .i64 x.Wire.Letters),.v (.int .i64 x.Wire.Numbers),.sl .no 3 (x.Wire.Presses.map WirePress.cells),.v (.int .i64 x.Wire.Faults),.sl .no 3 (x.all.map WireFault.cells)]
structure Keys_ where
 c0:Int
 c1:Int
 c2:Int
 c3:Int
 c4:Int
 deriving DecidableEq,Inhabited,Repr
abbrev Keys_.cells (x:Keys_):List AV:=[.v (.int .i64 x.c0),.v (.int .i64 x.c1),.v (.int .i64 x.c2),.v (.int .i64 x.c3),.v (.int .i64 x.c4)]
structure Panel_ where
 letters:Keys_
 numbers:Keys_
 deriving DecidableEq,Inhabited,Repr
abbrev Panel_.cells (x:Panel_):List AV:=[.v (.int .i64 x.letters.c0),.v (.int .i64 x.letters.c1),.v (.int .i64 x.letters.c2),.v (.int .i64 x.letters.c3),.v (.int .i64 x.letters.c4),.v (.int .i64 x.numbers.c0),.v (.int .i64 x.numbers.c1),.v (.int .i64 x.numbers.c2),.v (.int .i64 x.numbers.c3),.v (.int .i64 x.numbers.c4)]
structure Pulse where
 Letters:Int
 Numbers:Int
 Pitch:Int
 Slack:Int
 Gap:Int
 Pause:Int
 Sparks:Int
 Times:List Int
 deriving DecidableEq,Inhabited,Repr
abbrev Pulse.cells (x:Pulse):List AV:=[.v (.int .i64 x.Letters),.v (.int .i64 x.Numbers),.v (.int .i64 x.Pitch),.v (.int .i64 x.Slack),.v (.int .i64 x.Gap),.v (.int .i64 x.Pause),.v (.int .i64 x.Sparks),.sl .no 1 (x.Times.map cI)]
structure An163 where
 n:Int
 low:Int
 high:Int
 deriving DecidableEq,Inhabited,Repr
abbrev An163.cells (x:An163):List AV:=[.v (.int .i64 x.n),.v (.int .i64 x.low),.v (.int .i64 x.high)]
structure Train_ where
 Pulse:Pulse
 deriving DecidableEq,Inhabited,Repr
abbrev Train_.cells (x:Train_):List AV:=[.v (.int .i64 x.Pulse.Letters),.v (.int .i64 x.Pulse.Numbers),.v (.int .i64 x.Pulse.Pitch),.v (.int .i64 x.Pulse.Slack),.v (.int .i64 x.Pulse.Gap),.v (.int .i64 x.Pulse.Pause),.v (.int .i64 x.Pulse.Sparks),.sl .no 1 (x.Pulse.Times.map cI)]
structure Groups_ where
 letter:Int
 number:Int
 deriving DecidableEq,Inhabited,Repr
abbrev Groups_.cells (x:Groups_):List AV:=[.v (.int .i64 x.letter),.v (.int .i64 x.number)]
structure Reading_ where
 sparks:Int
 list:List Int
 deriving DecidableEq,Inhabited,Repr
abbrev Reading_.cells (x:Reading_):List AV:=[.v (.int .u64 x.sparks),.sl .no 1 (x.list.map cI)]
def zeZ (v1:Bool):Option (Bool) :=
 some v1
def zhM (a0:Tray):Option (Bool) :=
 if decide ((a0.Records.length:Int)>40)=true then
  zeZ true
 else
  zeZ (decide ((a0.Presses.length:Int)>40))
def zdL (v1:Bool):Option (Bool) :=
 some v1
def zcb (a0:Int) (a1:Int) (a2:Int):Option (Bool) :=
 if decide (a1<=a0)=true then
  zdL (decide (a0<=a2))
 else
  zdL false
def ze0 (a0:Tray) (a1:Int):Option (Bool) :=
 Option.bind (zcb a1 0 (w64 ((w64 (2*(a0.Records.length:Int)))-1))) fun r1 =>
 some r1
def zfP (a0:Int):Option (Bool) :=
 Option.bind (zcb a0 0 9999) fun r1 =>
 some r1
def zef:Option (Int) :=
 some 0
def zcO (rec1:Int->Option (Int)) (v2:Int) (v4:Bool):Option (Int) :=
 if v4=true then
  some 20
 else
  rec1 (w64 (v2+1))
def zdw (a0:Tray) (rec1:Int->Option (Int)) (v2:Int):Option (Int) :=
 if decide (v2<(a0.Presses.length:Int))=true then
  Option.bind (idx a0.Presses v2) fun x6 =>
  Option.bind (ze0 a0 x6.Side) fun r7 =>
  if (!r7)=true then
   zcO rec1 v2 true
  else
   Option.bind (idx a0.Presses v2) fun x9 =>
   Option.bind (zfP x9.Time) fun r10 =>
   zcO rec1 v2 (!r10)
 else
  zef
def zbR (a0:Tray):Nat->Int->Option (Int)
 | 0,_=>none
 | m+1,v2=>zdw a0 (zbR a0 m) v2
def zff (n:Nat) (a0:Tray) (a1:Int):Option (Int) :=
 if decide ((a0.Presses.length:Int)>a1)=true then
  some 20
 else
  zbR a0 n 0
def zeT (n:Nat) (a0:Tray):Option (Int) :=
 Option.bind (zff n a0 12) fun r3 =>
 some r3
def zdr (rec1:Int->Option (Int)) (v4:Int) (v6:Bool):Option (Int) :=
 if v6=true then
  some 20
 else
  rec1 (w64 (v4+1))
def zeg (n:Nat) (a0:Tray) (rec1:Int->Option (Int)) (v4:Int):Option (Int) :=
 if decide (v4<(a0.Records.length:Int))=true then
  Option.bind (idx a0.Records v4) fun x8 =>
  Option.bind (zcb x8.Front 1 999) fun r9 =>
  if (!r9)=true then
   zdr rec1 v4 true
  else
   Option.bind (idx a0.Records v4) fun x11 =>
   Option.bind (zcb x11.Back 1 999) fun r12 =>
   zdr rec1 v4 (!r12)
 else
  zeT n a0
def zb3 (n:Nat) (a0:Tray):Nat->Int->Option (Int)
 | 0,_=>none
 | m+1,v4=>zeg n a0 (zb3 n a0 m) v4
def zb4 (n:Nat) (a0:Tray) (v1:Bool):Option (Int) :=
 if v1=true then
  some 20
 else
  zb3 n a0 n 0
def zf8 (n:Nat) (a0:Tray):Option (Int) :=
 Option.bind (zcb (a0.Records.length:Int) 1 6) fun r13 =>
 if (!r13)=true then
  zb4 n a0 true
 else
  Option.bind (zcb a0.At 0 (w64 ((a0.Records.length:Int)-1))) fun r15 =>
  if (!r15)=true then
   zb4 n a0 true
  else
   if (a0.Way != 1)=true then
    if (a0.Way != (-1))=true then
     zb4 n a0 true
    else
     Option.bind (zcb a0.Step 0 60) fun r19 =>
     zb4 n a0 (!r19)
   else
    Option.bind (zcb a0.Step 0 60) fun r20 =>
    zb4 n a0 (!r20)
def cmp_isNaN_int (a0:Int):Option (Bool) :=
 some (a0 != a0)
def cmp_Compare_int (a0:Int) (a1:Int):Option (Int) :=
 Option.bind (cmp_isNaN_int a0) fun r1 =>
 Option.bind (cmp_isNaN_int a1) fun r2 =>
 if r1=true then
  if r2=true then
   some 0
  else
   some (-1)
 else
  if r2=true then
   some 1
  else
   if decide (a0<a1)=true then
    some (-1)
   else
    if decide (a0>a1)=true then
     some 1
    else
     some 0
def zgU (a0:Tray):Option (Tray) :=
 Option.bind (app ([]:List TrayRecord) a0.Records) fun l1 =>
 Option.bind (app ([]:List TrayPress) a0.Presses) fun l2 =>
 some (⟨l1,a0.At,a0.Way,a0.Step,l2⟩:Tray)
def zd9 (v1:Bool):Option (Bool) :=
 some v1
def zhr (a0:Tray) (a1:Int):Option (Bool) :=
 if decide (a1≥0)=true then
  zd9 (decide (a1<(w64 (2*(a0.Records.length:Int)))))
 else
  zd9 false
def zea (v1:Bool):Option (Bool) :=
 some v1
def zhs (a0:Int):Option (Bool) :=
 if decide (a0≥0)=true then
  zea (decide (a0<=9999))
 else
  zea false
def zfg (v3:Bool):Option (Int) :=
 if (!v3)=true then
  some 20
 else
  some 0
def zdY (rec1:Bool->Int->Option (Int)) (v6:Int) (v8:Bool):Option (Int) :=
 rec1 v8 (w64 (v6+1))
def zeu (a0:Tray) (rec1:Bool->Int->Option (Int)) (v5:Bool) (v6:Int):Option (Int) :=
 if decide (v6<(a0.Presses.length:Int))=true then
  Option.bind (idx a0.Presses v6) fun x9 =>
  if v5=true then
   Option.bind (zhr a0 x9.Side) fun r11 =>
   if r11=true then
    Option.bind (zhs x9.Time) fun r13 =>
    zdY rec1 v6 r13
   else
    zdY rec1 v6 false
  else
   zdY rec1 v6 false
 else
  zfg v5
def zcn (a0:Tray):Nat->Bool->Int->Option (Int)
 | 0,_,_=>none
 | m+1,v5,v6=>zeu a0 (zcn a0 m) v5 v6
def zf9 (n:Nat) (a0:Tray) (v2:Bool):Option (Int) :=
 zcn a0 n v2 0
def zcQ (rec2:Bool->Int->Option (Int)) (v15:Int) (v17:Bool):Option (Int) :=
 rec2 v17 (w64 (v15+1))
def zev (n:Nat) (a0:Tray) (rec2:Bool->Int->Option (Int)) (v14:Bool) (v15:Int):Option (Int) :=
 if decide (v15<(a0.Records.length:Int))=true then
  Option.bind (idx a0.Records v15) fun x18 =>
  if v14=true then
   if decide (x18.Front≥1)=true then
    if decide (x18.Front<=999)=true then
     if decide (x18.Back≥1)=true then
      zcQ rec2 v15 (decide (x18.Back<=999))
     else
      zcQ rec2 v15 false
    else
     zcQ rec2 v15 false
   else
    zcQ rec2 v15 false
  else
   zcQ rec2 v15 false
 else
  zf9 n a0 v14
def zco (n:Nat) (a0:Tray):Nat->Bool->Int->Option (Int)
 | 0,_,_=>none
 | m+1,v14,v15=>zev n a0 (zco n a0 m) v14 v15
def zbn (n:Nat) (a0:Tray) (v1:Bool):Option (Int) :=
 zco n a0 n v1 0
def zgV (n:Nat) (a0:Tray):Option (Int) :=
 if decide ((a0.Records.length:Int)≥1)=true then
  if decide ((a0.Records.length:Int)<=6)=true then
   if decide (a0.At≥0)=true then
    if decide (a0.At<(a0.Records.length:Int))=true then
     if (a0.Way==1)=true then
      if decide (a0.Step≥0)=true then
       if decide (a0.Step<=60)=true then
        zbn n a0 (decide ((a0.Presses.length:Int)<=12))
       else
        zbn n a0 false
      else
       zbn n a0 false
     else
      if (a0.Way==(-1))=true then
       if decide (a0.Step≥0)=true then
        if decide (a0.Step<=60)=true then
         zbn n a0 (decide ((a0.Presses.length:Int)<=12))
        else
         zbn n a0 false
       else
        zbn n a0 false
      else
       zbn n a0 false
    else
     zbn n a0 false
   else
    zbn n a0 false
  else
   zbn n a0 false
 else
  zbn n a0 false
def zbL (a0:List TrayPress):Option (List TrayPress):=app [] a0
def zaQ {S:Type} (rec1:Int->(List TrayPress)->S->Option (Unit×((List TrayPress)×S))) (v2:Int) (v6:List TrayPress) (v7:S):Option (Unit×((List TrayPress)×S)) :=
 rec1 (w64 (v2+1)) v6 v7
def zaD {S:Type} (rec1:Int->(List TrayPress)->S->Option (Unit×((List TrayPress)×S))) (rec2:Int->(List TrayPress)->S->Option (Unit×((List TrayPress)×S))) (mz0:Nat) (v2:Int) (v9:Int) (v10:List TrayPress) (v12:Bool) (v13:S):Option (Unit×((List TrayPress)×S)) :=
 if v12=true then
  Option.bind (zkm mz0 v10 (w64 (v9-1))) fun x15 =>
  Option.bind (zkm mz0 v10 v9) fun x16 =>
  Option.bind (zkm mz0 v10 v9) fun x17 =>
  Option.bind (zkm mz0 (v10.set (Int.toNat v9) x15) (w64 (v9-1))) fun x18 =>
  rec2 (w64 (v9-1)) ((v10.set (Int.toNat v9) x15).set (Int.toNat (w64 (v9-1))) x16) v13
 else
  zaQ rec1 v2 v10 v13
def zaK {S:Type} (rec1:Int->(List TrayPress)->S->Option (Unit×((List TrayPress)×S))) (a1:Int) (aF:TrayPress->TrayPress->S->Option (Int×S)) (mz0:Nat) (v2:Int) (rec2:Int->(List TrayPress)->S->Option (Unit×((List TrayPress)×S))) (v9:Int) (v10:List TrayPress) (v11:S):Option (Unit×((List TrayPress)×S)) :=
 if decide (v9>a1)=true then
  Option.bind (zkm mz0 v10 v9) fun x20 =>
  Option.bind (zkm mz0 v10 (w64 (v9-1))) fun x21 =>
  Option.bind (aF x20 x21 v11) fun r22 =>
  zaD rec1 rec2 mz0 v2 v9 v10 (decide (r22.1<0)) r22.2
 else
  zaD rec1 rec2 mz0 v2 v9 v10 false v11
def zal {S:Type} (rec1:Int->(List TrayPress)->S->Option (Unit×((List TrayPress)×S))) (a1:Int) (aF:TrayPress->TrayPress->S->Option (Int×S)) (mz0:Nat) (v2:Int):Nat->Int->(List TrayPress)->S->Option (Unit×((List TrayPress)×S))
 | 0,_,_,_=>none
 | m+1,v9,v10,v11=>zaK rec1 a1 aF mz0 v2 (zal rec1 a1 aF mz0 v2 m) v9 v10 v11
def zaL {S:Type} (n:Nat) (a1:Int) (a2:Int) (aF:TrayPress->TrayPress->S->Option (Int×S)) (mz0:Nat) (rec1:Int->(List TrayPress)->S->Option (Unit×((List TrayPress)×S))) (v2:Int) (v3:List TrayPress) (v4:S):Option (Unit×((List TrayPress)×S)) :=
 if decide (v2<a2)=true then
  zal rec1 a1 aF mz0 v2 n v2 v3 v4
 else
  some ((),(v3,v4))
def zab {S:Type} (n:Nat) (a1:Int) (a2:Int) (aF:TrayPress->TrayPress->S->Option (Int×S)) (mz0:Nat):Nat->Int->(List TrayPress)->S->Option (Unit×((List TrayPress)×S))
 | 0,_,_,_=>none
 | m+1,v2,v3,v4=>zaL n a1 a2 aF mz0 (zab n a1 a2 aF mz0 m) v2 v3 v4
def zaY {S:Type} (n:Nat) (aF:TrayPress->TrayPress->S->Option (Int×S)) (a1:Int) (a2:Int) (mz0:Nat) (st:(List TrayPress)×S):Option (Unit×((List TrayPress)×S)) :=
 zab n a1 a2 aF mz0 n (w64 (a1+1)) st.1 st.2
def za5 (rec1:Int->Option (Unit)) (v1:Int):Option (Unit) :=
 rec1 (w64 (v1+1))
def za6 (rec1:Int->Option (Unit)) (v1:Int):Option (Unit) :=
 za5 rec1 v1
def zbM (rec1:Int->Option (Unit)) (a1:Int) (v1:Int) (rec2:Int->Option (Unit)) (v3:Int):Option (Unit) :=
 if decide (v3>a1)=true then
  none
 else
  za6 rec1 v1
def zaM (rec1:Int->Option (Unit)) (a1:Int) (v1:Int):Nat->Int->Option (Unit)
 | 0,_=>none
 | m+1,v3=>zbM rec1 a1 v1 (zaM rec1 a1 v1 m) v3
def za1 (n:Nat) (a1:Int) (a2:Int) (rec1:Int->Option (Unit)) (v1:Int):Option (Unit) :=
 if decide (v1<a2)=true then
  zaM rec1 a1 v1 n v1
 else
  some ()
def zad (n:Nat) (a1:Int) (a2:Int):Nat->Int->Option (Unit)
 | 0,_=>none
 | m+1,v1=>za1 n a1 a2 (zad n a1 a2 m) v1
def zaW (n:Nat) (a1:Int) (a2:Int):Option (Unit) :=
 zad n a1 a2 n (w64 (a1+1))
def zbN {S:Type} (rec1:Int->Option (Unit×((List TrayPress)×S))) (v5:Int):Option (Unit×((List TrayPress)×S)) :=
 rec1 (w64 (v5*2))
def zbO {S:Type} (rec1:Int->Option (Unit×((List TrayPress)×S))) (a1:Int) (v5:Int) (v7:Int):Option (Unit×((List TrayPress)×S)) :=
 if decide ((w64 (v7+v5))<a1)=true then
  none
 else
  zbN rec1 v5
def zcs {S:Type} (rec1:Int->Option (Unit×((List TrayPress)×S))) (a1:Int) (v5:Int) (rec2:Int->Int->Option (Unit×((List TrayPress)×S))) (v9:Int) (v10:Int):Option (Unit×((List TrayPress)×S)) :=
 if decide (v10<=a1)=true then
  none
 else
  zbO rec1 a1 v5 v9
def za9 {S:Type} (rec1:Int->Option (Unit×((List TrayPress)×S))) (a1:Int) (v5:Int):Nat->Int->Int->Option (Unit×((List TrayPress)×S))
 | 0,_,_=>none
 | m+1,v9,v10=>zcs rec1 a1 v5 (za9 rec1 a1 v5 m) v9 v10
def zbB {S:Type} (n:Nat) (a1:Int) (r4:Unit×((List TrayPress)×S)) (rec1:Int->Option (Unit×((List TrayPress)×S))) (v5:Int):Option (Unit×((List TrayPress)×S)) :=
 if decide (v5<a1)=true then
  za9 rec1 a1 v5 n 0 (w64 (2*v5))
 else
  some ((),(r4.2.1,r4.2.2))
def zak {S:Type} (n:Nat) (a1:Int) (r4:Unit×((List TrayPress)×S)):Nat->Int->Option (Unit×((List TrayPress)×S))
 | 0,_=>none
 | m+1,v5=>zbB n a1 r4 (zak n a1 r4 m) v5
def zba {S:Type} (n:Nat) (a1:Int) (aF:TrayPress->TrayPress->S->Option (Int×S)) (mz0:Nat) (v1:Int) (v2:List TrayPress) (v3:S):Option (Unit×((List TrayPress)×S)) :=
 Option.bind (zaY n aF v1 a1 mz0 (v2,v3)) fun r4 =>
 zak n a1 r4 n 20
def zbC {S:Type} (n:Nat) (a1:Int) (aF:TrayPress->TrayPress->S->Option (Int×S)) (mz0:Nat) (rec3:Int->Int->(List TrayPress)->S->Option (Unit×((List TrayPress)×S))) (v14:Int) (v15:Int) (v16:List TrayPress) (v17:S):Option (Unit×((List TrayPress)×S)) :=
 if decide (v15<=a1)=true then
  Option.bind (zaY n aF v14 v15 mz0 (v16,v17)) fun r19 =>
  rec3 v15 (w64 (v15+20)) r19.2.1 r19.2.2
 else
  zba n a1 aF mz0 v14 v16 v17
def zaV {S:Type} (n:Nat) (a1:Int) (aF:TrayPress->TrayPress->S->Option (Int×S)) (mz0:Nat):Nat->Int->Int->(List TrayPress)->S->Option (Unit×((List TrayPress)×S))
 | 0,_,_,_,_=>none
 | m+1,v14,v15,v16,v17=>zbC n a1 aF mz0 (zaV n a1 aF mz0 m) v14 v15 v16 v17
def zb6 {S:Type} (n:Nat) (aF:TrayPress->TrayPress->S->Option (Int×S)) (a1:Int) (mz0:Nat) (st:(List TrayPress)×S):Option (Unit×((List TrayPress)×S)) :=
 zaV n a1 aF mz0 n 0 20 st.1 st.2
def zbD (rec1:Int->Option (Unit)) (v3:Int):Option (Unit) :=
 rec1 (w64 (v3*2))
def zbE (rec1:Int->Option (Unit)) (a1:Int) (v3:Int) (v5:Int):Option (Unit) :=
 if decide ((w64 (v5+v3))<a1)=true then
  none
 else
  zbD rec1 v3
def zcm (rec1:Int->Option (Unit)) (a1:Int) (v3:Int) (rec2:Int->Int->Option (Unit)) (v7:Int) (v8:Int):Option (Unit) :=
 if decide (v8<=a1)=true then
  none
 else
  zbE rec1 a1 v3 v7
def za2 (rec1:Int->Option (Unit)) (a1:Int) (v3:Int):Nat->Int->Int->Option (Unit)
 | 0,_,_=>none
 | m+1,v7,v8=>zcm rec1 a1 v3 (za2 rec1 a1 v3 m) v7 v8
def zbr (n:Nat) (a1:Int) (rec1:Int->Option (Unit)) (v3:Int):Option (Unit) :=
 if decide (v3<a1)=true then
  za2 rec1 a1 v3 n 0 (w64 (2*v3))
 else
  some ()
def zag (n:Nat) (a1:Int):Nat->Int->Option (Unit)
 | 0,_=>none
 | m+1,v3=>zbr n a1 (zag n a1 m) v3
def za3 (n:Nat) (a1:Int) (v1:Int):Option (Unit) :=
 Option.bind (zaW n v1 a1) fun r2 =>
 zag n a1 n 20
def zbs (n:Nat) (a1:Int) (rec3:Int->Int->Option (Unit)) (v10:Int) (v11:Int):Option (Unit) :=
 if decide (v11<=a1)=true then
  Option.bind (zaW n v10 v11) fun r13 =>
  rec3 v11 (w64 (v11+20))
 else
  za3 n a1 v10
def zaN (n:Nat) (a1:Int):Nat->Int->Int->Option (Unit)
 | 0,_,_=>none
 | m+1,v10,v11=>zbs n a1 (zaN n a1 m) v10 v11
def zbU (n:Nat) (a1:Int):Option (Unit) :=
 zaN n a1 n 0 20
def zbh {S:Type} (n:Nat) (aF:TrayPress->TrayPress->S->Option (Int×S)) (mz0:Nat) (st:(List TrayPress)×S):Option (Unit×((List TrayPress)×S)) :=
 Option.bind (zb6 n aF (mz0:Int) mz0 (st.1,st.2)) fun r1 =>
 some ((),(r1.2.1,r1.2.2))
def zbb (n:Nat):Option (Unit) :=
 Option.bind (zbU n (([]:List TrayPress).length:Int)) fun r1 =>
 some ()
def zfQ (a0:TrayPress) (a1:TrayPress):Option (Int) :=
 some (w64 (a0.Time-a1.Time))
def zbI (a1:Int) (st:Carriage_):Option (Unit×Carriage_) :=
 Option.bind (app st.run.spells ([(⟨(⟨st.at_.At,st.at_.Way,a1⟩:TrayStand),st.now⟩:Spell_)]:List Spell_)) fun l1 =>
 some ((),(⟨st.t,st.queue,st.pins,st.now,(⟨st.at_.At,st.at_.Way,a1⟩:TrayStand),(⟨l1,st.run.plays,st.run.steps,st.run.end_⟩:Run_)⟩:Carriage_))
def zch (rec1:(List TrayPress)->(List Bool)->Option (Unit×Carriage_)) (st:Carriage_) (v1:List TrayPress) (v2:List Bool) (v3:Bool):Option (Unit×Carriage_) :=
 if v3=true then
  Option.bind (idx v1 0) fun x5 =>
  Option.bind (zkm (2*st.t.Records.length) v2 x5.Side) fun x6 =>
  Option.bind (cut v1 1 (v1.length:Int)) fun c7 =>
  rec1 c7 (v2.set (Int.toNat x5.Side) true)
 else
  some ((),(⟨st.t,v1,v2,st.now,st.at_,st.run⟩:Carriage_))
def zc9 (st:Carriage_) (rec1:(List TrayPress)->(List Bool)->Option (Unit×Carriage_)) (v1:List TrayPress) (v2:List Bool):Option (Unit×Carriage_) :=
 if decide ((v1.length:Int)>0)=true then
  Option.bind (idx v1 0) fun x9 =>
  zch rec1 st v1 v2 (decide (x9.Time<=st.now))
 else
  zch rec1 st v1 v2 false
def za4 (st:Carriage_):Nat->(List TrayPress)->(List Bool)->Option (Unit×Carriage_)
 | 0,_,_=>none
 | m+1,v1,v2=>zc9 st (za4 st m) v1 v2
def zel (n:Nat) (st:Carriage_):Option (Unit×Carriage_) :=
 za4 st n st.queue st.pins
def zc2:Option (Int) :=
 some (-1)
def zcL (a0:List Bool) (a1:Bool) (rec1:Int->Option (Int)) (v1:Int):Option (Int) :=
 if decide (v1<(a0.length:Int))=true then
  Option.bind (idx a0 v1) fun x3 =>
  if (a1==x3)=true then
   some v1
  else
   rec1 (w64 (v1+1))
 else
  zc2
def zbH (a0:List Bool) (a1:Bool):Nat->Int->Option (Int)
 | 0,_=>none
 | m+1,v1=>zcL a0 a1 (zbH a0 a1 m) v1
def zdZ (n:Nat) (a0:List Bool) (a1:Bool):Option (Int) :=
 zbH a0 a1 n 0
def zc3 (n:Nat) (a0:List Bool) (a1:Bool):Option (Bool) :=
 Option.bind (zdZ n a0 a1) fun r1 =>
 some (decide (r1≥0))
def zhN (a0:Tray) (a1:Int):Option (Int) :=
 Option.bind (rem a1 2) fun q1 =>
 if (q1==0)=true then
  Option.bind (quo a1 2) fun q3 =>
  Option.bind (idx a0.Records q3) fun x4 =>
  some x4.Front
 else
  Option.bind (quo a1 2) fun q5 =>
  Option.bind (idx a0.Records q5) fun x6 =>
  some x6.Back
def zbW (st:Carriage_) (v1:Int) (v2:Int) (v3:Int) (v4:Int):Option (Unit×Carriage_) :=
 Option.bind (zbI (-1) (⟨st.t,st.queue,st.pins,v1,(⟨v2,v3,st.at_.Side⟩:TrayStand),(⟨st.run.spells,st.run.plays,v4,st.run.end_⟩:Run_)⟩:Carriage_)) fun r5 =>
 some ((),r5.2)
def zbd (st:Carriage_) (v6:Bool):Option (Unit×Carriage_) :=
 if v6=true then
  zbW st (w64 (st.now+st.t.Step)) (w64 (st.at_.At+st.at_.Way)) st.at_.Way (w64 (st.run.steps+1))
 else
  zbW st st.now st.at_.At (w64 (0-st.at_.Way)) st.run.steps
def zdx (st:Carriage_):Option (Unit×Carriage_) :=
 if decide ((w64 (st.at_.At+st.at_.Way))≥0)=true then
  zbd st (decide ((w64 (st.at_.At+st.at_.Way))<(st.t.Records.length:Int)))
 else
  zbd st false
def zb9 (v8:List TrayRecord) (v9:Int) (v10:Int) (v11:Int) (v12:List TrayPress) (v13:List TrayPress) (v14:Int) (v15:Int) (v16:Int) (v17:Int) (v18:List Spell_) (v19:List TrayPlay) (v20:Int) (v21:Int) (v22:List Bool):Option (Bool×Carriage_) :=
 Option.bind (zdx (⟨(⟨v8,v9,v10,v11,v12⟩:Tray),v13,v22,v14,(⟨v15,v16,v17⟩:TrayStand),(⟨v18,v19,v20,v21⟩:Run_)⟩:Carriage_)) fun r23 =>
 some (true,r23.2)
def zca (r1:Unit×Carriage_) (v7:Int):Option (Bool×Carriage_) :=
 Option.bind (zkm (2*r1.2.t.Records.length) r1.2.pins v7) fun x24 =>
 if x24=true then
  Option.bind (zkm (2*r1.2.t.Records.length) r1.2.pins v7) fun x26 =>
  Option.bind (app r1.2.run.plays ([(⟨v7,r1.2.now⟩:TrayPlay)]:List TrayPlay)) fun l27 =>
  Option.bind (zbI v7 (⟨r1.2.t,r1.2.queue,(r1.2.pins.set (Int.toNat v7) false),r1.2.now,r1.2.at_,(⟨r1.2.run.spells,l27,r1.2.run.steps,r1.2.run.end_⟩:Run_)⟩:Carriage_)) fun r28 =>
  Option.bind (zhN r28.2.t v7) fun r29 =>
  Option.bind (zbI (-1) (⟨r28.2.t,r28.2.queue,r28.2.pins,w64 (r28.2.now+r29),r28.2.at_,(⟨r28.2.run.spells,r28.2.run.plays,r28.2.run.steps,w64 (r28.2.now+r29)⟩:Run_)⟩:Carriage_)) fun r30 =>
  zb9 r30.2.t.Records r30.2.t.At r30.2.t.Way r30.2.t.Step r30.2.t.Presses r30.2.queue r30.2.now r30.2.at_.At r30.2.at_.Way r30.2.at_.Side r30.2.run.spells r30.2.run.plays r30.2.run.steps r30.2.run.end_ r30.2.pins
 else
  zb9 r1.2.t.Records r1.2.t.At r1.2.t.Way r1.2.t.Step r1.2.t.Presses r1.2.queue r1.2.now r1.2.at_.At r1.2.at_.Way r1.2.at_.Side r1.2.run.spells r1.2.run.plays r1.2.run.steps r1.2.run.end_ r1.2.pins
def zcj (n:Nat) (st:Carriage_):Option (Bool×Carriage_) :=
 Option.bind (zel n st) fun r1 =>
 Option.bind (zqz (2*r1.2.t.Records.length) r1.2.pins) fun x2 =>
 Option.bind (zc3 n r1.2.pins true) fun r3 =>
 if (!r3)=true then
  if ((r1.2.queue.length:Int)==0)=true then
   some (false,r1.2)
  else
   Option.bind (idx r1.2.queue 0) fun x6 =>
   some (true,(⟨r1.2.t,r1.2.queue,r1.2.pins,x6.Time,r1.2.at_,r1.2.run⟩:Carriage_))
 else
  if decide (r1.2.at_.Way<0)=true then
   zca r1 (w64 ((w64 (2*r1.2.at_.At))+1))
  else
   zca r1 (w64 (2*r1.2.at_.At))
def zgB (v6:List TrayRecord) (v7:Int) (v8:Int) (v9:Int) (v10:List TrayPress) (v11:List TrayPress) (v12:Int) (v13:Int) (v14:Int) (v15:Int) (v16:List Spell_) (v17:List TrayPlay) (v18:Int) (v19:Int) (v20:List Bool):Option (Run_) :=
 some (⟨v16,v17,v18,v19⟩:Run_)
def zfT (n:Nat) (rec1:(List TrayRecord)->Int->Int->Int->(List TrayPress)->(List TrayPress)->Int->Int->Int->Int->(List Spell_)->(List TrayPlay)->Int->Int->(List Bool)->Option (Run_)) (v21:List TrayRecord) (v22:Int) (v23:Int) (v24:Int) (v25:List TrayPress) (v26:List TrayPress) (v27:Int) (v28:Int) (v29:Int) (v30:Int) (v31:List Spell_) (v32:List TrayPlay) (v33:Int) (v34:Int) (v35:List Bool):Option (Run_) :=
 Option.bind (zcj n (⟨(⟨v21,v22,v23,v24,v25⟩:Tray),v26,v35,v27,(⟨v28,v29,v30⟩:TrayStand),(⟨v31,v32,v33,v34⟩:Run_)⟩:Carriage_)) fun r36 =>
 if r36.1=true then
  rec1 r36.2.t.Records r36.2.t.At r36.2.t.Way r36.2.t.Step r36.2.t.Presses r36.2.queue r36.2.now r36.2.at_.At r36.2.at_.Way r36.2.at_.Side r36.2.run.spells r36.2.run.plays r36.2.run.steps r36.2.run.end_ r36.2.pins
 else
  zgB r36.2.t.Records r36.2.t.At r36.2.t.Way r36.2.t.Step r36.2.t.Presses r36.2.queue r36.2.now r36.2.at_.At r36.2.at_.Way r36.2.at_.Side r36.2.run.spells r36.2.run.plays r36.2.run.steps r36.2.run.end_ r36.2.pins
def zdM (n:Nat):Nat->(List TrayRecord)->Int->Int->Int->(List TrayPress)->(List TrayPress)->Int->Int->Int->Int->(List Spell_)->(List TrayPlay)->Int->Int->(List Bool)->Option (Run_)
 | 0,_,_,_,_,_,_,_,_,_,_,_,_,_,_,_=>none
 | m+1,v21,v22,v23,v24,v25,v26,v27,v28,v29,v30,v31,v32,v33,v34,v35=>zfT n (zdM n m) v21 v22 v23 v24 v25 v26 v27 v28 v29 v30 v31 v32 v33 v34 v35
def zgC (v42:List TrayRecord) (v43:Int) (v44:Int) (v45:Int) (v46:List TrayPress) (v47:List TrayPress) (v48:Int) (v49:Int) (v50:Int) (v51:Int) (v52:List Spell_) (v53:List TrayPlay) (v54:Int) (v55:Int) (v56:List Bool):Option (Run_) :=
 some (⟨v52,v53,v54,v55⟩:Run_)
def zfU (n:Nat) (rec2:(List TrayRecord)->Int->Int->Int->(List TrayPress)->(List TrayPress)->Int->Int->Int->Int->(List Spell_)->(List TrayPlay)->Int->Int->(List Bool)->Option (Run_)) (v57:List TrayRecord) (v58:Int) (v59:Int) (v60:Int) (v61:List TrayPress) (v62:List TrayPress) (v63:Int) (v64:Int) (v65:Int) (v66:Int) (v67:List Spell_) (v68:List TrayPlay) (v69:Int) (v70:Int) (v71:List Bool):Option (Run_) :=
 Option.bind (zcj n (⟨(⟨v57,v58,v59,v60,v61⟩:Tray),v62,v71,v63,(⟨v64,v65,v66⟩:TrayStand),(⟨v67,v68,v69,v70⟩:Run_)⟩:Carriage_)) fun r72 =>
 if r72.1=true then
  rec2 r72.2.t.Records r72.2.t.At r72.2.t.Way r72.2.t.Step r72.2.t.Presses r72.2.queue r72.2.now r72.2.at_.At r72.2.at_.Way r72.2.at_.Side r72.2.run.spells r72.2.run.plays r72.2.run.steps r72.2.run.end_ r72.2.pins
 else
  zgC r72.2.t.Records r72.2.t.At r72.2.t.Way r72.2.t.Step r72.2.t.Presses r72.2.queue r72.2.now r72.2.at_.At r72.2.at_.Way r72.2.at_.Side r72.2.run.spells r72.2.run.plays r72.2.run.steps r72.2.run.end_ r72.2.pins
def zep (n:Nat):Nat->(List TrayRecord)->Int->Int->Int->(List TrayPress)->(List TrayPress)->Int->Int->Int->Int->(List Spell_)->(List TrayPlay)->Int->Int->(List Bool)->Option (Run_)
 | 0,_,_,_,_,_,_,_,_,_,_,_,_,_,_,_=>none
 | m+1,v57,v58,v59,v60,v61,v62,v63,v64,v65,v66,v67,v68,v69,v70,v71=>zfU n (zep n m) v57 v58 v59 v60 v61 v62 v63 v64 v65 v66 v67 v68 v69 v70 v71
def zhO (n:Nat) (a0:Tray):Option (Run_) :=
 Option.bind (zbL a0.Presses) fun r1 =>
 if (r1.length==0)=true then
  Option.bind (mkN (2*a0.Records.length) (w64 (2*(a0.Records.length:Int))) false) fun l3 =>
  Option.bind (zbb n) fun r4 =>
  Option.bind (zbI (-1) (⟨a0,([]:List TrayPress),l3,0,(⟨a0.At,a0.Way,(-1)⟩:TrayStand),(⟨([]:List Spell_),([]:List TrayPlay),0,0⟩:Run_)⟩:Carriage_)) fun r5 =>
  zdM n n r5.2.t.Records r5.2.t.At r5.2.t.Way r5.2.t.Step r5.2.t.Presses r5.2.queue r5.2.now r5.2.at_.At r5.2.at_.Way r5.2.at_.Side r5.2.run.spells r5.2.run.plays r5.2.run.steps r5.2.run.end_ r5.2.pins
 else
  Option.bind (mkN (2*a0.Records.length) (w64 (2*(a0.Records.length:Int))) false) fun l38 =>
  Option.bind (zbh n (fun (x0:TrayPress) (x1:TrayPress) (_:Unit)=>(zfQ x0 x1).map fun y=>(y,())) r1.length (r1,())) fun r39 =>
  Option.bind (zqz r1.length r39.2.1) fun x40 =>
  Option.bind (zbI (-1) (⟨a0,r39.2.1,l38,0,(⟨a0.At,a0.Way,(-1)⟩:TrayStand),(⟨([]:List Spell_),([]:List TrayPlay),0,0⟩:Run_)⟩:Carriage_)) fun r41 =>
  zep n n r41.2.t.Records r41.2.t.At r41.2.t.Way r41.2.t.Step r41.2.t.Presses r41.2.queue r41.2.now r41.2.at_.At r41.2.at_.Way r41.2.at_.Side r41.2.run.spells r41.2.run.plays r41.2.run.steps r41.2.run.end_ r41.2.pins
def zfZ (n:Nat) (a0:Tray):Option ((List TrayPlay)×Int) :=
 Option.bind (zgV n a0) fun r1 =>
 if (r1 != 0)=true then
  some (([]:List TrayPlay),r1)
 else
  Option.bind (zhO n a0) fun r3 =>
  some (r3.plays,0)
def zdN (v1:Bool):Option (Bool) :=
 some v1
def zcR (a0:Int) (a1:Int) (a2:Int):Option (Bool) :=
 if decide (a1<=a0)=true then
  zdN (decide (a0<=a2))
 else
  zdN false
def zdp (v1:Bool):Option (Bool) :=
 some v1
def zew (a0:Wire) (a1:Int) (a2:Int):Option (Bool) :=
 Option.bind (zcR a1 0 (w64 (a0.Letters-1))) fun r2 =>
 if r2=true then
  Option.bind (zcR a2 0 (w64 (a0.Numbers-1))) fun r4 =>
  zdp r4
 else
  zdp false
def zda (v1:Bool):Option (Bool) :=
 some v1
def zds (a0:WirePress) (a1:Wire):Option (Bool) :=
 Option.bind (zew a1 a0.Letter a0.Number) fun r2 =>
 if (!r2)=true then
  zda true
 else
  Option.bind (zcR a0.Got (-1) (w64 ((w64 (a1.Letters*a1.Numbers))-1))) fun r4 =>
  zda (!r4)
def zbt {S:Type} (v1:S):Option (Int×S) :=
 some ((-1),v1)
def zbi {S:Type} (a0:List WirePress) (aF:WirePress->S->Option (Bool×S)) (rec1:Int->S->Option (Int×S)) (v3:Int) (v4:S):Option (Int×S) :=
 if decide (v3<(a0.length:Int))=true then
  Option.bind (idx a0 v3) fun x6 =>
  Option.bind (aF x6 v4) fun r7 =>
  if r7.1=true then
   some (v3,r7.2)
  else
   rec1 (w64 (v3+1)) r7.2
 else
  zbt v4
def zaw {S:Type} (a0:List WirePress) (aF:WirePress->S->Option (Bool×S)):Nat->Int->S->Option (Int×S)
 | 0,_,_=>none
 | m+1,v3,v4=>zbi a0 aF (zaw a0 aF m) v3 v4
def zcw {S:Type} (n:Nat) (aF:WirePress->S->Option (Bool×S)) (a0:List WirePress) (st:S):Option (Int×S) :=
 zaw a0 aF n 0 st
def zbu {S:Type} (n:Nat) (aF:WirePress->S->Option (Bool×S)) (a0:List WirePress) (st:S):Option (Bool×S) :=
 Option.bind (zcw n aF a0 st) fun r1 =>
 some (decide (r1.1≥0),r1.2)
def zbz (v1:Bool):Option (Int) :=
 if v1=true then
  some 110
 else
  some 0
def zga (n:Nat) (a0:Wire):Option (Int) :=
 Option.bind (zcR a0.Letters 1 5) fun r3 =>
 if (!r3)=true then
  zbz true
 else
  Option.bind (zcR a0.Numbers 1 5) fun r5 =>
  if (!r5)=true then
   zbz true
  else
   Option.bind (zcR a0.Faults 0 3) fun r7 =>
   if (!r7)=true then
    zbz true
   else
    if decide ((a0.Presses.length:Int)>8)=true then
     zbz true
    else
     Option.bind (zbu n (fun (x0:WirePress) (_:Unit)=>(zds x0 a0).map fun y=>(y,())) a0.Presses ()) fun r10 =>
     zbz r10.1
def zgb (a0:Wire) (v1:List WireFault):Option ((Option Wiring_)) :=
 some (some (⟨a0,v1⟩:Wiring_))
def zgc (rec1:Int->(List WireFault)->Option ((Option Wiring_))) (v3:Int) (v6:List WireFault):Option ((Option Wiring_)) :=
 rec1 (w64 (v3+1)) v6
def zfh (rec2:Int->(List WireFault)->Option ((Option Wiring_))) (v10:Int) (v13:List WireFault):Option ((Option Wiring_)) :=
 rec2 (w64 (v10+1)) v13
def zgD (rec2:Int->(List WireFault)->Option ((Option Wiring_))) (x7:Int) (v8:Int) (v10:Int) (rec3:Int->(List WireFault)->Option ((Option Wiring_))) (v18:Int) (v19:List WireFault):Option ((Option Wiring_)) :=
 if decide (v18<v8)=true then
  Option.bind (app v19 ([(⟨x7,v10,v18⟩:WireFault)]:List WireFault)) fun l21 =>
  rec3 (w64 (v18+1)) l21
 else
  zfh rec2 v10 v19
def zfi (rec2:Int->(List WireFault)->Option ((Option Wiring_))) (x7:Int) (v8:Int) (v10:Int):Nat->Int->(List WireFault)->Option ((Option Wiring_))
 | 0,_,_=>none
 | m+1,v18,v19=>zgD rec2 x7 v8 v10 (zfi rec2 x7 v8 v10 m) v18 v19
def zfj (n:Nat) (rec2:Int->(List WireFault)->Option ((Option Wiring_))) (x7:Int) (v8:Int) (v10:Int) (v11:List WireFault) (v14:Bool):Option ((Option Wiring_)) :=
 if v14=true then
  Option.bind (app v11 ([(⟨x7,v10,0⟩:WireFault)]:List WireFault)) fun l16 =>
  zfh rec2 v10 l16
 else
  zfi rec2 x7 v8 v10 n (w64 (v10+1)) v11
def zgE (n:Nat) (rec1:Int->(List WireFault)->Option ((Option Wiring_))) (v3:Int) (x7:Int) (v8:Int) (rec2:Int->(List WireFault)->Option ((Option Wiring_))) (v10:Int) (v11:List WireFault):Option ((Option Wiring_)) :=
 if decide (v10<v8)=true then
  if (x7==1)=true then
   zfj n rec2 x7 v8 v10 v11 true
  else
   zfj n rec2 x7 v8 v10 v11 (x7==2)
 else
  zgc rec1 v3 v11
def zb7 (n:Nat) (rec1:Int->(List WireFault)->Option ((Option Wiring_))) (v3:Int) (x7:Int) (v8:Int):Nat->Int->(List WireFault)->Option ((Option Wiring_))
 | 0,_,_=>none
 | m+1,v10,v11=>zgE n rec1 v3 x7 v8 (zb7 n rec1 v3 x7 v8 m) v10 v11
def zfk (n:Nat) (rec1:Int->(List WireFault)->Option ((Option Wiring_))) (v3:Int) (v4:List WireFault) (x7:Int) (v8:Int):Option ((Option Wiring_)) :=
 zb7 n rec1 v3 x7 v8 n 0 v4
def zfl (n:Nat) (rec1:Int->(List WireFault)->Option ((Option Wiring_))) (a0:Wire) (v3:Int) (v4:List WireFault) (x7:Int) (v23:Bool):Option ((Option Wiring_)) :=
 if v23=true then
  zfk n rec1 v3 v4 x7 a0.Numbers
 else
  zfk n rec1 v3 v4 x7 a0.Letters
def zgF (n:Nat) (a0:Wire) (rec1:Int->(List WireFault)->Option ((Option Wiring_))) (v3:Int) (v4:List WireFault):Option ((Option Wiring_)) :=
 if decide (v3<4)=true then
  Option.bind (idx ([1,2,3,4]:List Int) v3) fun x7 =>
  if (x7==2)=true then
   zfl n rec1 a0 v3 v4 x7 true
  else
   zfl n rec1 a0 v3 v4 x7 (x7==4)
 else
  zgb a0 v4
def zaO (n:Nat) (a0:Wire):Nat->Int->(List WireFault)->Option ((Option Wiring_))
 | 0,_,_=>none
 | m+1,v3,v4=>zgF n a0 (zaO n a0 m) v3 v4
def zh7 (n:Nat) (a0:Wire):Option ((Option Wiring_)) :=
 zaO n a0 n 0 ([]:List WireFault)
def zbX:Option (Int) :=
 some (-1)
def zbJ (a0:List WireFault) (a1:WireFault) (rec1:Int->Option (Int)) (v1:Int):Option (Int) :=
 if decide (v1<(a0.length:Int))=true then
  Option.bind (idx a0 v1) fun x3 =>
  if ((a1.Kind==x3.Kind)&&((a1.A==x3.A)&&((a1.B==x3.B)&&true)))=true then
   some v1
  else
   rec1 (w64 (v1+1))
 else
  zbX
def zaR (a0:List WireFault) (a1:WireFault):Nat->Int->Option (Int)
 | 0,_=>none
 | m+1,v1=>zbJ a0 a1 (zaR a0 a1 m) v1
def zbP (n:Nat) (a0:List WireFault) (a1:WireFault):Option (Int) :=
 zaR a0 a1 n 0
def zbY (n:Nat) (a0:List WireFault) (a1:WireFault):Option (Bool) :=
 Option.bind (zbP n a0 a1) fun r1 =>
 some (decide (r1≥0))
def zfm:Option (Int) :=
 some 0
def zex (a0:List Int) (rec1:Int->Option (Int)) (v1:Int):Option (Int) :=
 if decide (v1<(a0.length:Int))=true then
  Option.bind (idx a0 v1) fun x3 =>
  if (x3 != 0)=true then
   some x3
  else
   rec1 (w64 (v1+1))
 else
  zfm
def zdj (a0:List Int):Nat->Int->Option (Int)
 | 0,_=>none
 | m+1,v1=>zex a0 (zdj a0 m) v1
def zgW (n:Nat) (a0:List Int):Option (Int) :=
 zdj a0 n 0
def zgd (n:Nat) (a0:WireFault) (a1:WireFault):Option (Int) :=
 Option.bind (cmp_Compare_int a0.Kind a1.Kind) fun r1 =>
 Option.bind (cmp_Compare_int a0.A a1.A) fun r2 =>
 Option.bind (cmp_Compare_int a0.B a1.B) fun r3 =>
 Option.bind (zgW n ([r1,r2,r3]:List Int)) fun r4 =>
 some r4
def zbv {S:Type} (v1:S):Option (Int×S) :=
 some ((-1),v1)
def zbj {S:Type} (a0:List WireFault) (aF:WireFault->S->Option (Bool×S)) (rec1:Int->S->Option (Int×S)) (v3:Int) (v4:S):Option (Int×S) :=
 if decide (v3<(a0.length:Int))=true then
  Option.bind (idx a0 v3) fun x6 =>
  Option.bind (aF x6 v4) fun r7 =>
  if r7.1=true then
   some (v3,r7.2)
  else
   rec1 (w64 (v3+1)) r7.2
 else
  zbv v4
def zax {S:Type} (a0:List WireFault) (aF:WireFault->S->Option (Bool×S)):Nat->Int->S->Option (Int×S)
 | 0,_,_=>none
 | m+1,v3,v4=>zbj a0 aF (zax a0 aF m) v3 v4
def zcx {S:Type} (n:Nat) (aF:WireFault->S->Option (Bool×S)) (a0:List WireFault) (st:S):Option (Int×S) :=
 zax a0 aF n 0 st
def zaP {S:Type} (n:Nat) (aF:WireFault->S->Option (Bool×S)) (a0:List WireFault) (st:S):Option (Bool×S) :=
 Option.bind (zcx n aF a0 st) fun r1 =>
 some (decide (r1.1≥0),r1.2)
def zcp (v1:Bool):Option (Bool) :=
 some v1
def zge (a0:WireFault) (a1:WireFault):Option (Bool) :=
 if (a0.Kind==a1.Kind)=true then
  if decide (a0.Kind≥3)=true then
   if (a0.A==a1.A)=true then
    zcp true
   else
    if (a0.A==a1.B)=true then
     zcp true
    else
     if (a0.B==a1.A)=true then
      zcp true
     else
      zcp (a0.B==a1.B)
  else
   zcp false
 else
  zcp false
def zbe (a0:WireFault) (a1:WireFault):Option (Bool) :=
 Option.bind (zge a1 a0) fun r1 =>
 some r1
def zcS:Option (Bool) :=
 some true
def zby (rec1:Int->Option (Bool)) (v1:Int) (v4:Bool):Option (Bool) :=
 if v4=true then
  some false
 else
  rec1 (w64 (v1+1))
def zcB (n:Nat) (a0:Option Wiring_) (a1:List WireFault) (rec1:Int->Option (Bool)) (v1:Int):Option (Bool) :=
 if decide (v1<(a1.length:Int))=true then
  Option.bind (idx a1 v1) fun x3 =>
  Option.bind (a0) fun x6 =>
  Option.bind (zbY n x6.all x3) fun r7 =>
  if (!r7)=true then
   zby rec1 v1 true
  else
   if decide (v1>0)=true then
    Option.bind (idx a1 (w64 (v1-1))) fun x10 =>
    Option.bind (zgd n x10 x3) fun r11 =>
    if decide (r11≥0)=true then
     zby rec1 v1 true
    else
     Option.bind (cut a1 0 v1) fun c13 =>
     Option.bind (zaP n (fun (x0:WireFault) (_:Unit)=>(zbe x0 x3).map fun y=>(y,())) c13 ()) fun r14 =>
     zby rec1 v1 r14.1
   else
    Option.bind (cut a1 0 v1) fun c15 =>
    Option.bind (zaP n (fun (x0:WireFault) (_:Unit)=>(zbe x0 x3).map fun y=>(y,())) c15 ()) fun r16 =>
    zby rec1 v1 r16.1
 else
  zcS
def za0 (n:Nat) (a0:Option Wiring_) (a1:List WireFault):Nat->Int->Option (Bool)
 | 0,_=>none
 | m+1,v1=>zcB n a0 a1 (za0 n a0 a1 m) v1
def zdy (n:Nat) (a0:Option Wiring_) (a1:List WireFault):Option (Bool) :=
 za0 n a0 a1 n 0
def zcr (a0:Option Wiring_) (x1:Int) (x2:Int) (v3:Bool):Option (Int) :=
 if v3=true then
  some (-1)
 else
  Option.bind (a0) fun x5 =>
  some (w64 ((w64 (x1*x5.Wire.Numbers))+x2))
def zdz (a0:Option Wiring_) (a1:Panel_) (a2:Int) (a3:Int):Option (Int) :=
 Option.bind (idx ([a1.letters.c0,a1.letters.c1,a1.letters.c2,a1.letters.c3,a1.letters.c4]:List Int) a2) fun x1 =>
 Option.bind (idx ([a1.numbers.c0,a1.numbers.c1,a1.numbers.c2,a1.numbers.c3,a1.numbers.c4]:List Int) a3) fun x2 =>
 if decide (x1<0)=true then
  zcr a0 x1 x2 true
 else
  zcr a0 x1 x2 (decide (x2<0))
def zcT (xs:List Int) (off:Nat) (a1:WireFault):Option (List Int) :=
 if (0<=a1.A/\a1.A<5)/\(0<=a1.B/\a1.B<5)/\off+5<=xs.length then some ((xs.set (off+a1.A.toNat) a1.B).set (off+a1.B.toNat) a1.A) else none
def zfn (v21:Int) (v22:Int) (v23:Int) (v24:Int) (v25:Int) (v26:Int) (v27:Int) (v28:Int) (v29:Int) (v30:Int):Option (Panel_) :=
 some (⟨(⟨v21,v22,v23,v24,v25⟩:Keys_),(⟨v26,v27,v28,v29,v30⟩:Keys_)⟩:Panel_)
def zcU (rec1:Int->Int->Int->Int->Int->Int->Int->Int->Int->Int->Int->Option (Panel_)) (v32:Int) (v44:Int) (v45:Int) (v46:Int) (v47:Int) (v48:Int) (v49:Int) (v50:Int) (v51:Int) (v52:Int) (v53:Int):Option (Panel_) :=
 rec1 (w64 (v32+1)) v44 v45 v46 v47 v48 v49 v50 v51 v52 v53
def zey (a0:List WireFault) (rec1:Int->Int->Int->Int->Int->Int->Int->Int->Int->Int->Int->Option (Panel_)) (v32:Int) (v33:Int) (v34:Int) (v35:Int) (v36:Int) (v37:Int) (v38:Int) (v39:Int) (v40:Int) (v41:Int) (v42:Int):Option (Panel_) :=
 if decide (v32<(a0.length:Int))=true then
  Option.bind (idx a0 v32) fun x54 =>
  if (x54.Kind==1)=true then
   Option.bind (idx ([v33,v34,v35,v36,v37]:List Int) x54.A) fun x56 =>
   Option.bind (zqU ([v33,v34,v35,v36,v37]:List Int) x54.A (-1)) fun l57 =>
   zcU rec1 v32 (l57.getD 0 0) (l57.getD 1 0) (l57.getD 2 0) (l57.getD 3 0) (l57.getD 4 0) v38 v39 v40 v41 v42
  else
   if (x54.Kind==2)=true then
    Option.bind (idx ([v38,v39,v40,v41,v42]:List Int) x54.A) fun x59 =>
    Option.bind (zqU ([v38,v39,v40,v41,v42]:List Int) x54.A (-1)) fun l60 =>
    zcU rec1 v32 v33 v34 v35 v36 v37 (l60.getD 0 0) (l60.getD 1 0) (l60.getD 2 0) (l60.getD 3 0) (l60.getD 4 0)
   else
    zcU rec1 v32 v33 v34 v35 v36 v37 v38 v39 v40 v41 v42
 else
  zfn v33 v34 v35 v36 v37 v38 v39 v40 v41 v42
def zcC (a0:List WireFault):Nat->Int->Int->Int->Int->Int->Int->Int->Int->Int->Int->Int->Option (Panel_)
 | 0,_,_,_,_,_,_,_,_,_,_,_=>none
 | m+1,v32,v33,v34,v35,v36,v37,v38,v39,v40,v41,v42=>zey a0 (zcC a0 m) v32 v33 v34 v35 v36 v37 v38 v39 v40 v41 v42
def zez (n:Nat) (a0:List WireFault) (v11:Int) (v12:Int) (v13:Int) (v14:Int) (v15:Int) (v16:Int) (v17:Int) (v18:Int) (v19:Int) (v20:Int):Option (Panel_) :=
 zcC a0 n 0 v11 v12 v13 v14 v15 v16 v17 v18 v19 v20
def zcV (rec2:Int->Int->Int->Int->Int->Int->Int->Int->Int->Int->Int->Option (Panel_)) (v62:Int) (v74:Int) (v75:Int) (v76:Int) (v77:Int) (v78:Int) (v79:Int) (v80:Int) (v81:Int) (v82:Int) (v83:Int):Option (Panel_) :=
 rec2 (w64 (v62+1)) v74 v75 v76 v77 v78 v79 v80 v81 v82 v83
def zeA (n:Nat) (a0:List WireFault) (rec2:Int->Int->Int->Int->Int->Int->Int->Int->Int->Int->Int->Option (Panel_)) (v62:Int) (v63:Int) (v64:Int) (v65:Int) (v66:Int) (v67:Int) (v68:Int) (v69:Int) (v70:Int) (v71:Int) (v72:Int):Option (Panel_) :=
 if decide (v62<(a0.length:Int))=true then
  Option.bind (idx a0 v62) fun x84 =>
  if (x84.Kind==3)=true then
   Option.bind (zcT ([v63,v64,v65,v66,v67,v68,v69,v70,v71,v72]:List Int) 0 x84) fun l86 =>
   zcV rec2 v62 (l86.getD 0 0) (l86.getD 1 0) (l86.getD 2 0) (l86.getD 3 0) (l86.getD 4 0) (l86.getD 5 0) (l86.getD 6 0) (l86.getD 7 0) (l86.getD 8 0) (l86.getD 9 0)
  else
   if (x84.Kind==4)=true then
    Option.bind (zcT ([v63,v64,v65,v66,v67,v68,v69,v70,v71,v72]:List Int) 5 x84) fun l88 =>
    zcV rec2 v62 (l88.getD 0 0) (l88.getD 1 0) (l88.getD 2 0) (l88.getD 3 0) (l88.getD 4 0) (l88.getD 5 0) (l88.getD 6 0) (l88.getD 7 0) (l88.getD 8 0) (l88.getD 9 0)
   else
    zcV rec2 v62 v63 v64 v65 v66 v67 v68 v69 v70 v71 v72
 else
  zez n a0 v63 v64 v65 v66 v67 v68 v69 v70 v71 v72
def zcD (n:Nat) (a0:List WireFault):Nat->Int->Int->Int->Int->Int->Int->Int->Int->Int->Int->Int->Option (Panel_)
 | 0,_,_,_,_,_,_,_,_,_,_,_=>none
 | m+1,v62,v63,v64,v65,v66,v67,v68,v69,v70,v71,v72=>zeA n a0 (zcD n a0 m) v62 v63 v64 v65 v66 v67 v68 v69 v70 v71 v72
def zd0 (n:Nat) (a0:List WireFault) (v1:Int) (v2:Int) (v3:Int) (v4:Int) (v5:Int) (v6:Int) (v7:Int) (v8:Int) (v9:Int) (v10:Int):Option (Panel_) :=
 zcD n a0 n 0 v1 v2 v3 v4 v5 v6 v7 v8 v9 v10
def zgG (n:Nat) (a0:List WireFault) (rec3:Int->Int->Int->Int->Int->Int->Int->Int->Int->Int->Int->Option (Panel_)) (v90:Int) (v91:Int) (v92:Int) (v93:Int) (v94:Int) (v95:Int) (v96:Int) (v97:Int) (v98:Int) (v99:Int) (v100:Int):Option (Panel_) :=
 if decide (v90<5)=true then
  Option.bind (idx ([v91,v92,v93,v94,v95]:List Int) v90) fun x102 =>
  Option.bind (zqU ([v91,v92,v93,v94,v95]:List Int) v90 v90) fun l103 =>
  Option.bind (idx ([v96,v97,v98,v99,v100]:List Int) v90) fun x104 =>
  Option.bind (zqU ([v96,v97,v98,v99,v100]:List Int) v90 v90) fun l105 =>
  rec3 (w64 (v90+1)) (l103.getD 0 0) (l103.getD 1 0) (l103.getD 2 0) (l103.getD 3 0) (l103.getD 4 0) (l105.getD 0 0) (l105.getD 1 0) (l105.getD 2 0) (l105.getD 3 0) (l105.getD 4 0)
 else
  zd0 n a0 v91 v92 v93 v94 v95 v96 v97 v98 v99 v100
def zfo (n:Nat) (a0:List WireFault):Nat->Int->Int->Int->Int->Int->Int->Int->Int->Int->Int->Int->Option (Panel_)
 | 0,_,_,_,_,_,_,_,_,_,_,_=>none
 | m+1,v90,v91,v92,v93,v94,v95,v96,v97,v98,v99,v100=>zgG n a0 (zfo n a0 m) v90 v91 v92 v93 v94 v95 v96 v97 v98 v99 v100
def zgX (n:Nat) (a0:List WireFault):Option (Panel_) :=
 zfo n a0 n 0 0 0 0 0 0 0 0 0 0 0
def zdt (n:Nat) (a1:List WireFault) (a2:Int) (a3:Int) (r3:(Option Wiring_)) (v4:Bool):Option (Int×Int) :=
 if v4=true then
  some (0,1)
 else
  Option.bind (zgX n a1) fun r6 =>
  Option.bind (zdz r3 r6 a2 a3) fun r7 =>
  some (r7,0)
def zcY (n:Nat) (a0:Wire) (a1:List WireFault) (a2:Int) (a3:Int):Option (Int×Int) :=
 Option.bind (zga n a0) fun r1 =>
 if (r1 != 0)=true then
  some (0,r1)
 else
  Option.bind (zh7 n a0) fun r3 =>
  Option.bind (zdy n r3 a1) fun r8 =>
  if (!r8)=true then
   zdt n a1 a2 a3 r3 true
  else
   Option.bind (zew a0 a2 a3) fun r10 =>
   zdt n a1 a2 a3 r3 (!r10)
def zeU (v2:Bool):Option (Bool) :=
 some v2
def zeO (n:Nat):Option (Bool) :=
 Option.bind (zcY n (⟨2,3,([]:List WirePress),0⟩:Wire) ([(⟨3,0,1⟩:WireFault)]:List WireFault) 1 2) fun r1 =>
 if (r1.2==0)=true then
  zeU (r1.1==2)
 else
  zeU false
def zeB (v4:List WireFault):Option ((List WireFault)) :=
 some v4
def zeC (rec1:(List WireFault)->Int->Option ((List WireFault))) (v6:Int) (v8:List WireFault):Option ((List WireFault)) :=
 rec1 v8 (w64 (v6+1))
def ze5 (rec1:(List WireFault)->Int->Option ((List WireFault))) (a0:Wire) (v6:Int) (rec2:(List WireFault)->Int->Option ((List WireFault))) (v9:List WireFault) (v10:Int):Option ((List WireFault)) :=
 if decide (v10<a0.Numbers)=true then
  Option.bind (app v9 ([(⟨4,v6,v10⟩:WireFault)]:List WireFault)) fun l12 =>
  rec2 l12 (w64 (v10+1))
 else
  zeC rec1 v6 v9
def zdA (rec1:(List WireFault)->Int->Option ((List WireFault))) (a0:Wire) (v6:Int):Nat->(List WireFault)->Int->Option ((List WireFault))
 | 0,_,_=>none
 | m+1,v9,v10=>ze5 rec1 a0 v6 (zdA rec1 a0 v6 m) v9 v10
def ze6 (n:Nat) (a0:Wire) (rec1:(List WireFault)->Int->Option ((List WireFault))) (v5:List WireFault) (v6:Int):Option ((List WireFault)) :=
 if decide (v6<a0.Numbers)=true then
  zdA rec1 a0 v6 n v5 (w64 (v6+1))
 else
  zeB v5
def zbo (n:Nat) (a0:Wire):Nat->(List WireFault)->Int->Option ((List WireFault))
 | 0,_,_=>none
 | m+1,v5,v6=>ze6 n a0 (zbo n a0 m) v5 v6
def zeD (n:Nat) (a0:Wire) (v3:List WireFault):Option ((List WireFault)) :=
 zbo n a0 n v3 0
def zeE (rec3:(List WireFault)->Int->Option ((List WireFault))) (v14:Int) (v16:List WireFault):Option ((List WireFault)) :=
 rec3 v16 (w64 (v14+1))
def ze7 (rec3:(List WireFault)->Int->Option ((List WireFault))) (a0:Wire) (v14:Int) (rec4:(List WireFault)->Int->Option ((List WireFault))) (v17:List WireFault) (v18:Int):Option ((List WireFault)) :=
 if decide (v18<a0.Letters)=true then
  Option.bind (app v17 ([(⟨3,v14,v18⟩:WireFault)]:List WireFault)) fun l20 =>
  rec4 l20 (w64 (v18+1))
 else
  zeE rec3 v14 v17
def zdB (rec3:(List WireFault)->Int->Option ((List WireFault))) (a0:Wire) (v14:Int):Nat->(List WireFault)->Int->Option ((List WireFault))
 | 0,_,_=>none
 | m+1,v17,v18=>ze7 rec3 a0 v14 (zdB rec3 a0 v14 m) v17 v18
def ze8 (n:Nat) (a0:Wire) (rec3:(List WireFault)->Int->Option ((List WireFault))) (v13:List WireFault) (v14:Int):Option ((List WireFault)) :=
 if decide (v14<a0.Letters)=true then
  zdB rec3 a0 v14 n v13 (w64 (v14+1))
 else
  zeD n a0 v13
def zbp (n:Nat) (a0:Wire):Nat->(List WireFault)->Int->Option ((List WireFault))
 | 0,_,_=>none
 | m+1,v13,v14=>ze8 n a0 (zbp n a0 m) v13 v14
def zeF (n:Nat) (a0:Wire) (v2:List WireFault):Option ((List WireFault)) :=
 zbp n a0 n v2 0
def ze9 (n:Nat) (a0:Wire) (rec5:(List WireFault)->Int->Option ((List WireFault))) (v21:List WireFault) (v22:Int):Option ((List WireFault)) :=
 if decide (v22<a0.Numbers)=true then
  Option.bind (app v21 ([(⟨2,v22,0⟩:WireFault)]:List WireFault)) fun l24 =>
  rec5 l24 (w64 (v22+1))
 else
  zeF n a0 v21
def zdC (n:Nat) (a0:Wire):Nat->(List WireFault)->Int->Option ((List WireFault))
 | 0,_,_=>none
 | m+1,v21,v22=>ze9 n a0 (zdC n a0 m) v21 v22
def zeG (n:Nat) (a0:Wire) (v1:List WireFault):Option ((List WireFault)) :=
 zdC n a0 n v1 0
def zfa (n:Nat) (a0:Wire) (rec6:(List WireFault)->Int->Option ((List WireFault))) (v25:List WireFault) (v26:Int):Option ((List WireFault)) :=
 if decide (v26<a0.Letters)=true then
  Option.bind (app v25 ([(⟨1,v26,0⟩:WireFault)]:List WireFault)) fun l28 =>
  rec6 l28 (w64 (v26+1))
 else
  zeG n a0 v25
def zdD (n:Nat) (a0:Wire):Nat->(List WireFault)->Int->Option ((List WireFault))
 | 0,_,_=>none
 | m+1,v25,v26=>zfa n a0 (zdD n a0 m) v25 v26
def zfC (n:Nat) (a0:Wire):Option ((List WireFault)) :=
 zdD n a0 n ([]:List WireFault) 0
def zeV:Option (Int) :=
 some (-1)
def zeh (a0:List WireFault) (a1:WireFault) (rec1:Int->Option (Int)) (v1:Int):Option (Int) :=
 if decide (v1<(a0.length:Int))=true then
  Option.bind (idx a0 v1) fun x3 =>
  if ((x3.Kind==a1.Kind)&&((x3.A==a1.A)&&((x3.B==a1.B)&&true)))=true then
   some v1
  else
   rec1 (w64 (v1+1))
 else
  zeV
def zcZ (a0:List WireFault) (a1:WireFault):Nat->Int->Option (Int)
 | 0,_=>none
 | m+1,v1=>zeh a0 a1 (zcZ a0 a1 m) v1
def zgf (n:Nat) (a0:List WireFault) (a1:WireFault):Option (Int) :=
 zcZ a0 a1 n 0
def zcF (v1:Bool):Option (Bool) :=
 some v1
def zht (a0:WireFault) (a1:WireFault):Option (Bool) :=
 if (a0.Kind==a1.Kind)=true then
  if decide (a0.Kind≥3)=true then
   if (a0.A==a1.A)=true then
    zcF true
   else
    if (a0.A==a1.B)=true then
     zcF true
    else
     if (a0.B==a1.A)=true then
      zcF true
     else
      zcF (a0.B==a1.B)
  else
   zcF false
 else
  zcF false
def zeW:Option (Bool) :=
 some true
def zeb (rec1:Int->Int->Option (Bool)) (v3:Int) (v5:Int):Option (Bool) :=
 rec1 v5 (w64 (v3+1))
def zei (rec1:Int->Int->Option (Bool)) (a1:List WireFault) (v3:Int) (r7:Int) (rec2:Int->Option (Bool)) (v9:Int):Option (Bool) :=
 if decide (v9<v3)=true then
  Option.bind (idx a1 v9) fun x11 =>
  Option.bind (idx a1 v3) fun x12 =>
  Option.bind (zht x11 x12) fun r13 =>
  if r13=true then
   some false
  else
   rec2 (w64 (v9+1))
 else
  zeb rec1 v3 r7
def zc0 (rec1:Int->Int->Option (Bool)) (a1:List WireFault) (v3:Int) (r7:Int):Nat->Int->Option (Bool)
 | 0,_=>none
 | m+1,v9=>zei rec1 a1 v3 r7 (zc0 rec1 a1 v3 r7 m) v9
def zej (n:Nat) (a1:List WireFault) (r1:(List WireFault)) (rec1:Int->Int->Option (Bool)) (v2:Int) (v3:Int):Option (Bool) :=
 if decide (v3<(a1.length:Int))=true then
  Option.bind (idx a1 v3) fun x6 =>
  Option.bind (zgf n r1 x6) fun r7 =>
  if decide (r7<=v2)=true then
   some false
  else
   zc0 rec1 a1 v3 r7 n 0
 else
  zeW
def zbc (n:Nat) (a1:List WireFault) (r1:(List WireFault)):Nat->Int->Int->Option (Bool)
 | 0,_,_=>none
 | m+1,v2,v3=>zej n a1 r1 (zbc n a1 r1 m) v2 v3
def zfD (n:Nat) (a0:Wire) (a1:List WireFault):Option (Bool) :=
 Option.bind (zfC n a0) fun r1 =>
 zbc n a1 r1 n (-1) 0
def zdE:Option (Bool) :=
 some true
def zc4 (a0:List TrayPlay) (a1:List TrayPlay) (rec1:Int->Option (Bool)) (v2:Int):Option (Bool) :=
 if decide (v2<(a0.length:Int))=true then
  Option.bind (idx a0 v2) fun x4 =>
  Option.bind (idx a1 v2) fun x5 =>
  if (!((x4.Side==x5.Side)&&((x4.Time==x5.Time)&&true)))=true then
   some false
  else
   rec1 (w64 (v2+1))
 else
  zdE
def zb8 (a0:List TrayPlay) (a1:List TrayPlay):Nat->Int->Option (Bool)
 | 0,_=>none
 | m+1,v2=>zc4 a0 a1 (zb8 a0 a1 m) v2
def zeH (n:Nat) (a0:List TrayPlay) (a1:List TrayPlay):Option (Bool) :=
 if ((a0.length:Int) != (a1.length:Int))=true then
  some false
 else
  zb8 a0 a1 n 0
def zcI (v11:Bool):Option (Bool) :=
 some v11
def zdb (n:Nat) (a0:Tray) (r7:Tray) (v8:List TrayPress):Option (Bool) :=
 Option.bind (zfZ n a0) fun r9 =>
 Option.bind (zfZ n (⟨r7.Records,r7.At,r7.Way,r7.Step,v8⟩:Tray)) fun r10 =>
 if (r9.2==0)=true then
  if (r10.2==0)=true then
   Option.bind (zeH n r9.1 r10.1) fun r14 =>
   if r14=true then
    Option.bind (zeO n) fun r16 =>
    zcI r16
   else
    zcI false
  else
   zcI false
 else
  zcI false
def zdc (rec1:Int->(List TrayPress)->Option (Bool)) (v18:Int) (v19:List TrayPress) (r34:Int×Int) (v35:Bool):Option (Bool) :=
 if v35=true then
  some false
 else
  Option.bind (idx v19 v18) fun x37 =>
  rec1 (w64 (v18+1)) (v19.set (Int.toNat v18) (⟨r34.1,x37.Time⟩:TrayPress))
def zck (n:Nat) (rec1:Int->(List TrayPress)->Option (Bool)) (a0:Tray) (a1:List WireFault) (v18:Int) (v19:List TrayPress) (x21:TrayPress) (r28:Int×Int) (v29:Bool):Option (Bool) :=
 if v29=true then
  some false
 else
  Option.bind (app ([]:List WireFault) a1) fun l31 =>
  Option.bind (quo r28.1 2) fun q32 =>
  Option.bind (rem r28.1 2) fun q33 =>
  Option.bind (zcY n (⟨(a0.Records.length:Int),2,([]:List WirePress),0⟩:Wire) l31 q32 q33) fun r34 =>
  if (r34.2 != 0)=true then
   zdc rec1 v18 v19 r34 true
  else
   zdc rec1 v18 v19 r34 (r34.1 != x21.Side)
def zdk (n:Nat) (a0:Tray) (a1:List WireFault) (r7:Tray) (rec1:Int->(List TrayPress)->Option (Bool)) (v18:Int) (v19:List TrayPress):Option (Bool) :=
 if decide (v18<(a0.Presses.length:Int))=true then
  Option.bind (idx a0.Presses v18) fun x21 =>
  Option.bind (quo x21.Side 2) fun q22 =>
  Option.bind (rem x21.Side 2) fun q23 =>
  Option.bind (zcY n (⟨(a0.Records.length:Int),2,([]:List WirePress),0⟩:Wire) ([]:List WireFault) q22 q23) fun r24 =>
  Option.bind (app ([]:List WireFault) a1) fun l25 =>
  Option.bind (quo x21.Side 2) fun q26 =>
  Option.bind (rem x21.Side 2) fun q27 =>
  Option.bind (zcY n (⟨(a0.Records.length:Int),2,([]:List WirePress),0⟩:Wire) l25 q26 q27) fun r28 =>
  if (r24.2 != 0)=true then
   zck n rec1 a0 a1 v18 v19 x21 r28 true
  else
   if (r28.2 != 0)=true then
    zck n rec1 a0 a1 v18 v19 x21 r28 true
   else
    if (r24.1 != x21.Side)=true then
     zck n rec1 a0 a1 v18 v19 x21 r28 true
    else
     Option.bind (ze0 a0 r28.1) fun r42 =>
     zck n rec1 a0 a1 v18 v19 x21 r28 (!r42)
 else
  zdb n a0 r7 v19
def za7 (n:Nat) (a0:Tray) (a1:List WireFault) (r7:Tray):Nat->Int->(List TrayPress)->Option (Bool)
 | 0,_,_=>none
 | m+1,v18,v19=>zdk n a0 a1 r7 (za7 n a0 a1 r7 m) v18 v19
def zdd (n:Nat) (a0:Tray) (a1:List WireFault):Option (Bool) :=
 Option.bind (zgU a0) fun r7 =>
 za7 n a0 a1 r7 n 0 r7.Presses
def zdl (n:Nat) (a0:Tray) (a1:List WireFault) (rec2:Int->Option (Bool)) (v43:Int):Option (Bool) :=
 if decide (v43<(a1.length:Int))=true then
  Option.bind (idx a1 v43) fun x45 =>
  if decide (x45.Kind<3)=true then
   Option.bind (zeO n) fun r47 =>
   some r47
  else
   rec2 (w64 (v43+1))
 else
  zdd n a0 a1
def zcl (n:Nat) (a0:Tray) (a1:List WireFault):Nat->Int->Option (Bool)
 | 0,_=>none
 | m+1,v43=>zdl n a0 a1 (zcl n a0 a1 m) v43
def zbF (n:Nat) (a0:Tray) (a1:List WireFault) (v1:Bool):Option (Bool) :=
 if v1=true then
  Option.bind (zeO n) fun r3 =>
  some r3
 else
  Option.bind (zfD n (⟨(a0.Records.length:Int),2,([]:List WirePress),0⟩:Wire) a1) fun r4 =>
  if (!r4)=true then
   Option.bind (zeO n) fun r6 =>
   some r6
  else
   zcl n a0 a1 n 0
def zfV (n:Nat) (a0:Tray) (a1:List WireFault):Option (Bool) :=
 Option.bind (zhM a0) fun r48 =>
 if r48=true then
  zbF n a0 a1 true
 else
  Option.bind (zf8 n a0) fun r50 =>
  if (r50 != 0)=true then
   zbF n a0 a1 true
  else
   if decide ((a0.Records.length:Int)>5)=true then
    zbF n a0 a1 true
   else
    zbF n a0 a1 (decide ((a1.length:Int)>40))
end Go.Law
