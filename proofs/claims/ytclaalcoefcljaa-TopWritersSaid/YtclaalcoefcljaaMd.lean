/-
  What the functions compute (printed by gen.py).
  Conditions: none.
-/
import Derived.Test.YtclaalcoefcljaaAmPc
set_option linter.all false
namespace Go.Law
open Go Go.AM
set_option linter.unusedVariables false
structure TrayRecord where
 Front:Int
 Back:Int
 deriving DecidableEq,Inhabited,Repr
abbrev TrayRecord.cells (x:TrayRecord):List AV:=[.v (.int .i64 x.Front),.v (.int .i64 x.Back)]
structure TrayPress where
 Side:Int
 Time:Int
 deriving DecidableEq,Inhabited,Repr
abbrev TrayPress.cells (x:TrayPress):List AV:=[.v (.int .i64 x.Side),.v (.int .i64 x.Time)]
structure Tray where
 Records:List TrayRecord
 At:Int
 Way:Int
 Step:Int
 Presses:List TrayPress
 deriving DecidableEq,Inhabited,Repr
abbrev Tray.cells (x:Tray):List AV:=[.sl .no 2 (x.Records.map TrayRecord.cells),.v (.int .i64 x.At),.v (.int .i64 x.Way),.v (.int .i64 x.Step),.sl .no 2 (x.Presses.map TrayPress.cells)]
structure RoyalPart where
 Who:Int
 Percent:Int
 deriving DecidableEq,Inhabited,Repr
abbrev RoyalPart.cells (x:RoyalPart):List AV:=[.v (.int .i64 x.Who),.v (.int .i64 x.Percent)]
structure RoyalSide where
 Plays:Int
 Parts:List RoyalPart
 deriving DecidableEq,Inhabited,Repr
abbrev RoyalSide.cells (x:RoyalSide):List AV:=[.v (.int .i64 x.Plays),.sl .no 2 (x.Parts.map RoyalPart.cells)]
structure Royal where
 Pool:Int
 Sides:List RoyalSide
 Owed:List Int
 deriving DecidableEq,Inhabited,Repr
abbrev Royal.cells (x:Royal):List AV:=[.v (.int .i64 x.Pool),.sl .no 2 (x.Sides.map RoyalSide.cells),.sl .no 1 (x.Owed.map cI)]
structure Weights_ where
 of_:List Int
 all:Int
 deriving DecidableEq,Inhabited,Repr
abbrev Weights_.cells (x:Weights_):List AV:=[.sl .no 1 (x.of_.map cI),.v (.int .i64 x.all)]
structure TrayStand where
 At:Int
 Way:Int
 Side:Int
 deriving DecidableEq,Inhabited,Repr
abbrev TrayStand.cells (x:TrayStand):List AV:=[.v (.int .i64 x.At),.v (.int .i64 x.Way),.v (.int .i64 x.Side)]
structure Spell_ where
 TrayStand:TrayStand
 from_:Int
 deriving DecidableEq,Inhabited,Repr
abbrev Spell_.cells (x:Spell_):List AV:=[.v (.int .i64 x.TrayStand.At),.v (.int .i64 x.TrayStand.Way),.v (.int .i64 x.TrayStand.Side),.v (.int .i64 x.from_)]
structure TrayPlay where
 Side:Int
 Time:Int
 deriving DecidableEq,Inhabited,Repr
abbrev TrayPlay.cells (x:TrayPlay):List AV:=[.v (.int .i64 x.Side),.v (.int .i64 x.Time)]
structure Run_ where
 spells:List Spell_
 plays:List TrayPlay
 steps:Int
 end_:Int
 deriving DecidableEq,Inhabited,Repr
abbrev Run_.cells (x:Run_):List AV:=[.sl .no 4 (x.spells.map Spell_.cells),.sl .no 2 (x.plays.map TrayPlay.cells),.v (.int .i64 x.steps),.v (.int .i64 x.end_)]
structure Carriage_ where
 t:Tray
 queue:List TrayPress
 pins:List Bool
 now:Int
 at_:TrayStand
 run:Run_
 deriving DecidableEq,Inhabited,Repr
abbrev Carriage_.cells (x:Carriage_):List AV:=[.sl .no 2 (x.t.Records.map TrayRecord.cells),.v (.int .i64 x.t.At),.v (.int .i64 x.t.Way),.v (.int .i64 x.t.Step),.sl .no 2 (x.t.Presses.map TrayPress.cells),.sl .no 2 (x.queue.map TrayPress.cells),.sl .no 1 (x.pins.map cB),.v (.int .i64 x.now),.v (.int .i64 x.at_.At),.v (.int .i64 x.at_.Way),.v (.int .i64 x.at_.Side),.sl .no 4 (x.run.spells.map Spell_.cells),.sl .no 2 (x.run.plays.map TrayPlay.cells),.v (.int .i64 x.run.steps),.v (.int .i64 x.run.end_)]
structure WirePress where
 Letter:Int
 Number:Int
 Got:Int
 deriving DecidableEq,Inhabited,Repr
abbrev WirePress.cells (x:WirePress):List AV:=[.v (.int .i64 x.Letter),.v (.int .i64 x.Number),.v (.int .i64 x.Got)]
structure Wire where
 Letters:Int
 Numbers:Int
 Presses:List WirePress
 Faults:Int
 deriving DecidableEq,Inhabited,Repr
abbrev Wire.cells (x:Wire):List AV:=[.v (.int .i64 x.Letters),.v (.int .i64 x.Numbers),.sl .no 3 (x.Presses.map WirePress.cells),.v (.int .i64 x.Faults)]
structure WireFault where
 Kind:Int
 A:Int
 B:Int
 deriving DecidableEq,Inhabited,Repr
abbrev WireFault.cells (x:WireFault):List AV:=[.v (.int .i64 x.Kind),.v (.int .i64 x.A),.v (.int .i64 x.B)]
structure Wiring_ where
 Wire:Wire
 all:List WireFault
 deriving DecidableEq,Inhabited,Repr
abbrev Wiring_.cells (x:Wiring_):List AV:=[.v (.int .i64 x.Wire.Letters),.v (.int .i64 x.Wire.Numbers),.sl .no 3 (x.Wire.Presses.map WirePress.cells),.v (.int .i64 x.Wire.Faults),.sl .no 3 (x.all.map WireFault.cells)]
structure Keys_ where
 c0:Int
 c1:Int
 c2:Int
 c3:Int
 c4:Int
 deriving DecidableEq,Inhabited,Repr
abbrev Keys_.cells (x:Keys_):List AV:=[.v (.int .i64 x.c0),.v (.int .i64 x.c1),.v (.int .i64 x.c2),.v (.int .i64 x.c3),.v (.int .i64 x.c4)]
structure Panel_ where
 letters:Keys_
 numbers:Keys_
 deriving DecidableEq,Inhabited,Repr
abbrev Panel_.cells (x:Panel_):List AV:=[.v (.int .i64 x.letters.c0),.v (.int .i64 x.letters.c1),.v (.int .i64 x.letters.c2),.v (.int .i64 x.letters.c3),.v (.int .i64 x.letters.c4),.v (.int .i64 x.numbers.c0),.v (.int .i64 x.numbers.c1),.v (.int .i64 x.numbers.c2),.v (.int .i64 x.numbers.c3),.v (.int .i64 x.numbers.c4)]
structure Pulse where
 Letters:Int
 Numbers:Int
 Pitch:Int
 Slack:Int
 Gap:Int
 Pause:Int
 Sparks:Int
 Times:List Int
 deriving DecidableEq,Inhabited,Repr
abbrev Pulse.cells (x:Pulse):List AV:=[.v (.int .i64 x.Letters),.v (.int .i64 x.Numbers),.v (.int .i64 x.Pitch),.v (.int .i64 x.Slack),.v (.int .i64 x.Gap),.v (.int .i64 x.Pause),.v (.int .i64 x.Sparks),.sl .no 1 (x.Times.map cI)]
structure An163 where
 n:Int
 low:Int
 high:Int
 deriving DecidableEq,Inhabited,Repr
abbrev An163.cells (x:An163):List AV:=[.v (.int .i64 x.n),.v (.int .i64 x.low),.v (.int .i64 x.high)]
structure Train_ where
 Pulse:Pulse
 deriving DecidableEq,Inhabited,Repr
abbrev Train_.cells (x:Train_):List AV:=[.v (.int .i64 x.Pulse.Letters),.v (.int .i64 x.Pulse.Numbers),.v (.int .i64 x.Pulse.Pitch),.v (.int .i64 x.Pulse.Slack),.v (.int .i64 x.Pulse.Gap),.v (.int .i64 x.Pulse.Pause),.v (.int .i64 x.Pulse.Sparks),.sl .no 1 (x.Pulse.Times.map cI)]
structure Groups_ where
 letter:Int
 number:Int
 deriving DecidableEq,Inhabited,Repr
abbrev Groups_.cells (x:Groups_):List AV:=[.v (.int .i64 x.letter),.v (.int .i64 x.number)]
structure Reading_ where
 sparks:Int
 list:List Int
 deriving DecidableEq,Inhabited,Repr
abbrev Reading_.cells (x:Reading_):List AV:=[.v (.int .u64 x.sparks),.sl .no 1 (x.list.map cI)]
def zeE (v1:Bool):Option (Bool) :=
 some v1
def zg7 (a0:Tray):Option (Bool) :=
 if decide ((a0.Records.length:Int)>40)=true then
  zeE true
 else
  zeE (decide ((a0.Presses.length:Int)>40))
def zdK (v1:Bool):Option (Bool) :=
 some v1
def zcg (a0:Int) (a1:Int) (a2:Int):Option (Bool) :=
 if decide (a1<=a0)=true then
  zdK (decide (a0<=a2))
 else
  zdK false
def zeF (a0:Tray) (a1:Int):Option (Bool) :=
 Option.bind (zcg a1 0 (w64 ((w64 (2*(a0.Records.length:Int)))-1))) fun r1 =>
 some r1
def zfe (a0:Int):Option (Bool) :=
 Option.bind (zcg a0 0 9999) fun r1 =>
 some r1
def zeb:Option (Int) :=
 some 0
def zcT (rec1:Int->Option (Int)) (v2:Int) (v4:Bool):Option (Int) :=
 if v4=true then
  some 20
 else
  rec1 (w64 (v2+1))
def zdB (a0:Tray) (rec1:Int->Option (Int)) (v2:Int):Option (Int) :=
 if decide (v2<(a0.Presses.length:Int))=true then
  Option.bind (idx a0.Presses v2) fun x6 =>
  Option.bind (zeF a0 x6.Side) fun r7 =>
  if (!r7)=true then
   zcT rec1 v2 true
  else
   Option.bind (idx a0.Presses v2) fun x9 =>
   Option.bind (zfe x9.Time) fun r10 =>
   zcT rec1 v2 (!r10)
 else
  zeb
def zbW (a0:Tray):Nat->Int->Option (Int)
 | 0,_=>none
 | m+1,v2=>zdB a0 (zbW a0 m) v2
def zeP (n:Nat) (a0:Tray) (a1:Int):Option (Int) :=
 if decide ((a0.Presses.length:Int)>a1)=true then
  some 20
 else
  zbW a0 n 0
def zeA (n:Nat) (a0:Tray):Option (Int) :=
 Option.bind (zeP n a0 12) fun r3 =>
 some r3
def zdw (rec1:Int->Option (Int)) (v4:Int) (v6:Bool):Option (Int) :=
 if v6=true then
  some 20
 else
  rec1 (w64 (v4+1))
def zec (n:Nat) (a0:Tray) (rec1:Int->Option (Int)) (v4:Int):Option (Int) :=
 if decide (v4<(a0.Records.length:Int))=true then
  Option.bind (idx a0.Records v4) fun x8 =>
  Option.bind (zcg x8.Front 1 999) fun r9 =>
  if (!r9)=true then
   zdw rec1 v4 true
  else
   Option.bind (idx a0.Records v4) fun x11 =>
   Option.bind (zcg x11.Back 1 999) fun r12 =>
   zdw rec1 v4 (!r12)
 else
  zeA n a0
def zb7 (n:Nat) (a0:Tray):Nat->Int->Option (Int)
 | 0,_=>none
 | m+1,v4=>zec n a0 (zb7 n a0 m) v4
def zb8 (n:Nat) (a0:Tray) (v1:Bool):Option (Int) :=
 if v1=true then
  some 20
 else
  zb7 n a0 n 0
def zfC (n:Nat) (a0:Tray):Option (Int) :=
 Option.bind (zcg (a0.Records.length:Int) 1 6) fun r13 =>
 if (!r13)=true then
  zb8 n a0 true
 else
  Option.bind (zcg a0.At 0 (w64 ((a0.Records.length:Int)-1))) fun r15 =>
  if (!r15)=true then
   zb8 n a0 true
  else
   if (a0.Way != 1)=true then
    if (a0.Way != (-1))=true then
     zb8 n a0 true
    else
     Option.bind (zcg a0.Step 0 60) fun r19 =>
     zb8 n a0 (!r19)
   else
    Option.bind (zcg a0.Step 0 60) fun r20 =>
    zb8 n a0 (!r20)
def zcP (v1:Bool):Option (Bool) :=
 some v1
def zch (a0:Int) (a1:Int) (a2:Int):Option (Bool) :=
 if decide (a0≥a1)=true then
  zcP (decide (a0<=a2))
 else
  zcP false
def zdo (v1:Int):Option (Bool) :=
 some (v1==100)
def zco (rec1:Int->Int->Int->Option (Bool)) (v2:Int) (v4:Int) (x6:RoyalPart) (v7:Bool):Option (Bool) :=
 if v7=true then
  some false
 else
  rec1 (w64 (v2+x6.Percent)) x6.Who (w64 (v4+1))
def zcA (a0:List RoyalPart) (a1:Int) (rec1:Int->Int->Int->Option (Bool)) (v2:Int) (v3:Int) (v4:Int):Option (Bool) :=
 if decide (v4<(a0.length:Int))=true then
  Option.bind (idx a0 v4) fun x6 =>
  if decide (x6.Who<=v3)=true then
   zco rec1 v2 v4 x6 true
  else
   if decide (x6.Who≥a1)=true then
    zco rec1 v2 v4 x6 true
   else
    Option.bind (zch x6.Percent 1 100) fun r11 =>
    zco rec1 v2 v4 x6 (!r11)
 else
  zdo v2
def za1 (a0:List RoyalPart) (a1:Int):Nat->Int->Int->Int->Option (Bool)
 | 0,_,_,_=>none
 | m+1,v2,v3,v4=>zcA a0 a1 (za1 a0 a1 m) v2 v3 v4
def zds (n:Nat) (a0:List RoyalPart) (a1:Int):Option (Bool) :=
 za1 a0 a1 n 0 (-1) 0
def zdC (v3:Bool):Option (Int) :=
 if (!v3)=true then
  some 100
 else
  some 0
def zcX (rec1:Bool->Int->Option (Int)) (v6:Int) (v8:Bool):Option (Int) :=
 rec1 v8 (w64 (v6+1))
def zc4 (n:Nat) (a0:Royal) (rec1:Bool->Int->Option (Int)) (v5:Bool) (v6:Int):Option (Int) :=
 if decide (v6<(a0.Sides.length:Int))=true then
  Option.bind (idx a0.Sides v6) fun x9 =>
  if v5=true then
   Option.bind (zch x9.Plays 0 9999) fun r11 =>
   if r11=true then
    Option.bind (zds n x9.Parts (a0.Owed.length:Int)) fun r13 =>
    zcX rec1 v6 r13
   else
    zcX rec1 v6 false
  else
   zcX rec1 v6 false
 else
  zdC v5
def zbc (n:Nat) (a0:Royal):Nat->Bool->Int->Option (Int)
 | 0,_,_=>none
 | m+1,v5,v6=>zc4 n a0 (zbc n a0 m) v5 v6
def zeo (n:Nat) (a0:Royal) (v2:Bool):Option (Int) :=
 zbc n a0 n v2 0
def zdD (rec2:Bool->Int->Option (Int)) (v15:Int) (v17:Bool):Option (Int) :=
 rec2 v17 (w64 (v15+1))
def zc5 (n:Nat) (a0:Royal) (rec2:Bool->Int->Option (Int)) (v14:Bool) (v15:Int):Option (Int) :=
 if decide (v15<(a0.Owed.length:Int))=true then
  Option.bind (idx a0.Owed v15) fun x18 =>
  if v14=true then
   Option.bind (zch x18 0 9999) fun r20 =>
   zdD rec2 v15 r20
  else
   zdD rec2 v15 false
 else
  zeo n a0 v14
def zbd (n:Nat) (a0:Royal):Nat->Bool->Int->Option (Int)
 | 0,_,_=>none
 | m+1,v14,v15=>zc5 n a0 (zbd n a0 m) v14 v15
def zcY (n:Nat) (a0:Royal) (v1:Bool):Option (Int) :=
 zbd n a0 n v1 0
def zep (n:Nat) (a0:Royal):Option (Int) :=
 Option.bind (zch a0.Pool 0 9999) fun r21 =>
 if r21=true then
  if decide ((a0.Owed.length:Int)<=6)=true then
   zcY n a0 (decide ((a0.Sides.length:Int)<=6))
  else
   zcY n a0 false
 else
  zcY n a0 false
def zdE (a0:Royal) (v5:List Int) (v6:Int):Option (Weights_×Int) :=
 Option.bind (zkh a0.Owed.length v5) fun x7 =>
 if (v6==0)=true then
  some ((⟨v5,v6⟩:Weights_),3)
 else
  some ((⟨v5,v6⟩:Weights_),0)
def zdF (rec1:Int->(List Int)->Int->Option (Weights_×Int)) (v10:Int) (v14:List Int) (v15:Int):Option (Weights_×Int) :=
 rec1 (w64 (v10+1)) v14 v15
def zcd (rec1:Int->(List Int)->Int->Option (Weights_×Int)) (a0:Royal) (v10:Int) (v12:Int) (x16:RoyalSide) (rec2:Int->(List Int)->Option (Weights_×Int)) (v18:Int) (v19:List Int):Option (Weights_×Int) :=
 if decide (v18<(x16.Parts.length:Int))=true then
  Option.bind (idx x16.Parts v18) fun x21 =>
  Option.bind (zet a0.Owed.length v19 x21.Who) fun x22 =>
  Option.bind (zet a0.Owed.length v19 x21.Who) fun x23 =>
  rec2 (w64 (v18+1)) (v19.set (Int.toNat x21.Who) (w64 (x22+(w64 (x16.Plays*x21.Percent)))))
 else
  zdF rec1 v10 v19 (w64 (v12+(w64 (100*x16.Plays))))
def zbN (rec1:Int->(List Int)->Int->Option (Weights_×Int)) (a0:Royal) (v10:Int) (v12:Int) (x16:RoyalSide):Nat->Int->(List Int)->Option (Weights_×Int)
 | 0,_,_=>none
 | m+1,v18,v19=>zcd rec1 a0 v10 v12 x16 (zbN rec1 a0 v10 v12 x16 m) v18 v19
def zc6 (n:Nat) (a0:Royal) (rec1:Int->(List Int)->Int->Option (Weights_×Int)) (v10:Int) (v11:List Int) (v12:Int):Option (Weights_×Int) :=
 if decide (v10<(a0.Sides.length:Int))=true then
  Option.bind (idx a0.Sides v10) fun x16 =>
  zbN rec1 a0 v10 v12 x16 n 0 v11
 else
  zdE a0 v11 v12
def zav (n:Nat) (a0:Royal):Nat->Int->(List Int)->Int->Option (Weights_×Int)
 | 0,_,_,_=>none
 | m+1,v10,v11,v12=>zc6 n a0 (zav n a0 m) v10 v11 v12
def zdc (n:Nat) (a0:Royal) (a1:Bool):Option (Weights_×Int) :=
 Option.bind (zep n a0) fun r1 =>
 if (r1 != 0)=true then
  some ((⟨([]:List Int),0⟩:Weights_),r1)
 else
  if (!a1)=true then
   some ((⟨([]:List Int),0⟩:Weights_),1)
  else
   Option.bind (mkN a0.Owed.length (a0.Owed.length:Int) 0) fun l4 =>
   zav n a0 n 0 l4 0
def zbl {S:Type} (rec1:Int->(List Int)->S->Option (Unit×((List Int)×S))) (v2:Int) (v6:List Int) (v7:S):Option (Unit×((List Int)×S)) :=
 rec1 (w64 (v2+1)) v6 v7
def zaL {S:Type} (rec1:Int->(List Int)->S->Option (Unit×((List Int)×S))) (rec2:Int->(List Int)->S->Option (Unit×((List Int)×S))) (mz0:Nat) (v2:Int) (v9:Int) (v10:List Int) (v12:Bool) (v13:S):Option (Unit×((List Int)×S)) :=
 if v12=true then
  Option.bind (zet mz0 v10 (w64 (v9-1))) fun x15 =>
  Option.bind (zet mz0 v10 v9) fun x16 =>
  Option.bind (zet mz0 v10 v9) fun x17 =>
  Option.bind (zet mz0 (v10.set (Int.toNat v9) x15) (w64 (v9-1))) fun x18 =>
  rec2 (w64 (v9-1)) ((v10.set (Int.toNat v9) x15).set (Int.toNat (w64 (v9-1))) x16) v13
 else
  zbl rec1 v2 v10 v13
def zbe {S:Type} (rec1:Int->(List Int)->S->Option (Unit×((List Int)×S))) (a1:Int) (aF:Int->Int->S->Option (Int×S)) (mz0:Nat) (v2:Int) (rec2:Int->(List Int)->S->Option (Unit×((List Int)×S))) (v9:Int) (v10:List Int) (v11:S):Option (Unit×((List Int)×S)) :=
 if decide (v9>a1)=true then
  Option.bind (zet mz0 v10 v9) fun x20 =>
  Option.bind (zet mz0 v10 (w64 (v9-1))) fun x21 =>
  Option.bind (aF x20 x21 v11) fun r22 =>
  zaL rec1 rec2 mz0 v2 v9 v10 (decide (r22.1<0)) r22.2
 else
  zaL rec1 rec2 mz0 v2 v9 v10 false v11
def zat {S:Type} (rec1:Int->(List Int)->S->Option (Unit×((List Int)×S))) (a1:Int) (aF:Int->Int->S->Option (Int×S)) (mz0:Nat) (v2:Int):Nat->Int->(List Int)->S->Option (Unit×((List Int)×S))
 | 0,_,_,_=>none
 | m+1,v9,v10,v11=>zbe rec1 a1 aF mz0 v2 (zat rec1 a1 aF mz0 v2 m) v9 v10 v11
def zbf {S:Type} (n:Nat) (a1:Int) (a2:Int) (aF:Int->Int->S->Option (Int×S)) (mz0:Nat) (rec1:Int->(List Int)->S->Option (Unit×((List Int)×S))) (v2:Int) (v3:List Int) (v4:S):Option (Unit×((List Int)×S)) :=
 if decide (v2<a2)=true then
  zat rec1 a1 aF mz0 v2 n v2 v3 v4
 else
  some ((),(v3,v4))
def zad {S:Type} (n:Nat) (a1:Int) (a2:Int) (aF:Int->Int->S->Option (Int×S)) (mz0:Nat):Nat->Int->(List Int)->S->Option (Unit×((List Int)×S))
 | 0,_,_,_=>none
 | m+1,v2,v3,v4=>zbf n a1 a2 aF mz0 (zad n a1 a2 aF mz0 m) v2 v3 v4
def zbD {S:Type} (n:Nat) (aF:Int->Int->S->Option (Int×S)) (a1:Int) (a2:Int) (mz0:Nat) (st:(List Int)×S):Option (Unit×((List Int)×S)) :=
 zad n a1 a2 aF mz0 n (w64 (a1+1)) st.1 st.2
def zcQ {S:Type} (rec1:Int->Option (Unit×((List Int)×S))) (v5:Int):Option (Unit×((List Int)×S)) :=
 rec1 (w64 (v5*2))
def zcR {S:Type} (rec1:Int->Option (Unit×((List Int)×S))) (a1:Int) (v5:Int) (v7:Int):Option (Unit×((List Int)×S)) :=
 if decide ((w64 (v7+v5))<a1)=true then
  none
 else
  zcQ rec1 v5
def zdt {S:Type} (rec1:Int->Option (Unit×((List Int)×S))) (a1:Int) (v5:Int) (rec2:Int->Int->Option (Unit×((List Int)×S))) (v9:Int) (v10:Int):Option (Unit×((List Int)×S)) :=
 if decide (v10<=a1)=true then
  none
 else
  zcR rec1 a1 v5 v9
def zb9 {S:Type} (rec1:Int->Option (Unit×((List Int)×S))) (a1:Int) (v5:Int):Nat->Int->Int->Option (Unit×((List Int)×S))
 | 0,_,_=>none
 | m+1,v9,v10=>zdt rec1 a1 v5 (zb9 rec1 a1 v5 m) v9 v10
def zcE {S:Type} (n:Nat) (a1:Int) (r4:Unit×((List Int)×S)) (rec1:Int->Option (Unit×((List Int)×S))) (v5:Int):Option (Unit×((List Int)×S)) :=
 if decide (v5<a1)=true then
  zb9 rec1 a1 v5 n 0 (w64 (2*v5))
 else
  some ((),(r4.2.1,r4.2.2))
def zar {S:Type} (n:Nat) (a1:Int) (r4:Unit×((List Int)×S)):Nat->Int->Option (Unit×((List Int)×S))
 | 0,_=>none
 | m+1,v5=>zcE n a1 r4 (zar n a1 r4 m) v5
def zca {S:Type} (n:Nat) (a1:Int) (aF:Int->Int->S->Option (Int×S)) (mz0:Nat) (v1:Int) (v2:List Int) (v3:S):Option (Unit×((List Int)×S)) :=
 Option.bind (zbD n aF v1 a1 mz0 (v2,v3)) fun r4 =>
 zar n a1 r4 n 20
def zcF {S:Type} (n:Nat) (a1:Int) (aF:Int->Int->S->Option (Int×S)) (mz0:Nat) (rec3:Int->Int->(List Int)->S->Option (Unit×((List Int)×S))) (v14:Int) (v15:Int) (v16:List Int) (v17:S):Option (Unit×((List Int)×S)) :=
 if decide (v15<=a1)=true then
  Option.bind (zbD n aF v14 v15 mz0 (v16,v17)) fun r19 =>
  rec3 v15 (w64 (v15+20)) r19.2.1 r19.2.2
 else
  zca n a1 aF mz0 v14 v16 v17
def zbz {S:Type} (n:Nat) (a1:Int) (aF:Int->Int->S->Option (Int×S)) (mz0:Nat):Nat->Int->Int->(List Int)->S->Option (Unit×((List Int)×S))
 | 0,_,_,_,_=>none
 | m+1,v14,v15,v16,v17=>zcF n a1 aF mz0 (zbz n a1 aF mz0 m) v14 v15 v16 v17
def zdd {S:Type} (n:Nat) (aF:Int->Int->S->Option (Int×S)) (a1:Int) (mz0:Nat) (st:(List Int)×S):Option (Unit×((List Int)×S)) :=
 zbz n a1 aF mz0 n 0 20 st.1 st.2
def zbR {S:Type} (n:Nat) (aF:Int->Int->S->Option (Int×S)) (mz0:Nat) (st:(List Int)×S):Option (Unit×((List Int)×S)) :=
 Option.bind (zdd n aF (mz0:Int) mz0 (st.1,st.2)) fun r1 =>
 some ((),(r1.2.1,r1.2.2))
def cmp_isNaN_int (a0:Int):Option (Bool) :=
 some (a0 != a0)
def cmp_Compare_int (a0:Int) (a1:Int):Option (Int) :=
 Option.bind (cmp_isNaN_int a0) fun r1 =>
 Option.bind (cmp_isNaN_int a1) fun r2 =>
 if r1=true then
  if r2=true then
   some 0
  else
   some (-1)
 else
  if r2=true then
   some 1
  else
   if decide (a0<a1)=true then
    some (-1)
   else
    if decide (a0>a1)=true then
     some 1
    else
     some 0
def za8 (a0:Int) (a1:Int) (a2:Int) (a3:Weights_):Option (Int) :=
 Option.bind (idx a3.of_ a1) fun x1 =>
 Option.bind (rem (w64 (a2*x1)) a3.all) fun q2 =>
 Option.bind (idx a3.of_ a0) fun x3 =>
 Option.bind (rem (w64 (a2*x3)) a3.all) fun q4 =>
 Option.bind (cmp_Compare_int q2 q4) fun r5 =>
 some r5
def zcb (a0:Weights_) (v8:List Int):Option ((List Int)) :=
 Option.bind (zkh a0.of_.length v8) fun x9 =>
 some v8
def zbX (a0:Weights_) (c10:List Int) (rec1:Int->(List Int)->Option ((List Int))) (v12:Int) (v13:List Int):Option ((List Int)) :=
 if decide (v12<(c10.length:Int))=true then
  Option.bind (idx c10 v12) fun x15 =>
  Option.bind (zet a0.of_.length v13 x15) fun x16 =>
  Option.bind (zet a0.of_.length v13 x15) fun x17 =>
  rec1 (w64 (v12+1)) (v13.set (Int.toNat x15) (w64 (x16+1)))
 else
  zcb a0 v13
def zaX (a0:Weights_) (c10:List Int):Nat->Int->(List Int)->Option ((List Int))
 | 0,_,_=>none
 | m+1,v12,v13=>zbX a0 c10 (zaX a0 c10 m) v12 v13
def zbA (n:Nat) (a0:Weights_) (a1:Int) (v3:Int) (v4:List Int) (v5:List Int):Option ((List Int)) :=
 Option.bind (zbR n (fun (x0:Int) (x1:Int) (_:Unit)=>(za8 x0 x1 a1 a0).map fun y=>(y,())) a0.of_.length (v4,())) fun r6 =>
 Option.bind (zkh a0.of_.length r6.2.1) fun x7 =>
 Option.bind (cut r6.2.1 0 v3) fun c10 =>
 zaX a0 c10 n 0 v5
def zbk (n:Nat) (a0:Weights_) (a1:Int) (rec2:Int->Int->(List Int)->(List Int)->Option ((List Int))) (v20:Int) (v21:Int) (v22:List Int) (v23:List Int):Option ((List Int)) :=
 if decide (v21<(a0.of_.length:Int))=true then
  Option.bind (idx a0.of_ v21) fun x25 =>
  Option.bind (quo (w64 (a1*x25)) a0.all) fun q26 =>
  Option.bind (zet a0.of_.length v23 v21) fun x27 =>
  Option.bind (zet a0.of_.length v22 v21) fun x28 =>
  Option.bind (zet a0.of_.length (v23.set (Int.toNat v21) q26) v21) fun x29 =>
  rec2 (w64 (v20-x29)) (w64 (v21+1)) (v22.set (Int.toNat v21) v21) (v23.set (Int.toNat v21) q26)
 else
  zbA n a0 a1 v20 v22 v23
def zaM (n:Nat) (a0:Weights_) (a1:Int):Nat->Int->Int->(List Int)->(List Int)->Option ((List Int))
 | 0,_,_,_,_=>none
 | m+1,v20,v21,v22,v23=>zbk n a0 a1 (zaM n a0 a1 m) v20 v21 v22 v23
def zbu (n:Nat) (a0:Weights_) (a1:Int):Option ((List Int)) :=
 Option.bind (mkN a0.of_.length (a0.of_.length:Int) 0) fun l1 =>
 Option.bind (mkN a0.of_.length (a0.of_.length:Int) 0) fun l2 =>
 zaM n a0 a1 n a1 0 l2 l1
def zed (n:Nat) (a0:Royal):Option ((List Int)×Int) :=
 Option.bind (zdc n a0 true) fun r1 =>
 if (r1.2 != 0)=true then
  some (([]:List Int),r1.2)
 else
  Option.bind (zbu n r1.1 a0.Pool) fun r3 =>
  some (r3,0)
def zg8:Option (Royal) :=
 some (⟨100,([(⟨3,([(⟨0,50⟩:RoyalPart),(⟨1,50⟩:RoyalPart)]:List RoyalPart)⟩:RoyalSide),(⟨1,([(⟨1,30⟩:RoyalPart),(⟨2,70⟩:RoyalPart)]:List RoyalPart)⟩:RoyalSide)]:List RoyalSide),([0,40,0]:List Int)⟩:Royal)
def zey:Option (Bool) :=
 some true
def ze1 (a0:List Int) (a1:List Int) (rec1:Int->Option (Bool)) (v2:Int):Option (Bool) :=
 if decide (v2<(a0.length:Int))=true then
  Option.bind (idx a0 v2) fun x4 =>
  Option.bind (idx a1 v2) fun x5 =>
  if (x4 != x5)=true then
   some false
  else
   rec1 (w64 (v2+1))
 else
  zey
def zdT (a0:List Int) (a1:List Int):Nat->Int->Option (Bool)
 | 0,_=>none
 | m+1,v2=>ze1 a0 a1 (zdT a0 a1 m) v2
def zgA (n:Nat) (a0:List Int) (a1:List Int):Option (Bool) :=
 if ((a0.length:Int) != (a1.length:Int))=true then
  some false
 else
  zdT a0 a1 n 0
def zeB (v3:Bool):Option (Bool) :=
 some v3
def zeg (n:Nat):Option (Bool) :=
 Option.bind (zg8) fun r1 =>
 Option.bind (zed n r1) fun r2 =>
 if (r2.2==0)=true then
  Option.bind (zgA n r2.1 ([38,45,17]:List Int)) fun r5 =>
  zeB r5
 else
  zeB false
def zgj (a0:Tray):Option (Tray) :=
 Option.bind (app ([]:List TrayRecord) a0.Records) fun l1 =>
 Option.bind (app ([]:List TrayPress) a0.Presses) fun l2 =>
 some (⟨l1,a0.At,a0.Way,a0.Step,l2⟩:Tray)
def zd7 (v1:Bool):Option (Bool) :=
 some v1
def zgO (a0:Tray) (a1:Int):Option (Bool) :=
 if decide (a1≥0)=true then
  zd7 (decide (a1<(w64 (2*(a0.Records.length:Int)))))
 else
  zd7 false
def zd8 (v1:Bool):Option (Bool) :=
 some v1
def zgP (a0:Int):Option (Bool) :=
 if decide (a0≥0)=true then
  zd8 (decide (a0<=9999))
 else
  zd8 false
def zeQ (v3:Bool):Option (Int) :=
 if (!v3)=true then
  some 20
 else
  some 0
def zdU (rec1:Bool->Int->Option (Int)) (v6:Int) (v8:Bool):Option (Int) :=
 rec1 v8 (w64 (v6+1))
def zeq (a0:Tray) (rec1:Bool->Int->Option (Int)) (v5:Bool) (v6:Int):Option (Int) :=
 if decide (v6<(a0.Presses.length:Int))=true then
  Option.bind (idx a0.Presses v6) fun x9 =>
  if v5=true then
   Option.bind (zgO a0 x9.Side) fun r11 =>
   if r11=true then
    Option.bind (zgP x9.Time) fun r13 =>
    zdU rec1 v6 r13
   else
    zdU rec1 v6 false
  else
   zdU rec1 v6 false
 else
  zeQ v5
def zct (a0:Tray):Nat->Bool->Int->Option (Int)
 | 0,_,_=>none
 | m+1,v5,v6=>zeq a0 (zct a0 m) v5 v6
def zfD (n:Nat) (a0:Tray) (v2:Bool):Option (Int) :=
 zct a0 n v2 0
def zcZ (rec2:Bool->Int->Option (Int)) (v15:Int) (v17:Bool):Option (Int) :=
 rec2 v17 (w64 (v15+1))
def zer (n:Nat) (a0:Tray) (rec2:Bool->Int->Option (Int)) (v14:Bool) (v15:Int):Option (Int) :=
 if decide (v15<(a0.Records.length:Int))=true then
  Option.bind (idx a0.Records v15) fun x18 =>
  if v14=true then
   if decide (x18.Front≥1)=true then
    if decide (x18.Front<=999)=true then
     if decide (x18.Back≥1)=true then
      zcZ rec2 v15 (decide (x18.Back<=999))
     else
      zcZ rec2 v15 false
    else
     zcZ rec2 v15 false
   else
    zcZ rec2 v15 false
  else
   zcZ rec2 v15 false
 else
  zfD n a0 v14
def zcu (n:Nat) (a0:Tray):Nat->Bool->Int->Option (Int)
 | 0,_,_=>none
 | m+1,v14,v15=>zer n a0 (zcu n a0 m) v14 v15
def zbp (n:Nat) (a0:Tray) (v1:Bool):Option (Int) :=
 zcu n a0 n v1 0
def zgk (n:Nat) (a0:Tray):Option (Int) :=
 if decide ((a0.Records.length:Int)≥1)=true then
  if decide ((a0.Records.length:Int)<=6)=true then
   if decide (a0.At≥0)=true then
    if decide (a0.At<(a0.Records.length:Int))=true then
     if (a0.Way==1)=true then
      if decide (a0.Step≥0)=true then
       if decide (a0.Step<=60)=true then
        zbp n a0 (decide ((a0.Presses.length:Int)<=12))
       else
        zbp n a0 false
      else
       zbp n a0 false
     else
      if (a0.Way==(-1))=true then
       if decide (a0.Step≥0)=true then
        if decide (a0.Step<=60)=true then
         zbp n a0 (decide ((a0.Presses.length:Int)<=12))
        else
         zbp n a0 false
       else
        zbp n a0 false
      else
       zbp n a0 false
    else
     zbp n a0 false
   else
    zbp n a0 false
  else
   zbp n a0 false
 else
  zbp n a0 false
def zbS (a0:List TrayPress):Option (List TrayPress):=app [] a0
def zaT {S:Type} (rec1:Int->(List TrayPress)->S->Option (Unit×((List TrayPress)×S))) (v2:Int) (v6:List TrayPress) (v7:S):Option (Unit×((List TrayPress)×S)) :=
 rec1 (w64 (v2+1)) v6 v7
def zaC {S:Type} (rec1:Int->(List TrayPress)->S->Option (Unit×((List TrayPress)×S))) (rec2:Int->(List TrayPress)->S->Option (Unit×((List TrayPress)×S))) (mz0:Nat) (v2:Int) (v9:Int) (v10:List TrayPress) (v12:Bool) (v13:S):Option (Unit×((List TrayPress)×S)) :=
 if v12=true then
  Option.bind (zet mz0 v10 (w64 (v9-1))) fun x15 =>
  Option.bind (zet mz0 v10 v9) fun x16 =>
  Option.bind (zet mz0 v10 v9) fun x17 =>
  Option.bind (zet mz0 (v10.set (Int.toNat v9) x15) (w64 (v9-1))) fun x18 =>
  rec2 (w64 (v9-1)) ((v10.set (Int.toNat v9) x15).set (Int.toNat (w64 (v9-1))) x16) v13
 else
  zaT rec1 v2 v10 v13
def zaO {S:Type} (rec1:Int->(List TrayPress)->S->Option (Unit×((List TrayPress)×S))) (a1:Int) (aF:TrayPress->TrayPress->S->Option (Int×S)) (mz0:Nat) (v2:Int) (rec2:Int->(List TrayPress)->S->Option (Unit×((List TrayPress)×S))) (v9:Int) (v10:List TrayPress) (v11:S):Option (Unit×((List TrayPress)×S)) :=
 if decide (v9>a1)=true then
  Option.bind (zet mz0 v10 v9) fun x20 =>
  Option.bind (zet mz0 v10 (w64 (v9-1))) fun x21 =>
  Option.bind (aF x20 x21 v11) fun r22 =>
  zaC rec1 rec2 mz0 v2 v9 v10 (decide (r22.1<0)) r22.2
 else
  zaC rec1 rec2 mz0 v2 v9 v10 false v11
def zaj {S:Type} (rec1:Int->(List TrayPress)->S->Option (Unit×((List TrayPress)×S))) (a1:Int) (aF:TrayPress->TrayPress->S->Option (Int×S)) (mz0:Nat) (v2:Int):Nat->Int->(List TrayPress)->S->Option (Unit×((List TrayPress)×S))
 | 0,_,_,_=>none
 | m+1,v9,v10,v11=>zaO rec1 a1 aF mz0 v2 (zaj rec1 a1 aF mz0 v2 m) v9 v10 v11
def zaP {S:Type} (n:Nat) (a1:Int) (a2:Int) (aF:TrayPress->TrayPress->S->Option (Int×S)) (mz0:Nat) (rec1:Int->(List TrayPress)->S->Option (Unit×((List TrayPress)×S))) (v2:Int) (v3:List TrayPress) (v4:S):Option (Unit×((List TrayPress)×S)) :=
 if decide (v2<a2)=true then
  zaj rec1 a1 aF mz0 v2 n v2 v3 v4
 else
  some ((),(v3,v4))
def zab {S:Type} (n:Nat) (a1:Int) (a2:Int) (aF:TrayPress->TrayPress->S->Option (Int×S)) (mz0:Nat):Nat->Int->(List TrayPress)->S->Option (Unit×((List TrayPress)×S))
 | 0,_,_,_=>none
 | m+1,v2,v3,v4=>zaP n a1 a2 aF mz0 (zab n a1 a2 aF mz0 m) v2 v3 v4
def zaZ {S:Type} (n:Nat) (aF:TrayPress->TrayPress->S->Option (Int×S)) (a1:Int) (a2:Int) (mz0:Nat) (st:(List TrayPress)×S):Option (Unit×((List TrayPress)×S)) :=
 zab n a1 a2 aF mz0 n (w64 (a1+1)) st.1 st.2
def za9 (rec1:Int->Option (Unit)) (v1:Int):Option (Unit) :=
 rec1 (w64 (v1+1))
def zba (rec1:Int->Option (Unit)) (v1:Int):Option (Unit) :=
 za9 rec1 v1
def zbT (rec1:Int->Option (Unit)) (a1:Int) (v1:Int) (rec2:Int->Option (Unit)) (v3:Int):Option (Unit) :=
 if decide (v3>a1)=true then
  none
 else
  zba rec1 v1
def zaQ (rec1:Int->Option (Unit)) (a1:Int) (v1:Int):Nat->Int->Option (Unit)
 | 0,_=>none
 | m+1,v3=>zbT rec1 a1 v1 (zaQ rec1 a1 v1 m) v3
def za2 (n:Nat) (a1:Int) (a2:Int) (rec1:Int->Option (Unit)) (v1:Int):Option (Unit) :=
 if decide (v1<a2)=true then
  zaQ rec1 a1 v1 n v1
 else
  some ()
def zae (n:Nat) (a1:Int) (a2:Int):Nat->Int->Option (Unit)
 | 0,_=>none
 | m+1,v1=>za2 n a1 a2 (zae n a1 a2 m) v1
def zaW (n:Nat) (a1:Int) (a2:Int):Option (Unit) :=
 zae n a1 a2 n (w64 (a1+1))
def zbU {S:Type} (rec1:Int->Option (Unit×((List TrayPress)×S))) (v5:Int):Option (Unit×((List TrayPress)×S)) :=
 rec1 (w64 (v5*2))
def zbV {S:Type} (rec1:Int->Option (Unit×((List TrayPress)×S))) (a1:Int) (v5:Int) (v7:Int):Option (Unit×((List TrayPress)×S)) :=
 if decide ((w64 (v7+v5))<a1)=true then
  none
 else
  zbU rec1 v5
def zcC {S:Type} (rec1:Int->Option (Unit×((List TrayPress)×S))) (a1:Int) (v5:Int) (rec2:Int->Int->Option (Unit×((List TrayPress)×S))) (v9:Int) (v10:Int):Option (Unit×((List TrayPress)×S)) :=
 if decide (v10<=a1)=true then
  none
 else
  zbV rec1 a1 v5 v9
def zbg {S:Type} (rec1:Int->Option (Unit×((List TrayPress)×S))) (a1:Int) (v5:Int):Nat->Int->Int->Option (Unit×((List TrayPress)×S))
 | 0,_,_=>none
 | m+1,v9,v10=>zcC rec1 a1 v5 (zbg rec1 a1 v5 m) v9 v10
def zbE {S:Type} (n:Nat) (a1:Int) (r4:Unit×((List TrayPress)×S)) (rec1:Int->Option (Unit×((List TrayPress)×S))) (v5:Int):Option (Unit×((List TrayPress)×S)) :=
 if decide (v5<a1)=true then
  zbg rec1 a1 v5 n 0 (w64 (2*v5))
 else
  some ((),(r4.2.1,r4.2.2))
def zah {S:Type} (n:Nat) (a1:Int) (r4:Unit×((List TrayPress)×S)):Nat->Int->Option (Unit×((List TrayPress)×S))
 | 0,_=>none
 | m+1,v5=>zbE n a1 r4 (zah n a1 r4 m) v5
def zbh {S:Type} (n:Nat) (a1:Int) (aF:TrayPress->TrayPress->S->Option (Int×S)) (mz0:Nat) (v1:Int) (v2:List TrayPress) (v3:S):Option (Unit×((List TrayPress)×S)) :=
 Option.bind (zaZ n aF v1 a1 mz0 (v2,v3)) fun r4 =>
 zah n a1 r4 n 20
def zbF {S:Type} (n:Nat) (a1:Int) (aF:TrayPress->TrayPress->S->Option (Int×S)) (mz0:Nat) (rec3:Int->Int->(List TrayPress)->S->Option (Unit×((List TrayPress)×S))) (v14:Int) (v15:Int) (v16:List TrayPress) (v17:S):Option (Unit×((List TrayPress)×S)) :=
 if decide (v15<=a1)=true then
  Option.bind (zaZ n aF v14 v15 mz0 (v16,v17)) fun r19 =>
  rec3 v15 (w64 (v15+20)) r19.2.1 r19.2.2
 else
  zbh n a1 aF mz0 v14 v16 v17
def zaU {S:Type} (n:Nat) (a1:Int) (aF:TrayPress->TrayPress->S->Option (Int×S)) (mz0:Nat):Nat->Int->Int->(List TrayPress)->S->Option (Unit×((List TrayPress)×S))
 | 0,_,_,_,_=>none
 | m+1,v14,v15,v16,v17=>zbF n a1 aF mz0 (zaU n a1 aF mz0 m) v14 v15 v16 v17
def zcc {S:Type} (n:Nat) (aF:TrayPress->TrayPress->S->Option (Int×S)) (a1:Int) (mz0:Nat) (st:(List TrayPress)×S):Option (Unit×((List TrayPress)×S)) :=
 zaU n a1 aF mz0 n 0 20 st.1 st.2
def zbG (rec1:Int->Option (Unit)) (v3:Int):Option (Unit) :=
 rec1 (w64 (v3*2))
def zbH (rec1:Int->Option (Unit)) (a1:Int) (v3:Int) (v5:Int):Option (Unit) :=
 if decide ((w64 (v5+v3))<a1)=true then
  none
 else
  zbG rec1 v3
def zcs (rec1:Int->Option (Unit)) (a1:Int) (v3:Int) (rec2:Int->Int->Option (Unit)) (v7:Int) (v8:Int):Option (Unit) :=
 if decide (v8<=a1)=true then
  none
 else
  zbH rec1 a1 v3 v7
def za4 (rec1:Int->Option (Unit)) (a1:Int) (v3:Int):Nat->Int->Int->Option (Unit)
 | 0,_,_=>none
 | m+1,v7,v8=>zcs rec1 a1 v3 (za4 rec1 a1 v3 m) v7 v8
def zbs (n:Nat) (a1:Int) (rec1:Int->Option (Unit)) (v3:Int):Option (Unit) :=
 if decide (v3<a1)=true then
  za4 rec1 a1 v3 n 0 (w64 (2*v3))
 else
  some ()
def zag (n:Nat) (a1:Int):Nat->Int->Option (Unit)
 | 0,_=>none
 | m+1,v3=>zbs n a1 (zag n a1 m) v3
def za5 (n:Nat) (a1:Int) (v1:Int):Option (Unit) :=
 Option.bind (zaW n v1 a1) fun r2 =>
 zag n a1 n 20
def zbt (n:Nat) (a1:Int) (rec3:Int->Int->Option (Unit)) (v10:Int) (v11:Int):Option (Unit) :=
 if decide (v11<=a1)=true then
  Option.bind (zaW n v10 v11) fun r13 =>
  rec3 v11 (w64 (v11+20))
 else
  za5 n a1 v10
def zaR (n:Nat) (a1:Int):Nat->Int->Int->Option (Unit)
 | 0,_,_=>none
 | m+1,v10,v11=>zbt n a1 (zaR n a1 m) v10 v11
def zbZ (n:Nat) (a1:Int):Option (Unit) :=
 zaR n a1 n 0 20
def zbm {S:Type} (n:Nat) (aF:TrayPress->TrayPress->S->Option (Int×S)) (mz0:Nat) (st:(List TrayPress)×S):Option (Unit×((List TrayPress)×S)) :=
 Option.bind (zcc n aF (mz0:Int) mz0 (st.1,st.2)) fun r1 =>
 some ((),(r1.2.1,r1.2.2))
def zbi (n:Nat):Option (Unit) :=
 Option.bind (zbZ n (([]:List TrayPress).length:Int)) fun r1 =>
 some ()
def zff (a0:TrayPress) (a1:TrayPress):Option (Int) :=
 some (w64 (a0.Time-a1.Time))
def zbO (a1:Int) (st:Carriage_):Option (Unit×Carriage_) :=
 Option.bind (app st.run.spells ([(⟨(⟨st.at_.At,st.at_.Way,a1⟩:TrayStand),st.now⟩:Spell_)]:List Spell_)) fun l1 =>
 some ((),(⟨st.t,st.queue,st.pins,st.now,(⟨st.at_.At,st.at_.Way,a1⟩:TrayStand),(⟨l1,st.run.plays,st.run.steps,st.run.end_⟩:Run_)⟩:Carriage_))
def zcn (rec1:(List TrayPress)->(List Bool)->Option (Unit×Carriage_)) (st:Carriage_) (v1:List TrayPress) (v2:List Bool) (v3:Bool):Option (Unit×Carriage_) :=
 if v3=true then
  Option.bind (idx v1 0) fun x5 =>
  Option.bind (zet (2*st.t.Records.length) v2 x5.Side) fun x6 =>
  Option.bind (cut v1 1 (v1.length:Int)) fun c7 =>
  rec1 c7 (v2.set (Int.toNat x5.Side) true)
 else
  some ((),(⟨st.t,v1,v2,st.now,st.at_,st.run⟩:Carriage_))
def zde (st:Carriage_) (rec1:(List TrayPress)->(List Bool)->Option (Unit×Carriage_)) (v1:List TrayPress) (v2:List Bool):Option (Unit×Carriage_) :=
 if decide ((v1.length:Int)>0)=true then
  Option.bind (idx v1 0) fun x9 =>
  zcn rec1 st v1 v2 (decide (x9.Time<=st.now))
 else
  zcn rec1 st v1 v2 false
def za6 (st:Carriage_):Nat->(List TrayPress)->(List Bool)->Option (Unit×Carriage_)
 | 0,_,_=>none
 | m+1,v1,v2=>zde st (za6 st m) v1 v2
def zeh (n:Nat) (st:Carriage_):Option (Unit×Carriage_) :=
 za6 st n st.queue st.pins
def zc7:Option (Int) :=
 some (-1)
def zcS (a0:List Bool) (a1:Bool) (rec1:Int->Option (Int)) (v1:Int):Option (Int) :=
 if decide (v1<(a0.length:Int))=true then
  Option.bind (idx a0 v1) fun x3 =>
  if (a1==x3)=true then
   some v1
  else
   rec1 (w64 (v1+1))
 else
  zc7
def zbM (a0:List Bool) (a1:Bool):Nat->Int->Option (Int)
 | 0,_=>none
 | m+1,v1=>zcS a0 a1 (zbM a0 a1 m) v1
def zdV (n:Nat) (a0:List Bool) (a1:Bool):Option (Int) :=
 zbM a0 a1 n 0
def zc8 (n:Nat) (a0:List Bool) (a1:Bool):Option (Bool) :=
 Option.bind (zdV n a0 a1) fun r1 =>
 some (decide (r1≥0))
def zg9 (a0:Tray) (a1:Int):Option (Int) :=
 Option.bind (rem a1 2) fun q1 =>
 if (q1==0)=true then
  Option.bind (quo a1 2) fun q3 =>
  Option.bind (idx a0.Records q3) fun x4 =>
  some x4.Front
 else
  Option.bind (quo a1 2) fun q5 =>
  Option.bind (idx a0.Records q5) fun x6 =>
  some x6.Back
def zb1 (st:Carriage_) (v1:Int) (v2:Int) (v3:Int) (v4:Int):Option (Unit×Carriage_) :=
 Option.bind (zbO (-1) (⟨st.t,st.queue,st.pins,v1,(⟨v2,v3,st.at_.Side⟩:TrayStand),(⟨st.run.spells,st.run.plays,v4,st.run.end_⟩:Run_)⟩:Carriage_)) fun r5 =>
 some ((),r5.2)
def zbj (st:Carriage_) (v6:Bool):Option (Unit×Carriage_) :=
 if v6=true then
  zb1 st (w64 (st.now+st.t.Step)) (w64 (st.at_.At+st.at_.Way)) st.at_.Way (w64 (st.run.steps+1))
 else
  zb1 st st.now st.at_.At (w64 (0-st.at_.Way)) st.run.steps
def zdG (st:Carriage_):Option (Unit×Carriage_) :=
 if decide ((w64 (st.at_.At+st.at_.Way))≥0)=true then
  zbj st (decide ((w64 (st.at_.At+st.at_.Way))<(st.t.Records.length:Int)))
 else
  zbj st false
def zce (v8:List TrayRecord) (v9:Int) (v10:Int) (v11:Int) (v12:List TrayPress) (v13:List TrayPress) (v14:Int) (v15:Int) (v16:Int) (v17:Int) (v18:List Spell_) (v19:List TrayPlay) (v20:Int) (v21:Int) (v22:List Bool):Option (Bool×Carriage_) :=
 Option.bind (zdG (⟨(⟨v8,v9,v10,v11,v12⟩:Tray),v13,v22,v14,(⟨v15,v16,v17⟩:TrayStand),(⟨v18,v19,v20,v21⟩:Run_)⟩:Carriage_)) fun r23 =>
 some (true,r23.2)
def zcf (r1:Unit×Carriage_) (v7:Int):Option (Bool×Carriage_) :=
 Option.bind (zet (2*r1.2.t.Records.length) r1.2.pins v7) fun x24 =>
 if x24=true then
  Option.bind (zet (2*r1.2.t.Records.length) r1.2.pins v7) fun x26 =>
  Option.bind (app r1.2.run.plays ([(⟨v7,r1.2.now⟩:TrayPlay)]:List TrayPlay)) fun l27 =>
  Option.bind (zbO v7 (⟨r1.2.t,r1.2.queue,(r1.2.pins.set (Int.toNat v7) false),r1.2.now,r1.2.at_,(⟨r1.2.run.spells,l27,r1.2.run.steps,r1.2.run.end_⟩:Run_)⟩:Carriage_)) fun r28 =>
  Option.bind (zg9 r28.2.t v7) fun r29 =>
  Option.bind (zbO (-1) (⟨r28.2.t,r28.2.queue,r28.2.pins,w64 (r28.2.now+r29),r28.2.at_,(⟨r28.2.run.spells,r28.2.run.plays,r28.2.run.steps,w64 (r28.2.now+r29)⟩:Run_)⟩:Carriage_)) fun r30 =>
  zce r30.2.t.Records r30.2.t.At r30.2.t.Way r30.2.t.Step r30.2.t.Presses r30.2.queue r30.2.now r30.2.at_.At r30.2.at_.Way r30.2.at_.Side r30.2.run.spells r30.2.run.plays r30.2.run.steps r30.2.run.end_ r30.2.pins
 else
  zce r1.2.t.Records r1.2.t.At r1.2.t.Way r1.2.t.Step r1.2.t.Presses r1.2.queue r1.2.now r1.2.at_.At r1.2.at_.Way r1.2.at_.Side r1.2.run.spells r1.2.run.plays r1.2.run.steps r1.2.run.end_ r1.2.pins
def zcp (n:Nat) (st:Carriage_):Option (Bool×Carriage_) :=
 Option.bind (zeh n st) fun r1 =>
 Option.bind (zkh (2*r1.2.t.Records.length) r1.2.pins) fun x2 =>
 Option.bind (zc8 n r1.2.pins true) fun r3 =>
 if (!r3)=true then
  if ((r1.2.queue.length:Int)==0)=true then
   some (false,r1.2)
  else
   Option.bind (idx r1.2.queue 0) fun x6 =>
   some (true,(⟨r1.2.t,r1.2.queue,r1.2.pins,x6.Time,r1.2.at_,r1.2.run⟩:Carriage_))
 else
  if decide (r1.2.at_.Way<0)=true then
   zcf r1 (w64 ((w64 (2*r1.2.at_.At))+1))
  else
   zcf r1 (w64 (2*r1.2.at_.At))
def zf0 (v6:List TrayRecord) (v7:Int) (v8:Int) (v9:Int) (v10:List TrayPress) (v11:List TrayPress) (v12:Int) (v13:Int) (v14:Int) (v15:Int) (v16:List Spell_) (v17:List TrayPlay) (v18:Int) (v19:Int) (v20:List Bool):Option (Run_) :=
 some (⟨v16,v17,v18,v19⟩:Run_)
def zfl (n:Nat) (rec1:(List TrayRecord)->Int->Int->Int->(List TrayPress)->(List TrayPress)->Int->Int->Int->Int->(List Spell_)->(List TrayPlay)->Int->Int->(List Bool)->Option (Run_)) (v21:List TrayRecord) (v22:Int) (v23:Int) (v24:Int) (v25:List TrayPress) (v26:List TrayPress) (v27:Int) (v28:Int) (v29:Int) (v30:Int) (v31:List Spell_) (v32:List TrayPlay) (v33:Int) (v34:Int) (v35:List Bool):Option (Run_) :=
 Option.bind (zcp n (⟨(⟨v21,v22,v23,v24,v25⟩:Tray),v26,v35,v27,(⟨v28,v29,v30⟩:TrayStand),(⟨v31,v32,v33,v34⟩:Run_)⟩:Carriage_)) fun r36 =>
 if r36.1=true then
  rec1 r36.2.t.Records r36.2.t.At r36.2.t.Way r36.2.t.Step r36.2.t.Presses r36.2.queue r36.2.now r36.2.at_.At r36.2.at_.Way r36.2.at_.Side r36.2.run.spells r36.2.run.plays r36.2.run.steps r36.2.run.end_ r36.2.pins
 else
  zf0 r36.2.t.Records r36.2.t.At r36.2.t.Way r36.2.t.Step r36.2.t.Presses r36.2.queue r36.2.now r36.2.at_.At r36.2.at_.Way r36.2.at_.Side r36.2.run.spells r36.2.run.plays r36.2.run.steps r36.2.run.end_ r36.2.pins
def zdL (n:Nat):Nat->(List TrayRecord)->Int->Int->Int->(List TrayPress)->(List TrayPress)->Int->Int->Int->Int->(List Spell_)->(List TrayPlay)->Int->Int->(List Bool)->Option (Run_)
 | 0,_,_,_,_,_,_,_,_,_,_,_,_,_,_,_=>none
 | m+1,v21,v22,v23,v24,v25,v26,v27,v28,v29,v30,v31,v32,v33,v34,v35=>zfl n (zdL n m) v21 v22 v23 v24 v25 v26 v27 v28 v29 v30 v31 v32 v33 v34 v35
def zf1 (v42:List TrayRecord) (v43:Int) (v44:Int) (v45:Int) (v46:List TrayPress) (v47:List TrayPress) (v48:Int) (v49:Int) (v50:Int) (v51:Int) (v52:List Spell_) (v53:List TrayPlay) (v54:Int) (v55:Int) (v56:List Bool):Option (Run_) :=
 some (⟨v52,v53,v54,v55⟩:Run_)
def zfm (n:Nat) (rec2:(List TrayRecord)->Int->Int->Int->(List TrayPress)->(List TrayPress)->Int->Int->Int->Int->(List Spell_)->(List TrayPlay)->Int->Int->(List Bool)->Option (Run_)) (v57:List TrayRecord) (v58:Int) (v59:Int) (v60:Int) (v61:List TrayPress) (v62:List TrayPress) (v63:Int) (v64:Int) (v65:Int) (v66:Int) (v67:List Spell_) (v68:List TrayPlay) (v69:Int) (v70:Int) (v71:List Bool):Option (Run_) :=
 Option.bind (zcp n (⟨(⟨v57,v58,v59,v60,v61⟩:Tray),v62,v71,v63,(⟨v64,v65,v66⟩:TrayStand),(⟨v67,v68,v69,v70⟩:Run_)⟩:Carriage_)) fun r72 =>
 if r72.1=true then
  rec2 r72.2.t.Records r72.2.t.At r72.2.t.Way r72.2.t.Step r72.2.t.Presses r72.2.queue r72.2.now r72.2.at_.At r72.2.at_.Way r72.2.at_.Side r72.2.run.spells r72.2.run.plays r72.2.run.steps r72.2.run.end_ r72.2.pins
 else
  zf1 r72.2.t.Records r72.2.t.At r72.2.t.Way r72.2.t.Step r72.2.t.Presses r72.2.queue r72.2.now r72.2.at_.At r72.2.at_.Way r72.2.at_.Side r72.2.run.spells r72.2.run.plays r72.2.run.steps r72.2.run.end_ r72.2.pins
def zek (n:Nat):Nat->(List TrayRecord)->Int->Int->Int->(List TrayPress)->(List TrayPress)->Int->Int->Int->Int->(List Spell_)->(List TrayPlay)->Int->Int->(List Bool)->Option (Run_)
 | 0,_,_,_,_,_,_,_,_,_,_,_,_,_,_,_=>none
 | m+1,v57,v58,v59,v60,v61,v62,v63,v64,v65,v66,v67,v68,v69,v70,v71=>zfm n (zek n m) v57 v58 v59 v60 v61 v62 v63 v64 v65 v66 v67 v68 v69 v70 v71
def zha (n:Nat) (a0:Tray):Option (Run_) :=
 Option.bind (zbS a0.Presses) fun r1 =>
 if (r1.length==0)=true then
  Option.bind (mkN (2*a0.Records.length) (w64 (2*(a0.Records.length:Int))) false) fun l3 =>
  Option.bind (zbi n) fun r4 =>
  Option.bind (zbO (-1) (⟨a0,([]:List TrayPress),l3,0,(⟨a0.At,a0.Way,(-1)⟩:TrayStand),(⟨([]:List Spell_),([]:List TrayPlay),0,0⟩:Run_)⟩:Carriage_)) fun r5 =>
  zdL n n r5.2.t.Records r5.2.t.At r5.2.t.Way r5.2.t.Step r5.2.t.Presses r5.2.queue r5.2.now r5.2.at_.At r5.2.at_.Way r5.2.at_.Side r5.2.run.spells r5.2.run.plays r5.2.run.steps r5.2.run.end_ r5.2.pins
 else
  Option.bind (mkN (2*a0.Records.length) (w64 (2*(a0.Records.length:Int))) false) fun l38 =>
  Option.bind (zbm n (fun (x0:TrayPress) (x1:TrayPress) (_:Unit)=>(zff x0 x1).map fun y=>(y,())) r1.length (r1,())) fun r39 =>
  Option.bind (zkh r1.length r39.2.1) fun x40 =>
  Option.bind (zbO (-1) (⟨a0,r39.2.1,l38,0,(⟨a0.At,a0.Way,(-1)⟩:TrayStand),(⟨([]:List Spell_),([]:List TrayPlay),0,0⟩:Run_)⟩:Carriage_)) fun r41 =>
  zek n n r41.2.t.Records r41.2.t.At r41.2.t.Way r41.2.t.Step r41.2.t.Presses r41.2.queue r41.2.now r41.2.at_.At r41.2.at_.Way r41.2.at_.Side r41.2.run.spells r41.2.run.plays r41.2.run.steps r41.2.run.end_ r41.2.pins
def zgl (n:Nat) (a0:Tray):Option ((List TrayPlay)×Int) :=
 Option.bind (zgk n a0) fun r1 =>
 if (r1 != 0)=true then
  some (([]:List TrayPlay),r1)
 else
  Option.bind (zha n a0) fun r3 =>
  some (r3.plays,0)
def zf2 (v6:List Int):Option ((List Int)×Bool) :=
 some (v6,true)
def zeC (a0:Tray) (r3:(List TrayPlay)×Int) (rec1:Int->(List Int)->Option ((List Int)×Bool)) (v8:Int) (v9:List Int):Option ((List Int)×Bool) :=
 if decide (v8<(r3.1.length:Int))=true then
  Option.bind (idx r3.1 v8) fun x11 =>
  Option.bind (zeF a0 x11.Side) fun r12 =>
  if (!r12)=true then
   some (([]:List Int),false)
  else
   Option.bind (idx r3.1 v8) fun x14 =>
   Option.bind (quo x14.Side 2) fun q15 =>
   Option.bind (idx v9 q15) fun x16 =>
   Option.bind (idx v9 q15) fun x17 =>
   rec1 (w64 (v8+1)) (v9.set (Int.toNat q15) (w64 (x16+1)))
 else
  zf2 v9
def zdM (a0:Tray) (r3:(List TrayPlay)×Int):Nat->Int->(List Int)->Option ((List Int)×Bool)
 | 0,_,_=>none
 | m+1,v8,v9=>zeC a0 r3 (zdM a0 r3 m) v8 v9
def zeG (n:Nat) (a0:Tray) (l1:List Int) (r3:(List TrayPlay)×Int) (v4:Bool):Option ((List Int)×Bool) :=
 if v4=true then
  some (([]:List Int),false)
 else
  zdM a0 r3 n 0 l1
def zhb (n:Nat) (a0:Tray):Option ((List Int)×Bool) :=
 Option.bind (mkz (a0.Records.length:Int)) fun l1 =>
 Option.bind (zgj a0) fun r2 =>
 Option.bind (zgl n r2) fun r3 =>
 if (r3.2 != 0)=true then
  zeG n a0 l1 r3 true
 else
  zeG n a0 l1 r3 (decide ((r3.1.length:Int)>(a0.Presses.length:Int)))
def ze2 (a0:Royal) (a1:Int):Option (Bool) :=
 Option.bind (zch a1 0 (w64 ((a0.Owed.length:Int)-1))) fun r1 =>
 some r1
def zc0 (a0:Royal) (r2:Weights_×Int) (x4:Int) (v5:Int):Option (Int×Int×Int) :=
 Option.bind (quo (w64 (a0.Pool*x4)) v5) fun q6 =>
 Option.bind (quo r2.1.all v5) fun q7 =>
 some (q6,q7,0)
def zcG (a0:Royal) (r2:Weights_×Int) (x4:Int) (rec1:Int->Int->Option (Int×Int×Int)) (v8:Int) (v9:Int):Option (Int×Int×Int) :=
 if (v9 != 0)=true then
  Option.bind (rem v8 v9) fun q11 =>
  rec1 v9 q11
 else
  zc0 a0 r2 x4 v8
def zbq (a0:Royal) (r2:Weights_×Int) (x4:Int):Nat->Int->Int->Option (Int×Int×Int)
 | 0,_,_=>none
 | m+1,v8,v9=>zcG a0 r2 x4 (zbq a0 r2 x4 m) v8 v9
def zdN (n:Nat) (a0:Royal) (a1:Int):Option (Int×Int×Int) :=
 Option.bind (ze2 a0 a1) fun r1 =>
 Option.bind (zdc n a0 r1) fun r2 =>
 if (r2.2 != 0)=true then
  some (0,0,r2.2)
 else
  Option.bind (idx r2.1.of_ a1) fun x4 =>
  zbq a0 r2 x4 n (w64 (a0.Pool*x4)) r2.1.all
def zdW (v14:Bool):Option (Bool) :=
 some v14
def zdX (n:Nat):Option (Bool) :=
 Option.bind (zeg n) fun r19 =>
 some r19
def zb2 (rec1:Int->Option (Bool)) (v20:Int) (v25:Bool):Option (Bool) :=
 if v25=true then
  some false
 else
  rec1 (w64 (v20+1))
def zbn (rec1:Int->Option (Bool)) (a2:Int) (v9:Int) (v10:List Int) (r12:(List Int)×Int) (v20:Int) (v23:Bool):Option (Bool) :=
 if v23=true then
  some false
 else
  Option.bind (zet 3 v10 v20) fun x27 =>
  if (x27==0)=true then
   Option.bind (idx r12.1 v20) fun x29 =>
   if (x29 != 0)=true then
    zb2 rec1 v20 true
   else
    Option.bind (zet 3 v10 v20) fun x31 =>
    if (x31==v9)=true then
     Option.bind (idx r12.1 v20) fun x33 =>
     zb2 rec1 v20 (x33 != a2)
    else
     zb2 rec1 v20 false
  else
   Option.bind (zet 3 v10 v20) fun x34 =>
   if (x34==v9)=true then
    Option.bind (idx r12.1 v20) fun x36 =>
    zb2 rec1 v20 (x36 != a2)
   else
    zb2 rec1 v20 false
def zcq (n:Nat) (a2:Int) (l6:List Int) (v9:Int) (v10:List Int) (v11:List RoyalSide) (r12:(List Int)×Int) (rec1:Int->Option (Bool)) (v20:Int):Option (Bool) :=
 if decide (v20<(3:Int))=true then
  Option.bind (zdN n (⟨a2,v11,l6⟩:Royal) v20) fun r22 =>
  if (r22.2.2 != 0)=true then
   zbn rec1 a2 v9 v10 r12 v20 true
  else
   if decide (r22.2.1<1)=true then
    zbn rec1 a2 v9 v10 r12 v20 true
   else
    if decide (r22.2.1>1073741824)=true then
     zbn rec1 a2 v9 v10 r12 v20 true
    else
     if decide (r22.1<0)=true then
      zbn rec1 a2 v9 v10 r12 v20 true
     else
      if decide (r22.1>1073741824)=true then
       zbn rec1 a2 v9 v10 r12 v20 true
      else
       Option.bind (zet 3 v10 v20) fun x42 =>
       zbn rec1 a2 v9 v10 r12 v20 ((w64 (r22.1*v9)) != (w64 ((w64 (a2*x42))*r22.2.1)))
 else
  zdX n
def za0 (n:Nat) (a2:Int) (l6:List Int) (v9:Int) (v10:List Int) (v11:List RoyalSide) (r12:(List Int)×Int):Nat->Int->Option (Bool)
 | 0,_=>none
 | m+1,v20=>zcq n a2 l6 v9 v10 v11 r12 (za0 n a2 l6 v9 v10 v11 r12 m) v20
def zdf (n:Nat) (a2:Int) (l6:List Int) (v9:Int) (v10:List Int) (v11:List RoyalSide) (r12:(List Int)×Int) (v17:Bool):Option (Bool) :=
 if v17=true then
  some false
 else
  za0 n a2 l6 v9 v10 v11 r12 n 0
def zdg (n:Nat) (a2:Int) (l6:List Int) (v9:Int) (v10:List Int) (v11:List RoyalSide):Option (Bool) :=
 Option.bind (zed n (⟨a2,v11,l6⟩:Royal)) fun r12 =>
 if (v9==0)=true then
  if (r12.2==3)=true then
   Option.bind (zeg n) fun r16 =>
   zdW r16
  else
   zdW false
 else
  if (r12.2 != 0)=true then
   zdf n a2 l6 v9 v10 v11 r12 true
  else
   zdf n a2 l6 v9 v10 v11 r12 ((r12.1.length:Int) != (3:Int))
def zcr (n:Nat) (rec2:Int->Int->(List Int)->(List RoyalSide)->Option (Bool)) (a1:List Int) (r4:(List Int)×Bool) (v46:Int) (v47:Int) (v48:List Int) (v49:List RoyalSide) (v51:Bool):Option (Bool) :=
 if v51=true then
  Option.bind (zeg n) fun r53 =>
  some r53
 else
  Option.bind (idx r4.1 v47) fun x54 =>
  Option.bind (idx a1 v47) fun x55 =>
  Option.bind (app v49 ([(⟨x54,([(⟨x55,100⟩:RoyalPart)]:List RoyalPart)⟩:RoyalSide)]:List RoyalSide)) fun l56 =>
  Option.bind (idx a1 v47) fun x57 =>
  Option.bind (zet 3 v48 x57) fun x58 =>
  Option.bind (idx r4.1 v47) fun x59 =>
  Option.bind (zet 3 v48 x57) fun x60 =>
  Option.bind (idx r4.1 v47) fun x61 =>
  rec2 (w64 (v46+x61)) (w64 (v47+1)) (v48.set (Int.toNat x57) (w64 (x58+x59))) l56
def zdp (n:Nat) (a1:List Int) (a2:Int) (r4:(List Int)×Bool) (l6:List Int) (rec2:Int->Int->(List Int)->(List RoyalSide)->Option (Bool)) (v46:Int) (v47:Int) (v48:List Int) (v49:List RoyalSide):Option (Bool) :=
 if decide (v47<(r4.1.length:Int))=true then
  Option.bind (idx a1 v47) fun x62 =>
  if decide (x62<0)=true then
   zcr n rec2 a1 r4 v46 v47 v48 v49 true
  else
   Option.bind (idx a1 v47) fun x64 =>
   zcr n rec2 a1 r4 v46 v47 v48 v49 (decide (x64≥(3:Int)))
 else
  zdg n a2 l6 v46 v48 v49
def zbI (n:Nat) (a1:List Int) (a2:Int) (r4:(List Int)×Bool) (l6:List Int):Nat->Int->Int->(List Int)->(List RoyalSide)->Option (Bool)
 | 0,_,_,_,_=>none
 | m+1,v46,v47,v48,v49=>zdp n a1 a2 r4 l6 (zbI n a1 a2 r4 l6 m) v46 v47 v48 v49
def zbb (n:Nat) (a0:Tray) (a1:List Int) (a2:Int) (v1:Bool):Option (Bool) :=
 if v1=true then
  Option.bind (zeg n) fun r3 =>
  some r3
 else
  Option.bind (zhb n a0) fun r4 =>
  if (!r4.2)=true then
   some false
  else
   Option.bind (mkN 3 3 0) fun l6 =>
   Option.bind (zkh 3 l6) fun x7 =>
   Option.bind (mkN 3 3 0) fun l8 =>
   zbI n a1 a2 r4 l6 n 0 0 l8 ([]:List RoyalSide)
def zfn (n:Nat) (a0:Tray) (a1:List Int) (a2:Int):Option (Bool) :=
 Option.bind (zg7 a0) fun r65 =>
 if r65=true then
  zbb n a0 a1 a2 true
 else
  Option.bind (zfC n a0) fun r67 =>
  if (r67 != 0)=true then
   zbb n a0 a1 a2 true
  else
   if ((a1.length:Int) != (a0.Records.length:Int))=true then
    zbb n a0 a1 a2 true
   else
    if decide ((a0.Records.length:Int)>6)=true then
     zbb n a0 a1 a2 true
    else
     if decide (a2<0)=true then
      zbb n a0 a1 a2 true
     else
      zbb n a0 a1 a2 (decide (a2>9999))
end Go.Law
