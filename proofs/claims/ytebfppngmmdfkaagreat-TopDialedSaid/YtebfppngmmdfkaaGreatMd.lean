/-
  What the functions compute (printed by gen.py).
  Conditions: none.
-/
import Derived.Test.YtebfppngmmdfkaaGreatAmPg
set_option linter.all false
namespace Go.Law
open Go Go.AM
set_option linter.unusedVariables false
structure WirePress where
 Letter:Int
 Number:Int
 Got:Int
 deriving DecidableEq,Inhabited,Repr
abbrev WirePress.cells (x:WirePress):List AV:=[.v (.int .i64 x.Letter),.v (.int .i64 x.Number),.v (.int .i64 x.Got)]
structure Wire where
 Letters:Int
 Numbers:Int
 Presses:List WirePress
 Faults:Int
 deriving DecidableEq,Inhabited,Repr
abbrev Wire.cells (x:Wire):List AV:=[.v (.int .i64 x.Letters),.v (.int .i64 x.Numbers),.sl .no 3 (x.Presses.map WirePress.cells),.v (.int .i64 x.Faults)]
structure WireFault where
 Kind:Int
 A:Int
 B:Int
 deriving DecidableEq,Inhabited,Repr
abbrev WireFault.cells (x:WireFault):List AV:=[.v (.int .i64 x.Kind),.v (.int .i64 x.A),.v (.int .i64 x.B)]
structure Pulse where
 Letters:Int
 Numbers:Int
 Pitch:Int
 Slack:Int
 Gap:Int
 Pause:Int
 Sparks:Int
 Times:List Int
 deriving DecidableEq,Inhabited,Repr
abbrev Pulse.cells (x:Pulse):List AV:=[.v (.int .i64 x.Letters),.v (.int .i64 x.Numbers),.v (.int .i64 x.Pitch),.v (.int .i64 x.Slack),.v (.int .i64 x.Gap),.v (.int .i64 x.Pause),.v (.int .i64 x.Sparks),.sl .no 1 (x.Times.map cI)]
structure An115 where
 n:Int
 low:Int
 high:Int
 deriving DecidableEq,Inhabited,Repr
abbrev An115.cells (x:An115):List AV:=[.v (.int .i64 x.n),.v (.int .i64 x.low),.v (.int .i64 x.high)]
structure Train_ where
 Pulse:Pulse
 deriving DecidableEq,Inhabited,Repr
abbrev Train_.cells (x:Train_):List AV:=[.v (.int .i64 x.Pulse.Letters),.v (.int .i64 x.Pulse.Numbers),.v (.int .i64 x.Pulse.Pitch),.v (.int .i64 x.Pulse.Slack),.v (.int .i64 x.Pulse.Gap),.v (.int .i64 x.Pulse.Pause),.v (.int .i64 x.Pulse.Sparks),.sl .no 1 (x.Pulse.Times.map cI)]
structure Groups_ where
 letter:Int
 number:Int
 deriving DecidableEq,Inhabited,Repr
abbrev Groups_.cells (x:Groups_):List AV:=[.v (.int .i64 x.letter),.v (.int .i64 x.number)]
structure Reading_ where
 sparks:Int
 list:List Int
 deriving DecidableEq,Inhabited,Repr
abbrev Reading_.cells (x:Reading_):List AV:=[.v (.int .u64 x.sparks),.sl .fr 1 (x.list.map cI)]
structure Wiring_ where
 Wire:Wire
 all:List WireFault
 deriving DecidableEq,Inhabited,Repr
abbrev Wiring_.cells (x:Wiring_):List AV:=[.v (.int .i64 x.Wire.Letters),.v (.int .i64 x.Wire.Numbers),.sl .no 3 (x.Wire.Presses.map WirePress.cells),.v (.int .i64 x.Wire.Faults),.sl .no 3 (x.all.map WireFault.cells)]
structure Keys_ where
 c0:Int
 c1:Int
 c2:Int
 c3:Int
 c4:Int
 deriving DecidableEq,Inhabited,Repr
abbrev Keys_.cells (x:Keys_):List AV:=[.v (.int .i64 x.c0),.v (.int .i64 x.c1),.v (.int .i64 x.c2),.v (.int .i64 x.c3),.v (.int .i64 x.c4)]
structure Panel_ where
 letters:Keys_
 numbers:Keys_
 deriving DecidableEq,Inhabited,Repr
abbrev Panel_.cells (x:Panel_):List AV:=[.v (.int .i64 x.letters.c0),.v (.int .i64 x.letters.c1),.v (.int .i64 x.letters.c2),.v (.int .i64 x.letters.c3),.v (.int .i64 x.letters.c4),.v (.int .i64 x.numbers.c0),.v (.int .i64 x.numbers.c1),.v (.int .i64 x.numbers.c2),.v (.int .i64 x.numbers.c3),.v (.int .i64 x.numbers.c4)]
structure Dial where
 Wire:Wire
 Faults:List WireFault
 List_:List Int
 deriving DecidableEq,Inhabited,Repr
abbrev Dial.cells (x:Dial):List AV:=[.v (.int .i64 x.Wire.Letters),.v (.int .i64 x.Wire.Numbers),.sl .no 3 (x.Wire.Presses.map WirePress.cells),.v (.int .i64 x.Wire.Faults),.sl .no 3 (x.Faults.map WireFault.cells),.sl .no 1 (x.List_.map cI)]
def zdA (v1:Bool):Option (Bool) :=
 some v1
def zdL (a0:Int) (a1:Int) (a2:Int):Option (Bool) :=
 if decide (a0≥a1)=true then
  zdA (decide (a0<=a2))
 else
  zdA false
def zde (a0:Int) (a1:Int) (a2:Int):Option (Bool) :=
 Option.bind (zdL a0 a1 a2) fun r1 =>
 some r1
def zdB (v1:Bool):Option (Bool) :=
 some v1
def zfR (a0:Wire) (a1:Int) (a2:Int):Option (Bool) :=
 Option.bind (zde a1 0 (w64 (a0.Letters-1))) fun r2 =>
 if r2=true then
  Option.bind (zde a2 0 (w64 (a0.Numbers-1))) fun r4 =>
  zdB r4
 else
  zdB false
def zfS:Option (Int) :=
 some 0
def zdY (rec1:Int->Option (Int)) (v3:Int) (v6:Bool):Option (Int) :=
 if v6=true then
  some 110
 else
  rec1 (w64 (v3+1))
def zeW (a0:Wire) (rec1:Int->Option (Int)) (v3:Int):Option (Int) :=
 if decide (v3<(a0.Presses.length:Int))=true then
  Option.bind (idx a0.Presses v3) fun x5 =>
  Option.bind (zfR a0 x5.Letter x5.Number) fun r8 =>
  if (!r8)=true then
   zdY rec1 v3 true
  else
   Option.bind (zde x5.Got (-1) (w64 ((w64 (a0.Letters*a0.Numbers))-1))) fun r10 =>
   zdY rec1 v3 (!r10)
 else
  zfS
def zb4 (a0:Wire):Nat->Int->Option (Int)
 | 0,_=>none
 | m+1,v3=>zeW a0 (zb4 a0 m) v3
def zbR (n:Nat) (a0:Wire) (v1:Bool):Option (Int) :=
 if v1=true then
  some 110
 else
  zb4 a0 n 0
def zgK (n:Nat) (a0:Wire):Option (Int) :=
 Option.bind (zde a0.Letters 1 5) fun r11 =>
 if (!r11)=true then
  zbR n a0 true
 else
  Option.bind (zde a0.Numbers 1 5) fun r13 =>
  if (!r13)=true then
   zbR n a0 true
  else
   if decide ((a0.Presses.length:Int)>8)=true then
    zbR n a0 true
   else
    Option.bind (zde a0.Faults 0 3) fun r16 =>
    zbR n a0 (!r16)
def zek (v1:Bool):Option (Bool) :=
 some v1
def zjp (n:Nat) (a0:Wire):Option (Bool) :=
 if decide ((a0.Presses.length:Int)>40)=true then
  zek true
 else
  Option.bind (zgK n a0) fun r3 =>
  if (r3==0)=true then
   if decide ((max a0.Letters a0.Numbers)>4)=true then
    zek true
   else
    zek (decide (a0.Faults>2))
  else
   zek false
def zfc (v4:List WireFault):Option ((List WireFault)) :=
 some v4
def zfd (rec1:(List WireFault)->Int->Option ((List WireFault))) (v6:Int) (v8:List WireFault):Option ((List WireFault)) :=
 rec1 v8 (w64 (v6+1))
def zgd (rec1:(List WireFault)->Int->Option ((List WireFault))) (a0:Wire) (v6:Int) (rec2:(List WireFault)->Int->Option ((List WireFault))) (v9:List WireFault) (v10:Int):Option ((List WireFault)) :=
 if decide (v10<a0.Numbers)=true then
  Option.bind (app v9 ([(⟨4,v6,v10⟩:WireFault)]:List WireFault)) fun l12 =>
  rec2 l12 (w64 (v10+1))
 else
  zfd rec1 v6 v9
def zd9 (rec1:(List WireFault)->Int->Option ((List WireFault))) (a0:Wire) (v6:Int):Nat->(List WireFault)->Int->Option ((List WireFault))
 | 0,_,_=>none
 | m+1,v9,v10=>zgd rec1 a0 v6 (zd9 rec1 a0 v6 m) v9 v10
def zge (n:Nat) (a0:Wire) (rec1:(List WireFault)->Int->Option ((List WireFault))) (v5:List WireFault) (v6:Int):Option ((List WireFault)) :=
 if decide (v6<a0.Numbers)=true then
  zd9 rec1 a0 v6 n v5 (w64 (v6+1))
 else
  zfc v5
def zbo (n:Nat) (a0:Wire):Nat->(List WireFault)->Int->Option ((List WireFault))
 | 0,_,_=>none
 | m+1,v5,v6=>zge n a0 (zbo n a0 m) v5 v6
def zfe (n:Nat) (a0:Wire) (v3:List WireFault):Option ((List WireFault)) :=
 zbo n a0 n v3 0
def zff (rec3:(List WireFault)->Int->Option ((List WireFault))) (v14:Int) (v16:List WireFault):Option ((List WireFault)) :=
 rec3 v16 (w64 (v14+1))
def zgf (rec3:(List WireFault)->Int->Option ((List WireFault))) (a0:Wire) (v14:Int) (rec4:(List WireFault)->Int->Option ((List WireFault))) (v17:List WireFault) (v18:Int):Option ((List WireFault)) :=
 if decide (v18<a0.Letters)=true then
  Option.bind (app v17 ([(⟨3,v14,v18⟩:WireFault)]:List WireFault)) fun l20 =>
  rec4 l20 (w64 (v18+1))
 else
  zff rec3 v14 v17
def zea (rec3:(List WireFault)->Int->Option ((List WireFault))) (a0:Wire) (v14:Int):Nat->(List WireFault)->Int->Option ((List WireFault))
 | 0,_,_=>none
 | m+1,v17,v18=>zgf rec3 a0 v14 (zea rec3 a0 v14 m) v17 v18
def zgg (n:Nat) (a0:Wire) (rec3:(List WireFault)->Int->Option ((List WireFault))) (v13:List WireFault) (v14:Int):Option ((List WireFault)) :=
 if decide (v14<a0.Letters)=true then
  zea rec3 a0 v14 n v13 (w64 (v14+1))
 else
  zfe n a0 v13
def zbp (n:Nat) (a0:Wire):Nat->(List WireFault)->Int->Option ((List WireFault))
 | 0,_,_=>none
 | m+1,v13,v14=>zgg n a0 (zbp n a0 m) v13 v14
def zfg (n:Nat) (a0:Wire) (v2:List WireFault):Option ((List WireFault)) :=
 zbp n a0 n v2 0
def zgh (n:Nat) (a0:Wire) (rec5:(List WireFault)->Int->Option ((List WireFault))) (v21:List WireFault) (v22:Int):Option ((List WireFault)) :=
 if decide (v22<a0.Numbers)=true then
  Option.bind (app v21 ([(⟨2,v22,0⟩:WireFault)]:List WireFault)) fun l24 =>
  rec5 l24 (w64 (v22+1))
 else
  zfg n a0 v21
def zeb (n:Nat) (a0:Wire):Nat->(List WireFault)->Int->Option ((List WireFault))
 | 0,_,_=>none
 | m+1,v21,v22=>zgh n a0 (zeb n a0 m) v21 v22
def zfh (n:Nat) (a0:Wire) (v1:List WireFault):Option ((List WireFault)) :=
 zeb n a0 n v1 0
def zgi (n:Nat) (a0:Wire) (rec6:(List WireFault)->Int->Option ((List WireFault))) (v25:List WireFault) (v26:Int):Option ((List WireFault)) :=
 if decide (v26<a0.Letters)=true then
  Option.bind (app v25 ([(⟨1,v26,0⟩:WireFault)]:List WireFault)) fun l28 =>
  rec6 l28 (w64 (v26+1))
 else
  zfh n a0 v25
def zec (n:Nat) (a0:Wire):Nat->(List WireFault)->Int->Option ((List WireFault))
 | 0,_,_=>none
 | m+1,v25,v26=>zgi n a0 (zec n a0 m) v25 v26
def zgL (n:Nat) (a0:Wire):Option ((List WireFault)) :=
 zec n a0 n ([]:List WireFault) 0
def zeP:Option (Int) :=
 some (-1)
def zc8 (a0:List WireFault) (a1:WireFault) (rec1:Int->Option (Int)) (v1:Int):Option (Int) :=
 if decide (v1<(a0.length:Int))=true then
  Option.bind (idx a0 v1) fun x3 =>
  if ((x3.Kind==a1.Kind)&&((x3.A==a1.A)&&((x3.B==a1.B)&&true)))=true then
   some v1
  else
   rec1 (w64 (v1+1))
 else
  zeP
def zb5 (a0:List WireFault) (a1:WireFault):Nat->Int->Option (Int)
 | 0,_=>none
 | m+1,v1=>zc8 a0 a1 (zb5 a0 a1 m) v1
def zel (n:Nat) (a0:List WireFault) (a1:WireFault):Option (Int) :=
 zb5 a0 a1 n 0
def zcU (v1:Bool):Option (Bool) :=
 some v1
def zi5 (a0:WireFault) (a1:WireFault):Option (Bool) :=
 if (a0.Kind==a1.Kind)=true then
  if decide (a0.Kind≥3)=true then
   if (a0.A==a1.A)=true then
    zcU true
   else
    if (a0.A==a1.B)=true then
     zcU true
    else
     if (a0.B==a1.A)=true then
      zcU true
     else
      zcU (a0.B==a1.B)
  else
   zcU false
 else
  zcU false
def zfT:Option (Bool) :=
 some true
def zeQ (rec1:Int->Int->Option (Bool)) (v3:Int) (v5:Int):Option (Bool) :=
 rec1 v5 (w64 (v3+1))
def zeX (rec1:Int->Int->Option (Bool)) (a1:List WireFault) (v3:Int) (r7:Int) (rec2:Int->Option (Bool)) (v9:Int):Option (Bool) :=
 if decide (v9<v3)=true then
  Option.bind (idx a1 v9) fun x11 =>
  Option.bind (idx a1 v3) fun x12 =>
  Option.bind (zi5 x11 x12) fun r13 =>
  if r13=true then
   some false
  else
   rec2 (w64 (v9+1))
 else
  zeQ rec1 v3 r7
def zdr (rec1:Int->Int->Option (Bool)) (a1:List WireFault) (v3:Int) (r7:Int):Nat->Int->Option (Bool)
 | 0,_=>none
 | m+1,v9=>zeX rec1 a1 v3 r7 (zdr rec1 a1 v3 r7 m) v9
def zeY (n:Nat) (a1:List WireFault) (r1:(List WireFault)) (rec1:Int->Int->Option (Bool)) (v2:Int) (v3:Int):Option (Bool) :=
 if decide (v3<(a1.length:Int))=true then
  Option.bind (idx a1 v3) fun x6 =>
  Option.bind (zel n r1 x6) fun r7 =>
  if decide (r7<=v2)=true then
   some false
  else
   zdr rec1 a1 v3 r7 n 0
 else
  zfT
def zba (n:Nat) (a1:List WireFault) (r1:(List WireFault)):Nat->Int->Int->Option (Bool)
 | 0,_,_=>none
 | m+1,v2,v3=>zeY n a1 r1 (zba n a1 r1 m) v2 v3
def zhP (n:Nat) (a0:Wire) (a1:List WireFault):Option (Bool) :=
 Option.bind (zgL n a0) fun r1 =>
 zba n a1 r1 n (-1) 0
def zig (n:Nat) (a0:List WireFault) (a1:WireFault):Option (Bool) :=
 Option.bind (zel n a0 a1) fun r1 =>
 some (decide (r1≥0))
def zfU (a2:Int):Option (Int) :=
 some a2
def zeR (rec1:Int->Option (Int)) (v1:Int):Option (Int) :=
 rec1 (w64 (v1+1))
def zeZ (a0:List WireFault) (a1:Int) (a2:Int) (rec1:Int->Option (Int)) (v1:Int):Option (Int) :=
 if decide (v1<(a0.length:Int))=true then
  Option.bind (idx a0 v1) fun x3 =>
  if (x3.Kind==a1)=true then
   if (x3.A==a2)=true then
    some x3.B
   else
    if (x3.B==a2)=true then
     some x3.A
    else
     zeR rec1 v1
  else
   zeR rec1 v1
 else
  zfU a2
def zcq (a0:List WireFault) (a1:Int) (a2:Int):Nat->Int->Option (Int)
 | 0,_=>none
 | m+1,v1=>zeZ a0 a1 a2 (zcq a0 a1 a2 m) v1
def zgM (n:Nat) (a0:List WireFault) (a1:Int) (a2:Int):Option (Int) :=
 zcq a0 a1 a2 n 0
def zdS (n:Nat) (a0:Wire) (a1:List WireFault) (a2:Int) (a3:Int) (v1:Bool):Option (Int) :=
 if v1=true then
  some (-1)
 else
  Option.bind (zgM n a1 3 a2) fun r3 =>
  Option.bind (zgM n a1 4 a3) fun r4 =>
  some (w64 ((w64 (r3*a0.Numbers))+r4))
def zgn (n:Nat) (a0:Wire) (a1:List WireFault) (a2:Int) (a3:Int):Option (Int) :=
 Option.bind (zig n a1 (⟨1,a2,0⟩:WireFault)) fun r5 =>
 if r5=true then
  zdS n a0 a1 a2 a3 true
 else
  Option.bind (zig n a1 (⟨2,a3,0⟩:WireFault)) fun r7 =>
  zdS n a0 a1 a2 a3 r7
def zdu:Option (Bool) :=
 some true
def zc3 (n:Nat) (a0:Wire) (a1:List WireFault) (rec1:Int->Option (Bool)) (v1:Int):Option (Bool) :=
 if decide (v1<(a0.Presses.length:Int))=true then
  Option.bind (idx a0.Presses v1) fun x3 =>
  Option.bind (zgn n a0 a1 x3.Letter x3.Number) fun r4 =>
  if (r4 != x3.Got)=true then
   some false
  else
   rec1 (w64 (v1+1))
 else
  zdu
def zbF (n:Nat) (a0:Wire) (a1:List WireFault):Nat->Int->Option (Bool)
 | 0,_=>none
 | m+1,v1=>zc3 n a0 a1 (zbF n a0 a1 m) v1
def zey (n:Nat) (a0:Wire) (a1:List WireFault):Option (Bool) :=
 zbF n a0 a1 n 0
def zc9 (v1:Bool):Option (Bool) :=
 some v1
def zgo (n:Nat) (a0:Wire) (a1:List WireFault):Option (Bool) :=
 if decide ((a1.length:Int)<=a0.Faults)=true then
  Option.bind (zhP n a0 a1) fun r3 =>
  if r3=true then
   Option.bind (zey n a0 a1) fun r5 =>
   zc9 r5
  else
   zc9 false
 else
  zc9 false
def zdT (v1:Bool):Option (Bool) :=
 some v1
def zcr (a0:Int) (a1:Int) (a2:Int):Option (Bool) :=
 if decide (a1<=a0)=true then
  zdT (decide (a0<=a2))
 else
  zdT false
def zfi:Option (Int) :=
 some 0
def zcv (rec1:Int->Option (Int)) (v1:Int) (v4:Bool):Option (Int) :=
 if v4=true then
  some 130
 else
  rec1 (w64 (v1+1))
def zez (a0:Pulse) (rec1:Int->Option (Int)) (v1:Int):Option (Int) :=
 if decide (v1<(a0.Times.length:Int))=true then
  Option.bind (idx a0.Times v1) fun x3 =>
  Option.bind (zcr x3 0 99999) fun r6 =>
  if (!r6)=true then
   zcv rec1 v1 true
  else
   if decide (v1>0)=true then
    Option.bind (idx a0.Times (w64 (v1-1))) fun x9 =>
    zcv rec1 v1 (decide (x3<=x9))
   else
    zcv rec1 v1 false
 else
  zfi
def zb7 (a0:Pulse):Nat->Int->Option (Int)
 | 0,_=>none
 | m+1,v1=>zez a0 (zb7 a0 m) v1
def zgN (n:Nat) (a0:Pulse):Option (Int) :=
 zb7 a0 n 0
def zeA (n:Nat) (a0:Pulse) (rec2:Int->Option (Int)) (v10:Int):Option (Int) :=
 if decide (v10<8)=true then
  Option.bind (idx ([(⟨a0.Letters,1,5⟩:An115),(⟨a0.Numbers,1,5⟩:An115),(⟨a0.Pitch,1,99⟩:An115),(⟨a0.Slack,0,w64 (a0.Pitch-1)⟩:An115),(⟨a0.Gap,w64 ((w64 (a0.Pitch+a0.Slack))+1),w64 (a0.Pause-1)⟩:An115),(⟨a0.Pause,0,999⟩:An115),(⟨a0.Sparks,0,3⟩:An115),(⟨(a0.Times.length:Int),0,24⟩:An115)]:List An115) v10) fun x12 =>
  Option.bind (zcr x12.n x12.low x12.high) fun r13 =>
  if (!r13)=true then
   some 130
  else
   rec2 (w64 (v10+1))
 else
  zgN n a0
def zbx (n:Nat) (a0:Pulse):Nat->Int->Option (Int)
 | 0,_=>none
 | m+1,v10=>zeA n a0 (zbx n a0 m) v10
def zf3 (n:Nat) (a0:Pulse):Option (Int) :=
 zbx n a0 n 0
def zdv {S:Type} (v3:S):Option (Bool×S) :=
 some (true,v3)
def zc4 {S:Type} (rec:Train_->Int->Int->Int->S->Option (Bool×S)) (a0:Train_) (a1:Int) (a3:Int) (rec1:Int->S->Option (Bool×S)) (v5:Int) (v6:S):Option (Bool×S) :=
 if decide (v5<(a0.Pulse.Times.length:Int))=true then
  Option.bind (zq6 1 v5) fun q8 =>
  Option.bind (rec a0 (zvd a1 q8) (w64 (v5+1)) (w64 (a3-1)) v6) fun r9 =>
  if (!r9.1)=true then
   some (false,r9.2)
  else
   rec1 (w64 (v5+1)) r9.2
 else
  zdv v6
def zbG {S:Type} (rec:Train_->Int->Int->Int->S->Option (Bool×S)) (a0:Train_) (a1:Int) (a3:Int):Nat->Int->S->Option (Bool×S)
 | 0,_,_=>none
 | m+1,v5,v6=>zc4 rec a0 a1 a3 (zbG rec a0 a1 a3 m) v5 v6
def zdO {S:Type} (n:Nat) (rec:Train_->Int->Int->Int->S->Option (Bool×S)) (aF:Int->S->Option (Bool×S)) (a0:Train_) (a1:Int) (a2:Int) (a3:Int) (st:S):Option (Bool×S) :=
 if (a3==0)=true then
  Option.bind (aF a1 st) fun r2 =>
  some (r2.1,r2.2)
 else
  zbG rec a0 a1 a3 n a2 st
def zbD {S:Type}:Nat->(Int->S->Option (Bool×S))->Train_->Int->Int->Int->S->Option (Bool×S)
 | 0,_,_,_,_,_,_=>none
 | n+1,aF,a0,a1,a2,a3,st=>zdO n (zbD n aF) aF a0 a1 a2 a3 st
def zfV (a0:Int) (a1:Int):Option (Bool) :=
 Option.bind (zsI a0 a1) fun q1 =>
 some ((znl q1 1)==1)
def zb8 (l1:List Int) (v2:Bool):Option (Bool×(List Int)) :=
 some (v2,l1)
def zcL (a1:Groups_) (a2:Train_) (st:(List Int)):Option (Bool×(List Int)) :=
 Option.bind (app st ([w64 ((w64 ((w64 ((w64 (a1.letter-1))*a2.Pulse.Numbers))+a1.number))-1)]:List Int)) fun l1 =>
 Option.bind (zcr a1.letter 1 a2.Pulse.Letters) fun r3 =>
 if r3=true then
  Option.bind (zcr a1.number 1 a2.Pulse.Numbers) fun r5 =>
  zb8 l1 r5
 else
  zb8 l1 false
def zeB (a0:Train_) (a1:Int):Option (Int) :=
 if decide (a1≥a0.Pulse.Pause)=true then
  some 3
 else
  if decide (a1≥a0.Pulse.Gap)=true then
   some 2
  else
   Option.bind (zcr a1 (w64 (a0.Pulse.Pitch-a0.Pulse.Slack)) (w64 (a0.Pulse.Pitch+a0.Pulse.Slack))) fun r3 =>
   if r3=true then
    some 1
   else
    some 0
def zcf (v4:Bool) (v5:List Int):Option ((List Int)×Bool) :=
 if v4=true then
  some (([]:List Int),false)
 else
  some (v5,true)
def zcM (a0:Train_) (a1:List Int) (v1:Int) (v2:Int) (v3:List Int):Option ((List Int)×Bool) :=
 if decide ((a1.length:Int)>0)=true then
  Option.bind (zcL (⟨v1,v2⟩:Groups_) a0 v3) fun r8 =>
  zcf (!r8.1) r8.2
 else
  zcf false v3
def zaZ (rec1:Int->Int->Int->(List Int)->Option ((List Int)×Bool)) (v10:Int) (v15:Int) (v16:Int) (v17:List Int):Option ((List Int)×Bool) :=
 rec1 (w64 (v10+1)) v15 v16 v17
def zbN (a0:Train_) (a1:List Int) (rec1:Int->Int->Int->(List Int)->Option ((List Int)×Bool)) (v10:Int) (v11:Int) (v12:Int) (v13:List Int):Option ((List Int)×Bool) :=
 if decide (v10<(a1.length:Int))=true then
  Option.bind (idx a1 v10) fun x18 =>
  if (v10==0)=true then
   zaZ rec1 v10 1 0 v13
  else
   Option.bind (idx a1 (w64 (v10-1))) fun x20 =>
   Option.bind (zeB a0 (w64 (x18-x20))) fun r21 =>
   if (r21==1)=true then
    if decide (v12>0)=true then
     zaZ rec1 v10 v11 (w64 (v12+1)) v13
    else
     zaZ rec1 v10 (w64 (v11+1)) v12 v13
   else
    if (r21==2)=true then
     if decide (v12>0)=true then
      some (([]:List Int),false)
     else
      zaZ rec1 v10 v11 1 v13
    else
     if (r21==3)=true then
      Option.bind (zcL (⟨v11,v12⟩:Groups_) a0 v13) fun r27 =>
      if (!r27.1)=true then
       some (([]:List Int),false)
      else
       zaZ rec1 v10 1 0 r27.2
     else
      some (([]:List Int),false)
 else
  zcM a0 a1 v11 v12 v13
def zaQ (a0:Train_) (a1:List Int):Nat->Int->Int->Int->(List Int)->Option ((List Int)×Bool)
 | 0,_,_,_,_=>none
 | m+1,v10,v11,v12,v13=>zbN a0 a1 (zaQ a0 a1 m) v10 v11 v12 v13
def zeC (n:Nat) (a0:Train_) (a1:List Int):Option ((List Int)×Bool) :=
 zaQ a0 a1 n 0 0 0 ([]:List Int)
def zbd {S:Type} (v3:Bool) (v4:S):Option (Bool×S) :=
 some (v3,v4)
def zbJ {S:Type} (n:Nat) (a0:Int) (aF:Reading_->S->Option (Bool×S)) (st:S) (a1:Train_) (v1:List Int):Option (Bool×S) :=
 Option.bind (zeC n a1 v1) fun r2 =>
 if (!r2.2)=true then
  zbd true st
 else
  Option.bind (aF (⟨a0,r2.1⟩:Reading_) st) fun r6 =>
  zbd r6.1 r6.2
def zbe {S:Type} (rec1:(List Int)->Int->Option (Bool×S)) (v8:Int) (v10:List Int):Option (Bool×S) :=
 rec1 v10 (w64 (v8+1))
def zbt {S:Type} (n:Nat) (a0:Int) (aF:Reading_->S->Option (Bool×S)) (st:S) (a1:Train_) (rec1:(List Int)->Int->Option (Bool×S)) (v7:List Int) (v8:Int):Option (Bool×S) :=
 if decide (v8<(a1.Pulse.Times.length:Int))=true then
  Option.bind (idx a1.Pulse.Times v8) fun x11 =>
  Option.bind (zfV a0 v8) fun r12 =>
  if (!r12)=true then
   Option.bind (app v7 ([x11]:List Int)) fun l14 =>
   zbe rec1 v8 l14
  else
   zbe rec1 v8 v7
 else
  zbJ n a0 aF st a1 v7
def zaD {S:Type} (n:Nat) (a0:Int) (aF:Reading_->S->Option (Bool×S)) (st:S) (a1:Train_):Nat->(List Int)->Int->Option (Bool×S)
 | 0,_,_=>none
 | m+1,v7,v8=>zbt n a0 aF st a1 (zaD n a0 aF st a1 m) v7 v8
def za7 {S:Type} (n:Nat) (aF:Reading_->S->Option (Bool×S)) (a0:Int) (a1:Train_) (st:S):Option (Bool×S) :=
 zaD n a0 aF st a1 n ([]:List Int) 0
def zcE {S:Type} (n:Nat) (aF:Reading_->S->Option (Bool×S)) (a1:Train_) (a2:Int) (st:S):Option (Unit×S) :=
 Option.bind (zbD n (fun (x0:Int) s=>za7 n aF x0 a1 s) a1 0 0 a2 st) fun r1 =>
 some ((),r1.2)
def za2 (y1:Reading_) (s:(List Reading_)):Option (Bool×((List Reading_))) :=
 Option.bind (app s ([y1]:List Reading_)) fun l2 =>
 some (true,l2)
def zbK (n:Nat) (a0:List Reading_) (a91:Train_) (a92:Int):Option ((List Reading_)) :=
 Option.bind (zcE n (za2) a91 a92 a0) fun r3 =>
 some r3.2
def zeS {S:Type} (r3:Bool×S) (v5:List Reading_):Option (((List Reading_)×Int)×S) :=
 if ((v5.length:Int)==0)=true then
  some ((([]:List Reading_),3),r3.2)
 else
  some ((v5,0),r3.2)
def ze0 {S:Type} (n:Nat) (a0:Pulse) (r3:Bool×S) (rec1:(List Reading_)->Int->Option (((List Reading_)×Int)×S)) (v7:List Reading_) (v8:Int):Option (((List Reading_)×Int)×S) :=
 if decide (v8<(w64 (a0.Sparks+1)))=true then
  Option.bind (zbK n v7 (⟨a0⟩:Train_) v8) fun r10 =>
  rec1 r10 (w64 (v8+1))
 else
  zeS r3 v7
def zcV {S:Type} (n:Nat) (a0:Pulse) (r3:Bool×S):Nat->(List Reading_)->Int->Option (((List Reading_)×Int)×S)
 | 0,_,_=>none
 | m+1,v7,v8=>ze0 n a0 r3 (zcV n a0 r3 m) v7 v8
def zgO {S:Type} (n:Nat) (aF:Train_->S->Option (Bool×S)) (a0:Pulse) (st:S):Option (((List Reading_)×Int)×S) :=
 Option.bind (zf3 n a0) fun r1 =>
 if (r1 != 0)=true then
  some ((([]:List Reading_),r1),st)
 else
  Option.bind (aF (⟨a0⟩:Train_) st) fun r3 =>
  if (!r3.1)=true then
   some ((([]:List Reading_),1),r3.2)
  else
   zcV n a0 r3 n ([]:List Reading_) 0
def zcF {S:Type} (v1:S):Option (Int×S) :=
 some ((-1),v1)
def zcl {S:Type} (a0:List (List Int)) (aF:(List Int)->S->Option (Bool×S)) (rec1:Int->S->Option (Int×S)) (v3:Int) (v4:S):Option (Int×S) :=
 if decide (v3<(a0.length:Int))=true then
  Option.bind (idx a0 v3) fun x6 =>
  Option.bind (aF x6 v4) fun r7 =>
  if r7.1=true then
   some (v3,r7.2)
  else
   rec1 (w64 (v3+1)) r7.2
 else
  zcF v4
def za8 {S:Type} (a0:List (List Int)) (aF:(List Int)->S->Option (Bool×S)):Nat->Int->S->Option (Int×S)
 | 0,_,_=>none
 | m+1,v3,v4=>zcl a0 aF (za8 a0 aF m) v3 v4
def zem {S:Type} (n:Nat) (aF:(List Int)->S->Option (Bool×S)) (a0:List (List Int)) (st:S):Option (Int×S) :=
 za8 a0 aF n 0 st
def zcG {S:Type} (n:Nat) (aF:(List Int)->S->Option (Bool×S)) (a0:List (List Int)) (st:S):Option (Bool×S) :=
 Option.bind (zem n aF a0 st) fun r1 =>
 some (decide (r1.1≥0),r1.2)
def zdP:Option (Bool) :=
 some true
def zdf (a0:List Int) (a1:List Int) (rec1:Int->Option (Bool)) (v2:Int):Option (Bool) :=
 if decide (v2<(a0.length:Int))=true then
  Option.bind (idx a0 v2) fun x4 =>
  Option.bind (idx a1 v2) fun x5 =>
  if (x4 != x5)=true then
   some false
  else
   rec1 (w64 (v2+1))
 else
  zdP
def zbX (a0:List Int) (a1:List Int):Nat->Int->Option (Bool)
 | 0,_=>none
 | m+1,v2=>zdf a0 a1 (zbX a0 a1 m) v2
def slices_Equal_int (n:Nat) (a0:List Int) (a1:List Int):Option (Bool) :=
 if ((a0.length:Int) != (a1.length:Int))=true then
  some false
 else
  zbX a0 a1 n 0
def zdC (n:Nat) (a0:List Int) (a1:Reading_):Option (Bool) :=
 Option.bind (slices_Equal_int n a0 a1.list) fun r1 =>
 some r1
def zfj (v1:List (List Int)):Option ((List (List Int))) :=
 some v1
def zdD (rec1:(List (List Int))->Int->Option ((List (List Int)))) (v3:Int) (v5:List (List Int)):Option ((List (List Int))) :=
 rec1 v5 (w64 (v3+1))
def zeD (n:Nat) (a0:List Reading_) (rec1:(List (List Int))->Int->Option ((List (List Int)))) (v2:List (List Int)) (v3:Int):Option ((List (List Int))) :=
 if decide (v3<(a0.length:Int))=true then
  Option.bind (idx a0 v3) fun x6 =>
  Option.bind (zcG n (fun (x0:List Int) (_:Unit)=>(zdC n x0 x6).map fun y=>(y,())) v2 ()) fun r7 =>
  if (!r7.1)=true then
   Option.bind (app v2 ([x6.list]:List (List Int))) fun l9 =>
   zdD rec1 v3 l9
  else
   zdD rec1 v3 v2
 else
  zfj v2
def zb9 (n:Nat) (a0:List Reading_):Nat->(List (List Int))->Int->Option ((List (List Int)))
 | 0,_,_=>none
 | m+1,v2,v3=>zeD n a0 (zb9 n a0 m) v2 v3
def zih (n:Nat) (a0:List Reading_):Option ((List (List Int))) :=
 zb9 n a0 n ([]:List (List Int)) 0
def zfF (n:Nat) (a0:List Reading_):Option ((List Int)×Int) :=
 Option.bind (zih n a0) fun r1 =>
 if decide ((r1.length:Int)>1)=true then
  some (([]:List Int),2)
 else
  Option.bind (idx r1 0) fun x3 =>
  some (x3,0)
def zgP (a0:Train_):Option (Bool) :=
 some true
def zlg (n:Nat) (a0:Pulse):Option ((List Int)×Int) :=
 Option.bind (zgO n (fun (x0:Train_) (_:Unit)=>(zgP x0).map fun y=>(y,())) a0 ()) fun r1 =>
 if (r1.1.2 != 0)=true then
  some (([]:List Int),r1.1.2)
 else
  Option.bind (zfF n r1.1.1) fun r3 =>
  some (r3.1,r3.2)
def zfG:Option (Bool) :=
 some true
def zgQ (a0:List Int) (a1:List Int) (rec1:Int->Option (Bool)) (v2:Int):Option (Bool) :=
 if decide (v2<(a0.length:Int))=true then
  Option.bind (idx a0 v2) fun x4 =>
  Option.bind (idx a1 v2) fun x5 =>
  if (x4 != x5)=true then
   some false
  else
   rec1 (w64 (v2+1))
 else
  zfG
def zeE (a0:List Int) (a1:List Int):Nat->Int->Option (Bool)
 | 0,_=>none
 | m+1,v2=>zgQ a0 a1 (zeE a0 a1 m) v2
def ziT (n:Nat) (a0:List Int) (a1:List Int):Option (Bool) :=
 if ((a0.length:Int) != (a1.length:Int))=true then
  some false
 else
  zeE a0 a1 n 0
def zgp (v2:Bool):Option (Bool) :=
 some v2
def zhB (n:Nat):Option (Bool) :=
 Option.bind (zlg n (⟨3,4,10,2,30,100,0,([0,10,40,50,60]:List Int)⟩:Pulse)) fun r1 =>
 if (r1.2==0)=true then
  Option.bind (ziT n r1.1 ([6]:List Int)) fun r4 =>
  zgp r4
 else
  zgp false
def ziH (a0:Pulse):Option (Pulse) :=
 Option.bind (app ([]:List Int) a0.Times) fun l1 =>
 some (⟨a0.Letters,a0.Numbers,a0.Pitch,a0.Slack,a0.Gap,a0.Pause,a0.Sparks,l1⟩:Pulse)
def zcw (a0:Int) (a1:Int) (a2:Int):Option (Bool) :=
 Option.bind (zdL a0 a1 a2) fun r1 =>
 some r1
def zfk:Option (Bool) :=
 some true
def zcx (rec1:Int->Option (Bool)) (v1:Int) (v3:Bool):Option (Bool) :=
 if v3=true then
  some false
 else
  rec1 (w64 (v1+1))
def zeF (a0:List Int) (a1:Int) (a2:Int) (rec1:Int->Option (Bool)) (v1:Int):Option (Bool) :=
 if decide (v1<(a0.length:Int))=true then
  Option.bind (idx a0 v1) fun x5 =>
  Option.bind (zdL x5 a1 a2) fun r6 =>
  if (!r6)=true then
   zcx rec1 v1 true
  else
   if decide (v1>0)=true then
    Option.bind (idx a0 v1) fun x9 =>
    Option.bind (idx a0 (w64 (v1-1))) fun x10 =>
    zcx rec1 v1 (decide (x9<=x10))
   else
    zcx rec1 v1 false
 else
  zfk
def zca (a0:List Int) (a1:Int) (a2:Int):Nat->Int->Option (Bool)
 | 0,_=>none
 | m+1,v1=>zeF a0 a1 a2 (zca a0 a1 a2 m) v1
def zii (n:Nat) (a0:List Int) (a1:Int) (a2:Int):Option (Bool) :=
 zca a0 a1 a2 n 0
def zbz (v1:Bool):Option (Int) :=
 if v1=true then
  some 130
 else
  some 0
def zgR (n:Nat) (a0:Pulse):Option (Int) :=
 Option.bind (zcw a0.Letters 1 5) fun r3 =>
 if (!r3)=true then
  zbz true
 else
  Option.bind (zcw a0.Numbers 1 5) fun r5 =>
  if (!r5)=true then
   zbz true
  else
   Option.bind (zcw a0.Pitch 1 99) fun r7 =>
   if (!r7)=true then
    zbz true
   else
    Option.bind (zcw a0.Slack 0 (w64 (a0.Pitch-1))) fun r9 =>
    if (!r9)=true then
     zbz true
    else
     Option.bind (zcw a0.Pause 1 999) fun r11 =>
     if (!r11)=true then
      zbz true
     else
      Option.bind (zcw a0.Gap (w64 ((w64 (a0.Pitch+a0.Slack))+1)) (w64 (a0.Pause-1))) fun r13 =>
      if (!r13)=true then
       zbz true
      else
       Option.bind (zcw a0.Sparks 0 3) fun r15 =>
       if (!r15)=true then
        zbz true
       else
        if decide ((a0.Times.length:Int)>24)=true then
         zbz true
        else
         Option.bind (zii n a0.Times 0 99999) fun r18 =>
         zbz (!r18)
def zfH (a0:Pulse) (a1:Int):Option (Bool) :=
 Option.bind (zcw a1 0 (w64 ((w64 (a0.Letters*a0.Numbers))-1))) fun r1 =>
 some r1
def zfl (a1:List Int):Option (Bool) :=
 some (decide ((a1.length:Int)<=24))
def zeG (a0:Pulse) (a1:List Int) (rec1:Int->Option (Bool)) (v1:Int):Option (Bool) :=
 if decide (v1<(a1.length:Int))=true then
  Option.bind (idx a1 v1) fun x3 =>
  Option.bind (zfH a0 x3) fun r4 =>
  if (!r4)=true then
   some false
  else
   rec1 (w64 (v1+1))
 else
  zfl a1
def zcY (a0:Pulse) (a1:List Int):Nat->Int->Option (Bool)
 | 0,_=>none
 | m+1,v1=>zeG a0 a1 (zcY a0 a1 m) v1
def zij (n:Nat) (a0:Pulse) (a1:List Int):Option (Bool) :=
 zcY a0 a1 n 0
def zfm (a0:Int):Option (Bool) :=
 Option.bind (zcr a0 0 99999) fun r1 =>
 some r1
def zcP {S:Type} (v1:S):Option (Int×S) :=
 some ((-1),v1)
def zcs {S:Type} (a0:List Int) (aF:Int->S->Option (Bool×S)) (rec1:Int->S->Option (Int×S)) (v3:Int) (v4:S):Option (Int×S) :=
 if decide (v3<(a0.length:Int))=true then
  Option.bind (idx a0 v3) fun x6 =>
  Option.bind (aF x6 v4) fun r7 =>
  if r7.1=true then
   some (v3,r7.2)
  else
   rec1 (w64 (v3+1)) r7.2
 else
  zcP v4
def zbh {S:Type} (a0:List Int) (aF:Int->S->Option (Bool×S)):Nat->Int->S->Option (Int×S)
 | 0,_,_=>none
 | m+1,v3,v4=>zcs a0 aF (zbh a0 aF m) v3 v4
def zeM {S:Type} (n:Nat) (aF:Int->S->Option (Bool×S)) (a0:List Int) (st:S):Option (Int×S) :=
 zbh a0 aF n 0 st
def zcQ {S:Type} (n:Nat) (aF:Int->S->Option (Bool×S)) (a0:List Int) (st:S):Option (Bool×S) :=
 Option.bind (zeM n aF a0 st) fun r1 =>
 some (decide (r1.1≥0),r1.2)
def zdE (a0:Train_) (a1:Int):Option (Bool) :=
 Option.bind (zcr a1 0 (w64 ((w64 (a0.Pulse.Letters*a0.Pulse.Numbers))-1))) fun r1 =>
 some r1
def zen (a0:Int) (a1:Train_):Option (Bool) :=
 Option.bind (zdE a1 a0) fun r1 =>
 some (!r1)
def zdg (rec1:Int->Int->(List Int)->Int->Option (Unit×((List Int)×Int))) (a4:Pulse) (v4:Int) (v5:List Int) (v8:Int):Option (Unit×((List Int)×Int)) :=
 Option.bind (app v5 ([v8]:List Int)) fun l9 =>
 rec1 a4.Pitch (w64 (v4+1)) l9 v8
def zdw (a1:Int) (a4:Pulse) (rec1:Int->Int->(List Int)->Int->Option (Unit×((List Int)×Int))) (v3:Int) (v4:Int) (v5:List Int) (v6:Int):Option (Unit×((List Int)×Int)) :=
 if decide (v4<a1)=true then
  if decide ((v5.length:Int)>0)=true then
   zdg rec1 a4 v4 v5 (w64 (v6+v3))
  else
   zdg rec1 a4 v4 v5 v6
 else
  some ((),(v5,v6))
def zbb (a1:Int) (a4:Pulse):Nat->Int->Int->(List Int)->Int->Option (Unit×((List Int)×Int))
 | 0,_,_,_,_=>none
 | m+1,v3,v4,v5,v6=>zdw a1 a4 (zbb a1 a4 m) v3 v4 v5 v6
def zeo (n:Nat) (a0:Int) (a1:Int) (a4:Pulse) (st:(List Int)×Int):Option (Unit×((List Int)×Int)) :=
 zbb a1 a4 n a0 0 st.1 st.2
def zep (v5:List Int) (v7:Bool):Option ((List Int)×Int) :=
 if v7=true then
  some (([]:List Int),131)
 else
  some (v5,0)
def zeq (v5:List Int) (v6:Int):Option ((List Int)×Int) :=
 if decide ((v5.length:Int)>24)=true then
  zep v5 true
 else
  Option.bind (zfm v6) fun r10 =>
  zep v5 (!r10)
def zeH (n:Nat) (a0:Pulse) (a1:List Int) (rec1:Int->(List Int)->Int->Option ((List Int)×Int)) (v12:Int) (v13:List Int) (v14:Int):Option ((List Int)×Int) :=
 if decide (v12<(a1.length:Int))=true then
  Option.bind (idx a1 v12) fun x16 =>
  Option.bind (quo x16 a0.Numbers) fun q17 =>
  Option.bind (zeo n a0.Pause (w64 (q17+1)) a0 (v13,v14)) fun r18 =>
  Option.bind (rem x16 a0.Numbers) fun q19 =>
  Option.bind (zeo n a0.Gap (w64 (q19+1)) a0 (r18.2.1,r18.2.2)) fun r20 =>
  rec1 (w64 (v12+1)) r20.2.1 r20.2.2
 else
  zeq v13 v14
def zcy (n:Nat) (a0:Pulse) (a1:List Int):Nat->Int->(List Int)->Int->Option ((List Int)×Int)
 | 0,_,_,_=>none
 | m+1,v12,v13,v14=>zeH n a0 a1 (zcy n a0 a1 m) v12 v13 v14
def zdF (n:Nat) (a0:Pulse) (a1:List Int) (a2:Int) (v3:Bool):Option ((List Int)×Int) :=
 if v3=true then
  some (([]:List Int),1)
 else
  zcy n a0 a1 n 0 ([]:List Int) a2
def zhf (n:Nat) (a0:Pulse) (a1:List Int) (a2:Int):Option ((List Int)×Int) :=
 Option.bind (zf3 n a0) fun r1 =>
 if (r1 != 0)=true then
  some (([]:List Int),r1)
 else
  if decide ((a1.length:Int)>24)=true then
   zdF n a0 a1 a2 true
  else
   Option.bind (zfm a2) fun r22 =>
   if (!r22)=true then
    zdF n a0 a1 a2 true
   else
    Option.bind (zcQ n (fun (x0:Int) (_:Unit)=>(zen x0 (⟨a0⟩:Train_)).map fun y=>(y,())) a1 ()) fun r24 =>
    zdF n a0 a1 a2 r24.1
def zgS (r1:Pulse) (l7:List Int) (v8:Bool):Option (Pulse×Int) :=
 if v8=true then
  some ((⟨r1.Letters,r1.Numbers,r1.Pitch,r1.Slack,r1.Gap,r1.Pause,0,l7⟩:Pulse),(-1))
 else
  some ((⟨r1.Letters,r1.Numbers,r1.Pitch,r1.Slack,r1.Gap,r1.Pause,0,l7⟩:Pulse),1)
def zfI (n:Nat) (a1:List Int) (r1:Pulse) (v2:Bool):Option (Pulse×Int) :=
 if v2=true then
  some ((⟨r1.Letters,r1.Numbers,r1.Pitch,r1.Slack,r1.Gap,r1.Pause,0,([]:List Int)⟩:Pulse),0)
 else
  Option.bind (app ([]:List Int) a1) fun l4 =>
  Option.bind (zhf n (⟨r1.Letters,r1.Numbers,r1.Pitch,r1.Slack,r1.Gap,r1.Pause,0,([]:List Int)⟩:Pulse) l4 0) fun r5 =>
  if (r5.2==131)=true then
   some ((⟨r1.Letters,r1.Numbers,r1.Pitch,r1.Slack,r1.Gap,r1.Pause,0,([]:List Int)⟩:Pulse),0)
  else
   Option.bind (app ([]:List Int) r5.1) fun l7 =>
   if (r5.2 != 0)=true then
    zgS r1 l7 true
   else
    if decide ((r5.1.length:Int)>24)=true then
     zgS r1 l7 true
    else
     Option.bind (zgR n (⟨r1.Letters,r1.Numbers,r1.Pitch,r1.Slack,r1.Gap,r1.Pause,0,l7⟩:Pulse)) fun r12 =>
     zgS r1 l7 (r12 != 0)
def zkC (n:Nat) (a0:Pulse) (a1:List Int):Option (Pulse×Int) :=
 Option.bind (ziH a0) fun r1 =>
 Option.bind (zgR n (⟨r1.Letters,r1.Numbers,r1.Pitch,r1.Slack,r1.Gap,r1.Pause,0,([]:List Int)⟩:Pulse)) fun r13 =>
 if (r13 != 0)=true then
  zfI n a1 r1 true
 else
  Option.bind (zij n (⟨r1.Letters,r1.Numbers,r1.Pitch,r1.Slack,r1.Gap,r1.Pause,0,([]:List Int)⟩:Pulse) a1) fun r15 =>
  zfI n a1 r1 (!r15)
def zer (v1:Bool):Option (Bool) :=
 some v1
def zdh (a0:Int) (a1:Int) (a2:Int):Option (Bool) :=
 if decide (a1<=a0)=true then
  zer (decide (a0<=a2))
 else
  zer false
def zda (v1:Bool):Option (Bool) :=
 some v1
def zdi (a0:Wire) (a1:Int) (a2:Int):Option (Bool) :=
 Option.bind (zdh a1 0 (w64 (a0.Letters-1))) fun r2 =>
 if r2=true then
  Option.bind (zdh a2 0 (w64 (a0.Numbers-1))) fun r4 =>
  zda r4
 else
  zda false
def zdG (v1:Bool):Option (Bool) :=
 some v1
def zdZ (a0:WirePress) (a1:Wire):Option (Bool) :=
 Option.bind (zdi a1 a0.Letter a0.Number) fun r2 =>
 if (!r2)=true then
  zdG true
 else
  Option.bind (zdh a0.Got (-1) (w64 ((w64 (a1.Letters*a1.Numbers))-1))) fun r4 =>
  zdG (!r4)
def zbu {S:Type} (v1:S):Option (Int×S) :=
 some ((-1),v1)
def zbl {S:Type} (a0:List WirePress) (aF:WirePress->S->Option (Bool×S)) (rec1:Int->S->Option (Int×S)) (v3:Int) (v4:S):Option (Int×S) :=
 if decide (v3<(a0.length:Int))=true then
  Option.bind (idx a0 v3) fun x6 =>
  Option.bind (aF x6 v4) fun r7 =>
  if r7.1=true then
   some (v3,r7.2)
  else
   rec1 (w64 (v3+1)) r7.2
 else
  zbu v4
def zay {S:Type} (a0:List WirePress) (aF:WirePress->S->Option (Bool×S)):Nat->Int->S->Option (Int×S)
 | 0,_,_=>none
 | m+1,v3,v4=>zbl a0 aF (zay a0 aF m) v3 v4
def zcJ {S:Type} (n:Nat) (aF:WirePress->S->Option (Bool×S)) (a0:List WirePress) (st:S):Option (Int×S) :=
 zay a0 aF n 0 st
def za6 {S:Type} (n:Nat) (aF:WirePress->S->Option (Bool×S)) (a0:List WirePress) (st:S):Option (Bool×S) :=
 Option.bind (zcJ n aF a0 st) fun r1 =>
 some (decide (r1.1≥0),r1.2)
def zbA (v1:Bool):Option (Int) :=
 if v1=true then
  some 110
 else
  some 0
def zfJ (n:Nat) (a0:Wire):Option (Int) :=
 Option.bind (zdh a0.Letters 1 5) fun r3 =>
 if (!r3)=true then
  zbA true
 else
  Option.bind (zdh a0.Numbers 1 5) fun r5 =>
  if (!r5)=true then
   zbA true
  else
   Option.bind (zdh a0.Faults 0 3) fun r7 =>
   if (!r7)=true then
    zbA true
   else
    if decide ((a0.Presses.length:Int)>8)=true then
     zbA true
    else
     Option.bind (za6 n (fun (x0:WirePress) (_:Unit)=>(zdZ x0 a0).map fun y=>(y,())) a0.Presses ()) fun r10 =>
     zbA r10.1
def zhQ (a0:Wire) (v1:List WireFault):Option ((Option Wiring_)) :=
 some (some (⟨a0,v1⟩:Wiring_))
def zhR (rec1:Int->(List WireFault)->Option ((Option Wiring_))) (v3:Int) (v6:List WireFault):Option ((Option Wiring_)) :=
 rec1 (w64 (v3+1)) v6
def zgq (rec2:Int->(List WireFault)->Option ((Option Wiring_))) (v10:Int) (v13:List WireFault):Option ((Option Wiring_)) :=
 rec2 (w64 (v10+1)) v13
def zik (rec2:Int->(List WireFault)->Option ((Option Wiring_))) (x7:Int) (v8:Int) (v10:Int) (rec3:Int->(List WireFault)->Option ((Option Wiring_))) (v18:Int) (v19:List WireFault):Option ((Option Wiring_)) :=
 if decide (v18<v8)=true then
  Option.bind (app v19 ([(⟨x7,v10,v18⟩:WireFault)]:List WireFault)) fun l21 =>
  rec3 (w64 (v18+1)) l21
 else
  zgq rec2 v10 v19
def zgr (rec2:Int->(List WireFault)->Option ((Option Wiring_))) (x7:Int) (v8:Int) (v10:Int):Nat->Int->(List WireFault)->Option ((Option Wiring_))
 | 0,_,_=>none
 | m+1,v18,v19=>zik rec2 x7 v8 v10 (zgr rec2 x7 v8 v10 m) v18 v19
def zgs (n:Nat) (rec2:Int->(List WireFault)->Option ((Option Wiring_))) (x7:Int) (v8:Int) (v10:Int) (v11:List WireFault) (v14:Bool):Option ((Option Wiring_)) :=
 if v14=true then
  Option.bind (app v11 ([(⟨x7,v10,0⟩:WireFault)]:List WireFault)) fun l16 =>
  zgq rec2 v10 l16
 else
  zgr rec2 x7 v8 v10 n (w64 (v10+1)) v11
def zil (n:Nat) (rec1:Int->(List WireFault)->Option ((Option Wiring_))) (v3:Int) (x7:Int) (v8:Int) (rec2:Int->(List WireFault)->Option ((Option Wiring_))) (v10:Int) (v11:List WireFault):Option ((Option Wiring_)) :=
 if decide (v10<v8)=true then
  if (x7==1)=true then
   zgs n rec2 x7 v8 v10 v11 true
  else
   zgs n rec2 x7 v8 v10 v11 (x7==2)
 else
  zhR rec1 v3 v11
def zcb (n:Nat) (rec1:Int->(List WireFault)->Option ((Option Wiring_))) (v3:Int) (x7:Int) (v8:Int):Nat->Int->(List WireFault)->Option ((Option Wiring_))
 | 0,_,_=>none
 | m+1,v10,v11=>zil n rec1 v3 x7 v8 (zcb n rec1 v3 x7 v8 m) v10 v11
def zgt (n:Nat) (rec1:Int->(List WireFault)->Option ((Option Wiring_))) (v3:Int) (v4:List WireFault) (x7:Int) (v8:Int):Option ((Option Wiring_)) :=
 zcb n rec1 v3 x7 v8 n 0 v4
def zgu (n:Nat) (rec1:Int->(List WireFault)->Option ((Option Wiring_))) (a0:Wire) (v3:Int) (v4:List WireFault) (x7:Int) (v23:Bool):Option ((Option Wiring_)) :=
 if v23=true then
  zgt n rec1 v3 v4 x7 a0.Numbers
 else
  zgt n rec1 v3 v4 x7 a0.Letters
def zim (n:Nat) (a0:Wire) (rec1:Int->(List WireFault)->Option ((Option Wiring_))) (v3:Int) (v4:List WireFault):Option ((Option Wiring_)) :=
 if decide (v3<4)=true then
  Option.bind (idx ([1,2,3,4]:List Int) v3) fun x7 =>
  if (x7==2)=true then
   zgu n rec1 a0 v3 v4 x7 true
  else
   zgu n rec1 a0 v3 v4 x7 (x7==4)
 else
  zhQ a0 v4
def zaS (n:Nat) (a0:Wire):Nat->Int->(List WireFault)->Option ((Option Wiring_))
 | 0,_,_=>none
 | m+1,v3,v4=>zim n a0 (zaS n a0 m) v3 v4
def zhC (n:Nat) (a0:Wire):Option ((Option Wiring_)) :=
 zaS n a0 n 0 ([]:List WireFault)
def zb1:Option (Int) :=
 some (-1)
def zbL (a0:List WireFault) (a1:WireFault) (rec1:Int->Option (Int)) (v1:Int):Option (Int) :=
 if decide (v1<(a0.length:Int))=true then
  Option.bind (idx a0 v1) fun x3 =>
  if ((a1.Kind==x3.Kind)&&((a1.A==x3.A)&&((a1.B==x3.B)&&true)))=true then
   some v1
  else
   rec1 (w64 (v1+1))
 else
  zb1
def zaV (a0:List WireFault) (a1:WireFault):Nat->Int->Option (Int)
 | 0,_=>none
 | m+1,v1=>zbL a0 a1 (zaV a0 a1 m) v1
def zbS (n:Nat) (a0:List WireFault) (a1:WireFault):Option (Int) :=
 zaV a0 a1 n 0
def zb2 (n:Nat) (a0:List WireFault) (a1:WireFault):Option (Bool) :=
 Option.bind (zbS n a0 a1) fun r1 =>
 some (decide (r1≥0))
def zgv:Option (Int) :=
 some 0
def zfn (a0:List Int) (rec1:Int->Option (Int)) (v1:Int):Option (Int) :=
 if decide (v1<(a0.length:Int))=true then
  Option.bind (idx a0 v1) fun x3 =>
  if (x3 != 0)=true then
   some x3
  else
   rec1 (w64 (v1+1))
 else
  zgv
def zdQ (a0:List Int):Nat->Int->Option (Int)
 | 0,_=>none
 | m+1,v1=>zfn a0 (zdQ a0 m) v1
def ziI (n:Nat) (a0:List Int):Option (Int) :=
 zdQ a0 n 0
def cmp_isNaN_int (a0:Int):Option (Bool) :=
 some (a0 != a0)
def cmp_Compare_int (a0:Int) (a1:Int):Option (Int) :=
 Option.bind (cmp_isNaN_int a0) fun r1 =>
 Option.bind (cmp_isNaN_int a1) fun r2 =>
 if r1=true then
  if r2=true then
   some 0
  else
   some (-1)
 else
  if r2=true then
   some 1
  else
   if decide (a0<a1)=true then
    some (-1)
   else
    if decide (a0>a1)=true then
     some 1
    else
     some 0
def zhS (n:Nat) (a0:WireFault) (a1:WireFault):Option (Int) :=
 Option.bind (cmp_Compare_int a0.Kind a1.Kind) fun r1 =>
 Option.bind (cmp_Compare_int a0.A a1.A) fun r2 =>
 Option.bind (cmp_Compare_int a0.B a1.B) fun r3 =>
 Option.bind (ziI n ([r1,r2,r3]:List Int)) fun r4 =>
 some r4
def zbv {S:Type} (v1:S):Option (Int×S) :=
 some ((-1),v1)
def zbm {S:Type} (a0:List WireFault) (aF:WireFault->S->Option (Bool×S)) (rec1:Int->S->Option (Int×S)) (v3:Int) (v4:S):Option (Int×S) :=
 if decide (v3<(a0.length:Int))=true then
  Option.bind (idx a0 v3) fun x6 =>
  Option.bind (aF x6 v4) fun r7 =>
  if r7.1=true then
   some (v3,r7.2)
  else
   rec1 (w64 (v3+1)) r7.2
 else
  zbv v4
def zaz {S:Type} (a0:List WireFault) (aF:WireFault->S->Option (Bool×S)):Nat->Int->S->Option (Int×S)
 | 0,_,_=>none
 | m+1,v3,v4=>zbm a0 aF (zaz a0 aF m) v3 v4
def zcK {S:Type} (n:Nat) (aF:WireFault->S->Option (Bool×S)) (a0:List WireFault) (st:S):Option (Int×S) :=
 zaz a0 aF n 0 st
def zaN {S:Type} (n:Nat) (aF:WireFault->S->Option (Bool×S)) (a0:List WireFault) (st:S):Option (Bool×S) :=
 Option.bind (zcK n aF a0 st) fun r1 =>
 some (decide (r1.1≥0),r1.2)
def zct (v1:Bool):Option (Bool) :=
 some v1
def zgT (a0:WireFault) (a1:WireFault):Option (Bool) :=
 if (a0.Kind==a1.Kind)=true then
  if decide (a0.Kind≥3)=true then
   if (a0.A==a1.A)=true then
    zct true
   else
    if (a0.A==a1.B)=true then
     zct true
    else
     if (a0.B==a1.A)=true then
      zct true
     else
      zct (a0.B==a1.B)
  else
   zct false
 else
  zct false
def zbf (a0:WireFault) (a1:WireFault):Option (Bool) :=
 Option.bind (zgT a1 a0) fun r1 =>
 some r1
def zdj:Option (Bool) :=
 some true
def zby (rec1:Int->Option (Bool)) (v1:Int) (v4:Bool):Option (Bool) :=
 if v4=true then
  some false
 else
  rec1 (w64 (v1+1))
def zcR (n:Nat) (a0:Option Wiring_) (a1:List WireFault) (rec1:Int->Option (Bool)) (v1:Int):Option (Bool) :=
 if decide (v1<(a1.length:Int))=true then
  Option.bind (idx a1 v1) fun x3 =>
  Option.bind (a0) fun x6 =>
  Option.bind (zb2 n x6.all x3) fun r7 =>
  if (!r7)=true then
   zby rec1 v1 true
  else
   if decide (v1>0)=true then
    Option.bind (idx a1 (w64 (v1-1))) fun x10 =>
    Option.bind (zhS n x10 x3) fun r11 =>
    if decide (r11≥0)=true then
     zby rec1 v1 true
    else
     Option.bind (cut a1 0 v1) fun c13 =>
     Option.bind (zaN n (fun (x0:WireFault) (_:Unit)=>(zbf x0 x3).map fun y=>(y,())) c13 ()) fun r14 =>
     zby rec1 v1 r14.1
   else
    Option.bind (cut a1 0 v1) fun c15 =>
    Option.bind (zaN n (fun (x0:WireFault) (_:Unit)=>(zbf x0 x3).map fun y=>(y,())) c15 ()) fun r16 =>
    zby rec1 v1 r16.1
 else
  zdj
def za3 (n:Nat) (a0:Option Wiring_) (a1:List WireFault):Nat->Int->Option (Bool)
 | 0,_=>none
 | m+1,v1=>zcR n a0 a1 (za3 n a0 a1 m) v1
def zdk (n:Nat) (a0:Option Wiring_) (a1:List WireFault):Option (Bool) :=
 za3 n a0 a1 n 0
def zcz (a0:Option Wiring_) (x1:Int) (x2:Int) (v3:Bool):Option (Int) :=
 if v3=true then
  some (-1)
 else
  Option.bind (a0) fun x5 =>
  some (w64 ((w64 (x1*x5.Wire.Numbers))+x2))
def zcH (a0:Option Wiring_) (a1:Panel_) (a2:Int) (a3:Int):Option (Int) :=
 Option.bind (idx ([a1.letters.c0,a1.letters.c1,a1.letters.c2,a1.letters.c3,a1.letters.c4]:List Int) a2) fun x1 =>
 Option.bind (idx ([a1.numbers.c0,a1.numbers.c1,a1.numbers.c2,a1.numbers.c3,a1.numbers.c4]:List Int) a3) fun x2 =>
 if decide (x1<0)=true then
  zcz a0 x1 x2 true
 else
  zcz a0 x1 x2 (decide (x2<0))
def zdl (xs:List Int) (off:Nat) (a1:WireFault):Option (List Int) :=
 if (0<=a1.A/\a1.A<5)/\(0<=a1.B/\a1.B<5)/\off+5<=xs.length then some ((xs.set (off+a1.A.toNat) a1.B).set (off+a1.B.toNat) a1.A) else none
def zgw (v21:Int) (v22:Int) (v23:Int) (v24:Int) (v25:Int) (v26:Int) (v27:Int) (v28:Int) (v29:Int) (v30:Int):Option (Panel_) :=
 some (⟨(⟨v21,v22,v23,v24,v25⟩:Keys_),(⟨v26,v27,v28,v29,v30⟩:Keys_)⟩:Panel_)
def zdm (rec1:Int->Int->Int->Int->Int->Int->Int->Int->Int->Int->Int->Option (Panel_)) (v32:Int) (v44:Int) (v45:Int) (v46:Int) (v47:Int) (v48:Int) (v49:Int) (v50:Int) (v51:Int) (v52:Int) (v53:Int):Option (Panel_) :=
 rec1 (w64 (v32+1)) v44 v45 v46 v47 v48 v49 v50 v51 v52 v53
def zfo (a0:List WireFault) (rec1:Int->Int->Int->Int->Int->Int->Int->Int->Int->Int->Int->Option (Panel_)) (v32:Int) (v33:Int) (v34:Int) (v35:Int) (v36:Int) (v37:Int) (v38:Int) (v39:Int) (v40:Int) (v41:Int) (v42:Int):Option (Panel_) :=
 if decide (v32<(a0.length:Int))=true then
  Option.bind (idx a0 v32) fun x54 =>
  if (x54.Kind==1)=true then
   Option.bind (idx ([v33,v34,v35,v36,v37]:List Int) x54.A) fun x56 =>
   Option.bind (zt7 ([v33,v34,v35,v36,v37]:List Int) x54.A (-1)) fun l57 =>
   zdm rec1 v32 (l57.getD 0 0) (l57.getD 1 0) (l57.getD 2 0) (l57.getD 3 0) (l57.getD 4 0) v38 v39 v40 v41 v42
  else
   if (x54.Kind==2)=true then
    Option.bind (idx ([v38,v39,v40,v41,v42]:List Int) x54.A) fun x59 =>
    Option.bind (zt7 ([v38,v39,v40,v41,v42]:List Int) x54.A (-1)) fun l60 =>
    zdm rec1 v32 v33 v34 v35 v36 v37 (l60.getD 0 0) (l60.getD 1 0) (l60.getD 2 0) (l60.getD 3 0) (l60.getD 4 0)
   else
    zdm rec1 v32 v33 v34 v35 v36 v37 v38 v39 v40 v41 v42
 else
  zgw v33 v34 v35 v36 v37 v38 v39 v40 v41 v42
def zcS (a0:List WireFault):Nat->Int->Int->Int->Int->Int->Int->Int->Int->Int->Int->Int->Option (Panel_)
 | 0,_,_,_,_,_,_,_,_,_,_,_=>none
 | m+1,v32,v33,v34,v35,v36,v37,v38,v39,v40,v41,v42=>zfo a0 (zcS a0 m) v32 v33 v34 v35 v36 v37 v38 v39 v40 v41 v42
def zfp (n:Nat) (a0:List WireFault) (v11:Int) (v12:Int) (v13:Int) (v14:Int) (v15:Int) (v16:Int) (v17:Int) (v18:Int) (v19:Int) (v20:Int):Option (Panel_) :=
 zcS a0 n 0 v11 v12 v13 v14 v15 v16 v17 v18 v19 v20
def zdn (rec2:Int->Int->Int->Int->Int->Int->Int->Int->Int->Int->Int->Option (Panel_)) (v62:Int) (v74:Int) (v75:Int) (v76:Int) (v77:Int) (v78:Int) (v79:Int) (v80:Int) (v81:Int) (v82:Int) (v83:Int):Option (Panel_) :=
 rec2 (w64 (v62+1)) v74 v75 v76 v77 v78 v79 v80 v81 v82 v83
def zfq (n:Nat) (a0:List WireFault) (rec2:Int->Int->Int->Int->Int->Int->Int->Int->Int->Int->Int->Option (Panel_)) (v62:Int) (v63:Int) (v64:Int) (v65:Int) (v66:Int) (v67:Int) (v68:Int) (v69:Int) (v70:Int) (v71:Int) (v72:Int):Option (Panel_) :=
 if decide (v62<(a0.length:Int))=true then
  Option.bind (idx a0 v62) fun x84 =>
  if (x84.Kind==3)=true then
   Option.bind (zdl ([v63,v64,v65,v66,v67,v68,v69,v70,v71,v72]:List Int) 0 x84) fun l86 =>
   zdn rec2 v62 (l86.getD 0 0) (l86.getD 1 0) (l86.getD 2 0) (l86.getD 3 0) (l86.getD 4 0) (l86.getD 5 0) (l86.getD 6 0) (l86.getD 7 0) (l86.getD 8 0) (l86.getD 9 0)
  else
   if (x84.Kind==4)=true then
    Option.bind (zdl ([v63,v64,v65,v66,v67,v68,v69,v70,v71,v72]:List Int) 5 x84) fun l88 =>
    zdn rec2 v62 (l88.getD 0 0) (l88.getD 1 0) (l88.getD 2 0) (l88.getD 3 0) (l88.getD 4 0) (l88.getD 5 0) (l88.getD 6 0) (l88.getD 7 0) (l88.getD 8 0) (l88.getD 9 0)
   else
    zdn rec2 v62 v63 v64 v65 v66 v67 v68 v69 v70 v71 v72
 else
  zfp n a0 v63 v64 v65 v66 v67 v68 v69 v70 v71 v72
def zcT (n:Nat) (a0:List WireFault):Nat->Int->Int->Int->Int->Int->Int->Int->Int->Int->Int->Int->Option (Panel_)
 | 0,_,_,_,_,_,_,_,_,_,_,_=>none
 | m+1,v62,v63,v64,v65,v66,v67,v68,v69,v70,v71,v72=>zfq n a0 (zcT n a0 m) v62 v63 v64 v65 v66 v67 v68 v69 v70 v71 v72
def zeI (n:Nat) (a0:List WireFault) (v1:Int) (v2:Int) (v3:Int) (v4:Int) (v5:Int) (v6:Int) (v7:Int) (v8:Int) (v9:Int) (v10:Int):Option (Panel_) :=
 zcT n a0 n 0 v1 v2 v3 v4 v5 v6 v7 v8 v9 v10
def zin (n:Nat) (a0:List WireFault) (rec3:Int->Int->Int->Int->Int->Int->Int->Int->Int->Int->Int->Option (Panel_)) (v90:Int) (v91:Int) (v92:Int) (v93:Int) (v94:Int) (v95:Int) (v96:Int) (v97:Int) (v98:Int) (v99:Int) (v100:Int):Option (Panel_) :=
 if decide (v90<5)=true then
  Option.bind (idx ([v91,v92,v93,v94,v95]:List Int) v90) fun x102 =>
  Option.bind (zt7 ([v91,v92,v93,v94,v95]:List Int) v90 v90) fun l103 =>
  Option.bind (idx ([v96,v97,v98,v99,v100]:List Int) v90) fun x104 =>
  Option.bind (zt7 ([v96,v97,v98,v99,v100]:List Int) v90 v90) fun l105 =>
  rec3 (w64 (v90+1)) (l103.getD 0 0) (l103.getD 1 0) (l103.getD 2 0) (l103.getD 3 0) (l103.getD 4 0) (l105.getD 0 0) (l105.getD 1 0) (l105.getD 2 0) (l105.getD 3 0) (l105.getD 4 0)
 else
  zeI n a0 v91 v92 v93 v94 v95 v96 v97 v98 v99 v100
def zgx (n:Nat) (a0:List WireFault):Nat->Int->Int->Int->Int->Int->Int->Int->Int->Int->Int->Int->Option (Panel_)
 | 0,_,_,_,_,_,_,_,_,_,_,_=>none
 | m+1,v90,v91,v92,v93,v94,v95,v96,v97,v98,v99,v100=>zin n a0 (zgx n a0 m) v90 v91 v92 v93 v94 v95 v96 v97 v98 v99 v100
def zgB (n:Nat) (a0:List WireFault):Option (Panel_) :=
 zgx n a0 n 0 0 0 0 0 0 0 0 0 0 0
def zd0 (n:Nat) (a1:List WireFault) (a2:Int) (a3:Int) (r3:(Option Wiring_)) (v4:Bool):Option (Int×Int) :=
 if v4=true then
  some (0,1)
 else
  Option.bind (zgB n a1) fun r6 =>
  Option.bind (zcH r3 r6 a2 a3) fun r7 =>
  some (r7,0)
def zfK (n:Nat) (a0:Wire) (a1:List WireFault) (a2:Int) (a3:Int):Option (Int×Int) :=
 Option.bind (zfJ n a0) fun r1 =>
 if (r1 != 0)=true then
  some (0,r1)
 else
  Option.bind (zhC n a0) fun r3 =>
  Option.bind (zdk n r3 a1) fun r8 =>
  if (!r8)=true then
   zd0 n a1 a2 a3 r3 true
  else
   Option.bind (zdi a0 a2 a3) fun r10 =>
   zd0 n a1 a2 a3 r3 (!r10)
def zbZ (a0:WirePress) (a1:Option Wiring_) (a2:Panel_):Option (Bool) :=
 Option.bind (zcH a1 a2 a0.Letter a0.Number) fun r1 =>
 some (r1 != a0.Got)
def zcA (n:Nat) (a0:Option Wiring_) (a1:List WireFault) (a2:List WirePress):Option (Bool) :=
 Option.bind (zgB n a1) fun r1 =>
 Option.bind (za6 n (fun (x0:WirePress) (_:Unit)=>(zbZ x0 a0 r1).map fun y=>(y,())) a2 ()) fun r2 =>
 some (!r2.1)
def zfW (n:Nat) (a0:Wire) (a1:List WireFault):Option (Bool×Int) :=
 Option.bind (zfJ n a0) fun r1 =>
 if (r1 != 0)=true then
  some (false,r1)
 else
  Option.bind (zhC n a0) fun r3 =>
  Option.bind (zdk n r3 a1) fun r4 =>
  if (!r4)=true then
   some (false,1)
  else
   Option.bind (zcA n r3 a1 a0.Presses) fun r6 =>
   some (r6,0)
def zdU (a0:Train_):Option (Wire) :=
 some (⟨a0.Pulse.Letters,a0.Pulse.Numbers,([]:List WirePress),0⟩:Wire)
def zdH (n:Nat) (a0:Train_) (a1:List WireFault):Option (Bool) :=
 Option.bind (zdU a0) fun r1 =>
 Option.bind (zfW n r1 a1) fun r2 =>
 some (r2.2==0)
def zfr (r3:(List Int)×Int) (v6:List Int):Option ((List Int)×Int) :=
 Option.bind (zwA r3.1.length v6) fun x7 =>
 some (v6,0)
def zeJ (n:Nat) (a0:Pulse) (a1:List WireFault) (r3:(List Int)×Int) (rec1:Int->(List Int)->Option ((List Int)×Int)) (v9:Int) (v10:List Int):Option ((List Int)×Int) :=
 if decide (v9<(r3.1.length:Int))=true then
  Option.bind (ztP r3.1.length v10 v9) fun x12 =>
  Option.bind (zdU (⟨a0⟩:Train_)) fun r13 =>
  Option.bind (quo x12 a0.Numbers) fun q14 =>
  Option.bind (rem x12 a0.Numbers) fun q15 =>
  Option.bind (zfK n r13 a1 q14 q15) fun r16 =>
  Option.bind (ztP r3.1.length v10 v9) fun x17 =>
  rec1 (w64 (v9+1)) (v10.set (Int.toNat v9) r16.1)
 else
  zfr r3 v10
def zcZ (n:Nat) (a0:Pulse) (a1:List WireFault) (r3:(List Int)×Int):Nat->Int->(List Int)->Option ((List Int)×Int)
 | 0,_,_=>none
 | m+1,v9,v10=>zeJ n a0 a1 r3 (zcZ n a0 a1 r3 m) v9 v10
def zhg (n:Nat) (a0:Pulse) (a1:List WireFault):Option ((List Int)×Int) :=
 Option.bind (zgO n (fun (x0:Train_) (_:Unit)=>(zdH n x0 a1).map fun y=>(y,())) a0 ()) fun r1 =>
 if (r1.1.2 != 0)=true then
  some (([]:List Int),r1.1.2)
 else
  Option.bind (zfF n r1.1.1) fun r3 =>
  if (r3.2 != 0)=true then
   some (([]:List Int),r3.2)
  else
   if (r3.1.length==0)=true then
    some (([]:List Int),0)
   else
    zcZ n a0 a1 r3 n 0 r3.1
def zcN (a0:WireFault) (a1:WireFault):Option (Bool) :=
 Option.bind (zgT a1 a0) fun r1 =>
 some r1
def zdx {S:Type} (v4:S):Option (Bool×S) :=
 some (true,v4)
def zcg {S:Type} (rec1:Int->S->Option (Bool×S)) (v6:Int) (v10:S):Option (Bool×S) :=
 rec1 (w64 (v6+1)) v10
def zc5 {S:Type} (n:Nat) (rec:(Option Wiring_)->(List WireFault)->Int->Int->S->Option (Bool×S)) (a0:Option Wiring_) (a1:List WireFault) (a3:Int) (rec1:Int->S->Option (Bool×S)) (v6:Int) (v7:S):Option (Bool×S) :=
 Option.bind (a0) fun x8 =>
 if decide (v6<(x8.all.length:Int))=true then
  Option.bind (a0) fun x11 =>
  Option.bind (idx x11.all v6) fun x12 =>
  Option.bind (zaN n (fun (x0:WireFault) (_:Unit)=>(zcN x0 x12).map fun y=>(y,())) a1 ()) fun r13 =>
  if r13.1=true then
   zcg rec1 v6 v7
  else
   Option.bind (cut a1 0 (a1.length:Int)) fun c15 =>
   Option.bind (app c15 ([x12]:List WireFault)) fun l16 =>
   Option.bind (rec a0 l16 (w64 (v6+1)) (w64 (a3-1)) v7) fun r17 =>
   if (!r17.1)=true then
    some (false,r17.2)
   else
    zcg rec1 v6 r17.2
 else
  zdx v7
def za0 {S:Type} (n:Nat) (rec:(Option Wiring_)->(List WireFault)->Int->Int->S->Option (Bool×S)) (a0:Option Wiring_) (a1:List WireFault) (a3:Int):Nat->Int->S->Option (Bool×S)
 | 0,_,_=>none
 | m+1,v6,v7=>zc5 n rec a0 a1 a3 (za0 n rec a0 a1 a3 m) v6 v7
def zdR {S:Type} (n:Nat) (rec:(Option Wiring_)->(List WireFault)->Int->Int->S->Option (Bool×S)) (aF:(List WireFault)->S->Option (Bool×S)) (a0:Option Wiring_) (a1:List WireFault) (a2:Int) (a3:Int) (st:S):Option (Bool×S) :=
 Option.bind (aF a1 st) fun r1 =>
 if (!r1.1)=true then
  some (false,r1.2)
 else
  if (a3==0)=true then
   some (true,r1.2)
  else
   za0 n rec a0 a1 a3 n a2 r1.2
def zbE {S:Type}:Nat->((List WireFault)->S->Option (Bool×S))->(Option Wiring_)->(List WireFault)->Int->Int->S->Option (Bool×S)
 | 0,_,_,_,_,_,_=>none
 | n+1,aF,a0,a1,a2,a3,st=>zdR n (zbE n aF) aF a0 a1 a2 a3 st
def za9 {S:Type} (v1:Bool) (v2:S):Option (Bool×S) :=
 some (v1,v2)
def zbq {S:Type} (n:Nat) (aF:(List WireFault)->S->Option (Bool×S)) (a0:List WireFault) (a1:Option Wiring_) (a2:List WirePress) (st:S):Option (Bool×S) :=
 Option.bind (zcA n a1 a0 a2) fun r3 =>
 if (!r3)=true then
  za9 true st
 else
  Option.bind (aF a0 st) fun r5 =>
  za9 r5.1 r5.2
def zcu {S:Type} (n:Nat) (aF:(List WireFault)->S->Option (Bool×S)) (a1:Option Wiring_) (a2:Int) (a3:List WirePress) (st:S):Option (Unit×S) :=
 Option.bind (zbE n (fun (x0:List WireFault) s=>zbq n aF x0 a1 a3 s) a1 ([]:List WireFault) 0 a2 st) fun r1 =>
 some ((),r1.2)
def zd4 (n:Nat) (a0:Option Wiring_) (a1:List WirePress) (a2:Int):Option (((Option Wiring_)×Int×(List WirePress))) :=
 some (a0,a2,a1)
def zc0 {S:Type} (n:Nat) (aF:(List WireFault)->S->Option (Bool×S)) (a0:Option Wiring_) (st:S):Option (Unit×S) :=
 Option.bind (a0) fun x1 =>
 Option.bind (a0) fun x2 =>
 Option.bind (zd4 n a0 x1.Wire.Presses x2.Wire.Faults) fun r3 =>
 Option.bind (zcu n aF r3.1 r3.2.1 r3.2.2 st) fun r4 =>
 some ((),r4.2)
def zhh (r4:(Option Wiring_)) (y1:List WireFault) (s:(Option Wiring_)×Bool):Option (Bool×((Option Wiring_)×Bool)) :=
 if s.2=true then
  none
 else
  some (false,(r4,true))
def zjq (n:Nat) (a0:Wire) (a1:Bool):Option ((Option Wiring_)×Int) :=
 Option.bind (zfJ n a0) fun r1 =>
 if (r1 != 0)=true then
  some ((none:Option Wiring_),r1)
 else
  if (!a1)=true then
   some ((none:Option Wiring_),1)
  else
   Option.bind (zhC n a0) fun r4 =>
   Option.bind (zc0 n (zhh r4) r4 ((none:Option Wiring_),false)) fun r6 =>
   if r6.2.2=true then
    some (r6.2.1,0)
   else
    some ((none:Option Wiring_),3)
def zcB (n:Nat) (a0:Option Wiring_) (a1:Int) (a2:Int) (y1:List WireFault) (s:(List (Int×Int))):Option (Bool×((List (Int×Int)))) :=
 Option.bind (zgB n y1) fun r2 =>
 Option.bind (zcH a0 r2 a1 a2) fun r3 =>
 Option.bind (zsF okI s r3) fun x4 =>
 Option.bind (zo8 okI s r3 (w64 (x4+1))) fun l5 =>
 some (true,l5)
def zed (n:Nat) (a0:Option Wiring_) (a1:Int) (a2:Int):Option ((List (Int×Int))) :=
 Option.bind (zc0 n (zcB n a0 a1 a2) a0 ([]:List (Int×Int))) fun r6 =>
 some r6.2
def zhT (n:Nat) (a0:Wire) (a1:Int) (a2:Int):Option (List Int×Int) :=
 Option.bind (zdi a0 a1 a2) fun r1 =>
 Option.bind (zjq n a0 r1) fun r2 =>
 if (r2.2 != 0)=true then
  some (([]:List Int),r2.2)
 else
  Option.bind (zed n r2.1 a1 a2) fun r4 =>
  if decide (r4.length<=1048576)=true then
   some (zi3 (r4.map fun p=>p.1),0)
  else
   none
def zhU:Option (Bool) :=
 some false
def zgy (a0:List Int) (a1:Int) (rec1:Int->Option (Bool)) (v1:Int):Option (Bool) :=
 if decide (v1<(a0.length:Int))=true then
  Option.bind (idx a0 v1) fun x3 =>
  if (x3==a1)=true then
   some true
  else
   rec1 (w64 (v1+1))
 else
  zhU
def ze3 (a0:List Int) (a1:Int):Nat->Int->Option (Bool)
 | 0,_=>none
 | m+1,v1=>zgy a0 a1 (ze3 a0 a1 m) v1
def zkD (n:Nat) (a0:List Int) (a1:Int):Option (Bool) :=
 ze3 a0 a1 n 0
def ze1 (v6:Bool):Option (Bool) :=
 some v6
def ze2 (n:Nat):Option (Bool) :=
 Option.bind (zhB n) fun r13 =>
 some r13
def zch (rec1:Int->Option (Bool)) (v14:Int) (v23:Bool):Option (Bool) :=
 if v23=true then
  some false
 else
  rec1 (w64 (v14+1))
def zee (n:Nat) (a1:Dial) (r10:(List Int)×Int) (rec1:Int->Option (Bool)) (v14:Int):Option (Bool) :=
 if decide (v14<(r10.1.length:Int))=true then
  Option.bind (idx a1.List_ v14) fun x16 =>
  Option.bind (quo x16 a1.Wire.Numbers) fun q17 =>
  Option.bind (idx a1.List_ v14) fun x18 =>
  Option.bind (rem x18 a1.Wire.Numbers) fun q19 =>
  Option.bind (app ([]:List WireFault) a1.Faults) fun l20 =>
  Option.bind (zfK n a1.Wire l20 q17 q19) fun r21 =>
  Option.bind (zhT n a1.Wire q17 q19) fun r22 =>
  if (r21.2 != 0)=true then
   zch rec1 v14 true
  else
   if (r22.2 != 0)=true then
    zch rec1 v14 true
   else
    Option.bind (idx r10.1 v14) fun x27 =>
    if (r21.1 != x27)=true then
     zch rec1 v14 true
    else
     if decide ((r22.1.length:Int)>40)=true then
      zch rec1 v14 true
     else
      Option.bind (zkD n r22.1 r21.1) fun r30 =>
      zch rec1 v14 (!r30)
 else
  ze2 n
def zbT (n:Nat) (a1:Dial) (r10:(List Int)×Int):Nat->Int->Option (Bool)
 | 0,_=>none
 | m+1,v14=>zee n a1 r10 (zbT n a1 r10 m) v14
def zdV (n:Nat) (a1:Dial) (r10:(List Int)×Int) (v11:Bool):Option (Bool) :=
 if v11=true then
  some false
 else
  zbT n a1 r10 n 0
def zbk (n:Nat) (a0:Pulse) (a1:Dial) (v1:Bool):Option (Bool) :=
 if v1=true then
  Option.bind (zhB n) fun r3 =>
  some r3
 else
  Option.bind (zkC n (⟨a1.Wire.Letters,a1.Wire.Numbers,a0.Pitch,a0.Slack,a0.Gap,a0.Pause,a0.Sparks,a0.Times⟩:Pulse) a1.List_) fun r4 =>
  if decide (r4.2<1)=true then
   if (r4.2==0)=true then
    Option.bind (zhB n) fun r8 =>
    ze1 r8
   else
    ze1 false
  else
   Option.bind (app ([]:List WireFault) a1.Faults) fun l9 =>
   Option.bind (zhg n r4.1 l9) fun r10 =>
   if (r10.2 != 0)=true then
    zdV n a1 r10 true
   else
    zdV n a1 r10 ((r10.1.length:Int) != (a1.List_.length:Int))
def zhV (n:Nat) (a0:Pulse) (a1:Dial):Option (Bool) :=
 if decide ((a0.Times.length:Int)>40)=true then
  zbk n a0 a1 true
 else
  if decide ((a1.List_.length:Int)>40)=true then
   zbk n a0 a1 true
  else
   if decide ((a1.Faults.length:Int)>40)=true then
    zbk n a0 a1 true
   else
    Option.bind (zjp n a1.Wire) fun r35 =>
    if r35=true then
     zbk n a0 a1 true
    else
     Option.bind (zgK n a1.Wire) fun r37 =>
     if (r37 != 0)=true then
      zbk n a0 a1 true
     else
      Option.bind (zgo n a1.Wire a1.Faults) fun r39 =>
      zbk n a0 a1 (!r39)
end Go.Law
