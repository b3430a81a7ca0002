/-
  Plain lemmas about the words that models are made of.
  Conditions: none.
-/
import Derived.Test.YtchhkifidbkjcaaAmN
set_option linter.all false
namespace Go.AM
open Go
theorem zaT {x:Int} (h1:-9223372036854775808<=x) (h2:x<9223372036854775808):w64 x=x:=by
 have e:w64 x=if x % 18446744073709551616≥9223372036854775808 then x % 18446744073709551616-18446744073709551616 else x % 18446744073709551616:=by
  simp [w64,IntKind.wrap,IntKind.bits,IntKind.signed]
 rw [e]
 split<;>omega
theorem zeq {α:Type} {xs:List α} {i:Nat} (h:i<xs.length):idx xs (i:Int)=some xs[i]:=by
 unfold idx
 rw [if_pos (by omega),Int.toNat_natCast,List.getElem?_eq_getElem h]
theorem zmB {α:Type} (pre:List α) (x:α) (l:List α):idx (pre++x::l) (pre.length:Int)=some x:=by
 unfold idx
 rw [if_pos (by omega),Int.toNat_natCast]
 simp
theorem zpA {α:Type} {xs ys:List α} (h:xs.length+ys.length<=1048576):app xs ys=some (xs++ys):=if_pos h
theorem zr7 {a b:Int} (ha:0<=a) (hb:0<b) (h:a<9223372036854775808):quo a b=some (a / b):=by
 unfold quo
 rw [if_neg (by omega),Int.tdiv_eq_ediv_of_nonneg ha,zaT]
 ·have:=Int.ediv_nonneg ha (Int.le_of_lt hb);omega
 ·have:=Int.ediv_le_self b ha;omega
theorem zwv {a b:Int} (ha:0<=a) (hb:0<b):rem a b=some (a % b):=by
 unfold rem
 rw [if_neg (by omega),Int.tmod_eq_emod_of_nonneg ha]
def inR (n lo hi:Int):Bool:=decide (lo<=n)&&decide (n<=hi)
theorem zci {n lo hi:Int}:inR n lo hi=true↔lo<=n/\n<=hi:=by simp [inR]
end Go.AM
