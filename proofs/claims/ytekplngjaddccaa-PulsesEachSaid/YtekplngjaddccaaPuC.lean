/-
  Plain laws about the functions of pulses: writing.
  Conditions: none.
-/
import Derived.Test.YtekplngjaddccaaPuB
set_option linter.all false
namespace Go.Law
open Go Go.AM

/-- Is a number that of a selection. -/
def isSel (p : Pulse) (x : Int) : Bool := inR x 0 (w64 (w64 (p.Letters * p.Numbers) - 1))
/-- Many pulses behind each other: the first one so much later. -/
def adds (pitch : Int) : Nat → Int → List Int → Int → List Int × Int
  | 0, _, out, t => (out, t)
  | k + 1, d, out, t => adds pitch k pitch (out ++ [if out = [] then t else t + d]) (if out = [] then t else t + d)
/-- The pulses of selections. -/
def wr (p : Pulse) : List Int → List Int → Int → List Int × Int
  | [], out, t => (out, t)
  | x :: l, out, t =>
    let s1 := adds p.Pitch (x / p.Numbers + 1).toNat p.Pause out t
    let s2 := adds p.Pitch (x % p.Numbers + 1).toNat p.Gap s1.1 s1.2
    wr p l s2.1 s2.2
end Go.Law
