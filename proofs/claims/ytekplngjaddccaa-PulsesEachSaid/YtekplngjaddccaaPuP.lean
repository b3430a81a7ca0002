/-
  Plain laws about the functions of pulses: known, and Many.
  Conditions: none.
-/
import Derived.Test.YtekplngjaddccaaPuO
set_option linter.all false
namespace Go.Law
open Go Go.AM

theorem sub_len14 {k : Nat} {ps : List Nat} (hk : k ≤ 3) (hp : ps.length ≤ 14) : (sub k ps).length ≤ 13500 := by
  rw [(sub_perm k ps).length_eq]
  refine Nat.le_trans (flat_len 14 3 ps hp (k + 1) (by omega)) ?_
  have h25 : (14 + 1) ^ 3 = 3375 := by decide
  rw [h25]
  omega
end Go.Law
