/-
  Plain laws about the functions of pulses: Lists and Read.
  Conditions: none.
-/
import Derived.Test.YtekplngjaddccaaPuS
set_option linter.all false
namespace Go.Law
open Go Go.AM

theorem good_len {p : Pulse} (hk : p.Sparks.toNat ≤ 3) (hl : p.Times.length ≤ 14) : (goodP p p.Sparks.toNat).length ≤ 13500 := by
  rw [← (good_perm p p.Sparks.toNat).length_eq]
  have h1 := sub_len14 (k := p.Sparks.toNat) (ps := spots p) hk (by simp [spots]; exact hl)
  have h2 : (goodR p p.Sparks.toNat).length ≤ (sub p.Sparks.toNat (spots p)).length := List.length_filter_le _ _
  omega
theorem both_err (p : Pulse) : (knownR p).2 = (openR p).2 := by
  unfold knownR openR
  split
  · split <;> rfl
  · rfl
end Go.Law
