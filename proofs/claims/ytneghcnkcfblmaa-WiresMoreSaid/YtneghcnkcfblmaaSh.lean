/-
  slices.Sort of a slice of integers, as the library's text stands in this program.
  Conditions: none.
-/
import Derived.Test.YtneghcnkcfblmaaTy
import Derived.Test.YtneghcnkcfblmaaAmSd
import Derived.Test.YtneghcnkcfblmaaAmSf
import Derived.Shelf.Sort.Plain
import Derived.Shelf.Slices.In.SortNone
import Derived.Ground.NamesProg
set_option linter.all false
namespace Go.Proofs.Ytneghcnkcfblmaa
open Go Go.AM Go.Sort

def laysSort_ren : Go.Shelf.Ren := ⟨fun | 189 => 64 | 125 => 87 | 257 => 86 | 128 => 111 | 129 => 112 | 294 => 102 | 295 => 103 | 296 => 104 | 297 => 105 | 298 => 106 | 299 => 107 | 216 => 108 | 300 => 109 | 301 => 110 | 328 => 118 | 329 => 119 | 330 => 120 | 331 => 121 | 332 => 122 | 215 => 123 | 343 => 124 | n => n, fun | 28 => 39 | 3 => 3 | 46 => 105 | 0 => 0 | 51 => 125 | 53 => 127 | 4 => 4 | 183 => 118 | 182 => 117 | 131 => 122 | 5 => 5 | 9 => 9 | 218 => 130 | 222 => 134 | 228 => 137 | 229 => 138 | n => n, fun | n => n⟩
theorem laysSort : Go.Proofs.Lays.n189 Try.prog laysSort_ren := {
  mixed := by kernel_rfl,
  f125 := Try.func87.trans (congrArg some (by kernel_rfl)),
  f128 := Try.func111.trans (congrArg some (by kernel_rfl)),
  f129 := Try.func112.trans (congrArg some (by kernel_rfl)),
  f189 := Try.func64.trans (congrArg some (by kernel_rfl)),
  f215 := Try.func123.trans (congrArg some (by kernel_rfl)),
  f216 := Try.func108.trans (congrArg some (by kernel_rfl)),
  f257 := Try.func86.trans (congrArg some (by kernel_rfl)),
  f294 := Try.func102.trans (congrArg some (by kernel_rfl)),
  f295 := Try.func103.trans (congrArg some (by kernel_rfl)),
  f296 := Try.func104.trans (congrArg some (by kernel_rfl)),
  f297 := Try.func105.trans (congrArg some (by kernel_rfl)),
  f298 := Try.func106.trans (congrArg some (by kernel_rfl)),
  f299 := Try.func107.trans (congrArg some (by kernel_rfl)),
  f300 := Try.func109.trans (congrArg some (by kernel_rfl)),
  f301 := Try.func110.trans (congrArg some (by kernel_rfl)),
  f328 := Try.func118.trans (congrArg some (by kernel_rfl)),
  f329 := Try.func119.trans (congrArg some (by kernel_rfl)),
  f330 := Try.func120.trans (congrArg some (by kernel_rfl)),
  f331 := Try.func121.trans (congrArg some (by kernel_rfl)),
  f332 := Try.func122.trans (congrArg some (by kernel_rfl)),
  f343 := Try.func124.trans (congrArg some (by kernel_rfl)),
  t0 := Try.underlying0,
  a0 := Try.isAgg0,
  z0 := Try.sizeOf0,
  v0 := Try.zeroValue0,
  t3 := Try.underlying3,
  a3 := Try.isAgg3,
  z3 := Try.sizeOf3,
  v3 := Try.zeroValue3,
  t4 := Try.underlying4,
  a4 := Try.isAgg4,
  z4 := Try.sizeOf4,
  v4 := Try.zeroValue4,
  t5 := Try.underlying5,
  a5 := Try.isAgg5,
  z5 := Try.sizeOf5,
  v5 := Try.zeroValue5,
  t9 := Try.underlying9,
  a9 := Try.isAgg9,
  z9 := Try.sizeOf9,
  v9 := Try.zeroValue9,
  t28 := Try.underlying39,
  a28 := Try.isAgg39,
  z28 := Try.sizeOf39,
  v28 := Try.zeroValue39,
  t46 := Try.underlying105,
  a46 := Try.isAgg105,
  z46 := Try.sizeOf105,
  v46 := Try.zeroValue105,
  t51 := Try.underlying125,
  a51 := Try.isAgg125,
  z51 := Try.sizeOf125,
  v51 := Try.zeroValue125,
  t53 := Try.underlying127,
  a53 := Try.isAgg127,
  z53 := Try.sizeOf127,
  v53 := Try.zeroValue127,
  t131 := Try.underlying122,
  a131 := Try.isAgg122,
  z131 := Try.sizeOf122,
  v131 := Try.zeroValue122,
  t182 := Try.underlying117,
  a182 := Try.isAgg117,
  z182 := Try.sizeOf117,
  v182 := Try.zeroValue117,
  t183 := Try.underlying118,
  a183 := Try.isAgg118,
  z183 := Try.sizeOf118,
  v183 := Try.zeroValue118,
  t218 := Try.underlying130,
  a218 := Try.isAgg130,
  z218 := Try.sizeOf130,
  v218 := Try.zeroValue130,
  t222 := Try.underlying134,
  a222 := Try.isAgg134,
  z222 := Try.sizeOf134,
  v222 := Try.zeroValue134,
  t228 := Try.underlying137,
  a228 := Try.isAgg137,
  z228 := Try.sizeOf137,
  v228 := Try.zeroValue137,
  t229 := Try.underlying138,
  a229 := Try.isAgg138,
  z229 := Try.sizeOf138,
  v229 := Try.zeroValue138 }

theorem sort_ints (zs : List Int) (hz : zs.length ≤ 1048576) : InPlace Try.prog 64 3 zs (isort zs) := by
  rw [← mergeSort_isort]
  refine ⟨⟨_, _, Try.func64, rfl, by decide⟩, fun u w hown => ?_⟩
  have hl : (zs.mergeSort fun x y => decide (x ≤ y)).length = zs.length := List.length_mergeSort _
  rcases hown.2 with ⟨rfl, h0⟩ | ⟨g, cap, cur, rfl, _, hg, hn, hcap, hcs, htake⟩
  · have hz : zs = [] := List.eq_nil_of_length_eq_zero h0
    subst hz
    refine (Go.Proofs.Any.slices_Sort_int_none laysSort none 0 w).mono fun en w' ⟨he, hw⟩ => ?_
    subst hw
    exact ⟨he, by simpa using hown, rfl, rfl, rfl, Nat.le_refl _, fun _ _ _ => rfl⟩
  · have hlt : g < w.heap.size := (Array.getElem?_eq_some_iff.1 hg).1
    have hH := holds_of_blockI (ss := zs) hg (by rw [← htake, Nat.mul_one])
    refine (Go.Proofs.Any.slices_Sort_int laysSort g 0 cap zs w hH hlt (by omega)).mono fun en w' ⟨he, n, os, hw⟩ => ?_
    subst hw
    have h1 := ownsRow_sortedI (n := n) (os := os) hl (Nat.zero_le g) hg hn hcap hcs
    have h2 := grownBy_sortedI (w := w) (g := g) (n := n) (os := os) (zs.mergeSort fun x y => decide (x ≤ y)).toArray
    rw [hl]
    refine ⟨he, h1, ?_⟩
    obtain ⟨q1, q2, q3, q4, q5⟩ := h2
    refine ⟨q1, q2, q3, q4, fun k hk hne => q5 k hk fun e => hne ?_⟩
    rw [e]
    rfl
end Go.Proofs.Ytneghcnkcfblmaa
