/-
  slices.Sort and slices.Compact of a slice of integers, as the library's texts stand in this program.
  Conditions: none.
-/
import Derived.Test.YtapcibbbmeomkaaTy
import Derived.Test.YtapcibbbmeomkaaAmSe
import Derived.Shelf.Sort.Plain
import Derived.Shelf.Slices.In.SortNone
import Derived.Shelf.Slices.CompactI
import Derived.Ground.NamesProg
import Derived.Ground.Names2Prog
set_option linter.all false
namespace Go.Proofs.Ytapcibbbmeomkaa
open Go Go.AM Go.Sort
def laysSort_ren : Go.Shelf.Ren := ⟨fun | 189 => 70 | 125 => 105 | 257 => 104 | 128 => 121 | 129 => 122 | 294 => 112 | 295 => 113 | 296 => 114 | 297 => 115 | 298 => 116 | 299 => 117 | 216 => 118 | 300 => 119 | 301 => 120 | 328 => 125 | 329 => 126 | 330 => 127 | 331 => 128 | 332 => 129 | 215 => 130 | 343 => 131 | n => n, fun | 28 => 22 | 3 => 3 | 46 => 131 | 0 => 0 | 51 => 143 | 53 => 145 | 4 => 4 | 183 => 138 | 182 => 137 | 131 => 125 | 5 => 5 | 9 => 9 | 218 => 148 | 222 => 152 | 228 => 154 | 229 => 84 | n => n, fun | n => n⟩
theorem laysSort : Go.Proofs.Lays.n189 Try.prog laysSort_ren := {
  mixed := by kernel_rfl,
  f125 := Try.func105.trans (congrArg some (by kernel_rfl)),
  f128 := Try.func121.trans (congrArg some (by kernel_rfl)),
  f129 := Try.func122.trans (congrArg some (by kernel_rfl)),
  f189 := Try.func70.trans (congrArg some (by kernel_rfl)),
  f215 := Try.func130.trans (congrArg some (by kernel_rfl)),
  f216 := Try.func118.trans (congrArg some (by kernel_rfl)),
  f257 := Try.func104.trans (congrArg some (by kernel_rfl)),
  f294 := Try.func112.trans (congrArg some (by kernel_rfl)),
  f295 := Try.func113.trans (congrArg some (by kernel_rfl)),
  f296 := Try.func114.trans (congrArg some (by kernel_rfl)),
  f297 := Try.func115.trans (congrArg some (by kernel_rfl)),
  f298 := Try.func116.trans (congrArg some (by kernel_rfl)),
  f299 := Try.func117.trans (congrArg some (by kernel_rfl)),
  f300 := Try.func119.trans (congrArg some (by kernel_rfl)),
  f301 := Try.func120.trans (congrArg some (by kernel_rfl)),
  f328 := Try.func125.trans (congrArg some (by kernel_rfl)),
  f329 := Try.func126.trans (congrArg some (by kernel_rfl)),
  f330 := Try.func127.trans (congrArg some (by kernel_rfl)),
  f331 := Try.func128.trans (congrArg some (by kernel_rfl)),
  f332 := Try.func129.trans (congrArg some (by kernel_rfl)),
  f343 := Try.func131.trans (congrArg some (by kernel_rfl)),
  t0 := Try.underlying0,
  a0 := Try.isAgg0,
  z0 := Try.sizeOf0,
  v0 := Try.zeroValue0,
  t3 := Try.underlying3,
  a3 := Try.isAgg3,
  z3 := Try.sizeOf3,
  v3 := Try.zeroValue3,
  t4 := Try.underlying4,
  a4 := Try.isAgg4,
  z4 := Try.sizeOf4,
  v4 := Try.zeroValue4,
  t5 := Try.underlying5,
  a5 := Try.isAgg5,
  z5 := Try.sizeOf5,
  v5 := Try.zeroValue5,
  t9 := Try.underlying9,
  a9 := Try.isAgg9,
  z9 := Try.sizeOf9,
  v9 := Try.zeroValue9,
  t28 := Try.underlying22,
  a28 := Try.isAgg22,
  z28 := Try.sizeOf22,
  v28 := Try.zeroValue22,
  t46 := Try.underlying131,
  a46 := Try.isAgg131,
  z46 := Try.sizeOf131,
  v46 := Try.zeroValue131,
  t51 := Try.underlying143,
  a51 := Try.isAgg143,
  z51 := Try.sizeOf143,
  v51 := Try.zeroValue143,
  t53 := Try.underlying145,
  a53 := Try.isAgg145,
  z53 := Try.sizeOf145,
  v53 := Try.zeroValue145,
  t131 := Try.underlying125,
  a131 := Try.isAgg125,
  z131 := Try.sizeOf125,
  v131 := Try.zeroValue125,
  t182 := Try.underlying137,
  a182 := Try.isAgg137,
  z182 := Try.sizeOf137,
  v182 := Try.zeroValue137,
  t183 := Try.underlying138,
  a183 := Try.isAgg138,
  z183 := Try.sizeOf138,
  v183 := Try.zeroValue138,
  t218 := Try.underlying148,
  a218 := Try.isAgg148,
  z218 := Try.sizeOf148,
  v218 := Try.zeroValue148,
  t222 := Try.underlying152,
  a222 := Try.isAgg152,
  z222 := Try.sizeOf152,
  v222 := Try.zeroValue152,
  t228 := Try.underlying154,
  a228 := Try.isAgg154,
  z228 := Try.sizeOf154,
  v228 := Try.zeroValue154,
  t229 := Try.underlying84,
  a229 := Try.isAgg84,
  z229 := Try.sizeOf84,
  v229 := Try.zeroValue84 }
def laysComp_ren : Go.Shelf.Ren := ⟨fun | 20 => 71 | n => n, fun | 22 => 22 | 3 => 3 | 4 => 4 | 0 => 0 | n => n, fun | n => n⟩
theorem laysComp : Go.Proofs.Lays2.n20 Try.prog laysComp_ren := {
  mixed := by kernel_rfl,
  f20 := Try.func71.trans (congrArg some (by kernel_rfl)),
  t0 := Try.underlying0,
  a0 := Try.isAgg0,
  z0 := Try.sizeOf0,
  v0 := Try.zeroValue0,
  t3 := Try.underlying3,
  a3 := Try.isAgg3,
  z3 := Try.sizeOf3,
  v3 := Try.zeroValue3,
  t4 := Try.underlying4,
  a4 := Try.isAgg4,
  z4 := Try.sizeOf4,
  v4 := Try.zeroValue4,
  t22 := Try.underlying22,
  a22 := Try.isAgg22,
  z22 := Try.sizeOf22,
  v22 := Try.zeroValue22,
  i3 := by kernel_rfl }
theorem sort_ints (zs : List Int) (hz : zs.length ≤ 1048576) : InPlace Try.prog 70 3 zs (isort zs) := by
  rw [← mergeSort_isort]
  refine ⟨⟨_, _, Try.func70, rfl, by decide⟩, fun u w hown => ?_⟩
  have hl : (zs.mergeSort fun x y => decide (x ≤ y)).length = zs.length := List.length_mergeSort _
  rcases hown.2 with ⟨rfl, h0⟩ | ⟨g, cap, cur, rfl, _, hg, hn, hcap, hcs, htake⟩
  · have hz : zs = [] := List.eq_nil_of_length_eq_zero h0
    subst hz
    refine (Go.Proofs.Any.slices_Sort_int_none laysSort none 0 w).mono fun en w' ⟨he, hw⟩ => ?_
    subst hw
    exact ⟨he, by simpa using hown, rfl, rfl, rfl, Nat.le_refl _, fun _ _ _ => rfl⟩
  · have hlt : g < w.heap.size := (Array.getElem?_eq_some_iff.1 hg).1
    have hH := holds_of_blockI (ss := zs) hg (by rw [← htake, Nat.mul_one])
    refine (Go.Proofs.Any.slices_Sort_int laysSort g 0 cap zs w hH hlt (by omega)).mono fun en w' ⟨he, n, os, hw⟩ => ?_
    subst hw
    have h1 := ownsRow_sortedI (n := n) (os := os) hl (Nat.zero_le g) hg hn hcap hcs
    have h2 := grownBy_sortedI (w := w) (g := g) (n := n) (os := os) (zs.mergeSort fun x y => decide (x ≤ y)).toArray
    rw [hl]
    refine ⟨he, h1, ?_⟩
    obtain ⟨q1, q2, q3, q4, q5⟩ := h2
    refine ⟨q1, q2, q3, q4, fun k hk hne => q5 k hk fun e => hne ?_⟩
    rw [e]
    rfl
theorem compact_len (zs : List Int) : (Go.Lib.compact zs).length ≤ zs.length := by
  unfold Go.Lib.compact Go.Lib.compactUpTo
  rw [List.length_map]
  exact Nat.le_trans (List.length_filter_le _ _) (by simp)
theorem heap_putI {w : World} {g n : Nat} {cur : Array Value} {e : TypeId} {fr : Nat × Nat} (d : Array Int) (hb : w.heap[g]? = some (.cells cur e fr)) :
    (putRow (Value.int .i64) (Sort.ahead w n) g 0 d).heap[g]? = some (.cells (putCells (Value.int .i64) 0 d cur) e fr) := by
  simp [putRow, mapBlock, Sort.ahead, Array.getElem?_modify, hb, onCells]
theorem uniq_ints (zs : List Int) (hz : zs.length ≤ 1048576) : InPlaceR Try.prog 71 3 zs (Go.Lib.compact zs) := by
  refine ⟨⟨_, _, Try.func71, rfl, by decide⟩, fun u w hown => ?_⟩
  have hl := compact_len zs
  rcases hown.2 with ⟨rfl, h0⟩ | ⟨g, cap, cur, rfl, h0, hg, hn, hcap, hcs, htake⟩
  · have hz : zs = [] := List.eq_nil_of_length_eq_zero h0
    subst hz
    refine (Go.Proofs.Any.slices_Compact_int_empty laysComp none 0 w).mono fun en w' ⟨he, hw⟩ => ?_
    subst hw
    have e0 : Go.Lib.compact ([] : List Int) = [] := rfl
    rw [e0]
    exact ⟨_, he, rfl, by simpa using hown, rfl, rfl, rfl, Nat.le_refl _, fun _ _ _ => rfl⟩
  · have hlt : g < w.heap.size := (Array.getElem?_eq_some_iff.1 hg).1
    have hH := holds_of_blockI (ss := zs) hg (by rw [← htake, Nat.mul_one])
    refine (Go.Proofs.Any.slices_Compact_int laysComp g 0 cap zs w hH (by omega) hn).mono fun en w' ⟨he, n, hw⟩ => ?_
    subst hw
    refine ⟨_, he, rfl, ⟨by simp, .inr ⟨g, cap, _, rfl, h0, heap_putI _ hg, by omega, hcap, by simp [putCells, hcs], ?_⟩⟩, rfl, rfl, rfl, by simp [putRow, mapBlock, Sort.ahead], fun k hk hne => ?_⟩
    · have h1 := take_putCellsI cur (Go.Lib.compact zs ++ List.replicate (zs.length - (Go.Lib.compact zs).length) 0) (by simp; omega)
      have h2 := congrArg (fun l => l.take (Go.Lib.compact zs).length) h1
      simp only [List.take_take, List.length_append, List.length_replicate] at h2
      rw [Nat.min_eq_left (by omega)] at h2
      rw [Nat.mul_one, h2, List.map_append, List.take_left' (by simp)]
    · have : g ≠ k := fun e => hne (by rw [e]; rfl)
      simp [putRow, mapBlock, Sort.ahead, Array.getElem?_modify, this]
theorem uniqF_snoc : ∀ (l : List Int) (p : Option Int) (x : Int), uniqF p (l ++ [x]) = uniqF p l ++ (if (l.getLast?.or p) = some x then [] else [x])
  | [], p, x => by
    have e : ([] : List Int).getLast?.or p = p := by cases p <;> rfl
    by_cases h : p = some x
    · rw [if_pos (e.trans h)]
      simp [uniqF, h]
    · rw [if_neg (fun q => h (e.symm.trans q))]
      simp [uniqF, h]
  | y :: l, p, x => by
    have ih := uniqF_snoc l (some y) x
    have e : ((y :: l).getLast?.or p) = (l.getLast?.or (some y)) := by
      cases l with
      | nil => rfl
      | cons z l => rw [List.getLast?_cons_cons]; cases h : (z :: l).getLast? with
        | none => simp at h
        | some q => rfl
    simp only [List.cons_append, uniqF, ih, e]
    split <;> simp
theorem compact_uniq (zs : List Int) : Go.Lib.compact zs = uniqF none zs := by
  have key : ∀ m, m ≤ zs.length → Go.Lib.compactUpTo zs.toArray m = uniqF none (zs.take m) := by
    intro m hm
    induction m with
    | zero => simp [Go.Lib.compactUpTo, uniqF]
    | succ m ih =>
      rw [Go.Lib.compactUpTo_succ, ih (by omega), List.take_succ, List.getElem?_eq_getElem (by omega), Option.toList_some, uniqF_snoc]
      congr 1
      have hx : (zs.toArray)[m]! = zs[m] := by simp [show m < zs.length by omega]
      rw [hx]
      by_cases h0 : m = 0
      · subst h0
        simp [Go.Lib.keeps]
      · have hlast : (zs.take m).getLast? = some zs[m - 1] := by
          rw [List.getLast?_take, if_neg h0, List.getElem?_eq_getElem (by omega)]
          rfl
        have hy : (zs.toArray)[m - 1]! = zs[m - 1] := by simp [show m - 1 < zs.length by omega]
        rw [hlast]
        simp only [Option.some_or, Option.some.injEq]
        by_cases hq : zs[m - 1] = zs[m]
        · rw [if_pos hq, Go.Lib.keeps_neg (by omega) (by rw [hx, hy, hq])]
          rfl
        · rw [if_neg hq, Go.Lib.keeps_pos (by rw [hx, hy]; exact fun e => hq e.symm)]
          rfl
  have h := key zs.length (Nat.le_refl _)
  rw [List.take_length] at h
  exact h
end Go.Proofs.Ytapcibbbmeomkaa
