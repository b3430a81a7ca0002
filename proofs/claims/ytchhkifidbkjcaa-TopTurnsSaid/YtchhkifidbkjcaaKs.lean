/-
  slices.Sorted of maps.Keys, as the library's texts stand in this program.
  Conditions: none.
-/
import Derived.Test.YtchhkifidbkjcaaSh
import Derived.Test.YtchhkifidbkjcaaAmKs
import Derived.Shelf.SlIterI.Sorted
import Derived.Shelf.SlIterI.Keys
import Derived.Shelf.SlIterI.Collect
import Derived.Shelf.SlGeneric
set_option linter.all false
namespace Go.Proofs.Ytchhkifidbkjcaa
open Go Go.AM Go.Sort Go.Proofs
def zjH:Go.Shelf.Ren:=⟨fun | 7=>58 | 10=>65 | n=>n,fun | 23=>117 | 26=>3 | 3=>125 | 28=>120 | 0=>0 | 27=>70 | 33=>61 | 4=>4 | n=>n,fun | n=>n⟩
theorem zpI:Go.Proofs.SlLaysZI.n7 Try.prog zjH:={
 mixed:=by kernel_rfl,
 f7 := ⟨"maps.Keys[map[int]shellac/takings.point,int,shellac/takings.point]", by decide, Try.func58.trans (congrArg some (by kernel_rfl))⟩,
 f10 := ⟨"maps.Keys[map[int]shellac/takings.point,int,shellac/takings.point]$1", by decide, Try.func65.trans (congrArg some (by kernel_rfl))⟩,
 t0:=Try.underlying0,
 a0:=Try.isAgg0,
 z0:=Try.sizeOf0,
 v0:=Try.zeroValue0,
 t4:=Try.underlying4,
 a4:=Try.isAgg4,
 z4:=Try.sizeOf4,
 v4:=Try.zeroValue4,
 t23:=Try.underlying117,
 a23:=Try.isAgg117,
 z23:=Try.sizeOf117,
 v23:=Try.zeroValue117,
 t26:=Try.underlying3,
 a26:=Try.isAgg3,
 z26:=Try.sizeOf3,
 v26:=Try.zeroValue3,
 t27:=Try.underlying70,
 a27:=Try.isAgg70,
 z27:=Try.sizeOf70,
 v27:=Try.zeroValue70,
 t28:=Try.underlying120,
 a28:=Try.isAgg120,
 z28:=Try.sizeOf120,
 v28:=Try.zeroValue120,
 t33:=Try.underlying61,
 a33:=Try.isAgg61,
 z33:=Try.sizeOf61,
 v33:=Try.zeroValue61 }
def zh3:Go.Shelf.Ren:=⟨fun | 6=>57 | 8=>63 | 9=>64 | 11=>71 | 13=>73 | 12=>72 | 23=>85 | 24=>86 | 14=>76 | 15=>77 | 16=>78 | 17=>79 | 18=>80 | 19=>81 | 20=>82 | 21=>83 | 22=>84 | 25=>87 | 26=>88 | 27=>89 | 28=>90 | 29=>91 | 30=>92 | 31=>93 | n=>n,fun | 26=>3 | 28=>120 | 24=>22 | 0=>0 | 3=>3 | 37=>139 | 48=>147 | 50=>149 | 4=>4 | 40=>142 | 39=>141 | 45=>87 | 5=>5 | 9=>9 | 51=>150 | 55=>154 | 57=>156 | 58=>108 | 33=>61 | n=>n,fun | n=>n⟩
theorem zqS:Go.Proofs.SlLaysZI.n6 Try.prog zh3:={
 mixed:=by kernel_rfl,
 f6 := ⟨"slices.Sorted[int]", by decide, Try.func57.trans (congrArg some (by kernel_rfl))⟩,
 f8 := ⟨"slices.Collect[int]", by decide, Try.func63.trans (congrArg some (by kernel_rfl))⟩,
 f11 := ⟨"slices.AppendSeq[[]int,int]", by decide, Try.func71.trans (congrArg some (by kernel_rfl))⟩,
 t0:=Try.underlying0,
 a0:=Try.isAgg0,
 z0:=Try.sizeOf0,
 v0:=Try.zeroValue0,
 t24:=Try.underlying22,
 a24:=Try.isAgg22,
 z24:=Try.sizeOf22,
 v24:=Try.zeroValue22,
 t26:=Try.underlying3,
 a26:=Try.isAgg3,
 z26:=Try.sizeOf3,
 v26:=Try.zeroValue3,
 t28:=Try.underlying120,
 a28:=Try.isAgg120,
 z28:=Try.sizeOf120,
 v28:=Try.zeroValue120,
 i26:=by kernel_rfl }
theorem zxb:zpz Try.prog 58 65 :=
 ⟨⟨_,_,Try.func58,rfl,by decide⟩,fun mb w=>(callsIn_wide (n:=5)).1 ((AnyZI.keys_in zpI Fence.wide 5 trivial rfl mb w).mono fun e w' ⟨he,hw⟩=>⟨he,_,hw⟩)⟩
theorem zvt (m:Nat):AnyZI.SortsIn Try.prog zh3 Fence.wide m :=
 ⟨fun blk off cap ss W hH hblk hsz=>callsIn_wide.2 (Go.Proofs.Any.slices_Sort_int zpH blk off cap ss W hH hblk hsz),
 fun p cap W=>callsIn_wide.2 (Go.Proofs.Any.slices_Sort_int_none zpH p cap W)⟩
theorem zt5:zmA Try.prog 57 65 3:=by
 refine ⟨⟨_,_,Try.func57,rfl,by decide⟩,fun w Bm b nn D0 R hB hc hown hsz=>?_⟩
 have hseq:SeqGives Fence.wide 2 Try.prog 65 #[.pointer (some ⟨Bm,0,none⟩)] encZ (fun ss=>ss.Perm (intKeys D0)) (Maps.size D0) w :=
  AnyZI.keys_gives (ρ:=zjH) { zpI with } Fence.wide 2 trivial rfl (by omega) Bm b nn D0 w hB hc hown
 have cS:=AnyZI.sorted_in zqS Fence.wide 5 trivial trivial trivial trivial rfl (by omega) (zvt _) (enters_of Try.func64 (by kernel_rfl) rfl) 65 #[.pointer (some ⟨Bm,0,none⟩)] trivial (enters_of Try.func65 (by kernel_rfl) rfl) _ _ (by unfold maxLen;omega) (by omega) w hseq
 refine (callsIn_wide (n:=5)).1 (cS.mono fun e w' ⟨v,ss,he,hS,hrow,hnil,hb⟩=>⟨v,ss,he,hS,hrow,hb⟩)
end Go.Proofs.Ytchhkifidbkjcaa
