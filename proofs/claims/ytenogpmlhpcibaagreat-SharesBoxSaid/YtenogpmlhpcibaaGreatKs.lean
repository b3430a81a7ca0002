/-
  slices.Sorted of maps.Keys, as the library's texts stand in this program.
  Conditions: none.
-/
import Derived.Test.YtenogpmlhpcibaaGreatSh
import Derived.Test.YtenogpmlhpcibaaGreatAmKs
import Derived.Shelf.SlIterI.Sorted
import Derived.Shelf.SlIterI.Keys
import Derived.Shelf.SlIterI.Collect
import Derived.Shelf.SlGeneric
set_option linter.all false
namespace Go.Proofs.YtenogpmlhpcibaaGreat
open Go Go.AM Go.Sort Go.Proofs
def zl2:Go.Shelf.Ren:=⟨fun | 7=>84 | 10=>112 | n=>n,fun | 23=>122 | 26=>3 | 3=>126 | 28=>120 | 0=>0 | 27=>119 | 33=>108 | 4=>4 | n=>n,fun | n=>n⟩
theorem zsb:Go.Proofs.SlLaysZI.n7 Tryz.prog zl2:={
 mixed:=by kernel_rfl,
 f7 := ⟨"maps.Keys[map[int]shellac/takings.point,int,shellac/takings.point]", by decide, Tryz.func84.trans (congrArg some (by kernel_rfl))⟩,
 f10 := ⟨"maps.Keys[map[int]shellac/takings.point,int,shellac/takings.point]$1", by decide, Tryz.func112.trans (congrArg some (by kernel_rfl))⟩,
 t0:=Tryz.underlying0,
 a0:=Tryz.isAgg0,
 z0:=Tryz.sizeOf0,
 v0:=Tryz.zeroValue0,
 t4:=Tryz.underlying4,
 a4:=Tryz.isAgg4,
 z4:=Tryz.sizeOf4,
 v4:=Tryz.zeroValue4,
 t23:=Tryz.underlying122,
 a23:=Tryz.isAgg122,
 z23:=Tryz.sizeOf122,
 v23:=Tryz.zeroValue122,
 t26:=Tryz.underlying3,
 a26:=Tryz.isAgg3,
 z26:=Tryz.sizeOf3,
 v26:=Tryz.zeroValue3,
 t27:=Tryz.underlying119,
 a27:=Tryz.isAgg119,
 z27:=Tryz.sizeOf119,
 v27:=Tryz.zeroValue119,
 t28:=Tryz.underlying120,
 a28:=Tryz.isAgg120,
 z28:=Tryz.sizeOf120,
 v28:=Tryz.zeroValue120,
 t33:=Tryz.underlying108,
 a33:=Tryz.isAgg108,
 z33:=Tryz.sizeOf108,
 v33:=Tryz.zeroValue108 }
def zj8:Go.Shelf.Ren:=⟨fun | 6=>83 | 8=>110 | 9=>111 | 11=>122 | 13=>124 | 12=>123 | 23=>140 | 24=>141 | 14=>131 | 15=>132 | 16=>133 | 17=>134 | 18=>135 | 19=>136 | 20=>137 | 21=>138 | 22=>139 | 25=>145 | 26=>146 | 27=>147 | 28=>148 | 29=>149 | 30=>150 | 31=>151 | n=>n,fun | 26=>3 | 28=>120 | 24=>22 | 0=>0 | 3=>3 | 37=>166 | 48=>182 | 50=>184 | 4=>4 | 40=>175 | 39=>174 | 45=>179 | 5=>5 | 9=>9 | 51=>186 | 55=>190 | 57=>192 | 58=>143 | 33=>108 | n=>n,fun | n=>n⟩
theorem zta:Go.Proofs.SlLaysZI.n6 Tryz.prog zj8:={
 mixed:=by kernel_rfl,
 f6 := ⟨"slices.Sorted[int]", by decide, Tryz.func83.trans (congrArg some (by kernel_rfl))⟩,
 f8 := ⟨"slices.Collect[int]", by decide, Tryz.func110.trans (congrArg some (by kernel_rfl))⟩,
 f11 := ⟨"slices.AppendSeq[[]int,int]", by decide, Tryz.func122.trans (congrArg some (by kernel_rfl))⟩,
 t0:=Tryz.underlying0,
 a0:=Tryz.isAgg0,
 z0:=Tryz.sizeOf0,
 v0:=Tryz.zeroValue0,
 t24:=Tryz.underlying22,
 a24:=Tryz.isAgg22,
 z24:=Tryz.sizeOf22,
 v24:=Tryz.zeroValue22,
 t26:=Tryz.underlying3,
 a26:=Tryz.isAgg3,
 z26:=Tryz.sizeOf3,
 v26:=Tryz.zeroValue3,
 t28:=Tryz.underlying120,
 a28:=Tryz.isAgg120,
 z28:=Tryz.sizeOf120,
 v28:=Tryz.zeroValue120,
 i26:=by kernel_rfl }
theorem zy4:zr0 Tryz.prog 84 112 :=
 ⟨⟨_,_,Tryz.func84,rfl,by decide⟩,fun mb w=>(callsIn_wide (n:=5)).1 ((AnyZI.keys_in zsb Fence.wide 5 trivial rfl mb w).mono fun e w' ⟨he,hw⟩=>⟨he,_,hw⟩)⟩
theorem zxf (m:Nat):AnyZI.SortsIn Tryz.prog zj8 Fence.wide m :=
 ⟨fun blk off cap ss W hH hblk hsz=>callsIn_wide.2 (Go.Proofs.Any.slices_Sort_int zsa blk off cap ss W hH hblk hsz),
 fun p cap W=>callsIn_wide.2 (Go.Proofs.Any.slices_Sort_int_none zsa p cap W)⟩
theorem zvS:zo5 Tryz.prog 83 112 3:=by
 refine ⟨⟨_,_,Tryz.func83,rfl,by decide⟩,fun w Bm b nn D0 R hB hc hown hsz=>?_⟩;have hseq:SeqGives Fence.wide 2 Tryz.prog 112 #[.pointer (some ⟨Bm,0,none⟩)] encZ (fun ss=>ss.Perm (intKeys D0)) (Maps.size D0) w :=
  AnyZI.keys_gives (ρ:=zl2) { zsb with } Fence.wide 2 trivial rfl (by omega) Bm b nn D0 w hB hc hown
 have cS:=AnyZI.sorted_in zta Fence.wide 5 trivial trivial trivial trivial rfl (by omega) (zxf _) (enters_of Tryz.func111 (by kernel_rfl) rfl) 112 #[.pointer (some ⟨Bm,0,none⟩)] trivial (enters_of Tryz.func112 (by kernel_rfl) rfl) _ _ (by unfold maxLen;omega) (by omega) w hseq
 refine (callsIn_wide (n:=5)).1 (cS.mono fun e w' ⟨v,ss,he,hS,hrow,hnil,hb⟩=>⟨v,ss,he,hS,hrow,hb⟩)
end Go.Proofs.YtenogpmlhpcibaaGreat
