/-
  slices.Sorted of maps.Keys, as the library's texts stand in this program.
  Conditions: none.
-/
import Derived.Test.YtenogpmlhpcibaaSh
import Derived.Test.YtenogpmlhpcibaaAmKs
import Derived.Shelf.SlIterI.Sorted
import Derived.Shelf.SlIterI.Keys
import Derived.Shelf.SlIterI.Collect
import Derived.Shelf.SlGeneric
set_option linter.all false
namespace Go.Proofs.Ytenogpmlhpcibaa
open Go Go.AM Go.Sort Go.Proofs
def zjQ:Go.Shelf.Ren:=⟨fun | 7=>97 | 10=>128 | n=>n,fun | 23=>152 | 26=>3 | 3=>155 | 28=>150 | 0=>0 | 27=>143 | 33=>104 | 4=>4 | n=>n,fun | n=>n⟩
theorem zpB:Go.Proofs.SlLaysZI.n7 Try.prog zjQ:={
 mixed:=by kernel_rfl,
 f7 := ⟨"maps.Keys[map[int]shellac/takings.point,int,shellac/takings.point]", by decide, Try.func97.trans (congrArg some (by kernel_rfl))⟩,
 f10 := ⟨"maps.Keys[map[int]shellac/takings.point,int,shellac/takings.point]$1", by decide, Try.func128.trans (congrArg some (by kernel_rfl))⟩,
 t0:=Try.underlying0,
 a0:=Try.isAgg0,
 z0:=Try.sizeOf0,
 v0:=Try.zeroValue0,
 t4:=Try.underlying4,
 a4:=Try.isAgg4,
 z4:=Try.sizeOf4,
 v4:=Try.zeroValue4,
 t23:=Try.underlying152,
 a23:=Try.isAgg152,
 z23:=Try.sizeOf152,
 v23:=Try.zeroValue152,
 t26:=Try.underlying3,
 a26:=Try.isAgg3,
 z26:=Try.sizeOf3,
 v26:=Try.zeroValue3,
 t27:=Try.underlying143,
 a27:=Try.isAgg143,
 z27:=Try.sizeOf143,
 v27:=Try.zeroValue143,
 t28:=Try.underlying150,
 a28:=Try.isAgg150,
 z28:=Try.sizeOf150,
 v28:=Try.zeroValue150,
 t33:=Try.underlying104,
 a33:=Try.isAgg104,
 z33:=Try.sizeOf104,
 v33:=Try.zeroValue104 }
def zib:Go.Shelf.Ren:=⟨fun | 6=>96 | 8=>126 | 9=>127 | 11=>154 | 13=>156 | 12=>155 | 23=>173 | 24=>174 | 14=>164 | 15=>165 | 16=>166 | 17=>167 | 18=>168 | 19=>169 | 20=>170 | 21=>171 | 22=>172 | 25=>177 | 26=>178 | 27=>179 | 28=>180 | 29=>181 | 30=>182 | 31=>183 | n=>n,fun | 26=>3 | 28=>150 | 24=>22 | 0=>0 | 3=>3 | 37=>216 | 48=>226 | 50=>228 | 4=>4 | 40=>221 | 39=>220 | 45=>170 | 5=>5 | 9=>9 | 51=>229 | 55=>233 | 57=>235 | 58=>161 | 33=>104 | n=>n,fun | n=>n⟩
theorem zqP:Go.Proofs.SlLaysZI.n6 Try.prog zib:={
 mixed:=by kernel_rfl,
 f6 := ⟨"slices.Sorted[int]", by decide, Try.func96.trans (congrArg some (by kernel_rfl))⟩,
 f8 := ⟨"slices.Collect[int]", by decide, Try.func126.trans (congrArg some (by kernel_rfl))⟩,
 f11 := ⟨"slices.AppendSeq[[]int,int]", by decide, Try.func154.trans (congrArg some (by kernel_rfl))⟩,
 t0:=Try.underlying0,
 a0:=Try.isAgg0,
 z0:=Try.sizeOf0,
 v0:=Try.zeroValue0,
 t24:=Try.underlying22,
 a24:=Try.isAgg22,
 z24:=Try.sizeOf22,
 v24:=Try.zeroValue22,
 t26:=Try.underlying3,
 a26:=Try.isAgg3,
 z26:=Try.sizeOf3,
 v26:=Try.zeroValue3,
 t28:=Try.underlying150,
 a28:=Try.isAgg150,
 z28:=Try.sizeOf150,
 v28:=Try.zeroValue150,
 i26:=by kernel_rfl }
theorem zud:zpr Try.prog 97 128 :=
 ⟨⟨_,_,Try.func97,rfl,by decide⟩,fun mb w=>(callsIn_wide (n:=5)).1 ((AnyZI.keys_in zpB Fence.wide 5 trivial rfl mb w).mono fun e w' ⟨he,hw⟩=>⟨he,_,hw⟩)⟩
theorem zuP (m:Nat):AnyZI.SortsIn Try.prog zib Fence.wide m :=
 ⟨fun blk off cap ss W hH hblk hsz=>callsIn_wide.2 (Go.Proofs.Any.slices_Sort_int zpA blk off cap ss W hH hblk hsz),
 fun p cap W=>callsIn_wide.2 (Go.Proofs.Any.slices_Sort_int_none zpA p cap W)⟩
theorem zpC:zmx Try.prog 96 128 3:=by
 refine ⟨⟨_,_,Try.func96,rfl,by decide⟩,fun w Bm b nn D0 R hB hc hown hsz=>?_⟩
 have hseq:SeqGives Fence.wide 2 Try.prog 128 #[.pointer (some ⟨Bm,0,none⟩)] encZ (fun ss=>ss.Perm (intKeys D0)) (Maps.size D0) w :=
  AnyZI.keys_gives (ρ:=zjQ) { zpB with } Fence.wide 2 trivial rfl (by omega) Bm b nn D0 w hB hc hown
 have cS:=AnyZI.sorted_in zqP Fence.wide 5 trivial trivial trivial trivial rfl (by omega) (zuP _) (enters_of Try.func127 (by kernel_rfl) rfl) 128 #[.pointer (some ⟨Bm,0,none⟩)] trivial (enters_of Try.func128 (by kernel_rfl) rfl) _ _ (by unfold maxLen;omega) (by omega) w hseq
 refine (callsIn_wide (n:=5)).1 (cS.mono fun e w' ⟨v,ss,he,hS,hrow,hnil,hb⟩=>⟨v,ss,he,hS,hrow,hb⟩)
end Go.Proofs.Ytenogpmlhpcibaa
