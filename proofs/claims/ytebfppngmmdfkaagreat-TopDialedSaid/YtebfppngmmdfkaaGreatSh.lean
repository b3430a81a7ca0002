/-
  slices.Sort of a slice of integers, as the library's text stands in this program.
  Conditions: none.
-/
import Derived.Test.YtebfppngmmdfkaaGreatTy
import Derived.Test.YtebfppngmmdfkaaGreatAmSd
import Derived.Test.YtebfppngmmdfkaaGreatAmSf
import Derived.Shelf.Sort.Plain
import Derived.Shelf.Slices.In.SortNone
import Derived.Ground.NamesProg
set_option linter.all false
namespace Go.Proofs.YtebfppngmmdfkaaGreat
open Go Go.AM Go.Sort
def znF:Go.Shelf.Ren:=⟨fun | 189=>36 | 125=>67 | 257=>66 | 128=>96 | 129=>97 | 294=>87 | 295=>88 | 296=>89 | 297=>90 | 298=>91 | 299=>92 | 216=>93 | 300=>94 | 301=>95 | 328=>105 | 329=>106 | 330=>107 | 331=>108 | 332=>109 | 215=>101 | 343=>111 | n=>n,fun | 28=>22 | 3=>3 | 46=>91 | 0=>0 | 51=>140 | 53=>142 | 4=>4 | 183=>133 | 182=>132 | 131=>137 | 5=>5 | 9=>9 | 218=>148 | 222=>152 | 228=>154 | 229=>155 | n=>n,fun | n=>n⟩
theorem zpy:Go.Proofs.Lays.n189 Tryz.prog znF:={
 mixed:=by kernel_rfl,
 f125:=Tryz.func67.trans (congrArg some (by kernel_rfl)),
 f128:=Tryz.func96.trans (congrArg some (by kernel_rfl)),
 f129:=Tryz.func97.trans (congrArg some (by kernel_rfl)),
 f189:=Tryz.func36.trans (congrArg some (by kernel_rfl)),
 f215:=Tryz.func101.trans (congrArg some (by kernel_rfl)),
 f216:=Tryz.func93.trans (congrArg some (by kernel_rfl)),
 f257:=Tryz.func66.trans (congrArg some (by kernel_rfl)),
 f294:=Tryz.func87.trans (congrArg some (by kernel_rfl)),
 f295:=Tryz.func88.trans (congrArg some (by kernel_rfl)),
 f296:=Tryz.func89.trans (congrArg some (by kernel_rfl)),
 f297:=Tryz.func90.trans (congrArg some (by kernel_rfl)),
 f298:=Tryz.func91.trans (congrArg some (by kernel_rfl)),
 f299:=Tryz.func92.trans (congrArg some (by kernel_rfl)),
 f300:=Tryz.func94.trans (congrArg some (by kernel_rfl)),
 f301:=Tryz.func95.trans (congrArg some (by kernel_rfl)),
 f328:=Tryz.func105.trans (congrArg some (by kernel_rfl)),
 f329:=Tryz.func106.trans (congrArg some (by kernel_rfl)),
 f330:=Tryz.func107.trans (congrArg some (by kernel_rfl)),
 f331:=Tryz.func108.trans (congrArg some (by kernel_rfl)),
 f332:=Tryz.func109.trans (congrArg some (by kernel_rfl)),
 f343:=Tryz.func111.trans (congrArg some (by kernel_rfl)),
 t0:=Tryz.underlying0,
 a0:=Tryz.isAgg0,
 z0:=Tryz.sizeOf0,
 v0:=Tryz.zeroValue0,
 t3:=Tryz.underlying3,
 a3:=Tryz.isAgg3,
 z3:=Tryz.sizeOf3,
 v3:=Tryz.zeroValue3,
 t4:=Tryz.underlying4,
 a4:=Tryz.isAgg4,
 z4:=Tryz.sizeOf4,
 v4:=Tryz.zeroValue4,
 t5:=Tryz.underlying5,
 a5:=Tryz.isAgg5,
 z5:=Tryz.sizeOf5,
 v5:=Tryz.zeroValue5,
 t9:=Tryz.underlying9,
 a9:=Tryz.isAgg9,
 z9:=Tryz.sizeOf9,
 v9:=Tryz.zeroValue9,
 t28:=Tryz.underlying22,
 a28:=Tryz.isAgg22,
 z28:=Tryz.sizeOf22,
 v28:=Tryz.zeroValue22,
 t46:=Tryz.underlying91,
 a46:=Tryz.isAgg91,
 z46:=Tryz.sizeOf91,
 v46:=Tryz.zeroValue91,
 t51:=Tryz.underlying140,
 a51:=Tryz.isAgg140,
 z51:=Tryz.sizeOf140,
 v51:=Tryz.zeroValue140,
 t53:=Tryz.underlying142,
 a53:=Tryz.isAgg142,
 z53:=Tryz.sizeOf142,
 v53:=Tryz.zeroValue142,
 t131:=Tryz.underlying137,
 a131:=Tryz.isAgg137,
 z131:=Tryz.sizeOf137,
 v131:=Tryz.zeroValue137,
 t182:=Tryz.underlying132,
 a182:=Tryz.isAgg132,
 z182:=Tryz.sizeOf132,
 v182:=Tryz.zeroValue132,
 t183:=Tryz.underlying133,
 a183:=Tryz.isAgg133,
 z183:=Tryz.sizeOf133,
 v183:=Tryz.zeroValue133,
 t218:=Tryz.underlying148,
 a218:=Tryz.isAgg148,
 z218:=Tryz.sizeOf148,
 v218:=Tryz.zeroValue148,
 t222:=Tryz.underlying152,
 a222:=Tryz.isAgg152,
 z222:=Tryz.sizeOf152,
 v222:=Tryz.zeroValue152,
 t228:=Tryz.underlying154,
 a228:=Tryz.isAgg154,
 z228:=Tryz.sizeOf154,
 v228:=Tryz.zeroValue154,
 t229:=Tryz.underlying155,
 a229:=Tryz.isAgg155,
 z229:=Tryz.sizeOf155,
 v229:=Tryz.zeroValue155 }
theorem zrN (zs:List Int) (hz:zs.length<=1048576):zrs Tryz.prog 36 3 zs (zi3 zs):=by
 rw [←zle]
 refine ⟨⟨_,_,Tryz.func36,rfl,by decide⟩,fun u w hown=>?_⟩
 have hl:(zs.mergeSort fun x y=>decide (x<=y)).length=zs.length:=List.length_mergeSort _
 rcases hown.2 with ⟨rfl,h0⟩ | ⟨g,cap,cur,rfl,_,hg,hn,hcap,hcs,htake⟩
 ·have hz:zs=[]:=List.eq_nil_of_length_eq_zero h0
  subst hz
  refine (Go.Proofs.Any.slices_Sort_int_none zpy none 0 w).mono fun en w' ⟨he,hw⟩=>?_
  subst hw
  exact ⟨he,by simpa using hown,rfl,rfl,rfl,Nat.le_refl _,fun _ _ _=>rfl⟩
 ·have hlt:g<w.heap.size:=(Array.getElem?_eq_some_iff.1 hg).1
  have hH:=holds_of_blockI (ss:=zs) hg (by rw [←htake,Nat.mul_one])
  refine (Go.Proofs.Any.slices_Sort_int zpy g 0 cap zs w hH hlt (by omega)).mono fun en w' ⟨he,n,os,hw⟩=>?_
  subst hw
  have h1:=ownsRow_sortedI (n:=n) (os:=os) hl (Nat.zero_le g) hg hn hcap hcs
  have h2:=grownBy_sortedI (w:=w) (g:=g) (n:=n) (os:=os) (zs.mergeSort fun x y=>decide (x<=y)).toArray
  rw [hl]
  refine ⟨he,h1,?_⟩
  obtain ⟨q1,q2,q3,q4,q5⟩:=h2
  refine ⟨q1,q2,q3,q4,fun k hk hne=>q5 k hk fun e=>hne ?_⟩
  rw [e]
  rfl
end Go.Proofs.YtebfppngmmdfkaaGreat
