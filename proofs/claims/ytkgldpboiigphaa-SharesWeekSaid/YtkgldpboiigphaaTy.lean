/-
  What the abstract machine's runs want to know of this program's types.
  Conditions: none.
-/
import Derived.Test.YtkgldpboiigphaaAmY
import Derived.Test.YtkgldpboiigphaaChecked
set_option linter.all false
namespace Go.Proofs.Ytkgldpboiigphaa
open Go Go.AM

theorem mixed : Try.prog.follows .mixedOrders = true := Try.checked.mixed

@[simp] theorem ty_agg3 : aggSize Try.prog 3 = none := by kernel_rfl
@[simp] theorem ty_sc3 : scalar Try.prog 3 = true := by kernel_rfl
@[simp] theorem ty_var3 : varSize Try.prog 3 = some 1 := by kernel_rfl
@[simp] theorem ty_zero3 : zeroA Try.prog 3 = some [AV.v (.int .i64 0)] := by kernel_rfl
@[simp] theorem ty_int3 : intKind Try.prog 3 = some .i64 := by kernel_rfl
@[simp] theorem ty_agg4 : aggSize Try.prog 4 = none := by kernel_rfl
@[simp] theorem ty_sc4 : scalar Try.prog 4 = true := by kernel_rfl
@[simp] theorem ty_var4 : varSize Try.prog 4 = some 1 := by kernel_rfl
@[simp] theorem ty_bool4 : isBool Try.prog 4 = true := by kernel_rfl
@[simp] theorem ty_agg22 : aggSize Try.prog 22 = none := by kernel_rfl
@[simp] theorem ty_sc22 : scalar Try.prog 22 = true := by kernel_rfl
@[simp] theorem ty_var22 : varSize Try.prog 22 = some 1 := by kernel_rfl
@[simp] theorem ty_isl22 : isSlice Try.prog 22 = true := by kernel_rfl
@[simp] theorem ty_el22 : slElem Try.prog 22 = some 39 := by kernel_rfl
@[simp] theorem ty_es22 : elemSize Try.prog 22 = some 4 := by kernel_rfl
@[simp] theorem ty_ef22 : elemFits Try.prog 22 = true := by kernel_rfl
@[simp] theorem ty_agg24 : aggSize Try.prog 24 = some 2 := by kernel_rfl
@[simp] theorem ty_var24 : varSize Try.prog 24 = some 2 := by kernel_rfl
@[simp] theorem ty_pl24 : places Try.prog 24 = some [(0, 1), (1, 1)] := by kernel_rfl
@[simp] theorem ty_zero24 : zeroA Try.prog 24 = some [AV.sl .nil 0 [], AV.v (.int .i64 0)] := by kernel_rfl
@[simp] theorem ty_agg28 : aggSize Try.prog 28 = none := by kernel_rfl
@[simp] theorem ty_sc28 : scalar Try.prog 28 = true := by kernel_rfl
@[simp] theorem ty_var28 : varSize Try.prog 28 = some 1 := by kernel_rfl
@[simp] theorem ty_zero28 : zeroA Try.prog 28 = some [AV.sl .nil 0 []] := by kernel_rfl
@[simp] theorem ty_isl28 : isSlice Try.prog 28 = true := by kernel_rfl
@[simp] theorem ty_el28 : slElem Try.prog 28 = some 3 := by kernel_rfl
@[simp] theorem ty_es28 : elemSize Try.prog 28 = some 1 := by kernel_rfl
@[simp] theorem ty_ef28 : elemFits Try.prog 28 = true := by kernel_rfl
@[simp] theorem ty_agg29 : aggSize Try.prog 29 = none := by kernel_rfl
@[simp] theorem ty_sc29 : scalar Try.prog 29 = true := by kernel_rfl
@[simp] theorem ty_var29 : varSize Try.prog 29 = some 1 := by kernel_rfl
@[simp] theorem ty_int29 : intKind Try.prog 29 = some .i64 := by kernel_rfl
@[simp] theorem ty_agg39 : aggSize Try.prog 39 = some 4 := by kernel_rfl
@[simp] theorem ty_var39 : varSize Try.prog 39 = some 4 := by kernel_rfl
@[simp] theorem ty_pl39 : places Try.prog 39 = some [(0, 1), (1, 1), (2, 1), (3, 1)] := by kernel_rfl
@[simp] theorem ty_flat39 : flatInts Try.prog 39 = some 4 := by kernel_rfl
@[simp] theorem ty_zero39 : zeroA Try.prog 39 = some [AV.v (.int .i64 0), AV.v (.int .i64 0), AV.v (.int .i64 0), AV.v (.int .i64 0)] := by kernel_rfl
@[simp] theorem ty_agg41 : aggSize Try.prog 41 = some 3 := by kernel_rfl
@[simp] theorem ty_var41 : varSize Try.prog 41 = some 3 := by kernel_rfl
@[simp] theorem ty_pl41 : places Try.prog 41 = some [(0, 1), (1, 1), (2, 1)] := by kernel_rfl
@[simp] theorem ty_flat41 : flatInts Try.prog 41 = some 3 := by kernel_rfl
@[simp] theorem ty_zero41 : zeroA Try.prog 41 = some [AV.v (.int .i64 0), AV.v (.int .i64 0), AV.v (.int .i64 0)] := by kernel_rfl
@[simp] theorem ty_agg50 : aggSize Try.prog 50 = some 3 := by kernel_rfl
@[simp] theorem ty_var50 : varSize Try.prog 50 = some 3 := by kernel_rfl
@[simp] theorem ty_pl50 : places Try.prog 50 = some [(0, 1), (1, 1), (2, 1)] := by kernel_rfl
@[simp] theorem ty_flat50 : flatInts Try.prog 50 = some 3 := by kernel_rfl
@[simp] theorem ty_agg53 : aggSize Try.prog 53 = none := by kernel_rfl
@[simp] theorem ty_sc53 : scalar Try.prog 53 = true := by kernel_rfl
@[simp] theorem ty_var53 : varSize Try.prog 53 = some 1 := by kernel_rfl
@[simp] theorem ty_agg56 : aggSize Try.prog 56 = some 2 := by kernel_rfl
@[simp] theorem ty_var56 : varSize Try.prog 56 = some 2 := by kernel_rfl
@[simp] theorem ty_pl56 : places Try.prog 56 = some [(0, 1), (1, 1)] := by kernel_rfl
@[simp] theorem ty_flat56 : flatInts Try.prog 56 = some 2 := by kernel_rfl
@[simp] theorem ty_agg59 : aggSize Try.prog 59 = none := by kernel_rfl
@[simp] theorem ty_sc59 : scalar Try.prog 59 = true := by kernel_rfl
@[simp] theorem ty_var59 : varSize Try.prog 59 = some 1 := by kernel_rfl
@[simp] theorem ty_isl59 : isSlice Try.prog 59 = true := by kernel_rfl
@[simp] theorem ty_el59 : slElem Try.prog 59 = some 41 := by kernel_rfl
@[simp] theorem ty_es59 : elemSize Try.prog 59 = some 3 := by kernel_rfl
@[simp] theorem ty_ef59 : elemFits Try.prog 59 = true := by kernel_rfl
@[simp] theorem ty_agg70 : aggSize Try.prog 70 = none := by kernel_rfl
@[simp] theorem ty_sc70 : scalar Try.prog 70 = true := by kernel_rfl
@[simp] theorem ty_var70 : varSize Try.prog 70 = some 1 := by kernel_rfl
@[simp] theorem ty_agg71 : aggSize Try.prog 71 = none := by kernel_rfl
@[simp] theorem ty_sc71 : scalar Try.prog 71 = true := by kernel_rfl
@[simp] theorem ty_var71 : varSize Try.prog 71 = some 1 := by kernel_rfl
@[simp] theorem ty_isl71 : isSlice Try.prog 71 = true := by kernel_rfl
@[simp] theorem ty_el71 : slElem Try.prog 71 = some 28 := by kernel_rfl
@[simp] theorem ty_es71 : elemSize Try.prog 71 = some 1 := by kernel_rfl
@[simp] theorem ty_ef71 : elemFits Try.prog 71 = true := by kernel_rfl
@[simp] theorem ty_agg76 : aggSize Try.prog 76 = some 5 := by kernel_rfl
@[simp] theorem ty_var76 : varSize Try.prog 76 = some 5 := by kernel_rfl
@[simp] theorem ty_pl76 : places Try.prog 76 = some [(0, 3), (3, 1), (4, 1)] := by kernel_rfl
@[simp] theorem ty_zero76 : zeroA Try.prog 76 = some [AV.v (.int .i64 0), AV.v (.int .i64 0), AV.v (.int .i64 0), AV.v (.int .i64 0), AV.v (.int .i64 0)] := by kernel_rfl
@[simp] theorem ty_agg87 : aggSize Try.prog 87 = none := by kernel_rfl
@[simp] theorem ty_sc87 : scalar Try.prog 87 = true := by kernel_rfl
@[simp] theorem ty_var87 : varSize Try.prog 87 = some 1 := by kernel_rfl
@[simp] theorem ty_agg89 : aggSize Try.prog 89 = none := by kernel_rfl
@[simp] theorem ty_sc89 : scalar Try.prog 89 = true := by kernel_rfl
@[simp] theorem ty_var89 : varSize Try.prog 89 = some 1 := by kernel_rfl
@[simp] theorem ty_agg93 : aggSize Try.prog 93 = some 6 := by kernel_rfl
@[simp] theorem ty_var93 : varSize Try.prog 93 = some 6 := by kernel_rfl
@[simp] theorem ty_arr93 : arrOf Try.prog 93 = some (6, 1) := by kernel_rfl
@[simp] theorem ty_arx93 : arrIx Try.prog 93 = some (6, 87, 1) := by kernel_rfl
@[simp] theorem ty_pl93 : places Try.prog 93 = some [(0, 1), (1, 1), (2, 1), (3, 1), (4, 1), (5, 1)] := by kernel_rfl
@[simp] theorem ty_zero93 : zeroA Try.prog 93 = some [AV.v .nilFunc, AV.v .nilFunc, AV.v .nilFunc, AV.v .nilFunc, AV.v .nilFunc, AV.v .nilFunc] := by kernel_rfl
@[simp] theorem ty_fo24_0 : fieldOff Try.prog 24 0 = some 0 := by kernel_rfl
@[simp] theorem ty_fo24_1 : fieldOff Try.prog 24 1 = some 1 := by kernel_rfl
@[simp] theorem ty_fo39_0 : fieldOff Try.prog 39 0 = some 0 := by kernel_rfl
@[simp] theorem ty_fo39_1 : fieldOff Try.prog 39 1 = some 1 := by kernel_rfl
@[simp] theorem ty_fo39_2 : fieldOff Try.prog 39 2 = some 2 := by kernel_rfl
@[simp] theorem ty_fo39_3 : fieldOff Try.prog 39 3 = some 3 := by kernel_rfl
@[simp] theorem ty_fo41_0 : fieldOff Try.prog 41 0 = some 0 := by kernel_rfl
@[simp] theorem ty_fo41_1 : fieldOff Try.prog 41 1 = some 1 := by kernel_rfl
@[simp] theorem ty_fo41_2 : fieldOff Try.prog 41 2 = some 2 := by kernel_rfl
@[simp] theorem ty_fo50_0 : fieldOff Try.prog 50 0 = some 0 := by kernel_rfl
@[simp] theorem ty_fo50_1 : fieldOff Try.prog 50 1 = some 1 := by kernel_rfl
@[simp] theorem ty_fo50_2 : fieldOff Try.prog 50 2 = some 2 := by kernel_rfl
@[simp] theorem ty_fo56_0 : fieldOff Try.prog 56 0 = some 0 := by kernel_rfl
@[simp] theorem ty_fo56_1 : fieldOff Try.prog 56 1 = some 1 := by kernel_rfl
@[simp] theorem ty_fo76_0 : fieldOff Try.prog 76 0 = some 0 := by kernel_rfl
@[simp] theorem ty_fo76_1 : fieldOff Try.prog 76 1 = some 3 := by kernel_rfl
@[simp] theorem ty_fo76_2 : fieldOff Try.prog 76 2 = some 4 := by kernel_rfl
end Go.Proofs.Ytkgldpboiigphaa
