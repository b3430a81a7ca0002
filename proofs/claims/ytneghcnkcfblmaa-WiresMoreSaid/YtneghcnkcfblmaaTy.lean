/-
  What the abstract machine's runs want to know of this program's types.
  Conditions: none.
-/
import Derived.Test.YtneghcnkcfblmaaAmZ
import Derived.Test.YtneghcnkcfblmaaChecked
set_option linter.all false
namespace Go.Proofs.Ytneghcnkcfblmaa
open Go Go.AM

theorem mixed : Try.prog.follows .mixedOrders = true := Try.checked.mixed

@[simp] theorem ty_agg3 : aggSize Try.prog 3 = none := by kernel_rfl
@[simp] theorem ty_sc3 : scalar Try.prog 3 = true := by kernel_rfl
@[simp] theorem ty_var3 : varSize Try.prog 3 = some 1 := by kernel_rfl
@[simp] theorem ty_zero3 : zeroA Try.prog 3 = some [AV.v (.int .i64 0)] := by kernel_rfl
@[simp] theorem ty_int3 : intKind Try.prog 3 = some .i64 := by kernel_rfl
@[simp] theorem ty_agg4 : aggSize Try.prog 4 = none := by kernel_rfl
@[simp] theorem ty_sc4 : scalar Try.prog 4 = true := by kernel_rfl
@[simp] theorem ty_var4 : varSize Try.prog 4 = some 1 := by kernel_rfl
@[simp] theorem ty_bool4 : isBool Try.prog 4 = true := by kernel_rfl
@[simp] theorem ty_agg5 : aggSize Try.prog 5 = none := by kernel_rfl
@[simp] theorem ty_sc5 : scalar Try.prog 5 = true := by kernel_rfl
@[simp] theorem ty_var5 : varSize Try.prog 5 = some 1 := by kernel_rfl
@[simp] theorem ty_int5 : intKind Try.prog 5 = some .u8 := by kernel_rfl
@[simp] theorem ty_agg22 : aggSize Try.prog 22 = none := by kernel_rfl
@[simp] theorem ty_sc22 : scalar Try.prog 22 = true := by kernel_rfl
@[simp] theorem ty_var22 : varSize Try.prog 22 = some 1 := by kernel_rfl
@[simp] theorem ty_isl22 : isSlice Try.prog 22 = true := by kernel_rfl
@[simp] theorem ty_el22 : slElem Try.prog 22 = some 50 := by kernel_rfl
@[simp] theorem ty_es22 : elemSize Try.prog 22 = some 3 := by kernel_rfl
@[simp] theorem ty_ef22 : elemFits Try.prog 22 = true := by kernel_rfl
@[simp] theorem ty_agg24 : aggSize Try.prog 24 = some 4 := by kernel_rfl
@[simp] theorem ty_var24 : varSize Try.prog 24 = some 4 := by kernel_rfl
@[simp] theorem ty_pl24 : places Try.prog 24 = some [(0, 1), (1, 1), (2, 1), (3, 1)] := by kernel_rfl
@[simp] theorem ty_zero24 : zeroA Try.prog 24 = some [AV.v (.int .i64 0), AV.v (.int .i64 0), AV.sl .nil 0 [], AV.v (.int .i64 0)] := by kernel_rfl
@[simp] theorem ty_agg28 : aggSize Try.prog 28 = none := by kernel_rfl
@[simp] theorem ty_sc28 : scalar Try.prog 28 = true := by kernel_rfl
@[simp] theorem ty_var28 : varSize Try.prog 28 = some 1 := by kernel_rfl
@[simp] theorem ty_zero28 : zeroA Try.prog 28 = some [AV.v (.int .i64 0)] := by kernel_rfl
@[simp] theorem ty_int28 : intKind Try.prog 28 = some .i64 := by kernel_rfl
@[simp] theorem ty_agg31 : aggSize Try.prog 31 = none := by kernel_rfl
@[simp] theorem ty_sc31 : scalar Try.prog 31 = true := by kernel_rfl
@[simp] theorem ty_var31 : varSize Try.prog 31 = some 1 := by kernel_rfl
@[simp] theorem ty_isl31 : isSlice Try.prog 31 = true := by kernel_rfl
@[simp] theorem ty_el31 : slElem Try.prog 31 = some 63 := by kernel_rfl
@[simp] theorem ty_es31 : elemSize Try.prog 31 = some 3 := by kernel_rfl
@[simp] theorem ty_ef31 : elemFits Try.prog 31 = true := by kernel_rfl
@[simp] theorem ty_agg38 : aggSize Try.prog 38 = some 2 := by kernel_rfl
@[simp] theorem ty_var38 : varSize Try.prog 38 = some 2 := by kernel_rfl
@[simp] theorem ty_pl38 : places Try.prog 38 = some [(0, 1), (1, 1)] := by kernel_rfl
@[simp] theorem ty_flat38 : flatInts Try.prog 38 = some 2 := by kernel_rfl
@[simp] theorem ty_agg39 : aggSize Try.prog 39 = none := by kernel_rfl
@[simp] theorem ty_sc39 : scalar Try.prog 39 = true := by kernel_rfl
@[simp] theorem ty_var39 : varSize Try.prog 39 = some 1 := by kernel_rfl
@[simp] theorem ty_isl39 : isSlice Try.prog 39 = true := by kernel_rfl
@[simp] theorem ty_el39 : slElem Try.prog 39 = some 3 := by kernel_rfl
@[simp] theorem ty_es39 : elemSize Try.prog 39 = some 1 := by kernel_rfl
@[simp] theorem ty_ef39 : elemFits Try.prog 39 = true := by kernel_rfl
@[simp] theorem ty_agg50 : aggSize Try.prog 50 = some 3 := by kernel_rfl
@[simp] theorem ty_var50 : varSize Try.prog 50 = some 3 := by kernel_rfl
@[simp] theorem ty_pl50 : places Try.prog 50 = some [(0, 1), (1, 1), (2, 1)] := by kernel_rfl
@[simp] theorem ty_flat50 : flatInts Try.prog 50 = some 3 := by kernel_rfl
@[simp] theorem ty_zero50 : zeroA Try.prog 50 = some [AV.v (.int .i64 0), AV.v (.int .i64 0), AV.v (.int .i64 0)] := by kernel_rfl
@[simp] theorem ty_agg63 : aggSize Try.prog 63 = some 3 := by kernel_rfl
@[simp] theorem ty_var63 : varSize Try.prog 63 = some 3 := by kernel_rfl
@[simp] theorem ty_pl63 : places Try.prog 63 = some [(0, 1), (1, 1), (2, 1)] := by kernel_rfl
@[simp] theorem ty_flat63 : flatInts Try.prog 63 = some 3 := by kernel_rfl
@[simp] theorem ty_zero63 : zeroA Try.prog 63 = some [AV.v (.int .i64 0), AV.v (.int .i64 0), AV.v (.int .i64 0)] := by kernel_rfl
@[simp] theorem ty_agg64 : aggSize Try.prog 64 = none := by kernel_rfl
@[simp] theorem ty_sc64 : scalar Try.prog 64 = true := by kernel_rfl
@[simp] theorem ty_var64 : varSize Try.prog 64 = some 1 := by kernel_rfl
@[simp] theorem ty_zero64 : zeroA Try.prog 64 = some [AV.v (.pointer none)] := by kernel_rfl
@[simp] theorem ty_agg68 : aggSize Try.prog 68 = none := by kernel_rfl
@[simp] theorem ty_sc68 : scalar Try.prog 68 = true := by kernel_rfl
@[simp] theorem ty_var68 : varSize Try.prog 68 = some 1 := by kernel_rfl
@[simp] theorem ty_isl68 : isSlice Try.prog 68 = true := by kernel_rfl
@[simp] theorem ty_el68 : slElem Try.prog 68 = some 31 := by kernel_rfl
@[simp] theorem ty_es68 : elemSize Try.prog 68 = some 1 := by kernel_rfl
@[simp] theorem ty_ef68 : elemFits Try.prog 68 = true := by kernel_rfl
@[simp] theorem ty_agg72 : aggSize Try.prog 72 = none := by kernel_rfl
@[simp] theorem ty_sc72 : scalar Try.prog 72 = true := by kernel_rfl
@[simp] theorem ty_var72 : varSize Try.prog 72 = some 1 := by kernel_rfl
@[simp] theorem ty_agg75 : aggSize Try.prog 75 = none := by kernel_rfl
@[simp] theorem ty_sc75 : scalar Try.prog 75 = true := by kernel_rfl
@[simp] theorem ty_var75 : varSize Try.prog 75 = some 1 := by kernel_rfl
@[simp] theorem ty_zero75 : zeroA Try.prog 75 = some [AV.v (.map none)] := by kernel_rfl
@[simp] theorem ty_map75 : mapTy Try.prog 75 = some (3, 3) := by kernel_rfl
@[simp] theorem ty_mz75 : zeroInt Try.prog 3 = some .i64 := by kernel_rfl
@[simp] theorem ty_agg82 : aggSize Try.prog 82 = none := by kernel_rfl
@[simp] theorem ty_sc82 : scalar Try.prog 82 = true := by kernel_rfl
@[simp] theorem ty_var82 : varSize Try.prog 82 = some 1 := by kernel_rfl
@[simp] theorem ty_agg85 : aggSize Try.prog 85 = none := by kernel_rfl
@[simp] theorem ty_sc85 : scalar Try.prog 85 = true := by kernel_rfl
@[simp] theorem ty_var85 : varSize Try.prog 85 = some 1 := by kernel_rfl
@[simp] theorem ty_agg88 : aggSize Try.prog 88 = some 5 := by kernel_rfl
@[simp] theorem ty_var88 : varSize Try.prog 88 = some 5 := by kernel_rfl
@[simp] theorem ty_arr88 : arrOf Try.prog 88 = some (5, 1) := by kernel_rfl
@[simp] theorem ty_arx88 : arrIx Try.prog 88 = some (5, 3, 1) := by kernel_rfl
@[simp] theorem ty_pl88 : places Try.prog 88 = some [(0, 1), (1, 1), (2, 1), (3, 1), (4, 1)] := by kernel_rfl
@[simp] theorem ty_agg90 : aggSize Try.prog 90 = some 10 := by kernel_rfl
@[simp] theorem ty_var90 : varSize Try.prog 90 = some 10 := by kernel_rfl
@[simp] theorem ty_pl90 : places Try.prog 90 = some [(0, 5), (5, 5)] := by kernel_rfl
@[simp] theorem ty_zero90 : zeroA Try.prog 90 = some [AV.v (.int .i64 0), AV.v (.int .i64 0), AV.v (.int .i64 0), AV.v (.int .i64 0), AV.v (.int .i64 0), AV.v (.int .i64 0), AV.v (.int .i64 0), AV.v (.int .i64 0), AV.v (.int .i64 0), AV.v (.int .i64 0)] := by kernel_rfl
@[simp] theorem ty_agg93 : aggSize Try.prog 93 = none := by kernel_rfl
@[simp] theorem ty_sc93 : scalar Try.prog 93 = true := by kernel_rfl
@[simp] theorem ty_var93 : varSize Try.prog 93 = some 1 := by kernel_rfl
@[simp] theorem ty_agg99 : aggSize Try.prog 99 = none := by kernel_rfl
@[simp] theorem ty_sc99 : scalar Try.prog 99 = true := by kernel_rfl
@[simp] theorem ty_var99 : varSize Try.prog 99 = some 1 := by kernel_rfl
@[simp] theorem ty_zero99 : zeroA Try.prog 99 = some [AV.v (.map none)] := by kernel_rfl
@[simp] theorem ty_map99 : mapTy Try.prog 99 = some (63, 3) := by kernel_rfl
@[simp] theorem ty_mz99 : zeroInt Try.prog 3 = some .i64 := by kernel_rfl
@[simp] theorem ty_agg101 : aggSize Try.prog 101 = some 5 := by kernel_rfl
@[simp] theorem ty_var101 : varSize Try.prog 101 = some 5 := by kernel_rfl
@[simp] theorem ty_pl101 : places Try.prog 101 = some [(0, 4), (4, 1)] := by kernel_rfl
@[simp] theorem ty_zero101 : zeroA Try.prog 101 = some [AV.v (.int .i64 0), AV.v (.int .i64 0), AV.sl .nil 0 [], AV.v (.int .i64 0), AV.sl .nil 0 []] := by kernel_rfl
@[simp] theorem ty_agg105 : aggSize Try.prog 105 = none := by kernel_rfl
@[simp] theorem ty_sc105 : scalar Try.prog 105 = true := by kernel_rfl
@[simp] theorem ty_var105 : varSize Try.prog 105 = some 1 := by kernel_rfl
@[simp] theorem ty_int105 : intKind Try.prog 105 = some .u64 := by kernel_rfl
@[simp] theorem ty_agg107 : aggSize Try.prog 107 = some 4 := by kernel_rfl
@[simp] theorem ty_var107 : varSize Try.prog 107 = some 4 := by kernel_rfl
@[simp] theorem ty_arr107 : arrOf Try.prog 107 = some (4, 1) := by kernel_rfl
@[simp] theorem ty_arx107 : arrIx Try.prog 107 = some (4, 3, 1) := by kernel_rfl
@[simp] theorem ty_pl107 : places Try.prog 107 = some [(0, 1), (1, 1), (2, 1), (3, 1)] := by kernel_rfl
@[simp] theorem ty_zero107 : zeroA Try.prog 107 = some [AV.v (.int .i64 0), AV.v (.int .i64 0), AV.v (.int .i64 0), AV.v (.int .i64 0)] := by kernel_rfl
@[simp] theorem ty_agg111 : aggSize Try.prog 111 = none := by kernel_rfl
@[simp] theorem ty_sc111 : scalar Try.prog 111 = true := by kernel_rfl
@[simp] theorem ty_var111 : varSize Try.prog 111 = some 1 := by kernel_rfl
@[simp] theorem ty_agg112 : aggSize Try.prog 112 = none := by kernel_rfl
@[simp] theorem ty_sc112 : scalar Try.prog 112 = true := by kernel_rfl
@[simp] theorem ty_var112 : varSize Try.prog 112 = some 1 := by kernel_rfl
@[simp] theorem ty_agg113 : aggSize Try.prog 113 = none := by kernel_rfl
@[simp] theorem ty_sc113 : scalar Try.prog 113 = true := by kernel_rfl
@[simp] theorem ty_var113 : varSize Try.prog 113 = some 1 := by kernel_rfl
@[simp] theorem ty_agg117 : aggSize Try.prog 117 = none := by kernel_rfl
@[simp] theorem ty_sc117 : scalar Try.prog 117 = true := by kernel_rfl
@[simp] theorem ty_var117 : varSize Try.prog 117 = some 1 := by kernel_rfl
@[simp] theorem ty_int117 : intKind Try.prog 117 = some .i64 := by kernel_rfl
@[simp] theorem ty_agg125 : aggSize Try.prog 125 = none := by kernel_rfl
@[simp] theorem ty_sc125 : scalar Try.prog 125 = true := by kernel_rfl
@[simp] theorem ty_var125 : varSize Try.prog 125 = some 1 := by kernel_rfl
@[simp] theorem ty_int125 : intKind Try.prog 125 = some .u32 := by kernel_rfl
@[simp] theorem ty_agg127 : aggSize Try.prog 127 = none := by kernel_rfl
@[simp] theorem ty_sc127 : scalar Try.prog 127 = true := by kernel_rfl
@[simp] theorem ty_var127 : varSize Try.prog 127 = some 1 := by kernel_rfl
@[simp] theorem ty_int127 : intKind Try.prog 127 = some .u64 := by kernel_rfl
@[simp] theorem ty_agg130 : aggSize Try.prog 130 = none := by kernel_rfl
@[simp] theorem ty_sc130 : scalar Try.prog 130 = true := by kernel_rfl
@[simp] theorem ty_var130 : varSize Try.prog 130 = some 1 := by kernel_rfl
@[simp] theorem ty_zero130 : zeroA Try.prog 130 = some [AV.v (.int .u64 0)] := by kernel_rfl
@[simp] theorem ty_int130 : intKind Try.prog 130 = some .u64 := by kernel_rfl
@[simp] theorem ty_agg134 : aggSize Try.prog 134 = none := by kernel_rfl
@[simp] theorem ty_sc134 : scalar Try.prog 134 = true := by kernel_rfl
@[simp] theorem ty_var134 : varSize Try.prog 134 = some 1 := by kernel_rfl
@[simp] theorem ty_agg137 : aggSize Try.prog 137 = none := by kernel_rfl
@[simp] theorem ty_sc137 : scalar Try.prog 137 = true := by kernel_rfl
@[simp] theorem ty_var137 : varSize Try.prog 137 = some 1 := by kernel_rfl
@[simp] theorem ty_fo24_0 : fieldOff Try.prog 24 0 = some 0 := by kernel_rfl
@[simp] theorem ty_fo24_1 : fieldOff Try.prog 24 1 = some 1 := by kernel_rfl
@[simp] theorem ty_fo24_2 : fieldOff Try.prog 24 2 = some 2 := by kernel_rfl
@[simp] theorem ty_fo24_3 : fieldOff Try.prog 24 3 = some 3 := by kernel_rfl
@[simp] theorem ty_fo38_0 : fieldOff Try.prog 38 0 = some 0 := by kernel_rfl
@[simp] theorem ty_fo38_1 : fieldOff Try.prog 38 1 = some 1 := by kernel_rfl
@[simp] theorem ty_fo50_0 : fieldOff Try.prog 50 0 = some 0 := by kernel_rfl
@[simp] theorem ty_fo50_1 : fieldOff Try.prog 50 1 = some 1 := by kernel_rfl
@[simp] theorem ty_fo50_2 : fieldOff Try.prog 50 2 = some 2 := by kernel_rfl
@[simp] theorem ty_fo63_0 : fieldOff Try.prog 63 0 = some 0 := by kernel_rfl
@[simp] theorem ty_fo63_1 : fieldOff Try.prog 63 1 = some 1 := by kernel_rfl
@[simp] theorem ty_fo63_2 : fieldOff Try.prog 63 2 = some 2 := by kernel_rfl
@[simp] theorem ty_fo90_0 : fieldOff Try.prog 90 0 = some 0 := by kernel_rfl
@[simp] theorem ty_fo90_1 : fieldOff Try.prog 90 1 = some 5 := by kernel_rfl
@[simp] theorem ty_fo101_0 : fieldOff Try.prog 101 0 = some 0 := by kernel_rfl
@[simp] theorem ty_fo101_1 : fieldOff Try.prog 101 1 = some 4 := by kernel_rfl
end Go.Proofs.Ytneghcnkcfblmaa
