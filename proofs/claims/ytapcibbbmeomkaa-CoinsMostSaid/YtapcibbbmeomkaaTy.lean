/-
  What the abstract machine's runs want to know of this program's types.
  Conditions: none.
-/
import Derived.Test.YtapcibbbmeomkaaAmRr
import Derived.Test.YtapcibbbmeomkaaChecked
set_option linter.all false
namespace Go.Proofs.Ytapcibbbmeomkaa
open Go Go.AM
theorem mixed : Try.prog.follows .mixedOrders = true := Try.checked.mixed
@[simp] theorem ty_agg3 : aggSize Try.prog 3 = none := by kernel_rfl
@[simp] theorem ty_sc3 : scalar Try.prog 3 = true := by kernel_rfl
@[simp] theorem ty_var3 : varSize Try.prog 3 = some 1 := by kernel_rfl
@[simp] theorem ty_zero3 : zeroA Try.prog 3 = some [AV.v (.int .i64 0)] := by kernel_rfl
@[simp] theorem ty_int3 : intKind Try.prog 3 = some .i64 := by kernel_rfl
@[simp] theorem ty_agg4 : aggSize Try.prog 4 = none := by kernel_rfl
@[simp] theorem ty_sc4 : scalar Try.prog 4 = true := by kernel_rfl
@[simp] theorem ty_var4 : varSize Try.prog 4 = some 1 := by kernel_rfl
@[simp] theorem ty_zero4 : zeroA Try.prog 4 = some [AV.v (.bool false)] := by kernel_rfl
@[simp] theorem ty_bool4 : isBool Try.prog 4 = true := by kernel_rfl
@[simp] theorem ty_agg5 : aggSize Try.prog 5 = none := by kernel_rfl
@[simp] theorem ty_sc5 : scalar Try.prog 5 = true := by kernel_rfl
@[simp] theorem ty_var5 : varSize Try.prog 5 = some 1 := by kernel_rfl
@[simp] theorem ty_int5 : intKind Try.prog 5 = some .u8 := by kernel_rfl
@[simp] theorem ty_agg22 : aggSize Try.prog 22 = none := by kernel_rfl
@[simp] theorem ty_sc22 : scalar Try.prog 22 = true := by kernel_rfl
@[simp] theorem ty_var22 : varSize Try.prog 22 = some 1 := by kernel_rfl
@[simp] theorem ty_zero22 : zeroA Try.prog 22 = some [AV.sl .nil 0 []] := by kernel_rfl
@[simp] theorem ty_isl22 : isSlice Try.prog 22 = true := by kernel_rfl
@[simp] theorem ty_el22 : slElem Try.prog 22 = some 3 := by kernel_rfl
@[simp] theorem ty_es22 : elemSize Try.prog 22 = some 1 := by kernel_rfl
@[simp] theorem ty_ef22 : elemFits Try.prog 22 = true := by kernel_rfl
@[simp] theorem ty_agg24 : aggSize Try.prog 24 = some 3 := by kernel_rfl
@[simp] theorem ty_var24 : varSize Try.prog 24 = some 3 := by kernel_rfl
@[simp] theorem ty_pl24 : places Try.prog 24 = some [(0, 1), (1, 1), (2, 1)] := by kernel_rfl
@[simp] theorem ty_zero24 : zeroA Try.prog 24 = some [AV.v (.int .i64 0), AV.sl .nil 0 [], AV.sl .nil 0 []] := by kernel_rfl
@[simp] theorem ty_agg28 : aggSize Try.prog 28 = none := by kernel_rfl
@[simp] theorem ty_sc28 : scalar Try.prog 28 = true := by kernel_rfl
@[simp] theorem ty_var28 : varSize Try.prog 28 = some 1 := by kernel_rfl
@[simp] theorem ty_zero28 : zeroA Try.prog 28 = some [AV.v (.int .i64 0)] := by kernel_rfl
@[simp] theorem ty_int28 : intKind Try.prog 28 = some .i64 := by kernel_rfl
@[simp] theorem ty_agg34 : aggSize Try.prog 34 = some 2 := by kernel_rfl
@[simp] theorem ty_var34 : varSize Try.prog 34 = some 2 := by kernel_rfl
@[simp] theorem ty_pl34 : places Try.prog 34 = some [(0, 1), (1, 1)] := by kernel_rfl
@[simp] theorem ty_flat34 : flatInts Try.prog 34 = some 2 := by kernel_rfl
@[simp] theorem ty_agg42 : aggSize Try.prog 42 = some 2 := by kernel_rfl
@[simp] theorem ty_var42 : varSize Try.prog 42 = some 2 := by kernel_rfl
@[simp] theorem ty_pl42 : places Try.prog 42 = some [(0, 1), (1, 1)] := by kernel_rfl
@[simp] theorem ty_flat42 : flatInts Try.prog 42 = some 2 := by kernel_rfl
@[simp] theorem ty_agg45 : aggSize Try.prog 45 = none := by kernel_rfl
@[simp] theorem ty_sc45 : scalar Try.prog 45 = true := by kernel_rfl
@[simp] theorem ty_var45 : varSize Try.prog 45 = some 1 := by kernel_rfl
@[simp] theorem ty_isl45 : isSlice Try.prog 45 = true := by kernel_rfl
@[simp] theorem ty_el45 : slElem Try.prog 45 = some 50 := by kernel_rfl
@[simp] theorem ty_es45 : elemSize Try.prog 45 = some 2 := by kernel_rfl
@[simp] theorem ty_ef45 : elemFits Try.prog 45 = true := by kernel_rfl
@[simp] theorem ty_agg50 : aggSize Try.prog 50 = some 2 := by kernel_rfl
@[simp] theorem ty_var50 : varSize Try.prog 50 = some 2 := by kernel_rfl
@[simp] theorem ty_pl50 : places Try.prog 50 = some [(0, 1), (1, 1)] := by kernel_rfl
@[simp] theorem ty_flat50 : flatInts Try.prog 50 = some 2 := by kernel_rfl
@[simp] theorem ty_zero50 : zeroA Try.prog 50 = some [AV.v (.int .i64 0), AV.v (.int .i64 0)] := by kernel_rfl
@[simp] theorem ty_agg57 : aggSize Try.prog 57 = some 2 := by kernel_rfl
@[simp] theorem ty_var57 : varSize Try.prog 57 = some 2 := by kernel_rfl
@[simp] theorem ty_pl57 : places Try.prog 57 = some [(0, 1), (1, 1)] := by kernel_rfl
@[simp] theorem ty_flat57 : flatInts Try.prog 57 = some 2 := by kernel_rfl
@[simp] theorem ty_zero57 : zeroA Try.prog 57 = some [AV.v (.int .i64 0), AV.v (.int .i64 0)] := by kernel_rfl
@[simp] theorem ty_agg71 : aggSize Try.prog 71 = some 3 := by kernel_rfl
@[simp] theorem ty_var71 : varSize Try.prog 71 = some 3 := by kernel_rfl
@[simp] theorem ty_pl71 : places Try.prog 71 = some [(0, 3)] := by kernel_rfl
@[simp] theorem ty_zero71 : zeroA Try.prog 71 = some [AV.v (.int .i64 0), AV.sl .nil 0 [], AV.sl .nil 0 []] := by kernel_rfl
@[simp] theorem ty_agg75 : aggSize Try.prog 75 = none := by kernel_rfl
@[simp] theorem ty_sc75 : scalar Try.prog 75 = true := by kernel_rfl
@[simp] theorem ty_var75 : varSize Try.prog 75 = some 1 := by kernel_rfl
@[simp] theorem ty_agg77 : aggSize Try.prog 77 = some 3 := by kernel_rfl
@[simp] theorem ty_var77 : varSize Try.prog 77 = some 3 := by kernel_rfl
@[simp] theorem ty_pl77 : places Try.prog 77 = some [(0, 2), (2, 1)] := by kernel_rfl
@[simp] theorem ty_zero77 : zeroA Try.prog 77 = some [AV.v (.int .i64 0), AV.v (.int .i64 0), AV.v (.int .i64 0)] := by kernel_rfl
@[simp] theorem ty_agg78 : aggSize Try.prog 78 = none := by kernel_rfl
@[simp] theorem ty_sc78 : scalar Try.prog 78 = true := by kernel_rfl
@[simp] theorem ty_var78 : varSize Try.prog 78 = some 1 := by kernel_rfl
@[simp] theorem ty_isl78 : isSlice Try.prog 78 = true := by kernel_rfl
@[simp] theorem ty_el78 : slElem Try.prog 78 = some 77 := by kernel_rfl
@[simp] theorem ty_es78 : elemSize Try.prog 78 = some 3 := by kernel_rfl
@[simp] theorem ty_ef78 : elemFits Try.prog 78 = true := by kernel_rfl
@[simp] theorem ty_agg79 : aggSize Try.prog 79 = none := by kernel_rfl
@[simp] theorem ty_sc79 : scalar Try.prog 79 = true := by kernel_rfl
@[simp] theorem ty_var79 : varSize Try.prog 79 = some 1 := by kernel_rfl
@[simp] theorem ty_isl79 : isSlice Try.prog 79 = true := by kernel_rfl
@[simp] theorem ty_el79 : slElem Try.prog 79 = some 78 := by kernel_rfl
@[simp] theorem ty_es79 : elemSize Try.prog 79 = some 1 := by kernel_rfl
@[simp] theorem ty_ef79 : elemFits Try.prog 79 = true := by kernel_rfl
@[simp] theorem ty_agg80 : aggSize Try.prog 80 = none := by kernel_rfl
@[simp] theorem ty_sc80 : scalar Try.prog 80 = true := by kernel_rfl
@[simp] theorem ty_var80 : varSize Try.prog 80 = some 1 := by kernel_rfl
@[simp] theorem ty_map80 : mapTy Try.prog 80 = some (77, 3) := by kernel_rfl
@[simp] theorem ty_mz80 : zeroInt Try.prog 3 = some .i64 := by kernel_rfl
@[simp] theorem ty_agg81 : aggSize Try.prog 81 = none := by kernel_rfl
@[simp] theorem ty_sc81 : scalar Try.prog 81 = true := by kernel_rfl
@[simp] theorem ty_var81 : varSize Try.prog 81 = some 1 := by kernel_rfl
@[simp] theorem ty_isl81 : isSlice Try.prog 81 = true := by kernel_rfl
@[simp] theorem ty_el81 : slElem Try.prog 81 = some 57 := by kernel_rfl
@[simp] theorem ty_es81 : elemSize Try.prog 81 = some 2 := by kernel_rfl
@[simp] theorem ty_ef81 : elemFits Try.prog 81 = true := by kernel_rfl
@[simp] theorem ty_agg86 : aggSize Try.prog 86 = none := by kernel_rfl
@[simp] theorem ty_sc86 : scalar Try.prog 86 = true := by kernel_rfl
@[simp] theorem ty_var86 : varSize Try.prog 86 = some 1 := by kernel_rfl
@[simp] theorem ty_zero86 : zeroA Try.prog 86 = some [AV.v (.pointer none)] := by kernel_rfl
@[simp] theorem ty_agg88 : aggSize Try.prog 88 = some 4 := by kernel_rfl
@[simp] theorem ty_var88 : varSize Try.prog 88 = some 4 := by kernel_rfl
@[simp] theorem ty_arr88 : arrOf Try.prog 88 = some (4, 1) := by kernel_rfl
@[simp] theorem ty_arx88 : arrIx Try.prog 88 = some (4, 3, 1) := by kernel_rfl
@[simp] theorem ty_pl88 : places Try.prog 88 = some [(0, 1), (1, 1), (2, 1), (3, 1)] := by kernel_rfl
@[simp] theorem ty_agg90 : aggSize Try.prog 90 = some 6 := by kernel_rfl
@[simp] theorem ty_var90 : varSize Try.prog 90 = some 6 := by kernel_rfl
@[simp] theorem ty_pl90 : places Try.prog 90 = some [(0, 4), (4, 1), (5, 1)] := by kernel_rfl
@[simp] theorem ty_zero90 : zeroA Try.prog 90 = some [AV.v (.int .i64 0), AV.v (.int .i64 0), AV.v (.int .i64 0), AV.v (.int .i64 0), AV.v (.int .i64 0), AV.v (.int .i64 0)] := by kernel_rfl
@[simp] theorem ty_agg93 : aggSize Try.prog 93 = none := by kernel_rfl
@[simp] theorem ty_sc93 : scalar Try.prog 93 = true := by kernel_rfl
@[simp] theorem ty_var93 : varSize Try.prog 93 = some 1 := by kernel_rfl
@[simp] theorem ty_agg95 : aggSize Try.prog 95 = none := by kernel_rfl
@[simp] theorem ty_sc95 : scalar Try.prog 95 = true := by kernel_rfl
@[simp] theorem ty_var95 : varSize Try.prog 95 = some 1 := by kernel_rfl
@[simp] theorem ty_zero95 : zeroA Try.prog 95 = some [AV.v .nilFunc] := by kernel_rfl
@[simp] theorem ty_agg102 : aggSize Try.prog 102 = none := by kernel_rfl
@[simp] theorem ty_sc102 : scalar Try.prog 102 = true := by kernel_rfl
@[simp] theorem ty_var102 : varSize Try.prog 102 = some 1 := by kernel_rfl
@[simp] theorem ty_agg109 : aggSize Try.prog 109 = none := by kernel_rfl
@[simp] theorem ty_sc109 : scalar Try.prog 109 = true := by kernel_rfl
@[simp] theorem ty_var109 : varSize Try.prog 109 = some 1 := by kernel_rfl
@[simp] theorem ty_agg112 : aggSize Try.prog 112 = none := by kernel_rfl
@[simp] theorem ty_sc112 : scalar Try.prog 112 = true := by kernel_rfl
@[simp] theorem ty_var112 : varSize Try.prog 112 = some 1 := by kernel_rfl
@[simp] theorem ty_map112 : mapTy Try.prog 112 = some (90, 3) := by kernel_rfl
@[simp] theorem ty_mz112 : zeroInt Try.prog 3 = some .i64 := by kernel_rfl
@[simp] theorem ty_agg114 : aggSize Try.prog 114 = some 5 := by kernel_rfl
@[simp] theorem ty_var114 : varSize Try.prog 114 = some 5 := by kernel_rfl
@[simp] theorem ty_pl114 : places Try.prog 114 = some [(0, 3), (3, 1), (4, 1)] := by kernel_rfl
@[simp] theorem ty_zero114 : zeroA Try.prog 114 = some [AV.v (.int .i64 0), AV.sl .nil 0 [], AV.sl .nil 0 [], AV.v .nilFunc, AV.v (.map none)] := by kernel_rfl
@[simp] theorem ty_agg115 : aggSize Try.prog 115 = none := by kernel_rfl
@[simp] theorem ty_sc115 : scalar Try.prog 115 = true := by kernel_rfl
@[simp] theorem ty_var115 : varSize Try.prog 115 = some 1 := by kernel_rfl
@[simp] theorem ty_agg116 : aggSize Try.prog 116 = none := by kernel_rfl
@[simp] theorem ty_sc116 : scalar Try.prog 116 = true := by kernel_rfl
@[simp] theorem ty_var116 : varSize Try.prog 116 = some 1 := by kernel_rfl
@[simp] theorem ty_isl116 : isSlice Try.prog 116 = true := by kernel_rfl
@[simp] theorem ty_el116 : slElem Try.prog 116 = some 22 := by kernel_rfl
@[simp] theorem ty_es116 : elemSize Try.prog 116 = some 1 := by kernel_rfl
@[simp] theorem ty_ef116 : elemFits Try.prog 116 = true := by kernel_rfl
@[simp] theorem ty_agg119 : aggSize Try.prog 119 = none := by kernel_rfl
@[simp] theorem ty_sc119 : scalar Try.prog 119 = true := by kernel_rfl
@[simp] theorem ty_var119 : varSize Try.prog 119 = some 1 := by kernel_rfl
@[simp] theorem ty_isl119 : isSlice Try.prog 119 = true := by kernel_rfl
@[simp] theorem ty_el119 : slElem Try.prog 119 = some 45 := by kernel_rfl
@[simp] theorem ty_es119 : elemSize Try.prog 119 = some 1 := by kernel_rfl
@[simp] theorem ty_ef119 : elemFits Try.prog 119 = true := by kernel_rfl
@[simp] theorem ty_agg122 : aggSize Try.prog 122 = some 2 := by kernel_rfl
@[simp] theorem ty_var122 : varSize Try.prog 122 = some 2 := by kernel_rfl
@[simp] theorem ty_pl122 : places Try.prog 122 = some [(0, 1), (1, 1)] := by kernel_rfl
@[simp] theorem ty_flat122 : flatInts Try.prog 122 = some 2 := by kernel_rfl
@[simp] theorem ty_zero122 : zeroA Try.prog 122 = some [AV.v (.int .i64 0), AV.v (.int .i64 0)] := by kernel_rfl
@[simp] theorem ty_agg127 : aggSize Try.prog 127 = none := by kernel_rfl
@[simp] theorem ty_sc127 : scalar Try.prog 127 = true := by kernel_rfl
@[simp] theorem ty_var127 : varSize Try.prog 127 = some 1 := by kernel_rfl
@[simp] theorem ty_agg131 : aggSize Try.prog 131 = none := by kernel_rfl
@[simp] theorem ty_sc131 : scalar Try.prog 131 = true := by kernel_rfl
@[simp] theorem ty_var131 : varSize Try.prog 131 = some 1 := by kernel_rfl
@[simp] theorem ty_int131 : intKind Try.prog 131 = some .u64 := by kernel_rfl
@[simp] theorem ty_agg134 : aggSize Try.prog 134 = none := by kernel_rfl
@[simp] theorem ty_sc134 : scalar Try.prog 134 = true := by kernel_rfl
@[simp] theorem ty_var134 : varSize Try.prog 134 = some 1 := by kernel_rfl
@[simp] theorem ty_map134 : mapTy Try.prog 134 = some (3, 3) := by kernel_rfl
@[simp] theorem ty_mz134 : zeroInt Try.prog 3 = some .i64 := by kernel_rfl
@[simp] theorem ty_agg137 : aggSize Try.prog 137 = none := by kernel_rfl
@[simp] theorem ty_sc137 : scalar Try.prog 137 = true := by kernel_rfl
@[simp] theorem ty_var137 : varSize Try.prog 137 = some 1 := by kernel_rfl
@[simp] theorem ty_int137 : intKind Try.prog 137 = some .i64 := by kernel_rfl
@[simp] theorem ty_agg143 : aggSize Try.prog 143 = none := by kernel_rfl
@[simp] theorem ty_sc143 : scalar Try.prog 143 = true := by kernel_rfl
@[simp] theorem ty_var143 : varSize Try.prog 143 = some 1 := by kernel_rfl
@[simp] theorem ty_int143 : intKind Try.prog 143 = some .u32 := by kernel_rfl
@[simp] theorem ty_agg145 : aggSize Try.prog 145 = none := by kernel_rfl
@[simp] theorem ty_sc145 : scalar Try.prog 145 = true := by kernel_rfl
@[simp] theorem ty_var145 : varSize Try.prog 145 = some 1 := by kernel_rfl
@[simp] theorem ty_int145 : intKind Try.prog 145 = some .u64 := by kernel_rfl
@[simp] theorem ty_agg148 : aggSize Try.prog 148 = none := by kernel_rfl
@[simp] theorem ty_sc148 : scalar Try.prog 148 = true := by kernel_rfl
@[simp] theorem ty_var148 : varSize Try.prog 148 = some 1 := by kernel_rfl
@[simp] theorem ty_zero148 : zeroA Try.prog 148 = some [AV.v (.int .u64 0)] := by kernel_rfl
@[simp] theorem ty_int148 : intKind Try.prog 148 = some .u64 := by kernel_rfl
@[simp] theorem ty_agg152 : aggSize Try.prog 152 = none := by kernel_rfl
@[simp] theorem ty_sc152 : scalar Try.prog 152 = true := by kernel_rfl
@[simp] theorem ty_var152 : varSize Try.prog 152 = some 1 := by kernel_rfl
@[simp] theorem ty_agg154 : aggSize Try.prog 154 = none := by kernel_rfl
@[simp] theorem ty_sc154 : scalar Try.prog 154 = true := by kernel_rfl
@[simp] theorem ty_var154 : varSize Try.prog 154 = some 1 := by kernel_rfl
@[simp] theorem ty_ft122_0 : fieldType Try.prog 122 0 = some (0, 3) := by kernel_rfl
@[simp] theorem ty_ft122_1 : fieldType Try.prog 122 1 = some (1, 3) := by kernel_rfl
@[simp] theorem ty_fo24_0 : fieldOff Try.prog 24 0 = some 0 := by kernel_rfl
@[simp] theorem ty_fo24_1 : fieldOff Try.prog 24 1 = some 1 := by kernel_rfl
@[simp] theorem ty_fo24_2 : fieldOff Try.prog 24 2 = some 2 := by kernel_rfl
@[simp] theorem ty_fo34_0 : fieldOff Try.prog 34 0 = some 0 := by kernel_rfl
@[simp] theorem ty_fo34_1 : fieldOff Try.prog 34 1 = some 1 := by kernel_rfl
@[simp] theorem ty_fo42_0 : fieldOff Try.prog 42 0 = some 0 := by kernel_rfl
@[simp] theorem ty_fo42_1 : fieldOff Try.prog 42 1 = some 1 := by kernel_rfl
@[simp] theorem ty_fo50_0 : fieldOff Try.prog 50 0 = some 0 := by kernel_rfl
@[simp] theorem ty_fo50_1 : fieldOff Try.prog 50 1 = some 1 := by kernel_rfl
@[simp] theorem ty_fo57_0 : fieldOff Try.prog 57 0 = some 0 := by kernel_rfl
@[simp] theorem ty_fo57_1 : fieldOff Try.prog 57 1 = some 1 := by kernel_rfl
@[simp] theorem ty_fo71_0 : fieldOff Try.prog 71 0 = some 0 := by kernel_rfl
@[simp] theorem ty_fo77_0 : fieldOff Try.prog 77 0 = some 0 := by kernel_rfl
@[simp] theorem ty_fo77_1 : fieldOff Try.prog 77 1 = some 2 := by kernel_rfl
@[simp] theorem ty_fo90_0 : fieldOff Try.prog 90 0 = some 0 := by kernel_rfl
@[simp] theorem ty_fo90_1 : fieldOff Try.prog 90 1 = some 4 := by kernel_rfl
@[simp] theorem ty_fo90_2 : fieldOff Try.prog 90 2 = some 5 := by kernel_rfl
@[simp] theorem ty_fo114_0 : fieldOff Try.prog 114 0 = some 0 := by kernel_rfl
@[simp] theorem ty_fo114_1 : fieldOff Try.prog 114 1 = some 3 := by kernel_rfl
@[simp] theorem ty_fo114_2 : fieldOff Try.prog 114 2 = some 4 := by kernel_rfl
@[simp] theorem ty_fo122_0 : fieldOff Try.prog 122 0 = some 0 := by kernel_rfl
@[simp] theorem ty_fo122_1 : fieldOff Try.prog 122 1 = some 1 := by kernel_rfl
end Go.Proofs.Ytapcibbbmeomkaa
