/-
  What the abstract machine's runs want to know of this program's types.
  Conditions: none.
-/
import Derived.Test.YtekplngjaddccaaAmX
import Derived.Test.YtekplngjaddccaaChecked
set_option linter.all false
namespace Go.Proofs.Ytekplngjaddccaa
open Go Go.AM

theorem mixed : Try.prog.follows .mixedOrders = true := Try.checked.mixed

@[simp] theorem ty_agg3 : aggSize Try.prog 3 = none := by kernel_rfl
@[simp] theorem ty_sc3 : scalar Try.prog 3 = true := by kernel_rfl
@[simp] theorem ty_var3 : varSize Try.prog 3 = some 1 := by kernel_rfl
@[simp] theorem ty_zero3 : zeroA Try.prog 3 = some [AV.v (.int .i64 0)] := by kernel_rfl
@[simp] theorem ty_int3 : intKind Try.prog 3 = some .i64 := by kernel_rfl
@[simp] theorem ty_agg4 : aggSize Try.prog 4 = none := by kernel_rfl
@[simp] theorem ty_sc4 : scalar Try.prog 4 = true := by kernel_rfl
@[simp] theorem ty_var4 : varSize Try.prog 4 = some 1 := by kernel_rfl
@[simp] theorem ty_bool4 : isBool Try.prog 4 = true := by kernel_rfl
@[simp] theorem ty_agg22 : aggSize Try.prog 22 = none := by kernel_rfl
@[simp] theorem ty_sc22 : scalar Try.prog 22 = true := by kernel_rfl
@[simp] theorem ty_var22 : varSize Try.prog 22 = some 1 := by kernel_rfl
@[simp] theorem ty_zero22 : zeroA Try.prog 22 = some [AV.sl .nil 0 []] := by kernel_rfl
@[simp] theorem ty_isl22 : isSlice Try.prog 22 = true := by kernel_rfl
@[simp] theorem ty_el22 : slElem Try.prog 22 = some 3 := by kernel_rfl
@[simp] theorem ty_es22 : elemSize Try.prog 22 = some 1 := by kernel_rfl
@[simp] theorem ty_ef22 : elemFits Try.prog 22 = true := by kernel_rfl
@[simp] theorem ty_agg24 : aggSize Try.prog 24 = some 8 := by kernel_rfl
@[simp] theorem ty_var24 : varSize Try.prog 24 = some 8 := by kernel_rfl
@[simp] theorem ty_pl24 : places Try.prog 24 = some [(0, 1), (1, 1), (2, 1), (3, 1), (4, 1), (5, 1), (6, 1), (7, 1)] := by kernel_rfl
@[simp] theorem ty_zero24 : zeroA Try.prog 24 = some [AV.v (.int .i64 0), AV.v (.int .i64 0), AV.v (.int .i64 0), AV.v (.int .i64 0), AV.v (.int .i64 0), AV.v (.int .i64 0), AV.v (.int .i64 0), AV.sl .nil 0 []] := by kernel_rfl
@[simp] theorem ty_agg25 : aggSize Try.prog 25 = none := by kernel_rfl
@[simp] theorem ty_sc25 : scalar Try.prog 25 = true := by kernel_rfl
@[simp] theorem ty_var25 : varSize Try.prog 25 = some 1 := by kernel_rfl
@[simp] theorem ty_agg27 : aggSize Try.prog 27 = none := by kernel_rfl
@[simp] theorem ty_sc27 : scalar Try.prog 27 = true := by kernel_rfl
@[simp] theorem ty_var27 : varSize Try.prog 27 = some 1 := by kernel_rfl
@[simp] theorem ty_zero27 : zeroA Try.prog 27 = some [AV.v (.int .i64 0)] := by kernel_rfl
@[simp] theorem ty_int27 : intKind Try.prog 27 = some .i64 := by kernel_rfl
@[simp] theorem ty_agg44 : aggSize Try.prog 44 = some 2 := by kernel_rfl
@[simp] theorem ty_var44 : varSize Try.prog 44 = some 2 := by kernel_rfl
@[simp] theorem ty_pl44 : places Try.prog 44 = some [(0, 1), (1, 1)] := by kernel_rfl
@[simp] theorem ty_flat44 : flatInts Try.prog 44 = some 2 := by kernel_rfl
@[simp] theorem ty_zero44 : zeroA Try.prog 44 = some [AV.v (.int .i64 0), AV.v (.int .i64 0)] := by kernel_rfl
@[simp] theorem ty_agg52 : aggSize Try.prog 52 = none := by kernel_rfl
@[simp] theorem ty_sc52 : scalar Try.prog 52 = true := by kernel_rfl
@[simp] theorem ty_var52 : varSize Try.prog 52 = some 1 := by kernel_rfl
@[simp] theorem ty_isl52 : isSlice Try.prog 52 = true := by kernel_rfl
@[simp] theorem ty_el52 : slElem Try.prog 52 = some 55 := by kernel_rfl
@[simp] theorem ty_es52 : elemSize Try.prog 52 = some 3 := by kernel_rfl
@[simp] theorem ty_ef52 : elemFits Try.prog 52 = true := by kernel_rfl
@[simp] theorem ty_agg55 : aggSize Try.prog 55 = some 3 := by kernel_rfl
@[simp] theorem ty_var55 : varSize Try.prog 55 = some 3 := by kernel_rfl
@[simp] theorem ty_pl55 : places Try.prog 55 = some [(0, 1), (1, 1), (2, 1)] := by kernel_rfl
@[simp] theorem ty_flat55 : flatInts Try.prog 55 = some 3 := by kernel_rfl
@[simp] theorem ty_zero55 : zeroA Try.prog 55 = some [AV.v (.int .i64 0), AV.v (.int .i64 0), AV.v (.int .i64 0)] := by kernel_rfl
@[simp] theorem ty_agg58 : aggSize Try.prog 58 = some 3 := by kernel_rfl
@[simp] theorem ty_var58 : varSize Try.prog 58 = some 3 := by kernel_rfl
@[simp] theorem ty_pl58 : places Try.prog 58 = some [(0, 1), (1, 1), (2, 1)] := by kernel_rfl
@[simp] theorem ty_flat58 : flatInts Try.prog 58 = some 3 := by kernel_rfl
@[simp] theorem ty_zero58 : zeroA Try.prog 58 = some [AV.v (.int .i64 0), AV.v (.int .i64 0), AV.v (.int .i64 0)] := by kernel_rfl
@[simp] theorem ty_agg59 : aggSize Try.prog 59 = some 24 := by kernel_rfl
@[simp] theorem ty_var59 : varSize Try.prog 59 = some 24 := by kernel_rfl
@[simp] theorem ty_arr59 : arrOf Try.prog 59 = some (8, 3) := by kernel_rfl
@[simp] theorem ty_arx59 : arrIx Try.prog 59 = some (8, 58, 3) := by kernel_rfl
@[simp] theorem ty_pl59 : places Try.prog 59 = some [(0, 3), (3, 3), (6, 3), (9, 3), (12, 3), (15, 3), (18, 3), (21, 3)] := by kernel_rfl
@[simp] theorem ty_zero59 : zeroA Try.prog 59 = some [AV.v (.int .i64 0), AV.v (.int .i64 0), AV.v (.int .i64 0), AV.v (.int .i64 0), AV.v (.int .i64 0), AV.v (.int .i64 0), AV.v (.int .i64 0), AV.v (.int .i64 0), AV.v (.int .i64 0), AV.v (.int .i64 0), AV.v (.int .i64 0), AV.v (.int .i64 0), AV.v (.int .i64 0), AV.v (.int .i64 0), AV.v (.int .i64 0), AV.v (.int .i64 0), AV.v (.int .i64 0), AV.v (.int .i64 0), AV.v (.int .i64 0), AV.v (.int .i64 0), AV.v (.int .i64 0), AV.v (.int .i64 0), AV.v (.int .i64 0), AV.v (.int .i64 0)] := by kernel_rfl
@[simp] theorem ty_agg62 : aggSize Try.prog 62 = some 8 := by kernel_rfl
@[simp] theorem ty_var62 : varSize Try.prog 62 = some 8 := by kernel_rfl
@[simp] theorem ty_pl62 : places Try.prog 62 = some [(0, 8)] := by kernel_rfl
@[simp] theorem ty_zero62 : zeroA Try.prog 62 = some [AV.v (.int .i64 0), AV.v (.int .i64 0), AV.v (.int .i64 0), AV.v (.int .i64 0), AV.v (.int .i64 0), AV.v (.int .i64 0), AV.v (.int .i64 0), AV.sl .nil 0 []] := by kernel_rfl
@[simp] theorem ty_agg63 : aggSize Try.prog 63 = none := by kernel_rfl
@[simp] theorem ty_sc63 : scalar Try.prog 63 = true := by kernel_rfl
@[simp] theorem ty_var63 : varSize Try.prog 63 = some 1 := by kernel_rfl
@[simp] theorem ty_agg65 : aggSize Try.prog 65 = none := by kernel_rfl
@[simp] theorem ty_sc65 : scalar Try.prog 65 = true := by kernel_rfl
@[simp] theorem ty_var65 : varSize Try.prog 65 = some 1 := by kernel_rfl
@[simp] theorem ty_agg66 : aggSize Try.prog 66 = none := by kernel_rfl
@[simp] theorem ty_sc66 : scalar Try.prog 66 = true := by kernel_rfl
@[simp] theorem ty_var66 : varSize Try.prog 66 = some 1 := by kernel_rfl
@[simp] theorem ty_agg68 : aggSize Try.prog 68 = none := by kernel_rfl
@[simp] theorem ty_sc68 : scalar Try.prog 68 = true := by kernel_rfl
@[simp] theorem ty_var68 : varSize Try.prog 68 = some 1 := by kernel_rfl
@[simp] theorem ty_isl68 : isSlice Try.prog 68 = true := by kernel_rfl
@[simp] theorem ty_el68 : slElem Try.prog 68 = some 71 := by kernel_rfl
@[simp] theorem ty_es68 : elemSize Try.prog 68 = some 2 := by kernel_rfl
@[simp] theorem ty_ef68 : elemFits Try.prog 68 = true := by kernel_rfl
@[simp] theorem ty_agg71 : aggSize Try.prog 71 = some 2 := by kernel_rfl
@[simp] theorem ty_var71 : varSize Try.prog 71 = some 2 := by kernel_rfl
@[simp] theorem ty_pl71 : places Try.prog 71 = some [(0, 1), (1, 1)] := by kernel_rfl
@[simp] theorem ty_zero71 : zeroA Try.prog 71 = some [AV.sl .nil 0 [], AV.sl .nil 0 []] := by kernel_rfl
@[simp] theorem ty_agg72 : aggSize Try.prog 72 = none := by kernel_rfl
@[simp] theorem ty_sc72 : scalar Try.prog 72 = true := by kernel_rfl
@[simp] theorem ty_var72 : varSize Try.prog 72 = some 1 := by kernel_rfl
@[simp] theorem ty_isl72 : isSlice Try.prog 72 = true := by kernel_rfl
@[simp] theorem ty_el72 : slElem Try.prog 72 = some 86 := by kernel_rfl
@[simp] theorem ty_es72 : elemSize Try.prog 72 = some 2 := by kernel_rfl
@[simp] theorem ty_ef72 : elemFits Try.prog 72 = true := by kernel_rfl
@[simp] theorem ty_agg75 : aggSize Try.prog 75 = none := by kernel_rfl
@[simp] theorem ty_sc75 : scalar Try.prog 75 = true := by kernel_rfl
@[simp] theorem ty_var75 : varSize Try.prog 75 = some 1 := by kernel_rfl
@[simp] theorem ty_agg78 : aggSize Try.prog 78 = none := by kernel_rfl
@[simp] theorem ty_sc78 : scalar Try.prog 78 = true := by kernel_rfl
@[simp] theorem ty_var78 : varSize Try.prog 78 = some 1 := by kernel_rfl
@[simp] theorem ty_isl78 : isSlice Try.prog 78 = true := by kernel_rfl
@[simp] theorem ty_el78 : slElem Try.prog 78 = some 22 := by kernel_rfl
@[simp] theorem ty_es78 : elemSize Try.prog 78 = some 1 := by kernel_rfl
@[simp] theorem ty_ef78 : elemFits Try.prog 78 = true := by kernel_rfl
@[simp] theorem ty_agg82 : aggSize Try.prog 82 = none := by kernel_rfl
@[simp] theorem ty_sc82 : scalar Try.prog 82 = true := by kernel_rfl
@[simp] theorem ty_var82 : varSize Try.prog 82 = some 1 := by kernel_rfl
@[simp] theorem ty_agg84 : aggSize Try.prog 84 = none := by kernel_rfl
@[simp] theorem ty_sc84 : scalar Try.prog 84 = true := by kernel_rfl
@[simp] theorem ty_var84 : varSize Try.prog 84 = some 1 := by kernel_rfl
@[simp] theorem ty_int84 : intKind Try.prog 84 = some .u64 := by kernel_rfl
@[simp] theorem ty_agg86 : aggSize Try.prog 86 = some 2 := by kernel_rfl
@[simp] theorem ty_var86 : varSize Try.prog 86 = some 2 := by kernel_rfl
@[simp] theorem ty_pl86 : places Try.prog 86 = some [(0, 1), (1, 1)] := by kernel_rfl
@[simp] theorem ty_zero86 : zeroA Try.prog 86 = some [AV.v (.int .u64 0), AV.sl .nil 0 []] := by kernel_rfl
@[simp] theorem ty_agg92 : aggSize Try.prog 92 = none := by kernel_rfl
@[simp] theorem ty_sc92 : scalar Try.prog 92 = true := by kernel_rfl
@[simp] theorem ty_var92 : varSize Try.prog 92 = some 1 := by kernel_rfl
@[simp] theorem ty_isl92 : isSlice Try.prog 92 = true := by kernel_rfl
@[simp] theorem ty_el92 : slElem Try.prog 92 = some 132 := by kernel_rfl
@[simp] theorem ty_es92 : elemSize Try.prog 92 = some 3 := by kernel_rfl
@[simp] theorem ty_ef92 : elemFits Try.prog 92 = true := by kernel_rfl
@[simp] theorem ty_agg94 : aggSize Try.prog 94 = some 4 := by kernel_rfl
@[simp] theorem ty_var94 : varSize Try.prog 94 = some 4 := by kernel_rfl
@[simp] theorem ty_pl94 : places Try.prog 94 = some [(0, 1), (1, 1), (2, 1), (3, 1)] := by kernel_rfl
@[simp] theorem ty_zero94 : zeroA Try.prog 94 = some [AV.v (.int .i64 0), AV.v (.int .i64 0), AV.sl .nil 0 [], AV.v (.int .i64 0)] := by kernel_rfl
@[simp] theorem ty_agg100 : aggSize Try.prog 100 = none := by kernel_rfl
@[simp] theorem ty_sc100 : scalar Try.prog 100 = true := by kernel_rfl
@[simp] theorem ty_var100 : varSize Try.prog 100 = some 1 := by kernel_rfl
@[simp] theorem ty_agg103 : aggSize Try.prog 103 = none := by kernel_rfl
@[simp] theorem ty_sc103 : scalar Try.prog 103 = true := by kernel_rfl
@[simp] theorem ty_var103 : varSize Try.prog 103 = some 1 := by kernel_rfl
@[simp] theorem ty_agg107 : aggSize Try.prog 107 = none := by kernel_rfl
@[simp] theorem ty_sc107 : scalar Try.prog 107 = true := by kernel_rfl
@[simp] theorem ty_var107 : varSize Try.prog 107 = some 1 := by kernel_rfl
@[simp] theorem ty_agg110 : aggSize Try.prog 110 = none := by kernel_rfl
@[simp] theorem ty_sc110 : scalar Try.prog 110 = true := by kernel_rfl
@[simp] theorem ty_var110 : varSize Try.prog 110 = some 1 := by kernel_rfl
@[simp] theorem ty_agg117 : aggSize Try.prog 117 = some 5 := by kernel_rfl
@[simp] theorem ty_var117 : varSize Try.prog 117 = some 5 := by kernel_rfl
@[simp] theorem ty_arr117 : arrOf Try.prog 117 = some (5, 1) := by kernel_rfl
@[simp] theorem ty_arx117 : arrIx Try.prog 117 = some (5, 3, 1) := by kernel_rfl
@[simp] theorem ty_pl117 : places Try.prog 117 = some [(0, 1), (1, 1), (2, 1), (3, 1), (4, 1)] := by kernel_rfl
@[simp] theorem ty_agg119 : aggSize Try.prog 119 = some 10 := by kernel_rfl
@[simp] theorem ty_var119 : varSize Try.prog 119 = some 10 := by kernel_rfl
@[simp] theorem ty_pl119 : places Try.prog 119 = some [(0, 5), (5, 5)] := by kernel_rfl
@[simp] theorem ty_zero119 : zeroA Try.prog 119 = some [AV.v (.int .i64 0), AV.v (.int .i64 0), AV.v (.int .i64 0), AV.v (.int .i64 0), AV.v (.int .i64 0), AV.v (.int .i64 0), AV.v (.int .i64 0), AV.v (.int .i64 0), AV.v (.int .i64 0), AV.v (.int .i64 0)] := by kernel_rfl
@[simp] theorem ty_agg127 : aggSize Try.prog 127 = some 2 := by kernel_rfl
@[simp] theorem ty_var127 : varSize Try.prog 127 = some 2 := by kernel_rfl
@[simp] theorem ty_pl127 : places Try.prog 127 = some [(0, 1), (1, 1)] := by kernel_rfl
@[simp] theorem ty_flat127 : flatInts Try.prog 127 = some 2 := by kernel_rfl
@[simp] theorem ty_zero127 : zeroA Try.prog 127 = some [AV.v (.int .i64 0), AV.v (.int .i64 0)] := by kernel_rfl
@[simp] theorem ty_agg129 : aggSize Try.prog 129 = none := by kernel_rfl
@[simp] theorem ty_sc129 : scalar Try.prog 129 = true := by kernel_rfl
@[simp] theorem ty_var129 : varSize Try.prog 129 = some 1 := by kernel_rfl
@[simp] theorem ty_agg132 : aggSize Try.prog 132 = some 3 := by kernel_rfl
@[simp] theorem ty_var132 : varSize Try.prog 132 = some 3 := by kernel_rfl
@[simp] theorem ty_pl132 : places Try.prog 132 = some [(0, 1), (1, 1), (2, 1)] := by kernel_rfl
@[simp] theorem ty_flat132 : flatInts Try.prog 132 = some 3 := by kernel_rfl
@[simp] theorem ty_agg133 : aggSize Try.prog 133 = none := by kernel_rfl
@[simp] theorem ty_sc133 : scalar Try.prog 133 = true := by kernel_rfl
@[simp] theorem ty_var133 : varSize Try.prog 133 = some 1 := by kernel_rfl
@[simp] theorem ty_agg136 : aggSize Try.prog 136 = some 5 := by kernel_rfl
@[simp] theorem ty_var136 : varSize Try.prog 136 = some 5 := by kernel_rfl
@[simp] theorem ty_pl136 : places Try.prog 136 = some [(0, 4), (4, 1)] := by kernel_rfl
@[simp] theorem ty_zero136 : zeroA Try.prog 136 = some [AV.v (.int .i64 0), AV.v (.int .i64 0), AV.sl .nil 0 [], AV.v (.int .i64 0), AV.sl .nil 0 []] := by kernel_rfl
@[simp] theorem ty_agg137 : aggSize Try.prog 137 = some 4 := by kernel_rfl
@[simp] theorem ty_var137 : varSize Try.prog 137 = some 4 := by kernel_rfl
@[simp] theorem ty_arr137 : arrOf Try.prog 137 = some (4, 1) := by kernel_rfl
@[simp] theorem ty_arx137 : arrIx Try.prog 137 = some (4, 3, 1) := by kernel_rfl
@[simp] theorem ty_pl137 : places Try.prog 137 = some [(0, 1), (1, 1), (2, 1), (3, 1)] := by kernel_rfl
@[simp] theorem ty_zero137 : zeroA Try.prog 137 = some [AV.v (.int .i64 0), AV.v (.int .i64 0), AV.v (.int .i64 0), AV.v (.int .i64 0)] := by kernel_rfl
@[simp] theorem ty_agg140 : aggSize Try.prog 140 = none := by kernel_rfl
@[simp] theorem ty_sc140 : scalar Try.prog 140 = true := by kernel_rfl
@[simp] theorem ty_var140 : varSize Try.prog 140 = some 1 := by kernel_rfl
@[simp] theorem ty_agg141 : aggSize Try.prog 141 = none := by kernel_rfl
@[simp] theorem ty_sc141 : scalar Try.prog 141 = true := by kernel_rfl
@[simp] theorem ty_var141 : varSize Try.prog 141 = some 1 := by kernel_rfl
@[simp] theorem ty_agg142 : aggSize Try.prog 142 = none := by kernel_rfl
@[simp] theorem ty_sc142 : scalar Try.prog 142 = true := by kernel_rfl
@[simp] theorem ty_var142 : varSize Try.prog 142 = some 1 := by kernel_rfl
@[simp] theorem ty_fo24_0 : fieldOff Try.prog 24 0 = some 0 := by kernel_rfl
@[simp] theorem ty_fo24_1 : fieldOff Try.prog 24 1 = some 1 := by kernel_rfl
@[simp] theorem ty_fo24_2 : fieldOff Try.prog 24 2 = some 2 := by kernel_rfl
@[simp] theorem ty_fo24_3 : fieldOff Try.prog 24 3 = some 3 := by kernel_rfl
@[simp] theorem ty_fo24_4 : fieldOff Try.prog 24 4 = some 4 := by kernel_rfl
@[simp] theorem ty_fo24_5 : fieldOff Try.prog 24 5 = some 5 := by kernel_rfl
@[simp] theorem ty_fo24_6 : fieldOff Try.prog 24 6 = some 6 := by kernel_rfl
@[simp] theorem ty_fo24_7 : fieldOff Try.prog 24 7 = some 7 := by kernel_rfl
@[simp] theorem ty_fo44_0 : fieldOff Try.prog 44 0 = some 0 := by kernel_rfl
@[simp] theorem ty_fo44_1 : fieldOff Try.prog 44 1 = some 1 := by kernel_rfl
@[simp] theorem ty_fo55_0 : fieldOff Try.prog 55 0 = some 0 := by kernel_rfl
@[simp] theorem ty_fo55_1 : fieldOff Try.prog 55 1 = some 1 := by kernel_rfl
@[simp] theorem ty_fo55_2 : fieldOff Try.prog 55 2 = some 2 := by kernel_rfl
@[simp] theorem ty_fo58_0 : fieldOff Try.prog 58 0 = some 0 := by kernel_rfl
@[simp] theorem ty_fo58_1 : fieldOff Try.prog 58 1 = some 1 := by kernel_rfl
@[simp] theorem ty_fo58_2 : fieldOff Try.prog 58 2 = some 2 := by kernel_rfl
@[simp] theorem ty_fo62_0 : fieldOff Try.prog 62 0 = some 0 := by kernel_rfl
@[simp] theorem ty_fo71_0 : fieldOff Try.prog 71 0 = some 0 := by kernel_rfl
@[simp] theorem ty_fo71_1 : fieldOff Try.prog 71 1 = some 1 := by kernel_rfl
@[simp] theorem ty_fo86_0 : fieldOff Try.prog 86 0 = some 0 := by kernel_rfl
@[simp] theorem ty_fo86_1 : fieldOff Try.prog 86 1 = some 1 := by kernel_rfl
@[simp] theorem ty_fo94_0 : fieldOff Try.prog 94 0 = some 0 := by kernel_rfl
@[simp] theorem ty_fo94_1 : fieldOff Try.prog 94 1 = some 1 := by kernel_rfl
@[simp] theorem ty_fo94_2 : fieldOff Try.prog 94 2 = some 2 := by kernel_rfl
@[simp] theorem ty_fo94_3 : fieldOff Try.prog 94 3 = some 3 := by kernel_rfl
@[simp] theorem ty_fo119_0 : fieldOff Try.prog 119 0 = some 0 := by kernel_rfl
@[simp] theorem ty_fo119_1 : fieldOff Try.prog 119 1 = some 5 := by kernel_rfl
@[simp] theorem ty_fo127_0 : fieldOff Try.prog 127 0 = some 0 := by kernel_rfl
@[simp] theorem ty_fo127_1 : fieldOff Try.prog 127 1 = some 1 := by kernel_rfl
@[simp] theorem ty_fo132_0 : fieldOff Try.prog 132 0 = some 0 := by kernel_rfl
@[simp] theorem ty_fo132_1 : fieldOff Try.prog 132 1 = some 1 := by kernel_rfl
@[simp] theorem ty_fo132_2 : fieldOff Try.prog 132 2 = some 2 := by kernel_rfl
@[simp] theorem ty_fo136_0 : fieldOff Try.prog 136 0 = some 0 := by kernel_rfl
@[simp] theorem ty_fo136_1 : fieldOff Try.prog 136 1 = some 4 := by kernel_rfl
end Go.Proofs.Ytekplngjaddccaa
