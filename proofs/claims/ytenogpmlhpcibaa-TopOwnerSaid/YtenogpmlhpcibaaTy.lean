/-
  What the abstract machine's runs want to know of this program's types.
  Conditions: none.
-/
import Derived.Test.YtenogpmlhpcibaaAmRr
import Derived.Test.YtenogpmlhpcibaaAmQu
import Derived.Test.YtenogpmlhpcibaaAmKs
import Derived.Test.YtenogpmlhpcibaaChecked
set_option linter.all false
namespace Go.Proofs.Ytenogpmlhpcibaa
open Go Go.AM
theorem mixed:Try.prog.follows .mixedOrders=true:=Try.checked.mixed
@[simp] theorem ty_agg3:aggSize Try.prog 3=none:=by kernel_rfl
@[simp] theorem ty_sc3:scalar Try.prog 3=true:=by kernel_rfl
@[simp] theorem ty_var3:varSize Try.prog 3=some 1:=by kernel_rfl
@[simp] theorem ty_zero3:zeroA Try.prog 3=some [AV.v (.int .i64 0)]:=by kernel_rfl
@[simp] theorem ty_int3:intKind Try.prog 3=some .i64:=by kernel_rfl
@[simp] theorem ty_agg4:aggSize Try.prog 4=none:=by kernel_rfl
@[simp] theorem ty_sc4:scalar Try.prog 4=true:=by kernel_rfl
@[simp] theorem ty_var4:varSize Try.prog 4=some 1:=by kernel_rfl
@[simp] theorem ty_zero4:zeroA Try.prog 4=some [AV.v (.bool false)]:=by kernel_rfl
@[simp] theorem ty_bool4:isBool Try.prog 4=true:=by kernel_rfl
@[simp] theorem ty_agg5:aggSize Try.prog 5=none:=by kernel_rfl
@[simp] theorem ty_sc5:scalar Try.prog 5=true:=by kernel_rfl
@[simp] theorem ty_var5:varSize Try.prog 5=some 1:=by kernel_rfl
@[simp] theorem ty_int5:intKind Try.prog 5=some .u8:=by kernel_rfl
@[simp] theorem ty_agg22:aggSize Try.prog 22=none:=by kernel_rfl
@[simp] theorem ty_sc22:scalar Try.prog 22=true:=by kernel_rfl
@[simp] theorem ty_var22:varSize Try.prog 22=some 1:=by kernel_rfl
@[simp] theorem ty_isl22:isSlice Try.prog 22=true:=by kernel_rfl
@[simp] theorem ty_el22:slElem Try.prog 22=some 3:=by kernel_rfl
@[simp] theorem ty_es22:elemSize Try.prog 22=some 1:=by kernel_rfl
@[simp] theorem ty_ef22:elemFits Try.prog 22=true:=by kernel_rfl
@[simp] theorem ty_agg24:aggSize Try.prog 24=some 3:=by kernel_rfl
@[simp] theorem ty_var24:varSize Try.prog 24=some 3:=by kernel_rfl
@[simp] theorem ty_pl24:places Try.prog 24=some [(0,1),(1,1),(2,1)]:=by kernel_rfl
@[simp] theorem ty_zero24:zeroA Try.prog 24=some [AV.v (.int .i64 0),AV.sl .nil 0 [],AV.sl .nil 0 []]:=by kernel_rfl
@[simp] theorem ty_agg26:aggSize Try.prog 26=some 8:=by kernel_rfl
@[simp] theorem ty_var26:varSize Try.prog 26=some 8:=by kernel_rfl
@[simp] theorem ty_pl26:places Try.prog 26=some [(0,3),(3,1),(4,1),(5,1),(6,1),(7,1)]:=by kernel_rfl
@[simp] theorem ty_zero26:zeroA Try.prog 26=some [AV.v (.int .i64 0),AV.sl .nil 0 [],AV.sl .nil 0 [],AV.sl .nil 0 [],AV.sl .nil 0 [],AV.sl .nil 0 [],AV.v (.int .i64 0),AV.v (.int .i64 0)]:=by kernel_rfl
@[simp] theorem ty_agg30:aggSize Try.prog 30=none:=by kernel_rfl
@[simp] theorem ty_sc30:scalar Try.prog 30=true:=by kernel_rfl
@[simp] theorem ty_var30:varSize Try.prog 30=some 1:=by kernel_rfl
@[simp] theorem ty_int30:intKind Try.prog 30=some .i64:=by kernel_rfl
@[simp] theorem ty_agg50:aggSize Try.prog 50=none:=by kernel_rfl
@[simp] theorem ty_sc50:scalar Try.prog 50=true:=by kernel_rfl
@[simp] theorem ty_var50:varSize Try.prog 50=some 1:=by kernel_rfl
@[simp] theorem ty_isl50:isSlice Try.prog 50=true:=by kernel_rfl
@[simp] theorem ty_el50:slElem Try.prog 50=some 26:=by kernel_rfl
@[simp] theorem ty_es50:elemSize Try.prog 50=some 8:=by kernel_rfl
@[simp] theorem ty_ef50:elemFits Try.prog 50=true:=by kernel_rfl
@[simp] theorem ty_agg57:aggSize Try.prog 57=none:=by kernel_rfl
@[simp] theorem ty_sc57:scalar Try.prog 57=true:=by kernel_rfl
@[simp] theorem ty_var57:varSize Try.prog 57=some 1:=by kernel_rfl
@[simp] theorem ty_isl57:isSlice Try.prog 57=true:=by kernel_rfl
@[simp] theorem ty_el57:slElem Try.prog 57=some 117:=by kernel_rfl
@[simp] theorem ty_es57:elemSize Try.prog 57=some 4:=by kernel_rfl
@[simp] theorem ty_ef57:elemFits Try.prog 57=true:=by kernel_rfl
@[simp] theorem ty_agg59:aggSize Try.prog 59=some 2:=by kernel_rfl
@[simp] theorem ty_var59:varSize Try.prog 59=some 2:=by kernel_rfl
@[simp] theorem ty_pl59:places Try.prog 59=some [(0,1),(1,1)]:=by kernel_rfl
@[simp] theorem ty_zero59:zeroA Try.prog 59=some [AV.sl .nil 0 [],AV.v (.int .i64 0)]:=by kernel_rfl
@[simp] theorem ty_agg62:aggSize Try.prog 62=some 3:=by kernel_rfl
@[simp] theorem ty_var62:varSize Try.prog 62=some 3:=by kernel_rfl
@[simp] theorem ty_pl62:places Try.prog 62=some [(0,1),(1,1),(2,1)]:=by kernel_rfl
@[simp] theorem ty_flat62:flatInts Try.prog 62=some 3:=by kernel_rfl
@[simp] theorem ty_zero62:zeroA Try.prog 62=some [AV.v (.int .i64 0),AV.v (.int .i64 0),AV.v (.int .i64 0)]:=by kernel_rfl
@[simp] theorem ty_agg70:aggSize Try.prog 70=some 3:=by kernel_rfl
@[simp] theorem ty_var70:varSize Try.prog 70=some 3:=by kernel_rfl
@[simp] theorem ty_pl70:places Try.prog 70=some [(0,1),(1,1),(2,1)]:=by kernel_rfl
@[simp] theorem ty_flat70:flatInts Try.prog 70=some 3:=by kernel_rfl
@[simp] theorem ty_agg73:aggSize Try.prog 73=some 4:=by kernel_rfl
@[simp] theorem ty_var73:varSize Try.prog 73=some 4:=by kernel_rfl
@[simp] theorem ty_pl73:places Try.prog 73=some [(0,1),(1,1),(2,1),(3,1)]:=by kernel_rfl
@[simp] theorem ty_zero73:zeroA Try.prog 73=some [AV.v (.int .i64 0),AV.v (.int .i64 0),AV.v (.int .i64 0),AV.sl .nil 0 []]:=by kernel_rfl
@[simp] theorem ty_agg74:aggSize Try.prog 74=none:=by kernel_rfl
@[simp] theorem ty_sc74:scalar Try.prog 74=true:=by kernel_rfl
@[simp] theorem ty_var74:varSize Try.prog 74=some 1:=by kernel_rfl
@[simp] theorem ty_isl74:isSlice Try.prog 74=true:=by kernel_rfl
@[simp] theorem ty_el74:slElem Try.prog 74=some 73:=by kernel_rfl
@[simp] theorem ty_es74:elemSize Try.prog 74=some 4:=by kernel_rfl
@[simp] theorem ty_ef74:elemFits Try.prog 74=true:=by kernel_rfl
@[simp] theorem ty_agg76:aggSize Try.prog 76=some 6:=by kernel_rfl
@[simp] theorem ty_var76:varSize Try.prog 76=some 6:=by kernel_rfl
@[simp] theorem ty_pl76:places Try.prog 76=some [(0,1),(1,1),(2,1),(3,1),(4,1),(5,1)]:=by kernel_rfl
@[simp] theorem ty_zero76:zeroA Try.prog 76=some [AV.v (.int .i64 0),AV.v (.int .i64 0),AV.v (.int .i64 0),AV.v (.int .i64 0),AV.sl .nil 0 [],AV.sl .nil 0 []]:=by kernel_rfl
@[simp] theorem ty_agg81:aggSize Try.prog 81=some 2:=by kernel_rfl
@[simp] theorem ty_var81:varSize Try.prog 81=some 2:=by kernel_rfl
@[simp] theorem ty_pl81:places Try.prog 81=some [(0,1),(1,1)]:=by kernel_rfl
@[simp] theorem ty_zero81:zeroA Try.prog 81=some [AV.v (.int .i64 0),AV.sl .nil 0 []]:=by kernel_rfl
@[simp] theorem ty_agg82:aggSize Try.prog 82=none:=by kernel_rfl
@[simp] theorem ty_sc82:scalar Try.prog 82=true:=by kernel_rfl
@[simp] theorem ty_var82:varSize Try.prog 82=some 1:=by kernel_rfl
@[simp] theorem ty_isl82:isSlice Try.prog 82=true:=by kernel_rfl
@[simp] theorem ty_el82:slElem Try.prog 82=some 81:=by kernel_rfl
@[simp] theorem ty_es82:elemSize Try.prog 82=some 2:=by kernel_rfl
@[simp] theorem ty_ef82:elemFits Try.prog 82=true:=by kernel_rfl
@[simp] theorem ty_agg86:aggSize Try.prog 86=none:=by kernel_rfl
@[simp] theorem ty_sc86:scalar Try.prog 86=true:=by kernel_rfl
@[simp] theorem ty_var86:varSize Try.prog 86=some 1:=by kernel_rfl
@[simp] theorem ty_agg90:aggSize Try.prog 90=none:=by kernel_rfl
@[simp] theorem ty_sc90:scalar Try.prog 90=true:=by kernel_rfl
@[simp] theorem ty_var90:varSize Try.prog 90=some 1:=by kernel_rfl
@[simp] theorem ty_zero90:zeroA Try.prog 90=some [AV.sl .nil 0 []]:=by kernel_rfl
@[simp] theorem ty_isl90:isSlice Try.prog 90=true:=by kernel_rfl
@[simp] theorem ty_el90:slElem Try.prog 90=some 94:=by kernel_rfl
@[simp] theorem ty_es90:elemSize Try.prog 90=some 2:=by kernel_rfl
@[simp] theorem ty_ef90:elemFits Try.prog 90=true:=by kernel_rfl
@[simp] theorem ty_agg94:aggSize Try.prog 94=some 2:=by kernel_rfl
@[simp] theorem ty_var94:varSize Try.prog 94=some 2:=by kernel_rfl
@[simp] theorem ty_pl94:places Try.prog 94=some [(0,1),(1,1)]:=by kernel_rfl
@[simp] theorem ty_zero94:zeroA Try.prog 94=some [AV.sl .nil 0 [],AV.sl .nil 0 []]:=by kernel_rfl
@[simp] theorem ty_agg99:aggSize Try.prog 99=some 2:=by kernel_rfl
@[simp] theorem ty_var99:varSize Try.prog 99=some 2:=by kernel_rfl
@[simp] theorem ty_pl99:places Try.prog 99=some [(0,1),(1,1)]:=by kernel_rfl
@[simp] theorem ty_flat99:flatInts Try.prog 99=some 2:=by kernel_rfl
@[simp] theorem ty_zero99:zeroA Try.prog 99=some [AV.v (.int .i64 0),AV.v (.int .i64 0)]:=by kernel_rfl
@[simp] theorem ty_agg102:aggSize Try.prog 102=some 3:=by kernel_rfl
@[simp] theorem ty_var102:varSize Try.prog 102=some 3:=by kernel_rfl
@[simp] theorem ty_arr102:arrOf Try.prog 102=some (3,1):=by kernel_rfl
@[simp] theorem ty_arx102:arrIx Try.prog 102=some (3,22,1):=by kernel_rfl
@[simp] theorem ty_pl102:places Try.prog 102=some [(0,1),(1,1),(2,1)]:=by kernel_rfl
@[simp] theorem ty_zero102:zeroA Try.prog 102=some [AV.sl .nil 0 [],AV.sl .nil 0 [],AV.sl .nil 0 []]:=by kernel_rfl
@[simp] theorem ty_agg104:aggSize Try.prog 104=none:=by kernel_rfl
@[simp] theorem ty_sc104:scalar Try.prog 104=true:=by kernel_rfl
@[simp] theorem ty_var104:varSize Try.prog 104=some 1:=by kernel_rfl
@[simp] theorem ty_agg106:aggSize Try.prog 106=none:=by kernel_rfl
@[simp] theorem ty_sc106:scalar Try.prog 106=true:=by kernel_rfl
@[simp] theorem ty_var106:varSize Try.prog 106=some 1:=by kernel_rfl
@[simp] theorem ty_agg108:aggSize Try.prog 108=some 4:=by kernel_rfl
@[simp] theorem ty_var108:varSize Try.prog 108=some 4:=by kernel_rfl
@[simp] theorem ty_flat108:flatInts Try.prog 108=some 4:=by kernel_rfl
@[simp] theorem ty_arr108:arrOf Try.prog 108=some (4,1):=by kernel_rfl
@[simp] theorem ty_arx108:arrIx Try.prog 108=some (4,3,1):=by kernel_rfl
@[simp] theorem ty_pl108:places Try.prog 108=some [(0,1),(1,1),(2,1),(3,1)]:=by kernel_rfl
@[simp] theorem ty_agg110:aggSize Try.prog 110=some 6:=by kernel_rfl
@[simp] theorem ty_var110:varSize Try.prog 110=some 6:=by kernel_rfl
@[simp] theorem ty_pl110:places Try.prog 110=some [(0,4),(4,1),(5,1)]:=by kernel_rfl
@[simp] theorem ty_flat110:flatInts Try.prog 110=some 6:=by kernel_rfl
@[simp] theorem ty_zero110:zeroA Try.prog 110=some [AV.v (.int .i64 0),AV.v (.int .i64 0),AV.v (.int .i64 0),AV.v (.int .i64 0),AV.v (.int .i64 0),AV.v (.int .i64 0)]:=by kernel_rfl
@[simp] theorem ty_agg113:aggSize Try.prog 113=none:=by kernel_rfl
@[simp] theorem ty_sc113:scalar Try.prog 113=true:=by kernel_rfl
@[simp] theorem ty_var113:varSize Try.prog 113=some 1:=by kernel_rfl
@[simp] theorem ty_agg117:aggSize Try.prog 117=some 4:=by kernel_rfl
@[simp] theorem ty_var117:varSize Try.prog 117=some 4:=by kernel_rfl
@[simp] theorem ty_pl117:places Try.prog 117=some [(0,1),(1,1),(2,1),(3,1)]:=by kernel_rfl
@[simp] theorem ty_flat117:flatInts Try.prog 117=some 4:=by kernel_rfl
@[simp] theorem ty_zero117:zeroA Try.prog 117=some [AV.v (.int .i64 0),AV.v (.int .i64 0),AV.v (.int .i64 0),AV.v (.int .i64 0)]:=by kernel_rfl
@[simp] theorem ty_agg119:aggSize Try.prog 119=some 5:=by kernel_rfl
@[simp] theorem ty_var119:varSize Try.prog 119=some 5:=by kernel_rfl
@[simp] theorem ty_pl119:places Try.prog 119=some [(0,3),(3,1),(4,1)]:=by kernel_rfl
@[simp] theorem ty_flat119:flatInts Try.prog 119=some 5:=by kernel_rfl
@[simp] theorem ty_zero119:zeroA Try.prog 119=some [AV.v (.int .i64 0),AV.v (.int .i64 0),AV.v (.int .i64 0),AV.v (.int .i64 0),AV.v (.int .i64 0)]:=by kernel_rfl
@[simp] theorem ty_agg125:aggSize Try.prog 125=some 3:=by kernel_rfl
@[simp] theorem ty_var125:varSize Try.prog 125=some 3:=by kernel_rfl
@[simp] theorem ty_pl125:places Try.prog 125=some [(0,3)]:=by kernel_rfl
@[simp] theorem ty_zero125:zeroA Try.prog 125=some [AV.v (.int .i64 0),AV.sl .nil 0 [],AV.sl .nil 0 []]:=by kernel_rfl
@[simp] theorem ty_agg128:aggSize Try.prog 128=none:=by kernel_rfl
@[simp] theorem ty_sc128:scalar Try.prog 128=true:=by kernel_rfl
@[simp] theorem ty_var128:varSize Try.prog 128=some 1:=by kernel_rfl
@[simp] theorem ty_agg130:aggSize Try.prog 130=some 3:=by kernel_rfl
@[simp] theorem ty_var130:varSize Try.prog 130=some 3:=by kernel_rfl
@[simp] theorem ty_pl130:places Try.prog 130=some [(0,2),(2,1)]:=by kernel_rfl
@[simp] theorem ty_flat130:flatInts Try.prog 130=some 3:=by kernel_rfl
@[simp] theorem ty_zero130:zeroA Try.prog 130=some [AV.v (.int .i64 0),AV.v (.int .i64 0),AV.v (.int .i64 0)]:=by kernel_rfl
@[simp] theorem ty_agg131:aggSize Try.prog 131=none:=by kernel_rfl
@[simp] theorem ty_sc131:scalar Try.prog 131=true:=by kernel_rfl
@[simp] theorem ty_var131:varSize Try.prog 131=some 1:=by kernel_rfl
@[simp] theorem ty_isl131:isSlice Try.prog 131=true:=by kernel_rfl
@[simp] theorem ty_el131:slElem Try.prog 131=some 130:=by kernel_rfl
@[simp] theorem ty_es131:elemSize Try.prog 131=some 3:=by kernel_rfl
@[simp] theorem ty_ef131:elemFits Try.prog 131=true:=by kernel_rfl
@[simp] theorem ty_agg132:aggSize Try.prog 132=none:=by kernel_rfl
@[simp] theorem ty_sc132:scalar Try.prog 132=true:=by kernel_rfl
@[simp] theorem ty_var132:varSize Try.prog 132=some 1:=by kernel_rfl
@[simp] theorem ty_isl132:isSlice Try.prog 132=true:=by kernel_rfl
@[simp] theorem ty_el132:slElem Try.prog 132=some 131:=by kernel_rfl
@[simp] theorem ty_es132:elemSize Try.prog 132=some 1:=by kernel_rfl
@[simp] theorem ty_ef132:elemFits Try.prog 132=true:=by kernel_rfl
@[simp] theorem ty_agg133:aggSize Try.prog 133=none:=by kernel_rfl
@[simp] theorem ty_sc133:scalar Try.prog 133=true:=by kernel_rfl
@[simp] theorem ty_var133:varSize Try.prog 133=some 1:=by kernel_rfl
@[simp] theorem ty_map133:mapTy Try.prog 133=some (130,3):=by kernel_rfl
@[simp] theorem ty_mz133:zeroInt Try.prog 3=some .i64:=by kernel_rfl
@[simp] theorem ty_agg134:aggSize Try.prog 134=none:=by kernel_rfl
@[simp] theorem ty_sc134:scalar Try.prog 134=true:=by kernel_rfl
@[simp] theorem ty_var134:varSize Try.prog 134=some 1:=by kernel_rfl
@[simp] theorem ty_isl134:isSlice Try.prog 134=true:=by kernel_rfl
@[simp] theorem ty_el134:slElem Try.prog 134=some 99:=by kernel_rfl
@[simp] theorem ty_es134:elemSize Try.prog 134=some 2:=by kernel_rfl
@[simp] theorem ty_ef134:elemFits Try.prog 134=true:=by kernel_rfl
@[simp] theorem ty_agg137:aggSize Try.prog 137=some 6:=by kernel_rfl
@[simp] theorem ty_var137:varSize Try.prog 137=some 6:=by kernel_rfl
@[simp] theorem ty_pl137:places Try.prog 137=some [(0,6)]:=by kernel_rfl
@[simp] theorem ty_zero137:zeroA Try.prog 137=some [AV.v (.int .i64 0),AV.v (.int .i64 0),AV.v (.int .i64 0),AV.v (.int .i64 0),AV.sl .nil 0 [],AV.sl .nil 0 []]:=by kernel_rfl
@[simp] theorem ty_agg140:aggSize Try.prog 140=none:=by kernel_rfl
@[simp] theorem ty_sc140:scalar Try.prog 140=true:=by kernel_rfl
@[simp] theorem ty_var140:varSize Try.prog 140=some 1:=by kernel_rfl
@[simp] theorem ty_int140:intKind Try.prog 140=some .i64:=by kernel_rfl
@[simp] theorem ty_agg142:aggSize Try.prog 142=some 3:=by kernel_rfl
@[simp] theorem ty_var142:varSize Try.prog 142=some 3:=by kernel_rfl
@[simp] theorem ty_pl142:places Try.prog 142=some [(0,1),(1,1),(2,1)]:=by kernel_rfl
@[simp] theorem ty_zero142:zeroA Try.prog 142=some [AV.sl .nil 0 [],AV.v (.int .i64 0),AV.v (.int .i64 0)]:=by kernel_rfl
@[simp] theorem ty_agg143:aggSize Try.prog 143=none:=by kernel_rfl
@[simp] theorem ty_sc143:scalar Try.prog 143=true:=by kernel_rfl
@[simp] theorem ty_var143:varSize Try.prog 143=some 1:=by kernel_rfl
@[simp] theorem ty_agg145:aggSize Try.prog 145=none:=by kernel_rfl
@[simp] theorem ty_sc145:scalar Try.prog 145=true:=by kernel_rfl
@[simp] theorem ty_var145:varSize Try.prog 145=some 1:=by kernel_rfl
@[simp] theorem ty_agg148:aggSize Try.prog 148=some 8:=by kernel_rfl
@[simp] theorem ty_var148:varSize Try.prog 148=some 8:=by kernel_rfl
@[simp] theorem ty_pl148:places Try.prog 148=some [(0,8)]:=by kernel_rfl
@[simp] theorem ty_zero148:zeroA Try.prog 148=some [AV.v (.int .i64 0),AV.sl .nil 0 [],AV.sl .nil 0 [],AV.sl .nil 0 [],AV.sl .nil 0 [],AV.sl .nil 0 [],AV.v (.int .i64 0),AV.v (.int .i64 0)]:=by kernel_rfl
@[simp] theorem ty_agg150:aggSize Try.prog 150=none:=by kernel_rfl
@[simp] theorem ty_sc150:scalar Try.prog 150=true:=by kernel_rfl
@[simp] theorem ty_var150:varSize Try.prog 150=some 1:=by kernel_rfl
@[simp] theorem ty_agg152:aggSize Try.prog 152=none:=by kernel_rfl
@[simp] theorem ty_sc152:scalar Try.prog 152=true:=by kernel_rfl
@[simp] theorem ty_var152:varSize Try.prog 152=some 1:=by kernel_rfl
@[simp] theorem ty_map152:mapTy Try.prog 152=some (3,155):=by kernel_rfl
@[simp] theorem ty_agg153:aggSize Try.prog 153=some 4:=by kernel_rfl
@[simp] theorem ty_var153:varSize Try.prog 153=some 4:=by kernel_rfl
@[simp] theorem ty_flat153:flatInts Try.prog 153=some 4:=by kernel_rfl
@[simp] theorem ty_arr153:arrOf Try.prog 153=some (4,1):=by kernel_rfl
@[simp] theorem ty_arx153:arrIx Try.prog 153=some (4,3,1):=by kernel_rfl
@[simp] theorem ty_pl153:places Try.prog 153=some [(0,1),(1,1),(2,1),(3,1)]:=by kernel_rfl
@[simp] theorem ty_zero153:zeroA Try.prog 153=some [AV.v (.int .i64 0),AV.v (.int .i64 0),AV.v (.int .i64 0),AV.v (.int .i64 0)]:=by kernel_rfl
@[simp] theorem ty_agg155:aggSize Try.prog 155=some 7:=by kernel_rfl
@[simp] theorem ty_var155:varSize Try.prog 155=some 7:=by kernel_rfl
@[simp] theorem ty_pl155:places Try.prog 155=some [(0,2),(2,4),(6,1)]:=by kernel_rfl
@[simp] theorem ty_flat155:flatInts Try.prog 155=some 7:=by kernel_rfl
@[simp] theorem ty_zero155:zeroA Try.prog 155=some [AV.v (.int .i64 0),AV.v (.int .i64 0),AV.v (.int .i64 0),AV.v (.int .i64 0),AV.v (.int .i64 0),AV.v (.int .i64 0),AV.v (.int .i64 0)]:=by kernel_rfl
@[simp] theorem ty_agg157:aggSize Try.prog 157=none:=by kernel_rfl
@[simp] theorem ty_sc157:scalar Try.prog 157=true:=by kernel_rfl
@[simp] theorem ty_var157:varSize Try.prog 157=some 1:=by kernel_rfl
@[simp] theorem ty_zero157:zeroA Try.prog 157=some [AV.v (.map none)]:=by kernel_rfl
@[simp] theorem ty_map157:mapTy Try.prog 157=some (155,187):=by kernel_rfl
@[simp] theorem ty_agg164:aggSize Try.prog 164=none:=by kernel_rfl
@[simp] theorem ty_sc164:scalar Try.prog 164=true:=by kernel_rfl
@[simp] theorem ty_var164:varSize Try.prog 164=some 1:=by kernel_rfl
@[simp] theorem ty_isl164:isSlice Try.prog 164=true:=by kernel_rfl
@[simp] theorem ty_el164:slElem Try.prog 164=some 22:=by kernel_rfl
@[simp] theorem ty_es164:elemSize Try.prog 164=some 1:=by kernel_rfl
@[simp] theorem ty_ef164:elemFits Try.prog 164=true:=by kernel_rfl
@[simp] theorem ty_agg167:aggSize Try.prog 167=none:=by kernel_rfl
@[simp] theorem ty_sc167:scalar Try.prog 167=true:=by kernel_rfl
@[simp] theorem ty_var167:varSize Try.prog 167=some 1:=by kernel_rfl
@[simp] theorem ty_map167:mapTy Try.prog 167=some (110,3):=by kernel_rfl
@[simp] theorem ty_mz167:zeroInt Try.prog 3=some .i64:=by kernel_rfl
@[simp] theorem ty_agg169:aggSize Try.prog 169=some 5:=by kernel_rfl
@[simp] theorem ty_var169:varSize Try.prog 169=some 5:=by kernel_rfl
@[simp] theorem ty_pl169:places Try.prog 169=some [(0,3),(3,1),(4,1)]:=by kernel_rfl
@[simp] theorem ty_zero169:zeroA Try.prog 169=some [AV.v (.int .i64 0),AV.sl .nil 0 [],AV.sl .nil 0 [],AV.v .nilFunc,AV.v (.map none)]:=by kernel_rfl
@[simp] theorem ty_agg172:aggSize Try.prog 172=none:=by kernel_rfl
@[simp] theorem ty_sc172:scalar Try.prog 172=true:=by kernel_rfl
@[simp] theorem ty_var172:varSize Try.prog 172=some 1:=by kernel_rfl
@[simp] theorem ty_agg173:aggSize Try.prog 173=none:=by kernel_rfl
@[simp] theorem ty_sc173:scalar Try.prog 173=true:=by kernel_rfl
@[simp] theorem ty_var173:varSize Try.prog 173=some 1:=by kernel_rfl
@[simp] theorem ty_agg176:aggSize Try.prog 176=none:=by kernel_rfl
@[simp] theorem ty_sc176:scalar Try.prog 176=true:=by kernel_rfl
@[simp] theorem ty_var176:varSize Try.prog 176=some 1:=by kernel_rfl
@[simp] theorem ty_agg178:aggSize Try.prog 178=none:=by kernel_rfl
@[simp] theorem ty_sc178:scalar Try.prog 178=true:=by kernel_rfl
@[simp] theorem ty_var178:varSize Try.prog 178=some 1:=by kernel_rfl
@[simp] theorem ty_agg182:aggSize Try.prog 182=none:=by kernel_rfl
@[simp] theorem ty_sc182:scalar Try.prog 182=true:=by kernel_rfl
@[simp] theorem ty_var182:varSize Try.prog 182=some 1:=by kernel_rfl
@[simp] theorem ty_agg184:aggSize Try.prog 184=none:=by kernel_rfl
@[simp] theorem ty_sc184:scalar Try.prog 184=true:=by kernel_rfl
@[simp] theorem ty_var184:varSize Try.prog 184=some 1:=by kernel_rfl
@[simp] theorem ty_agg187:aggSize Try.prog 187=some 8:=by kernel_rfl
@[simp] theorem ty_var187:varSize Try.prog 187=some 8:=by kernel_rfl
@[simp] theorem ty_pl187:places Try.prog 187=some [(0,1),(1,7)]:=by kernel_rfl
@[simp] theorem ty_flat187:flatInts Try.prog 187=some 8:=by kernel_rfl
@[simp] theorem ty_zero187:zeroA Try.prog 187=some [AV.v (.int .i64 0),AV.v (.int .i64 0),AV.v (.int .i64 0),AV.v (.int .i64 0),AV.v (.int .i64 0),AV.v (.int .i64 0),AV.v (.int .i64 0),AV.v (.int .i64 0)]:=by kernel_rfl
@[simp] theorem ty_agg188:aggSize Try.prog 188=none:=by kernel_rfl
@[simp] theorem ty_sc188:scalar Try.prog 188=true:=by kernel_rfl
@[simp] theorem ty_var188:varSize Try.prog 188=some 1:=by kernel_rfl
@[simp] theorem ty_zero188:zeroA Try.prog 188=some [AV.sl .nil 0 []]:=by kernel_rfl
@[simp] theorem ty_isl188:isSlice Try.prog 188=true:=by kernel_rfl
@[simp] theorem ty_el188:slElem Try.prog 188=some 155:=by kernel_rfl
@[simp] theorem ty_es188:elemSize Try.prog 188=some 7:=by kernel_rfl
@[simp] theorem ty_ef188:elemFits Try.prog 188=true:=by kernel_rfl
@[simp] theorem ty_agg191:aggSize Try.prog 191=none:=by kernel_rfl
@[simp] theorem ty_sc191:scalar Try.prog 191=true:=by kernel_rfl
@[simp] theorem ty_var191:varSize Try.prog 191=some 1:=by kernel_rfl
@[simp] theorem ty_agg198:aggSize Try.prog 198=none:=by kernel_rfl
@[simp] theorem ty_sc198:scalar Try.prog 198=true:=by kernel_rfl
@[simp] theorem ty_var198:varSize Try.prog 198=some 1:=by kernel_rfl
@[simp] theorem ty_isl198:isSlice Try.prog 198=true:=by kernel_rfl
@[simp] theorem ty_el198:slElem Try.prog 198=some 199:=by kernel_rfl
@[simp] theorem ty_es198:elemSize Try.prog 198=some 1:=by kernel_rfl
@[simp] theorem ty_ef198:elemFits Try.prog 198=true:=by kernel_rfl
@[simp] theorem ty_agg199:aggSize Try.prog 199=none:=by kernel_rfl
@[simp] theorem ty_sc199:scalar Try.prog 199=true:=by kernel_rfl
@[simp] theorem ty_var199:varSize Try.prog 199=some 1:=by kernel_rfl
@[simp] theorem ty_isl199:isSlice Try.prog 199=true:=by kernel_rfl
@[simp] theorem ty_el199:slElem Try.prog 199=some 202:=by kernel_rfl
@[simp] theorem ty_es199:elemSize Try.prog 199=some 3:=by kernel_rfl
@[simp] theorem ty_ef199:elemFits Try.prog 199=true:=by kernel_rfl
@[simp] theorem ty_agg202:aggSize Try.prog 202=some 3:=by kernel_rfl
@[simp] theorem ty_var202:varSize Try.prog 202=some 3:=by kernel_rfl
@[simp] theorem ty_pl202:places Try.prog 202=some [(0,2),(2,1)]:=by kernel_rfl
@[simp] theorem ty_flat202:flatInts Try.prog 202=some 3:=by kernel_rfl
@[simp] theorem ty_zero202:zeroA Try.prog 202=some [AV.v (.int .i64 0),AV.v (.int .i64 0),AV.v (.int .i64 0)]:=by kernel_rfl
@[simp] theorem ty_agg211:aggSize Try.prog 211=some 6:=by kernel_rfl
@[simp] theorem ty_var211:varSize Try.prog 211=some 6:=by kernel_rfl
@[simp] theorem ty_arr211:arrOf Try.prog 211=some (6,1):=by kernel_rfl
@[simp] theorem ty_arx211:arrIx Try.prog 211=some (6,176,1):=by kernel_rfl
@[simp] theorem ty_pl211:places Try.prog 211=some [(0,1),(1,1),(2,1),(3,1),(4,1),(5,1)]:=by kernel_rfl
@[simp] theorem ty_zero211:zeroA Try.prog 211=some [AV.v .nilFunc,AV.v .nilFunc,AV.v .nilFunc,AV.v .nilFunc,AV.v .nilFunc,AV.v .nilFunc]:=by kernel_rfl
@[simp] theorem ty_agg212:aggSize Try.prog 212=none:=by kernel_rfl
@[simp] theorem ty_sc212:scalar Try.prog 212=true:=by kernel_rfl
@[simp] theorem ty_var212:varSize Try.prog 212=some 1:=by kernel_rfl
@[simp] theorem ty_agg216:aggSize Try.prog 216=none:=by kernel_rfl
@[simp] theorem ty_sc216:scalar Try.prog 216=true:=by kernel_rfl
@[simp] theorem ty_var216:varSize Try.prog 216=some 1:=by kernel_rfl
@[simp] theorem ty_int216:intKind Try.prog 216=some .u64:=by kernel_rfl
@[simp] theorem ty_agg220:aggSize Try.prog 220=none:=by kernel_rfl
@[simp] theorem ty_sc220:scalar Try.prog 220=true:=by kernel_rfl
@[simp] theorem ty_var220:varSize Try.prog 220=some 1:=by kernel_rfl
@[simp] theorem ty_int220:intKind Try.prog 220=some .i64:=by kernel_rfl
@[simp] theorem ty_agg226:aggSize Try.prog 226=none:=by kernel_rfl
@[simp] theorem ty_sc226:scalar Try.prog 226=true:=by kernel_rfl
@[simp] theorem ty_var226:varSize Try.prog 226=some 1:=by kernel_rfl
@[simp] theorem ty_int226:intKind Try.prog 226=some .u32:=by kernel_rfl
@[simp] theorem ty_agg228:aggSize Try.prog 228=none:=by kernel_rfl
@[simp] theorem ty_sc228:scalar Try.prog 228=true:=by kernel_rfl
@[simp] theorem ty_var228:varSize Try.prog 228=some 1:=by kernel_rfl
@[simp] theorem ty_int228:intKind Try.prog 228=some .u64:=by kernel_rfl
@[simp] theorem ty_agg229:aggSize Try.prog 229=none:=by kernel_rfl
@[simp] theorem ty_sc229:scalar Try.prog 229=true:=by kernel_rfl
@[simp] theorem ty_var229:varSize Try.prog 229=some 1:=by kernel_rfl
@[simp] theorem ty_zero229:zeroA Try.prog 229=some [AV.v (.int .u64 0)]:=by kernel_rfl
@[simp] theorem ty_int229:intKind Try.prog 229=some .u64:=by kernel_rfl
@[simp] theorem ty_agg233:aggSize Try.prog 233=none:=by kernel_rfl
@[simp] theorem ty_sc233:scalar Try.prog 233=true:=by kernel_rfl
@[simp] theorem ty_var233:varSize Try.prog 233=some 1:=by kernel_rfl
@[simp] theorem ty_agg235:aggSize Try.prog 235=none:=by kernel_rfl
@[simp] theorem ty_sc235:scalar Try.prog 235=true:=by kernel_rfl
@[simp] theorem ty_var235:varSize Try.prog 235=some 1:=by kernel_rfl
@[simp] theorem ty_fo24_0:fieldOff Try.prog 24 0=some 0:=by kernel_rfl
@[simp] theorem ty_fo24_1:fieldOff Try.prog 24 1=some 1:=by kernel_rfl
@[simp] theorem ty_fo24_2:fieldOff Try.prog 24 2=some 2:=by kernel_rfl
@[simp] theorem ty_fo26_0:fieldOff Try.prog 26 0=some 0:=by kernel_rfl
@[simp] theorem ty_fo26_1:fieldOff Try.prog 26 1=some 3:=by kernel_rfl
@[simp] theorem ty_fo26_2:fieldOff Try.prog 26 2=some 4:=by kernel_rfl
@[simp] theorem ty_fo26_3:fieldOff Try.prog 26 3=some 5:=by kernel_rfl
@[simp] theorem ty_fo26_4:fieldOff Try.prog 26 4=some 6:=by kernel_rfl
@[simp] theorem ty_fo26_5:fieldOff Try.prog 26 5=some 7:=by kernel_rfl
@[simp] theorem ty_fo59_0:fieldOff Try.prog 59 0=some 0:=by kernel_rfl
@[simp] theorem ty_fo59_1:fieldOff Try.prog 59 1=some 1:=by kernel_rfl
@[simp] theorem ty_fo62_0:fieldOff Try.prog 62 0=some 0:=by kernel_rfl
@[simp] theorem ty_fo62_1:fieldOff Try.prog 62 1=some 1:=by kernel_rfl
@[simp] theorem ty_fo62_2:fieldOff Try.prog 62 2=some 2:=by kernel_rfl
@[simp] theorem ty_fo70_0:fieldOff Try.prog 70 0=some 0:=by kernel_rfl
@[simp] theorem ty_fo70_1:fieldOff Try.prog 70 1=some 1:=by kernel_rfl
@[simp] theorem ty_fo70_2:fieldOff Try.prog 70 2=some 2:=by kernel_rfl
@[simp] theorem ty_fo73_0:fieldOff Try.prog 73 0=some 0:=by kernel_rfl
@[simp] theorem ty_fo73_1:fieldOff Try.prog 73 1=some 1:=by kernel_rfl
@[simp] theorem ty_fo73_2:fieldOff Try.prog 73 2=some 2:=by kernel_rfl
@[simp] theorem ty_fo73_3:fieldOff Try.prog 73 3=some 3:=by kernel_rfl
@[simp] theorem ty_fo76_0:fieldOff Try.prog 76 0=some 0:=by kernel_rfl
@[simp] theorem ty_fo76_1:fieldOff Try.prog 76 1=some 1:=by kernel_rfl
@[simp] theorem ty_fo76_2:fieldOff Try.prog 76 2=some 2:=by kernel_rfl
@[simp] theorem ty_fo76_3:fieldOff Try.prog 76 3=some 3:=by kernel_rfl
@[simp] theorem ty_fo76_4:fieldOff Try.prog 76 4=some 4:=by kernel_rfl
@[simp] theorem ty_fo76_5:fieldOff Try.prog 76 5=some 5:=by kernel_rfl
@[simp] theorem ty_fo81_0:fieldOff Try.prog 81 0=some 0:=by kernel_rfl
@[simp] theorem ty_fo81_1:fieldOff Try.prog 81 1=some 1:=by kernel_rfl
@[simp] theorem ty_fo94_0:fieldOff Try.prog 94 0=some 0:=by kernel_rfl
@[simp] theorem ty_fo94_1:fieldOff Try.prog 94 1=some 1:=by kernel_rfl
@[simp] theorem ty_fo99_0:fieldOff Try.prog 99 0=some 0:=by kernel_rfl
@[simp] theorem ty_fo99_1:fieldOff Try.prog 99 1=some 1:=by kernel_rfl
@[simp] theorem ty_fo110_0:fieldOff Try.prog 110 0=some 0:=by kernel_rfl
@[simp] theorem ty_fo110_1:fieldOff Try.prog 110 1=some 4:=by kernel_rfl
@[simp] theorem ty_fo110_2:fieldOff Try.prog 110 2=some 5:=by kernel_rfl
@[simp] theorem ty_fo117_0:fieldOff Try.prog 117 0=some 0:=by kernel_rfl
@[simp] theorem ty_fo117_1:fieldOff Try.prog 117 1=some 1:=by kernel_rfl
@[simp] theorem ty_fo117_2:fieldOff Try.prog 117 2=some 2:=by kernel_rfl
@[simp] theorem ty_fo117_3:fieldOff Try.prog 117 3=some 3:=by kernel_rfl
@[simp] theorem ty_fo119_0:fieldOff Try.prog 119 0=some 0:=by kernel_rfl
@[simp] theorem ty_fo119_1:fieldOff Try.prog 119 1=some 3:=by kernel_rfl
@[simp] theorem ty_fo119_2:fieldOff Try.prog 119 2=some 4:=by kernel_rfl
@[simp] theorem ty_fo125_0:fieldOff Try.prog 125 0=some 0:=by kernel_rfl
@[simp] theorem ty_fo130_0:fieldOff Try.prog 130 0=some 0:=by kernel_rfl
@[simp] theorem ty_fo130_1:fieldOff Try.prog 130 1=some 2:=by kernel_rfl
@[simp] theorem ty_fo137_0:fieldOff Try.prog 137 0=some 0:=by kernel_rfl
@[simp] theorem ty_fo142_0:fieldOff Try.prog 142 0=some 0:=by kernel_rfl
@[simp] theorem ty_fo142_1:fieldOff Try.prog 142 1=some 1:=by kernel_rfl
@[simp] theorem ty_fo142_2:fieldOff Try.prog 142 2=some 2:=by kernel_rfl
@[simp] theorem ty_fo148_0:fieldOff Try.prog 148 0=some 0:=by kernel_rfl
@[simp] theorem ty_fo155_0:fieldOff Try.prog 155 0=some 0:=by kernel_rfl
@[simp] theorem ty_fo155_1:fieldOff Try.prog 155 1=some 2:=by kernel_rfl
@[simp] theorem ty_fo155_2:fieldOff Try.prog 155 2=some 6:=by kernel_rfl
@[simp] theorem ty_fo169_0:fieldOff Try.prog 169 0=some 0:=by kernel_rfl
@[simp] theorem ty_fo169_1:fieldOff Try.prog 169 1=some 3:=by kernel_rfl
@[simp] theorem ty_fo169_2:fieldOff Try.prog 169 2=some 4:=by kernel_rfl
@[simp] theorem ty_fo187_0:fieldOff Try.prog 187 0=some 0:=by kernel_rfl
@[simp] theorem ty_fo187_1:fieldOff Try.prog 187 1=some 1:=by kernel_rfl
@[simp] theorem ty_fo202_0:fieldOff Try.prog 202 0=some 0:=by kernel_rfl
@[simp] theorem ty_fo202_1:fieldOff Try.prog 202 1=some 2:=by kernel_rfl
end Go.Proofs.Ytenogpmlhpcibaa
