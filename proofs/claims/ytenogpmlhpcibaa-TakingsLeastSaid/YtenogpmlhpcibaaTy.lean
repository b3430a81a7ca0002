/-
  What the abstract machine's runs want to know of this program's types.
  Conditions: none.
-/
import Derived.Test.YtenogpmlhpcibaaAmRr
import Derived.Test.YtenogpmlhpcibaaAmQu
import Derived.Test.YtenogpmlhpcibaaAmKs
import Derived.Test.YtenogpmlhpcibaaChecked
set_option linter.all false
namespace Go.Proofs.Ytenogpmlhpcibaa
open Go Go.AM
theorem mixed:Try.prog.follows .mixedOrders=true:=Try.checked.mixed
@[simp] theorem zaf:zao Try.prog 3=none:=by kernel_rfl
@[simp] theorem zav:scalar Try.prog 3=true:=by kernel_rfl
@[simp] theorem zh7:zai Try.prog 3=some 1:=by kernel_rfl
@[simp] theorem zx4:zc2 Try.prog 3=some [AV.v (.int .i64 0)]:=by kernel_rfl
@[simp] theorem zzN:intKind Try.prog 3=some .i64:=by kernel_rfl
@[simp] theorem zzO:zao Try.prog 4=none:=by kernel_rfl
@[simp] theorem zAq:scalar Try.prog 4=true:=by kernel_rfl
@[simp] theorem zzP:zai Try.prog 4=some 1:=by kernel_rfl
@[simp] theorem zx5:zc2 Try.prog 4=some [AV.v (.bool false)]:=by kernel_rfl
@[simp] theorem zoU:isBool Try.prog 4=true:=by kernel_rfl
@[simp] theorem zzQ:zao Try.prog 5=none:=by kernel_rfl
@[simp] theorem zAr:scalar Try.prog 5=true:=by kernel_rfl
@[simp] theorem zzR:zai Try.prog 5=some 1:=by kernel_rfl
@[simp] theorem zzS:intKind Try.prog 5=some .u8:=by kernel_rfl
@[simp] theorem zaA:zao Try.prog 22=none:=by kernel_rfl
@[simp] theorem zaO:scalar Try.prog 22=true:=by kernel_rfl
@[simp] theorem zx6:zai Try.prog 22=some 1:=by kernel_rfl
@[simp] theorem zax:isSlice Try.prog 22=true:=by kernel_rfl
@[simp] theorem zdj:zb1 Try.prog 22=some 3:=by kernel_rfl
@[simp] theorem zaG:zaH Try.prog 22=some 1:=by kernel_rfl
@[simp] theorem zcY:zaY Try.prog 22=true:=by kernel_rfl
@[simp] theorem zb0:zao Try.prog 24=some 3:=by kernel_rfl
@[simp] theorem zsB:zai Try.prog 24=some 3:=by kernel_rfl
@[simp] theorem ztZ:places Try.prog 24=some [(0,1),(1,1),(2,1)]:=by kernel_rfl
@[simp] theorem zmT:zc2 Try.prog 24=some [AV.v (.int .i64 0),AV.sl .nil 0 [],AV.sl .nil 0 []]:=by kernel_rfl
@[simp] theorem zba:zao Try.prog 26=some 8:=by kernel_rfl
@[simp] theorem zoV:zai Try.prog 26=some 8:=by kernel_rfl
@[simp] theorem zt0:places Try.prog 26=some [(0,3),(3,1),(4,1),(5,1),(6,1),(7,1)]:=by kernel_rfl
@[simp] theorem zku:zc2 Try.prog 26=some [AV.v (.int .i64 0),AV.sl .nil 0 [],AV.sl .nil 0 [],AV.sl .nil 0 [],AV.sl .nil 0 [],AV.sl .nil 0 [],AV.v (.int .i64 0),AV.v (.int .i64 0)]:=by kernel_rfl
@[simp] theorem zx7:zao Try.prog 30=none:=by kernel_rfl
@[simp] theorem zzT:scalar Try.prog 30=true:=by kernel_rfl
@[simp] theorem zx8:zai Try.prog 30=some 1:=by kernel_rfl
@[simp] theorem zx9:intKind Try.prog 30=some .i64:=by kernel_rfl
@[simp] theorem zya:zao Try.prog 50=none:=by kernel_rfl
@[simp] theorem zzU:scalar Try.prog 50=true:=by kernel_rfl
@[simp] theorem zyb:zai Try.prog 50=some 1:=by kernel_rfl
@[simp] theorem zyc:isSlice Try.prog 50=true:=by kernel_rfl
@[simp] theorem zzV:zb1 Try.prog 50=some 26:=by kernel_rfl
@[simp] theorem zzW:zaH Try.prog 50=some 8:=by kernel_rfl
@[simp] theorem zzX:zaY Try.prog 50=true:=by kernel_rfl
@[simp] theorem zyd:zao Try.prog 57=none:=by kernel_rfl
@[simp] theorem zzY:scalar Try.prog 57=true:=by kernel_rfl
@[simp] theorem zye:zai Try.prog 57=some 1:=by kernel_rfl
@[simp] theorem zyf:isSlice Try.prog 57=true:=by kernel_rfl
@[simp] theorem zzZ:zb1 Try.prog 57=some 117:=by kernel_rfl
@[simp] theorem zz0:zaH Try.prog 57=some 4:=by kernel_rfl
@[simp] theorem zz1:zaY Try.prog 57=true:=by kernel_rfl
@[simp] theorem zyg:zao Try.prog 59=some 2:=by kernel_rfl
@[simp] theorem zyh:zai Try.prog 59=some 2:=by kernel_rfl
@[simp] theorem zz2:places Try.prog 59=some [(0,1),(1,1)]:=by kernel_rfl
@[simp] theorem zvw:zc2 Try.prog 59=some [AV.sl .nil 0 [],AV.v (.int .i64 0)]:=by kernel_rfl
@[simp] theorem zyi:zao Try.prog 62=some 3:=by kernel_rfl
@[simp] theorem zyj:zai Try.prog 62=some 3:=by kernel_rfl
@[simp] theorem zz3:places Try.prog 62=some [(0,1),(1,1),(2,1)]:=by kernel_rfl
@[simp] theorem zvx:zcQ Try.prog 62=some 3:=by kernel_rfl
@[simp] theorem zvy:zc2 Try.prog 62=some [AV.v (.int .i64 0),AV.v (.int .i64 0),AV.v (.int .i64 0)]:=by kernel_rfl
@[simp] theorem zyk:zao Try.prog 70=some 3:=by kernel_rfl
@[simp] theorem zyl:zai Try.prog 70=some 3:=by kernel_rfl
@[simp] theorem zz4:places Try.prog 70=some [(0,1),(1,1),(2,1)]:=by kernel_rfl
@[simp] theorem zvz:zcQ Try.prog 70=some 3:=by kernel_rfl
@[simp] theorem zym:zao Try.prog 73=some 4:=by kernel_rfl
@[simp] theorem zyn:zai Try.prog 73=some 4:=by kernel_rfl
@[simp] theorem zz5:places Try.prog 73=some [(0,1),(1,1),(2,1),(3,1)]:=by kernel_rfl
@[simp] theorem zvA:zc2 Try.prog 73=some [AV.v (.int .i64 0),AV.v (.int .i64 0),AV.v (.int .i64 0),AV.sl .nil 0 []]:=by kernel_rfl
@[simp] theorem zyo:zao Try.prog 74=none:=by kernel_rfl
@[simp] theorem zz6:scalar Try.prog 74=true:=by kernel_rfl
@[simp] theorem zyp:zai Try.prog 74=some 1:=by kernel_rfl
@[simp] theorem zyq:isSlice Try.prog 74=true:=by kernel_rfl
@[simp] theorem zz7:zb1 Try.prog 74=some 73:=by kernel_rfl
@[simp] theorem zz8:zaH Try.prog 74=some 4:=by kernel_rfl
@[simp] theorem zz9:zaY Try.prog 74=true:=by kernel_rfl
@[simp] theorem zyr:zao Try.prog 76=some 6:=by kernel_rfl
@[simp] theorem zys:zai Try.prog 76=some 6:=by kernel_rfl
@[simp] theorem zAa:places Try.prog 76=some [(0,1),(1,1),(2,1),(3,1),(4,1),(5,1)]:=by kernel_rfl
@[simp] theorem zvB:zc2 Try.prog 76=some [AV.v (.int .i64 0),AV.v (.int .i64 0),AV.v (.int .i64 0),AV.v (.int .i64 0),AV.sl .nil 0 [],AV.sl .nil 0 []]:=by kernel_rfl
@[simp] theorem zyt:zao Try.prog 81=some 2:=by kernel_rfl
@[simp] theorem zyu:zai Try.prog 81=some 2:=by kernel_rfl
@[simp] theorem zAb:places Try.prog 81=some [(0,1),(1,1)]:=by kernel_rfl
@[simp] theorem zvC:zc2 Try.prog 81=some [AV.v (.int .i64 0),AV.sl .nil 0 []]:=by kernel_rfl
@[simp] theorem zyv:zao Try.prog 82=none:=by kernel_rfl
@[simp] theorem zAc:scalar Try.prog 82=true:=by kernel_rfl
@[simp] theorem zyw:zai Try.prog 82=some 1:=by kernel_rfl
@[simp] theorem zyx:isSlice Try.prog 82=true:=by kernel_rfl
@[simp] theorem zAd:zb1 Try.prog 82=some 81:=by kernel_rfl
@[simp] theorem zAe:zaH Try.prog 82=some 2:=by kernel_rfl
@[simp] theorem zAf:zaY Try.prog 82=true:=by kernel_rfl
@[simp] theorem zgY:zao Try.prog 86=none:=by kernel_rfl
@[simp] theorem zh8:scalar Try.prog 86=true:=by kernel_rfl
@[simp] theorem zyy:zai Try.prog 86=some 1:=by kernel_rfl
@[simp] theorem zfb:zao Try.prog 90=none:=by kernel_rfl
@[simp] theorem zgo:scalar Try.prog 90=true:=by kernel_rfl
@[simp] theorem zjO:zai Try.prog 90=some 1:=by kernel_rfl
@[simp] theorem zrn:zc2 Try.prog 90=some [AV.sl .nil 0 []]:=by kernel_rfl
@[simp] theorem ziz:isSlice Try.prog 90=true:=by kernel_rfl
@[simp] theorem zjb:zb1 Try.prog 90=some 94:=by kernel_rfl
@[simp] theorem zfW:zaH Try.prog 90=some 2:=by kernel_rfl
@[simp] theorem zjc:zaY Try.prog 90=true:=by kernel_rfl
@[simp] theorem zyz:zao Try.prog 94=some 2:=by kernel_rfl
@[simp] theorem zyA:zai Try.prog 94=some 2:=by kernel_rfl
@[simp] theorem zn1:places Try.prog 94=some [(0,1),(1,1)]:=by kernel_rfl
@[simp] theorem zkv:zc2 Try.prog 94=some [AV.sl .nil 0 [],AV.sl .nil 0 []]:=by kernel_rfl
@[simp] theorem zdC:zao Try.prog 99=some 2:=by kernel_rfl
@[simp] theorem zd5:zai Try.prog 99=some 2:=by kernel_rfl
@[simp] theorem zgZ:places Try.prog 99=some [(0,1),(1,1)]:=by kernel_rfl
@[simp] theorem zvD:zcQ Try.prog 99=some 2:=by kernel_rfl
@[simp] theorem zcr:zc2 Try.prog 99=some [AV.v (.int .i64 0),AV.v (.int .i64 0)]:=by kernel_rfl
@[simp] theorem zvE:zao Try.prog 102=some 3:=by kernel_rfl
@[simp] theorem zvF:zai Try.prog 102=some 3:=by kernel_rfl
@[simp] theorem zvG:zlD Try.prog 102=some (3,1):=by kernel_rfl
@[simp] theorem zro:znz Try.prog 102=some (3,22,1):=by kernel_rfl
@[simp] theorem zsC:places Try.prog 102=some [(0,1),(1,1),(2,1)]:=by kernel_rfl
@[simp] theorem zpV:zc2 Try.prog 102=some [AV.sl .nil 0 [],AV.sl .nil 0 [],AV.sl .nil 0 []]:=by kernel_rfl
@[simp] theorem zrp:zao Try.prog 104=none:=by kernel_rfl
@[simp] theorem zsD:scalar Try.prog 104=true:=by kernel_rfl
@[simp] theorem zvH:zai Try.prog 104=some 1:=by kernel_rfl
@[simp] theorem zvI:zao Try.prog 106=none:=by kernel_rfl
@[simp] theorem zyB:scalar Try.prog 106=true:=by kernel_rfl
@[simp] theorem zvJ:zai Try.prog 106=some 1:=by kernel_rfl
@[simp] theorem zvK:zao Try.prog 108=some 4:=by kernel_rfl
@[simp] theorem zvL:zai Try.prog 108=some 4:=by kernel_rfl
@[simp] theorem zup:zcQ Try.prog 108=some 4:=by kernel_rfl
@[simp] theorem zvM:zlD Try.prog 108=some (4,1):=by kernel_rfl
@[simp] theorem zvN:znz Try.prog 108=some (4,3,1):=by kernel_rfl
@[simp] theorem zyC:places Try.prog 108=some [(0,1),(1,1),(2,1),(3,1)]:=by kernel_rfl
@[simp] theorem zvO:zao Try.prog 110=some 6:=by kernel_rfl
@[simp] theorem zvP:zai Try.prog 110=some 6:=by kernel_rfl
@[simp] theorem zyD:places Try.prog 110=some [(0,4),(4,1),(5,1)]:=by kernel_rfl
@[simp] theorem zuq:zcQ Try.prog 110=some 6:=by kernel_rfl
@[simp] theorem zur:zc2 Try.prog 110=some [AV.v (.int .i64 0),AV.v (.int .i64 0),AV.v (.int .i64 0),AV.v (.int .i64 0),AV.v (.int .i64 0),AV.v (.int .i64 0)]:=by kernel_rfl
@[simp] theorem zvQ:zao Try.prog 113=none:=by kernel_rfl
@[simp] theorem zyE:scalar Try.prog 113=true:=by kernel_rfl
@[simp] theorem zvR:zai Try.prog 113=some 1:=by kernel_rfl
@[simp] theorem zvS:zao Try.prog 117=some 4:=by kernel_rfl
@[simp] theorem zvT:zai Try.prog 117=some 4:=by kernel_rfl
@[simp] theorem zyF:places Try.prog 117=some [(0,1),(1,1),(2,1),(3,1)]:=by kernel_rfl
@[simp] theorem zus:zcQ Try.prog 117=some 4:=by kernel_rfl
@[simp] theorem zut:zc2 Try.prog 117=some [AV.v (.int .i64 0),AV.v (.int .i64 0),AV.v (.int .i64 0),AV.v (.int .i64 0)]:=by kernel_rfl
@[simp] theorem zvU:zao Try.prog 119=some 5:=by kernel_rfl
@[simp] theorem zvV:zai Try.prog 119=some 5:=by kernel_rfl
@[simp] theorem zyG:places Try.prog 119=some [(0,3),(3,1),(4,1)]:=by kernel_rfl
@[simp] theorem zuu:zcQ Try.prog 119=some 5:=by kernel_rfl
@[simp] theorem zuv:zc2 Try.prog 119=some [AV.v (.int .i64 0),AV.v (.int .i64 0),AV.v (.int .i64 0),AV.v (.int .i64 0),AV.v (.int .i64 0)]:=by kernel_rfl
@[simp] theorem zfm:zao Try.prog 125=some 3:=by kernel_rfl
@[simp] theorem ziA:zai Try.prog 125=some 3:=by kernel_rfl
@[simp] theorem zjP:places Try.prog 125=some [(0,3)]:=by kernel_rfl
@[simp] theorem zfG:zc2 Try.prog 125=some [AV.v (.int .i64 0),AV.sl .nil 0 [],AV.sl .nil 0 []]:=by kernel_rfl
@[simp] theorem zvW:zao Try.prog 128=none:=by kernel_rfl
@[simp] theorem zyH:scalar Try.prog 128=true:=by kernel_rfl
@[simp] theorem zvX:zai Try.prog 128=some 1:=by kernel_rfl
@[simp] theorem zvY:zao Try.prog 130=some 3:=by kernel_rfl
@[simp] theorem zvZ:zai Try.prog 130=some 3:=by kernel_rfl
@[simp] theorem zyI:places Try.prog 130=some [(0,2),(2,1)]:=by kernel_rfl
@[simp] theorem zuw:zcQ Try.prog 130=some 3:=by kernel_rfl
@[simp] theorem zux:zc2 Try.prog 130=some [AV.v (.int .i64 0),AV.v (.int .i64 0),AV.v (.int .i64 0)]:=by kernel_rfl
@[simp] theorem zv0:zao Try.prog 131=none:=by kernel_rfl
@[simp] theorem zyJ:scalar Try.prog 131=true:=by kernel_rfl
@[simp] theorem zv1:zai Try.prog 131=some 1:=by kernel_rfl
@[simp] theorem zv2:isSlice Try.prog 131=true:=by kernel_rfl
@[simp] theorem zyK:zb1 Try.prog 131=some 130:=by kernel_rfl
@[simp] theorem zyL:zaH Try.prog 131=some 3:=by kernel_rfl
@[simp] theorem zyM:zaY Try.prog 131=true:=by kernel_rfl
@[simp] theorem zv3:zao Try.prog 132=none:=by kernel_rfl
@[simp] theorem zyN:scalar Try.prog 132=true:=by kernel_rfl
@[simp] theorem zv4:zai Try.prog 132=some 1:=by kernel_rfl
@[simp] theorem zv5:isSlice Try.prog 132=true:=by kernel_rfl
@[simp] theorem zyO:zb1 Try.prog 132=some 131:=by kernel_rfl
@[simp] theorem zyP:zaH Try.prog 132=some 1:=by kernel_rfl
@[simp] theorem zyQ:zaY Try.prog 132=true:=by kernel_rfl
@[simp] theorem zv6:zao Try.prog 133=none:=by kernel_rfl
@[simp] theorem zyR:scalar Try.prog 133=true:=by kernel_rfl
@[simp] theorem zv7:zai Try.prog 133=some 1:=by kernel_rfl
@[simp] theorem zv8:zhN Try.prog 133=some (130,3):=by kernel_rfl
@[simp] theorem zyS:zqu Try.prog 3=some .i64:=by kernel_rfl
@[simp] theorem zv9:zao Try.prog 134=none:=by kernel_rfl
@[simp] theorem zyT:scalar Try.prog 134=true:=by kernel_rfl
@[simp] theorem zwa:zai Try.prog 134=some 1:=by kernel_rfl
@[simp] theorem zwb:isSlice Try.prog 134=true:=by kernel_rfl
@[simp] theorem zyU:zb1 Try.prog 134=some 99:=by kernel_rfl
@[simp] theorem zyV:zaH Try.prog 134=some 2:=by kernel_rfl
@[simp] theorem zyW:zaY Try.prog 134=true:=by kernel_rfl
@[simp] theorem zwc:zao Try.prog 137=some 6:=by kernel_rfl
@[simp] theorem zwd:zai Try.prog 137=some 6:=by kernel_rfl
@[simp] theorem zyX:places Try.prog 137=some [(0,6)]:=by kernel_rfl
@[simp] theorem zuy:zc2 Try.prog 137=some [AV.v (.int .i64 0),AV.v (.int .i64 0),AV.v (.int .i64 0),AV.v (.int .i64 0),AV.sl .nil 0 [],AV.sl .nil 0 []]:=by kernel_rfl
@[simp] theorem zwe:zao Try.prog 140=none:=by kernel_rfl
@[simp] theorem zyY:scalar Try.prog 140=true:=by kernel_rfl
@[simp] theorem zwf:zai Try.prog 140=some 1:=by kernel_rfl
@[simp] theorem zwg:intKind Try.prog 140=some .i64:=by kernel_rfl
@[simp] theorem zwh:zao Try.prog 142=some 3:=by kernel_rfl
@[simp] theorem zwi:zai Try.prog 142=some 3:=by kernel_rfl
@[simp] theorem zyZ:places Try.prog 142=some [(0,1),(1,1),(2,1)]:=by kernel_rfl
@[simp] theorem zuz:zc2 Try.prog 142=some [AV.sl .nil 0 [],AV.v (.int .i64 0),AV.v (.int .i64 0)]:=by kernel_rfl
@[simp] theorem zwj:zao Try.prog 143=none:=by kernel_rfl
@[simp] theorem zy0:scalar Try.prog 143=true:=by kernel_rfl
@[simp] theorem zwk:zai Try.prog 143=some 1:=by kernel_rfl
@[simp] theorem zwl:zao Try.prog 145=none:=by kernel_rfl
@[simp] theorem zy1:scalar Try.prog 145=true:=by kernel_rfl
@[simp] theorem zwm:zai Try.prog 145=some 1:=by kernel_rfl
@[simp] theorem zwn:zao Try.prog 148=some 8:=by kernel_rfl
@[simp] theorem zwo:zai Try.prog 148=some 8:=by kernel_rfl
@[simp] theorem zsE:places Try.prog 148=some [(0,8)]:=by kernel_rfl
@[simp] theorem zpW:zc2 Try.prog 148=some [AV.v (.int .i64 0),AV.sl .nil 0 [],AV.sl .nil 0 [],AV.sl .nil 0 [],AV.sl .nil 0 [],AV.sl .nil 0 [],AV.v (.int .i64 0),AV.v (.int .i64 0)]:=by kernel_rfl
@[simp] theorem zwp:zao Try.prog 150=none:=by kernel_rfl
@[simp] theorem zy2:scalar Try.prog 150=true:=by kernel_rfl
@[simp] theorem zwq:zai Try.prog 150=some 1:=by kernel_rfl
@[simp] theorem zwr:zao Try.prog 152=none:=by kernel_rfl
@[simp] theorem zy3:scalar Try.prog 152=true:=by kernel_rfl
@[simp] theorem zws:zai Try.prog 152=some 1:=by kernel_rfl
@[simp] theorem ziB:zhN Try.prog 152=some (3,155):=by kernel_rfl
@[simp] theorem zdR:zao Try.prog 153=some 4:=by kernel_rfl
@[simp] theorem zmU:zai Try.prog 153=some 4:=by kernel_rfl
@[simp] theorem zpX:zcQ Try.prog 153=some 4:=by kernel_rfl
@[simp] theorem zfX:zlD Try.prog 153=some (4,1):=by kernel_rfl
@[simp] theorem zrq:znz Try.prog 153=some (4,3,1):=by kernel_rfl
@[simp] theorem zy4:places Try.prog 153=some [(0,1),(1,1),(2,1),(3,1)]:=by kernel_rfl
@[simp] theorem zjd:zc2 Try.prog 153=some [AV.v (.int .i64 0),AV.v (.int .i64 0),AV.v (.int .i64 0),AV.v (.int .i64 0)]:=by kernel_rfl
@[simp] theorem zfn:zao Try.prog 155=some 7:=by kernel_rfl
@[simp] theorem ziC:zai Try.prog 155=some 7:=by kernel_rfl
@[simp] theorem zjQ:places Try.prog 155=some [(0,2),(2,4),(6,1)]:=by kernel_rfl
@[simp] theorem zuA:zcQ Try.prog 155=some 7:=by kernel_rfl
@[simp] theorem zeA:zc2 Try.prog 155=some [AV.v (.int .i64 0),AV.v (.int .i64 0),AV.v (.int .i64 0),AV.v (.int .i64 0),AV.v (.int .i64 0),AV.v (.int .i64 0),AV.v (.int .i64 0)]:=by kernel_rfl
@[simp] theorem zkw:zao Try.prog 157=none:=by kernel_rfl
@[simp] theorem zl7:scalar Try.prog 157=true:=by kernel_rfl
@[simp] theorem zrr:zai Try.prog 157=some 1:=by kernel_rfl
@[simp] theorem zpY:zc2 Try.prog 157=some [AV.v (.map none)]:=by kernel_rfl
@[simp] theorem zfY:zhN Try.prog 157=some (155,187):=by kernel_rfl
@[simp] theorem zwt:zao Try.prog 164=none:=by kernel_rfl
@[simp] theorem zy5:scalar Try.prog 164=true:=by kernel_rfl
@[simp] theorem zwu:zai Try.prog 164=some 1:=by kernel_rfl
@[simp] theorem zwv:isSlice Try.prog 164=true:=by kernel_rfl
@[simp] theorem zy6:zb1 Try.prog 164=some 22:=by kernel_rfl
@[simp] theorem zy7:zaH Try.prog 164=some 1:=by kernel_rfl
@[simp] theorem zy8:zaY Try.prog 164=true:=by kernel_rfl
@[simp] theorem zww:zao Try.prog 167=none:=by kernel_rfl
@[simp] theorem zy9:scalar Try.prog 167=true:=by kernel_rfl
@[simp] theorem zwx:zai Try.prog 167=some 1:=by kernel_rfl
@[simp] theorem zwy:zhN Try.prog 167=some (110,3):=by kernel_rfl
@[simp] theorem zza:zqu Try.prog 3=some .i64:=by kernel_rfl
@[simp] theorem zwz:zao Try.prog 169=some 5:=by kernel_rfl
@[simp] theorem zwA:zai Try.prog 169=some 5:=by kernel_rfl
@[simp] theorem zzb:places Try.prog 169=some [(0,3),(3,1),(4,1)]:=by kernel_rfl
@[simp] theorem zuB:zc2 Try.prog 169=some [AV.v (.int .i64 0),AV.sl .nil 0 [],AV.sl .nil 0 [],AV.v .nilFunc,AV.v (.map none)]:=by kernel_rfl
@[simp] theorem zwB:zao Try.prog 172=none:=by kernel_rfl
@[simp] theorem zzc:scalar Try.prog 172=true:=by kernel_rfl
@[simp] theorem zwC:zai Try.prog 172=some 1:=by kernel_rfl
@[simp] theorem zwD:zao Try.prog 173=none:=by kernel_rfl
@[simp] theorem zzd:scalar Try.prog 173=true:=by kernel_rfl
@[simp] theorem zwE:zai Try.prog 173=some 1:=by kernel_rfl
@[simp] theorem zwF:zao Try.prog 176=none:=by kernel_rfl
@[simp] theorem zze:scalar Try.prog 176=true:=by kernel_rfl
@[simp] theorem zwG:zai Try.prog 176=some 1:=by kernel_rfl
@[simp] theorem zwH:zao Try.prog 178=none:=by kernel_rfl
@[simp] theorem zzf:scalar Try.prog 178=true:=by kernel_rfl
@[simp] theorem zwI:zai Try.prog 178=some 1:=by kernel_rfl
@[simp] theorem zwJ:zao Try.prog 182=none:=by kernel_rfl
@[simp] theorem zzg:scalar Try.prog 182=true:=by kernel_rfl
@[simp] theorem zwK:zai Try.prog 182=some 1:=by kernel_rfl
@[simp] theorem zwL:zao Try.prog 184=none:=by kernel_rfl
@[simp] theorem zzh:scalar Try.prog 184=true:=by kernel_rfl
@[simp] theorem zwM:zai Try.prog 184=some 1:=by kernel_rfl
@[simp] theorem zrs:zao Try.prog 187=some 8:=by kernel_rfl
@[simp] theorem ziD:zai Try.prog 187=some 8:=by kernel_rfl
@[simp] theorem zoW:places Try.prog 187=some [(0,1),(1,7)]:=by kernel_rfl
@[simp] theorem zuC:zcQ Try.prog 187=some 8:=by kernel_rfl
@[simp] theorem zgB:zc2 Try.prog 187=some [AV.v (.int .i64 0),AV.v (.int .i64 0),AV.v (.int .i64 0),AV.v (.int .i64 0),AV.v (.int .i64 0),AV.v (.int .i64 0),AV.v (.int .i64 0),AV.v (.int .i64 0)]:=by kernel_rfl
@[simp] theorem ziE:zao Try.prog 188=none:=by kernel_rfl
@[simp] theorem zjR:scalar Try.prog 188=true:=by kernel_rfl
@[simp] theorem zkx:zai Try.prog 188=some 1:=by kernel_rfl
@[simp] theorem zpZ:zc2 Try.prog 188=some [AV.sl .nil 0 []]:=by kernel_rfl
@[simp] theorem zrt:isSlice Try.prog 188=true:=by kernel_rfl
@[simp] theorem zoX:zb1 Try.prog 188=some 155:=by kernel_rfl
@[simp] theorem ziF:zaH Try.prog 188=some 7:=by kernel_rfl
@[simp] theorem zl8:zaY Try.prog 188=true:=by kernel_rfl
@[simp] theorem zwN:zao Try.prog 191=none:=by kernel_rfl
@[simp] theorem zzi:scalar Try.prog 191=true:=by kernel_rfl
@[simp] theorem zwO:zai Try.prog 191=some 1:=by kernel_rfl
@[simp] theorem zwP:zao Try.prog 198=none:=by kernel_rfl
@[simp] theorem zzj:scalar Try.prog 198=true:=by kernel_rfl
@[simp] theorem zwQ:zai Try.prog 198=some 1:=by kernel_rfl
@[simp] theorem zwR:isSlice Try.prog 198=true:=by kernel_rfl
@[simp] theorem zzk:zb1 Try.prog 198=some 199:=by kernel_rfl
@[simp] theorem zzl:zaH Try.prog 198=some 1:=by kernel_rfl
@[simp] theorem zzm:zaY Try.prog 198=true:=by kernel_rfl
@[simp] theorem zwS:zao Try.prog 199=none:=by kernel_rfl
@[simp] theorem zzn:scalar Try.prog 199=true:=by kernel_rfl
@[simp] theorem zwT:zai Try.prog 199=some 1:=by kernel_rfl
@[simp] theorem zwU:isSlice Try.prog 199=true:=by kernel_rfl
@[simp] theorem zzo:zb1 Try.prog 199=some 202:=by kernel_rfl
@[simp] theorem zzp:zaH Try.prog 199=some 3:=by kernel_rfl
@[simp] theorem zzq:zaY Try.prog 199=true:=by kernel_rfl
@[simp] theorem zwV:zao Try.prog 202=some 3:=by kernel_rfl
@[simp] theorem zwW:zai Try.prog 202=some 3:=by kernel_rfl
@[simp] theorem zzr:places Try.prog 202=some [(0,2),(2,1)]:=by kernel_rfl
@[simp] theorem zuD:zcQ Try.prog 202=some 3:=by kernel_rfl
@[simp] theorem zuE:zc2 Try.prog 202=some [AV.v (.int .i64 0),AV.v (.int .i64 0),AV.v (.int .i64 0)]:=by kernel_rfl
@[simp] theorem zwX:zao Try.prog 211=some 6:=by kernel_rfl
@[simp] theorem zwY:zai Try.prog 211=some 6:=by kernel_rfl
@[simp] theorem zwZ:zlD Try.prog 211=some (6,1):=by kernel_rfl
@[simp] theorem zw0:znz Try.prog 211=some (6,176,1):=by kernel_rfl
@[simp] theorem zzs:places Try.prog 211=some [(0,1),(1,1),(2,1),(3,1),(4,1),(5,1)]:=by kernel_rfl
@[simp] theorem zuF:zc2 Try.prog 211=some [AV.v .nilFunc,AV.v .nilFunc,AV.v .nilFunc,AV.v .nilFunc,AV.v .nilFunc,AV.v .nilFunc]:=by kernel_rfl
@[simp] theorem zw1:zao Try.prog 212=none:=by kernel_rfl
@[simp] theorem zzt:scalar Try.prog 212=true:=by kernel_rfl
@[simp] theorem zw2:zai Try.prog 212=some 1:=by kernel_rfl
@[simp] theorem zw3:zao Try.prog 216=none:=by kernel_rfl
@[simp] theorem zzu:scalar Try.prog 216=true:=by kernel_rfl
@[simp] theorem zw4:zai Try.prog 216=some 1:=by kernel_rfl
@[simp] theorem zw5:intKind Try.prog 216=some .u64:=by kernel_rfl
@[simp] theorem zw6:zao Try.prog 220=none:=by kernel_rfl
@[simp] theorem zzv:scalar Try.prog 220=true:=by kernel_rfl
@[simp] theorem zw7:zai Try.prog 220=some 1:=by kernel_rfl
@[simp] theorem zw8:intKind Try.prog 220=some .i64:=by kernel_rfl
@[simp] theorem zw9:zao Try.prog 226=none:=by kernel_rfl
@[simp] theorem zzw:scalar Try.prog 226=true:=by kernel_rfl
@[simp] theorem zxa:zai Try.prog 226=some 1:=by kernel_rfl
@[simp] theorem zxb:intKind Try.prog 226=some .u32:=by kernel_rfl
@[simp] theorem zxc:zao Try.prog 228=none:=by kernel_rfl
@[simp] theorem zzx:scalar Try.prog 228=true:=by kernel_rfl
@[simp] theorem zxd:zai Try.prog 228=some 1:=by kernel_rfl
@[simp] theorem zxe:intKind Try.prog 228=some .u64:=by kernel_rfl
@[simp] theorem zxf:zao Try.prog 229=none:=by kernel_rfl
@[simp] theorem zzy:scalar Try.prog 229=true:=by kernel_rfl
@[simp] theorem zxg:zai Try.prog 229=some 1:=by kernel_rfl
@[simp] theorem zuG:zc2 Try.prog 229=some [AV.v (.int .u64 0)]:=by kernel_rfl
@[simp] theorem zxh:intKind Try.prog 229=some .u64:=by kernel_rfl
@[simp] theorem zxi:zao Try.prog 233=none:=by kernel_rfl
@[simp] theorem zzz:scalar Try.prog 233=true:=by kernel_rfl
@[simp] theorem zxj:zai Try.prog 233=some 1:=by kernel_rfl
@[simp] theorem zxk:zao Try.prog 235=none:=by kernel_rfl
@[simp] theorem zzA:scalar Try.prog 235=true:=by kernel_rfl
@[simp] theorem zxl:zai Try.prog 235=some 1:=by kernel_rfl
@[simp] theorem zdS:zaq Try.prog 24 0=some 0:=by kernel_rfl
@[simp] theorem zgC:zaq Try.prog 24 1=some 1:=by kernel_rfl
@[simp] theorem zcs:zaq Try.prog 24 2=some 2:=by kernel_rfl
@[simp] theorem zbK:zaq Try.prog 26 0=some 0:=by kernel_rfl
@[simp] theorem zcN:zaq Try.prog 26 1=some 3:=by kernel_rfl
@[simp] theorem zgD:zaq Try.prog 26 2=some 4:=by kernel_rfl
@[simp] theorem zfo:zaq Try.prog 26 3=some 5:=by kernel_rfl
@[simp] theorem zfZ:zaq Try.prog 26 4=some 6:=by kernel_rfl
@[simp] theorem ziG:zaq Try.prog 26 5=some 7:=by kernel_rfl
@[simp] theorem zxm:zaq Try.prog 59 0=some 0:=by kernel_rfl
@[simp] theorem zxn:zaq Try.prog 59 1=some 1:=by kernel_rfl
@[simp] theorem zxo:zaq Try.prog 62 0=some 0:=by kernel_rfl
@[simp] theorem zxp:zaq Try.prog 62 1=some 1:=by kernel_rfl
@[simp] theorem zxq:zaq Try.prog 62 2=some 2:=by kernel_rfl
@[simp] theorem zxr:zaq Try.prog 70 0=some 0:=by kernel_rfl
@[simp] theorem zxs:zaq Try.prog 70 1=some 1:=by kernel_rfl
@[simp] theorem zxt:zaq Try.prog 70 2=some 2:=by kernel_rfl
@[simp] theorem zxu:zaq Try.prog 73 0=some 0:=by kernel_rfl
@[simp] theorem zxv:zaq Try.prog 73 1=some 1:=by kernel_rfl
@[simp] theorem zxw:zaq Try.prog 73 2=some 2:=by kernel_rfl
@[simp] theorem zxx:zaq Try.prog 73 3=some 3:=by kernel_rfl
@[simp] theorem zxy:zaq Try.prog 76 0=some 0:=by kernel_rfl
@[simp] theorem zxz:zaq Try.prog 76 1=some 1:=by kernel_rfl
@[simp] theorem zxA:zaq Try.prog 76 2=some 2:=by kernel_rfl
@[simp] theorem zxB:zaq Try.prog 76 3=some 3:=by kernel_rfl
@[simp] theorem zxC:zaq Try.prog 76 4=some 4:=by kernel_rfl
@[simp] theorem zxD:zaq Try.prog 76 5=some 5:=by kernel_rfl
@[simp] theorem zxE:zaq Try.prog 81 0=some 0:=by kernel_rfl
@[simp] theorem zxF:zaq Try.prog 81 1=some 1:=by kernel_rfl
@[simp] theorem ziH:zaq Try.prog 94 0=some 0:=by kernel_rfl
@[simp] theorem zru:zaq Try.prog 94 1=some 1:=by kernel_rfl
@[simp] theorem zdp:zaq Try.prog 99 0=some 0:=by kernel_rfl
@[simp] theorem zbS:zaq Try.prog 99 1=some 1:=by kernel_rfl
@[simp] theorem zuH:zaq Try.prog 110 0=some 0:=by kernel_rfl
@[simp] theorem zuI:zaq Try.prog 110 1=some 4:=by kernel_rfl
@[simp] theorem zuJ:zaq Try.prog 110 2=some 5:=by kernel_rfl
@[simp] theorem zuK:zaq Try.prog 117 0=some 0:=by kernel_rfl
@[simp] theorem zuL:zaq Try.prog 117 1=some 1:=by kernel_rfl
@[simp] theorem zuM:zaq Try.prog 117 2=some 2:=by kernel_rfl
@[simp] theorem zuN:zaq Try.prog 117 3=some 3:=by kernel_rfl
@[simp] theorem zuO:zaq Try.prog 119 0=some 0:=by kernel_rfl
@[simp] theorem zuP:zaq Try.prog 119 1=some 3:=by kernel_rfl
@[simp] theorem zuQ:zaq Try.prog 119 2=some 4:=by kernel_rfl
@[simp] theorem zd6:zaq Try.prog 125 0=some 0:=by kernel_rfl
@[simp] theorem zuR:zaq Try.prog 130 0=some 0:=by kernel_rfl
@[simp] theorem zuS:zaq Try.prog 130 1=some 2:=by kernel_rfl
@[simp] theorem zuT:zaq Try.prog 137 0=some 0:=by kernel_rfl
@[simp] theorem zuU:zaq Try.prog 142 0=some 0:=by kernel_rfl
@[simp] theorem zuV:zaq Try.prog 142 1=some 1:=by kernel_rfl
@[simp] theorem zuW:zaq Try.prog 142 2=some 2:=by kernel_rfl
@[simp] theorem zdu:zaq Try.prog 148 0=some 0:=by kernel_rfl
@[simp] theorem zci:zaq Try.prog 155 0=some 0:=by kernel_rfl
@[simp] theorem ze1:zaq Try.prog 155 1=some 2:=by kernel_rfl
@[simp] theorem zhK:zaq Try.prog 155 2=some 6:=by kernel_rfl
@[simp] theorem zuX:zaq Try.prog 169 0=some 0:=by kernel_rfl
@[simp] theorem zuY:zaq Try.prog 169 1=some 3:=by kernel_rfl
@[simp] theorem zuZ:zaq Try.prog 169 2=some 4:=by kernel_rfl
@[simp] theorem zlz:zaq Try.prog 187 0=some 0:=by kernel_rfl
@[simp] theorem zp0:zaq Try.prog 187 1=some 1:=by kernel_rfl
@[simp] theorem zu0:zaq Try.prog 202 0=some 0:=by kernel_rfl
@[simp] theorem zu1:zaq Try.prog 202 1=some 2:=by kernel_rfl
end Go.Proofs.Ytenogpmlhpcibaa
