/-
  What the abstract machine's runs want to know of this program's types.
  Conditions: none.
-/
import Derived.Test.YtenogpmlhpcibaaAmRr
import Derived.Test.YtenogpmlhpcibaaAmQu
import Derived.Test.YtenogpmlhpcibaaAmKs
import Derived.Test.YtenogpmlhpcibaaChecked
set_option linter.all false
namespace Go.Proofs.Ytenogpmlhpcibaa
open Go Go.AM
theorem mixed:Try.prog.follows .mixedOrders=true:=Try.checked.mixed
@[simp] theorem zag:zai Try.prog 3=none:=by kernel_rfl
@[simp] theorem zav:scalar Try.prog 3=true:=by kernel_rfl
@[simp] theorem zhd:zaf Try.prog 3=some 1:=by kernel_rfl
@[simp] theorem zwE:zcq Try.prog 3=some [AV.v (.int .i64 0)]:=by kernel_rfl
@[simp] theorem zyo:intKind Try.prog 3=some .i64:=by kernel_rfl
@[simp] theorem zyp:zai Try.prog 4=none:=by kernel_rfl
@[simp] theorem zyX:scalar Try.prog 4=true:=by kernel_rfl
@[simp] theorem zyq:zaf Try.prog 4=some 1:=by kernel_rfl
@[simp] theorem zwF:zcq Try.prog 4=some [AV.v (.bool false)]:=by kernel_rfl
@[simp] theorem zwG:isBool Try.prog 4=true:=by kernel_rfl
@[simp] theorem zyr:zai Try.prog 5=none:=by kernel_rfl
@[simp] theorem zyY:scalar Try.prog 5=true:=by kernel_rfl
@[simp] theorem zys:zaf Try.prog 5=some 1:=by kernel_rfl
@[simp] theorem zyt:intKind Try.prog 5=some .u8:=by kernel_rfl
@[simp] theorem zan:zai Try.prog 22=none:=by kernel_rfl
@[simp] theorem zaE:scalar Try.prog 22=true:=by kernel_rfl
@[simp] theorem zk8:zaf Try.prog 22=some 1:=by kernel_rfl
@[simp] theorem zaM:isSlice Try.prog 22=true:=by kernel_rfl
@[simp] theorem zb1:zbF Try.prog 22=some 3:=by kernel_rfl
@[simp] theorem zaw:zax Try.prog 22=some 1:=by kernel_rfl
@[simp] theorem zbU:zaV Try.prog 22=true:=by kernel_rfl
@[simp] theorem zcH:zai Try.prog 24=some 3:=by kernel_rfl
@[simp] theorem zk9:zaf Try.prog 24=some 3:=by kernel_rfl
@[simp] theorem zpZ:places Try.prog 24=some [(0,1),(1,1),(2,1)]:=by kernel_rfl
@[simp] theorem zhF:zcq Try.prog 24=some [AV.v (.int .i64 0),AV.sl .nil 0 [],AV.sl .nil 0 []]:=by kernel_rfl
@[simp] theorem zbf:zai Try.prog 26=some 8:=by kernel_rfl
@[simp] theorem zhG:zaf Try.prog 26=some 8:=by kernel_rfl
@[simp] theorem zsA:places Try.prog 26=some [(0,3),(3,1),(4,1),(5,1),(6,1),(7,1)]:=by kernel_rfl
@[simp] theorem zfG:zcq Try.prog 26=some [AV.v (.int .i64 0),AV.sl .nil 0 [],AV.sl .nil 0 [],AV.sl .nil 0 [],AV.sl .nil 0 [],AV.sl .nil 0 [],AV.v (.int .i64 0),AV.v (.int .i64 0)]:=by kernel_rfl
@[simp] theorem zwH:zai Try.prog 30=none:=by kernel_rfl
@[simp] theorem zyu:scalar Try.prog 30=true:=by kernel_rfl
@[simp] theorem zwI:zaf Try.prog 30=some 1:=by kernel_rfl
@[simp] theorem zwJ:intKind Try.prog 30=some .i64:=by kernel_rfl
@[simp] theorem zwK:zai Try.prog 50=none:=by kernel_rfl
@[simp] theorem zyv:scalar Try.prog 50=true:=by kernel_rfl
@[simp] theorem zwL:zaf Try.prog 50=some 1:=by kernel_rfl
@[simp] theorem zwM:isSlice Try.prog 50=true:=by kernel_rfl
@[simp] theorem zyw:zbF Try.prog 50=some 26:=by kernel_rfl
@[simp] theorem zyx:zax Try.prog 50=some 8:=by kernel_rfl
@[simp] theorem zyy:zaV Try.prog 50=true:=by kernel_rfl
@[simp] theorem zwN:zai Try.prog 57=none:=by kernel_rfl
@[simp] theorem zyz:scalar Try.prog 57=true:=by kernel_rfl
@[simp] theorem zwO:zaf Try.prog 57=some 1:=by kernel_rfl
@[simp] theorem zwP:isSlice Try.prog 57=true:=by kernel_rfl
@[simp] theorem zyA:zbF Try.prog 57=some 117:=by kernel_rfl
@[simp] theorem zyB:zax Try.prog 57=some 4:=by kernel_rfl
@[simp] theorem zyC:zaV Try.prog 57=true:=by kernel_rfl
@[simp] theorem zwQ:zai Try.prog 59=some 2:=by kernel_rfl
@[simp] theorem zwR:zaf Try.prog 59=some 2:=by kernel_rfl
@[simp] theorem zyD:places Try.prog 59=some [(0,1),(1,1)]:=by kernel_rfl
@[simp] theorem zt6:zcq Try.prog 59=some [AV.sl .nil 0 [],AV.v (.int .i64 0)]:=by kernel_rfl
@[simp] theorem zwS:zai Try.prog 62=some 3:=by kernel_rfl
@[simp] theorem zwT:zaf Try.prog 62=some 3:=by kernel_rfl
@[simp] theorem zyE:places Try.prog 62=some [(0,1),(1,1),(2,1)]:=by kernel_rfl
@[simp] theorem zt7:zcm Try.prog 62=some 3:=by kernel_rfl
@[simp] theorem zt8:zcq Try.prog 62=some [AV.v (.int .i64 0),AV.v (.int .i64 0),AV.v (.int .i64 0)]:=by kernel_rfl
@[simp] theorem zwU:zai Try.prog 70=some 3:=by kernel_rfl
@[simp] theorem zwV:zaf Try.prog 70=some 3:=by kernel_rfl
@[simp] theorem zyF:places Try.prog 70=some [(0,1),(1,1),(2,1)]:=by kernel_rfl
@[simp] theorem zt9:zcm Try.prog 70=some 3:=by kernel_rfl
@[simp] theorem zwW:zai Try.prog 73=some 4:=by kernel_rfl
@[simp] theorem zwX:zaf Try.prog 73=some 4:=by kernel_rfl
@[simp] theorem zyG:places Try.prog 73=some [(0,1),(1,1),(2,1),(3,1)]:=by kernel_rfl
@[simp] theorem zua:zcq Try.prog 73=some [AV.v (.int .i64 0),AV.v (.int .i64 0),AV.v (.int .i64 0),AV.sl .nil 0 []]:=by kernel_rfl
@[simp] theorem zwY:zai Try.prog 74=none:=by kernel_rfl
@[simp] theorem zyH:scalar Try.prog 74=true:=by kernel_rfl
@[simp] theorem zwZ:zaf Try.prog 74=some 1:=by kernel_rfl
@[simp] theorem zw0:isSlice Try.prog 74=true:=by kernel_rfl
@[simp] theorem zyI:zbF Try.prog 74=some 73:=by kernel_rfl
@[simp] theorem zyJ:zax Try.prog 74=some 4:=by kernel_rfl
@[simp] theorem zyK:zaV Try.prog 74=true:=by kernel_rfl
@[simp] theorem zw1:zai Try.prog 76=some 6:=by kernel_rfl
@[simp] theorem zw2:zaf Try.prog 76=some 6:=by kernel_rfl
@[simp] theorem zyL:places Try.prog 76=some [(0,1),(1,1),(2,1),(3,1),(4,1),(5,1)]:=by kernel_rfl
@[simp] theorem zub:zcq Try.prog 76=some [AV.v (.int .i64 0),AV.v (.int .i64 0),AV.v (.int .i64 0),AV.v (.int .i64 0),AV.sl .nil 0 [],AV.sl .nil 0 []]:=by kernel_rfl
@[simp] theorem zw3:zai Try.prog 81=some 2:=by kernel_rfl
@[simp] theorem zw4:zaf Try.prog 81=some 2:=by kernel_rfl
@[simp] theorem zyM:places Try.prog 81=some [(0,1),(1,1)]:=by kernel_rfl
@[simp] theorem zuc:zcq Try.prog 81=some [AV.v (.int .i64 0),AV.sl .nil 0 []]:=by kernel_rfl
@[simp] theorem zw5:zai Try.prog 82=none:=by kernel_rfl
@[simp] theorem zyN:scalar Try.prog 82=true:=by kernel_rfl
@[simp] theorem zw6:zaf Try.prog 82=some 1:=by kernel_rfl
@[simp] theorem zw7:isSlice Try.prog 82=true:=by kernel_rfl
@[simp] theorem zyO:zbF Try.prog 82=some 81:=by kernel_rfl
@[simp] theorem zyP:zax Try.prog 82=some 2:=by kernel_rfl
@[simp] theorem zyQ:zaV Try.prog 82=true:=by kernel_rfl
@[simp] theorem zf0:zai Try.prog 86=none:=by kernel_rfl
@[simp] theorem zhe:scalar Try.prog 86=true:=by kernel_rfl
@[simp] theorem zw8:zaf Try.prog 86=some 1:=by kernel_rfl
@[simp] theorem zeu:zai Try.prog 90=none:=by kernel_rfl
@[simp] theorem zfx:scalar Try.prog 90=true:=by kernel_rfl
@[simp] theorem ziQ:zaf Try.prog 90=some 1:=by kernel_rfl
@[simp] theorem zp0:zcq Try.prog 90=some [AV.sl .nil 0 []]:=by kernel_rfl
@[simp] theorem zhH:isSlice Try.prog 90=true:=by kernel_rfl
@[simp] theorem zif:zbF Try.prog 90=some 94:=by kernel_rfl
@[simp] theorem zf1:zax Try.prog 90=some 2:=by kernel_rfl
@[simp] theorem zig:zaV Try.prog 90=true:=by kernel_rfl
@[simp] theorem zw9:zai Try.prog 94=some 2:=by kernel_rfl
@[simp] theorem zxa:zaf Try.prog 94=some 2:=by kernel_rfl
@[simp] theorem zmR:places Try.prog 94=some [(0,1),(1,1)]:=by kernel_rfl
@[simp] theorem zjv:zcq Try.prog 94=some [AV.sl .nil 0 [],AV.sl .nil 0 []]:=by kernel_rfl
@[simp] theorem zfo:zai Try.prog 99=some 2:=by kernel_rfl
@[simp] theorem zfp:zaf Try.prog 99=some 2:=by kernel_rfl
@[simp] theorem zhf:places Try.prog 99=some [(0,1),(1,1)]:=by kernel_rfl
@[simp] theorem zud:zcm Try.prog 99=some 2:=by kernel_rfl
@[simp] theorem zdb:zcq Try.prog 99=some [AV.v (.int .i64 0),AV.v (.int .i64 0)]:=by kernel_rfl
@[simp] theorem zue:zai Try.prog 102=some 3:=by kernel_rfl
@[simp] theorem zuf:zaf Try.prog 102=some 3:=by kernel_rfl
@[simp] theorem zug:zkD Try.prog 102=some (3,1):=by kernel_rfl
@[simp] theorem zp1:zmp Try.prog 102=some (3,22,1):=by kernel_rfl
@[simp] theorem zrh:places Try.prog 102=some [(0,1),(1,1),(2,1)]:=by kernel_rfl
@[simp] theorem zoF:zcq Try.prog 102=some [AV.sl .nil 0 [],AV.sl .nil 0 [],AV.sl .nil 0 []]:=by kernel_rfl
@[simp] theorem zp2:zai Try.prog 104=none:=by kernel_rfl
@[simp] theorem zri:scalar Try.prog 104=true:=by kernel_rfl
@[simp] theorem zuh:zaf Try.prog 104=some 1:=by kernel_rfl
@[simp] theorem zui:zai Try.prog 106=none:=by kernel_rfl
@[simp] theorem zxb:scalar Try.prog 106=true:=by kernel_rfl
@[simp] theorem zuj:zaf Try.prog 106=some 1:=by kernel_rfl
@[simp] theorem zuk:zai Try.prog 108=some 4:=by kernel_rfl
@[simp] theorem zul:zaf Try.prog 108=some 4:=by kernel_rfl
@[simp] theorem zsZ:zcm Try.prog 108=some 4:=by kernel_rfl
@[simp] theorem zum:zkD Try.prog 108=some (4,1):=by kernel_rfl
@[simp] theorem zun:zmp Try.prog 108=some (4,3,1):=by kernel_rfl
@[simp] theorem zxc:places Try.prog 108=some [(0,1),(1,1),(2,1),(3,1)]:=by kernel_rfl
@[simp] theorem zuo:zai Try.prog 110=some 6:=by kernel_rfl
@[simp] theorem zup:zaf Try.prog 110=some 6:=by kernel_rfl
@[simp] theorem zxd:places Try.prog 110=some [(0,4),(4,1),(5,1)]:=by kernel_rfl
@[simp] theorem zs0:zcm Try.prog 110=some 6:=by kernel_rfl
@[simp] theorem zs1:zcq Try.prog 110=some [AV.v (.int .i64 0),AV.v (.int .i64 0),AV.v (.int .i64 0),AV.v (.int .i64 0),AV.v (.int .i64 0),AV.v (.int .i64 0)]:=by kernel_rfl
@[simp] theorem zuq:zai Try.prog 113=none:=by kernel_rfl
@[simp] theorem zxe:scalar Try.prog 113=true:=by kernel_rfl
@[simp] theorem zur:zaf Try.prog 113=some 1:=by kernel_rfl
@[simp] theorem zus:zai Try.prog 117=some 4:=by kernel_rfl
@[simp] theorem zut:zaf Try.prog 117=some 4:=by kernel_rfl
@[simp] theorem zxf:places Try.prog 117=some [(0,1),(1,1),(2,1),(3,1)]:=by kernel_rfl
@[simp] theorem zs2:zcm Try.prog 117=some 4:=by kernel_rfl
@[simp] theorem zs3:zcq Try.prog 117=some [AV.v (.int .i64 0),AV.v (.int .i64 0),AV.v (.int .i64 0),AV.v (.int .i64 0)]:=by kernel_rfl
@[simp] theorem zuu:zai Try.prog 119=some 5:=by kernel_rfl
@[simp] theorem zuv:zaf Try.prog 119=some 5:=by kernel_rfl
@[simp] theorem zxg:places Try.prog 119=some [(0,3),(3,1),(4,1)]:=by kernel_rfl
@[simp] theorem zs4:zcm Try.prog 119=some 5:=by kernel_rfl
@[simp] theorem zs5:zcq Try.prog 119=some [AV.v (.int .i64 0),AV.v (.int .i64 0),AV.v (.int .i64 0),AV.v (.int .i64 0),AV.v (.int .i64 0)]:=by kernel_rfl
@[simp] theorem zeC:zai Try.prog 125=some 3:=by kernel_rfl
@[simp] theorem zhI:zaf Try.prog 125=some 3:=by kernel_rfl
@[simp] theorem ziR:places Try.prog 125=some [(0,3)]:=by kernel_rfl
@[simp] theorem zeX:zcq Try.prog 125=some [AV.v (.int .i64 0),AV.sl .nil 0 [],AV.sl .nil 0 []]:=by kernel_rfl
@[simp] theorem zuw:zai Try.prog 128=none:=by kernel_rfl
@[simp] theorem zxh:scalar Try.prog 128=true:=by kernel_rfl
@[simp] theorem zux:zaf Try.prog 128=some 1:=by kernel_rfl
@[simp] theorem zuy:zai Try.prog 130=some 3:=by kernel_rfl
@[simp] theorem zuz:zaf Try.prog 130=some 3:=by kernel_rfl
@[simp] theorem zxi:places Try.prog 130=some [(0,2),(2,1)]:=by kernel_rfl
@[simp] theorem zs6:zcm Try.prog 130=some 3:=by kernel_rfl
@[simp] theorem zs7:zcq Try.prog 130=some [AV.v (.int .i64 0),AV.v (.int .i64 0),AV.v (.int .i64 0)]:=by kernel_rfl
@[simp] theorem zuA:zai Try.prog 131=none:=by kernel_rfl
@[simp] theorem zxj:scalar Try.prog 131=true:=by kernel_rfl
@[simp] theorem zuB:zaf Try.prog 131=some 1:=by kernel_rfl
@[simp] theorem zuC:isSlice Try.prog 131=true:=by kernel_rfl
@[simp] theorem zxk:zbF Try.prog 131=some 130:=by kernel_rfl
@[simp] theorem zxl:zax Try.prog 131=some 3:=by kernel_rfl
@[simp] theorem zxm:zaV Try.prog 131=true:=by kernel_rfl
@[simp] theorem zuD:zai Try.prog 132=none:=by kernel_rfl
@[simp] theorem zxn:scalar Try.prog 132=true:=by kernel_rfl
@[simp] theorem zuE:zaf Try.prog 132=some 1:=by kernel_rfl
@[simp] theorem zuF:isSlice Try.prog 132=true:=by kernel_rfl
@[simp] theorem zxo:zbF Try.prog 132=some 131:=by kernel_rfl
@[simp] theorem zxp:zax Try.prog 132=some 1:=by kernel_rfl
@[simp] theorem zxq:zaV Try.prog 132=true:=by kernel_rfl
@[simp] theorem zuG:zai Try.prog 133=none:=by kernel_rfl
@[simp] theorem zxr:scalar Try.prog 133=true:=by kernel_rfl
@[simp] theorem zuH:zaf Try.prog 133=some 1:=by kernel_rfl
@[simp] theorem zuI:zgU Try.prog 133=some (130,3):=by kernel_rfl
@[simp] theorem zxs:zo8 Try.prog 3=some .i64:=by kernel_rfl
@[simp] theorem zuJ:zai Try.prog 134=none:=by kernel_rfl
@[simp] theorem zxt:scalar Try.prog 134=true:=by kernel_rfl
@[simp] theorem zuK:zaf Try.prog 134=some 1:=by kernel_rfl
@[simp] theorem zuL:isSlice Try.prog 134=true:=by kernel_rfl
@[simp] theorem zxu:zbF Try.prog 134=some 99:=by kernel_rfl
@[simp] theorem zxv:zax Try.prog 134=some 2:=by kernel_rfl
@[simp] theorem zxw:zaV Try.prog 134=true:=by kernel_rfl
@[simp] theorem zuM:zai Try.prog 137=some 6:=by kernel_rfl
@[simp] theorem zuN:zaf Try.prog 137=some 6:=by kernel_rfl
@[simp] theorem zxx:places Try.prog 137=some [(0,6)]:=by kernel_rfl
@[simp] theorem zs8:zcq Try.prog 137=some [AV.v (.int .i64 0),AV.v (.int .i64 0),AV.v (.int .i64 0),AV.v (.int .i64 0),AV.sl .nil 0 [],AV.sl .nil 0 []]:=by kernel_rfl
@[simp] theorem zuO:zai Try.prog 140=none:=by kernel_rfl
@[simp] theorem zxy:scalar Try.prog 140=true:=by kernel_rfl
@[simp] theorem zuP:zaf Try.prog 140=some 1:=by kernel_rfl
@[simp] theorem zuQ:intKind Try.prog 140=some .i64:=by kernel_rfl
@[simp] theorem zuR:zai Try.prog 142=some 3:=by kernel_rfl
@[simp] theorem zuS:zaf Try.prog 142=some 3:=by kernel_rfl
@[simp] theorem zxz:places Try.prog 142=some [(0,1),(1,1),(2,1)]:=by kernel_rfl
@[simp] theorem zs9:zcq Try.prog 142=some [AV.sl .nil 0 [],AV.v (.int .i64 0),AV.v (.int .i64 0)]:=by kernel_rfl
@[simp] theorem zuT:zai Try.prog 143=none:=by kernel_rfl
@[simp] theorem zxA:scalar Try.prog 143=true:=by kernel_rfl
@[simp] theorem zuU:zaf Try.prog 143=some 1:=by kernel_rfl
@[simp] theorem zuV:zai Try.prog 145=none:=by kernel_rfl
@[simp] theorem zxB:scalar Try.prog 145=true:=by kernel_rfl
@[simp] theorem zuW:zaf Try.prog 145=some 1:=by kernel_rfl
@[simp] theorem zuX:zai Try.prog 148=some 8:=by kernel_rfl
@[simp] theorem zuY:zaf Try.prog 148=some 8:=by kernel_rfl
@[simp] theorem zrj:places Try.prog 148=some [(0,8)]:=by kernel_rfl
@[simp] theorem zoG:zcq Try.prog 148=some [AV.v (.int .i64 0),AV.sl .nil 0 [],AV.sl .nil 0 [],AV.sl .nil 0 [],AV.sl .nil 0 [],AV.sl .nil 0 [],AV.v (.int .i64 0),AV.v (.int .i64 0)]:=by kernel_rfl
@[simp] theorem zuZ:zai Try.prog 150=none:=by kernel_rfl
@[simp] theorem zxC:scalar Try.prog 150=true:=by kernel_rfl
@[simp] theorem zu0:zaf Try.prog 150=some 1:=by kernel_rfl
@[simp] theorem zu1:zai Try.prog 152=none:=by kernel_rfl
@[simp] theorem zxD:scalar Try.prog 152=true:=by kernel_rfl
@[simp] theorem zu2:zaf Try.prog 152=some 1:=by kernel_rfl
@[simp] theorem zhJ:zgU Try.prog 152=some (3,155):=by kernel_rfl
@[simp] theorem zdc:zai Try.prog 153=some 4:=by kernel_rfl
@[simp] theorem zlT:zaf Try.prog 153=some 4:=by kernel_rfl
@[simp] theorem zoH:zcm Try.prog 153=some 4:=by kernel_rfl
@[simp] theorem zfa:zkD Try.prog 153=some (4,1):=by kernel_rfl
@[simp] theorem zp3:zmp Try.prog 153=some (4,3,1):=by kernel_rfl
@[simp] theorem zxE:places Try.prog 153=some [(0,1),(1,1),(2,1),(3,1)]:=by kernel_rfl
@[simp] theorem zih:zcq Try.prog 153=some [AV.v (.int .i64 0),AV.v (.int .i64 0),AV.v (.int .i64 0),AV.v (.int .i64 0)]:=by kernel_rfl
@[simp] theorem zeD:zai Try.prog 155=some 7:=by kernel_rfl
@[simp] theorem zhK:zaf Try.prog 155=some 7:=by kernel_rfl
@[simp] theorem ziS:places Try.prog 155=some [(0,2),(2,4),(6,1)]:=by kernel_rfl
@[simp] theorem zta:zcm Try.prog 155=some 7:=by kernel_rfl
@[simp] theorem zdS:zcq Try.prog 155=some [AV.v (.int .i64 0),AV.v (.int .i64 0),AV.v (.int .i64 0),AV.v (.int .i64 0),AV.v (.int .i64 0),AV.v (.int .i64 0),AV.v (.int .i64 0)]:=by kernel_rfl
@[simp] theorem zjw:zai Try.prog 157=none:=by kernel_rfl
@[simp] theorem zla:scalar Try.prog 157=true:=by kernel_rfl
@[simp] theorem zp4:zaf Try.prog 157=some 1:=by kernel_rfl
@[simp] theorem zoI:zcq Try.prog 157=some [AV.v (.map none)]:=by kernel_rfl
@[simp] theorem zfb:zgU Try.prog 157=some (155,187):=by kernel_rfl
@[simp] theorem zu3:zai Try.prog 164=none:=by kernel_rfl
@[simp] theorem zxF:scalar Try.prog 164=true:=by kernel_rfl
@[simp] theorem zu4:zaf Try.prog 164=some 1:=by kernel_rfl
@[simp] theorem zu5:isSlice Try.prog 164=true:=by kernel_rfl
@[simp] theorem zxG:zbF Try.prog 164=some 22:=by kernel_rfl
@[simp] theorem zxH:zax Try.prog 164=some 1:=by kernel_rfl
@[simp] theorem zxI:zaV Try.prog 164=true:=by kernel_rfl
@[simp] theorem zu6:zai Try.prog 167=none:=by kernel_rfl
@[simp] theorem zxJ:scalar Try.prog 167=true:=by kernel_rfl
@[simp] theorem zu7:zaf Try.prog 167=some 1:=by kernel_rfl
@[simp] theorem zu8:zgU Try.prog 167=some (110,3):=by kernel_rfl
@[simp] theorem zxK:zo8 Try.prog 3=some .i64:=by kernel_rfl
@[simp] theorem zu9:zai Try.prog 169=some 5:=by kernel_rfl
@[simp] theorem zva:zaf Try.prog 169=some 5:=by kernel_rfl
@[simp] theorem zxL:places Try.prog 169=some [(0,3),(3,1),(4,1)]:=by kernel_rfl
@[simp] theorem ztb:zcq Try.prog 169=some [AV.v (.int .i64 0),AV.sl .nil 0 [],AV.sl .nil 0 [],AV.v .nilFunc,AV.v (.map none)]:=by kernel_rfl
@[simp] theorem zvb:zai Try.prog 172=none:=by kernel_rfl
@[simp] theorem zxM:scalar Try.prog 172=true:=by kernel_rfl
@[simp] theorem zvc:zaf Try.prog 172=some 1:=by kernel_rfl
@[simp] theorem zvd:zai Try.prog 173=none:=by kernel_rfl
@[simp] theorem zxN:scalar Try.prog 173=true:=by kernel_rfl
@[simp] theorem zve:zaf Try.prog 173=some 1:=by kernel_rfl
@[simp] theorem zvf:zai Try.prog 176=none:=by kernel_rfl
@[simp] theorem zxO:scalar Try.prog 176=true:=by kernel_rfl
@[simp] theorem zvg:zaf Try.prog 176=some 1:=by kernel_rfl
@[simp] theorem zvh:zai Try.prog 178=none:=by kernel_rfl
@[simp] theorem zxP:scalar Try.prog 178=true:=by kernel_rfl
@[simp] theorem zvi:zaf Try.prog 178=some 1:=by kernel_rfl
@[simp] theorem zvj:zai Try.prog 182=none:=by kernel_rfl
@[simp] theorem zxQ:scalar Try.prog 182=true:=by kernel_rfl
@[simp] theorem zvk:zaf Try.prog 182=some 1:=by kernel_rfl
@[simp] theorem zvl:zai Try.prog 184=none:=by kernel_rfl
@[simp] theorem zxR:scalar Try.prog 184=true:=by kernel_rfl
@[simp] theorem zvm:zaf Try.prog 184=some 1:=by kernel_rfl
@[simp] theorem zp5:zai Try.prog 187=some 8:=by kernel_rfl
@[simp] theorem zhL:zaf Try.prog 187=some 8:=by kernel_rfl
@[simp] theorem znE:places Try.prog 187=some [(0,1),(1,7)]:=by kernel_rfl
@[simp] theorem ztc:zcm Try.prog 187=some 8:=by kernel_rfl
@[simp] theorem zfH:zcq Try.prog 187=some [AV.v (.int .i64 0),AV.v (.int .i64 0),AV.v (.int .i64 0),AV.v (.int .i64 0),AV.v (.int .i64 0),AV.v (.int .i64 0),AV.v (.int .i64 0),AV.v (.int .i64 0)]:=by kernel_rfl
@[simp] theorem zhM:zai Try.prog 188=none:=by kernel_rfl
@[simp] theorem ziT:scalar Try.prog 188=true:=by kernel_rfl
@[simp] theorem zjx:zaf Try.prog 188=some 1:=by kernel_rfl
@[simp] theorem zoJ:zcq Try.prog 188=some [AV.sl .nil 0 []]:=by kernel_rfl
@[simp] theorem zp6:isSlice Try.prog 188=true:=by kernel_rfl
@[simp] theorem znF:zbF Try.prog 188=some 155:=by kernel_rfl
@[simp] theorem zhN:zax Try.prog 188=some 7:=by kernel_rfl
@[simp] theorem zlb:zaV Try.prog 188=true:=by kernel_rfl
@[simp] theorem zvn:zai Try.prog 191=none:=by kernel_rfl
@[simp] theorem zxS:scalar Try.prog 191=true:=by kernel_rfl
@[simp] theorem zvo:zaf Try.prog 191=some 1:=by kernel_rfl
@[simp] theorem zvp:zai Try.prog 198=none:=by kernel_rfl
@[simp] theorem zxT:scalar Try.prog 198=true:=by kernel_rfl
@[simp] theorem zvq:zaf Try.prog 198=some 1:=by kernel_rfl
@[simp] theorem zvr:isSlice Try.prog 198=true:=by kernel_rfl
@[simp] theorem zxU:zbF Try.prog 198=some 199:=by kernel_rfl
@[simp] theorem zxV:zax Try.prog 198=some 1:=by kernel_rfl
@[simp] theorem zxW:zaV Try.prog 198=true:=by kernel_rfl
@[simp] theorem zvs:zai Try.prog 199=none:=by kernel_rfl
@[simp] theorem zxX:scalar Try.prog 199=true:=by kernel_rfl
@[simp] theorem zvt:zaf Try.prog 199=some 1:=by kernel_rfl
@[simp] theorem zvu:isSlice Try.prog 199=true:=by kernel_rfl
@[simp] theorem zxY:zbF Try.prog 199=some 202:=by kernel_rfl
@[simp] theorem zxZ:zax Try.prog 199=some 3:=by kernel_rfl
@[simp] theorem zx0:zaV Try.prog 199=true:=by kernel_rfl
@[simp] theorem zvv:zai Try.prog 202=some 3:=by kernel_rfl
@[simp] theorem zvw:zaf Try.prog 202=some 3:=by kernel_rfl
@[simp] theorem zx1:places Try.prog 202=some [(0,2),(2,1)]:=by kernel_rfl
@[simp] theorem ztd:zcm Try.prog 202=some 3:=by kernel_rfl
@[simp] theorem zte:zcq Try.prog 202=some [AV.v (.int .i64 0),AV.v (.int .i64 0),AV.v (.int .i64 0)]:=by kernel_rfl
@[simp] theorem zvx:zai Try.prog 211=some 6:=by kernel_rfl
@[simp] theorem zvy:zaf Try.prog 211=some 6:=by kernel_rfl
@[simp] theorem zvz:zkD Try.prog 211=some (6,1):=by kernel_rfl
@[simp] theorem zvA:zmp Try.prog 211=some (6,176,1):=by kernel_rfl
@[simp] theorem zx2:places Try.prog 211=some [(0,1),(1,1),(2,1),(3,1),(4,1),(5,1)]:=by kernel_rfl
@[simp] theorem ztf:zcq Try.prog 211=some [AV.v .nilFunc,AV.v .nilFunc,AV.v .nilFunc,AV.v .nilFunc,AV.v .nilFunc,AV.v .nilFunc]:=by kernel_rfl
@[simp] theorem zvB:zai Try.prog 212=none:=by kernel_rfl
@[simp] theorem zx3:scalar Try.prog 212=true:=by kernel_rfl
@[simp] theorem zvC:zaf Try.prog 212=some 1:=by kernel_rfl
@[simp] theorem zvD:zai Try.prog 216=none:=by kernel_rfl
@[simp] theorem zx4:scalar Try.prog 216=true:=by kernel_rfl
@[simp] theorem zvE:zaf Try.prog 216=some 1:=by kernel_rfl
@[simp] theorem zvF:intKind Try.prog 216=some .u64:=by kernel_rfl
@[simp] theorem zvG:zai Try.prog 220=none:=by kernel_rfl
@[simp] theorem zx5:scalar Try.prog 220=true:=by kernel_rfl
@[simp] theorem zvH:zaf Try.prog 220=some 1:=by kernel_rfl
@[simp] theorem zvI:intKind Try.prog 220=some .i64:=by kernel_rfl
@[simp] theorem zvJ:zai Try.prog 226=none:=by kernel_rfl
@[simp] theorem zx6:scalar Try.prog 226=true:=by kernel_rfl
@[simp] theorem zvK:zaf Try.prog 226=some 1:=by kernel_rfl
@[simp] theorem zvL:intKind Try.prog 226=some .u32:=by kernel_rfl
@[simp] theorem zvM:zai Try.prog 228=none:=by kernel_rfl
@[simp] theorem zx7:scalar Try.prog 228=true:=by kernel_rfl
@[simp] theorem zvN:zaf Try.prog 228=some 1:=by kernel_rfl
@[simp] theorem zvO:intKind Try.prog 228=some .u64:=by kernel_rfl
@[simp] theorem zvP:zai Try.prog 229=none:=by kernel_rfl
@[simp] theorem zx8:scalar Try.prog 229=true:=by kernel_rfl
@[simp] theorem zvQ:zaf Try.prog 229=some 1:=by kernel_rfl
@[simp] theorem ztg:zcq Try.prog 229=some [AV.v (.int .u64 0)]:=by kernel_rfl
@[simp] theorem zvR:intKind Try.prog 229=some .u64:=by kernel_rfl
@[simp] theorem zvS:zai Try.prog 233=none:=by kernel_rfl
@[simp] theorem zx9:scalar Try.prog 233=true:=by kernel_rfl
@[simp] theorem zvT:zaf Try.prog 233=some 1:=by kernel_rfl
@[simp] theorem zvU:zai Try.prog 235=none:=by kernel_rfl
@[simp] theorem zya:scalar Try.prog 235=true:=by kernel_rfl
@[simp] theorem zvV:zaf Try.prog 235=some 1:=by kernel_rfl
@[simp] theorem zdd:zal Try.prog 24 0=some 0:=by kernel_rfl
@[simp] theorem zfI:zal Try.prog 24 1=some 1:=by kernel_rfl
@[simp] theorem zb9:zal Try.prog 24 2=some 2:=by kernel_rfl
@[simp] theorem zbI:zal Try.prog 26 0=some 0:=by kernel_rfl
@[simp] theorem zbV:zal Try.prog 26 1=some 3:=by kernel_rfl
@[simp] theorem zdw:zal Try.prog 26 2=some 4:=by kernel_rfl
@[simp] theorem zdx:zal Try.prog 26 3=some 5:=by kernel_rfl
@[simp] theorem zgw:zal Try.prog 26 4=some 6:=by kernel_rfl
@[simp] theorem zjy:zal Try.prog 26 5=some 7:=by kernel_rfl
@[simp] theorem zvW:zal Try.prog 59 0=some 0:=by kernel_rfl
@[simp] theorem zvX:zal Try.prog 59 1=some 1:=by kernel_rfl
@[simp] theorem zvY:zal Try.prog 62 0=some 0:=by kernel_rfl
@[simp] theorem zvZ:zal Try.prog 62 1=some 1:=by kernel_rfl
@[simp] theorem zv0:zal Try.prog 62 2=some 2:=by kernel_rfl
@[simp] theorem zv1:zal Try.prog 70 0=some 0:=by kernel_rfl
@[simp] theorem zv2:zal Try.prog 70 1=some 1:=by kernel_rfl
@[simp] theorem zv3:zal Try.prog 70 2=some 2:=by kernel_rfl
@[simp] theorem zv4:zal Try.prog 73 0=some 0:=by kernel_rfl
@[simp] theorem zv5:zal Try.prog 73 1=some 1:=by kernel_rfl
@[simp] theorem zv6:zal Try.prog 73 2=some 2:=by kernel_rfl
@[simp] theorem zv7:zal Try.prog 73 3=some 3:=by kernel_rfl
@[simp] theorem zv8:zal Try.prog 76 0=some 0:=by kernel_rfl
@[simp] theorem zv9:zal Try.prog 76 1=some 1:=by kernel_rfl
@[simp] theorem zwa:zal Try.prog 76 2=some 2:=by kernel_rfl
@[simp] theorem zwb:zal Try.prog 76 3=some 3:=by kernel_rfl
@[simp] theorem zwc:zal Try.prog 76 4=some 4:=by kernel_rfl
@[simp] theorem zwd:zal Try.prog 76 5=some 5:=by kernel_rfl
@[simp] theorem zwe:zal Try.prog 81 0=some 0:=by kernel_rfl
@[simp] theorem zwf:zal Try.prog 81 1=some 1:=by kernel_rfl
@[simp] theorem zjz:zal Try.prog 94 0=some 0:=by kernel_rfl
@[simp] theorem zwg:zal Try.prog 94 1=some 1:=by kernel_rfl
@[simp] theorem zde:zal Try.prog 99 0=some 0:=by kernel_rfl
@[simp] theorem zch:zal Try.prog 99 1=some 1:=by kernel_rfl
@[simp] theorem zth:zal Try.prog 110 0=some 0:=by kernel_rfl
@[simp] theorem zti:zal Try.prog 110 1=some 4:=by kernel_rfl
@[simp] theorem ztj:zal Try.prog 110 2=some 5:=by kernel_rfl
@[simp] theorem ztk:zal Try.prog 117 0=some 0:=by kernel_rfl
@[simp] theorem ztl:zal Try.prog 117 1=some 1:=by kernel_rfl
@[simp] theorem ztm:zal Try.prog 117 2=some 2:=by kernel_rfl
@[simp] theorem ztn:zal Try.prog 117 3=some 3:=by kernel_rfl
@[simp] theorem zto:zal Try.prog 119 0=some 0:=by kernel_rfl
@[simp] theorem ztp:zal Try.prog 119 1=some 3:=by kernel_rfl
@[simp] theorem ztq:zal Try.prog 119 2=some 4:=by kernel_rfl
@[simp] theorem zdp:zal Try.prog 125 0=some 0:=by kernel_rfl
@[simp] theorem ztr:zal Try.prog 130 0=some 0:=by kernel_rfl
@[simp] theorem zts:zal Try.prog 130 1=some 2:=by kernel_rfl
@[simp] theorem ztt:zal Try.prog 137 0=some 0:=by kernel_rfl
@[simp] theorem ztu:zal Try.prog 142 0=some 0:=by kernel_rfl
@[simp] theorem ztv:zal Try.prog 142 1=some 1:=by kernel_rfl
@[simp] theorem ztw:zal Try.prog 142 2=some 2:=by kernel_rfl
@[simp] theorem zcP:zal Try.prog 148 0=some 0:=by kernel_rfl
@[simp] theorem zbX:zal Try.prog 155 0=some 0:=by kernel_rfl
@[simp] theorem zek:zal Try.prog 155 1=some 2:=by kernel_rfl
@[simp] theorem zgR:zal Try.prog 155 2=some 6:=by kernel_rfl
@[simp] theorem ztx:zal Try.prog 169 0=some 0:=by kernel_rfl
@[simp] theorem zty:zal Try.prog 169 1=some 3:=by kernel_rfl
@[simp] theorem ztz:zal Try.prog 169 2=some 4:=by kernel_rfl
@[simp] theorem zkx:zal Try.prog 187 0=some 0:=by kernel_rfl
@[simp] theorem zoK:zal Try.prog 187 1=some 1:=by kernel_rfl
@[simp] theorem ztA:zal Try.prog 202 0=some 0:=by kernel_rfl
@[simp] theorem ztB:zal Try.prog 202 1=some 2:=by kernel_rfl
end Go.Proofs.Ytenogpmlhpcibaa
