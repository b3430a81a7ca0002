/-
  What the abstract machine's runs want to know of this program's types.
  Conditions: none.
-/
import Derived.Test.YtenogpmlhpcibaaAmRr
import Derived.Test.YtenogpmlhpcibaaAmQu
import Derived.Test.YtenogpmlhpcibaaAmKs
import Derived.Test.YtenogpmlhpcibaaChecked
set_option linter.all false
namespace Go.Proofs.Ytenogpmlhpcibaa
open Go Go.AM
theorem mixed:Try.prog.follows .mixedOrders=true:=Try.checked.mixed
@[simp] theorem zah:zai Try.prog 3=none:=by kernel_rfl
@[simp] theorem zaw:scalar Try.prog 3=true:=by kernel_rfl
@[simp] theorem zgt:zaf Try.prog 3=some 1:=by kernel_rfl
@[simp] theorem zwz:zck Try.prog 3=some [AV.v (.int .i64 0)]:=by kernel_rfl
@[simp] theorem zyj:intKind Try.prog 3=some .i64:=by kernel_rfl
@[simp] theorem zyk:zai Try.prog 4=none:=by kernel_rfl
@[simp] theorem zyS:scalar Try.prog 4=true:=by kernel_rfl
@[simp] theorem zyl:zaf Try.prog 4=some 1:=by kernel_rfl
@[simp] theorem zwA:zck Try.prog 4=some [AV.v (.bool false)]:=by kernel_rfl
@[simp] theorem zwB:isBool Try.prog 4=true:=by kernel_rfl
@[simp] theorem zym:zai Try.prog 5=none:=by kernel_rfl
@[simp] theorem zyT:scalar Try.prog 5=true:=by kernel_rfl
@[simp] theorem zyn:zaf Try.prog 5=some 1:=by kernel_rfl
@[simp] theorem zyo:intKind Try.prog 5=some .u8:=by kernel_rfl
@[simp] theorem zar:zai Try.prog 22=none:=by kernel_rfl
@[simp] theorem zaH:scalar Try.prog 22=true:=by kernel_rfl
@[simp] theorem zk0:zaf Try.prog 22=some 1:=by kernel_rfl
@[simp] theorem zaN:isSlice Try.prog 22=true:=by kernel_rfl
@[simp] theorem zbW:zbD Try.prog 22=some 3:=by kernel_rfl
@[simp] theorem zaA:zav Try.prog 22=some 1:=by kernel_rfl
@[simp] theorem zbP:zaW Try.prog 22=true:=by kernel_rfl
@[simp] theorem zcR:zai Try.prog 24=some 3:=by kernel_rfl
@[simp] theorem zk1:zaf Try.prog 24=some 3:=by kernel_rfl
@[simp] theorem zpV:places Try.prog 24=some [(0,1),(1,1),(2,1)]:=by kernel_rfl
@[simp] theorem zhC:zck Try.prog 24=some [AV.v (.int .i64 0),AV.sl .nil 0 [],AV.sl .nil 0 []]:=by kernel_rfl
@[simp] theorem zbd:zai Try.prog 26=some 8:=by kernel_rfl
@[simp] theorem zhD:zaf Try.prog 26=some 8:=by kernel_rfl
@[simp] theorem zsx:places Try.prog 26=some [(0,3),(3,1),(4,1),(5,1),(6,1),(7,1)]:=by kernel_rfl
@[simp] theorem zfH:zck Try.prog 26=some [AV.v (.int .i64 0),AV.sl .nil 0 [],AV.sl .nil 0 [],AV.sl .nil 0 [],AV.sl .nil 0 [],AV.sl .nil 0 [],AV.v (.int .i64 0),AV.v (.int .i64 0)]:=by kernel_rfl
@[simp] theorem zwC:zai Try.prog 30=none:=by kernel_rfl
@[simp] theorem zyp:scalar Try.prog 30=true:=by kernel_rfl
@[simp] theorem zwD:zaf Try.prog 30=some 1:=by kernel_rfl
@[simp] theorem zwE:intKind Try.prog 30=some .i64:=by kernel_rfl
@[simp] theorem zwF:zai Try.prog 50=none:=by kernel_rfl
@[simp] theorem zyq:scalar Try.prog 50=true:=by kernel_rfl
@[simp] theorem zwG:zaf Try.prog 50=some 1:=by kernel_rfl
@[simp] theorem zwH:isSlice Try.prog 50=true:=by kernel_rfl
@[simp] theorem zyr:zbD Try.prog 50=some 26:=by kernel_rfl
@[simp] theorem zys:zav Try.prog 50=some 8:=by kernel_rfl
@[simp] theorem zyt:zaW Try.prog 50=true:=by kernel_rfl
@[simp] theorem zwI:zai Try.prog 57=none:=by kernel_rfl
@[simp] theorem zyu:scalar Try.prog 57=true:=by kernel_rfl
@[simp] theorem zwJ:zaf Try.prog 57=some 1:=by kernel_rfl
@[simp] theorem zwK:isSlice Try.prog 57=true:=by kernel_rfl
@[simp] theorem zyv:zbD Try.prog 57=some 117:=by kernel_rfl
@[simp] theorem zyw:zav Try.prog 57=some 4:=by kernel_rfl
@[simp] theorem zyx:zaW Try.prog 57=true:=by kernel_rfl
@[simp] theorem zwL:zai Try.prog 59=some 2:=by kernel_rfl
@[simp] theorem zwM:zaf Try.prog 59=some 2:=by kernel_rfl
@[simp] theorem zyy:places Try.prog 59=some [(0,1),(1,1)]:=by kernel_rfl
@[simp] theorem zt0:zck Try.prog 59=some [AV.sl .nil 0 [],AV.v (.int .i64 0)]:=by kernel_rfl
@[simp] theorem zwN:zai Try.prog 62=some 3:=by kernel_rfl
@[simp] theorem zwO:zaf Try.prog 62=some 3:=by kernel_rfl
@[simp] theorem zyz:places Try.prog 62=some [(0,1),(1,1),(2,1)]:=by kernel_rfl
@[simp] theorem zt1:zcg Try.prog 62=some 3:=by kernel_rfl
@[simp] theorem zt2:zck Try.prog 62=some [AV.v (.int .i64 0),AV.v (.int .i64 0),AV.v (.int .i64 0)]:=by kernel_rfl
@[simp] theorem zwP:zai Try.prog 70=some 3:=by kernel_rfl
@[simp] theorem zwQ:zaf Try.prog 70=some 3:=by kernel_rfl
@[simp] theorem zyA:places Try.prog 70=some [(0,1),(1,1),(2,1)]:=by kernel_rfl
@[simp] theorem zt3:zcg Try.prog 70=some 3:=by kernel_rfl
@[simp] theorem zwR:zai Try.prog 73=some 4:=by kernel_rfl
@[simp] theorem zwS:zaf Try.prog 73=some 4:=by kernel_rfl
@[simp] theorem zyB:places Try.prog 73=some [(0,1),(1,1),(2,1),(3,1)]:=by kernel_rfl
@[simp] theorem zt4:zck Try.prog 73=some [AV.v (.int .i64 0),AV.v (.int .i64 0),AV.v (.int .i64 0),AV.sl .nil 0 []]:=by kernel_rfl
@[simp] theorem zwT:zai Try.prog 74=none:=by kernel_rfl
@[simp] theorem zyC:scalar Try.prog 74=true:=by kernel_rfl
@[simp] theorem zwU:zaf Try.prog 74=some 1:=by kernel_rfl
@[simp] theorem zwV:isSlice Try.prog 74=true:=by kernel_rfl
@[simp] theorem zyD:zbD Try.prog 74=some 73:=by kernel_rfl
@[simp] theorem zyE:zav Try.prog 74=some 4:=by kernel_rfl
@[simp] theorem zyF:zaW Try.prog 74=true:=by kernel_rfl
@[simp] theorem zwW:zai Try.prog 76=some 6:=by kernel_rfl
@[simp] theorem zwX:zaf Try.prog 76=some 6:=by kernel_rfl
@[simp] theorem zyG:places Try.prog 76=some [(0,1),(1,1),(2,1),(3,1),(4,1),(5,1)]:=by kernel_rfl
@[simp] theorem zt5:zck Try.prog 76=some [AV.v (.int .i64 0),AV.v (.int .i64 0),AV.v (.int .i64 0),AV.v (.int .i64 0),AV.sl .nil 0 [],AV.sl .nil 0 []]:=by kernel_rfl
@[simp] theorem zwY:zai Try.prog 81=some 2:=by kernel_rfl
@[simp] theorem zwZ:zaf Try.prog 81=some 2:=by kernel_rfl
@[simp] theorem zyH:places Try.prog 81=some [(0,1),(1,1)]:=by kernel_rfl
@[simp] theorem zt6:zck Try.prog 81=some [AV.v (.int .i64 0),AV.sl .nil 0 []]:=by kernel_rfl
@[simp] theorem zw0:zai Try.prog 82=none:=by kernel_rfl
@[simp] theorem zyI:scalar Try.prog 82=true:=by kernel_rfl
@[simp] theorem zw1:zaf Try.prog 82=some 1:=by kernel_rfl
@[simp] theorem zw2:isSlice Try.prog 82=true:=by kernel_rfl
@[simp] theorem zyJ:zbD Try.prog 82=some 81:=by kernel_rfl
@[simp] theorem zyK:zav Try.prog 82=some 2:=by kernel_rfl
@[simp] theorem zyL:zaW Try.prog 82=true:=by kernel_rfl
@[simp] theorem zf0:zai Try.prog 86=none:=by kernel_rfl
@[simp] theorem zhc:scalar Try.prog 86=true:=by kernel_rfl
@[simp] theorem zw3:zaf Try.prog 86=some 1:=by kernel_rfl
@[simp] theorem zep:zai Try.prog 90=none:=by kernel_rfl
@[simp] theorem zfy:scalar Try.prog 90=true:=by kernel_rfl
@[simp] theorem ziN:zaf Try.prog 90=some 1:=by kernel_rfl
@[simp] theorem zpW:zck Try.prog 90=some [AV.sl .nil 0 []]:=by kernel_rfl
@[simp] theorem zhE:isSlice Try.prog 90=true:=by kernel_rfl
@[simp] theorem zia:zbD Try.prog 90=some 94:=by kernel_rfl
@[simp] theorem zf1:zav Try.prog 90=some 2:=by kernel_rfl
@[simp] theorem zib:zaW Try.prog 90=true:=by kernel_rfl
@[simp] theorem zw4:zai Try.prog 94=some 2:=by kernel_rfl
@[simp] theorem zw5:zaf Try.prog 94=some 2:=by kernel_rfl
@[simp] theorem zmJ:places Try.prog 94=some [(0,1),(1,1)]:=by kernel_rfl
@[simp] theorem zjr:zck Try.prog 94=some [AV.sl .nil 0 [],AV.sl .nil 0 []]:=by kernel_rfl
@[simp] theorem zfo:zai Try.prog 99=some 2:=by kernel_rfl
@[simp] theorem zfp:zaf Try.prog 99=some 2:=by kernel_rfl
@[simp] theorem zhd:places Try.prog 99=some [(0,1),(1,1)]:=by kernel_rfl
@[simp] theorem zt7:zcg Try.prog 99=some 2:=by kernel_rfl
@[simp] theorem zc6:zck Try.prog 99=some [AV.v (.int .i64 0),AV.v (.int .i64 0)]:=by kernel_rfl
@[simp] theorem zt8:zai Try.prog 102=some 3:=by kernel_rfl
@[simp] theorem zt9:zaf Try.prog 102=some 3:=by kernel_rfl
@[simp] theorem zua:zkv Try.prog 102=some (3,1):=by kernel_rfl
@[simp] theorem zpX:zmi Try.prog 102=some (3,22,1):=by kernel_rfl
@[simp] theorem zrc:places Try.prog 102=some [(0,1),(1,1),(2,1)]:=by kernel_rfl
@[simp] theorem zoz:zck Try.prog 102=some [AV.sl .nil 0 [],AV.sl .nil 0 [],AV.sl .nil 0 []]:=by kernel_rfl
@[simp] theorem zpY:zai Try.prog 104=none:=by kernel_rfl
@[simp] theorem zrd:scalar Try.prog 104=true:=by kernel_rfl
@[simp] theorem zub:zaf Try.prog 104=some 1:=by kernel_rfl
@[simp] theorem zuc:zai Try.prog 106=none:=by kernel_rfl
@[simp] theorem zw6:scalar Try.prog 106=true:=by kernel_rfl
@[simp] theorem zud:zaf Try.prog 106=some 1:=by kernel_rfl
@[simp] theorem zue:zai Try.prog 108=some 4:=by kernel_rfl
@[simp] theorem zuf:zaf Try.prog 108=some 4:=by kernel_rfl
@[simp] theorem zsU:zcg Try.prog 108=some 4:=by kernel_rfl
@[simp] theorem zug:zkv Try.prog 108=some (4,1):=by kernel_rfl
@[simp] theorem zuh:zmi Try.prog 108=some (4,3,1):=by kernel_rfl
@[simp] theorem zw7:places Try.prog 108=some [(0,1),(1,1),(2,1),(3,1)]:=by kernel_rfl
@[simp] theorem zui:zai Try.prog 110=some 6:=by kernel_rfl
@[simp] theorem zuj:zaf Try.prog 110=some 6:=by kernel_rfl
@[simp] theorem zw8:places Try.prog 110=some [(0,4),(4,1),(5,1)]:=by kernel_rfl
@[simp] theorem zsV:zcg Try.prog 110=some 6:=by kernel_rfl
@[simp] theorem zsW:zck Try.prog 110=some [AV.v (.int .i64 0),AV.v (.int .i64 0),AV.v (.int .i64 0),AV.v (.int .i64 0),AV.v (.int .i64 0),AV.v (.int .i64 0)]:=by kernel_rfl
@[simp] theorem zuk:zai Try.prog 113=none:=by kernel_rfl
@[simp] theorem zw9:scalar Try.prog 113=true:=by kernel_rfl
@[simp] theorem zul:zaf Try.prog 113=some 1:=by kernel_rfl
@[simp] theorem zum:zai Try.prog 117=some 4:=by kernel_rfl
@[simp] theorem zun:zaf Try.prog 117=some 4:=by kernel_rfl
@[simp] theorem zxa:places Try.prog 117=some [(0,1),(1,1),(2,1),(3,1)]:=by kernel_rfl
@[simp] theorem zsX:zcg Try.prog 117=some 4:=by kernel_rfl
@[simp] theorem zsY:zck Try.prog 117=some [AV.v (.int .i64 0),AV.v (.int .i64 0),AV.v (.int .i64 0),AV.v (.int .i64 0)]:=by kernel_rfl
@[simp] theorem zuo:zai Try.prog 119=some 5:=by kernel_rfl
@[simp] theorem zup:zaf Try.prog 119=some 5:=by kernel_rfl
@[simp] theorem zxb:places Try.prog 119=some [(0,3),(3,1),(4,1)]:=by kernel_rfl
@[simp] theorem zsZ:zcg Try.prog 119=some 5:=by kernel_rfl
@[simp] theorem zs0:zck Try.prog 119=some [AV.v (.int .i64 0),AV.v (.int .i64 0),AV.v (.int .i64 0),AV.v (.int .i64 0),AV.v (.int .i64 0)]:=by kernel_rfl
@[simp] theorem zey:zai Try.prog 125=some 3:=by kernel_rfl
@[simp] theorem zhF:zaf Try.prog 125=some 3:=by kernel_rfl
@[simp] theorem ziO:places Try.prog 125=some [(0,3)]:=by kernel_rfl
@[simp] theorem zeV:zck Try.prog 125=some [AV.v (.int .i64 0),AV.sl .nil 0 [],AV.sl .nil 0 []]:=by kernel_rfl
@[simp] theorem zuq:zai Try.prog 128=none:=by kernel_rfl
@[simp] theorem zxc:scalar Try.prog 128=true:=by kernel_rfl
@[simp] theorem zur:zaf Try.prog 128=some 1:=by kernel_rfl
@[simp] theorem zus:zai Try.prog 130=some 3:=by kernel_rfl
@[simp] theorem zut:zaf Try.prog 130=some 3:=by kernel_rfl
@[simp] theorem zxd:places Try.prog 130=some [(0,2),(2,1)]:=by kernel_rfl
@[simp] theorem zs1:zcg Try.prog 130=some 3:=by kernel_rfl
@[simp] theorem zs2:zck Try.prog 130=some [AV.v (.int .i64 0),AV.v (.int .i64 0),AV.v (.int .i64 0)]:=by kernel_rfl
@[simp] theorem zuu:zai Try.prog 131=none:=by kernel_rfl
@[simp] theorem zxe:scalar Try.prog 131=true:=by kernel_rfl
@[simp] theorem zuv:zaf Try.prog 131=some 1:=by kernel_rfl
@[simp] theorem zuw:isSlice Try.prog 131=true:=by kernel_rfl
@[simp] theorem zxf:zbD Try.prog 131=some 130:=by kernel_rfl
@[simp] theorem zxg:zav Try.prog 131=some 3:=by kernel_rfl
@[simp] theorem zxh:zaW Try.prog 131=true:=by kernel_rfl
@[simp] theorem zux:zai Try.prog 132=none:=by kernel_rfl
@[simp] theorem zxi:scalar Try.prog 132=true:=by kernel_rfl
@[simp] theorem zuy:zaf Try.prog 132=some 1:=by kernel_rfl
@[simp] theorem zuz:isSlice Try.prog 132=true:=by kernel_rfl
@[simp] theorem zxj:zbD Try.prog 132=some 131:=by kernel_rfl
@[simp] theorem zxk:zav Try.prog 132=some 1:=by kernel_rfl
@[simp] theorem zxl:zaW Try.prog 132=true:=by kernel_rfl
@[simp] theorem zuA:zai Try.prog 133=none:=by kernel_rfl
@[simp] theorem zxm:scalar Try.prog 133=true:=by kernel_rfl
@[simp] theorem zuB:zaf Try.prog 133=some 1:=by kernel_rfl
@[simp] theorem zuC:zgS Try.prog 133=some (130,3):=by kernel_rfl
@[simp] theorem zxn:zo3 Try.prog 3=some .i64:=by kernel_rfl
@[simp] theorem zuD:zai Try.prog 134=none:=by kernel_rfl
@[simp] theorem zxo:scalar Try.prog 134=true:=by kernel_rfl
@[simp] theorem zuE:zaf Try.prog 134=some 1:=by kernel_rfl
@[simp] theorem zuF:isSlice Try.prog 134=true:=by kernel_rfl
@[simp] theorem zxp:zbD Try.prog 134=some 99:=by kernel_rfl
@[simp] theorem zxq:zav Try.prog 134=some 2:=by kernel_rfl
@[simp] theorem zxr:zaW Try.prog 134=true:=by kernel_rfl
@[simp] theorem zuG:zai Try.prog 137=some 6:=by kernel_rfl
@[simp] theorem zuH:zaf Try.prog 137=some 6:=by kernel_rfl
@[simp] theorem zxs:places Try.prog 137=some [(0,6)]:=by kernel_rfl
@[simp] theorem zs3:zck Try.prog 137=some [AV.v (.int .i64 0),AV.v (.int .i64 0),AV.v (.int .i64 0),AV.v (.int .i64 0),AV.sl .nil 0 [],AV.sl .nil 0 []]:=by kernel_rfl
@[simp] theorem zuI:zai Try.prog 140=none:=by kernel_rfl
@[simp] theorem zxt:scalar Try.prog 140=true:=by kernel_rfl
@[simp] theorem zuJ:zaf Try.prog 140=some 1:=by kernel_rfl
@[simp] theorem zuK:intKind Try.prog 140=some .i64:=by kernel_rfl
@[simp] theorem zuL:zai Try.prog 142=some 3:=by kernel_rfl
@[simp] theorem zuM:zaf Try.prog 142=some 3:=by kernel_rfl
@[simp] theorem zxu:places Try.prog 142=some [(0,1),(1,1),(2,1)]:=by kernel_rfl
@[simp] theorem zs4:zck Try.prog 142=some [AV.sl .nil 0 [],AV.v (.int .i64 0),AV.v (.int .i64 0)]:=by kernel_rfl
@[simp] theorem zuN:zai Try.prog 143=none:=by kernel_rfl
@[simp] theorem zxv:scalar Try.prog 143=true:=by kernel_rfl
@[simp] theorem zuO:zaf Try.prog 143=some 1:=by kernel_rfl
@[simp] theorem zuP:zai Try.prog 145=none:=by kernel_rfl
@[simp] theorem zxw:scalar Try.prog 145=true:=by kernel_rfl
@[simp] theorem zuQ:zaf Try.prog 145=some 1:=by kernel_rfl
@[simp] theorem zuR:zai Try.prog 148=some 8:=by kernel_rfl
@[simp] theorem zuS:zaf Try.prog 148=some 8:=by kernel_rfl
@[simp] theorem zre:places Try.prog 148=some [(0,8)]:=by kernel_rfl
@[simp] theorem zoA:zck Try.prog 148=some [AV.v (.int .i64 0),AV.sl .nil 0 [],AV.sl .nil 0 [],AV.sl .nil 0 [],AV.sl .nil 0 [],AV.sl .nil 0 [],AV.v (.int .i64 0),AV.v (.int .i64 0)]:=by kernel_rfl
@[simp] theorem zuT:zai Try.prog 150=none:=by kernel_rfl
@[simp] theorem zxx:scalar Try.prog 150=true:=by kernel_rfl
@[simp] theorem zuU:zaf Try.prog 150=some 1:=by kernel_rfl
@[simp] theorem zuV:zai Try.prog 152=none:=by kernel_rfl
@[simp] theorem zxy:scalar Try.prog 152=true:=by kernel_rfl
@[simp] theorem zuW:zaf Try.prog 152=some 1:=by kernel_rfl
@[simp] theorem zhG:zgS Try.prog 152=some (3,155):=by kernel_rfl
@[simp] theorem zc7:zai Try.prog 153=some 4:=by kernel_rfl
@[simp] theorem zlL:zaf Try.prog 153=some 4:=by kernel_rfl
@[simp] theorem zoB:zcg Try.prog 153=some 4:=by kernel_rfl
@[simp] theorem ze8:zkv Try.prog 153=some (4,1):=by kernel_rfl
@[simp] theorem zpZ:zmi Try.prog 153=some (4,3,1):=by kernel_rfl
@[simp] theorem zxz:places Try.prog 153=some [(0,1),(1,1),(2,1),(3,1)]:=by kernel_rfl
@[simp] theorem zic:zck Try.prog 153=some [AV.v (.int .i64 0),AV.v (.int .i64 0),AV.v (.int .i64 0),AV.v (.int .i64 0)]:=by kernel_rfl
@[simp] theorem zez:zai Try.prog 155=some 7:=by kernel_rfl
@[simp] theorem zhH:zaf Try.prog 155=some 7:=by kernel_rfl
@[simp] theorem ziP:places Try.prog 155=some [(0,2),(2,4),(6,1)]:=by kernel_rfl
@[simp] theorem zs5:zcg Try.prog 155=some 7:=by kernel_rfl
@[simp] theorem zdO:zck Try.prog 155=some [AV.v (.int .i64 0),AV.v (.int .i64 0),AV.v (.int .i64 0),AV.v (.int .i64 0),AV.v (.int .i64 0),AV.v (.int .i64 0),AV.v (.int .i64 0)]:=by kernel_rfl
@[simp] theorem zjs:zai Try.prog 157=none:=by kernel_rfl
@[simp] theorem zk2:scalar Try.prog 157=true:=by kernel_rfl
@[simp] theorem zp0:zaf Try.prog 157=some 1:=by kernel_rfl
@[simp] theorem zoC:zck Try.prog 157=some [AV.v (.map none)]:=by kernel_rfl
@[simp] theorem ze9:zgS Try.prog 157=some (155,187):=by kernel_rfl
@[simp] theorem zuX:zai Try.prog 164=none:=by kernel_rfl
@[simp] theorem zxA:scalar Try.prog 164=true:=by kernel_rfl
@[simp] theorem zuY:zaf Try.prog 164=some 1:=by kernel_rfl
@[simp] theorem zuZ:isSlice Try.prog 164=true:=by kernel_rfl
@[simp] theorem zxB:zbD Try.prog 164=some 22:=by kernel_rfl
@[simp] theorem zxC:zav Try.prog 164=some 1:=by kernel_rfl
@[simp] theorem zxD:zaW Try.prog 164=true:=by kernel_rfl
@[simp] theorem zu0:zai Try.prog 167=none:=by kernel_rfl
@[simp] theorem zxE:scalar Try.prog 167=true:=by kernel_rfl
@[simp] theorem zu1:zaf Try.prog 167=some 1:=by kernel_rfl
@[simp] theorem zu2:zgS Try.prog 167=some (110,3):=by kernel_rfl
@[simp] theorem zxF:zo3 Try.prog 3=some .i64:=by kernel_rfl
@[simp] theorem zu3:zai Try.prog 169=some 5:=by kernel_rfl
@[simp] theorem zu4:zaf Try.prog 169=some 5:=by kernel_rfl
@[simp] theorem zxG:places Try.prog 169=some [(0,3),(3,1),(4,1)]:=by kernel_rfl
@[simp] theorem zs6:zck Try.prog 169=some [AV.v (.int .i64 0),AV.sl .nil 0 [],AV.sl .nil 0 [],AV.v .nilFunc,AV.v (.map none)]:=by kernel_rfl
@[simp] theorem zu5:zai Try.prog 172=none:=by kernel_rfl
@[simp] theorem zxH:scalar Try.prog 172=true:=by kernel_rfl
@[simp] theorem zu6:zaf Try.prog 172=some 1:=by kernel_rfl
@[simp] theorem zu7:zai Try.prog 173=none:=by kernel_rfl
@[simp] theorem zxI:scalar Try.prog 173=true:=by kernel_rfl
@[simp] theorem zu8:zaf Try.prog 173=some 1:=by kernel_rfl
@[simp] theorem zu9:zai Try.prog 176=none:=by kernel_rfl
@[simp] theorem zxJ:scalar Try.prog 176=true:=by kernel_rfl
@[simp] theorem zva:zaf Try.prog 176=some 1:=by kernel_rfl
@[simp] theorem zvb:zai Try.prog 178=none:=by kernel_rfl
@[simp] theorem zxK:scalar Try.prog 178=true:=by kernel_rfl
@[simp] theorem zvc:zaf Try.prog 178=some 1:=by kernel_rfl
@[simp] theorem zvd:zai Try.prog 182=none:=by kernel_rfl
@[simp] theorem zxL:scalar Try.prog 182=true:=by kernel_rfl
@[simp] theorem zve:zaf Try.prog 182=some 1:=by kernel_rfl
@[simp] theorem zvf:zai Try.prog 184=none:=by kernel_rfl
@[simp] theorem zxM:scalar Try.prog 184=true:=by kernel_rfl
@[simp] theorem zvg:zaf Try.prog 184=some 1:=by kernel_rfl
@[simp] theorem zp1:zai Try.prog 187=some 8:=by kernel_rfl
@[simp] theorem zhI:zaf Try.prog 187=some 8:=by kernel_rfl
@[simp] theorem znx:places Try.prog 187=some [(0,1),(1,7)]:=by kernel_rfl
@[simp] theorem zs7:zcg Try.prog 187=some 8:=by kernel_rfl
@[simp] theorem zfI:zck Try.prog 187=some [AV.v (.int .i64 0),AV.v (.int .i64 0),AV.v (.int .i64 0),AV.v (.int .i64 0),AV.v (.int .i64 0),AV.v (.int .i64 0),AV.v (.int .i64 0),AV.v (.int .i64 0)]:=by kernel_rfl
@[simp] theorem zhJ:zai Try.prog 188=none:=by kernel_rfl
@[simp] theorem ziQ:scalar Try.prog 188=true:=by kernel_rfl
@[simp] theorem zjt:zaf Try.prog 188=some 1:=by kernel_rfl
@[simp] theorem zoD:zck Try.prog 188=some [AV.sl .nil 0 []]:=by kernel_rfl
@[simp] theorem zp2:isSlice Try.prog 188=true:=by kernel_rfl
@[simp] theorem zny:zbD Try.prog 188=some 155:=by kernel_rfl
@[simp] theorem zhK:zav Try.prog 188=some 7:=by kernel_rfl
@[simp] theorem zk3:zaW Try.prog 188=true:=by kernel_rfl
@[simp] theorem zvh:zai Try.prog 191=none:=by kernel_rfl
@[simp] theorem zxN:scalar Try.prog 191=true:=by kernel_rfl
@[simp] theorem zvi:zaf Try.prog 191=some 1:=by kernel_rfl
@[simp] theorem zvj:zai Try.prog 198=none:=by kernel_rfl
@[simp] theorem zxO:scalar Try.prog 198=true:=by kernel_rfl
@[simp] theorem zvk:zaf Try.prog 198=some 1:=by kernel_rfl
@[simp] theorem zvl:isSlice Try.prog 198=true:=by kernel_rfl
@[simp] theorem zxP:zbD Try.prog 198=some 199:=by kernel_rfl
@[simp] theorem zxQ:zav Try.prog 198=some 1:=by kernel_rfl
@[simp] theorem zxR:zaW Try.prog 198=true:=by kernel_rfl
@[simp] theorem zvm:zai Try.prog 199=none:=by kernel_rfl
@[simp] theorem zxS:scalar Try.prog 199=true:=by kernel_rfl
@[simp] theorem zvn:zaf Try.prog 199=some 1:=by kernel_rfl
@[simp] theorem zvo:isSlice Try.prog 199=true:=by kernel_rfl
@[simp] theorem zxT:zbD Try.prog 199=some 202:=by kernel_rfl
@[simp] theorem zxU:zav Try.prog 199=some 3:=by kernel_rfl
@[simp] theorem zxV:zaW Try.prog 199=true:=by kernel_rfl
@[simp] theorem zvp:zai Try.prog 202=some 3:=by kernel_rfl
@[simp] theorem zvq:zaf Try.prog 202=some 3:=by kernel_rfl
@[simp] theorem zxW:places Try.prog 202=some [(0,2),(2,1)]:=by kernel_rfl
@[simp] theorem zs8:zcg Try.prog 202=some 3:=by kernel_rfl
@[simp] theorem zs9:zck Try.prog 202=some [AV.v (.int .i64 0),AV.v (.int .i64 0),AV.v (.int .i64 0)]:=by kernel_rfl
@[simp] theorem zvr:zai Try.prog 211=some 6:=by kernel_rfl
@[simp] theorem zvs:zaf Try.prog 211=some 6:=by kernel_rfl
@[simp] theorem zvt:zkv Try.prog 211=some (6,1):=by kernel_rfl
@[simp] theorem zvu:zmi Try.prog 211=some (6,176,1):=by kernel_rfl
@[simp] theorem zxX:places Try.prog 211=some [(0,1),(1,1),(2,1),(3,1),(4,1),(5,1)]:=by kernel_rfl
@[simp] theorem zta:zck Try.prog 211=some [AV.v .nilFunc,AV.v .nilFunc,AV.v .nilFunc,AV.v .nilFunc,AV.v .nilFunc,AV.v .nilFunc]:=by kernel_rfl
@[simp] theorem zvv:zai Try.prog 212=none:=by kernel_rfl
@[simp] theorem zxY:scalar Try.prog 212=true:=by kernel_rfl
@[simp] theorem zvw:zaf Try.prog 212=some 1:=by kernel_rfl
@[simp] theorem zvx:zai Try.prog 216=none:=by kernel_rfl
@[simp] theorem zxZ:scalar Try.prog 216=true:=by kernel_rfl
@[simp] theorem zvy:zaf Try.prog 216=some 1:=by kernel_rfl
@[simp] theorem zvz:intKind Try.prog 216=some .u64:=by kernel_rfl
@[simp] theorem zvA:zai Try.prog 220=none:=by kernel_rfl
@[simp] theorem zx0:scalar Try.prog 220=true:=by kernel_rfl
@[simp] theorem zvB:zaf Try.prog 220=some 1:=by kernel_rfl
@[simp] theorem zvC:intKind Try.prog 220=some .i64:=by kernel_rfl
@[simp] theorem zvD:zai Try.prog 226=none:=by kernel_rfl
@[simp] theorem zx1:scalar Try.prog 226=true:=by kernel_rfl
@[simp] theorem zvE:zaf Try.prog 226=some 1:=by kernel_rfl
@[simp] theorem zvF:intKind Try.prog 226=some .u32:=by kernel_rfl
@[simp] theorem zvG:zai Try.prog 228=none:=by kernel_rfl
@[simp] theorem zx2:scalar Try.prog 228=true:=by kernel_rfl
@[simp] theorem zvH:zaf Try.prog 228=some 1:=by kernel_rfl
@[simp] theorem zvI:intKind Try.prog 228=some .u64:=by kernel_rfl
@[simp] theorem zvJ:zai Try.prog 229=none:=by kernel_rfl
@[simp] theorem zx3:scalar Try.prog 229=true:=by kernel_rfl
@[simp] theorem zvK:zaf Try.prog 229=some 1:=by kernel_rfl
@[simp] theorem ztb:zck Try.prog 229=some [AV.v (.int .u64 0)]:=by kernel_rfl
@[simp] theorem zvL:intKind Try.prog 229=some .u64:=by kernel_rfl
@[simp] theorem zvM:zai Try.prog 233=none:=by kernel_rfl
@[simp] theorem zx4:scalar Try.prog 233=true:=by kernel_rfl
@[simp] theorem zvN:zaf Try.prog 233=some 1:=by kernel_rfl
@[simp] theorem zvO:zai Try.prog 235=none:=by kernel_rfl
@[simp] theorem zx5:scalar Try.prog 235=true:=by kernel_rfl
@[simp] theorem zvP:zaf Try.prog 235=some 1:=by kernel_rfl
@[simp] theorem zc8:zak Try.prog 24 0=some 0:=by kernel_rfl
@[simp] theorem zfJ:zak Try.prog 24 1=some 1:=by kernel_rfl
@[simp] theorem zcq:zak Try.prog 24 2=some 2:=by kernel_rfl
@[simp] theorem zb0:zak Try.prog 26 0=some 0:=by kernel_rfl
@[simp] theorem zb5:zak Try.prog 26 1=some 3:=by kernel_rfl
@[simp] theorem zeA:zak Try.prog 26 2=some 4:=by kernel_rfl
@[simp] theorem zcr:zak Try.prog 26 3=some 5:=by kernel_rfl
@[simp] theorem zgu:zak Try.prog 26 4=some 6:=by kernel_rfl
@[simp] theorem zju:zak Try.prog 26 5=some 7:=by kernel_rfl
@[simp] theorem zvQ:zak Try.prog 59 0=some 0:=by kernel_rfl
@[simp] theorem zvR:zak Try.prog 59 1=some 1:=by kernel_rfl
@[simp] theorem zvS:zak Try.prog 62 0=some 0:=by kernel_rfl
@[simp] theorem zvT:zak Try.prog 62 1=some 1:=by kernel_rfl
@[simp] theorem zvU:zak Try.prog 62 2=some 2:=by kernel_rfl
@[simp] theorem zvV:zak Try.prog 70 0=some 0:=by kernel_rfl
@[simp] theorem zvW:zak Try.prog 70 1=some 1:=by kernel_rfl
@[simp] theorem zvX:zak Try.prog 70 2=some 2:=by kernel_rfl
@[simp] theorem zvY:zak Try.prog 73 0=some 0:=by kernel_rfl
@[simp] theorem zvZ:zak Try.prog 73 1=some 1:=by kernel_rfl
@[simp] theorem zv0:zak Try.prog 73 2=some 2:=by kernel_rfl
@[simp] theorem zv1:zak Try.prog 73 3=some 3:=by kernel_rfl
@[simp] theorem zv2:zak Try.prog 76 0=some 0:=by kernel_rfl
@[simp] theorem zv3:zak Try.prog 76 1=some 1:=by kernel_rfl
@[simp] theorem zv4:zak Try.prog 76 2=some 2:=by kernel_rfl
@[simp] theorem zv5:zak Try.prog 76 3=some 3:=by kernel_rfl
@[simp] theorem zv6:zak Try.prog 76 4=some 4:=by kernel_rfl
@[simp] theorem zv7:zak Try.prog 76 5=some 5:=by kernel_rfl
@[simp] theorem zv8:zak Try.prog 81 0=some 0:=by kernel_rfl
@[simp] theorem zv9:zak Try.prog 81 1=some 1:=by kernel_rfl
@[simp] theorem zjv:zak Try.prog 94 0=some 0:=by kernel_rfl
@[simp] theorem zwa:zak Try.prog 94 1=some 1:=by kernel_rfl
@[simp] theorem zc9:zak Try.prog 99 0=some 0:=by kernel_rfl
@[simp] theorem zcd:zak Try.prog 99 1=some 1:=by kernel_rfl
@[simp] theorem ztc:zak Try.prog 110 0=some 0:=by kernel_rfl
@[simp] theorem ztd:zak Try.prog 110 1=some 4:=by kernel_rfl
@[simp] theorem zte:zak Try.prog 110 2=some 5:=by kernel_rfl
@[simp] theorem ztf:zak Try.prog 117 0=some 0:=by kernel_rfl
@[simp] theorem ztg:zak Try.prog 117 1=some 1:=by kernel_rfl
@[simp] theorem zth:zak Try.prog 117 2=some 2:=by kernel_rfl
@[simp] theorem zti:zak Try.prog 117 3=some 3:=by kernel_rfl
@[simp] theorem ztj:zak Try.prog 119 0=some 0:=by kernel_rfl
@[simp] theorem ztk:zak Try.prog 119 1=some 3:=by kernel_rfl
@[simp] theorem ztl:zak Try.prog 119 2=some 4:=by kernel_rfl
@[simp] theorem zdk:zak Try.prog 125 0=some 0:=by kernel_rfl
@[simp] theorem ztm:zak Try.prog 130 0=some 0:=by kernel_rfl
@[simp] theorem ztn:zak Try.prog 130 1=some 2:=by kernel_rfl
@[simp] theorem zto:zak Try.prog 137 0=some 0:=by kernel_rfl
@[simp] theorem ztp:zak Try.prog 142 0=some 0:=by kernel_rfl
@[simp] theorem ztq:zak Try.prog 142 1=some 1:=by kernel_rfl
@[simp] theorem ztr:zak Try.prog 142 2=some 2:=by kernel_rfl
@[simp] theorem zcM:zak Try.prog 148 0=some 0:=by kernel_rfl
@[simp] theorem zbR:zak Try.prog 155 0=some 0:=by kernel_rfl
@[simp] theorem zef:zak Try.prog 155 1=some 2:=by kernel_rfl
@[simp] theorem zgP:zak Try.prog 155 2=some 6:=by kernel_rfl
@[simp] theorem zts:zak Try.prog 169 0=some 0:=by kernel_rfl
@[simp] theorem ztt:zak Try.prog 169 1=some 3:=by kernel_rfl
@[simp] theorem ztu:zak Try.prog 169 2=some 4:=by kernel_rfl
@[simp] theorem zkq:zak Try.prog 187 0=some 0:=by kernel_rfl
@[simp] theorem zoE:zak Try.prog 187 1=some 1:=by kernel_rfl
@[simp] theorem ztv:zak Try.prog 202 0=some 0:=by kernel_rfl
@[simp] theorem ztw:zak Try.prog 202 1=some 2:=by kernel_rfl
end Go.Proofs.Ytenogpmlhpcibaa
