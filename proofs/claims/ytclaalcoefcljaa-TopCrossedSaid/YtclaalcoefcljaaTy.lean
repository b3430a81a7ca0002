/-
  What the abstract machine's runs want to know of this program's types.
  Conditions: none.
-/
import Derived.Test.YtclaalcoefcljaaAmPc
import Derived.Test.YtclaalcoefcljaaChecked
set_option linter.all false
namespace Go.Proofs.Ytclaalcoefcljaa
open Go Go.AM
theorem mixed:Try.prog.follows .mixedOrders=true:=Try.checked.mixed
@[simp] theorem zai:zaB Try.prog 3=none:=by kernel_rfl
@[simp] theorem zav:scalar Try.prog 3=true:=by kernel_rfl
@[simp] theorem zem:zao Try.prog 3=some 1:=by kernel_rfl
@[simp] theorem ztZ:zc6 Try.prog 3=some [AV.v (.int .i64 0)]:=by kernel_rfl
@[simp] theorem zvg:intKind Try.prog 3=some .i64:=by kernel_rfl
@[simp] theorem zol:zaB Try.prog 4=none:=by kernel_rfl
@[simp] theorem zqA:scalar Try.prog 4=true:=by kernel_rfl
@[simp] theorem zom:zao Try.prog 4=some 1:=by kernel_rfl
@[simp] theorem zml:zc6 Try.prog 4=some [AV.v (.bool false)]:=by kernel_rfl
@[simp] theorem zpJ:isBool Try.prog 4=true:=by kernel_rfl
@[simp] theorem zct:zaB Try.prog 22=none:=by kernel_rfl
@[simp] theorem zde:scalar Try.prog 22=true:=by kernel_rfl
@[simp] theorem zpK:zao Try.prog 22=some 1:=by kernel_rfl
@[simp] theorem zdm:isSlice Try.prog 22=true:=by kernel_rfl
@[simp] theorem zon:zcg Try.prog 22=some 75:=by kernel_rfl
@[simp] theorem zhu:zaG Try.prog 22=some 2:=by kernel_rfl
@[simp] theorem zoo:zbf Try.prog 22=true:=by kernel_rfl
@[simp] theorem zcq:zaB Try.prog 23=none:=by kernel_rfl
@[simp] theorem zc1:scalar Try.prog 23=true:=by kernel_rfl
@[simp] theorem zmm:zao Try.prog 23=some 1:=by kernel_rfl
@[simp] theorem zek:isSlice Try.prog 23=true:=by kernel_rfl
@[simp] theorem zkn:zcg Try.prog 23=some 55:=by kernel_rfl
@[simp] theorem zdn:zaG Try.prog 23=some 2:=by kernel_rfl
@[simp] theorem zko:zbf Try.prog 23=true:=by kernel_rfl
@[simp] theorem zc5:zaB Try.prog 25=some 5:=by kernel_rfl
@[simp] theorem zkp:zao Try.prog 25=some 5:=by kernel_rfl
@[simp] theorem zvh:places Try.prog 25=some [(0,1),(1,1),(2,1),(3,1),(4,1)]:=by kernel_rfl
@[simp] theorem zjb:zc6 Try.prog 25=some [AV.sl .nil 0 [],AV.v (.int .i64 0),AV.v (.int .i64 0),AV.v (.int .i64 0),AV.sl .nil 0 []]:=by kernel_rfl
@[simp] theorem zt0:zaB Try.prog 26=none:=by kernel_rfl
@[simp] theorem zvi:scalar Try.prog 26=true:=by kernel_rfl
@[simp] theorem zt1:zao Try.prog 26=some 1:=by kernel_rfl
@[simp] theorem zsj:zc6 Try.prog 26=some [AV.sl .nil 0 []]:=by kernel_rfl
@[simp] theorem zpL:isSlice Try.prog 26=true:=by kernel_rfl
@[simp] theorem zrc:zcg Try.prog 26=some 3:=by kernel_rfl
@[simp] theorem zop:zaG Try.prog 26=some 1:=by kernel_rfl
@[simp] theorem zrd:zbf Try.prog 26=true:=by kernel_rfl
@[simp] theorem zt2:zaB Try.prog 28=none:=by kernel_rfl
@[simp] theorem zvj:scalar Try.prog 28=true:=by kernel_rfl
@[simp] theorem zt3:zao Try.prog 28=some 1:=by kernel_rfl
@[simp] theorem zt4:intKind Try.prog 28=some .i64:=by kernel_rfl
@[simp] theorem zt5:zaB Try.prog 30=none:=by kernel_rfl
@[simp] theorem zvk:scalar Try.prog 30=true:=by kernel_rfl
@[simp] theorem zt6:zao Try.prog 30=some 1:=by kernel_rfl
@[simp] theorem zt7:zaB Try.prog 33=none:=by kernel_rfl
@[simp] theorem zvl:scalar Try.prog 33=true:=by kernel_rfl
@[simp] theorem zt8:zao Try.prog 33=some 1:=by kernel_rfl
@[simp] theorem zt9:isSlice Try.prog 33=true:=by kernel_rfl
@[simp] theorem zvm:zcg Try.prog 33=some 40:=by kernel_rfl
@[simp] theorem zvn:zaG Try.prog 33=some 2:=by kernel_rfl
@[simp] theorem zvo:zbf Try.prog 33=true:=by kernel_rfl
@[simp] theorem zua:zaB Try.prog 35=some 3:=by kernel_rfl
@[simp] theorem zub:zao Try.prog 35=some 3:=by kernel_rfl
@[simp] theorem zvp:places Try.prog 35=some [(0,1),(1,1),(2,1)]:=by kernel_rfl
@[simp] theorem zsk:zc6 Try.prog 35=some [AV.v (.int .i64 0),AV.sl .nil 0 [],AV.sl .nil 0 []]:=by kernel_rfl
@[simp] theorem zuc:zaB Try.prog 37=some 2:=by kernel_rfl
@[simp] theorem zud:zao Try.prog 37=some 2:=by kernel_rfl
@[simp] theorem zvq:places Try.prog 37=some [(0,1),(1,1)]:=by kernel_rfl
@[simp] theorem zsl:zcz Try.prog 37=some 2:=by kernel_rfl
@[simp] theorem zsm:zc6 Try.prog 37=some [AV.v (.int .i64 0),AV.v (.int .i64 0)]:=by kernel_rfl
@[simp] theorem zue:zaB Try.prog 38=none:=by kernel_rfl
@[simp] theorem zvr:scalar Try.prog 38=true:=by kernel_rfl
@[simp] theorem zuf:zao Try.prog 38=some 1:=by kernel_rfl
@[simp] theorem zug:isSlice Try.prog 38=true:=by kernel_rfl
@[simp] theorem zvs:zcg Try.prog 38=some 37:=by kernel_rfl
@[simp] theorem zvt:zaG Try.prog 38=some 2:=by kernel_rfl
@[simp] theorem zvu:zbf Try.prog 38=true:=by kernel_rfl
@[simp] theorem zuh:zaB Try.prog 40=some 2:=by kernel_rfl
@[simp] theorem zui:zao Try.prog 40=some 2:=by kernel_rfl
@[simp] theorem zvv:places Try.prog 40=some [(0,1),(1,1)]:=by kernel_rfl
@[simp] theorem zsn:zc6 Try.prog 40=some [AV.v (.int .i64 0),AV.sl .nil 0 []]:=by kernel_rfl
@[simp] theorem zkq:zaB Try.prog 46=none:=by kernel_rfl
@[simp] theorem zlT:scalar Try.prog 46=true:=by kernel_rfl
@[simp] theorem zmn:zao Try.prog 46=some 1:=by kernel_rfl
@[simp] theorem zfp:isSlice Try.prog 46=true:=by kernel_rfl
@[simp] theorem zdO:zcg Try.prog 46=some 52:=by kernel_rfl
@[simp] theorem zb0:zaG Try.prog 46=some 3:=by kernel_rfl
@[simp] theorem zdP:zbf Try.prog 46=true:=by kernel_rfl
@[simp] theorem zmo:zaB Try.prog 47=none:=by kernel_rfl
@[simp] theorem zoq:scalar Try.prog 47=true:=by kernel_rfl
@[simp] theorem zuj:zao Try.prog 47=some 1:=by kernel_rfl
@[simp] theorem zmp:isSlice Try.prog 47=true:=by kernel_rfl
@[simp] theorem zvw:zcg Try.prog 47=some 116:=by kernel_rfl
@[simp] theorem zre:zaG Try.prog 47=some 3:=by kernel_rfl
@[simp] theorem zvx:zbf Try.prog 47=true:=by kernel_rfl
@[simp] theorem zeX:zaB Try.prog 49=some 4:=by kernel_rfl
@[simp] theorem zpM:zao Try.prog 49=some 4:=by kernel_rfl
@[simp] theorem zor:places Try.prog 49=some [(0,1),(1,1),(2,1),(3,1)]:=by kernel_rfl
@[simp] theorem zjc:zc6 Try.prog 49=some [AV.v (.int .i64 0),AV.v (.int .i64 0),AV.sl .nil 0 [],AV.v (.int .i64 0)]:=by kernel_rfl
@[simp] theorem zcE:zaB Try.prog 52=some 3:=by kernel_rfl
@[simp] theorem zkr:zao Try.prog 52=some 3:=by kernel_rfl
@[simp] theorem zhv:places Try.prog 52=some [(0,1),(1,1),(2,1)]:=by kernel_rfl
@[simp] theorem zk8:zcz Try.prog 52=some 3:=by kernel_rfl
@[simp] theorem zec:zc6 Try.prog 52=some [AV.v (.int .i64 0),AV.v (.int .i64 0),AV.v (.int .i64 0)]:=by kernel_rfl
@[simp] theorem zhP:zaB Try.prog 55=some 2:=by kernel_rfl
@[simp] theorem zks:zao Try.prog 55=some 2:=by kernel_rfl
@[simp] theorem zvy:places Try.prog 55=some [(0,1),(1,1)]:=by kernel_rfl
@[simp] theorem zso:zcz Try.prog 55=some 2:=by kernel_rfl
@[simp] theorem zos:zc6 Try.prog 55=some [AV.v (.int .i64 0),AV.v (.int .i64 0)]:=by kernel_rfl
@[simp] theorem zmq:zaB Try.prog 59=none:=by kernel_rfl
@[simp] theorem zot:scalar Try.prog 59=true:=by kernel_rfl
@[simp] theorem zpN:zao Try.prog 59=some 1:=by kernel_rfl
@[simp] theorem zkt:isSlice Try.prog 59=true:=by kernel_rfl
@[simp] theorem zou:zcg Try.prog 59=some 71:=by kernel_rfl
@[simp] theorem zku:zaG Try.prog 59=some 2:=by kernel_rfl
@[simp] theorem zov:zbf Try.prog 59=true:=by kernel_rfl
@[simp] theorem zuk:zaB Try.prog 65=some 8:=by kernel_rfl
@[simp] theorem zul:zao Try.prog 65=some 8:=by kernel_rfl
@[simp] theorem zvz:places Try.prog 65=some [(0,1),(1,1),(2,1),(3,1),(4,1),(5,1),(6,1),(7,1)]:=by kernel_rfl
@[simp] theorem zsp:zc6 Try.prog 65=some [AV.v (.int .i64 0),AV.v (.int .i64 0),AV.v (.int .i64 0),AV.v (.int .i64 0),AV.v (.int .i64 0),AV.v (.int .i64 0),AV.v (.int .i64 0),AV.sl .nil 0 []]:=by kernel_rfl
@[simp] theorem zmr:zaB Try.prog 71=some 2:=by kernel_rfl
@[simp] theorem zum:zao Try.prog 71=some 2:=by kernel_rfl
@[simp] theorem zrf:places Try.prog 71=some [(0,1),(1,1)]:=by kernel_rfl
@[simp] theorem zow:zcz Try.prog 71=some 2:=by kernel_rfl
@[simp] theorem zox:zc6 Try.prog 71=some [AV.v (.int .i64 0),AV.v (.int .i64 0)]:=by kernel_rfl
@[simp] theorem zpO:zaB Try.prog 75=some 2:=by kernel_rfl
@[simp] theorem zpP:zao Try.prog 75=some 2:=by kernel_rfl
@[simp] theorem zvA:places Try.prog 75=some [(0,1),(1,1)]:=by kernel_rfl
@[simp] theorem zsq:zcz Try.prog 75=some 2:=by kernel_rfl
@[simp] theorem zoy:zc6 Try.prog 75=some [AV.v (.int .i64 0),AV.v (.int .i64 0)]:=by kernel_rfl
@[simp] theorem zun:zaB Try.prog 79=some 2:=by kernel_rfl
@[simp] theorem zuo:zao Try.prog 79=some 2:=by kernel_rfl
@[simp] theorem zvB:places Try.prog 79=some [(0,1),(1,1)]:=by kernel_rfl
@[simp] theorem zsr:zc6 Try.prog 79=some [AV.sl .nil 0 [],AV.v (.int .i64 0)]:=by kernel_rfl
@[simp] theorem zup:zaB Try.prog 88=none:=by kernel_rfl
@[simp] theorem zvC:scalar Try.prog 88=true:=by kernel_rfl
@[simp] theorem zuq:zao Try.prog 88=some 1:=by kernel_rfl
@[simp] theorem zur:zaB Try.prog 94=some 5:=by kernel_rfl
@[simp] theorem zus:zao Try.prog 94=some 5:=by kernel_rfl
@[simp] theorem zss:zcz Try.prog 94=some 5:=by kernel_rfl
@[simp] theorem zfR:zjW Try.prog 94=some (5,1):=by kernel_rfl
@[simp] theorem zut:zmH Try.prog 94=some (5,3,1):=by kernel_rfl
@[simp] theorem zvD:places Try.prog 94=some [(0,1),(1,1),(2,1),(3,1),(4,1)]:=by kernel_rfl
@[simp] theorem zms:zaB Try.prog 96=some 10:=by kernel_rfl
@[simp] theorem zpQ:zao Try.prog 96=some 10:=by kernel_rfl
@[simp] theorem zvE:places Try.prog 96=some [(0,5),(5,5)]:=by kernel_rfl
@[simp] theorem zst:zcz Try.prog 96=some 10:=by kernel_rfl
@[simp] theorem zk9:zc6 Try.prog 96=some [AV.v (.int .i64 0),AV.v (.int .i64 0),AV.v (.int .i64 0),AV.v (.int .i64 0),AV.v (.int .i64 0),AV.v (.int .i64 0),AV.v (.int .i64 0),AV.v (.int .i64 0),AV.v (.int .i64 0),AV.v (.int .i64 0)]:=by kernel_rfl
@[simp] theorem zpR:zaB Try.prog 98=none:=by kernel_rfl
@[simp] theorem zrg:scalar Try.prog 98=true:=by kernel_rfl
@[simp] theorem zpS:zao Try.prog 98=some 1:=by kernel_rfl
@[simp] theorem zuu:isSlice Try.prog 98=true:=by kernel_rfl
@[simp] theorem zoz:zcg Try.prog 98=some 160:=by kernel_rfl
@[simp] theorem zoA:zaG Try.prog 98=some 4:=by kernel_rfl
@[simp] theorem zoB:zbf Try.prog 98=true:=by kernel_rfl
@[simp] theorem zhQ:zaB Try.prog 100=some 4:=by kernel_rfl
@[simp] theorem zla:zao Try.prog 100=some 4:=by kernel_rfl
@[simp] theorem zuv:places Try.prog 100=some [(0,1),(1,1),(2,1),(3,1)]:=by kernel_rfl
@[simp] theorem zng:zc6 Try.prog 100=some [AV.sl .nil 0 [],AV.sl .nil 0 [],AV.v (.int .i64 0),AV.v (.int .i64 0)]:=by kernel_rfl
@[simp] theorem zsu:zaB Try.prog 106=none:=by kernel_rfl
@[simp] theorem zuw:scalar Try.prog 106=true:=by kernel_rfl
@[simp] theorem zsv:zao Try.prog 106=some 1:=by kernel_rfl
@[simp] theorem zsw:isSlice Try.prog 106=true:=by kernel_rfl
@[simp] theorem zux:zcg Try.prog 106=some 148:=by kernel_rfl
@[simp] theorem zuy:zaG Try.prog 106=some 2:=by kernel_rfl
@[simp] theorem zuz:zbf Try.prog 106=true:=by kernel_rfl
@[simp] theorem zsx:zaB Try.prog 109=none:=by kernel_rfl
@[simp] theorem zuA:scalar Try.prog 109=true:=by kernel_rfl
@[simp] theorem zsy:zao Try.prog 109=some 1:=by kernel_rfl
@[simp] theorem zsz:zaB Try.prog 111=none:=by kernel_rfl
@[simp] theorem zuB:scalar Try.prog 111=true:=by kernel_rfl
@[simp] theorem zsA:zao Try.prog 111=some 1:=by kernel_rfl
@[simp] theorem zsB:zaB Try.prog 114=none:=by kernel_rfl
@[simp] theorem zuC:scalar Try.prog 114=true:=by kernel_rfl
@[simp] theorem zsC:zao Try.prog 114=some 1:=by kernel_rfl
@[simp] theorem zoC:zaB Try.prog 116=some 3:=by kernel_rfl
@[simp] theorem zsD:zao Try.prog 116=some 3:=by kernel_rfl
@[simp] theorem zuD:places Try.prog 116=some [(0,1),(1,1),(2,1)]:=by kernel_rfl
@[simp] theorem zrA:zcz Try.prog 116=some 3:=by kernel_rfl
@[simp] theorem zsE:zaB Try.prog 117=none:=by kernel_rfl
@[simp] theorem zuE:scalar Try.prog 117=true:=by kernel_rfl
@[simp] theorem zsF:zao Try.prog 117=some 1:=by kernel_rfl
@[simp] theorem zsG:zaB Try.prog 120=some 5:=by kernel_rfl
@[simp] theorem zsH:zao Try.prog 120=some 5:=by kernel_rfl
@[simp] theorem zpT:places Try.prog 120=some [(0,4),(4,1)]:=by kernel_rfl
@[simp] theorem znh:zc6 Try.prog 120=some [AV.v (.int .i64 0),AV.v (.int .i64 0),AV.sl .nil 0 [],AV.v (.int .i64 0),AV.sl .nil 0 []]:=by kernel_rfl
@[simp] theorem zsI:zaB Try.prog 121=some 4:=by kernel_rfl
@[simp] theorem zsJ:zao Try.prog 121=some 4:=by kernel_rfl
@[simp] theorem zrB:zcz Try.prog 121=some 4:=by kernel_rfl
@[simp] theorem zsK:zjW Try.prog 121=some (4,1):=by kernel_rfl
@[simp] theorem zoD:zmH Try.prog 121=some (4,3,1):=by kernel_rfl
@[simp] theorem zpU:places Try.prog 121=some [(0,1),(1,1),(2,1),(3,1)]:=by kernel_rfl
@[simp] theorem zni:zc6 Try.prog 121=some [AV.v (.int .i64 0),AV.v (.int .i64 0),AV.v (.int .i64 0),AV.v (.int .i64 0)]:=by kernel_rfl
@[simp] theorem zsL:zaB Try.prog 125=none:=by kernel_rfl
@[simp] theorem zuF:scalar Try.prog 125=true:=by kernel_rfl
@[simp] theorem zsM:zao Try.prog 125=some 1:=by kernel_rfl
@[simp] theorem zsN:zaB Try.prog 126=none:=by kernel_rfl
@[simp] theorem zuG:scalar Try.prog 126=true:=by kernel_rfl
@[simp] theorem zsO:zao Try.prog 126=some 1:=by kernel_rfl
@[simp] theorem zsP:zaB Try.prog 127=none:=by kernel_rfl
@[simp] theorem zuH:scalar Try.prog 127=true:=by kernel_rfl
@[simp] theorem zsQ:zao Try.prog 127=some 1:=by kernel_rfl
@[simp] theorem zsR:zaB Try.prog 128=none:=by kernel_rfl
@[simp] theorem zuI:scalar Try.prog 128=true:=by kernel_rfl
@[simp] theorem zsS:zao Try.prog 128=some 1:=by kernel_rfl
@[simp] theorem zhR:zaB Try.prog 130=none:=by kernel_rfl
@[simp] theorem ziB:scalar Try.prog 130=true:=by kernel_rfl
@[simp] theorem zsT:zao Try.prog 130=some 1:=by kernel_rfl
@[simp] theorem zoE:isSlice Try.prog 130=true:=by kernel_rfl
@[simp] theorem zmt:zcg Try.prog 130=some 4:=by kernel_rfl
@[simp] theorem zgY:zaG Try.prog 130=some 1:=by kernel_rfl
@[simp] theorem zmu:zbf Try.prog 130=true:=by kernel_rfl
@[simp] theorem zoF:zaB Try.prog 132=some 3:=by kernel_rfl
@[simp] theorem zsU:zao Try.prog 132=some 3:=by kernel_rfl
@[simp] theorem zmv:places Try.prog 132=some [(0,1),(1,1),(2,1)]:=by kernel_rfl
@[simp] theorem zrC:zcz Try.prog 132=some 3:=by kernel_rfl
@[simp] theorem zjO:zc6 Try.prog 132=some [AV.v (.int .i64 0),AV.v (.int .i64 0),AV.v (.int .i64 0)]:=by kernel_rfl
@[simp] theorem zsV:zaB Try.prog 134=some 15:=by kernel_rfl
@[simp] theorem zsW:zao Try.prog 134=some 15:=by kernel_rfl
@[simp] theorem zmw:places Try.prog 134=some [(0,5),(5,1),(6,1),(7,1),(8,3),(11,4)]:=by kernel_rfl
@[simp] theorem zjP:zc6 Try.prog 134=some [AV.sl .nil 0 [],AV.v (.int .i64 0),AV.v (.int .i64 0),AV.v (.int .i64 0),AV.sl .nil 0 [],AV.sl .nil 0 [],AV.sl .nil 0 [],AV.v (.int .i64 0),AV.v (.int .i64 0),AV.v (.int .i64 0),AV.v (.int .i64 0),AV.sl .nil 0 [],AV.sl .nil 0 [],AV.v (.int .i64 0),AV.v (.int .i64 0)]:=by kernel_rfl
@[simp] theorem zsX:zaB Try.prog 136=none:=by kernel_rfl
@[simp] theorem zuJ:scalar Try.prog 136=true:=by kernel_rfl
@[simp] theorem zsY:zao Try.prog 136=some 1:=by kernel_rfl
@[simp] theorem zsZ:zaB Try.prog 141=some 8:=by kernel_rfl
@[simp] theorem zs0:zao Try.prog 141=some 8:=by kernel_rfl
@[simp] theorem zuK:places Try.prog 141=some [(0,8)]:=by kernel_rfl
@[simp] theorem zrD:zc6 Try.prog 141=some [AV.v (.int .i64 0),AV.v (.int .i64 0),AV.v (.int .i64 0),AV.v (.int .i64 0),AV.v (.int .i64 0),AV.v (.int .i64 0),AV.v (.int .i64 0),AV.sl .nil 0 []]:=by kernel_rfl
@[simp] theorem zs1:zaB Try.prog 143=none:=by kernel_rfl
@[simp] theorem zuL:scalar Try.prog 143=true:=by kernel_rfl
@[simp] theorem zs2:zao Try.prog 143=some 1:=by kernel_rfl
@[simp] theorem zs3:zaB Try.prog 145=none:=by kernel_rfl
@[simp] theorem zuM:scalar Try.prog 145=true:=by kernel_rfl
@[simp] theorem zs4:zao Try.prog 145=some 1:=by kernel_rfl
@[simp] theorem zs5:intKind Try.prog 145=some .u64:=by kernel_rfl
@[simp] theorem zs6:zaB Try.prog 146=none:=by kernel_rfl
@[simp] theorem zuN:scalar Try.prog 146=true:=by kernel_rfl
@[simp] theorem zs7:zao Try.prog 146=some 1:=by kernel_rfl
@[simp] theorem zs8:intKind Try.prog 146=some .u64:=by kernel_rfl
@[simp] theorem zs9:zaB Try.prog 148=some 2:=by kernel_rfl
@[simp] theorem zta:zao Try.prog 148=some 2:=by kernel_rfl
@[simp] theorem zuO:places Try.prog 148=some [(0,1),(1,1)]:=by kernel_rfl
@[simp] theorem zrE:zc6 Try.prog 148=some [AV.v (.int .u64 0),AV.sl .nil 0 []]:=by kernel_rfl
@[simp] theorem ztb:zaB Try.prog 149=none:=by kernel_rfl
@[simp] theorem zuP:scalar Try.prog 149=true:=by kernel_rfl
@[simp] theorem ztc:zao Try.prog 149=some 1:=by kernel_rfl
@[simp] theorem ztd:zaB Try.prog 151=none:=by kernel_rfl
@[simp] theorem zuQ:scalar Try.prog 151=true:=by kernel_rfl
@[simp] theorem zte:zao Try.prog 151=some 1:=by kernel_rfl
@[simp] theorem ztf:isSlice Try.prog 151=true:=by kernel_rfl
@[simp] theorem zuR:zcg Try.prog 151=some 26:=by kernel_rfl
@[simp] theorem zuS:zaG Try.prog 151=some 1:=by kernel_rfl
@[simp] theorem zuT:zbf Try.prog 151=true:=by kernel_rfl
@[simp] theorem ztg:zaB Try.prog 160=some 4:=by kernel_rfl
@[simp] theorem zth:zao Try.prog 160=some 4:=by kernel_rfl
@[simp] theorem zpV:places Try.prog 160=some [(0,3),(3,1)]:=by kernel_rfl
@[simp] theorem zrF:zcz Try.prog 160=some 4:=by kernel_rfl
@[simp] theorem znj:zc6 Try.prog 160=some [AV.v (.int .i64 0),AV.v (.int .i64 0),AV.v (.int .i64 0),AV.v (.int .i64 0)]:=by kernel_rfl
@[simp] theorem zti:zaB Try.prog 163=some 3:=by kernel_rfl
@[simp] theorem ztj:zao Try.prog 163=some 3:=by kernel_rfl
@[simp] theorem zuU:places Try.prog 163=some [(0,1),(1,1),(2,1)]:=by kernel_rfl
@[simp] theorem zrG:zcz Try.prog 163=some 3:=by kernel_rfl
@[simp] theorem zrH:zc6 Try.prog 163=some [AV.v (.int .i64 0),AV.v (.int .i64 0),AV.v (.int .i64 0)]:=by kernel_rfl
@[simp] theorem ztk:zaB Try.prog 164=some 24:=by kernel_rfl
@[simp] theorem ztl:zao Try.prog 164=some 24:=by kernel_rfl
@[simp] theorem zrI:zcz Try.prog 164=some 24:=by kernel_rfl
@[simp] theorem ztm:zjW Try.prog 164=some (8,3):=by kernel_rfl
@[simp] theorem ztn:zmH Try.prog 164=some (8,163,3):=by kernel_rfl
@[simp] theorem zuV:places Try.prog 164=some [(0,3),(3,3),(6,3),(9,3),(12,3),(15,3),(18,3),(21,3)]:=by kernel_rfl
@[simp] theorem zrJ:zc6 Try.prog 164=some [AV.v (.int .i64 0),AV.v (.int .i64 0),AV.v (.int .i64 0),AV.v (.int .i64 0),AV.v (.int .i64 0),AV.v (.int .i64 0),AV.v (.int .i64 0),AV.v (.int .i64 0),AV.v (.int .i64 0),AV.v (.int .i64 0),AV.v (.int .i64 0),AV.v (.int .i64 0),AV.v (.int .i64 0),AV.v (.int .i64 0),AV.v (.int .i64 0),AV.v (.int .i64 0),AV.v (.int .i64 0),AV.v (.int .i64 0),AV.v (.int .i64 0),AV.v (.int .i64 0),AV.v (.int .i64 0),AV.v (.int .i64 0),AV.v (.int .i64 0),AV.v (.int .i64 0)]:=by kernel_rfl
@[simp] theorem zto:zaB Try.prog 166=none:=by kernel_rfl
@[simp] theorem zuW:scalar Try.prog 166=true:=by kernel_rfl
@[simp] theorem ztp:zao Try.prog 166=some 1:=by kernel_rfl
@[simp] theorem ztq:zaB Try.prog 167=none:=by kernel_rfl
@[simp] theorem zuX:scalar Try.prog 167=true:=by kernel_rfl
@[simp] theorem ztr:zao Try.prog 167=some 1:=by kernel_rfl
@[simp] theorem zts:zaB Try.prog 170=none:=by kernel_rfl
@[simp] theorem zuY:scalar Try.prog 170=true:=by kernel_rfl
@[simp] theorem ztt:zao Try.prog 170=some 1:=by kernel_rfl
@[simp] theorem ztu:zaB Try.prog 172=none:=by kernel_rfl
@[simp] theorem zuZ:scalar Try.prog 172=true:=by kernel_rfl
@[simp] theorem ztv:zao Try.prog 172=some 1:=by kernel_rfl
@[simp] theorem ztw:zaB Try.prog 179=some 2:=by kernel_rfl
@[simp] theorem ztx:zao Try.prog 179=some 2:=by kernel_rfl
@[simp] theorem zu0:places Try.prog 179=some [(0,1),(1,1)]:=by kernel_rfl
@[simp] theorem zrK:zcz Try.prog 179=some 2:=by kernel_rfl
@[simp] theorem zrL:zc6 Try.prog 179=some [AV.v (.int .i64 0),AV.v (.int .i64 0)]:=by kernel_rfl
@[simp] theorem znk:fieldType Try.prog 100 1=some (1,59):=by kernel_rfl
@[simp] theorem zbQ:zap Try.prog 25 0=some 0:=by kernel_rfl
@[simp] theorem zgH:zap Try.prog 25 1=some 1:=by kernel_rfl
@[simp] theorem zf0:zap Try.prog 25 2=some 2:=by kernel_rfl
@[simp] theorem zfE:zap Try.prog 25 3=some 3:=by kernel_rfl
@[simp] theorem zcW:zap Try.prog 25 4=some 4:=by kernel_rfl
@[simp] theorem zty:zap Try.prog 35 0=some 0:=by kernel_rfl
@[simp] theorem ztz:zap Try.prog 35 1=some 1:=by kernel_rfl
@[simp] theorem ztA:zap Try.prog 35 2=some 2:=by kernel_rfl
@[simp] theorem ztB:zap Try.prog 37 0=some 0:=by kernel_rfl
@[simp] theorem ztC:zap Try.prog 37 1=some 1:=by kernel_rfl
@[simp] theorem ztD:zap Try.prog 40 0=some 0:=by kernel_rfl
@[simp] theorem ztE:zap Try.prog 40 1=some 1:=by kernel_rfl
@[simp] theorem zfF:zap Try.prog 49 0=some 0:=by kernel_rfl
@[simp] theorem ze1:zap Try.prog 49 1=some 1:=by kernel_rfl
@[simp] theorem zlb:zap Try.prog 49 2=some 2:=by kernel_rfl
@[simp] theorem zoG:zap Try.prog 49 3=some 3:=by kernel_rfl
@[simp] theorem zdQ:zap Try.prog 52 0=some 0:=by kernel_rfl
@[simp] theorem zcX:zap Try.prog 52 1=some 1:=by kernel_rfl
@[simp] theorem zdq:zap Try.prog 52 2=some 2:=by kernel_rfl
@[simp] theorem zgI:zap Try.prog 55 0=some 0:=by kernel_rfl
@[simp] theorem zf1:zap Try.prog 55 1=some 1:=by kernel_rfl
@[simp] theorem ztF:zap Try.prog 65 0=some 0:=by kernel_rfl
@[simp] theorem ztG:zap Try.prog 65 1=some 1:=by kernel_rfl
@[simp] theorem ztH:zap Try.prog 65 2=some 2:=by kernel_rfl
@[simp] theorem ztI:zap Try.prog 65 3=some 3:=by kernel_rfl
@[simp] theorem ztJ:zap Try.prog 65 4=some 4:=by kernel_rfl
@[simp] theorem ztK:zap Try.prog 65 5=some 5:=by kernel_rfl
@[simp] theorem ztL:zap Try.prog 65 6=some 6:=by kernel_rfl
@[simp] theorem ztM:zap Try.prog 65 7=some 7:=by kernel_rfl
@[simp] theorem ztN:zap Try.prog 71 0=some 0:=by kernel_rfl
@[simp] theorem zhS:zap Try.prog 75 0=some 0:=by kernel_rfl
@[simp] theorem zhT:zap Try.prog 75 1=some 1:=by kernel_rfl
@[simp] theorem ztO:zap Try.prog 79 0=some 0:=by kernel_rfl
@[simp] theorem ztP:zap Try.prog 79 1=some 1:=by kernel_rfl
@[simp] theorem zhU:zap Try.prog 96 0=some 0:=by kernel_rfl
@[simp] theorem zhV:zap Try.prog 96 1=some 5:=by kernel_rfl
@[simp] theorem zjQ:zap Try.prog 100 0=some 0:=by kernel_rfl
@[simp] theorem zjR:zap Try.prog 100 1=some 1:=by kernel_rfl
@[simp] theorem zjS:zap Try.prog 100 2=some 2:=by kernel_rfl
@[simp] theorem znl:zap Try.prog 100 3=some 3:=by kernel_rfl
@[simp] theorem znm:zap Try.prog 116 0=some 0:=by kernel_rfl
@[simp] theorem znn:zap Try.prog 116 1=some 1:=by kernel_rfl
@[simp] theorem zno:zap Try.prog 116 2=some 2:=by kernel_rfl
@[simp] theorem znp:zap Try.prog 120 0=some 0:=by kernel_rfl
@[simp] theorem zf2:zap Try.prog 120 1=some 4:=by kernel_rfl
@[simp] theorem zh8:zap Try.prog 132 0=some 0:=by kernel_rfl
@[simp] theorem zgZ:zap Try.prog 132 1=some 1:=by kernel_rfl
@[simp] theorem znq:zap Try.prog 132 2=some 2:=by kernel_rfl
@[simp] theorem zh9:zap Try.prog 134 0=some 0:=by kernel_rfl
@[simp] theorem zd1:zap Try.prog 134 1=some 5:=by kernel_rfl
@[simp] theorem zg0:zap Try.prog 134 2=some 6:=by kernel_rfl
@[simp] theorem zd2:zap Try.prog 134 3=some 7:=by kernel_rfl
@[simp] theorem zd3:zap Try.prog 134 4=some 8:=by kernel_rfl
@[simp] theorem zd4:zap Try.prog 134 5=some 11:=by kernel_rfl
@[simp] theorem zrM:zap Try.prog 141 0=some 0:=by kernel_rfl
@[simp] theorem zrN:zap Try.prog 148 1=some 1:=by kernel_rfl
@[simp] theorem zrO:zap Try.prog 163 0=some 0:=by kernel_rfl
@[simp] theorem zrP:zap Try.prog 163 1=some 1:=by kernel_rfl
@[simp] theorem zrQ:zap Try.prog 163 2=some 2:=by kernel_rfl
@[simp] theorem zrR:zap Try.prog 179 0=some 0:=by kernel_rfl
@[simp] theorem zrS:zap Try.prog 179 1=some 1:=by kernel_rfl
end Go.Proofs.Ytclaalcoefcljaa
