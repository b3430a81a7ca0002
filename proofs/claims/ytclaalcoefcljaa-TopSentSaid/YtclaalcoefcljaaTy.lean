/-
  What the abstract machine's runs want to know of this program's types.
  Conditions: none.
-/
import Derived.Test.YtclaalcoefcljaaAmPc
import Derived.Test.YtclaalcoefcljaaChecked
set_option linter.all false
namespace Go.Proofs.Ytclaalcoefcljaa
open Go Go.AM
theorem mixed:Try.prog.follows .mixedOrders=true:=Try.checked.mixed
@[simp] theorem zaf:zaA Try.prog 3=none:=by kernel_rfl
@[simp] theorem zap:scalar Try.prog 3=true:=by kernel_rfl
@[simp] theorem zeY:zar Try.prog 3=some 1:=by kernel_rfl
@[simp] theorem zuy:zdC Try.prog 3=some [AV.v (.int .i64 0)]:=by kernel_rfl
@[simp] theorem zvM:intKind Try.prog 3=some .i64:=by kernel_rfl
@[simp] theorem zo0:zaA Try.prog 4=none:=by kernel_rfl
@[simp] theorem zqZ:scalar Try.prog 4=true:=by kernel_rfl
@[simp] theorem zo1:zar Try.prog 4=some 1:=by kernel_rfl
@[simp] theorem zmX:zdC Try.prog 4=some [AV.v (.bool false)]:=by kernel_rfl
@[simp] theorem zqg:isBool Try.prog 4=true:=by kernel_rfl
@[simp] theorem zcP:zaA Try.prog 22=none:=by kernel_rfl
@[simp] theorem zdB:scalar Try.prog 22=true:=by kernel_rfl
@[simp] theorem zqh:zar Try.prog 22=some 1:=by kernel_rfl
@[simp] theorem zdM:isSlice Try.prog 22=true:=by kernel_rfl
@[simp] theorem zo2:zcw Try.prog 22=some 75:=by kernel_rfl
@[simp] theorem zhZ:zaK Try.prog 22=some 2:=by kernel_rfl
@[simp] theorem zo3:zbn Try.prog 22=true:=by kernel_rfl
@[simp] theorem zcW:zaA Try.prog 23=none:=by kernel_rfl
@[simp] theorem zdN:scalar Try.prog 23=true:=by kernel_rfl
@[simp] theorem zi8:zar Try.prog 23=some 1:=by kernel_rfl
@[simp] theorem zfa:isSlice Try.prog 23=true:=by kernel_rfl
@[simp] theorem ziF:zcw Try.prog 23=some 55:=by kernel_rfl
@[simp] theorem zdO:zaK Try.prog 23=some 2:=by kernel_rfl
@[simp] theorem ziG:zbn Try.prog 23=true:=by kernel_rfl
@[simp] theorem zdV:zaA Try.prog 25=some 5:=by kernel_rfl
@[simp] theorem zkX:zar Try.prog 25=some 5:=by kernel_rfl
@[simp] theorem zvN:places Try.prog 25=some [(0,1),(1,1),(2,1),(3,1),(4,1)]:=by kernel_rfl
@[simp] theorem zjE:zdC Try.prog 25=some [AV.sl .nil 0 [],AV.v (.int .i64 0),AV.v (.int .i64 0),AV.v (.int .i64 0),AV.sl .nil 0 []]:=by kernel_rfl
@[simp] theorem zb6:zaA Try.prog 26=none:=by kernel_rfl
@[simp] theorem zcX:scalar Try.prog 26=true:=by kernel_rfl
@[simp] theorem zfv:zar Try.prog 26=some 1:=by kernel_rfl
@[simp] theorem zlz:zdC Try.prog 26=some [AV.sl .nil 0 []]:=by kernel_rfl
@[simp] theorem zbA:isSlice Try.prog 26=true:=by kernel_rfl
@[simp] theorem zeB:zcw Try.prog 26=some 3:=by kernel_rfl
@[simp] theorem zbL:zaK Try.prog 26=some 1:=by kernel_rfl
@[simp] theorem zeC:zbn Try.prog 26=true:=by kernel_rfl
@[simp] theorem zuz:zaA Try.prog 28=none:=by kernel_rfl
@[simp] theorem zvO:scalar Try.prog 28=true:=by kernel_rfl
@[simp] theorem zuA:zar Try.prog 28=some 1:=by kernel_rfl
@[simp] theorem zuB:intKind Try.prog 28=some .i64:=by kernel_rfl
@[simp] theorem zuC:zaA Try.prog 30=none:=by kernel_rfl
@[simp] theorem zvP:scalar Try.prog 30=true:=by kernel_rfl
@[simp] theorem zuD:zar Try.prog 30=some 1:=by kernel_rfl
@[simp] theorem zuE:zaA Try.prog 33=none:=by kernel_rfl
@[simp] theorem zvQ:scalar Try.prog 33=true:=by kernel_rfl
@[simp] theorem zuF:zar Try.prog 33=some 1:=by kernel_rfl
@[simp] theorem zuG:isSlice Try.prog 33=true:=by kernel_rfl
@[simp] theorem zvR:zcw Try.prog 33=some 40:=by kernel_rfl
@[simp] theorem zvS:zaK Try.prog 33=some 2:=by kernel_rfl
@[simp] theorem zvT:zbn Try.prog 33=true:=by kernel_rfl
@[simp] theorem zuH:zaA Try.prog 35=some 3:=by kernel_rfl
@[simp] theorem zuI:zar Try.prog 35=some 3:=by kernel_rfl
@[simp] theorem zvU:places Try.prog 35=some [(0,1),(1,1),(2,1)]:=by kernel_rfl
@[simp] theorem zsO:zdC Try.prog 35=some [AV.v (.int .i64 0),AV.sl .nil 0 [],AV.sl .nil 0 []]:=by kernel_rfl
@[simp] theorem zuJ:zaA Try.prog 37=some 2:=by kernel_rfl
@[simp] theorem zuK:zar Try.prog 37=some 2:=by kernel_rfl
@[simp] theorem zvV:places Try.prog 37=some [(0,1),(1,1)]:=by kernel_rfl
@[simp] theorem zsP:zde Try.prog 37=some 2:=by kernel_rfl
@[simp] theorem zsQ:zdC Try.prog 37=some [AV.v (.int .i64 0),AV.v (.int .i64 0)]:=by kernel_rfl
@[simp] theorem zuL:zaA Try.prog 38=none:=by kernel_rfl
@[simp] theorem zvW:scalar Try.prog 38=true:=by kernel_rfl
@[simp] theorem zuM:zar Try.prog 38=some 1:=by kernel_rfl
@[simp] theorem zuN:isSlice Try.prog 38=true:=by kernel_rfl
@[simp] theorem zvX:zcw Try.prog 38=some 37:=by kernel_rfl
@[simp] theorem zvY:zaK Try.prog 38=some 2:=by kernel_rfl
@[simp] theorem zvZ:zbn Try.prog 38=true:=by kernel_rfl
@[simp] theorem zuO:zaA Try.prog 40=some 2:=by kernel_rfl
@[simp] theorem zuP:zar Try.prog 40=some 2:=by kernel_rfl
@[simp] theorem zv0:places Try.prog 40=some [(0,1),(1,1)]:=by kernel_rfl
@[simp] theorem zsR:zdC Try.prog 40=some [AV.v (.int .i64 0),AV.sl .nil 0 []]:=by kernel_rfl
@[simp] theorem zuQ:zaA Try.prog 46=none:=by kernel_rfl
@[simp] theorem zv1:scalar Try.prog 46=true:=by kernel_rfl
@[simp] theorem zuR:zar Try.prog 46=some 1:=by kernel_rfl
@[simp] theorem zuS:isSlice Try.prog 46=true:=by kernel_rfl
@[simp] theorem zv2:zcw Try.prog 46=some 52:=by kernel_rfl
@[simp] theorem zv3:zaK Try.prog 46=some 3:=by kernel_rfl
@[simp] theorem zv4:zbn Try.prog 46=true:=by kernel_rfl
@[simp] theorem zuT:zaA Try.prog 47=none:=by kernel_rfl
@[simp] theorem zv5:scalar Try.prog 47=true:=by kernel_rfl
@[simp] theorem zuU:zar Try.prog 47=some 1:=by kernel_rfl
@[simp] theorem zuV:isSlice Try.prog 47=true:=by kernel_rfl
@[simp] theorem zv6:zcw Try.prog 47=some 116:=by kernel_rfl
@[simp] theorem zv7:zaK Try.prog 47=some 3:=by kernel_rfl
@[simp] theorem zv8:zbn Try.prog 47=true:=by kernel_rfl
@[simp] theorem zuW:zaA Try.prog 49=some 4:=by kernel_rfl
@[simp] theorem zuX:zar Try.prog 49=some 4:=by kernel_rfl
@[simp] theorem zv9:places Try.prog 49=some [(0,1),(1,1),(2,1),(3,1)]:=by kernel_rfl
@[simp] theorem zsS:zdC Try.prog 49=some [AV.v (.int .i64 0),AV.v (.int .i64 0),AV.sl .nil 0 [],AV.v (.int .i64 0)]:=by kernel_rfl
@[simp] theorem zuY:zaA Try.prog 52=some 3:=by kernel_rfl
@[simp] theorem zuZ:zar Try.prog 52=some 3:=by kernel_rfl
@[simp] theorem zwa:places Try.prog 52=some [(0,1),(1,1),(2,1)]:=by kernel_rfl
@[simp] theorem zsT:zde Try.prog 52=some 3:=by kernel_rfl
@[simp] theorem zsU:zdC Try.prog 52=some [AV.v (.int .i64 0),AV.v (.int .i64 0),AV.v (.int .i64 0)]:=by kernel_rfl
@[simp] theorem zig:zaA Try.prog 55=some 2:=by kernel_rfl
@[simp] theorem zkY:zar Try.prog 55=some 2:=by kernel_rfl
@[simp] theorem zrE:places Try.prog 55=some [(0,1),(1,1)]:=by kernel_rfl
@[simp] theorem zsV:zde Try.prog 55=some 2:=by kernel_rfl
@[simp] theorem zlA:zdC Try.prog 55=some [AV.v (.int .i64 0),AV.v (.int .i64 0)]:=by kernel_rfl
@[simp] theorem zmY:zaA Try.prog 59=none:=by kernel_rfl
@[simp] theorem zo4:scalar Try.prog 59=true:=by kernel_rfl
@[simp] theorem zqi:zar Try.prog 59=some 1:=by kernel_rfl
@[simp] theorem zmZ:isSlice Try.prog 59=true:=by kernel_rfl
@[simp] theorem zo5:zcw Try.prog 59=some 71:=by kernel_rfl
@[simp] theorem zjF:zaK Try.prog 59=some 2:=by kernel_rfl
@[simp] theorem zo6:zbn Try.prog 59=true:=by kernel_rfl
@[simp] theorem zb7:zaA Try.prog 65=some 8:=by kernel_rfl
@[simp] theorem zgi:zar Try.prog 65=some 8:=by kernel_rfl
@[simp] theorem zrF:places Try.prog 65=some [(0,1),(1,1),(2,1),(3,1),(4,1),(5,1),(6,1),(7,1)]:=by kernel_rfl
@[simp] theorem zgu:zdC Try.prog 65=some [AV.v (.int .i64 0),AV.v (.int .i64 0),AV.v (.int .i64 0),AV.v (.int .i64 0),AV.v (.int .i64 0),AV.v (.int .i64 0),AV.v (.int .i64 0),AV.sl .nil 0 []]:=by kernel_rfl
@[simp] theorem zu0:zaA Try.prog 71=some 2:=by kernel_rfl
@[simp] theorem zu1:zar Try.prog 71=some 2:=by kernel_rfl
@[simp] theorem zrG:places Try.prog 71=some [(0,1),(1,1)]:=by kernel_rfl
@[simp] theorem zsW:zde Try.prog 71=some 2:=by kernel_rfl
@[simp] theorem zo7:zdC Try.prog 71=some [AV.v (.int .i64 0),AV.v (.int .i64 0)]:=by kernel_rfl
@[simp] theorem zqj:zaA Try.prog 75=some 2:=by kernel_rfl
@[simp] theorem zqk:zar Try.prog 75=some 2:=by kernel_rfl
@[simp] theorem zwb:places Try.prog 75=some [(0,1),(1,1)]:=by kernel_rfl
@[simp] theorem zsX:zde Try.prog 75=some 2:=by kernel_rfl
@[simp] theorem zo8:zdC Try.prog 75=some [AV.v (.int .i64 0),AV.v (.int .i64 0)]:=by kernel_rfl
@[simp] theorem zu2:zaA Try.prog 79=some 2:=by kernel_rfl
@[simp] theorem zu3:zar Try.prog 79=some 2:=by kernel_rfl
@[simp] theorem zwc:places Try.prog 79=some [(0,1),(1,1)]:=by kernel_rfl
@[simp] theorem zsY:zdC Try.prog 79=some [AV.sl .nil 0 [],AV.v (.int .i64 0)]:=by kernel_rfl
@[simp] theorem zu4:zaA Try.prog 88=none:=by kernel_rfl
@[simp] theorem zwd:scalar Try.prog 88=true:=by kernel_rfl
@[simp] theorem zu5:zar Try.prog 88=some 1:=by kernel_rfl
@[simp] theorem zu6:zaA Try.prog 94=some 5:=by kernel_rfl
@[simp] theorem zu7:zar Try.prog 94=some 5:=by kernel_rfl
@[simp] theorem zsZ:zde Try.prog 94=some 5:=by kernel_rfl
@[simp] theorem zu8:zl1 Try.prog 94=some (5,1):=by kernel_rfl
@[simp] theorem zu9:zl2 Try.prog 94=some (5,3,1):=by kernel_rfl
@[simp] theorem zwe:places Try.prog 94=some [(0,1),(1,1),(2,1),(3,1),(4,1)]:=by kernel_rfl
@[simp] theorem zva:zaA Try.prog 96=some 10:=by kernel_rfl
@[simp] theorem zvb:zar Try.prog 96=some 10:=by kernel_rfl
@[simp] theorem zwf:places Try.prog 96=some [(0,5),(5,5)]:=by kernel_rfl
@[simp] theorem zs0:zde Try.prog 96=some 10:=by kernel_rfl
@[simp] theorem zs1:zdC Try.prog 96=some [AV.v (.int .i64 0),AV.v (.int .i64 0),AV.v (.int .i64 0),AV.v (.int .i64 0),AV.v (.int .i64 0),AV.v (.int .i64 0),AV.v (.int .i64 0),AV.v (.int .i64 0),AV.v (.int .i64 0),AV.v (.int .i64 0)]:=by kernel_rfl
@[simp] theorem zql:zaA Try.prog 98=none:=by kernel_rfl
@[simp] theorem zrH:scalar Try.prog 98=true:=by kernel_rfl
@[simp] theorem zqm:zar Try.prog 98=some 1:=by kernel_rfl
@[simp] theorem zvc:isSlice Try.prog 98=true:=by kernel_rfl
@[simp] theorem zo9:zcw Try.prog 98=some 160:=by kernel_rfl
@[simp] theorem zpa:zaK Try.prog 98=some 4:=by kernel_rfl
@[simp] theorem zpb:zbn Try.prog 98=true:=by kernel_rfl
@[simp] theorem zih:zaA Try.prog 100=some 4:=by kernel_rfl
@[simp] theorem zlB:zar Try.prog 100=some 4:=by kernel_rfl
@[simp] theorem zvd:places Try.prog 100=some [(0,1),(1,1),(2,1),(3,1)]:=by kernel_rfl
@[simp] theorem znR:zdC Try.prog 100=some [AV.sl .nil 0 [],AV.sl .nil 0 [],AV.v (.int .i64 0),AV.v (.int .i64 0)]:=by kernel_rfl
@[simp] theorem zlC:zaA Try.prog 106=none:=by kernel_rfl
@[simp] theorem zm0:scalar Try.prog 106=true:=by kernel_rfl
@[simp] theorem zpc:zar Try.prog 106=some 1:=by kernel_rfl
@[simp] theorem zlD:isSlice Try.prog 106=true:=by kernel_rfl
@[simp] theorem zm1:zcw Try.prog 106=some 148:=by kernel_rfl
@[simp] theorem zkZ:zaK Try.prog 106=some 2:=by kernel_rfl
@[simp] theorem zm2:zbn Try.prog 106=true:=by kernel_rfl
@[simp] theorem zs2:zaA Try.prog 109=none:=by kernel_rfl
@[simp] theorem zve:scalar Try.prog 109=true:=by kernel_rfl
@[simp] theorem zs3:zar Try.prog 109=some 1:=by kernel_rfl
@[simp] theorem zs4:zaA Try.prog 111=none:=by kernel_rfl
@[simp] theorem zvf:scalar Try.prog 111=true:=by kernel_rfl
@[simp] theorem zs5:zar Try.prog 111=some 1:=by kernel_rfl
@[simp] theorem zs6:zaA Try.prog 114=none:=by kernel_rfl
@[simp] theorem zvg:scalar Try.prog 114=true:=by kernel_rfl
@[simp] theorem zs7:zar Try.prog 114=some 1:=by kernel_rfl
@[simp] theorem zs8:zaA Try.prog 116=some 3:=by kernel_rfl
@[simp] theorem zs9:zar Try.prog 116=some 3:=by kernel_rfl
@[simp] theorem zvh:places Try.prog 116=some [(0,1),(1,1),(2,1)]:=by kernel_rfl
@[simp] theorem zr9:zde Try.prog 116=some 3:=by kernel_rfl
@[simp] theorem zta:zaA Try.prog 117=none:=by kernel_rfl
@[simp] theorem zvi:scalar Try.prog 117=true:=by kernel_rfl
@[simp] theorem ztb:zar Try.prog 117=some 1:=by kernel_rfl
@[simp] theorem ztc:zaA Try.prog 120=some 5:=by kernel_rfl
@[simp] theorem ztd:zar Try.prog 120=some 5:=by kernel_rfl
@[simp] theorem zvj:places Try.prog 120=some [(0,4),(4,1)]:=by kernel_rfl
@[simp] theorem zsa:zdC Try.prog 120=some [AV.v (.int .i64 0),AV.v (.int .i64 0),AV.sl .nil 0 [],AV.v (.int .i64 0),AV.sl .nil 0 []]:=by kernel_rfl
@[simp] theorem zte:zaA Try.prog 121=some 4:=by kernel_rfl
@[simp] theorem ztf:zar Try.prog 121=some 4:=by kernel_rfl
@[simp] theorem zsb:zde Try.prog 121=some 4:=by kernel_rfl
@[simp] theorem ztg:zl1 Try.prog 121=some (4,1):=by kernel_rfl
@[simp] theorem zth:zl2 Try.prog 121=some (4,3,1):=by kernel_rfl
@[simp] theorem zvk:places Try.prog 121=some [(0,1),(1,1),(2,1),(3,1)]:=by kernel_rfl
@[simp] theorem zsc:zdC Try.prog 121=some [AV.v (.int .i64 0),AV.v (.int .i64 0),AV.v (.int .i64 0),AV.v (.int .i64 0)]:=by kernel_rfl
@[simp] theorem zti:zaA Try.prog 125=none:=by kernel_rfl
@[simp] theorem zvl:scalar Try.prog 125=true:=by kernel_rfl
@[simp] theorem ztj:zar Try.prog 125=some 1:=by kernel_rfl
@[simp] theorem ztk:zaA Try.prog 126=none:=by kernel_rfl
@[simp] theorem zvm:scalar Try.prog 126=true:=by kernel_rfl
@[simp] theorem ztl:zar Try.prog 126=some 1:=by kernel_rfl
@[simp] theorem ztm:zaA Try.prog 127=none:=by kernel_rfl
@[simp] theorem zvn:scalar Try.prog 127=true:=by kernel_rfl
@[simp] theorem ztn:zar Try.prog 127=some 1:=by kernel_rfl
@[simp] theorem zto:zaA Try.prog 128=none:=by kernel_rfl
@[simp] theorem zvo:scalar Try.prog 128=true:=by kernel_rfl
@[simp] theorem ztp:zar Try.prog 128=some 1:=by kernel_rfl
@[simp] theorem zii:zaA Try.prog 130=none:=by kernel_rfl
@[simp] theorem zi9:scalar Try.prog 130=true:=by kernel_rfl
@[simp] theorem ztq:zar Try.prog 130=some 1:=by kernel_rfl
@[simp] theorem zpd:isSlice Try.prog 130=true:=by kernel_rfl
@[simp] theorem zm3:zcw Try.prog 130=some 4:=by kernel_rfl
@[simp] theorem zhz:zaK Try.prog 130=some 1:=by kernel_rfl
@[simp] theorem zm4:zbn Try.prog 130=true:=by kernel_rfl
@[simp] theorem zpe:zaA Try.prog 132=some 3:=by kernel_rfl
@[simp] theorem ztr:zar Try.prog 132=some 3:=by kernel_rfl
@[simp] theorem zm5:places Try.prog 132=some [(0,1),(1,1),(2,1)]:=by kernel_rfl
@[simp] theorem zsd:zde Try.prog 132=some 3:=by kernel_rfl
@[simp] theorem zkr:zdC Try.prog 132=some [AV.v (.int .i64 0),AV.v (.int .i64 0),AV.v (.int .i64 0)]:=by kernel_rfl
@[simp] theorem zts:zaA Try.prog 134=some 15:=by kernel_rfl
@[simp] theorem ztt:zar Try.prog 134=some 15:=by kernel_rfl
@[simp] theorem zm6:places Try.prog 134=some [(0,5),(5,1),(6,1),(7,1),(8,3),(11,4)]:=by kernel_rfl
@[simp] theorem zks:zdC Try.prog 134=some [AV.sl .nil 0 [],AV.v (.int .i64 0),AV.v (.int .i64 0),AV.v (.int .i64 0),AV.sl .nil 0 [],AV.sl .nil 0 [],AV.sl .nil 0 [],AV.v (.int .i64 0),AV.v (.int .i64 0),AV.v (.int .i64 0),AV.v (.int .i64 0),AV.sl .nil 0 [],AV.sl .nil 0 [],AV.v (.int .i64 0),AV.v (.int .i64 0)]:=by kernel_rfl
@[simp] theorem ztu:zaA Try.prog 136=none:=by kernel_rfl
@[simp] theorem zvp:scalar Try.prog 136=true:=by kernel_rfl
@[simp] theorem ztv:zar Try.prog 136=some 1:=by kernel_rfl
@[simp] theorem zf3:zaA Try.prog 141=some 8:=by kernel_rfl
@[simp] theorem zlE:zar Try.prog 141=some 8:=by kernel_rfl
@[simp] theorem zm7:places Try.prog 141=some [(0,8)]:=by kernel_rfl
@[simp] theorem zhA:zdC Try.prog 141=some [AV.v (.int .i64 0),AV.v (.int .i64 0),AV.v (.int .i64 0),AV.v (.int .i64 0),AV.v (.int .i64 0),AV.v (.int .i64 0),AV.v (.int .i64 0),AV.sl .nil 0 []]:=by kernel_rfl
@[simp] theorem ztw:zaA Try.prog 143=none:=by kernel_rfl
@[simp] theorem zvq:scalar Try.prog 143=true:=by kernel_rfl
@[simp] theorem ztx:zar Try.prog 143=some 1:=by kernel_rfl
@[simp] theorem zty:zaA Try.prog 145=none:=by kernel_rfl
@[simp] theorem zvr:scalar Try.prog 145=true:=by kernel_rfl
@[simp] theorem ztz:zar Try.prog 145=some 1:=by kernel_rfl
@[simp] theorem ztA:intKind Try.prog 145=some .u64:=by kernel_rfl
@[simp] theorem ztB:zaA Try.prog 146=none:=by kernel_rfl
@[simp] theorem zvs:scalar Try.prog 146=true:=by kernel_rfl
@[simp] theorem ztC:zar Try.prog 146=some 1:=by kernel_rfl
@[simp] theorem ztD:intKind Try.prog 146=some .u64:=by kernel_rfl
@[simp] theorem zlF:zaA Try.prog 148=some 2:=by kernel_rfl
@[simp] theorem zlG:zar Try.prog 148=some 2:=by kernel_rfl
@[simp] theorem zqn:places Try.prog 148=some [(0,1),(1,1)]:=by kernel_rfl
@[simp] theorem ziH:zdC Try.prog 148=some [AV.v (.int .u64 0),AV.sl .nil 0 []]:=by kernel_rfl
@[simp] theorem ztE:zaA Try.prog 149=none:=by kernel_rfl
@[simp] theorem zvt:scalar Try.prog 149=true:=by kernel_rfl
@[simp] theorem ztF:zar Try.prog 149=some 1:=by kernel_rfl
@[simp] theorem ztG:zaA Try.prog 151=none:=by kernel_rfl
@[simp] theorem zvu:scalar Try.prog 151=true:=by kernel_rfl
@[simp] theorem ztH:zar Try.prog 151=some 1:=by kernel_rfl
@[simp] theorem zlH:isSlice Try.prog 151=true:=by kernel_rfl
@[simp] theorem zm8:zcw Try.prog 151=some 26:=by kernel_rfl
@[simp] theorem zja:zaK Try.prog 151=some 1:=by kernel_rfl
@[simp] theorem zm9:zbn Try.prog 151=true:=by kernel_rfl
@[simp] theorem ztI:zaA Try.prog 160=some 4:=by kernel_rfl
@[simp] theorem ztJ:zar Try.prog 160=some 4:=by kernel_rfl
@[simp] theorem zqo:places Try.prog 160=some [(0,3),(3,1)]:=by kernel_rfl
@[simp] theorem zse:zde Try.prog 160=some 4:=by kernel_rfl
@[simp] theorem znS:zdC Try.prog 160=some [AV.v (.int .i64 0),AV.v (.int .i64 0),AV.v (.int .i64 0),AV.v (.int .i64 0)]:=by kernel_rfl
@[simp] theorem zpf:zaA Try.prog 163=some 3:=by kernel_rfl
@[simp] theorem zpg:zar Try.prog 163=some 3:=by kernel_rfl
@[simp] theorem zgj:places Try.prog 163=some [(0,1),(1,1),(2,1)]:=by kernel_rfl
@[simp] theorem zsf:zde Try.prog 163=some 3:=by kernel_rfl
@[simp] theorem zet:zdC Try.prog 163=some [AV.v (.int .i64 0),AV.v (.int .i64 0),AV.v (.int .i64 0)]:=by kernel_rfl
@[simp] theorem ztK:zaA Try.prog 164=some 24:=by kernel_rfl
@[simp] theorem ztL:zar Try.prog 164=some 24:=by kernel_rfl
@[simp] theorem zsg:zde Try.prog 164=some 24:=by kernel_rfl
@[simp] theorem ztM:zl1 Try.prog 164=some (8,3):=by kernel_rfl
@[simp] theorem zph:zl2 Try.prog 164=some (8,163,3):=by kernel_rfl
@[simp] theorem zqp:places Try.prog 164=some [(0,3),(3,3),(6,3),(9,3),(12,3),(15,3),(18,3),(21,3)]:=by kernel_rfl
@[simp] theorem znT:zdC Try.prog 164=some [AV.v (.int .i64 0),AV.v (.int .i64 0),AV.v (.int .i64 0),AV.v (.int .i64 0),AV.v (.int .i64 0),AV.v (.int .i64 0),AV.v (.int .i64 0),AV.v (.int .i64 0),AV.v (.int .i64 0),AV.v (.int .i64 0),AV.v (.int .i64 0),AV.v (.int .i64 0),AV.v (.int .i64 0),AV.v (.int .i64 0),AV.v (.int .i64 0),AV.v (.int .i64 0),AV.v (.int .i64 0),AV.v (.int .i64 0),AV.v (.int .i64 0),AV.v (.int .i64 0),AV.v (.int .i64 0),AV.v (.int .i64 0),AV.v (.int .i64 0),AV.v (.int .i64 0)]:=by kernel_rfl
@[simp] theorem ztN:zaA Try.prog 166=none:=by kernel_rfl
@[simp] theorem zvv:scalar Try.prog 166=true:=by kernel_rfl
@[simp] theorem ztO:zar Try.prog 166=some 1:=by kernel_rfl
@[simp] theorem zpi:zaA Try.prog 167=none:=by kernel_rfl
@[simp] theorem zqq:scalar Try.prog 167=true:=by kernel_rfl
@[simp] theorem ztP:zar Try.prog 167=some 1:=by kernel_rfl
@[simp] theorem ztQ:zaA Try.prog 170=none:=by kernel_rfl
@[simp] theorem zvw:scalar Try.prog 170=true:=by kernel_rfl
@[simp] theorem ztR:zar Try.prog 170=some 1:=by kernel_rfl
@[simp] theorem ztS:zaA Try.prog 172=none:=by kernel_rfl
@[simp] theorem zvx:scalar Try.prog 172=true:=by kernel_rfl
@[simp] theorem ztT:zar Try.prog 172=some 1:=by kernel_rfl
@[simp] theorem ztU:zaA Try.prog 179=some 2:=by kernel_rfl
@[simp] theorem zlI:zar Try.prog 179=some 2:=by kernel_rfl
@[simp] theorem zna:places Try.prog 179=some [(0,1),(1,1)]:=by kernel_rfl
@[simp] theorem zsh:zde Try.prog 179=some 2:=by kernel_rfl
@[simp] theorem ziI:zdC Try.prog 179=some [AV.v (.int .i64 0),AV.v (.int .i64 0)]:=by kernel_rfl
@[simp] theorem znU:fieldType Try.prog 100 1=some (1,59):=by kernel_rfl
@[simp] theorem zbY:zat Try.prog 25 0=some 0:=by kernel_rfl
@[simp] theorem zhj:zat Try.prog 25 1=some 1:=by kernel_rfl
@[simp] theorem zgv:zat Try.prog 25 2=some 2:=by kernel_rfl
@[simp] theorem zf4:zat Try.prog 25 3=some 3:=by kernel_rfl
@[simp] theorem zdk:zat Try.prog 25 4=some 4:=by kernel_rfl
@[simp] theorem ztV:zat Try.prog 35 0=some 0:=by kernel_rfl
@[simp] theorem ztW:zat Try.prog 35 1=some 1:=by kernel_rfl
@[simp] theorem ztX:zat Try.prog 35 2=some 2:=by kernel_rfl
@[simp] theorem ztY:zat Try.prog 37 0=some 0:=by kernel_rfl
@[simp] theorem ztZ:zat Try.prog 37 1=some 1:=by kernel_rfl
@[simp] theorem zt0:zat Try.prog 40 0=some 0:=by kernel_rfl
@[simp] theorem zt1:zat Try.prog 40 1=some 1:=by kernel_rfl
@[simp] theorem zt2:zat Try.prog 49 0=some 0:=by kernel_rfl
@[simp] theorem zt3:zat Try.prog 49 1=some 1:=by kernel_rfl
@[simp] theorem zt4:zat Try.prog 49 2=some 2:=by kernel_rfl
@[simp] theorem zt5:zat Try.prog 49 3=some 3:=by kernel_rfl
@[simp] theorem zt6:zat Try.prog 52 0=some 0:=by kernel_rfl
@[simp] theorem zt7:zat Try.prog 52 1=some 1:=by kernel_rfl
@[simp] theorem zt8:zat Try.prog 52 2=some 2:=by kernel_rfl
@[simp] theorem zjG:zat Try.prog 55 0=some 0:=by kernel_rfl
@[simp] theorem zgw:zat Try.prog 55 1=some 1:=by kernel_rfl
@[simp] theorem zgx:zat Try.prog 65 0=some 0:=by kernel_rfl
@[simp] theorem zfb:zat Try.prog 65 1=some 1:=by kernel_rfl
@[simp] theorem zfc:zat Try.prog 65 2=some 2:=by kernel_rfl
@[simp] theorem zgy:zat Try.prog 65 3=some 3:=by kernel_rfl
@[simp] theorem zij:zat Try.prog 65 4=some 4:=by kernel_rfl
@[simp] theorem zgz:zat Try.prog 65 5=some 5:=by kernel_rfl
@[simp] theorem zik:zat Try.prog 65 6=some 6:=by kernel_rfl
@[simp] theorem zdR:zat Try.prog 65 7=some 7:=by kernel_rfl
@[simp] theorem zjH:zat Try.prog 71 0=some 0:=by kernel_rfl
@[simp] theorem zil:zat Try.prog 75 0=some 0:=by kernel_rfl
@[simp] theorem zim:zat Try.prog 75 1=some 1:=by kernel_rfl
@[simp] theorem zt9:zat Try.prog 79 0=some 0:=by kernel_rfl
@[simp] theorem zua:zat Try.prog 79 1=some 1:=by kernel_rfl
@[simp] theorem zub:zat Try.prog 96 0=some 0:=by kernel_rfl
@[simp] theorem zuc:zat Try.prog 96 1=some 5:=by kernel_rfl
@[simp] theorem zkt:zat Try.prog 100 0=some 0:=by kernel_rfl
@[simp] theorem zku:zat Try.prog 100 1=some 1:=by kernel_rfl
@[simp] theorem zkv:zat Try.prog 100 2=some 2:=by kernel_rfl
@[simp] theorem znV:zat Try.prog 100 3=some 3:=by kernel_rfl
@[simp] theorem zsi:zat Try.prog 116 0=some 0:=by kernel_rfl
@[simp] theorem zsj:zat Try.prog 116 1=some 1:=by kernel_rfl
@[simp] theorem zsk:zat Try.prog 116 2=some 2:=by kernel_rfl
@[simp] theorem zsl:zat Try.prog 120 0=some 0:=by kernel_rfl
@[simp] theorem zsm:zat Try.prog 120 1=some 4:=by kernel_rfl
@[simp] theorem ziJ:zat Try.prog 132 0=some 0:=by kernel_rfl
@[simp] theorem zhB:zat Try.prog 132 1=some 1:=by kernel_rfl
@[simp] theorem znW:zat Try.prog 132 2=some 2:=by kernel_rfl
@[simp] theorem ziK:zat Try.prog 134 0=some 0:=by kernel_rfl
@[simp] theorem zeu:zat Try.prog 134 1=some 5:=by kernel_rfl
@[simp] theorem zhC:zat Try.prog 134 2=some 6:=by kernel_rfl
@[simp] theorem zev:zat Try.prog 134 3=some 7:=by kernel_rfl
@[simp] theorem zew:zat Try.prog 134 4=some 8:=by kernel_rfl
@[simp] theorem zex:zat Try.prog 134 5=some 11:=by kernel_rfl
@[simp] theorem zc1:zat Try.prog 141 0=some 0:=by kernel_rfl
@[simp] theorem zkw:zat Try.prog 148 1=some 1:=by kernel_rfl
@[simp] theorem znX:zat Try.prog 163 0=some 0:=by kernel_rfl
@[simp] theorem znY:zat Try.prog 163 1=some 1:=by kernel_rfl
@[simp] theorem znZ:zat Try.prog 163 2=some 2:=by kernel_rfl
@[simp] theorem zhD:zat Try.prog 179 0=some 0:=by kernel_rfl
@[simp] theorem zfn:zat Try.prog 179 1=some 1:=by kernel_rfl
end Go.Proofs.Ytclaalcoefcljaa
