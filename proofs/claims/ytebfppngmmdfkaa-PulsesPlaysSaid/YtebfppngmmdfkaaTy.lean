/-
  What the abstract machine's runs want to know of this program's types.
  Conditions: none.
-/
import Derived.Test.YtebfppngmmdfkaaAmPf
import Derived.Test.YtebfppngmmdfkaaChecked
set_option linter.all false
namespace Go.Proofs.Ytebfppngmmdfkaa
open Go Go.AM
theorem mixed:Try.prog.follows .mixedOrders=true:=Try.checked.mixed
@[simp] theorem zab:zaN Try.prog 3=none:=by kernel_rfl
@[simp] theorem zaf:scalar Try.prog 3=true:=by kernel_rfl
@[simp] theorem zf0:zaB Try.prog 3=some 1:=by kernel_rfl
@[simp] theorem zvK:intKind Try.prog 3=some .i64:=by kernel_rfl
@[simp] theorem zvL:zaN Try.prog 4=none:=by kernel_rfl
@[simp] theorem zwa:scalar Try.prog 4=true:=by kernel_rfl
@[simp] theorem zvM:zaB Try.prog 4=some 1:=by kernel_rfl
@[simp] theorem zuX:isBool Try.prog 4=true:=by kernel_rfl
@[simp] theorem za6:zaN Try.prog 22=none:=by kernel_rfl
@[simp] theorem zbx:scalar Try.prog 22=true:=by kernel_rfl
@[simp] theorem zg0:zaB Try.prog 22=some 1:=by kernel_rfl
@[simp] theorem zm3:zfQ Try.prog 22=some [AV.sl .nil 0 []]:=by kernel_rfl
@[simp] theorem za9:isSlice Try.prog 22=true:=by kernel_rfl
@[simp] theorem zcT:zc1 Try.prog 22=some 3:=by kernel_rfl
@[simp] theorem zaR:zaP Try.prog 22=some 1:=by kernel_rfl
@[simp] theorem zcU:zbU Try.prog 22=true:=by kernel_rfl
@[simp] theorem za0:zaN Try.prog 24=some 8:=by kernel_rfl
@[simp] theorem zi1:zaB Try.prog 24=some 8:=by kernel_rfl
@[simp] theorem ztg:places Try.prog 24=some [(0,1),(1,1),(2,1),(3,1),(4,1),(5,1),(6,1),(7,1)]:=by kernel_rfl
@[simp] theorem zhe:zfQ Try.prog 24=some [AV.v (.int .i64 0),AV.v (.int .i64 0),AV.v (.int .i64 0),AV.v (.int .i64 0),AV.v (.int .i64 0),AV.v (.int .i64 0),AV.v (.int .i64 0),AV.sl .nil 0 []]:=by kernel_rfl
@[simp] theorem zi2:zaN Try.prog 25=none:=by kernel_rfl
@[simp] theorem zkK:scalar Try.prog 25=true:=by kernel_rfl
@[simp] theorem zow:zaB Try.prog 25=some 1:=by kernel_rfl
@[simp] theorem zfN:isSlice Try.prog 25=true:=by kernel_rfl
@[simp] theorem zfm:zc1 Try.prog 25=some 33:=by kernel_rfl
@[simp] theorem zca:zaP Try.prog 25=some 3:=by kernel_rfl
@[simp] theorem zfn:zbU Try.prog 25=true:=by kernel_rfl
@[simp] theorem zuY:zaN Try.prog 27=none:=by kernel_rfl
@[simp] theorem zvN:scalar Try.prog 27=true:=by kernel_rfl
@[simp] theorem zuZ:zaB Try.prog 27=some 1:=by kernel_rfl
@[simp] theorem zu0:zaN Try.prog 29=none:=by kernel_rfl
@[simp] theorem zvO:scalar Try.prog 29=true:=by kernel_rfl
@[simp] theorem zu1:zaB Try.prog 29=some 1:=by kernel_rfl
@[simp] theorem zu2:intKind Try.prog 29=some .i64:=by kernel_rfl
@[simp] theorem zcb:zaN Try.prog 33=some 3:=by kernel_rfl
@[simp] theorem zj8:zaB Try.prog 33=some 3:=by kernel_rfl
@[simp] theorem zh8:places Try.prog 33=some [(0,1),(1,1),(2,1)]:=by kernel_rfl
@[simp] theorem zkL:zdZ Try.prog 33=some 3:=by kernel_rfl
@[simp] theorem zdQ:zfQ Try.prog 33=some [AV.v (.int .i64 0),AV.v (.int .i64 0),AV.v (.int .i64 0)]:=by kernel_rfl
@[simp] theorem zj9:zaN Try.prog 42=some 2:=by kernel_rfl
@[simp] theorem zi3:zaB Try.prog 42=some 2:=by kernel_rfl
@[simp] theorem zmc:places Try.prog 42=some [(0,1),(1,1)]:=by kernel_rfl
@[simp] theorem zqy:zdZ Try.prog 42=some 2:=by kernel_rfl
@[simp] theorem zgJ:zfQ Try.prog 42=some [AV.v (.int .i64 0),AV.v (.int .i64 0)]:=by kernel_rfl
@[simp] theorem zox:zaN Try.prog 47=none:=by kernel_rfl
@[simp] theorem zqz:scalar Try.prog 47=true:=by kernel_rfl
@[simp] theorem zrY:zaB Try.prog 47=some 1:=by kernel_rfl
@[simp] theorem zka:isSlice Try.prog 47=true:=by kernel_rfl
@[simp] theorem zqA:zc1 Try.prog 47=some 72:=by kernel_rfl
@[simp] theorem zmd:zaP Try.prog 47=some 2:=by kernel_rfl
@[simp] theorem zqB:zbU Try.prog 47=true:=by kernel_rfl
@[simp] theorem zgp:zaN Try.prog 51=some 8:=by kernel_rfl
@[simp] theorem zoy:zaB Try.prog 51=some 8:=by kernel_rfl
@[simp] theorem znY:places Try.prog 51=some [(0,8)]:=by kernel_rfl
@[simp] theorem zh9:zfQ Try.prog 51=some [AV.v (.int .i64 0),AV.v (.int .i64 0),AV.v (.int .i64 0),AV.v (.int .i64 0),AV.v (.int .i64 0),AV.v (.int .i64 0),AV.v (.int .i64 0),AV.sl .nil 0 []]:=by kernel_rfl
@[simp] theorem zme:zaN Try.prog 54=none:=by kernel_rfl
@[simp] theorem znZ:scalar Try.prog 54=true:=by kernel_rfl
@[simp] theorem zu3:zaB Try.prog 54=some 1:=by kernel_rfl
@[simp] theorem zoz:isSlice Try.prog 54=true:=by kernel_rfl
@[simp] theorem zvP:zc1 Try.prog 54=some 112:=by kernel_rfl
@[simp] theorem zth:zaP Try.prog 54=some 3:=by kernel_rfl
@[simp] theorem zvQ:zbU Try.prog 54=true:=by kernel_rfl
@[simp] theorem zfO:zaN Try.prog 56=some 4:=by kernel_rfl
@[simp] theorem zoA:zaB Try.prog 56=some 4:=by kernel_rfl
@[simp] theorem zqC:places Try.prog 56=some [(0,1),(1,1),(2,1),(3,1)]:=by kernel_rfl
@[simp] theorem zi4:zfQ Try.prog 56=some [AV.v (.int .i64 0),AV.v (.int .i64 0),AV.sl .nil 0 [],AV.v (.int .i64 0)]:=by kernel_rfl
@[simp] theorem zu4:zaN Try.prog 58=none:=by kernel_rfl
@[simp] theorem zvR:scalar Try.prog 58=true:=by kernel_rfl
@[simp] theorem zu5:zaB Try.prog 58=some 1:=by kernel_rfl
@[simp] theorem zu6:zaN Try.prog 66=none:=by kernel_rfl
@[simp] theorem zvS:scalar Try.prog 66=true:=by kernel_rfl
@[simp] theorem zu7:zaB Try.prog 66=some 1:=by kernel_rfl
@[simp] theorem zkb:isSlice Try.prog 66=true:=by kernel_rfl
@[simp] theorem zmf:zc1 Try.prog 66=some 22:=by kernel_rfl
@[simp] theorem zia:zaP Try.prog 66=some 1:=by kernel_rfl
@[simp] theorem zmg:zbU Try.prog 66=true:=by kernel_rfl
@[simp] theorem zu8:zaN Try.prog 68=none:=by kernel_rfl
@[simp] theorem zvT:scalar Try.prog 68=true:=by kernel_rfl
@[simp] theorem zu9:zaB Try.prog 68=some 1:=by kernel_rfl
@[simp] theorem zva:zaN Try.prog 70=none:=by kernel_rfl
@[simp] theorem zvU:scalar Try.prog 70=true:=by kernel_rfl
@[simp] theorem zvb:zaB Try.prog 70=some 1:=by kernel_rfl
@[simp] theorem zvc:intKind Try.prog 70=some .u64:=by kernel_rfl
@[simp] theorem zmh:zaN Try.prog 72=some 2:=by kernel_rfl
@[simp] theorem zmi:zaB Try.prog 72=some 2:=by kernel_rfl
@[simp] theorem zti:places Try.prog 72=some [(0,1),(1,1)]:=by kernel_rfl
@[simp] theorem zi5:zfQ Try.prog 72=some [AV.v (.int .u64 0),AV.sl .nil 0 []]:=by kernel_rfl
@[simp] theorem zvd:zaN Try.prog 75=none:=by kernel_rfl
@[simp] theorem zvV:scalar Try.prog 75=true:=by kernel_rfl
@[simp] theorem zve:zaB Try.prog 75=some 1:=by kernel_rfl
@[simp] theorem zvf:zaN Try.prog 77=none:=by kernel_rfl
@[simp] theorem zvW:scalar Try.prog 77=true:=by kernel_rfl
@[simp] theorem zvg:zaB Try.prog 77=some 1:=by kernel_rfl
@[simp] theorem zrZ:zaN Try.prog 80=none:=by kernel_rfl
@[simp] theorem ztj:scalar Try.prog 80=true:=by kernel_rfl
@[simp] theorem zvh:zaB Try.prog 80=some 1:=by kernel_rfl
@[simp] theorem zvi:zaN Try.prog 87=some 5:=by kernel_rfl
@[simp] theorem zvj:zaB Try.prog 87=some 5:=by kernel_rfl
@[simp] theorem zuf:zdZ Try.prog 87=some 5:=by kernel_rfl
@[simp] theorem zg1:zlO Try.prog 87=some (5,1):=by kernel_rfl
@[simp] theorem zvk:zns Try.prog 87=some (5,3,1):=by kernel_rfl
@[simp] theorem zvX:places Try.prog 87=some [(0,1),(1,1),(2,1),(3,1),(4,1)]:=by kernel_rfl
@[simp] theorem zmj:zaN Try.prog 89=some 10:=by kernel_rfl
@[simp] theorem zoB:zaB Try.prog 89=some 10:=by kernel_rfl
@[simp] theorem zvY:places Try.prog 89=some [(0,5),(5,5)]:=by kernel_rfl
@[simp] theorem zug:zdZ Try.prog 89=some 10:=by kernel_rfl
@[simp] theorem zkM:zfQ Try.prog 89=some [AV.v (.int .i64 0),AV.v (.int .i64 0),AV.v (.int .i64 0),AV.v (.int .i64 0),AV.v (.int .i64 0),AV.v (.int .i64 0),AV.v (.int .i64 0),AV.v (.int .i64 0),AV.v (.int .i64 0),AV.v (.int .i64 0)]:=by kernel_rfl
@[simp] theorem zvl:zaN Try.prog 94=none:=by kernel_rfl
@[simp] theorem zvZ:scalar Try.prog 94=true:=by kernel_rfl
@[simp] theorem zvm:zaB Try.prog 94=some 1:=by kernel_rfl
@[simp] theorem zoC:isSlice Try.prog 94=true:=by kernel_rfl
@[simp] theorem zqD:zc1 Try.prog 94=some 98:=by kernel_rfl
@[simp] theorem zkN:zaP Try.prog 94=some 2:=by kernel_rfl
@[simp] theorem zqE:zbU Try.prog 94=true:=by kernel_rfl
@[simp] theorem zvn:zaN Try.prog 98=some 2:=by kernel_rfl
@[simp] theorem zvo:zaB Try.prog 98=some 2:=by kernel_rfl
@[simp] theorem ztk:places Try.prog 98=some [(0,1),(1,1)]:=by kernel_rfl
@[simp] theorem zqF:zfQ Try.prog 98=some [AV.sl .nil 0 [],AV.sl .nil 0 []]:=by kernel_rfl
@[simp] theorem zuh:zaN Try.prog 102=none:=by kernel_rfl
@[simp] theorem zvp:scalar Try.prog 102=true:=by kernel_rfl
@[simp] theorem zui:zaB Try.prog 102=some 1:=by kernel_rfl
@[simp] theorem zqG:zaN Try.prog 103=some 3:=by kernel_rfl
@[simp] theorem zqH:zaB Try.prog 103=some 3:=by kernel_rfl
@[simp] theorem zg2:places Try.prog 103=some [(0,1),(1,1),(2,1)]:=by kernel_rfl
@[simp] theorem ztL:zdZ Try.prog 103=some 3:=by kernel_rfl
@[simp] theorem zeA:zfQ Try.prog 103=some [AV.v (.int .i64 0),AV.v (.int .i64 0),AV.v (.int .i64 0)]:=by kernel_rfl
@[simp] theorem zuj:zaN Try.prog 104=some 24:=by kernel_rfl
@[simp] theorem zuk:zaB Try.prog 104=some 24:=by kernel_rfl
@[simp] theorem ztM:zdZ Try.prog 104=some 24:=by kernel_rfl
@[simp] theorem zul:zlO Try.prog 104=some (8,3):=by kernel_rfl
@[simp] theorem zqI:zns Try.prog 104=some (8,103,3):=by kernel_rfl
@[simp] theorem zr0:places Try.prog 104=some [(0,3),(3,3),(6,3),(9,3),(12,3),(15,3),(18,3),(21,3)]:=by kernel_rfl
@[simp] theorem zpk:zfQ Try.prog 104=some [AV.v (.int .i64 0),AV.v (.int .i64 0),AV.v (.int .i64 0),AV.v (.int .i64 0),AV.v (.int .i64 0),AV.v (.int .i64 0),AV.v (.int .i64 0),AV.v (.int .i64 0),AV.v (.int .i64 0),AV.v (.int .i64 0),AV.v (.int .i64 0),AV.v (.int .i64 0),AV.v (.int .i64 0),AV.v (.int .i64 0),AV.v (.int .i64 0),AV.v (.int .i64 0),AV.v (.int .i64 0),AV.v (.int .i64 0),AV.v (.int .i64 0),AV.v (.int .i64 0),AV.v (.int .i64 0),AV.v (.int .i64 0),AV.v (.int .i64 0),AV.v (.int .i64 0)]:=by kernel_rfl
@[simp] theorem zum:zaN Try.prog 105=none:=by kernel_rfl
@[simp] theorem zvq:scalar Try.prog 105=true:=by kernel_rfl
@[simp] theorem zun:zaB Try.prog 105=some 1:=by kernel_rfl
@[simp] theorem zqJ:zaN Try.prog 106=none:=by kernel_rfl
@[simp] theorem zr1:scalar Try.prog 106=true:=by kernel_rfl
@[simp] theorem zuo:zaB Try.prog 106=some 1:=by kernel_rfl
@[simp] theorem zup:zaN Try.prog 110=none:=by kernel_rfl
@[simp] theorem zvr:scalar Try.prog 110=true:=by kernel_rfl
@[simp] theorem zuq:zaB Try.prog 110=some 1:=by kernel_rfl
@[simp] theorem zqK:zaN Try.prog 112=some 3:=by kernel_rfl
@[simp] theorem zur:zaB Try.prog 112=some 3:=by kernel_rfl
@[simp] theorem zvs:places Try.prog 112=some [(0,1),(1,1),(2,1)]:=by kernel_rfl
@[simp] theorem ztN:zdZ Try.prog 112=some 3:=by kernel_rfl
@[simp] theorem zus:zaN Try.prog 113=none:=by kernel_rfl
@[simp] theorem zvt:scalar Try.prog 113=true:=by kernel_rfl
@[simp] theorem zut:zaB Try.prog 113=some 1:=by kernel_rfl
@[simp] theorem zuu:zaN Try.prog 116=some 5:=by kernel_rfl
@[simp] theorem zuv:zaB Try.prog 116=some 5:=by kernel_rfl
@[simp] theorem zr2:places Try.prog 116=some [(0,4),(4,1)]:=by kernel_rfl
@[simp] theorem zpl:zfQ Try.prog 116=some [AV.v (.int .i64 0),AV.v (.int .i64 0),AV.sl .nil 0 [],AV.v (.int .i64 0),AV.sl .nil 0 []]:=by kernel_rfl
@[simp] theorem zuw:zaN Try.prog 117=some 4:=by kernel_rfl
@[simp] theorem zux:zaB Try.prog 117=some 4:=by kernel_rfl
@[simp] theorem ztO:zdZ Try.prog 117=some 4:=by kernel_rfl
@[simp] theorem zuy:zlO Try.prog 117=some (4,1):=by kernel_rfl
@[simp] theorem zqL:zns Try.prog 117=some (4,3,1):=by kernel_rfl
@[simp] theorem zr3:places Try.prog 117=some [(0,1),(1,1),(2,1),(3,1)]:=by kernel_rfl
@[simp] theorem zpm:zfQ Try.prog 117=some [AV.v (.int .i64 0),AV.v (.int .i64 0),AV.v (.int .i64 0),AV.v (.int .i64 0)]:=by kernel_rfl
@[simp] theorem zuz:zaN Try.prog 120=none:=by kernel_rfl
@[simp] theorem zvu:scalar Try.prog 120=true:=by kernel_rfl
@[simp] theorem zuA:zaB Try.prog 120=some 1:=by kernel_rfl
@[simp] theorem zuB:zaN Try.prog 121=none:=by kernel_rfl
@[simp] theorem zvv:scalar Try.prog 121=true:=by kernel_rfl
@[simp] theorem zuC:zaB Try.prog 121=some 1:=by kernel_rfl
@[simp] theorem zuD:zaN Try.prog 122=none:=by kernel_rfl
@[simp] theorem zvw:scalar Try.prog 122=true:=by kernel_rfl
@[simp] theorem zuE:zaB Try.prog 122=some 1:=by kernel_rfl
@[simp] theorem zuF:zaN Try.prog 126=some 2:=by kernel_rfl
@[simp] theorem zm4:zaB Try.prog 126=some 2:=by kernel_rfl
@[simp] theorem zoD:places Try.prog 126=some [(0,1),(1,1)]:=by kernel_rfl
@[simp] theorem ztP:zdZ Try.prog 126=some 2:=by kernel_rfl
@[simp] theorem zjv:zfQ Try.prog 126=some [AV.v (.int .i64 0),AV.v (.int .i64 0)]:=by kernel_rfl
@[simp] theorem zfo:zaT Try.prog 24 0=some 0:=by kernel_rfl
@[simp] theorem zcu:zaT Try.prog 24 1=some 1:=by kernel_rfl
@[simp] theorem zdw:zaT Try.prog 24 2=some 2:=by kernel_rfl
@[simp] theorem zeJ:zaT Try.prog 24 3=some 3:=by kernel_rfl
@[simp] theorem zgK:zaT Try.prog 24 4=some 4:=by kernel_rfl
@[simp] theorem zeK:zaT Try.prog 24 5=some 5:=by kernel_rfl
@[simp] theorem zgL:zaT Try.prog 24 6=some 6:=by kernel_rfl
@[simp] theorem zcV:zaT Try.prog 24 7=some 7:=by kernel_rfl
@[simp] theorem zem:zaT Try.prog 33 0=some 0:=by kernel_rfl
@[simp] theorem zcF:zaT Try.prog 33 1=some 1:=by kernel_rfl
@[simp] theorem zdh:zaT Try.prog 33 2=some 2:=by kernel_rfl
@[simp] theorem zqM:zaT Try.prog 42 0=some 0:=by kernel_rfl
@[simp] theorem zqN:zaT Try.prog 42 1=some 1:=by kernel_rfl
@[simp] theorem zcW:zaT Try.prog 51 0=some 0:=by kernel_rfl
@[simp] theorem zgM:zaT Try.prog 56 0=some 0:=by kernel_rfl
@[simp] theorem zfp:zaT Try.prog 56 1=some 1:=by kernel_rfl
@[simp] theorem zkO:zaT Try.prog 56 2=some 2:=by kernel_rfl
@[simp] theorem zqO:zaT Try.prog 56 3=some 3:=by kernel_rfl
@[simp] theorem zkP:zaT Try.prog 72 1=some 1:=by kernel_rfl
@[simp] theorem zi6:zaT Try.prog 89 0=some 0:=by kernel_rfl
@[simp] theorem zi7:zaT Try.prog 89 1=some 5:=by kernel_rfl
@[simp] theorem zkQ:zaT Try.prog 98 1=some 1:=by kernel_rfl
@[simp] theorem zpn:zaT Try.prog 103 0=some 0:=by kernel_rfl
@[simp] theorem zpo:zaT Try.prog 103 1=some 1:=by kernel_rfl
@[simp] theorem zpp:zaT Try.prog 103 2=some 2:=by kernel_rfl
@[simp] theorem zlE:zaT Try.prog 112 0=some 0:=by kernel_rfl
@[simp] theorem zlF:zaT Try.prog 112 1=some 1:=by kernel_rfl
@[simp] theorem zlG:zaT Try.prog 112 2=some 2:=by kernel_rfl
@[simp] theorem zpq:zaT Try.prog 116 0=some 0:=by kernel_rfl
@[simp] theorem zhf:zaT Try.prog 116 1=some 4:=by kernel_rfl
@[simp] theorem zio:zaT Try.prog 126 0=some 0:=by kernel_rfl
@[simp] theorem zfB:zaT Try.prog 126 1=some 1:=by kernel_rfl
end Go.Proofs.Ytebfppngmmdfkaa
