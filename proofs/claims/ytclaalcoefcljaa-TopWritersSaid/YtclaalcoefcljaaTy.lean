/-
  What the abstract machine's runs want to know of this program's types.
  Conditions: none.
-/
import Derived.Test.YtclaalcoefcljaaAmPc
import Derived.Test.YtclaalcoefcljaaChecked
set_option linter.all false
namespace Go.Proofs.Ytclaalcoefcljaa
open Go Go.AM
theorem mixed:Try.prog.follows .mixedOrders=true:=Try.checked.mixed
@[simp] theorem zai:zaw Try.prog 3=none:=by kernel_rfl
@[simp] theorem zas:scalar Try.prog 3=true:=by kernel_rfl
@[simp] theorem zdO:zam Try.prog 3=some 1:=by kernel_rfl
@[simp] theorem zgm:zda Try.prog 3=some [AV.v (.int .i64 0)]:=by kernel_rfl
@[simp] theorem ztl:intKind Try.prog 3=some .i64:=by kernel_rfl
@[simp] theorem znd:zaw Try.prog 4=none:=by kernel_rfl
@[simp] theorem zoN:scalar Try.prog 4=true:=by kernel_rfl
@[simp] theorem zne:zam Try.prog 4=some 1:=by kernel_rfl
@[simp] theorem zlg:zda Try.prog 4=some [AV.v (.bool false)]:=by kernel_rfl
@[simp] theorem zoa:isBool Try.prog 4=true:=by kernel_rfl
@[simp] theorem zcv:zaw Try.prog 22=none:=by kernel_rfl
@[simp] theorem zc3:scalar Try.prog 22=true:=by kernel_rfl
@[simp] theorem zob:zam Try.prog 22=some 1:=by kernel_rfl
@[simp] theorem zc9:isSlice Try.prog 22=true:=by kernel_rfl
@[simp] theorem znf:zb5 Try.prog 22=some 75:=by kernel_rfl
@[simp] theorem zgQ:zaD Try.prog 22=some 2:=by kernel_rfl
@[simp] theorem zng:za3 Try.prog 22=true:=by kernel_rfl
@[simp] theorem zcJ:zaw Try.prog 23=none:=by kernel_rfl
@[simp] theorem zdq:scalar Try.prog 23=true:=by kernel_rfl
@[simp] theorem zlh:zam Try.prog 23=some 1:=by kernel_rfl
@[simp] theorem zee:isSlice Try.prog 23=true:=by kernel_rfl
@[simp] theorem zjv:zb5 Try.prog 23=some 55:=by kernel_rfl
@[simp] theorem zdP:zaD Try.prog 23=some 2:=by kernel_rfl
@[simp] theorem zjw:za3 Try.prog 23=true:=by kernel_rfl
@[simp] theorem zdr:zaw Try.prog 25=some 5:=by kernel_rfl
@[simp] theorem zli:zam Try.prog 25=some 5:=by kernel_rfl
@[simp] theorem ztm:places Try.prog 25=some [(0,1),(1,1),(2,1),(3,1),(4,1)]:=by kernel_rfl
@[simp] theorem zj7:zda Try.prog 25=some [AV.sl .nil 0 [],AV.v (.int .i64 0),AV.v (.int .i64 0),AV.v (.int .i64 0),AV.sl .nil 0 []]:=by kernel_rfl
@[simp] theorem zef:zaw Try.prog 26=none:=by kernel_rfl
@[simp] theorem zeM:scalar Try.prog 26=true:=by kernel_rfl
@[simp] theorem zoc:zam Try.prog 26=some 1:=by kernel_rfl
@[simp] theorem zqq:zda Try.prog 26=some [AV.sl .nil 0 []]:=by kernel_rfl
@[simp] theorem zcK:isSlice Try.prog 26=true:=by kernel_rfl
@[simp] theorem zf3:zb5 Try.prog 26=some 3:=by kernel_rfl
@[simp] theorem zaV:zaD Try.prog 26=some 1:=by kernel_rfl
@[simp] theorem zf4:za3 Try.prog 26=true:=by kernel_rfl
@[simp] theorem zr7:zaw Try.prog 28=none:=by kernel_rfl
@[simp] theorem ztn:scalar Try.prog 28=true:=by kernel_rfl
@[simp] theorem zr8:zam Try.prog 28=some 1:=by kernel_rfl
@[simp] theorem zr9:intKind Try.prog 28=some .i64:=by kernel_rfl
@[simp] theorem zsa:zaw Try.prog 30=none:=by kernel_rfl
@[simp] theorem zto:scalar Try.prog 30=true:=by kernel_rfl
@[simp] theorem zsb:zam Try.prog 30=some 1:=by kernel_rfl
@[simp] theorem zhU:zaw Try.prog 33=none:=by kernel_rfl
@[simp] theorem zjx:scalar Try.prog 33=true:=by kernel_rfl
@[simp] theorem zod:zam Try.prog 33=some 1:=by kernel_rfl
@[simp] theorem zjy:isSlice Try.prog 33=true:=by kernel_rfl
@[simp] theorem zkK:zb5 Try.prog 33=some 40:=by kernel_rfl
@[simp] theorem ziq:zaD Try.prog 33=some 2:=by kernel_rfl
@[simp] theorem zkL:za3 Try.prog 33=true:=by kernel_rfl
@[simp] theorem zfE:zaw Try.prog 35=some 3:=by kernel_rfl
@[simp] theorem zlj:zam Try.prog 35=some 3:=by kernel_rfl
@[simp] theorem znh:places Try.prog 35=some [(0,1),(1,1),(2,1)]:=by kernel_rfl
@[simp] theorem zhc:zda Try.prog 35=some [AV.v (.int .i64 0),AV.sl .nil 0 [],AV.sl .nil 0 []]:=by kernel_rfl
@[simp] theorem zlk:zaw Try.prog 37=some 2:=by kernel_rfl
@[simp] theorem zll:zam Try.prog 37=some 2:=by kernel_rfl
@[simp] theorem zir:places Try.prog 37=some [(0,1),(1,1)]:=by kernel_rfl
@[simp] theorem zqr:zcU Try.prog 37=some 2:=by kernel_rfl
@[simp] theorem ze3:zda Try.prog 37=some [AV.v (.int .i64 0),AV.v (.int .i64 0)]:=by kernel_rfl
@[simp] theorem zlm:zaw Try.prog 38=none:=by kernel_rfl
@[simp] theorem zni:scalar Try.prog 38=true:=by kernel_rfl
@[simp] theorem zsc:zam Try.prog 38=some 1:=by kernel_rfl
@[simp] theorem zln:isSlice Try.prog 38=true:=by kernel_rfl
@[simp] theorem zkM:zb5 Try.prog 38=some 37:=by kernel_rfl
@[simp] theorem zis:zaD Try.prog 38=some 2:=by kernel_rfl
@[simp] theorem zkN:za3 Try.prog 38=true:=by kernel_rfl
@[simp] theorem zlo:zaw Try.prog 40=some 2:=by kernel_rfl
@[simp] theorem zlp:zam Try.prog 40=some 2:=by kernel_rfl
@[simp] theorem zkO:places Try.prog 40=some [(0,1),(1,1)]:=by kernel_rfl
@[simp] theorem zf5:zda Try.prog 40=some [AV.v (.int .i64 0),AV.sl .nil 0 []]:=by kernel_rfl
@[simp] theorem zsd:zaw Try.prog 46=none:=by kernel_rfl
@[simp] theorem ztp:scalar Try.prog 46=true:=by kernel_rfl
@[simp] theorem zse:zam Try.prog 46=some 1:=by kernel_rfl
@[simp] theorem zsf:isSlice Try.prog 46=true:=by kernel_rfl
@[simp] theorem ztq:zb5 Try.prog 46=some 52:=by kernel_rfl
@[simp] theorem ztr:zaD Try.prog 46=some 3:=by kernel_rfl
@[simp] theorem zts:za3 Try.prog 46=true:=by kernel_rfl
@[simp] theorem zsg:zaw Try.prog 47=none:=by kernel_rfl
@[simp] theorem ztt:scalar Try.prog 47=true:=by kernel_rfl
@[simp] theorem zsh:zam Try.prog 47=some 1:=by kernel_rfl
@[simp] theorem zsi:isSlice Try.prog 47=true:=by kernel_rfl
@[simp] theorem ztu:zb5 Try.prog 47=some 116:=by kernel_rfl
@[simp] theorem ztv:zaD Try.prog 47=some 3:=by kernel_rfl
@[simp] theorem ztw:za3 Try.prog 47=true:=by kernel_rfl
@[simp] theorem zsj:zaw Try.prog 49=some 4:=by kernel_rfl
@[simp] theorem zsk:zam Try.prog 49=some 4:=by kernel_rfl
@[simp] theorem ztx:places Try.prog 49=some [(0,1),(1,1),(2,1),(3,1)]:=by kernel_rfl
@[simp] theorem zqs:zda Try.prog 49=some [AV.v (.int .i64 0),AV.v (.int .i64 0),AV.sl .nil 0 [],AV.v (.int .i64 0)]:=by kernel_rfl
@[simp] theorem zsl:zaw Try.prog 52=some 3:=by kernel_rfl
@[simp] theorem zsm:zam Try.prog 52=some 3:=by kernel_rfl
@[simp] theorem zty:places Try.prog 52=some [(0,1),(1,1),(2,1)]:=by kernel_rfl
@[simp] theorem zqt:zcU Try.prog 52=some 3:=by kernel_rfl
@[simp] theorem zqu:zda Try.prog 52=some [AV.v (.int .i64 0),AV.v (.int .i64 0),AV.v (.int .i64 0)]:=by kernel_rfl
@[simp] theorem zhd:zaw Try.prog 55=some 2:=by kernel_rfl
@[simp] theorem zjz:zam Try.prog 55=some 2:=by kernel_rfl
@[simp] theorem ztz:places Try.prog 55=some [(0,1),(1,1)]:=by kernel_rfl
@[simp] theorem zqv:zcU Try.prog 55=some 2:=by kernel_rfl
@[simp] theorem znj:zda Try.prog 55=some [AV.v (.int .i64 0),AV.v (.int .i64 0)]:=by kernel_rfl
@[simp] theorem zlq:zaw Try.prog 59=none:=by kernel_rfl
@[simp] theorem znk:scalar Try.prog 59=true:=by kernel_rfl
@[simp] theorem zoe:zam Try.prog 59=some 1:=by kernel_rfl
@[simp] theorem zlr:isSlice Try.prog 59=true:=by kernel_rfl
@[simp] theorem znl:zb5 Try.prog 59=some 71:=by kernel_rfl
@[simp] theorem zjA:zaD Try.prog 59=some 2:=by kernel_rfl
@[simp] theorem znm:za3 Try.prog 59=true:=by kernel_rfl
@[simp] theorem zsn:zaw Try.prog 65=some 8:=by kernel_rfl
@[simp] theorem zso:zam Try.prog 65=some 8:=by kernel_rfl
@[simp] theorem ztA:places Try.prog 65=some [(0,1),(1,1),(2,1),(3,1),(4,1),(5,1),(6,1),(7,1)]:=by kernel_rfl
@[simp] theorem zqw:zda Try.prog 65=some [AV.v (.int .i64 0),AV.v (.int .i64 0),AV.v (.int .i64 0),AV.v (.int .i64 0),AV.v (.int .i64 0),AV.v (.int .i64 0),AV.v (.int .i64 0),AV.sl .nil 0 []]:=by kernel_rfl
@[simp] theorem zsp:zaw Try.prog 71=some 2:=by kernel_rfl
@[simp] theorem zsq:zam Try.prog 71=some 2:=by kernel_rfl
@[simp] theorem zpl:places Try.prog 71=some [(0,1),(1,1)]:=by kernel_rfl
@[simp] theorem zqx:zcU Try.prog 71=some 2:=by kernel_rfl
@[simp] theorem znn:zda Try.prog 71=some [AV.v (.int .i64 0),AV.v (.int .i64 0)]:=by kernel_rfl
@[simp] theorem zof:zaw Try.prog 75=some 2:=by kernel_rfl
@[simp] theorem zog:zam Try.prog 75=some 2:=by kernel_rfl
@[simp] theorem ztB:places Try.prog 75=some [(0,1),(1,1)]:=by kernel_rfl
@[simp] theorem zqy:zcU Try.prog 75=some 2:=by kernel_rfl
@[simp] theorem zno:zda Try.prog 75=some [AV.v (.int .i64 0),AV.v (.int .i64 0)]:=by kernel_rfl
@[simp] theorem zeR:zaw Try.prog 79=some 2:=by kernel_rfl
@[simp] theorem zgn:zam Try.prog 79=some 2:=by kernel_rfl
@[simp] theorem ztC:places Try.prog 79=some [(0,1),(1,1)]:=by kernel_rfl
@[simp] theorem zit:zda Try.prog 79=some [AV.sl .nil 0 [],AV.v (.int .i64 0)]:=by kernel_rfl
@[simp] theorem zsr:zaw Try.prog 88=none:=by kernel_rfl
@[simp] theorem ztD:scalar Try.prog 88=true:=by kernel_rfl
@[simp] theorem zss:zam Try.prog 88=some 1:=by kernel_rfl
@[simp] theorem zst:zaw Try.prog 94=some 5:=by kernel_rfl
@[simp] theorem zsu:zam Try.prog 94=some 5:=by kernel_rfl
@[simp] theorem zqz:zcU Try.prog 94=some 5:=by kernel_rfl
@[simp] theorem zsv:zkj Try.prog 94=some (5,1):=by kernel_rfl
@[simp] theorem zsw:zml Try.prog 94=some (5,3,1):=by kernel_rfl
@[simp] theorem ztE:places Try.prog 94=some [(0,1),(1,1),(2,1),(3,1),(4,1)]:=by kernel_rfl
@[simp] theorem zsx:zaw Try.prog 96=some 10:=by kernel_rfl
@[simp] theorem zsy:zam Try.prog 96=some 10:=by kernel_rfl
@[simp] theorem ztF:places Try.prog 96=some [(0,5),(5,5)]:=by kernel_rfl
@[simp] theorem zqA:zcU Try.prog 96=some 10:=by kernel_rfl
@[simp] theorem zqB:zda Try.prog 96=some [AV.v (.int .i64 0),AV.v (.int .i64 0),AV.v (.int .i64 0),AV.v (.int .i64 0),AV.v (.int .i64 0),AV.v (.int .i64 0),AV.v (.int .i64 0),AV.v (.int .i64 0),AV.v (.int .i64 0),AV.v (.int .i64 0)]:=by kernel_rfl
@[simp] theorem zoh:zaw Try.prog 98=none:=by kernel_rfl
@[simp] theorem zpm:scalar Try.prog 98=true:=by kernel_rfl
@[simp] theorem zoi:zam Try.prog 98=some 1:=by kernel_rfl
@[simp] theorem zsz:isSlice Try.prog 98=true:=by kernel_rfl
@[simp] theorem znp:zb5 Try.prog 98=some 160:=by kernel_rfl
@[simp] theorem znq:zaD Try.prog 98=some 4:=by kernel_rfl
@[simp] theorem znr:za3 Try.prog 98=true:=by kernel_rfl
@[simp] theorem zhe:zaw Try.prog 100=some 4:=by kernel_rfl
@[simp] theorem zj8:zam Try.prog 100=some 4:=by kernel_rfl
@[simp] theorem zsA:places Try.prog 100=some [(0,1),(1,1),(2,1),(3,1)]:=by kernel_rfl
@[simp] theorem zma:zda Try.prog 100=some [AV.sl .nil 0 [],AV.sl .nil 0 [],AV.v (.int .i64 0),AV.v (.int .i64 0)]:=by kernel_rfl
@[simp] theorem zqC:zaw Try.prog 106=none:=by kernel_rfl
@[simp] theorem zsB:scalar Try.prog 106=true:=by kernel_rfl
@[simp] theorem zqD:zam Try.prog 106=some 1:=by kernel_rfl
@[simp] theorem zqE:isSlice Try.prog 106=true:=by kernel_rfl
@[simp] theorem zsC:zb5 Try.prog 106=some 148:=by kernel_rfl
@[simp] theorem zsD:zaD Try.prog 106=some 2:=by kernel_rfl
@[simp] theorem zsE:za3 Try.prog 106=true:=by kernel_rfl
@[simp] theorem zqF:zaw Try.prog 109=none:=by kernel_rfl
@[simp] theorem zsF:scalar Try.prog 109=true:=by kernel_rfl
@[simp] theorem zqG:zam Try.prog 109=some 1:=by kernel_rfl
@[simp] theorem zqH:zaw Try.prog 111=none:=by kernel_rfl
@[simp] theorem zsG:scalar Try.prog 111=true:=by kernel_rfl
@[simp] theorem zqI:zam Try.prog 111=some 1:=by kernel_rfl
@[simp] theorem zqJ:zaw Try.prog 114=none:=by kernel_rfl
@[simp] theorem zsH:scalar Try.prog 114=true:=by kernel_rfl
@[simp] theorem zqK:zam Try.prog 114=some 1:=by kernel_rfl
@[simp] theorem zqL:zaw Try.prog 116=some 3:=by kernel_rfl
@[simp] theorem zqM:zam Try.prog 116=some 3:=by kernel_rfl
@[simp] theorem zsI:places Try.prog 116=some [(0,1),(1,1),(2,1)]:=by kernel_rfl
@[simp] theorem zpD:zcU Try.prog 116=some 3:=by kernel_rfl
@[simp] theorem zqN:zaw Try.prog 117=none:=by kernel_rfl
@[simp] theorem zsJ:scalar Try.prog 117=true:=by kernel_rfl
@[simp] theorem zqO:zam Try.prog 117=some 1:=by kernel_rfl
@[simp] theorem zqP:zaw Try.prog 120=some 5:=by kernel_rfl
@[simp] theorem zqQ:zam Try.prog 120=some 5:=by kernel_rfl
@[simp] theorem zsK:places Try.prog 120=some [(0,4),(4,1)]:=by kernel_rfl
@[simp] theorem zpE:zda Try.prog 120=some [AV.v (.int .i64 0),AV.v (.int .i64 0),AV.sl .nil 0 [],AV.v (.int .i64 0),AV.sl .nil 0 []]:=by kernel_rfl
@[simp] theorem zqR:zaw Try.prog 121=some 4:=by kernel_rfl
@[simp] theorem zqS:zam Try.prog 121=some 4:=by kernel_rfl
@[simp] theorem zpF:zcU Try.prog 121=some 4:=by kernel_rfl
@[simp] theorem zqT:zkj Try.prog 121=some (4,1):=by kernel_rfl
@[simp] theorem zqU:zml Try.prog 121=some (4,3,1):=by kernel_rfl
@[simp] theorem zsL:places Try.prog 121=some [(0,1),(1,1),(2,1),(3,1)]:=by kernel_rfl
@[simp] theorem zpG:zda Try.prog 121=some [AV.v (.int .i64 0),AV.v (.int .i64 0),AV.v (.int .i64 0),AV.v (.int .i64 0)]:=by kernel_rfl
@[simp] theorem zqV:zaw Try.prog 125=none:=by kernel_rfl
@[simp] theorem zsM:scalar Try.prog 125=true:=by kernel_rfl
@[simp] theorem zqW:zam Try.prog 125=some 1:=by kernel_rfl
@[simp] theorem zqX:zaw Try.prog 126=none:=by kernel_rfl
@[simp] theorem zsN:scalar Try.prog 126=true:=by kernel_rfl
@[simp] theorem zqY:zam Try.prog 126=some 1:=by kernel_rfl
@[simp] theorem zqZ:zaw Try.prog 127=none:=by kernel_rfl
@[simp] theorem zsO:scalar Try.prog 127=true:=by kernel_rfl
@[simp] theorem zq0:zam Try.prog 127=some 1:=by kernel_rfl
@[simp] theorem zq1:zaw Try.prog 128=none:=by kernel_rfl
@[simp] theorem zsP:scalar Try.prog 128=true:=by kernel_rfl
@[simp] theorem zq2:zam Try.prog 128=some 1:=by kernel_rfl
@[simp] theorem zhf:zaw Try.prog 130=none:=by kernel_rfl
@[simp] theorem zhV:scalar Try.prog 130=true:=by kernel_rfl
@[simp] theorem zq3:zam Try.prog 130=some 1:=by kernel_rfl
@[simp] theorem zns:isSlice Try.prog 130=true:=by kernel_rfl
@[simp] theorem zls:zb5 Try.prog 130=some 4:=by kernel_rfl
@[simp] theorem zgo:zaD Try.prog 130=some 1:=by kernel_rfl
@[simp] theorem zlt:za3 Try.prog 130=true:=by kernel_rfl
@[simp] theorem znt:zaw Try.prog 132=some 3:=by kernel_rfl
@[simp] theorem zq4:zam Try.prog 132=some 3:=by kernel_rfl
@[simp] theorem zlu:places Try.prog 132=some [(0,1),(1,1),(2,1)]:=by kernel_rfl
@[simp] theorem zpH:zcU Try.prog 132=some 3:=by kernel_rfl
@[simp] theorem zi2:zda Try.prog 132=some [AV.v (.int .i64 0),AV.v (.int .i64 0),AV.v (.int .i64 0)]:=by kernel_rfl
@[simp] theorem zq5:zaw Try.prog 134=some 15:=by kernel_rfl
@[simp] theorem zq6:zam Try.prog 134=some 15:=by kernel_rfl
@[simp] theorem zlv:places Try.prog 134=some [(0,5),(5,1),(6,1),(7,1),(8,3),(11,4)]:=by kernel_rfl
@[simp] theorem zi3:zda Try.prog 134=some [AV.sl .nil 0 [],AV.v (.int .i64 0),AV.v (.int .i64 0),AV.v (.int .i64 0),AV.sl .nil 0 [],AV.sl .nil 0 [],AV.sl .nil 0 [],AV.v (.int .i64 0),AV.v (.int .i64 0),AV.v (.int .i64 0),AV.v (.int .i64 0),AV.sl .nil 0 [],AV.sl .nil 0 [],AV.v (.int .i64 0),AV.v (.int .i64 0)]:=by kernel_rfl
@[simp] theorem zq7:zaw Try.prog 136=none:=by kernel_rfl
@[simp] theorem zsQ:scalar Try.prog 136=true:=by kernel_rfl
@[simp] theorem zq8:zam Try.prog 136=some 1:=by kernel_rfl
@[simp] theorem zq9:zaw Try.prog 141=some 8:=by kernel_rfl
@[simp] theorem zra:zam Try.prog 141=some 8:=by kernel_rfl
@[simp] theorem zsR:places Try.prog 141=some [(0,8)]:=by kernel_rfl
@[simp] theorem zpI:zda Try.prog 141=some [AV.v (.int .i64 0),AV.v (.int .i64 0),AV.v (.int .i64 0),AV.v (.int .i64 0),AV.v (.int .i64 0),AV.v (.int .i64 0),AV.v (.int .i64 0),AV.sl .nil 0 []]:=by kernel_rfl
@[simp] theorem zrb:zaw Try.prog 143=none:=by kernel_rfl
@[simp] theorem zsS:scalar Try.prog 143=true:=by kernel_rfl
@[simp] theorem zrc:zam Try.prog 143=some 1:=by kernel_rfl
@[simp] theorem zrd:zaw Try.prog 145=none:=by kernel_rfl
@[simp] theorem zsT:scalar Try.prog 145=true:=by kernel_rfl
@[simp] theorem zre:zam Try.prog 145=some 1:=by kernel_rfl
@[simp] theorem zrf:intKind Try.prog 145=some .u64:=by kernel_rfl
@[simp] theorem zrg:zaw Try.prog 146=none:=by kernel_rfl
@[simp] theorem zsU:scalar Try.prog 146=true:=by kernel_rfl
@[simp] theorem zrh:zam Try.prog 146=some 1:=by kernel_rfl
@[simp] theorem zri:intKind Try.prog 146=some .u64:=by kernel_rfl
@[simp] theorem zrj:zaw Try.prog 148=some 2:=by kernel_rfl
@[simp] theorem zrk:zam Try.prog 148=some 2:=by kernel_rfl
@[simp] theorem zsV:places Try.prog 148=some [(0,1),(1,1)]:=by kernel_rfl
@[simp] theorem zpJ:zda Try.prog 148=some [AV.v (.int .u64 0),AV.sl .nil 0 []]:=by kernel_rfl
@[simp] theorem zrl:zaw Try.prog 149=none:=by kernel_rfl
@[simp] theorem zsW:scalar Try.prog 149=true:=by kernel_rfl
@[simp] theorem zrm:zam Try.prog 149=some 1:=by kernel_rfl
@[simp] theorem zrn:zaw Try.prog 151=none:=by kernel_rfl
@[simp] theorem zsX:scalar Try.prog 151=true:=by kernel_rfl
@[simp] theorem zro:zam Try.prog 151=some 1:=by kernel_rfl
@[simp] theorem zrp:isSlice Try.prog 151=true:=by kernel_rfl
@[simp] theorem zsY:zb5 Try.prog 151=some 26:=by kernel_rfl
@[simp] theorem zsZ:zaD Try.prog 151=some 1:=by kernel_rfl
@[simp] theorem zs0:za3 Try.prog 151=true:=by kernel_rfl
@[simp] theorem zrq:zaw Try.prog 160=some 4:=by kernel_rfl
@[simp] theorem zrr:zam Try.prog 160=some 4:=by kernel_rfl
@[simp] theorem zoj:places Try.prog 160=some [(0,3),(3,1)]:=by kernel_rfl
@[simp] theorem zpK:zcU Try.prog 160=some 4:=by kernel_rfl
@[simp] theorem zmb:zda Try.prog 160=some [AV.v (.int .i64 0),AV.v (.int .i64 0),AV.v (.int .i64 0),AV.v (.int .i64 0)]:=by kernel_rfl
@[simp] theorem zrs:zaw Try.prog 163=some 3:=by kernel_rfl
@[simp] theorem zrt:zam Try.prog 163=some 3:=by kernel_rfl
@[simp] theorem zs1:places Try.prog 163=some [(0,1),(1,1),(2,1)]:=by kernel_rfl
@[simp] theorem zpL:zcU Try.prog 163=some 3:=by kernel_rfl
@[simp] theorem zpM:zda Try.prog 163=some [AV.v (.int .i64 0),AV.v (.int .i64 0),AV.v (.int .i64 0)]:=by kernel_rfl
@[simp] theorem zru:zaw Try.prog 164=some 24:=by kernel_rfl
@[simp] theorem zrv:zam Try.prog 164=some 24:=by kernel_rfl
@[simp] theorem zpN:zcU Try.prog 164=some 24:=by kernel_rfl
@[simp] theorem zrw:zkj Try.prog 164=some (8,3):=by kernel_rfl
@[simp] theorem zrx:zml Try.prog 164=some (8,163,3):=by kernel_rfl
@[simp] theorem zs2:places Try.prog 164=some [(0,3),(3,3),(6,3),(9,3),(12,3),(15,3),(18,3),(21,3)]:=by kernel_rfl
@[simp] theorem zpO:zda Try.prog 164=some [AV.v (.int .i64 0),AV.v (.int .i64 0),AV.v (.int .i64 0),AV.v (.int .i64 0),AV.v (.int .i64 0),AV.v (.int .i64 0),AV.v (.int .i64 0),AV.v (.int .i64 0),AV.v (.int .i64 0),AV.v (.int .i64 0),AV.v (.int .i64 0),AV.v (.int .i64 0),AV.v (.int .i64 0),AV.v (.int .i64 0),AV.v (.int .i64 0),AV.v (.int .i64 0),AV.v (.int .i64 0),AV.v (.int .i64 0),AV.v (.int .i64 0),AV.v (.int .i64 0),AV.v (.int .i64 0),AV.v (.int .i64 0),AV.v (.int .i64 0),AV.v (.int .i64 0)]:=by kernel_rfl
@[simp] theorem zry:zaw Try.prog 166=none:=by kernel_rfl
@[simp] theorem zs3:scalar Try.prog 166=true:=by kernel_rfl
@[simp] theorem zrz:zam Try.prog 166=some 1:=by kernel_rfl
@[simp] theorem zrA:zaw Try.prog 167=none:=by kernel_rfl
@[simp] theorem zs4:scalar Try.prog 167=true:=by kernel_rfl
@[simp] theorem zrB:zam Try.prog 167=some 1:=by kernel_rfl
@[simp] theorem zrC:zaw Try.prog 170=none:=by kernel_rfl
@[simp] theorem zs5:scalar Try.prog 170=true:=by kernel_rfl
@[simp] theorem zrD:zam Try.prog 170=some 1:=by kernel_rfl
@[simp] theorem zrE:zaw Try.prog 172=none:=by kernel_rfl
@[simp] theorem zs6:scalar Try.prog 172=true:=by kernel_rfl
@[simp] theorem zrF:zam Try.prog 172=some 1:=by kernel_rfl
@[simp] theorem zrG:zaw Try.prog 179=some 2:=by kernel_rfl
@[simp] theorem zrH:zam Try.prog 179=some 2:=by kernel_rfl
@[simp] theorem zs7:places Try.prog 179=some [(0,1),(1,1)]:=by kernel_rfl
@[simp] theorem zpP:zcU Try.prog 179=some 2:=by kernel_rfl
@[simp] theorem zpQ:zda Try.prog 179=some [AV.v (.int .i64 0),AV.v (.int .i64 0)]:=by kernel_rfl
@[simp] theorem zmc:fieldType Try.prog 100 1=some (1,59):=by kernel_rfl
@[simp] theorem zbK:zao Try.prog 25 0=some 0:=by kernel_rfl
@[simp] theorem zf6:zao Try.prog 25 1=some 1:=by kernel_rfl
@[simp] theorem zfp:zao Try.prog 25 2=some 2:=by kernel_rfl
@[simp] theorem ze4:zao Try.prog 25 3=some 3:=by kernel_rfl
@[simp] theorem zdu:zao Try.prog 25 4=some 4:=by kernel_rfl
@[simp] theorem ziu:zao Try.prog 35 0=some 0:=by kernel_rfl
@[simp] theorem zf7:zao Try.prog 35 1=some 1:=by kernel_rfl
@[simp] theorem zf8:zao Try.prog 35 2=some 2:=by kernel_rfl
@[simp] theorem zhg:zao Try.prog 37 0=some 0:=by kernel_rfl
@[simp] theorem ziv:zao Try.prog 37 1=some 1:=by kernel_rfl
@[simp] theorem ziw:zao Try.prog 40 0=some 0:=by kernel_rfl
@[simp] theorem zj9:zao Try.prog 40 1=some 1:=by kernel_rfl
@[simp] theorem zrI:zao Try.prog 49 0=some 0:=by kernel_rfl
@[simp] theorem zrJ:zao Try.prog 49 1=some 1:=by kernel_rfl
@[simp] theorem zrK:zao Try.prog 49 2=some 2:=by kernel_rfl
@[simp] theorem zrL:zao Try.prog 49 3=some 3:=by kernel_rfl
@[simp] theorem zrM:zao Try.prog 52 0=some 0:=by kernel_rfl
@[simp] theorem zrN:zao Try.prog 52 1=some 1:=by kernel_rfl
@[simp] theorem zrO:zao Try.prog 52 2=some 2:=by kernel_rfl
@[simp] theorem zix:zao Try.prog 55 0=some 0:=by kernel_rfl
@[simp] theorem zfq:zao Try.prog 55 1=some 1:=by kernel_rfl
@[simp] theorem zrP:zao Try.prog 65 0=some 0:=by kernel_rfl
@[simp] theorem zrQ:zao Try.prog 65 1=some 1:=by kernel_rfl
@[simp] theorem zrR:zao Try.prog 65 2=some 2:=by kernel_rfl
@[simp] theorem zrS:zao Try.prog 65 3=some 3:=by kernel_rfl
@[simp] theorem zrT:zao Try.prog 65 4=some 4:=by kernel_rfl
@[simp] theorem zrU:zao Try.prog 65 5=some 5:=by kernel_rfl
@[simp] theorem zrV:zao Try.prog 65 6=some 6:=by kernel_rfl
@[simp] theorem zrW:zao Try.prog 65 7=some 7:=by kernel_rfl
@[simp] theorem zka:zao Try.prog 71 0=some 0:=by kernel_rfl
@[simp] theorem zhh:zao Try.prog 75 0=some 0:=by kernel_rfl
@[simp] theorem zhi:zao Try.prog 75 1=some 1:=by kernel_rfl
@[simp] theorem zeH:zao Try.prog 79 0=some 0:=by kernel_rfl
@[simp] theorem ze5:zao Try.prog 79 1=some 1:=by kernel_rfl
@[simp] theorem zrX:zao Try.prog 96 0=some 0:=by kernel_rfl
@[simp] theorem zrY:zao Try.prog 96 1=some 5:=by kernel_rfl
@[simp] theorem zi4:zao Try.prog 100 0=some 0:=by kernel_rfl
@[simp] theorem zi5:zao Try.prog 100 1=some 1:=by kernel_rfl
@[simp] theorem zi6:zao Try.prog 100 2=some 2:=by kernel_rfl
@[simp] theorem zmd:zao Try.prog 100 3=some 3:=by kernel_rfl
@[simp] theorem zpR:zao Try.prog 116 0=some 0:=by kernel_rfl
@[simp] theorem zpS:zao Try.prog 116 1=some 1:=by kernel_rfl
@[simp] theorem zpT:zao Try.prog 116 2=some 2:=by kernel_rfl
@[simp] theorem zpU:zao Try.prog 120 0=some 0:=by kernel_rfl
@[simp] theorem zpV:zao Try.prog 120 1=some 4:=by kernel_rfl
@[simp] theorem zhz:zao Try.prog 132 0=some 0:=by kernel_rfl
@[simp] theorem zgp:zao Try.prog 132 1=some 1:=by kernel_rfl
@[simp] theorem zme:zao Try.prog 132 2=some 2:=by kernel_rfl
@[simp] theorem zhA:zao Try.prog 134 0=some 0:=by kernel_rfl
@[simp] theorem zdY:zao Try.prog 134 1=some 5:=by kernel_rfl
@[simp] theorem zgq:zao Try.prog 134 2=some 6:=by kernel_rfl
@[simp] theorem zdZ:zao Try.prog 134 3=some 7:=by kernel_rfl
@[simp] theorem zd0:zao Try.prog 134 4=some 8:=by kernel_rfl
@[simp] theorem zd1:zao Try.prog 134 5=some 11:=by kernel_rfl
@[simp] theorem zpW:zao Try.prog 141 0=some 0:=by kernel_rfl
@[simp] theorem zpX:zao Try.prog 148 1=some 1:=by kernel_rfl
@[simp] theorem zpY:zao Try.prog 163 0=some 0:=by kernel_rfl
@[simp] theorem zpZ:zao Try.prog 163 1=some 1:=by kernel_rfl
@[simp] theorem zp0:zao Try.prog 163 2=some 2:=by kernel_rfl
@[simp] theorem zp1:zao Try.prog 179 0=some 0:=by kernel_rfl
@[simp] theorem zp2:zao Try.prog 179 1=some 1:=by kernel_rfl
end Go.Proofs.Ytclaalcoefcljaa
