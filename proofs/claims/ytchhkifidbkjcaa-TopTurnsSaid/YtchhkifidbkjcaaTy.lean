/-
  What the abstract machine's runs want to know of this program's types.
  Conditions: none.
-/
import Derived.Test.YtchhkifidbkjcaaAmPh
import Derived.Test.YtchhkifidbkjcaaChecked
set_option linter.all false
namespace Go.Proofs.Ytchhkifidbkjcaa
open Go Go.AM
theorem mixed:Try.prog.follows .mixedOrders=true:=Try.checked.mixed
@[simp] theorem zaf:zax Try.prog 3=none:=by kernel_rfl
@[simp] theorem zal:scalar Try.prog 3=true:=by kernel_rfl
@[simp] theorem zdV:zar Try.prog 3=some 1:=by kernel_rfl
@[simp] theorem ztT:zdK Try.prog 3=some [AV.v (.int .i64 0)]:=by kernel_rfl
@[simp] theorem zym:intKind Try.prog 3=some .i64:=by kernel_rfl
@[simp] theorem zvi:zax Try.prog 4=none:=by kernel_rfl
@[simp] theorem zwB:scalar Try.prog 4=true:=by kernel_rfl
@[simp] theorem zsd:zar Try.prog 4=some 1:=by kernel_rfl
@[simp] theorem ztU:zdK Try.prog 4=some [AV.v (.bool false)]:=by kernel_rfl
@[simp] theorem zxq:isBool Try.prog 4=true:=by kernel_rfl
@[simp] theorem zyn:zax Try.prog 5=none:=by kernel_rfl
@[simp] theorem zyH:scalar Try.prog 5=true:=by kernel_rfl
@[simp] theorem zyo:zar Try.prog 5=some 1:=by kernel_rfl
@[simp] theorem zyp:intKind Try.prog 5=some .u8:=by kernel_rfl
@[simp] theorem zaI:zax Try.prog 22=none:=by kernel_rfl
@[simp] theorem zaU:scalar Try.prog 22=true:=by kernel_rfl
@[simp] theorem ztV:zar Try.prog 22=some 1:=by kernel_rfl
@[simp] theorem zaQ:isSlice Try.prog 22=true:=by kernel_rfl
@[simp] theorem zdp:zcy Try.prog 22=some 3:=by kernel_rfl
@[simp] theorem zaP:zaF Try.prog 22=some 1:=by kernel_rfl
@[simp] theorem zcZ:za6 Try.prog 22=true:=by kernel_rfl
@[simp] theorem zdq:zax Try.prog 24=some 3:=by kernel_rfl
@[simp] theorem ztW:zar Try.prog 24=some 3:=by kernel_rfl
@[simp] theorem zvj:places Try.prog 24=some [(0,1),(1,1),(2,1)]:=by kernel_rfl
@[simp] theorem znD:zdK Try.prog 24=some [AV.v (.int .i64 0),AV.sl .nil 0 [],AV.sl .nil 0 []]:=by kernel_rfl
@[simp] theorem zxr:zax Try.prog 26=some 3:=by kernel_rfl
@[simp] theorem zxs:zar Try.prog 26=some 3:=by kernel_rfl
@[simp] theorem zyq:places Try.prog 26=some [(0,1),(1,1),(2,1)]:=by kernel_rfl
@[simp] theorem zwC:zey Try.prog 26=some 3:=by kernel_rfl
@[simp] theorem zxt:zax Try.prog 27=none:=by kernel_rfl
@[simp] theorem zyr:scalar Try.prog 27=true:=by kernel_rfl
@[simp] theorem zxu:zar Try.prog 27=some 1:=by kernel_rfl
@[simp] theorem zxv:intKind Try.prog 27=some .i64:=by kernel_rfl
@[simp] theorem zmF:zax Try.prog 35=some 4:=by kernel_rfl
@[simp] theorem zmG:zar Try.prog 35=some 4:=by kernel_rfl
@[simp] theorem zvk:places Try.prog 35=some [(0,1),(1,1),(2,1),(3,1)]:=by kernel_rfl
@[simp] theorem ziP:zdK Try.prog 35=some [AV.v (.int .i64 0),AV.v (.int .i64 0),AV.v (.int .i64 0),AV.sl .nil 0 []]:=by kernel_rfl
@[simp] theorem ziQ:zax Try.prog 36=none:=by kernel_rfl
@[simp] theorem zkP:scalar Try.prog 36=true:=by kernel_rfl
@[simp] theorem zxw:zar Try.prog 36=some 1:=by kernel_rfl
@[simp] theorem ziR:isSlice Try.prog 36=true:=by kernel_rfl
@[simp] theorem zvl:zcy Try.prog 36=some 35:=by kernel_rfl
@[simp] theorem zmH:zaF Try.prog 36=some 4:=by kernel_rfl
@[simp] theorem zvm:za6 Try.prog 36=true:=by kernel_rfl
@[simp] theorem zhS:zax Try.prog 38=some 6:=by kernel_rfl
@[simp] theorem ztX:zar Try.prog 38=some 6:=by kernel_rfl
@[simp] theorem zvn:places Try.prog 38=some [(0,1),(1,1),(2,1),(3,1),(4,1),(5,1)]:=by kernel_rfl
@[simp] theorem znE:zdK Try.prog 38=some [AV.v (.int .i64 0),AV.v (.int .i64 0),AV.v (.int .i64 0),AV.v (.int .i64 0),AV.sl .nil 0 [],AV.sl .nil 0 []]:=by kernel_rfl
@[simp] theorem zmI:zax Try.prog 43=some 2:=by kernel_rfl
@[simp] theorem ztY:zar Try.prog 43=some 2:=by kernel_rfl
@[simp] theorem zse:places Try.prog 43=some [(0,1),(1,1)]:=by kernel_rfl
@[simp] theorem zkQ:zdK Try.prog 43=some [AV.v (.int .i64 0),AV.sl .nil 0 []]:=by kernel_rfl
@[simp] theorem ztZ:zax Try.prog 44=none:=by kernel_rfl
@[simp] theorem zvo:scalar Try.prog 44=true:=by kernel_rfl
@[simp] theorem zxx:zar Try.prog 44=some 1:=by kernel_rfl
@[simp] theorem zmJ:isSlice Try.prog 44=true:=by kernel_rfl
@[simp] theorem zsf:zcy Try.prog 44=some 43:=by kernel_rfl
@[simp] theorem zmK:zaF Try.prog 44=some 2:=by kernel_rfl
@[simp] theorem zsg:za6 Try.prog 44=true:=by kernel_rfl
@[simp] theorem zj8:zax Try.prog 51=some 8:=by kernel_rfl
@[simp] theorem zxy:zar Try.prog 51=some 8:=by kernel_rfl
@[simp] theorem zvp:places Try.prog 51=some [(0,3),(3,1),(4,1),(5,1),(6,1),(7,1)]:=by kernel_rfl
@[simp] theorem zsh:zdK Try.prog 51=some [AV.v (.int .i64 0),AV.sl .nil 0 [],AV.sl .nil 0 [],AV.sl .nil 0 [],AV.sl .nil 0 [],AV.sl .nil 0 [],AV.v (.int .i64 0),AV.v (.int .i64 0)]:=by kernel_rfl
@[simp] theorem ziS:zax Try.prog 52=none:=by kernel_rfl
@[simp] theorem zkR:scalar Try.prog 52=true:=by kernel_rfl
@[simp] theorem zxz:zar Try.prog 52=some 1:=by kernel_rfl
@[simp] theorem zt0:zax Try.prog 54=some 4:=by kernel_rfl
@[simp] theorem zxA:zar Try.prog 54=some 4:=by kernel_rfl
@[simp] theorem zwD:zey Try.prog 54=some 4:=by kernel_rfl
@[simp] theorem zj9:zma Try.prog 54=some (4,1):=by kernel_rfl
@[simp] theorem zt1:zp5 Try.prog 54=some (4,3,1):=by kernel_rfl
@[simp] theorem zys:places Try.prog 54=some [(0,1),(1,1),(2,1),(3,1)]:=by kernel_rfl
@[simp] theorem zc3:zax Try.prog 56=some 6:=by kernel_rfl
@[simp] theorem zfI:zar Try.prog 56=some 6:=by kernel_rfl
@[simp] theorem zsi:places Try.prog 56=some [(0,4),(4,1),(5,1)]:=by kernel_rfl
@[simp] theorem zwE:zey Try.prog 56=some 6:=by kernel_rfl
@[simp] theorem zdW:zdK Try.prog 56=some [AV.v (.int .i64 0),AV.v (.int .i64 0),AV.v (.int .i64 0),AV.v (.int .i64 0),AV.v (.int .i64 0),AV.v (.int .i64 0)]:=by kernel_rfl
@[simp] theorem zt2:zax Try.prog 59=none:=by kernel_rfl
@[simp] theorem zvq:scalar Try.prog 59=true:=by kernel_rfl
@[simp] theorem zxB:zar Try.prog 59=some 1:=by kernel_rfl
@[simp] theorem zpD:zax Try.prog 61=none:=by kernel_rfl
@[simp] theorem zsj:scalar Try.prog 61=true:=by kernel_rfl
@[simp] theorem zxC:zar Try.prog 61=some 1:=by kernel_rfl
@[simp] theorem zgi:zax Try.prog 64=some 6:=by kernel_rfl
@[simp] theorem ziT:zar Try.prog 64=some 6:=by kernel_rfl
@[simp] theorem zoQ:places Try.prog 64=some [(0,6)]:=by kernel_rfl
@[simp] theorem zgF:zdK Try.prog 64=some [AV.v (.int .i64 0),AV.v (.int .i64 0),AV.v (.int .i64 0),AV.v (.int .i64 0),AV.sl .nil 0 [],AV.sl .nil 0 []]:=by kernel_rfl
@[simp] theorem zmL:zax Try.prog 67=none:=by kernel_rfl
@[simp] theorem zoR:scalar Try.prog 67=true:=by kernel_rfl
@[simp] theorem zmM:zar Try.prog 67=some 1:=by kernel_rfl
@[simp] theorem zxD:intKind Try.prog 67=some .i64:=by kernel_rfl
@[simp] theorem zxE:zax Try.prog 69=some 3:=by kernel_rfl
@[simp] theorem zxF:zar Try.prog 69=some 3:=by kernel_rfl
@[simp] theorem zyt:places Try.prog 69=some [(0,1),(1,1),(2,1)]:=by kernel_rfl
@[simp] theorem zsk:zdK Try.prog 69=some [AV.sl .nil 0 [],AV.v (.int .i64 0),AV.v (.int .i64 0)]:=by kernel_rfl
@[simp] theorem zxG:zax Try.prog 70=none:=by kernel_rfl
@[simp] theorem zyu:scalar Try.prog 70=true:=by kernel_rfl
@[simp] theorem zxH:zar Try.prog 70=some 1:=by kernel_rfl
@[simp] theorem zgj:zax Try.prog 72=none:=by kernel_rfl
@[simp] theorem zhy:scalar Try.prog 72=true:=by kernel_rfl
@[simp] theorem zxI:zar Try.prog 72=some 1:=by kernel_rfl
@[simp] theorem zg4:zax Try.prog 73=none:=by kernel_rfl
@[simp] theorem zih:scalar Try.prog 73=true:=by kernel_rfl
@[simp] theorem zxJ:zar Try.prog 73=some 1:=by kernel_rfl
@[simp] theorem zfb:zax Try.prog 74=none:=by kernel_rfl
@[simp] theorem zgq:scalar Try.prog 74=true:=by kernel_rfl
@[simp] theorem zka:zar Try.prog 74=some 1:=by kernel_rfl
@[simp] theorem zsl:zdK Try.prog 74=some [AV.sl .nil 0 []]:=by kernel_rfl
@[simp] theorem ziU:isSlice Try.prog 74=true:=by kernel_rfl
@[simp] theorem zjj:zcy Try.prog 74=some 78:=by kernel_rfl
@[simp] theorem zg5:zaF Try.prog 74=some 2:=by kernel_rfl
@[simp] theorem zjk:za6 Try.prog 74=true:=by kernel_rfl
@[simp] theorem zxK:zax Try.prog 78=some 2:=by kernel_rfl
@[simp] theorem zxL:zar Try.prog 78=some 2:=by kernel_rfl
@[simp] theorem zoS:places Try.prog 78=some [(0,1),(1,1)]:=by kernel_rfl
@[simp] theorem zkS:zdK Try.prog 78=some [AV.sl .nil 0 [],AV.sl .nil 0 []]:=by kernel_rfl
@[simp] theorem zd7:zax Try.prog 80=some 3:=by kernel_rfl
@[simp] theorem zhT:zar Try.prog 80=some 3:=by kernel_rfl
@[simp] theorem zmN:places Try.prog 80=some [(0,3)]:=by kernel_rfl
@[simp] theorem zfk:zdK Try.prog 80=some [AV.v (.int .i64 0),AV.sl .nil 0 [],AV.sl .nil 0 []]:=by kernel_rfl
@[simp] theorem zxM:zax Try.prog 83=none:=by kernel_rfl
@[simp] theorem zyv:scalar Try.prog 83=true:=by kernel_rfl
@[simp] theorem zxN:zar Try.prog 83=some 1:=by kernel_rfl
@[simp] theorem zpE:zax Try.prog 84=none:=by kernel_rfl
@[simp] theorem zsm:scalar Try.prog 84=true:=by kernel_rfl
@[simp] theorem zxO:zar Try.prog 84=some 1:=by kernel_rfl
@[simp] theorem zkb:zgP Try.prog 84=some (56,3):=by kernel_rfl
@[simp] theorem zsn:zjb Try.prog 3=some .i64:=by kernel_rfl
@[simp] theorem zxP:zax Try.prog 86=some 5:=by kernel_rfl
@[simp] theorem zxQ:zar Try.prog 86=some 5:=by kernel_rfl
@[simp] theorem zso:places Try.prog 86=some [(0,3),(3,1),(4,1)]:=by kernel_rfl
@[simp] theorem znF:zdK Try.prog 86=some [AV.v (.int .i64 0),AV.sl .nil 0 [],AV.sl .nil 0 [],AV.v .nilFunc,AV.v (.map none)]:=by kernel_rfl
@[simp] theorem zxR:zax Try.prog 89=none:=by kernel_rfl
@[simp] theorem zyw:scalar Try.prog 89=true:=by kernel_rfl
@[simp] theorem zxS:zar Try.prog 89=some 1:=by kernel_rfl
@[simp] theorem zt3:zax Try.prog 91=none:=by kernel_rfl
@[simp] theorem zvr:scalar Try.prog 91=true:=by kernel_rfl
@[simp] theorem zxT:zar Try.prog 91=some 1:=by kernel_rfl
@[simp] theorem zxU:zax Try.prog 97=some 8:=by kernel_rfl
@[simp] theorem zxV:zar Try.prog 97=some 8:=by kernel_rfl
@[simp] theorem zvs:places Try.prog 97=some [(0,8)]:=by kernel_rfl
@[simp] theorem zsp:zdK Try.prog 97=some [AV.v (.int .i64 0),AV.sl .nil 0 [],AV.sl .nil 0 [],AV.sl .nil 0 [],AV.sl .nil 0 [],AV.sl .nil 0 [],AV.v (.int .i64 0),AV.v (.int .i64 0)]:=by kernel_rfl
@[simp] theorem zwF:zax Try.prog 101=none:=by kernel_rfl
@[simp] theorem zxW:scalar Try.prog 101=true:=by kernel_rfl
@[simp] theorem zwG:zar Try.prog 101=some 1:=by kernel_rfl
@[simp] theorem zwH:zax Try.prog 107=none:=by kernel_rfl
@[simp] theorem zxX:scalar Try.prog 107=true:=by kernel_rfl
@[simp] theorem zwI:zar Try.prog 107=some 1:=by kernel_rfl
@[simp] theorem zwJ:zax Try.prog 111=some 3:=by kernel_rfl
@[simp] theorem zwK:zar Try.prog 111=some 3:=by kernel_rfl
@[simp] theorem zwL:zma Try.prog 111=some (3,1):=by kernel_rfl
@[simp] theorem zsq:zp5 Try.prog 111=some (3,22,1):=by kernel_rfl
@[simp] theorem zt4:places Try.prog 111=some [(0,1),(1,1),(2,1)]:=by kernel_rfl
@[simp] theorem zqN:zdK Try.prog 111=some [AV.sl .nil 0 [],AV.sl .nil 0 [],AV.sl .nil 0 []]:=by kernel_rfl
@[simp] theorem zdX:zax Try.prog 113=some 4:=by kernel_rfl
@[simp] theorem znG:zar Try.prog 113=some 4:=by kernel_rfl
@[simp] theorem zqO:zey Try.prog 113=some 4:=by kernel_rfl
@[simp] theorem zfW:zma Try.prog 113=some (4,1):=by kernel_rfl
@[simp] theorem zsr:zp5 Try.prog 113=some (4,3,1):=by kernel_rfl
@[simp] theorem zxY:places Try.prog 113=some [(0,1),(1,1),(2,1),(3,1)]:=by kernel_rfl
@[simp] theorem zjl:zdK Try.prog 113=some [AV.v (.int .i64 0),AV.v (.int .i64 0),AV.v (.int .i64 0),AV.v (.int .i64 0)]:=by kernel_rfl
@[simp] theorem zkT:zax Try.prog 115=none:=by kernel_rfl
@[simp] theorem zmO:scalar Try.prog 115=true:=by kernel_rfl
@[simp] theorem zss:zar Try.prog 115=some 1:=by kernel_rfl
@[simp] theorem zqP:zdK Try.prog 115=some [AV.v (.map none)]:=by kernel_rfl
@[simp] theorem zfX:zgP Try.prog 115=some (125,127):=by kernel_rfl
@[simp] theorem zwM:zax Try.prog 117=none:=by kernel_rfl
@[simp] theorem zxZ:scalar Try.prog 117=true:=by kernel_rfl
@[simp] theorem zwN:zar Try.prog 117=some 1:=by kernel_rfl
@[simp] theorem ziV:zgP Try.prog 117=some (3,125):=by kernel_rfl
@[simp] theorem zwO:zax Try.prog 120=none:=by kernel_rfl
@[simp] theorem zx0:scalar Try.prog 120=true:=by kernel_rfl
@[simp] theorem zwP:zar Try.prog 120=some 1:=by kernel_rfl
@[simp] theorem zfl:zax Try.prog 123=some 2:=by kernel_rfl
@[simp] theorem zfm:zar Try.prog 123=some 2:=by kernel_rfl
@[simp] theorem zg6:places Try.prog 123=some [(0,1),(1,1)]:=by kernel_rfl
@[simp] theorem zvW:zey Try.prog 123=some 2:=by kernel_rfl
@[simp] theorem zc9:zdK Try.prog 123=some [AV.v (.int .i64 0),AV.v (.int .i64 0)]:=by kernel_rfl
@[simp] theorem zfn:zax Try.prog 125=some 7:=by kernel_rfl
@[simp] theorem ziW:zar Try.prog 125=some 7:=by kernel_rfl
@[simp] theorem zkc:places Try.prog 125=some [(0,2),(2,4),(6,1)]:=by kernel_rfl
@[simp] theorem zvX:zey Try.prog 125=some 7:=by kernel_rfl
@[simp] theorem zew:zdK Try.prog 125=some [AV.v (.int .i64 0),AV.v (.int .i64 0),AV.v (.int .i64 0),AV.v (.int .i64 0),AV.v (.int .i64 0),AV.v (.int .i64 0),AV.v (.int .i64 0)]:=by kernel_rfl
@[simp] theorem zst:zax Try.prog 127=some 8:=by kernel_rfl
@[simp] theorem ziX:zar Try.prog 127=some 8:=by kernel_rfl
@[simp] theorem zpF:places Try.prog 127=some [(0,1),(1,7)]:=by kernel_rfl
@[simp] theorem zvY:zey Try.prog 127=some 8:=by kernel_rfl
@[simp] theorem zgG:zdK Try.prog 127=some [AV.v (.int .i64 0),AV.v (.int .i64 0),AV.v (.int .i64 0),AV.v (.int .i64 0),AV.v (.int .i64 0),AV.v (.int .i64 0),AV.v (.int .i64 0),AV.v (.int .i64 0)]:=by kernel_rfl
@[simp] theorem ziY:zax Try.prog 128=none:=by kernel_rfl
@[simp] theorem zkd:scalar Try.prog 128=true:=by kernel_rfl
@[simp] theorem zkU:zar Try.prog 128=some 1:=by kernel_rfl
@[simp] theorem zqQ:zdK Try.prog 128=some [AV.sl .nil 0 []]:=by kernel_rfl
@[simp] theorem zsu:isSlice Try.prog 128=true:=by kernel_rfl
@[simp] theorem zpG:zcy Try.prog 128=some 125:=by kernel_rfl
@[simp] theorem ziZ:zaF Try.prog 128=some 7:=by kernel_rfl
@[simp] theorem zmP:za6 Try.prog 128=true:=by kernel_rfl
@[simp] theorem zwQ:zax Try.prog 131=none:=by kernel_rfl
@[simp] theorem zx1:scalar Try.prog 131=true:=by kernel_rfl
@[simp] theorem zwR:zar Try.prog 131=some 1:=by kernel_rfl
@[simp] theorem zwS:zax Try.prog 139=none:=by kernel_rfl
@[simp] theorem zx2:scalar Try.prog 139=true:=by kernel_rfl
@[simp] theorem zwT:zar Try.prog 139=some 1:=by kernel_rfl
@[simp] theorem zwU:intKind Try.prog 139=some .u64:=by kernel_rfl
@[simp] theorem zwV:zax Try.prog 141=none:=by kernel_rfl
@[simp] theorem zx3:scalar Try.prog 141=true:=by kernel_rfl
@[simp] theorem zwW:zar Try.prog 141=some 1:=by kernel_rfl
@[simp] theorem zwX:intKind Try.prog 141=some .i64:=by kernel_rfl
@[simp] theorem zwY:zax Try.prog 147=none:=by kernel_rfl
@[simp] theorem zx4:scalar Try.prog 147=true:=by kernel_rfl
@[simp] theorem zwZ:zar Try.prog 147=some 1:=by kernel_rfl
@[simp] theorem zw0:intKind Try.prog 147=some .u32:=by kernel_rfl
@[simp] theorem zw1:zax Try.prog 149=none:=by kernel_rfl
@[simp] theorem zx5:scalar Try.prog 149=true:=by kernel_rfl
@[simp] theorem zw2:zar Try.prog 149=some 1:=by kernel_rfl
@[simp] theorem zw3:intKind Try.prog 149=some .u64:=by kernel_rfl
@[simp] theorem zw4:zax Try.prog 150=none:=by kernel_rfl
@[simp] theorem zx6:scalar Try.prog 150=true:=by kernel_rfl
@[simp] theorem zw5:zar Try.prog 150=some 1:=by kernel_rfl
@[simp] theorem zvZ:zdK Try.prog 150=some [AV.v (.int .u64 0)]:=by kernel_rfl
@[simp] theorem zw6:intKind Try.prog 150=some .u64:=by kernel_rfl
@[simp] theorem zw7:zax Try.prog 154=none:=by kernel_rfl
@[simp] theorem zx7:scalar Try.prog 154=true:=by kernel_rfl
@[simp] theorem zw8:zar Try.prog 154=some 1:=by kernel_rfl
@[simp] theorem zw9:zax Try.prog 156=none:=by kernel_rfl
@[simp] theorem zx8:scalar Try.prog 156=true:=by kernel_rfl
@[simp] theorem zxa:zar Try.prog 156=some 1:=by kernel_rfl
@[simp] theorem zef:zaH Try.prog 24 0=some 0:=by kernel_rfl
@[simp] theorem zhz:zaH Try.prog 24 1=some 1:=by kernel_rfl
@[simp] theorem zcE:zaH Try.prog 24 2=some 2:=by kernel_rfl
@[simp] theorem zsv:zaH Try.prog 26 0=some 0:=by kernel_rfl
@[simp] theorem znH:zaH Try.prog 26 1=some 1:=by kernel_rfl
@[simp] theorem znI:zaH Try.prog 26 2=some 2:=by kernel_rfl
@[simp] theorem znJ:zaH Try.prog 35 0=some 0:=by kernel_rfl
@[simp] theorem zsw:zaH Try.prog 35 1=some 1:=by kernel_rfl
@[simp] theorem zsx:zaH Try.prog 35 2=some 2:=by kernel_rfl
@[simp] theorem zkV:zaH Try.prog 35 3=some 3:=by kernel_rfl
@[simp] theorem zkW:zaH Try.prog 38 0=some 0:=by kernel_rfl
@[simp] theorem znK:zaH Try.prog 38 1=some 1:=by kernel_rfl
@[simp] theorem znL:zaH Try.prog 38 2=some 2:=by kernel_rfl
@[simp] theorem znM:zaH Try.prog 38 3=some 3:=by kernel_rfl
@[simp] theorem zhA:zaH Try.prog 38 4=some 4:=by kernel_rfl
@[simp] theorem zhB:zaH Try.prog 38 5=some 5:=by kernel_rfl
@[simp] theorem znN:zaH Try.prog 43 0=some 0:=by kernel_rfl
@[simp] theorem zkX:zaH Try.prog 43 1=some 1:=by kernel_rfl
@[simp] theorem zfY:zaH Try.prog 51 0=some 0:=by kernel_rfl
@[simp] theorem zkY:zaH Try.prog 51 1=some 3:=by kernel_rfl
@[simp] theorem znO:zaH Try.prog 51 2=some 4:=by kernel_rfl
@[simp] theorem zkZ:zaH Try.prog 51 3=some 5:=by kernel_rfl
@[simp] theorem zk0:zaH Try.prog 51 4=some 6:=by kernel_rfl
@[simp] theorem znP:zaH Try.prog 51 5=some 7:=by kernel_rfl
@[simp] theorem zhC:zaH Try.prog 56 0=some 0:=by kernel_rfl
@[simp] theorem zi0:zaH Try.prog 56 1=some 4:=by kernel_rfl
@[simp] theorem zfZ:zaH Try.prog 56 2=some 5:=by kernel_rfl
@[simp] theorem zfo:zaH Try.prog 64 0=some 0:=by kernel_rfl
@[simp] theorem zi1:zaH Try.prog 69 0=some 0:=by kernel_rfl
@[simp] theorem zi2:zaH Try.prog 69 1=some 1:=by kernel_rfl
@[simp] theorem zk1:zaH Try.prog 69 2=some 2:=by kernel_rfl
@[simp] theorem zk2:zaH Try.prog 78 0=some 0:=by kernel_rfl
@[simp] theorem zda:zaH Try.prog 80 0=some 0:=by kernel_rfl
@[simp] theorem zk3:zaH Try.prog 86 0=some 0:=by kernel_rfl
@[simp] theorem zsy:zaH Try.prog 86 1=some 3:=by kernel_rfl
@[simp] theorem znQ:zaH Try.prog 86 2=some 4:=by kernel_rfl
@[simp] theorem zeg:zaH Try.prog 97 0=some 0:=by kernel_rfl
@[simp] theorem zdb:zaH Try.prog 123 0=some 0:=by kernel_rfl
@[simp] theorem zcp:zaH Try.prog 123 1=some 1:=by kernel_rfl
@[simp] theorem zcq:zaH Try.prog 125 0=some 0:=by kernel_rfl
@[simp] theorem ze1:zaH Try.prog 125 1=some 2:=by kernel_rfl
@[simp] theorem zhU:zaH Try.prog 125 2=some 6:=by kernel_rfl
@[simp] theorem zl5:zaH Try.prog 127 0=some 0:=by kernel_rfl
@[simp] theorem zqR:zaH Try.prog 127 1=some 1:=by kernel_rfl
end Go.Proofs.Ytchhkifidbkjcaa
