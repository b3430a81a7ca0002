/-
  What the abstract machine's runs want to know of this program's types.
  Conditions: none.
-/
import Derived.Test.YtebfppngmmdfkaaGreatAmPg
import Derived.Test.YtebfppngmmdfkaaGreatChecked
set_option linter.all false
namespace Go.Proofs.YtebfppngmmdfkaaGreat
open Go Go.AM
theorem mixed:Tryz.prog.follows .mixedOrders=true:=Tryz.checked.mixed
@[simp] theorem zac:zaG Tryz.prog 3=none:=by kernel_rfl
@[simp] theorem zah:scalar Tryz.prog 3=true:=by kernel_rfl
@[simp] theorem zfs:zaA Tryz.prog 3=some 1:=by kernel_rfl
@[simp] theorem zwB:ze8 Tryz.prog 3=some [AV.v (.int .i64 0)]:=by kernel_rfl
@[simp] theorem zxt:intKind Tryz.prog 3=some .i64:=by kernel_rfl
@[simp] theorem zxu:zaG Tryz.prog 4=none:=by kernel_rfl
@[simp] theorem zxX:scalar Tryz.prog 4=true:=by kernel_rfl
@[simp] theorem zxv:zaA Tryz.prog 4=some 1:=by kernel_rfl
@[simp] theorem zwC:isBool Tryz.prog 4=true:=by kernel_rfl
@[simp] theorem zxw:zaG Tryz.prog 5=none:=by kernel_rfl
@[simp] theorem zxY:scalar Tryz.prog 5=true:=by kernel_rfl
@[simp] theorem zxx:zaA Tryz.prog 5=some 1:=by kernel_rfl
@[simp] theorem zxy:intKind Tryz.prog 5=some .u8:=by kernel_rfl
@[simp] theorem zbr:zaG Tryz.prog 22=none:=by kernel_rfl
@[simp] theorem zcc:scalar Tryz.prog 22=true:=by kernel_rfl
@[simp] theorem zfX:zaA Tryz.prog 22=some 1:=by kernel_rfl
@[simp] theorem zny:ze8 Tryz.prog 22=some [AV.sl .nil 0 []]:=by kernel_rfl
@[simp] theorem zbc:isSlice Tryz.prog 22=true:=by kernel_rfl
@[simp] theorem zes:zc6 Tryz.prog 22=some 3:=by kernel_rfl
@[simp] theorem zbi:zaR Tryz.prog 22=some 1:=by kernel_rfl
@[simp] theorem zet:zb0 Tryz.prog 22=true:=by kernel_rfl
@[simp] theorem zbM:zaG Tryz.prog 24=some 8:=by kernel_rfl
@[simp] theorem zhi:zaA Tryz.prog 24=some 8:=by kernel_rfl
@[simp] theorem zuu:places Tryz.prog 24=some [(0,1),(1,1),(2,1),(3,1),(4,1),(5,1),(6,1),(7,1)]:=by kernel_rfl
@[simp] theorem zhD:ze8 Tryz.prog 24=some [AV.v (.int .i64 0),AV.v (.int .i64 0),AV.v (.int .i64 0),AV.v (.int .i64 0),AV.v (.int .i64 0),AV.v (.int .i64 0),AV.v (.int .i64 0),AV.sl .nil 0 []]:=by kernel_rfl
@[simp] theorem zft:zaG Tryz.prog 25=none:=by kernel_rfl
@[simp] theorem zgU:scalar Tryz.prog 25=true:=by kernel_rfl
@[simp] theorem zwD:zaA Tryz.prog 25=some 1:=by kernel_rfl
@[simp] theorem ziJ:isSlice Tryz.prog 25=true:=by kernel_rfl
@[simp] theorem zxz:zc6 Tryz.prog 25=some 47:=by kernel_rfl
@[simp] theorem zoI:zaR Tryz.prog 25=some 3:=by kernel_rfl
@[simp] theorem zxA:zb0 Tryz.prog 25=true:=by kernel_rfl
@[simp] theorem zcd:zaG Tryz.prog 27=some 4:=by kernel_rfl
@[simp] theorem zs6:zaA Tryz.prog 27=some 4:=by kernel_rfl
@[simp] theorem zuv:places Tryz.prog 27=some [(0,1),(1,1),(2,1),(3,1)]:=by kernel_rfl
@[simp] theorem znz:ze8 Tryz.prog 27=some [AV.v (.int .i64 0),AV.v (.int .i64 0),AV.sl .nil 0 [],AV.v (.int .i64 0)]:=by kernel_rfl
@[simp] theorem zfu:zaG Tryz.prog 28=none:=by kernel_rfl
@[simp] theorem zgV:scalar Tryz.prog 28=true:=by kernel_rfl
@[simp] theorem zpn:zaA Tryz.prog 28=some 1:=by kernel_rfl
@[simp] theorem zeK:isSlice Tryz.prog 28=true:=by kernel_rfl
@[simp] theorem zd5:zc6 Tryz.prog 28=some 82:=by kernel_rfl
@[simp] theorem zbH:zaR Tryz.prog 28=some 3:=by kernel_rfl
@[simp] theorem zd6:zb0 Tryz.prog 28=true:=by kernel_rfl
@[simp] theorem zwE:zaG Tryz.prog 30=some 6:=by kernel_rfl
@[simp] theorem zwF:zaA Tryz.prog 30=some 6:=by kernel_rfl
@[simp] theorem zxB:places Tryz.prog 30=some [(0,4),(4,1),(5,1)]:=by kernel_rfl
@[simp] theorem zkE:zaG Tryz.prog 32=none:=by kernel_rfl
@[simp] theorem zmH:scalar Tryz.prog 32=true:=by kernel_rfl
@[simp] theorem zkF:zaA Tryz.prog 32=some 1:=by kernel_rfl
@[simp] theorem zrz:ze8 Tryz.prog 32=some [AV.v (.int .i64 0)]:=by kernel_rfl
@[simp] theorem zwG:intKind Tryz.prog 32=some .i64:=by kernel_rfl
@[simp] theorem zwH:zaG Tryz.prog 35=none:=by kernel_rfl
@[simp] theorem zxC:scalar Tryz.prog 35=true:=by kernel_rfl
@[simp] theorem zwI:zaA Tryz.prog 35=some 1:=by kernel_rfl
@[simp] theorem zmI:zaG Tryz.prog 47=some 3:=by kernel_rfl
@[simp] theorem zpo:zaA Tryz.prog 47=some 3:=by kernel_rfl
@[simp] theorem zxD:places Tryz.prog 47=some [(0,1),(1,1),(2,1)]:=by kernel_rfl
@[simp] theorem zvv:zeU Tryz.prog 47=some 3:=by kernel_rfl
@[simp] theorem znA:ze8 Tryz.prog 47=some [AV.v (.int .i64 0),AV.v (.int .i64 0),AV.v (.int .i64 0)]:=by kernel_rfl
@[simp] theorem zpp:zaG Tryz.prog 55=none:=by kernel_rfl
@[simp] theorem zrA:scalar Tryz.prog 55=true:=by kernel_rfl
@[simp] theorem zs7:zaA Tryz.prog 55=some 1:=by kernel_rfl
@[simp] theorem zpq:isSlice Tryz.prog 55=true:=by kernel_rfl
@[simp] theorem zrB:zc6 Tryz.prog 55=some 94:=by kernel_rfl
@[simp] theorem zoJ:zaR Tryz.prog 55=some 2:=by kernel_rfl
@[simp] theorem zrC:zb0 Tryz.prog 55=true:=by kernel_rfl
@[simp] theorem zhj:zaG Tryz.prog 59=some 8:=by kernel_rfl
@[simp] theorem zpr:zaA Tryz.prog 59=some 8:=by kernel_rfl
@[simp] theorem zoK:places Tryz.prog 59=some [(0,8)]:=by kernel_rfl
@[simp] theorem zio:ze8 Tryz.prog 59=some [AV.v (.int .i64 0),AV.v (.int .i64 0),AV.v (.int .i64 0),AV.v (.int .i64 0),AV.v (.int .i64 0),AV.v (.int .i64 0),AV.v (.int .i64 0),AV.sl .nil 0 []]:=by kernel_rfl
@[simp] theorem zwJ:zaG Tryz.prog 63=none:=by kernel_rfl
@[simp] theorem zxE:scalar Tryz.prog 63=true:=by kernel_rfl
@[simp] theorem zwK:zaA Tryz.prog 63=some 1:=by kernel_rfl
@[simp] theorem zfv:zaG Tryz.prog 65=none:=by kernel_rfl
@[simp] theorem zgW:scalar Tryz.prog 65=true:=by kernel_rfl
@[simp] theorem zjr:zaA Tryz.prog 65=some 1:=by kernel_rfl
@[simp] theorem znB:ze8 Tryz.prog 65=some [AV.v (.pointer none)]:=by kernel_rfl
@[simp] theorem zs8:zaG Tryz.prog 67=none:=by kernel_rfl
@[simp] theorem zuw:scalar Tryz.prog 67=true:=by kernel_rfl
@[simp] theorem zwL:zaA Tryz.prog 67=some 1:=by kernel_rfl
@[simp] theorem zwM:zaG Tryz.prog 70=some 5:=by kernel_rfl
@[simp] theorem zwN:zaA Tryz.prog 70=some 5:=by kernel_rfl
@[simp] theorem zvw:zeU Tryz.prog 70=some 5:=by kernel_rfl
@[simp] theorem zhk:zmh Tryz.prog 70=some (5,1):=by kernel_rfl
@[simp] theorem zwO:zn8 Tryz.prog 70=some (5,3,1):=by kernel_rfl
@[simp] theorem zxF:places Tryz.prog 70=some [(0,1),(1,1),(2,1),(3,1),(4,1)]:=by kernel_rfl
@[simp] theorem zmJ:zaG Tryz.prog 72=some 10:=by kernel_rfl
@[simp] theorem zps:zaA Tryz.prog 72=some 10:=by kernel_rfl
@[simp] theorem zxG:places Tryz.prog 72=some [(0,5),(5,5)]:=by kernel_rfl
@[simp] theorem zvx:zeU Tryz.prog 72=some 10:=by kernel_rfl
@[simp] theorem zlh:ze8 Tryz.prog 72=some [AV.v (.int .i64 0),AV.v (.int .i64 0),AV.v (.int .i64 0),AV.v (.int .i64 0),AV.v (.int .i64 0),AV.v (.int .i64 0),AV.v (.int .i64 0),AV.v (.int .i64 0),AV.v (.int .i64 0),AV.v (.int .i64 0)]:=by kernel_rfl
@[simp] theorem zpt:zaG Tryz.prog 76=none:=by kernel_rfl
@[simp] theorem zrD:scalar Tryz.prog 76=true:=by kernel_rfl
@[simp] theorem zs9:zaA Tryz.prog 76=some 1:=by kernel_rfl
@[simp] theorem zrE:ze8 Tryz.prog 76=some [AV.v (.map none)]:=by kernel_rfl
@[simp] theorem zkG:zkJ Tryz.prog 76=some (3,3):=by kernel_rfl
@[simp] theorem zrF:zjR Tryz.prog 3=some .i64:=by kernel_rfl
@[simp] theorem zbU:zaG Tryz.prog 82=some 3:=by kernel_rfl
@[simp] theorem zjs:zaA Tryz.prog 82=some 3:=by kernel_rfl
@[simp] theorem ziq:places Tryz.prog 82=some [(0,1),(1,1),(2,1)]:=by kernel_rfl
@[simp] theorem znC:zeU Tryz.prog 82=some 3:=by kernel_rfl
@[simp] theorem zdI:ze8 Tryz.prog 82=some [AV.v (.int .i64 0),AV.v (.int .i64 0),AV.v (.int .i64 0)]:=by kernel_rfl
@[simp] theorem zwP:zaG Tryz.prog 87=none:=by kernel_rfl
@[simp] theorem zxH:scalar Tryz.prog 87=true:=by kernel_rfl
@[simp] theorem zwQ:zaA Tryz.prog 87=some 1:=by kernel_rfl
@[simp] theorem zwR:zaG Tryz.prog 89=none:=by kernel_rfl
@[simp] theorem zxI:scalar Tryz.prog 89=true:=by kernel_rfl
@[simp] theorem zwS:zaA Tryz.prog 89=some 1:=by kernel_rfl
@[simp] theorem zwT:zaG Tryz.prog 91=none:=by kernel_rfl
@[simp] theorem zxJ:scalar Tryz.prog 91=true:=by kernel_rfl
@[simp] theorem zwU:zaA Tryz.prog 91=some 1:=by kernel_rfl
@[simp] theorem zwV:intKind Tryz.prog 91=some .u64:=by kernel_rfl
@[simp] theorem zwW:zaG Tryz.prog 92=none:=by kernel_rfl
@[simp] theorem zxK:scalar Tryz.prog 92=true:=by kernel_rfl
@[simp] theorem zwX:zaA Tryz.prog 92=some 1:=by kernel_rfl
@[simp] theorem zwY:intKind Tryz.prog 92=some .u64:=by kernel_rfl
@[simp] theorem zpu:zaG Tryz.prog 94=some 2:=by kernel_rfl
@[simp] theorem zpv:zaA Tryz.prog 94=some 2:=by kernel_rfl
@[simp] theorem zux:places Tryz.prog 94=some [(0,1),(1,1)]:=by kernel_rfl
@[simp] theorem zli:ze8 Tryz.prog 94=some [AV.v (.int .u64 0),AV.sl .nil 0 []]:=by kernel_rfl
@[simp] theorem zwZ:zaG Tryz.prog 95=none:=by kernel_rfl
@[simp] theorem zxL:scalar Tryz.prog 95=true:=by kernel_rfl
@[simp] theorem zw0:zaA Tryz.prog 95=some 1:=by kernel_rfl
@[simp] theorem zw1:zaG Tryz.prog 98=none:=by kernel_rfl
@[simp] theorem zxM:scalar Tryz.prog 98=true:=by kernel_rfl
@[simp] theorem zw2:zaA Tryz.prog 98=some 1:=by kernel_rfl
@[simp] theorem zpw:isSlice Tryz.prog 98=true:=by kernel_rfl
@[simp] theorem zrG:zc6 Tryz.prog 98=some 22:=by kernel_rfl
@[simp] theorem zmK:zaR Tryz.prog 98=some 1:=by kernel_rfl
@[simp] theorem zrH:zb0 Tryz.prog 98=true:=by kernel_rfl
@[simp] theorem zvy:zaG Tryz.prog 100=none:=by kernel_rfl
@[simp] theorem zw3:scalar Tryz.prog 100=true:=by kernel_rfl
@[simp] theorem zvz:zaA Tryz.prog 100=some 1:=by kernel_rfl
@[simp] theorem zvA:zaG Tryz.prog 103=some 5:=by kernel_rfl
@[simp] theorem zvB:zaA Tryz.prog 103=some 5:=by kernel_rfl
@[simp] theorem zta:places Tryz.prog 103=some [(0,4),(4,1)]:=by kernel_rfl
@[simp] theorem zqe:ze8 Tryz.prog 103=some [AV.v (.int .i64 0),AV.v (.int .i64 0),AV.sl .nil 0 [],AV.v (.int .i64 0),AV.sl .nil 0 []]:=by kernel_rfl
@[simp] theorem zvC:zaG Tryz.prog 104=some 4:=by kernel_rfl
@[simp] theorem zvD:zaA Tryz.prog 104=some 4:=by kernel_rfl
@[simp] theorem zuY:zeU Tryz.prog 104=some 4:=by kernel_rfl
@[simp] theorem zvE:zmh Tryz.prog 104=some (4,1):=by kernel_rfl
@[simp] theorem zrI:zn8 Tryz.prog 104=some (4,3,1):=by kernel_rfl
@[simp] theorem ztb:places Tryz.prog 104=some [(0,1),(1,1),(2,1),(3,1)]:=by kernel_rfl
@[simp] theorem zqf:ze8 Tryz.prog 104=some [AV.v (.int .i64 0),AV.v (.int .i64 0),AV.v (.int .i64 0),AV.v (.int .i64 0)]:=by kernel_rfl
@[simp] theorem zvF:zaG Tryz.prog 108=none:=by kernel_rfl
@[simp] theorem zw4:scalar Tryz.prog 108=true:=by kernel_rfl
@[simp] theorem zvG:zaA Tryz.prog 108=some 1:=by kernel_rfl
@[simp] theorem zvH:zaG Tryz.prog 109=none:=by kernel_rfl
@[simp] theorem zw5:scalar Tryz.prog 109=true:=by kernel_rfl
@[simp] theorem zvI:zaA Tryz.prog 109=some 1:=by kernel_rfl
@[simp] theorem zvJ:zaG Tryz.prog 110=none:=by kernel_rfl
@[simp] theorem zw6:scalar Tryz.prog 110=true:=by kernel_rfl
@[simp] theorem zvK:zaA Tryz.prog 110=some 1:=by kernel_rfl
@[simp] theorem zvL:zaG Tryz.prog 111=none:=by kernel_rfl
@[simp] theorem zw7:scalar Tryz.prog 111=true:=by kernel_rfl
@[simp] theorem zvM:zaA Tryz.prog 111=some 1:=by kernel_rfl
@[simp] theorem zrJ:zaG Tryz.prog 115=some 3:=by kernel_rfl
@[simp] theorem zrK:zaA Tryz.prog 115=some 3:=by kernel_rfl
@[simp] theorem zhl:places Tryz.prog 115=some [(0,1),(1,1),(2,1)]:=by kernel_rfl
@[simp] theorem zuZ:zeU Tryz.prog 115=some 3:=by kernel_rfl
@[simp] theorem zeL:ze8 Tryz.prog 115=some [AV.v (.int .i64 0),AV.v (.int .i64 0),AV.v (.int .i64 0)]:=by kernel_rfl
@[simp] theorem zvN:zaG Tryz.prog 116=some 24:=by kernel_rfl
@[simp] theorem zvO:zaA Tryz.prog 116=some 24:=by kernel_rfl
@[simp] theorem zu0:zeU Tryz.prog 116=some 24:=by kernel_rfl
@[simp] theorem zvP:zmh Tryz.prog 116=some (8,3):=by kernel_rfl
@[simp] theorem zrL:zn8 Tryz.prog 116=some (8,115,3):=by kernel_rfl
@[simp] theorem ztc:places Tryz.prog 116=some [(0,3),(3,3),(6,3),(9,3),(12,3),(15,3),(18,3),(21,3)]:=by kernel_rfl
@[simp] theorem zqg:ze8 Tryz.prog 116=some [AV.v (.int .i64 0),AV.v (.int .i64 0),AV.v (.int .i64 0),AV.v (.int .i64 0),AV.v (.int .i64 0),AV.v (.int .i64 0),AV.v (.int .i64 0),AV.v (.int .i64 0),AV.v (.int .i64 0),AV.v (.int .i64 0),AV.v (.int .i64 0),AV.v (.int .i64 0),AV.v (.int .i64 0),AV.v (.int .i64 0),AV.v (.int .i64 0),AV.v (.int .i64 0),AV.v (.int .i64 0),AV.v (.int .i64 0),AV.v (.int .i64 0),AV.v (.int .i64 0),AV.v (.int .i64 0),AV.v (.int .i64 0),AV.v (.int .i64 0),AV.v (.int .i64 0)]:=by kernel_rfl
@[simp] theorem zvQ:zaG Tryz.prog 118=none:=by kernel_rfl
@[simp] theorem zw8:scalar Tryz.prog 118=true:=by kernel_rfl
@[simp] theorem zvR:zaA Tryz.prog 118=some 1:=by kernel_rfl
@[simp] theorem zrM:zaG Tryz.prog 119=none:=by kernel_rfl
@[simp] theorem ztd:scalar Tryz.prog 119=true:=by kernel_rfl
@[simp] theorem zvS:zaA Tryz.prog 119=some 1:=by kernel_rfl
@[simp] theorem zvT:zaG Tryz.prog 123=none:=by kernel_rfl
@[simp] theorem zw9:scalar Tryz.prog 123=true:=by kernel_rfl
@[simp] theorem zvU:zaA Tryz.prog 123=some 1:=by kernel_rfl
@[simp] theorem zvV:zaG Tryz.prog 125=none:=by kernel_rfl
@[simp] theorem zxa:scalar Tryz.prog 125=true:=by kernel_rfl
@[simp] theorem zvW:zaA Tryz.prog 125=some 1:=by kernel_rfl
@[simp] theorem zvX:zaG Tryz.prog 132=none:=by kernel_rfl
@[simp] theorem zxb:scalar Tryz.prog 132=true:=by kernel_rfl
@[simp] theorem zvY:zaA Tryz.prog 132=some 1:=by kernel_rfl
@[simp] theorem zvZ:intKind Tryz.prog 132=some .i64:=by kernel_rfl
@[simp] theorem zv0:zaG Tryz.prog 140=none:=by kernel_rfl
@[simp] theorem zxc:scalar Tryz.prog 140=true:=by kernel_rfl
@[simp] theorem zv1:zaA Tryz.prog 140=some 1:=by kernel_rfl
@[simp] theorem zv2:intKind Tryz.prog 140=some .u32:=by kernel_rfl
@[simp] theorem zv3:zaG Tryz.prog 142=none:=by kernel_rfl
@[simp] theorem zxd:scalar Tryz.prog 142=true:=by kernel_rfl
@[simp] theorem zv4:zaA Tryz.prog 142=some 1:=by kernel_rfl
@[simp] theorem zv5:intKind Tryz.prog 142=some .u64:=by kernel_rfl
@[simp] theorem zv6:zaG Tryz.prog 144=some 2:=by kernel_rfl
@[simp] theorem znD:zaA Tryz.prog 144=some 2:=by kernel_rfl
@[simp] theorem zpx:places Tryz.prog 144=some [(0,1),(1,1)]:=by kernel_rfl
@[simp] theorem zu1:zeU Tryz.prog 144=some 2:=by kernel_rfl
@[simp] theorem zj0:ze8 Tryz.prog 144=some [AV.v (.int .i64 0),AV.v (.int .i64 0)]:=by kernel_rfl
@[simp] theorem zv7:zaG Tryz.prog 148=none:=by kernel_rfl
@[simp] theorem zxe:scalar Tryz.prog 148=true:=by kernel_rfl
@[simp] theorem zv8:zaA Tryz.prog 148=some 1:=by kernel_rfl
@[simp] theorem zu2:ze8 Tryz.prog 148=some [AV.v (.int .u64 0)]:=by kernel_rfl
@[simp] theorem zv9:intKind Tryz.prog 148=some .u64:=by kernel_rfl
@[simp] theorem zwa:zaG Tryz.prog 152=none:=by kernel_rfl
@[simp] theorem zxf:scalar Tryz.prog 152=true:=by kernel_rfl
@[simp] theorem zwb:zaA Tryz.prog 152=some 1:=by kernel_rfl
@[simp] theorem zwc:zaG Tryz.prog 154=none:=by kernel_rfl
@[simp] theorem zxg:scalar Tryz.prog 154=true:=by kernel_rfl
@[simp] theorem zwd:zaA Tryz.prog 154=some 1:=by kernel_rfl
@[simp] theorem zgX:zaU Tryz.prog 24 0=some 0:=by kernel_rfl
@[simp] theorem zdo:zaU Tryz.prog 24 1=some 1:=by kernel_rfl
@[simp] theorem zfw:zaU Tryz.prog 24 2=some 2:=by kernel_rfl
@[simp] theorem zhE:zaU Tryz.prog 24 3=some 3:=by kernel_rfl
@[simp] theorem zjt:zaU Tryz.prog 24 4=some 4:=by kernel_rfl
@[simp] theorem zhF:zaU Tryz.prog 24 5=some 5:=by kernel_rfl
@[simp] theorem zju:zaU Tryz.prog 24 6=some 6:=by kernel_rfl
@[simp] theorem zdW:zaU Tryz.prog 24 7=some 7:=by kernel_rfl
@[simp] theorem zdX:zaU Tryz.prog 27 0=some 0:=by kernel_rfl
@[simp] theorem zdp:zaU Tryz.prog 27 1=some 1:=by kernel_rfl
@[simp] theorem zeT:zaU Tryz.prog 27 2=some 2:=by kernel_rfl
@[simp] theorem zir:zaU Tryz.prog 27 3=some 3:=by kernel_rfl
@[simp] theorem zgY:zaU Tryz.prog 30 0=some 0:=by kernel_rfl
@[simp] theorem zjv:zaU Tryz.prog 30 1=some 4:=by kernel_rfl
@[simp] theorem zis:zaU Tryz.prog 30 2=some 5:=by kernel_rfl
@[simp] theorem zjw:zaU Tryz.prog 47 0=some 0:=by kernel_rfl
@[simp] theorem zjx:zaU Tryz.prog 47 1=some 1:=by kernel_rfl
@[simp] theorem zjy:zaU Tryz.prog 47 2=some 2:=by kernel_rfl
@[simp] theorem zc1:zaU Tryz.prog 59 0=some 0:=by kernel_rfl
@[simp] theorem zjz:zaU Tryz.prog 72 0=some 0:=by kernel_rfl
@[simp] theorem zjA:zaU Tryz.prog 72 1=some 5:=by kernel_rfl
@[simp] theorem zeu:zaU Tryz.prog 82 0=some 0:=by kernel_rfl
@[simp] theorem zcO:zaU Tryz.prog 82 1=some 1:=by kernel_rfl
@[simp] theorem zdq:zaU Tryz.prog 82 2=some 2:=by kernel_rfl
@[simp] theorem znE:zaU Tryz.prog 94 1=some 1:=by kernel_rfl
@[simp] theorem zj1:zaU Tryz.prog 103 0=some 0:=by kernel_rfl
@[simp] theorem zfL:zaU Tryz.prog 103 1=some 4:=by kernel_rfl
@[simp] theorem zqh:zaU Tryz.prog 115 0=some 0:=by kernel_rfl
@[simp] theorem zqi:zaU Tryz.prog 115 1=some 1:=by kernel_rfl
@[simp] theorem zqj:zaU Tryz.prog 115 2=some 2:=by kernel_rfl
@[simp] theorem ziK:zaU Tryz.prog 144 0=some 0:=by kernel_rfl
@[simp] theorem zfM:zaU Tryz.prog 144 1=some 1:=by kernel_rfl
end Go.Proofs.YtebfppngmmdfkaaGreat
