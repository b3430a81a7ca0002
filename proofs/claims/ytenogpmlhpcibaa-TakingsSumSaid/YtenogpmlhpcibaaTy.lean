/-
  What the abstract machine's runs want to know of this program's types.
  Conditions: none.
-/
import Derived.Test.YtenogpmlhpcibaaAmRr
import Derived.Test.YtenogpmlhpcibaaAmQu
import Derived.Test.YtenogpmlhpcibaaAmKs
import Derived.Test.YtenogpmlhpcibaaChecked
set_option linter.all false
namespace Go.Proofs.Ytenogpmlhpcibaa
open Go Go.AM
theorem mixed:Try.prog.follows .mixedOrders=true:=Try.checked.mixed
@[simp] theorem zah:zav Try.prog 3=none:=by kernel_rfl
@[simp] theorem zas:scalar Try.prog 3=true:=by kernel_rfl
@[simp] theorem zjd:zan Try.prog 3=some 1:=by kernel_rfl
@[simp] theorem zzC:zdv Try.prog 3=some [AV.v (.int .i64 0)]:=by kernel_rfl
@[simp] theorem zA7:intKind Try.prog 3=some .i64:=by kernel_rfl
@[simp] theorem zA8:zav Try.prog 4=none:=by kernel_rfl
@[simp] theorem zBH:scalar Try.prog 4=true:=by kernel_rfl
@[simp] theorem zA9:zan Try.prog 4=some 1:=by kernel_rfl
@[simp] theorem zzD:zdv Try.prog 4=some [AV.v (.bool false)]:=by kernel_rfl
@[simp] theorem zzE:isBool Try.prog 4=true:=by kernel_rfl
@[simp] theorem zBa:zav Try.prog 5=none:=by kernel_rfl
@[simp] theorem zBI:scalar Try.prog 5=true:=by kernel_rfl
@[simp] theorem zBb:zan Try.prog 5=some 1:=by kernel_rfl
@[simp] theorem zBc:intKind Try.prog 5=some .u8:=by kernel_rfl
@[simp] theorem zaq:zav Try.prog 22=none:=by kernel_rfl
@[simp] theorem zaE:scalar Try.prog 22=true:=by kernel_rfl
@[simp] theorem znm:zan Try.prog 22=some 1:=by kernel_rfl
@[simp] theorem zaM:isSlice Try.prog 22=true:=by kernel_rfl
@[simp] theorem zbm:zb3 Try.prog 22=some 3:=by kernel_rfl
@[simp] theorem zaw:zaK Try.prog 22=some 1:=by kernel_rfl
@[simp] theorem zbe:za3 Try.prog 22=true:=by kernel_rfl
@[simp] theorem zbw:zav Try.prog 24=some 3:=by kernel_rfl
@[simp] theorem znn:zan Try.prog 24=some 3:=by kernel_rfl
@[simp] theorem zsJ:places Try.prog 24=some [(0,1),(1,1),(2,1)]:=by kernel_rfl
@[simp] theorem zjD:zdv Try.prog 24=some [AV.v (.int .i64 0),AV.sl .nil 0 [],AV.sl .nil 0 []]:=by kernel_rfl
@[simp] theorem za5:zav Try.prog 26=some 8:=by kernel_rfl
@[simp] theorem ziI:zan Try.prog 26=some 8:=by kernel_rfl
@[simp] theorem zvB:places Try.prog 26=some [(0,3),(3,1),(4,1),(5,1),(6,1),(7,1)]:=by kernel_rfl
@[simp] theorem zgU:zdv Try.prog 26=some [AV.v (.int .i64 0),AV.sl .nil 0 [],AV.sl .nil 0 [],AV.sl .nil 0 [],AV.sl .nil 0 [],AV.sl .nil 0 [],AV.v (.int .i64 0),AV.v (.int .i64 0)]:=by kernel_rfl
@[simp] theorem zzF:zav Try.prog 30=none:=by kernel_rfl
@[simp] theorem zBd:scalar Try.prog 30=true:=by kernel_rfl
@[simp] theorem zzG:zan Try.prog 30=some 1:=by kernel_rfl
@[simp] theorem zzH:intKind Try.prog 30=some .i64:=by kernel_rfl
@[simp] theorem zzI:zav Try.prog 50=none:=by kernel_rfl
@[simp] theorem zBe:scalar Try.prog 50=true:=by kernel_rfl
@[simp] theorem zzJ:zan Try.prog 50=some 1:=by kernel_rfl
@[simp] theorem zf9:isSlice Try.prog 50=true:=by kernel_rfl
@[simp] theorem zsK:zb3 Try.prog 50=some 26:=by kernel_rfl
@[simp] theorem zhi:zaK Try.prog 50=some 8:=by kernel_rfl
@[simp] theorem zsL:za3 Try.prog 50=true:=by kernel_rfl
@[simp] theorem zzK:zav Try.prog 57=none:=by kernel_rfl
@[simp] theorem zBf:scalar Try.prog 57=true:=by kernel_rfl
@[simp] theorem zzL:zan Try.prog 57=some 1:=by kernel_rfl
@[simp] theorem zzM:isSlice Try.prog 57=true:=by kernel_rfl
@[simp] theorem zBg:zb3 Try.prog 57=some 117:=by kernel_rfl
@[simp] theorem zBh:zaK Try.prog 57=some 4:=by kernel_rfl
@[simp] theorem zBi:za3 Try.prog 57=true:=by kernel_rfl
@[simp] theorem zzN:zav Try.prog 59=some 2:=by kernel_rfl
@[simp] theorem zzO:zan Try.prog 59=some 2:=by kernel_rfl
@[simp] theorem zBj:places Try.prog 59=some [(0,1),(1,1)]:=by kernel_rfl
@[simp] theorem zw9:zdv Try.prog 59=some [AV.sl .nil 0 [],AV.v (.int .i64 0)]:=by kernel_rfl
@[simp] theorem zzP:zav Try.prog 62=some 3:=by kernel_rfl
@[simp] theorem zzQ:zan Try.prog 62=some 3:=by kernel_rfl
@[simp] theorem zBk:places Try.prog 62=some [(0,1),(1,1),(2,1)]:=by kernel_rfl
@[simp] theorem zxa:zdd Try.prog 62=some 3:=by kernel_rfl
@[simp] theorem zxb:zdv Try.prog 62=some [AV.v (.int .i64 0),AV.v (.int .i64 0),AV.v (.int .i64 0)]:=by kernel_rfl
@[simp] theorem zzR:zav Try.prog 70=some 3:=by kernel_rfl
@[simp] theorem zzS:zan Try.prog 70=some 3:=by kernel_rfl
@[simp] theorem zBl:places Try.prog 70=some [(0,1),(1,1),(2,1)]:=by kernel_rfl
@[simp] theorem zxc:zdd Try.prog 70=some 3:=by kernel_rfl
@[simp] theorem zzT:zav Try.prog 73=some 4:=by kernel_rfl
@[simp] theorem zzU:zan Try.prog 73=some 4:=by kernel_rfl
@[simp] theorem zBm:places Try.prog 73=some [(0,1),(1,1),(2,1),(3,1)]:=by kernel_rfl
@[simp] theorem zxd:zdv Try.prog 73=some [AV.v (.int .i64 0),AV.v (.int .i64 0),AV.v (.int .i64 0),AV.sl .nil 0 []]:=by kernel_rfl
@[simp] theorem zzV:zav Try.prog 74=none:=by kernel_rfl
@[simp] theorem zBn:scalar Try.prog 74=true:=by kernel_rfl
@[simp] theorem zzW:zan Try.prog 74=some 1:=by kernel_rfl
@[simp] theorem zzX:isSlice Try.prog 74=true:=by kernel_rfl
@[simp] theorem zBo:zb3 Try.prog 74=some 73:=by kernel_rfl
@[simp] theorem zBp:zaK Try.prog 74=some 4:=by kernel_rfl
@[simp] theorem zBq:za3 Try.prog 74=true:=by kernel_rfl
@[simp] theorem zzY:zav Try.prog 76=some 6:=by kernel_rfl
@[simp] theorem zzZ:zan Try.prog 76=some 6:=by kernel_rfl
@[simp] theorem zBr:places Try.prog 76=some [(0,1),(1,1),(2,1),(3,1),(4,1),(5,1)]:=by kernel_rfl
@[simp] theorem zxe:zdv Try.prog 76=some [AV.v (.int .i64 0),AV.v (.int .i64 0),AV.v (.int .i64 0),AV.v (.int .i64 0),AV.sl .nil 0 [],AV.sl .nil 0 []]:=by kernel_rfl
@[simp] theorem zz0:zav Try.prog 81=some 2:=by kernel_rfl
@[simp] theorem zz1:zan Try.prog 81=some 2:=by kernel_rfl
@[simp] theorem zBs:places Try.prog 81=some [(0,1),(1,1)]:=by kernel_rfl
@[simp] theorem zxf:zdv Try.prog 81=some [AV.v (.int .i64 0),AV.sl .nil 0 []]:=by kernel_rfl
@[simp] theorem zz2:zav Try.prog 82=none:=by kernel_rfl
@[simp] theorem zBt:scalar Try.prog 82=true:=by kernel_rfl
@[simp] theorem zz3:zan Try.prog 82=some 1:=by kernel_rfl
@[simp] theorem zz4:isSlice Try.prog 82=true:=by kernel_rfl
@[simp] theorem zBu:zb3 Try.prog 82=some 81:=by kernel_rfl
@[simp] theorem zBv:zaK Try.prog 82=some 2:=by kernel_rfl
@[simp] theorem zBw:za3 Try.prog 82=true:=by kernel_rfl
@[simp] theorem zhR:zav Try.prog 86=none:=by kernel_rfl
@[simp] theorem zje:scalar Try.prog 86=true:=by kernel_rfl
@[simp] theorem zz5:zan Try.prog 86=some 1:=by kernel_rfl
@[simp] theorem zga:zav Try.prog 90=none:=by kernel_rfl
@[simp] theorem zhj:scalar Try.prog 90=true:=by kernel_rfl
@[simp] theorem zkU:zan Try.prog 90=some 1:=by kernel_rfl
@[simp] theorem zsM:zdv Try.prog 90=some [AV.sl .nil 0 []]:=by kernel_rfl
@[simp] theorem zjE:isSlice Try.prog 90=true:=by kernel_rfl
@[simp] theorem zkg:zb3 Try.prog 90=some 94:=by kernel_rfl
@[simp] theorem zhS:zaK Try.prog 90=some 2:=by kernel_rfl
@[simp] theorem zkh:za3 Try.prog 90=true:=by kernel_rfl
@[simp] theorem zz6:zav Try.prog 94=some 2:=by kernel_rfl
@[simp] theorem zz7:zan Try.prog 94=some 2:=by kernel_rfl
@[simp] theorem zpp:places Try.prog 94=some [(0,1),(1,1)]:=by kernel_rfl
@[simp] theorem zlx:zdv Try.prog 94=some [AV.sl .nil 0 [],AV.sl .nil 0 []]:=by kernel_rfl
@[simp] theorem zdm:zav Try.prog 99=some 2:=by kernel_rfl
@[simp] theorem zeD:zan Try.prog 99=some 2:=by kernel_rfl
@[simp] theorem zhT:places Try.prog 99=some [(0,1),(1,1)]:=by kernel_rfl
@[simp] theorem zxg:zdd Try.prog 99=some 2:=by kernel_rfl
@[simp] theorem zcB:zdv Try.prog 99=some [AV.v (.int .i64 0),AV.v (.int .i64 0)]:=by kernel_rfl
@[simp] theorem zxh:zav Try.prog 102=some 3:=by kernel_rfl
@[simp] theorem zxi:zan Try.prog 102=some 3:=by kernel_rfl
@[simp] theorem zxj:zmV Try.prog 102=some (3,1):=by kernel_rfl
@[simp] theorem zsN:zoV Try.prog 102=some (3,22,1):=by kernel_rfl
@[simp] theorem zub:places Try.prog 102=some [(0,1),(1,1),(2,1)]:=by kernel_rfl
@[simp] theorem zrl:zdv Try.prog 102=some [AV.sl .nil 0 [],AV.sl .nil 0 [],AV.sl .nil 0 []]:=by kernel_rfl
@[simp] theorem zsO:zav Try.prog 104=none:=by kernel_rfl
@[simp] theorem zuc:scalar Try.prog 104=true:=by kernel_rfl
@[simp] theorem zxk:zan Try.prog 104=some 1:=by kernel_rfl
@[simp] theorem zxl:zav Try.prog 106=none:=by kernel_rfl
@[simp] theorem zz8:scalar Try.prog 106=true:=by kernel_rfl
@[simp] theorem zxm:zan Try.prog 106=some 1:=by kernel_rfl
@[simp] theorem zxn:zav Try.prog 108=some 4:=by kernel_rfl
@[simp] theorem zxo:zan Try.prog 108=some 4:=by kernel_rfl
@[simp] theorem zv3:zdd Try.prog 108=some 4:=by kernel_rfl
@[simp] theorem zxp:zmV Try.prog 108=some (4,1):=by kernel_rfl
@[simp] theorem zxq:zoV Try.prog 108=some (4,3,1):=by kernel_rfl
@[simp] theorem zz9:places Try.prog 108=some [(0,1),(1,1),(2,1),(3,1)]:=by kernel_rfl
@[simp] theorem zxr:zav Try.prog 110=some 6:=by kernel_rfl
@[simp] theorem zxs:zan Try.prog 110=some 6:=by kernel_rfl
@[simp] theorem zAa:places Try.prog 110=some [(0,4),(4,1),(5,1)]:=by kernel_rfl
@[simp] theorem zv4:zdd Try.prog 110=some 6:=by kernel_rfl
@[simp] theorem zv5:zdv Try.prog 110=some [AV.v (.int .i64 0),AV.v (.int .i64 0),AV.v (.int .i64 0),AV.v (.int .i64 0),AV.v (.int .i64 0),AV.v (.int .i64 0)]:=by kernel_rfl
@[simp] theorem zxt:zav Try.prog 113=none:=by kernel_rfl
@[simp] theorem zAb:scalar Try.prog 113=true:=by kernel_rfl
@[simp] theorem zxu:zan Try.prog 113=some 1:=by kernel_rfl
@[simp] theorem zxv:zav Try.prog 117=some 4:=by kernel_rfl
@[simp] theorem zxw:zan Try.prog 117=some 4:=by kernel_rfl
@[simp] theorem zAc:places Try.prog 117=some [(0,1),(1,1),(2,1),(3,1)]:=by kernel_rfl
@[simp] theorem zv6:zdd Try.prog 117=some 4:=by kernel_rfl
@[simp] theorem zv7:zdv Try.prog 117=some [AV.v (.int .i64 0),AV.v (.int .i64 0),AV.v (.int .i64 0),AV.v (.int .i64 0)]:=by kernel_rfl
@[simp] theorem zxx:zav Try.prog 119=some 5:=by kernel_rfl
@[simp] theorem zxy:zan Try.prog 119=some 5:=by kernel_rfl
@[simp] theorem zAd:places Try.prog 119=some [(0,3),(3,1),(4,1)]:=by kernel_rfl
@[simp] theorem zv8:zdd Try.prog 119=some 5:=by kernel_rfl
@[simp] theorem zv9:zdv Try.prog 119=some [AV.v (.int .i64 0),AV.v (.int .i64 0),AV.v (.int .i64 0),AV.v (.int .i64 0),AV.v (.int .i64 0)]:=by kernel_rfl
@[simp] theorem zgn:zav Try.prog 125=some 3:=by kernel_rfl
@[simp] theorem zjF:zan Try.prog 125=some 3:=by kernel_rfl
@[simp] theorem zkV:places Try.prog 125=some [(0,3)]:=by kernel_rfl
@[simp] theorem zgL:zdv Try.prog 125=some [AV.v (.int .i64 0),AV.sl .nil 0 [],AV.sl .nil 0 []]:=by kernel_rfl
@[simp] theorem zxz:zav Try.prog 128=none:=by kernel_rfl
@[simp] theorem zAe:scalar Try.prog 128=true:=by kernel_rfl
@[simp] theorem zxA:zan Try.prog 128=some 1:=by kernel_rfl
@[simp] theorem zxB:zav Try.prog 130=some 3:=by kernel_rfl
@[simp] theorem zxC:zan Try.prog 130=some 3:=by kernel_rfl
@[simp] theorem zAf:places Try.prog 130=some [(0,2),(2,1)]:=by kernel_rfl
@[simp] theorem zwa:zdd Try.prog 130=some 3:=by kernel_rfl
@[simp] theorem zwb:zdv Try.prog 130=some [AV.v (.int .i64 0),AV.v (.int .i64 0),AV.v (.int .i64 0)]:=by kernel_rfl
@[simp] theorem zxD:zav Try.prog 131=none:=by kernel_rfl
@[simp] theorem zAg:scalar Try.prog 131=true:=by kernel_rfl
@[simp] theorem zxE:zan Try.prog 131=some 1:=by kernel_rfl
@[simp] theorem zxF:isSlice Try.prog 131=true:=by kernel_rfl
@[simp] theorem zAh:zb3 Try.prog 131=some 130:=by kernel_rfl
@[simp] theorem zAi:zaK Try.prog 131=some 3:=by kernel_rfl
@[simp] theorem zAj:za3 Try.prog 131=true:=by kernel_rfl
@[simp] theorem zxG:zav Try.prog 132=none:=by kernel_rfl
@[simp] theorem zAk:scalar Try.prog 132=true:=by kernel_rfl
@[simp] theorem zxH:zan Try.prog 132=some 1:=by kernel_rfl
@[simp] theorem zxI:isSlice Try.prog 132=true:=by kernel_rfl
@[simp] theorem zAl:zb3 Try.prog 132=some 131:=by kernel_rfl
@[simp] theorem zAm:zaK Try.prog 132=some 1:=by kernel_rfl
@[simp] theorem zAn:za3 Try.prog 132=true:=by kernel_rfl
@[simp] theorem zxJ:zav Try.prog 133=none:=by kernel_rfl
@[simp] theorem zAo:scalar Try.prog 133=true:=by kernel_rfl
@[simp] theorem zxK:zan Try.prog 133=some 1:=by kernel_rfl
@[simp] theorem zxL:ziR Try.prog 133=some (130,3):=by kernel_rfl
@[simp] theorem zAp:zrO Try.prog 3=some .i64:=by kernel_rfl
@[simp] theorem zxM:zav Try.prog 134=none:=by kernel_rfl
@[simp] theorem zAq:scalar Try.prog 134=true:=by kernel_rfl
@[simp] theorem zxN:zan Try.prog 134=some 1:=by kernel_rfl
@[simp] theorem zxO:isSlice Try.prog 134=true:=by kernel_rfl
@[simp] theorem zAr:zb3 Try.prog 134=some 99:=by kernel_rfl
@[simp] theorem zAs:zaK Try.prog 134=some 2:=by kernel_rfl
@[simp] theorem zAt:za3 Try.prog 134=true:=by kernel_rfl
@[simp] theorem zxP:zav Try.prog 137=some 6:=by kernel_rfl
@[simp] theorem zxQ:zan Try.prog 137=some 6:=by kernel_rfl
@[simp] theorem zAu:places Try.prog 137=some [(0,6)]:=by kernel_rfl
@[simp] theorem zwc:zdv Try.prog 137=some [AV.v (.int .i64 0),AV.v (.int .i64 0),AV.v (.int .i64 0),AV.v (.int .i64 0),AV.sl .nil 0 [],AV.sl .nil 0 []]:=by kernel_rfl
@[simp] theorem zxR:zav Try.prog 140=none:=by kernel_rfl
@[simp] theorem zAv:scalar Try.prog 140=true:=by kernel_rfl
@[simp] theorem zxS:zan Try.prog 140=some 1:=by kernel_rfl
@[simp] theorem zxT:intKind Try.prog 140=some .i64:=by kernel_rfl
@[simp] theorem zxU:zav Try.prog 142=some 3:=by kernel_rfl
@[simp] theorem zxV:zan Try.prog 142=some 3:=by kernel_rfl
@[simp] theorem zAw:places Try.prog 142=some [(0,1),(1,1),(2,1)]:=by kernel_rfl
@[simp] theorem zwd:zdv Try.prog 142=some [AV.sl .nil 0 [],AV.v (.int .i64 0),AV.v (.int .i64 0)]:=by kernel_rfl
@[simp] theorem zxW:zav Try.prog 143=none:=by kernel_rfl
@[simp] theorem zAx:scalar Try.prog 143=true:=by kernel_rfl
@[simp] theorem zxX:zan Try.prog 143=some 1:=by kernel_rfl
@[simp] theorem zxY:zav Try.prog 145=none:=by kernel_rfl
@[simp] theorem zAy:scalar Try.prog 145=true:=by kernel_rfl
@[simp] theorem zxZ:zan Try.prog 145=some 1:=by kernel_rfl
@[simp] theorem zx0:zav Try.prog 148=some 8:=by kernel_rfl
@[simp] theorem zx1:zan Try.prog 148=some 8:=by kernel_rfl
@[simp] theorem zud:places Try.prog 148=some [(0,8)]:=by kernel_rfl
@[simp] theorem zrm:zdv Try.prog 148=some [AV.v (.int .i64 0),AV.sl .nil 0 [],AV.sl .nil 0 [],AV.sl .nil 0 [],AV.sl .nil 0 [],AV.sl .nil 0 [],AV.v (.int .i64 0),AV.v (.int .i64 0)]:=by kernel_rfl
@[simp] theorem zx2:zav Try.prog 150=none:=by kernel_rfl
@[simp] theorem zAz:scalar Try.prog 150=true:=by kernel_rfl
@[simp] theorem zx3:zan Try.prog 150=some 1:=by kernel_rfl
@[simp] theorem zx4:zav Try.prog 152=none:=by kernel_rfl
@[simp] theorem zAA:scalar Try.prog 152=true:=by kernel_rfl
@[simp] theorem zx5:zan Try.prog 152=some 1:=by kernel_rfl
@[simp] theorem zjG:ziR Try.prog 152=some (3,155):=by kernel_rfl
@[simp] theorem zep:zav Try.prog 153=some 4:=by kernel_rfl
@[simp] theorem zog:zan Try.prog 153=some 4:=by kernel_rfl
@[simp] theorem zrn:zdd Try.prog 153=some 4:=by kernel_rfl
@[simp] theorem zgV:zmV Try.prog 153=some (4,1):=by kernel_rfl
@[simp] theorem zsP:zoV Try.prog 153=some (4,3,1):=by kernel_rfl
@[simp] theorem zAB:places Try.prog 153=some [(0,1),(1,1),(2,1),(3,1)]:=by kernel_rfl
@[simp] theorem zki:zdv Try.prog 153=some [AV.v (.int .i64 0),AV.v (.int .i64 0),AV.v (.int .i64 0),AV.v (.int .i64 0)]:=by kernel_rfl
@[simp] theorem zgo:zav Try.prog 155=some 7:=by kernel_rfl
@[simp] theorem zjH:zan Try.prog 155=some 7:=by kernel_rfl
@[simp] theorem zkW:places Try.prog 155=some [(0,2),(2,4),(6,1)]:=by kernel_rfl
@[simp] theorem zwe:zdd Try.prog 155=some 7:=by kernel_rfl
@[simp] theorem zfd:zdv Try.prog 155=some [AV.v (.int .i64 0),AV.v (.int .i64 0),AV.v (.int .i64 0),AV.v (.int .i64 0),AV.v (.int .i64 0),AV.v (.int .i64 0),AV.v (.int .i64 0)]:=by kernel_rfl
@[simp] theorem zly:zav Try.prog 157=none:=by kernel_rfl
@[simp] theorem zno:scalar Try.prog 157=true:=by kernel_rfl
@[simp] theorem zsQ:zan Try.prog 157=some 1:=by kernel_rfl
@[simp] theorem zro:zdv Try.prog 157=some [AV.v (.map none)]:=by kernel_rfl
@[simp] theorem zgW:ziR Try.prog 157=some (155,187):=by kernel_rfl
@[simp] theorem zx6:zav Try.prog 164=none:=by kernel_rfl
@[simp] theorem zAC:scalar Try.prog 164=true:=by kernel_rfl
@[simp] theorem zx7:zan Try.prog 164=some 1:=by kernel_rfl
@[simp] theorem zjI:isSlice Try.prog 164=true:=by kernel_rfl
@[simp] theorem ziJ:zb3 Try.prog 164=some 22:=by kernel_rfl
@[simp] theorem zd9:zaK Try.prog 164=some 1:=by kernel_rfl
@[simp] theorem ziK:za3 Try.prog 164=true:=by kernel_rfl
@[simp] theorem zx8:zav Try.prog 167=none:=by kernel_rfl
@[simp] theorem zAD:scalar Try.prog 167=true:=by kernel_rfl
@[simp] theorem zx9:zan Try.prog 167=some 1:=by kernel_rfl
@[simp] theorem zya:ziR Try.prog 167=some (110,3):=by kernel_rfl
@[simp] theorem zAE:zrO Try.prog 3=some .i64:=by kernel_rfl
@[simp] theorem zyb:zav Try.prog 169=some 5:=by kernel_rfl
@[simp] theorem zyc:zan Try.prog 169=some 5:=by kernel_rfl
@[simp] theorem zAF:places Try.prog 169=some [(0,3),(3,1),(4,1)]:=by kernel_rfl
@[simp] theorem zwf:zdv Try.prog 169=some [AV.v (.int .i64 0),AV.sl .nil 0 [],AV.sl .nil 0 [],AV.v .nilFunc,AV.v (.map none)]:=by kernel_rfl
@[simp] theorem zyd:zav Try.prog 172=none:=by kernel_rfl
@[simp] theorem zAG:scalar Try.prog 172=true:=by kernel_rfl
@[simp] theorem zye:zan Try.prog 172=some 1:=by kernel_rfl
@[simp] theorem zyf:zav Try.prog 173=none:=by kernel_rfl
@[simp] theorem zAH:scalar Try.prog 173=true:=by kernel_rfl
@[simp] theorem zyg:zan Try.prog 173=some 1:=by kernel_rfl
@[simp] theorem zyh:zav Try.prog 176=none:=by kernel_rfl
@[simp] theorem zAI:scalar Try.prog 176=true:=by kernel_rfl
@[simp] theorem zyi:zan Try.prog 176=some 1:=by kernel_rfl
@[simp] theorem zyj:zav Try.prog 178=none:=by kernel_rfl
@[simp] theorem zAJ:scalar Try.prog 178=true:=by kernel_rfl
@[simp] theorem zyk:zan Try.prog 178=some 1:=by kernel_rfl
@[simp] theorem zyl:zav Try.prog 182=none:=by kernel_rfl
@[simp] theorem zAK:scalar Try.prog 182=true:=by kernel_rfl
@[simp] theorem zym:zan Try.prog 182=some 1:=by kernel_rfl
@[simp] theorem zyn:zav Try.prog 184=none:=by kernel_rfl
@[simp] theorem zAL:scalar Try.prog 184=true:=by kernel_rfl
@[simp] theorem zyo:zan Try.prog 184=some 1:=by kernel_rfl
@[simp] theorem zsR:zav Try.prog 187=some 8:=by kernel_rfl
@[simp] theorem zjJ:zan Try.prog 187=some 8:=by kernel_rfl
@[simp] theorem zqb:places Try.prog 187=some [(0,1),(1,7)]:=by kernel_rfl
@[simp] theorem zwg:zdd Try.prog 187=some 8:=by kernel_rfl
@[simp] theorem zhu:zdv Try.prog 187=some [AV.v (.int .i64 0),AV.v (.int .i64 0),AV.v (.int .i64 0),AV.v (.int .i64 0),AV.v (.int .i64 0),AV.v (.int .i64 0),AV.v (.int .i64 0),AV.v (.int .i64 0)]:=by kernel_rfl
@[simp] theorem zjK:zav Try.prog 188=none:=by kernel_rfl
@[simp] theorem zkX:scalar Try.prog 188=true:=by kernel_rfl
@[simp] theorem zlz:zan Try.prog 188=some 1:=by kernel_rfl
@[simp] theorem zrp:zdv Try.prog 188=some [AV.sl .nil 0 []]:=by kernel_rfl
@[simp] theorem zsS:isSlice Try.prog 188=true:=by kernel_rfl
@[simp] theorem zqc:zb3 Try.prog 188=some 155:=by kernel_rfl
@[simp] theorem zjL:zaK Try.prog 188=some 7:=by kernel_rfl
@[simp] theorem znp:za3 Try.prog 188=true:=by kernel_rfl
@[simp] theorem zyp:zav Try.prog 191=none:=by kernel_rfl
@[simp] theorem zAM:scalar Try.prog 191=true:=by kernel_rfl
@[simp] theorem zyq:zan Try.prog 191=some 1:=by kernel_rfl
@[simp] theorem zyr:zav Try.prog 198=none:=by kernel_rfl
@[simp] theorem zAN:scalar Try.prog 198=true:=by kernel_rfl
@[simp] theorem zys:zan Try.prog 198=some 1:=by kernel_rfl
@[simp] theorem zyt:isSlice Try.prog 198=true:=by kernel_rfl
@[simp] theorem zqd:zb3 Try.prog 198=some 199:=by kernel_rfl
@[simp] theorem znq:zaK Try.prog 198=some 1:=by kernel_rfl
@[simp] theorem zqe:za3 Try.prog 198=true:=by kernel_rfl
@[simp] theorem zsT:zav Try.prog 199=none:=by kernel_rfl
@[simp] theorem zue:scalar Try.prog 199=true:=by kernel_rfl
@[simp] theorem zyu:zan Try.prog 199=some 1:=by kernel_rfl
@[simp] theorem zjM:isSlice Try.prog 199=true:=by kernel_rfl
@[simp] theorem zqf:zb3 Try.prog 199=some 202:=by kernel_rfl
@[simp] theorem zha:zaK Try.prog 199=some 3:=by kernel_rfl
@[simp] theorem zqg:za3 Try.prog 199=true:=by kernel_rfl
@[simp] theorem zlA:zav Try.prog 202=some 3:=by kernel_rfl
@[simp] theorem zyv:zan Try.prog 202=some 3:=by kernel_rfl
@[simp] theorem znr:places Try.prog 202=some [(0,2),(2,1)]:=by kernel_rfl
@[simp] theorem zrq:zdd Try.prog 202=some 3:=by kernel_rfl
@[simp] theorem zkj:zdv Try.prog 202=some [AV.v (.int .i64 0),AV.v (.int .i64 0),AV.v (.int .i64 0)]:=by kernel_rfl
@[simp] theorem zyw:zav Try.prog 211=some 6:=by kernel_rfl
@[simp] theorem zyx:zan Try.prog 211=some 6:=by kernel_rfl
@[simp] theorem zyy:zmV Try.prog 211=some (6,1):=by kernel_rfl
@[simp] theorem zyz:zoV Try.prog 211=some (6,176,1):=by kernel_rfl
@[simp] theorem zAO:places Try.prog 211=some [(0,1),(1,1),(2,1),(3,1),(4,1),(5,1)]:=by kernel_rfl
@[simp] theorem zwh:zdv Try.prog 211=some [AV.v .nilFunc,AV.v .nilFunc,AV.v .nilFunc,AV.v .nilFunc,AV.v .nilFunc,AV.v .nilFunc]:=by kernel_rfl
@[simp] theorem zyA:zav Try.prog 212=none:=by kernel_rfl
@[simp] theorem zAP:scalar Try.prog 212=true:=by kernel_rfl
@[simp] theorem zyB:zan Try.prog 212=some 1:=by kernel_rfl
@[simp] theorem zyC:zav Try.prog 216=none:=by kernel_rfl
@[simp] theorem zAQ:scalar Try.prog 216=true:=by kernel_rfl
@[simp] theorem zyD:zan Try.prog 216=some 1:=by kernel_rfl
@[simp] theorem zyE:intKind Try.prog 216=some .u64:=by kernel_rfl
@[simp] theorem zyF:zav Try.prog 220=none:=by kernel_rfl
@[simp] theorem zAR:scalar Try.prog 220=true:=by kernel_rfl
@[simp] theorem zyG:zan Try.prog 220=some 1:=by kernel_rfl
@[simp] theorem zyH:intKind Try.prog 220=some .i64:=by kernel_rfl
@[simp] theorem zyI:zav Try.prog 226=none:=by kernel_rfl
@[simp] theorem zAS:scalar Try.prog 226=true:=by kernel_rfl
@[simp] theorem zyJ:zan Try.prog 226=some 1:=by kernel_rfl
@[simp] theorem zyK:intKind Try.prog 226=some .u32:=by kernel_rfl
@[simp] theorem zyL:zav Try.prog 228=none:=by kernel_rfl
@[simp] theorem zAT:scalar Try.prog 228=true:=by kernel_rfl
@[simp] theorem zyM:zan Try.prog 228=some 1:=by kernel_rfl
@[simp] theorem zyN:intKind Try.prog 228=some .u64:=by kernel_rfl
@[simp] theorem zyO:zav Try.prog 229=none:=by kernel_rfl
@[simp] theorem zAU:scalar Try.prog 229=true:=by kernel_rfl
@[simp] theorem zyP:zan Try.prog 229=some 1:=by kernel_rfl
@[simp] theorem zwi:zdv Try.prog 229=some [AV.v (.int .u64 0)]:=by kernel_rfl
@[simp] theorem zyQ:intKind Try.prog 229=some .u64:=by kernel_rfl
@[simp] theorem zyR:zav Try.prog 233=none:=by kernel_rfl
@[simp] theorem zAV:scalar Try.prog 233=true:=by kernel_rfl
@[simp] theorem zyS:zan Try.prog 233=some 1:=by kernel_rfl
@[simp] theorem zyT:zav Try.prog 235=none:=by kernel_rfl
@[simp] theorem zAW:scalar Try.prog 235=true:=by kernel_rfl
@[simp] theorem zyU:zan Try.prog 235=some 1:=by kernel_rfl
@[simp] theorem zc1:zaz Try.prog 24 0=some 0:=by kernel_rfl
@[simp] theorem zfu:zaz Try.prog 24 1=some 1:=by kernel_rfl
@[simp] theorem zcC:zaz Try.prog 24 2=some 2:=by kernel_rfl
@[simp] theorem za7:zaz Try.prog 26 0=some 0:=by kernel_rfl
@[simp] theorem zco:zaz Try.prog 26 1=some 3:=by kernel_rfl
@[simp] theorem zeq:zaz Try.prog 26 2=some 4:=by kernel_rfl
@[simp] theorem zdr:zaz Try.prog 26 3=some 5:=by kernel_rfl
@[simp] theorem zfv:zaz Try.prog 26 4=some 6:=by kernel_rfl
@[simp] theorem zhv:zaz Try.prog 26 5=some 7:=by kernel_rfl
@[simp] theorem zyV:zaz Try.prog 59 0=some 0:=by kernel_rfl
@[simp] theorem zyW:zaz Try.prog 59 1=some 1:=by kernel_rfl
@[simp] theorem zyX:zaz Try.prog 62 0=some 0:=by kernel_rfl
@[simp] theorem zyY:zaz Try.prog 62 1=some 1:=by kernel_rfl
@[simp] theorem zyZ:zaz Try.prog 62 2=some 2:=by kernel_rfl
@[simp] theorem zy0:zaz Try.prog 70 0=some 0:=by kernel_rfl
@[simp] theorem zy1:zaz Try.prog 70 1=some 1:=by kernel_rfl
@[simp] theorem zy2:zaz Try.prog 70 2=some 2:=by kernel_rfl
@[simp] theorem zy3:zaz Try.prog 73 0=some 0:=by kernel_rfl
@[simp] theorem zy4:zaz Try.prog 73 1=some 1:=by kernel_rfl
@[simp] theorem zy5:zaz Try.prog 73 2=some 2:=by kernel_rfl
@[simp] theorem zy6:zaz Try.prog 73 3=some 3:=by kernel_rfl
@[simp] theorem zy7:zaz Try.prog 76 0=some 0:=by kernel_rfl
@[simp] theorem zy8:zaz Try.prog 76 1=some 1:=by kernel_rfl
@[simp] theorem zy9:zaz Try.prog 76 2=some 2:=by kernel_rfl
@[simp] theorem zza:zaz Try.prog 76 3=some 3:=by kernel_rfl
@[simp] theorem zzb:zaz Try.prog 76 4=some 4:=by kernel_rfl
@[simp] theorem zzc:zaz Try.prog 76 5=some 5:=by kernel_rfl
@[simp] theorem zzd:zaz Try.prog 81 0=some 0:=by kernel_rfl
@[simp] theorem zze:zaz Try.prog 81 1=some 1:=by kernel_rfl
@[simp] theorem zlB:zaz Try.prog 94 0=some 0:=by kernel_rfl
@[simp] theorem zzf:zaz Try.prog 94 1=some 1:=by kernel_rfl
@[simp] theorem zds:zaz Try.prog 99 0=some 0:=by kernel_rfl
@[simp] theorem zb1:zaz Try.prog 99 1=some 1:=by kernel_rfl
@[simp] theorem zwj:zaz Try.prog 110 0=some 0:=by kernel_rfl
@[simp] theorem zwk:zaz Try.prog 110 1=some 4:=by kernel_rfl
@[simp] theorem zwl:zaz Try.prog 110 2=some 5:=by kernel_rfl
@[simp] theorem zwm:zaz Try.prog 117 0=some 0:=by kernel_rfl
@[simp] theorem zwn:zaz Try.prog 117 1=some 1:=by kernel_rfl
@[simp] theorem zwo:zaz Try.prog 117 2=some 2:=by kernel_rfl
@[simp] theorem zwp:zaz Try.prog 117 3=some 3:=by kernel_rfl
@[simp] theorem zwq:zaz Try.prog 119 0=some 0:=by kernel_rfl
@[simp] theorem zwr:zaz Try.prog 119 1=some 3:=by kernel_rfl
@[simp] theorem zws:zaz Try.prog 119 2=some 4:=by kernel_rfl
@[simp] theorem zeE:zaz Try.prog 125 0=some 0:=by kernel_rfl
@[simp] theorem zwt:zaz Try.prog 130 0=some 0:=by kernel_rfl
@[simp] theorem zwu:zaz Try.prog 130 1=some 2:=by kernel_rfl
@[simp] theorem zwv:zaz Try.prog 137 0=some 0:=by kernel_rfl
@[simp] theorem zww:zaz Try.prog 142 0=some 0:=by kernel_rfl
@[simp] theorem zwx:zaz Try.prog 142 1=some 1:=by kernel_rfl
@[simp] theorem zwy:zaz Try.prog 142 2=some 2:=by kernel_rfl
@[simp] theorem zdV:zaz Try.prog 148 0=some 0:=by kernel_rfl
@[simp] theorem zcu:zaz Try.prog 155 0=some 0:=by kernel_rfl
@[simp] theorem zfR:zaz Try.prog 155 1=some 2:=by kernel_rfl
@[simp] theorem ziL:zaz Try.prog 155 2=some 6:=by kernel_rfl
@[simp] theorem zwz:zaz Try.prog 169 0=some 0:=by kernel_rfl
@[simp] theorem zwA:zaz Try.prog 169 1=some 3:=by kernel_rfl
@[simp] theorem zwB:zaz Try.prog 169 2=some 4:=by kernel_rfl
@[simp] theorem zmN:zaz Try.prog 187 0=some 0:=by kernel_rfl
@[simp] theorem zrr:zaz Try.prog 187 1=some 1:=by kernel_rfl
@[simp] theorem ziM:zaz Try.prog 202 0=some 0:=by kernel_rfl
@[simp] theorem ziN:zaz Try.prog 202 1=some 2:=by kernel_rfl
end Go.Proofs.Ytenogpmlhpcibaa
