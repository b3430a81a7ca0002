/-
  What the abstract machine's runs want to know of this program's types.
  Conditions: none.
-/
import Derived.Test.YtenogpmlhpcibaaAmRr
import Derived.Test.YtenogpmlhpcibaaAmQu
import Derived.Test.YtenogpmlhpcibaaAmKs
import Derived.Test.YtenogpmlhpcibaaChecked
set_option linter.all false
namespace Go.Proofs.Ytenogpmlhpcibaa
open Go Go.AM
theorem mixed:Try.prog.follows .mixedOrders=true:=Try.checked.mixed
@[simp] theorem zag:zaq Try.prog 3=none:=by kernel_rfl
@[simp] theorem zas:scalar Try.prog 3=true:=by kernel_rfl
@[simp] theorem zdt:zal Try.prog 3=some 1:=by kernel_rfl
@[simp] theorem zuJ:zdl Try.prog 3=some [AV.v (.int .i64 0)]:=by kernel_rfl
@[simp] theorem zBb:intKind Try.prog 3=some .i64:=by kernel_rfl
@[simp] theorem zv3:zaq Try.prog 4=none:=by kernel_rfl
@[simp] theorem zxt:scalar Try.prog 4=true:=by kernel_rfl
@[simp] theorem ztc:zal Try.prog 4=some 1:=by kernel_rfl
@[simp] theorem zuK:zdl Try.prog 4=some [AV.v (.bool false)]:=by kernel_rfl
@[simp] theorem zzK:isBool Try.prog 4=true:=by kernel_rfl
@[simp] theorem zBc:zaq Try.prog 5=none:=by kernel_rfl
@[simp] theorem zBL:scalar Try.prog 5=true:=by kernel_rfl
@[simp] theorem zBd:zal Try.prog 5=some 1:=by kernel_rfl
@[simp] theorem zBe:intKind Try.prog 5=some .u8:=by kernel_rfl
@[simp] theorem zaC:zaq Try.prog 22=none:=by kernel_rfl
@[simp] theorem zaW:scalar Try.prog 22=true:=by kernel_rfl
@[simp] theorem znk:zal Try.prog 22=some 1:=by kernel_rfl
@[simp] theorem zaT:isSlice Try.prog 22=true:=by kernel_rfl
@[simp] theorem zbT:zbU Try.prog 22=some 3:=by kernel_rfl
@[simp] theorem zaJ:zaF Try.prog 22=some 1:=by kernel_rfl
@[simp] theorem zbJ:za4 Try.prog 22=true:=by kernel_rfl
@[simp] theorem zbS:zaq Try.prog 24=some 3:=by kernel_rfl
@[simp] theorem znl:zal Try.prog 24=some 3:=by kernel_rfl
@[simp] theorem ztd:places Try.prog 24=some [(0,1),(1,1),(2,1)]:=by kernel_rfl
@[simp] theorem zji:zdl Try.prog 24=some [AV.v (.int .i64 0),AV.sl .nil 0 [],AV.sl .nil 0 []]:=by kernel_rfl
@[simp] theorem zcw:zaq Try.prog 26=some 8:=by kernel_rfl
@[simp] theorem znm:zal Try.prog 26=some 8:=by kernel_rfl
@[simp] theorem zv4:places Try.prog 26=some [(0,3),(3,1),(4,1),(5,1),(6,1),(7,1)]:=by kernel_rfl
@[simp] theorem zjj:zdl Try.prog 26=some [AV.v (.int .i64 0),AV.sl .nil 0 [],AV.sl .nil 0 [],AV.sl .nil 0 [],AV.sl .nil 0 [],AV.sl .nil 0 [],AV.v (.int .i64 0),AV.v (.int .i64 0)]:=by kernel_rfl
@[simp] theorem zzL:zaq Try.prog 30=none:=by kernel_rfl
@[simp] theorem zBf:scalar Try.prog 30=true:=by kernel_rfl
@[simp] theorem zzM:zal Try.prog 30=some 1:=by kernel_rfl
@[simp] theorem zzN:intKind Try.prog 30=some .i64:=by kernel_rfl
@[simp] theorem zzO:zaq Try.prog 50=none:=by kernel_rfl
@[simp] theorem zBg:scalar Try.prog 50=true:=by kernel_rfl
@[simp] theorem zzP:zal Try.prog 50=some 1:=by kernel_rfl
@[simp] theorem zzQ:isSlice Try.prog 50=true:=by kernel_rfl
@[simp] theorem zBh:zbU Try.prog 50=some 26:=by kernel_rfl
@[simp] theorem zBi:zaF Try.prog 50=some 8:=by kernel_rfl
@[simp] theorem zBj:za4 Try.prog 50=true:=by kernel_rfl
@[simp] theorem zzR:zaq Try.prog 57=none:=by kernel_rfl
@[simp] theorem zBk:scalar Try.prog 57=true:=by kernel_rfl
@[simp] theorem zzS:zal Try.prog 57=some 1:=by kernel_rfl
@[simp] theorem zzT:isSlice Try.prog 57=true:=by kernel_rfl
@[simp] theorem zBl:zbU Try.prog 57=some 117:=by kernel_rfl
@[simp] theorem zBm:zaF Try.prog 57=some 4:=by kernel_rfl
@[simp] theorem zBn:za4 Try.prog 57=true:=by kernel_rfl
@[simp] theorem zzU:zaq Try.prog 59=some 2:=by kernel_rfl
@[simp] theorem zzV:zal Try.prog 59=some 2:=by kernel_rfl
@[simp] theorem zBo:places Try.prog 59=some [(0,1),(1,1)]:=by kernel_rfl
@[simp] theorem zxu:zdl Try.prog 59=some [AV.sl .nil 0 [],AV.v (.int .i64 0)]:=by kernel_rfl
@[simp] theorem zzW:zaq Try.prog 62=some 3:=by kernel_rfl
@[simp] theorem zzX:zal Try.prog 62=some 3:=by kernel_rfl
@[simp] theorem zBp:places Try.prog 62=some [(0,1),(1,1),(2,1)]:=by kernel_rfl
@[simp] theorem zxv:zdf Try.prog 62=some 3:=by kernel_rfl
@[simp] theorem zxw:zdl Try.prog 62=some [AV.v (.int .i64 0),AV.v (.int .i64 0),AV.v (.int .i64 0)]:=by kernel_rfl
@[simp] theorem zzY:zaq Try.prog 70=some 3:=by kernel_rfl
@[simp] theorem zzZ:zal Try.prog 70=some 3:=by kernel_rfl
@[simp] theorem zBq:places Try.prog 70=some [(0,1),(1,1),(2,1)]:=by kernel_rfl
@[simp] theorem zxx:zdf Try.prog 70=some 3:=by kernel_rfl
@[simp] theorem zz0:zaq Try.prog 73=some 4:=by kernel_rfl
@[simp] theorem zz1:zal Try.prog 73=some 4:=by kernel_rfl
@[simp] theorem zBr:places Try.prog 73=some [(0,1),(1,1),(2,1),(3,1)]:=by kernel_rfl
@[simp] theorem zxy:zdl Try.prog 73=some [AV.v (.int .i64 0),AV.v (.int .i64 0),AV.v (.int .i64 0),AV.sl .nil 0 []]:=by kernel_rfl
@[simp] theorem zz2:zaq Try.prog 74=none:=by kernel_rfl
@[simp] theorem zBs:scalar Try.prog 74=true:=by kernel_rfl
@[simp] theorem zz3:zal Try.prog 74=some 1:=by kernel_rfl
@[simp] theorem zz4:isSlice Try.prog 74=true:=by kernel_rfl
@[simp] theorem zBt:zbU Try.prog 74=some 73:=by kernel_rfl
@[simp] theorem zBu:zaF Try.prog 74=some 4:=by kernel_rfl
@[simp] theorem zBv:za4 Try.prog 74=true:=by kernel_rfl
@[simp] theorem zz5:zaq Try.prog 76=some 6:=by kernel_rfl
@[simp] theorem zz6:zal Try.prog 76=some 6:=by kernel_rfl
@[simp] theorem zBw:places Try.prog 76=some [(0,1),(1,1),(2,1),(3,1),(4,1),(5,1)]:=by kernel_rfl
@[simp] theorem zxz:zdl Try.prog 76=some [AV.v (.int .i64 0),AV.v (.int .i64 0),AV.v (.int .i64 0),AV.v (.int .i64 0),AV.sl .nil 0 [],AV.sl .nil 0 []]:=by kernel_rfl
@[simp] theorem zz7:zaq Try.prog 81=some 2:=by kernel_rfl
@[simp] theorem zz8:zal Try.prog 81=some 2:=by kernel_rfl
@[simp] theorem zBx:places Try.prog 81=some [(0,1),(1,1)]:=by kernel_rfl
@[simp] theorem zxA:zdl Try.prog 81=some [AV.v (.int .i64 0),AV.sl .nil 0 []]:=by kernel_rfl
@[simp] theorem zz9:zaq Try.prog 82=none:=by kernel_rfl
@[simp] theorem zBy:scalar Try.prog 82=true:=by kernel_rfl
@[simp] theorem zAa:zal Try.prog 82=some 1:=by kernel_rfl
@[simp] theorem zAb:isSlice Try.prog 82=true:=by kernel_rfl
@[simp] theorem zBz:zbU Try.prog 82=some 81:=by kernel_rfl
@[simp] theorem zBA:zaF Try.prog 82=some 2:=by kernel_rfl
@[simp] theorem zBB:za4 Try.prog 82=true:=by kernel_rfl
@[simp] theorem zhu:zaq Try.prog 86=none:=by kernel_rfl
@[simp] theorem ziP:scalar Try.prog 86=true:=by kernel_rfl
@[simp] theorem zAc:zal Try.prog 86=some 1:=by kernel_rfl
@[simp] theorem zfG:zaq Try.prog 90=none:=by kernel_rfl
@[simp] theorem zgX:scalar Try.prog 90=true:=by kernel_rfl
@[simp] theorem zkU:zal Try.prog 90=some 1:=by kernel_rfl
@[simp] theorem zte:zdl Try.prog 90=some [AV.sl .nil 0 []]:=by kernel_rfl
@[simp] theorem zjk:isSlice Try.prog 90=true:=by kernel_rfl
@[simp] theorem zj1:zbU Try.prog 90=some 94:=by kernel_rfl
@[simp] theorem zhv:zaF Try.prog 90=some 2:=by kernel_rfl
@[simp] theorem zj2:za4 Try.prog 90=true:=by kernel_rfl
@[simp] theorem zAd:zaq Try.prog 94=some 2:=by kernel_rfl
@[simp] theorem zAe:zal Try.prog 94=some 2:=by kernel_rfl
@[simp] theorem zps:places Try.prog 94=some [(0,1),(1,1)]:=by kernel_rfl
@[simp] theorem zlx:zdl Try.prog 94=some [AV.sl .nil 0 [],AV.sl .nil 0 []]:=by kernel_rfl
@[simp] theorem zeO:zaq Try.prog 99=some 2:=by kernel_rfl
@[simp] theorem zgc:zal Try.prog 99=some 2:=by kernel_rfl
@[simp] theorem ziQ:places Try.prog 99=some [(0,1),(1,1)]:=by kernel_rfl
@[simp] theorem zxB:zdf Try.prog 99=some 2:=by kernel_rfl
@[simp] theorem zdV:zdl Try.prog 99=some [AV.v (.int .i64 0),AV.v (.int .i64 0)]:=by kernel_rfl
@[simp] theorem zxC:zaq Try.prog 102=some 3:=by kernel_rfl
@[simp] theorem zxD:zal Try.prog 102=some 3:=by kernel_rfl
@[simp] theorem zxE:zl9 Try.prog 102=some (3,1):=by kernel_rfl
@[simp] theorem ztf:zoV Try.prog 102=some (3,22,1):=by kernel_rfl
@[simp] theorem zuL:places Try.prog 102=some [(0,1),(1,1),(2,1)]:=by kernel_rfl
@[simp] theorem zrK:zdl Try.prog 102=some [AV.sl .nil 0 [],AV.sl .nil 0 [],AV.sl .nil 0 []]:=by kernel_rfl
@[simp] theorem ztg:zaq Try.prog 104=none:=by kernel_rfl
@[simp] theorem zuM:scalar Try.prog 104=true:=by kernel_rfl
@[simp] theorem zxF:zal Try.prog 104=some 1:=by kernel_rfl
@[simp] theorem zhY:zaq Try.prog 106=none:=by kernel_rfl
@[simp] theorem zjl:scalar Try.prog 106=true:=by kernel_rfl
@[simp] theorem zxG:zal Try.prog 106=some 1:=by kernel_rfl
@[simp] theorem zth:zaq Try.prog 108=some 4:=by kernel_rfl
@[simp] theorem zxH:zal Try.prog 108=some 4:=by kernel_rfl
@[simp] theorem zwy:zdf Try.prog 108=some 4:=by kernel_rfl
@[simp] theorem zjm:zl9 Try.prog 108=some (4,1):=by kernel_rfl
@[simp] theorem zti:zoV Try.prog 108=some (4,3,1):=by kernel_rfl
@[simp] theorem zAf:places Try.prog 108=some [(0,1),(1,1),(2,1),(3,1)]:=by kernel_rfl
@[simp] theorem zcj:zaq Try.prog 110=some 6:=by kernel_rfl
@[simp] theorem zel:zal Try.prog 110=some 6:=by kernel_rfl
@[simp] theorem zqo:places Try.prog 110=some [(0,4),(4,1),(5,1)]:=by kernel_rfl
@[simp] theorem zwz:zdf Try.prog 110=some 6:=by kernel_rfl
@[simp] theorem zcU:zdl Try.prog 110=some [AV.v (.int .i64 0),AV.v (.int .i64 0),AV.v (.int .i64 0),AV.v (.int .i64 0),AV.v (.int .i64 0),AV.v (.int .i64 0)]:=by kernel_rfl
@[simp] theorem ztj:zaq Try.prog 113=none:=by kernel_rfl
@[simp] theorem zuN:scalar Try.prog 113=true:=by kernel_rfl
@[simp] theorem zxI:zal Try.prog 113=some 1:=by kernel_rfl
@[simp] theorem zxJ:zaq Try.prog 117=some 4:=by kernel_rfl
@[simp] theorem zxK:zal Try.prog 117=some 4:=by kernel_rfl
@[simp] theorem zAg:places Try.prog 117=some [(0,1),(1,1),(2,1),(3,1)]:=by kernel_rfl
@[simp] theorem zwA:zdf Try.prog 117=some 4:=by kernel_rfl
@[simp] theorem zwB:zdl Try.prog 117=some [AV.v (.int .i64 0),AV.v (.int .i64 0),AV.v (.int .i64 0),AV.v (.int .i64 0)]:=by kernel_rfl
@[simp] theorem zxL:zaq Try.prog 119=some 5:=by kernel_rfl
@[simp] theorem zxM:zal Try.prog 119=some 5:=by kernel_rfl
@[simp] theorem zAh:places Try.prog 119=some [(0,3),(3,1),(4,1)]:=by kernel_rfl
@[simp] theorem zwC:zdf Try.prog 119=some 5:=by kernel_rfl
@[simp] theorem zwD:zdl Try.prog 119=some [AV.v (.int .i64 0),AV.v (.int .i64 0),AV.v (.int .i64 0),AV.v (.int .i64 0),AV.v (.int .i64 0)]:=by kernel_rfl
@[simp] theorem zcZ:zaq Try.prog 125=some 3:=by kernel_rfl
@[simp] theorem zgt:zal Try.prog 125=some 3:=by kernel_rfl
@[simp] theorem zkV:places Try.prog 125=some [(0,3)]:=by kernel_rfl
@[simp] theorem zez:zdl Try.prog 125=some [AV.v (.int .i64 0),AV.sl .nil 0 [],AV.sl .nil 0 []]:=by kernel_rfl
@[simp] theorem zxN:zaq Try.prog 128=none:=by kernel_rfl
@[simp] theorem zAi:scalar Try.prog 128=true:=by kernel_rfl
@[simp] theorem zxO:zal Try.prog 128=some 1:=by kernel_rfl
@[simp] theorem zjn:zaq Try.prog 130=some 3:=by kernel_rfl
@[simp] theorem zog:zal Try.prog 130=some 3:=by kernel_rfl
@[simp] theorem zqp:places Try.prog 130=some [(0,2),(2,1)]:=by kernel_rfl
@[simp] theorem zwE:zdf Try.prog 130=some 3:=by kernel_rfl
@[simp] theorem zie:zdl Try.prog 130=some [AV.v (.int .i64 0),AV.v (.int .i64 0),AV.v (.int .i64 0)]:=by kernel_rfl
@[simp] theorem zoh:zaq Try.prog 131=none:=by kernel_rfl
@[simp] theorem zqq:scalar Try.prog 131=true:=by kernel_rfl
@[simp] theorem ztk:zal Try.prog 131=some 1:=by kernel_rfl
@[simp] theorem ztl:isSlice Try.prog 131=true:=by kernel_rfl
@[simp] theorem znn:zbU Try.prog 131=some 130:=by kernel_rfl
@[simp] theorem zkW:zaF Try.prog 131=some 3:=by kernel_rfl
@[simp] theorem zno:za4 Try.prog 131=true:=by kernel_rfl
@[simp] theorem zxP:zaq Try.prog 132=none:=by kernel_rfl
@[simp] theorem zAj:scalar Try.prog 132=true:=by kernel_rfl
@[simp] theorem zxQ:zal Try.prog 132=some 1:=by kernel_rfl
@[simp] theorem ztm:isSlice Try.prog 132=true:=by kernel_rfl
@[simp] theorem zqr:zbU Try.prog 132=some 131:=by kernel_rfl
@[simp] theorem zif:zaF Try.prog 132=some 1:=by kernel_rfl
@[simp] theorem znp:za4 Try.prog 132=true:=by kernel_rfl
@[simp] theorem zxR:zaq Try.prog 133=none:=by kernel_rfl
@[simp] theorem zAk:scalar Try.prog 133=true:=by kernel_rfl
@[simp] theorem zxS:zal Try.prog 133=some 1:=by kernel_rfl
@[simp] theorem zjo:zgH Try.prog 133=some (130,3):=by kernel_rfl
@[simp] theorem znq:zhj Try.prog 3=some .i64:=by kernel_rfl
@[simp] theorem zxT:zaq Try.prog 134=none:=by kernel_rfl
@[simp] theorem zAl:scalar Try.prog 134=true:=by kernel_rfl
@[simp] theorem zxU:zal Try.prog 134=some 1:=by kernel_rfl
@[simp] theorem ztn:isSlice Try.prog 134=true:=by kernel_rfl
@[simp] theorem znr:zbU Try.prog 134=some 99:=by kernel_rfl
@[simp] theorem zkX:zaF Try.prog 134=some 2:=by kernel_rfl
@[simp] theorem zns:za4 Try.prog 134=true:=by kernel_rfl
@[simp] theorem zxV:zaq Try.prog 137=some 6:=by kernel_rfl
@[simp] theorem zxW:zal Try.prog 137=some 6:=by kernel_rfl
@[simp] theorem zAm:places Try.prog 137=some [(0,6)]:=by kernel_rfl
@[simp] theorem zwF:zdl Try.prog 137=some [AV.v (.int .i64 0),AV.v (.int .i64 0),AV.v (.int .i64 0),AV.v (.int .i64 0),AV.sl .nil 0 [],AV.sl .nil 0 []]:=by kernel_rfl
@[simp] theorem zxX:zaq Try.prog 140=none:=by kernel_rfl
@[simp] theorem zAn:scalar Try.prog 140=true:=by kernel_rfl
@[simp] theorem zxY:zal Try.prog 140=some 1:=by kernel_rfl
@[simp] theorem zxZ:intKind Try.prog 140=some .i64:=by kernel_rfl
@[simp] theorem zx0:zaq Try.prog 142=some 3:=by kernel_rfl
@[simp] theorem zx1:zal Try.prog 142=some 3:=by kernel_rfl
@[simp] theorem zAo:places Try.prog 142=some [(0,1),(1,1),(2,1)]:=by kernel_rfl
@[simp] theorem zwG:zdl Try.prog 142=some [AV.sl .nil 0 [],AV.v (.int .i64 0),AV.v (.int .i64 0)]:=by kernel_rfl
@[simp] theorem zx2:zaq Try.prog 143=none:=by kernel_rfl
@[simp] theorem zAp:scalar Try.prog 143=true:=by kernel_rfl
@[simp] theorem zx3:zal Try.prog 143=some 1:=by kernel_rfl
@[simp] theorem zx4:zaq Try.prog 145=none:=by kernel_rfl
@[simp] theorem zAq:scalar Try.prog 145=true:=by kernel_rfl
@[simp] theorem zx5:zal Try.prog 145=some 1:=by kernel_rfl
@[simp] theorem zx6:zaq Try.prog 148=some 8:=by kernel_rfl
@[simp] theorem zx7:zal Try.prog 148=some 8:=by kernel_rfl
@[simp] theorem zuO:places Try.prog 148=some [(0,8)]:=by kernel_rfl
@[simp] theorem zrL:zdl Try.prog 148=some [AV.v (.int .i64 0),AV.sl .nil 0 [],AV.sl .nil 0 [],AV.sl .nil 0 [],AV.sl .nil 0 [],AV.sl .nil 0 [],AV.v (.int .i64 0),AV.v (.int .i64 0)]:=by kernel_rfl
@[simp] theorem zx8:zaq Try.prog 150=none:=by kernel_rfl
@[simp] theorem zAr:scalar Try.prog 150=true:=by kernel_rfl
@[simp] theorem zx9:zal Try.prog 150=some 1:=by kernel_rfl
@[simp] theorem zya:zaq Try.prog 152=none:=by kernel_rfl
@[simp] theorem zAs:scalar Try.prog 152=true:=by kernel_rfl
@[simp] theorem zyb:zal Try.prog 152=some 1:=by kernel_rfl
@[simp] theorem zjp:zgH Try.prog 152=some (3,155):=by kernel_rfl
@[simp] theorem zem:zaq Try.prog 153=some 4:=by kernel_rfl
@[simp] theorem zoi:zal Try.prog 153=some 4:=by kernel_rfl
@[simp] theorem zrM:zdf Try.prog 153=some 4:=by kernel_rfl
@[simp] theorem zgu:zl9 Try.prog 153=some (4,1):=by kernel_rfl
@[simp] theorem zto:zoV Try.prog 153=some (4,3,1):=by kernel_rfl
@[simp] theorem zAt:places Try.prog 153=some [(0,1),(1,1),(2,1),(3,1)]:=by kernel_rfl
@[simp] theorem zj3:zdl Try.prog 153=some [AV.v (.int .i64 0),AV.v (.int .i64 0),AV.v (.int .i64 0),AV.v (.int .i64 0)]:=by kernel_rfl
@[simp] theorem zfP:zaq Try.prog 155=some 7:=by kernel_rfl
@[simp] theorem zjq:zal Try.prog 155=some 7:=by kernel_rfl
@[simp] theorem zkY:places Try.prog 155=some [(0,2),(2,4),(6,1)]:=by kernel_rfl
@[simp] theorem zwH:zdf Try.prog 155=some 7:=by kernel_rfl
@[simp] theorem ze4:zdl Try.prog 155=some [AV.v (.int .i64 0),AV.v (.int .i64 0),AV.v (.int .i64 0),AV.v (.int .i64 0),AV.v (.int .i64 0),AV.v (.int .i64 0),AV.v (.int .i64 0)]:=by kernel_rfl
@[simp] theorem zly:zaq Try.prog 157=none:=by kernel_rfl
@[simp] theorem znt:scalar Try.prog 157=true:=by kernel_rfl
@[simp] theorem ztp:zal Try.prog 157=some 1:=by kernel_rfl
@[simp] theorem zrN:zdl Try.prog 157=some [AV.v (.map none)]:=by kernel_rfl
@[simp] theorem zgv:zgH Try.prog 157=some (155,187):=by kernel_rfl
@[simp] theorem zyc:zaq Try.prog 164=none:=by kernel_rfl
@[simp] theorem zAu:scalar Try.prog 164=true:=by kernel_rfl
@[simp] theorem zyd:zal Try.prog 164=some 1:=by kernel_rfl
@[simp] theorem zye:isSlice Try.prog 164=true:=by kernel_rfl
@[simp] theorem zAv:zbU Try.prog 164=some 22:=by kernel_rfl
@[simp] theorem zAw:zaF Try.prog 164=some 1:=by kernel_rfl
@[simp] theorem zAx:za4 Try.prog 164=true:=by kernel_rfl
@[simp] theorem zoj:zaq Try.prog 167=none:=by kernel_rfl
@[simp] theorem zqs:scalar Try.prog 167=true:=by kernel_rfl
@[simp] theorem zyf:zal Try.prog 167=some 1:=by kernel_rfl
@[simp] theorem zjr:zgH Try.prog 167=some (110,3):=by kernel_rfl
@[simp] theorem zqt:zhj Try.prog 3=some .i64:=by kernel_rfl
@[simp] theorem zyg:zaq Try.prog 169=some 5:=by kernel_rfl
@[simp] theorem zyh:zal Try.prog 169=some 5:=by kernel_rfl
@[simp] theorem zqu:places Try.prog 169=some [(0,3),(3,1),(4,1)]:=by kernel_rfl
@[simp] theorem zmK:zdl Try.prog 169=some [AV.v (.int .i64 0),AV.sl .nil 0 [],AV.sl .nil 0 [],AV.v .nilFunc,AV.v (.map none)]:=by kernel_rfl
@[simp] theorem zyi:zaq Try.prog 172=none:=by kernel_rfl
@[simp] theorem zAy:scalar Try.prog 172=true:=by kernel_rfl
@[simp] theorem zyj:zal Try.prog 172=some 1:=by kernel_rfl
@[simp] theorem zyk:zaq Try.prog 173=none:=by kernel_rfl
@[simp] theorem zAz:scalar Try.prog 173=true:=by kernel_rfl
@[simp] theorem zyl:zal Try.prog 173=some 1:=by kernel_rfl
@[simp] theorem zym:zaq Try.prog 176=none:=by kernel_rfl
@[simp] theorem zAA:scalar Try.prog 176=true:=by kernel_rfl
@[simp] theorem zyn:zal Try.prog 176=some 1:=by kernel_rfl
@[simp] theorem zyo:zaq Try.prog 178=none:=by kernel_rfl
@[simp] theorem zAB:scalar Try.prog 178=true:=by kernel_rfl
@[simp] theorem zyp:zal Try.prog 178=some 1:=by kernel_rfl
@[simp] theorem zyq:zaq Try.prog 182=none:=by kernel_rfl
@[simp] theorem zAC:scalar Try.prog 182=true:=by kernel_rfl
@[simp] theorem zyr:zal Try.prog 182=some 1:=by kernel_rfl
@[simp] theorem zys:zaq Try.prog 184=none:=by kernel_rfl
@[simp] theorem zAD:scalar Try.prog 184=true:=by kernel_rfl
@[simp] theorem zyt:zal Try.prog 184=some 1:=by kernel_rfl
@[simp] theorem ztq:zaq Try.prog 187=some 8:=by kernel_rfl
@[simp] theorem zjs:zal Try.prog 187=some 8:=by kernel_rfl
@[simp] theorem zqv:places Try.prog 187=some [(0,1),(1,7)]:=by kernel_rfl
@[simp] theorem zwI:zdf Try.prog 187=some 8:=by kernel_rfl
@[simp] theorem zg5:zdl Try.prog 187=some [AV.v (.int .i64 0),AV.v (.int .i64 0),AV.v (.int .i64 0),AV.v (.int .i64 0),AV.v (.int .i64 0),AV.v (.int .i64 0),AV.v (.int .i64 0),AV.v (.int .i64 0)]:=by kernel_rfl
@[simp] theorem zjt:zaq Try.prog 188=none:=by kernel_rfl
@[simp] theorem zkZ:scalar Try.prog 188=true:=by kernel_rfl
@[simp] theorem zlz:zal Try.prog 188=some 1:=by kernel_rfl
@[simp] theorem zrO:zdl Try.prog 188=some [AV.sl .nil 0 []]:=by kernel_rfl
@[simp] theorem ztr:isSlice Try.prog 188=true:=by kernel_rfl
@[simp] theorem zqw:zbU Try.prog 188=some 155:=by kernel_rfl
@[simp] theorem zju:zaF Try.prog 188=some 7:=by kernel_rfl
@[simp] theorem znu:za4 Try.prog 188=true:=by kernel_rfl
@[simp] theorem zyu:zaq Try.prog 191=none:=by kernel_rfl
@[simp] theorem zAE:scalar Try.prog 191=true:=by kernel_rfl
@[simp] theorem zyv:zal Try.prog 191=some 1:=by kernel_rfl
@[simp] theorem zyw:zaq Try.prog 198=none:=by kernel_rfl
@[simp] theorem zAF:scalar Try.prog 198=true:=by kernel_rfl
@[simp] theorem zyx:zal Try.prog 198=some 1:=by kernel_rfl
@[simp] theorem zyy:isSlice Try.prog 198=true:=by kernel_rfl
@[simp] theorem zAG:zbU Try.prog 198=some 199:=by kernel_rfl
@[simp] theorem zAH:zaF Try.prog 198=some 1:=by kernel_rfl
@[simp] theorem zAI:za4 Try.prog 198=true:=by kernel_rfl
@[simp] theorem zyz:zaq Try.prog 199=none:=by kernel_rfl
@[simp] theorem zAJ:scalar Try.prog 199=true:=by kernel_rfl
@[simp] theorem zyA:zal Try.prog 199=some 1:=by kernel_rfl
@[simp] theorem zyB:isSlice Try.prog 199=true:=by kernel_rfl
@[simp] theorem zAK:zbU Try.prog 199=some 202:=by kernel_rfl
@[simp] theorem zAL:zaF Try.prog 199=some 3:=by kernel_rfl
@[simp] theorem zAM:za4 Try.prog 199=true:=by kernel_rfl
@[simp] theorem zyC:zaq Try.prog 202=some 3:=by kernel_rfl
@[simp] theorem zyD:zal Try.prog 202=some 3:=by kernel_rfl
@[simp] theorem zAN:places Try.prog 202=some [(0,2),(2,1)]:=by kernel_rfl
@[simp] theorem zwJ:zdf Try.prog 202=some 3:=by kernel_rfl
@[simp] theorem zwK:zdl Try.prog 202=some [AV.v (.int .i64 0),AV.v (.int .i64 0),AV.v (.int .i64 0)]:=by kernel_rfl
@[simp] theorem zyE:zaq Try.prog 211=some 6:=by kernel_rfl
@[simp] theorem zyF:zal Try.prog 211=some 6:=by kernel_rfl
@[simp] theorem zyG:zl9 Try.prog 211=some (6,1):=by kernel_rfl
@[simp] theorem zyH:zoV Try.prog 211=some (6,176,1):=by kernel_rfl
@[simp] theorem zAO:places Try.prog 211=some [(0,1),(1,1),(2,1),(3,1),(4,1),(5,1)]:=by kernel_rfl
@[simp] theorem zwL:zdl Try.prog 211=some [AV.v .nilFunc,AV.v .nilFunc,AV.v .nilFunc,AV.v .nilFunc,AV.v .nilFunc,AV.v .nilFunc]:=by kernel_rfl
@[simp] theorem zyI:zaq Try.prog 212=none:=by kernel_rfl
@[simp] theorem zAP:scalar Try.prog 212=true:=by kernel_rfl
@[simp] theorem zyJ:zal Try.prog 212=some 1:=by kernel_rfl
@[simp] theorem zyK:zaq Try.prog 216=none:=by kernel_rfl
@[simp] theorem zAQ:scalar Try.prog 216=true:=by kernel_rfl
@[simp] theorem zyL:zal Try.prog 216=some 1:=by kernel_rfl
@[simp] theorem zyM:intKind Try.prog 216=some .u64:=by kernel_rfl
@[simp] theorem zyN:zaq Try.prog 220=none:=by kernel_rfl
@[simp] theorem zAR:scalar Try.prog 220=true:=by kernel_rfl
@[simp] theorem zyO:zal Try.prog 220=some 1:=by kernel_rfl
@[simp] theorem zyP:intKind Try.prog 220=some .i64:=by kernel_rfl
@[simp] theorem zyQ:zaq Try.prog 226=none:=by kernel_rfl
@[simp] theorem zAS:scalar Try.prog 226=true:=by kernel_rfl
@[simp] theorem zyR:zal Try.prog 226=some 1:=by kernel_rfl
@[simp] theorem zyS:intKind Try.prog 226=some .u32:=by kernel_rfl
@[simp] theorem zyT:zaq Try.prog 228=none:=by kernel_rfl
@[simp] theorem zAT:scalar Try.prog 228=true:=by kernel_rfl
@[simp] theorem zyU:zal Try.prog 228=some 1:=by kernel_rfl
@[simp] theorem zyV:intKind Try.prog 228=some .u64:=by kernel_rfl
@[simp] theorem zyW:zaq Try.prog 229=none:=by kernel_rfl
@[simp] theorem zAU:scalar Try.prog 229=true:=by kernel_rfl
@[simp] theorem zyX:zal Try.prog 229=some 1:=by kernel_rfl
@[simp] theorem zwM:zdl Try.prog 229=some [AV.v (.int .u64 0)]:=by kernel_rfl
@[simp] theorem zyY:intKind Try.prog 229=some .u64:=by kernel_rfl
@[simp] theorem zyZ:zaq Try.prog 233=none:=by kernel_rfl
@[simp] theorem zAV:scalar Try.prog 233=true:=by kernel_rfl
@[simp] theorem zy0:zal Try.prog 233=some 1:=by kernel_rfl
@[simp] theorem zy1:zaq Try.prog 235=none:=by kernel_rfl
@[simp] theorem zAW:scalar Try.prog 235=true:=by kernel_rfl
@[simp] theorem zy2:zal Try.prog 235=some 1:=by kernel_rfl
@[simp] theorem zen:zat Try.prog 24 0=some 0:=by kernel_rfl
@[simp] theorem zgw:zat Try.prog 24 1=some 1:=by kernel_rfl
@[simp] theorem zb8:zat Try.prog 24 2=some 2:=by kernel_rfl
@[simp] theorem zb9:zat Try.prog 26 0=some 0:=by kernel_rfl
@[simp] theorem zdu:zat Try.prog 26 1=some 3:=by kernel_rfl
@[simp] theorem zgx:zat Try.prog 26 2=some 4:=by kernel_rfl
@[simp] theorem zff:zat Try.prog 26 3=some 5:=by kernel_rfl
@[simp] theorem zfg:zat Try.prog 26 4=some 6:=by kernel_rfl
@[simp] theorem zjv:zat Try.prog 26 5=some 7:=by kernel_rfl
@[simp] theorem zy3:zat Try.prog 59 0=some 0:=by kernel_rfl
@[simp] theorem zy4:zat Try.prog 59 1=some 1:=by kernel_rfl
@[simp] theorem zy5:zat Try.prog 62 0=some 0:=by kernel_rfl
@[simp] theorem zy6:zat Try.prog 62 1=some 1:=by kernel_rfl
@[simp] theorem zy7:zat Try.prog 62 2=some 2:=by kernel_rfl
@[simp] theorem zy8:zat Try.prog 70 0=some 0:=by kernel_rfl
@[simp] theorem zy9:zat Try.prog 70 1=some 1:=by kernel_rfl
@[simp] theorem zza:zat Try.prog 70 2=some 2:=by kernel_rfl
@[simp] theorem zzb:zat Try.prog 73 0=some 0:=by kernel_rfl
@[simp] theorem zzc:zat Try.prog 73 1=some 1:=by kernel_rfl
@[simp] theorem zzd:zat Try.prog 73 2=some 2:=by kernel_rfl
@[simp] theorem zze:zat Try.prog 73 3=some 3:=by kernel_rfl
@[simp] theorem zzf:zat Try.prog 76 0=some 0:=by kernel_rfl
@[simp] theorem zzg:zat Try.prog 76 1=some 1:=by kernel_rfl
@[simp] theorem zzh:zat Try.prog 76 2=some 2:=by kernel_rfl
@[simp] theorem zzi:zat Try.prog 76 3=some 3:=by kernel_rfl
@[simp] theorem zzj:zat Try.prog 76 4=some 4:=by kernel_rfl
@[simp] theorem zzk:zat Try.prog 76 5=some 5:=by kernel_rfl
@[simp] theorem zzl:zat Try.prog 81 0=some 0:=by kernel_rfl
@[simp] theorem zzm:zat Try.prog 81 1=some 1:=by kernel_rfl
@[simp] theorem zlA:zat Try.prog 94 0=some 0:=by kernel_rfl
@[simp] theorem zzn:zat Try.prog 94 1=some 1:=by kernel_rfl
@[simp] theorem zdW:zat Try.prog 99 0=some 0:=by kernel_rfl
@[simp] theorem zca:zat Try.prog 99 1=some 1:=by kernel_rfl
@[simp] theorem zg6:zat Try.prog 110 0=some 0:=by kernel_rfl
@[simp] theorem zig:zat Try.prog 110 1=some 4:=by kernel_rfl
@[simp] theorem zft:zat Try.prog 110 2=some 5:=by kernel_rfl
@[simp] theorem zwN:zat Try.prog 117 0=some 0:=by kernel_rfl
@[simp] theorem zwO:zat Try.prog 117 1=some 1:=by kernel_rfl
@[simp] theorem zwP:zat Try.prog 117 2=some 2:=by kernel_rfl
@[simp] theorem zwQ:zat Try.prog 117 3=some 3:=by kernel_rfl
@[simp] theorem zwR:zat Try.prog 119 0=some 0:=by kernel_rfl
@[simp] theorem zwS:zat Try.prog 119 1=some 3:=by kernel_rfl
@[simp] theorem zwT:zat Try.prog 119 2=some 4:=by kernel_rfl
@[simp] theorem zcV:zat Try.prog 125 0=some 0:=by kernel_rfl
@[simp] theorem zfu:zat Try.prog 130 0=some 0:=by kernel_rfl
@[simp] theorem zih:zat Try.prog 130 1=some 2:=by kernel_rfl
@[simp] theorem zwU:zat Try.prog 137 0=some 0:=by kernel_rfl
@[simp] theorem zwV:zat Try.prog 142 0=some 0:=by kernel_rfl
@[simp] theorem zwW:zat Try.prog 142 1=some 1:=by kernel_rfl
@[simp] theorem zwX:zat Try.prog 142 2=some 2:=by kernel_rfl
@[simp] theorem zd1:zat Try.prog 148 0=some 0:=by kernel_rfl
@[simp] theorem zcH:zat Try.prog 155 0=some 0:=by kernel_rfl
@[simp] theorem zfv:zat Try.prog 155 1=some 2:=by kernel_rfl
@[simp] theorem zii:zat Try.prog 155 2=some 6:=by kernel_rfl
@[simp] theorem zj4:zat Try.prog 169 0=some 0:=by kernel_rfl
@[simp] theorem zrP:zat Try.prog 169 1=some 3:=by kernel_rfl
@[simp] theorem zmL:zat Try.prog 169 2=some 4:=by kernel_rfl
@[simp] theorem zmM:zat Try.prog 187 0=some 0:=by kernel_rfl
@[simp] theorem zrQ:zat Try.prog 187 1=some 1:=by kernel_rfl
@[simp] theorem zwY:zat Try.prog 202 0=some 0:=by kernel_rfl
@[simp] theorem zwZ:zat Try.prog 202 1=some 2:=by kernel_rfl
end Go.Proofs.Ytenogpmlhpcibaa
