/-
  What the abstract machine's runs want to know of this program's types.
  Conditions: none.
-/
import Derived.Test.YtenogpmlhpcibaaGreatAmRr
import Derived.Test.YtenogpmlhpcibaaGreatAmQu
import Derived.Test.YtenogpmlhpcibaaGreatAmKs
import Derived.Test.YtenogpmlhpcibaaGreatChecked
set_option linter.all false
namespace Go.Proofs.YtenogpmlhpcibaaGreat
open Go Go.AM
theorem mixed:Tryz.prog.follows .mixedOrders=true:=Tryz.checked.mixed
@[simp] theorem zah:zaP Tryz.prog 3=none:=by kernel_rfl
@[simp] theorem zas:scalar Tryz.prog 3=true:=by kernel_rfl
@[simp] theorem ziR:zaD Tryz.prog 3=some 1:=by kernel_rfl
@[simp] theorem zuE:ze5 Tryz.prog 3=some [AV.v (.int .i64 0)]:=by kernel_rfl
@[simp] theorem zzx:intKind Tryz.prog 3=some .i64:=by kernel_rfl
@[simp] theorem zzy:zaP Tryz.prog 4=none:=by kernel_rfl
@[simp] theorem zz0:scalar Tryz.prog 4=true:=by kernel_rfl
@[simp] theorem zzz:zaD Tryz.prog 4=some 1:=by kernel_rfl
@[simp] theorem zyG:isBool Tryz.prog 4=true:=by kernel_rfl
@[simp] theorem zzA:zaP Tryz.prog 5=none:=by kernel_rfl
@[simp] theorem zz1:scalar Tryz.prog 5=true:=by kernel_rfl
@[simp] theorem zzB:zaD Tryz.prog 5=some 1:=by kernel_rfl
@[simp] theorem zzC:intKind Tryz.prog 5=some .u8:=by kernel_rfl
@[simp] theorem zao:zaP Tryz.prog 22=none:=by kernel_rfl
@[simp] theorem zaB:scalar Tryz.prog 22=true:=by kernel_rfl
@[simp] theorem zn0:zaD Tryz.prog 22=some 1:=by kernel_rfl
@[simp] theorem zxa:ze5 Tryz.prog 22=some [AV.sl .nil 0 []]:=by kernel_rfl
@[simp] theorem zaz:isSlice Tryz.prog 22=true:=by kernel_rfl
@[simp] theorem zbc:zcX Tryz.prog 22=some 3:=by kernel_rfl
@[simp] theorem zaq:zaS Tryz.prog 22=some 1:=by kernel_rfl
@[simp] theorem za9:zbi Tryz.prog 22=true:=by kernel_rfl
@[simp] theorem zbt:zaP Tryz.prog 24=some 3:=by kernel_rfl
@[simp] theorem zn1:zaD Tryz.prog 24=some 3:=by kernel_rfl
@[simp] theorem ztj:places Tryz.prog 24=some [(0,1),(1,1),(2,1)]:=by kernel_rfl
@[simp] theorem zkb:ze5 Tryz.prog 24=some [AV.v (.int .i64 0),AV.sl .nil 0 [],AV.sl .nil 0 []]:=by kernel_rfl
@[simp] theorem za4:zaP Tryz.prog 26=some 8:=by kernel_rfl
@[simp] theorem zkc:zaD Tryz.prog 26=some 8:=by kernel_rfl
@[simp] theorem zv3:places Tryz.prog 26=some [(0,3),(3,1),(4,1),(5,1),(6,1),(7,1)]:=by kernel_rfl
@[simp] theorem zh1:ze5 Tryz.prog 26=some [AV.v (.int .i64 0),AV.sl .nil 0 [],AV.sl .nil 0 [],AV.sl .nil 0 [],AV.sl .nil 0 [],AV.sl .nil 0 [],AV.v (.int .i64 0),AV.v (.int .i64 0)]:=by kernel_rfl
@[simp] theorem zyH:zaP Tryz.prog 30=none:=by kernel_rfl
@[simp] theorem zzD:scalar Tryz.prog 30=true:=by kernel_rfl
@[simp] theorem zyI:zaD Tryz.prog 30=some 1:=by kernel_rfl
@[simp] theorem zyJ:intKind Tryz.prog 30=some .i64:=by kernel_rfl
@[simp] theorem zyK:zaP Tryz.prog 41=none:=by kernel_rfl
@[simp] theorem zzE:scalar Tryz.prog 41=true:=by kernel_rfl
@[simp] theorem zyL:zaD Tryz.prog 41=some 1:=by kernel_rfl
@[simp] theorem zyM:isSlice Tryz.prog 41=true:=by kernel_rfl
@[simp] theorem zzF:zcX Tryz.prog 41=some 88:=by kernel_rfl
@[simp] theorem zzG:zaS Tryz.prog 41=some 4:=by kernel_rfl
@[simp] theorem zzH:zbi Tryz.prog 41=true:=by kernel_rfl
@[simp] theorem zyN:zaP Tryz.prog 43=some 2:=by kernel_rfl
@[simp] theorem zyO:zaD Tryz.prog 43=some 2:=by kernel_rfl
@[simp] theorem zzI:places Tryz.prog 43=some [(0,1),(1,1)]:=by kernel_rfl
@[simp] theorem zxb:ze5 Tryz.prog 43=some [AV.sl .nil 0 [],AV.v (.int .i64 0)]:=by kernel_rfl
@[simp] theorem zyP:zaP Tryz.prog 47=some 3:=by kernel_rfl
@[simp] theorem zyQ:zaD Tryz.prog 47=some 3:=by kernel_rfl
@[simp] theorem zzJ:places Tryz.prog 47=some [(0,1),(1,1),(2,1)]:=by kernel_rfl
@[simp] theorem zxc:zfe Tryz.prog 47=some 3:=by kernel_rfl
@[simp] theorem zxd:ze5 Tryz.prog 47=some [AV.v (.int .i64 0),AV.v (.int .i64 0),AV.v (.int .i64 0)]:=by kernel_rfl
@[simp] theorem ziq:zaP Tryz.prog 59=none:=by kernel_rfl
@[simp] theorem zjF:scalar Tryz.prog 59=true:=by kernel_rfl
@[simp] theorem zyR:zaD Tryz.prog 59=some 1:=by kernel_rfl
@[simp] theorem zgz:zaP Tryz.prog 60=none:=by kernel_rfl
@[simp] theorem zhN:scalar Tryz.prog 60=true:=by kernel_rfl
@[simp] theorem zlA:zaD Tryz.prog 60=some 1:=by kernel_rfl
@[simp] theorem ztk:ze5 Tryz.prog 60=some [AV.sl .nil 0 []]:=by kernel_rfl
@[simp] theorem zjg:isSlice Tryz.prog 60=true:=by kernel_rfl
@[simp] theorem zkS:zcX Tryz.prog 60=some 64:=by kernel_rfl
@[simp] theorem zgT:zaS Tryz.prog 60=some 2:=by kernel_rfl
@[simp] theorem zkT:zbi Tryz.prog 60=true:=by kernel_rfl
@[simp] theorem zuF:zaP Tryz.prog 64=some 2:=by kernel_rfl
@[simp] theorem zyS:zaD Tryz.prog 64=some 2:=by kernel_rfl
@[simp] theorem zp0:places Tryz.prog 64=some [(0,1),(1,1)]:=by kernel_rfl
@[simp] theorem zma:ze5 Tryz.prog 64=some [AV.sl .nil 0 [],AV.sl .nil 0 []]:=by kernel_rfl
@[simp] theorem zyT:zaP Tryz.prog 65=none:=by kernel_rfl
@[simp] theorem zzK:scalar Tryz.prog 65=true:=by kernel_rfl
@[simp] theorem zyU:zaD Tryz.prog 65=some 1:=by kernel_rfl
@[simp] theorem zkd:isSlice Tryz.prog 65=true:=by kernel_rfl
@[simp] theorem zkU:zcX Tryz.prog 65=some 22:=by kernel_rfl
@[simp] theorem ze3:zaS Tryz.prog 65=some 1:=by kernel_rfl
@[simp] theorem zkV:zbi Tryz.prog 65=true:=by kernel_rfl
@[simp] theorem zyV:zaP Tryz.prog 68=none:=by kernel_rfl
@[simp] theorem zzL:scalar Tryz.prog 68=true:=by kernel_rfl
@[simp] theorem zyW:zaD Tryz.prog 68=some 1:=by kernel_rfl
@[simp] theorem zyX:zaP Tryz.prog 81=some 5:=by kernel_rfl
@[simp] theorem zyY:zaD Tryz.prog 81=some 5:=by kernel_rfl
@[simp] theorem zzM:places Tryz.prog 81=some [(0,3),(3,1),(4,1)]:=by kernel_rfl
@[simp] theorem zxe:zfe Tryz.prog 81=some 5:=by kernel_rfl
@[simp] theorem zxf:ze5 Tryz.prog 81=some [AV.v (.int .i64 0),AV.v (.int .i64 0),AV.v (.int .i64 0),AV.v (.int .i64 0),AV.v (.int .i64 0)]:=by kernel_rfl
@[simp] theorem zyZ:zaP Tryz.prog 88=some 4:=by kernel_rfl
@[simp] theorem zy0:zaD Tryz.prog 88=some 4:=by kernel_rfl
@[simp] theorem zzN:places Tryz.prog 88=some [(0,1),(1,1),(2,1),(3,1)]:=by kernel_rfl
@[simp] theorem zxg:zfe Tryz.prog 88=some 4:=by kernel_rfl
@[simp] theorem zxh:ze5 Tryz.prog 88=some [AV.v (.int .i64 0),AV.v (.int .i64 0),AV.v (.int .i64 0),AV.v (.int .i64 0)]:=by kernel_rfl
@[simp] theorem zy1:zaP Tryz.prog 98=some 8:=by kernel_rfl
@[simp] theorem zy2:zaD Tryz.prog 98=some 8:=by kernel_rfl
@[simp] theorem zv4:places Tryz.prog 98=some [(0,8)]:=by kernel_rfl
@[simp] theorem ztl:ze5 Tryz.prog 98=some [AV.v (.int .i64 0),AV.sl .nil 0 [],AV.sl .nil 0 [],AV.sl .nil 0 [],AV.sl .nil 0 [],AV.sl .nil 0 [],AV.v (.int .i64 0),AV.v (.int .i64 0)]:=by kernel_rfl
@[simp] theorem zxi:zaP Tryz.prog 101=none:=by kernel_rfl
@[simp] theorem zy3:scalar Tryz.prog 101=true:=by kernel_rfl
@[simp] theorem zxj:zaD Tryz.prog 101=some 1:=by kernel_rfl
@[simp] theorem zcq:zaP Tryz.prog 104=some 2:=by kernel_rfl
@[simp] theorem zc7:zaD Tryz.prog 104=some 2:=by kernel_rfl
@[simp] theorem zg8:places Tryz.prog 104=some [(0,1),(1,1)]:=by kernel_rfl
@[simp] theorem zwz:zfe Tryz.prog 104=some 2:=by kernel_rfl
@[simp] theorem zbI:ze5 Tryz.prog 104=some [AV.v (.int .i64 0),AV.v (.int .i64 0)]:=by kernel_rfl
@[simp] theorem ztm:zaP Tryz.prog 108=none:=by kernel_rfl
@[simp] theorem zuG:scalar Tryz.prog 108=true:=by kernel_rfl
@[simp] theorem zxk:zaD Tryz.prog 108=some 1:=by kernel_rfl
@[simp] theorem zxl:zaP Tryz.prog 110=none:=by kernel_rfl
@[simp] theorem zy4:scalar Tryz.prog 110=true:=by kernel_rfl
@[simp] theorem zxm:zaD Tryz.prog 110=some 1:=by kernel_rfl
@[simp] theorem zxn:zaP Tryz.prog 113=none:=by kernel_rfl
@[simp] theorem zy5:scalar Tryz.prog 113=true:=by kernel_rfl
@[simp] theorem zxo:zaD Tryz.prog 113=some 1:=by kernel_rfl
@[simp] theorem zxp:zaP Tryz.prog 115=none:=by kernel_rfl
@[simp] theorem zy6:scalar Tryz.prog 115=true:=by kernel_rfl
@[simp] theorem zxq:zaD Tryz.prog 115=some 1:=by kernel_rfl
@[simp] theorem zxr:zaP Tryz.prog 119=none:=by kernel_rfl
@[simp] theorem zy7:scalar Tryz.prog 119=true:=by kernel_rfl
@[simp] theorem zxs:zaD Tryz.prog 119=some 1:=by kernel_rfl
@[simp] theorem zxt:zaP Tryz.prog 120=none:=by kernel_rfl
@[simp] theorem zy8:scalar Tryz.prog 120=true:=by kernel_rfl
@[simp] theorem zxu:zaD Tryz.prog 120=some 1:=by kernel_rfl
@[simp] theorem zxv:zaP Tryz.prog 122=none:=by kernel_rfl
@[simp] theorem zy9:scalar Tryz.prog 122=true:=by kernel_rfl
@[simp] theorem zxw:zaD Tryz.prog 122=some 1:=by kernel_rfl
@[simp] theorem zke:zjS Tryz.prog 122=some (3,126):=by kernel_rfl
@[simp] theorem zeI:zaP Tryz.prog 124=some 4:=by kernel_rfl
@[simp] theorem zoT:zaD Tryz.prog 124=some 4:=by kernel_rfl
@[simp] theorem zrY:zfe Tryz.prog 124=some 4:=by kernel_rfl
@[simp] theorem zhn:zov Tryz.prog 124=some (4,1):=by kernel_rfl
@[simp] theorem ztn:zrm Tryz.prog 124=some (4,3,1):=by kernel_rfl
@[simp] theorem zza:places Tryz.prog 124=some [(0,1),(1,1),(2,1),(3,1)]:=by kernel_rfl
@[simp] theorem zkW:ze5 Tryz.prog 124=some [AV.v (.int .i64 0),AV.v (.int .i64 0),AV.v (.int .i64 0),AV.v (.int .i64 0)]:=by kernel_rfl
@[simp] theorem zgK:zaP Tryz.prog 126=some 7:=by kernel_rfl
@[simp] theorem zkf:zaD Tryz.prog 126=some 7:=by kernel_rfl
@[simp] theorem zlB:places Tryz.prog 126=some [(0,2),(2,4),(6,1)]:=by kernel_rfl
@[simp] theorem zwA:zfe Tryz.prog 126=some 7:=by kernel_rfl
@[simp] theorem zfG:ze5 Tryz.prog 126=some [AV.v (.int .i64 0),AV.v (.int .i64 0),AV.v (.int .i64 0),AV.v (.int .i64 0),AV.v (.int .i64 0),AV.v (.int .i64 0),AV.v (.int .i64 0)]:=by kernel_rfl
@[simp] theorem zmb:zaP Tryz.prog 128=none:=by kernel_rfl
@[simp] theorem zn2:scalar Tryz.prog 128=true:=by kernel_rfl
@[simp] theorem zto:zaD Tryz.prog 128=some 1:=by kernel_rfl
@[simp] theorem zrZ:ze5 Tryz.prog 128=some [AV.v (.map none)]:=by kernel_rfl
@[simp] theorem zho:zjS Tryz.prog 128=some (126,154):=by kernel_rfl
@[simp] theorem zxx:zaP Tryz.prog 134=none:=by kernel_rfl
@[simp] theorem zzb:scalar Tryz.prog 134=true:=by kernel_rfl
@[simp] theorem zxy:zaD Tryz.prog 134=some 1:=by kernel_rfl
@[simp] theorem zxz:zaP Tryz.prog 135=none:=by kernel_rfl
@[simp] theorem zzc:scalar Tryz.prog 135=true:=by kernel_rfl
@[simp] theorem zxA:zaD Tryz.prog 135=some 1:=by kernel_rfl
@[simp] theorem zxB:isSlice Tryz.prog 135=true:=by kernel_rfl
@[simp] theorem zqP:zcX Tryz.prog 135=some 136:=by kernel_rfl
@[simp] theorem zn3:zaS Tryz.prog 135=some 1:=by kernel_rfl
@[simp] theorem zqQ:zbi Tryz.prog 135=true:=by kernel_rfl
@[simp] theorem ztp:zaP Tryz.prog 136=none:=by kernel_rfl
@[simp] theorem zuH:scalar Tryz.prog 136=true:=by kernel_rfl
@[simp] theorem zxC:zaD Tryz.prog 136=some 1:=by kernel_rfl
@[simp] theorem zkg:isSlice Tryz.prog 136=true:=by kernel_rfl
@[simp] theorem zqR:zcX Tryz.prog 136=some 139:=by kernel_rfl
@[simp] theorem zhE:zaS Tryz.prog 136=some 3:=by kernel_rfl
@[simp] theorem zqS:zbi Tryz.prog 136=true:=by kernel_rfl
@[simp] theorem zmc:zaP Tryz.prog 139=some 3:=by kernel_rfl
@[simp] theorem zxD:zaD Tryz.prog 139=some 3:=by kernel_rfl
@[simp] theorem zn4:places Tryz.prog 139=some [(0,2),(2,1)]:=by kernel_rfl
@[simp] theorem zr0:zfe Tryz.prog 139=some 3:=by kernel_rfl
@[simp] theorem zkX:ze5 Tryz.prog 139=some [AV.v (.int .i64 0),AV.v (.int .i64 0),AV.v (.int .i64 0)]:=by kernel_rfl
@[simp] theorem zxE:zaP Tryz.prog 149=some 6:=by kernel_rfl
@[simp] theorem zxF:zaD Tryz.prog 149=some 6:=by kernel_rfl
@[simp] theorem zxG:zov Tryz.prog 149=some (6,1):=by kernel_rfl
@[simp] theorem zxH:zrm Tryz.prog 149=some (6,113,1):=by kernel_rfl
@[simp] theorem zzd:places Tryz.prog 149=some [(0,1),(1,1),(2,1),(3,1),(4,1),(5,1)]:=by kernel_rfl
@[simp] theorem zwB:ze5 Tryz.prog 149=some [AV.v .nilFunc,AV.v .nilFunc,AV.v .nilFunc,AV.v .nilFunc,AV.v .nilFunc,AV.v .nilFunc]:=by kernel_rfl
@[simp] theorem zxI:zaP Tryz.prog 150=some 3:=by kernel_rfl
@[simp] theorem zxJ:zaD Tryz.prog 150=some 3:=by kernel_rfl
@[simp] theorem zxK:zov Tryz.prog 150=some (3,1):=by kernel_rfl
@[simp] theorem ztq:zrm Tryz.prog 150=some (3,22,1):=by kernel_rfl
@[simp] theorem zuI:places Tryz.prog 150=some [(0,1),(1,1),(2,1)]:=by kernel_rfl
@[simp] theorem zr1:ze5 Tryz.prog 150=some [AV.sl .nil 0 [],AV.sl .nil 0 [],AV.sl .nil 0 []]:=by kernel_rfl
@[simp] theorem ztr:zaP Tryz.prog 154=some 8:=by kernel_rfl
@[simp] theorem zkh:zaD Tryz.prog 154=some 8:=by kernel_rfl
@[simp] theorem zqT:places Tryz.prog 154=some [(0,1),(1,7)]:=by kernel_rfl
@[simp] theorem zwC:zfe Tryz.prog 154=some 8:=by kernel_rfl
@[simp] theorem zh2:ze5 Tryz.prog 154=some [AV.v (.int .i64 0),AV.v (.int .i64 0),AV.v (.int .i64 0),AV.v (.int .i64 0),AV.v (.int .i64 0),AV.v (.int .i64 0),AV.v (.int .i64 0),AV.v (.int .i64 0)]:=by kernel_rfl
@[simp] theorem zki:zaP Tryz.prog 155=none:=by kernel_rfl
@[simp] theorem zlC:scalar Tryz.prog 155=true:=by kernel_rfl
@[simp] theorem zmd:zaD Tryz.prog 155=some 1:=by kernel_rfl
@[simp] theorem zr2:ze5 Tryz.prog 155=some [AV.sl .nil 0 []]:=by kernel_rfl
@[simp] theorem zts:isSlice Tryz.prog 155=true:=by kernel_rfl
@[simp] theorem zqU:zcX Tryz.prog 155=some 126:=by kernel_rfl
@[simp] theorem zkj:zaS Tryz.prog 155=some 7:=by kernel_rfl
@[simp] theorem zn5:zbi Tryz.prog 155=true:=by kernel_rfl
@[simp] theorem zxL:zaP Tryz.prog 158=none:=by kernel_rfl
@[simp] theorem zze:scalar Tryz.prog 158=true:=by kernel_rfl
@[simp] theorem zxM:zaD Tryz.prog 158=some 1:=by kernel_rfl
@[simp] theorem zxN:zaP Tryz.prog 166=none:=by kernel_rfl
@[simp] theorem zzf:scalar Tryz.prog 166=true:=by kernel_rfl
@[simp] theorem zxO:zaD Tryz.prog 166=some 1:=by kernel_rfl
@[simp] theorem zxP:intKind Tryz.prog 166=some .u64:=by kernel_rfl
@[simp] theorem zgL:zaP Tryz.prog 168=some 3:=by kernel_rfl
@[simp] theorem zkk:zaD Tryz.prog 168=some 3:=by kernel_rfl
@[simp] theorem zlD:places Tryz.prog 168=some [(0,3)]:=by kernel_rfl
@[simp] theorem zhb:ze5 Tryz.prog 168=some [AV.v (.int .i64 0),AV.sl .nil 0 [],AV.sl .nil 0 []]:=by kernel_rfl
@[simp] theorem zxQ:zaP Tryz.prog 171=none:=by kernel_rfl
@[simp] theorem zzg:scalar Tryz.prog 171=true:=by kernel_rfl
@[simp] theorem zxR:zaD Tryz.prog 171=some 1:=by kernel_rfl
@[simp] theorem zxS:zaP Tryz.prog 174=none:=by kernel_rfl
@[simp] theorem zzh:scalar Tryz.prog 174=true:=by kernel_rfl
@[simp] theorem zxT:zaD Tryz.prog 174=some 1:=by kernel_rfl
@[simp] theorem zxU:intKind Tryz.prog 174=some .i64:=by kernel_rfl
@[simp] theorem zxV:zaP Tryz.prog 182=none:=by kernel_rfl
@[simp] theorem zzi:scalar Tryz.prog 182=true:=by kernel_rfl
@[simp] theorem zxW:zaD Tryz.prog 182=some 1:=by kernel_rfl
@[simp] theorem zxX:intKind Tryz.prog 182=some .u32:=by kernel_rfl
@[simp] theorem zxY:zaP Tryz.prog 184=none:=by kernel_rfl
@[simp] theorem zzj:scalar Tryz.prog 184=true:=by kernel_rfl
@[simp] theorem zxZ:zaD Tryz.prog 184=some 1:=by kernel_rfl
@[simp] theorem zx0:intKind Tryz.prog 184=some .u64:=by kernel_rfl
@[simp] theorem zx1:zaP Tryz.prog 186=none:=by kernel_rfl
@[simp] theorem zzk:scalar Tryz.prog 186=true:=by kernel_rfl
@[simp] theorem zx2:zaD Tryz.prog 186=some 1:=by kernel_rfl
@[simp] theorem zwD:ze5 Tryz.prog 186=some [AV.v (.int .u64 0)]:=by kernel_rfl
@[simp] theorem zx3:intKind Tryz.prog 186=some .u64:=by kernel_rfl
@[simp] theorem zx4:zaP Tryz.prog 190=none:=by kernel_rfl
@[simp] theorem zzl:scalar Tryz.prog 190=true:=by kernel_rfl
@[simp] theorem zx5:zaD Tryz.prog 190=some 1:=by kernel_rfl
@[simp] theorem zx6:zaP Tryz.prog 192=none:=by kernel_rfl
@[simp] theorem zzm:scalar Tryz.prog 192=true:=by kernel_rfl
@[simp] theorem zx7:zaD Tryz.prog 192=some 1:=by kernel_rfl
@[simp] theorem zdl:za1 Tryz.prog 24 0=some 0:=by kernel_rfl
@[simp] theorem zfY:za1 Tryz.prog 24 1=some 1:=by kernel_rfl
@[simp] theorem zcr:za1 Tryz.prog 24 2=some 2:=by kernel_rfl
@[simp] theorem zba:za1 Tryz.prog 26 0=some 0:=by kernel_rfl
@[simp] theorem zch:za1 Tryz.prog 26 1=some 3:=by kernel_rfl
@[simp] theorem ze9:za1 Tryz.prog 26 2=some 4:=by kernel_rfl
@[simp] theorem zea:za1 Tryz.prog 26 3=some 5:=by kernel_rfl
@[simp] theorem zfZ:za1 Tryz.prog 26 4=some 6:=by kernel_rfl
@[simp] theorem zh3:za1 Tryz.prog 26 5=some 7:=by kernel_rfl
@[simp] theorem zx8:za1 Tryz.prog 43 0=some 0:=by kernel_rfl
@[simp] theorem zx9:za1 Tryz.prog 43 1=some 1:=by kernel_rfl
@[simp] theorem zya:za1 Tryz.prog 47 0=some 0:=by kernel_rfl
@[simp] theorem zyb:za1 Tryz.prog 47 1=some 1:=by kernel_rfl
@[simp] theorem zyc:za1 Tryz.prog 47 2=some 2:=by kernel_rfl
@[simp] theorem ziS:za1 Tryz.prog 64 0=some 0:=by kernel_rfl
@[simp] theorem ztt:za1 Tryz.prog 64 1=some 1:=by kernel_rfl
@[simp] theorem zyd:za1 Tryz.prog 81 0=some 0:=by kernel_rfl
@[simp] theorem zye:za1 Tryz.prog 81 1=some 3:=by kernel_rfl
@[simp] theorem zyf:za1 Tryz.prog 81 2=some 4:=by kernel_rfl
@[simp] theorem zyg:za1 Tryz.prog 88 0=some 0:=by kernel_rfl
@[simp] theorem zyh:za1 Tryz.prog 88 1=some 1:=by kernel_rfl
@[simp] theorem zyi:za1 Tryz.prog 88 2=some 2:=by kernel_rfl
@[simp] theorem zyj:za1 Tryz.prog 88 3=some 3:=by kernel_rfl
@[simp] theorem zfa:za1 Tryz.prog 98 0=some 0:=by kernel_rfl
@[simp] theorem zc2:za1 Tryz.prog 104 0=some 0:=by kernel_rfl
@[simp] theorem zbn:za1 Tryz.prog 104 1=some 1:=by kernel_rfl
@[simp] theorem zcN:za1 Tryz.prog 126 0=some 0:=by kernel_rfl
@[simp] theorem zgh:za1 Tryz.prog 126 1=some 2:=by kernel_rfl
@[simp] theorem zjh:za1 Tryz.prog 126 2=some 6:=by kernel_rfl
@[simp] theorem zji:za1 Tryz.prog 139 0=some 0:=by kernel_rfl
@[simp] theorem zjj:za1 Tryz.prog 139 1=some 2:=by kernel_rfl
@[simp] theorem zns:za1 Tryz.prog 154 0=some 0:=by kernel_rfl
@[simp] theorem zr3:za1 Tryz.prog 154 1=some 1:=by kernel_rfl
@[simp] theorem zeX:za1 Tryz.prog 168 0=some 0:=by kernel_rfl
end Go.Proofs.YtenogpmlhpcibaaGreat
