/-
  What the abstract machine's runs want to know of this program's types.
  Conditions: none.
-/
import Derived.Test.YtenogpmlhpcibaaGreatAmRr
import Derived.Test.YtenogpmlhpcibaaGreatAmQu
import Derived.Test.YtenogpmlhpcibaaGreatAmKs
import Derived.Test.YtenogpmlhpcibaaGreatChecked
set_option linter.all false
namespace Go.Proofs.YtenogpmlhpcibaaGreat
open Go Go.AM
theorem mixed:Tryz.prog.follows .mixedOrders=true:=Tryz.checked.mixed
@[simp] theorem zae:zaT Tryz.prog 3=none:=by kernel_rfl
@[simp] theorem zak:scalar Tryz.prog 3=true:=by kernel_rfl
@[simp] theorem zea:zaG Tryz.prog 3=some 1:=by kernel_rfl
@[simp] theorem zvO:zeX Tryz.prog 3=some [AV.v (.int .i64 0)]:=by kernel_rfl
@[simp] theorem zzZ:intKind Tryz.prog 3=some .i64:=by kernel_rfl
@[simp] theorem zz0:zaT Tryz.prog 4=none:=by kernel_rfl
@[simp] theorem zAi:scalar Tryz.prog 4=true:=by kernel_rfl
@[simp] theorem zz1:zaG Tryz.prog 4=some 1:=by kernel_rfl
@[simp] theorem zzi:isBool Tryz.prog 4=true:=by kernel_rfl
@[simp] theorem zz2:zaT Tryz.prog 5=none:=by kernel_rfl
@[simp] theorem zAj:scalar Tryz.prog 5=true:=by kernel_rfl
@[simp] theorem zz3:zaG Tryz.prog 5=some 1:=by kernel_rfl
@[simp] theorem zz4:intKind Tryz.prog 5=some .u8:=by kernel_rfl
@[simp] theorem zaC:zaT Tryz.prog 22=none:=by kernel_rfl
@[simp] theorem zaO:scalar Tryz.prog 22=true:=by kernel_rfl
@[simp] theorem zmy:zaG Tryz.prog 22=some 1:=by kernel_rfl
@[simp] theorem zun:zeX Tryz.prog 22=some [AV.sl .nil 0 []]:=by kernel_rfl
@[simp] theorem zaN:isSlice Tryz.prog 22=true:=by kernel_rfl
@[simp] theorem za9:zcP Tryz.prog 22=some 3:=by kernel_rfl
@[simp] theorem zax:zaY Tryz.prog 22=some 1:=by kernel_rfl
@[simp] theorem za8:zbd Tryz.prog 22=true:=by kernel_rfl
@[simp] theorem zbN:zaT Tryz.prog 24=some 3:=by kernel_rfl
@[simp] theorem zr1:zaG Tryz.prog 24=some 3:=by kernel_rfl
@[simp] theorem zxc:places Tryz.prog 24=some [(0,1),(1,1),(2,1)]:=by kernel_rfl
@[simp] theorem zp6:zeX Tryz.prog 24=some [AV.v (.int .i64 0),AV.sl .nil 0 [],AV.sl .nil 0 []]:=by kernel_rfl
@[simp] theorem zcb:zaT Tryz.prog 26=some 8:=by kernel_rfl
@[simp] theorem zr2:zaG Tryz.prog 26=some 8:=by kernel_rfl
@[simp] theorem zz5:places Tryz.prog 26=some [(0,3),(3,1),(4,1),(5,1),(6,1),(7,1)]:=by kernel_rfl
@[simp] theorem zp7:zeX Tryz.prog 26=some [AV.v (.int .i64 0),AV.sl .nil 0 [],AV.sl .nil 0 [],AV.sl .nil 0 [],AV.sl .nil 0 [],AV.sl .nil 0 [],AV.v (.int .i64 0),AV.v (.int .i64 0)]:=by kernel_rfl
@[simp] theorem zzj:zaT Tryz.prog 30=none:=by kernel_rfl
@[simp] theorem zz6:scalar Tryz.prog 30=true:=by kernel_rfl
@[simp] theorem zzk:zaG Tryz.prog 30=some 1:=by kernel_rfl
@[simp] theorem zzl:intKind Tryz.prog 30=some .i64:=by kernel_rfl
@[simp] theorem zcE:zaT Tryz.prog 41=none:=by kernel_rfl
@[simp] theorem zdD:scalar Tryz.prog 41=true:=by kernel_rfl
@[simp] theorem zzm:zaG Tryz.prog 41=some 1:=by kernel_rfl
@[simp] theorem zfZ:isSlice Tryz.prog 41=true:=by kernel_rfl
@[simp] theorem znf:zcP Tryz.prog 41=some 88:=by kernel_rfl
@[simp] theorem zg4:zaY Tryz.prog 41=some 4:=by kernel_rfl
@[simp] theorem zng:zbd Tryz.prog 41=true:=by kernel_rfl
@[simp] theorem zcu:zaT Tryz.prog 43=some 2:=by kernel_rfl
@[simp] theorem zmz:zaG Tryz.prog 43=some 2:=by kernel_rfl
@[simp] theorem zuo:places Tryz.prog 43=some [(0,1),(1,1)]:=by kernel_rfl
@[simp] theorem zio:zeX Tryz.prog 43=some [AV.sl .nil 0 [],AV.v (.int .i64 0)]:=by kernel_rfl
@[simp] theorem zcF:zaT Tryz.prog 47=some 3:=by kernel_rfl
@[simp] theorem zc1:zaG Tryz.prog 47=some 3:=by kernel_rfl
@[simp] theorem zjo:places Tryz.prog 47=some [(0,1),(1,1),(2,1)]:=by kernel_rfl
@[simp] theorem znh:zeI Tryz.prog 47=some 3:=by kernel_rfl
@[simp] theorem zcc:zeX Tryz.prog 47=some [AV.v (.int .i64 0),AV.v (.int .i64 0),AV.v (.int .i64 0)]:=by kernel_rfl
@[simp] theorem ziQ:zaT Tryz.prog 59=none:=by kernel_rfl
@[simp] theorem zkm:scalar Tryz.prog 59=true:=by kernel_rfl
@[simp] theorem zzn:zaG Tryz.prog 59=some 1:=by kernel_rfl
@[simp] theorem zgG:zaT Tryz.prog 60=none:=by kernel_rfl
@[simp] theorem zie:scalar Tryz.prog 60=true:=by kernel_rfl
@[simp] theorem zmA:zaG Tryz.prog 60=some 1:=by kernel_rfl
@[simp] theorem zup:zeX Tryz.prog 60=some [AV.sl .nil 0 []]:=by kernel_rfl
@[simp] theorem zkS:isSlice Tryz.prog 60=true:=by kernel_rfl
@[simp] theorem zlA:zcP Tryz.prog 60=some 64:=by kernel_rfl
@[simp] theorem ziR:zaY Tryz.prog 60=some 2:=by kernel_rfl
@[simp] theorem zlB:zbd Tryz.prog 60=true:=by kernel_rfl
@[simp] theorem zzo:zaT Tryz.prog 64=some 2:=by kernel_rfl
@[simp] theorem zzp:zaG Tryz.prog 64=some 2:=by kernel_rfl
@[simp] theorem zrh:places Tryz.prog 64=some [(0,1),(1,1)]:=by kernel_rfl
@[simp] theorem zni:zeX Tryz.prog 64=some [AV.sl .nil 0 [],AV.sl .nil 0 []]:=by kernel_rfl
@[simp] theorem zzq:zaT Tryz.prog 65=none:=by kernel_rfl
@[simp] theorem zz7:scalar Tryz.prog 65=true:=by kernel_rfl
@[simp] theorem zzr:zaG Tryz.prog 65=some 1:=by kernel_rfl
@[simp] theorem zmB:isSlice Tryz.prog 65=true:=by kernel_rfl
@[simp] theorem zlC:zcP Tryz.prog 65=some 22:=by kernel_rfl
@[simp] theorem zf0:zaY Tryz.prog 65=some 1:=by kernel_rfl
@[simp] theorem zlD:zbd Tryz.prog 65=true:=by kernel_rfl
@[simp] theorem zzs:zaT Tryz.prog 68=none:=by kernel_rfl
@[simp] theorem zz8:scalar Tryz.prog 68=true:=by kernel_rfl
@[simp] theorem zzt:zaG Tryz.prog 68=some 1:=by kernel_rfl
@[simp] theorem zr3:zaT Tryz.prog 81=some 5:=by kernel_rfl
@[simp] theorem zjR:zaG Tryz.prog 81=some 5:=by kernel_rfl
@[simp] theorem zxd:places Tryz.prog 81=some [(0,3),(3,1),(4,1)]:=by kernel_rfl
@[simp] theorem zyd:zeI Tryz.prog 81=some 5:=by kernel_rfl
@[simp] theorem ziq:zeX Tryz.prog 81=some [AV.v (.int .i64 0),AV.v (.int .i64 0),AV.v (.int .i64 0),AV.v (.int .i64 0),AV.v (.int .i64 0)]:=by kernel_rfl
@[simp] theorem zeo:zaT Tryz.prog 88=some 4:=by kernel_rfl
@[simp] theorem zo6:zaG Tryz.prog 88=some 4:=by kernel_rfl
@[simp] theorem zo7:places Tryz.prog 88=some [(0,1),(1,1),(2,1),(3,1)]:=by kernel_rfl
@[simp] theorem zuq:zeI Tryz.prog 88=some 4:=by kernel_rfl
@[simp] theorem zhK:zeX Tryz.prog 88=some [AV.v (.int .i64 0),AV.v (.int .i64 0),AV.v (.int .i64 0),AV.v (.int .i64 0)]:=by kernel_rfl
@[simp] theorem zzu:zaT Tryz.prog 98=some 8:=by kernel_rfl
@[simp] theorem zzv:zaG Tryz.prog 98=some 8:=by kernel_rfl
@[simp] theorem zxe:places Tryz.prog 98=some [(0,8)]:=by kernel_rfl
@[simp] theorem zur:zeX Tryz.prog 98=some [AV.v (.int .i64 0),AV.sl .nil 0 [],AV.sl .nil 0 [],AV.sl .nil 0 [],AV.sl .nil 0 [],AV.sl .nil 0 [],AV.v (.int .i64 0),AV.v (.int .i64 0)]:=by kernel_rfl
@[simp] theorem zye:zaT Tryz.prog 101=none:=by kernel_rfl
@[simp] theorem zzw:scalar Tryz.prog 101=true:=by kernel_rfl
@[simp] theorem zyf:zaG Tryz.prog 101=some 1:=by kernel_rfl
@[simp] theorem zcO:zaT Tryz.prog 104=some 2:=by kernel_rfl
@[simp] theorem zdE:zaG Tryz.prog 104=some 2:=by kernel_rfl
@[simp] theorem zhi:places Tryz.prog 104=some [(0,1),(1,1)]:=by kernel_rfl
@[simp] theorem zxG:zeI Tryz.prog 104=some 2:=by kernel_rfl
@[simp] theorem zcd:zeX Tryz.prog 104=some [AV.v (.int .i64 0),AV.v (.int .i64 0)]:=by kernel_rfl
@[simp] theorem zus:zaT Tryz.prog 108=none:=by kernel_rfl
@[simp] theorem zvP:scalar Tryz.prog 108=true:=by kernel_rfl
@[simp] theorem zyg:zaG Tryz.prog 108=some 1:=by kernel_rfl
@[simp] theorem zyh:zaT Tryz.prog 110=none:=by kernel_rfl
@[simp] theorem zzx:scalar Tryz.prog 110=true:=by kernel_rfl
@[simp] theorem zyi:zaG Tryz.prog 110=some 1:=by kernel_rfl
@[simp] theorem zjp:zaT Tryz.prog 113=none:=by kernel_rfl
@[simp] theorem zkT:scalar Tryz.prog 113=true:=by kernel_rfl
@[simp] theorem zyj:zaG Tryz.prog 113=some 1:=by kernel_rfl
@[simp] theorem zyk:zaT Tryz.prog 115=none:=by kernel_rfl
@[simp] theorem zzy:scalar Tryz.prog 115=true:=by kernel_rfl
@[simp] theorem zyl:zaG Tryz.prog 115=some 1:=by kernel_rfl
@[simp] theorem zym:zaT Tryz.prog 119=none:=by kernel_rfl
@[simp] theorem zzz:scalar Tryz.prog 119=true:=by kernel_rfl
@[simp] theorem zyn:zaG Tryz.prog 119=some 1:=by kernel_rfl
@[simp] theorem zyo:zaT Tryz.prog 120=none:=by kernel_rfl
@[simp] theorem zzA:scalar Tryz.prog 120=true:=by kernel_rfl
@[simp] theorem zyp:zaG Tryz.prog 120=some 1:=by kernel_rfl
@[simp] theorem zyq:zaT Tryz.prog 122=none:=by kernel_rfl
@[simp] theorem zzB:scalar Tryz.prog 122=true:=by kernel_rfl
@[simp] theorem zyr:zaG Tryz.prog 122=some 1:=by kernel_rfl
@[simp] theorem zkU:zky Tryz.prog 122=some (3,126):=by kernel_rfl
@[simp] theorem zeB:zaT Tryz.prog 124=some 4:=by kernel_rfl
@[simp] theorem zp8:zaG Tryz.prog 124=some 4:=by kernel_rfl
@[simp] theorem zs4:zeI Tryz.prog 124=some 4:=by kernel_rfl
@[simp] theorem zhL:zpJ Tryz.prog 124=some (4,1):=by kernel_rfl
@[simp] theorem zut:zsu Tryz.prog 124=some (4,3,1):=by kernel_rfl
@[simp] theorem zzC:places Tryz.prog 124=some [(0,1),(1,1),(2,1),(3,1)]:=by kernel_rfl
@[simp] theorem zlE:zeX Tryz.prog 124=some [AV.v (.int .i64 0),AV.v (.int .i64 0),AV.v (.int .i64 0),AV.v (.int .i64 0)]:=by kernel_rfl
@[simp] theorem zgS:zaT Tryz.prog 126=some 7:=by kernel_rfl
@[simp] theorem zkV:zaG Tryz.prog 126=some 7:=by kernel_rfl
@[simp] theorem zmC:places Tryz.prog 126=some [(0,2),(2,4),(6,1)]:=by kernel_rfl
@[simp] theorem zxH:zeI Tryz.prog 126=some 7:=by kernel_rfl
@[simp] theorem zfB:zeX Tryz.prog 126=some [AV.v (.int .i64 0),AV.v (.int .i64 0),AV.v (.int .i64 0),AV.v (.int .i64 0),AV.v (.int .i64 0),AV.v (.int .i64 0),AV.v (.int .i64 0)]:=by kernel_rfl
@[simp] theorem znj:zaT Tryz.prog 128=none:=by kernel_rfl
@[simp] theorem zo8:scalar Tryz.prog 128=true:=by kernel_rfl
@[simp] theorem zuu:zaG Tryz.prog 128=some 1:=by kernel_rfl
@[simp] theorem zs5:zeX Tryz.prog 128=some [AV.v (.map none)]:=by kernel_rfl
@[simp] theorem zhM:zky Tryz.prog 128=some (126,154):=by kernel_rfl
@[simp] theorem zys:zaT Tryz.prog 134=none:=by kernel_rfl
@[simp] theorem zzD:scalar Tryz.prog 134=true:=by kernel_rfl
@[simp] theorem zyt:zaG Tryz.prog 134=some 1:=by kernel_rfl
@[simp] theorem zyu:zaT Tryz.prog 135=none:=by kernel_rfl
@[simp] theorem zzE:scalar Tryz.prog 135=true:=by kernel_rfl
@[simp] theorem zyv:zaG Tryz.prog 135=some 1:=by kernel_rfl
@[simp] theorem zyw:isSlice Tryz.prog 135=true:=by kernel_rfl
@[simp] theorem zr4:zcP Tryz.prog 135=some 136:=by kernel_rfl
@[simp] theorem zo9:zaY Tryz.prog 135=some 1:=by kernel_rfl
@[simp] theorem zr5:zbd Tryz.prog 135=true:=by kernel_rfl
@[simp] theorem zuv:zaT Tryz.prog 136=none:=by kernel_rfl
@[simp] theorem zvQ:scalar Tryz.prog 136=true:=by kernel_rfl
@[simp] theorem zyx:zaG Tryz.prog 136=some 1:=by kernel_rfl
@[simp] theorem zkW:isSlice Tryz.prog 136=true:=by kernel_rfl
@[simp] theorem zr6:zcP Tryz.prog 136=some 139:=by kernel_rfl
@[simp] theorem zh3:zaY Tryz.prog 136=some 3:=by kernel_rfl
@[simp] theorem zr7:zbd Tryz.prog 136=true:=by kernel_rfl
@[simp] theorem znk:zaT Tryz.prog 139=some 3:=by kernel_rfl
@[simp] theorem zyy:zaG Tryz.prog 139=some 3:=by kernel_rfl
@[simp] theorem zpa:places Tryz.prog 139=some [(0,2),(2,1)]:=by kernel_rfl
@[simp] theorem zs6:zeI Tryz.prog 139=some 3:=by kernel_rfl
@[simp] theorem zlF:zeX Tryz.prog 139=some [AV.v (.int .i64 0),AV.v (.int .i64 0),AV.v (.int .i64 0)]:=by kernel_rfl
@[simp] theorem zyz:zaT Tryz.prog 149=some 6:=by kernel_rfl
@[simp] theorem zyA:zaG Tryz.prog 149=some 6:=by kernel_rfl
@[simp] theorem zyB:zpJ Tryz.prog 149=some (6,1):=by kernel_rfl
@[simp] theorem zjq:zsu Tryz.prog 149=some (6,113,1):=by kernel_rfl
@[simp] theorem zkX:places Tryz.prog 149=some [(0,1),(1,1),(2,1),(3,1),(4,1),(5,1)]:=by kernel_rfl
@[simp] theorem zir:zeX Tryz.prog 149=some [AV.v .nilFunc,AV.v .nilFunc,AV.v .nilFunc,AV.v .nilFunc,AV.v .nilFunc,AV.v .nilFunc]:=by kernel_rfl
@[simp] theorem zyC:zaT Tryz.prog 150=some 3:=by kernel_rfl
@[simp] theorem zyD:zaG Tryz.prog 150=some 3:=by kernel_rfl
@[simp] theorem zyE:zpJ Tryz.prog 150=some (3,1):=by kernel_rfl
@[simp] theorem zuw:zsu Tryz.prog 150=some (3,22,1):=by kernel_rfl
@[simp] theorem zvR:places Tryz.prog 150=some [(0,1),(1,1),(2,1)]:=by kernel_rfl
@[simp] theorem zs7:zeX Tryz.prog 150=some [AV.sl .nil 0 [],AV.sl .nil 0 [],AV.sl .nil 0 []]:=by kernel_rfl
@[simp] theorem zux:zaT Tryz.prog 154=some 8:=by kernel_rfl
@[simp] theorem zkY:zaG Tryz.prog 154=some 8:=by kernel_rfl
@[simp] theorem zr8:places Tryz.prog 154=some [(0,1),(1,7)]:=by kernel_rfl
@[simp] theorem zxI:zeI Tryz.prog 154=some 8:=by kernel_rfl
@[simp] theorem zis:zeX Tryz.prog 154=some [AV.v (.int .i64 0),AV.v (.int .i64 0),AV.v (.int .i64 0),AV.v (.int .i64 0),AV.v (.int .i64 0),AV.v (.int .i64 0),AV.v (.int .i64 0),AV.v (.int .i64 0)]:=by kernel_rfl
@[simp] theorem zkZ:zaT Tryz.prog 155=none:=by kernel_rfl
@[simp] theorem zmD:scalar Tryz.prog 155=true:=by kernel_rfl
@[simp] theorem znl:zaG Tryz.prog 155=some 1:=by kernel_rfl
@[simp] theorem zs8:zeX Tryz.prog 155=some [AV.sl .nil 0 []]:=by kernel_rfl
@[simp] theorem zuy:isSlice Tryz.prog 155=true:=by kernel_rfl
@[simp] theorem zr9:zcP Tryz.prog 155=some 126:=by kernel_rfl
@[simp] theorem zk0:zaY Tryz.prog 155=some 7:=by kernel_rfl
@[simp] theorem zpb:zbd Tryz.prog 155=true:=by kernel_rfl
@[simp] theorem zyF:zaT Tryz.prog 158=none:=by kernel_rfl
@[simp] theorem zzF:scalar Tryz.prog 158=true:=by kernel_rfl
@[simp] theorem zyG:zaG Tryz.prog 158=some 1:=by kernel_rfl
@[simp] theorem zyH:zaT Tryz.prog 166=none:=by kernel_rfl
@[simp] theorem zzG:scalar Tryz.prog 166=true:=by kernel_rfl
@[simp] theorem zyI:zaG Tryz.prog 166=some 1:=by kernel_rfl
@[simp] theorem zyJ:intKind Tryz.prog 166=some .u64:=by kernel_rfl
@[simp] theorem zgT:zaT Tryz.prog 168=some 3:=by kernel_rfl
@[simp] theorem zk1:zaG Tryz.prog 168=some 3:=by kernel_rfl
@[simp] theorem zmE:places Tryz.prog 168=some [(0,3)]:=by kernel_rfl
@[simp] theorem zhp:zeX Tryz.prog 168=some [AV.v (.int .i64 0),AV.sl .nil 0 [],AV.sl .nil 0 []]:=by kernel_rfl
@[simp] theorem zyK:zaT Tryz.prog 171=none:=by kernel_rfl
@[simp] theorem zzH:scalar Tryz.prog 171=true:=by kernel_rfl
@[simp] theorem zyL:zaG Tryz.prog 171=some 1:=by kernel_rfl
@[simp] theorem zyM:zaT Tryz.prog 174=none:=by kernel_rfl
@[simp] theorem zzI:scalar Tryz.prog 174=true:=by kernel_rfl
@[simp] theorem zyN:zaG Tryz.prog 174=some 1:=by kernel_rfl
@[simp] theorem zyO:intKind Tryz.prog 174=some .i64:=by kernel_rfl
@[simp] theorem zyP:zaT Tryz.prog 182=none:=by kernel_rfl
@[simp] theorem zzJ:scalar Tryz.prog 182=true:=by kernel_rfl
@[simp] theorem zyQ:zaG Tryz.prog 182=some 1:=by kernel_rfl
@[simp] theorem zyR:intKind Tryz.prog 182=some .u32:=by kernel_rfl
@[simp] theorem zyS:zaT Tryz.prog 184=none:=by kernel_rfl
@[simp] theorem zzK:scalar Tryz.prog 184=true:=by kernel_rfl
@[simp] theorem zyT:zaG Tryz.prog 184=some 1:=by kernel_rfl
@[simp] theorem zyU:intKind Tryz.prog 184=some .u64:=by kernel_rfl
@[simp] theorem zyV:zaT Tryz.prog 186=none:=by kernel_rfl
@[simp] theorem zzL:scalar Tryz.prog 186=true:=by kernel_rfl
@[simp] theorem zyW:zaG Tryz.prog 186=some 1:=by kernel_rfl
@[simp] theorem zxJ:zeX Tryz.prog 186=some [AV.v (.int .u64 0)]:=by kernel_rfl
@[simp] theorem zyX:intKind Tryz.prog 186=some .u64:=by kernel_rfl
@[simp] theorem zyY:zaT Tryz.prog 190=none:=by kernel_rfl
@[simp] theorem zzM:scalar Tryz.prog 190=true:=by kernel_rfl
@[simp] theorem zyZ:zaG Tryz.prog 190=some 1:=by kernel_rfl
@[simp] theorem zy0:zaT Tryz.prog 192=none:=by kernel_rfl
@[simp] theorem zzN:scalar Tryz.prog 192=true:=by kernel_rfl
@[simp] theorem zy1:zaG Tryz.prog 192=some 1:=by kernel_rfl
@[simp] theorem zd4:za3 Tryz.prog 24 0=some 0:=by kernel_rfl
@[simp] theorem zhN:za3 Tryz.prog 24 1=some 1:=by kernel_rfl
@[simp] theorem zdc:za3 Tryz.prog 24 2=some 2:=by kernel_rfl
@[simp] theorem zbI:za3 Tryz.prog 26 0=some 0:=by kernel_rfl
@[simp] theorem zcY:za3 Tryz.prog 26 1=some 3:=by kernel_rfl
@[simp] theorem zf1:za3 Tryz.prog 26 2=some 4:=by kernel_rfl
@[simp] theorem zeC:za3 Tryz.prog 26 3=some 5:=by kernel_rfl
@[simp] theorem zit:za3 Tryz.prog 26 4=some 6:=by kernel_rfl
@[simp] theorem zk2:za3 Tryz.prog 26 5=some 7:=by kernel_rfl
@[simp] theorem zbZ:za3 Tryz.prog 43 0=some 0:=by kernel_rfl
@[simp] theorem zeD:za3 Tryz.prog 43 1=some 1:=by kernel_rfl
@[simp] theorem znm:za3 Tryz.prog 47 0=some 0:=by kernel_rfl
@[simp] theorem zd5:za3 Tryz.prog 47 1=some 1:=by kernel_rfl
@[simp] theorem zjr:za3 Tryz.prog 47 2=some 2:=by kernel_rfl
@[simp] theorem znn:za3 Tryz.prog 64 0=some 0:=by kernel_rfl
@[simp] theorem zy2:za3 Tryz.prog 64 1=some 1:=by kernel_rfl
@[simp] theorem zeE:za3 Tryz.prog 81 0=some 0:=by kernel_rfl
@[simp] theorem zeF:za3 Tryz.prog 81 1=some 3:=by kernel_rfl
@[simp] theorem zk3:za3 Tryz.prog 81 2=some 4:=by kernel_rfl
@[simp] theorem ziu:za3 Tryz.prog 88 0=some 0:=by kernel_rfl
@[simp] theorem ze3:za3 Tryz.prog 88 1=some 1:=by kernel_rfl
@[simp] theorem ziv:za3 Tryz.prog 88 2=some 2:=by kernel_rfl
@[simp] theorem zk4:za3 Tryz.prog 88 3=some 3:=by kernel_rfl
@[simp] theorem ze4:za3 Tryz.prog 98 0=some 0:=by kernel_rfl
@[simp] theorem zcV:za3 Tryz.prog 104 0=some 0:=by kernel_rfl
@[simp] theorem zby:za3 Tryz.prog 104 1=some 1:=by kernel_rfl
@[simp] theorem zcG:za3 Tryz.prog 126 0=some 0:=by kernel_rfl
@[simp] theorem zgq:za3 Tryz.prog 126 1=some 2:=by kernel_rfl
@[simp] theorem zjS:za3 Tryz.prog 126 2=some 6:=by kernel_rfl
@[simp] theorem zjT:za3 Tryz.prog 139 0=some 0:=by kernel_rfl
@[simp] theorem zjU:za3 Tryz.prog 139 1=some 2:=by kernel_rfl
@[simp] theorem zoz:za3 Tryz.prog 154 0=some 0:=by kernel_rfl
@[simp] theorem zs9:za3 Tryz.prog 154 1=some 1:=by kernel_rfl
@[simp] theorem zeT:za3 Tryz.prog 168 0=some 0:=by kernel_rfl
end Go.Proofs.YtenogpmlhpcibaaGreat
