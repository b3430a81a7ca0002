/-
  What the abstract machine's runs want to know of this program's types.
  Conditions: none.
-/
import Derived.Test.YtenogpmlhpcibaaAmRr
import Derived.Test.YtenogpmlhpcibaaAmQu
import Derived.Test.YtenogpmlhpcibaaAmKs
import Derived.Test.YtenogpmlhpcibaaChecked
set_option linter.all false
namespace Go.Proofs.Ytenogpmlhpcibaa
open Go Go.AM
theorem mixed:Try.prog.follows .mixedOrders=true:=Try.checked.mixed
@[simp] theorem zah:zap Try.prog 3=none:=by kernel_rfl
@[simp] theorem zar:scalar Try.prog 3=true:=by kernel_rfl
@[simp] theorem zen:zaj Try.prog 3=some 1:=by kernel_rfl
@[simp] theorem zmy:zcK Try.prog 3=some [AV.v (.int .i64 0)]:=by kernel_rfl
@[simp] theorem zAo:intKind Try.prog 3=some .i64:=by kernel_rfl
@[simp] theorem zuO:zap Try.prog 4=none:=by kernel_rfl
@[simp] theorem zwl:scalar Try.prog 4=true:=by kernel_rfl
@[simp] theorem zr5:zaj Try.prog 4=some 1:=by kernel_rfl
@[simp] theorem ztz:zcK Try.prog 4=some [AV.v (.bool false)]:=by kernel_rfl
@[simp] theorem zyM:isBool Try.prog 4=true:=by kernel_rfl
@[simp] theorem zAp:zap Try.prog 5=none:=by kernel_rfl
@[simp] theorem zAZ:scalar Try.prog 5=true:=by kernel_rfl
@[simp] theorem zAq:zaj Try.prog 5=some 1:=by kernel_rfl
@[simp] theorem zAr:intKind Try.prog 5=some .u8:=by kernel_rfl
@[simp] theorem zau:zap Try.prog 22=none:=by kernel_rfl
@[simp] theorem zaO:scalar Try.prog 22=true:=by kernel_rfl
@[simp] theorem zmz:zaj Try.prog 22=some 1:=by kernel_rfl
@[simp] theorem zaB:isSlice Try.prog 22=true:=by kernel_rfl
@[simp] theorem zbn:zbF Try.prog 22=some 3:=by kernel_rfl
@[simp] theorem zay:zaI Try.prog 22=some 1:=by kernel_rfl
@[simp] theorem zbi:zaY Try.prog 22=true:=by kernel_rfl
@[simp] theorem zbk:zap Try.prog 24=some 3:=by kernel_rfl
@[simp] theorem zmA:zaj Try.prog 24=some 3:=by kernel_rfl
@[simp] theorem zr6:places Try.prog 24=some [(0,1),(1,1),(2,1)]:=by kernel_rfl
@[simp] theorem ziT:zcK Try.prog 24=some [AV.v (.int .i64 0),AV.sl .nil 0 [],AV.sl .nil 0 []]:=by kernel_rfl
@[simp] theorem zcj:zap Try.prog 26=some 8:=by kernel_rfl
@[simp] theorem ziU:zaj Try.prog 26=some 8:=by kernel_rfl
@[simp] theorem zr7:places Try.prog 26=some [(0,3),(3,1),(4,1),(5,1),(6,1),(7,1)]:=by kernel_rfl
@[simp] theorem zf7:zcK Try.prog 26=some [AV.v (.int .i64 0),AV.sl .nil 0 [],AV.sl .nil 0 [],AV.sl .nil 0 [],AV.sl .nil 0 [],AV.sl .nil 0 [],AV.v (.int .i64 0),AV.v (.int .i64 0)]:=by kernel_rfl
@[simp] theorem zyN:zap Try.prog 30=none:=by kernel_rfl
@[simp] theorem zAs:scalar Try.prog 30=true:=by kernel_rfl
@[simp] theorem zyO:zaj Try.prog 30=some 1:=by kernel_rfl
@[simp] theorem zyP:intKind Try.prog 30=some .i64:=by kernel_rfl
@[simp] theorem zyQ:zap Try.prog 50=none:=by kernel_rfl
@[simp] theorem zAt:scalar Try.prog 50=true:=by kernel_rfl
@[simp] theorem zyR:zaj Try.prog 50=some 1:=by kernel_rfl
@[simp] theorem zyS:isSlice Try.prog 50=true:=by kernel_rfl
@[simp] theorem zAu:zbF Try.prog 50=some 26:=by kernel_rfl
@[simp] theorem zAv:zaI Try.prog 50=some 8:=by kernel_rfl
@[simp] theorem zAw:zaY Try.prog 50=true:=by kernel_rfl
@[simp] theorem zyT:zap Try.prog 57=none:=by kernel_rfl
@[simp] theorem zAx:scalar Try.prog 57=true:=by kernel_rfl
@[simp] theorem zyU:zaj Try.prog 57=some 1:=by kernel_rfl
@[simp] theorem zyV:isSlice Try.prog 57=true:=by kernel_rfl
@[simp] theorem zAy:zbF Try.prog 57=some 117:=by kernel_rfl
@[simp] theorem zAz:zaI Try.prog 57=some 4:=by kernel_rfl
@[simp] theorem zAA:zaY Try.prog 57=true:=by kernel_rfl
@[simp] theorem zyW:zap Try.prog 59=some 2:=by kernel_rfl
@[simp] theorem zyX:zaj Try.prog 59=some 2:=by kernel_rfl
@[simp] theorem zAB:places Try.prog 59=some [(0,1),(1,1)]:=by kernel_rfl
@[simp] theorem zwm:zcK Try.prog 59=some [AV.sl .nil 0 [],AV.v (.int .i64 0)]:=by kernel_rfl
@[simp] theorem zyY:zap Try.prog 62=some 3:=by kernel_rfl
@[simp] theorem zyZ:zaj Try.prog 62=some 3:=by kernel_rfl
@[simp] theorem zAC:places Try.prog 62=some [(0,1),(1,1),(2,1)]:=by kernel_rfl
@[simp] theorem zwn:zcZ Try.prog 62=some 3:=by kernel_rfl
@[simp] theorem zwo:zcK Try.prog 62=some [AV.v (.int .i64 0),AV.v (.int .i64 0),AV.v (.int .i64 0)]:=by kernel_rfl
@[simp] theorem zy0:zap Try.prog 70=some 3:=by kernel_rfl
@[simp] theorem zy1:zaj Try.prog 70=some 3:=by kernel_rfl
@[simp] theorem zAD:places Try.prog 70=some [(0,1),(1,1),(2,1)]:=by kernel_rfl
@[simp] theorem zwp:zcZ Try.prog 70=some 3:=by kernel_rfl
@[simp] theorem zy2:zap Try.prog 73=some 4:=by kernel_rfl
@[simp] theorem zy3:zaj Try.prog 73=some 4:=by kernel_rfl
@[simp] theorem zAE:places Try.prog 73=some [(0,1),(1,1),(2,1),(3,1)]:=by kernel_rfl
@[simp] theorem zwq:zcK Try.prog 73=some [AV.v (.int .i64 0),AV.v (.int .i64 0),AV.v (.int .i64 0),AV.sl .nil 0 []]:=by kernel_rfl
@[simp] theorem zy4:zap Try.prog 74=none:=by kernel_rfl
@[simp] theorem zAF:scalar Try.prog 74=true:=by kernel_rfl
@[simp] theorem zy5:zaj Try.prog 74=some 1:=by kernel_rfl
@[simp] theorem zy6:isSlice Try.prog 74=true:=by kernel_rfl
@[simp] theorem zAG:zbF Try.prog 74=some 73:=by kernel_rfl
@[simp] theorem zAH:zaI Try.prog 74=some 4:=by kernel_rfl
@[simp] theorem zAI:zaY Try.prog 74=true:=by kernel_rfl
@[simp] theorem zy7:zap Try.prog 76=some 6:=by kernel_rfl
@[simp] theorem zy8:zaj Try.prog 76=some 6:=by kernel_rfl
@[simp] theorem zAJ:places Try.prog 76=some [(0,1),(1,1),(2,1),(3,1),(4,1),(5,1)]:=by kernel_rfl
@[simp] theorem zwr:zcK Try.prog 76=some [AV.v (.int .i64 0),AV.v (.int .i64 0),AV.v (.int .i64 0),AV.v (.int .i64 0),AV.sl .nil 0 [],AV.sl .nil 0 []]:=by kernel_rfl
@[simp] theorem zy9:zap Try.prog 81=some 2:=by kernel_rfl
@[simp] theorem zza:zaj Try.prog 81=some 2:=by kernel_rfl
@[simp] theorem zAK:places Try.prog 81=some [(0,1),(1,1)]:=by kernel_rfl
@[simp] theorem zws:zcK Try.prog 81=some [AV.v (.int .i64 0),AV.sl .nil 0 []]:=by kernel_rfl
@[simp] theorem zzb:zap Try.prog 82=none:=by kernel_rfl
@[simp] theorem zAL:scalar Try.prog 82=true:=by kernel_rfl
@[simp] theorem zzc:zaj Try.prog 82=some 1:=by kernel_rfl
@[simp] theorem zzd:isSlice Try.prog 82=true:=by kernel_rfl
@[simp] theorem zAM:zbF Try.prog 82=some 81:=by kernel_rfl
@[simp] theorem zAN:zaI Try.prog 82=some 2:=by kernel_rfl
@[simp] theorem zAO:zaY Try.prog 82=true:=by kernel_rfl
@[simp] theorem zhc:zap Try.prog 86=none:=by kernel_rfl
@[simp] theorem zio:scalar Try.prog 86=true:=by kernel_rfl
@[simp] theorem zze:zaj Try.prog 86=some 1:=by kernel_rfl
@[simp] theorem zfh:zap Try.prog 90=none:=by kernel_rfl
@[simp] theorem zgD:scalar Try.prog 90=true:=by kernel_rfl
@[simp] theorem zke:zaj Try.prog 90=some 1:=by kernel_rfl
@[simp] theorem zr8:zcK Try.prog 90=some [AV.sl .nil 0 []]:=by kernel_rfl
@[simp] theorem ziV:isSlice Try.prog 90=true:=by kernel_rfl
@[simp] theorem zju:zbF Try.prog 90=some 94:=by kernel_rfl
@[simp] theorem zhd:zaI Try.prog 90=some 2:=by kernel_rfl
@[simp] theorem zjv:zaY Try.prog 90=true:=by kernel_rfl
@[simp] theorem zzf:zap Try.prog 94=some 2:=by kernel_rfl
@[simp] theorem zzg:zaj Try.prog 94=some 2:=by kernel_rfl
@[simp] theorem zoC:places Try.prog 94=some [(0,1),(1,1)]:=by kernel_rfl
@[simp] theorem zkW:zcK Try.prog 94=some [AV.sl .nil 0 [],AV.sl .nil 0 []]:=by kernel_rfl
@[simp] theorem zdD:zap Try.prog 99=some 2:=by kernel_rfl
@[simp] theorem zd1:zaj Try.prog 99=some 2:=by kernel_rfl
@[simp] theorem zhe:places Try.prog 99=some [(0,1),(1,1)]:=by kernel_rfl
@[simp] theorem zwt:zcZ Try.prog 99=some 2:=by kernel_rfl
@[simp] theorem zcz:zcK Try.prog 99=some [AV.v (.int .i64 0),AV.v (.int .i64 0)]:=by kernel_rfl
@[simp] theorem zwu:zap Try.prog 102=some 3:=by kernel_rfl
@[simp] theorem zwv:zaj Try.prog 102=some 3:=by kernel_rfl
@[simp] theorem zww:zlu Try.prog 102=some (3,1):=by kernel_rfl
@[simp] theorem zr9:zn7 Try.prog 102=some (3,22,1):=by kernel_rfl
@[simp] theorem ztA:places Try.prog 102=some [(0,1),(1,1),(2,1)]:=by kernel_rfl
@[simp] theorem zqE:zcK Try.prog 102=some [AV.sl .nil 0 [],AV.sl .nil 0 [],AV.sl .nil 0 []]:=by kernel_rfl
@[simp] theorem zsa:zap Try.prog 104=none:=by kernel_rfl
@[simp] theorem ztB:scalar Try.prog 104=true:=by kernel_rfl
@[simp] theorem zwx:zaj Try.prog 104=some 1:=by kernel_rfl
@[simp] theorem zhE:zap Try.prog 106=none:=by kernel_rfl
@[simp] theorem ziW:scalar Try.prog 106=true:=by kernel_rfl
@[simp] theorem zwy:zaj Try.prog 106=some 1:=by kernel_rfl
@[simp] theorem zsb:zap Try.prog 108=some 4:=by kernel_rfl
@[simp] theorem zwz:zaj Try.prog 108=some 4:=by kernel_rfl
@[simp] theorem zvm:zcZ Try.prog 108=some 4:=by kernel_rfl
@[simp] theorem ziX:zlu Try.prog 108=some (4,1):=by kernel_rfl
@[simp] theorem zsc:zn7 Try.prog 108=some (4,3,1):=by kernel_rfl
@[simp] theorem zzh:places Try.prog 108=some [(0,1),(1,1),(2,1),(3,1)]:=by kernel_rfl
@[simp] theorem zb8:zap Try.prog 110=some 6:=by kernel_rfl
@[simp] theorem zdP:zaj Try.prog 110=some 6:=by kernel_rfl
@[simp] theorem zpt:places Try.prog 110=some [(0,4),(4,1),(5,1)]:=by kernel_rfl
@[simp] theorem zvn:zcZ Try.prog 110=some 6:=by kernel_rfl
@[simp] theorem zcF:zcK Try.prog 110=some [AV.v (.int .i64 0),AV.v (.int .i64 0),AV.v (.int .i64 0),AV.v (.int .i64 0),AV.v (.int .i64 0),AV.v (.int .i64 0)]:=by kernel_rfl
@[simp] theorem zsd:zap Try.prog 113=none:=by kernel_rfl
@[simp] theorem ztC:scalar Try.prog 113=true:=by kernel_rfl
@[simp] theorem zwA:zaj Try.prog 113=some 1:=by kernel_rfl
@[simp] theorem zwB:zap Try.prog 117=some 4:=by kernel_rfl
@[simp] theorem zwC:zaj Try.prog 117=some 4:=by kernel_rfl
@[simp] theorem zzi:places Try.prog 117=some [(0,1),(1,1),(2,1),(3,1)]:=by kernel_rfl
@[simp] theorem zvo:zcZ Try.prog 117=some 4:=by kernel_rfl
@[simp] theorem zvp:zcK Try.prog 117=some [AV.v (.int .i64 0),AV.v (.int .i64 0),AV.v (.int .i64 0),AV.v (.int .i64 0)]:=by kernel_rfl
@[simp] theorem zwD:zap Try.prog 119=some 5:=by kernel_rfl
@[simp] theorem zwE:zaj Try.prog 119=some 5:=by kernel_rfl
@[simp] theorem zzj:places Try.prog 119=some [(0,3),(3,1),(4,1)]:=by kernel_rfl
@[simp] theorem zvq:zcZ Try.prog 119=some 5:=by kernel_rfl
@[simp] theorem zvr:zcK Try.prog 119=some [AV.v (.int .i64 0),AV.v (.int .i64 0),AV.v (.int .i64 0),AV.v (.int .i64 0),AV.v (.int .i64 0)]:=by kernel_rfl
@[simp] theorem zc6:zap Try.prog 125=some 3:=by kernel_rfl
@[simp] theorem zgL:zaj Try.prog 125=some 3:=by kernel_rfl
@[simp] theorem zkf:places Try.prog 125=some [(0,3)]:=by kernel_rfl
@[simp] theorem zez:zcK Try.prog 125=some [AV.v (.int .i64 0),AV.sl .nil 0 [],AV.sl .nil 0 []]:=by kernel_rfl
@[simp] theorem zwF:zap Try.prog 128=none:=by kernel_rfl
@[simp] theorem zzk:scalar Try.prog 128=true:=by kernel_rfl
@[simp] theorem zwG:zaj Try.prog 128=some 1:=by kernel_rfl
@[simp] theorem zwH:zap Try.prog 130=some 3:=by kernel_rfl
@[simp] theorem zwI:zaj Try.prog 130=some 3:=by kernel_rfl
@[simp] theorem zzl:places Try.prog 130=some [(0,2),(2,1)]:=by kernel_rfl
@[simp] theorem zvs:zcZ Try.prog 130=some 3:=by kernel_rfl
@[simp] theorem zvt:zcK Try.prog 130=some [AV.v (.int .i64 0),AV.v (.int .i64 0),AV.v (.int .i64 0)]:=by kernel_rfl
@[simp] theorem zwJ:zap Try.prog 131=none:=by kernel_rfl
@[simp] theorem zzm:scalar Try.prog 131=true:=by kernel_rfl
@[simp] theorem zwK:zaj Try.prog 131=some 1:=by kernel_rfl
@[simp] theorem zwL:isSlice Try.prog 131=true:=by kernel_rfl
@[simp] theorem zzn:zbF Try.prog 131=some 130:=by kernel_rfl
@[simp] theorem zzo:zaI Try.prog 131=some 3:=by kernel_rfl
@[simp] theorem zzp:zaY Try.prog 131=true:=by kernel_rfl
@[simp] theorem zwM:zap Try.prog 132=none:=by kernel_rfl
@[simp] theorem zzq:scalar Try.prog 132=true:=by kernel_rfl
@[simp] theorem zwN:zaj Try.prog 132=some 1:=by kernel_rfl
@[simp] theorem zwO:isSlice Try.prog 132=true:=by kernel_rfl
@[simp] theorem zzr:zbF Try.prog 132=some 131:=by kernel_rfl
@[simp] theorem zzs:zaI Try.prog 132=some 1:=by kernel_rfl
@[simp] theorem zzt:zaY Try.prog 132=true:=by kernel_rfl
@[simp] theorem zwP:zap Try.prog 133=none:=by kernel_rfl
@[simp] theorem zzu:scalar Try.prog 133=true:=by kernel_rfl
@[simp] theorem zwQ:zaj Try.prog 133=some 1:=by kernel_rfl
@[simp] theorem zwR:zgG Try.prog 133=some (130,3):=by kernel_rfl
@[simp] theorem zzv:zih Try.prog 3=some .i64:=by kernel_rfl
@[simp] theorem zwS:zap Try.prog 134=none:=by kernel_rfl
@[simp] theorem zzw:scalar Try.prog 134=true:=by kernel_rfl
@[simp] theorem zwT:zaj Try.prog 134=some 1:=by kernel_rfl
@[simp] theorem zwU:isSlice Try.prog 134=true:=by kernel_rfl
@[simp] theorem zzx:zbF Try.prog 134=some 99:=by kernel_rfl
@[simp] theorem zzy:zaI Try.prog 134=some 2:=by kernel_rfl
@[simp] theorem zzz:zaY Try.prog 134=true:=by kernel_rfl
@[simp] theorem zwV:zap Try.prog 137=some 6:=by kernel_rfl
@[simp] theorem zwW:zaj Try.prog 137=some 6:=by kernel_rfl
@[simp] theorem zzA:places Try.prog 137=some [(0,6)]:=by kernel_rfl
@[simp] theorem zvu:zcK Try.prog 137=some [AV.v (.int .i64 0),AV.v (.int .i64 0),AV.v (.int .i64 0),AV.v (.int .i64 0),AV.sl .nil 0 [],AV.sl .nil 0 []]:=by kernel_rfl
@[simp] theorem zwX:zap Try.prog 140=none:=by kernel_rfl
@[simp] theorem zzB:scalar Try.prog 140=true:=by kernel_rfl
@[simp] theorem zwY:zaj Try.prog 140=some 1:=by kernel_rfl
@[simp] theorem zwZ:intKind Try.prog 140=some .i64:=by kernel_rfl
@[simp] theorem zw0:zap Try.prog 142=some 3:=by kernel_rfl
@[simp] theorem zw1:zaj Try.prog 142=some 3:=by kernel_rfl
@[simp] theorem zzC:places Try.prog 142=some [(0,1),(1,1),(2,1)]:=by kernel_rfl
@[simp] theorem zvv:zcK Try.prog 142=some [AV.sl .nil 0 [],AV.v (.int .i64 0),AV.v (.int .i64 0)]:=by kernel_rfl
@[simp] theorem zw2:zap Try.prog 143=none:=by kernel_rfl
@[simp] theorem zzD:scalar Try.prog 143=true:=by kernel_rfl
@[simp] theorem zw3:zaj Try.prog 143=some 1:=by kernel_rfl
@[simp] theorem zw4:zap Try.prog 145=none:=by kernel_rfl
@[simp] theorem zzE:scalar Try.prog 145=true:=by kernel_rfl
@[simp] theorem zw5:zaj Try.prog 145=some 1:=by kernel_rfl
@[simp] theorem zw6:zap Try.prog 148=some 8:=by kernel_rfl
@[simp] theorem zw7:zaj Try.prog 148=some 8:=by kernel_rfl
@[simp] theorem ztD:places Try.prog 148=some [(0,8)]:=by kernel_rfl
@[simp] theorem zqF:zcK Try.prog 148=some [AV.v (.int .i64 0),AV.sl .nil 0 [],AV.sl .nil 0 [],AV.sl .nil 0 [],AV.sl .nil 0 [],AV.sl .nil 0 [],AV.v (.int .i64 0),AV.v (.int .i64 0)]:=by kernel_rfl
@[simp] theorem zw8:zap Try.prog 150=none:=by kernel_rfl
@[simp] theorem zzF:scalar Try.prog 150=true:=by kernel_rfl
@[simp] theorem zw9:zaj Try.prog 150=some 1:=by kernel_rfl
@[simp] theorem zxa:zap Try.prog 152=none:=by kernel_rfl
@[simp] theorem zzG:scalar Try.prog 152=true:=by kernel_rfl
@[simp] theorem zxb:zaj Try.prog 152=some 1:=by kernel_rfl
@[simp] theorem ziY:zgG Try.prog 152=some (3,155):=by kernel_rfl
@[simp] theorem zdQ:zap Try.prog 153=some 4:=by kernel_rfl
@[simp] theorem znt:zaj Try.prog 153=some 4:=by kernel_rfl
@[simp] theorem zqG:zcZ Try.prog 153=some 4:=by kernel_rfl
@[simp] theorem zf8:zlu Try.prog 153=some (4,1):=by kernel_rfl
@[simp] theorem zse:zn7 Try.prog 153=some (4,3,1):=by kernel_rfl
@[simp] theorem zzH:places Try.prog 153=some [(0,1),(1,1),(2,1),(3,1)]:=by kernel_rfl
@[simp] theorem zjw:zcK Try.prog 153=some [AV.v (.int .i64 0),AV.v (.int .i64 0),AV.v (.int .i64 0),AV.v (.int .i64 0)]:=by kernel_rfl
@[simp] theorem zfu:zap Try.prog 155=some 7:=by kernel_rfl
@[simp] theorem ziZ:zaj Try.prog 155=some 7:=by kernel_rfl
@[simp] theorem zkg:places Try.prog 155=some [(0,2),(2,4),(6,1)]:=by kernel_rfl
@[simp] theorem zvw:zcZ Try.prog 155=some 7:=by kernel_rfl
@[simp] theorem zeA:zcK Try.prog 155=some [AV.v (.int .i64 0),AV.v (.int .i64 0),AV.v (.int .i64 0),AV.v (.int .i64 0),AV.v (.int .i64 0),AV.v (.int .i64 0),AV.v (.int .i64 0)]:=by kernel_rfl
@[simp] theorem zkX:zap Try.prog 157=none:=by kernel_rfl
@[simp] theorem zmB:scalar Try.prog 157=true:=by kernel_rfl
@[simp] theorem zsf:zaj Try.prog 157=some 1:=by kernel_rfl
@[simp] theorem zqH:zcK Try.prog 157=some [AV.v (.map none)]:=by kernel_rfl
@[simp] theorem zf9:zgG Try.prog 157=some (155,187):=by kernel_rfl
@[simp] theorem zxc:zap Try.prog 164=none:=by kernel_rfl
@[simp] theorem zzI:scalar Try.prog 164=true:=by kernel_rfl
@[simp] theorem zxd:zaj Try.prog 164=some 1:=by kernel_rfl
@[simp] theorem zxe:isSlice Try.prog 164=true:=by kernel_rfl
@[simp] theorem zzJ:zbF Try.prog 164=some 22:=by kernel_rfl
@[simp] theorem zzK:zaI Try.prog 164=some 1:=by kernel_rfl
@[simp] theorem zzL:zaY Try.prog 164=true:=by kernel_rfl
@[simp] theorem znu:zap Try.prog 167=none:=by kernel_rfl
@[simp] theorem zpu:scalar Try.prog 167=true:=by kernel_rfl
@[simp] theorem zxf:zaj Try.prog 167=some 1:=by kernel_rfl
@[simp] theorem zi0:zgG Try.prog 167=some (110,3):=by kernel_rfl
@[simp] theorem zpv:zih Try.prog 3=some .i64:=by kernel_rfl
@[simp] theorem zxg:zap Try.prog 169=some 5:=by kernel_rfl
@[simp] theorem zxh:zaj Try.prog 169=some 5:=by kernel_rfl
@[simp] theorem zpw:places Try.prog 169=some [(0,3),(3,1),(4,1)]:=by kernel_rfl
@[simp] theorem zl2:zcK Try.prog 169=some [AV.v (.int .i64 0),AV.sl .nil 0 [],AV.sl .nil 0 [],AV.v .nilFunc,AV.v (.map none)]:=by kernel_rfl
@[simp] theorem zxi:zap Try.prog 172=none:=by kernel_rfl
@[simp] theorem zzM:scalar Try.prog 172=true:=by kernel_rfl
@[simp] theorem zxj:zaj Try.prog 172=some 1:=by kernel_rfl
@[simp] theorem zxk:zap Try.prog 173=none:=by kernel_rfl
@[simp] theorem zzN:scalar Try.prog 173=true:=by kernel_rfl
@[simp] theorem zxl:zaj Try.prog 173=some 1:=by kernel_rfl
@[simp] theorem zxm:zap Try.prog 176=none:=by kernel_rfl
@[simp] theorem zzO:scalar Try.prog 176=true:=by kernel_rfl
@[simp] theorem zxn:zaj Try.prog 176=some 1:=by kernel_rfl
@[simp] theorem zxo:zap Try.prog 178=none:=by kernel_rfl
@[simp] theorem zzP:scalar Try.prog 178=true:=by kernel_rfl
@[simp] theorem zxp:zaj Try.prog 178=some 1:=by kernel_rfl
@[simp] theorem zxq:zap Try.prog 182=none:=by kernel_rfl
@[simp] theorem zzQ:scalar Try.prog 182=true:=by kernel_rfl
@[simp] theorem zxr:zaj Try.prog 182=some 1:=by kernel_rfl
@[simp] theorem zxs:zap Try.prog 184=none:=by kernel_rfl
@[simp] theorem zzR:scalar Try.prog 184=true:=by kernel_rfl
@[simp] theorem zxt:zaj Try.prog 184=some 1:=by kernel_rfl
@[simp] theorem zsg:zap Try.prog 187=some 8:=by kernel_rfl
@[simp] theorem zi1:zaj Try.prog 187=some 8:=by kernel_rfl
@[simp] theorem zpx:places Try.prog 187=some [(0,1),(1,7)]:=by kernel_rfl
@[simp] theorem zvx:zcZ Try.prog 187=some 8:=by kernel_rfl
@[simp] theorem zgM:zcK Try.prog 187=some [AV.v (.int .i64 0),AV.v (.int .i64 0),AV.v (.int .i64 0),AV.v (.int .i64 0),AV.v (.int .i64 0),AV.v (.int .i64 0),AV.v (.int .i64 0),AV.v (.int .i64 0)]:=by kernel_rfl
@[simp] theorem zi2:zap Try.prog 188=none:=by kernel_rfl
@[simp] theorem zkh:scalar Try.prog 188=true:=by kernel_rfl
@[simp] theorem zkY:zaj Try.prog 188=some 1:=by kernel_rfl
@[simp] theorem zqI:zcK Try.prog 188=some [AV.sl .nil 0 []]:=by kernel_rfl
@[simp] theorem zsh:isSlice Try.prog 188=true:=by kernel_rfl
@[simp] theorem zpy:zbF Try.prog 188=some 155:=by kernel_rfl
@[simp] theorem zi3:zaI Try.prog 188=some 7:=by kernel_rfl
@[simp] theorem zmC:zaY Try.prog 188=true:=by kernel_rfl
@[simp] theorem zxu:zap Try.prog 191=none:=by kernel_rfl
@[simp] theorem zzS:scalar Try.prog 191=true:=by kernel_rfl
@[simp] theorem zxv:zaj Try.prog 191=some 1:=by kernel_rfl
@[simp] theorem zxw:zap Try.prog 198=none:=by kernel_rfl
@[simp] theorem zzT:scalar Try.prog 198=true:=by kernel_rfl
@[simp] theorem zxx:zaj Try.prog 198=some 1:=by kernel_rfl
@[simp] theorem zxy:isSlice Try.prog 198=true:=by kernel_rfl
@[simp] theorem zzU:zbF Try.prog 198=some 199:=by kernel_rfl
@[simp] theorem zzV:zaI Try.prog 198=some 1:=by kernel_rfl
@[simp] theorem zzW:zaY Try.prog 198=true:=by kernel_rfl
@[simp] theorem zxz:zap Try.prog 199=none:=by kernel_rfl
@[simp] theorem zzX:scalar Try.prog 199=true:=by kernel_rfl
@[simp] theorem zxA:zaj Try.prog 199=some 1:=by kernel_rfl
@[simp] theorem zxB:isSlice Try.prog 199=true:=by kernel_rfl
@[simp] theorem zzY:zbF Try.prog 199=some 202:=by kernel_rfl
@[simp] theorem zzZ:zaI Try.prog 199=some 3:=by kernel_rfl
@[simp] theorem zz0:zaY Try.prog 199=true:=by kernel_rfl
@[simp] theorem zxC:zap Try.prog 202=some 3:=by kernel_rfl
@[simp] theorem zxD:zaj Try.prog 202=some 3:=by kernel_rfl
@[simp] theorem zz1:places Try.prog 202=some [(0,2),(2,1)]:=by kernel_rfl
@[simp] theorem zvy:zcZ Try.prog 202=some 3:=by kernel_rfl
@[simp] theorem zvz:zcK Try.prog 202=some [AV.v (.int .i64 0),AV.v (.int .i64 0),AV.v (.int .i64 0)]:=by kernel_rfl
@[simp] theorem zxE:zap Try.prog 211=some 6:=by kernel_rfl
@[simp] theorem zxF:zaj Try.prog 211=some 6:=by kernel_rfl
@[simp] theorem zxG:zlu Try.prog 211=some (6,1):=by kernel_rfl
@[simp] theorem zxH:zn7 Try.prog 211=some (6,176,1):=by kernel_rfl
@[simp] theorem zz2:places Try.prog 211=some [(0,1),(1,1),(2,1),(3,1),(4,1),(5,1)]:=by kernel_rfl
@[simp] theorem zvA:zcK Try.prog 211=some [AV.v .nilFunc,AV.v .nilFunc,AV.v .nilFunc,AV.v .nilFunc,AV.v .nilFunc,AV.v .nilFunc]:=by kernel_rfl
@[simp] theorem zxI:zap Try.prog 212=none:=by kernel_rfl
@[simp] theorem zz3:scalar Try.prog 212=true:=by kernel_rfl
@[simp] theorem zxJ:zaj Try.prog 212=some 1:=by kernel_rfl
@[simp] theorem zxK:zap Try.prog 216=none:=by kernel_rfl
@[simp] theorem zz4:scalar Try.prog 216=true:=by kernel_rfl
@[simp] theorem zxL:zaj Try.prog 216=some 1:=by kernel_rfl
@[simp] theorem zxM:intKind Try.prog 216=some .u64:=by kernel_rfl
@[simp] theorem zxN:zap Try.prog 220=none:=by kernel_rfl
@[simp] theorem zz5:scalar Try.prog 220=true:=by kernel_rfl
@[simp] theorem zxO:zaj Try.prog 220=some 1:=by kernel_rfl
@[simp] theorem zxP:intKind Try.prog 220=some .i64:=by kernel_rfl
@[simp] theorem zxQ:zap Try.prog 226=none:=by kernel_rfl
@[simp] theorem zz6:scalar Try.prog 226=true:=by kernel_rfl
@[simp] theorem zxR:zaj Try.prog 226=some 1:=by kernel_rfl
@[simp] theorem zxS:intKind Try.prog 226=some .u32:=by kernel_rfl
@[simp] theorem zxT:zap Try.prog 228=none:=by kernel_rfl
@[simp] theorem zz7:scalar Try.prog 228=true:=by kernel_rfl
@[simp] theorem zxU:zaj Try.prog 228=some 1:=by kernel_rfl
@[simp] theorem zxV:intKind Try.prog 228=some .u64:=by kernel_rfl
@[simp] theorem zxW:zap Try.prog 229=none:=by kernel_rfl
@[simp] theorem zz8:scalar Try.prog 229=true:=by kernel_rfl
@[simp] theorem zxX:zaj Try.prog 229=some 1:=by kernel_rfl
@[simp] theorem zvB:zcK Try.prog 229=some [AV.v (.int .u64 0)]:=by kernel_rfl
@[simp] theorem zxY:intKind Try.prog 229=some .u64:=by kernel_rfl
@[simp] theorem zxZ:zap Try.prog 233=none:=by kernel_rfl
@[simp] theorem zz9:scalar Try.prog 233=true:=by kernel_rfl
@[simp] theorem zx0:zaj Try.prog 233=some 1:=by kernel_rfl
@[simp] theorem zx1:zap Try.prog 235=none:=by kernel_rfl
@[simp] theorem zAa:scalar Try.prog 235=true:=by kernel_rfl
@[simp] theorem zx2:zaj Try.prog 235=some 1:=by kernel_rfl
@[simp] theorem zdq:zaq Try.prog 24 0=some 0:=by kernel_rfl
@[simp] theorem zfv:zaq Try.prog 24 1=some 1:=by kernel_rfl
@[simp] theorem zbL:zaq Try.prog 24 2=some 2:=by kernel_rfl
@[simp] theorem zcH:zaq Try.prog 26 0=some 0:=by kernel_rfl
@[simp] theorem zcU:zaq Try.prog 26 1=some 3:=by kernel_rfl
@[simp] theorem zfw:zaq Try.prog 26 2=some 4:=by kernel_rfl
@[simp] theorem zd9:zaq Try.prog 26 3=some 5:=by kernel_rfl
@[simp] theorem zhF:zaq Try.prog 26 4=some 6:=by kernel_rfl
@[simp] theorem zkZ:zaq Try.prog 26 5=some 7:=by kernel_rfl
@[simp] theorem zx3:zaq Try.prog 59 0=some 0:=by kernel_rfl
@[simp] theorem zx4:zaq Try.prog 59 1=some 1:=by kernel_rfl
@[simp] theorem zx5:zaq Try.prog 62 0=some 0:=by kernel_rfl
@[simp] theorem zx6:zaq Try.prog 62 1=some 1:=by kernel_rfl
@[simp] theorem zx7:zaq Try.prog 62 2=some 2:=by kernel_rfl
@[simp] theorem zx8:zaq Try.prog 70 0=some 0:=by kernel_rfl
@[simp] theorem zx9:zaq Try.prog 70 1=some 1:=by kernel_rfl
@[simp] theorem zya:zaq Try.prog 70 2=some 2:=by kernel_rfl
@[simp] theorem zyb:zaq Try.prog 73 0=some 0:=by kernel_rfl
@[simp] theorem zyc:zaq Try.prog 73 1=some 1:=by kernel_rfl
@[simp] theorem zyd:zaq Try.prog 73 2=some 2:=by kernel_rfl
@[simp] theorem zye:zaq Try.prog 73 3=some 3:=by kernel_rfl
@[simp] theorem zyf:zaq Try.prog 76 0=some 0:=by kernel_rfl
@[simp] theorem zyg:zaq Try.prog 76 1=some 1:=by kernel_rfl
@[simp] theorem zyh:zaq Try.prog 76 2=some 2:=by kernel_rfl
@[simp] theorem zyi:zaq Try.prog 76 3=some 3:=by kernel_rfl
@[simp] theorem zyj:zaq Try.prog 76 4=some 4:=by kernel_rfl
@[simp] theorem zyk:zaq Try.prog 76 5=some 5:=by kernel_rfl
@[simp] theorem zyl:zaq Try.prog 81 0=some 0:=by kernel_rfl
@[simp] theorem zym:zaq Try.prog 81 1=some 1:=by kernel_rfl
@[simp] theorem zk0:zaq Try.prog 94 0=some 0:=by kernel_rfl
@[simp] theorem zyn:zaq Try.prog 94 1=some 1:=by kernel_rfl
@[simp] theorem zdr:zaq Try.prog 99 0=some 0:=by kernel_rfl
@[simp] theorem zbV:zaq Try.prog 99 1=some 1:=by kernel_rfl
@[simp] theorem zgN:zaq Try.prog 110 0=some 0:=by kernel_rfl
@[simp] theorem zhX:zaq Try.prog 110 1=some 4:=by kernel_rfl
@[simp] theorem ze2:zaq Try.prog 110 2=some 5:=by kernel_rfl
@[simp] theorem zvC:zaq Try.prog 117 0=some 0:=by kernel_rfl
@[simp] theorem zvD:zaq Try.prog 117 1=some 1:=by kernel_rfl
@[simp] theorem zvE:zaq Try.prog 117 2=some 2:=by kernel_rfl
@[simp] theorem zvF:zaq Try.prog 117 3=some 3:=by kernel_rfl
@[simp] theorem zvG:zaq Try.prog 119 0=some 0:=by kernel_rfl
@[simp] theorem zvH:zaq Try.prog 119 1=some 3:=by kernel_rfl
@[simp] theorem zvI:zaq Try.prog 119 2=some 4:=by kernel_rfl
@[simp] theorem zcG:zaq Try.prog 125 0=some 0:=by kernel_rfl
@[simp] theorem zvJ:zaq Try.prog 130 0=some 0:=by kernel_rfl
@[simp] theorem zvK:zaq Try.prog 130 1=some 2:=by kernel_rfl
@[simp] theorem zvL:zaq Try.prog 137 0=some 0:=by kernel_rfl
@[simp] theorem zvM:zaq Try.prog 142 0=some 0:=by kernel_rfl
@[simp] theorem zvN:zaq Try.prog 142 1=some 1:=by kernel_rfl
@[simp] theorem zvO:zaq Try.prog 142 2=some 2:=by kernel_rfl
@[simp] theorem zdv:zaq Try.prog 148 0=some 0:=by kernel_rfl
@[simp] theorem zcu:zaq Try.prog 155 0=some 0:=by kernel_rfl
@[simp] theorem ze3:zaq Try.prog 155 1=some 2:=by kernel_rfl
@[simp] theorem zhY:zaq Try.prog 155 2=some 6:=by kernel_rfl
@[simp] theorem zjx:zaq Try.prog 169 0=some 0:=by kernel_rfl
@[simp] theorem zqJ:zaq Try.prog 169 1=some 3:=by kernel_rfl
@[simp] theorem zl3:zaq Try.prog 169 2=some 4:=by kernel_rfl
@[simp] theorem zl4:zaq Try.prog 187 0=some 0:=by kernel_rfl
@[simp] theorem zqK:zaq Try.prog 187 1=some 1:=by kernel_rfl
@[simp] theorem zvP:zaq Try.prog 202 0=some 0:=by kernel_rfl
@[simp] theorem zvQ:zaq Try.prog 202 1=some 2:=by kernel_rfl
end Go.Proofs.Ytenogpmlhpcibaa
