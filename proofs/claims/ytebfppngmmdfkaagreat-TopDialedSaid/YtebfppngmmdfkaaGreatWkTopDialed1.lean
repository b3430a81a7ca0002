/-
  The code returns what the functions say (printed by gen.py).
  Conditions: none.
-/
import Derived.Test.YtebfppngmmdfkaaGreatTy
import Derived.Test.YtebfppngmmdfkaaGreatMd
import Derived.Test.YtebfppngmmdfkaaGreatAmPg
import Derived.Test.YtebfppngmmdfkaaGreatSh
set_option linter.all false
namespace Go.Proofs.YtebfppngmmdfkaaGreat
open Go Go.AM Go.Law
set_option linter.unusedVariables false
set_option maxRecDepth 4000
set_option maxHeartbeats 4000000
abbrev _root_.Go.AM.AV.i (x:Int):Go.AM.AV:=.v (.int .i64 x)
abbrev _root_.Go.AM.AV.b (x:Bool):Go.AM.AV:=.v (.bool x)
theorem _root_.Go.AM.FLe.k {l l0:List (Nat×AV)} {t:Nat} (r:FLe l l0):FLe l ((t,lk l t)::l0):=.cons (.refl _) r
theorem _root_.Go.AM.LeL.k {a:AV} {ps qs:List AV} (r:LeL ps qs):LeL (a::ps) (a::qs):=.cons (.refl _) r
section
open Go.AM
variable {P:Program} {N:Nat} {l:List (Nat×AV)} {H:zab} {g:Nat} {ops:Array Oper} {i d g0:Nat} {r:List Oper} {K:Fr->zab->Nat->Prop} {lim:Option Nat} {ty:TypeId} {pos:String} {after:Array Edge} {Q:Exit->Fr->zab->Nat->Prop} {a b:Code}
theorem _root_.Go.AM.Om {x:Operand} (v:AV) (h:za1 P N lim g0 ops K (i+1) r (Fr.of ((d,v)::l)) H g) (hd:d<N:=by decide) (hx:evL N l x=v:=by rfl):za1 P N lim g0 ops K i (⟨some d,.move x,ty,pos,after,none⟩::r) (Fr.of l) H g:=zvc hd hx h
theorem _root_.Go.AM.Oa {x:Operand} (v:AV) (h:za1 P N lim g0 ops K (i+1) r (Fr.of ((d,v)::l)) H g) (hd:d<N:=by decide) (hx:evL N l x=v:=by rfl):za1 P N lim g0 ops K i (⟨some d,.assign x,ty,pos,after,none⟩::r) (Fr.of l) H g:=zsH hd hx h
theorem _root_.Go.AM.Olp {t:TypeId} {x:Operand} {cs:List AV} (v:AV) (h1:zaG P t=none) (h2:scalar P t=true) (h:za1 P N lim g0 ops K (i+1) r (Fr.of ((d,v)::l)) H g) (hd:d<N:=by decide) (hx:evL N l x=.ep cs:=by rfl) (hc:cs[0]?=some v:=by rfl):za1 P N lim g0 ops K i (⟨some d,.load t x,ty,pos,after,none⟩::r) (Fr.of l) H g:=zmx hd hx (zky h1 h2 hc) h
theorem _root_.Go.AM.Olg {t:TypeId} {x:Operand} {cs:List AV} {k:Nat} (v:AV) (ha:zaG P t=some k) (h:za1 P N lim g0 ops K (i+1) r (Fr.of ((d,v)::l)) H g) (hd:d<N:=by decide) (hx:evL N l x=.ep cs:=by rfl) (hk:Nat.ble (0+k) cs.length=true:=by rfl) (hc:AV.agg ((cs.drop 0).take k)=v:=by rfl):za1 P N lim g0 ops K i (⟨some d,.load t x,ty,pos,after,none⟩::r) (Fr.of l) H g:=zmx hd hx (zmw ha (Nat.le_of_ble_eq_true hk) rfl) (hc▸h)
theorem _root_.Go.AM.Og {op:Op} {j:Nat} {want:Bool} (h:za1 P N lim g0 ops K (i+1) r (Fr.of ((d,.tup [])::l)) H g) (hd:d<N:=by decide) (hg:gd ops N (Fr.of l) j=some (some (!want)):=by rfl):za1 P N lim g0 ops K i (⟨some d,op,ty,pos,after,some (j,want)⟩::r) (Fr.of l) H g:=zpa hd hg rfl h
theorem _root_.Go.AM.On {op:Op} {j:Nat} {want e:Bool} (he:e=!want) (h:za1 P N lim g0 ops K (i+1) r (Fr.of ((d,.tup [])::l)) H g) (hd:d<N:=by decide) (hg:gd ops N (Fr.of l) j=some (some e):=by rfl):za1 P N lim g0 ops K i (⟨some d,op,ty,pos,after,some (j,want)⟩::r) (Fr.of l) H g:=zpa hd hg he h
theorem _root_.Go.AM.Oz {op:Op} {j:Nat} {want:Bool} {dst:Option Tmp} (h:za1 P N lim g0 ops K i (⟨dst,op,ty,pos,after,none⟩::r) (Fr.of l) H g) (hg:gd ops N (Fr.of l) j=some (some want):=by rfl):za1 P N lim g0 ops K i (⟨dst,op,ty,pos,after,some (j,want)⟩::r) (Fr.of l) H g:=zo9 hg rfl h
theorem _root_.Go.AM.Oy {op:Op} {j:Nat} {want e:Bool} {dst:Option Tmp} (he:e=want) (h:za1 P N lim g0 ops K i (⟨dst,op,ty,pos,after,none⟩::r) (Fr.of l) H g) (hg:gd ops N (Fr.of l) j=some (some e):=by rfl):za1 P N lim g0 ops K i (⟨dst,op,ty,pos,after,some (j,want)⟩::r) (Fr.of l) H g:=zo9 hg he h
theorem _root_.Go.AM.Oi {bo:BinOp} {t t':TypeId} {x y:Operand} {k:IntKind} {m n:Int} (v:AV) (h:za1 P N lim g0 ops K (i+1) r (Fr.of ((d,v)::l)) H g) (hd:d<N:=by decide) (hx:evL N l x=.v (.int k m):=by rfl) (hy:evL N l y=.v (.int k n):=by rfl) (hv:zjd bo k m n=some v:=by rfl):za1 P N lim g0 ops K i (⟨some d,.binOp bo t x y t',ty,pos,after,none⟩::r) (Fr.of l) H g:=zou hd hx hy hv h
theorem _root_.Go.AM.Ox {x:Operand} {n:Nat} {vs:List AV} (v:AV) (h:za1 P N lim g0 ops K (i+1) r (Fr.of ((d,v)::l)) H g) (hd:d<N:=by decide) (hx:evL N l x=.tup vs:=by rfl) (hn:vs[n]?=some v:=by rfl):za1 P N lim g0 ops K i (⟨some d,.extract x n,ty,pos,after,none⟩::r) (Fr.of l) H g:=zq7 hd hx hn h
theorem _root_.Go.AM.Of {s f:Nat} {x:Operand} (cs:List AV) {k:Nat} (hk:zaU P s f=some k) (h:za1 P N lim g0 ops K (i+1) r (Fr.of ((d,.ep (cs.drop k))::l)) H g) (hd:d<N:=by decide) (hx:evL N l x=.ep cs:=by rfl):za1 P N lim g0 ops K i (⟨some d,.fieldAddr s x f,ty,pos,after,none⟩::r) (Fr.of l) H g:=zsJ hd hk hx h
theorem _root_.Go.AM.Pt {c x y:Operand} (v:AV) {e:Bool} (he:e=true) (h:za1 P N lim g0 ops K (i+1) r (Fr.of ((d,v)::l)) H g) (hd:d<N:=by decide) (hc:evL N l c=.v (.bool e):=by rfl) (hx:evL N l x=v:=by rfl):za1 P N lim g0 ops K i (⟨some d,.pick c x y,ty,pos,after,none⟩::r) (Fr.of l) H g:=zaH hd hc he hx h
theorem _root_.Go.AM.Pf {c x y:Operand} (v:AV) {e:Bool} (he:e=false) (h:za1 P N lim g0 ops K (i+1) r (Fr.of ((d,v)::l)) H g) (hd:d<N:=by decide) (hc:evL N l c=.v (.bool e):=by rfl) (hy:evL N l y=v:=by rfl):za1 P N lim g0 ops K i (⟨some d,.pick c x y,ty,pos,after,none⟩::r) (Fr.of l) H g:=zk6 hd hc he hy h
theorem _root_.Go.AM.Ct {o:Operand} {e:Bool} (he:e=true) (h:wpA P N a Q (Fr.of l) H g) (hc:evL N l o=.v (.bool e):=by rfl):wpA P N (.cond o a b) Q (Fr.of l) H g:=zq4 hc he h
theorem _root_.Go.AM.Cf {o:Operand} {e:Bool} (he:e=false) (h:wpA P N b Q (Fr.of l) H g) (hc:evL N l o=.v (.bool e):=by rfl):wpA P N (.cond o a b) Q (Fr.of l) H g:=zot hc he h
theorem _root_.Go.AM.Rg {id:Nat} {os:List Oper} (n:Nat) (h:za1 P N none g os.toArray (Q .normal) 0 os (Fr.of l) H (g+n)) (hn:os.length=n:=by rfl):wpA P N (.region id os.toArray false) Q (Fr.of l) H g:=zsC hn h
theorem _root_.Go.AM.Ws (h:wpA P N b Q (Fr.of l) H g):Exit.thenA (fun fr' H' g'=>∃fr0 H0 g0,zkj fr' H' g' fr0 H0 g0/\wpA P N b Q fr0 H0 g0) Q .normal (Fr.of l) H g:=⟨_,H,g,.le (fun _=>.refl _) H g,h⟩
theorem _root_.Go.AM.Sq (h:wpA P N a (Exit.thenA (fun fr' H' g'=>∃fr0 H0 g0,zkj fr' H' g' fr0 H0 g0/\wpA P N b Q fr0 H0 g0) Q) (Fr.of l) H g):wpA P N (.seq a b) Q (Fr.of l) H g:=zu9 h
theorem _root_.Go.AM.Ni (h:K (Fr.of l) H g):za1 P N lim g0 ops K i [] (Fr.of l) H g:=zt5 h
theorem _root_.Go.AM.pg {t:TypeId} {cs ds:List AV} {off k:Nat} (h:zaG P t=some k) (hl:off+k<=cs.length:=by exact Nat.le_of_ble_eq_true rfl) (hc:(cs.drop off).take k=ds:=by rfl):zgC P t cs off=some (.agg ds):=zmw h hl hc
theorem _root_.Go.AM.po {t:TypeId} {cs:List AV} {off:Nat} {v:AV} (h:zaG P t=none) (hs:scalar P t=true) (hc:cs[off]?=some v:=by rfl):zgC P t cs off=some v:=zky h hs hc
theorem _root_.Go.AM.bft (b:Bool):b=true\/b=false:=Bool.eq_false_or_eq_true b
theorem _root_.Go.AM.nlb {a b:Nat} (h:Nat.ble a b=true:=by rfl):a<=b:=Nat.le_of_ble_eq_true h
end
theorem zx2:Tryz.prog.underlying 3=some (.int .i64):=by kernel_rfl
theorem zwe:KeysAre Tryz.prog 3 okI kvI:=⟨Go.Maps.int_keyed zx2,fun a b h=>by injection h,fun a h=>⟨_,Go.Maps.keyOf_int_mk zx2 h⟩⟩
theorem zhr {a0:Int} {a1:Int} {a2:Int} {r:Bool} (hM:zdL a0 a1 a2=some r):zav Tryz.prog 37 [.i a0,.i a1,.i a2] (.b r):=by
 refine zan mixed Tryz.func37 rfl (by decide) Tryz.ntmps37 (by simp) ?pure fun H0 g hf=>?_
 case pure=>exact .v _
 rw [zag]
 change wpA _ _ _ _ (Fr.of [(0,.i a0),(1,.i a1),(2,.i a2)]) H0 g
 have hS:=St.start hf
 refine Sq ?_
 refine Rg 1 ?_
 refine Oa (.b false) ?_
 refine Ni ?_
 refine Ws ?_
 refine zaF (J:=Bool) (fun j=>[(6,.b j)]) (fun j H' g'=>St (·<g) H0 [] H' g'/\zdA j=some r) ?_ ?_
 ·rintro v1 H g1 ⟨hS,hM⟩
  change wpA _ _ _ _ (Fr.of [(6,.b v1)]) _ _
  replace hS:St (·<g) H0 [] H g1:=hS
  replace hM:zdA v1=some r:=hM
  refine zaB ?_
  refine zaO (x:=.b v1) (f:=fun r=>.b r) (.inr rfl) ?_ (.refl _) (Option.some.inj hM) hS
  exact (zam (zad (x:=.b v1) rfl))
 ·refine Rg 9 ?_
  refine Om (.i a0) ?_
  refine Om (.i a1) ?_
  refine Oi (.b (decide (a0≥a1))) ?_
  refine Om (.b (decide (a0≥a1))) ?_
  rcases bft (decide (a0≥a1)) with hb2 | hb2
  ·replace hM:=ifT hM hb2
   refine Oy (want:=true) hb2 ?_
   refine Om (.i a0) ?_
   refine Oy (want:=true) hb2 ?_
   refine Om (.i a2) ?_
   refine Oy (want:=true) hb2 ?_
   refine Oi (.b (decide (a0<=a2))) ?_
   refine Pt (.b (decide (a0<=a2))) hb2 ?_
   refine Oa (.b (decide (a0<=a2))) ?_
   refine Ni ?_
   exact zai (decide (a0<=a2)) (.k .nil) ⟨(hS.keep [] rfl).up (by omega),hM⟩
  ·replace hM:=ifF hM hb2
   refine On (want:=true) hb2 ?_
   refine On (want:=true) hb2 ?_
   refine On (want:=true) hb2 ?_
   refine Pf (.b false) hb2 ?_
   refine Oa (.b false) ?_
   refine Ni ?_
   exact zai false (.k .nil) ⟨(hS.keep [] rfl).up (by omega),hM⟩
theorem zd1 {a0:Int} {a1:Int} {a2:Int} {r:Bool} (hM:zde a0 a1 a2=some r):zav Tryz.prog 13 [.i a0,.i a1,.i a2] (.b r):=by
 refine zan mixed Tryz.func13 rfl (by decide) Tryz.ntmps13 (by simp) ?pure fun H0 g hf=>?_
 case pure=>exact .v _
 rw [zag]
 change wpA _ _ _ _ (Fr.of [(0,.i a0),(1,.i a1),(2,.i a2)]) H0 g
 have hS:=St.start hf
 refine Sq ?_
 refine Rg 1 ?_
 refine Oa (.b false) ?_
 refine Ni ?_
 refine Ws ?_
 refine Sq ?_
 refine Rg 5 ?_
 refine Om (.i a0) ?_
 refine Om (.i a1) ?_
 refine Om (.i a2) ?_
 obtain ⟨r1,hr1,hM⟩:=zal hM
 refine zat (bs:=[.i a0,.i a1,.i a2]) (by decide) rfl rfl ((zhr hr1).le (.k (.k (.k .nil)))) ?_
 refine Oa (.b r1) ?_
 refine Ni ?_
 refine zej [(6,.b r1)] (.k .nil) ?_
 refine zaB ?_
 refine zaO (x:=.b r1) (f:=fun r=>.b r) (.inr rfl) ?_ (.refl _) (Option.some.inj hM) hS
 exact (zam (zad (x:=.b r1) rfl))
theorem zkk {a0:Wire} {a1:Int} {a2:Int} {r:Bool} (hM:zfR a0 a1 a2=some r):zav Tryz.prog 14 [.agg (Wire.cells a0),.i a1,.i a2] (.b r):=by
 refine zan mixed Tryz.func14 rfl (by decide) Tryz.ntmps14 (by simp) ?pure fun H0 g hf=>?_
 case pure=>exact .v _
 rw [zag]
 change wpA _ _ _ _ (Fr.of [(0,.agg (Wire.cells a0)),(1,.i a1),(2,.i a2)]) H0 g
 have hS:=St.start hf
 refine Sq ?_
 refine Rg 2 ?_
 refine zbP (v:=.agg (Wire.cells a0)) (cs:=(Wire.cells a0)) hS (by decide) rfl rfl (by omega) fun H hS=>?_
 refine Oa (.b false) ?_
 refine Ni ?_
 refine zaT (L':=[]) 0 3 hS rfl rfl rfl fun H hS=>?_
 refine Ws ?_
 refine zaF (J:=Bool) (fun j=>[(6,.b j)]) (fun j H' g'=>St (·<g) H0 [] H' g'/\zdB j=some r) ?_ ?_
 ·rintro v1 H g1 ⟨hS,hM⟩
  change wpA _ _ _ _ (Fr.of [(6,.b v1)]) _ _
  replace hS:St (·<g) H0 [] H g1:=hS
  replace hM:zdB v1=some r:=hM
  refine zaB ?_
  refine zaO (x:=.b v1) (f:=fun r=>.b r) (.inr rfl) ?_ (.refl _) (Option.some.inj hM) hS
  exact (zam (zad (x:=.b v1) rfl))
 ·refine Rg 13 ?_
  refine Om (.i a1) ?_
  refine Of ((Wire.cells a0)) zdX ?_
  refine Olp (.i a0.Letters) zac zah ?_
  refine Oi (.i (w64 (a0.Letters-1))) ?_
  obtain ⟨r2,hr2,hM⟩:=zal hM
  refine zat (bs:=[.i a1,.i 0,.i (w64 (a0.Letters-1))]) (by decide) rfl rfl ((zd1 hr2).le (.k (.k (.k .nil)))) ?_
  refine Om (.b r2) ?_
  rcases bft r2 with hb3 | hb3
  ·replace hM:=ifT hM hb3
   refine Oy (want:=true) hb3 ?_
   refine Om (.i a2) ?_
   refine Oy (want:=true) hb3 ?_
   refine Of ((Wire.cells a0)) zdp ?_
   refine Oy (want:=true) hb3 ?_
   refine Olp (.i a0.Numbers) zac zah ?_
   refine Oy (want:=true) hb3 ?_
   refine Oi (.i (w64 (a0.Numbers-1))) ?_
   refine Oy (want:=true) hb3 ?_
   obtain ⟨r4,hr4,hM⟩:=zal hM
   refine zat (bs:=[.i a2,.i 0,.i (w64 (a0.Numbers-1))]) (by decide) rfl rfl ((zd1 hr4).le (.k (.k (.k .nil)))) ?_
   refine Pt (.b r4) hb3 ?_
   refine Oa (.b r4) ?_
   refine Ni ?_
   exact zai r4 (.k .nil) ⟨(hS.keep [] rfl).up (by omega),hM⟩
  ·replace hM:=ifF hM hb3
   refine On (want:=true) hb3 ?_
   refine On (want:=true) hb3 ?_
   refine On (want:=true) hb3 ?_
   refine On (want:=true) hb3 ?_
   refine On (want:=true) hb3 ?_
   refine Pf (.b false) hb3 ?_
   refine Oa (.b false) ?_
   refine Ni ?_
   exact zai false (.k .nil) ⟨(hS.keep [] rfl).up (by omega),hM⟩
theorem zjB {n:Nat} {a0:Wire} {r:Int} (hM:zgK n a0=some r):zav Tryz.prog 5 [.agg (Wire.cells a0)] (.i r):=by
 refine zan mixed Tryz.func5 rfl (by decide) Tryz.ntmps5 (by simp) ?pure fun H0 g hf=>?_
 case pure=>exact .v _
 rw [zag]
 change wpA _ _ _ _ (Fr.of [(0,.agg (Wire.cells a0))]) H0 g
 have hS:=St.start hf
 refine Sq ?_
 refine Rg 2 ?_
 refine zbP (v:=.agg (Wire.cells a0)) (cs:=(Wire.cells a0)) hS (by decide) rfl rfl (by omega) fun H hS=>?_
 refine Oa (.i 0) ?_
 refine Ni ?_
 refine zaT (L':=[]) 0 1 hS rfl rfl rfl fun H hS=>?_
 refine Ws ?_
 refine Sq ?_
 refine zaF (J:=Bool) (fun j=>[(1,.ep (Wire.cells a0)),(26,.b j)]) (fun j H' g'=>St (·<g) H0 [] H' g'/\zbR n a0 j=some r) ?_ ?_
 ·rintro v1 H g1 ⟨hS,hM⟩
  change wpA _ _ _ _ (Fr.of [(1,.ep (Wire.cells a0)),(26,.b v1)]) _ _
  replace hS:St (·<g) H0 [] H g1:=hS
  replace hM:zbR n a0 v1=some r:=hM
  rcases bft v1 with hb2 | hb2
  ·replace hM:=ifT hM hb2
   refine Ct hb2 ?_
   refine Sq ?_
   refine Rg 1 ?_
   refine Oa (.i 110) ?_
   refine Ni ?_
   refine Ws ?_
   refine zaB ?_
   refine zak ?_
   refine zaO (x:=.i 110) (f:=fun r=>.i r) (.inr rfl) ?_ (.refl _) (Option.some.inj hM) hS
   exact (zam (zad (x:=.i 110) rfl))
  ·replace hM:=ifF hM hb2
   refine Cf hb2 ?_
   refine zas ?_
   refine Ws ?_
   refine zaF (J:=Unit) (fun j=>[]) (fun j H' g'=>St (·<g) H0 [] H' g'/\zfS=some r) ?_ ?_
   ·rintro _ H g2 ⟨hS,hM⟩
    change wpA _ _ _ _ (Fr.of []) _ _
    replace hS:St (·<g) H0 [] H g2:=hS
    replace hM:zfS=some r:=hM
    refine Sq ?_
    refine Rg 1 ?_
    refine Oa (.i 0) ?_
    refine Ni ?_
    refine Ws ?_
    refine zaB ?_
    refine zaO (x:=.i 0) (f:=fun r=>.i r) (.inr rfl) ?_ (.refl _) (Option.some.inj hM) hS
    exact (zam (zad (x:=.i 0) rfl))
   ·refine Sq ?_
    refine Rg 1 ?_
    refine Oa (.i 0) ?_
    refine Ni ?_
    refine Ws ?_
    refine zap ?_
    refine zbI (V:=Int) (fun v=>[(1,.ep (Wire.cells a0)),(3,.i v)]) (fun v m3 H' g'=>St (·<g) H0 [] H' g'/\zb4 a0 m3 v=some r) (n:=n) 0 (.k (.k .nil)) ⟨(hS.keep [] rfl).up (by omega),hM⟩ ?_
    rintro v3 m3 H g3 ⟨hS,hM⟩
    obtain _ | m3:=m3
    ·exact nomatch (show none=some _ from hM)
    change wpA _ _ _ _ (Fr.of [(1,.ep (Wire.cells a0)),(3,.i v3)]) _ _
    replace hS:St (·<g) H0 [] H g3:=hS
    replace hM:zeW a0 (zb4 a0 m3) v3=some r:=hM
    refine Sq ?_
    refine Sq ?_
    refine Rg 5 ?_
    refine Om (.i v3) ?_
    refine Of ((Wire.cells a0)) zeT ?_
    refine Olp (.sl .no 3 (a0.Presses.map WirePress.cells)) zft zgU ?_
    refine zco (n:=a0.Presses.length) (by decide) rfl (List.length_map _) ziJ ?_
    refine Oi (.b (decide (v3<(a0.Presses.length:Int)))) ?_
    refine Ni ?_
    refine Ws ?_
    rcases bft (decide (v3<(a0.Presses.length:Int))) with hb4 | hb4
    ·replace hM:=ifT hM hb4
     refine Ct hb4 ?_
     refine zas ?_
     refine Ws ?_
     refine Sq ?_
     refine zap ?_
     refine Sq ?_
     refine Rg 7 ?_
     refine Of ((Wire.cells a0)) zeT ?_
     refine Olp (.sl .no 3 (a0.Presses.map WirePress.cells)) zft zgU ?_
     refine Om (.i v3) ?_
     obtain ⟨x5,hx5,hM⟩:=zal hM
     refine zbj (xs:=a0.Presses) (f:=WirePress.cells) (z:=v3) (u:=x5) (by decide) rfl rfl zoI hx5 ?_
     refine Olg (.agg (WirePress.cells x5)) zmI ?_
     refine zcj hS (by decide) znA (by omega) fun H hS=>?_
     refine zaK (v:=.agg (WirePress.cells x5)) (ns:=(WirePress.cells x5)) (L':=[(g3+5+5,.cells (WirePress.cells x5))]) 0 hS rfl rfl .no rfl rfl zpo nlb rfl fun H hS=>?_
     refine Ni ?_
     refine zaT (L':=[]) 0 4 hS rfl rfl rfl fun H hS=>?_
     refine Ws ?_
     refine zaF (J:=Bool) (fun j=>[(1,.ep (Wire.cells a0)),(3,.i v3),(57,.b j)]) (fun j H' g'=>St (·<g) H0 [] H' g'/\zdY (zb4 a0 m3) v3 j=some r) ?_ ?_
     ·rintro v6 H g4 ⟨hS,hM⟩
      change wpA _ _ _ _ (Fr.of [(1,.ep (Wire.cells a0)),(3,.i v3),(57,.b v6)]) _ _
      replace hS:St (·<g) H0 [] H g4:=hS
      replace hM:zdY (zb4 a0 m3) v3 v6=some r:=hM
      rcases bft v6 with hb7 | hb7
      ·replace hM:=ifT hM hb7
       refine Ct hb7 ?_
       refine Sq ?_
       refine Rg 1 ?_
       refine Oa (.i 110) ?_
       refine Ni ?_
       refine Ws ?_
       refine zaB ?_
       refine zaq ?_
       refine zak ?_
       refine zaL ?_
       refine zaq ?_
       refine zaI ?_
       refine zaO (x:=.i 110) (f:=fun r=>.i r) (.inr rfl) ?_ (.refl _) (Option.some.inj hM) hS
       exact (zam (zad (x:=.i 110) rfl))
      ·replace hM:=ifF hM hb7
       refine Cf hb7 ?_
       refine zas ?_
       refine zae ?_
       refine Ws ?_
       refine Rg 3 ?_
       refine Om (.i v3) ?_
       refine Oi (.i (w64 (v3+1))) ?_
       refine Oa (.i (w64 (v3+1))) ?_
       refine Ni ?_
       exact za4 (w64 (v3+1)) (Nat.lt_succ_self _) (.k (.k .nil)) ⟨(hS.keep [] rfl).up (by omega),hM⟩
     ·refine Rg 19 ?_
      refine Olg (.agg (Wire.cells a0)) zcd ?_
      refine Of ((WirePress.cells x5)) zjw ?_
      refine Olp (.i x5.Letter) zac zah ?_
      refine Of ((WirePress.cells x5)) zjx ?_
      refine Olp (.i x5.Number) zac zah ?_
      obtain ⟨r8,hr8,hM⟩:=zal hM
      refine zat (bs:=[.agg (Wire.cells a0),.i x5.Letter,.i x5.Number]) (by decide) rfl rfl ((zkk hr8).le (.k (.k (.k .nil)))) ?_
      refine zdc (e:=r8) (by decide) rfl ?_
      refine Om (.b (!r8)) ?_
      rcases bft (!r8) with hb9 | hb9
      ·replace hM:=ifT hM hb9
       refine On (want:=false) hb9 ?_
       refine On (want:=false) hb9 ?_
       refine On (want:=false) hb9 ?_
       refine On (want:=false) hb9 ?_
       refine On (want:=false) hb9 ?_
       refine On (want:=false) hb9 ?_
       refine On (want:=false) hb9 ?_
       refine On (want:=false) hb9 ?_
       refine On (want:=false) hb9 ?_
       refine On (want:=false) hb9 ?_
       refine Pt (.b true) hb9 ?_
       refine Ni ?_
       exact zai true (.k (.k (.k .nil))) ⟨(hS.keep [] rfl).up (by omega),hM⟩
      ·replace hM:=ifF hM hb9
       refine Oy (want:=false) hb9 ?_
       refine Of ((WirePress.cells x5)) zjy ?_
       refine Oy (want:=false) hb9 ?_
       refine Olp (.i x5.Got) zac zah ?_
       refine Oy (want:=false) hb9 ?_
       refine Of ((Wire.cells a0)) zdX ?_
       refine Oy (want:=false) hb9 ?_
       refine Olp (.i a0.Letters) zac zah ?_
       refine Oy (want:=false) hb9 ?_
       refine Of ((Wire.cells a0)) zdp ?_
       refine Oy (want:=false) hb9 ?_
       refine Olp (.i a0.Numbers) zac zah ?_
       refine Oy (want:=false) hb9 ?_
       refine Oi (.i (w64 (a0.Letters*a0.Numbers))) ?_
       refine Oy (want:=false) hb9 ?_
       refine Oi (.i (w64 ((w64 (a0.Letters*a0.Numbers))-1))) ?_
       refine Oy (want:=false) hb9 ?_
       obtain ⟨r10,hr10,hM⟩:=zal hM
       refine zat (bs:=[.i x5.Got,.i (-1),.i (w64 ((w64 (a0.Letters*a0.Numbers))-1))]) (by decide) rfl rfl ((zd1 hr10).le (.k (.k (.k .nil)))) ?_
       refine Oy (want:=false) hb9 ?_
       refine zdc (e:=r10) (by decide) rfl ?_
       refine Pf (.b (!r10)) hb9 ?_
       refine Ni ?_
       exact zai (!r10) (.k (.k (.k .nil))) ⟨(hS.keep [] rfl).up (by omega),hM⟩
    ·replace hM:=ifF hM hb4
     refine Cf hb4 ?_
     refine zbw ?_
     refine zar ?_
     refine zao ?_
     refine zaw ?_
     exact zai () .nil ⟨(hS.keep [] rfl).up (by omega),hM⟩
 ·refine Rg 22 ?_
  refine Of ((Wire.cells a0)) zdX ?_
  refine Olp (.i a0.Letters) zac zah ?_
  obtain ⟨r11,hr11,hM⟩:=zal hM
  refine zat (bs:=[.i a0.Letters,.i 1,.i 5]) (by decide) rfl rfl ((zd1 hr11).le (.k (.k (.k .nil)))) ?_
  refine zdc (e:=r11) (by decide) rfl ?_
  refine Om (.b (!r11)) ?_
  rcases bft (!r11) with hb12 | hb12
  ·replace hM:=ifT hM hb12
   refine On (want:=false) hb12 ?_
   refine On (want:=false) hb12 ?_
   refine On (want:=false) hb12 ?_
   refine On (want:=false) hb12 ?_
   refine Pt (.b true) hb12 ?_
   refine Om (.b true) ?_
   refine Og ?_
   refine Og ?_
   refine Og ?_
   refine Og ?_
   refine zaH (v:=.b true) (e:=true) (by decide) rfl rfl rfl ?_
   refine Om (.b true) ?_
   refine Og ?_
   refine Og ?_
   refine Og ?_
   refine Og ?_
   refine zaH (v:=.b true) (e:=true) (by decide) rfl rfl rfl ?_
   refine Ni ?_
   exact zai true (.k (.k .nil)) ⟨(hS.keep [] rfl).up (by omega),hM⟩
  ·replace hM:=ifF hM hb12
   refine Oy (want:=false) hb12 ?_
   refine Of ((Wire.cells a0)) zdp ?_
   refine Oy (want:=false) hb12 ?_
   refine Olp (.i a0.Numbers) zac zah ?_
   refine Oy (want:=false) hb12 ?_
   obtain ⟨r13,hr13,hM⟩:=zal hM
   refine zat (bs:=[.i a0.Numbers,.i 1,.i 5]) (by decide) rfl rfl ((zd1 hr13).le (.k (.k (.k .nil)))) ?_
   refine Oy (want:=false) hb12 ?_
   refine zdc (e:=r13) (by decide) rfl ?_
   refine Pf (.b (!r13)) hb12 ?_
   refine Om (.b (!r13)) ?_
   rcases bft (!r13) with hb14 | hb14
   ·replace hM:=ifT hM hb14
    refine On (want:=false) hb14 ?_
    refine On (want:=false) hb14 ?_
    refine On (want:=false) hb14 ?_
    refine On (want:=false) hb14 ?_
    refine Pt (.b true) hb14 ?_
    refine Om (.b true) ?_
    refine Og ?_
    refine Og ?_
    refine Og ?_
    refine Og ?_
    refine zaH (v:=.b true) (e:=true) (by decide) rfl rfl rfl ?_
    refine Ni ?_
    exact zai true (.k (.k .nil)) ⟨(hS.keep [] rfl).up (by omega),hM⟩
   ·replace hM:=ifF hM hb14
    refine Oy (want:=false) hb14 ?_
    refine Of ((Wire.cells a0)) zeT ?_
    refine Oy (want:=false) hb14 ?_
    refine Olp (.sl .no 3 (a0.Presses.map WirePress.cells)) zft zgU ?_
    refine Oy (want:=false) hb14 ?_
    refine zco (n:=a0.Presses.length) (by decide) rfl (List.length_map _) ziJ ?_
    refine Oy (want:=false) hb14 ?_
    refine Oi (.b (decide ((a0.Presses.length:Int)>8))) ?_
    refine Pf (.b (decide ((a0.Presses.length:Int)>8))) hb14 ?_
    refine Om (.b (decide ((a0.Presses.length:Int)>8))) ?_
    rcases bft (decide ((a0.Presses.length:Int)>8)) with hb15 | hb15
    ·replace hM:=ifT hM hb15
     refine On (want:=false) hb15 ?_
     refine On (want:=false) hb15 ?_
     refine On (want:=false) hb15 ?_
     refine On (want:=false) hb15 ?_
     refine Pt (.b true) hb15 ?_
     refine Ni ?_
     exact zai true (.k (.k .nil)) ⟨(hS.keep [] rfl).up (by omega),hM⟩
    ·replace hM:=ifF hM hb15
     refine Oy (want:=false) hb15 ?_
     refine Of ((Wire.cells a0)) zir ?_
     refine Oy (want:=false) hb15 ?_
     refine Olp (.i a0.Faults) zac zah ?_
     refine Oy (want:=false) hb15 ?_
     obtain ⟨r16,hr16,hM⟩:=zal hM
     refine zat (bs:=[.i a0.Faults,.i 0,.i 3]) (by decide) rfl rfl ((zd1 hr16).le (.k (.k (.k .nil)))) ?_
     refine Oy (want:=false) hb15 ?_
     refine zdc (e:=r16) (by decide) rfl ?_
     refine Pf (.b (!r16)) hb15 ?_
     refine Ni ?_
     exact zai (!r16) (.k (.k .nil)) ⟨(hS.keep [] rfl).up (by omega),hM⟩
theorem zoL {n:Nat} {a0:Wire} {r:Bool} (hM:zjp n a0=some r):zav Tryz.prog 4 [.agg (Wire.cells a0)] (.b r):=by
 refine zan mixed Tryz.func4 rfl (by decide) Tryz.ntmps4 (by simp) ?pure fun H0 g hf=>?_
 case pure=>exact .v _
 rw [zag]
 change wpA _ _ _ _ (Fr.of [(0,.agg (Wire.cells a0))]) H0 g
 have hS:=St.start hf
 refine Sq ?_
 refine Rg 2 ?_
 refine zbP (v:=.agg (Wire.cells a0)) (cs:=(Wire.cells a0)) hS (by decide) rfl rfl (by omega) fun H hS=>?_
 refine Oa (.b false) ?_
 refine Ni ?_
 refine zaT (L':=[]) 0 1 hS rfl rfl rfl fun H hS=>?_
 refine Ws ?_
 refine zaF (J:=Bool) (fun j=>[(2,.b j)]) (fun j H' g'=>St (·<g) H0 [] H' g'/\zek j=some r) ?_ ?_
 ·rintro v1 H g1 ⟨hS,hM⟩
  change wpA _ _ _ _ (Fr.of [(2,.b v1)]) _ _
  replace hS:St (·<g) H0 [] H g1:=hS
  replace hM:zek v1=some r:=hM
  refine zaB ?_
  refine zaO (x:=.b v1) (f:=fun r=>.b r) (.inr rfl) ?_ (.refl _) (Option.some.inj hM) hS
  exact (zam (zad (x:=.b v1) rfl))
 ·refine Rg 23 ?_
  refine Of ((Wire.cells a0)) zeT ?_
  refine Olp (.sl .no 3 (a0.Presses.map WirePress.cells)) zft zgU ?_
  refine zco (n:=a0.Presses.length) (by decide) rfl (List.length_map _) ziJ ?_
  refine Oi (.b (decide ((a0.Presses.length:Int)>40))) ?_
  refine Om (.b (decide ((a0.Presses.length:Int)>40))) ?_
  rcases bft (decide ((a0.Presses.length:Int)>40)) with hb2 | hb2
  ·replace hM:=ifT hM hb2
   refine On (want:=false) hb2 ?_
   refine On (want:=false) hb2 ?_
   refine On (want:=false) hb2 ?_
   refine On (want:=false) hb2 ?_
   refine zaj (j:=8) (by decide) rfl ?_
   refine zaj (j:=8) (by decide) rfl ?_
   refine zaj (j:=8) (by decide) rfl ?_
   refine zaj (j:=8) (by decide) rfl ?_
   refine zaj (j:=8) (by decide) rfl ?_
   refine zaj (j:=8) (by decide) rfl ?_
   refine zaj (j:=8) (by decide) rfl ?_
   refine zaj (j:=15) (by decide) rfl ?_
   refine zaj (j:=15) (by decide) rfl ?_
   refine zaj (j:=15) (by decide) rfl ?_
   refine zaj (j:=8) (by decide) rfl ?_
   refine On (want:=false) hb2 ?_
   refine Pt (.b true) hb2 ?_
   refine Oa (.b true) ?_
   refine Ni ?_
   exact zai true (.k .nil) ⟨(hS.keep [] rfl).up (by omega),hM⟩
  ·replace hM:=ifF hM hb2
   refine Oy (want:=false) hb2 ?_
   refine Olg (.agg (Wire.cells a0)) zcd ?_
   refine Oy (want:=false) hb2 ?_
   obtain ⟨r3,hr3,hM⟩:=zal hM
   refine zat (bs:=[.agg (Wire.cells a0)]) (by decide) rfl rfl ((zjB hr3).le (.k .nil)) ?_
   refine Oy (want:=false) hb2 ?_
   refine Oi (.b (r3==0)) ?_
   refine Oy (want:=false) hb2 ?_
   refine Om (.b (r3==0)) ?_
   rcases bft (r3==0) with hb4 | hb4
   ·replace hM:=ifT hM hb4
    refine Oy (want:=true) hb4 ?_
    refine Of ((Wire.cells a0)) zdX ?_
    refine Oy (want:=true) hb4 ?_
    refine Olp (.i a0.Letters) zac zah ?_
    refine Oy (want:=true) hb4 ?_
    refine Of ((Wire.cells a0)) zdp ?_
    refine Oy (want:=true) hb4 ?_
    refine Olp (.i a0.Numbers) zac zah ?_
    refine Oy (want:=true) hb4 ?_
    refine zxn (v:=.i (max a0.Letters a0.Numbers)) (by decide) rfl ?_
    refine Oy (want:=true) hb4 ?_
    refine Oi (.b (decide ((max a0.Letters a0.Numbers)>4))) ?_
    refine Oy (want:=true) hb4 ?_
    refine Om (.b (decide ((max a0.Letters a0.Numbers)>4))) ?_
    rcases bft (decide ((max a0.Letters a0.Numbers)>4)) with hb5 | hb5
    ·replace hM:=ifT hM hb5
     refine On (want:=false) hb5 ?_
     refine On (want:=false) hb5 ?_
     refine On (want:=false) hb5 ?_
     refine Oy (want:=true) hb4 ?_
     refine Pt (.b true) hb5 ?_
     refine Oy (want:=false) hb2 ?_
     refine Pt (.b true) hb4 ?_
     refine Pf (.b true) hb2 ?_
     refine Oa (.b true) ?_
     refine Ni ?_
     exact zai true (.k .nil) ⟨(hS.keep [] rfl).up (by omega),hM⟩
    ·replace hM:=ifF hM hb5
     refine Oy (want:=false) hb5 ?_
     refine Of ((Wire.cells a0)) zir ?_
     refine Oy (want:=false) hb5 ?_
     refine Olp (.i a0.Faults) zac zah ?_
     refine Oy (want:=false) hb5 ?_
     refine Oi (.b (decide (a0.Faults>2))) ?_
     refine Oy (want:=true) hb4 ?_
     refine Pf (.b (decide (a0.Faults>2))) hb5 ?_
     refine Oy (want:=false) hb2 ?_
     refine Pt (.b (decide (a0.Faults>2))) hb4 ?_
     refine Pf (.b (decide (a0.Faults>2))) hb2 ?_
     refine Oa (.b (decide (a0.Faults>2))) ?_
     refine Ni ?_
     exact zai (decide (a0.Faults>2)) (.k .nil) ⟨(hS.keep [] rfl).up (by omega),hM⟩
   ·replace hM:=ifF hM hb4
    refine On (want:=true) hb4 ?_
    refine On (want:=true) hb4 ?_
    refine On (want:=true) hb4 ?_
    refine On (want:=true) hb4 ?_
    refine On (want:=true) hb4 ?_
    refine On (want:=true) hb4 ?_
    refine On (want:=true) hb4 ?_
    refine zaj (j:=15) (by decide) rfl ?_
    refine zaj (j:=15) (by decide) rfl ?_
    refine zaj (j:=15) (by decide) rfl ?_
    refine On (want:=true) hb4 ?_
    refine Oy (want:=false) hb2 ?_
    refine Pf (.b false) hb4 ?_
    refine Pf (.b false) hb2 ?_
    refine Oa (.b false) ?_
    refine Ni ?_
    exact zai false (.k .nil) ⟨(hS.keep [] rfl).up (by omega),hM⟩
theorem zj2 {n:Nat} {a0:Wire} {r:(List WireFault)} (hM:zgL n a0=some r):zav Tryz.prog 38 [.agg (Wire.cells a0)] (.sl .no 3 (r.map WireFault.cells)):=by
 refine zan mixed Tryz.func38 rfl (by decide) Tryz.ntmps38 (by simp) ?pure fun H0 g hf=>?_
 case pure=>exact .sl _ _ (zau (fun x=>(zaa (.v _) (zaa (.v _) (zaa (.v _) zaC)))))
 rw [zag]
 change wpA _ _ _ _ (Fr.of [(0,.agg (Wire.cells a0))]) H0 g
 have hS:=St.start hf
 refine Sq ?_
 refine Rg 2 ?_
 refine zbP (v:=.agg (Wire.cells a0)) (cs:=(Wire.cells a0)) hS (by decide) rfl rfl (by omega) fun H hS=>?_
 refine Oa (.sl .nil 0 []) ?_
 refine Ni ?_
 refine zaT (L':=[]) 0 1 hS rfl rfl rfl fun H hS=>?_
 refine Ws ?_
 refine Sq ?_
 refine Rg 1 ?_
 refine Oa (.sl .nil 0 []) ?_
 refine Ni ?_
 refine zq2 [(1,.ep (Wire.cells a0)),(3,.sl (.id (g+2+1)) 3 (([]:List WireFault).map WireFault.cells))] 3 3 82 hS (by omega) (by decide) rfl (.k (.k .nil)) fun H hS=>?_
 refine zaF (J:=(List WireFault)) (fun j=>[(1,.ep (Wire.cells a0)),(3,.sl (.id (g+2+1)) 3 (j.map WireFault.cells))]) (fun j H' g'=>St (·<g) H0 [(g+2+1,.row 82 j.length)] H' g'/\zfh n a0 j=some r) ?_ ?_
 ·rintro v1 H g1 ⟨hS,hM⟩
  change wpA _ _ _ _ (Fr.of [(1,.ep (Wire.cells a0)),(3,.sl (.id (g+2+1)) 3 (v1.map WireFault.cells))]) _ _
  replace hS:St (·<g) H0 [(g+2+1,.row 82 v1.length)] H g1:=hS
  replace hM:zfh n a0 v1=some r:=hM
  refine zaF (J:=(List WireFault)) (fun j=>[(1,.ep (Wire.cells a0)),(3,.sl (.id (g+2+1)) 3 (j.map WireFault.cells))]) (fun j H' g'=>St (·<g) H0 [(g+2+1,.row 82 j.length)] H' g'/\zfg n a0 j=some r) ?_ ?_
  ·rintro v2 H g2 ⟨hS,hM⟩
   change wpA _ _ _ _ (Fr.of [(1,.ep (Wire.cells a0)),(3,.sl (.id (g+2+1)) 3 (v2.map WireFault.cells))]) _ _
   replace hS:St (·<g) H0 [(g+2+1,.row 82 v2.length)] H g2:=hS
   replace hM:zfg n a0 v2=some r:=hM
   refine zaF (J:=(List WireFault)) (fun j=>[(1,.ep (Wire.cells a0)),(3,.sl (.id (g+2+1)) 3 (j.map WireFault.cells))]) (fun j H' g'=>St (·<g) H0 [(g+2+1,.row 82 j.length)] H' g'/\zfe n a0 j=some r) ?_ ?_
   ·rintro v3 H g3 ⟨hS,hM⟩
    change wpA _ _ _ _ (Fr.of [(1,.ep (Wire.cells a0)),(3,.sl (.id (g+2+1)) 3 (v3.map WireFault.cells))]) _ _
    replace hS:St (·<g) H0 [(g+2+1,.row 82 v3.length)] H g3:=hS
    replace hM:zfe n a0 v3=some r:=hM
    refine zaF (J:=(List WireFault)) (fun j=>[(3,.sl (.id (g+2+1)) 3 (j.map WireFault.cells))]) (fun j H' g'=>St (·<g) H0 [(g+2+1,.row 82 j.length)] H' g'/\zfc j=some r) ?_ ?_
    ·rintro v4 H g4 ⟨hS,hM⟩
     change wpA _ _ _ _ (Fr.of [(3,.sl (.id (g+2+1)) 3 (v4.map WireFault.cells))]) _ _
     replace hS:St (·<g) H0 [(g+2+1,.row 82 v4.length)] H g4:=hS
     replace hM:zfc v4=some r:=hM
     refine Sq ?_
     refine Rg 2 ?_
     refine Om (.sl (.id (g+2+1)) 3 (v4.map WireFault.cells)) ?_
     refine Oa (.sl (.id (g+2+1)) 3 (v4.map WireFault.cells)) ?_
     refine Ni ?_
     refine Ws ?_
     refine zaB ?_
     refine zaO (x:=.sl (.id (g+2+1)) 3 (v4.map WireFault.cells)) (f:=fun r=>.sl .no 3 (r.map WireFault.cells)) (.inr rfl) ?_ (.sl _ _ _) (Option.some.inj hM) hS
     exact (zam (zad (x:=.sl (.id (g+2+1)) 3 (v4.map WireFault.cells)) rfl))
    ·refine Sq ?_
     refine Rg 1 ?_
     refine Oa (.i 0) ?_
     refine Ni ?_
     refine Ws ?_
     refine zap ?_
     refine zbI (V:=(List WireFault)×Int) (fun v=>[(1,.ep (Wire.cells a0)),(3,.sl (.id (g+2+1)) 3 (v.1.map WireFault.cells)),(8,.i v.2)]) (fun v m5 H' g'=>St (·<g) H0 [(g+2+1,.row 82 v.1.length)] H' g'/\zbo n a0 m5 v.1 v.2=some r) (n:=n) (v3,0) (.k (.k (.k .nil))) ⟨(hS.keep [true] rfl).up (by omega),hM⟩ ?_
     rintro ⟨v5,v6⟩ m5 H g5 ⟨hS,hM⟩
     obtain _ | m5:=m5
     ·exact nomatch (show none=some _ from hM)
     change wpA _ _ _ _ (Fr.of [(1,.ep (Wire.cells a0)),(3,.sl (.id (g+2+1)) 3 (v5.map WireFault.cells)),(8,.i v6)]) _ _
     replace hS:St (·<g) H0 [(g+2+1,.row 82 v5.length)] H g5:=hS
     replace hM:zge n a0 (zbo n a0 m5) v5 v6=some r:=hM
     refine Sq ?_
     refine Sq ?_
     refine Rg 4 ?_
     refine Om (.i v6) ?_
     refine Of ((Wire.cells a0)) zdp ?_
     refine Olp (.i a0.Numbers) zac zah ?_
     refine Oi (.b (decide (v6<a0.Numbers))) ?_
     refine Ni ?_
     refine Ws ?_
     rcases bft (decide (v6<a0.Numbers)) with hb7 | hb7
     ·replace hM:=ifT hM hb7
      refine Ct hb7 ?_
      refine zas ?_
      refine Ws ?_
      refine zaF (J:=(List WireFault)) (fun j=>[(1,.ep (Wire.cells a0)),(3,.sl (.id (g+2+1)) 3 (j.map WireFault.cells)),(8,.i v6)]) (fun j H' g'=>St (·<g) H0 [(g+2+1,.row 82 j.length)] H' g'/\zfd (zbo n a0 m5) v6 j=some r) ?_ ?_
      ·rintro v8 H g6 ⟨hS,hM⟩
       change wpA _ _ _ _ (Fr.of [(1,.ep (Wire.cells a0)),(3,.sl (.id (g+2+1)) 3 (v8.map WireFault.cells)),(8,.i v6)]) _ _
       replace hS:St (·<g) H0 [(g+2+1,.row 82 v8.length)] H g6:=hS
       replace hM:zfd (zbo n a0 m5) v6 v8=some r:=hM
       refine Rg 3 ?_
       refine Om (.i v6) ?_
       refine Oi (.i (w64 (v6+1))) ?_
       refine Oa (.i (w64 (v6+1))) ?_
       refine Ni ?_
       exact za4 (v8,w64 (v6+1)) (Nat.lt_succ_self _) (.k (.k (.k .nil))) ⟨(hS.keep [true] rfl).up (by omega),hM⟩
      ·refine zap ?_
       refine Sq ?_
       refine Rg 3 ?_
       refine Om (.i v6) ?_
       refine Oi (.i (w64 (v6+1))) ?_
       refine Oa (.i (w64 (v6+1))) ?_
       refine Ni ?_
       refine Ws ?_
       refine zap ?_
       refine zbI (V:=(List WireFault)×Int) (fun v=>[(1,.ep (Wire.cells a0)),(3,.sl (.id (g+2+1)) 3 (v.1.map WireFault.cells)),(8,.i v6),(9,.i v.2)]) (fun v m7 H' g'=>St (·<g) H0 [(g+2+1,.row 82 v.1.length)] H' g'/\zd9 (zbo n a0 m5) a0 v6 m7 v.1 v.2=some r) (n:=n) (v5,w64 (v6+1)) (.k (.k (.k (.k .nil)))) ⟨(hS.keep [true] rfl).up (by omega),hM⟩ ?_
       rintro ⟨v9,v10⟩ m7 H g7 ⟨hS,hM⟩
       obtain _ | m7:=m7
       ·exact nomatch (show none=some _ from hM)
       change wpA _ _ _ _ (Fr.of [(1,.ep (Wire.cells a0)),(3,.sl (.id (g+2+1)) 3 (v9.map WireFault.cells)),(8,.i v6),(9,.i v10)]) _ _
       replace hS:St (·<g) H0 [(g+2+1,.row 82 v9.length)] H g7:=hS
       replace hM:zgd (zbo n a0 m5) a0 v6 (zd9 (zbo n a0 m5) a0 v6 m7) v9 v10=some r:=hM
       refine Sq ?_
       refine Sq ?_
       refine Rg 4 ?_
       refine Om (.i v10) ?_
       refine Of ((Wire.cells a0)) zdp ?_
       refine Olp (.i a0.Numbers) zac zah ?_
       refine Oi (.b (decide (v10<a0.Numbers))) ?_
       refine Ni ?_
       refine Ws ?_
       rcases bft (decide (v10<a0.Numbers)) with hb11 | hb11
       ·replace hM:=ifT hM hb11
        refine Ct hb11 ?_
        refine zas ?_
        refine Ws ?_
        refine Sq ?_
        refine zap ?_
        refine Rg 7 ?_
        refine Om (.sl (.id (g+2+1)) 3 (v9.map WireFault.cells)) ?_
        refine Om (.i v6) ?_
        refine Om (.i v10) ?_
        refine zcm (cs:=[.i 4,.i v6,.i v10]) (by decide) zdI ziq rfl ?_
        refine zaX (es:=[[.i 4,.i v6,.i v10]]) hS (by decide) zbH zd5 rfl zd6 rfl (by decide) (by omega) fun H hS=>?_
        obtain ⟨l12,hl12,hM⟩:=zal hM
        refine zdd (xs:=v9) (ys:=([(⟨4,v6,v10⟩:WireFault)]:List WireFault)) (zs:=l12) (f:=WireFault.cells) (L':=[(g7+4+4,.row 82 1),(g+2+1,.row 82 l12.length)]) 1 hS (by decide) rfl rfl rfl rfl .no zbH zd5 zd6 hl12 rfl fun H hS=>?_
        refine Oa (.sl (.id (g+2+1)) 3 (l12.map WireFault.cells)) ?_
        refine Ni ?_
        refine zae ?_
        replace hS:=hS.keep (L':=[(g+2+1,.row 82 l12.length)]) [false,true] rfl
        refine Ws ?_
        refine Rg 3 ?_
        refine Om (.i v10) ?_
        refine Oi (.i (w64 (v10+1))) ?_
        refine Oa (.i (w64 (v10+1))) ?_
        refine Ni ?_
        exact za4 (l12,w64 (v10+1)) (Nat.lt_succ_self _) (.k (.k (.k (.k .nil)))) ⟨(hS.keep [true] rfl).up (by omega),hM⟩
       ·replace hM:=ifF hM hb11
        refine Cf hb11 ?_
        refine zbw ?_
        refine zar ?_
        refine zao ?_
        refine zaw ?_
        refine zae ?_
        exact zai v9 (.k (.k (.k .nil))) ⟨(hS.keep [true] rfl).up (by omega),hM⟩
     ·replace hM:=ifF hM hb7
      refine Cf hb7 ?_
      refine zbw ?_
      refine zar ?_
      refine zao ?_
      refine zaw ?_
      exact zai v5 (.k .nil) ⟨(hS.keep [true] rfl).up (by omega),hM⟩
   ·refine Sq ?_
    refine Rg 1 ?_
    refine Oa (.i 0) ?_
    refine Ni ?_
    refine Ws ?_
    refine zap ?_
    refine zbI (V:=(List WireFault)×Int) (fun v=>[(1,.ep (Wire.cells a0)),(3,.sl (.id (g+2+1)) 3 (v.1.map WireFault.cells)),(6,.i v.2)]) (fun v m8 H' g'=>St (·<g) H0 [(g+2+1,.row 82 v.1.length)] H' g'/\zbp n a0 m8 v.1 v.2=some r) (n:=n) (v2,0) (.k (.k (.k .nil))) ⟨(hS.keep [true] rfl).up (by omega),hM⟩ ?_
    rintro ⟨v13,v14⟩ m8 H g8 ⟨hS,hM⟩
    obtain _ | m8:=m8
    ·exact nomatch (show none=some _ from hM)
    change wpA _ _ _ _ (Fr.of [(1,.ep (Wire.cells a0)),(3,.sl (.id (g+2+1)) 3 (v13.map WireFault.cells)),(6,.i v14)]) _ _
    replace hS:St (·<g) H0 [(g+2+1,.row 82 v13.length)] H g8:=hS
    replace hM:zgg n a0 (zbp n a0 m8) v13 v14=some r:=hM
    refine Sq ?_
    refine Sq ?_
    refine Rg 4 ?_
    refine Om (.i v14) ?_
    refine Of ((Wire.cells a0)) zdX ?_
    refine Olp (.i a0.Letters) zac zah ?_
    refine Oi (.b (decide (v14<a0.Letters))) ?_
    refine Ni ?_
    refine Ws ?_
    rcases bft (decide (v14<a0.Letters)) with hb15 | hb15
    ·replace hM:=ifT hM hb15
     refine Ct hb15 ?_
     refine zas ?_
     refine Ws ?_
     refine zaF (J:=(List WireFault)) (fun j=>[(1,.ep (Wire.cells a0)),(3,.sl (.id (g+2+1)) 3 (j.map WireFault.cells)),(6,.i v14)]) (fun j H' g'=>St (·<g) H0 [(g+2+1,.row 82 j.length)] H' g'/\zff (zbp n a0 m8) v14 j=some r) ?_ ?_
     ·rintro v16 H g9 ⟨hS,hM⟩
      change wpA _ _ _ _ (Fr.of [(1,.ep (Wire.cells a0)),(3,.sl (.id (g+2+1)) 3 (v16.map WireFault.cells)),(6,.i v14)]) _ _
      replace hS:St (·<g) H0 [(g+2+1,.row 82 v16.length)] H g9:=hS
      replace hM:zff (zbp n a0 m8) v14 v16=some r:=hM
      refine Rg 3 ?_
      refine Om (.i v14) ?_
      refine Oi (.i (w64 (v14+1))) ?_
      refine Oa (.i (w64 (v14+1))) ?_
      refine Ni ?_
      exact za4 (v16,w64 (v14+1)) (Nat.lt_succ_self _) (.k (.k (.k .nil))) ⟨(hS.keep [true] rfl).up (by omega),hM⟩
     ·refine zap ?_
      refine Sq ?_
      refine Rg 3 ?_
      refine Om (.i v14) ?_
      refine Oi (.i (w64 (v14+1))) ?_
      refine Oa (.i (w64 (v14+1))) ?_
      refine Ni ?_
      refine Ws ?_
      refine zap ?_
      refine zbI (V:=(List WireFault)×Int) (fun v=>[(1,.ep (Wire.cells a0)),(3,.sl (.id (g+2+1)) 3 (v.1.map WireFault.cells)),(6,.i v14),(7,.i v.2)]) (fun v m10 H' g'=>St (·<g) H0 [(g+2+1,.row 82 v.1.length)] H' g'/\zea (zbp n a0 m8) a0 v14 m10 v.1 v.2=some r) (n:=n) (v13,w64 (v14+1)) (.k (.k (.k (.k .nil)))) ⟨(hS.keep [true] rfl).up (by omega),hM⟩ ?_
      rintro ⟨v17,v18⟩ m10 H g10 ⟨hS,hM⟩
      obtain _ | m10:=m10
      ·exact nomatch (show none=some _ from hM)
      change wpA _ _ _ _ (Fr.of [(1,.ep (Wire.cells a0)),(3,.sl (.id (g+2+1)) 3 (v17.map WireFault.cells)),(6,.i v14),(7,.i v18)]) _ _
      replace hS:St (·<g) H0 [(g+2+1,.row 82 v17.length)] H g10:=hS
      replace hM:zgf (zbp n a0 m8) a0 v14 (zea (zbp n a0 m8) a0 v14 m10) v17 v18=some r:=hM
      refine Sq ?_
      refine Sq ?_
      refine Rg 4 ?_
      refine Om (.i v18) ?_
      refine Of ((Wire.cells a0)) zdX ?_
      refine Olp (.i a0.Letters) zac zah ?_
      refine Oi (.b (decide (v18<a0.Letters))) ?_
      refine Ni ?_
      refine Ws ?_
      rcases bft (decide (v18<a0.Letters)) with hb19 | hb19
      ·replace hM:=ifT hM hb19
       refine Ct hb19 ?_
       refine zas ?_
       refine Ws ?_
       refine Sq ?_
       refine zap ?_
       refine Rg 7 ?_
       refine Om (.sl (.id (g+2+1)) 3 (v17.map WireFault.cells)) ?_
       refine Om (.i v14) ?_
       refine Om (.i v18) ?_
       refine zcm (cs:=[.i 3,.i v14,.i v18]) (by decide) zdI ziq rfl ?_
       refine zaX (es:=[[.i 3,.i v14,.i v18]]) hS (by decide) zbH zd5 rfl zd6 rfl (by decide) (by omega) fun H hS=>?_
       obtain ⟨l20,hl20,hM⟩:=zal hM
       refine zdd (xs:=v17) (ys:=([(⟨3,v14,v18⟩:WireFault)]:List WireFault)) (zs:=l20) (f:=WireFault.cells) (L':=[(g10+4+4,.row 82 1),(g+2+1,.row 82 l20.length)]) 1 hS (by decide) rfl rfl rfl rfl .no zbH zd5 zd6 hl20 rfl fun H hS=>?_
       refine Oa (.sl (.id (g+2+1)) 3 (l20.map WireFault.cells)) ?_
       refine Ni ?_
       refine zae ?_
       replace hS:=hS.keep (L':=[(g+2+1,.row 82 l20.length)]) [false,true] rfl
       refine Ws ?_
       refine Rg 3 ?_
       refine Om (.i v18) ?_
       refine Oi (.i (w64 (v18+1))) ?_
       refine Oa (.i (w64 (v18+1))) ?_
       refine Ni ?_
       exact za4 (l20,w64 (v18+1)) (Nat.lt_succ_self _) (.k (.k (.k (.k .nil)))) ⟨(hS.keep [true] rfl).up (by omega),hM⟩
      ·replace hM:=ifF hM hb19
       refine Cf hb19 ?_
       refine zbw ?_
       refine zar ?_
       refine zao ?_
       refine zaw ?_
       refine zae ?_
       exact zai v17 (.k (.k (.k .nil))) ⟨(hS.keep [true] rfl).up (by omega),hM⟩
    ·replace hM:=ifF hM hb15
     refine Cf hb15 ?_
     refine zbw ?_
     refine zar ?_
     refine zao ?_
     refine zaw ?_
     exact zai v13 (.k (.k .nil)) ⟨(hS.keep [true] rfl).up (by omega),hM⟩
  ·refine Sq ?_
   refine Rg 1 ?_
   refine Oa (.i 0) ?_
   refine Ni ?_
   refine Ws ?_
   refine zap ?_
   refine zbI (V:=(List WireFault)×Int) (fun v=>[(1,.ep (Wire.cells a0)),(3,.sl (.id (g+2+1)) 3 (v.1.map WireFault.cells)),(5,.i v.2)]) (fun v m11 H' g'=>St (·<g) H0 [(g+2+1,.row 82 v.1.length)] H' g'/\zeb n a0 m11 v.1 v.2=some r) (n:=n) (v1,0) (.k (.k (.k .nil))) ⟨(hS.keep [true] rfl).up (by omega),hM⟩ ?_
   rintro ⟨v21,v22⟩ m11 H g11 ⟨hS,hM⟩
   obtain _ | m11:=m11
   ·exact nomatch (show none=some _ from hM)
   change wpA _ _ _ _ (Fr.of [(1,.ep (Wire.cells a0)),(3,.sl (.id (g+2+1)) 3 (v21.map WireFault.cells)),(5,.i v22)]) _ _
   replace hS:St (·<g) H0 [(g+2+1,.row 82 v21.length)] H g11:=hS
   replace hM:zgh n a0 (zeb n a0 m11) v21 v22=some r:=hM
   refine Sq ?_
   refine Sq ?_
   refine Rg 4 ?_
   refine Om (.i v22) ?_
   refine Of ((Wire.cells a0)) zdp ?_
   refine Olp (.i a0.Numbers) zac zah ?_
   refine Oi (.b (decide (v22<a0.Numbers))) ?_
   refine Ni ?_
   refine Ws ?_
   rcases bft (decide (v22<a0.Numbers)) with hb23 | hb23
   ·replace hM:=ifT hM hb23
    refine Ct hb23 ?_
    refine zas ?_
    refine Ws ?_
    refine Sq ?_
    refine zap ?_
    refine Rg 6 ?_
    refine Om (.sl (.id (g+2+1)) 3 (v21.map WireFault.cells)) ?_
    refine Om (.i v22) ?_
    refine zcm (cs:=[.i 2,.i v22,.i 0]) (by decide) zdI ziq rfl ?_
    refine zaX (es:=[[.i 2,.i v22,.i 0]]) hS (by decide) zbH zd5 rfl zd6 rfl (by decide) (by omega) fun H hS=>?_
    obtain ⟨l24,hl24,hM⟩:=zal hM
    refine zdd (xs:=v21) (ys:=([(⟨2,v22,0⟩:WireFault)]:List WireFault)) (zs:=l24) (f:=WireFault.cells) (L':=[(g11+4+3,.row 82 1),(g+2+1,.row 82 l24.length)]) 1 hS (by decide) rfl rfl rfl rfl .no zbH zd5 zd6 hl24 rfl fun H hS=>?_
    refine Oa (.sl (.id (g+2+1)) 3 (l24.map WireFault.cells)) ?_
    refine Ni ?_
    refine zae ?_
    replace hS:=hS.keep (L':=[(g+2+1,.row 82 l24.length)]) [false,true] rfl
    refine Ws ?_
    refine Rg 3 ?_
    refine Om (.i v22) ?_
    refine Oi (.i (w64 (v22+1))) ?_
    refine Oa (.i (w64 (v22+1))) ?_
    refine Ni ?_
    exact za4 (l24,w64 (v22+1)) (Nat.lt_succ_self _) (.k (.k (.k .nil))) ⟨(hS.keep [true] rfl).up (by omega),hM⟩
   ·replace hM:=ifF hM hb23
    refine Cf hb23 ?_
    refine zbw ?_
    refine zar ?_
    refine zao ?_
    refine zaw ?_
    exact zai v21 (.k (.k .nil)) ⟨(hS.keep [true] rfl).up (by omega),hM⟩
 ·refine Sq ?_
  refine Rg 1 ?_
  refine Oa (.i 0) ?_
  refine Ni ?_
  refine Ws ?_
  refine zap ?_
  refine zbI (V:=(List WireFault)×Int) (fun v=>[(1,.ep (Wire.cells a0)),(3,.sl (.id (g+2+1)) 3 (v.1.map WireFault.cells)),(4,.i v.2)]) (fun v m12 H' g'=>St (·<g) H0 [(g+2+1,.row 82 v.1.length)] H' g'/\zec n a0 m12 v.1 v.2=some r) (n:=n) (([]:List WireFault),0) (.k (.k (.k .nil))) ⟨(hS.keep [true] rfl).up (by omega),hM⟩ ?_
  rintro ⟨v25,v26⟩ m12 H g12 ⟨hS,hM⟩
  obtain _ | m12:=m12
  ·exact nomatch (show none=some _ from hM)
  change wpA _ _ _ _ (Fr.of [(1,.ep (Wire.cells a0)),(3,.sl (.id (g+2+1)) 3 (v25.map WireFault.cells)),(4,.i v26)]) _ _
  replace hS:St (·<g) H0 [(g+2+1,.row 82 v25.length)] H g12:=hS
  replace hM:zgi n a0 (zec n a0 m12) v25 v26=some r:=hM
  refine Sq ?_
  refine Sq ?_
  refine Rg 4 ?_
  refine Om (.i v26) ?_
  refine Of ((Wire.cells a0)) zdX ?_
  refine Olp (.i a0.Letters) zac zah ?_
  refine Oi (.b (decide (v26<a0.Letters))) ?_
  refine Ni ?_
  refine Ws ?_
  rcases bft (decide (v26<a0.Letters)) with hb27 | hb27
  ·replace hM:=ifT hM hb27
   refine Ct hb27 ?_
   refine zas ?_
   refine Ws ?_
   refine Sq ?_
   refine zap ?_
   refine Rg 6 ?_
   refine Om (.sl (.id (g+2+1)) 3 (v25.map WireFault.cells)) ?_
   refine Om (.i v26) ?_
   refine zcm (cs:=[.i 1,.i v26,.i 0]) (by decide) zdI ziq rfl ?_
   refine zaX (es:=[[.i 1,.i v26,.i 0]]) hS (by decide) zbH zd5 rfl zd6 rfl (by decide) (by omega) fun H hS=>?_
   obtain ⟨l28,hl28,hM⟩:=zal hM
   refine zdd (xs:=v25) (ys:=([(⟨1,v26,0⟩:WireFault)]:List WireFault)) (zs:=l28) (f:=WireFault.cells) (L':=[(g12+4+3,.row 82 1),(g+2+1,.row 82 l28.length)]) 1 hS (by decide) rfl rfl rfl rfl .no zbH zd5 zd6 hl28 rfl fun H hS=>?_
   refine Oa (.sl (.id (g+2+1)) 3 (l28.map WireFault.cells)) ?_
   refine Ni ?_
   refine zae ?_
   replace hS:=hS.keep (L':=[(g+2+1,.row 82 l28.length)]) [false,true] rfl
   refine Ws ?_
   refine Rg 3 ?_
   refine Om (.i v26) ?_
   refine Oi (.i (w64 (v26+1))) ?_
   refine Oa (.i (w64 (v26+1))) ?_
   refine Ni ?_
   exact za4 (l28,w64 (v26+1)) (Nat.lt_succ_self _) (.k (.k (.k .nil))) ⟨(hS.keep [true] rfl).up (by omega),hM⟩
  ·replace hM:=ifF hM hb27
   refine Cf hb27 ?_
   refine zbw ?_
   refine zar ?_
   refine zao ?_
   refine zaw ?_
   exact zai v25 (.k (.k .nil)) ⟨(hS.keep [true] rfl).up (by omega),hM⟩
theorem zjC {n:Nat} {a0:List WireFault} {a1:WireFault} {r:Int} (hM:zel n a0 a1=some r):zav Tryz.prog 39 [.sl .no 3 (a0.map WireFault.cells),.agg (WireFault.cells a1)] (.i r):=by
 refine zan mixed Tryz.func39 rfl (by decide) Tryz.ntmps39 (by simp) ?pure fun H0 g hf=>?_
 case pure=>exact .v _
 rw [zag]
 change wpA _ _ _ _ (Fr.of [(0,.sl .no 3 (a0.map WireFault.cells)),(1,.agg (WireFault.cells a1))]) H0 g
 have hS:=St.start hf
 refine Sq ?_
 refine Rg 2 ?_
 refine zbP (v:=.agg (WireFault.cells a1)) (cs:=(WireFault.cells a1)) hS (by decide) rfl rfl (by omega) fun H hS=>?_
 refine Oa (.i 0) ?_
 refine Ni ?_
 refine zaT (L':=[]) 0 3 hS rfl rfl rfl fun H hS=>?_
 refine Ws ?_
 refine zaF (J:=Unit) (fun j=>[]) (fun j H' g'=>St (·<g) H0 [] H' g'/\zeP=some r) ?_ ?_
 ·rintro _ H g1 ⟨hS,hM⟩
  change wpA _ _ _ _ (Fr.of []) _ _
  replace hS:St (·<g) H0 [] H g1:=hS
  replace hM:zeP=some r:=hM
  refine Sq ?_
  refine Rg 1 ?_
  refine Oa (.i (-1)) ?_
  refine Ni ?_
  refine Ws ?_
  refine zaB ?_
  refine zaO (x:=.i (-1)) (f:=fun r=>.i r) (.inr rfl) ?_ (.refl _) (Option.some.inj hM) hS
  exact (zam (zad (x:=.i (-1)) rfl))
 ·refine Sq ?_
  refine Rg 1 ?_
  refine Oa (.i 0) ?_
  refine Ni ?_
  refine Ws ?_
  refine zap ?_
  refine zbI (V:=Int) (fun v=>[(0,.sl .no 3 (a0.map WireFault.cells)),(3,.ep (WireFault.cells a1)),(5,.i v)]) (fun v m2 H' g'=>St (·<g) H0 [] H' g'/\zb5 a0 a1 m2 v=some r) (n:=n) 0 (.k (.k (.k .nil))) ⟨(hS.keep [] rfl).up (by omega),hM⟩ ?_
  rintro v1 m2 H g2 ⟨hS,hM⟩
  obtain _ | m2:=m2
  ·exact nomatch (show none=some _ from hM)
  change wpA _ _ _ _ (Fr.of [(0,.sl .no 3 (a0.map WireFault.cells)),(3,.ep (WireFault.cells a1)),(5,.i v1)]) _ _
  replace hS:St (·<g) H0 [] H g2:=hS
  replace hM:zc8 a0 a1 (zb5 a0 a1 m2) v1=some r:=hM
  refine Sq ?_
  refine Sq ?_
  refine Rg 4 ?_
  refine Om (.i v1) ?_
  refine Om (.sl .no 3 (a0.map WireFault.cells)) ?_
  refine zco (n:=a0.length) (by decide) rfl (List.length_map _) zeK ?_
  refine Oi (.b (decide (v1<(a0.length:Int)))) ?_
  refine Ni ?_
  refine Ws ?_
  rcases bft (decide (v1<(a0.length:Int))) with hb2 | hb2
  ·replace hM:=ifT hM hb2
   refine Ct hb2 ?_
   refine zas ?_
   refine Ws ?_
   refine Sq ?_
   refine zap ?_
   refine Sq ?_
   have hS0:=hS
   refine zdy (n:=6) rfl (by kernel_rfl) ?_
   refine Om (.sl .no 3 (a0.map WireFault.cells)) ?_
   refine Om (.i v1) ?_
   obtain ⟨x3,hx3,hM⟩:=zal hM
   refine zbj (xs:=a0) (f:=WireFault.cells) (z:=v1) (u:=x3) (by decide) rfl rfl zbH hx3 ?_
   refine Olg (.agg (WireFault.cells x3)) zbU ?_
   refine Olg (.agg (WireFault.cells a1)) zbU ?_
   refine zve (cs:=(WireFault.cells x3)) (ds:=(WireFault.cells a1)) (e:=((x3.Kind==a1.Kind)&&((x3.A==a1.A)&&((x3.B==a1.B)&&true)))) (by decide) rfl rfl znC rfl ?_
   refine Ni ?_
   refine Ws ?_
   rcases bft ((x3.Kind==a1.Kind)&&((x3.A==a1.A)&&((x3.B==a1.B)&&true))) with hb4 | hb4
   ·replace hM:=ifT hM hb4
    refine Ct hb4 ?_
    refine Sq ?_
    refine Rg 2 ?_
    refine Om (.i v1) ?_
    refine Oa (.i v1) ?_
    refine Ni ?_
    refine Ws ?_
    refine zaB ?_
    refine zaq ?_
    refine zak ?_
    refine zaL ?_
    refine zaq ?_
    refine zaI ?_
    refine zaO (x:=.i v1) (f:=fun r=>.i r) (.inr rfl) ?_ (.refl _) (Option.some.inj hM) hS
    exact (zam (zad (x:=.i v1) rfl))
   ·replace hM:=ifF hM hb4
    refine Cf hb4 ?_
    refine zas ?_
    refine zae ?_
    refine Ws ?_
    refine Rg 3 ?_
    refine Om (.i v1) ?_
    refine Oi (.i (w64 (v1+1))) ?_
    refine Oa (.i (w64 (v1+1))) ?_
    refine Ni ?_
    exact za4 (w64 (v1+1)) (Nat.lt_succ_self _) (.k (.k (.k .nil))) ⟨(hS.keep [] rfl).up (by omega),hM⟩
  ·replace hM:=ifF hM hb2
   refine Cf hb2 ?_
   refine zbw ?_
   refine zar ?_
   refine zao ?_
   refine zaw ?_
   exact zai () .nil ⟨(hS.keep [] rfl).up (by omega),hM⟩
theorem zmL {a0:WireFault} {a1:WireFault} {r:Bool} (hM:zi5 a0 a1=some r):zav Tryz.prog 40 [.agg (WireFault.cells a0),.agg (WireFault.cells a1)] (.b r):=by
 refine zan mixed Tryz.func40 rfl (by decide) Tryz.ntmps40 (by simp) ?pure fun H0 g hf=>?_
 case pure=>exact .v _
 rw [zag]
 change wpA _ _ _ _ (Fr.of [(0,.agg (WireFault.cells a0)),(1,.agg (WireFault.cells a1))]) H0 g
 have hS:=St.start hf
 refine Sq ?_
 refine Rg 3 ?_
 refine zbP (v:=.agg (WireFault.cells a0)) (cs:=(WireFault.cells a0)) hS (by decide) rfl rfl (by omega) fun H hS=>?_
 refine zbP (v:=.agg (WireFault.cells a1)) (cs:=(WireFault.cells a1)) hS (by decide) rfl rfl (by omega) fun H hS=>?_
 refine Oa (.b false) ?_
 refine Ni ?_
 refine zaT (L':=[(g+1,.cells (WireFault.cells a1))]) 1 2 hS rfl rfl rfl fun H hS=>?_
 refine zaT (L':=[]) 0 3 hS rfl rfl rfl fun H hS=>?_
 refine Ws ?_
 refine zaF (J:=Bool) (fun j=>[(4,.b j)]) (fun j H' g'=>St (·<g) H0 [] H' g'/\zcU j=some r) ?_ ?_
 ·rintro v1 H g1 ⟨hS,hM⟩
  change wpA _ _ _ _ (Fr.of [(4,.b v1)]) _ _
  replace hS:St (·<g) H0 [] H g1:=hS
  replace hM:zcU v1=some r:=hM
  refine zaB ?_
  refine zaO (x:=.b v1) (f:=fun r=>.b r) (.inr rfl) ?_ (.refl _) (Option.some.inj hM) hS
  exact (zam (zad (x:=.b v1) rfl))
 ·refine Rg 39 ?_
  refine Of ((WireFault.cells a0)) zeu ?_
  refine Olp (.i a0.Kind) zac zah ?_
  refine Of ((WireFault.cells a1)) zeu ?_
  refine Olp (.i a1.Kind) zac zah ?_
  refine Oi (.b (a0.Kind==a1.Kind)) ?_
  refine Om (.b (a0.Kind==a1.Kind)) ?_
  rcases bft (a0.Kind==a1.Kind) with hb2 | hb2
  ·replace hM:=ifT hM hb2
   refine Oy (want:=true) hb2 ?_
   refine Of ((WireFault.cells a0)) zeu ?_
   refine Oy (want:=true) hb2 ?_
   refine Olp (.i a0.Kind) zac zah ?_
   refine Oy (want:=true) hb2 ?_
   refine Oi (.b (decide (a0.Kind≥3))) ?_
   refine Pt (.b (decide (a0.Kind≥3))) hb2 ?_
   refine Om (.b (decide (a0.Kind≥3))) ?_
   rcases bft (decide (a0.Kind≥3)) with hb3 | hb3
   ·replace hM:=ifT hM hb3
    refine Oy (want:=true) hb3 ?_
    refine Of ((WireFault.cells a0)) zcO ?_
    refine Oy (want:=true) hb3 ?_
    refine Olp (.i a0.A) zac zah ?_
    refine Oy (want:=true) hb3 ?_
    refine Of ((WireFault.cells a1)) zcO ?_
    refine Oy (want:=true) hb3 ?_
    refine Olp (.i a1.A) zac zah ?_
    refine Oy (want:=true) hb3 ?_
    refine Oi (.b (a0.A==a1.A)) ?_
    refine Oy (want:=true) hb3 ?_
    refine Om (.b (a0.A==a1.A)) ?_
    rcases bft (a0.A==a1.A) with hb4 | hb4
    ·replace hM:=ifT hM hb4
     refine On (want:=false) hb4 ?_
     refine On (want:=false) hb4 ?_
     refine On (want:=false) hb4 ?_
     refine On (want:=false) hb4 ?_
     refine On (want:=false) hb4 ?_
     refine Oy (want:=true) hb3 ?_
     refine Pt (.b true) hb4 ?_
     refine Oy (want:=true) hb3 ?_
     refine Om (.b true) ?_
     refine Og ?_
     refine Og ?_
     refine Og ?_
     refine Og ?_
     refine Og ?_
     refine Oy (want:=true) hb3 ?_
     refine zaH (v:=.b true) (e:=true) (by decide) rfl rfl rfl ?_
     refine Oy (want:=true) hb3 ?_
     refine Om (.b true) ?_
     refine Og ?_
     refine Og ?_
     refine Og ?_
     refine Og ?_
     refine Og ?_
     refine Oy (want:=true) hb3 ?_
     refine zaH (v:=.b true) (e:=true) (by decide) rfl rfl rfl ?_
     refine Pt (.b true) hb3 ?_
     refine Oa (.b true) ?_
     refine Ni ?_
     exact zai true (.k .nil) ⟨(hS.keep [] rfl).up (by omega),hM⟩
    ·replace hM:=ifF hM hb4
     refine Oy (want:=false) hb4 ?_
     refine Of ((WireFault.cells a0)) zcO ?_
     refine Oy (want:=false) hb4 ?_
     refine Olp (.i a0.A) zac zah ?_
     refine Oy (want:=false) hb4 ?_
     refine Of ((WireFault.cells a1)) zdq ?_
     refine Oy (want:=false) hb4 ?_
     refine Olp (.i a1.B) zac zah ?_
     refine Oy (want:=false) hb4 ?_
     refine Oi (.b (a0.A==a1.B)) ?_
     refine Oy (want:=true) hb3 ?_
     refine Pf (.b (a0.A==a1.B)) hb4 ?_
     refine Oy (want:=true) hb3 ?_
     refine Om (.b (a0.A==a1.B)) ?_
     rcases bft (a0.A==a1.B) with hb5 | hb5
     ·replace hM:=ifT hM hb5
      refine On (want:=false) hb5 ?_
      refine On (want:=false) hb5 ?_
      refine On (want:=false) hb5 ?_
      refine On (want:=false) hb5 ?_
      refine On (want:=false) hb5 ?_
      refine Oy (want:=true) hb3 ?_
      refine Pt (.b true) hb5 ?_
      refine Oy (want:=true) hb3 ?_
      refine Om (.b true) ?_
      refine Og ?_
      refine Og ?_
      refine Og ?_
      refine Og ?_
      refine Og ?_
      refine Oy (want:=true) hb3 ?_
      refine zaH (v:=.b true) (e:=true) (by decide) rfl rfl rfl ?_
      refine Pt (.b true) hb3 ?_
      refine Oa (.b true) ?_
      refine Ni ?_
      exact zai true (.k .nil) ⟨(hS.keep [] rfl).up (by omega),hM⟩
     ·replace hM:=ifF hM hb5
      refine Oy (want:=false) hb5 ?_
      refine Of ((WireFault.cells a0)) zdq ?_
      refine Oy (want:=false) hb5 ?_
      refine Olp (.i a0.B) zac zah ?_
      refine Oy (want:=false) hb5 ?_
      refine Of ((WireFault.cells a1)) zcO ?_
      refine Oy (want:=false) hb5 ?_
      refine Olp (.i a1.A) zac zah ?_
      refine Oy (want:=false) hb5 ?_
      refine Oi (.b (a0.B==a1.A)) ?_
      refine Oy (want:=true) hb3 ?_
      refine Pf (.b (a0.B==a1.A)) hb5 ?_
      refine Oy (want:=true) hb3 ?_
      refine Om (.b (a0.B==a1.A)) ?_
      rcases bft (a0.B==a1.A) with hb6 | hb6
      ·replace hM:=ifT hM hb6
       refine On (want:=false) hb6 ?_
       refine On (want:=false) hb6 ?_
       refine On (want:=false) hb6 ?_
       refine On (want:=false) hb6 ?_
       refine On (want:=false) hb6 ?_
       refine Oy (want:=true) hb3 ?_
       refine Pt (.b true) hb6 ?_
       refine Pt (.b true) hb3 ?_
       refine Oa (.b true) ?_
       refine Ni ?_
       exact zai true (.k .nil) ⟨(hS.keep [] rfl).up (by omega),hM⟩
      ·replace hM:=ifF hM hb6
       refine Oy (want:=false) hb6 ?_
       refine Of ((WireFault.cells a0)) zdq ?_
       refine Oy (want:=false) hb6 ?_
       refine Olp (.i a0.B) zac zah ?_
       refine Oy (want:=false) hb6 ?_
       refine Of ((WireFault.cells a1)) zdq ?_
       refine Oy (want:=false) hb6 ?_
       refine Olp (.i a1.B) zac zah ?_
       refine Oy (want:=false) hb6 ?_
       refine Oi (.b (a0.B==a1.B)) ?_
       refine Oy (want:=true) hb3 ?_
       refine Pf (.b (a0.B==a1.B)) hb6 ?_
       refine Pt (.b (a0.B==a1.B)) hb3 ?_
       refine Oa (.b (a0.B==a1.B)) ?_
       refine Ni ?_
       exact zai (a0.B==a1.B) (.k .nil) ⟨(hS.keep [] rfl).up (by omega),hM⟩
   ·replace hM:=ifF hM hb3
    refine On (want:=true) hb3 ?_
    refine On (want:=true) hb3 ?_
    refine On (want:=true) hb3 ?_
    refine On (want:=true) hb3 ?_
    refine On (want:=true) hb3 ?_
    refine On (want:=true) hb3 ?_
    refine zaj (j:=16) (by decide) rfl ?_
    refine zaj (j:=16) (by decide) rfl ?_
    refine zaj (j:=16) (by decide) rfl ?_
    refine zaj (j:=16) (by decide) rfl ?_
    refine zaj (j:=16) (by decide) rfl ?_
    refine On (want:=true) hb3 ?_
    refine On (want:=true) hb3 ?_
    refine zaj (j:=23) (by decide) rfl ?_
    refine zaj (j:=23) (by decide) rfl ?_
    refine zaj (j:=23) (by decide) rfl ?_
    refine zaj (j:=23) (by decide) rfl ?_
    refine zaj (j:=23) (by decide) rfl ?_
    refine On (want:=true) hb3 ?_
    refine On (want:=true) hb3 ?_
    refine zaj (j:=30) (by decide) rfl ?_
    refine zaj (j:=30) (by decide) rfl ?_
    refine zaj (j:=30) (by decide) rfl ?_
    refine zaj (j:=30) (by decide) rfl ?_
    refine zaj (j:=30) (by decide) rfl ?_
    refine On (want:=true) hb3 ?_
    refine Pf (.b false) hb3 ?_
    refine Oa (.b false) ?_
    refine Ni ?_
    exact zai false (.k .nil) ⟨(hS.keep [] rfl).up (by omega),hM⟩
  ·replace hM:=ifF hM hb2
   refine On (want:=true) hb2 ?_
   refine On (want:=true) hb2 ?_
   refine On (want:=true) hb2 ?_
   refine Pf (.b false) hb2 ?_
   refine Om (.b false) ?_
   refine Og ?_
   refine Og ?_
   refine Og ?_
   refine Og ?_
   refine Og ?_
   refine Og ?_
   refine zaj (j:=16) (by decide) rfl ?_
   refine zaj (j:=16) (by decide) rfl ?_
   refine zaj (j:=16) (by decide) rfl ?_
   refine zaj (j:=16) (by decide) rfl ?_
   refine zaj (j:=16) (by decide) rfl ?_
   refine Og ?_
   refine Og ?_
   refine zaj (j:=23) (by decide) rfl ?_
   refine zaj (j:=23) (by decide) rfl ?_
   refine zaj (j:=23) (by decide) rfl ?_
   refine zaj (j:=23) (by decide) rfl ?_
   refine zaj (j:=23) (by decide) rfl ?_
   refine Og ?_
   refine Og ?_
   refine zaj (j:=30) (by decide) rfl ?_
   refine zaj (j:=30) (by decide) rfl ?_
   refine zaj (j:=30) (by decide) rfl ?_
   refine zaj (j:=30) (by decide) rfl ?_
   refine zaj (j:=30) (by decide) rfl ?_
   refine Og ?_
   refine zk6 (v:=.b false) (e:=false) (by decide) rfl rfl rfl ?_
   refine Oa (.b false) ?_
   refine Ni ?_
   exact zai false (.k .nil) ⟨(hS.keep [] rfl).up (by omega),hM⟩
theorem zmM {n:Nat} {a0:Wire} {a1:List WireFault} {r:Bool} (hM:zhP n a0 a1=some r):zav Tryz.prog 15 [.agg (Wire.cells a0),.sl .no 3 (a1.map WireFault.cells)] (.b r):=by
 refine zan mixed Tryz.func15 rfl (by decide) Tryz.ntmps15 (by simp) ?pure fun H0 g hf=>?_
 case pure=>exact .v _
 rw [zag]
 change wpA _ _ _ _ (Fr.of [(0,.agg (Wire.cells a0)),(1,.sl .no 3 (a1.map WireFault.cells))]) H0 g
 have hS:=St.start hf
 refine Sq ?_
 refine Rg 2 ?_
 refine zbP (v:=.agg (Wire.cells a0)) (cs:=(Wire.cells a0)) hS (by decide) rfl rfl (by omega) fun H hS=>?_
 refine Oa (.b false) ?_
 refine Ni ?_
 refine zaT (L':=[]) 0 2 hS rfl rfl rfl fun H hS=>?_
 refine Ws ?_
 refine Sq ?_
 refine Rg 4 ?_
 refine Olg (.agg (Wire.cells a0)) zcd ?_
 obtain ⟨r1,hr1,hM⟩:=zal hM
 refine zat (bs:=[.agg (Wire.cells a0)]) (by decide) rfl rfl ((zj2 hr1).le (.k .nil)) ?_
 refine Oa (.sl .no 3 (r1.map WireFault.cells)) ?_
 refine Oa (.i (-1)) ?_
 refine Ni ?_
 refine Ws ?_
 refine zaF (J:=Unit) (fun j=>[]) (fun j H' g'=>St (·<g) H0 [] H' g'/\zfT=some r) ?_ ?_
 ·rintro _ H g1 ⟨hS,hM⟩
  change wpA _ _ _ _ (Fr.of []) _ _
  replace hS:St (·<g) H0 [] H g1:=hS
  replace hM:zfT=some r:=hM
  refine Sq ?_
  refine Rg 1 ?_
  refine Oa (.b true) ?_
  refine Ni ?_
  refine Ws ?_
  refine zaB ?_
  refine zaO (x:=.b true) (f:=fun r=>.b r) (.inr rfl) ?_ (.refl _) (Option.some.inj hM) hS
  exact (zam (zad (x:=.b true) rfl))
 ·refine Sq ?_
  refine Rg 1 ?_
  refine Oa (.i 0) ?_
  refine Ni ?_
  refine Ws ?_
  refine zap ?_
  refine zbI (V:=Int×Int) (fun v=>[(1,.sl .no 3 (a1.map WireFault.cells)),(5,.sl .no 3 (r1.map WireFault.cells)),(6,.i v.1),(7,.i v.2)]) (fun v m2 H' g'=>St (·<g) H0 [] H' g'/\zba n a1 r1 m2 v.1 v.2=some r) (n:=n) ((-1),0) (.k (.k (.k (.k .nil)))) ⟨(hS.keep [] rfl).up (by omega),hM⟩ ?_
  rintro ⟨v2,v3⟩ m2 H g2 ⟨hS,hM⟩
  obtain _ | m2:=m2
  ·exact nomatch (show none=some _ from hM)
  change wpA _ _ _ _ (Fr.of [(1,.sl .no 3 (a1.map WireFault.cells)),(5,.sl .no 3 (r1.map WireFault.cells)),(6,.i v2),(7,.i v3)]) _ _
  replace hS:St (·<g) H0 [] H g2:=hS
  replace hM:zeY n a1 r1 (zba n a1 r1 m2) v2 v3=some r:=hM
  refine Sq ?_
  refine Sq ?_
  refine Rg 4 ?_
  refine Om (.i v3) ?_
  refine Om (.sl .no 3 (a1.map WireFault.cells)) ?_
  refine zco (n:=a1.length) (by decide) rfl (List.length_map _) zeK ?_
  refine Oi (.b (decide (v3<(a1.length:Int)))) ?_
  refine Ni ?_
  refine Ws ?_
  rcases bft (decide (v3<(a1.length:Int))) with hb4 | hb4
  ·replace hM:=ifT hM hb4
   refine Ct hb4 ?_
   refine zas ?_
   refine Ws ?_
   refine zaF (J:=Int) (fun j=>[(1,.sl .no 3 (a1.map WireFault.cells)),(5,.sl .no 3 (r1.map WireFault.cells)),(6,.i j),(7,.i v3)]) (fun j H' g'=>St (·<g) H0 [] H' g'/\zeQ (zba n a1 r1 m2) v3 j=some r) ?_ ?_
   ·rintro v5 H g3 ⟨hS,hM⟩
    change wpA _ _ _ _ (Fr.of [(1,.sl .no 3 (a1.map WireFault.cells)),(5,.sl .no 3 (r1.map WireFault.cells)),(6,.i v5),(7,.i v3)]) _ _
    replace hS:St (·<g) H0 [] H g3:=hS
    replace hM:zeQ (zba n a1 r1 m2) v3 v5=some r:=hM
    refine Rg 3 ?_
    refine Om (.i v3) ?_
    refine Oi (.i (w64 (v3+1))) ?_
    refine Oa (.i (w64 (v3+1))) ?_
    refine Ni ?_
    exact za4 (v5,w64 (v3+1)) (Nat.lt_succ_self _) (.k (.k (.k (.k .nil)))) ⟨(hS.keep [] rfl).up (by omega),hM⟩
   ·refine zap ?_
    refine Sq ?_
    refine Rg 7 ?_
    refine Om (.sl .no 3 (r1.map WireFault.cells)) ?_
    refine Om (.sl .no 3 (a1.map WireFault.cells)) ?_
    refine Om (.i v3) ?_
    obtain ⟨x6,hx6,hM⟩:=zal hM
    refine zbj (xs:=a1) (f:=WireFault.cells) (z:=v3) (u:=x6) (by decide) rfl rfl zbH hx6 ?_
    refine Olg (.agg (WireFault.cells x6)) zbU ?_
    obtain ⟨r7,hr7,hM⟩:=zal hM
    refine zat (bs:=[.sl .no 3 (r1.map WireFault.cells),.agg (WireFault.cells x6)]) (by decide) rfl rfl ((zjC hr7).le (.k (.k .nil))) ?_
    refine Oa (.i r7) ?_
    refine Ni ?_
    refine Ws ?_
    refine Sq ?_
    refine Sq ?_
    refine Rg 3 ?_
    refine Om (.i r7) ?_
    refine Om (.i v2) ?_
    refine Oi (.b (decide (r7<=v2))) ?_
    refine Ni ?_
    refine Ws ?_
    rcases bft (decide (r7<=v2)) with hb8 | hb8
    ·replace hM:=ifT hM hb8
     refine Ct hb8 ?_
     refine Sq ?_
     refine Rg 1 ?_
     refine Oa (.b false) ?_
     refine Ni ?_
     refine Ws ?_
     refine zaB ?_
     refine zak ?_
     refine zaq ?_
     refine zaI ?_
     refine zaL ?_
     refine zaq ?_
     refine zaI ?_
     refine zaO (x:=.b false) (f:=fun r=>.b r) (.inr rfl) ?_ (.refl _) (Option.some.inj hM) hS
     exact (zam (zad (x:=.b false) rfl))
    ·replace hM:=ifF hM hb8
     refine Cf hb8 ?_
     refine zas ?_
     refine Ws ?_
     refine Sq ?_
     refine Rg 2 ?_
     refine Om (.i r7) ?_
     refine Oa (.i r7) ?_
     refine Ni ?_
     refine Ws ?_
     refine Sq ?_
     refine Rg 1 ?_
     refine Oa (.i 0) ?_
     refine Ni ?_
     refine Ws ?_
     refine zap ?_
     refine zbI (V:=Int) (fun v=>[(1,.sl .no 3 (a1.map WireFault.cells)),(5,.sl .no 3 (r1.map WireFault.cells)),(6,.i r7),(7,.i v3),(9,.i v)]) (fun v m4 H' g'=>St (·<g) H0 [] H' g'/\zdr (zba n a1 r1 m2) a1 v3 r7 m4 v=some r) (n:=n) 0 (.k (.k (.k (.k (.k .nil))))) ⟨(hS.keep [] rfl).up (by omega),hM⟩ ?_
     rintro v9 m4 H g4 ⟨hS,hM⟩
     obtain _ | m4:=m4
     ·exact nomatch (show none=some _ from hM)
     change wpA _ _ _ _ (Fr.of [(1,.sl .no 3 (a1.map WireFault.cells)),(5,.sl .no 3 (r1.map WireFault.cells)),(6,.i r7),(7,.i v3),(9,.i v9)]) _ _
     replace hS:St (·<g) H0 [] H g4:=hS
     replace hM:zeX (zba n a1 r1 m2) a1 v3 r7 (zdr (zba n a1 r1 m2) a1 v3 r7 m4) v9=some r:=hM
     refine Sq ?_
     refine Sq ?_
     refine Rg 3 ?_
     refine Om (.i v9) ?_
     refine Om (.i v3) ?_
     refine Oi (.b (decide (v9<v3))) ?_
     refine Ni ?_
     refine Ws ?_
     rcases bft (decide (v9<v3)) with hb10 | hb10
     ·replace hM:=ifT hM hb10
      refine Ct hb10 ?_
      refine zas ?_
      refine Ws ?_
      refine Sq ?_
      refine zap ?_
      refine Sq ?_
      have hS0:=hS
      refine zdy (n:=9) rfl (by kernel_rfl) ?_
      refine Om (.sl .no 3 (a1.map WireFault.cells)) ?_
      refine Om (.i v9) ?_
      obtain ⟨x11,hx11,hM⟩:=zal hM
      refine zbj (xs:=a1) (f:=WireFault.cells) (z:=v9) (u:=x11) (by decide) rfl rfl zbH hx11 ?_
      refine Olg (.agg (WireFault.cells x11)) zbU ?_
      refine Om (.sl .no 3 (a1.map WireFault.cells)) ?_
      refine Om (.i v3) ?_
      obtain ⟨x12,hx12,hM⟩:=zal hM
      refine zbj (xs:=a1) (f:=WireFault.cells) (z:=v3) (u:=x12) (by decide) rfl rfl zbH hx12 ?_
      refine Olg (.agg (WireFault.cells x12)) zbU ?_
      obtain ⟨r13,hr13,hM⟩:=zal hM
      refine zat (bs:=[.agg (WireFault.cells x11),.agg (WireFault.cells x12)]) (by decide) rfl rfl ((zmL hr13).le (.k (.k .nil))) ?_
      refine Ni ?_
      refine Ws ?_
      rcases bft r13 with hb14 | hb14
      ·replace hM:=ifT hM hb14
       refine Ct hb14 ?_
       refine Sq ?_
       refine Rg 1 ?_
       refine Oa (.b false) ?_
       refine Ni ?_
       refine Ws ?_
       refine zaB ?_
       refine zaq ?_
       refine zak ?_
       refine zaL ?_
       refine zaq ?_
       refine zaq ?_
       refine zaI ?_
       refine zaL ?_
       refine zaq ?_
       refine zaI ?_
       refine zaO (x:=.b false) (f:=fun r=>.b r) (.inr rfl) ?_ (.refl _) (Option.some.inj hM) hS
       exact (zam (zad (x:=.b false) rfl))
      ·replace hM:=ifF hM hb14
       refine Cf hb14 ?_
       refine zas ?_
       refine zae ?_
       refine Ws ?_
       refine Rg 3 ?_
       refine Om (.i v9) ?_
       refine Oi (.i (w64 (v9+1))) ?_
       refine Oa (.i (w64 (v9+1))) ?_
       refine Ni ?_
       exact za4 (w64 (v9+1)) (Nat.lt_succ_self _) (.k (.k (.k (.k (.k .nil))))) ⟨(hS.keep [] rfl).up (by omega),hM⟩
     ·replace hM:=ifF hM hb10
      refine Cf hb10 ?_
      refine zbw ?_
      refine zar ?_
      refine zao ?_
      refine zaw ?_
      refine zae ?_
      exact zai r7 (.k (.k (.k (.k .nil)))) ⟨(hS.keep [] rfl).up (by omega),hM⟩
  ·replace hM:=ifF hM hb4
   refine Cf hb4 ?_
   refine zbw ?_
   refine zar ?_
   refine zao ?_
   refine zaw ?_
   exact zai () .nil ⟨(hS.keep [] rfl).up (by omega),hM⟩
theorem zlj {n:Nat} {a0:List WireFault} {a1:WireFault} {r:Bool} (hM:zig n a0 a1=some r):zav Tryz.prog 68 [.sl .no 3 (a0.map WireFault.cells),.agg (WireFault.cells a1)] (.b r):=by
 refine zan mixed Tryz.func68 rfl (by decide) Tryz.ntmps68 (by simp) ?pure fun H0 g hf=>?_
 case pure=>exact .v _
 rw [zag]
 change wpA _ _ _ _ (Fr.of [(0,.sl .no 3 (a0.map WireFault.cells)),(1,.agg (WireFault.cells a1))]) H0 g
 have hS:=St.start hf
 refine Sq ?_
 refine Rg 2 ?_
 refine zbP (v:=.agg (WireFault.cells a1)) (cs:=(WireFault.cells a1)) hS (by decide) rfl rfl (by omega) fun H hS=>?_
 refine Oa (.b false) ?_
 refine Ni ?_
 refine zaT (L':=[]) 0 3 hS rfl rfl rfl fun H hS=>?_
 refine Ws ?_
 refine Sq ?_
 refine Rg 5 ?_
 refine Om (.sl .no 3 (a0.map WireFault.cells)) ?_
 refine Olg (.agg (WireFault.cells a1)) zbU ?_
 obtain ⟨r1,hr1,hM⟩:=zal hM
 refine zat (bs:=[.sl .no 3 (a0.map WireFault.cells),.agg (WireFault.cells a1)]) (by decide) rfl rfl ((zjC hr1).le (.k (.k .nil))) ?_
 refine Oi (.b (decide (r1≥0))) ?_
 refine Oa (.b (decide (r1≥0))) ?_
 refine Ni ?_
 refine zej [(4,.b (decide (r1≥0)))] (.k .nil) ?_
 refine zaB ?_
 refine zaO (x:=.b (decide (r1≥0))) (f:=fun r=>.b r) (.inr rfl) ?_ (.refl _) (Option.some.inj hM) hS
 exact (zam (zad (x:=.b (decide (r1≥0))) rfl))
theorem zjD {n:Nat} {a0:List WireFault} {a1:Int} {a2:Int} {r:Int} (hM:zgM n a0 a1 a2=some r):zav Tryz.prog 69 [.sl .no 3 (a0.map WireFault.cells),.i a1,.i a2] (.i r):=by
 refine zan mixed Tryz.func69 rfl (by decide) Tryz.ntmps69 (by simp) ?pure fun H0 g hf=>?_
 case pure=>exact .v _
 rw [zag]
 change wpA _ _ _ _ (Fr.of [(0,.sl .no 3 (a0.map WireFault.cells)),(1,.i a1),(2,.i a2)]) H0 g
 have hS:=St.start hf
 refine Sq ?_
 refine Rg 1 ?_
 refine Oa (.i 0) ?_
 refine Ni ?_
 refine Ws ?_
 refine zaF (J:=Unit) (fun j=>[(2,.i a2)]) (fun j H' g'=>St (·<g) H0 [] H' g'/\zfU a2=some r) ?_ ?_
 ·rintro _ H g1 ⟨hS,hM⟩
  change wpA _ _ _ _ (Fr.of [(2,.i a2)]) _ _
  replace hS:St (·<g) H0 [] H g1:=hS
  replace hM:zfU a2=some r:=hM
  refine Sq ?_
  refine Rg 2 ?_
  refine Om (.i a2) ?_
  refine Oa (.i a2) ?_
  refine Ni ?_
  refine Ws ?_
  refine zaB ?_
  refine zaO (x:=.i a2) (f:=fun r=>.i r) (.inr rfl) ?_ (.refl _) (Option.some.inj hM) hS
  exact (zam (zad (x:=.i a2) rfl))
 ·refine Sq ?_
  refine Rg 1 ?_
  refine Oa (.i 0) ?_
  refine Ni ?_
  refine Ws ?_
  refine zap ?_
  refine zbI (V:=Int) (fun v=>[(0,.sl .no 3 (a0.map WireFault.cells)),(1,.i a1),(2,.i a2),(7,.i v)]) (fun v m2 H' g'=>St (·<g) H0 [] H' g'/\zcq a0 a1 a2 m2 v=some r) (n:=n) 0 (.k (.k (.k (.k .nil)))) ⟨(hS.keep [] rfl).up (by omega),hM⟩ ?_
  rintro v1 m2 H g2 ⟨hS,hM⟩
  obtain _ | m2:=m2
  ·exact nomatch (show none=some _ from hM)
  change wpA _ _ _ _ (Fr.of [(0,.sl .no 3 (a0.map WireFault.cells)),(1,.i a1),(2,.i a2),(7,.i v1)]) _ _
  replace hS:St (·<g) H0 [] H g2:=hS
  replace hM:zeZ a0 a1 a2 (zcq a0 a1 a2 m2) v1=some r:=hM
  refine Sq ?_
  refine Sq ?_
  refine Rg 4 ?_
  refine Om (.i v1) ?_
  refine Om (.sl .no 3 (a0.map WireFault.cells)) ?_
  refine zco (n:=a0.length) (by decide) rfl (List.length_map _) zeK ?_
  refine Oi (.b (decide (v1<(a0.length:Int)))) ?_
  refine Ni ?_
  refine Ws ?_
  rcases bft (decide (v1<(a0.length:Int))) with hb2 | hb2
  ·replace hM:=ifT hM hb2
   refine Ct hb2 ?_
   refine zas ?_
   refine Ws ?_
   refine zaF (J:=Unit) (fun j=>[(0,.sl .no 3 (a0.map WireFault.cells)),(1,.i a1),(2,.i a2),(7,.i v1)]) (fun j H' g'=>St (·<g) H0 [] H' g'/\zeR (zcq a0 a1 a2 m2) v1=some r) ?_ ?_
   ·rintro _ H g3 ⟨hS,hM⟩
    change wpA _ _ _ _ (Fr.of [(0,.sl .no 3 (a0.map WireFault.cells)),(1,.i a1),(2,.i a2),(7,.i v1)]) _ _
    replace hS:St (·<g) H0 [] H g3:=hS
    replace hM:zeR (zcq a0 a1 a2 m2) v1=some r:=hM
    refine Rg 3 ?_
    refine Om (.i v1) ?_
    refine Oi (.i (w64 (v1+1))) ?_
    refine Oa (.i (w64 (v1+1))) ?_
    refine Ni ?_
    exact za4 (w64 (v1+1)) (Nat.lt_succ_self _) (.k (.k (.k (.k .nil)))) ⟨(hS.keep [] rfl).up (by omega),hM⟩
   ·refine zap ?_
    refine Sq ?_
    refine Rg 6 ?_
    refine Om (.sl .no 3 (a0.map WireFault.cells)) ?_
    refine Om (.i v1) ?_
    obtain ⟨x3,hx3,hM⟩:=zal hM
    refine zbj (xs:=a0) (f:=WireFault.cells) (z:=v1) (u:=x3) (by decide) rfl rfl zbH hx3 ?_
    refine Olg (.agg (WireFault.cells x3)) zbU ?_
    refine zcj hS (by decide) zdI (by omega) fun H hS=>?_
    refine zaK (v:=.agg (WireFault.cells x3)) (ns:=(WireFault.cells x3)) (L':=[(g2+4+4,.cells (WireFault.cells x3))]) 0 hS rfl rfl .no rfl rfl zjs nlb rfl fun H hS=>?_
    refine Ni ?_
    refine zaT (L':=[]) 0 8 hS rfl rfl rfl fun H hS=>?_
    refine Ws ?_
    refine Sq ?_
    refine Rg 4 ?_
    refine Of ((WireFault.cells x3)) zeu ?_
    refine Olp (.i x3.Kind) zac zah ?_
    refine Om (.i a1) ?_
    refine Oi (.b (x3.Kind==a1)) ?_
    refine Ni ?_
    refine Ws ?_
    rcases bft (x3.Kind==a1) with hb4 | hb4
    ·replace hM:=ifT hM hb4
     refine Ct hb4 ?_
     refine Sq ?_
     refine Sq ?_
     refine Rg 4 ?_
     refine Of ((WireFault.cells x3)) zcO ?_
     refine Olp (.i x3.A) zac zah ?_
     refine Om (.i a2) ?_
     refine Oi (.b (x3.A==a2)) ?_
     refine Ni ?_
     refine Ws ?_
     rcases bft (x3.A==a2) with hb5 | hb5
     ·replace hM:=ifT hM hb5
      refine Ct hb5 ?_
      refine Sq ?_
      refine Rg 3 ?_
      refine Of ((WireFault.cells x3)) zdq ?_
      refine Olp (.i x3.B) zac zah ?_
      refine Oa (.i x3.B) ?_
      refine Ni ?_
      refine Ws ?_
      refine zaB ?_
      refine zak ?_
      refine zaq ?_
      refine zaI ?_
      refine zaL ?_
      refine zaq ?_
      refine zaI ?_
      refine zaO (x:=.i x3.B) (f:=fun r=>.i r) (.inr rfl) ?_ (.refl _) (Option.some.inj hM) hS
      exact (zam (zad (x:=.i x3.B) rfl))
     ·replace hM:=ifF hM hb5
      refine Cf hb5 ?_
      refine zas ?_
      refine Ws ?_
      refine Sq ?_
      refine Rg 4 ?_
      refine Of ((WireFault.cells x3)) zdq ?_
      refine Olp (.i x3.B) zac zah ?_
      refine Om (.i a2) ?_
      refine Oi (.b (x3.B==a2)) ?_
      refine Ni ?_
      refine Ws ?_
      rcases bft (x3.B==a2) with hb6 | hb6
      ·replace hM:=ifT hM hb6
       refine Ct hb6 ?_
       refine Sq ?_
       refine Rg 3 ?_
       refine Of ((WireFault.cells x3)) zcO ?_
       refine Olp (.i x3.A) zac zah ?_
       refine Oa (.i x3.A) ?_
       refine Ni ?_
       refine Ws ?_
       refine zaB ?_
       refine zaq ?_
       refine zaI ?_
       refine zaL ?_
       refine zaq ?_
       refine zaI ?_
       refine zaO (x:=.i x3.A) (f:=fun r=>.i r) (.inr rfl) ?_ (.refl _) (Option.some.inj hM) hS
       exact (zam (zad (x:=.i x3.A) rfl))
      ·replace hM:=ifF hM hb6
       refine Cf hb6 ?_
       refine zas ?_
       refine zae ?_
       exact zai () (.k (.k (.k (.k .nil)))) ⟨(hS.keep [] rfl).up (by omega),hM⟩
    ·replace hM:=ifF hM hb4
     refine Cf hb4 ?_
     refine zas ?_
     refine zae ?_
     exact zai () (.k (.k (.k (.k .nil)))) ⟨(hS.keep [] rfl).up (by omega),hM⟩
  ·replace hM:=ifF hM hb2
   refine Cf hb2 ?_
   refine zbw ?_
   refine zar ?_
   refine zao ?_
   refine zaw ?_
   exact zai () (.k .nil) ⟨(hS.keep [] rfl).up (by omega),hM⟩
theorem zlk {n:Nat} {a0:Wire} {a1:List WireFault} {a2:Int} {a3:Int} {r:Int} (hM:zgn n a0 a1 a2 a3=some r):zav Tryz.prog 41 [.agg (Wire.cells a0),.sl .no 3 (a1.map WireFault.cells),.i a2,.i a3] (.i r):=by
 refine zan mixed Tryz.func41 rfl (by decide) Tryz.ntmps41 (by simp) ?pure fun H0 g hf=>?_
 case pure=>exact .v _
 rw [zag]
 change wpA _ _ _ _ (Fr.of [(0,.agg (Wire.cells a0)),(1,.sl .no 3 (a1.map WireFault.cells)),(2,.i a2),(3,.i a3)]) H0 g
 have hS:=St.start hf
 refine Sq ?_
 refine Rg 2 ?_
 refine zbP (v:=.agg (Wire.cells a0)) (cs:=(Wire.cells a0)) hS (by decide) rfl rfl (by omega) fun H hS=>?_
 refine Oa (.i 0) ?_
 refine Ni ?_
 refine zaT (L':=[]) 0 4 hS rfl rfl rfl fun H hS=>?_
 refine Ws ?_
 refine Sq ?_
 refine zaF (J:=Bool) (fun j=>[(1,.sl .no 3 (a1.map WireFault.cells)),(2,.i a2),(3,.i a3),(4,.ep (Wire.cells a0)),(18,.b j)]) (fun j H' g'=>St (·<g) H0 [] H' g'/\zdS n a0 a1 a2 a3 j=some r) ?_ ?_
 ·rintro v1 H g1 ⟨hS,hM⟩
  change wpA _ _ _ _ (Fr.of [(1,.sl .no 3 (a1.map WireFault.cells)),(2,.i a2),(3,.i a3),(4,.ep (Wire.cells a0)),(18,.b v1)]) _ _
  replace hS:St (·<g) H0 [] H g1:=hS
  replace hM:zdS n a0 a1 a2 a3 v1=some r:=hM
  rcases bft v1 with hb2 | hb2
  ·replace hM:=ifT hM hb2
   refine Ct hb2 ?_
   refine Sq ?_
   refine Rg 1 ?_
   refine Oa (.i (-1)) ?_
   refine Ni ?_
   refine Ws ?_
   refine zaB ?_
   refine zak ?_
   refine zaO (x:=.i (-1)) (f:=fun r=>.i r) (.inr rfl) ?_ (.refl _) (Option.some.inj hM) hS
   exact (zam (zad (x:=.i (-1)) rfl))
  ·replace hM:=ifF hM hb2
   refine Cf hb2 ?_
   refine zas ?_
   refine Ws ?_
   refine Sq ?_
   have hS0:=hS
   refine zdy (n:=11) rfl (by kernel_rfl) ?_
   refine Om (.sl .no 3 (a1.map WireFault.cells)) ?_
   refine Om (.i a2) ?_
   obtain ⟨r3,hr3,hM⟩:=zal hM
   refine zat (bs:=[.sl .no 3 (a1.map WireFault.cells),.i 3,.i a2]) (by decide) rfl rfl ((zjD hr3).le (.k (.k (.k .nil)))) ?_
   refine Of ((Wire.cells a0)) zdp ?_
   refine Olp (.i a0.Numbers) zac zah ?_
   refine Oi (.i (w64 (r3*a0.Numbers))) ?_
   refine Om (.sl .no 3 (a1.map WireFault.cells)) ?_
   refine Om (.i a3) ?_
   obtain ⟨r4,hr4,hM⟩:=zal hM
   refine zat (bs:=[.sl .no 3 (a1.map WireFault.cells),.i 4,.i a3]) (by decide) rfl rfl ((zjD hr4).le (.k (.k (.k .nil)))) ?_
   refine Oi (.i (w64 ((w64 (r3*a0.Numbers))+r4))) ?_
   refine Oa (.i (w64 ((w64 (r3*a0.Numbers))+r4))) ?_
   refine Ni ?_
   refine Ws ?_
   refine zaB ?_
   refine zaO (x:=.i (w64 ((w64 (r3*a0.Numbers))+r4))) (f:=fun r=>.i r) (.inr rfl) ?_ (.refl _) (Option.some.inj hM) hS
   exact (zam (zad (x:=.i (w64 ((w64 (r3*a0.Numbers))+r4))) rfl))
 ·refine Rg 10 ?_
  refine Om (.sl .no 3 (a1.map WireFault.cells)) ?_
  refine Om (.i a2) ?_
  refine zcm (cs:=[.i 1,.i a2,.i 0]) (by decide) zdI ziq rfl ?_
  obtain ⟨r5,hr5,hM⟩:=zal hM
  refine zat (bs:=[.sl .no 3 (a1.map WireFault.cells),.agg [.i 1,.i a2,.i 0]]) (by decide) rfl rfl ((zlj hr5).le (.k (.k .nil))) ?_
  refine Om (.b r5) ?_
  rcases bft r5 with hb6 | hb6
  ·replace hM:=ifT hM hb6
   refine On (want:=false) hb6 ?_
   refine On (want:=false) hb6 ?_
   refine On (want:=false) hb6 ?_
   refine On (want:=false) hb6 ?_
   refine Pt (.b true) hb6 ?_
   refine Ni ?_
   exact zai true (.k (.k (.k (.k (.k .nil))))) ⟨(hS.keep [] rfl).up (by omega),hM⟩
  ·replace hM:=ifF hM hb6
   refine Oy (want:=false) hb6 ?_
   refine Om (.sl .no 3 (a1.map WireFault.cells)) ?_
   refine Oy (want:=false) hb6 ?_
   refine Om (.i a3) ?_
   refine Oy (want:=false) hb6 ?_
   refine zcm (cs:=[.i 2,.i a3,.i 0]) (by decide) zdI ziq rfl ?_
   refine Oy (want:=false) hb6 ?_
   obtain ⟨r7,hr7,hM⟩:=zal hM
   refine zat (bs:=[.sl .no 3 (a1.map WireFault.cells),.agg [.i 2,.i a3,.i 0]]) (by decide) rfl rfl ((zlj hr7).le (.k (.k .nil))) ?_
   refine Pf (.b r7) hb6 ?_
   refine Ni ?_
   exact zai r7 (.k (.k (.k (.k (.k .nil))))) ⟨(hS.keep [] rfl).up (by omega),hM⟩
theorem zi6 {n:Nat} {a0:Wire} {a1:List WireFault} {r:Bool} (hM:zey n a0 a1=some r):zav Tryz.prog 16 [.agg (Wire.cells a0),.sl .no 3 (a1.map WireFault.cells)] (.b r):=by
 refine zan mixed Tryz.func16 rfl (by decide) Tryz.ntmps16 (by simp) ?pure fun H0 g hf=>?_
 case pure=>exact .v _
 rw [zag]
 change wpA _ _ _ _ (Fr.of [(0,.agg (Wire.cells a0)),(1,.sl .no 3 (a1.map WireFault.cells))]) H0 g
 have hS:=St.start hf
 refine Sq ?_
 refine Rg 2 ?_
 refine zbP (v:=.agg (Wire.cells a0)) (cs:=(Wire.cells a0)) hS (by decide) rfl rfl (by omega) fun H hS=>?_
 refine Oa (.b false) ?_
 refine Ni ?_
 refine zaT (L':=[]) 0 2 hS rfl rfl rfl fun H hS=>?_
 refine Ws ?_
 refine zaF (J:=Unit) (fun j=>[]) (fun j H' g'=>St (·<g) H0 [] H' g'/\zdu=some r) ?_ ?_
 ·rintro _ H g1 ⟨hS,hM⟩
  change wpA _ _ _ _ (Fr.of []) _ _
  replace hS:St (·<g) H0 [] H g1:=hS
  replace hM:zdu=some r:=hM
  refine Sq ?_
  refine Rg 1 ?_
  refine Oa (.b true) ?_
  refine Ni ?_
  refine Ws ?_
  refine zaB ?_
  refine zaO (x:=.b true) (f:=fun r=>.b r) (.inr rfl) ?_ (.refl _) (Option.some.inj hM) hS
  exact (zam (zad (x:=.b true) rfl))
 ·refine Sq ?_
  refine Rg 1 ?_
  refine Oa (.i 0) ?_
  refine Ni ?_
  refine Ws ?_
  refine zap ?_
  refine zbI (V:=Int) (fun v=>[(1,.sl .no 3 (a1.map WireFault.cells)),(2,.ep (Wire.cells a0)),(5,.i v)]) (fun v m2 H' g'=>St (·<g) H0 [] H' g'/\zbF n a0 a1 m2 v=some r) (n:=n) 0 (.k (.k (.k .nil))) ⟨(hS.keep [] rfl).up (by omega),hM⟩ ?_
  rintro v1 m2 H g2 ⟨hS,hM⟩
  obtain _ | m2:=m2
  ·exact nomatch (show none=some _ from hM)
  change wpA _ _ _ _ (Fr.of [(1,.sl .no 3 (a1.map WireFault.cells)),(2,.ep (Wire.cells a0)),(5,.i v1)]) _ _
  replace hS:St (·<g) H0 [] H g2:=hS
  replace hM:zc3 n a0 a1 (zbF n a0 a1 m2) v1=some r:=hM
  refine Sq ?_
  refine Sq ?_
  refine Rg 5 ?_
  refine Om (.i v1) ?_
  refine Of ((Wire.cells a0)) zeT ?_
  refine Olp (.sl .no 3 (a0.Presses.map WirePress.cells)) zft zgU ?_
  refine zco (n:=a0.Presses.length) (by decide) rfl (List.length_map _) ziJ ?_
  refine Oi (.b (decide (v1<(a0.Presses.length:Int)))) ?_
  refine Ni ?_
  refine Ws ?_
  rcases bft (decide (v1<(a0.Presses.length:Int))) with hb2 | hb2
  ·replace hM:=ifT hM hb2
   refine Ct hb2 ?_
   refine zas ?_
   refine Ws ?_
   refine Sq ?_
   refine zap ?_
   refine Sq ?_
   refine Rg 7 ?_
   refine Of ((Wire.cells a0)) zeT ?_
   refine Olp (.sl .no 3 (a0.Presses.map WirePress.cells)) zft zgU ?_
   refine Om (.i v1) ?_
   obtain ⟨x3,hx3,hM⟩:=zal hM
   refine zbj (xs:=a0.Presses) (f:=WirePress.cells) (z:=v1) (u:=x3) (by decide) rfl rfl zoI hx3 ?_
   refine Olg (.agg (WirePress.cells x3)) zmI ?_
   refine zcj hS (by decide) znA (by omega) fun H hS=>?_
   refine zaK (v:=.agg (WirePress.cells x3)) (ns:=(WirePress.cells x3)) (L':=[(g2+5+5,.cells (WirePress.cells x3))]) 0 hS rfl rfl .no rfl rfl zpo nlb rfl fun H hS=>?_
   refine Ni ?_
   refine zaT (L':=[]) 0 6 hS rfl rfl rfl fun H hS=>?_
   refine Ws ?_
   refine Sq ?_
   have hS0:=hS
   refine zdy (n:=10) rfl (by kernel_rfl) ?_
   refine Olg (.agg (Wire.cells a0)) zcd ?_
   refine Om (.sl .no 3 (a1.map WireFault.cells)) ?_
   refine Of ((WirePress.cells x3)) zjw ?_
   refine Olp (.i x3.Letter) zac zah ?_
   refine Of ((WirePress.cells x3)) zjx ?_
   refine Olp (.i x3.Number) zac zah ?_
   obtain ⟨r4,hr4,hM⟩:=zal hM
   refine zat (bs:=[.agg (Wire.cells a0),.sl .no 3 (a1.map WireFault.cells),.i x3.Letter,.i x3.Number]) (by decide) rfl rfl ((zlk hr4).le (.k (.k (.k (.k .nil))))) ?_
   refine Of ((WirePress.cells x3)) zjy ?_
   refine Olp (.i x3.Got) zac zah ?_
   refine Oi (.b (r4 != x3.Got)) ?_
   refine Ni ?_
   refine Ws ?_
   rcases bft (r4 != x3.Got) with hb5 | hb5
   ·replace hM:=ifT hM hb5
    refine Ct hb5 ?_
    refine Sq ?_
    refine Rg 1 ?_
    refine Oa (.b false) ?_
    refine Ni ?_
    refine Ws ?_
    refine zaB ?_
    refine zaq ?_
    refine zak ?_
    refine zaL ?_
    refine zaq ?_
    refine zaI ?_
    refine zaO (x:=.b false) (f:=fun r=>.b r) (.inr rfl) ?_ (.refl _) (Option.some.inj hM) hS
    exact (zam (zad (x:=.b false) rfl))
   ·replace hM:=ifF hM hb5
    refine Cf hb5 ?_
    refine zas ?_
    refine zae ?_
    refine Ws ?_
    refine Rg 3 ?_
    refine Om (.i v1) ?_
    refine Oi (.i (w64 (v1+1))) ?_
    refine Oa (.i (w64 (v1+1))) ?_
    refine Ni ?_
    exact za4 (w64 (v1+1)) (Nat.lt_succ_self _) (.k (.k (.k .nil))) ⟨(hS.keep [] rfl).up (by omega),hM⟩
  ·replace hM:=ifF hM hb2
   refine Cf hb2 ?_
   refine zbw ?_
   refine zar ?_
   refine zao ?_
   refine zaw ?_
   exact zai () .nil ⟨(hS.keep [] rfl).up (by omega),hM⟩
theorem zll {n:Nat} {a0:Wire} {a1:List WireFault} {r:Bool} (hM:zgo n a0 a1=some r):zav Tryz.prog 6 [.agg (Wire.cells a0),.sl .no 3 (a1.map WireFault.cells)] (.b r):=by
 refine zan mixed Tryz.func6 rfl (by decide) Tryz.ntmps6 (by simp) ?pure fun H0 g hf=>?_
 case pure=>exact .v _
 rw [zag]
 change wpA _ _ _ _ (Fr.of [(0,.agg (Wire.cells a0)),(1,.sl .no 3 (a1.map WireFault.cells))]) H0 g
 have hS:=St.start hf
 refine Sq ?_
 refine Rg 2 ?_
 refine zbP (v:=.agg (Wire.cells a0)) (cs:=(Wire.cells a0)) hS (by decide) rfl rfl (by omega) fun H hS=>?_
 refine Oa (.b false) ?_
 refine Ni ?_
 refine zaT (L':=[]) 0 2 hS rfl rfl rfl fun H hS=>?_
 refine Ws ?_
 refine zaF (J:=Bool) (fun j=>[(4,.b j)]) (fun j H' g'=>St (·<g) H0 [] H' g'/\zc9 j=some r) ?_ ?_
 ·rintro v1 H g1 ⟨hS,hM⟩
  change wpA _ _ _ _ (Fr.of [(4,.b v1)]) _ _
  replace hS:St (·<g) H0 [] H g1:=hS
  replace hM:zc9 v1=some r:=hM
  refine zaB ?_
  refine zaO (x:=.b v1) (f:=fun r=>.b r) (.inr rfl) ?_ (.refl _) (Option.some.inj hM) hS
  exact (zam (zad (x:=.b v1) rfl))
 ·refine Rg 16 ?_
  refine Om (.sl .no 3 (a1.map WireFault.cells)) ?_
  refine zco (n:=a1.length) (by decide) rfl (List.length_map _) zeK ?_
  refine Of ((Wire.cells a0)) zir ?_
  refine Olp (.i a0.Faults) zac zah ?_
  refine Oi (.b (decide ((a1.length:Int)<=a0.Faults))) ?_
  refine Om (.b (decide ((a1.length:Int)<=a0.Faults))) ?_
  rcases bft (decide ((a1.length:Int)<=a0.Faults)) with hb2 | hb2
  ·replace hM:=ifT hM hb2
   refine Oy (want:=true) hb2 ?_
   refine Olg (.agg (Wire.cells a0)) zcd ?_
   refine Oy (want:=true) hb2 ?_
   refine Om (.sl .no 3 (a1.map WireFault.cells)) ?_
   refine Oy (want:=true) hb2 ?_
   obtain ⟨r3,hr3,hM⟩:=zal hM
   refine zat (bs:=[.agg (Wire.cells a0),.sl .no 3 (a1.map WireFault.cells)]) (by decide) rfl rfl ((zmM hr3).le (.k (.k .nil))) ?_
   refine Pt (.b r3) hb2 ?_
   refine Om (.b r3) ?_
   rcases bft r3 with hb4 | hb4
   ·replace hM:=ifT hM hb4
    refine Oy (want:=true) hb4 ?_
    refine Olg (.agg (Wire.cells a0)) zcd ?_
    refine Oy (want:=true) hb4 ?_
    refine Om (.sl .no 3 (a1.map WireFault.cells)) ?_
    refine Oy (want:=true) hb4 ?_
    obtain ⟨r5,hr5,hM⟩:=zal hM
    refine zat (bs:=[.agg (Wire.cells a0),.sl .no 3 (a1.map WireFault.cells)]) (by decide) rfl rfl ((zi6 hr5).le (.k (.k .nil))) ?_
    refine Pt (.b r5) hb4 ?_
    refine Oa (.b r5) ?_
    refine Ni ?_
    exact zai r5 (.k .nil) ⟨(hS.keep [] rfl).up (by omega),hM⟩
   ·replace hM:=ifF hM hb4
    refine On (want:=true) hb4 ?_
    refine On (want:=true) hb4 ?_
    refine On (want:=true) hb4 ?_
    refine Pf (.b false) hb4 ?_
    refine Oa (.b false) ?_
    refine Ni ?_
    exact zai false (.k .nil) ⟨(hS.keep [] rfl).up (by omega),hM⟩
  ·replace hM:=ifF hM hb2
   refine On (want:=true) hb2 ?_
   refine On (want:=true) hb2 ?_
   refine On (want:=true) hb2 ?_
   refine Pf (.b false) hb2 ?_
   refine Om (.b false) ?_
   refine Og ?_
   refine Og ?_
   refine Og ?_
   refine zk6 (v:=.b false) (e:=false) (by decide) rfl rfl rfl ?_
   refine Oa (.b false) ?_
   refine Ni ?_
   exact zai false (.k .nil) ⟨(hS.keep [] rfl).up (by omega),hM⟩
theorem zc2 {a0:Int} {a1:Int} {a2:Int} {r:Bool} (hM:zcr a0 a1 a2=some r):zav Tryz.prog 70 [.i a0,.i a1,.i a2] (.b r):=by
 refine zan mixed Tryz.func70 rfl (by decide) Tryz.ntmps70 (by simp) ?pure fun H0 g hf=>?_
 case pure=>exact .v _
 rw [zag]
 change wpA _ _ _ _ (Fr.of [(0,.i a0),(1,.i a1),(2,.i a2)]) H0 g
 have hS:=St.start hf
 refine Sq ?_
 refine Rg 1 ?_
 refine Oa (.b false) ?_
 refine Ni ?_
 refine Ws ?_
 refine zaF (J:=Bool) (fun j=>[(6,.b j)]) (fun j H' g'=>St (·<g) H0 [] H' g'/\zdT j=some r) ?_ ?_
 ·rintro v1 H g1 ⟨hS,hM⟩
  change wpA _ _ _ _ (Fr.of [(6,.b v1)]) _ _
  replace hS:St (·<g) H0 [] H g1:=hS
  replace hM:zdT v1=some r:=hM
  refine zaB ?_
  refine zaO (x:=.b v1) (f:=fun r=>.b r) (.inr rfl) ?_ (.refl _) (Option.some.inj hM) hS
  exact (zam (zad (x:=.b v1) rfl))
 ·refine Rg 9 ?_
  refine Om (.i a1) ?_
  refine Om (.i a0) ?_
  refine Oi (.b (decide (a1<=a0))) ?_
  refine Om (.b (decide (a1<=a0))) ?_
  rcases bft (decide (a1<=a0)) with hb2 | hb2
  ·replace hM:=ifT hM hb2
   refine Oy (want:=true) hb2 ?_
   refine Om (.i a0) ?_
   refine Oy (want:=true) hb2 ?_
   refine Om (.i a2) ?_
   refine Oy (want:=true) hb2 ?_
   refine Oi (.b (decide (a0<=a2))) ?_
   refine Pt (.b (decide (a0<=a2))) hb2 ?_
   refine Oa (.b (decide (a0<=a2))) ?_
   refine Ni ?_
   exact zai (decide (a0<=a2)) (.k .nil) ⟨(hS.keep [] rfl).up (by omega),hM⟩
  ·replace hM:=ifF hM hb2
   refine On (want:=true) hb2 ?_
   refine On (want:=true) hb2 ?_
   refine On (want:=true) hb2 ?_
   refine Pf (.b false) hb2 ?_
   refine Oa (.b false) ?_
   refine Ni ?_
   exact zai false (.k .nil) ⟨(hS.keep [] rfl).up (by omega),hM⟩
theorem ziU {n:Nat} {a0:Pulse} {r:Int} (hM:zf3 n a0=some r):zav Tryz.prog 46 [.agg (Pulse.cells a0)] (.i r):=by
 refine zan mixed Tryz.func46 rfl (by decide) Tryz.ntmps46 (by simp) ?pure fun H0 g hf=>?_
 case pure=>exact .v _
 rw [zag]
 change wpA _ _ _ _ (Fr.of [(0,.agg (Pulse.cells a0))]) H0 g
 have hS:=St.start hf
 refine Sq ?_
 refine Rg 2 ?_
 refine zbP (v:=.agg (Pulse.cells a0)) (cs:=(Pulse.cells a0)) hS (by decide) rfl rfl (by omega) fun H hS=>?_
 refine Oa (.i 0) ?_
 refine Ni ?_
 refine zaT (L':=[]) 0 1 hS rfl rfl rfl fun H hS=>?_
 refine Ws ?_
 refine zaF (J:=Unit) (fun j=>[(1,.ep (Pulse.cells a0))]) (fun j H' g'=>St (·<g) H0 [] H' g'/\zgN n a0=some r) ?_ ?_
 ·rintro _ H g1 ⟨hS,hM⟩
  change wpA _ _ _ _ (Fr.of [(1,.ep (Pulse.cells a0))]) _ _
  replace hS:St (·<g) H0 [] H g1:=hS
  replace hM:zgN n a0=some r:=hM
  refine zaF (J:=Unit) (fun j=>[]) (fun j H' g'=>St (·<g) H0 [] H' g'/\zfi=some r) ?_ ?_
  ·rintro _ H g2 ⟨hS,hM⟩
   change wpA _ _ _ _ (Fr.of []) _ _
   replace hS:St (·<g) H0 [] H g2:=hS
   replace hM:zfi=some r:=hM
   refine Sq ?_
   refine Rg 1 ?_
   refine Oa (.i 0) ?_
   refine Ni ?_
   refine Ws ?_
   refine zaB ?_
   refine zaO (x:=.i 0) (f:=fun r=>.i r) (.inr rfl) ?_ (.refl _) (Option.some.inj hM) hS
   exact (zam (zad (x:=.i 0) rfl))
  ·refine Sq ?_
   refine Rg 4 ?_
   refine Of ((Pulse.cells a0)) zdW ?_
   refine Olp (.sl .no 1 (a0.Times.map cI)) zbr zcc ?_
   refine zco (n:=a0.Times.length) (by decide) rfl (List.length_map _) zbc ?_
   refine Om (.i 0) ?_
   refine Ni ?_
   refine Ws ?_
   refine zap ?_
   refine zbI (V:=Int) (fun v=>[(1,.ep (Pulse.cells a0)),(58,.sl .no 1 (a0.Times.map cI)),(59,.i (a0.Times.length:Int)),(60,.i v)]) (fun v m3 H' g'=>St (·<g) H0 [] H' g'/\zb7 a0 m3 v=some r) (n:=n) 0 (.k (.k (.k (.k .nil)))) ⟨(hS.keep [] rfl).up (by omega),hM⟩ ?_
   rintro v1 m3 H g3 ⟨hS,hM⟩
   obtain _ | m3:=m3
   ·exact nomatch (show none=some _ from hM)
   change wpA _ _ _ _ (Fr.of [(1,.ep (Pulse.cells a0)),(58,.sl .no 1 (a0.Times.map cI)),(59,.i (a0.Times.length:Int)),(60,.i v1)]) _ _
   replace hS:St (·<g) H0 [] H g3:=hS
   replace hM:zez a0 (zb7 a0 m3) v1=some r:=hM
   refine Sq ?_
   refine Rg 1 ?_
   refine Oi (.b (decide (v1<(a0.Times.length:Int)))) ?_
   refine Ni ?_
   refine Ws ?_
   refine Sq ?_
   rcases bft (decide (v1<(a0.Times.length:Int))) with hb2 | hb2
   ·replace hM:=ifT hM hb2
    refine Ct hb2 ?_
    refine zas ?_
    refine Ws ?_
    refine Sq ?_
    refine zap ?_
    refine Sq ?_
    refine Rg 5 ?_
    refine Om (.i v1) ?_
    obtain ⟨x3,hx3,hM⟩:=zal hM
    refine zbj (xs:=a0.Times) (f:=cI) (z:=v1) (u:=x3) (by decide) rfl rfl zbi hx3 ?_
    refine Olp (.i x3) zac zah ?_
    refine Oa (.i v1) ?_
    refine Oa (.i x3) ?_
    refine Ni ?_
    refine Ws ?_
    refine zaF (J:=Bool) (fun j=>[(1,.ep (Pulse.cells a0)),(58,.sl .no 1 (a0.Times.map cI)),(59,.i (a0.Times.length:Int)),(60,.i v1),(81,.b j)]) (fun j H' g'=>St (·<g) H0 [] H' g'/\zcv (zb7 a0 m3) v1 j=some r) ?_ ?_
    ·rintro v4 H g4 ⟨hS,hM⟩
     change wpA _ _ _ _ (Fr.of [(1,.ep (Pulse.cells a0)),(58,.sl .no 1 (a0.Times.map cI)),(59,.i (a0.Times.length:Int)),(60,.i v1),(81,.b v4)]) _ _
     replace hS:St (·<g) H0 [] H g4:=hS
     replace hM:zcv (zb7 a0 m3) v1 v4=some r:=hM
     rcases bft v4 with hb5 | hb5
     ·replace hM:=ifT hM hb5
      refine Ct hb5 ?_
      refine Sq ?_
      refine Rg 1 ?_
      refine Oa (.i 130) ?_
      refine Ni ?_
      refine Ws ?_
      refine zaB ?_
      refine zaq ?_
      refine zak ?_
      refine zaL ?_
      refine zaq ?_
      refine zaI ?_
      refine zaO (x:=.i 130) (f:=fun r=>.i r) (.inr rfl) ?_ (.refl _) (Option.some.inj hM) hS
      exact (zam (zad (x:=.i 130) rfl))
     ·replace hM:=ifF hM hb5
      refine Cf hb5 ?_
      refine zas ?_
      refine zae ?_
      refine Ws ?_
      refine Rg 2 ?_
      refine Oi (.i (w64 (v1+1))) ?_
      refine Om (.i (w64 (v1+1))) ?_
      refine Ni ?_
      exact za4 (w64 (v1+1)) (Nat.lt_succ_self _) (.k (.k (.k (.k .nil)))) ⟨(hS.keep [] rfl).up (by omega),hM⟩
    ·refine Rg 17 ?_
     refine Om (.i x3) ?_
     obtain ⟨r6,hr6,hM⟩:=zal hM
     refine zat (bs:=[.i x3,.i 0,.i 99999]) (by decide) rfl rfl ((zc2 hr6).le (.k (.k (.k .nil)))) ?_
     refine zdc (e:=r6) (by decide) rfl ?_
     refine Om (.b (!r6)) ?_
     rcases bft (!r6) with hb7 | hb7
     ·replace hM:=ifT hM hb7
      refine On (want:=false) hb7 ?_
      refine On (want:=false) hb7 ?_
      refine On (want:=false) hb7 ?_
      refine zaj (j:=6) (by decide) rfl ?_
      refine zaj (j:=6) (by decide) rfl ?_
      refine zaj (j:=6) (by decide) rfl ?_
      refine zaj (j:=6) (by decide) rfl ?_
      refine zaj (j:=6) (by decide) rfl ?_
      refine zaj (j:=6) (by decide) rfl ?_
      refine zaj (j:=6) (by decide) rfl ?_
      refine zaj (j:=6) (by decide) rfl ?_
      refine On (want:=false) hb7 ?_
      refine Pt (.b true) hb7 ?_
      refine Ni ?_
      exact zai true (.k (.k (.k (.k (.k .nil))))) ⟨(hS.keep [] rfl).up (by omega),hM⟩
     ·replace hM:=ifF hM hb7
      refine Oy (want:=false) hb7 ?_
      refine Om (.i v1) ?_
      refine Oy (want:=false) hb7 ?_
      refine Oi (.b (decide (v1>0))) ?_
      refine Oy (want:=false) hb7 ?_
      refine Om (.b (decide (v1>0))) ?_
      rcases bft (decide (v1>0)) with hb8 | hb8
      ·replace hM:=ifT hM hb8
       refine Oy (want:=true) hb8 ?_
       refine Om (.i x3) ?_
       refine Oy (want:=true) hb8 ?_
       refine Of ((Pulse.cells a0)) zdW ?_
       refine Oy (want:=true) hb8 ?_
       refine Olp (.sl .no 1 (a0.Times.map cI)) zbr zcc ?_
       refine Oy (want:=true) hb8 ?_
       refine Om (.i v1) ?_
       refine Oy (want:=true) hb8 ?_
       refine Oi (.i (w64 (v1-1))) ?_
       refine Oy (want:=true) hb8 ?_
       obtain ⟨x9,hx9,hM⟩:=zal hM
       refine zbj (xs:=a0.Times) (f:=cI) (z:=(w64 (v1-1))) (u:=x9) (by decide) rfl rfl zbi hx9 ?_
       refine Oy (want:=true) hb8 ?_
       refine Olp (.i x9) zac zah ?_
       refine Oy (want:=true) hb8 ?_
       refine Oi (.b (decide (x3<=x9))) ?_
       refine Oy (want:=false) hb7 ?_
       refine Pt (.b (decide (x3<=x9))) hb8 ?_
       refine Pf (.b (decide (x3<=x9))) hb7 ?_
       refine Ni ?_
       exact zai (decide (x3<=x9)) (.k (.k (.k (.k (.k .nil))))) ⟨(hS.keep [] rfl).up (by omega),hM⟩
      ·replace hM:=ifF hM hb8
       refine On (want:=true) hb8 ?_
       refine On (want:=true) hb8 ?_
       refine On (want:=true) hb8 ?_
       refine On (want:=true) hb8 ?_
       refine On (want:=true) hb8 ?_
       refine On (want:=true) hb8 ?_
       refine On (want:=true) hb8 ?_
       refine On (want:=true) hb8 ?_
       refine Oy (want:=false) hb7 ?_
       refine Pf (.b false) hb8 ?_
       refine Pf (.b false) hb7 ?_
       refine Ni ?_
       exact zai false (.k (.k (.k (.k (.k .nil))))) ⟨(hS.keep [] rfl).up (by omega),hM⟩
   ·replace hM:=ifF hM hb2
    refine Cf hb2 ?_
    refine zbw ?_
    refine zar ?_
    refine zao ?_
    refine zaw ?_
    exact zai () .nil ⟨(hS.keep [] rfl).up (by omega),hM⟩
 ·refine Sq ?_
  refine Rg 39 ?_
  refine Of ((Pulse.cells a0)) zgX ?_
  refine Olp (.i a0.Letters) zac zah ?_
  refine zcm (cs:=[.i a0.Letters,.i 1,.i 5]) (by decide) zeL zhl rfl ?_
  refine Of ((Pulse.cells a0)) zdo ?_
  refine Olp (.i a0.Numbers) zac zah ?_
  refine zcm (cs:=[.i a0.Numbers,.i 1,.i 5]) (by decide) zeL zhl rfl ?_
  refine Of ((Pulse.cells a0)) zfw ?_
  refine Olp (.i a0.Pitch) zac zah ?_
  refine zcm (cs:=[.i a0.Pitch,.i 1,.i 99]) (by decide) zeL zhl rfl ?_
  refine Of ((Pulse.cells a0)) zhE ?_
  refine Olp (.i a0.Slack) zac zah ?_
  refine Of ((Pulse.cells a0)) zfw ?_
  refine Olp (.i a0.Pitch) zac zah ?_
  refine Oi (.i (w64 (a0.Pitch-1))) ?_
  refine zcm (cs:=[.i a0.Slack,.i 0,.i (w64 (a0.Pitch-1))]) (by decide) zeL zhl rfl ?_
  refine Of ((Pulse.cells a0)) zjt ?_
  refine Olp (.i a0.Gap) zac zah ?_
  refine Of ((Pulse.cells a0)) zfw ?_
  refine Olp (.i a0.Pitch) zac zah ?_
  refine Of ((Pulse.cells a0)) zhE ?_
  refine Olp (.i a0.Slack) zac zah ?_
  refine Oi (.i (w64 (a0.Pitch+a0.Slack))) ?_
  refine Oi (.i (w64 ((w64 (a0.Pitch+a0.Slack))+1))) ?_
  refine Of ((Pulse.cells a0)) zhF ?_
  refine Olp (.i a0.Pause) zac zah ?_
  refine Oi (.i (w64 (a0.Pause-1))) ?_
  refine zcm (cs:=[.i a0.Gap,.i (w64 ((w64 (a0.Pitch+a0.Slack))+1)),.i (w64 (a0.Pause-1))]) (by decide) zeL zhl rfl ?_
  refine Of ((Pulse.cells a0)) zhF ?_
  refine Olp (.i a0.Pause) zac zah ?_
  refine zcm (cs:=[.i a0.Pause,.i 0,.i 999]) (by decide) zeL zhl rfl ?_
  refine Of ((Pulse.cells a0)) zju ?_
  refine Olp (.i a0.Sparks) zac zah ?_
  refine zcm (cs:=[.i a0.Sparks,.i 0,.i 3]) (by decide) zeL zhl rfl ?_
  refine Of ((Pulse.cells a0)) zdW ?_
  refine Olp (.sl .no 1 (a0.Times.map cI)) zbr zcc ?_
  refine zco (n:=a0.Times.length) (by decide) rfl (List.length_map _) zbc ?_
  refine zcm (cs:=[.i (a0.Times.length:Int),.i 0,.i 24]) (by decide) zeL zhl rfl ?_
  refine zcm (cs:=[.i a0.Letters,.i 1,.i 5,.i a0.Numbers,.i 1,.i 5,.i a0.Pitch,.i 1,.i 99,.i a0.Slack,.i 0,.i (w64 (a0.Pitch-1)),.i a0.Gap,.i (w64 ((w64 (a0.Pitch+a0.Slack))+1)),.i (w64 (a0.Pause-1)),.i a0.Pause,.i 0,.i 999,.i a0.Sparks,.i 0,.i 3,.i (a0.Times.length:Int),.i 0,.i 24]) (by decide) zqg ztc rfl ?_
  refine Om (.i 0) ?_
  refine Ni ?_
  refine Ws ?_
  refine zap ?_
  refine zbI (V:=Int) (fun v=>[(1,.ep (Pulse.cells a0)),(44,.agg [.i a0.Letters,.i 1,.i 5,.i a0.Numbers,.i 1,.i 5,.i a0.Pitch,.i 1,.i 99,.i a0.Slack,.i 0,.i (w64 (a0.Pitch-1)),.i a0.Gap,.i (w64 ((w64 (a0.Pitch+a0.Slack))+1)),.i (w64 (a0.Pause-1)),.i a0.Pause,.i 0,.i 999,.i a0.Sparks,.i 0,.i 3,.i (a0.Times.length:Int),.i 0,.i 24]),(45,.i v)]) (fun v m5 H' g'=>St (·<g) H0 [] H' g'/\zbx n a0 m5 v=some r) (n:=n) 0 (.k (.k (.k .nil))) ⟨(hS.keep [] rfl).up (by omega),hM⟩ ?_
  rintro v10 m5 H g5 ⟨hS,hM⟩
  obtain _ | m5:=m5
  ·exact nomatch (show none=some _ from hM)
  change wpA _ _ _ _ (Fr.of [(1,.ep (Pulse.cells a0)),(44,.agg [.i a0.Letters,.i 1,.i 5,.i a0.Numbers,.i 1,.i 5,.i a0.Pitch,.i 1,.i 99,.i a0.Slack,.i 0,.i (w64 (a0.Pitch-1)),.i a0.Gap,.i (w64 ((w64 (a0.Pitch+a0.Slack))+1)),.i (w64 (a0.Pause-1)),.i a0.Pause,.i 0,.i 999,.i a0.Sparks,.i 0,.i 3,.i (a0.Times.length:Int),.i 0,.i 24]),(45,.i v10)]) _ _
  replace hS:St (·<g) H0 [] H g5:=hS
  replace hM:zeA n a0 (zbx n a0 m5) v10=some r:=hM
  refine Sq ?_
  refine Rg 1 ?_
  refine Oi (.b (decide (v10<8))) ?_
  refine Ni ?_
  refine Ws ?_
  refine Sq ?_
  rcases bft (decide (v10<8)) with hb11 | hb11
  ·replace hM:=ifT hM hb11
   refine Ct hb11 ?_
   refine zas ?_
   refine Ws ?_
   refine Sq ?_
   refine zap ?_
   refine Sq ?_
   refine Rg 3 ?_
   obtain ⟨x12,hx12,hM⟩:=zal hM
   refine zsQ (xs:=([(⟨a0.Letters,1,5⟩:An115),(⟨a0.Numbers,1,5⟩:An115),(⟨a0.Pitch,1,99⟩:An115),(⟨a0.Slack,0,w64 (a0.Pitch-1)⟩:An115),(⟨a0.Gap,w64 ((w64 (a0.Pitch+a0.Slack))+1),w64 (a0.Pause-1)⟩:An115),(⟨a0.Pause,0,999⟩:An115),(⟨a0.Sparks,0,3⟩:An115),(⟨(a0.Times.length:Int),0,24⟩:An115)]:List An115)) (f:=An115.cells) (z:=v10) (u:=x12) (by decide) rfl rfl zrL rfl zrJ (fun _=>rfl) hx12 ?_
   refine zcj hS (by decide) zeL (by omega) fun H hS=>?_
   refine zaK (v:=.agg (An115.cells x12)) (ns:=(An115.cells x12)) (L':=[(g5+1+1,.cells (An115.cells x12))]) 0 hS rfl rfl .no rfl rfl zrK nlb rfl fun H hS=>?_
   refine Ni ?_
   refine zaT (L':=[]) 0 4 hS rfl rfl rfl fun H hS=>?_
   refine Ws ?_
   refine Sq ?_
   refine Rg 8 ?_
   refine Of ((An115.cells x12)) zqh ?_
   refine Olp (.i x12.n) zac zah ?_
   refine Of ((An115.cells x12)) zqi ?_
   refine Olp (.i x12.low) zac zah ?_
   refine Of ((An115.cells x12)) zqj ?_
   refine Olp (.i x12.high) zac zah ?_
   obtain ⟨r13,hr13,hM⟩:=zal hM
   refine zat (bs:=(An115.cells x12)) (by decide) rfl rfl ((zc2 hr13).le (.k (.k (.k .nil)))) ?_
   refine zdc (e:=r13) (by decide) rfl ?_
   refine Ni ?_
   refine Ws ?_
   rcases bft (!r13) with hb14 | hb14
   ·replace hM:=ifT hM hb14
    refine Ct hb14 ?_
    refine Sq ?_
    refine Rg 1 ?_
    refine Oa (.i 130) ?_
    refine Ni ?_
    refine Ws ?_
    refine zaB ?_
    refine zaq ?_
    refine zak ?_
    refine zaL ?_
    refine zaq ?_
    refine zaI ?_
    refine zaO (x:=.i 130) (f:=fun r=>.i r) (.inr rfl) ?_ (.refl _) (Option.some.inj hM) hS
    exact (zam (zad (x:=.i 130) rfl))
   ·replace hM:=ifF hM hb14
    refine Cf hb14 ?_
    refine zas ?_
    refine zae ?_
    refine Ws ?_
    refine Rg 2 ?_
    refine Oi (.i (w64 (v10+1))) ?_
    refine Om (.i (w64 (v10+1))) ?_
    refine Ni ?_
    exact za4 (w64 (v10+1)) (Nat.lt_succ_self _) (.k (.k (.k .nil))) ⟨(hS.keep [] rfl).up (by omega),hM⟩
  ·replace hM:=ifF hM hb11
   refine Cf hb11 ?_
   refine zbw ?_
   refine zar ?_
   refine zao ?_
   refine zaw ?_
   exact zai () (.k .nil) ⟨(hS.keep [] rfl).up (by omega),hM⟩
theorem zit {S:Type} {Lo:S->BL} (hk:∀s s',zgl (Lo s) (Lo s')) (hnd:∀s,(ids (Lo s)).Nodup) (hin:∀s,InB In (Lo s)) {aF:Int->S->Option (Bool×S)} {f0:AV} (hF:∀s H,Has H (Lo s)->In H f0) (h0:cellsOf f0=some [f0]) (hf:∀{x0:Int} {s:S} {r:Bool×S},aF x0 s=some r->zjP Tryz.prog f0 [.v (.int .u64 x0)] (Lo s) (.b r.1) (Lo r.2)) {n:Nat} {rec:Train_->Int->Int->Int->S->Option (Bool×S)} (hrec:∀{a0:Train_} {a1:Int} {a2:Int} {a3:Int} {st:S} {r:Bool×S},rec a0 a1 a2 a3 st=some r->zhv Tryz.prog 73 [.agg (Train_.cells a0),.v (.int .u64 a1),.i a2,.i a3,f0] (Lo st) (.b r.1) (Lo r.2)) {a0:Train_} {a1:Int} {a2:Int} {a3:Int} {st:S} {r:Bool×S} (hM:zdO n rec aF a0 a1 a2 a3 st=some r):zhv Tryz.prog 73 [.agg (Train_.cells a0),.v (.int .u64 a1),.i a2,.i a3,f0] (Lo st) (.b r.1) (Lo r.2):=by
 have hnd0:∀s,(ids (Lo s)).Nodup:=fun s=>hnd s
 refine zbg mixed Tryz.func73 rfl (by decide) Tryz.ntmps73 (by simp) (hk _ _) (hnd st) ?pure ?cells fun H0 g hf_ hp=>?_
 case pure=>exact fun H _=>(show Go.AM.Pure _ from .v _).inH
 case cells=>exact hin _
 rw [zag]
 change wpA _ _ _ _ (Fr.of [(0,.agg (Train_.cells a0)),(1,.v (.int .u64 a1)),(2,.i a2),(3,.i a3),(4,f0)]) H0 g
 have hS:=St.startH (L:=([]++Lo st)) hf_ (hnd st) hp
 replace hS:St (fun i=>i<g/\i∉ids (Lo st)) H0 ([]++Lo st) H0 g:=hS
 refine Sq ?_
 refine Rg 2 ?_
 refine zbP (v:=.agg (Train_.cells a0)) (cs:=(Train_.cells a0)) hS (by decide) rfl rfl (by omega) fun H hS=>?_
 refine Oa (.b false) ?_
 refine Ni ?_
 refine zaT (L':=([]++Lo st)) 0 5 hS rfl rfl rfl fun H hS=>?_
 refine Ws ?_
 refine Sq ?_
 refine Sq ?_
 refine Rg 2 ?_
 refine Om (.i a3) ?_
 refine Oi (.b (a3==0)) ?_
 refine Ni ?_
 refine Ws ?_
 rcases bft (a3==0) with hb1 | hb1
 ·replace hM:=ifT hM hb1
  refine Ct hb1 ?_
  refine Sq ?_
  refine Rg 4 ?_
  refine Om (f0) ?_
  refine Om (.v (.int .u64 a1)) ?_
  obtain ⟨r2,hr2,hM⟩:=zal hM
  replace hS:St (fun i=>i<g/\i∉ids (Lo st)) H0 ([]++Lo st) _ _:=hS
  refine zhN (bs:=[.v (.int .u64 a1)]) (.inl rfl) hS (by decide) rfl rfl ((hf hr2).le (.k .nil)) (hk _ _).ids (by omega) fun H hS=>?_
  refine Oa (.b r2.1) ?_
  refine Ni ?_
  refine Ws ?_
  refine zaB ?_
  refine zak ?_
  refine zcD (x:=.b r2.1) (f:=fun r=>.b r.1) (fd:=fun r=>(Lo r.2)) (.inr rfl) ?_ (.refl _) (Option.some.inj hM) hS 0 rfl
  exact (zam (zad (x:=.b r2.1) rfl))
 ·replace hM:=ifF hM hb1
  refine Cf hb1 ?_
  refine zas ?_
  refine Ws ?_
  refine zaF (J:=S) (fun j=>[]) (fun j H' g'=>St (fun i=>i<g/\i∉ids (Lo st)) H0 ([]++Lo j) H' g'/\zdv j=some r) ?_ ?_
  ·rintro v3 H g1 ⟨hS,hM⟩
   change wpA _ _ _ _ (Fr.of []) _ _
   replace hS:St (fun i=>i<g/\i∉ids (Lo st)) H0 ([]++Lo v3) H g1:=hS
   replace hM:zdv v3=some r:=hM
   refine Sq ?_
   refine Rg 1 ?_
   refine Oa (.b true) ?_
   refine Ni ?_
   refine Ws ?_
   refine zaB ?_
   refine zcD (x:=.b true) (f:=fun r=>.b r.1) (fd:=fun r=>(Lo r.2)) (.inr rfl) ?_ (.refl _) (Option.some.inj hM) hS 0 rfl
   exact (zam (zad (x:=.b true) rfl))
  ·refine Sq ?_
   refine Rg 2 ?_
   refine Om (.i a2) ?_
   refine Oa (.i a2) ?_
   refine Ni ?_
   refine Ws ?_
   refine zap ?_
   refine zbI (V:=Int×S) (fun v=>[(1,.v (.int .u64 a1)),(3,.i a3),(4,f0),(5,.ep (Train_.cells a0)),(11,.i v.1)]) (fun v m3 H' g'=>St (fun i=>i<g/\i∉ids (Lo st)) H0 ([]++Lo v.2) H' g'/\zbG rec a0 a1 a3 m3 v.1 v.2=some r) (n:=n) (a2,st) (.k (.k (.k (.k (.k .nil))))) ⟨(hS.keep [] rfl).up (by omega),hM⟩ ?_
   rintro ⟨v5,v6⟩ m3 H g3 ⟨hS,hM⟩
   obtain _ | m3:=m3
   ·exact nomatch (show none=some _ from hM)
   change wpA _ _ _ _ (Fr.of [(1,.v (.int .u64 a1)),(3,.i a3),(4,f0),(5,.ep (Train_.cells a0)),(11,.i v5)]) _ _
   replace hS:St (fun i=>i<g/\i∉ids (Lo st)) H0 ([]++Lo v6) H g3:=hS
   replace hM:zc4 rec a0 a1 a3 (zbG rec a0 a1 a3 m3) v5 v6=some r:=hM
   refine Sq ?_
   refine Sq ?_
   refine Rg 6 ?_
   refine Om (.i v5) ?_
   refine Of ((Train_.cells a0)) zc1 ?_
   refine Of ((Train_.cells a0)) zdW ?_
   refine Olp (.sl .no 1 (a0.Pulse.Times.map cI)) zbr zcc ?_
   refine zco (n:=a0.Pulse.Times.length) (by decide) rfl (List.length_map _) zbc ?_
   refine Oi (.b (decide (v5<(a0.Pulse.Times.length:Int)))) ?_
   refine Ni ?_
   refine Ws ?_
   rcases bft (decide (v5<(a0.Pulse.Times.length:Int))) with hb7 | hb7
   ·replace hM:=ifT hM hb7
    refine Ct hb7 ?_
    refine zas ?_
    refine Ws ?_
    refine Sq ?_
    refine zap ?_
    refine Sq ?_
    have hS0:=hS
    refine zdy (n:=12) rfl (by kernel_rfl) ?_
    refine Olg (.agg (Train_.cells a0)) zhj ?_
    refine Om (.v (.int .u64 a1)) ?_
    refine Om (.i v5) ?_
    obtain ⟨q8,hq8,hM⟩:=zal hM
    refine zq5 (by decide) rfl rfl (zt9 hq8) ?_
    refine Oi (.v (.int .u64 (zvd a1 q8))) ?_
    refine Om (.i v5) ?_
    refine Oi (.i (w64 (v5+1))) ?_
    refine Om (.i a3) ?_
    refine Oi (.i (w64 (a3-1))) ?_
    refine Om (f0) ?_
    obtain ⟨r9,hr9,hM⟩:=zal hM
    replace hS:St (fun i=>i<g/\i∉ids (Lo st)) H0 ([]++Lo v6) _ _:=hS
    refine zhe (bs:=[.agg (Train_.cells a0),.v (.int .u64 (zvd a1 q8)),.i (w64 (v5+1)),.i (w64 (a3-1)),f0]) (.inr (by kernel_rfl)) hS (by decide) rfl rfl ((hrec hr9).le (.k (.k (.k (.k (.k .nil)))))) (hk _ _).ids (by omega) fun H hS=>?_
    refine zdc (e:=r9.1) (by decide) rfl ?_
    refine Ni ?_
    refine Ws ?_
    rcases bft (!r9.1) with hb10 | hb10
    ·replace hM:=ifT hM hb10
     refine Ct hb10 ?_
     refine Sq ?_
     refine Rg 1 ?_
     refine Oa (.b false) ?_
     refine Ni ?_
     refine Ws ?_
     refine zaB ?_
     refine zaq ?_
     refine zak ?_
     refine zaL ?_
     refine zaq ?_
     refine zaI ?_
     refine zcD (x:=.b false) (f:=fun r=>.b r.1) (fd:=fun r=>(Lo r.2)) (.inr rfl) ?_ (.refl _) (Option.some.inj hM) hS 0 rfl
     exact (zam (zad (x:=.b false) rfl))
    ·replace hM:=ifF hM hb10
     refine Cf hb10 ?_
     refine zas ?_
     refine zae ?_
     refine Ws ?_
     refine Rg 3 ?_
     refine Om (.i v5) ?_
     refine Oi (.i (w64 (v5+1))) ?_
     refine Oa (.i (w64 (v5+1))) ?_
     refine Ni ?_
     exact za4 (w64 (v5+1),r9.2) (Nat.lt_succ_self _) (.k (.k (.k (.k (.k .nil))))) ⟨(hS.keep [] rfl).up (by omega),hM⟩
   ·replace hM:=ifF hM hb7
    refine Cf hb7 ?_
    refine zbw ?_
    refine zar ?_
    refine zao ?_
    refine zaw ?_
    exact zai v6 .nil ⟨(hS.keep [] rfl).up (by omega),hM⟩
theorem zgZ {S:Type} {Lo:S->BL} (hk:∀s s',zgl (Lo s) (Lo s')) (hnd:∀s,(ids (Lo s)).Nodup) (hin:∀s,InB In (Lo s)) {aF:Int->S->Option (Bool×S)} {f0:AV} (hF:∀s H,Has H (Lo s)->In H f0) (h0:cellsOf f0=some [f0]) (hf:∀{x0:Int} {s:S} {r:Bool×S},aF x0 s=some r->zjP Tryz.prog f0 [.v (.int .u64 x0)] (Lo s) (.b r.1) (Lo r.2)):∀{n:Nat} {a0:Train_} {a1:Int} {a2:Int} {a3:Int} {st:S} {r:Bool×S},zbD n aF a0 a1 a2 a3 st=some r->zhv Tryz.prog 73 [.agg (Train_.cells a0),.v (.int .u64 a1),.i a2,.i a3,f0] (Lo st) (.b r.1) (Lo r.2)
 | 0,_,_,_,_,_,_,h=>nomatch (show none=some _ from h)
 | n+1,_,_,_,_,_,_,h=>zit hk hnd hin hF h0 hf (n:=n) (rec:=zbD n aF) (fun h=>zgZ hk hnd hin hF h0 hf h) h
theorem zkl {a0:Int} {a1:Int} {r:Bool} (hM:zfV a0 a1=some r):zav Tryz.prog 75 [.v (.int .u64 a0),.i a1] (.b r):=by
 refine zan mixed Tryz.func75 rfl (by decide) Tryz.ntmps75 (by simp) ?pure fun H0 g hf=>?_
 case pure=>exact .v _
 rw [zag]
 change wpA _ _ _ _ (Fr.of [(0,.v (.int .u64 a0)),(1,.i a1)]) H0 g
 have hS:=St.start hf
 refine Sq ?_
 refine Rg 1 ?_
 refine Oa (.b false) ?_
 refine Ni ?_
 refine Ws ?_
 refine Sq ?_
 refine Rg 6 ?_
 refine Om (.v (.int .u64 a0)) ?_
 refine Om (.i a1) ?_
 obtain ⟨q1,hq1,hM⟩:=zal hM
 refine zq5 (by decide) rfl rfl (zua hq1) ?_
 refine Oi (.v (.int .u64 (znl q1 1))) ?_
 refine Oi (.b ((znl q1 1)==1)) ?_
 refine Oa (.b ((znl q1 1)==1)) ?_
 refine Ni ?_
 refine Ws ?_
 refine zaB ?_
 refine zaO (x:=.b ((znl q1 1)==1)) (f:=fun r=>.b r) (.inr rfl) ?_ (.refl _) (Option.some.inj hM) hS
 exact (zam (zad (x:=.b ((znl q1 1)==1)) rfl))
theorem zfA {p1 w1 p2 p3:Nat} (hnd:[p1,w1,p2,p3].Nodup) {a1:Groups_} {a2:Train_} {st:(List Int)} {r:Bool×(List Int)} (hM:zcL a1 a2 st=some r):zhv Tryz.prog 98 [.ptr p1 0,.ptr p2 0,.ptr p3 0] [(p1,.cells [.sl (.id w1) 1 (st.map cI)]),(w1,.row 3 st.length),(p2,.cells (Groups_.cells a1)),(p3,.cells (Train_.cells a2))] (.b r.1) [(p1,.cells [.sl (.id w1) 1 (r.2.map cI)]),(w1,.row 3 r.2.length),(p2,.cells (Groups_.cells a1)),(p3,.cells (Train_.cells a2))]:=by
 refine zbg mixed Tryz.func98 rfl (by decide) Tryz.ntmps98 (by simp) (zb6 (zpd (zb6 (zb6 zd8)))) hnd ?pure ?cells fun H0 g hf_ hp=>?_
 case pure=>exact fun H _=>(show Go.AM.Pure _ from .v _).inH
 case cells=>exact (zgI (zcp (zax (.inl (.inr ⟨_,_,_,_,_,rfl,(List.mem_of_getElem? (i:=1) rfl),zau (fun x=>(zaa (.v _) zaC))⟩)) zeO) (zq9 (zcp (zax (.inl (.inl (.v _))) (zax (.inl (.inl (.v _))) zeO)) (zcp (zax (.inl (.inl (.v _))) (zax (.inl (.inl (.v _))) (zax (.inl (.inl (.v _))) (zax (.inl (.inl (.v _))) (zax (.inl (.inl (.v _))) (zax (.inl (.inl (.v _))) (zax (.inl (.inl (.v _))) (zax (.inl (.inl (.sl _ _ (zau (fun x=>(zaa (.v _) zaC)))))) zeO)))))))) zgH)))) zd3)
 rw [zag]
 change wpA _ _ _ _ (Fr.of [(0,.ptr p1 0),(1,.ptr p2 0),(2,.ptr p3 0)]) H0 g
 have hS:=St.startH (L:=[(p1,.cells [.sl (.id w1) 1 (st.map cI)]),(w1,.row 3 st.length),(p2,.cells (Groups_.cells a1)),(p3,.cells (Train_.cells a2))]) hf_ hnd hp
 replace hS:St (fun i=>i<g/\i∉ids [(p1,.cells [.sl (.id w1) 1 (st.map cI)]),(w1,.row 3 st.length),(p2,.cells (Groups_.cells a1)),(p3,.cells (Train_.cells a2))]) H0 [(p1,.cells [.sl (.id w1) 1 (st.map cI)]),(w1,.row 3 st.length),(p2,.cells (Groups_.cells a1)),(p3,.cells (Train_.cells a2))] H0 g:=hS
 refine Sq ?_
 refine Rg 1 ?_
 refine Oa (.b false) ?_
 refine Ni ?_
 refine Ws ?_
 refine Sq ?_
 refine Rg 15 ?_
 refine zaW (v:=.sl (.id w1) 1 (st.map cI)) 0 hS (by decide) rfl rfl .no (po zbr zcc) ?_
 refine zaJ (by decide) ziK rfl ?_
 refine zaW (v:=.i a1.letter) 2 hS (by decide) rfl rfl .no (po zac zah) ?_
 refine Oi (.i (w64 (a1.letter-1))) ?_
 refine zaJ (by decide) zc1 rfl ?_
 refine zaJ (by decide) zdo rfl ?_
 refine zaW (v:=.i a2.Pulse.Numbers) 3 hS (by decide) rfl rfl .no (po zac zah) ?_
 refine Oi (.i (w64 ((w64 (a1.letter-1))*a2.Pulse.Numbers))) ?_
 refine zaJ (by decide) zfM rfl ?_
 refine zaW (v:=.i a1.number) 2 hS (by decide) rfl rfl .no (po zac zah) ?_
 refine Oi (.i (w64 ((w64 ((w64 (a1.letter-1))*a2.Pulse.Numbers))+a1.number))) ?_
 refine Oi (.i (w64 ((w64 ((w64 ((w64 (a1.letter-1))*a2.Pulse.Numbers))+a1.number))-1))) ?_
 refine zaX (es:=[[.i (w64 ((w64 ((w64 ((w64 (a1.letter-1))*a2.Pulse.Numbers))+a1.number))-1))]]) hS (by decide) zbi zes rfl zet rfl (by decide) (by omega) fun H hS=>?_
 obtain ⟨l1,hl1,hM⟩:=zal hM
 refine zdd (xs:=st) (ys:=([w64 ((w64 ((w64 ((w64 (a1.letter-1))*a2.Pulse.Numbers))+a1.number))-1)]:List Int)) (zs:=l1) (f:=cI) (L':=[(g+1+12,.row 3 1),(p1,.cells [.sl (.id w1) 1 (st.map cI)]),(w1,.row 3 l1.length),(p2,.cells (Groups_.cells a1)),(p3,.cells (Train_.cells a2))]) 2 hS (by decide) rfl rfl rfl rfl .no zbi zes zet hl1 rfl fun H hS=>?_
 refine zaK (v:=.sl (.id w1) 1 (l1.map cI)) (ns:=[.sl (.id w1) 1 (l1.map cI)]) (L':=[(g+1+12,.row 3 1),(p1,.cells [.sl (.id w1) 1 (l1.map cI)]),(w1,.row 3 l1.length),(p2,.cells (Groups_.cells a1)),(p3,.cells (Train_.cells a2))]) 1 hS rfl rfl .no rfl rfl zfX nlb rfl fun H hS=>?_
 refine Ni ?_
 replace hS:=hS.keep (L':=[(p1,.cells [.sl (.id w1) 1 (l1.map cI)]),(w1,.row 3 l1.length),(p2,.cells (Groups_.cells a1)),(p3,.cells (Train_.cells a2))]) [false,true,true,true,true] rfl
 refine Ws ?_
 refine zaF (J:=Bool) (fun j=>[(3,.b j)]) (fun j H' g'=>St (fun i=>i<g/\i∉ids [(p1,.cells [.sl (.id w1) 1 (st.map cI)]),(w1,.row 3 st.length),(p2,.cells (Groups_.cells a1)),(p3,.cells (Train_.cells a2))]) H0 [(p1,.cells [.sl (.id w1) 1 (l1.map cI)]),(w1,.row 3 l1.length),(p2,.cells (Groups_.cells a1)),(p3,.cells (Train_.cells a2))] H' g'/\zb8 l1 j=some r) ?_ ?_
 ·rintro v2 H g1 ⟨hS,hM⟩
  change wpA _ _ _ _ (Fr.of [(3,.b v2)]) _ _
  replace hS:St (fun i=>i<g/\i∉ids [(p1,.cells [.sl (.id w1) 1 (st.map cI)]),(w1,.row 3 st.length),(p2,.cells (Groups_.cells a1)),(p3,.cells (Train_.cells a2))]) H0 [(p1,.cells [.sl (.id w1) 1 (l1.map cI)]),(w1,.row 3 l1.length),(p2,.cells (Groups_.cells a1)),(p3,.cells (Train_.cells a2))] H g1:=hS
  replace hM:zb8 l1 v2=some r:=hM
  refine zaB ?_
  refine zcD (x:=.b v2) (f:=fun r=>.b r.1) (fd:=fun r=>[(p1,.cells [.sl (.id w1) 1 (r.2.map cI)]),(w1,.row 3 r.2.length),(p2,.cells (Groups_.cells a1)),(p3,.cells (Train_.cells a2))]) (.inr rfl) ?_ (.refl _) (Option.some.inj hM) hS 0 rfl
  exact (zam (zad (x:=.b v2) rfl))
 ·refine Rg 15 ?_
  refine zaJ (by decide) ziK rfl ?_
  refine zaW (v:=.i a1.letter) 2 hS (by decide) rfl rfl .no (po zac zah) ?_
  refine zaJ (by decide) zc1 rfl ?_
  refine zaJ (by decide) zgX rfl ?_
  refine zaW (v:=.i a2.Pulse.Letters) 3 hS (by decide) rfl rfl .no (po zac zah) ?_
  obtain ⟨r3,hr3,hM⟩:=zal hM
  refine zat (bs:=[.i a1.letter,.i 1,.i a2.Pulse.Letters]) (by decide) rfl rfl ((zc2 hr3).le (.k (.k (.k .nil)))) ?_
  refine Om (.b r3) ?_
  rcases bft r3 with hb4 | hb4
  ·replace hM:=ifT hM hb4
   refine Oy (want:=true) hb4 ?_
   refine zaJ (by decide) zfM rfl ?_
   refine Oy (want:=true) hb4 ?_
   refine zaW (v:=.i a1.number) 2 hS (by decide) rfl rfl .no (po zac zah) ?_
   refine Oy (want:=true) hb4 ?_
   refine zaJ (by decide) zc1 rfl ?_
   refine Oy (want:=true) hb4 ?_
   refine zaJ (by decide) zdo rfl ?_
   refine Oy (want:=true) hb4 ?_
   refine zaW (v:=.i a2.Pulse.Numbers) 3 hS (by decide) rfl rfl .no (po zac zah) ?_
   refine Oy (want:=true) hb4 ?_
   obtain ⟨r5,hr5,hM⟩:=zal hM
   refine zat (bs:=[.i a1.number,.i 1,.i a2.Pulse.Numbers]) (by decide) rfl rfl ((zc2 hr5).le (.k (.k (.k .nil)))) ?_
   refine Pt (.b r5) hb4 ?_
   refine Oa (.b r5) ?_
   refine Ni ?_
   exact zai r5 (.k .nil) ⟨(hS.keep [true,true,true,true] rfl).up (by omega),hM⟩
  ·replace hM:=ifF hM hb4
   refine On (want:=true) hb4 ?_
   refine On (want:=true) hb4 ?_
   refine On (want:=true) hb4 ?_
   refine On (want:=true) hb4 ?_
   refine On (want:=true) hb4 ?_
   refine On (want:=true) hb4 ?_
   refine Pf (.b false) hb4 ?_
   refine Oa (.b false) ?_
   refine Ni ?_
   exact zai false (.k .nil) ⟨(hS.keep [true,true,true,true] rfl).up (by omega),hM⟩
theorem zi7 {a0:Train_} {a1:Int} {r:Int} (hM:zeB a0 a1=some r):zav Tryz.prog 99 [.agg (Train_.cells a0),.i a1] (.i r):=by
 refine zan mixed Tryz.func99 rfl (by decide) Tryz.ntmps99 (by simp) ?pure fun H0 g hf=>?_
 case pure=>exact .v _
 rw [zag]
 change wpA _ _ _ _ (Fr.of [(0,.agg (Train_.cells a0)),(1,.i a1)]) H0 g
 have hS:=St.start hf
 refine Sq ?_
 refine Rg 2 ?_
 refine zbP (v:=.agg (Train_.cells a0)) (cs:=(Train_.cells a0)) hS (by decide) rfl rfl (by omega) fun H hS=>?_
 refine Oa (.i 0) ?_
 refine Ni ?_
 refine zaT (L':=[]) 0 2 hS rfl rfl rfl fun H hS=>?_
 refine Ws ?_
 refine Sq ?_
 refine zap ?_
 refine Sq ?_
 refine Rg 6 ?_
 refine Om (.i a1) ?_
 refine Of ((Train_.cells a0)) zc1 ?_
 refine Of ((Train_.cells a0)) zhF ?_
 refine Olp (.i a0.Pulse.Pause) zac zah ?_
 refine Oi (.b (decide (a1≥a0.Pulse.Pause))) ?_
 refine Oa (.b (decide (a1≥a0.Pulse.Pause))) ?_
 refine Ni ?_
 refine Ws ?_
 rcases bft (decide (a1≥a0.Pulse.Pause)) with hb1 | hb1
 ·replace hM:=ifT hM hb1
  refine Ct hb1 ?_
  refine Sq ?_
  refine Rg 1 ?_
  refine Oa (.i 3) ?_
  refine Ni ?_
  refine Ws ?_
  refine zaB ?_
  refine zaq ?_
  refine zak ?_
  refine zaO (x:=.i 3) (f:=fun r=>.i r) (.inr rfl) ?_ (.refl _) (Option.some.inj hM) hS
  exact (zam (zad (x:=.i 3) rfl))
 ·replace hM:=ifF hM hb1
  refine Cf hb1 ?_
  refine Sq ?_
  refine Rg 6 ?_
  refine Om (.i a1) ?_
  refine Of ((Train_.cells a0)) zc1 ?_
  refine Of ((Train_.cells a0)) zjt ?_
  refine Olp (.i a0.Pulse.Gap) zac zah ?_
  refine Oi (.b (decide (a1≥a0.Pulse.Gap))) ?_
  refine Oa (.b (decide (a1≥a0.Pulse.Gap))) ?_
  refine Ni ?_
  refine Ws ?_
  rcases bft (decide (a1≥a0.Pulse.Gap)) with hb2 | hb2
  ·replace hM:=ifT hM hb2
   refine Ct hb2 ?_
   refine Sq ?_
   refine Rg 1 ?_
   refine Oa (.i 2) ?_
   refine Ni ?_
   refine Ws ?_
   refine zaB ?_
   refine zaq ?_
   refine zak ?_
   refine zaO (x:=.i 2) (f:=fun r=>.i r) (.inr rfl) ?_ (.refl _) (Option.some.inj hM) hS
   exact (zam (zad (x:=.i 2) rfl))
  ·replace hM:=ifF hM hb2
   refine Cf hb2 ?_
   refine Sq ?_
   refine Rg 17 ?_
   refine Om (.i a1) ?_
   refine Of ((Train_.cells a0)) zc1 ?_
   refine Of ((Train_.cells a0)) zfw ?_
   refine Olp (.i a0.Pulse.Pitch) zac zah ?_
   refine Of ((Train_.cells a0)) zc1 ?_
   refine Of ((Train_.cells a0)) zhE ?_
   refine Olp (.i a0.Pulse.Slack) zac zah ?_
   refine Oi (.i (w64 (a0.Pulse.Pitch-a0.Pulse.Slack))) ?_
   refine Of ((Train_.cells a0)) zc1 ?_
   refine Of ((Train_.cells a0)) zfw ?_
   refine Olp (.i a0.Pulse.Pitch) zac zah ?_
   refine Of ((Train_.cells a0)) zc1 ?_
   refine Of ((Train_.cells a0)) zhE ?_
   refine Olp (.i a0.Pulse.Slack) zac zah ?_
   refine Oi (.i (w64 (a0.Pulse.Pitch+a0.Pulse.Slack))) ?_
   obtain ⟨r3,hr3,hM⟩:=zal hM
   refine zat (bs:=[.i a1,.i (w64 (a0.Pulse.Pitch-a0.Pulse.Slack)),.i (w64 (a0.Pulse.Pitch+a0.Pulse.Slack))]) (by decide) rfl rfl ((zc2 hr3).le (.k (.k (.k .nil)))) ?_
   refine Oa (.b r3) ?_
   refine Ni ?_
   refine Ws ?_
   rcases bft r3 with hb4 | hb4
   ·replace hM:=ifT hM hb4
    refine Ct hb4 ?_
    refine Sq ?_
    refine Rg 1 ?_
    refine Oa (.i 1) ?_
    refine Ni ?_
    refine Ws ?_
    refine zaB ?_
    refine zaq ?_
    refine zak ?_
    refine zaO (x:=.i 1) (f:=fun r=>.i r) (.inr rfl) ?_ (.refl _) (Option.some.inj hM) hS
    exact (zam (zad (x:=.i 1) rfl))
   ·replace hM:=ifF hM hb4
    refine Cf hb4 ?_
    refine zas ?_
    refine zae ?_
    refine Ws ?_
    refine Sq ?_
    refine Rg 1 ?_
    refine Oa (.i 0) ?_
    refine Ni ?_
    refine Ws ?_
    refine zaB ?_
    refine zaO (x:=.i 0) (f:=fun r=>.i r) (.inr rfl) ?_ (.refl _) (Option.some.inj hM) hS
    exact (zam (zad (x:=.i 0) rfl))
end Go.Proofs.YtebfppngmmdfkaaGreat
