/-
  The code returns what the functions say (printed by gen.py).
  Conditions: none.
-/
import Derived.Test.YtclaalcoefcljaaTy
import Derived.Test.YtclaalcoefcljaaMd
import Derived.Test.YtclaalcoefcljaaAmPc
set_option linter.all false
namespace Go.Proofs.Ytclaalcoefcljaa
open Go Go.AM Go.Law
set_option linter.unusedVariables false
set_option maxRecDepth 4000
set_option maxHeartbeats 4000000
abbrev _root_.Go.AM.AV.i (x:Int):Go.AM.AV:=.v (.int .i64 x)
abbrev _root_.Go.AM.AV.b (x:Bool):Go.AM.AV:=.v (.bool x)
theorem _root_.Go.AM.FLe.k {l l0:List (Nat×AV)} {t:Nat} (r:FLe l l0):FLe l ((t,lk l t)::l0):=.cons (.refl _) r
theorem _root_.Go.AM.LeL.k {a:AV} {ps qs:List AV} (r:LeL ps qs):LeL (a::ps) (a::qs):=.cons (.refl _) r
section
open Go.AM
variable {P:Program} {N:Nat} {l:List (Nat×AV)} {H:zaa} {g:Nat} {ops:Array Oper} {i d g0:Nat} {r:List Oper} {K:Fr->zaa->Nat->Prop} {lim:Option Nat} {ty:TypeId} {pos:String} {after:Array Edge} {Q:Exit->Fr->zaa->Nat->Prop} {a b:Code}
theorem _root_.Go.AM.Om {x:Operand} (v:AV) (h:zbi P N lim g0 ops K (i+1) r (Fr.of ((d,v)::l)) H g) (hd:d<N:=by decide) (hx:evL N l x=v:=by rfl):zbi P N lim g0 ops K i (⟨some d,.move x,ty,pos,after,none⟩::r) (Fr.of l) H g:=zsv hd hx h
theorem _root_.Go.AM.Oa {x:Operand} (v:AV) (h:zbi P N lim g0 ops K (i+1) r (Fr.of ((d,v)::l)) H g) (hd:d<N:=by decide) (hx:evL N l x=v:=by rfl):zbi P N lim g0 ops K i (⟨some d,.assign x,ty,pos,after,none⟩::r) (Fr.of l) H g:=zp1 hd hx h
theorem _root_.Go.AM.Olp {t:TypeId} {x:Operand} {cs:List AV} (v:AV) (h1:zaA P t=none) (h2:scalar P t=true) (h:zbi P N lim g0 ops K (i+1) r (Fr.of ((d,v)::l)) H g) (hd:d<N:=by decide) (hx:evL N l x=.ep cs:=by rfl) (hc:cs[0]?=some v:=by rfl):zbi P N lim g0 ops K i (⟨some d,.load t x,ty,pos,after,none⟩::r) (Fr.of l) H g:=zoJ hd hx (zkP h1 h2 hc) h
theorem _root_.Go.AM.Olg {t:TypeId} {x:Operand} {cs:List AV} {k:Nat} (v:AV) (ha:zaA P t=some k) (h:zbi P N lim g0 ops K (i+1) r (Fr.of ((d,v)::l)) H g) (hd:d<N:=by decide) (hx:evL N l x=.ep cs:=by rfl) (hk:Nat.ble (0+k) cs.length=true:=by rfl) (hc:AV.agg ((cs.drop 0).take k)=v:=by rfl):zbi P N lim g0 ops K i (⟨some d,.load t x,ty,pos,after,none⟩::r) (Fr.of l) H g:=zoJ hd hx (zi4 ha (Nat.le_of_ble_eq_true hk) rfl) (hc▸h)
theorem _root_.Go.AM.Og {op:Op} {j:Nat} {want:Bool} (h:zbi P N lim g0 ops K (i+1) r (Fr.of ((d,.tup [])::l)) H g) (hd:d<N:=by decide) (hg:gd ops N (Fr.of l) j=some (some (!want)):=by rfl):zbi P N lim g0 ops K i (⟨some d,op,ty,pos,after,some (j,want)⟩::r) (Fr.of l) H g:=zmO hd hg rfl h
theorem _root_.Go.AM.On {op:Op} {j:Nat} {want e:Bool} (he:e=!want) (h:zbi P N lim g0 ops K (i+1) r (Fr.of ((d,.tup [])::l)) H g) (hd:d<N:=by decide) (hg:gd ops N (Fr.of l) j=some (some e):=by rfl):zbi P N lim g0 ops K i (⟨some d,op,ty,pos,after,some (j,want)⟩::r) (Fr.of l) H g:=zmO hd hg he h
theorem _root_.Go.AM.Oz {op:Op} {j:Nat} {want:Bool} {dst:Option Tmp} (h:zbi P N lim g0 ops K i (⟨dst,op,ty,pos,after,none⟩::r) (Fr.of l) H g) (hg:gd ops N (Fr.of l) j=some (some want):=by rfl):zbi P N lim g0 ops K i (⟨dst,op,ty,pos,after,some (j,want)⟩::r) (Fr.of l) H g:=zmN hg rfl h
theorem _root_.Go.AM.Oy {op:Op} {j:Nat} {want e:Bool} {dst:Option Tmp} (he:e=want) (h:zbi P N lim g0 ops K i (⟨dst,op,ty,pos,after,none⟩::r) (Fr.of l) H g) (hg:gd ops N (Fr.of l) j=some (some e):=by rfl):zbi P N lim g0 ops K i (⟨dst,op,ty,pos,after,some (j,want)⟩::r) (Fr.of l) H g:=zmN hg he h
theorem _root_.Go.AM.Oi {bo:BinOp} {t t':TypeId} {x y:Operand} {k:IntKind} {m n:Int} (v:AV) (h:zbi P N lim g0 ops K (i+1) r (Fr.of ((d,v)::l)) H g) (hd:d<N:=by decide) (hx:evL N l x=.v (.int k m):=by rfl) (hy:evL N l y=.v (.int k n):=by rfl) (hv:zh4 bo k m n=some v:=by rfl):zbi P N lim g0 ops K i (⟨some d,.binOp bo t x y t',ty,pos,after,none⟩::r) (Fr.of l) H g:=znK hd hx hy hv h
theorem _root_.Go.AM.Ox {x:Operand} {n:Nat} {vs:List AV} (v:AV) (h:zbi P N lim g0 ops K (i+1) r (Fr.of ((d,v)::l)) H g) (hd:d<N:=by decide) (hx:evL N l x=.tup vs:=by rfl) (hn:vs[n]?=some v:=by rfl):zbi P N lim g0 ops K i (⟨some d,.extract x n,ty,pos,after,none⟩::r) (Fr.of l) H g:=zoK hd hx hn h
theorem _root_.Go.AM.Of {s f:Nat} {x:Operand} (cs:List AV) {k:Nat} (hk:zat P s f=some k) (h:zbi P N lim g0 ops K (i+1) r (Fr.of ((d,.ep (cs.drop k))::l)) H g) (hd:d<N:=by decide) (hx:evL N l x=.ep cs:=by rfl):zbi P N lim g0 ops K i (⟨some d,.fieldAddr s x f,ty,pos,after,none⟩::r) (Fr.of l) H g:=zp3 hd hk hx h
theorem _root_.Go.AM.Pt {c x y:Operand} (v:AV) {e:Bool} (he:e=true) (h:zbi P N lim g0 ops K (i+1) r (Fr.of ((d,v)::l)) H g) (hd:d<N:=by decide) (hc:evL N l c=.v (.bool e):=by rfl) (hx:evL N l x=v:=by rfl):zbi P N lim g0 ops K i (⟨some d,.pick c x y,ty,pos,after,none⟩::r) (Fr.of l) H g:=za8 hd hc he hx h
theorem _root_.Go.AM.Pf {c x y:Operand} (v:AV) {e:Bool} (he:e=false) (h:zbi P N lim g0 ops K (i+1) r (Fr.of ((d,v)::l)) H g) (hd:d<N:=by decide) (hc:evL N l c=.v (.bool e):=by rfl) (hy:evL N l y=v:=by rfl):zbi P N lim g0 ops K i (⟨some d,.pick c x y,ty,pos,after,none⟩::r) (Fr.of l) H g:=zb0 hd hc he hy h
theorem _root_.Go.AM.Ct {o:Operand} {e:Bool} (he:e=true) (h:wpA P N a Q (Fr.of l) H g) (hc:evL N l o=.v (.bool e):=by rfl):wpA P N (.cond o a b) Q (Fr.of l) H g:=zoF hc he h
theorem _root_.Go.AM.Cf {o:Operand} {e:Bool} (he:e=false) (h:wpA P N b Q (Fr.of l) H g) (hc:evL N l o=.v (.bool e):=by rfl):wpA P N (.cond o a b) Q (Fr.of l) H g:=zmn hc he h
theorem _root_.Go.AM.Rg {id:Nat} {os:List Oper} (n:Nat) (h:zbi P N none g os.toArray (Q .normal) 0 os (Fr.of l) H (g+n)) (hn:os.length=n:=by rfl):wpA P N (.region id os.toArray false) Q (Fr.of l) H g:=zpX hn h
theorem _root_.Go.AM.Ws (h:wpA P N b Q (Fr.of l) H g):Exit.thenA (fun fr' H' g'=>∃fr0 H0 g0,ziW fr' H' g' fr0 H0 g0/\wpA P N b Q fr0 H0 g0) Q .normal (Fr.of l) H g:=⟨_,H,g,.le (fun _=>.refl _) H g,h⟩
theorem _root_.Go.AM.Sq (h:wpA P N a (Exit.thenA (fun fr' H' g'=>∃fr0 H0 g0,ziW fr' H' g' fr0 H0 g0/\wpA P N b Q fr0 H0 g0) Q) (Fr.of l) H g):wpA P N (.seq a b) Q (Fr.of l) H g:=zss h
theorem _root_.Go.AM.Ni (h:K (Fr.of l) H g):zbi P N lim g0 ops K i [] (Fr.of l) H g:=zrg h
theorem _root_.Go.AM.pg {t:TypeId} {cs ds:List AV} {off k:Nat} (h:zaA P t=some k) (hl:off+k<=cs.length:=by exact Nat.le_of_ble_eq_true rfl) (hc:(cs.drop off).take k=ds:=by rfl):zgk P t cs off=some (.agg ds):=zi4 h hl hc
theorem _root_.Go.AM.po {t:TypeId} {cs:List AV} {off:Nat} {v:AV} (h:zaA P t=none) (hs:scalar P t=true) (hc:cs[off]?=some v:=by rfl):zgk P t cs off=some v:=zkP h hs hc
theorem _root_.Go.AM.bft (b:Bool):b=true\/b=false:=Bool.eq_false_or_eq_true b
theorem _root_.Go.AM.nlb {a b:Nat} (h:Nat.ble a b=true:=by rfl):a<=b:=Nat.le_of_ble_eq_true h
end
theorem zmu {a0:Tray} {r:Bool} (hM:zic a0=some r):zaJ Try.prog 6 [.agg (Tray.cells a0)] (.b r):=by
 refine zax mixed Try.func6 rfl (by decide) Try.ntmps6 (by simp) ?pure fun H0 g hf=>?_
 case pure=>exact .v _
 rw [zan]
 change wpA _ _ _ _ (Fr.of [(0,.agg (Tray.cells a0))]) H0 g
 have hS:=St.start hf
 refine Sq ?_
 refine Rg 2 ?_
 refine zd2 (v:=.agg (Tray.cells a0)) (cs:=(Tray.cells a0)) hS (by decide) rfl rfl (by omega) fun H hS=>?_
 refine Oa (.b false) ?_
 refine Ni ?_
 refine zda (L':=[]) 0 1 hS rfl rfl rfl fun H hS=>?_
 refine Ws ?_
 refine zaO (J:=Bool) (fun j=>[(2,.b j)]) (fun j H' g'=>St (·<g) H0 [] H' g'/\zfy j=some r) ?_ ?_
 ·rintro v1 H g1 ⟨hS,hM⟩
  change wpA _ _ _ _ (Fr.of [(2,.b v1)]) _ _
  replace hS:St (·<g) H0 [] H g1:=hS
  replace hM:zfy v1=some r:=hM
  refine zaQ ?_
  refine za7 (x:=.b v1) (f:=fun r=>.b r) (.inr rfl) ?_ (.refl _) (Option.some.inj hM) hS
  exact (zaw (zai (x:=.b v1) rfl))
 ·refine Rg 11 ?_
  refine Of ((Tray.cells a0)) zbY ?_
  refine Olp (.sl .no 2 (a0.Records.map TrayRecord.cells)) zcP zdB ?_
  refine zcg (n:=a0.Records.length) (by decide) rfl (List.length_map _) zdM ?_
  refine Oi (.b (decide ((a0.Records.length:Int)>40))) ?_
  refine Om (.b (decide ((a0.Records.length:Int)>40))) ?_
  rcases bft (decide ((a0.Records.length:Int)>40)) with hb2 | hb2
  ·replace hM:=ifT hM hb2
   refine On (want:=false) hb2 ?_
   refine On (want:=false) hb2 ?_
   refine On (want:=false) hb2 ?_
   refine On (want:=false) hb2 ?_
   refine Pt (.b true) hb2 ?_
   refine Oa (.b true) ?_
   refine Ni ?_
   exact zak true (.k .nil) ⟨(hS.keep [] rfl).up (by omega),hM⟩
  ·replace hM:=ifF hM hb2
   refine Oy (want:=false) hb2 ?_
   refine Of ((Tray.cells a0)) zdk ?_
   refine Oy (want:=false) hb2 ?_
   refine Olp (.sl .no 2 (a0.Presses.map TrayPress.cells)) zcW zdN ?_
   refine Oy (want:=false) hb2 ?_
   refine zcg (n:=a0.Presses.length) (by decide) rfl (List.length_map _) zfa ?_
   refine Oy (want:=false) hb2 ?_
   refine Oi (.b (decide ((a0.Presses.length:Int)>40))) ?_
   refine Pf (.b (decide ((a0.Presses.length:Int)>40))) hb2 ?_
   refine Oa (.b (decide ((a0.Presses.length:Int)>40))) ?_
   refine Ni ?_
   exact zak (decide ((a0.Presses.length:Int)>40)) (.k .nil) ⟨(hS.keep [] rfl).up (by omega),hM⟩
theorem zcZ {a0:Int} {a1:Int} {a2:Int} {r:Bool} (hM:zcq a0 a1 a2=some r):zaJ Try.prog 24 [.i a0,.i a1,.i a2] (.b r):=by
 refine zax mixed Try.func24 rfl (by decide) Try.ntmps24 (by simp) ?pure fun H0 g hf=>?_
 case pure=>exact .v _
 rw [zan]
 change wpA _ _ _ _ (Fr.of [(0,.i a0),(1,.i a1),(2,.i a2)]) H0 g
 have hS:=St.start hf
 refine Sq ?_
 refine Rg 1 ?_
 refine Oa (.b false) ?_
 refine Ni ?_
 refine Ws ?_
 refine zaO (J:=Bool) (fun j=>[(6,.b j)]) (fun j H' g'=>St (·<g) H0 [] H' g'/\zd3 j=some r) ?_ ?_
 ·rintro v1 H g1 ⟨hS,hM⟩
  change wpA _ _ _ _ (Fr.of [(6,.b v1)]) _ _
  replace hS:St (·<g) H0 [] H g1:=hS
  replace hM:zd3 v1=some r:=hM
  refine zaQ ?_
  refine za7 (x:=.b v1) (f:=fun r=>.b r) (.inr rfl) ?_ (.refl _) (Option.some.inj hM) hS
  exact (zaw (zai (x:=.b v1) rfl))
 ·refine Rg 9 ?_
  refine Om (.i a1) ?_
  refine Om (.i a0) ?_
  refine Oi (.b (decide (a1<=a0))) ?_
  refine Om (.b (decide (a1<=a0))) ?_
  rcases bft (decide (a1<=a0)) with hb2 | hb2
  ·replace hM:=ifT hM hb2
   refine Oy (want:=true) hb2 ?_
   refine Om (.i a0) ?_
   refine Oy (want:=true) hb2 ?_
   refine Om (.i a2) ?_
   refine Oy (want:=true) hb2 ?_
   refine Oi (.b (decide (a0<=a2))) ?_
   refine Pt (.b (decide (a0<=a2))) hb2 ?_
   refine Oa (.b (decide (a0<=a2))) ?_
   refine Ni ?_
   exact zak (decide (a0<=a2)) (.k .nil) ⟨(hS.keep [] rfl).up (by omega),hM⟩
  ·replace hM:=ifF hM hb2
   refine On (want:=true) hb2 ?_
   refine On (want:=true) hb2 ?_
   refine On (want:=true) hb2 ?_
   refine Pf (.b false) hb2 ?_
   refine Oa (.b false) ?_
   refine Ni ?_
   exact zak false (.k .nil) ⟨(hS.keep [] rfl).up (by omega),hM⟩
theorem zjV {a0:Tray} {a1:Int} {r:Bool} (hM:zge a0 a1=some r):zaJ Try.prog 16 [.agg (Tray.cells a0),.i a1] (.b r):=by
 refine zax mixed Try.func16 rfl (by decide) Try.ntmps16 (by simp) ?pure fun H0 g hf=>?_
 case pure=>exact .v _
 rw [zan]
 change wpA _ _ _ _ (Fr.of [(0,.agg (Tray.cells a0)),(1,.i a1)]) H0 g
 have hS:=St.start hf
 refine Sq ?_
 refine Rg 2 ?_
 refine zd2 (v:=.agg (Tray.cells a0)) (cs:=(Tray.cells a0)) hS (by decide) rfl rfl (by omega) fun H hS=>?_
 refine Oa (.b false) ?_
 refine Ni ?_
 refine zda (L':=[]) 0 2 hS rfl rfl rfl fun H hS=>?_
 refine Ws ?_
 refine Sq ?_
 refine Rg 8 ?_
 refine Om (.i a1) ?_
 refine Of ((Tray.cells a0)) zbY ?_
 refine Olp (.sl .no 2 (a0.Records.map TrayRecord.cells)) zcP zdB ?_
 refine zcg (n:=a0.Records.length) (by decide) rfl (List.length_map _) zdM ?_
 refine Oi (.i (w64 (2*(a0.Records.length:Int)))) ?_
 refine Oi (.i (w64 ((w64 (2*(a0.Records.length:Int)))-1))) ?_
 obtain ⟨r1,hr1,hM⟩:=zas hM
 refine zaP (bs:=[.i a1,.i 0,.i (w64 ((w64 (2*(a0.Records.length:Int)))-1))]) (by decide) rfl rfl ((zcZ hr1).le (.k (.k (.k .nil)))) ?_
 refine Oa (.b r1) ?_
 refine Ni ?_
 refine zfW [(4,.b r1)] (.k .nil) ?_
 refine zaQ ?_
 refine za7 (x:=.b r1) (f:=fun r=>.b r) (.inr rfl) ?_ (.refl _) (Option.some.inj hM) hS
 exact (zaw (zai (x:=.b r1) rfl))
theorem zjW {a0:Int} {r:Bool} (hM:zgf a0=some r):zaJ Try.prog 49 [.i a0] (.b r):=by
 refine zax mixed Try.func49 rfl (by decide) Try.ntmps49 (by simp) ?pure fun H0 g hf=>?_
 case pure=>exact .v _
 rw [zan]
 change wpA _ _ _ _ (Fr.of [(0,.i a0)]) H0 g
 have hS:=St.start hf
 refine Sq ?_
 refine Rg 1 ?_
 refine Oa (.b false) ?_
 refine Ni ?_
 refine Ws ?_
 refine Sq ?_
 refine Rg 3 ?_
 refine Om (.i a0) ?_
 obtain ⟨r1,hr1,hM⟩:=zas hM
 refine zaP (bs:=[.i a0,.i 0,.i 9999]) (by decide) rfl rfl ((zcZ hr1).le (.k (.k (.k .nil)))) ?_
 refine Oa (.b r1) ?_
 refine Ni ?_
 refine zfW [(2,.b r1)] (.k .nil) ?_
 refine zaQ ?_
 refine za7 (x:=.b r1) (f:=fun r=>.b r) (.inr rfl) ?_ (.refl _) (Option.some.inj hM) hS
 exact (zaw (zai (x:=.b r1) rfl))
theorem zjI {n:Nat} {a0:Tray} {a1:Int} {r:Int} (hM:zfI n a0 a1=some r):zaJ Try.prog 25 [.agg (Tray.cells a0),.i a1] (.i r):=by
 refine zax mixed Try.func25 rfl (by decide) Try.ntmps25 (by simp) ?pure fun H0 g hf=>?_
 case pure=>exact .v _
 rw [zan]
 change wpA _ _ _ _ (Fr.of [(0,.agg (Tray.cells a0)),(1,.i a1)]) H0 g
 have hS:=St.start hf
 refine Sq ?_
 refine Rg 2 ?_
 refine zd2 (v:=.agg (Tray.cells a0)) (cs:=(Tray.cells a0)) hS (by decide) rfl rfl (by omega) fun H hS=>?_
 refine Oa (.i 0) ?_
 refine Ni ?_
 refine zda (L':=[]) 0 2 hS rfl rfl rfl fun H hS=>?_
 refine Ws ?_
 refine Sq ?_
 refine Sq ?_
 refine Rg 5 ?_
 refine Of ((Tray.cells a0)) zdk ?_
 refine Olp (.sl .no 2 (a0.Presses.map TrayPress.cells)) zcW zdN ?_
 refine zcg (n:=a0.Presses.length) (by decide) rfl (List.length_map _) zfa ?_
 refine Om (.i a1) ?_
 refine Oi (.b (decide ((a0.Presses.length:Int)>a1))) ?_
 refine Ni ?_
 refine Ws ?_
 rcases bft (decide ((a0.Presses.length:Int)>a1)) with hb1 | hb1
 ·replace hM:=ifT hM hb1
  refine Ct hb1 ?_
  refine Sq ?_
  refine Rg 1 ?_
  refine Oa (.i 20) ?_
  refine Ni ?_
  refine Ws ?_
  refine zaQ ?_
  refine zaq ?_
  refine za7 (x:=.i 20) (f:=fun r=>.i r) (.inr rfl) ?_ (.refl _) (Option.some.inj hM) hS
  exact (zaw (zai (x:=.i 20) rfl))
 ·replace hM:=ifF hM hb1
  refine Cf hb1 ?_
  refine zaC ?_
  refine Ws ?_
  refine zaO (J:=Unit) (fun j=>[]) (fun j H' g'=>St (·<g) H0 [] H' g'/\zeP=some r) ?_ ?_
  ·rintro _ H g1 ⟨hS,hM⟩
   change wpA _ _ _ _ (Fr.of []) _ _
   replace hS:St (·<g) H0 [] H g1:=hS
   replace hM:zeP=some r:=hM
   refine Sq ?_
   refine Rg 1 ?_
   refine Oa (.i 0) ?_
   refine Ni ?_
   refine Ws ?_
   refine zaQ ?_
   refine za7 (x:=.i 0) (f:=fun r=>.i r) (.inr rfl) ?_ (.refl _) (Option.some.inj hM) hS
   exact (zaw (zai (x:=.i 0) rfl))
  ·refine Sq ?_
   refine Rg 1 ?_
   refine Oa (.i 0) ?_
   refine Ni ?_
   refine Ws ?_
   refine zaz ?_
   refine zcx (V:=Int) (fun v=>[(2,.ep (Tray.cells a0)),(5,.i v)]) (fun v m2 H' g'=>St (·<g) H0 [] H' g'/\zbZ a0 m2 v=some r) (n:=n) 0 (.k (.k .nil)) ⟨(hS.keep [] rfl).up (by omega),hM⟩ ?_
   rintro v2 m2 H g2 ⟨hS,hM⟩
   obtain _ | m2:=m2
   ·exact nomatch (show none=some _ from hM)
   change wpA _ _ _ _ (Fr.of [(2,.ep (Tray.cells a0)),(5,.i v2)]) _ _
   replace hS:St (·<g) H0 [] H g2:=hS
   replace hM:zdT a0 (zbZ a0 m2) v2=some r:=hM
   refine Sq ?_
   refine Sq ?_
   refine Rg 5 ?_
   refine Om (.i v2) ?_
   refine Of ((Tray.cells a0)) zdk ?_
   refine Olp (.sl .no 2 (a0.Presses.map TrayPress.cells)) zcW zdN ?_
   refine zcg (n:=a0.Presses.length) (by decide) rfl (List.length_map _) zfa ?_
   refine Oi (.b (decide (v2<(a0.Presses.length:Int)))) ?_
   refine Ni ?_
   refine Ws ?_
   rcases bft (decide (v2<(a0.Presses.length:Int))) with hb3 | hb3
   ·replace hM:=ifT hM hb3
    refine Ct hb3 ?_
    refine zaC ?_
    refine Ws ?_
    refine Sq ?_
    refine zaz ?_
    refine zaO (J:=Bool) (fun j=>[(2,.ep (Tray.cells a0)),(5,.i v2),(36,.b j)]) (fun j H' g'=>St (·<g) H0 [] H' g'/\zdd (zbZ a0 m2) v2 j=some r) ?_ ?_
    ·rintro v4 H g3 ⟨hS,hM⟩
     change wpA _ _ _ _ (Fr.of [(2,.ep (Tray.cells a0)),(5,.i v2),(36,.b v4)]) _ _
     replace hS:St (·<g) H0 [] H g3:=hS
     replace hM:zdd (zbZ a0 m2) v2 v4=some r:=hM
     rcases bft v4 with hb5 | hb5
     ·replace hM:=ifT hM hb5
      refine Ct hb5 ?_
      refine Sq ?_
      refine Rg 1 ?_
      refine Oa (.i 20) ?_
      refine Ni ?_
      refine Ws ?_
      refine zaQ ?_
      refine zaI ?_
      refine zaq ?_
      refine zbs ?_
      refine zaI ?_
      refine zbr ?_
      refine za7 (x:=.i 20) (f:=fun r=>.i r) (.inr rfl) ?_ (.refl _) (Option.some.inj hM) hS
      exact (zaw (zai (x:=.i 20) rfl))
     ·replace hM:=ifF hM hb5
      refine Cf hb5 ?_
      refine zaC ?_
      refine zah ?_
      refine Ws ?_
      refine Rg 3 ?_
      refine Om (.i v2) ?_
      refine Oi (.i (w64 (v2+1))) ?_
      refine Oa (.i (w64 (v2+1))) ?_
      refine Ni ?_
      exact zbF (w64 (v2+1)) (Nat.lt_succ_self _) (.k (.k .nil)) ⟨(hS.keep [] rfl).up (by omega),hM⟩
    ·have hS0:=hS
     refine zd1 (n:=19) rfl (by kernel_rfl) ?_
     refine Olg (.agg (Tray.cells a0)) zdV ?_
     refine Of ((Tray.cells a0)) zdk ?_
     refine Olp (.sl .no 2 (a0.Presses.map TrayPress.cells)) zcW zdN ?_
     refine Om (.i v2) ?_
     obtain ⟨x6,hx6,hM⟩:=zas hM
     refine zbu (xs:=a0.Presses) (f:=TrayPress.cells) (z:=v2) (u:=x6) (by decide) rfl rfl zdO hx6 ?_
     refine Of ([.i x6.Side,.i x6.Time]) zjG ?_
     refine Olp (.i x6.Side) zaf zap ?_
     obtain ⟨r7,hr7,hM⟩:=zas hM
     refine zaP (bs:=[.agg (Tray.cells a0),.i x6.Side]) (by decide) rfl rfl ((zjV hr7).le (.k (.k .nil))) ?_
     refine zdW (e:=r7) (by decide) rfl ?_
     refine Om (.b (!r7)) ?_
     rcases bft (!r7) with hb8 | hb8
     ·replace hM:=ifT hM hb8
      refine On (want:=false) hb8 ?_
      refine On (want:=false) hb8 ?_
      refine On (want:=false) hb8 ?_
      refine On (want:=false) hb8 ?_
      refine On (want:=false) hb8 ?_
      refine On (want:=false) hb8 ?_
      refine On (want:=false) hb8 ?_
      refine On (want:=false) hb8 ?_
      refine Pt (.b true) hb8 ?_
      refine Ni ?_
      exact zak true (.k (.k (.k .nil))) ⟨(hS.keep [] rfl).up (by omega),hM⟩
     ·replace hM:=ifF hM hb8
      refine Oy (want:=false) hb8 ?_
      refine Of ((Tray.cells a0)) zdk ?_
      refine Oy (want:=false) hb8 ?_
      refine Olp (.sl .no 2 (a0.Presses.map TrayPress.cells)) zcW zdN ?_
      refine Oy (want:=false) hb8 ?_
      refine Om (.i v2) ?_
      refine Oy (want:=false) hb8 ?_
      obtain ⟨x9,hx9,hM⟩:=zas hM
      refine zbu (xs:=a0.Presses) (f:=TrayPress.cells) (z:=v2) (u:=x9) (by decide) rfl rfl zdO hx9 ?_
      refine Oy (want:=false) hb8 ?_
      refine Of ([.i x9.Side,.i x9.Time]) zgw ?_
      refine Oy (want:=false) hb8 ?_
      refine Olp (.i x9.Time) zaf zap ?_
      refine Oy (want:=false) hb8 ?_
      obtain ⟨r10,hr10,hM⟩:=zas hM
      refine zaP (bs:=[.i x9.Time]) (by decide) rfl rfl ((zjW hr10).le (.k .nil)) ?_
      refine Oy (want:=false) hb8 ?_
      refine zdW (e:=r10) (by decide) rfl ?_
      refine Pf (.b (!r10)) hb8 ?_
      refine Ni ?_
      exact zak (!r10) (.k (.k (.k .nil))) ⟨(hS.keep [] rfl).up (by omega),hM⟩
   ·replace hM:=ifF hM hb3
    refine Cf hb3 ?_
    refine zcp ?_
    refine zay ?_
    refine zau ?_
    refine zaD ?_
    exact zak () .nil ⟨(hS.keep [] rfl).up (by omega),hM⟩
theorem zk0 {n:Nat} {a0:Tray} {r:Int} (hM:zgJ n a0=some r):zaJ Try.prog 7 [.agg (Tray.cells a0)] (.i r):=by
 refine zax mixed Try.func7 rfl (by decide) Try.ntmps7 (by simp) ?pure fun H0 g hf=>?_
 case pure=>exact .v _
 rw [zan]
 change wpA _ _ _ _ (Fr.of [(0,.agg (Tray.cells a0))]) H0 g
 have hS:=St.start hf
 refine Sq ?_
 refine Rg 2 ?_
 refine zd2 (v:=.agg (Tray.cells a0)) (cs:=(Tray.cells a0)) hS (by decide) rfl rfl (by omega) fun H hS=>?_
 refine Oa (.i 0) ?_
 refine Ni ?_
 refine zda (L':=[]) 0 1 hS rfl rfl rfl fun H hS=>?_
 refine Ws ?_
 refine Sq ?_
 refine zaO (J:=Bool) (fun j=>[(1,.ep (Tray.cells a0)),(34,.b j)]) (fun j H' g'=>St (·<g) H0 [] H' g'/\zcc n a0 j=some r) ?_ ?_
 ·rintro v1 H g1 ⟨hS,hM⟩
  change wpA _ _ _ _ (Fr.of [(1,.ep (Tray.cells a0)),(34,.b v1)]) _ _
  replace hS:St (·<g) H0 [] H g1:=hS
  replace hM:zcc n a0 v1=some r:=hM
  rcases bft v1 with hb2 | hb2
  ·replace hM:=ifT hM hb2
   refine Ct hb2 ?_
   refine Sq ?_
   refine Rg 1 ?_
   refine Oa (.i 20) ?_
   refine Ni ?_
   refine Ws ?_
   refine zaQ ?_
   refine zaq ?_
   refine za7 (x:=.i 20) (f:=fun r=>.i r) (.inr rfl) ?_ (.refl _) (Option.some.inj hM) hS
   exact (zaw (zai (x:=.i 20) rfl))
  ·replace hM:=ifF hM hb2
   refine Cf hb2 ?_
   refine zaC ?_
   refine Ws ?_
   refine zaO (J:=Unit) (fun j=>[(1,.ep (Tray.cells a0))]) (fun j H' g'=>St (·<g) H0 [] H' g'/\zfp n a0=some r) ?_ ?_
   ·rintro _ H g2 ⟨hS,hM⟩
    change wpA _ _ _ _ (Fr.of [(1,.ep (Tray.cells a0))]) _ _
    replace hS:St (·<g) H0 [] H g2:=hS
    replace hM:zfp n a0=some r:=hM
    refine Sq ?_
    refine Rg 3 ?_
    refine Olg (.agg (Tray.cells a0)) zdV ?_
    obtain ⟨r3,hr3,hM⟩:=zas hM
    refine zaP (bs:=[.agg (Tray.cells a0),.i 12]) (by decide) rfl rfl ((zjI hr3).le (.k (.k .nil))) ?_
    refine Oa (.i r3) ?_
    refine Ni ?_
    refine Ws ?_
    refine zaQ ?_
    refine za7 (x:=.i r3) (f:=fun r=>.i r) (.inr rfl) ?_ (.refl _) (Option.some.inj hM) hS
    exact (zaw (zai (x:=.i r3) rfl))
   ·refine Sq ?_
    refine Rg 1 ?_
    refine Oa (.i 0) ?_
    refine Ni ?_
    refine Ws ?_
    refine zaz ?_
    refine zcx (V:=Int) (fun v=>[(1,.ep (Tray.cells a0)),(3,.i v)]) (fun v m3 H' g'=>St (·<g) H0 [] H' g'/\zcb n a0 m3 v=some r) (n:=n) 0 (.k (.k .nil)) ⟨(hS.keep [] rfl).up (by omega),hM⟩ ?_
    rintro v4 m3 H g3 ⟨hS,hM⟩
    obtain _ | m3:=m3
    ·exact nomatch (show none=some _ from hM)
    change wpA _ _ _ _ (Fr.of [(1,.ep (Tray.cells a0)),(3,.i v4)]) _ _
    replace hS:St (·<g) H0 [] H g3:=hS
    replace hM:zeQ n a0 (zcb n a0 m3) v4=some r:=hM
    refine Sq ?_
    refine Sq ?_
    refine Rg 5 ?_
    refine Om (.i v4) ?_
    refine Of ((Tray.cells a0)) zbY ?_
    refine Olp (.sl .no 2 (a0.Records.map TrayRecord.cells)) zcP zdB ?_
    refine zcg (n:=a0.Records.length) (by decide) rfl (List.length_map _) zdM ?_
    refine Oi (.b (decide (v4<(a0.Records.length:Int)))) ?_
    refine Ni ?_
    refine Ws ?_
    rcases bft (decide (v4<(a0.Records.length:Int))) with hb5 | hb5
    ·replace hM:=ifT hM hb5
     refine Ct hb5 ?_
     refine zaC ?_
     refine Ws ?_
     refine Sq ?_
     refine zaz ?_
     refine zaO (J:=Bool) (fun j=>[(1,.ep (Tray.cells a0)),(3,.i v4),(59,.b j)]) (fun j H' g'=>St (·<g) H0 [] H' g'/\zdS (zcb n a0 m3) v4 j=some r) ?_ ?_
     ·rintro v6 H g4 ⟨hS,hM⟩
      change wpA _ _ _ _ (Fr.of [(1,.ep (Tray.cells a0)),(3,.i v4),(59,.b v6)]) _ _
      replace hS:St (·<g) H0 [] H g4:=hS
      replace hM:zdS (zcb n a0 m3) v4 v6=some r:=hM
      rcases bft v6 with hb7 | hb7
      ·replace hM:=ifT hM hb7
       refine Ct hb7 ?_
       refine Sq ?_
       refine Rg 1 ?_
       refine Oa (.i 20) ?_
       refine Ni ?_
       refine Ws ?_
       refine zaQ ?_
       refine zaI ?_
       refine zaq ?_
       refine zbs ?_
       refine zaI ?_
       refine zbr ?_
       refine za7 (x:=.i 20) (f:=fun r=>.i r) (.inr rfl) ?_ (.refl _) (Option.some.inj hM) hS
       exact (zaw (zai (x:=.i 20) rfl))
      ·replace hM:=ifF hM hb7
       refine Cf hb7 ?_
       refine zaC ?_
       refine zah ?_
       refine Ws ?_
       refine Rg 3 ?_
       refine Om (.i v4) ?_
       refine Oi (.i (w64 (v4+1))) ?_
       refine Oa (.i (w64 (v4+1))) ?_
       refine Ni ?_
       exact zbF (w64 (v4+1)) (Nat.lt_succ_self _) (.k (.k .nil)) ⟨(hS.keep [] rfl).up (by omega),hM⟩
     ·refine Rg 18 ?_
      refine Of ((Tray.cells a0)) zbY ?_
      refine Olp (.sl .no 2 (a0.Records.map TrayRecord.cells)) zcP zdB ?_
      refine Om (.i v4) ?_
      obtain ⟨x8,hx8,hM⟩:=zas hM
      refine zbu (xs:=a0.Records) (f:=TrayRecord.cells) (z:=v4) (u:=x8) (by decide) rfl rfl zhZ hx8 ?_
      refine Of ((TrayRecord.cells x8)) zil ?_
      refine Olp (.i x8.Front) zaf zap ?_
      obtain ⟨r9,hr9,hM⟩:=zas hM
      refine zaP (bs:=[.i x8.Front,.i 1,.i 999]) (by decide) rfl rfl ((zcZ hr9).le (.k (.k (.k .nil)))) ?_
      refine zdW (e:=r9) (by decide) rfl ?_
      refine Om (.b (!r9)) ?_
      rcases bft (!r9) with hb10 | hb10
      ·replace hM:=ifT hM hb10
       refine On (want:=false) hb10 ?_
       refine On (want:=false) hb10 ?_
       refine On (want:=false) hb10 ?_
       refine On (want:=false) hb10 ?_
       refine On (want:=false) hb10 ?_
       refine On (want:=false) hb10 ?_
       refine On (want:=false) hb10 ?_
       refine On (want:=false) hb10 ?_
       refine Pt (.b true) hb10 ?_
       refine Ni ?_
       exact zak true (.k (.k (.k .nil))) ⟨(hS.keep [] rfl).up (by omega),hM⟩
      ·replace hM:=ifF hM hb10
       refine Oy (want:=false) hb10 ?_
       refine Of ((Tray.cells a0)) zbY ?_
       refine Oy (want:=false) hb10 ?_
       refine Olp (.sl .no 2 (a0.Records.map TrayRecord.cells)) zcP zdB ?_
       refine Oy (want:=false) hb10 ?_
       refine Om (.i v4) ?_
       refine Oy (want:=false) hb10 ?_
       obtain ⟨x11,hx11,hM⟩:=zas hM
       refine zbu (xs:=a0.Records) (f:=TrayRecord.cells) (z:=v4) (u:=x11) (by decide) rfl rfl zhZ hx11 ?_
       refine Oy (want:=false) hb10 ?_
       refine Of ((TrayRecord.cells x11)) zim ?_
       refine Oy (want:=false) hb10 ?_
       refine Olp (.i x11.Back) zaf zap ?_
       refine Oy (want:=false) hb10 ?_
       obtain ⟨r12,hr12,hM⟩:=zas hM
       refine zaP (bs:=[.i x11.Back,.i 1,.i 999]) (by decide) rfl rfl ((zcZ hr12).le (.k (.k (.k .nil)))) ?_
       refine Oy (want:=false) hb10 ?_
       refine zdW (e:=r12) (by decide) rfl ?_
       refine Pf (.b (!r12)) hb10 ?_
       refine Ni ?_
       exact zak (!r12) (.k (.k (.k .nil))) ⟨(hS.keep [] rfl).up (by omega),hM⟩
    ·replace hM:=ifF hM hb5
     refine Cf hb5 ?_
     refine zcp ?_
     refine zay ?_
     refine zau ?_
     refine zaD ?_
     exact zak () (.k .nil) ⟨(hS.keep [] rfl).up (by omega),hM⟩
 ·refine Rg 31 ?_
  refine Of ((Tray.cells a0)) zbY ?_
  refine Olp (.sl .no 2 (a0.Records.map TrayRecord.cells)) zcP zdB ?_
  refine zcg (n:=a0.Records.length) (by decide) rfl (List.length_map _) zdM ?_
  obtain ⟨r13,hr13,hM⟩:=zas hM
  refine zaP (bs:=[.i (a0.Records.length:Int),.i 1,.i 6]) (by decide) rfl rfl ((zcZ hr13).le (.k (.k (.k .nil)))) ?_
  refine zdW (e:=r13) (by decide) rfl ?_
  refine Om (.b (!r13)) ?_
  rcases bft (!r13) with hb14 | hb14
  ·replace hM:=ifT hM hb14
   refine On (want:=false) hb14 ?_
   refine On (want:=false) hb14 ?_
   refine On (want:=false) hb14 ?_
   refine On (want:=false) hb14 ?_
   refine On (want:=false) hb14 ?_
   refine On (want:=false) hb14 ?_
   refine On (want:=false) hb14 ?_
   refine On (want:=false) hb14 ?_
   refine Pt (.b true) hb14 ?_
   refine Om (.b true) ?_
   refine Og ?_
   refine Og ?_
   refine Og ?_
   refine Og ?_
   refine za0 (j:=19) (by decide) rfl ?_
   refine za0 (j:=19) (by decide) rfl ?_
   refine za0 (j:=19) (by decide) rfl ?_
   refine Og ?_
   refine za8 (v:=.b true) (e:=true) (by decide) rfl rfl rfl ?_
   refine Om (.b true) ?_
   refine Og ?_
   refine Og ?_
   refine Og ?_
   refine Og ?_
   refine za8 (v:=.b true) (e:=true) (by decide) rfl rfl rfl ?_
   refine Ni ?_
   exact zak true (.k (.k .nil)) ⟨(hS.keep [] rfl).up (by omega),hM⟩
  ·replace hM:=ifF hM hb14
   refine Oy (want:=false) hb14 ?_
   refine Of ((Tray.cells a0)) zhj ?_
   refine Oy (want:=false) hb14 ?_
   refine Olp (.i a0.At) zaf zap ?_
   refine Oy (want:=false) hb14 ?_
   refine Of ((Tray.cells a0)) zbY ?_
   refine Oy (want:=false) hb14 ?_
   refine Olp (.sl .no 2 (a0.Records.map TrayRecord.cells)) zcP zdB ?_
   refine Oy (want:=false) hb14 ?_
   refine zcg (n:=a0.Records.length) (by decide) rfl (List.length_map _) zdM ?_
   refine Oy (want:=false) hb14 ?_
   refine Oi (.i (w64 ((a0.Records.length:Int)-1))) ?_
   refine Oy (want:=false) hb14 ?_
   obtain ⟨r15,hr15,hM⟩:=zas hM
   refine zaP (bs:=[.i a0.At,.i 0,.i (w64 ((a0.Records.length:Int)-1))]) (by decide) rfl rfl ((zcZ hr15).le (.k (.k (.k .nil)))) ?_
   refine Oy (want:=false) hb14 ?_
   refine zdW (e:=r15) (by decide) rfl ?_
   refine Pf (.b (!r15)) hb14 ?_
   refine Om (.b (!r15)) ?_
   rcases bft (!r15) with hb16 | hb16
   ·replace hM:=ifT hM hb16
    refine On (want:=false) hb16 ?_
    refine On (want:=false) hb16 ?_
    refine On (want:=false) hb16 ?_
    refine On (want:=false) hb16 ?_
    refine za0 (j:=19) (by decide) rfl ?_
    refine za0 (j:=19) (by decide) rfl ?_
    refine za0 (j:=19) (by decide) rfl ?_
    refine On (want:=false) hb16 ?_
    refine Pt (.b true) hb16 ?_
    refine Om (.b true) ?_
    refine Og ?_
    refine Og ?_
    refine Og ?_
    refine Og ?_
    refine za8 (v:=.b true) (e:=true) (by decide) rfl rfl rfl ?_
    refine Ni ?_
    exact zak true (.k (.k .nil)) ⟨(hS.keep [] rfl).up (by omega),hM⟩
   ·replace hM:=ifF hM hb16
    refine Oy (want:=false) hb16 ?_
    refine Of ((Tray.cells a0)) zgv ?_
    refine Oy (want:=false) hb16 ?_
    refine Olp (.i a0.Way) zaf zap ?_
    refine Oy (want:=false) hb16 ?_
    refine Oi (.b (a0.Way != 1)) ?_
    refine Oy (want:=false) hb16 ?_
    refine Om (.b (a0.Way != 1)) ?_
    rcases bft (a0.Way != 1) with hb17 | hb17
    ·replace hM:=ifT hM hb17
     refine Oy (want:=true) hb17 ?_
     refine Of ((Tray.cells a0)) zgv ?_
     refine Oy (want:=true) hb17 ?_
     refine Olp (.i a0.Way) zaf zap ?_
     refine Oy (want:=true) hb17 ?_
     refine Oi (.b (a0.Way != (-1))) ?_
     refine Oy (want:=false) hb16 ?_
     refine Pt (.b (a0.Way != (-1))) hb17 ?_
     refine Pf (.b (a0.Way != (-1))) hb16 ?_
     refine Om (.b (a0.Way != (-1))) ?_
     rcases bft (a0.Way != (-1)) with hb18 | hb18
     ·replace hM:=ifT hM hb18
      refine On (want:=false) hb18 ?_
      refine On (want:=false) hb18 ?_
      refine On (want:=false) hb18 ?_
      refine On (want:=false) hb18 ?_
      refine Pt (.b true) hb18 ?_
      refine Ni ?_
      exact zak true (.k (.k .nil)) ⟨(hS.keep [] rfl).up (by omega),hM⟩
     ·replace hM:=ifF hM hb18
      refine Oy (want:=false) hb18 ?_
      refine Of ((Tray.cells a0)) zf4 ?_
      refine Oy (want:=false) hb18 ?_
      refine Olp (.i a0.Step) zaf zap ?_
      refine Oy (want:=false) hb18 ?_
      obtain ⟨r19,hr19,hM⟩:=zas hM
      refine zaP (bs:=[.i a0.Step,.i 0,.i 60]) (by decide) rfl rfl ((zcZ hr19).le (.k (.k (.k .nil)))) ?_
      refine Oy (want:=false) hb18 ?_
      refine zdW (e:=r19) (by decide) rfl ?_
      refine Pf (.b (!r19)) hb18 ?_
      refine Ni ?_
      exact zak (!r19) (.k (.k .nil)) ⟨(hS.keep [] rfl).up (by omega),hM⟩
    ·replace hM:=ifF hM hb17
     refine On (want:=true) hb17 ?_
     refine On (want:=true) hb17 ?_
     refine On (want:=true) hb17 ?_
     refine Oy (want:=false) hb16 ?_
     refine Pf (.b false) hb17 ?_
     refine Pf (.b false) hb16 ?_
     refine Om (.b false) ?_
     refine Oz ?_
     refine Of ((Tray.cells a0)) zf4 ?_
     refine Oz ?_
     refine Olp (.i a0.Step) zaf zap ?_
     refine Oz ?_
     obtain ⟨r20,hr20,hM⟩:=zas hM
     refine zaP (bs:=[.i a0.Step,.i 0,.i 60]) (by decide) rfl rfl ((zcZ hr20).le (.k (.k (.k .nil)))) ?_
     refine Oz ?_
     refine zdW (e:=r20) (by decide) rfl ?_
     refine zb0 (v:=.b (!r20)) (e:=false) (by decide) rfl rfl rfl ?_
     refine Ni ?_
     exact zak (!r20) (.k (.k .nil)) ⟨(hS.keep [] rfl).up (by omega),hM⟩
theorem zlJ {a0:Tray} {r:Tray} (hM:zhu a0=some r):zaJ Try.prog 14 [.agg (Tray.cells a0)] (.agg [.sl .no 2 (r.Records.map TrayRecord.cells),.i r.At,.i r.Way,.i r.Step,.sl .no 2 (r.Presses.map TrayPress.cells)]):=by
 refine zax mixed Try.func14 rfl (by decide) Try.ntmps14 (by simp) ?pure fun H0 g hf=>?_
 case pure=>exact .agg _ (zac (.sl _ _ (zav (fun x=>(zac (.v _) (zac (.v _) zaE))))) (zac (.v _) (zac (.v _) (zac (.v _) (zac (.sl _ _ (zav (fun x=>(zac (.v _) (zac (.v _) zaE))))) zaE)))))
 rw [zan]
 change wpA _ _ _ _ (Fr.of [(0,.agg (Tray.cells a0))]) H0 g
 have hS:=St.start hf
 refine Sq ?_
 refine Rg 2 ?_
 refine zd2 (v:=.agg (Tray.cells a0)) (cs:=(Tray.cells a0)) hS (by decide) rfl rfl (by omega) fun H hS=>?_
 refine zdI hS (by decide) zjE (by omega) fun H hS=>?_
 refine Ni ?_
 refine zda (L':=[(g+1,.cells [.sl .nil 0 [],.i 0,.i 0,.i 0,.sl .nil 0 []])]) 1 1 hS rfl rfl rfl fun H hS=>?_
 refine Ws ?_
 refine Sq ?_
 refine Rg 3 ?_
 refine Olg (.agg (Tray.cells a0)) zdV ?_
 refine zdI hS (by decide) zjE (by omega) fun H hS=>?_
 refine zaM (v:=.agg (Tray.cells a0)) (ns:=(Tray.cells a0)) (L':=[(g+2+1,.cells (Tray.cells a0)),(g+1,.cells [.sl .nil 0 [],.i 0,.i 0,.i 0,.sl .nil 0 []])]) 0 hS rfl rfl .no rfl rfl zkX nlb rfl fun H hS=>?_
 refine Ni ?_
 refine Ws ?_
 refine Sq ?_
 have hS0:=hS
 refine zd1 (n:=12) rfl (by kernel_rfl) ?_
 refine zbj (es:=[]) hS (by decide) zhZ zo2 rfl zo3 rfl (by decide) (by omega) fun H hS=>?_
 refine Of ((Tray.cells a0)) zbY ?_
 refine Olp (.sl .no 2 (a0.Records.map TrayRecord.cells)) zcP zdB ?_
 obtain ⟨l1,hl1,hM⟩:=zas hM
 refine zdJ (xs:=([]:List TrayRecord)) (ys:=a0.Records) (zs:=l1) (f:=TrayRecord.cells) (L':=[(g+2+3+0,.row 75 l1.length),(g+2+1,.cells (Tray.cells a0)),(g+1,.cells [.sl .nil 0 [],.i 0,.i 0,.i 0,.sl .nil 0 []])]) 0 hS (by decide) rfl rfl rfl rfl (.behind (by kernel_rfl)) zhZ zo2 zo3 hl1 rfl fun H hS=>?_
 refine zbj (es:=[]) hS (by decide) zdO ziF rfl ziG rfl (by decide) (by omega) fun H hS=>?_
 refine Of ((Tray.cells a0)) zdk ?_
 refine Olp (.sl .no 2 (a0.Presses.map TrayPress.cells)) zcW zdN ?_
 obtain ⟨l2,hl2,hM⟩:=zas hM
 refine zdJ (xs:=([]:List TrayPress)) (ys:=a0.Presses) (zs:=l2) (f:=TrayPress.cells) (L':=[(g+2+3+4,.row 55 l2.length),(g+2+3+0,.row 75 l1.length),(g+2+1,.cells (Tray.cells a0)),(g+1,.cells [.sl .nil 0 [],.i 0,.i 0,.i 0,.sl .nil 0 []])]) 0 hS (by decide) rfl rfl rfl rfl (.behind (by kernel_rfl)) zdO ziF ziG hl2 rfl fun H hS=>?_
 refine zag (by decide) zbY rfl ?_
 refine zaM (v:=.sl (.id (g+2+3+0)) 2 (l1.map TrayRecord.cells)) (ns:=[.sl (.id (g+2+3+0)) 2 (l1.map TrayRecord.cells)]) (L':=[(g+2+3+4,.row 55 l2.length),(g+2+3+0,.row 75 l1.length),(g+2+1,.cells [.sl (.id (g+2+3+0)) 2 (l1.map TrayRecord.cells),.i a0.At,.i a0.Way,.i a0.Step,.sl .no 2 (a0.Presses.map TrayPress.cells)]),(g+1,.cells [.sl .nil 0 [],.i 0,.i 0,.i 0,.sl .nil 0 []])]) 2 hS rfl rfl (.st hS0 0 rfl (by omega)) rfl rfl zqh nlb rfl fun H hS=>?_
 refine zag (by decide) zdk rfl ?_
 refine zaM (v:=.sl (.id (g+2+3+4)) 2 (l2.map TrayPress.cells)) (ns:=[.sl (.id (g+2+3+4)) 2 (l2.map TrayPress.cells)]) (L':=[(g+2+3+4,.row 55 l2.length),(g+2+3+0,.row 75 l1.length),(g+2+1,.cells [.sl (.id (g+2+3+0)) 2 (l1.map TrayRecord.cells),.i a0.At,.i a0.Way,.i a0.Step,.sl (.id (g+2+3+4)) 2 (l2.map TrayPress.cells)]),(g+1,.cells [.sl .nil 0 [],.i 0,.i 0,.i 0,.sl .nil 0 []])]) 2 hS rfl rfl (.st hS0 0 rfl (by omega)) rfl rfl zi8 nlb rfl fun H hS=>?_
 refine Ni ?_
 refine Ws ?_
 refine Sq ?_
 refine Rg 2 ?_
 refine zaG (v:=.agg [.sl (.id (g+2+3+0)) 2 (l1.map TrayRecord.cells),.i a0.At,.i a0.Way,.i a0.Step,.sl (.id (g+2+3+4)) 2 (l2.map TrayPress.cells)]) 2 hS (by decide) rfl rfl .no (pg zdV) ?_
 refine zaM (v:=.agg [.sl (.id (g+2+3+0)) 2 (l1.map TrayRecord.cells),.i a0.At,.i a0.Way,.i a0.Step,.sl (.id (g+2+3+4)) 2 (l2.map TrayPress.cells)]) (ns:=[.sl (.id (g+2+3+0)) 2 (l1.map TrayRecord.cells),.i a0.At,.i a0.Way,.i a0.Step,.sl (.id (g+2+3+4)) 2 (l2.map TrayPress.cells)]) (L':=[(g+2+3+4,.row 55 l2.length),(g+2+3+0,.row 75 l1.length),(g+2+1,.cells [.sl (.id (g+2+3+0)) 2 (l1.map TrayRecord.cells),.i a0.At,.i a0.Way,.i a0.Step,.sl (.id (g+2+3+4)) 2 (l2.map TrayPress.cells)]),(g+1,.cells [.sl (.id (g+2+3+0)) 2 (l1.map TrayRecord.cells),.i a0.At,.i a0.Way,.i a0.Step,.sl (.id (g+2+3+4)) 2 (l2.map TrayPress.cells)])]) 3 hS rfl rfl .no rfl rfl zkX nlb rfl fun H hS=>?_
 refine Ni ?_
 replace hS:=hS.keep (L':=[(g+2+3+4,.row 55 l2.length),(g+2+3+0,.row 75 l1.length),(g+1,.cells [.sl (.id (g+2+3+0)) 2 (l1.map TrayRecord.cells),.i a0.At,.i a0.Way,.i a0.Step,.sl (.id (g+2+3+4)) 2 (l2.map TrayPress.cells)])]) [true,true,false,true] rfl
 refine zfW [(2,.ptr (g+1) 0)] (.k .nil) ?_
 refine zaQ ?_
 refine za7 (x:=.agg [.sl (.id (g+2+3+0)) 2 (l1.map TrayRecord.cells),.i a0.At,.i a0.Way,.i a0.Step,.sl (.id (g+2+3+4)) 2 (l2.map TrayPress.cells)]) (f:=fun r=>.agg [.sl .no 2 (r.Records.map TrayRecord.cells),.i r.At,.i r.Way,.i r.Step,.sl .no 2 (r.Presses.map TrayPress.cells)]) (.inr rfl) ?_ (.aggL (.cons (.sl _ _ _) (.k (.k (.k (.cons (.sl _ _ _) .nil)))))) (Option.some.inj hM) hS
 exact (zaw (zei (x:=.agg [.sl (.id (g+2+3+0)) 2 (l1.map TrayRecord.cells),.i a0.At,.i a0.Way,.i a0.Step,.sl (.id (g+2+3+4)) 2 (l2.map TrayPress.cells)]) 2 hS rfl rfl (pg zdV)))
theorem zk1 {a0:Tray} {a1:Int} {r:Bool} (hM:zhW a0 a1=some r):zaJ Try.prog 64 [.agg (Tray.cells a0),.i a1] (.b r):=by
 refine zax mixed Try.func64 rfl (by decide) Try.ntmps64 (by simp) ?pure fun H0 g hf=>?_
 case pure=>exact .v _
 rw [zan]
 change wpA _ _ _ _ (Fr.of [(0,.agg (Tray.cells a0)),(1,.i a1)]) H0 g
 have hS:=St.start hf
 refine Sq ?_
 refine Rg 2 ?_
 refine zd2 (v:=.agg (Tray.cells a0)) (cs:=(Tray.cells a0)) hS (by decide) rfl rfl (by omega) fun H hS=>?_
 refine Oa (.b false) ?_
 refine Ni ?_
 refine zda (L':=[]) 0 2 hS rfl rfl rfl fun H hS=>?_
 refine Ws ?_
 refine zaO (J:=Bool) (fun j=>[(4,.b j)]) (fun j H' g'=>St (·<g) H0 [] H' g'/\zeG j=some r) ?_ ?_
 ·rintro v1 H g1 ⟨hS,hM⟩
  change wpA _ _ _ _ (Fr.of [(4,.b v1)]) _ _
  replace hS:St (·<g) H0 [] H g1:=hS
  replace hM:zeG v1=some r:=hM
  refine zaQ ?_
  refine za7 (x:=.b v1) (f:=fun r=>.b r) (.inr rfl) ?_ (.refl _) (Option.some.inj hM) hS
  exact (zaw (zai (x:=.b v1) rfl))
 ·refine Rg 11 ?_
  refine Om (.i a1) ?_
  refine Oi (.b (decide (a1≥0))) ?_
  refine Om (.b (decide (a1≥0))) ?_
  rcases bft (decide (a1≥0)) with hb2 | hb2
  ·replace hM:=ifT hM hb2
   refine Oy (want:=true) hb2 ?_
   refine Om (.i a1) ?_
   refine Oy (want:=true) hb2 ?_
   refine Of ((Tray.cells a0)) zbY ?_
   refine Oy (want:=true) hb2 ?_
   refine Olp (.sl .no 2 (a0.Records.map TrayRecord.cells)) zcP zdB ?_
   refine Oy (want:=true) hb2 ?_
   refine zcg (n:=a0.Records.length) (by decide) rfl (List.length_map _) zdM ?_
   refine Oy (want:=true) hb2 ?_
   refine Oi (.i (w64 (2*(a0.Records.length:Int)))) ?_
   refine Oy (want:=true) hb2 ?_
   refine Oi (.b (decide (a1<(w64 (2*(a0.Records.length:Int)))))) ?_
   refine Pt (.b (decide (a1<(w64 (2*(a0.Records.length:Int)))))) hb2 ?_
   refine Oa (.b (decide (a1<(w64 (2*(a0.Records.length:Int)))))) ?_
   refine Ni ?_
   exact zak (decide (a1<(w64 (2*(a0.Records.length:Int))))) (.k .nil) ⟨(hS.keep [] rfl).up (by omega),hM⟩
  ·replace hM:=ifF hM hb2
   refine On (want:=true) hb2 ?_
   refine On (want:=true) hb2 ?_
   refine On (want:=true) hb2 ?_
   refine On (want:=true) hb2 ?_
   refine On (want:=true) hb2 ?_
   refine On (want:=true) hb2 ?_
   refine Pf (.b false) hb2 ?_
   refine Oa (.b false) ?_
   refine Ni ?_
   exact zak false (.k .nil) ⟨(hS.keep [] rfl).up (by omega),hM⟩
theorem zk2 {a0:Int} {r:Bool} (hM:zhX a0=some r):zaJ Try.prog 65 [.i a0] (.b r):=by
 refine zax mixed Try.func65 rfl (by decide) Try.ntmps65 (by simp) ?pure fun H0 g hf=>?_
 case pure=>exact .v _
 rw [zan]
 change wpA _ _ _ _ (Fr.of [(0,.i a0)]) H0 g
 have hS:=St.start hf
 refine Sq ?_
 refine Rg 1 ?_
 refine Oa (.b false) ?_
 refine Ni ?_
 refine Ws ?_
 refine zaO (J:=Bool) (fun j=>[(2,.b j)]) (fun j H' g'=>St (·<g) H0 [] H' g'/\zeH j=some r) ?_ ?_
 ·rintro v1 H g1 ⟨hS,hM⟩
  change wpA _ _ _ _ (Fr.of [(2,.b v1)]) _ _
  replace hS:St (·<g) H0 [] H g1:=hS
  replace hM:zeH v1=some r:=hM
  refine zaQ ?_
  refine za7 (x:=.b v1) (f:=fun r=>.b r) (.inr rfl) ?_ (.refl _) (Option.some.inj hM) hS
  exact (zaw (zai (x:=.b v1) rfl))
 ·refine Rg 7 ?_
  refine Om (.i a0) ?_
  refine Oi (.b (decide (a0≥0))) ?_
  refine Om (.b (decide (a0≥0))) ?_
  rcases bft (decide (a0≥0)) with hb2 | hb2
  ·replace hM:=ifT hM hb2
   refine Oy (want:=true) hb2 ?_
   refine Om (.i a0) ?_
   refine Oy (want:=true) hb2 ?_
   refine Oi (.b (decide (a0<=9999))) ?_
   refine Pt (.b (decide (a0<=9999))) hb2 ?_
   refine Oa (.b (decide (a0<=9999))) ?_
   refine Ni ?_
   exact zak (decide (a0<=9999)) (.k .nil) ⟨(hS.keep [] rfl).up (by omega),hM⟩
  ·replace hM:=ifF hM hb2
   refine On (want:=true) hb2 ?_
   refine On (want:=true) hb2 ?_
   refine Pf (.b false) hb2 ?_
   refine Oa (.b false) ?_
   refine Ni ?_
   exact zak false (.k .nil) ⟨(hS.keep [] rfl).up (by omega),hM⟩
theorem zlK {n:Nat} {a0:Tray} {r:Int} (hM:zhv n a0=some r):zaJ Try.prog 40 [.agg (Tray.cells a0)] (.i r):=by
 refine zax mixed Try.func40 rfl (by decide) Try.ntmps40 (by simp) ?pure fun H0 g hf=>?_
 case pure=>exact .v _
 rw [zan]
 change wpA _ _ _ _ (Fr.of [(0,.agg (Tray.cells a0))]) H0 g
 have hS:=St.start hf
 refine Sq ?_
 refine Rg 2 ?_
 refine zd2 (v:=.agg (Tray.cells a0)) (cs:=(Tray.cells a0)) hS (by decide) rfl rfl (by omega) fun H hS=>?_
 refine Oa (.i 0) ?_
 refine Ni ?_
 refine zda (L':=[]) 0 1 hS rfl rfl rfl fun H hS=>?_
 refine Ws ?_
 refine zaO (J:=Bool) (fun j=>[(1,.ep (Tray.cells a0)),(3,.b j)]) (fun j H' g'=>St (·<g) H0 [] H' g'/\zbt n a0 j=some r) ?_ ?_
 ·rintro v1 H g1 ⟨hS,hM⟩
  change wpA _ _ _ _ (Fr.of [(1,.ep (Tray.cells a0)),(3,.b v1)]) _ _
  replace hS:St (·<g) H0 [] H g1:=hS
  replace hM:zbt n a0 v1=some r:=hM
  refine zaO (J:=Bool) (fun j=>[(1,.ep (Tray.cells a0)),(3,.b j)]) (fun j H' g'=>St (·<g) H0 [] H' g'/\zgK n a0 j=some r) ?_ ?_
  ·rintro v2 H g2 ⟨hS,hM⟩
   change wpA _ _ _ _ (Fr.of [(1,.ep (Tray.cells a0)),(3,.b v2)]) _ _
   replace hS:St (·<g) H0 [] H g2:=hS
   replace hM:zgK n a0 v2=some r:=hM
   refine zaO (J:=Bool) (fun j=>[(3,.b j)]) (fun j H' g'=>St (·<g) H0 [] H' g'/\zfJ j=some r) ?_ ?_
   ·rintro v3 H g3 ⟨hS,hM⟩
    change wpA _ _ _ _ (Fr.of [(3,.b v3)]) _ _
    replace hS:St (·<g) H0 [] H g3:=hS
    replace hM:zfJ v3=some r:=hM
    refine Sq ?_
    refine Sq ?_
    refine Rg 2 ?_
    refine Om (.b v3) ?_
    refine zdW (e:=v3) (by decide) rfl ?_
    refine Ni ?_
    refine Ws ?_
    rcases bft (!v3) with hb4 | hb4
    ·replace hM:=ifT hM hb4
     refine Ct hb4 ?_
     refine Sq ?_
     refine Rg 1 ?_
     refine Oa (.i 20) ?_
     refine Ni ?_
     refine Ws ?_
     refine zaQ ?_
     refine zaq ?_
     refine za7 (x:=.i 20) (f:=fun r=>.i r) (.inr rfl) ?_ (.refl _) (Option.some.inj hM) hS
     exact (zaw (zai (x:=.i 20) rfl))
    ·replace hM:=ifF hM hb4
     refine Cf hb4 ?_
     refine zaC ?_
     refine Ws ?_
     refine Sq ?_
     refine Rg 1 ?_
     refine Oa (.i 0) ?_
     refine Ni ?_
     refine Ws ?_
     refine zaQ ?_
     refine za7 (x:=.i 0) (f:=fun r=>.i r) (.inr rfl) ?_ (.refl _) (Option.some.inj hM) hS
     exact (zaw (zai (x:=.i 0) rfl))
   ·refine Sq ?_
    refine Rg 4 ?_
    refine Of ((Tray.cells a0)) zdk ?_
    refine Olp (.sl .no 2 (a0.Presses.map TrayPress.cells)) zcW zdN ?_
    refine zcg (n:=a0.Presses.length) (by decide) rfl (List.length_map _) zfa ?_
    refine Om (.i 0) ?_
    refine Ni ?_
    refine Ws ?_
    refine zaz ?_
    refine zcx (V:=Bool×Int) (fun v=>[(1,.ep (Tray.cells a0)),(3,.b v.1),(87,.sl .no 2 (a0.Presses.map TrayPress.cells)),(88,.i (a0.Presses.length:Int)),(89,.i v.2)]) (fun v m4 H' g'=>St (·<g) H0 [] H' g'/\zcC a0 m4 v.1 v.2=some r) (n:=n) (v2,0) (.k (.k (.k (.k (.k .nil))))) ⟨(hS.keep [] rfl).up (by omega),hM⟩ ?_
    rintro ⟨v5,v6⟩ m4 H g4 ⟨hS,hM⟩
    obtain _ | m4:=m4
    ·exact nomatch (show none=some _ from hM)
    change wpA _ _ _ _ (Fr.of [(1,.ep (Tray.cells a0)),(3,.b v5),(87,.sl .no 2 (a0.Presses.map TrayPress.cells)),(88,.i (a0.Presses.length:Int)),(89,.i v6)]) _ _
    replace hS:St (·<g) H0 [] H g4:=hS
    replace hM:ze3 a0 (zcC a0 m4) v5 v6=some r:=hM
    refine Sq ?_
    refine Rg 1 ?_
    refine Oi (.b (decide (v6<(a0.Presses.length:Int)))) ?_
    refine Ni ?_
    refine Ws ?_
    refine Sq ?_
    rcases bft (decide (v6<(a0.Presses.length:Int))) with hb7 | hb7
    ·replace hM:=ifT hM hb7
     refine Ct hb7 ?_
     refine zaC ?_
     refine Ws ?_
     refine zaO (J:=Bool) (fun j=>[(1,.ep (Tray.cells a0)),(3,.b j),(87,.sl .no 2 (a0.Presses.map TrayPress.cells)),(88,.i (a0.Presses.length:Int)),(89,.i v6)]) (fun j H' g'=>St (·<g) H0 [] H' g'/\zej (zcC a0 m4) v6 j=some r) ?_ ?_
     ·rintro v8 H g5 ⟨hS,hM⟩
      change wpA _ _ _ _ (Fr.of [(1,.ep (Tray.cells a0)),(3,.b v8),(87,.sl .no 2 (a0.Presses.map TrayPress.cells)),(88,.i (a0.Presses.length:Int)),(89,.i v6)]) _ _
      replace hS:St (·<g) H0 [] H g5:=hS
      replace hM:zej (zcC a0 m4) v6 v8=some r:=hM
      refine Rg 2 ?_
      refine Oi (.i (w64 (v6+1))) ?_
      refine Om (.i (w64 (v6+1))) ?_
      refine Ni ?_
      exact zbF (v8,w64 (v6+1)) (Nat.lt_succ_self _) (.k (.k (.k (.k (.k .nil))))) ⟨(hS.keep [] rfl).up (by omega),hM⟩
     ·refine zaz ?_
      refine Sq ?_
      refine Rg 4 ?_
      obtain ⟨x9,hx9,hM⟩:=zas hM
      refine zbu (xs:=a0.Presses) (f:=TrayPress.cells) (z:=v6) (u:=x9) (by decide) rfl rfl zdO hx9 ?_
      refine Olg (.agg [.i x9.Side,.i x9.Time]) zig ?_
      refine zdI hS (by decide) zlA (by omega) fun H hS=>?_
      refine zaM (v:=.agg [.i x9.Side,.i x9.Time]) (ns:=[.i x9.Side,.i x9.Time]) (L':=[(g4+1+2,.cells [.i x9.Side,.i x9.Time])]) 0 hS rfl rfl .no rfl rfl zkY nlb rfl fun H hS=>?_
      refine Ni ?_
      refine zda (L':=[]) 0 7 hS rfl rfl rfl fun H hS=>?_
      refine Ws ?_
      refine Rg 13 ?_
      refine Om (.b v5) ?_
      refine Om (.b v5) ?_
      rcases bft v5 with hb10 | hb10
      ·replace hM:=ifT hM hb10
       refine Oy (want:=true) hb10 ?_
       refine Olg (.agg (Tray.cells a0)) zdV ?_
       refine Oy (want:=true) hb10 ?_
       refine Of ([.i x9.Side,.i x9.Time]) zjG ?_
       refine Oy (want:=true) hb10 ?_
       refine Olp (.i x9.Side) zaf zap ?_
       refine Oy (want:=true) hb10 ?_
       obtain ⟨r11,hr11,hM⟩:=zas hM
       refine zaP (bs:=[.agg (Tray.cells a0),.i x9.Side]) (by decide) rfl rfl ((zk1 hr11).le (.k (.k .nil))) ?_
       refine Pt (.b r11) hb10 ?_
       refine Om (.b r11) ?_
       rcases bft r11 with hb12 | hb12
       ·replace hM:=ifT hM hb12
        refine Oy (want:=true) hb12 ?_
        refine Of ([.i x9.Side,.i x9.Time]) zgw ?_
        refine Oy (want:=true) hb12 ?_
        refine Olp (.i x9.Time) zaf zap ?_
        refine Oy (want:=true) hb12 ?_
        obtain ⟨r13,hr13,hM⟩:=zas hM
        refine zaP (bs:=[.i x9.Time]) (by decide) rfl rfl ((zk2 hr13).le (.k .nil)) ?_
        refine Pt (.b r13) hb12 ?_
        refine Oa (.b r13) ?_
        refine Ni ?_
        refine zah ?_
        exact zak r13 (.k (.k (.k (.k (.k .nil))))) ⟨(hS.keep [] rfl).up (by omega),hM⟩
       ·replace hM:=ifF hM hb12
        refine On (want:=true) hb12 ?_
        refine On (want:=true) hb12 ?_
        refine On (want:=true) hb12 ?_
        refine Pf (.b false) hb12 ?_
        refine Oa (.b false) ?_
        refine Ni ?_
        refine zah ?_
        exact zak false (.k (.k (.k (.k (.k .nil))))) ⟨(hS.keep [] rfl).up (by omega),hM⟩
      ·replace hM:=ifF hM hb10
       refine On (want:=true) hb10 ?_
       refine On (want:=true) hb10 ?_
       refine On (want:=true) hb10 ?_
       refine On (want:=true) hb10 ?_
       refine Pf (.b false) hb10 ?_
       refine Om (.b false) ?_
       refine Og ?_
       refine Og ?_
       refine Og ?_
       refine zb0 (v:=.b false) (e:=false) (by decide) rfl rfl rfl ?_
       refine Oa (.b false) ?_
       refine Ni ?_
       refine zah ?_
       exact zak false (.k (.k (.k (.k (.k .nil))))) ⟨(hS.keep [] rfl).up (by omega),hM⟩
    ·replace hM:=ifF hM hb7
     refine Cf hb7 ?_
     refine zcp ?_
     refine zay ?_
     refine zau ?_
     refine zaD ?_
     exact zak v5 (.k .nil) ⟨(hS.keep [] rfl).up (by omega),hM⟩
  ·refine Sq ?_
   refine Rg 4 ?_
   refine Of ((Tray.cells a0)) zbY ?_
   refine Olp (.sl .no 2 (a0.Records.map TrayRecord.cells)) zcP zdB ?_
   refine zcg (n:=a0.Records.length) (by decide) rfl (List.length_map _) zdM ?_
   refine Om (.i 0) ?_
   refine Ni ?_
   refine Ws ?_
   refine zaz ?_
   refine zcx (V:=Bool×Int) (fun v=>[(1,.ep (Tray.cells a0)),(3,.b v.1),(58,.sl .no 2 (a0.Records.map TrayRecord.cells)),(59,.i (a0.Records.length:Int)),(60,.i v.2)]) (fun v m6 H' g'=>St (·<g) H0 [] H' g'/\zcD n a0 m6 v.1 v.2=some r) (n:=n) (v1,0) (.k (.k (.k (.k (.k .nil))))) ⟨(hS.keep [] rfl).up (by omega),hM⟩ ?_
   rintro ⟨v14,v15⟩ m6 H g6 ⟨hS,hM⟩
   obtain _ | m6:=m6
   ·exact nomatch (show none=some _ from hM)
   change wpA _ _ _ _ (Fr.of [(1,.ep (Tray.cells a0)),(3,.b v14),(58,.sl .no 2 (a0.Records.map TrayRecord.cells)),(59,.i (a0.Records.length:Int)),(60,.i v15)]) _ _
   replace hS:St (·<g) H0 [] H g6:=hS
   replace hM:ze4 n a0 (zcD n a0 m6) v14 v15=some r:=hM
   refine Sq ?_
   refine Rg 1 ?_
   refine Oi (.b (decide (v15<(a0.Records.length:Int)))) ?_
   refine Ni ?_
   refine Ws ?_
   refine Sq ?_
   rcases bft (decide (v15<(a0.Records.length:Int))) with hb16 | hb16
   ·replace hM:=ifT hM hb16
    refine Ct hb16 ?_
    refine zaC ?_
    refine Ws ?_
    refine zaO (J:=Bool) (fun j=>[(1,.ep (Tray.cells a0)),(3,.b j),(58,.sl .no 2 (a0.Records.map TrayRecord.cells)),(59,.i (a0.Records.length:Int)),(60,.i v15)]) (fun j H' g'=>St (·<g) H0 [] H' g'/\zdh (zcD n a0 m6) v15 j=some r) ?_ ?_
    ·rintro v17 H g7 ⟨hS,hM⟩
     change wpA _ _ _ _ (Fr.of [(1,.ep (Tray.cells a0)),(3,.b v17),(58,.sl .no 2 (a0.Records.map TrayRecord.cells)),(59,.i (a0.Records.length:Int)),(60,.i v15)]) _ _
     replace hS:St (·<g) H0 [] H g7:=hS
     replace hM:zdh (zcD n a0 m6) v15 v17=some r:=hM
     refine Rg 2 ?_
     refine Oi (.i (w64 (v15+1))) ?_
     refine Om (.i (w64 (v15+1))) ?_
     refine Ni ?_
     exact zbF (v17,w64 (v15+1)) (Nat.lt_succ_self _) (.k (.k (.k (.k (.k .nil))))) ⟨(hS.keep [] rfl).up (by omega),hM⟩
    ·refine zaz ?_
     refine Sq ?_
     refine Rg 4 ?_
     obtain ⟨x18,hx18,hM⟩:=zas hM
     refine zbu (xs:=a0.Records) (f:=TrayRecord.cells) (z:=v15) (u:=x18) (by decide) rfl rfl zhZ hx18 ?_
     refine Olg (.agg (TrayRecord.cells x18)) zqj ?_
     refine zdI hS (by decide) zo8 (by omega) fun H hS=>?_
     refine zaM (v:=.agg (TrayRecord.cells x18)) (ns:=(TrayRecord.cells x18)) (L':=[(g6+1+2,.cells (TrayRecord.cells x18))]) 0 hS rfl rfl .no rfl rfl zqk nlb rfl fun H hS=>?_
     refine Ni ?_
     refine zda (L':=[]) 0 5 hS rfl rfl rfl fun H hS=>?_
     refine Ws ?_
     refine Rg 22 ?_
     refine Om (.b v14) ?_
     refine Om (.b v14) ?_
     rcases bft v14 with hb19 | hb19
     ·replace hM:=ifT hM hb19
      refine Oy (want:=true) hb19 ?_
      refine Of ((TrayRecord.cells x18)) zil ?_
      refine Oy (want:=true) hb19 ?_
      refine Olp (.i x18.Front) zaf zap ?_
      refine Oy (want:=true) hb19 ?_
      refine Oi (.b (decide (x18.Front≥1))) ?_
      refine Pt (.b (decide (x18.Front≥1))) hb19 ?_
      refine Om (.b (decide (x18.Front≥1))) ?_
      rcases bft (decide (x18.Front≥1)) with hb20 | hb20
      ·replace hM:=ifT hM hb20
       refine Oy (want:=true) hb20 ?_
       refine Of ((TrayRecord.cells x18)) zil ?_
       refine Oy (want:=true) hb20 ?_
       refine Olp (.i x18.Front) zaf zap ?_
       refine Oy (want:=true) hb20 ?_
       refine Oi (.b (decide (x18.Front<=999))) ?_
       refine Pt (.b (decide (x18.Front<=999))) hb20 ?_
       refine Om (.b (decide (x18.Front<=999))) ?_
       rcases bft (decide (x18.Front<=999)) with hb21 | hb21
       ·replace hM:=ifT hM hb21
        refine Oy (want:=true) hb21 ?_
        refine Of ((TrayRecord.cells x18)) zim ?_
        refine Oy (want:=true) hb21 ?_
        refine Olp (.i x18.Back) zaf zap ?_
        refine Oy (want:=true) hb21 ?_
        refine Oi (.b (decide (x18.Back≥1))) ?_
        refine Pt (.b (decide (x18.Back≥1))) hb21 ?_
        refine Om (.b (decide (x18.Back≥1))) ?_
        rcases bft (decide (x18.Back≥1)) with hb22 | hb22
        ·replace hM:=ifT hM hb22
         refine Oy (want:=true) hb22 ?_
         refine Of ((TrayRecord.cells x18)) zim ?_
         refine Oy (want:=true) hb22 ?_
         refine Olp (.i x18.Back) zaf zap ?_
         refine Oy (want:=true) hb22 ?_
         refine Oi (.b (decide (x18.Back<=999))) ?_
         refine Pt (.b (decide (x18.Back<=999))) hb22 ?_
         refine Oa (.b (decide (x18.Back<=999))) ?_
         refine Ni ?_
         refine zah ?_
         exact zak (decide (x18.Back<=999)) (.k (.k (.k (.k (.k .nil))))) ⟨(hS.keep [] rfl).up (by omega),hM⟩
        ·replace hM:=ifF hM hb22
         refine On (want:=true) hb22 ?_
         refine On (want:=true) hb22 ?_
         refine On (want:=true) hb22 ?_
         refine Pf (.b false) hb22 ?_
         refine Oa (.b false) ?_
         refine Ni ?_
         refine zah ?_
         exact zak false (.k (.k (.k (.k (.k .nil))))) ⟨(hS.keep [] rfl).up (by omega),hM⟩
       ·replace hM:=ifF hM hb21
        refine On (want:=true) hb21 ?_
        refine On (want:=true) hb21 ?_
        refine On (want:=true) hb21 ?_
        refine Pf (.b false) hb21 ?_
        refine Om (.b false) ?_
        refine Og ?_
        refine Og ?_
        refine Og ?_
        refine zb0 (v:=.b false) (e:=false) (by decide) rfl rfl rfl ?_
        refine Oa (.b false) ?_
        refine Ni ?_
        refine zah ?_
        exact zak false (.k (.k (.k (.k (.k .nil))))) ⟨(hS.keep [] rfl).up (by omega),hM⟩
      ·replace hM:=ifF hM hb20
       refine On (want:=true) hb20 ?_
       refine On (want:=true) hb20 ?_
       refine On (want:=true) hb20 ?_
       refine Pf (.b false) hb20 ?_
       refine Om (.b false) ?_
       refine Og ?_
       refine Og ?_
       refine Og ?_
       refine zb0 (v:=.b false) (e:=false) (by decide) rfl rfl rfl ?_
       refine Om (.b false) ?_
       refine Og ?_
       refine Og ?_
       refine Og ?_
       refine zb0 (v:=.b false) (e:=false) (by decide) rfl rfl rfl ?_
       refine Oa (.b false) ?_
       refine Ni ?_
       refine zah ?_
       exact zak false (.k (.k (.k (.k (.k .nil))))) ⟨(hS.keep [] rfl).up (by omega),hM⟩
     ·replace hM:=ifF hM hb19
      refine On (want:=true) hb19 ?_
      refine On (want:=true) hb19 ?_
      refine On (want:=true) hb19 ?_
      refine Pf (.b false) hb19 ?_
      refine Om (.b false) ?_
      refine Og ?_
      refine Og ?_
      refine Og ?_
      refine zb0 (v:=.b false) (e:=false) (by decide) rfl rfl rfl ?_
      refine Om (.b false) ?_
      refine Og ?_
      refine Og ?_
      refine Og ?_
      refine zb0 (v:=.b false) (e:=false) (by decide) rfl rfl rfl ?_
      refine Om (.b false) ?_
      refine Og ?_
      refine Og ?_
      refine Og ?_
      refine zb0 (v:=.b false) (e:=false) (by decide) rfl rfl rfl ?_
      refine Oa (.b false) ?_
      refine Ni ?_
      refine zah ?_
      exact zak false (.k (.k (.k (.k (.k .nil))))) ⟨(hS.keep [] rfl).up (by omega),hM⟩
   ·replace hM:=ifF hM hb16
    refine Cf hb16 ?_
    refine zcp ?_
    refine zay ?_
    refine zau ?_
    refine zaD ?_
    exact zak v14 (.k (.k .nil)) ⟨(hS.keep [] rfl).up (by omega),hM⟩
 ·refine Rg 50 ?_
  refine Of ((Tray.cells a0)) zbY ?_
  refine Olp (.sl .no 2 (a0.Records.map TrayRecord.cells)) zcP zdB ?_
  refine zcg (n:=a0.Records.length) (by decide) rfl (List.length_map _) zdM ?_
  refine Oi (.b (decide ((a0.Records.length:Int)≥1))) ?_
  refine Om (.b (decide ((a0.Records.length:Int)≥1))) ?_
  rcases bft (decide ((a0.Records.length:Int)≥1)) with hb23 | hb23
  ·replace hM:=ifT hM hb23
   refine Oy (want:=true) hb23 ?_
   refine Of ((Tray.cells a0)) zbY ?_
   refine Oy (want:=true) hb23 ?_
   refine Olp (.sl .no 2 (a0.Records.map TrayRecord.cells)) zcP zdB ?_
   refine Oy (want:=true) hb23 ?_
   refine zcg (n:=a0.Records.length) (by decide) rfl (List.length_map _) zdM ?_
   refine Oy (want:=true) hb23 ?_
   refine Oi (.b (decide ((a0.Records.length:Int)<=6))) ?_
   refine Pt (.b (decide ((a0.Records.length:Int)<=6))) hb23 ?_
   refine Om (.b (decide ((a0.Records.length:Int)<=6))) ?_
   rcases bft (decide ((a0.Records.length:Int)<=6)) with hb24 | hb24
   ·replace hM:=ifT hM hb24
    refine Oy (want:=true) hb24 ?_
    refine Of ((Tray.cells a0)) zhj ?_
    refine Oy (want:=true) hb24 ?_
    refine Olp (.i a0.At) zaf zap ?_
    refine Oy (want:=true) hb24 ?_
    refine Oi (.b (decide (a0.At≥0))) ?_
    refine Pt (.b (decide (a0.At≥0))) hb24 ?_
    refine Om (.b (decide (a0.At≥0))) ?_
    rcases bft (decide (a0.At≥0)) with hb25 | hb25
    ·replace hM:=ifT hM hb25
     refine Oy (want:=true) hb25 ?_
     refine Of ((Tray.cells a0)) zhj ?_
     refine Oy (want:=true) hb25 ?_
     refine Olp (.i a0.At) zaf zap ?_
     refine Oy (want:=true) hb25 ?_
     refine Of ((Tray.cells a0)) zbY ?_
     refine Oy (want:=true) hb25 ?_
     refine Olp (.sl .no 2 (a0.Records.map TrayRecord.cells)) zcP zdB ?_
     refine Oy (want:=true) hb25 ?_
     refine zcg (n:=a0.Records.length) (by decide) rfl (List.length_map _) zdM ?_
     refine Oy (want:=true) hb25 ?_
     refine Oi (.b (decide (a0.At<(a0.Records.length:Int)))) ?_
     refine Pt (.b (decide (a0.At<(a0.Records.length:Int)))) hb25 ?_
     refine Om (.b (decide (a0.At<(a0.Records.length:Int)))) ?_
     rcases bft (decide (a0.At<(a0.Records.length:Int))) with hb26 | hb26
     ·replace hM:=ifT hM hb26
      refine Oy (want:=true) hb26 ?_
      refine Of ((Tray.cells a0)) zgv ?_
      refine Oy (want:=true) hb26 ?_
      refine Olp (.i a0.Way) zaf zap ?_
      refine Oy (want:=true) hb26 ?_
      refine Oi (.b (a0.Way==1)) ?_
      refine Oy (want:=true) hb26 ?_
      refine Om (.b (a0.Way==1)) ?_
      rcases bft (a0.Way==1) with hb27 | hb27
      ·replace hM:=ifT hM hb27
       refine On (want:=false) hb27 ?_
       refine On (want:=false) hb27 ?_
       refine On (want:=false) hb27 ?_
       refine Oy (want:=true) hb26 ?_
       refine Pt (.b true) hb27 ?_
       refine Pt (.b true) hb26 ?_
       refine Om (.b true) ?_
       refine Oz ?_
       refine Of ((Tray.cells a0)) zf4 ?_
       refine Oz ?_
       refine Olp (.i a0.Step) zaf zap ?_
       refine Oz ?_
       refine Oi (.b (decide (a0.Step≥0))) ?_
       refine za8 (v:=.b (decide (a0.Step≥0))) (e:=true) (by decide) rfl rfl rfl ?_
       refine Om (.b (decide (a0.Step≥0))) ?_
       rcases bft (decide (a0.Step≥0)) with hb28 | hb28
       ·replace hM:=ifT hM hb28
        refine Oy (want:=true) hb28 ?_
        refine Of ((Tray.cells a0)) zf4 ?_
        refine Oy (want:=true) hb28 ?_
        refine Olp (.i a0.Step) zaf zap ?_
        refine Oy (want:=true) hb28 ?_
        refine Oi (.b (decide (a0.Step<=60))) ?_
        refine Pt (.b (decide (a0.Step<=60))) hb28 ?_
        refine Om (.b (decide (a0.Step<=60))) ?_
        rcases bft (decide (a0.Step<=60)) with hb29 | hb29
        ·replace hM:=ifT hM hb29
         refine Oy (want:=true) hb29 ?_
         refine Of ((Tray.cells a0)) zdk ?_
         refine Oy (want:=true) hb29 ?_
         refine Olp (.sl .no 2 (a0.Presses.map TrayPress.cells)) zcW zdN ?_
         refine Oy (want:=true) hb29 ?_
         refine zcg (n:=a0.Presses.length) (by decide) rfl (List.length_map _) zfa ?_
         refine Oy (want:=true) hb29 ?_
         refine Oi (.b (decide ((a0.Presses.length:Int)<=12))) ?_
         refine Pt (.b (decide ((a0.Presses.length:Int)<=12))) hb29 ?_
         refine Oa (.b (decide ((a0.Presses.length:Int)<=12))) ?_
         refine Ni ?_
         exact zak (decide ((a0.Presses.length:Int)<=12)) (.k (.k .nil)) ⟨(hS.keep [] rfl).up (by omega),hM⟩
        ·replace hM:=ifF hM hb29
         refine On (want:=true) hb29 ?_
         refine On (want:=true) hb29 ?_
         refine On (want:=true) hb29 ?_
         refine On (want:=true) hb29 ?_
         refine Pf (.b false) hb29 ?_
         refine Oa (.b false) ?_
         refine Ni ?_
         exact zak false (.k (.k .nil)) ⟨(hS.keep [] rfl).up (by omega),hM⟩
       ·replace hM:=ifF hM hb28
        refine On (want:=true) hb28 ?_
        refine On (want:=true) hb28 ?_
        refine On (want:=true) hb28 ?_
        refine Pf (.b false) hb28 ?_
        refine Om (.b false) ?_
        refine Og ?_
        refine Og ?_
        refine Og ?_
        refine Og ?_
        refine zb0 (v:=.b false) (e:=false) (by decide) rfl rfl rfl ?_
        refine Oa (.b false) ?_
        refine Ni ?_
        exact zak false (.k (.k .nil)) ⟨(hS.keep [] rfl).up (by omega),hM⟩
      ·replace hM:=ifF hM hb27
       refine Oy (want:=false) hb27 ?_
       refine Of ((Tray.cells a0)) zgv ?_
       refine Oy (want:=false) hb27 ?_
       refine Olp (.i a0.Way) zaf zap ?_
       refine Oy (want:=false) hb27 ?_
       refine Oi (.b (a0.Way==(-1))) ?_
       refine Oy (want:=true) hb26 ?_
       refine Pf (.b (a0.Way==(-1))) hb27 ?_
       refine Pt (.b (a0.Way==(-1))) hb26 ?_
       refine Om (.b (a0.Way==(-1))) ?_
       rcases bft (a0.Way==(-1)) with hb30 | hb30
       ·replace hM:=ifT hM hb30
        refine Oy (want:=true) hb30 ?_
        refine Of ((Tray.cells a0)) zf4 ?_
        refine Oy (want:=true) hb30 ?_
        refine Olp (.i a0.Step) zaf zap ?_
        refine Oy (want:=true) hb30 ?_
        refine Oi (.b (decide (a0.Step≥0))) ?_
        refine Pt (.b (decide (a0.Step≥0))) hb30 ?_
        refine Om (.b (decide (a0.Step≥0))) ?_
        rcases bft (decide (a0.Step≥0)) with hb31 | hb31
        ·replace hM:=ifT hM hb31
         refine Oy (want:=true) hb31 ?_
         refine Of ((Tray.cells a0)) zf4 ?_
         refine Oy (want:=true) hb31 ?_
         refine Olp (.i a0.Step) zaf zap ?_
         refine Oy (want:=true) hb31 ?_
         refine Oi (.b (decide (a0.Step<=60))) ?_
         refine Pt (.b (decide (a0.Step<=60))) hb31 ?_
         refine Om (.b (decide (a0.Step<=60))) ?_
         rcases bft (decide (a0.Step<=60)) with hb32 | hb32
         ·replace hM:=ifT hM hb32
          refine Oy (want:=true) hb32 ?_
          refine Of ((Tray.cells a0)) zdk ?_
          refine Oy (want:=true) hb32 ?_
          refine Olp (.sl .no 2 (a0.Presses.map TrayPress.cells)) zcW zdN ?_
          refine Oy (want:=true) hb32 ?_
          refine zcg (n:=a0.Presses.length) (by decide) rfl (List.length_map _) zfa ?_
          refine Oy (want:=true) hb32 ?_
          refine Oi (.b (decide ((a0.Presses.length:Int)<=12))) ?_
          refine Pt (.b (decide ((a0.Presses.length:Int)<=12))) hb32 ?_
          refine Oa (.b (decide ((a0.Presses.length:Int)<=12))) ?_
          refine Ni ?_
          exact zak (decide ((a0.Presses.length:Int)<=12)) (.k (.k .nil)) ⟨(hS.keep [] rfl).up (by omega),hM⟩
         ·replace hM:=ifF hM hb32
          refine On (want:=true) hb32 ?_
          refine On (want:=true) hb32 ?_
          refine On (want:=true) hb32 ?_
          refine On (want:=true) hb32 ?_
          refine Pf (.b false) hb32 ?_
          refine Oa (.b false) ?_
          refine Ni ?_
          exact zak false (.k (.k .nil)) ⟨(hS.keep [] rfl).up (by omega),hM⟩
        ·replace hM:=ifF hM hb31
         refine On (want:=true) hb31 ?_
         refine On (want:=true) hb31 ?_
         refine On (want:=true) hb31 ?_
         refine Pf (.b false) hb31 ?_
         refine Om (.b false) ?_
         refine Og ?_
         refine Og ?_
         refine Og ?_
         refine Og ?_
         refine zb0 (v:=.b false) (e:=false) (by decide) rfl rfl rfl ?_
         refine Oa (.b false) ?_
         refine Ni ?_
         exact zak false (.k (.k .nil)) ⟨(hS.keep [] rfl).up (by omega),hM⟩
       ·replace hM:=ifF hM hb30
        refine On (want:=true) hb30 ?_
        refine On (want:=true) hb30 ?_
        refine On (want:=true) hb30 ?_
        refine Pf (.b false) hb30 ?_
        refine Om (.b false) ?_
        refine Og ?_
        refine Og ?_
        refine Og ?_
        refine zb0 (v:=.b false) (e:=false) (by decide) rfl rfl rfl ?_
        refine Om (.b false) ?_
        refine Og ?_
        refine Og ?_
        refine Og ?_
        refine Og ?_
        refine zb0 (v:=.b false) (e:=false) (by decide) rfl rfl rfl ?_
        refine Oa (.b false) ?_
        refine Ni ?_
        exact zak false (.k (.k .nil)) ⟨(hS.keep [] rfl).up (by omega),hM⟩
     ·replace hM:=ifF hM hb26
      refine On (want:=true) hb26 ?_
      refine On (want:=true) hb26 ?_
      refine On (want:=true) hb26 ?_
      refine On (want:=true) hb26 ?_
      refine za0 (j:=27) (by decide) rfl ?_
      refine za0 (j:=27) (by decide) rfl ?_
      refine za0 (j:=27) (by decide) rfl ?_
      refine On (want:=true) hb26 ?_
      refine Pf (.b false) hb26 ?_
      refine Om (.b false) ?_
      refine Og ?_
      refine Og ?_
      refine Og ?_
      refine zb0 (v:=.b false) (e:=false) (by decide) rfl rfl rfl ?_
      refine Om (.b false) ?_
      refine Og ?_
      refine Og ?_
      refine Og ?_
      refine zb0 (v:=.b false) (e:=false) (by decide) rfl rfl rfl ?_
      refine Om (.b false) ?_
      refine Og ?_
      refine Og ?_
      refine Og ?_
      refine Og ?_
      refine zb0 (v:=.b false) (e:=false) (by decide) rfl rfl rfl ?_
      refine Oa (.b false) ?_
      refine Ni ?_
      exact zak false (.k (.k .nil)) ⟨(hS.keep [] rfl).up (by omega),hM⟩
    ·replace hM:=ifF hM hb25
     refine On (want:=true) hb25 ?_
     refine On (want:=true) hb25 ?_
     refine On (want:=true) hb25 ?_
     refine On (want:=true) hb25 ?_
     refine On (want:=true) hb25 ?_
     refine On (want:=true) hb25 ?_
     refine Pf (.b false) hb25 ?_
     refine Om (.b false) ?_
     refine Og ?_
     refine Og ?_
     refine Og ?_
     refine Og ?_
     refine za0 (j:=27) (by decide) rfl ?_
     refine za0 (j:=27) (by decide) rfl ?_
     refine za0 (j:=27) (by decide) rfl ?_
     refine Og ?_
     refine zb0 (v:=.b false) (e:=false) (by decide) rfl rfl rfl ?_
     refine Om (.b false) ?_
     refine Og ?_
     refine Og ?_
     refine Og ?_
     refine zb0 (v:=.b false) (e:=false) (by decide) rfl rfl rfl ?_
     refine Om (.b false) ?_
     refine Og ?_
     refine Og ?_
     refine Og ?_
     refine zb0 (v:=.b false) (e:=false) (by decide) rfl rfl rfl ?_
     refine Om (.b false) ?_
     refine Og ?_
     refine Og ?_
     refine Og ?_
     refine Og ?_
     refine zb0 (v:=.b false) (e:=false) (by decide) rfl rfl rfl ?_
     refine Oa (.b false) ?_
     refine Ni ?_
     exact zak false (.k (.k .nil)) ⟨(hS.keep [] rfl).up (by omega),hM⟩
   ·replace hM:=ifF hM hb24
    refine On (want:=true) hb24 ?_
    refine On (want:=true) hb24 ?_
    refine On (want:=true) hb24 ?_
    refine Pf (.b false) hb24 ?_
    refine Om (.b false) ?_
    refine Og ?_
    refine Og ?_
    refine Og ?_
    refine Og ?_
    refine Og ?_
    refine Og ?_
    refine zb0 (v:=.b false) (e:=false) (by decide) rfl rfl rfl ?_
    refine Om (.b false) ?_
    refine Og ?_
    refine Og ?_
    refine Og ?_
    refine Og ?_
    refine za0 (j:=27) (by decide) rfl ?_
    refine za0 (j:=27) (by decide) rfl ?_
    refine za0 (j:=27) (by decide) rfl ?_
    refine Og ?_
    refine zb0 (v:=.b false) (e:=false) (by decide) rfl rfl rfl ?_
    refine Om (.b false) ?_
    refine Og ?_
    refine Og ?_
    refine Og ?_
    refine zb0 (v:=.b false) (e:=false) (by decide) rfl rfl rfl ?_
    refine Om (.b false) ?_
    refine Og ?_
    refine Og ?_
    refine Og ?_
    refine zb0 (v:=.b false) (e:=false) (by decide) rfl rfl rfl ?_
    refine Om (.b false) ?_
    refine Og ?_
    refine Og ?_
    refine Og ?_
    refine Og ?_
    refine zb0 (v:=.b false) (e:=false) (by decide) rfl rfl rfl ?_
    refine Oa (.b false) ?_
    refine Ni ?_
    exact zak false (.k (.k .nil)) ⟨(hS.keep [] rfl).up (by omega),hM⟩
  ·replace hM:=ifF hM hb23
   refine On (want:=true) hb23 ?_
   refine On (want:=true) hb23 ?_
   refine On (want:=true) hb23 ?_
   refine On (want:=true) hb23 ?_
   refine Pf (.b false) hb23 ?_
   refine Om (.b false) ?_
   refine Og ?_
   refine Og ?_
   refine Og ?_
   refine zb0 (v:=.b false) (e:=false) (by decide) rfl rfl rfl ?_
   refine Om (.b false) ?_
   refine Og ?_
   refine Og ?_
   refine Og ?_
   refine Og ?_
   refine Og ?_
   refine Og ?_
   refine zb0 (v:=.b false) (e:=false) (by decide) rfl rfl rfl ?_
   refine Om (.b false) ?_
   refine Og ?_
   refine Og ?_
   refine Og ?_
   refine Og ?_
   refine za0 (j:=27) (by decide) rfl ?_
   refine za0 (j:=27) (by decide) rfl ?_
   refine za0 (j:=27) (by decide) rfl ?_
   refine Og ?_
   refine zb0 (v:=.b false) (e:=false) (by decide) rfl rfl rfl ?_
   refine Om (.b false) ?_
   refine Og ?_
   refine Og ?_
   refine Og ?_
   refine zb0 (v:=.b false) (e:=false) (by decide) rfl rfl rfl ?_
   refine Om (.b false) ?_
   refine Og ?_
   refine Og ?_
   refine Og ?_
   refine zb0 (v:=.b false) (e:=false) (by decide) rfl rfl rfl ?_
   refine Om (.b false) ?_
   refine Og ?_
   refine Og ?_
   refine Og ?_
   refine Og ?_
   refine zb0 (v:=.b false) (e:=false) (by decide) rfl rfl rfl ?_
   refine Oa (.b false) ?_
   refine Ni ?_
   exact zak false (.k (.k .nil)) ⟨(hS.keep [] rfl).up (by omega),hM⟩
theorem zec {a0:List TrayPress} {r:List TrayPress} (hM:zbU a0=some r):zgD Try.prog 66 [.sl .no 2 (a0.map TrayPress.cells)] 55 2 (r.map TrayPress.cells):=by
 have hr:r=a0:=by
  unfold zbU app at hM
  split at hM
  ·injection hM with hM;rw [←hM];rfl
  ·cases hM
 refine zmq mixed Try.func66 rfl (by decide) Try.ntmps66 (by simp) ?pure fun H0 g hf=>?_
 case pure=>exact zav (fun x=>(zac (.v _) (zac (.v _) zaE)))
 rw [zan]
 change wpA _ _ _ _ (Fr.of [(0,.sl .no 2 (a0.map TrayPress.cells))]) H0 g
 have hS:=St.start hf
 refine Sq ?_
 refine Rg 1 ?_
 refine Oa (.sl .nil 0 []) ?_
 refine Ni ?_
 refine Ws ?_
 refine Sq ?_
 refine Sq ?_
 refine Rg 2 ?_
 refine Om (.sl .no 2 (a0.map TrayPress.cells)) ?_
 refine zvH (t:=23) (tg:=.no) (k:=2) (es:=a0.map TrayPress.cells) (e:=true) (by decide) rfl rfl rfl rfl zfa (fun _=>?_) (fun hnil=>?_)
 ·refine Ni ?_
  refine Ws ?_
  refine zmn (e:=false==true) rfl rfl ?_
  refine zaC ?_
  refine Ws ?_
  refine Sq ?_
  refine Rg 4 ?_
  refine zbj (es:=[]) hS (by decide) zdO ziF rfl ziG rfl (by decide) (by omega) fun H hS=>?_
  refine Om (.sl .no 2 (a0.map TrayPress.cells)) ?_
  refine zdJ (xs:=([]:List TrayPress)) (ys:=a0) (zs:=r) (f:=TrayPress.cells) (L':=[(g+1+2+0,.row 55 r.length)]) 0 hS (by decide) rfl rfl rfl rfl .no zdO ziF ziG hM rfl fun H hS=>?_
  refine Oa (.sl (.id (g+1+2+0)) 2 (r.map TrayPress.cells)) ?_
  refine Ni ?_
  refine Ws ?_
  refine zaQ ?_
  refine zsx (j:=g+1+2+0) 0 (.inr rfl) ?_ hS rfl (List.length_map _).symm
  exact zaw (zai rfl)
 ·refine Ni ?_
  refine Ws ?_
  refine zoF (e:=true==true) rfl rfl ?_
  refine Sq ?_
  refine Rg 1 ?_
  refine Oa (.sl .nil 0 []) ?_
  refine Ni ?_
  refine Ws ?_
  refine zaQ ?_
  refine zaq ?_
  refine zsy (k':=0) (.inr rfl) ?_ hS (by decide) (by rw [hr];exact hnil)
  exact zaw (zai rfl)
theorem zcr {S:Type} {Lo:S->BL} (hk:∀s s',zgP (Lo s) (Lo s')) {p1:Nat} (hnd:∀s,([p1]++ids (Lo s)).Nodup) (hin:∀s,InB In (Lo s)) {aF:TrayPress->TrayPress->S->Option (Int×S)} {f0:AV} (hF:∀s H,Has H (Lo s)->In H f0) (h0:cellsOf f0=some [f0]) (hf:∀{x0:TrayPress} {x1:TrayPress} {s:S} {r:Int×S},aF x0 x1 s=some r->zjR Try.prog f0 [.agg [.i x0.Side,.i x0.Time],.agg [.i x1.Side,.i x1.Time]] (Lo s) (.i r.1) (Lo r.2)) {n:Nat} {a1:Int} {a2:Int} {mz0:Nat} {st:(List TrayPress)×S} {r:Unit×((List TrayPress)×S)} (hM:za1 n aF a1 a2 mz0 st=some r):zgT Try.prog 108 [.ms p1 0 2 mz0 mz0,.i a1,.i a2,f0] ([(p1,.cells (st.1.map TrayPress.cells).flatten)]++Lo st.2) (.tup []) ([(p1,.cells (r.2.1.map TrayPress.cells).flatten)]++Lo r.2.2):=by
 have hnd0:∀s,(ids (Lo s)).Nodup:=fun s=>(List.nodup_append.1 (hnd s)).2.1
 refine zbx mixed Try.func108 rfl (by decide) Try.ntmps108 (by simp) (ziE (zbp zeF) (hk _ _)) (hnd st.2) ?pure ?cells fun H0 g hf_ hp=>?_
 case pure=>exact fun H _=>(show Go.AM.Pure _ from .tup _ zaE).inH
 case cells=>exact (zff (zby (zhV (fun x=>(zac (.v _) (zac (.v _) zaE)))) zfe) (hin _))
 rw [zan]
 change wpA _ _ _ _ (Fr.of [(0,.ms p1 0 2 mz0 mz0),(1,.i a1),(2,.i a2),(3,f0)]) H0 g
 have hS:=St.startH (L:=([(p1,.cells (st.1.map TrayPress.cells).flatten)]++Lo st.2)) hf_ (zlw (hnd st.2)) hp
 replace hS:St (fun i=>i<g/\i∉ids ([(p1,.cells (st.1.map TrayPress.cells).flatten)]++Lo st.2)) H0 ([(p1,.cells (st.1.map TrayPress.cells).flatten)]++Lo st.2) H0 g:=hS
 refine Sq ?_
 refine Rg 3 ?_
 refine Om (.i a1) ?_
 refine Oi (.i (w64 (a1+1))) ?_
 refine Oa (.i (w64 (a1+1))) ?_
 refine Ni ?_
 refine Ws ?_
 refine zaz ?_
 refine zcx (V:=Int×(List TrayPress)×S) (fun v=>[(0,.ms p1 0 2 mz0 mz0),(1,.i a1),(2,.i a2),(3,f0),(8,.i v.1)]) (fun v m2 H' g'=>St (fun i=>i<g/\i∉ids ([(p1,.cells (st.1.map TrayPress.cells).flatten)]++Lo st.2)) H0 ([(p1,.cells (v.2.1.map TrayPress.cells).flatten)]++Lo v.2.2) H' g'/\zab n a1 a2 aF mz0 m2 v.1 v.2.1 v.2.2=some r) (n:=n) (w64 (a1+1),st.1,st.2) (.k (.k (.k (.k (.k .nil))))) ⟨(hS.keep [true] rfl).up (by omega),hM⟩ ?_
 rintro ⟨v2,v3,v4⟩ m2 H g2 ⟨hS,hM⟩
 obtain _ | m2:=m2
 ·exact nomatch (show none=some _ from hM)
 change wpA _ _ _ _ (Fr.of [(0,.ms p1 0 2 mz0 mz0),(1,.i a1),(2,.i a2),(3,f0),(8,.i v2)]) _ _
 replace hS:St (fun i=>i<g/\i∉ids ([(p1,.cells (st.1.map TrayPress.cells).flatten)]++Lo st.2)) H0 ([(p1,.cells (v3.map TrayPress.cells).flatten)]++Lo v4) H g2:=hS
 replace hM:zaS n a1 a2 aF mz0 (zab n a1 a2 aF mz0 m2) v2 v3 v4=some r:=hM
 refine Sq ?_
 refine Sq ?_
 refine Rg 3 ?_
 refine Om (.i v2) ?_
 refine Om (.i a2) ?_
 refine Oi (.b (decide (v2<a2))) ?_
 refine Ni ?_
 refine Ws ?_
 rcases bft (decide (v2<a2)) with hb5 | hb5
 ·replace hM:=ifT hM hb5
  refine Ct hb5 ?_
  refine zaC ?_
  refine Ws ?_
  refine zaO (J:=(List TrayPress)×S) (fun j=>[(0,.ms p1 0 2 mz0 mz0),(1,.i a1),(2,.i a2),(3,f0),(8,.i v2)]) (fun j H' g'=>St (fun i=>i<g/\i∉ids ([(p1,.cells (st.1.map TrayPress.cells).flatten)]++Lo st.2)) H0 ([(p1,.cells (j.1.map TrayPress.cells).flatten)]++Lo j.2) H' g'/\zaV (zab n a1 a2 aF mz0 m2) v2 j.1 j.2=some r) ?_ ?_
  ·rintro ⟨v6,v7⟩ H g3 ⟨hS,hM⟩
   change wpA _ _ _ _ (Fr.of [(0,.ms p1 0 2 mz0 mz0),(1,.i a1),(2,.i a2),(3,f0),(8,.i v2)]) _ _
   replace hS:St (fun i=>i<g/\i∉ids ([(p1,.cells (st.1.map TrayPress.cells).flatten)]++Lo st.2)) H0 ([(p1,.cells (v6.map TrayPress.cells).flatten)]++Lo v7) H g3:=hS
   replace hM:zaV (zab n a1 a2 aF mz0 m2) v2 v6 v7=some r:=hM
   refine Rg 3 ?_
   refine Om (.i v2) ?_
   refine Oi (.i (w64 (v2+1))) ?_
   refine Oa (.i (w64 (v2+1))) ?_
   refine Ni ?_
   exact zbF (w64 (v2+1),v6,v7) (Nat.lt_succ_self _) (.k (.k (.k (.k (.k .nil))))) ⟨(hS.keep [true] rfl).up (by omega),hM⟩
  ·refine zaz ?_
   refine Sq ?_
   refine Rg 2 ?_
   refine Om (.i v2) ?_
   refine Oa (.i v2) ?_
   refine Ni ?_
   refine Ws ?_
   refine zaz ?_
   refine zcx (V:=Int×(List TrayPress)×S) (fun v=>[(0,.ms p1 0 2 mz0 mz0),(1,.i a1),(2,.i a2),(3,f0),(8,.i v2),(9,.i v.1)]) (fun v m5 H' g'=>St (fun i=>i<g/\i∉ids ([(p1,.cells (st.1.map TrayPress.cells).flatten)]++Lo st.2)) H0 ([(p1,.cells (v.2.1.map TrayPress.cells).flatten)]++Lo v.2.2) H' g'/\zao (zab n a1 a2 aF mz0 m2) a1 aF mz0 v2 m5 v.1 v.2.1 v.2.2=some r) (n:=n) (v2,v3,v4) (.k (.k (.k (.k (.k (.k .nil)))))) ⟨(hS.keep [true] rfl).up (by omega),hM⟩ ?_
   rintro ⟨v9,v10,v11⟩ m5 H g5 ⟨hS,hM⟩
   obtain _ | m5:=m5
   ·exact nomatch (show none=some _ from hM)
   change wpA _ _ _ _ (Fr.of [(0,.ms p1 0 2 mz0 mz0),(1,.i a1),(2,.i a2),(3,f0),(8,.i v2),(9,.i v9)]) _ _
   replace hS:St (fun i=>i<g/\i∉ids ([(p1,.cells (st.1.map TrayPress.cells).flatten)]++Lo st.2)) H0 ([(p1,.cells (v10.map TrayPress.cells).flatten)]++Lo v11) H g5:=hS
   replace hM:zaR (zab n a1 a2 aF mz0 m2) a1 aF mz0 v2 (zao (zab n a1 a2 aF mz0 m2) a1 aF mz0 v2 m5) v9 v10 v11=some r:=hM
   refine Sq ?_
   refine zaO (J:=Bool×S) (fun j=>[(0,.ms p1 0 2 mz0 mz0),(1,.i a1),(2,.i a2),(3,f0),(8,.i v2),(9,.i v9),(34,.b j.1)]) (fun j H' g'=>St (fun i=>i<g/\i∉ids ([(p1,.cells (st.1.map TrayPress.cells).flatten)]++Lo st.2)) H0 ([(p1,.cells (v10.map TrayPress.cells).flatten)]++Lo j.2) H' g'/\zaB (zab n a1 a2 aF mz0 m2) (zao (zab n a1 a2 aF mz0 m2) a1 aF mz0 v2 m5) mz0 v2 v9 v10 j.1 j.2=some r) ?_ ?_
   ·rintro ⟨v12,v13⟩ H g6 ⟨hS,hM⟩
    change wpA _ _ _ _ (Fr.of [(0,.ms p1 0 2 mz0 mz0),(1,.i a1),(2,.i a2),(3,f0),(8,.i v2),(9,.i v9),(34,.b v12)]) _ _
    replace hS:St (fun i=>i<g/\i∉ids ([(p1,.cells (st.1.map TrayPress.cells).flatten)]++Lo st.2)) H0 ([(p1,.cells (v10.map TrayPress.cells).flatten)]++Lo v13) H g6:=hS
    replace hM:zaB (zab n a1 a2 aF mz0 m2) (zao (zab n a1 a2 aF mz0 m2) a1 aF mz0 v2 m5) mz0 v2 v9 v10 v12 v13=some r:=hM
    rcases bft v12 with hb14 | hb14
    ·replace hM:=ifT hM hb14
     refine Ct hb14 ?_
     refine zaC ?_
     refine Ws ?_
     refine Sq ?_
     refine zaz ?_
     have hS0:=hS
     refine zd1 (n:=18) rfl (by kernel_rfl) ?_
     refine Om (.ms p1 0 2 mz0 mz0) ?_
     refine Om (.i v9) ?_
     refine Om (.ms p1 0 2 mz0 mz0) ?_
     refine Om (.i v9) ?_
     refine Oi (.i (w64 (v9-1))) ?_
     refine Om (.ms p1 0 2 mz0 mz0) ?_
     refine Om (.i v9) ?_
     refine Oi (.i (w64 (v9-1))) ?_
     obtain ⟨x15,hx15,hM⟩:=zas hM
     refine zfG (xs:=v10) (z:=(w64 (v9-1))) (u:=x15) (by decide) rfl (zfH hx15) rfl zdO (zc6 hx15) ?_
     refine zi5 (f:=TrayPress.cells) (xs:=v10) (z:=(w64 (v9-1))) (u:=x15) 0 hS (by decide) rfl rfl (zc6 hx15) (.st hS0 0 rfl (by omega)) (fun _=>rfl) zig ?_
     refine Om (.ms p1 0 2 mz0 mz0) ?_
     refine Om (.i v9) ?_
     obtain ⟨x16,hx16,hM⟩:=zas hM
     refine zfG (xs:=v10) (z:=v9) (u:=x16) (by decide) rfl (zfH hx16) rfl zdO (zc6 hx16) ?_
     refine zi5 (f:=TrayPress.cells) (xs:=v10) (z:=v9) (u:=x16) 0 hS (by decide) rfl rfl (zc6 hx16) (.st hS0 0 rfl (by omega)) (fun _=>rfl) zig ?_
     obtain ⟨x17,hx17,hM⟩:=zas hM
     refine zfG (xs:=v10) (z:=v9) (u:=x17) (by decide) rfl (zfH hx17) rfl zdO (zc6 hx17) ?_
     refine zi6 (f:=TrayPress.cells) (k:=2) (xs:=v10) (z:=v9) (u:=x17) (w:=x15) (v:=.agg [.i x15.Side,.i x15.Time]) (L':=([(p1,.cells ((v10.set (Int.toNat v9) x15).map TrayPress.cells).flatten)]++Lo v13)) 0 hS rfl rfl (zc6 hx17) (.st hS0 0 rfl (by omega)) (fun _=>rfl) rfl rfl zkY rfl fun H hS=>?_
     obtain ⟨x18,hx18,hM⟩:=zas hM
     refine zfG (xs:=(v10.set (Int.toNat v9) x15)) (z:=(w64 (v9-1))) (u:=x18) (by decide) rfl (zfH hx18) rfl zdO (zc6 hx18) ?_
     refine zi6 (f:=TrayPress.cells) (k:=2) (xs:=(v10.set (Int.toNat v9) x15)) (z:=(w64 (v9-1))) (u:=x18) (w:=x16) (v:=.agg [.i x16.Side,.i x16.Time]) (L':=([(p1,.cells (((v10.set (Int.toNat v9) x15).set (Int.toNat (w64 (v9-1))) x16).map TrayPress.cells).flatten)]++Lo v13)) 0 hS rfl rfl (zc6 hx18) (.st hS0 0 rfl (by omega)) (fun _=>rfl) rfl rfl zkY rfl fun H hS=>?_
     refine Ni ?_
     refine zah ?_
     refine Ws ?_
     refine Rg 3 ?_
     refine Om (.i v9) ?_
     refine Oi (.i (w64 (v9-1))) ?_
     refine Oa (.i (w64 (v9-1))) ?_
     refine Ni ?_
     exact zbF (w64 (v9-1),((v10.set (Int.toNat v9) x15).set (Int.toNat (w64 (v9-1))) x16),v13) (Nat.lt_succ_self _) (.k (.k (.k (.k (.k (.k .nil)))))) ⟨(hS.keep [true] rfl).up (by omega),hM⟩
    ·replace hM:=ifF hM hb14
     refine Cf hb14 ?_
     refine zcp ?_
     refine zay ?_
     refine zau ?_
     refine zaD ?_
     refine zah ?_
     exact zak (v10,v13) (.k (.k (.k (.k (.k .nil))))) ⟨(hS.keep [true] rfl).up (by omega),hM⟩
   ·have hS0:=hS
    refine zd1 (n:=17) rfl (by kernel_rfl) ?_
    refine Om (.i v9) ?_
    refine Om (.i a1) ?_
    refine Oi (.b (decide (v9>a1))) ?_
    refine Om (.b (decide (v9>a1))) ?_
    rcases bft (decide (v9>a1)) with hb19 | hb19
    ·replace hM:=ifT hM hb19
     refine Oy (want:=true) hb19 ?_
     refine Om (f0) ?_
     refine Oy (want:=true) hb19 ?_
     refine Om (.ms p1 0 2 mz0 mz0) ?_
     refine Oy (want:=true) hb19 ?_
     refine Om (.i v9) ?_
     refine Oy (want:=true) hb19 ?_
     obtain ⟨x20,hx20,hM⟩:=zas hM
     refine zfG (xs:=v10) (z:=v9) (u:=x20) (by decide) rfl (zfH hx20) rfl zdO (zc6 hx20) ?_
     refine Oy (want:=true) hb19 ?_
     refine zi5 (f:=TrayPress.cells) (xs:=v10) (z:=v9) (u:=x20) 0 hS (by decide) rfl rfl (zc6 hx20) (.st hS0 0 rfl (by omega)) (fun _=>rfl) zig ?_
     refine Oy (want:=true) hb19 ?_
     refine Om (.ms p1 0 2 mz0 mz0) ?_
     refine Oy (want:=true) hb19 ?_
     refine Om (.i v9) ?_
     refine Oy (want:=true) hb19 ?_
     refine Oi (.i (w64 (v9-1))) ?_
     refine Oy (want:=true) hb19 ?_
     obtain ⟨x21,hx21,hM⟩:=zas hM
     refine zfG (xs:=v10) (z:=(w64 (v9-1))) (u:=x21) (by decide) rfl (zfH hx21) rfl zdO (zc6 hx21) ?_
     refine Oy (want:=true) hb19 ?_
     refine zi5 (f:=TrayPress.cells) (xs:=v10) (z:=(w64 (v9-1))) (u:=x21) 0 hS (by decide) rfl rfl (zc6 hx21) (.st hS0 0 rfl (by omega)) (fun _=>rfl) zig ?_
     refine Oy (want:=true) hb19 ?_
     obtain ⟨r22,hr22,hM⟩:=zas hM
     replace hS:St (fun i=>i<g/\i∉ids ([(p1,.cells (st.1.map TrayPress.cells).flatten)]++Lo st.2)) H0 ([(p1,.cells (v10.map TrayPress.cells).flatten)]++Lo v11) _ _:=hS
     refine ziC (bs:=[.agg [.i x20.Side,.i x20.Time],.agg [.i x21.Side,.i x21.Time]]) (.inr (by kernel_rfl)) hS (by decide) rfl rfl ((hf hr22).le (.k (.k .nil))) (hk _ _).ids (by omega) fun H hS=>?_
     refine Oy (want:=true) hb19 ?_
     refine Oi (.b (decide (r22.1<0))) ?_
     refine Pt (.b (decide (r22.1<0))) hb19 ?_
     refine Ni ?_
     exact zak (decide (r22.1<0),r22.2) (.k (.k (.k (.k (.k (.k (.k .nil))))))) ⟨(hS.keep [true] rfl).up (by omega),hM⟩
    ·replace hM:=ifF hM hb19
     refine On (want:=true) hb19 ?_
     refine On (want:=true) hb19 ?_
     refine On (want:=true) hb19 ?_
     refine On (want:=true) hb19 ?_
     refine On (want:=true) hb19 ?_
     refine On (want:=true) hb19 ?_
     refine On (want:=true) hb19 ?_
     refine On (want:=true) hb19 ?_
     refine On (want:=true) hb19 ?_
     refine On (want:=true) hb19 ?_
     refine On (want:=true) hb19 ?_
     refine On (want:=true) hb19 ?_
     refine Pf (.b false) hb19 ?_
     refine Ni ?_
     exact zak (false,v11) (.k (.k (.k (.k (.k (.k (.k .nil))))))) ⟨(hS.keep [true] rfl).up (by omega),hM⟩
 ·replace hM:=ifF hM hb5
  refine Cf hb5 ?_
  refine zcp ?_
  refine zay ?_
  refine zau ?_
  refine zaD ?_
  refine zdg (x:=.tup []) (f:=fun r=>.tup []) (fd:=fun r=>([(p1,.cells (r.2.1.map TrayPress.cells).flatten)]++Lo r.2.2)) (.inl rfl) ?_ (.refl _) (Option.some.inj hM) hS 0 rfl
  exact rfl
theorem zb9 {n:Nat} {a1:Int} {a2:Int} {r:Unit} (hM:zaY n a1 a2=some r):zaJ Try.prog 108 [.sl .no 2 (([]:List TrayPress).map TrayPress.cells),.i a1,.i a2,.fn (.func 68) [] []] (.tup []):=by
 refine zax mixed Try.func108 rfl (by decide) Try.ntmps108 (by simp) ?pure fun H0 g hf=>?_
 case pure=>exact .tup _ zaE
 rw [zan]
 change wpA _ _ _ _ (Fr.of [(0,.sl .no 2 (([]:List TrayPress).map TrayPress.cells)),(1,.i a1),(2,.i a2),(3,.fn (.func 68) [] [])]) H0 g
 have hS:=St.start hf
 refine Sq ?_
 refine Rg 3 ?_
 refine Om (.i a1) ?_
 refine Oi (.i (w64 (a1+1))) ?_
 refine Oa (.i (w64 (a1+1))) ?_
 refine Ni ?_
 refine Ws ?_
 refine zaz ?_
 refine zcx (V:=Int) (fun v=>[(0,.sl .no 2 (([]:List TrayPress).map TrayPress.cells)),(1,.i a1),(2,.i a2),(3,.fn (.func 68) [] []),(8,.i v)]) (fun v m1 H' g'=>St (·<g) H0 [] H' g'/\zae n a1 a2 m1 v=some r) (n:=n) (w64 (a1+1)) (.k (.k (.k (.k (.k .nil))))) ⟨(hS.keep [] rfl).up (by omega),hM⟩ ?_
 rintro v1 m1 H g1 ⟨hS,hM⟩
 obtain _ | m1:=m1
 ·exact nomatch (show none=some _ from hM)
 change wpA _ _ _ _ (Fr.of [(0,.sl .no 2 (([]:List TrayPress).map TrayPress.cells)),(1,.i a1),(2,.i a2),(3,.fn (.func 68) [] []),(8,.i v1)]) _ _
 replace hS:St (·<g) H0 [] H g1:=hS
 replace hM:za3 n a1 a2 (zae n a1 a2 m1) v1=some r:=hM
 refine Sq ?_
 refine Sq ?_
 refine Rg 3 ?_
 refine Om (.i v1) ?_
 refine Om (.i a2) ?_
 refine Oi (.b (decide (v1<a2))) ?_
 refine Ni ?_
 refine Ws ?_
 rcases bft (decide (v1<a2)) with hb2 | hb2
 ·replace hM:=ifT hM hb2
  refine Ct hb2 ?_
  refine zaC ?_
  refine Ws ?_
  refine zaO (J:=Unit) (fun j=>[(0,.sl .no 2 (([]:List TrayPress).map TrayPress.cells)),(1,.i a1),(2,.i a2),(3,.fn (.func 68) [] []),(8,.i v1)]) (fun j H' g'=>St (·<g) H0 [] H' g'/\za9 (zae n a1 a2 m1) v1=some r) ?_ ?_
  ·rintro _ H g2 ⟨hS,hM⟩
   change wpA _ _ _ _ (Fr.of [(0,.sl .no 2 (([]:List TrayPress).map TrayPress.cells)),(1,.i a1),(2,.i a2),(3,.fn (.func 68) [] []),(8,.i v1)]) _ _
   replace hS:St (·<g) H0 [] H g2:=hS
   replace hM:za9 (zae n a1 a2 m1) v1=some r:=hM
   refine Rg 3 ?_
   refine Om (.i v1) ?_
   refine Oi (.i (w64 (v1+1))) ?_
   refine Oa (.i (w64 (v1+1))) ?_
   refine Ni ?_
   exact zbF (w64 (v1+1)) (Nat.lt_succ_self _) (.k (.k (.k (.k (.k .nil))))) ⟨(hS.keep [] rfl).up (by omega),hM⟩
  ·refine zaz ?_
   refine Sq ?_
   refine Rg 2 ?_
   refine Om (.i v1) ?_
   refine Oa (.i v1) ?_
   refine Ni ?_
   refine Ws ?_
   refine zaz ?_
   refine zcx (V:=Int) (fun v=>[(0,.sl .no 2 (([]:List TrayPress).map TrayPress.cells)),(1,.i a1),(2,.i a2),(3,.fn (.func 68) [] []),(8,.i v1),(9,.i v)]) (fun v m3 H' g'=>St (·<g) H0 [] H' g'/\zaT (zae n a1 a2 m1) a1 v1 m3 v=some r) (n:=n) v1 (.k (.k (.k (.k (.k (.k .nil)))))) ⟨(hS.keep [] rfl).up (by omega),hM⟩ ?_
   rintro v3 m3 H g3 ⟨hS,hM⟩
   obtain _ | m3:=m3
   ·exact nomatch (show none=some _ from hM)
   change wpA _ _ _ _ (Fr.of [(0,.sl .no 2 (([]:List TrayPress).map TrayPress.cells)),(1,.i a1),(2,.i a2),(3,.fn (.func 68) [] []),(8,.i v1),(9,.i v3)]) _ _
   replace hS:St (·<g) H0 [] H g3:=hS
   replace hM:zbV (zae n a1 a2 m1) a1 v1 (zaT (zae n a1 a2 m1) a1 v1 m3) v3=some r:=hM
   refine Sq ?_
   refine zaO (J:=Unit) (fun j=>[(0,.sl .no 2 (([]:List TrayPress).map TrayPress.cells)),(1,.i a1),(2,.i a2),(3,.fn (.func 68) [] []),(8,.i v1),(9,.i v3),(34,.b false)]) (fun j H' g'=>St (·<g) H0 [] H' g'/\zba (zae n a1 a2 m1) v1=some r) ?_ ?_
   ·rintro _ H g4 ⟨hS,hM⟩
    change wpA _ _ _ _ (Fr.of [(0,.sl .no 2 (([]:List TrayPress).map TrayPress.cells)),(1,.i a1),(2,.i a2),(3,.fn (.func 68) [] []),(8,.i v1),(9,.i v3),(34,.b false)]) _ _
    replace hS:St (·<g) H0 [] H g4:=hS
    replace hM:zba (zae n a1 a2 m1) v1=some r:=hM
    refine zmn (e:=false) rfl rfl ?_
    refine zcp ?_
    refine zay ?_
    refine zau ?_
    refine zaD ?_
    refine zah ?_
    exact zak () (.k (.k (.k (.k (.k .nil))))) ⟨(hS.keep [] rfl).up (by omega),hM⟩
   ·have hS0:=hS
    refine zd1 (n:=17) rfl (by kernel_rfl) ?_
    refine Om (.i v3) ?_
    refine Om (.i a1) ?_
    refine Oi (.b (decide (v3>a1))) ?_
    refine Om (.b (decide (v3>a1))) ?_
    rcases bft (decide (v3>a1)) with hb4 | hb4
    ·replace hM:=ifT hM hb4
     refine Oy (want:=true) hb4 ?_
     refine Om (.fn (.func 68) [] []) ?_
     refine Oy (want:=true) hb4 ?_
     refine Om (.sl .no 2 (([]:List TrayPress).map TrayPress.cells)) ?_
     refine Oy (want:=true) hb4 ?_
     refine Om (.i v3) ?_
     refine Oy (want:=true) hb4 ?_
     exact nomatch (show none=some _ from hM)
    ·replace hM:=ifF hM hb4
     refine On (want:=true) hb4 ?_
     refine On (want:=true) hb4 ?_
     refine On (want:=true) hb4 ?_
     refine On (want:=true) hb4 ?_
     refine On (want:=true) hb4 ?_
     refine On (want:=true) hb4 ?_
     refine On (want:=true) hb4 ?_
     refine On (want:=true) hb4 ?_
     refine On (want:=true) hb4 ?_
     refine On (want:=true) hb4 ?_
     refine On (want:=true) hb4 ?_
     refine On (want:=true) hb4 ?_
     refine Pf (.b false) hb4 ?_
     refine Ni ?_
     exact zak () (.k (.k (.k (.k (.k (.k (.k .nil))))))) ⟨(hS.keep [] rfl).up (by omega),hM⟩
 ·replace hM:=ifF hM hb2
  refine Cf hb2 ?_
  refine zcp ?_
  refine zay ?_
  refine zau ?_
  refine zaD ?_
  refine za7 (x:=.tup []) (f:=fun r=>.tup []) (.inl rfl) ?_ (.refl _) (Option.some.inj hM) hS
  exact rfl
theorem zeZ {S:Type} {Lo:S->BL} (hk:∀s s',zgP (Lo s) (Lo s')) {p1:Nat} (hnd:∀s,([p1]++ids (Lo s)).Nodup) (hin:∀s,InB In (Lo s)) {aF:TrayPress->TrayPress->S->Option (Int×S)} {f0:AV} (hF:∀s H,Has H (Lo s)->In H f0) (h0:cellsOf f0=some [f0]) (hf:∀{x0:TrayPress} {x1:TrayPress} {s:S} {r:Int×S},aF x0 x1 s=some r->zjR Try.prog f0 [.agg [.i x0.Side,.i x0.Time],.agg [.i x1.Side,.i x1.Time]] (Lo s) (.i r.1) (Lo r.2)) {n:Nat} {a1:Int} {mz0:Nat} {st:(List TrayPress)×S} {r:Unit×((List TrayPress)×S)} (hM:zch n aF a1 mz0 st=some r):zgT Try.prog 90 [.ms p1 0 2 mz0 mz0,.i a1,f0] ([(p1,.cells (st.1.map TrayPress.cells).flatten)]++Lo st.2) (.tup []) ([(p1,.cells (r.2.1.map TrayPress.cells).flatten)]++Lo r.2.2):=by
 have hnd0:∀s,(ids (Lo s)).Nodup:=fun s=>(List.nodup_append.1 (hnd s)).2.1
 refine zbx mixed Try.func90 rfl (by decide) Try.ntmps90 (by simp) (ziE (zbp zeF) (hk _ _)) (hnd st.2) ?pure ?cells fun H0 g hf_ hp=>?_
 case pure=>exact fun H _=>(show Go.AM.Pure _ from .tup _ zaE).inH
 case cells=>exact (zff (zby (zhV (fun x=>(zac (.v _) (zac (.v _) zaE)))) zfe) (hin _))
 rw [zan]
 change wpA _ _ _ _ (Fr.of [(0,.ms p1 0 2 mz0 mz0),(1,.i a1),(2,f0)]) H0 g
 have hS:=St.startH (L:=([(p1,.cells (st.1.map TrayPress.cells).flatten)]++Lo st.2)) hf_ (zlw (hnd st.2)) hp
 replace hS:St (fun i=>i<g/\i∉ids ([(p1,.cells (st.1.map TrayPress.cells).flatten)]++Lo st.2)) H0 ([(p1,.cells (st.1.map TrayPress.cells).flatten)]++Lo st.2) H0 g:=hS
 refine Sq ?_
 refine Rg 1 ?_
 refine Oa (.i 20) ?_
 refine Ni ?_
 refine Ws ?_
 refine Sq ?_
 refine Rg 3 ?_
 refine Om (.i 20) ?_
 refine Oa (.i 0) ?_
 refine Oa (.i 20) ?_
 refine Ni ?_
 refine Ws ?_
 refine zaO (J:=Int×(List TrayPress)×S) (fun j=>[(0,.ms p1 0 2 mz0 mz0),(1,.i a1),(2,f0),(6,.i 20),(7,.i j.1)]) (fun j H' g'=>St (fun i=>i<g/\i∉ids ([(p1,.cells (st.1.map TrayPress.cells).flatten)]++Lo st.2)) H0 ([(p1,.cells (j.2.1.map TrayPress.cells).flatten)]++Lo j.2.2) H' g'/\zbf n a1 aF mz0 j.1 j.2.1 j.2.2=some r) ?_ ?_
 ·rintro ⟨v1,v2,v3⟩ H g1 ⟨hS,hM⟩
  change wpA _ _ _ _ (Fr.of [(0,.ms p1 0 2 mz0 mz0),(1,.i a1),(2,f0),(6,.i 20),(7,.i v1)]) _ _
  replace hS:St (fun i=>i<g/\i∉ids ([(p1,.cells (st.1.map TrayPress.cells).flatten)]++Lo st.2)) H0 ([(p1,.cells (v2.map TrayPress.cells).flatten)]++Lo v3) H g1:=hS
  replace hM:zbf n a1 aF mz0 v1 v2 v3=some r:=hM
  refine Sq ?_
  refine Rg 5 ?_
  refine Om (.ms p1 0 2 mz0 mz0) ?_
  refine Om (.i v1) ?_
  refine Om (.i a1) ?_
  refine Om (f0) ?_
  obtain ⟨r4,hr4,hM⟩:=zas hM
  replace hS:St (fun i=>i<g/\i∉ids ([(p1,.cells (st.1.map TrayPress.cells).flatten)]++Lo st.2)) H0 ([(p1,.cells (v2.map TrayPress.cells).flatten)]++Lo v3) _ _:=hS
  have hndr4:=hS.nd_atS (ns:=[0]) (A:=[(p1,.cells (v2.map TrayPress.cells).flatten)]) (A':=[(p1,.cells (r4.2.1.map TrayPress.cells).flatten)]) (.cons rfl .nil) (by decide)
  refine zkR (bs:=[.ms p1 0 2 mz0 mz0,.i v1,.i a1,f0]) (A:=[(p1,.cells (v2.map TrayPress.cells).flatten)]) (A':=[(p1,.cells (r4.2.1.map TrayPress.cells).flatten)]) (M:=Lo v3) (M':=Lo r4.2.2) (L':=[(p1,.cells (r4.2.1.map TrayPress.cells).flatten)]) [0] (.inl rfl) hS (by decide) rfl rfl ((zcr (Lo:=Lo) (p1:=p1) hk (fun s=>zjA (T':=Lo s) (hk _ _) hndr4) hin (aF:=aF) hF h0 hf hr4).le (.k (.k (.k (.k .nil))))) (.cons rfl .nil) (hk _ _).ids rfl (by omega) fun H hS=>?_
  refine Ni ?_
  refine Ws ?_
  refine zaz ?_
  refine zcx (V:=Int) (fun v=>[(0,.ms p1 0 2 mz0 mz0),(1,.i a1),(2,f0),(6,.i v)]) (fun v m2 H' g'=>St (fun i=>i<g/\i∉ids ([(p1,.cells (st.1.map TrayPress.cells).flatten)]++Lo st.2)) H0 ([(p1,.cells (r4.2.1.map TrayPress.cells).flatten)]++Lo r4.2.2) H' g'/\zal n a1 r4 m2 v=some r) (n:=n) 20 (.k (.k (.k (.k .nil)))) ⟨(hS.keep [true] rfl).up (by omega),hM⟩ ?_
  rintro v5 m2 H g2 ⟨hS,hM⟩
  obtain _ | m2:=m2
  ·exact nomatch (show none=some _ from hM)
  change wpA _ _ _ _ (Fr.of [(0,.ms p1 0 2 mz0 mz0),(1,.i a1),(2,f0),(6,.i v5)]) _ _
  replace hS:St (fun i=>i<g/\i∉ids ([(p1,.cells (st.1.map TrayPress.cells).flatten)]++Lo st.2)) H0 ([(p1,.cells (r4.2.1.map TrayPress.cells).flatten)]++Lo r4.2.2) H g2:=hS
  replace hM:zbG n a1 r4 (zal n a1 r4 m2) v5=some r:=hM
  refine Sq ?_
  refine Sq ?_
  refine Rg 3 ?_
  refine Om (.i v5) ?_
  refine Om (.i a1) ?_
  refine Oi (.b (decide (v5<a1))) ?_
  refine Ni ?_
  refine Ws ?_
  rcases bft (decide (v5<a1)) with hb6 | hb6
  ·replace hM:=ifT hM hb6
   refine Ct hb6 ?_
   refine zaC ?_
   refine Ws ?_
   refine zaz ?_
   refine Sq ?_
   refine Rg 4 ?_
   refine Om (.i v5) ?_
   refine Oi (.i (w64 (2*v5))) ?_
   refine Oa (.i 0) ?_
   refine Oa (.i (w64 (2*v5))) ?_
   refine Ni ?_
   refine Ws ?_
   refine zaO (J:=Int) (fun j=>[(0,.ms p1 0 2 mz0 mz0),(1,.i a1),(2,f0),(6,.i v5),(7,.i j)]) (fun j H' g'=>St (fun i=>i<g/\i∉ids ([(p1,.cells (st.1.map TrayPress.cells).flatten)]++Lo st.2)) H0 ([(p1,.cells (r4.2.1.map TrayPress.cells).flatten)]++Lo r4.2.2) H' g'/\zbX (zal n a1 r4 m2) a1 v5 j=some r) ?_ ?_
   ·rintro v7 H g3 ⟨hS,hM⟩
    change wpA _ _ _ _ (Fr.of [(0,.ms p1 0 2 mz0 mz0),(1,.i a1),(2,f0),(6,.i v5),(7,.i v7)]) _ _
    replace hS:St (fun i=>i<g/\i∉ids ([(p1,.cells (st.1.map TrayPress.cells).flatten)]++Lo st.2)) H0 ([(p1,.cells (r4.2.1.map TrayPress.cells).flatten)]++Lo r4.2.2) H g3:=hS
    replace hM:zbX (zal n a1 r4 m2) a1 v5 v7=some r:=hM
    refine zaO (J:=Unit) (fun j=>[(0,.ms p1 0 2 mz0 mz0),(1,.i a1),(2,f0),(6,.i v5)]) (fun j H' g'=>St (fun i=>i<g/\i∉ids ([(p1,.cells (st.1.map TrayPress.cells).flatten)]++Lo st.2)) H0 ([(p1,.cells (r4.2.1.map TrayPress.cells).flatten)]++Lo r4.2.2) H' g'/\zbW (zal n a1 r4 m2) v5=some r) ?_ ?_
    ·rintro _ H g4 ⟨hS,hM⟩
     change wpA _ _ _ _ (Fr.of [(0,.ms p1 0 2 mz0 mz0),(1,.i a1),(2,f0),(6,.i v5)]) _ _
     replace hS:St (fun i=>i<g/\i∉ids ([(p1,.cells (st.1.map TrayPress.cells).flatten)]++Lo st.2)) H0 ([(p1,.cells (r4.2.1.map TrayPress.cells).flatten)]++Lo r4.2.2) H g4:=hS
     replace hM:zbW (zal n a1 r4 m2) v5=some r:=hM
     refine Rg 3 ?_
     refine Om (.i v5) ?_
     refine Oi (.i (w64 (v5*2))) ?_
     refine Oa (.i (w64 (v5*2))) ?_
     refine Ni ?_
     refine zah ?_
     exact zbF (w64 (v5*2)) (Nat.lt_succ_self _) (.k (.k (.k (.k .nil)))) ⟨(hS.keep [true] rfl).up (by omega),hM⟩
    ·refine Sq ?_
     refine Rg 4 ?_
     refine Om (.i v7) ?_
     refine Om (.i v5) ?_
     refine Oi (.i (w64 (v7+v5))) ?_
     refine Oa (.i (w64 (v7+v5))) ?_
     refine Ni ?_
     refine Ws ?_
     refine Sq ?_
     refine Rg 3 ?_
     refine Om (.i (w64 (v7+v5))) ?_
     refine Om (.i a1) ?_
     refine Oi (.b (decide ((w64 (v7+v5))<a1))) ?_
     refine Ni ?_
     refine Ws ?_
     rcases bft (decide ((w64 (v7+v5))<a1)) with hb8 | hb8
     ·replace hM:=ifT hM hb8
      refine Ct hb8 ?_
      refine Rg 6 ?_
      refine Om (.ms p1 0 2 mz0 mz0) ?_
      refine Om (.i v7) ?_
      refine Om (.i (w64 (v7+v5))) ?_
      refine Om (.i a1) ?_
      refine Om (f0) ?_
      exact nomatch (show none=some _ from hM)
     ·replace hM:=ifF hM hb8
      refine Cf hb8 ?_
      refine zaC ?_
      exact zak () (.k (.k (.k (.k .nil)))) ⟨(hS.keep [true] rfl).up (by omega),hM⟩
   ·refine zaz ?_
    refine zcx (V:=Int×Int) (fun v=>[(0,.ms p1 0 2 mz0 mz0),(1,.i a1),(2,f0),(6,.i v5),(7,.i v.1),(8,.i v.2)]) (fun v m5 H' g'=>St (fun i=>i<g/\i∉ids ([(p1,.cells (st.1.map TrayPress.cells).flatten)]++Lo st.2)) H0 ([(p1,.cells (r4.2.1.map TrayPress.cells).flatten)]++Lo r4.2.2) H' g'/\zbe (zal n a1 r4 m2) a1 v5 m5 v.1 v.2=some r) (n:=n) (0,w64 (2*v5)) (.k (.k (.k (.k (.k (.k .nil)))))) ⟨(hS.keep [true] rfl).up (by omega),hM⟩ ?_
    rintro ⟨v9,v10⟩ m5 H g5 ⟨hS,hM⟩
    obtain _ | m5:=m5
    ·exact nomatch (show none=some _ from hM)
    change wpA _ _ _ _ (Fr.of [(0,.ms p1 0 2 mz0 mz0),(1,.i a1),(2,f0),(6,.i v5),(7,.i v9),(8,.i v10)]) _ _
    replace hS:St (fun i=>i<g/\i∉ids ([(p1,.cells (st.1.map TrayPress.cells).flatten)]++Lo st.2)) H0 ([(p1,.cells (r4.2.1.map TrayPress.cells).flatten)]++Lo r4.2.2) H g5:=hS
    replace hM:zcL (zal n a1 r4 m2) a1 v5 (zbe (zal n a1 r4 m2) a1 v5 m5) v9 v10=some r:=hM
    refine Sq ?_
    refine Sq ?_
    refine Rg 3 ?_
    refine Om (.i v10) ?_
    refine Om (.i a1) ?_
    refine Oi (.b (decide (v10<=a1))) ?_
    refine Ni ?_
    refine Ws ?_
    rcases bft (decide (v10<=a1)) with hb11 | hb11
    ·replace hM:=ifT hM hb11
     refine Ct hb11 ?_
     refine zaC ?_
     refine Ws ?_
     refine zaz ?_
     refine Sq ?_
     refine Rg 8 ?_
     refine Om (.ms p1 0 2 mz0 mz0) ?_
     refine Om (.i v9) ?_
     refine Om (.i v9) ?_
     refine Om (.i v5) ?_
     refine Oi (.i (w64 (v9+v5))) ?_
     refine Om (.i v10) ?_
     refine Om (f0) ?_
     exact nomatch (show none=some _ from hM)
    ·replace hM:=ifF hM hb11
     refine Cf hb11 ?_
     refine zcp ?_
     refine zay ?_
     refine zau ?_
     refine zaD ?_
     exact zak v9 (.k (.k (.k (.k (.k .nil))))) ⟨(hS.keep [true] rfl).up (by omega),hM⟩
  ·replace hM:=ifF hM hb6
   refine Cf hb6 ?_
   refine zcp ?_
   refine zay ?_
   refine zau ?_
   refine zaD ?_
   refine zdg (x:=.tup []) (f:=fun r=>.tup []) (fd:=fun r=>([(p1,.cells (r.2.1.map TrayPress.cells).flatten)]++Lo r.2.2)) (.inl rfl) ?_ (.refl _) (Option.some.inj hM) hS 0 rfl
   exact rfl
 ·refine zaz ?_
  refine zcx (V:=Int×Int×(List TrayPress)×S) (fun v=>[(0,.ms p1 0 2 mz0 mz0),(1,.i a1),(2,f0),(6,.i 20),(7,.i v.1),(8,.i v.2.1)]) (fun v m7 H' g'=>St (fun i=>i<g/\i∉ids ([(p1,.cells (st.1.map TrayPress.cells).flatten)]++Lo st.2)) H0 ([(p1,.cells (v.2.2.1.map TrayPress.cells).flatten)]++Lo v.2.2.2) H' g'/\zaX n a1 aF mz0 m7 v.1 v.2.1 v.2.2.1 v.2.2.2=some r) (n:=n) (0,20,st.1,st.2) (.k (.k (.k (.k (.k (.k .nil)))))) ⟨(hS.keep [true] rfl).up (by omega),hM⟩ ?_
  rintro ⟨v14,v15,v16,v17⟩ m7 H g7 ⟨hS,hM⟩
  obtain _ | m7:=m7
  ·exact nomatch (show none=some _ from hM)
  change wpA _ _ _ _ (Fr.of [(0,.ms p1 0 2 mz0 mz0),(1,.i a1),(2,f0),(6,.i 20),(7,.i v14),(8,.i v15)]) _ _
  replace hS:St (fun i=>i<g/\i∉ids ([(p1,.cells (st.1.map TrayPress.cells).flatten)]++Lo st.2)) H0 ([(p1,.cells (v16.map TrayPress.cells).flatten)]++Lo v17) H g7:=hS
  replace hM:zbH n a1 aF mz0 (zaX n a1 aF mz0 m7) v14 v15 v16 v17=some r:=hM
  refine Sq ?_
  refine Sq ?_
  refine Rg 3 ?_
  refine Om (.i v15) ?_
  refine Om (.i a1) ?_
  refine Oi (.b (decide (v15<=a1))) ?_
  refine Ni ?_
  refine Ws ?_
  rcases bft (decide (v15<=a1)) with hb18 | hb18
  ·replace hM:=ifT hM hb18
   refine Ct hb18 ?_
   refine zaC ?_
   refine Ws ?_
   refine zaz ?_
   refine Sq ?_
   refine Rg 5 ?_
   refine Om (.ms p1 0 2 mz0 mz0) ?_
   refine Om (.i v14) ?_
   refine Om (.i v15) ?_
   refine Om (f0) ?_
   obtain ⟨r19,hr19,hM⟩:=zas hM
   replace hS:St (fun i=>i<g/\i∉ids ([(p1,.cells (st.1.map TrayPress.cells).flatten)]++Lo st.2)) H0 ([(p1,.cells (v16.map TrayPress.cells).flatten)]++Lo v17) _ _:=hS
   have hndr19:=hS.nd_atS (ns:=[0]) (A:=[(p1,.cells (v16.map TrayPress.cells).flatten)]) (A':=[(p1,.cells (r19.2.1.map TrayPress.cells).flatten)]) (.cons rfl .nil) (by decide)
   refine zkR (bs:=[.ms p1 0 2 mz0 mz0,.i v14,.i v15,f0]) (A:=[(p1,.cells (v16.map TrayPress.cells).flatten)]) (A':=[(p1,.cells (r19.2.1.map TrayPress.cells).flatten)]) (M:=Lo v17) (M':=Lo r19.2.2) (L':=[(p1,.cells (r19.2.1.map TrayPress.cells).flatten)]) [0] (.inl rfl) hS (by decide) rfl rfl ((zcr (Lo:=Lo) (p1:=p1) hk (fun s=>zjA (T':=Lo s) (hk _ _) hndr19) hin (aF:=aF) hF h0 hf hr19).le (.k (.k (.k (.k .nil))))) (.cons rfl .nil) (hk _ _).ids rfl (by omega) fun H hS=>?_
   refine Ni ?_
   refine Ws ?_
   refine Sq ?_
   refine Rg 2 ?_
   refine Om (.i v15) ?_
   refine Oa (.i v15) ?_
   refine Ni ?_
   refine Ws ?_
   refine Rg 4 ?_
   refine Om (.i v15) ?_
   refine Om (.i 20) ?_
   refine Oi (.i (w64 (v15+20))) ?_
   refine Oa (.i (w64 (v15+20))) ?_
   refine Ni ?_
   refine zah ?_
   exact zbF (v15,w64 (v15+20),r19.2.1,r19.2.2) (Nat.lt_succ_self _) (.k (.k (.k (.k (.k (.k .nil)))))) ⟨(hS.keep [true] rfl).up (by omega),hM⟩
  ·replace hM:=ifF hM hb18
   refine Cf hb18 ?_
   refine zcp ?_
   refine zay ?_
   refine zau ?_
   refine zaD ?_
   exact zak (v14,v16,v17) (.k (.k (.k (.k (.k .nil))))) ⟨(hS.keep [true] rfl).up (by omega),hM⟩
theorem zeD {n:Nat} {a1:Int} {r:Unit} (hM:zb2 n a1=some r):zaJ Try.prog 90 [.sl .no 2 (([]:List TrayPress).map TrayPress.cells),.i a1,.fn (.func 68) [] []] (.tup []):=by
 refine zax mixed Try.func90 rfl (by decide) Try.ntmps90 (by simp) ?pure fun H0 g hf=>?_
 case pure=>exact .tup _ zaE
 rw [zan]
 change wpA _ _ _ _ (Fr.of [(0,.sl .no 2 (([]:List TrayPress).map TrayPress.cells)),(1,.i a1),(2,.fn (.func 68) [] [])]) H0 g
 have hS:=St.start hf
 refine Sq ?_
 refine Rg 1 ?_
 refine Oa (.i 20) ?_
 refine Ni ?_
 refine Ws ?_
 refine Sq ?_
 refine Rg 3 ?_
 refine Om (.i 20) ?_
 refine Oa (.i 0) ?_
 refine Oa (.i 20) ?_
 refine Ni ?_
 refine Ws ?_
 refine zaO (J:=Int) (fun j=>[(0,.sl .no 2 (([]:List TrayPress).map TrayPress.cells)),(1,.i a1),(2,.fn (.func 68) [] []),(6,.i 20),(7,.i j)]) (fun j H' g'=>St (·<g) H0 [] H' g'/\za5 n a1 j=some r) ?_ ?_
 ·rintro v1 H g1 ⟨hS,hM⟩
  change wpA _ _ _ _ (Fr.of [(0,.sl .no 2 (([]:List TrayPress).map TrayPress.cells)),(1,.i a1),(2,.fn (.func 68) [] []),(6,.i 20),(7,.i v1)]) _ _
  replace hS:St (·<g) H0 [] H g1:=hS
  replace hM:za5 n a1 v1=some r:=hM
  refine Sq ?_
  refine Rg 5 ?_
  refine Om (.sl .no 2 (([]:List TrayPress).map TrayPress.cells)) ?_
  refine Om (.i v1) ?_
  refine Om (.i a1) ?_
  refine Om (.fn (.func 68) [] []) ?_
  obtain ⟨r2,hr2,hM⟩:=zas hM
  refine zaP (bs:=[.sl .no 2 (([]:List TrayPress).map TrayPress.cells),.i v1,.i a1,.fn (.func 68) [] []]) (by decide) rfl rfl ((zb9 hr2).le (.k (.k (.k (.k .nil))))) ?_
  refine Ni ?_
  refine Ws ?_
  refine zaz ?_
  refine zcx (V:=Int) (fun v=>[(0,.sl .no 2 (([]:List TrayPress).map TrayPress.cells)),(1,.i a1),(2,.fn (.func 68) [] []),(6,.i v)]) (fun v m2 H' g'=>St (·<g) H0 [] H' g'/\zaj n a1 m2 v=some r) (n:=n) 20 (.k (.k (.k (.k .nil)))) ⟨(hS.keep [] rfl).up (by omega),hM⟩ ?_
  rintro v3 m2 H g2 ⟨hS,hM⟩
  obtain _ | m2:=m2
  ·exact nomatch (show none=some _ from hM)
  change wpA _ _ _ _ (Fr.of [(0,.sl .no 2 (([]:List TrayPress).map TrayPress.cells)),(1,.i a1),(2,.fn (.func 68) [] []),(6,.i v3)]) _ _
  replace hS:St (·<g) H0 [] H g2:=hS
  replace hM:zbv n a1 (zaj n a1 m2) v3=some r:=hM
  refine Sq ?_
  refine Sq ?_
  refine Rg 3 ?_
  refine Om (.i v3) ?_
  refine Om (.i a1) ?_
  refine Oi (.b (decide (v3<a1))) ?_
  refine Ni ?_
  refine Ws ?_
  rcases bft (decide (v3<a1)) with hb4 | hb4
  ·replace hM:=ifT hM hb4
   refine Ct hb4 ?_
   refine zaC ?_
   refine Ws ?_
   refine zaz ?_
   refine Sq ?_
   refine Rg 4 ?_
   refine Om (.i v3) ?_
   refine Oi (.i (w64 (2*v3))) ?_
   refine Oa (.i 0) ?_
   refine Oa (.i (w64 (2*v3))) ?_
   refine Ni ?_
   refine Ws ?_
   refine zaO (J:=Int) (fun j=>[(0,.sl .no 2 (([]:List TrayPress).map TrayPress.cells)),(1,.i a1),(2,.fn (.func 68) [] []),(6,.i v3),(7,.i j)]) (fun j H' g'=>St (·<g) H0 [] H' g'/\zbJ (zaj n a1 m2) a1 v3 j=some r) ?_ ?_
   ·rintro v5 H g3 ⟨hS,hM⟩
    change wpA _ _ _ _ (Fr.of [(0,.sl .no 2 (([]:List TrayPress).map TrayPress.cells)),(1,.i a1),(2,.fn (.func 68) [] []),(6,.i v3),(7,.i v5)]) _ _
    replace hS:St (·<g) H0 [] H g3:=hS
    replace hM:zbJ (zaj n a1 m2) a1 v3 v5=some r:=hM
    refine zaO (J:=Unit) (fun j=>[(0,.sl .no 2 (([]:List TrayPress).map TrayPress.cells)),(1,.i a1),(2,.fn (.func 68) [] []),(6,.i v3)]) (fun j H' g'=>St (·<g) H0 [] H' g'/\zbI (zaj n a1 m2) v3=some r) ?_ ?_
    ·rintro _ H g4 ⟨hS,hM⟩
     change wpA _ _ _ _ (Fr.of [(0,.sl .no 2 (([]:List TrayPress).map TrayPress.cells)),(1,.i a1),(2,.fn (.func 68) [] []),(6,.i v3)]) _ _
     replace hS:St (·<g) H0 [] H g4:=hS
     replace hM:zbI (zaj n a1 m2) v3=some r:=hM
     refine Rg 3 ?_
     refine Om (.i v3) ?_
     refine Oi (.i (w64 (v3*2))) ?_
     refine Oa (.i (w64 (v3*2))) ?_
     refine Ni ?_
     refine zah ?_
     exact zbF (w64 (v3*2)) (Nat.lt_succ_self _) (.k (.k (.k (.k .nil)))) ⟨(hS.keep [] rfl).up (by omega),hM⟩
    ·refine Sq ?_
     refine Rg 4 ?_
     refine Om (.i v5) ?_
     refine Om (.i v3) ?_
     refine Oi (.i (w64 (v5+v3))) ?_
     refine Oa (.i (w64 (v5+v3))) ?_
     refine Ni ?_
     refine Ws ?_
     refine Sq ?_
     refine Rg 3 ?_
     refine Om (.i (w64 (v5+v3))) ?_
     refine Om (.i a1) ?_
     refine Oi (.b (decide ((w64 (v5+v3))<a1))) ?_
     refine Ni ?_
     refine Ws ?_
     rcases bft (decide ((w64 (v5+v3))<a1)) with hb6 | hb6
     ·replace hM:=ifT hM hb6
      refine Ct hb6 ?_
      refine Rg 6 ?_
      refine Om (.sl .no 2 (([]:List TrayPress).map TrayPress.cells)) ?_
      refine Om (.i v5) ?_
      refine Om (.i (w64 (v5+v3))) ?_
      refine Om (.i a1) ?_
      refine Om (.fn (.func 68) [] []) ?_
      exact nomatch (show none=some _ from hM)
     ·replace hM:=ifF hM hb6
      refine Cf hb6 ?_
      refine zaC ?_
      exact zak () (.k (.k (.k (.k .nil)))) ⟨(hS.keep [] rfl).up (by omega),hM⟩
   ·refine zaz ?_
    refine zcx (V:=Int×Int) (fun v=>[(0,.sl .no 2 (([]:List TrayPress).map TrayPress.cells)),(1,.i a1),(2,.fn (.func 68) [] []),(6,.i v3),(7,.i v.1),(8,.i v.2)]) (fun v m5 H' g'=>St (·<g) H0 [] H' g'/\za4 (zaj n a1 m2) a1 v3 m5 v.1 v.2=some r) (n:=n) (0,w64 (2*v3)) (.k (.k (.k (.k (.k (.k .nil)))))) ⟨(hS.keep [] rfl).up (by omega),hM⟩ ?_
    rintro ⟨v7,v8⟩ m5 H g5 ⟨hS,hM⟩
    obtain _ | m5:=m5
    ·exact nomatch (show none=some _ from hM)
    change wpA _ _ _ _ (Fr.of [(0,.sl .no 2 (([]:List TrayPress).map TrayPress.cells)),(1,.i a1),(2,.fn (.func 68) [] []),(6,.i v3),(7,.i v7),(8,.i v8)]) _ _
    replace hS:St (·<g) H0 [] H g5:=hS
    replace hM:zcB (zaj n a1 m2) a1 v3 (za4 (zaj n a1 m2) a1 v3 m5) v7 v8=some r:=hM
    refine Sq ?_
    refine Sq ?_
    refine Rg 3 ?_
    refine Om (.i v8) ?_
    refine Om (.i a1) ?_
    refine Oi (.b (decide (v8<=a1))) ?_
    refine Ni ?_
    refine Ws ?_
    rcases bft (decide (v8<=a1)) with hb9 | hb9
    ·replace hM:=ifT hM hb9
     refine Ct hb9 ?_
     refine zaC ?_
     refine Ws ?_
     refine zaz ?_
     refine Sq ?_
     refine Rg 8 ?_
     refine Om (.sl .no 2 (([]:List TrayPress).map TrayPress.cells)) ?_
     refine Om (.i v7) ?_
     refine Om (.i v7) ?_
     refine Om (.i v3) ?_
     refine Oi (.i (w64 (v7+v3))) ?_
     refine Om (.i v8) ?_
     refine Om (.fn (.func 68) [] []) ?_
     exact nomatch (show none=some _ from hM)
    ·replace hM:=ifF hM hb9
     refine Cf hb9 ?_
     refine zcp ?_
     refine zay ?_
     refine zau ?_
     refine zaD ?_
     exact zak v7 (.k (.k (.k (.k (.k .nil))))) ⟨(hS.keep [] rfl).up (by omega),hM⟩
  ·replace hM:=ifF hM hb4
   refine Cf hb4 ?_
   refine zcp ?_
   refine zay ?_
   refine zau ?_
   refine zaD ?_
   refine za7 (x:=.tup []) (f:=fun r=>.tup []) (.inl rfl) ?_ (.refl _) (Option.some.inj hM) hS
   exact rfl
 ·refine zaz ?_
  refine zcx (V:=Int×Int) (fun v=>[(0,.sl .no 2 (([]:List TrayPress).map TrayPress.cells)),(1,.i a1),(2,.fn (.func 68) [] []),(6,.i 20),(7,.i v.1),(8,.i v.2)]) (fun v m6 H' g'=>St (·<g) H0 [] H' g'/\zaU n a1 m6 v.1 v.2=some r) (n:=n) (0,20) (.k (.k (.k (.k (.k (.k .nil)))))) ⟨(hS.keep [] rfl).up (by omega),hM⟩ ?_
  rintro ⟨v10,v11⟩ m6 H g6 ⟨hS,hM⟩
  obtain _ | m6:=m6
  ·exact nomatch (show none=some _ from hM)
  change wpA _ _ _ _ (Fr.of [(0,.sl .no 2 (([]:List TrayPress).map TrayPress.cells)),(1,.i a1),(2,.fn (.func 68) [] []),(6,.i 20),(7,.i v10),(8,.i v11)]) _ _
  replace hS:St (·<g) H0 [] H g6:=hS
  replace hM:zbw n a1 (zaU n a1 m6) v10 v11=some r:=hM
  refine Sq ?_
  refine Sq ?_
  refine Rg 3 ?_
  refine Om (.i v11) ?_
  refine Om (.i a1) ?_
  refine Oi (.b (decide (v11<=a1))) ?_
  refine Ni ?_
  refine Ws ?_
  rcases bft (decide (v11<=a1)) with hb12 | hb12
  ·replace hM:=ifT hM hb12
   refine Ct hb12 ?_
   refine zaC ?_
   refine Ws ?_
   refine zaz ?_
   refine Sq ?_
   refine Rg 5 ?_
   refine Om (.sl .no 2 (([]:List TrayPress).map TrayPress.cells)) ?_
   refine Om (.i v10) ?_
   refine Om (.i v11) ?_
   refine Om (.fn (.func 68) [] []) ?_
   obtain ⟨r13,hr13,hM⟩:=zas hM
   refine zaP (bs:=[.sl .no 2 (([]:List TrayPress).map TrayPress.cells),.i v10,.i v11,.fn (.func 68) [] []]) (by decide) rfl rfl ((zb9 hr13).le (.k (.k (.k (.k .nil))))) ?_
   refine Ni ?_
   refine Ws ?_
   refine Sq ?_
   refine Rg 2 ?_
   refine Om (.i v11) ?_
   refine Oa (.i v11) ?_
   refine Ni ?_
   refine Ws ?_
   refine Rg 4 ?_
   refine Om (.i v11) ?_
   refine Om (.i 20) ?_
   refine Oi (.i (w64 (v11+20))) ?_
   refine Oa (.i (w64 (v11+20))) ?_
   refine Ni ?_
   refine zah ?_
   exact zbF (v11,w64 (v11+20)) (Nat.lt_succ_self _) (.k (.k (.k (.k (.k (.k .nil)))))) ⟨(hS.keep [] rfl).up (by omega),hM⟩
  ·replace hM:=ifF hM hb12
   refine Cf hb12 ?_
   refine zcp ?_
   refine zay ?_
   refine zau ?_
   refine zaD ?_
   exact zak v10 (.k (.k (.k (.k (.k .nil))))) ⟨(hS.keep [] rfl).up (by omega),hM⟩
theorem zeN {S:Type} {Lo:S->BL} (hk:∀s s',zgP (Lo s) (Lo s')) {p1:Nat} (hnd:∀s,([p1]++ids (Lo s)).Nodup) (hin:∀s,InB In (Lo s)) {aF:TrayPress->TrayPress->S->Option (Int×S)} {f0:AV} (hF:∀s H,Has H (Lo s)->In H f0) (h0:cellsOf f0=some [f0]) (hf:∀{x0:TrayPress} {x1:TrayPress} {s:S} {r:Int×S},aF x0 x1 s=some r->zjR Try.prog f0 [.agg [.i x0.Side,.i x0.Time],.agg [.i x1.Side,.i x1.Time]] (Lo s) (.i r.1) (Lo r.2)) {n:Nat} {mz0:Nat} {st:(List TrayPress)×S} {r:Unit×((List TrayPress)×S)} (hM:zbq n aF mz0 st=some r):zgT Try.prog 67 [.ms p1 0 2 mz0 mz0,f0] ([(p1,.cells (st.1.map TrayPress.cells).flatten)]++Lo st.2) (.tup []) ([(p1,.cells (r.2.1.map TrayPress.cells).flatten)]++Lo r.2.2):=by
 have hnd0:∀s,(ids (Lo s)).Nodup:=fun s=>(List.nodup_append.1 (hnd s)).2.1
 refine zbx mixed Try.func67 rfl (by decide) Try.ntmps67 (by simp) (ziE (zbp zeF) (hk _ _)) (hnd st.2) ?pure ?cells fun H0 g hf_ hp=>?_
 case pure=>exact fun H _=>(show Go.AM.Pure _ from .tup _ zaE).inH
 case cells=>exact (zff (zby (zhV (fun x=>(zac (.v _) (zac (.v _) zaE)))) zfe) (hin _))
 rw [zan]
 change wpA _ _ _ _ (Fr.of [(0,.ms p1 0 2 mz0 mz0),(1,f0)]) H0 g
 have hS:=St.startH (L:=([(p1,.cells (st.1.map TrayPress.cells).flatten)]++Lo st.2)) hf_ (zlw (hnd st.2)) hp
 replace hS:St (fun i=>i<g/\i∉ids ([(p1,.cells (st.1.map TrayPress.cells).flatten)]++Lo st.2)) H0 ([(p1,.cells (st.1.map TrayPress.cells).flatten)]++Lo st.2) H0 g:=hS
 refine Rg 5 ?_
 refine Om (.ms p1 0 2 mz0 mz0) ?_
 refine Om (.ms p1 0 2 mz0 mz0) ?_
 refine zsM (n:=mz0) (by decide) rfl zfa ?_
 refine Om (f0) ?_
 obtain ⟨r1,hr1,hM⟩:=zas hM
 replace hS:St (fun i=>i<g/\i∉ids ([(p1,.cells (st.1.map TrayPress.cells).flatten)]++Lo st.2)) H0 ([(p1,.cells (st.1.map TrayPress.cells).flatten)]++Lo st.2) _ _:=hS
 have hndr1:=hS.nd_atS (ns:=[0]) (A:=[(p1,.cells (st.1.map TrayPress.cells).flatten)]) (A':=[(p1,.cells (r1.2.1.map TrayPress.cells).flatten)]) (.cons rfl .nil) (by decide)
 refine zkR (bs:=[.ms p1 0 2 mz0 mz0,.i (mz0:Int),f0]) (A:=[(p1,.cells (st.1.map TrayPress.cells).flatten)]) (A':=[(p1,.cells (r1.2.1.map TrayPress.cells).flatten)]) (M:=Lo st.2) (M':=Lo r1.2.2) (L':=[(p1,.cells (r1.2.1.map TrayPress.cells).flatten)]) [0] (.inl rfl) hS (by decide) rfl rfl ((zeZ (Lo:=Lo) (p1:=p1) hk (fun s=>zjA (T':=Lo s) (hk _ _) hndr1) hin (aF:=aF) hF h0 hf hr1).le (.k (.k (.k .nil)))) (.cons rfl .nil) (hk _ _).ids rfl (by omega) fun H hS=>?_
 refine Ni ?_
 refine zdg (x:=.tup []) (f:=fun r=>.tup []) (fd:=fun r=>([(p1,.cells (r.2.1.map TrayPress.cells).flatten)]++Lo r.2.2)) (.inl rfl) ?_ (.refl _) (Option.some.inj hM) hS 0 rfl
 exact rfl
theorem zey {n:Nat} {r:Unit} (hM:zbg n=some r):zaJ Try.prog 67 [.sl .no 2 (([]:List TrayPress).map TrayPress.cells),.fn (.func 68) [] []] (.tup []):=by
 refine zax mixed Try.func67 rfl (by decide) Try.ntmps67 (by simp) ?pure fun H0 g hf=>?_
 case pure=>exact .tup _ zaE
 rw [zan]
 change wpA _ _ _ _ (Fr.of [(0,.sl .no 2 (([]:List TrayPress).map TrayPress.cells)),(1,.fn (.func 68) [] [])]) H0 g
 have hS:=St.start hf
 refine Rg 5 ?_
 refine Om (.sl .no 2 (([]:List TrayPress).map TrayPress.cells)) ?_
 refine Om (.sl .no 2 (([]:List TrayPress).map TrayPress.cells)) ?_
 refine zcg (n:=([]:List TrayPress).length) (by decide) rfl (List.length_map _) zfa ?_
 refine Om (.fn (.func 68) [] []) ?_
 obtain ⟨r1,hr1,hM⟩:=zas hM
 refine zaP (bs:=[.sl .no 2 (([]:List TrayPress).map TrayPress.cells),.i (([]:List TrayPress).length:Int),.fn (.func 68) [] []]) (by decide) rfl rfl ((zeD hr1).le (.k (.k (.k .nil)))) ?_
 refine Ni ?_
 refine za7 (x:=.tup []) (f:=fun r=>.tup []) (.inl rfl) ?_ (.refl _) (Option.some.inj hM) hS
 exact rfl
theorem zjX {a0:TrayPress} {a1:TrayPress} {r:Int} (hM:zgg a0 a1=some r):zaJ Try.prog 68 [.agg [.i a0.Side,.i a0.Time],.agg [.i a1.Side,.i a1.Time]] (.i r):=by
 refine zax mixed Try.func68 rfl (by decide) Try.ntmps68 (by simp) ?pure fun H0 g hf=>?_
 case pure=>exact .v _
 rw [zan]
 change wpA _ _ _ _ (Fr.of [(0,.agg [.i a0.Side,.i a0.Time]),(1,.agg [.i a1.Side,.i a1.Time])]) H0 g
 have hS:=St.start hf
 refine Sq ?_
 refine Rg 3 ?_
 refine zd2 (v:=.agg [.i a0.Side,.i a0.Time]) (cs:=[.i a0.Side,.i a0.Time]) hS (by decide) rfl rfl (by omega) fun H hS=>?_
 refine zd2 (v:=.agg [.i a1.Side,.i a1.Time]) (cs:=[.i a1.Side,.i a1.Time]) hS (by decide) rfl rfl (by omega) fun H hS=>?_
 refine Oa (.i 0) ?_
 refine Ni ?_
 refine zda (L':=[(g+1,.cells [.i a1.Side,.i a1.Time])]) 1 2 hS rfl rfl rfl fun H hS=>?_
 refine zda (L':=[]) 0 3 hS rfl rfl rfl fun H hS=>?_
 refine Ws ?_
 refine Sq ?_
 refine Rg 6 ?_
 refine Of ([.i a0.Side,.i a0.Time]) zgw ?_
 refine Olp (.i a0.Time) zaf zap ?_
 refine Of ([.i a1.Side,.i a1.Time]) zgw ?_
 refine Olp (.i a1.Time) zaf zap ?_
 refine Oi (.i (w64 (a0.Time-a1.Time))) ?_
 refine Oa (.i (w64 (a0.Time-a1.Time))) ?_
 refine Ni ?_
 refine Ws ?_
 refine zaQ ?_
 refine za7 (x:=.i (w64 (a0.Time-a1.Time))) (f:=fun r=>.i r) (.inr rfl) ?_ (.refl _) (Option.some.inj hM) hS
 exact (zaw (zai (x:=.i (w64 (a0.Time-a1.Time))) rfl))
theorem zcS {p1 w10 w11 w12:Nat} (hnd:[p1,w10,w11,w12].Nodup) {a1:Int} {st:Carriage_} {r:Unit×Carriage_} (hM:zbO a1 st=some r):zgT Try.prog 69 [.ptr p1 0,.i a1] [(p1,.cells [.sl .no 2 (st.t.Records.map TrayRecord.cells),.i st.t.At,.i st.t.Way,.i st.t.Step,.sl .no 2 (st.t.Presses.map TrayPress.cells),.sl .no 2 (st.queue.map TrayPress.cells),.ms w10 0 1 (2*st.t.Records.length) (2*st.t.Records.length),.i st.now,.i st.at_.At,.i st.at_.Way,.i st.at_.Side,.sl (.id w11) 4 (st.run.spells.map Spell_.cells),.sl (.id w12) 2 (st.run.plays.map TrayPlay.cells),.i st.run.steps,.i st.run.end_]),(w10,.cells (st.pins.map cB).flatten),(w11,.row 160 st.run.spells.length),(w12,.row 71 st.run.plays.length)] (.tup []) [(p1,.cells [.sl .no 2 (r.2.t.Records.map TrayRecord.cells),.i r.2.t.At,.i r.2.t.Way,.i r.2.t.Step,.sl .no 2 (r.2.t.Presses.map TrayPress.cells),.sl .no 2 (r.2.queue.map TrayPress.cells),.ms w10 0 1 (2*r.2.t.Records.length) (2*r.2.t.Records.length),.i r.2.now,.i r.2.at_.At,.i r.2.at_.Way,.i r.2.at_.Side,.sl (.id w11) 4 (r.2.run.spells.map Spell_.cells),.sl (.id w12) 2 (r.2.run.plays.map TrayPlay.cells),.i r.2.run.steps,.i r.2.run.end_]),(w10,.cells (r.2.pins.map cB).flatten),(w11,.row 160 r.2.run.spells.length),(w12,.row 71 r.2.run.plays.length)]:=by
 refine zbx mixed Try.func69 rfl (by decide) Try.ntmps69 (by simp) (zbp (zbp (zgQ (zgQ zeF)))) hnd ?pure ?cells fun H0 g hf_ hp=>?_
 case pure=>exact fun H _=>(show Go.AM.Pure _ from .tup _ zaE).inH
 case cells=>exact (zff (zby (zad (.inl (.inl (.sl _ _ (zav (fun x=>(zac (.v _) (zac (.v _) zaE))))))) (zad (.inl (.inl (.v _))) (zad (.inl (.inl (.v _))) (zad (.inl (.inl (.v _))) (zad (.inl (.inl (.sl _ _ (zav (fun x=>(zac (.v _) (zac (.v _) zaE))))))) (zad (.inl (.inl (.sl _ _ (zav (fun x=>(zac (.v _) (zac (.v _) zaE))))))) (zad (.inr (.inr ⟨_,_,_,_,_,_,rfl,(List.mem_of_getElem? (i:=1) rfl)⟩)) (zad (.inl (.inl (.v _))) (zad (.inl (.inl (.v _))) (zad (.inl (.inl (.v _))) (zad (.inl (.inl (.v _))) (zad (.inl (.inr ⟨_,_,_,_,_,rfl,(List.mem_of_getElem? (i:=2) rfl),zav (fun x=>(zac (.v _) (zac (.v _) (zac (.v _) (zac (.v _) zaE)))))⟩)) (zad (.inl (.inr ⟨_,_,_,_,_,rfl,(List.mem_of_getElem? (i:=3) rfl),zav (fun x=>(zac (.v _) (zac (.v _) zaE)))⟩)) (zad (.inl (.inl (.v _))) (zad (.inl (.inl (.v _))) zeE))))))))))))))) (zby (zhV (fun x=>(zac (.v _) zaE))) (zhb (zhb zfe)))) ze2)
 rw [zan]
 change wpA _ _ _ _ (Fr.of [(0,.ptr p1 0),(1,.i a1)]) H0 g
 have hS:=St.startH (L:=[(p1,.cells [.sl .no 2 (st.t.Records.map TrayRecord.cells),.i st.t.At,.i st.t.Way,.i st.t.Step,.sl .no 2 (st.t.Presses.map TrayPress.cells),.sl .no 2 (st.queue.map TrayPress.cells),.ms w10 0 1 (2*st.t.Records.length) (2*st.t.Records.length),.i st.now,.i st.at_.At,.i st.at_.Way,.i st.at_.Side,.sl (.id w11) 4 (st.run.spells.map Spell_.cells),.sl (.id w12) 2 (st.run.plays.map TrayPlay.cells),.i st.run.steps,.i st.run.end_]),(w10,.cells (st.pins.map cB).flatten),(w11,.row 160 st.run.spells.length),(w12,.row 71 st.run.plays.length)]) hf_ hnd hp
 replace hS:St (fun i=>i<g/\i∉ids [(p1,.cells [.sl .no 2 (st.t.Records.map TrayRecord.cells),.i st.t.At,.i st.t.Way,.i st.t.Step,.sl .no 2 (st.t.Presses.map TrayPress.cells),.sl .no 2 (st.queue.map TrayPress.cells),.ms w10 0 1 (2*st.t.Records.length) (2*st.t.Records.length),.i st.now,.i st.at_.At,.i st.at_.Way,.i st.at_.Side,.sl (.id w11) 4 (st.run.spells.map Spell_.cells),.sl (.id w12) 2 (st.run.plays.map TrayPlay.cells),.i st.run.steps,.i st.run.end_]),(w10,.cells (st.pins.map cB).flatten),(w11,.row 160 st.run.spells.length),(w12,.row 71 st.run.plays.length)]) H0 [(p1,.cells [.sl .no 2 (st.t.Records.map TrayRecord.cells),.i st.t.At,.i st.t.Way,.i st.t.Step,.sl .no 2 (st.t.Presses.map TrayPress.cells),.sl .no 2 (st.queue.map TrayPress.cells),.ms w10 0 1 (2*st.t.Records.length) (2*st.t.Records.length),.i st.now,.i st.at_.At,.i st.at_.Way,.i st.at_.Side,.sl (.id w11) 4 (st.run.spells.map Spell_.cells),.sl (.id w12) 2 (st.run.plays.map TrayPlay.cells),.i st.run.steps,.i st.run.end_]),(w10,.cells (st.pins.map cB).flatten),(w11,.row 160 st.run.spells.length),(w12,.row 71 st.run.plays.length)] H0 g:=hS
 refine Sq ?_
 refine Rg 6 ?_
 refine Om (.ptr p1 0) ?_
 refine Om (.i a1) ?_
 refine zbT (by decide) rfl ?_
 refine zag (by decide) zew rfl ?_
 refine zag (by decide) znW rfl ?_
 refine zaM (v:=.i a1) (ns:=[.i a1]) (L':=[(p1,.cells [.sl .no 2 (st.t.Records.map TrayRecord.cells),.i st.t.At,.i st.t.Way,.i st.t.Step,.sl .no 2 (st.t.Presses.map TrayPress.cells),.sl .no 2 (st.queue.map TrayPress.cells),.ms w10 0 1 (2*st.t.Records.length) (2*st.t.Records.length),.i st.now,.i st.at_.At,.i st.at_.Way,.i a1,.sl (.id w11) 4 (st.run.spells.map Spell_.cells),.sl (.id w12) 2 (st.run.plays.map TrayPlay.cells),.i st.run.steps,.i st.run.end_]),(w10,.cells (st.pins.map cB).flatten),(w11,.row 160 st.run.spells.length),(w12,.row 71 st.run.plays.length)]) 0 hS rfl rfl .no rfl rfl zeY nlb rfl fun H hS=>?_
 refine Ni ?_
 refine Ws ?_
 have hS0:=hS
 refine zd1 (n:=21) rfl (by kernel_rfl) ?_
 refine Om (.ptr p1 0) ?_
 refine Om (.ptr p1 0) ?_
 refine zbT (by decide) rfl ?_
 refine zag (by decide) zex rfl ?_
 refine zag (by decide) zkt rfl ?_
 refine zaG (v:=.sl (.id w11) 4 (st.run.spells.map Spell_.cells)) 0 hS (by decide) rfl rfl (.st hS0 0 rfl (by omega)) (po zql zrH) ?_
 refine Om (.ptr p1 0) ?_
 refine zbT (by decide) rfl ?_
 refine zag (by decide) zew rfl ?_
 refine zaG (v:=.agg [.i st.at_.At,.i st.at_.Way,.i a1]) 0 hS (by decide) rfl rfl (.st hS0 0 rfl (by omega)) (pg zpe) ?_
 refine Om (.ptr p1 0) ?_
 refine zbT (by decide) rfl ?_
 refine zag (by decide) zev rfl ?_
 refine zaG (v:=.i st.now) 0 hS (by decide) rfl rfl (.st hS0 0 rfl (by omega)) (po zaf zap) ?_
 refine zdb (cs:=[.i st.at_.At,.i st.at_.Way,.i a1,.i st.now]) (by decide) znS zqo rfl ?_
 refine zbj (es:=[[.i st.at_.At,.i st.at_.Way,.i a1,.i st.now]]) hS (by decide) zpa zo9 rfl zpb rfl (by decide) (by omega) fun H hS=>?_
 obtain ⟨l1,hl1,hM⟩:=zas hM
 refine zdJ (xs:=st.run.spells) (ys:=([(⟨(⟨st.at_.At,st.at_.Way,a1⟩:TrayStand),st.now⟩:Spell_)]:List Spell_)) (zs:=l1) (f:=Spell_.cells) (L':=[(g+6+15,.row 160 1),(p1,.cells [.sl .no 2 (st.t.Records.map TrayRecord.cells),.i st.t.At,.i st.t.Way,.i st.t.Step,.sl .no 2 (st.t.Presses.map TrayPress.cells),.sl .no 2 (st.queue.map TrayPress.cells),.ms w10 0 1 (2*st.t.Records.length) (2*st.t.Records.length),.i st.now,.i st.at_.At,.i st.at_.Way,.i a1,.sl (.id w11) 4 (st.run.spells.map Spell_.cells),.sl (.id w12) 2 (st.run.plays.map TrayPlay.cells),.i st.run.steps,.i st.run.end_]),(w10,.cells (st.pins.map cB).flatten),(w11,.row 160 l1.length),(w12,.row 71 st.run.plays.length)]) 3 hS (by decide) rfl rfl rfl rfl (.st hS0 2 rfl (by omega)) zpa zo9 zpb hl1 rfl fun H hS=>?_
 refine zbT (by decide) rfl ?_
 refine zag (by decide) zex rfl ?_
 refine zag (by decide) zkt rfl ?_
 refine zaM (v:=.sl (.id w11) 4 (l1.map Spell_.cells)) (ns:=[.sl (.id w11) 4 (l1.map Spell_.cells)]) (L':=[(g+6+15,.row 160 1),(p1,.cells [.sl .no 2 (st.t.Records.map TrayRecord.cells),.i st.t.At,.i st.t.Way,.i st.t.Step,.sl .no 2 (st.t.Presses.map TrayPress.cells),.sl .no 2 (st.queue.map TrayPress.cells),.ms w10 0 1 (2*st.t.Records.length) (2*st.t.Records.length),.i st.now,.i st.at_.At,.i st.at_.Way,.i a1,.sl (.id w11) 4 (l1.map Spell_.cells),.sl (.id w12) 2 (st.run.plays.map TrayPlay.cells),.i st.run.steps,.i st.run.end_]),(w10,.cells (st.pins.map cB).flatten),(w11,.row 160 l1.length),(w12,.row 71 st.run.plays.length)]) 1 hS rfl rfl (.st hS0 0 rfl (by omega)) rfl rfl zqm nlb rfl fun H hS=>?_
 refine Ni ?_
 refine zdg (x:=.tup []) (f:=fun r=>.tup []) (fd:=fun r=>[(p1,.cells [.sl .no 2 (r.2.t.Records.map TrayRecord.cells),.i r.2.t.At,.i r.2.t.Way,.i r.2.t.Step,.sl .no 2 (r.2.t.Presses.map TrayPress.cells),.sl .no 2 (r.2.queue.map TrayPress.cells),.ms w10 0 1 (2*r.2.t.Records.length) (2*r.2.t.Records.length),.i r.2.now,.i r.2.at_.At,.i r.2.at_.Way,.i r.2.at_.Side,.sl (.id w11) 4 (r.2.run.spells.map Spell_.cells),.sl (.id w12) 2 (r.2.run.plays.map TrayPlay.cells),.i r.2.run.steps,.i r.2.run.end_]),(w10,.cells (r.2.pins.map cB).flatten),(w11,.row 160 r.2.run.spells.length),(w12,.row 71 r.2.run.plays.length)]) (.inl rfl) ?_ (.refl _) (Option.some.inj hM) hS 1 rfl
 exact rfl
theorem zhk {p1 w10 w11 w12:Nat} (hnd:[p1,w10,w11,w12].Nodup) {n:Nat} {st:Carriage_} {r:Unit×Carriage_} (hM:zeW n st=some r):zgT Try.prog 91 [.ptr p1 0] [(p1,.cells [.sl .no 2 (st.t.Records.map TrayRecord.cells),.i st.t.At,.i st.t.Way,.i st.t.Step,.sl .no 2 (st.t.Presses.map TrayPress.cells),.sl .no 2 (st.queue.map TrayPress.cells),.ms w10 0 1 (2*st.t.Records.length) (2*st.t.Records.length),.i st.now,.i st.at_.At,.i st.at_.Way,.i st.at_.Side,.sl (.id w11) 4 (st.run.spells.map Spell_.cells),.sl (.id w12) 2 (st.run.plays.map TrayPlay.cells),.i st.run.steps,.i st.run.end_]),(w10,.cells (st.pins.map cB).flatten),(w11,.row 160 st.run.spells.length),(w12,.row 71 st.run.plays.length)] (.tup []) [(p1,.cells [.sl .no 2 (r.2.t.Records.map TrayRecord.cells),.i r.2.t.At,.i r.2.t.Way,.i r.2.t.Step,.sl .no 2 (r.2.t.Presses.map TrayPress.cells),.sl .no 2 (r.2.queue.map TrayPress.cells),.ms w10 0 1 (2*r.2.t.Records.length) (2*r.2.t.Records.length),.i r.2.now,.i r.2.at_.At,.i r.2.at_.Way,.i r.2.at_.Side,.sl (.id w11) 4 (r.2.run.spells.map Spell_.cells),.sl (.id w12) 2 (r.2.run.plays.map TrayPlay.cells),.i r.2.run.steps,.i r.2.run.end_]),(w10,.cells (r.2.pins.map cB).flatten),(w11,.row 160 r.2.run.spells.length),(w12,.row 71 r.2.run.plays.length)]:=by
 refine zbx mixed Try.func91 rfl (by decide) Try.ntmps91 (by simp) (zbp (zbp (zgQ (zgQ zeF)))) hnd ?pure ?cells fun H0 g hf_ hp=>?_
 case pure=>exact fun H _=>(show Go.AM.Pure _ from .tup _ zaE).inH
 case cells=>exact (zff (zby (zad (.inl (.inl (.sl _ _ (zav (fun x=>(zac (.v _) (zac (.v _) zaE))))))) (zad (.inl (.inl (.v _))) (zad (.inl (.inl (.v _))) (zad (.inl (.inl (.v _))) (zad (.inl (.inl (.sl _ _ (zav (fun x=>(zac (.v _) (zac (.v _) zaE))))))) (zad (.inl (.inl (.sl _ _ (zav (fun x=>(zac (.v _) (zac (.v _) zaE))))))) (zad (.inr (.inr ⟨_,_,_,_,_,_,rfl,(List.mem_of_getElem? (i:=1) rfl)⟩)) (zad (.inl (.inl (.v _))) (zad (.inl (.inl (.v _))) (zad (.inl (.inl (.v _))) (zad (.inl (.inl (.v _))) (zad (.inl (.inr ⟨_,_,_,_,_,rfl,(List.mem_of_getElem? (i:=2) rfl),zav (fun x=>(zac (.v _) (zac (.v _) (zac (.v _) (zac (.v _) zaE)))))⟩)) (zad (.inl (.inr ⟨_,_,_,_,_,rfl,(List.mem_of_getElem? (i:=3) rfl),zav (fun x=>(zac (.v _) (zac (.v _) zaE)))⟩)) (zad (.inl (.inl (.v _))) (zad (.inl (.inl (.v _))) zeE))))))))))))))) (zby (zhV (fun x=>(zac (.v _) zaE))) (zhb (zhb zfe)))) ze2)
 rw [zan]
 change wpA _ _ _ _ (Fr.of [(0,.ptr p1 0)]) H0 g
 have hS:=St.startH (L:=[(p1,.cells [.sl .no 2 (st.t.Records.map TrayRecord.cells),.i st.t.At,.i st.t.Way,.i st.t.Step,.sl .no 2 (st.t.Presses.map TrayPress.cells),.sl .no 2 (st.queue.map TrayPress.cells),.ms w10 0 1 (2*st.t.Records.length) (2*st.t.Records.length),.i st.now,.i st.at_.At,.i st.at_.Way,.i st.at_.Side,.sl (.id w11) 4 (st.run.spells.map Spell_.cells),.sl (.id w12) 2 (st.run.plays.map TrayPlay.cells),.i st.run.steps,.i st.run.end_]),(w10,.cells (st.pins.map cB).flatten),(w11,.row 160 st.run.spells.length),(w12,.row 71 st.run.plays.length)]) hf_ hnd hp
 replace hS:St (fun i=>i<g/\i∉ids [(p1,.cells [.sl .no 2 (st.t.Records.map TrayRecord.cells),.i st.t.At,.i st.t.Way,.i st.t.Step,.sl .no 2 (st.t.Presses.map TrayPress.cells),.sl .no 2 (st.queue.map TrayPress.cells),.ms w10 0 1 (2*st.t.Records.length) (2*st.t.Records.length),.i st.now,.i st.at_.At,.i st.at_.Way,.i st.at_.Side,.sl (.id w11) 4 (st.run.spells.map Spell_.cells),.sl (.id w12) 2 (st.run.plays.map TrayPlay.cells),.i st.run.steps,.i st.run.end_]),(w10,.cells (st.pins.map cB).flatten),(w11,.row 160 st.run.spells.length),(w12,.row 71 st.run.plays.length)]) H0 [(p1,.cells [.sl .no 2 (st.t.Records.map TrayRecord.cells),.i st.t.At,.i st.t.Way,.i st.t.Step,.sl .no 2 (st.t.Presses.map TrayPress.cells),.sl .no 2 (st.queue.map TrayPress.cells),.ms w10 0 1 (2*st.t.Records.length) (2*st.t.Records.length),.i st.now,.i st.at_.At,.i st.at_.Way,.i st.at_.Side,.sl (.id w11) 4 (st.run.spells.map Spell_.cells),.sl (.id w12) 2 (st.run.plays.map TrayPlay.cells),.i st.run.steps,.i st.run.end_]),(w10,.cells (st.pins.map cB).flatten),(w11,.row 160 st.run.spells.length),(w12,.row 71 st.run.plays.length)] H0 g:=hS
 refine zaz ?_
 refine zcx (V:=(List TrayPress)×(List Bool)) (fun v=>[(0,.ptr p1 0)]) (fun v m2 H' g'=>St (fun i=>i<g/\i∉ids [(p1,.cells [.sl .no 2 (st.t.Records.map TrayRecord.cells),.i st.t.At,.i st.t.Way,.i st.t.Step,.sl .no 2 (st.t.Presses.map TrayPress.cells),.sl .no 2 (st.queue.map TrayPress.cells),.ms w10 0 1 (2*st.t.Records.length) (2*st.t.Records.length),.i st.now,.i st.at_.At,.i st.at_.Way,.i st.at_.Side,.sl (.id w11) 4 (st.run.spells.map Spell_.cells),.sl (.id w12) 2 (st.run.plays.map TrayPlay.cells),.i st.run.steps,.i st.run.end_]),(w10,.cells (st.pins.map cB).flatten),(w11,.row 160 st.run.spells.length),(w12,.row 71 st.run.plays.length)]) H0 [(p1,.cells [.sl .no 2 (st.t.Records.map TrayRecord.cells),.i st.t.At,.i st.t.Way,.i st.t.Step,.sl .no 2 (st.t.Presses.map TrayPress.cells),.sl .no 2 (v.1.map TrayPress.cells),.ms w10 0 1 (2*st.t.Records.length) (2*st.t.Records.length),.i st.now,.i st.at_.At,.i st.at_.Way,.i st.at_.Side,.sl (.id w11) 4 (st.run.spells.map Spell_.cells),.sl (.id w12) 2 (st.run.plays.map TrayPlay.cells),.i st.run.steps,.i st.run.end_]),(w10,.cells (v.2.map cB).flatten),(w11,.row 160 st.run.spells.length),(w12,.row 71 st.run.plays.length)] H' g'/\za6 st m2 v.1 v.2=some r) (n:=n) (st.queue,st.pins) (.k .nil) ⟨(hS.keep [true,true,true,true] rfl).up (by omega),hM⟩ ?_
 rintro ⟨v1,v2⟩ m2 H g2 ⟨hS,hM⟩
 obtain _ | m2:=m2
 ·exact nomatch (show none=some _ from hM)
 change wpA _ _ _ _ (Fr.of [(0,.ptr p1 0)]) _ _
 replace hS:St (fun i=>i<g/\i∉ids [(p1,.cells [.sl .no 2 (st.t.Records.map TrayRecord.cells),.i st.t.At,.i st.t.Way,.i st.t.Step,.sl .no 2 (st.t.Presses.map TrayPress.cells),.sl .no 2 (st.queue.map TrayPress.cells),.ms w10 0 1 (2*st.t.Records.length) (2*st.t.Records.length),.i st.now,.i st.at_.At,.i st.at_.Way,.i st.at_.Side,.sl (.id w11) 4 (st.run.spells.map Spell_.cells),.sl (.id w12) 2 (st.run.plays.map TrayPlay.cells),.i st.run.steps,.i st.run.end_]),(w10,.cells (st.pins.map cB).flatten),(w11,.row 160 st.run.spells.length),(w12,.row 71 st.run.plays.length)]) H0 [(p1,.cells [.sl .no 2 (st.t.Records.map TrayRecord.cells),.i st.t.At,.i st.t.Way,.i st.t.Step,.sl .no 2 (st.t.Presses.map TrayPress.cells),.sl .no 2 (v1.map TrayPress.cells),.ms w10 0 1 (2*st.t.Records.length) (2*st.t.Records.length),.i st.now,.i st.at_.At,.i st.at_.Way,.i st.at_.Side,.sl (.id w11) 4 (st.run.spells.map Spell_.cells),.sl (.id w12) 2 (st.run.plays.map TrayPlay.cells),.i st.run.steps,.i st.run.end_]),(w10,.cells (v2.map cB).flatten),(w11,.row 160 st.run.spells.length),(w12,.row 71 st.run.plays.length)] H g2:=hS
 replace hM:zdu st (za6 st m2) v1 v2=some r:=hM
 refine Sq ?_
 refine zaO (J:=Bool) (fun j=>[(0,.ptr p1 0),(21,.b j)]) (fun j H' g'=>St (fun i=>i<g/\i∉ids [(p1,.cells [.sl .no 2 (st.t.Records.map TrayRecord.cells),.i st.t.At,.i st.t.Way,.i st.t.Step,.sl .no 2 (st.t.Presses.map TrayPress.cells),.sl .no 2 (st.queue.map TrayPress.cells),.ms w10 0 1 (2*st.t.Records.length) (2*st.t.Records.length),.i st.now,.i st.at_.At,.i st.at_.Way,.i st.at_.Side,.sl (.id w11) 4 (st.run.spells.map Spell_.cells),.sl (.id w12) 2 (st.run.plays.map TrayPlay.cells),.i st.run.steps,.i st.run.end_]),(w10,.cells (st.pins.map cB).flatten),(w11,.row 160 st.run.spells.length),(w12,.row 71 st.run.plays.length)]) H0 [(p1,.cells [.sl .no 2 (st.t.Records.map TrayRecord.cells),.i st.t.At,.i st.t.Way,.i st.t.Step,.sl .no 2 (st.t.Presses.map TrayPress.cells),.sl .no 2 (v1.map TrayPress.cells),.ms w10 0 1 (2*st.t.Records.length) (2*st.t.Records.length),.i st.now,.i st.at_.At,.i st.at_.Way,.i st.at_.Side,.sl (.id w11) 4 (st.run.spells.map Spell_.cells),.sl (.id w12) 2 (st.run.plays.map TrayPlay.cells),.i st.run.steps,.i st.run.end_]),(w10,.cells (v2.map cB).flatten),(w11,.row 160 st.run.spells.length),(w12,.row 71 st.run.plays.length)] H' g'/\zcy (za6 st m2) st v1 v2 j=some r) ?_ ?_
 ·rintro v3 H g3 ⟨hS,hM⟩
  change wpA _ _ _ _ (Fr.of [(0,.ptr p1 0),(21,.b v3)]) _ _
  replace hS:St (fun i=>i<g/\i∉ids [(p1,.cells [.sl .no 2 (st.t.Records.map TrayRecord.cells),.i st.t.At,.i st.t.Way,.i st.t.Step,.sl .no 2 (st.t.Presses.map TrayPress.cells),.sl .no 2 (st.queue.map TrayPress.cells),.ms w10 0 1 (2*st.t.Records.length) (2*st.t.Records.length),.i st.now,.i st.at_.At,.i st.at_.Way,.i st.at_.Side,.sl (.id w11) 4 (st.run.spells.map Spell_.cells),.sl (.id w12) 2 (st.run.plays.map TrayPlay.cells),.i st.run.steps,.i st.run.end_]),(w10,.cells (st.pins.map cB).flatten),(w11,.row 160 st.run.spells.length),(w12,.row 71 st.run.plays.length)]) H0 [(p1,.cells [.sl .no 2 (st.t.Records.map TrayRecord.cells),.i st.t.At,.i st.t.Way,.i st.t.Step,.sl .no 2 (st.t.Presses.map TrayPress.cells),.sl .no 2 (v1.map TrayPress.cells),.ms w10 0 1 (2*st.t.Records.length) (2*st.t.Records.length),.i st.now,.i st.at_.At,.i st.at_.Way,.i st.at_.Side,.sl (.id w11) 4 (st.run.spells.map Spell_.cells),.sl (.id w12) 2 (st.run.plays.map TrayPlay.cells),.i st.run.steps,.i st.run.end_]),(w10,.cells (v2.map cB).flatten),(w11,.row 160 st.run.spells.length),(w12,.row 71 st.run.plays.length)] H g3:=hS
  replace hM:zcy (za6 st m2) st v1 v2 v3=some r:=hM
  rcases bft v3 with hb4 | hb4
  ·replace hM:=ifT hM hb4
   refine Ct hb4 ?_
   refine zaC ?_
   refine Ws ?_
   refine zaz ?_
   refine Sq ?_
   have hS0:=hS
   refine zd1 (n:=13) rfl (by kernel_rfl) ?_
   refine Om (.ptr p1 0) ?_
   refine zbT (by decide) rfl ?_
   refine zag (by decide) zhC rfl ?_
   refine zaG (v:=.ms w10 0 1 (2*st.t.Records.length) (2*st.t.Records.length)) 0 hS (by decide) rfl rfl (.st hS0 0 rfl (by omega)) (po zii zi9) ?_
   refine Om (.ptr p1 0) ?_
   refine zbT (by decide) rfl ?_
   refine zag (by decide) zeu rfl ?_
   refine zaG (v:=.sl .no 2 (v1.map TrayPress.cells)) 0 hS (by decide) rfl rfl (.st hS0 0 rfl (by omega)) (po zcW zdN) ?_
   obtain ⟨x5,hx5,hM⟩:=zas hM
   refine zbu (xs:=v1) (f:=TrayPress.cells) (z:=0) (u:=x5) (by decide) rfl rfl zdO hx5 ?_
   refine Of ([.i x5.Side,.i x5.Time]) zjG ?_
   refine Olp (.i x5.Side) zaf zap ?_
   obtain ⟨x6,hx6,hM⟩:=zas hM
   refine zfG (xs:=v2) (z:=x5.Side) (u:=x6) (by decide) rfl (zfH hx6) rfl zhz (zc6 hx6) ?_
   refine zi6 (f:=cB) (k:=1) (xs:=v2) (z:=x5.Side) (u:=x6) (w:=true) (v:=.b true) (L':=[(p1,.cells [.sl .no 2 (st.t.Records.map TrayRecord.cells),.i st.t.At,.i st.t.Way,.i st.t.Step,.sl .no 2 (st.t.Presses.map TrayPress.cells),.sl .no 2 (v1.map TrayPress.cells),.ms w10 0 1 (2*st.t.Records.length) (2*st.t.Records.length),.i st.now,.i st.at_.At,.i st.at_.Way,.i st.at_.Side,.sl (.id w11) 4 (st.run.spells.map Spell_.cells),.sl (.id w12) 2 (st.run.plays.map TrayPlay.cells),.i st.run.steps,.i st.run.end_]),(w10,.cells ((v2.set (Int.toNat x5.Side) true).map cB).flatten),(w11,.row 160 st.run.spells.length),(w12,.row 71 st.run.plays.length)]) 1 hS rfl rfl (zc6 hx6) (.st hS0 1 rfl (by omega)) (fun _=>rfl) rfl rfl zo1 rfl fun H hS=>?_
   refine Ni ?_
   refine Ws ?_
   refine Rg 9 ?_
   refine Om (.ptr p1 0) ?_
   refine Om (.ptr p1 0) ?_
   refine zbT (by decide) rfl ?_
   refine zag (by decide) zeu rfl ?_
   refine zaG (v:=.sl .no 2 (v1.map TrayPress.cells)) 0 hS (by decide) rfl rfl .no (po zcW zdN) ?_
   obtain ⟨c7,hc7,hM⟩:=zas hM
   refine zrm (xs:=v1) (ys:=c7) (f:=TrayPress.cells) (p:=1) (q:=(v1.length:Int)) (by decide) rfl zdO (.inr rfl) (.inl ⟨rfl,rfl⟩) hc7 ?_
   refine zbT (by decide) rfl ?_
   refine zag (by decide) zeu rfl ?_
   refine zaM (v:=.sl .no 2 (c7.map TrayPress.cells)) (ns:=[.sl .no 2 (c7.map TrayPress.cells)]) (L':=[(p1,.cells [.sl .no 2 (st.t.Records.map TrayRecord.cells),.i st.t.At,.i st.t.Way,.i st.t.Step,.sl .no 2 (st.t.Presses.map TrayPress.cells),.sl .no 2 (c7.map TrayPress.cells),.ms w10 0 1 (2*st.t.Records.length) (2*st.t.Records.length),.i st.now,.i st.at_.At,.i st.at_.Way,.i st.at_.Side,.sl (.id w11) 4 (st.run.spells.map Spell_.cells),.sl (.id w12) 2 (st.run.plays.map TrayPlay.cells),.i st.run.steps,.i st.run.end_]),(w10,.cells ((v2.set (Int.toNat x5.Side) true).map cB).flatten),(w11,.row 160 st.run.spells.length),(w12,.row 71 st.run.plays.length)]) 0 hS rfl rfl .no rfl rfl zi8 nlb rfl fun H hS=>?_
   refine Ni ?_
   refine zah ?_
   exact zbF (c7,(v2.set (Int.toNat x5.Side) true)) (Nat.lt_succ_self _) (.k .nil) ⟨(hS.keep [true,true,true,true] rfl).up (by omega),hM⟩
  ·replace hM:=ifF hM hb4
   refine Cf hb4 ?_
   refine zcp ?_
   refine zay ?_
   refine zau ?_
   refine zaD ?_
   refine zdg (x:=.tup []) (f:=fun r=>.tup []) (fd:=fun r=>[(p1,.cells [.sl .no 2 (r.2.t.Records.map TrayRecord.cells),.i r.2.t.At,.i r.2.t.Way,.i r.2.t.Step,.sl .no 2 (r.2.t.Presses.map TrayPress.cells),.sl .no 2 (r.2.queue.map TrayPress.cells),.ms w10 0 1 (2*r.2.t.Records.length) (2*r.2.t.Records.length),.i r.2.now,.i r.2.at_.At,.i r.2.at_.Way,.i r.2.at_.Side,.sl (.id w11) 4 (r.2.run.spells.map Spell_.cells),.sl (.id w12) 2 (r.2.run.plays.map TrayPlay.cells),.i r.2.run.steps,.i r.2.run.end_]),(w10,.cells (r.2.pins.map cB).flatten),(w11,.row 160 r.2.run.spells.length),(w12,.row 71 r.2.run.plays.length)]) (.inl rfl) ?_ (.refl _) (Option.some.inj hM) hS 0 rfl
   exact rfl
 ·have hS0:=hS
  refine zd1 (n:=20) rfl (by kernel_rfl) ?_
  refine Om (.ptr p1 0) ?_
  refine zbT (by decide) rfl ?_
  refine zag (by decide) zeu rfl ?_
  refine zaG (v:=.sl .no 2 (v1.map TrayPress.cells)) 0 hS (by decide) rfl rfl (.st hS0 0 rfl (by omega)) (po zcW zdN) ?_
  refine zcg (n:=v1.length) (by decide) rfl (List.length_map _) zfa ?_
  refine Oi (.b (decide ((v1.length:Int)>0))) ?_
  refine Om (.b (decide ((v1.length:Int)>0))) ?_
  rcases bft (decide ((v1.length:Int)>0)) with hb8 | hb8
  ·replace hM:=ifT hM hb8
   refine Oy (want:=true) hb8 ?_
   refine Om (.ptr p1 0) ?_
   refine Oy (want:=true) hb8 ?_
   refine zbT (by decide) rfl ?_
   refine Oy (want:=true) hb8 ?_
   refine zag (by decide) zeu rfl ?_
   refine Oy (want:=true) hb8 ?_
   refine zaG (v:=.sl .no 2 (v1.map TrayPress.cells)) 0 hS (by decide) rfl rfl (.st hS0 0 rfl (by omega)) (po zcW zdN) ?_
   refine Oy (want:=true) hb8 ?_
   obtain ⟨x9,hx9,hM⟩:=zas hM
   refine zbu (xs:=v1) (f:=TrayPress.cells) (z:=0) (u:=x9) (by decide) rfl rfl zdO hx9 ?_
   refine Oy (want:=true) hb8 ?_
   refine Of ([.i x9.Side,.i x9.Time]) zgw ?_
   refine Oy (want:=true) hb8 ?_
   refine Olp (.i x9.Time) zaf zap ?_
   refine Oy (want:=true) hb8 ?_
   refine Om (.ptr p1 0) ?_
   refine Oy (want:=true) hb8 ?_
   refine zbT (by decide) rfl ?_
   refine Oy (want:=true) hb8 ?_
   refine zag (by decide) zev rfl ?_
   refine Oy (want:=true) hb8 ?_
   refine zaG (v:=.i st.now) 0 hS (by decide) rfl rfl (.st hS0 0 rfl (by omega)) (po zaf zap) ?_
   refine Oy (want:=true) hb8 ?_
   refine Oi (.b (decide (x9.Time<=st.now))) ?_
   refine Pt (.b (decide (x9.Time<=st.now))) hb8 ?_
   refine Ni ?_
   exact zak (decide (x9.Time<=st.now)) (.k (.k .nil)) ⟨(hS.keep [true,true,true,true] rfl).up (by omega),hM⟩
  ·replace hM:=ifF hM hb8
   refine On (want:=true) hb8 ?_
   refine On (want:=true) hb8 ?_
   refine On (want:=true) hb8 ?_
   refine On (want:=true) hb8 ?_
   refine On (want:=true) hb8 ?_
   refine On (want:=true) hb8 ?_
   refine On (want:=true) hb8 ?_
   refine On (want:=true) hb8 ?_
   refine On (want:=true) hb8 ?_
   refine On (want:=true) hb8 ?_
   refine On (want:=true) hb8 ?_
   refine On (want:=true) hb8 ?_
   refine Pf (.b false) hb8 ?_
   refine Ni ?_
   exact zak false (.k (.k .nil)) ⟨(hS.keep [true,true,true,true] rfl).up (by omega),hM⟩
theorem zh0 {n:Nat} {a0:List Bool} {a1:Bool} {r:Int} (hM:zek n a0 a1=some r):zaJ Try.prog 110 [.sl .no 1 (a0.map cB),.b a1] (.i r):=by
 refine zax mixed Try.func110 rfl (by decide) Try.ntmps110 (by simp) ?pure fun H0 g hf=>?_
 case pure=>exact .v _
 rw [zan]
 change wpA _ _ _ _ (Fr.of [(0,.sl .no 1 (a0.map cB)),(1,.b a1)]) H0 g
 have hS:=St.start hf
 refine Sq ?_
 refine Rg 1 ?_
 refine Oa (.i 0) ?_
 refine Ni ?_
 refine Ws ?_
 refine zaO (J:=Unit) (fun j=>[]) (fun j H' g'=>St (·<g) H0 [] H' g'/\zdq=some r) ?_ ?_
 ·rintro _ H g1 ⟨hS,hM⟩
  change wpA _ _ _ _ (Fr.of []) _ _
  replace hS:St (·<g) H0 [] H g1:=hS
  replace hM:zdq=some r:=hM
  refine Sq ?_
  refine Rg 1 ?_
  refine Oa (.i (-1)) ?_
  refine Ni ?_
  refine Ws ?_
  refine zaQ ?_
  refine za7 (x:=.i (-1)) (f:=fun r=>.i r) (.inr rfl) ?_ (.refl _) (Option.some.inj hM) hS
  exact (zaw (zai (x:=.i (-1)) rfl))
 ·refine Sq ?_
  refine Rg 3 ?_
  refine Om (.sl .no 1 (a0.map cB)) ?_
  refine zcg (n:=a0.length) (by decide) rfl (List.length_map _) zpd ?_
  refine Om (.i 0) ?_
  refine Ni ?_
  refine Ws ?_
  refine zaz ?_
  refine zcx (V:=Int) (fun v=>[(0,.sl .no 1 (a0.map cB)),(1,.b a1),(7,.i (a0.length:Int)),(8,.i v)]) (fun v m2 H' g'=>St (·<g) H0 [] H' g'/\zbM a0 a1 m2 v=some r) (n:=n) 0 (.k (.k (.k (.k .nil)))) ⟨(hS.keep [] rfl).up (by omega),hM⟩ ?_
  rintro v1 m2 H g2 ⟨hS,hM⟩
  obtain _ | m2:=m2
  ·exact nomatch (show none=some _ from hM)
  change wpA _ _ _ _ (Fr.of [(0,.sl .no 1 (a0.map cB)),(1,.b a1),(7,.i (a0.length:Int)),(8,.i v1)]) _ _
  replace hS:St (·<g) H0 [] H g2:=hS
  replace hM:zc7 a0 a1 (zbM a0 a1 m2) v1=some r:=hM
  refine Sq ?_
  refine Rg 1 ?_
  refine Oi (.b (decide (v1<(a0.length:Int)))) ?_
  refine Ni ?_
  refine Ws ?_
  refine Sq ?_
  rcases bft (decide (v1<(a0.length:Int))) with hb2 | hb2
  ·replace hM:=ifT hM hb2
   refine Ct hb2 ?_
   refine zaC ?_
   refine Ws ?_
   refine Sq ?_
   refine zaz ?_
   refine Sq ?_
   refine Rg 2 ?_
   refine Om (.i v1) ?_
   refine Oa (.i v1) ?_
   refine Ni ?_
   refine Ws ?_
   refine Sq ?_
   refine Rg 6 ?_
   refine Om (.b a1) ?_
   refine Om (.sl .no 1 (a0.map cB)) ?_
   refine Om (.i v1) ?_
   obtain ⟨x3,hx3,hM⟩:=zas hM
   refine zbu (xs:=a0) (f:=cB) (z:=v1) (u:=x3) (by decide) rfl rfl zhz hx3 ?_
   refine Olp (.b x3) zo0 zqZ ?_
   refine zvF (m:=a1) (n:=x3) (by decide) rfl rfl zqg ?_
   refine Ni ?_
   refine Ws ?_
   rcases bft (a1==x3) with hb4 | hb4
   ·replace hM:=ifT hM hb4
    refine Ct hb4 ?_
    refine Sq ?_
    refine Rg 2 ?_
    refine Om (.i v1) ?_
    refine Oa (.i v1) ?_
    refine Ni ?_
    refine Ws ?_
    refine zaQ ?_
    refine zaI ?_
    refine zaq ?_
    refine zbs ?_
    refine zaI ?_
    refine zbr ?_
    refine za7 (x:=.i v1) (f:=fun r=>.i r) (.inr rfl) ?_ (.refl _) (Option.some.inj hM) hS
    exact (zaw (zai (x:=.i v1) rfl))
   ·replace hM:=ifF hM hb4
    refine Cf hb4 ?_
    refine zaC ?_
    refine zah ?_
    refine Ws ?_
    refine Rg 2 ?_
    refine Oi (.i (w64 (v1+1))) ?_
    refine Om (.i (w64 (v1+1))) ?_
    refine Ni ?_
    exact zbF (w64 (v1+1)) (Nat.lt_succ_self _) (.k (.k (.k (.k .nil)))) ⟨(hS.keep [] rfl).up (by omega),hM⟩
  ·replace hM:=ifF hM hb2
   refine Cf hb2 ?_
   refine zcp ?_
   refine zay ?_
   refine zau ?_
   refine zaD ?_
   exact zak () .nil ⟨(hS.keep [] rfl).up (by omega),hM⟩
theorem zgV {n:Nat} {a0:List Bool} {a1:Bool} {r:Bool} (hM:zdr n a0 a1=some r):zaJ Try.prog 92 [.sl .no 1 (a0.map cB),.b a1] (.b r):=by
 refine zax mixed Try.func92 rfl (by decide) Try.ntmps92 (by simp) ?pure fun H0 g hf=>?_
 case pure=>exact .v _
 rw [zan]
 change wpA _ _ _ _ (Fr.of [(0,.sl .no 1 (a0.map cB)),(1,.b a1)]) H0 g
 have hS:=St.start hf
 refine Sq ?_
 refine Rg 1 ?_
 refine Oa (.b false) ?_
 refine Ni ?_
 refine Ws ?_
 refine Sq ?_
 refine Rg 5 ?_
 refine Om (.sl .no 1 (a0.map cB)) ?_
 refine Om (.b a1) ?_
 obtain ⟨r1,hr1,hM⟩:=zas hM
 refine zaP (bs:=[.sl .no 1 (a0.map cB),.b a1]) (by decide) rfl rfl ((zh0 hr1).le (.k (.k .nil))) ?_
 refine Oi (.b (decide (r1≥0))) ?_
 refine Oa (.b (decide (r1≥0))) ?_
 refine Ni ?_
 refine zfW [(4,.b (decide (r1≥0)))] (.k .nil) ?_
 refine zaQ ?_
 refine za7 (x:=.b (decide (r1≥0))) (f:=fun r=>.b r) (.inr rfl) ?_ (.refl _) (Option.some.inj hM) hS
 exact (zaw (zai (x:=.b (decide (r1≥0))) rfl))
theorem zmv {a0:Tray} {a1:Int} {r:Int} (hM:zid a0 a1=some r):zaJ Try.prog 93 [.agg (Tray.cells a0),.i a1] (.i r):=by
 refine zax mixed Try.func93 rfl (by decide) Try.ntmps93 (by simp) ?pure fun H0 g hf=>?_
 case pure=>exact .v _
 rw [zan]
 change wpA _ _ _ _ (Fr.of [(0,.agg (Tray.cells a0)),(1,.i a1)]) H0 g
 have hS:=St.start hf
 refine Sq ?_
 refine Rg 2 ?_
 refine zd2 (v:=.agg (Tray.cells a0)) (cs:=(Tray.cells a0)) hS (by decide) rfl rfl (by omega) fun H hS=>?_
 refine Oa (.i 0) ?_
 refine Ni ?_
 refine zda (L':=[]) 0 2 hS rfl rfl rfl fun H hS=>?_
 refine Ws ?_
 refine Sq ?_
 refine Sq ?_
 refine Rg 3 ?_
 refine Om (.i a1) ?_
 obtain ⟨q1,hq1,hM⟩:=zas hM
 refine znK (by decide) rfl rfl (zoI hq1) ?_
 refine Oi (.b (q1==0)) ?_
 refine Ni ?_
 refine Ws ?_
 rcases bft (q1==0) with hb2 | hb2
 ·replace hM:=ifT hM hb2
  refine Ct hb2 ?_
  refine Sq ?_
  refine Rg 8 ?_
  refine Of ((Tray.cells a0)) zbY ?_
  refine Olp (.sl .no 2 (a0.Records.map TrayRecord.cells)) zcP zdB ?_
  refine Om (.i a1) ?_
  obtain ⟨q3,hq3,hM⟩:=zas hM
  refine znK (by decide) rfl rfl (zmo hq3) ?_
  obtain ⟨x4,hx4,hM⟩:=zas hM
  refine zbu (xs:=a0.Records) (f:=TrayRecord.cells) (z:=q3) (u:=x4) (by decide) rfl rfl zhZ hx4 ?_
  refine Of ((TrayRecord.cells x4)) zil ?_
  refine Olp (.i x4.Front) zaf zap ?_
  refine Oa (.i x4.Front) ?_
  refine Ni ?_
  refine Ws ?_
  refine zaQ ?_
  refine zaq ?_
  refine za7 (x:=.i x4.Front) (f:=fun r=>.i r) (.inr rfl) ?_ (.refl _) (Option.some.inj hM) hS
  exact (zaw (zai (x:=.i x4.Front) rfl))
 ·replace hM:=ifF hM hb2
  refine Cf hb2 ?_
  refine zaC ?_
  refine Ws ?_
  refine Sq ?_
  refine Rg 8 ?_
  refine Of ((Tray.cells a0)) zbY ?_
  refine Olp (.sl .no 2 (a0.Records.map TrayRecord.cells)) zcP zdB ?_
  refine Om (.i a1) ?_
  obtain ⟨q5,hq5,hM⟩:=zas hM
  refine znK (by decide) rfl rfl (zmo hq5) ?_
  obtain ⟨x6,hx6,hM⟩:=zas hM
  refine zbu (xs:=a0.Records) (f:=TrayRecord.cells) (z:=q5) (u:=x6) (by decide) rfl rfl zhZ hx6 ?_
  refine Of ((TrayRecord.cells x6)) zim ?_
  refine Olp (.i x6.Back) zaf zap ?_
  refine Oa (.i x6.Back) ?_
  refine Ni ?_
  refine Ws ?_
  refine zaQ ?_
  refine za7 (x:=.i x6.Back) (f:=fun r=>.i r) (.inr rfl) ?_ (.refl _) (Option.some.inj hM) hS
  exact (zaw (zai (x:=.i x6.Back) rfl))
end Go.Proofs.Ytclaalcoefcljaa
