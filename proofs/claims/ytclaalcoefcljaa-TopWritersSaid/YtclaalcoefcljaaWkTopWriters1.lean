/-
  The code returns what the functions say (printed by gen.py).
  Conditions: none.
-/
import Derived.Test.YtclaalcoefcljaaTy
import Derived.Test.YtclaalcoefcljaaMd
import Derived.Test.YtclaalcoefcljaaAmPc
set_option linter.all false
namespace Go.Proofs.Ytclaalcoefcljaa
open Go Go.AM Go.Law
set_option linter.unusedVariables false
set_option maxRecDepth 4000
set_option maxHeartbeats 4000000
abbrev _root_.Go.AM.AV.i (x:Int):Go.AM.AV:=.v (.int .i64 x)
abbrev _root_.Go.AM.AV.b (x:Bool):Go.AM.AV:=.v (.bool x)
theorem _root_.Go.AM.FLe.k {l l0:List (Nat×AV)} {t:Nat} (r:FLe l l0):FLe l ((t,lk l t)::l0):=.cons (.refl _) r
theorem _root_.Go.AM.LeL.k {a:AV} {ps qs:List AV} (r:LeL ps qs):LeL (a::ps) (a::qs):=.cons (.refl _) r
section
open Go.AM
variable {P:Program} {N:Nat} {l:List (Nat×AV)} {H:zaa} {g:Nat} {ops:Array Oper} {i d g0:Nat} {r:List Oper} {K:Fr->zaa->Nat->Prop} {lim:Option Nat} {ty:TypeId} {pos:String} {after:Array Edge} {Q:Exit->Fr->zaa->Nat->Prop} {a b:Code}
theorem _root_.Go.AM.Om {x:Operand} (v:AV) (h:za7 P N lim g0 ops K (i+1) r (Fr.of ((d,v)::l)) H g) (hd:d<N:=by decide) (hx:evL N l x=v:=by rfl):za7 P N lim g0 ops K i (⟨some d,.move x,ty,pos,after,none⟩::r) (Fr.of l) H g:=zqc hd hx h
theorem _root_.Go.AM.Oa {x:Operand} (v:AV) (h:za7 P N lim g0 ops K (i+1) r (Fr.of ((d,v)::l)) H g) (hd:d<N:=by decide) (hx:evL N l x=v:=by rfl):za7 P N lim g0 ops K i (⟨some d,.assign x,ty,pos,after,none⟩::r) (Fr.of l) H g:=zn1 hd hx h
theorem _root_.Go.AM.Olp {t:TypeId} {x:Operand} {cs:List AV} (v:AV) (h1:zaw P t=none) (h2:scalar P t=true) (h:za7 P N lim g0 ops K (i+1) r (Fr.of ((d,v)::l)) H g) (hd:d<N:=by decide) (hx:evL N l x=.ep cs:=by rfl) (hc:cs[0]?=some v:=by rfl):za7 P N lim g0 ops K i (⟨some d,.load t x,ty,pos,after,none⟩::r) (Fr.of l) H g:=zmS hd hx (zhS h1 h2 hc) h
theorem _root_.Go.AM.Olg {t:TypeId} {x:Operand} {cs:List AV} {k:Nat} (v:AV) (ha:zaw P t=some k) (h:za7 P N lim g0 ops K (i+1) r (Fr.of ((d,v)::l)) H g) (hd:d<N:=by decide) (hx:evL N l x=.ep cs:=by rfl) (hk:Nat.ble (0+k) cs.length=true:=by rfl) (hc:AV.agg ((cs.drop 0).take k)=v:=by rfl):za7 P N lim g0 ops K i (⟨some d,.load t x,ty,pos,after,none⟩::r) (Fr.of l) H g:=zmS hd hx (zjp ha (Nat.le_of_ble_eq_true hk) rfl) (hc▸h)
theorem _root_.Go.AM.Og {op:Op} {j:Nat} {want:Bool} (h:za7 P N lim g0 ops K (i+1) r (Fr.of ((d,.tup [])::l)) H g) (hd:d<N:=by decide) (hg:gd ops N (Fr.of l) j=some (some (!want)):=by rfl):za7 P N lim g0 ops K i (⟨some d,op,ty,pos,after,some (j,want)⟩::r) (Fr.of l) H g:=zk5 hd hg rfl h
theorem _root_.Go.AM.On {op:Op} {j:Nat} {want e:Bool} (he:e=!want) (h:za7 P N lim g0 ops K (i+1) r (Fr.of ((d,.tup [])::l)) H g) (hd:d<N:=by decide) (hg:gd ops N (Fr.of l) j=some (some e):=by rfl):za7 P N lim g0 ops K i (⟨some d,op,ty,pos,after,some (j,want)⟩::r) (Fr.of l) H g:=zk5 hd hg he h
theorem _root_.Go.AM.Oz {op:Op} {j:Nat} {want:Bool} {dst:Option Tmp} (h:za7 P N lim g0 ops K i (⟨dst,op,ty,pos,after,none⟩::r) (Fr.of l) H g) (hg:gd ops N (Fr.of l) j=some (some want):=by rfl):za7 P N lim g0 ops K i (⟨dst,op,ty,pos,after,some (j,want)⟩::r) (Fr.of l) H g:=zk4 hg rfl h
theorem _root_.Go.AM.Oy {op:Op} {j:Nat} {want e:Bool} {dst:Option Tmp} (he:e=want) (h:za7 P N lim g0 ops K i (⟨dst,op,ty,pos,after,none⟩::r) (Fr.of l) H g) (hg:gd ops N (Fr.of l) j=some (some e):=by rfl):za7 P N lim g0 ops K i (⟨dst,op,ty,pos,after,some (j,want)⟩::r) (Fr.of l) H g:=zk4 hg he h
theorem _root_.Go.AM.Oi {bo:BinOp} {t t':TypeId} {x y:Operand} {k:IntKind} {m n:Int} (v:AV) (h:za7 P N lim g0 ops K (i+1) r (Fr.of ((d,v)::l)) H g) (hd:d<N:=by decide) (hx:evL N l x=.v (.int k m):=by rfl) (hy:evL N l y=.v (.int k n):=by rfl) (hv:zgT bo k m n=some v:=by rfl):za7 P N lim g0 ops K i (⟨some d,.binOp bo t x y t',ty,pos,after,none⟩::r) (Fr.of l) H g:=zii hd hx hy hv h
theorem _root_.Go.AM.Ox {x:Operand} {n:Nat} {vs:List AV} (v:AV) (h:za7 P N lim g0 ops K (i+1) r (Fr.of ((d,v)::l)) H g) (hd:d<N:=by decide) (hx:evL N l x=.tup vs:=by rfl) (hn:vs[n]?=some v:=by rfl):za7 P N lim g0 ops K i (⟨some d,.extract x n,ty,pos,after,none⟩::r) (Fr.of l) H g:=zmT hd hx hn h
theorem _root_.Go.AM.Of {s f:Nat} {x:Operand} (cs:List AV) {k:Nat} (hk:zao P s f=some k) (h:za7 P N lim g0 ops K (i+1) r (Fr.of ((d,.ep (cs.drop k))::l)) H g) (hd:d<N:=by decide) (hx:evL N l x=.ep cs:=by rfl):za7 P N lim g0 ops K i (⟨some d,.fieldAddr s x f,ty,pos,after,none⟩::r) (Fr.of l) H g:=zn2 hd hk hx h
theorem _root_.Go.AM.Pt {c x y:Operand} (v:AV) {e:Bool} (he:e=true) (h:za7 P N lim g0 ops K (i+1) r (Fr.of ((d,v)::l)) H g) (hd:d<N:=by decide) (hc:evL N l c=.v (.bool e):=by rfl) (hx:evL N l x=v:=by rfl):za7 P N lim g0 ops K i (⟨some d,.pick c x y,ty,pos,after,none⟩::r) (Fr.of l) H g:=zcy hd hc he hx h
theorem _root_.Go.AM.Pf {c x y:Operand} (v:AV) {e:Bool} (he:e=false) (h:za7 P N lim g0 ops K (i+1) r (Fr.of ((d,v)::l)) H g) (hd:d<N:=by decide) (hc:evL N l c=.v (.bool e):=by rfl) (hy:evL N l y=v:=by rfl):za7 P N lim g0 ops K i (⟨some d,.pick c x y,ty,pos,after,none⟩::r) (Fr.of l) H g:=zby hd hc he hy h
theorem _root_.Go.AM.Ct {o:Operand} {e:Bool} (he:e=true) (h:wpA P N a Q (Fr.of l) H g) (hc:evL N l o=.v (.bool e):=by rfl):wpA P N (.cond o a b) Q (Fr.of l) H g:=zmR hc he h
theorem _root_.Go.AM.Cf {o:Operand} {e:Bool} (he:e=false) (h:wpA P N b Q (Fr.of l) H g) (hc:evL N l o=.v (.bool e):=by rfl):wpA P N (.cond o a b) Q (Fr.of l) H g:=zkE hc he h
theorem _root_.Go.AM.Rg {id:Nat} {os:List Oper} (n:Nat) (h:za7 P N none g os.toArray (Q .normal) 0 os (Fr.of l) H (g+n)) (hn:os.length=n:=by rfl):wpA P N (.region id os.toArray false) Q (Fr.of l) H g:=znY hn h
theorem _root_.Go.AM.Ws (h:wpA P N b Q (Fr.of l) H g):Exit.thenA (fun fr' H' g'=>∃fr0 H0 g0,zfM fr' H' g' fr0 H0 g0/\wpA P N b Q fr0 H0 g0) Q .normal (Fr.of l) H g:=⟨_,H,g,.le (fun _=>.refl _) H g,h⟩
theorem _root_.Go.AM.Sq (h:wpA P N a (Exit.thenA (fun fr' H' g'=>∃fr0 H0 g0,zfM fr' H' g' fr0 H0 g0/\wpA P N b Q fr0 H0 g0) Q) (Fr.of l) H g):wpA P N (.seq a b) Q (Fr.of l) H g:=zo1 h
theorem _root_.Go.AM.Ni (h:K (Fr.of l) H g):za7 P N lim g0 ops K i [] (Fr.of l) H g:=zo3 h
theorem _root_.Go.AM.pg {t:TypeId} {cs ds:List AV} {off k:Nat} (h:zaw P t=some k) (hl:off+k<=cs.length:=by exact Nat.le_of_ble_eq_true rfl) (hc:(cs.drop off).take k=ds:=by rfl):zfh P t cs off=some (.agg ds):=zjp h hl hc
theorem _root_.Go.AM.po {t:TypeId} {cs:List AV} {off:Nat} {v:AV} (h:zaw P t=none) (hs:scalar P t=true) (hc:cs[off]?=some v:=by rfl):zfh P t cs off=some v:=zhS h hs hc
theorem _root_.Go.AM.bft (b:Bool):b=true\/b=false:=Bool.eq_false_or_eq_true b
theorem _root_.Go.AM.nlb {a b:Nat} (h:Nat.ble a b=true:=by rfl):a<=b:=Nat.le_of_ble_eq_true h
end
theorem zkP {a0:Tray} {r:Bool} (hM:zg7 a0=some r):zaS Try.prog 6 [.agg (Tray.cells a0)] (.b r):=by
 refine zaF mixed Try.func6 rfl (by decide) Try.ntmps6 (by simp) ?pure fun H0 g hf=>?_
 case pure=>exact .v _
 rw [zaA]
 change wpA _ _ _ _ (Fr.of [(0,.agg (Tray.cells a0))]) H0 g
 have hS:=St.start hf
 refine Sq ?_
 refine Rg 2 ?_
 refine zeZ (v:=.agg (Tray.cells a0)) (cs:=(Tray.cells a0)) hS (by decide) rfl rfl (by omega) fun H hS=>?_
 refine Oa (.b false) ?_
 refine Ni ?_
 refine zcW (L':=[]) 0 1 hS rfl rfl rfl fun H hS=>?_
 refine Ws ?_
 refine zaY (J:=Bool) (fun j=>[(2,.b j)]) (fun j H' g'=>St (·<g) H0 [] H' g'/\zeE j=some r) ?_ ?_
 ·rintro v1 H g1 ⟨hS,hM⟩
  change wpA _ _ _ _ (Fr.of [(2,.b v1)]) _ _
  replace hS:St (·<g) H0 [] H g1:=hS
  replace hM:zeE v1=some r:=hM
  refine zbB ?_
  refine zbL (x:=.b v1) (f:=fun r=>.b r) (.inr rfl) ?_ (.refl _) (Option.some.inj hM) hS
  exact (zaJ (zau (x:=.b v1) rfl))
 ·refine Rg 11 ?_
  refine Of ((Tray.cells a0)) zbK ?_
  refine Olp (.sl .no 2 (a0.Records.map TrayRecord.cells)) zcv zc3 ?_
  refine zcI (n:=a0.Records.length) (by decide) rfl (List.length_map _) zc9 ?_
  refine Oi (.b (decide ((a0.Records.length:Int)>40))) ?_
  refine Om (.b (decide ((a0.Records.length:Int)>40))) ?_
  rcases bft (decide ((a0.Records.length:Int)>40)) with hb2 | hb2
  ·replace hM:=ifT hM hb2
   refine On (want:=false) hb2 ?_
   refine On (want:=false) hb2 ?_
   refine On (want:=false) hb2 ?_
   refine On (want:=false) hb2 ?_
   refine Pt (.b true) hb2 ?_
   refine Oa (.b true) ?_
   refine Ni ?_
   exact zal true (.k .nil) ⟨(hS.keep [] rfl).up (by omega),hM⟩
  ·replace hM:=ifF hM hb2
   refine Oy (want:=false) hb2 ?_
   refine Of ((Tray.cells a0)) zdu ?_
   refine Oy (want:=false) hb2 ?_
   refine Olp (.sl .no 2 (a0.Presses.map TrayPress.cells)) zcJ zdq ?_
   refine Oy (want:=false) hb2 ?_
   refine zcI (n:=a0.Presses.length) (by decide) rfl (List.length_map _) zee ?_
   refine Oy (want:=false) hb2 ?_
   refine Oi (.b (decide ((a0.Presses.length:Int)>40))) ?_
   refine Pf (.b (decide ((a0.Presses.length:Int)>40))) hb2 ?_
   refine Oa (.b (decide ((a0.Presses.length:Int)>40))) ?_
   refine Ni ?_
   exact zal (decide ((a0.Presses.length:Int)>40)) (.k .nil) ⟨(hS.keep [] rfl).up (by omega),hM⟩
theorem zcL {a0:Int} {a1:Int} {a2:Int} {r:Bool} (hM:zcg a0 a1 a2=some r):zaS Try.prog 24 [.i a0,.i a1,.i a2] (.b r):=by
 refine zaF mixed Try.func24 rfl (by decide) Try.ntmps24 (by simp) ?pure fun H0 g hf=>?_
 case pure=>exact .v _
 rw [zaA]
 change wpA _ _ _ _ (Fr.of [(0,.i a0),(1,.i a1),(2,.i a2)]) H0 g
 have hS:=St.start hf
 refine Sq ?_
 refine Rg 1 ?_
 refine Oa (.b false) ?_
 refine Ni ?_
 refine Ws ?_
 refine zaY (J:=Bool) (fun j=>[(6,.b j)]) (fun j H' g'=>St (·<g) H0 [] H' g'/\zdK j=some r) ?_ ?_
 ·rintro v1 H g1 ⟨hS,hM⟩
  change wpA _ _ _ _ (Fr.of [(6,.b v1)]) _ _
  replace hS:St (·<g) H0 [] H g1:=hS
  replace hM:zdK v1=some r:=hM
  refine zbB ?_
  refine zbL (x:=.b v1) (f:=fun r=>.b r) (.inr rfl) ?_ (.refl _) (Option.some.inj hM) hS
  exact (zaJ (zau (x:=.b v1) rfl))
 ·refine Rg 9 ?_
  refine Om (.i a1) ?_
  refine Om (.i a0) ?_
  refine Oi (.b (decide (a1<=a0))) ?_
  refine Om (.b (decide (a1<=a0))) ?_
  rcases bft (decide (a1<=a0)) with hb2 | hb2
  ·replace hM:=ifT hM hb2
   refine Oy (want:=true) hb2 ?_
   refine Om (.i a0) ?_
   refine Oy (want:=true) hb2 ?_
   refine Om (.i a2) ?_
   refine Oy (want:=true) hb2 ?_
   refine Oi (.b (decide (a0<=a2))) ?_
   refine Pt (.b (decide (a0<=a2))) hb2 ?_
   refine Oa (.b (decide (a0<=a2))) ?_
   refine Ni ?_
   exact zal (decide (a0<=a2)) (.k .nil) ⟨(hS.keep [] rfl).up (by omega),hM⟩
  ·replace hM:=ifF hM hb2
   refine On (want:=true) hb2 ?_
   refine On (want:=true) hb2 ?_
   refine On (want:=true) hb2 ?_
   refine Pf (.b false) hb2 ?_
   refine Oa (.b false) ?_
   refine Ni ?_
   exact zal false (.k .nil) ⟨(hS.keep [] rfl).up (by omega),hM⟩
theorem zgB {a0:Tray} {a1:Int} {r:Bool} (hM:zeF a0 a1=some r):zaS Try.prog 16 [.agg (Tray.cells a0),.i a1] (.b r):=by
 refine zaF mixed Try.func16 rfl (by decide) Try.ntmps16 (by simp) ?pure fun H0 g hf=>?_
 case pure=>exact .v _
 rw [zaA]
 change wpA _ _ _ _ (Fr.of [(0,.agg (Tray.cells a0)),(1,.i a1)]) H0 g
 have hS:=St.start hf
 refine Sq ?_
 refine Rg 2 ?_
 refine zeZ (v:=.agg (Tray.cells a0)) (cs:=(Tray.cells a0)) hS (by decide) rfl rfl (by omega) fun H hS=>?_
 refine Oa (.b false) ?_
 refine Ni ?_
 refine zcW (L':=[]) 0 2 hS rfl rfl rfl fun H hS=>?_
 refine Ws ?_
 refine Sq ?_
 refine Rg 8 ?_
 refine Om (.i a1) ?_
 refine Of ((Tray.cells a0)) zbK ?_
 refine Olp (.sl .no 2 (a0.Records.map TrayRecord.cells)) zcv zc3 ?_
 refine zcI (n:=a0.Records.length) (by decide) rfl (List.length_map _) zc9 ?_
 refine Oi (.i (w64 (2*(a0.Records.length:Int)))) ?_
 refine Oi (.i (w64 ((w64 (2*(a0.Records.length:Int)))-1))) ?_
 obtain ⟨r1,hr1,hM⟩:=zap hM
 refine zbo (bs:=[.i a1,.i 0,.i (w64 ((w64 (2*(a0.Records.length:Int)))-1))]) (by decide) rfl rfl ((zcL hr1).le (.k (.k (.k .nil)))) ?_
 refine Oa (.b r1) ?_
 refine Ni ?_
 refine zfX [(4,.b r1)] (.k .nil) ?_
 refine zbB ?_
 refine zbL (x:=.b r1) (f:=fun r=>.b r) (.inr rfl) ?_ (.refl _) (Option.some.inj hM) hS
 exact (zaJ (zau (x:=.b r1) rfl))
theorem ziF {a0:Int} {r:Bool} (hM:zfe a0=some r):zaS Try.prog 49 [.i a0] (.b r):=by
 refine zaF mixed Try.func49 rfl (by decide) Try.ntmps49 (by simp) ?pure fun H0 g hf=>?_
 case pure=>exact .v _
 rw [zaA]
 change wpA _ _ _ _ (Fr.of [(0,.i a0)]) H0 g
 have hS:=St.start hf
 refine Sq ?_
 refine Rg 1 ?_
 refine Oa (.b false) ?_
 refine Ni ?_
 refine Ws ?_
 refine Sq ?_
 refine Rg 3 ?_
 refine Om (.i a0) ?_
 obtain ⟨r1,hr1,hM⟩:=zap hM
 refine zbo (bs:=[.i a0,.i 0,.i 9999]) (by decide) rfl rfl ((zcL hr1).le (.k (.k (.k .nil)))) ?_
 refine Oa (.b r1) ?_
 refine Ni ?_
 refine zfX [(2,.b r1)] (.k .nil) ?_
 refine zbB ?_
 refine zbL (x:=.b r1) (f:=fun r=>.b r) (.inr rfl) ?_ (.refl _) (Option.some.inj hM) hS
 exact (zaJ (zau (x:=.b r1) rfl))
theorem ziy {n:Nat} {a0:Tray} {a1:Int} {r:Int} (hM:zeP n a0 a1=some r):zaS Try.prog 25 [.agg (Tray.cells a0),.i a1] (.i r):=by
 refine zaF mixed Try.func25 rfl (by decide) Try.ntmps25 (by simp) ?pure fun H0 g hf=>?_
 case pure=>exact .v _
 rw [zaA]
 change wpA _ _ _ _ (Fr.of [(0,.agg (Tray.cells a0)),(1,.i a1)]) H0 g
 have hS:=St.start hf
 refine Sq ?_
 refine Rg 2 ?_
 refine zeZ (v:=.agg (Tray.cells a0)) (cs:=(Tray.cells a0)) hS (by decide) rfl rfl (by omega) fun H hS=>?_
 refine Oa (.i 0) ?_
 refine Ni ?_
 refine zcW (L':=[]) 0 2 hS rfl rfl rfl fun H hS=>?_
 refine Ws ?_
 refine Sq ?_
 refine Sq ?_
 refine Rg 5 ?_
 refine Of ((Tray.cells a0)) zdu ?_
 refine Olp (.sl .no 2 (a0.Presses.map TrayPress.cells)) zcJ zdq ?_
 refine zcI (n:=a0.Presses.length) (by decide) rfl (List.length_map _) zee ?_
 refine Om (.i a1) ?_
 refine Oi (.b (decide ((a0.Presses.length:Int)>a1))) ?_
 refine Ni ?_
 refine Ws ?_
 rcases bft (decide ((a0.Presses.length:Int)>a1)) with hb1 | hb1
 ·replace hM:=ifT hM hb1
  refine Ct hb1 ?_
  refine Sq ?_
  refine Rg 1 ?_
  refine Oa (.i 20) ?_
  refine Ni ?_
  refine Ws ?_
  refine zbB ?_
  refine zay ?_
  refine zbL (x:=.i 20) (f:=fun r=>.i r) (.inr rfl) ?_ (.refl _) (Option.some.inj hM) hS
  exact (zaJ (zau (x:=.i 20) rfl))
 ·replace hM:=ifF hM hb1
  refine Cf hb1 ?_
  refine zaI ?_
  refine Ws ?_
  refine zaY (J:=Unit) (fun j=>[]) (fun j H' g'=>St (·<g) H0 [] H' g'/\zeb=some r) ?_ ?_
  ·rintro _ H g1 ⟨hS,hM⟩
   change wpA _ _ _ _ (Fr.of []) _ _
   replace hS:St (·<g) H0 [] H g1:=hS
   replace hM:zeb=some r:=hM
   refine Sq ?_
   refine Rg 1 ?_
   refine Oa (.i 0) ?_
   refine Ni ?_
   refine Ws ?_
   refine zbB ?_
   refine zbL (x:=.i 0) (f:=fun r=>.i r) (.inr rfl) ?_ (.refl _) (Option.some.inj hM) hS
   exact (zaJ (zau (x:=.i 0) rfl))
  ·refine Sq ?_
   refine Rg 1 ?_
   refine Oa (.i 0) ?_
   refine Ni ?_
   refine Ws ?_
   refine zaB ?_
   refine zcx (V:=Int) (fun v=>[(2,.ep (Tray.cells a0)),(5,.i v)]) (fun v m2 H' g'=>St (·<g) H0 [] H' g'/\zbW a0 m2 v=some r) (n:=n) 0 (.k (.k .nil)) ⟨(hS.keep [] rfl).up (by omega),hM⟩ ?_
   rintro v2 m2 H g2 ⟨hS,hM⟩
   obtain _ | m2:=m2
   ·exact nomatch (show none=some _ from hM)
   change wpA _ _ _ _ (Fr.of [(2,.ep (Tray.cells a0)),(5,.i v2)]) _ _
   replace hS:St (·<g) H0 [] H g2:=hS
   replace hM:zdB a0 (zbW a0 m2) v2=some r:=hM
   refine Sq ?_
   refine Sq ?_
   refine Rg 5 ?_
   refine Om (.i v2) ?_
   refine Of ((Tray.cells a0)) zdu ?_
   refine Olp (.sl .no 2 (a0.Presses.map TrayPress.cells)) zcJ zdq ?_
   refine zcI (n:=a0.Presses.length) (by decide) rfl (List.length_map _) zee ?_
   refine Oi (.b (decide (v2<(a0.Presses.length:Int)))) ?_
   refine Ni ?_
   refine Ws ?_
   rcases bft (decide (v2<(a0.Presses.length:Int))) with hb3 | hb3
   ·replace hM:=ifT hM hb3
    refine Ct hb3 ?_
    refine zaI ?_
    refine Ws ?_
    refine Sq ?_
    refine zaB ?_
    refine zaY (J:=Bool) (fun j=>[(2,.ep (Tray.cells a0)),(5,.i v2),(36,.b j)]) (fun j H' g'=>St (·<g) H0 [] H' g'/\zcT (zbW a0 m2) v2 j=some r) ?_ ?_
    ·rintro v4 H g3 ⟨hS,hM⟩
     change wpA _ _ _ _ (Fr.of [(2,.ep (Tray.cells a0)),(5,.i v2),(36,.b v4)]) _ _
     replace hS:St (·<g) H0 [] H g3:=hS
     replace hM:zcT (zbW a0 m2) v2 v4=some r:=hM
     rcases bft v4 with hb5 | hb5
     ·replace hM:=ifT hM hb5
      refine Ct hb5 ?_
      refine Sq ?_
      refine Rg 1 ?_
      refine Oa (.i 20) ?_
      refine Ni ?_
      refine Ws ?_
      refine zbB ?_
      refine zcm ?_
      refine zay ?_
      refine zdm ?_
      refine zcm ?_
      refine zej ?_
      refine zbL (x:=.i 20) (f:=fun r=>.i r) (.inr rfl) ?_ (.refl _) (Option.some.inj hM) hS
      exact (zaJ (zau (x:=.i 20) rfl))
     ·replace hM:=ifF hM hb5
      refine Cf hb5 ?_
      refine zaI ?_
      refine zak ?_
      refine Ws ?_
      refine Rg 3 ?_
      refine Om (.i v2) ?_
      refine Oi (.i (w64 (v2+1))) ?_
      refine Oa (.i (w64 (v2+1))) ?_
      refine Ni ?_
      exact zbY (w64 (v2+1)) (Nat.lt_succ_self _) (.k (.k .nil)) ⟨(hS.keep [] rfl).up (by omega),hM⟩
    ·have hS0:=hS
     refine zdb (n:=19) rfl (by kernel_rfl) ?_
     refine Olg (.agg (Tray.cells a0)) zdr ?_
     refine Of ((Tray.cells a0)) zdu ?_
     refine Olp (.sl .no 2 (a0.Presses.map TrayPress.cells)) zcJ zdq ?_
     refine Om (.i v2) ?_
     obtain ⟨x6,hx6,hM⟩:=zap hM
     refine zbr (xs:=a0.Presses) (f:=TrayPress.cells) (z:=v2) (u:=x6) (by decide) rfl rfl zdP hx6 ?_
     refine Of ([.i x6.Side,.i x6.Time]) zix ?_
     refine Olp (.i x6.Side) zai zas ?_
     obtain ⟨r7,hr7,hM⟩:=zap hM
     refine zbo (bs:=[.agg (Tray.cells a0),.i x6.Side]) (by decide) rfl rfl ((zgB hr7).le (.k (.k .nil))) ?_
     refine zgK (e:=r7) (by decide) rfl ?_
     refine Om (.b (!r7)) ?_
     rcases bft (!r7) with hb8 | hb8
     ·replace hM:=ifT hM hb8
      refine On (want:=false) hb8 ?_
      refine On (want:=false) hb8 ?_
      refine On (want:=false) hb8 ?_
      refine On (want:=false) hb8 ?_
      refine On (want:=false) hb8 ?_
      refine On (want:=false) hb8 ?_
      refine On (want:=false) hb8 ?_
      refine On (want:=false) hb8 ?_
      refine Pt (.b true) hb8 ?_
      refine Ni ?_
      exact zal true (.k (.k (.k .nil))) ⟨(hS.keep [] rfl).up (by omega),hM⟩
     ·replace hM:=ifF hM hb8
      refine Oy (want:=false) hb8 ?_
      refine Of ((Tray.cells a0)) zdu ?_
      refine Oy (want:=false) hb8 ?_
      refine Olp (.sl .no 2 (a0.Presses.map TrayPress.cells)) zcJ zdq ?_
      refine Oy (want:=false) hb8 ?_
      refine Om (.i v2) ?_
      refine Oy (want:=false) hb8 ?_
      obtain ⟨x9,hx9,hM⟩:=zap hM
      refine zbr (xs:=a0.Presses) (f:=TrayPress.cells) (z:=v2) (u:=x9) (by decide) rfl rfl zdP hx9 ?_
      refine Oy (want:=false) hb8 ?_
      refine Of ([.i x9.Side,.i x9.Time]) zfq ?_
      refine Oy (want:=false) hb8 ?_
      refine Olp (.i x9.Time) zai zas ?_
      refine Oy (want:=false) hb8 ?_
      obtain ⟨r10,hr10,hM⟩:=zap hM
      refine zbo (bs:=[.i x9.Time]) (by decide) rfl rfl ((ziF hr10).le (.k .nil)) ?_
      refine Oy (want:=false) hb8 ?_
      refine zgK (e:=r10) (by decide) rfl ?_
      refine Pf (.b (!r10)) hb8 ?_
      refine Ni ?_
      exact zal (!r10) (.k (.k (.k .nil))) ⟨(hS.keep [] rfl).up (by omega),hM⟩
   ·replace hM:=ifF hM hb3
    refine Cf hb3 ?_
    refine zcw ?_
    refine zax ?_
    refine zaq ?_
    refine zaG ?_
    exact zal () .nil ⟨(hS.keep [] rfl).up (by omega),hM⟩
theorem zjB {n:Nat} {a0:Tray} {r:Int} (hM:zfC n a0=some r):zaS Try.prog 7 [.agg (Tray.cells a0)] (.i r):=by
 refine zaF mixed Try.func7 rfl (by decide) Try.ntmps7 (by simp) ?pure fun H0 g hf=>?_
 case pure=>exact .v _
 rw [zaA]
 change wpA _ _ _ _ (Fr.of [(0,.agg (Tray.cells a0))]) H0 g
 have hS:=St.start hf
 refine Sq ?_
 refine Rg 2 ?_
 refine zeZ (v:=.agg (Tray.cells a0)) (cs:=(Tray.cells a0)) hS (by decide) rfl rfl (by omega) fun H hS=>?_
 refine Oa (.i 0) ?_
 refine Ni ?_
 refine zcW (L':=[]) 0 1 hS rfl rfl rfl fun H hS=>?_
 refine Ws ?_
 refine Sq ?_
 refine zaY (J:=Bool) (fun j=>[(1,.ep (Tray.cells a0)),(34,.b j)]) (fun j H' g'=>St (·<g) H0 [] H' g'/\zb8 n a0 j=some r) ?_ ?_
 ·rintro v1 H g1 ⟨hS,hM⟩
  change wpA _ _ _ _ (Fr.of [(1,.ep (Tray.cells a0)),(34,.b v1)]) _ _
  replace hS:St (·<g) H0 [] H g1:=hS
  replace hM:zb8 n a0 v1=some r:=hM
  rcases bft v1 with hb2 | hb2
  ·replace hM:=ifT hM hb2
   refine Ct hb2 ?_
   refine Sq ?_
   refine Rg 1 ?_
   refine Oa (.i 20) ?_
   refine Ni ?_
   refine Ws ?_
   refine zbB ?_
   refine zay ?_
   refine zbL (x:=.i 20) (f:=fun r=>.i r) (.inr rfl) ?_ (.refl _) (Option.some.inj hM) hS
   exact (zaJ (zau (x:=.i 20) rfl))
  ·replace hM:=ifF hM hb2
   refine Cf hb2 ?_
   refine zaI ?_
   refine Ws ?_
   refine zaY (J:=Unit) (fun j=>[(1,.ep (Tray.cells a0))]) (fun j H' g'=>St (·<g) H0 [] H' g'/\zeA n a0=some r) ?_ ?_
   ·rintro _ H g2 ⟨hS,hM⟩
    change wpA _ _ _ _ (Fr.of [(1,.ep (Tray.cells a0))]) _ _
    replace hS:St (·<g) H0 [] H g2:=hS
    replace hM:zeA n a0=some r:=hM
    refine Sq ?_
    refine Rg 3 ?_
    refine Olg (.agg (Tray.cells a0)) zdr ?_
    obtain ⟨r3,hr3,hM⟩:=zap hM
    refine zbo (bs:=[.agg (Tray.cells a0),.i 12]) (by decide) rfl rfl ((ziy hr3).le (.k (.k .nil))) ?_
    refine Oa (.i r3) ?_
    refine Ni ?_
    refine Ws ?_
    refine zbB ?_
    refine zbL (x:=.i r3) (f:=fun r=>.i r) (.inr rfl) ?_ (.refl _) (Option.some.inj hM) hS
    exact (zaJ (zau (x:=.i r3) rfl))
   ·refine Sq ?_
    refine Rg 1 ?_
    refine Oa (.i 0) ?_
    refine Ni ?_
    refine Ws ?_
    refine zaB ?_
    refine zcx (V:=Int) (fun v=>[(1,.ep (Tray.cells a0)),(3,.i v)]) (fun v m3 H' g'=>St (·<g) H0 [] H' g'/\zb7 n a0 m3 v=some r) (n:=n) 0 (.k (.k .nil)) ⟨(hS.keep [] rfl).up (by omega),hM⟩ ?_
    rintro v4 m3 H g3 ⟨hS,hM⟩
    obtain _ | m3:=m3
    ·exact nomatch (show none=some _ from hM)
    change wpA _ _ _ _ (Fr.of [(1,.ep (Tray.cells a0)),(3,.i v4)]) _ _
    replace hS:St (·<g) H0 [] H g3:=hS
    replace hM:zec n a0 (zb7 n a0 m3) v4=some r:=hM
    refine Sq ?_
    refine Sq ?_
    refine Rg 5 ?_
    refine Om (.i v4) ?_
    refine Of ((Tray.cells a0)) zbK ?_
    refine Olp (.sl .no 2 (a0.Records.map TrayRecord.cells)) zcv zc3 ?_
    refine zcI (n:=a0.Records.length) (by decide) rfl (List.length_map _) zc9 ?_
    refine Oi (.b (decide (v4<(a0.Records.length:Int)))) ?_
    refine Ni ?_
    refine Ws ?_
    rcases bft (decide (v4<(a0.Records.length:Int))) with hb5 | hb5
    ·replace hM:=ifT hM hb5
     refine Ct hb5 ?_
     refine zaI ?_
     refine Ws ?_
     refine Sq ?_
     refine zaB ?_
     refine zaY (J:=Bool) (fun j=>[(1,.ep (Tray.cells a0)),(3,.i v4),(59,.b j)]) (fun j H' g'=>St (·<g) H0 [] H' g'/\zdw (zb7 n a0 m3) v4 j=some r) ?_ ?_
     ·rintro v6 H g4 ⟨hS,hM⟩
      change wpA _ _ _ _ (Fr.of [(1,.ep (Tray.cells a0)),(3,.i v4),(59,.b v6)]) _ _
      replace hS:St (·<g) H0 [] H g4:=hS
      replace hM:zdw (zb7 n a0 m3) v4 v6=some r:=hM
      rcases bft v6 with hb7 | hb7
      ·replace hM:=ifT hM hb7
       refine Ct hb7 ?_
       refine Sq ?_
       refine Rg 1 ?_
       refine Oa (.i 20) ?_
       refine Ni ?_
       refine Ws ?_
       refine zbB ?_
       refine zcm ?_
       refine zay ?_
       refine zdm ?_
       refine zcm ?_
       refine zej ?_
       refine zbL (x:=.i 20) (f:=fun r=>.i r) (.inr rfl) ?_ (.refl _) (Option.some.inj hM) hS
       exact (zaJ (zau (x:=.i 20) rfl))
      ·replace hM:=ifF hM hb7
       refine Cf hb7 ?_
       refine zaI ?_
       refine zak ?_
       refine Ws ?_
       refine Rg 3 ?_
       refine Om (.i v4) ?_
       refine Oi (.i (w64 (v4+1))) ?_
       refine Oa (.i (w64 (v4+1))) ?_
       refine Ni ?_
       exact zbY (w64 (v4+1)) (Nat.lt_succ_self _) (.k (.k .nil)) ⟨(hS.keep [] rfl).up (by omega),hM⟩
     ·refine Rg 18 ?_
      refine Of ((Tray.cells a0)) zbK ?_
      refine Olp (.sl .no 2 (a0.Records.map TrayRecord.cells)) zcv zc3 ?_
      refine Om (.i v4) ?_
      obtain ⟨x8,hx8,hM⟩:=zap hM
      refine zbr (xs:=a0.Records) (f:=TrayRecord.cells) (z:=v4) (u:=x8) (by decide) rfl rfl zgQ hx8 ?_
      refine Of ((TrayRecord.cells x8)) zhh ?_
      refine Olp (.i x8.Front) zai zas ?_
      obtain ⟨r9,hr9,hM⟩:=zap hM
      refine zbo (bs:=[.i x8.Front,.i 1,.i 999]) (by decide) rfl rfl ((zcL hr9).le (.k (.k (.k .nil)))) ?_
      refine zgK (e:=r9) (by decide) rfl ?_
      refine Om (.b (!r9)) ?_
      rcases bft (!r9) with hb10 | hb10
      ·replace hM:=ifT hM hb10
       refine On (want:=false) hb10 ?_
       refine On (want:=false) hb10 ?_
       refine On (want:=false) hb10 ?_
       refine On (want:=false) hb10 ?_
       refine On (want:=false) hb10 ?_
       refine On (want:=false) hb10 ?_
       refine On (want:=false) hb10 ?_
       refine On (want:=false) hb10 ?_
       refine Pt (.b true) hb10 ?_
       refine Ni ?_
       exact zal true (.k (.k (.k .nil))) ⟨(hS.keep [] rfl).up (by omega),hM⟩
      ·replace hM:=ifF hM hb10
       refine Oy (want:=false) hb10 ?_
       refine Of ((Tray.cells a0)) zbK ?_
       refine Oy (want:=false) hb10 ?_
       refine Olp (.sl .no 2 (a0.Records.map TrayRecord.cells)) zcv zc3 ?_
       refine Oy (want:=false) hb10 ?_
       refine Om (.i v4) ?_
       refine Oy (want:=false) hb10 ?_
       obtain ⟨x11,hx11,hM⟩:=zap hM
       refine zbr (xs:=a0.Records) (f:=TrayRecord.cells) (z:=v4) (u:=x11) (by decide) rfl rfl zgQ hx11 ?_
       refine Oy (want:=false) hb10 ?_
       refine Of ((TrayRecord.cells x11)) zhi ?_
       refine Oy (want:=false) hb10 ?_
       refine Olp (.i x11.Back) zai zas ?_
       refine Oy (want:=false) hb10 ?_
       obtain ⟨r12,hr12,hM⟩:=zap hM
       refine zbo (bs:=[.i x11.Back,.i 1,.i 999]) (by decide) rfl rfl ((zcL hr12).le (.k (.k (.k .nil)))) ?_
       refine Oy (want:=false) hb10 ?_
       refine zgK (e:=r12) (by decide) rfl ?_
       refine Pf (.b (!r12)) hb10 ?_
       refine Ni ?_
       exact zal (!r12) (.k (.k (.k .nil))) ⟨(hS.keep [] rfl).up (by omega),hM⟩
    ·replace hM:=ifF hM hb5
     refine Cf hb5 ?_
     refine zcw ?_
     refine zax ?_
     refine zaq ?_
     refine zaG ?_
     exact zal () (.k .nil) ⟨(hS.keep [] rfl).up (by omega),hM⟩
 ·refine Rg 31 ?_
  refine Of ((Tray.cells a0)) zbK ?_
  refine Olp (.sl .no 2 (a0.Records.map TrayRecord.cells)) zcv zc3 ?_
  refine zcI (n:=a0.Records.length) (by decide) rfl (List.length_map _) zc9 ?_
  obtain ⟨r13,hr13,hM⟩:=zap hM
  refine zbo (bs:=[.i (a0.Records.length:Int),.i 1,.i 6]) (by decide) rfl rfl ((zcL hr13).le (.k (.k (.k .nil)))) ?_
  refine zgK (e:=r13) (by decide) rfl ?_
  refine Om (.b (!r13)) ?_
  rcases bft (!r13) with hb14 | hb14
  ·replace hM:=ifT hM hb14
   refine On (want:=false) hb14 ?_
   refine On (want:=false) hb14 ?_
   refine On (want:=false) hb14 ?_
   refine On (want:=false) hb14 ?_
   refine On (want:=false) hb14 ?_
   refine On (want:=false) hb14 ?_
   refine On (want:=false) hb14 ?_
   refine On (want:=false) hb14 ?_
   refine Pt (.b true) hb14 ?_
   refine Om (.b true) ?_
   refine Og ?_
   refine Og ?_
   refine Og ?_
   refine Og ?_
   refine zb3 (j:=19) (by decide) rfl ?_
   refine zb3 (j:=19) (by decide) rfl ?_
   refine zb3 (j:=19) (by decide) rfl ?_
   refine Og ?_
   refine zcy (v:=.b true) (e:=true) (by decide) rfl rfl rfl ?_
   refine Om (.b true) ?_
   refine Og ?_
   refine Og ?_
   refine Og ?_
   refine Og ?_
   refine zcy (v:=.b true) (e:=true) (by decide) rfl rfl rfl ?_
   refine Ni ?_
   exact zal true (.k (.k .nil)) ⟨(hS.keep [] rfl).up (by omega),hM⟩
  ·replace hM:=ifF hM hb14
   refine Oy (want:=false) hb14 ?_
   refine Of ((Tray.cells a0)) zf6 ?_
   refine Oy (want:=false) hb14 ?_
   refine Olp (.i a0.At) zai zas ?_
   refine Oy (want:=false) hb14 ?_
   refine Of ((Tray.cells a0)) zbK ?_
   refine Oy (want:=false) hb14 ?_
   refine Olp (.sl .no 2 (a0.Records.map TrayRecord.cells)) zcv zc3 ?_
   refine Oy (want:=false) hb14 ?_
   refine zcI (n:=a0.Records.length) (by decide) rfl (List.length_map _) zc9 ?_
   refine Oy (want:=false) hb14 ?_
   refine Oi (.i (w64 ((a0.Records.length:Int)-1))) ?_
   refine Oy (want:=false) hb14 ?_
   obtain ⟨r15,hr15,hM⟩:=zap hM
   refine zbo (bs:=[.i a0.At,.i 0,.i (w64 ((a0.Records.length:Int)-1))]) (by decide) rfl rfl ((zcL hr15).le (.k (.k (.k .nil)))) ?_
   refine Oy (want:=false) hb14 ?_
   refine zgK (e:=r15) (by decide) rfl ?_
   refine Pf (.b (!r15)) hb14 ?_
   refine Om (.b (!r15)) ?_
   rcases bft (!r15) with hb16 | hb16
   ·replace hM:=ifT hM hb16
    refine On (want:=false) hb16 ?_
    refine On (want:=false) hb16 ?_
    refine On (want:=false) hb16 ?_
    refine On (want:=false) hb16 ?_
    refine zb3 (j:=19) (by decide) rfl ?_
    refine zb3 (j:=19) (by decide) rfl ?_
    refine zb3 (j:=19) (by decide) rfl ?_
    refine On (want:=false) hb16 ?_
    refine Pt (.b true) hb16 ?_
    refine Om (.b true) ?_
    refine Og ?_
    refine Og ?_
    refine Og ?_
    refine Og ?_
    refine zcy (v:=.b true) (e:=true) (by decide) rfl rfl rfl ?_
    refine Ni ?_
    exact zal true (.k (.k .nil)) ⟨(hS.keep [] rfl).up (by omega),hM⟩
   ·replace hM:=ifF hM hb16
    refine Oy (want:=false) hb16 ?_
    refine Of ((Tray.cells a0)) zfp ?_
    refine Oy (want:=false) hb16 ?_
    refine Olp (.i a0.Way) zai zas ?_
    refine Oy (want:=false) hb16 ?_
    refine Oi (.b (a0.Way != 1)) ?_
    refine Oy (want:=false) hb16 ?_
    refine Om (.b (a0.Way != 1)) ?_
    rcases bft (a0.Way != 1) with hb17 | hb17
    ·replace hM:=ifT hM hb17
     refine Oy (want:=true) hb17 ?_
     refine Of ((Tray.cells a0)) zfp ?_
     refine Oy (want:=true) hb17 ?_
     refine Olp (.i a0.Way) zai zas ?_
     refine Oy (want:=true) hb17 ?_
     refine Oi (.b (a0.Way != (-1))) ?_
     refine Oy (want:=false) hb16 ?_
     refine Pt (.b (a0.Way != (-1))) hb17 ?_
     refine Pf (.b (a0.Way != (-1))) hb16 ?_
     refine Om (.b (a0.Way != (-1))) ?_
     rcases bft (a0.Way != (-1)) with hb18 | hb18
     ·replace hM:=ifT hM hb18
      refine On (want:=false) hb18 ?_
      refine On (want:=false) hb18 ?_
      refine On (want:=false) hb18 ?_
      refine On (want:=false) hb18 ?_
      refine Pt (.b true) hb18 ?_
      refine Ni ?_
      exact zal true (.k (.k .nil)) ⟨(hS.keep [] rfl).up (by omega),hM⟩
     ·replace hM:=ifF hM hb18
      refine Oy (want:=false) hb18 ?_
      refine Of ((Tray.cells a0)) ze4 ?_
      refine Oy (want:=false) hb18 ?_
      refine Olp (.i a0.Step) zai zas ?_
      refine Oy (want:=false) hb18 ?_
      obtain ⟨r19,hr19,hM⟩:=zap hM
      refine zbo (bs:=[.i a0.Step,.i 0,.i 60]) (by decide) rfl rfl ((zcL hr19).le (.k (.k (.k .nil)))) ?_
      refine Oy (want:=false) hb18 ?_
      refine zgK (e:=r19) (by decide) rfl ?_
      refine Pf (.b (!r19)) hb18 ?_
      refine Ni ?_
      exact zal (!r19) (.k (.k .nil)) ⟨(hS.keep [] rfl).up (by omega),hM⟩
    ·replace hM:=ifF hM hb17
     refine On (want:=true) hb17 ?_
     refine On (want:=true) hb17 ?_
     refine On (want:=true) hb17 ?_
     refine Oy (want:=false) hb16 ?_
     refine Pf (.b false) hb17 ?_
     refine Pf (.b false) hb16 ?_
     refine Om (.b false) ?_
     refine Oz ?_
     refine Of ((Tray.cells a0)) ze4 ?_
     refine Oz ?_
     refine Olp (.i a0.Step) zai zas ?_
     refine Oz ?_
     obtain ⟨r20,hr20,hM⟩:=zap hM
     refine zbo (bs:=[.i a0.Step,.i 0,.i 60]) (by decide) rfl rfl ((zcL hr20).le (.k (.k (.k .nil)))) ?_
     refine Oz ?_
     refine zgK (e:=r20) (by decide) rfl ?_
     refine zby (v:=.b (!r20)) (e:=false) (by decide) rfl rfl rfl ?_
     refine Ni ?_
     exact zal (!r20) (.k (.k .nil)) ⟨(hS.keep [] rfl).up (by omega),hM⟩
theorem zc1 {a0:Int} {a1:Int} {a2:Int} {r:Bool} (hM:zch a0 a1 a2=some r):zaS Try.prog 54 [.i a0,.i a1,.i a2] (.b r):=by
 refine zaF mixed Try.func54 rfl (by decide) Try.ntmps54 (by simp) ?pure fun H0 g hf=>?_
 case pure=>exact .v _
 rw [zaA]
 change wpA _ _ _ _ (Fr.of [(0,.i a0),(1,.i a1),(2,.i a2)]) H0 g
 have hS:=St.start hf
 refine Sq ?_
 refine Rg 1 ?_
 refine Oa (.b false) ?_
 refine Ni ?_
 refine Ws ?_
 refine zaY (J:=Bool) (fun j=>[(6,.b j)]) (fun j H' g'=>St (·<g) H0 [] H' g'/\zcP j=some r) ?_ ?_
 ·rintro v1 H g1 ⟨hS,hM⟩
  change wpA _ _ _ _ (Fr.of [(6,.b v1)]) _ _
  replace hS:St (·<g) H0 [] H g1:=hS
  replace hM:zcP v1=some r:=hM
  refine zbB ?_
  refine zbL (x:=.b v1) (f:=fun r=>.b r) (.inr rfl) ?_ (.refl _) (Option.some.inj hM) hS
  exact (zaJ (zau (x:=.b v1) rfl))
 ·refine Rg 9 ?_
  refine Om (.i a0) ?_
  refine Om (.i a1) ?_
  refine Oi (.b (decide (a0≥a1))) ?_
  refine Om (.b (decide (a0≥a1))) ?_
  rcases bft (decide (a0≥a1)) with hb2 | hb2
  ·replace hM:=ifT hM hb2
   refine Oy (want:=true) hb2 ?_
   refine Om (.i a0) ?_
   refine Oy (want:=true) hb2 ?_
   refine Om (.i a2) ?_
   refine Oy (want:=true) hb2 ?_
   refine Oi (.b (decide (a0<=a2))) ?_
   refine Pt (.b (decide (a0<=a2))) hb2 ?_
   refine Oa (.b (decide (a0<=a2))) ?_
   refine Ni ?_
   exact zal (decide (a0<=a2)) (.k .nil) ⟨(hS.keep [] rfl).up (by omega),hM⟩
  ·replace hM:=ifF hM hb2
   refine On (want:=true) hb2 ?_
   refine On (want:=true) hb2 ?_
   refine On (want:=true) hb2 ?_
   refine Pf (.b false) hb2 ?_
   refine Oa (.b false) ?_
   refine Ni ?_
   exact zal false (.k .nil) ⟨(hS.keep [] rfl).up (by omega),hM⟩
theorem zhj {n:Nat} {a0:List RoyalPart} {a1:Int} {r:Bool} (hM:zds n a0 a1=some r):zaS Try.prog 83 [.sl .no 2 (a0.map RoyalPart.cells),.i a1] (.b r):=by
 refine zaF mixed Try.func83 rfl (by decide) Try.ntmps83 (by simp) ?pure fun H0 g hf=>?_
 case pure=>exact .v _
 rw [zaA]
 change wpA _ _ _ _ (Fr.of [(0,.sl .no 2 (a0.map RoyalPart.cells)),(1,.i a1)]) H0 g
 have hS:=St.start hf
 refine Sq ?_
 refine Rg 1 ?_
 refine Oa (.b false) ?_
 refine Ni ?_
 refine Ws ?_
 refine Sq ?_
 refine Rg 2 ?_
 refine Oa (.i 0) ?_
 refine Oa (.i (-1)) ?_
 refine Ni ?_
 refine Ws ?_
 refine zaY (J:=Int) (fun j=>[(5,.i j)]) (fun j H' g'=>St (·<g) H0 [] H' g'/\zdo j=some r) ?_ ?_
 ·rintro v1 H g1 ⟨hS,hM⟩
  change wpA _ _ _ _ (Fr.of [(5,.i v1)]) _ _
  replace hS:St (·<g) H0 [] H g1:=hS
  replace hM:zdo v1=some r:=hM
  refine Sq ?_
  refine Rg 3 ?_
  refine Om (.i v1) ?_
  refine Oi (.b (v1==100)) ?_
  refine Oa (.b (v1==100)) ?_
  refine Ni ?_
  refine Ws ?_
  refine zbB ?_
  refine zbL (x:=.b (v1==100)) (f:=fun r=>.b r) (.inr rfl) ?_ (.refl _) (Option.some.inj hM) hS
  exact (zaJ (zau (x:=.b (v1==100)) rfl))
 ·refine Sq ?_
  refine Rg 3 ?_
  refine Om (.sl .no 2 (a0.map RoyalPart.cells)) ?_
  refine zcI (n:=a0.length) (by decide) rfl (List.length_map _) zln ?_
  refine Om (.i 0) ?_
  refine Ni ?_
  refine Ws ?_
  refine zaB ?_
  refine zcx (V:=Int×Int×Int) (fun v=>[(1,.i a1),(5,.i v.1),(6,.i v.2.1),(9,.sl .no 2 (a0.map RoyalPart.cells)),(10,.i (a0.length:Int)),(11,.i v.2.2)]) (fun v m2 H' g'=>St (·<g) H0 [] H' g'/\za1 a0 a1 m2 v.1 v.2.1 v.2.2=some r) (n:=n) (0,(-1),0) (.k (.k (.k (.k (.k (.k .nil)))))) ⟨(hS.keep [] rfl).up (by omega),hM⟩ ?_
  rintro ⟨v2,v3,v4⟩ m2 H g2 ⟨hS,hM⟩
  obtain _ | m2:=m2
  ·exact nomatch (show none=some _ from hM)
  change wpA _ _ _ _ (Fr.of [(1,.i a1),(5,.i v2),(6,.i v3),(9,.sl .no 2 (a0.map RoyalPart.cells)),(10,.i (a0.length:Int)),(11,.i v4)]) _ _
  replace hS:St (·<g) H0 [] H g2:=hS
  replace hM:zcA a0 a1 (za1 a0 a1 m2) v2 v3 v4=some r:=hM
  refine Sq ?_
  refine Rg 1 ?_
  refine Oi (.b (decide (v4<(a0.length:Int)))) ?_
  refine Ni ?_
  refine Ws ?_
  refine Sq ?_
  rcases bft (decide (v4<(a0.length:Int))) with hb5 | hb5
  ·replace hM:=ifT hM hb5
   refine Ct hb5 ?_
   refine zaI ?_
   refine Ws ?_
   refine Sq ?_
   refine zaB ?_
   refine Sq ?_
   refine Rg 4 ?_
   obtain ⟨x6,hx6,hM⟩:=zap hM
   refine zbr (xs:=a0) (f:=RoyalPart.cells) (z:=v4) (u:=x6) (by decide) rfl rfl zis hx6 ?_
   refine Olg (.agg (RoyalPart.cells x6)) zlk ?_
   refine zem hS (by decide) ze3 (by omega) fun H hS=>?_
   refine zbC (v:=.agg (RoyalPart.cells x6)) (ns:=(RoyalPart.cells x6)) (L':=[(g2+1+2,.cells (RoyalPart.cells x6))]) 0 hS rfl rfl .no rfl rfl zll nlb rfl fun H hS=>?_
   refine Ni ?_
   refine zcW (L':=[]) 0 8 hS rfl rfl rfl fun H hS=>?_
   refine Ws ?_
   refine Sq ?_
   refine zaY (J:=Bool) (fun j=>[(1,.i a1),(5,.i v2),(8,.ep (RoyalPart.cells x6)),(9,.sl .no 2 (a0.map RoyalPart.cells)),(10,.i (a0.length:Int)),(11,.i v4),(30,.b j)]) (fun j H' g'=>St (·<g) H0 [] H' g'/\zco (za1 a0 a1 m2) v2 v4 x6 j=some r) ?_ ?_
   ·rintro v7 H g3 ⟨hS,hM⟩
    change wpA _ _ _ _ (Fr.of [(1,.i a1),(5,.i v2),(8,.ep (RoyalPart.cells x6)),(9,.sl .no 2 (a0.map RoyalPart.cells)),(10,.i (a0.length:Int)),(11,.i v4),(30,.b v7)]) _ _
    replace hS:St (·<g) H0 [] H g3:=hS
    replace hM:zco (za1 a0 a1 m2) v2 v4 x6 v7=some r:=hM
    rcases bft v7 with hb8 | hb8
    ·replace hM:=ifT hM hb8
     refine Ct hb8 ?_
     refine Sq ?_
     refine Rg 1 ?_
     refine Oa (.b false) ?_
     refine Ni ?_
     refine Ws ?_
     refine zbB ?_
     refine zay ?_
     refine zcm ?_
     refine zay ?_
     refine zdm ?_
     refine zcm ?_
     refine zej ?_
     refine zbL (x:=.b false) (f:=fun r=>.b r) (.inr rfl) ?_ (.refl _) (Option.some.inj hM) hS
     exact (zaJ (zau (x:=.b false) rfl))
    ·replace hM:=ifF hM hb8
     refine Cf hb8 ?_
     refine zaI ?_
     refine Ws ?_
     have hS0:=hS
     refine zdb (n:=8) rfl (by kernel_rfl) ?_
     refine Om (.i v2) ?_
     refine Of ((RoyalPart.cells x6)) ziv ?_
     refine Olp (.i x6.Percent) zai zas ?_
     refine Oi (.i (w64 (v2+x6.Percent))) ?_
     refine Of ((RoyalPart.cells x6)) zhg ?_
     refine Olp (.i x6.Who) zai zas ?_
     refine Oa (.i (w64 (v2+x6.Percent))) ?_
     refine Oa (.i x6.Who) ?_
     refine Ni ?_
     refine zak ?_
     refine Ws ?_
     refine Rg 2 ?_
     refine Oi (.i (w64 (v4+1))) ?_
     refine Om (.i (w64 (v4+1))) ?_
     refine Ni ?_
     exact zbY (w64 (v2+x6.Percent),x6.Who,w64 (v4+1)) (Nat.lt_succ_self _) (.k (.k (.k (.k (.k (.k .nil)))))) ⟨(hS.keep [] rfl).up (by omega),hM⟩
   ·refine Rg 16 ?_
    refine Of ((RoyalPart.cells x6)) zhg ?_
    refine Olp (.i x6.Who) zai zas ?_
    refine Om (.i v3) ?_
    refine Oi (.b (decide (x6.Who<=v3))) ?_
    refine Om (.b (decide (x6.Who<=v3))) ?_
    rcases bft (decide (x6.Who<=v3)) with hb9 | hb9
    ·replace hM:=ifT hM hb9
     refine On (want:=false) hb9 ?_
     refine On (want:=false) hb9 ?_
     refine On (want:=false) hb9 ?_
     refine On (want:=false) hb9 ?_
     refine Pt (.b true) hb9 ?_
     refine Om (.b true) ?_
     refine Og ?_
     refine Og ?_
     refine Og ?_
     refine Og ?_
     refine zcy (v:=.b true) (e:=true) (by decide) rfl rfl rfl ?_
     refine Ni ?_
     exact zal true (.k (.k (.k (.k (.k (.k (.k .nil))))))) ⟨(hS.keep [] rfl).up (by omega),hM⟩
    ·replace hM:=ifF hM hb9
     refine Oy (want:=false) hb9 ?_
     refine Of ((RoyalPart.cells x6)) zhg ?_
     refine Oy (want:=false) hb9 ?_
     refine Olp (.i x6.Who) zai zas ?_
     refine Oy (want:=false) hb9 ?_
     refine Om (.i a1) ?_
     refine Oy (want:=false) hb9 ?_
     refine Oi (.b (decide (x6.Who≥a1))) ?_
     refine Pf (.b (decide (x6.Who≥a1))) hb9 ?_
     refine Om (.b (decide (x6.Who≥a1))) ?_
     rcases bft (decide (x6.Who≥a1)) with hb10 | hb10
     ·replace hM:=ifT hM hb10
      refine On (want:=false) hb10 ?_
      refine On (want:=false) hb10 ?_
      refine On (want:=false) hb10 ?_
      refine On (want:=false) hb10 ?_
      refine Pt (.b true) hb10 ?_
      refine Ni ?_
      exact zal true (.k (.k (.k (.k (.k (.k (.k .nil))))))) ⟨(hS.keep [] rfl).up (by omega),hM⟩
     ·replace hM:=ifF hM hb10
      refine Oy (want:=false) hb10 ?_
      refine Of ((RoyalPart.cells x6)) ziv ?_
      refine Oy (want:=false) hb10 ?_
      refine Olp (.i x6.Percent) zai zas ?_
      refine Oy (want:=false) hb10 ?_
      obtain ⟨r11,hr11,hM⟩:=zap hM
      refine zbo (bs:=[.i x6.Percent,.i 1,.i 100]) (by decide) rfl rfl ((zc1 hr11).le (.k (.k (.k .nil)))) ?_
      refine Oy (want:=false) hb10 ?_
      refine zgK (e:=r11) (by decide) rfl ?_
      refine Pf (.b (!r11)) hb10 ?_
      refine Ni ?_
      exact zal (!r11) (.k (.k (.k (.k (.k (.k (.k .nil))))))) ⟨(hS.keep [] rfl).up (by omega),hM⟩
  ·replace hM:=ifF hM hb5
   refine Cf hb5 ?_
   refine zcw ?_
   refine zax ?_
   refine zaq ?_
   refine zaG ?_
   exact zal v2 (.k .nil) ⟨(hS.keep [] rfl).up (by omega),hM⟩
theorem zhB {n:Nat} {a0:Royal} {r:Int} (hM:zep n a0=some r):zaS Try.prog 50 [.agg (Royal.cells a0)] (.i r):=by
 refine zaF mixed Try.func50 rfl (by decide) Try.ntmps50 (by simp) ?pure fun H0 g hf=>?_
 case pure=>exact .v _
 rw [zaA]
 change wpA _ _ _ _ (Fr.of [(0,.agg (Royal.cells a0))]) H0 g
 have hS:=St.start hf
 refine Sq ?_
 refine Rg 2 ?_
 refine zeZ (v:=.agg (Royal.cells a0)) (cs:=(Royal.cells a0)) hS (by decide) rfl rfl (by omega) fun H hS=>?_
 refine Oa (.i 0) ?_
 refine Ni ?_
 refine zcW (L':=[]) 0 1 hS rfl rfl rfl fun H hS=>?_
 refine Ws ?_
 refine zaY (J:=Bool) (fun j=>[(1,.ep (Royal.cells a0)),(3,.b j)]) (fun j H' g'=>St (·<g) H0 [] H' g'/\zcY n a0 j=some r) ?_ ?_
 ·rintro v1 H g1 ⟨hS,hM⟩
  change wpA _ _ _ _ (Fr.of [(1,.ep (Royal.cells a0)),(3,.b v1)]) _ _
  replace hS:St (·<g) H0 [] H g1:=hS
  replace hM:zcY n a0 v1=some r:=hM
  refine zaY (J:=Bool) (fun j=>[(1,.ep (Royal.cells a0)),(3,.b j)]) (fun j H' g'=>St (·<g) H0 [] H' g'/\zeo n a0 j=some r) ?_ ?_
  ·rintro v2 H g2 ⟨hS,hM⟩
   change wpA _ _ _ _ (Fr.of [(1,.ep (Royal.cells a0)),(3,.b v2)]) _ _
   replace hS:St (·<g) H0 [] H g2:=hS
   replace hM:zeo n a0 v2=some r:=hM
   refine zaY (J:=Bool) (fun j=>[(3,.b j)]) (fun j H' g'=>St (·<g) H0 [] H' g'/\zdC j=some r) ?_ ?_
   ·rintro v3 H g3 ⟨hS,hM⟩
    change wpA _ _ _ _ (Fr.of [(3,.b v3)]) _ _
    replace hS:St (·<g) H0 [] H g3:=hS
    replace hM:zdC v3=some r:=hM
    refine Sq ?_
    refine Sq ?_
    refine Rg 2 ?_
    refine Om (.b v3) ?_
    refine zgK (e:=v3) (by decide) rfl ?_
    refine Ni ?_
    refine Ws ?_
    rcases bft (!v3) with hb4 | hb4
    ·replace hM:=ifT hM hb4
     refine Ct hb4 ?_
     refine Sq ?_
     refine Rg 1 ?_
     refine Oa (.i 100) ?_
     refine Ni ?_
     refine Ws ?_
     refine zbB ?_
     refine zay ?_
     refine zbL (x:=.i 100) (f:=fun r=>.i r) (.inr rfl) ?_ (.refl _) (Option.some.inj hM) hS
     exact (zaJ (zau (x:=.i 100) rfl))
    ·replace hM:=ifF hM hb4
     refine Cf hb4 ?_
     refine zaI ?_
     refine Ws ?_
     refine Sq ?_
     refine Rg 1 ?_
     refine Oa (.i 0) ?_
     refine Ni ?_
     refine Ws ?_
     refine zbB ?_
     refine zbL (x:=.i 0) (f:=fun r=>.i r) (.inr rfl) ?_ (.refl _) (Option.some.inj hM) hS
     exact (zaJ (zau (x:=.i 0) rfl))
   ·refine Sq ?_
    refine Rg 4 ?_
    refine Of ((Royal.cells a0)) zf7 ?_
    refine Olp (.sl .no 2 (a0.Sides.map RoyalSide.cells)) zhU zjx ?_
    refine zcI (n:=a0.Sides.length) (by decide) rfl (List.length_map _) zjy ?_
    refine Om (.i 0) ?_
    refine Ni ?_
    refine Ws ?_
    refine zaB ?_
    refine zcx (V:=Bool×Int) (fun v=>[(1,.ep (Royal.cells a0)),(3,.b v.1),(37,.sl .no 2 (a0.Sides.map RoyalSide.cells)),(38,.i (a0.Sides.length:Int)),(39,.i v.2)]) (fun v m4 H' g'=>St (·<g) H0 [] H' g'/\zbc n a0 m4 v.1 v.2=some r) (n:=n) (v2,0) (.k (.k (.k (.k (.k .nil))))) ⟨(hS.keep [] rfl).up (by omega),hM⟩ ?_
    rintro ⟨v5,v6⟩ m4 H g4 ⟨hS,hM⟩
    obtain _ | m4:=m4
    ·exact nomatch (show none=some _ from hM)
    change wpA _ _ _ _ (Fr.of [(1,.ep (Royal.cells a0)),(3,.b v5),(37,.sl .no 2 (a0.Sides.map RoyalSide.cells)),(38,.i (a0.Sides.length:Int)),(39,.i v6)]) _ _
    replace hS:St (·<g) H0 [] H g4:=hS
    replace hM:zc4 n a0 (zbc n a0 m4) v5 v6=some r:=hM
    refine Sq ?_
    refine Rg 1 ?_
    refine Oi (.b (decide (v6<(a0.Sides.length:Int)))) ?_
    refine Ni ?_
    refine Ws ?_
    refine Sq ?_
    rcases bft (decide (v6<(a0.Sides.length:Int))) with hb7 | hb7
    ·replace hM:=ifT hM hb7
     refine Ct hb7 ?_
     refine zaI ?_
     refine Ws ?_
     refine zaY (J:=Bool) (fun j=>[(1,.ep (Royal.cells a0)),(3,.b j),(37,.sl .no 2 (a0.Sides.map RoyalSide.cells)),(38,.i (a0.Sides.length:Int)),(39,.i v6)]) (fun j H' g'=>St (·<g) H0 [] H' g'/\zcX (zbc n a0 m4) v6 j=some r) ?_ ?_
     ·rintro v8 H g5 ⟨hS,hM⟩
      change wpA _ _ _ _ (Fr.of [(1,.ep (Royal.cells a0)),(3,.b v8),(37,.sl .no 2 (a0.Sides.map RoyalSide.cells)),(38,.i (a0.Sides.length:Int)),(39,.i v6)]) _ _
      replace hS:St (·<g) H0 [] H g5:=hS
      replace hM:zcX (zbc n a0 m4) v6 v8=some r:=hM
      refine Rg 2 ?_
      refine Oi (.i (w64 (v6+1))) ?_
      refine Om (.i (w64 (v6+1))) ?_
      refine Ni ?_
      exact zbY (v8,w64 (v6+1)) (Nat.lt_succ_self _) (.k (.k (.k (.k (.k .nil))))) ⟨(hS.keep [] rfl).up (by omega),hM⟩
     ·refine zaB ?_
      refine Sq ?_
      refine Rg 4 ?_
      obtain ⟨x9,hx9,hM⟩:=zap hM
      refine zbr (xs:=a0.Sides) (f:=RoyalSide.cells) (z:=v6) (u:=x9) (by decide) rfl rfl ziq hx9 ?_
      refine Olg (.agg (RoyalSide.cells x9)) zlo ?_
      refine zem hS (by decide) zf5 (by omega) fun H hS=>?_
      refine zbC (v:=.agg (RoyalSide.cells x9)) (ns:=(RoyalSide.cells x9)) (L':=[(g4+1+2,.cells (RoyalSide.cells x9))]) 0 hS rfl rfl .no rfl rfl zlp nlb rfl fun H hS=>?_
      refine Ni ?_
      refine zcW (L':=[]) 0 7 hS rfl rfl rfl fun H hS=>?_
      refine Ws ?_
      refine Rg 15 ?_
      refine Om (.b v5) ?_
      refine Om (.b v5) ?_
      rcases bft v5 with hb10 | hb10
      ·replace hM:=ifT hM hb10
       refine Oy (want:=true) hb10 ?_
       refine Of ((RoyalSide.cells x9)) ziw ?_
       refine Oy (want:=true) hb10 ?_
       refine Olp (.i x9.Plays) zai zas ?_
       refine Oy (want:=true) hb10 ?_
       obtain ⟨r11,hr11,hM⟩:=zap hM
       refine zbo (bs:=[.i x9.Plays,.i 0,.i 9999]) (by decide) rfl rfl ((zc1 hr11).le (.k (.k (.k .nil)))) ?_
       refine Pt (.b r11) hb10 ?_
       refine Om (.b r11) ?_
       rcases bft r11 with hb12 | hb12
       ·replace hM:=ifT hM hb12
        refine Oy (want:=true) hb12 ?_
        refine Of ((RoyalSide.cells x9)) zj9 ?_
        refine Oy (want:=true) hb12 ?_
        refine Olp (.sl .no 2 (x9.Parts.map RoyalPart.cells)) zlm zni ?_
        refine Oy (want:=true) hb12 ?_
        refine Of ((Royal.cells a0)) zf8 ?_
        refine Oy (want:=true) hb12 ?_
        refine Olp (.sl .no 1 (a0.Owed.map cI)) zef zeM ?_
        refine Oy (want:=true) hb12 ?_
        refine zcI (n:=a0.Owed.length) (by decide) rfl (List.length_map _) zcK ?_
        refine Oy (want:=true) hb12 ?_
        obtain ⟨r13,hr13,hM⟩:=zap hM
        refine zbo (bs:=[.sl .no 2 (x9.Parts.map RoyalPart.cells),.i (a0.Owed.length:Int)]) (by decide) rfl rfl ((zhj hr13).le (.k (.k .nil))) ?_
        refine Pt (.b r13) hb12 ?_
        refine Oa (.b r13) ?_
        refine Ni ?_
        refine zak ?_
        exact zal r13 (.k (.k (.k (.k (.k .nil))))) ⟨(hS.keep [] rfl).up (by omega),hM⟩
       ·replace hM:=ifF hM hb12
        refine On (want:=true) hb12 ?_
        refine On (want:=true) hb12 ?_
        refine On (want:=true) hb12 ?_
        refine On (want:=true) hb12 ?_
        refine On (want:=true) hb12 ?_
        refine On (want:=true) hb12 ?_
        refine Pf (.b false) hb12 ?_
        refine Oa (.b false) ?_
        refine Ni ?_
        refine zak ?_
        exact zal false (.k (.k (.k (.k (.k .nil))))) ⟨(hS.keep [] rfl).up (by omega),hM⟩
      ·replace hM:=ifF hM hb10
       refine On (want:=true) hb10 ?_
       refine On (want:=true) hb10 ?_
       refine On (want:=true) hb10 ?_
       refine Pf (.b false) hb10 ?_
       refine Om (.b false) ?_
       refine Og ?_
       refine Og ?_
       refine Og ?_
       refine Og ?_
       refine Og ?_
       refine Og ?_
       refine zby (v:=.b false) (e:=false) (by decide) rfl rfl rfl ?_
       refine Oa (.b false) ?_
       refine Ni ?_
       refine zak ?_
       exact zal false (.k (.k (.k (.k (.k .nil))))) ⟨(hS.keep [] rfl).up (by omega),hM⟩
    ·replace hM:=ifF hM hb7
     refine Cf hb7 ?_
     refine zcw ?_
     refine zax ?_
     refine zaq ?_
     refine zaG ?_
     exact zal v5 (.k .nil) ⟨(hS.keep [] rfl).up (by omega),hM⟩
  ·refine Sq ?_
   refine Rg 4 ?_
   refine Of ((Royal.cells a0)) zf8 ?_
   refine Olp (.sl .no 1 (a0.Owed.map cI)) zef zeM ?_
   refine zcI (n:=a0.Owed.length) (by decide) rfl (List.length_map _) zcK ?_
   refine Om (.i 0) ?_
   refine Ni ?_
   refine Ws ?_
   refine zaB ?_
   refine zcx (V:=Bool×Int) (fun v=>[(1,.ep (Royal.cells a0)),(3,.b v.1),(24,.sl .no 1 (a0.Owed.map cI)),(25,.i (a0.Owed.length:Int)),(26,.i v.2)]) (fun v m6 H' g'=>St (·<g) H0 [] H' g'/\zbd n a0 m6 v.1 v.2=some r) (n:=n) (v1,0) (.k (.k (.k (.k (.k .nil))))) ⟨(hS.keep [] rfl).up (by omega),hM⟩ ?_
   rintro ⟨v14,v15⟩ m6 H g6 ⟨hS,hM⟩
   obtain _ | m6:=m6
   ·exact nomatch (show none=some _ from hM)
   change wpA _ _ _ _ (Fr.of [(1,.ep (Royal.cells a0)),(3,.b v14),(24,.sl .no 1 (a0.Owed.map cI)),(25,.i (a0.Owed.length:Int)),(26,.i v15)]) _ _
   replace hS:St (·<g) H0 [] H g6:=hS
   replace hM:zc5 n a0 (zbd n a0 m6) v14 v15=some r:=hM
   refine Sq ?_
   refine Rg 1 ?_
   refine Oi (.b (decide (v15<(a0.Owed.length:Int)))) ?_
   refine Ni ?_
   refine Ws ?_
   refine Sq ?_
   rcases bft (decide (v15<(a0.Owed.length:Int))) with hb16 | hb16
   ·replace hM:=ifT hM hb16
    refine Ct hb16 ?_
    refine zaI ?_
    refine Ws ?_
    refine zaY (J:=Bool) (fun j=>[(1,.ep (Royal.cells a0)),(3,.b j),(24,.sl .no 1 (a0.Owed.map cI)),(25,.i (a0.Owed.length:Int)),(26,.i v15)]) (fun j H' g'=>St (·<g) H0 [] H' g'/\zdD (zbd n a0 m6) v15 j=some r) ?_ ?_
    ·rintro v17 H g7 ⟨hS,hM⟩
     change wpA _ _ _ _ (Fr.of [(1,.ep (Royal.cells a0)),(3,.b v17),(24,.sl .no 1 (a0.Owed.map cI)),(25,.i (a0.Owed.length:Int)),(26,.i v15)]) _ _
     replace hS:St (·<g) H0 [] H g7:=hS
     replace hM:zdD (zbd n a0 m6) v15 v17=some r:=hM
     refine Rg 2 ?_
     refine Oi (.i (w64 (v15+1))) ?_
     refine Om (.i (w64 (v15+1))) ?_
     refine Ni ?_
     exact zbY (v17,w64 (v15+1)) (Nat.lt_succ_self _) (.k (.k (.k (.k (.k .nil))))) ⟨(hS.keep [] rfl).up (by omega),hM⟩
    ·refine zaB ?_
     refine Sq ?_
     refine Rg 3 ?_
     obtain ⟨x18,hx18,hM⟩:=zap hM
     refine zbr (xs:=a0.Owed) (f:=cI) (z:=v15) (u:=x18) (by decide) rfl rfl zaV hx18 ?_
     refine Olp (.i x18) zai zas ?_
     refine Oa (.i x18) ?_
     refine Ni ?_
     refine Ws ?_
     refine Rg 6 ?_
     refine Om (.b v14) ?_
     refine Om (.b v14) ?_
     rcases bft v14 with hb19 | hb19
     ·replace hM:=ifT hM hb19
      refine Oy (want:=true) hb19 ?_
      refine Om (.i x18) ?_
      refine Oy (want:=true) hb19 ?_
      obtain ⟨r20,hr20,hM⟩:=zap hM
      refine zbo (bs:=[.i x18,.i 0,.i 9999]) (by decide) rfl rfl ((zc1 hr20).le (.k (.k (.k .nil)))) ?_
      refine Pt (.b r20) hb19 ?_
      refine Oa (.b r20) ?_
      refine Ni ?_
      refine zak ?_
      exact zal r20 (.k (.k (.k (.k (.k .nil))))) ⟨(hS.keep [] rfl).up (by omega),hM⟩
     ·replace hM:=ifF hM hb19
      refine On (want:=true) hb19 ?_
      refine On (want:=true) hb19 ?_
      refine Pf (.b false) hb19 ?_
      refine Oa (.b false) ?_
      refine Ni ?_
      refine zak ?_
      exact zal false (.k (.k (.k (.k (.k .nil))))) ⟨(hS.keep [] rfl).up (by omega),hM⟩
   ·replace hM:=ifF hM hb16
    refine Cf hb16 ?_
    refine zcw ?_
    refine zax ?_
    refine zaq ?_
    refine zaG ?_
    exact zal v14 (.k (.k .nil)) ⟨(hS.keep [] rfl).up (by omega),hM⟩
 ·refine Rg 16 ?_
  refine Of ((Royal.cells a0)) ziu ?_
  refine Olp (.i a0.Pool) zai zas ?_
  obtain ⟨r21,hr21,hM⟩:=zap hM
  refine zbo (bs:=[.i a0.Pool,.i 0,.i 9999]) (by decide) rfl rfl ((zc1 hr21).le (.k (.k (.k .nil)))) ?_
  refine Om (.b r21) ?_
  rcases bft r21 with hb22 | hb22
  ·replace hM:=ifT hM hb22
   refine Oy (want:=true) hb22 ?_
   refine Of ((Royal.cells a0)) zf8 ?_
   refine Oy (want:=true) hb22 ?_
   refine Olp (.sl .no 1 (a0.Owed.map cI)) zef zeM ?_
   refine Oy (want:=true) hb22 ?_
   refine zcI (n:=a0.Owed.length) (by decide) rfl (List.length_map _) zcK ?_
   refine Oy (want:=true) hb22 ?_
   refine Oi (.b (decide ((a0.Owed.length:Int)<=6))) ?_
   refine Pt (.b (decide ((a0.Owed.length:Int)<=6))) hb22 ?_
   refine Om (.b (decide ((a0.Owed.length:Int)<=6))) ?_
   rcases bft (decide ((a0.Owed.length:Int)<=6)) with hb23 | hb23
   ·replace hM:=ifT hM hb23
    refine Oy (want:=true) hb23 ?_
    refine Of ((Royal.cells a0)) zf7 ?_
    refine Oy (want:=true) hb23 ?_
    refine Olp (.sl .no 2 (a0.Sides.map RoyalSide.cells)) zhU zjx ?_
    refine Oy (want:=true) hb23 ?_
    refine zcI (n:=a0.Sides.length) (by decide) rfl (List.length_map _) zjy ?_
    refine Oy (want:=true) hb23 ?_
    refine Oi (.b (decide ((a0.Sides.length:Int)<=6))) ?_
    refine Pt (.b (decide ((a0.Sides.length:Int)<=6))) hb23 ?_
    refine Oa (.b (decide ((a0.Sides.length:Int)<=6))) ?_
    refine Ni ?_
    exact zal (decide ((a0.Sides.length:Int)<=6)) (.k (.k .nil)) ⟨(hS.keep [] rfl).up (by omega),hM⟩
   ·replace hM:=ifF hM hb23
    refine On (want:=true) hb23 ?_
    refine On (want:=true) hb23 ?_
    refine On (want:=true) hb23 ?_
    refine On (want:=true) hb23 ?_
    refine Pf (.b false) hb23 ?_
    refine Oa (.b false) ?_
    refine Ni ?_
    exact zal false (.k (.k .nil)) ⟨(hS.keep [] rfl).up (by omega),hM⟩
  ·replace hM:=ifF hM hb22
   refine On (want:=true) hb22 ?_
   refine On (want:=true) hb22 ?_
   refine On (want:=true) hb22 ?_
   refine On (want:=true) hb22 ?_
   refine Pf (.b false) hb22 ?_
   refine Om (.b false) ?_
   refine Og ?_
   refine Og ?_
   refine Og ?_
   refine Og ?_
   refine zby (v:=.b false) (e:=false) (by decide) rfl rfl rfl ?_
   refine Oa (.b false) ?_
   refine Ni ?_
   exact zal false (.k (.k .nil)) ⟨(hS.keep [] rfl).up (by omega),hM⟩
theorem zfr {n:Nat} {a0:Royal} {a1:Bool} {r:Weights_×Int} (hM:zdc n a0 a1=some r):zaS Try.prog 28 [.agg (Royal.cells a0),.b a1] (.tup [.agg [.sl .no 1 (r.1.of_.map cI),.i r.1.all],.i r.2]):=by
 refine zaF mixed Try.func28 rfl (by decide) Try.ntmps28 (by simp) ?pure fun H0 g hf=>?_
 case pure=>exact .tup _ (zaf (.agg _ (zaf (.sl _ _ (zaK (fun x=>(zaf (.v _) zaN)))) (zaf (.v _) zaN))) (zaf (.v _) zaN))
 rw [zaA]
 change wpA _ _ _ _ (Fr.of [(0,.agg (Royal.cells a0)),(1,.b a1)]) H0 g
 have hS:=St.start hf
 refine Sq ?_
 refine Rg 3 ?_
 refine zeZ (v:=.agg (Royal.cells a0)) (cs:=(Royal.cells a0)) hS (by decide) rfl rfl (by omega) fun H hS=>?_
 refine zem hS (by decide) zit (by omega) fun H hS=>?_
 refine Oa (.i 0) ?_
 refine Ni ?_
 refine zcW (L':=[(g+1,.cells [.sl .nil 0 [],.i 0])]) 1 2 hS rfl rfl rfl fun H hS=>?_
 refine Ws ?_
 refine Sq ?_
 refine Sq ?_
 refine Rg 3 ?_
 refine Olg (.agg (Royal.cells a0)) zfE ?_
 obtain ⟨r1,hr1,hM⟩:=zap hM
 refine zbo (bs:=[.agg (Royal.cells a0)]) (by decide) rfl rfl ((zhB hr1).le (.k .nil)) ?_
 refine Oa (.i r1) ?_
 refine Ni ?_
 refine Ws ?_
 refine Sq ?_
 refine Rg 2 ?_
 refine Om (.i r1) ?_
 refine Oi (.b (r1 != 0)) ?_
 refine Ni ?_
 refine Ws ?_
 rcases bft (r1 != 0) with hb2 | hb2
 ·replace hM:=ifT hM hb2
  refine Ct hb2 ?_
  refine Sq ?_
  refine Rg 4 ?_
  refine zbJ (v:=.agg [.sl .nil 0 [],.i 0]) 0 hS (by decide) rfl rfl .no (pg zeR) ?_
  refine Om (.i r1) ?_
  refine zbC (v:=.agg [.sl .nil 0 [],.i 0]) (ns:=[.sl .nil 0 [],.i 0]) (L':=[(g+1,.cells [.sl .nil 0 [],.i 0])]) 0 hS rfl rfl .no rfl rfl zgn nlb rfl fun H hS=>?_
  refine Oa (.i r1) ?_
  refine Ni ?_
  refine Ws ?_
  refine zbB ?_
  refine zay ?_
  refine zbL (x:=.tup [.agg [.sl .nil 0 [],.i 0],.i r1]) (f:=fun r=>.tup [.agg [.sl .no 1 (r.1.of_.map cI),.i r.1.all],.i r.2]) (.inr rfl) ?_ (.tupL (.cons (.aggL (.cons (.sl0 .nil 1 0) (.k .nil))) (.k .nil))) (Option.some.inj hM) hS
  exact (ze0 (zfc (x:=.agg [.sl .nil 0 [],.i 0]) 0 hS rfl rfl (pg zeR)) (zau (x:=.i r1) rfl))
 ·replace hM:=ifF hM hb2
  refine Cf hb2 ?_
  refine zaI ?_
  refine Ws ?_
  refine Sq ?_
  refine Sq ?_
  refine Rg 2 ?_
  refine Om (.b a1) ?_
  refine zgK (e:=a1) (by decide) rfl ?_
  refine Ni ?_
  refine Ws ?_
  rcases bft (!a1) with hb3 | hb3
  ·replace hM:=ifT hM hb3
   refine Ct hb3 ?_
   refine Sq ?_
   refine Rg 3 ?_
   refine zbJ (v:=.agg [.sl .nil 0 [],.i 0]) 0 hS (by decide) rfl rfl .no (pg zeR) ?_
   refine zbC (v:=.agg [.sl .nil 0 [],.i 0]) (ns:=[.sl .nil 0 [],.i 0]) (L':=[(g+1,.cells [.sl .nil 0 [],.i 0])]) 0 hS rfl rfl .no rfl rfl zgn nlb rfl fun H hS=>?_
   refine Oa (.i 1) ?_
   refine Ni ?_
   refine Ws ?_
   refine zbB ?_
   refine zay ?_
   refine zbL (x:=.tup [.agg [.sl .nil 0 [],.i 0],.i 1]) (f:=fun r=>.tup [.agg [.sl .no 1 (r.1.of_.map cI),.i r.1.all],.i r.2]) (.inr rfl) ?_ (.tupL (.cons (.aggL (.cons (.sl0 .nil 1 0) (.k .nil))) (.k .nil))) (Option.some.inj hM) hS
   exact (ze0 (zfc (x:=.agg [.sl .nil 0 [],.i 0]) 0 hS rfl rfl (pg zeR)) (zau (x:=.i 1) rfl))
  ·replace hM:=ifF hM hb3
   refine Cf hb3 ?_
   refine zaI ?_
   refine Ws ?_
   refine Sq ?_
   refine Rg 6 ?_
   refine Of ((Royal.cells a0)) zf8 ?_
   refine Olp (.sl .no 1 (a0.Owed.map cI)) zef zeM ?_
   refine zcI (n:=a0.Owed.length) (by decide) rfl (List.length_map _) zcK ?_
   obtain ⟨l4,hl4,hM⟩:=zap hM
   refine zgN (f:=cI) (z:=(a0.Owed.length:Int)) (n:=a0.Owed.length) (us:=l4) hS (by decide) rfl rfl hl4 rfl zaV zf3 zgm zf4 (by omega) fun H hS=>?_
   refine zan (by decide) zeH rfl ?_
   refine zbC (v:=.ms (g+3+3+2+2+3) 0 1 a0.Owed.length a0.Owed.length) (ns:=[.ms (g+3+3+2+2+3) 0 1 a0.Owed.length a0.Owed.length]) (L':=[(g+3+3+2+2+3,.cells (l4.map cI).flatten),(g+1,.cells [.ms (g+3+3+2+2+3) 0 1 a0.Owed.length a0.Owed.length,.i 0])]) 1 hS rfl rfl .no rfl rfl zoc nlb rfl fun H hS=>?_
   refine Ni ?_
   refine Ws ?_
   refine zaY (J:=(List Int)×Int) (fun j=>[(4,.ptr (g+1) 0)]) (fun j H' g'=>St (·<g) H0 [(g+3+3+2+2+3,.cells (j.1.map cI).flatten),(g+1,.cells [.ms (g+3+3+2+2+3) 0 1 a0.Owed.length a0.Owed.length,.i j.2])] H' g'/\zdE a0 j.1 j.2=some r) ?_ ?_
   ·rintro ⟨v5,v6⟩ H g1 ⟨hS,hM⟩
    change wpA _ _ _ _ (Fr.of [(4,.ptr (g+1) 0)]) _ _
    replace hS:St (·<g) H0 [(g+3+3+2+2+3,.cells (v5.map cI).flatten),(g+1,.cells [.ms (g+3+3+2+2+3) 0 1 a0.Owed.length a0.Owed.length,.i v6])] H g1:=hS
    replace hM:zdE a0 v5 v6=some r:=hM
    refine Sq ?_
    refine Sq ?_
    refine Rg 3 ?_
    refine zan (by decide) ze5 rfl ?_
    refine zbJ (v:=.i v6) 1 hS (by decide) rfl rfl .no (po zai zas) ?_
    refine Oi (.b (v6==0)) ?_
    refine Ni ?_
    obtain ⟨x7,hx7,hM⟩:=zap hM
    refine znc (p:=0) (k:=1) (es:=v5.map cI) (cs':=[.sl .no 1 (v5.map cI),.i v6]) (L':=[(g+1,.cells [.sl .no 1 (v5.map cI),.i v6])]) 0 0 hS rfl rfl rfl (zgi hx7) (zg5 hx7) (by decide) (zfA (fun _=>rfl)) (zg3 (fun x=>(zeL zg2))) rfl rfl fun H hS=>?_
    refine Ws ?_
    rcases bft (v6==0) with hb8 | hb8
    ·replace hM:=ifT hM hb8
     refine Ct hb8 ?_
     refine Sq ?_
     refine Rg 3 ?_
     refine zbJ (v:=.agg [.sl .no 1 (v5.map cI),.i v6]) 0 hS (by decide) rfl rfl .no (pg zeR) ?_
     refine zbC (v:=.agg [.sl .no 1 (v5.map cI),.i v6]) (ns:=[.sl .no 1 (v5.map cI),.i v6]) (L':=[(g+1,.cells [.sl .no 1 (v5.map cI),.i v6])]) 0 hS rfl rfl .no rfl rfl zgn nlb rfl fun H hS=>?_
     refine Oa (.i 3) ?_
     refine Ni ?_
     refine Ws ?_
     refine zbB ?_
     refine zay ?_
     refine zbL (x:=.tup [.agg [.sl .no 1 (v5.map cI),.i v6],.i 3]) (f:=fun r=>.tup [.agg [.sl .no 1 (r.1.of_.map cI),.i r.1.all],.i r.2]) (.inr rfl) ?_ (.refl _) (Option.some.inj hM) hS
     exact (ze0 (zfc (x:=.agg [.sl .no 1 (v5.map cI),.i v6]) 0 hS rfl rfl (pg zeR)) (zau (x:=.i 3) rfl))
    ·replace hM:=ifF hM hb8
     refine Cf hb8 ?_
     refine zaI ?_
     refine Ws ?_
     refine Sq ?_
     refine Rg 3 ?_
     refine zbJ (v:=.agg [.sl .no 1 (v5.map cI),.i v6]) 0 hS (by decide) rfl rfl .no (pg zeR) ?_
     refine zbC (v:=.agg [.sl .no 1 (v5.map cI),.i v6]) (ns:=[.sl .no 1 (v5.map cI),.i v6]) (L':=[(g+1,.cells [.sl .no 1 (v5.map cI),.i v6])]) 0 hS rfl rfl .no rfl rfl zgn nlb rfl fun H hS=>?_
     refine Oa (.i 0) ?_
     refine Ni ?_
     refine Ws ?_
     refine zbB ?_
     refine zbL (x:=.tup [.agg [.sl .no 1 (v5.map cI),.i v6],.i 0]) (f:=fun r=>.tup [.agg [.sl .no 1 (r.1.of_.map cI),.i r.1.all],.i r.2]) (.inr rfl) ?_ (.refl _) (Option.some.inj hM) hS
     exact (ze0 (zfc (x:=.agg [.sl .no 1 (v5.map cI),.i v6]) 0 hS rfl rfl (pg zeR)) (zau (x:=.i 0) rfl))
   ·refine Sq ?_
    refine Rg 4 ?_
    refine Of ((Royal.cells a0)) zf7 ?_
    refine Olp (.sl .no 2 (a0.Sides.map RoyalSide.cells)) zhU zjx ?_
    refine zcI (n:=a0.Sides.length) (by decide) rfl (List.length_map _) zjy ?_
    refine Om (.i 0) ?_
    refine Ni ?_
    refine Ws ?_
    refine zaB ?_
    refine zcx (V:=Int×(List Int)×Int) (fun v=>[(4,.ptr (g+1) 0),(26,.sl .no 2 (a0.Sides.map RoyalSide.cells)),(27,.i (a0.Sides.length:Int)),(28,.i v.1)]) (fun v m3 H' g'=>St (·<g) H0 [(g+3+3+2+2+3,.cells (v.2.1.map cI).flatten),(g+1,.cells [.ms (g+3+3+2+2+3) 0 1 a0.Owed.length a0.Owed.length,.i v.2.2])] H' g'/\zav n a0 m3 v.1 v.2.1 v.2.2=some r) (n:=n) (0,l4,0) (.k (.k (.k (.k .nil)))) ⟨(hS.keep [true,true] rfl).up (by omega),hM⟩ ?_
    rintro ⟨v10,v11,v12⟩ m3 H g3 ⟨hS,hM⟩
    obtain _ | m3:=m3
    ·exact nomatch (show none=some _ from hM)
    change wpA _ _ _ _ (Fr.of [(4,.ptr (g+1) 0),(26,.sl .no 2 (a0.Sides.map RoyalSide.cells)),(27,.i (a0.Sides.length:Int)),(28,.i v10)]) _ _
    replace hS:St (·<g) H0 [(g+3+3+2+2+3,.cells (v11.map cI).flatten),(g+1,.cells [.ms (g+3+3+2+2+3) 0 1 a0.Owed.length a0.Owed.length,.i v12])] H g3:=hS
    replace hM:zc6 n a0 (zav n a0 m3) v10 v11 v12=some r:=hM
    refine Sq ?_
    refine Rg 1 ?_
    refine Oi (.b (decide (v10<(a0.Sides.length:Int)))) ?_
    refine Ni ?_
    refine Ws ?_
    refine Sq ?_
    rcases bft (decide (v10<(a0.Sides.length:Int))) with hb13 | hb13
    ·replace hM:=ifT hM hb13
     refine Ct hb13 ?_
     refine zaI ?_
     refine Ws ?_
     refine zaY (J:=(List Int)×Int) (fun j=>[(4,.ptr (g+1) 0),(26,.sl .no 2 (a0.Sides.map RoyalSide.cells)),(27,.i (a0.Sides.length:Int)),(28,.i v10)]) (fun j H' g'=>St (·<g) H0 [(g+3+3+2+2+3,.cells (j.1.map cI).flatten),(g+1,.cells [.ms (g+3+3+2+2+3) 0 1 a0.Owed.length a0.Owed.length,.i j.2])] H' g'/\zdF (zav n a0 m3) v10 j.1 j.2=some r) ?_ ?_
     ·rintro ⟨v14,v15⟩ H g4 ⟨hS,hM⟩
      change wpA _ _ _ _ (Fr.of [(4,.ptr (g+1) 0),(26,.sl .no 2 (a0.Sides.map RoyalSide.cells)),(27,.i (a0.Sides.length:Int)),(28,.i v10)]) _ _
      replace hS:St (·<g) H0 [(g+3+3+2+2+3,.cells (v14.map cI).flatten),(g+1,.cells [.ms (g+3+3+2+2+3) 0 1 a0.Owed.length a0.Owed.length,.i v15])] H g4:=hS
      replace hM:zdF (zav n a0 m3) v10 v14 v15=some r:=hM
      refine Rg 2 ?_
      refine Oi (.i (w64 (v10+1))) ?_
      refine Om (.i (w64 (v10+1))) ?_
      refine Ni ?_
      exact zbY (w64 (v10+1),v14,v15) (Nat.lt_succ_self _) (.k (.k (.k (.k .nil)))) ⟨(hS.keep [true,true] rfl).up (by omega),hM⟩
     ·refine zaB ?_
      refine Sq ?_
      refine Rg 4 ?_
      obtain ⟨x16,hx16,hM⟩:=zap hM
      refine zbr (xs:=a0.Sides) (f:=RoyalSide.cells) (z:=v10) (u:=x16) (by decide) rfl rfl ziq hx16 ?_
      refine Olg (.agg (RoyalSide.cells x16)) zlo ?_
      refine zem hS (by decide) zf5 (by omega) fun H hS=>?_
      refine zbC (v:=.agg (RoyalSide.cells x16)) (ns:=(RoyalSide.cells x16)) (L':=[(g3+1+2,.cells (RoyalSide.cells x16)),(g+3+3+2+2+3,.cells (v11.map cI).flatten),(g+1,.cells [.ms (g+3+3+2+2+3) 0 1 a0.Owed.length a0.Owed.length,.i v12])]) 0 hS rfl rfl .no rfl rfl zlp nlb rfl fun H hS=>?_
      refine Ni ?_
      refine zcW (L':=[(g+3+3+2+2+3,.cells (v11.map cI).flatten),(g+1,.cells [.ms (g+3+3+2+2+3) 0 1 a0.Owed.length a0.Owed.length,.i v12])]) 0 8 hS rfl rfl rfl fun H hS=>?_
      refine Ws ?_
      refine Sq ?_
      refine Rg 8 ?_
      refine zan (by decide) ze5 rfl ?_
      refine zbJ (v:=.i v12) 1 hS (by decide) rfl rfl .no (po zai zas) ?_
      refine Of ((RoyalSide.cells x16)) ziw ?_
      refine Olp (.i x16.Plays) zai zas ?_
      refine Oi (.i (w64 (100*x16.Plays))) ?_
      refine Oi (.i (w64 (v12+(w64 (100*x16.Plays))))) ?_
      refine zan (by decide) ze5 rfl ?_
      refine zbC (v:=.i (w64 (v12+(w64 (100*x16.Plays))))) (ns:=[.i (w64 (v12+(w64 (100*x16.Plays))))]) (L':=[(g+3+3+2+2+3,.cells (v11.map cI).flatten),(g+1,.cells [.ms (g+3+3+2+2+3) 0 1 a0.Owed.length a0.Owed.length,.i (w64 (v12+(w64 (100*x16.Plays))))])]) 1 hS rfl rfl .no rfl rfl zdO nlb rfl fun H hS=>?_
      refine Ni ?_
      refine Ws ?_
      refine Sq ?_
      refine Rg 4 ?_
      refine Of ((RoyalSide.cells x16)) zj9 ?_
      refine Olp (.sl .no 2 (x16.Parts.map RoyalPart.cells)) zlm zni ?_
      refine zcI (n:=x16.Parts.length) (by decide) rfl (List.length_map _) zln ?_
      refine Om (.i 0) ?_
      refine Ni ?_
      refine Ws ?_
      refine zaB ?_
      refine zcx (V:=Int×(List Int)) (fun v=>[(4,.ptr (g+1) 0),(8,.ep (RoyalSide.cells x16)),(26,.sl .no 2 (a0.Sides.map RoyalSide.cells)),(27,.i (a0.Sides.length:Int)),(28,.i v10),(40,.sl .no 2 (x16.Parts.map RoyalPart.cells)),(41,.i (x16.Parts.length:Int)),(42,.i v.1)]) (fun v m6 H' g'=>St (·<g) H0 [(g+3+3+2+2+3,.cells (v.2.map cI).flatten),(g+1,.cells [.ms (g+3+3+2+2+3) 0 1 a0.Owed.length a0.Owed.length,.i (w64 (v12+(w64 (100*x16.Plays))))])] H' g'/\zbN (zav n a0 m3) a0 v10 v12 x16 m6 v.1 v.2=some r) (n:=n) (0,v11) (.k (.k (.k (.k (.k (.k (.k (.k .nil)))))))) ⟨(hS.keep [true,true] rfl).up (by omega),hM⟩ ?_
      rintro ⟨v18,v19⟩ m6 H g6 ⟨hS,hM⟩
      obtain _ | m6:=m6
      ·exact nomatch (show none=some _ from hM)
      change wpA _ _ _ _ (Fr.of [(4,.ptr (g+1) 0),(8,.ep (RoyalSide.cells x16)),(26,.sl .no 2 (a0.Sides.map RoyalSide.cells)),(27,.i (a0.Sides.length:Int)),(28,.i v10),(40,.sl .no 2 (x16.Parts.map RoyalPart.cells)),(41,.i (x16.Parts.length:Int)),(42,.i v18)]) _ _
      replace hS:St (·<g) H0 [(g+3+3+2+2+3,.cells (v19.map cI).flatten),(g+1,.cells [.ms (g+3+3+2+2+3) 0 1 a0.Owed.length a0.Owed.length,.i (w64 (v12+(w64 (100*x16.Plays))))])] H g6:=hS
      replace hM:zcd (zav n a0 m3) a0 v10 v12 x16 (zbN (zav n a0 m3) a0 v10 v12 x16 m6) v18 v19=some r:=hM
      refine Sq ?_
      refine Rg 1 ?_
      refine Oi (.b (decide (v18<(x16.Parts.length:Int)))) ?_
      refine Ni ?_
      refine Ws ?_
      refine Sq ?_
      rcases bft (decide (v18<(x16.Parts.length:Int))) with hb20 | hb20
      ·replace hM:=ifT hM hb20
       refine Ct hb20 ?_
       refine zaI ?_
       refine Ws ?_
       refine Sq ?_
       refine zaB ?_
       refine Sq ?_
       refine Rg 4 ?_
       obtain ⟨x21,hx21,hM⟩:=zap hM
       refine zbr (xs:=x16.Parts) (f:=RoyalPart.cells) (z:=v18) (u:=x21) (by decide) rfl rfl zis hx21 ?_
       refine Olg (.agg (RoyalPart.cells x21)) zlk ?_
       refine zem hS (by decide) ze3 (by omega) fun H hS=>?_
       refine zbC (v:=.agg (RoyalPart.cells x21)) (ns:=(RoyalPart.cells x21)) (L':=[(g6+1+2,.cells (RoyalPart.cells x21)),(g+3+3+2+2+3,.cells (v19.map cI).flatten),(g+1,.cells [.ms (g+3+3+2+2+3) 0 1 a0.Owed.length a0.Owed.length,.i (w64 (v12+(w64 (100*x16.Plays))))])]) 0 hS rfl rfl .no rfl rfl zll nlb rfl fun H hS=>?_
       refine Ni ?_
       refine zcW (L':=[(g+3+3+2+2+3,.cells (v19.map cI).flatten),(g+1,.cells [.ms (g+3+3+2+2+3) 0 1 a0.Owed.length a0.Owed.length,.i (w64 (v12+(w64 (100*x16.Plays))))])]) 0 10 hS rfl rfl rfl fun H hS=>?_
       refine Ws ?_
       have hS0:=hS
       refine zdb (n:=14) rfl (by kernel_rfl) ?_
       refine zan (by decide) zeH rfl ?_
       refine zbJ (v:=.ms (g+3+3+2+2+3) 0 1 a0.Owed.length a0.Owed.length) 1 hS (by decide) rfl rfl (.st hS0 1 rfl (by omega)) (po zef zeM) ?_
       refine Of ((RoyalPart.cells x21)) zhg ?_
       refine Olp (.i x21.Who) zai zas ?_
       obtain ⟨x22,hx22,hM⟩:=zap hM
       refine zbv (xs:=v19) (z:=x21.Who) (u:=x22) (by decide) rfl (zbw hx22) rfl zaV (zaz hx22) ?_
       refine zex (f:=cI) (xs:=v19) (z:=x21.Who) (u:=x22) (c:=.i x22) 0 hS (by decide) rfl rfl (zaz hx22) (.st hS0 0 rfl (by omega)) (fun _=>rfl) rfl zai zas ?_
       refine Of ((RoyalSide.cells x16)) ziw ?_
       refine Olp (.i x16.Plays) zai zas ?_
       refine Of ((RoyalPart.cells x21)) ziv ?_
       refine Olp (.i x21.Percent) zai zas ?_
       refine Oi (.i (w64 (x16.Plays*x21.Percent))) ?_
       refine Oi (.i (w64 (x22+(w64 (x16.Plays*x21.Percent))))) ?_
       obtain ⟨x23,hx23,hM⟩:=zap hM
       refine zbv (xs:=v19) (z:=x21.Who) (u:=x23) (by decide) rfl (zbw hx23) rfl zaV (zaz hx23) ?_
       refine zen (f:=cI) (k:=1) (xs:=v19) (z:=x21.Who) (u:=x23) (w:=(w64 (x22+(w64 (x16.Plays*x21.Percent))))) (v:=.i (w64 (x22+(w64 (x16.Plays*x21.Percent))))) (L':=[(g+3+3+2+2+3,.cells ((v19.set (Int.toNat x21.Who) (w64 (x22+(w64 (x16.Plays*x21.Percent))))).map cI).flatten),(g+1,.cells [.ms (g+3+3+2+2+3) 0 1 a0.Owed.length a0.Owed.length,.i (w64 (v12+(w64 (100*x16.Plays))))])]) 0 hS rfl rfl (zaz hx23) (.st hS0 0 rfl (by omega)) (fun _=>rfl) rfl rfl zdO rfl fun H hS=>?_
       refine Ni ?_
       refine zak ?_
       refine Ws ?_
       refine Rg 2 ?_
       refine Oi (.i (w64 (v18+1))) ?_
       refine Om (.i (w64 (v18+1))) ?_
       refine Ni ?_
       exact zbY (w64 (v18+1),(v19.set (Int.toNat x21.Who) (w64 (x22+(w64 (x16.Plays*x21.Percent)))))) (Nat.lt_succ_self _) (.k (.k (.k (.k (.k (.k (.k (.k .nil)))))))) ⟨(hS.keep [true,true] rfl).up (by omega),hM⟩
      ·replace hM:=ifF hM hb20
       refine Cf hb20 ?_
       refine zcw ?_
       refine zax ?_
       refine zaq ?_
       refine zaG ?_
       refine zak ?_
       exact zal (v19,w64 (v12+(w64 (100*x16.Plays)))) (.k (.k (.k (.k .nil)))) ⟨(hS.keep [true,true] rfl).up (by omega),hM⟩
    ·replace hM:=ifF hM hb13
     refine Cf hb13 ?_
     refine zcw ?_
     refine zax ?_
     refine zaq ?_
     refine zaG ?_
     exact zal (v11,v12) (.k .nil) ⟨(hS.keep [true,true] rfl).up (by omega),hM⟩
theorem zc2 {S:Type} {Lo:S->BL} (hk:∀s s',zhG (Lo s) (Lo s')) {p1:Nat} (hnd:∀s,([p1]++ids (Lo s)).Nodup) (hin:∀s,InB In (Lo s)) {aF:Int->Int->S->Option (Int×S)} {f0:AV} (hF:∀s H,Has H (Lo s)->In H f0) (h0:cellsOf f0=some [f0]) (hf:∀{x0:Int} {x1:Int} {s:S} {r:Int×S},aF x0 x1 s=some r->zmi Try.prog f0 [.i x0,.i x1] (Lo s) (.i r.1) (Lo r.2)) {n:Nat} {a1:Int} {a2:Int} {mz0:Nat} {st:(List Int)×S} {r:Unit×((List Int)×S)} (hM:zbD n aF a1 a2 mz0 st=some r):ziI Try.prog 106 [.ms p1 0 1 mz0 mz0,.i a1,.i a2,f0] ([(p1,.cells (st.1.map cI).flatten)]++Lo st.2) (.tup []) ([(p1,.cells (r.2.1.map cI).flatten)]++Lo r.2.2):=by
 have hnd0:∀s,(ids (Lo s)).Nodup:=fun s=>(List.nodup_append.1 (hnd s)).2.1
 refine zdv mixed Try.func106 rfl (by decide) Try.ntmps106 (by simp) (zhw (zdA zfG) (hk _ _)) (hnd st.2) ?pure ?cells fun H0 g hf_ hp=>?_
 case pure=>exact fun H _=>(show Go.AM.Pure _ from .tup _ zaN).inH
 case cells=>exact (zgz (zdz (zfk (fun x=>(zaf (.v _) zaN))) zgy) (hin _))
 rw [zaA]
 change wpA _ _ _ _ (Fr.of [(0,.ms p1 0 1 mz0 mz0),(1,.i a1),(2,.i a2),(3,f0)]) H0 g
 have hS:=St.startH (L:=([(p1,.cells (st.1.map cI).flatten)]++Lo st.2)) hf_ (ziZ (hnd st.2)) hp
 replace hS:St (fun i=>i<g/\i∉ids ([(p1,.cells (st.1.map cI).flatten)]++Lo st.2)) H0 ([(p1,.cells (st.1.map cI).flatten)]++Lo st.2) H0 g:=hS
 refine Sq ?_
 refine Rg 3 ?_
 refine Om (.i a1) ?_
 refine Oi (.i (w64 (a1+1))) ?_
 refine Oa (.i (w64 (a1+1))) ?_
 refine Ni ?_
 refine Ws ?_
 refine zaB ?_
 refine zcx (V:=Int×(List Int)×S) (fun v=>[(0,.ms p1 0 1 mz0 mz0),(1,.i a1),(2,.i a2),(3,f0),(8,.i v.1)]) (fun v m2 H' g'=>St (fun i=>i<g/\i∉ids ([(p1,.cells (st.1.map cI).flatten)]++Lo st.2)) H0 ([(p1,.cells (v.2.1.map cI).flatten)]++Lo v.2.2) H' g'/\zad n a1 a2 aF mz0 m2 v.1 v.2.1 v.2.2=some r) (n:=n) (w64 (a1+1),st.1,st.2) (.k (.k (.k (.k (.k .nil))))) ⟨(hS.keep [true] rfl).up (by omega),hM⟩ ?_
 rintro ⟨v2,v3,v4⟩ m2 H g2 ⟨hS,hM⟩
 obtain _ | m2:=m2
 ·exact nomatch (show none=some _ from hM)
 change wpA _ _ _ _ (Fr.of [(0,.ms p1 0 1 mz0 mz0),(1,.i a1),(2,.i a2),(3,f0),(8,.i v2)]) _ _
 replace hS:St (fun i=>i<g/\i∉ids ([(p1,.cells (st.1.map cI).flatten)]++Lo st.2)) H0 ([(p1,.cells (v3.map cI).flatten)]++Lo v4) H g2:=hS
 replace hM:zbf n a1 a2 aF mz0 (zad n a1 a2 aF mz0 m2) v2 v3 v4=some r:=hM
 refine Sq ?_
 refine Sq ?_
 refine Rg 3 ?_
 refine Om (.i v2) ?_
 refine Om (.i a2) ?_
 refine Oi (.b (decide (v2<a2))) ?_
 refine Ni ?_
 refine Ws ?_
 rcases bft (decide (v2<a2)) with hb5 | hb5
 ·replace hM:=ifT hM hb5
  refine Ct hb5 ?_
  refine zaI ?_
  refine Ws ?_
  refine zaY (J:=(List Int)×S) (fun j=>[(0,.ms p1 0 1 mz0 mz0),(1,.i a1),(2,.i a2),(3,f0),(8,.i v2)]) (fun j H' g'=>St (fun i=>i<g/\i∉ids ([(p1,.cells (st.1.map cI).flatten)]++Lo st.2)) H0 ([(p1,.cells (j.1.map cI).flatten)]++Lo j.2) H' g'/\zbl (zad n a1 a2 aF mz0 m2) v2 j.1 j.2=some r) ?_ ?_
  ·rintro ⟨v6,v7⟩ H g3 ⟨hS,hM⟩
   change wpA _ _ _ _ (Fr.of [(0,.ms p1 0 1 mz0 mz0),(1,.i a1),(2,.i a2),(3,f0),(8,.i v2)]) _ _
   replace hS:St (fun i=>i<g/\i∉ids ([(p1,.cells (st.1.map cI).flatten)]++Lo st.2)) H0 ([(p1,.cells (v6.map cI).flatten)]++Lo v7) H g3:=hS
   replace hM:zbl (zad n a1 a2 aF mz0 m2) v2 v6 v7=some r:=hM
   refine Rg 3 ?_
   refine Om (.i v2) ?_
   refine Oi (.i (w64 (v2+1))) ?_
   refine Oa (.i (w64 (v2+1))) ?_
   refine Ni ?_
   exact zbY (w64 (v2+1),v6,v7) (Nat.lt_succ_self _) (.k (.k (.k (.k (.k .nil))))) ⟨(hS.keep [true] rfl).up (by omega),hM⟩
  ·refine zaB ?_
   refine Sq ?_
   refine Rg 2 ?_
   refine Om (.i v2) ?_
   refine Oa (.i v2) ?_
   refine Ni ?_
   refine Ws ?_
   refine zaB ?_
   refine zcx (V:=Int×(List Int)×S) (fun v=>[(0,.ms p1 0 1 mz0 mz0),(1,.i a1),(2,.i a2),(3,f0),(8,.i v2),(9,.i v.1)]) (fun v m5 H' g'=>St (fun i=>i<g/\i∉ids ([(p1,.cells (st.1.map cI).flatten)]++Lo st.2)) H0 ([(p1,.cells (v.2.1.map cI).flatten)]++Lo v.2.2) H' g'/\zat (zad n a1 a2 aF mz0 m2) a1 aF mz0 v2 m5 v.1 v.2.1 v.2.2=some r) (n:=n) (v2,v3,v4) (.k (.k (.k (.k (.k (.k .nil)))))) ⟨(hS.keep [true] rfl).up (by omega),hM⟩ ?_
   rintro ⟨v9,v10,v11⟩ m5 H g5 ⟨hS,hM⟩
   obtain _ | m5:=m5
   ·exact nomatch (show none=some _ from hM)
   change wpA _ _ _ _ (Fr.of [(0,.ms p1 0 1 mz0 mz0),(1,.i a1),(2,.i a2),(3,f0),(8,.i v2),(9,.i v9)]) _ _
   replace hS:St (fun i=>i<g/\i∉ids ([(p1,.cells (st.1.map cI).flatten)]++Lo st.2)) H0 ([(p1,.cells (v10.map cI).flatten)]++Lo v11) H g5:=hS
   replace hM:zbe (zad n a1 a2 aF mz0 m2) a1 aF mz0 v2 (zat (zad n a1 a2 aF mz0 m2) a1 aF mz0 v2 m5) v9 v10 v11=some r:=hM
   refine Sq ?_
   refine zaY (J:=Bool×S) (fun j=>[(0,.ms p1 0 1 mz0 mz0),(1,.i a1),(2,.i a2),(3,f0),(8,.i v2),(9,.i v9),(34,.b j.1)]) (fun j H' g'=>St (fun i=>i<g/\i∉ids ([(p1,.cells (st.1.map cI).flatten)]++Lo st.2)) H0 ([(p1,.cells (v10.map cI).flatten)]++Lo j.2) H' g'/\zaL (zad n a1 a2 aF mz0 m2) (zat (zad n a1 a2 aF mz0 m2) a1 aF mz0 v2 m5) mz0 v2 v9 v10 j.1 j.2=some r) ?_ ?_
   ·rintro ⟨v12,v13⟩ H g6 ⟨hS,hM⟩
    change wpA _ _ _ _ (Fr.of [(0,.ms p1 0 1 mz0 mz0),(1,.i a1),(2,.i a2),(3,f0),(8,.i v2),(9,.i v9),(34,.b v12)]) _ _
    replace hS:St (fun i=>i<g/\i∉ids ([(p1,.cells (st.1.map cI).flatten)]++Lo st.2)) H0 ([(p1,.cells (v10.map cI).flatten)]++Lo v13) H g6:=hS
    replace hM:zaL (zad n a1 a2 aF mz0 m2) (zat (zad n a1 a2 aF mz0 m2) a1 aF mz0 v2 m5) mz0 v2 v9 v10 v12 v13=some r:=hM
    rcases bft v12 with hb14 | hb14
    ·replace hM:=ifT hM hb14
     refine Ct hb14 ?_
     refine zaI ?_
     refine Ws ?_
     refine Sq ?_
     refine zaB ?_
     have hS0:=hS
     refine zdb (n:=18) rfl (by kernel_rfl) ?_
     refine Om (.ms p1 0 1 mz0 mz0) ?_
     refine Om (.i v9) ?_
     refine Om (.ms p1 0 1 mz0 mz0) ?_
     refine Om (.i v9) ?_
     refine Oi (.i (w64 (v9-1))) ?_
     refine Om (.ms p1 0 1 mz0 mz0) ?_
     refine Om (.i v9) ?_
     refine Oi (.i (w64 (v9-1))) ?_
     obtain ⟨x15,hx15,hM⟩:=zap hM
     refine zbv (xs:=v10) (z:=(w64 (v9-1))) (u:=x15) (by decide) rfl (zbw hx15) rfl zaV (zaz hx15) ?_
     refine zex (f:=cI) (xs:=v10) (z:=(w64 (v9-1))) (u:=x15) (c:=.i x15) 0 hS (by decide) rfl rfl (zaz hx15) (.st hS0 0 rfl (by omega)) (fun _=>rfl) rfl zai zas ?_
     refine Om (.ms p1 0 1 mz0 mz0) ?_
     refine Om (.i v9) ?_
     obtain ⟨x16,hx16,hM⟩:=zap hM
     refine zbv (xs:=v10) (z:=v9) (u:=x16) (by decide) rfl (zbw hx16) rfl zaV (zaz hx16) ?_
     refine zex (f:=cI) (xs:=v10) (z:=v9) (u:=x16) (c:=.i x16) 0 hS (by decide) rfl rfl (zaz hx16) (.st hS0 0 rfl (by omega)) (fun _=>rfl) rfl zai zas ?_
     obtain ⟨x17,hx17,hM⟩:=zap hM
     refine zbv (xs:=v10) (z:=v9) (u:=x17) (by decide) rfl (zbw hx17) rfl zaV (zaz hx17) ?_
     refine zen (f:=cI) (k:=1) (xs:=v10) (z:=v9) (u:=x17) (w:=x15) (v:=.i x15) (L':=([(p1,.cells ((v10.set (Int.toNat v9) x15).map cI).flatten)]++Lo v13)) 0 hS rfl rfl (zaz hx17) (.st hS0 0 rfl (by omega)) (fun _=>rfl) rfl rfl zdO rfl fun H hS=>?_
     obtain ⟨x18,hx18,hM⟩:=zap hM
     refine zbv (xs:=(v10.set (Int.toNat v9) x15)) (z:=(w64 (v9-1))) (u:=x18) (by decide) rfl (zbw hx18) rfl zaV (zaz hx18) ?_
     refine zen (f:=cI) (k:=1) (xs:=(v10.set (Int.toNat v9) x15)) (z:=(w64 (v9-1))) (u:=x18) (w:=x16) (v:=.i x16) (L':=([(p1,.cells (((v10.set (Int.toNat v9) x15).set (Int.toNat (w64 (v9-1))) x16).map cI).flatten)]++Lo v13)) 0 hS rfl rfl (zaz hx18) (.st hS0 0 rfl (by omega)) (fun _=>rfl) rfl rfl zdO rfl fun H hS=>?_
     refine Ni ?_
     refine zak ?_
     refine Ws ?_
     refine Rg 3 ?_
     refine Om (.i v9) ?_
     refine Oi (.i (w64 (v9-1))) ?_
     refine Oa (.i (w64 (v9-1))) ?_
     refine Ni ?_
     exact zbY (w64 (v9-1),((v10.set (Int.toNat v9) x15).set (Int.toNat (w64 (v9-1))) x16),v13) (Nat.lt_succ_self _) (.k (.k (.k (.k (.k (.k .nil)))))) ⟨(hS.keep [true] rfl).up (by omega),hM⟩
    ·replace hM:=ifF hM hb14
     refine Cf hb14 ?_
     refine zcw ?_
     refine zax ?_
     refine zaq ?_
     refine zaG ?_
     refine zak ?_
     exact zal (v10,v13) (.k (.k (.k (.k (.k .nil))))) ⟨(hS.keep [true] rfl).up (by omega),hM⟩
   ·have hS0:=hS
    refine zdb (n:=17) rfl (by kernel_rfl) ?_
    refine Om (.i v9) ?_
    refine Om (.i a1) ?_
    refine Oi (.b (decide (v9>a1))) ?_
    refine Om (.b (decide (v9>a1))) ?_
    rcases bft (decide (v9>a1)) with hb19 | hb19
    ·replace hM:=ifT hM hb19
     refine Oy (want:=true) hb19 ?_
     refine Om (f0) ?_
     refine Oy (want:=true) hb19 ?_
     refine Om (.ms p1 0 1 mz0 mz0) ?_
     refine Oy (want:=true) hb19 ?_
     refine Om (.i v9) ?_
     refine Oy (want:=true) hb19 ?_
     obtain ⟨x20,hx20,hM⟩:=zap hM
     refine zbv (xs:=v10) (z:=v9) (u:=x20) (by decide) rfl (zbw hx20) rfl zaV (zaz hx20) ?_
     refine Oy (want:=true) hb19 ?_
     refine zex (f:=cI) (xs:=v10) (z:=v9) (u:=x20) (c:=.i x20) 0 hS (by decide) rfl rfl (zaz hx20) (.st hS0 0 rfl (by omega)) (fun _=>rfl) rfl zai zas ?_
     refine Oy (want:=true) hb19 ?_
     refine Om (.ms p1 0 1 mz0 mz0) ?_
     refine Oy (want:=true) hb19 ?_
     refine Om (.i v9) ?_
     refine Oy (want:=true) hb19 ?_
     refine Oi (.i (w64 (v9-1))) ?_
     refine Oy (want:=true) hb19 ?_
     obtain ⟨x21,hx21,hM⟩:=zap hM
     refine zbv (xs:=v10) (z:=(w64 (v9-1))) (u:=x21) (by decide) rfl (zbw hx21) rfl zaV (zaz hx21) ?_
     refine Oy (want:=true) hb19 ?_
     refine zex (f:=cI) (xs:=v10) (z:=(w64 (v9-1))) (u:=x21) (c:=.i x21) 0 hS (by decide) rfl rfl (zaz hx21) (.st hS0 0 rfl (by omega)) (fun _=>rfl) rfl zai zas ?_
     refine Oy (want:=true) hb19 ?_
     obtain ⟨r22,hr22,hM⟩:=zap hM
     replace hS:St (fun i=>i<g/\i∉ids ([(p1,.cells (st.1.map cI).flatten)]++Lo st.2)) H0 ([(p1,.cells (v10.map cI).flatten)]++Lo v11) _ _:=hS
     refine zmY (bs:=[.i x20,.i x21]) (.inr (by kernel_rfl)) hS (by decide) rfl rfl ((hf hr22).le (.k (.k .nil))) (hk _ _).ids (by omega) fun H hS=>?_
     refine Oy (want:=true) hb19 ?_
     refine Oi (.b (decide (r22.1<0))) ?_
     refine Pt (.b (decide (r22.1<0))) hb19 ?_
     refine Ni ?_
     exact zal (decide (r22.1<0),r22.2) (.k (.k (.k (.k (.k (.k (.k .nil))))))) ⟨(hS.keep [true] rfl).up (by omega),hM⟩
    ·replace hM:=ifF hM hb19
     refine On (want:=true) hb19 ?_
     refine On (want:=true) hb19 ?_
     refine On (want:=true) hb19 ?_
     refine On (want:=true) hb19 ?_
     refine On (want:=true) hb19 ?_
     refine On (want:=true) hb19 ?_
     refine On (want:=true) hb19 ?_
     refine On (want:=true) hb19 ?_
     refine On (want:=true) hb19 ?_
     refine On (want:=true) hb19 ?_
     refine On (want:=true) hb19 ?_
     refine On (want:=true) hb19 ?_
     refine Pf (.b false) hb19 ?_
     refine Ni ?_
     exact zal (false,v11) (.k (.k (.k (.k (.k (.k (.k .nil))))))) ⟨(hS.keep [true] rfl).up (by omega),hM⟩
 ·replace hM:=ifF hM hb5
  refine Cf hb5 ?_
  refine zcw ?_
  refine zax ?_
  refine zaq ?_
  refine zaG ?_
  refine zfF (x:=.tup []) (f:=fun r=>.tup []) (fd:=fun r=>([(p1,.cells (r.2.1.map cI).flatten)]++Lo r.2.2)) (.inl rfl) ?_ (.refl _) (Option.some.inj hM) hS 0 rfl
  exact rfl
theorem ze9 {S:Type} {Lo:S->BL} (hk:∀s s',zhG (Lo s) (Lo s')) {p1:Nat} (hnd:∀s,([p1]++ids (Lo s)).Nodup) (hin:∀s,InB In (Lo s)) {aF:Int->Int->S->Option (Int×S)} {f0:AV} (hF:∀s H,Has H (Lo s)->In H f0) (h0:cellsOf f0=some [f0]) (hf:∀{x0:Int} {x1:Int} {s:S} {r:Int×S},aF x0 x1 s=some r->zmi Try.prog f0 [.i x0,.i x1] (Lo s) (.i r.1) (Lo r.2)) {n:Nat} {a1:Int} {mz0:Nat} {st:(List Int)×S} {r:Unit×((List Int)×S)} (hM:zdd n aF a1 mz0 st=some r):ziI Try.prog 84 [.ms p1 0 1 mz0 mz0,.i a1,f0] ([(p1,.cells (st.1.map cI).flatten)]++Lo st.2) (.tup []) ([(p1,.cells (r.2.1.map cI).flatten)]++Lo r.2.2):=by
 have hnd0:∀s,(ids (Lo s)).Nodup:=fun s=>(List.nodup_append.1 (hnd s)).2.1
 refine zdv mixed Try.func84 rfl (by decide) Try.ntmps84 (by simp) (zhw (zdA zfG) (hk _ _)) (hnd st.2) ?pure ?cells fun H0 g hf_ hp=>?_
 case pure=>exact fun H _=>(show Go.AM.Pure _ from .tup _ zaN).inH
 case cells=>exact (zgz (zdz (zfk (fun x=>(zaf (.v _) zaN))) zgy) (hin _))
 rw [zaA]
 change wpA _ _ _ _ (Fr.of [(0,.ms p1 0 1 mz0 mz0),(1,.i a1),(2,f0)]) H0 g
 have hS:=St.startH (L:=([(p1,.cells (st.1.map cI).flatten)]++Lo st.2)) hf_ (ziZ (hnd st.2)) hp
 replace hS:St (fun i=>i<g/\i∉ids ([(p1,.cells (st.1.map cI).flatten)]++Lo st.2)) H0 ([(p1,.cells (st.1.map cI).flatten)]++Lo st.2) H0 g:=hS
 refine Sq ?_
 refine Rg 1 ?_
 refine Oa (.i 20) ?_
 refine Ni ?_
 refine Ws ?_
 refine Sq ?_
 refine Rg 3 ?_
 refine Om (.i 20) ?_
 refine Oa (.i 0) ?_
 refine Oa (.i 20) ?_
 refine Ni ?_
 refine Ws ?_
 refine zaY (J:=Int×(List Int)×S) (fun j=>[(0,.ms p1 0 1 mz0 mz0),(1,.i a1),(2,f0),(6,.i 20),(7,.i j.1)]) (fun j H' g'=>St (fun i=>i<g/\i∉ids ([(p1,.cells (st.1.map cI).flatten)]++Lo st.2)) H0 ([(p1,.cells (j.2.1.map cI).flatten)]++Lo j.2.2) H' g'/\zca n a1 aF mz0 j.1 j.2.1 j.2.2=some r) ?_ ?_
 ·rintro ⟨v1,v2,v3⟩ H g1 ⟨hS,hM⟩
  change wpA _ _ _ _ (Fr.of [(0,.ms p1 0 1 mz0 mz0),(1,.i a1),(2,f0),(6,.i 20),(7,.i v1)]) _ _
  replace hS:St (fun i=>i<g/\i∉ids ([(p1,.cells (st.1.map cI).flatten)]++Lo st.2)) H0 ([(p1,.cells (v2.map cI).flatten)]++Lo v3) H g1:=hS
  replace hM:zca n a1 aF mz0 v1 v2 v3=some r:=hM
  refine Sq ?_
  refine Rg 5 ?_
  refine Om (.ms p1 0 1 mz0 mz0) ?_
  refine Om (.i v1) ?_
  refine Om (.i a1) ?_
  refine Om (f0) ?_
  obtain ⟨r4,hr4,hM⟩:=zap hM
  replace hS:St (fun i=>i<g/\i∉ids ([(p1,.cells (st.1.map cI).flatten)]++Lo st.2)) H0 ([(p1,.cells (v2.map cI).flatten)]++Lo v3) _ _:=hS
  have hndr4:=hS.nd_atS (ns:=[0]) (A:=[(p1,.cells (v2.map cI).flatten)]) (A':=[(p1,.cells (r4.2.1.map cI).flatten)]) (.cons rfl .nil) (by decide)
  refine zht (bs:=[.ms p1 0 1 mz0 mz0,.i v1,.i a1,f0]) (A:=[(p1,.cells (v2.map cI).flatten)]) (A':=[(p1,.cells (r4.2.1.map cI).flatten)]) (M:=Lo v3) (M':=Lo r4.2.2) (L':=[(p1,.cells (r4.2.1.map cI).flatten)]) [0] (.inl rfl) hS (by decide) rfl rfl ((zc2 (Lo:=Lo) (p1:=p1) hk (fun s=>zhx (T':=Lo s) (hk _ _) hndr4) hin (aF:=aF) hF h0 hf hr4).le (.k (.k (.k (.k .nil))))) (.cons rfl .nil) (hk _ _).ids rfl (by omega) fun H hS=>?_
  refine Ni ?_
  refine Ws ?_
  refine zaB ?_
  refine zcx (V:=Int) (fun v=>[(0,.ms p1 0 1 mz0 mz0),(1,.i a1),(2,f0),(6,.i v)]) (fun v m2 H' g'=>St (fun i=>i<g/\i∉ids ([(p1,.cells (st.1.map cI).flatten)]++Lo st.2)) H0 ([(p1,.cells (r4.2.1.map cI).flatten)]++Lo r4.2.2) H' g'/\zar n a1 r4 m2 v=some r) (n:=n) 20 (.k (.k (.k (.k .nil)))) ⟨(hS.keep [true] rfl).up (by omega),hM⟩ ?_
  rintro v5 m2 H g2 ⟨hS,hM⟩
  obtain _ | m2:=m2
  ·exact nomatch (show none=some _ from hM)
  change wpA _ _ _ _ (Fr.of [(0,.ms p1 0 1 mz0 mz0),(1,.i a1),(2,f0),(6,.i v5)]) _ _
  replace hS:St (fun i=>i<g/\i∉ids ([(p1,.cells (st.1.map cI).flatten)]++Lo st.2)) H0 ([(p1,.cells (r4.2.1.map cI).flatten)]++Lo r4.2.2) H g2:=hS
  replace hM:zcE n a1 r4 (zar n a1 r4 m2) v5=some r:=hM
  refine Sq ?_
  refine Sq ?_
  refine Rg 3 ?_
  refine Om (.i v5) ?_
  refine Om (.i a1) ?_
  refine Oi (.b (decide (v5<a1))) ?_
  refine Ni ?_
  refine Ws ?_
  rcases bft (decide (v5<a1)) with hb6 | hb6
  ·replace hM:=ifT hM hb6
   refine Ct hb6 ?_
   refine zaI ?_
   refine Ws ?_
   refine zaB ?_
   refine Sq ?_
   refine Rg 4 ?_
   refine Om (.i v5) ?_
   refine Oi (.i (w64 (2*v5))) ?_
   refine Oa (.i 0) ?_
   refine Oa (.i (w64 (2*v5))) ?_
   refine Ni ?_
   refine Ws ?_
   refine zaY (J:=Int) (fun j=>[(0,.ms p1 0 1 mz0 mz0),(1,.i a1),(2,f0),(6,.i v5),(7,.i j)]) (fun j H' g'=>St (fun i=>i<g/\i∉ids ([(p1,.cells (st.1.map cI).flatten)]++Lo st.2)) H0 ([(p1,.cells (r4.2.1.map cI).flatten)]++Lo r4.2.2) H' g'/\zcR (zar n a1 r4 m2) a1 v5 j=some r) ?_ ?_
   ·rintro v7 H g3 ⟨hS,hM⟩
    change wpA _ _ _ _ (Fr.of [(0,.ms p1 0 1 mz0 mz0),(1,.i a1),(2,f0),(6,.i v5),(7,.i v7)]) _ _
    replace hS:St (fun i=>i<g/\i∉ids ([(p1,.cells (st.1.map cI).flatten)]++Lo st.2)) H0 ([(p1,.cells (r4.2.1.map cI).flatten)]++Lo r4.2.2) H g3:=hS
    replace hM:zcR (zar n a1 r4 m2) a1 v5 v7=some r:=hM
    refine zaY (J:=Unit) (fun j=>[(0,.ms p1 0 1 mz0 mz0),(1,.i a1),(2,f0),(6,.i v5)]) (fun j H' g'=>St (fun i=>i<g/\i∉ids ([(p1,.cells (st.1.map cI).flatten)]++Lo st.2)) H0 ([(p1,.cells (r4.2.1.map cI).flatten)]++Lo r4.2.2) H' g'/\zcQ (zar n a1 r4 m2) v5=some r) ?_ ?_
    ·rintro _ H g4 ⟨hS,hM⟩
     change wpA _ _ _ _ (Fr.of [(0,.ms p1 0 1 mz0 mz0),(1,.i a1),(2,f0),(6,.i v5)]) _ _
     replace hS:St (fun i=>i<g/\i∉ids ([(p1,.cells (st.1.map cI).flatten)]++Lo st.2)) H0 ([(p1,.cells (r4.2.1.map cI).flatten)]++Lo r4.2.2) H g4:=hS
     replace hM:zcQ (zar n a1 r4 m2) v5=some r:=hM
     refine Rg 3 ?_
     refine Om (.i v5) ?_
     refine Oi (.i (w64 (v5*2))) ?_
     refine Oa (.i (w64 (v5*2))) ?_
     refine Ni ?_
     refine zak ?_
     exact zbY (w64 (v5*2)) (Nat.lt_succ_self _) (.k (.k (.k (.k .nil)))) ⟨(hS.keep [true] rfl).up (by omega),hM⟩
    ·refine Sq ?_
     refine Rg 4 ?_
     refine Om (.i v7) ?_
     refine Om (.i v5) ?_
     refine Oi (.i (w64 (v7+v5))) ?_
     refine Oa (.i (w64 (v7+v5))) ?_
     refine Ni ?_
     refine Ws ?_
     refine Sq ?_
     refine Rg 3 ?_
     refine Om (.i (w64 (v7+v5))) ?_
     refine Om (.i a1) ?_
     refine Oi (.b (decide ((w64 (v7+v5))<a1))) ?_
     refine Ni ?_
     refine Ws ?_
     rcases bft (decide ((w64 (v7+v5))<a1)) with hb8 | hb8
     ·replace hM:=ifT hM hb8
      refine Ct hb8 ?_
      refine Rg 6 ?_
      refine Om (.ms p1 0 1 mz0 mz0) ?_
      refine Om (.i v7) ?_
      refine Om (.i (w64 (v7+v5))) ?_
      refine Om (.i a1) ?_
      refine Om (f0) ?_
      exact nomatch (show none=some _ from hM)
     ·replace hM:=ifF hM hb8
      refine Cf hb8 ?_
      refine zaI ?_
      exact zal () (.k (.k (.k (.k .nil)))) ⟨(hS.keep [true] rfl).up (by omega),hM⟩
   ·refine zaB ?_
    refine zcx (V:=Int×Int) (fun v=>[(0,.ms p1 0 1 mz0 mz0),(1,.i a1),(2,f0),(6,.i v5),(7,.i v.1),(8,.i v.2)]) (fun v m5 H' g'=>St (fun i=>i<g/\i∉ids ([(p1,.cells (st.1.map cI).flatten)]++Lo st.2)) H0 ([(p1,.cells (r4.2.1.map cI).flatten)]++Lo r4.2.2) H' g'/\zb9 (zar n a1 r4 m2) a1 v5 m5 v.1 v.2=some r) (n:=n) (0,w64 (2*v5)) (.k (.k (.k (.k (.k (.k .nil)))))) ⟨(hS.keep [true] rfl).up (by omega),hM⟩ ?_
    rintro ⟨v9,v10⟩ m5 H g5 ⟨hS,hM⟩
    obtain _ | m5:=m5
    ·exact nomatch (show none=some _ from hM)
    change wpA _ _ _ _ (Fr.of [(0,.ms p1 0 1 mz0 mz0),(1,.i a1),(2,f0),(6,.i v5),(7,.i v9),(8,.i v10)]) _ _
    replace hS:St (fun i=>i<g/\i∉ids ([(p1,.cells (st.1.map cI).flatten)]++Lo st.2)) H0 ([(p1,.cells (r4.2.1.map cI).flatten)]++Lo r4.2.2) H g5:=hS
    replace hM:zdt (zar n a1 r4 m2) a1 v5 (zb9 (zar n a1 r4 m2) a1 v5 m5) v9 v10=some r:=hM
    refine Sq ?_
    refine Sq ?_
    refine Rg 3 ?_
    refine Om (.i v10) ?_
    refine Om (.i a1) ?_
    refine Oi (.b (decide (v10<=a1))) ?_
    refine Ni ?_
    refine Ws ?_
    rcases bft (decide (v10<=a1)) with hb11 | hb11
    ·replace hM:=ifT hM hb11
     refine Ct hb11 ?_
     refine zaI ?_
     refine Ws ?_
     refine zaB ?_
     refine Sq ?_
     refine Rg 8 ?_
     refine Om (.ms p1 0 1 mz0 mz0) ?_
     refine Om (.i v9) ?_
     refine Om (.i v9) ?_
     refine Om (.i v5) ?_
     refine Oi (.i (w64 (v9+v5))) ?_
     refine Om (.i v10) ?_
     refine Om (f0) ?_
     exact nomatch (show none=some _ from hM)
    ·replace hM:=ifF hM hb11
     refine Cf hb11 ?_
     refine zcw ?_
     refine zax ?_
     refine zaq ?_
     refine zaG ?_
     exact zal v9 (.k (.k (.k (.k (.k .nil))))) ⟨(hS.keep [true] rfl).up (by omega),hM⟩
  ·replace hM:=ifF hM hb6
   refine Cf hb6 ?_
   refine zcw ?_
   refine zax ?_
   refine zaq ?_
   refine zaG ?_
   refine zfF (x:=.tup []) (f:=fun r=>.tup []) (fd:=fun r=>([(p1,.cells (r.2.1.map cI).flatten)]++Lo r.2.2)) (.inl rfl) ?_ (.refl _) (Option.some.inj hM) hS 0 rfl
   exact rfl
 ·refine zaB ?_
  refine zcx (V:=Int×Int×(List Int)×S) (fun v=>[(0,.ms p1 0 1 mz0 mz0),(1,.i a1),(2,f0),(6,.i 20),(7,.i v.1),(8,.i v.2.1)]) (fun v m7 H' g'=>St (fun i=>i<g/\i∉ids ([(p1,.cells (st.1.map cI).flatten)]++Lo st.2)) H0 ([(p1,.cells (v.2.2.1.map cI).flatten)]++Lo v.2.2.2) H' g'/\zbz n a1 aF mz0 m7 v.1 v.2.1 v.2.2.1 v.2.2.2=some r) (n:=n) (0,20,st.1,st.2) (.k (.k (.k (.k (.k (.k .nil)))))) ⟨(hS.keep [true] rfl).up (by omega),hM⟩ ?_
  rintro ⟨v14,v15,v16,v17⟩ m7 H g7 ⟨hS,hM⟩
  obtain _ | m7:=m7
  ·exact nomatch (show none=some _ from hM)
  change wpA _ _ _ _ (Fr.of [(0,.ms p1 0 1 mz0 mz0),(1,.i a1),(2,f0),(6,.i 20),(7,.i v14),(8,.i v15)]) _ _
  replace hS:St (fun i=>i<g/\i∉ids ([(p1,.cells (st.1.map cI).flatten)]++Lo st.2)) H0 ([(p1,.cells (v16.map cI).flatten)]++Lo v17) H g7:=hS
  replace hM:zcF n a1 aF mz0 (zbz n a1 aF mz0 m7) v14 v15 v16 v17=some r:=hM
  refine Sq ?_
  refine Sq ?_
  refine Rg 3 ?_
  refine Om (.i v15) ?_
  refine Om (.i a1) ?_
  refine Oi (.b (decide (v15<=a1))) ?_
  refine Ni ?_
  refine Ws ?_
  rcases bft (decide (v15<=a1)) with hb18 | hb18
  ·replace hM:=ifT hM hb18
   refine Ct hb18 ?_
   refine zaI ?_
   refine Ws ?_
   refine zaB ?_
   refine Sq ?_
   refine Rg 5 ?_
   refine Om (.ms p1 0 1 mz0 mz0) ?_
   refine Om (.i v14) ?_
   refine Om (.i v15) ?_
   refine Om (f0) ?_
   obtain ⟨r19,hr19,hM⟩:=zap hM
   replace hS:St (fun i=>i<g/\i∉ids ([(p1,.cells (st.1.map cI).flatten)]++Lo st.2)) H0 ([(p1,.cells (v16.map cI).flatten)]++Lo v17) _ _:=hS
   have hndr19:=hS.nd_atS (ns:=[0]) (A:=[(p1,.cells (v16.map cI).flatten)]) (A':=[(p1,.cells (r19.2.1.map cI).flatten)]) (.cons rfl .nil) (by decide)
   refine zht (bs:=[.ms p1 0 1 mz0 mz0,.i v14,.i v15,f0]) (A:=[(p1,.cells (v16.map cI).flatten)]) (A':=[(p1,.cells (r19.2.1.map cI).flatten)]) (M:=Lo v17) (M':=Lo r19.2.2) (L':=[(p1,.cells (r19.2.1.map cI).flatten)]) [0] (.inl rfl) hS (by decide) rfl rfl ((zc2 (Lo:=Lo) (p1:=p1) hk (fun s=>zhx (T':=Lo s) (hk _ _) hndr19) hin (aF:=aF) hF h0 hf hr19).le (.k (.k (.k (.k .nil))))) (.cons rfl .nil) (hk _ _).ids rfl (by omega) fun H hS=>?_
   refine Ni ?_
   refine Ws ?_
   refine Sq ?_
   refine Rg 2 ?_
   refine Om (.i v15) ?_
   refine Oa (.i v15) ?_
   refine Ni ?_
   refine Ws ?_
   refine Rg 4 ?_
   refine Om (.i v15) ?_
   refine Om (.i 20) ?_
   refine Oi (.i (w64 (v15+20))) ?_
   refine Oa (.i (w64 (v15+20))) ?_
   refine Ni ?_
   refine zak ?_
   exact zbY (v15,w64 (v15+20),r19.2.1,r19.2.2) (Nat.lt_succ_self _) (.k (.k (.k (.k (.k (.k .nil)))))) ⟨(hS.keep [true] rfl).up (by omega),hM⟩
  ·replace hM:=ifF hM hb18
   refine Cf hb18 ?_
   refine zcw ?_
   refine zax ?_
   refine zaq ?_
   refine zaG ?_
   exact zal (v14,v16,v17) (.k (.k (.k (.k (.k .nil))))) ⟨(hS.keep [true] rfl).up (by omega),hM⟩
theorem ze6 {S:Type} {Lo:S->BL} (hk:∀s s',zhG (Lo s) (Lo s')) {p1:Nat} (hnd:∀s,([p1]++ids (Lo s)).Nodup) (hin:∀s,InB In (Lo s)) {aF:Int->Int->S->Option (Int×S)} {f0:AV} (hF:∀s H,Has H (Lo s)->In H f0) (h0:cellsOf f0=some [f0]) (hf:∀{x0:Int} {x1:Int} {s:S} {r:Int×S},aF x0 x1 s=some r->zmi Try.prog f0 [.i x0,.i x1] (Lo s) (.i r.1) (Lo r.2)) {n:Nat} {mz0:Nat} {st:(List Int)×S} {r:Unit×((List Int)×S)} (hM:zbR n aF mz0 st=some r):ziI Try.prog 51 [.ms p1 0 1 mz0 mz0,f0] ([(p1,.cells (st.1.map cI).flatten)]++Lo st.2) (.tup []) ([(p1,.cells (r.2.1.map cI).flatten)]++Lo r.2.2):=by
 have hnd0:∀s,(ids (Lo s)).Nodup:=fun s=>(List.nodup_append.1 (hnd s)).2.1
 refine zdv mixed Try.func51 rfl (by decide) Try.ntmps51 (by simp) (zhw (zdA zfG) (hk _ _)) (hnd st.2) ?pure ?cells fun H0 g hf_ hp=>?_
 case pure=>exact fun H _=>(show Go.AM.Pure _ from .tup _ zaN).inH
 case cells=>exact (zgz (zdz (zfk (fun x=>(zaf (.v _) zaN))) zgy) (hin _))
 rw [zaA]
 change wpA _ _ _ _ (Fr.of [(0,.ms p1 0 1 mz0 mz0),(1,f0)]) H0 g
 have hS:=St.startH (L:=([(p1,.cells (st.1.map cI).flatten)]++Lo st.2)) hf_ (ziZ (hnd st.2)) hp
 replace hS:St (fun i=>i<g/\i∉ids ([(p1,.cells (st.1.map cI).flatten)]++Lo st.2)) H0 ([(p1,.cells (st.1.map cI).flatten)]++Lo st.2) H0 g:=hS
 refine Rg 5 ?_
 refine Om (.ms p1 0 1 mz0 mz0) ?_
 refine Om (.ms p1 0 1 mz0 mz0) ?_
 refine zj6 (n:=mz0) (by decide) rfl zcK ?_
 refine Om (f0) ?_
 obtain ⟨r1,hr1,hM⟩:=zap hM
 replace hS:St (fun i=>i<g/\i∉ids ([(p1,.cells (st.1.map cI).flatten)]++Lo st.2)) H0 ([(p1,.cells (st.1.map cI).flatten)]++Lo st.2) _ _:=hS
 have hndr1:=hS.nd_atS (ns:=[0]) (A:=[(p1,.cells (st.1.map cI).flatten)]) (A':=[(p1,.cells (r1.2.1.map cI).flatten)]) (.cons rfl .nil) (by decide)
 refine zht (bs:=[.ms p1 0 1 mz0 mz0,.i (mz0:Int),f0]) (A:=[(p1,.cells (st.1.map cI).flatten)]) (A':=[(p1,.cells (r1.2.1.map cI).flatten)]) (M:=Lo st.2) (M':=Lo r1.2.2) (L':=[(p1,.cells (r1.2.1.map cI).flatten)]) [0] (.inl rfl) hS (by decide) rfl rfl ((ze9 (Lo:=Lo) (p1:=p1) hk (fun s=>zhx (T':=Lo s) (hk _ _) hndr1) hin (aF:=aF) hF h0 hf hr1).le (.k (.k (.k .nil)))) (.cons rfl .nil) (hk _ _).ids rfl (by omega) fun H hS=>?_
 refine Ni ?_
 refine zfF (x:=.tup []) (f:=fun r=>.tup []) (fd:=fun r=>([(p1,.cells (r.2.1.map cI).flatten)]++Lo r.2.2)) (.inl rfl) ?_ (.refl _) (Option.some.inj hM) hS 0 rfl
 exact rfl
theorem zf9 {a0:Int} {r:Bool} (hM:cmp_isNaN_int a0=some r):zaS Try.prog 85 [.i a0] (.b r):=by
 refine zaF mixed Try.func85 rfl (by decide) Try.ntmps85 (by simp) ?pure fun H0 g hf=>?_
 case pure=>exact .v _
 rw [zaA]
 change wpA _ _ _ _ (Fr.of [(0,.i a0)]) H0 g
 have hS:=St.start hf
 refine Sq ?_
 refine Rg 1 ?_
 refine Oa (.b false) ?_
 refine Ni ?_
 refine Ws ?_
 refine Sq ?_
 refine Rg 4 ?_
 refine Om (.i a0) ?_
 refine Om (.i a0) ?_
 refine Oi (.b (a0 != a0)) ?_
 refine Oa (.b (a0 != a0)) ?_
 refine Ni ?_
 refine zfX [(2,.b (a0 != a0))] (.k .nil) ?_
 refine zbB ?_
 refine zbL (x:=.b (a0 != a0)) (f:=fun r=>.b r) (.inr rfl) ?_ (.refl _) (Option.some.inj hM) hS
 exact (zaJ (zau (x:=.b (a0 != a0)) rfl))
theorem zhC {a0:Int} {a1:Int} {r:Int} (hM:cmp_Compare_int a0 a1=some r):zaS Try.prog 53 [.i a0,.i a1] (.i r):=by
 refine zaF mixed Try.func53 rfl (by decide) Try.ntmps53 (by simp) ?pure fun H0 g hf=>?_
 case pure=>exact .v _
 rw [zaA]
 change wpA _ _ _ _ (Fr.of [(0,.i a0),(1,.i a1)]) H0 g
 have hS:=St.start hf
 refine Sq ?_
 refine Rg 1 ?_
 refine Oa (.i 0) ?_
 refine Ni ?_
 refine Ws ?_
 refine Sq ?_
 refine Rg 3 ?_
 refine Om (.i a0) ?_
 obtain ⟨r1,hr1,hM⟩:=zap hM
 refine zbo (bs:=[.i a0]) (by decide) rfl rfl ((zf9 hr1).le (.k .nil)) ?_
 refine Oa (.b r1) ?_
 refine Ni ?_
 refine Ws ?_
 refine Sq ?_
 refine Rg 3 ?_
 refine Om (.i a1) ?_
 obtain ⟨r2,hr2,hM⟩:=zap hM
 refine zbo (bs:=[.i a1]) (by decide) rfl rfl ((zf9 hr2).le (.k .nil)) ?_
 refine Oa (.b r2) ?_
 refine Ni ?_
 refine Ws ?_
 refine Sq ?_
 refine Sq ?_
 refine Rg 1 ?_
 refine Om (.b r1) ?_
 refine Ni ?_
 refine Ws ?_
 rcases bft r1 with hb3 | hb3
 ·replace hM:=ifT hM hb3
  refine Ct hb3 ?_
  refine Sq ?_
  refine Sq ?_
  refine Rg 1 ?_
  refine Om (.b r2) ?_
  refine Ni ?_
  refine Ws ?_
  rcases bft r2 with hb4 | hb4
  ·replace hM:=ifT hM hb4
   refine Ct hb4 ?_
   refine Sq ?_
   refine Rg 1 ?_
   refine Oa (.i 0) ?_
   refine Ni ?_
   refine Ws ?_
   refine zbB ?_
   refine zay ?_
   refine zay ?_
   refine zbL (x:=.i 0) (f:=fun r=>.i r) (.inr rfl) ?_ (.refl _) (Option.some.inj hM) hS
   exact (zaJ (zau (x:=.i 0) rfl))
  ·replace hM:=ifF hM hb4
   refine Cf hb4 ?_
   refine zaI ?_
   refine Ws ?_
   refine Sq ?_
   refine Rg 1 ?_
   refine Oa (.i (-1)) ?_
   refine Ni ?_
   refine Ws ?_
   refine zbB ?_
   refine zay ?_
   refine zbL (x:=.i (-1)) (f:=fun r=>.i r) (.inr rfl) ?_ (.refl _) (Option.some.inj hM) hS
   exact (zaJ (zau (x:=.i (-1)) rfl))
 ·replace hM:=ifF hM hb3
  refine Cf hb3 ?_
  refine zaI ?_
  refine Ws ?_
  refine Sq ?_
  refine Sq ?_
  refine Rg 1 ?_
  refine Om (.b r2) ?_
  refine Ni ?_
  refine Ws ?_
  rcases bft r2 with hb5 | hb5
  ·replace hM:=ifT hM hb5
   refine Ct hb5 ?_
   refine Sq ?_
   refine Rg 1 ?_
   refine Oa (.i 1) ?_
   refine Ni ?_
   refine Ws ?_
   refine zbB ?_
   refine zay ?_
   refine zbL (x:=.i 1) (f:=fun r=>.i r) (.inr rfl) ?_ (.refl _) (Option.some.inj hM) hS
   exact (zaJ (zau (x:=.i 1) rfl))
  ·replace hM:=ifF hM hb5
   refine Cf hb5 ?_
   refine zaI ?_
   refine Ws ?_
   refine Sq ?_
   refine Sq ?_
   refine Rg 3 ?_
   refine Om (.i a0) ?_
   refine Om (.i a1) ?_
   refine Oi (.b (decide (a0<a1))) ?_
   refine Ni ?_
   refine Ws ?_
   rcases bft (decide (a0<a1)) with hb6 | hb6
   ·replace hM:=ifT hM hb6
    refine Ct hb6 ?_
    refine Sq ?_
    refine Rg 1 ?_
    refine Oa (.i (-1)) ?_
    refine Ni ?_
    refine Ws ?_
    refine zbB ?_
    refine zay ?_
    refine zbL (x:=.i (-1)) (f:=fun r=>.i r) (.inr rfl) ?_ (.refl _) (Option.some.inj hM) hS
    exact (zaJ (zau (x:=.i (-1)) rfl))
   ·replace hM:=ifF hM hb6
    refine Cf hb6 ?_
    refine zaI ?_
    refine Ws ?_
    refine Sq ?_
    refine Sq ?_
    refine Rg 3 ?_
    refine Om (.i a0) ?_
    refine Om (.i a1) ?_
    refine Oi (.b (decide (a0>a1))) ?_
    refine Ni ?_
    refine Ws ?_
    rcases bft (decide (a0>a1)) with hb7 | hb7
    ·replace hM:=ifT hM hb7
     refine Ct hb7 ?_
     refine Sq ?_
     refine Rg 1 ?_
     refine Oa (.i 1) ?_
     refine Ni ?_
     refine Ws ?_
     refine zbB ?_
     refine zay ?_
     refine zbL (x:=.i 1) (f:=fun r=>.i r) (.inr rfl) ?_ (.refl _) (Option.some.inj hM) hS
     exact (zaJ (zau (x:=.i 1) rfl))
    ·replace hM:=ifF hM hb7
     refine Cf hb7 ?_
     refine zaI ?_
     refine Ws ?_
     refine Sq ?_
     refine Rg 1 ?_
     refine Oa (.i 0) ?_
     refine Ni ?_
     refine zfX [(4,.i 0)] (.k .nil) ?_
     refine zbB ?_
     refine zbL (x:=.i 0) (f:=fun r=>.i r) (.inr rfl) ?_ (.refl _) (Option.some.inj hM) hS
     exact (zaJ (zau (x:=.i 0) rfl))
theorem zeN {a0:Int} {a1:Int} {a2:Int} {a3:Weights_} {r:Int} (hM:za8 a0 a1 a2 a3=some r):zaS Try.prog 52 [.i a0,.i a1,.ep [.i a2],.ep (Weights_.cells a3)] (.i r):=by
 refine zaF mixed Try.func52 rfl (by decide) Try.ntmps52 (by simp) ?pure fun H0 g hf=>?_
 case pure=>exact .v _
 rw [zaA]
 change wpA _ _ _ _ (Fr.of [(0,.i a0),(1,.i a1),(2,.ep [.i a2]),(3,.ep (Weights_.cells a3))]) H0 g
 have hS:=St.start hf
 refine Sq ?_
 refine Rg 1 ?_
 refine Oa (.i 0) ?_
 refine Ni ?_
 refine Ws ?_
 refine Sq ?_
 have hS0:=hS
 refine zdb (n:=22) rfl (by kernel_rfl) ?_
 refine Olp (.i a2) zai zas ?_
 refine Of ((Weights_.cells a3)) zeH ?_
 refine Olp (.sl .no 1 (a3.of_.map cI)) zef zeM ?_
 refine Om (.i a1) ?_
 obtain ⟨x1,hx1,hM⟩:=zap hM
 refine zbr (xs:=a3.of_) (f:=cI) (z:=a1) (u:=x1) (by decide) rfl rfl zaV hx1 ?_
 refine Olp (.i x1) zai zas ?_
 refine Oi (.i (w64 (a2*x1))) ?_
 refine Of ((Weights_.cells a3)) ze5 ?_
 refine Olp (.i a3.all) zai zas ?_
 obtain ⟨q2,hq2,hM⟩:=zap hM
 refine zii (by decide) rfl rfl (zjo hq2) ?_
 refine Olp (.i a2) zai zas ?_
 refine Of ((Weights_.cells a3)) zeH ?_
 refine Olp (.sl .no 1 (a3.of_.map cI)) zef zeM ?_
 refine Om (.i a0) ?_
 obtain ⟨x3,hx3,hM⟩:=zap hM
 refine zbr (xs:=a3.of_) (f:=cI) (z:=a0) (u:=x3) (by decide) rfl rfl zaV hx3 ?_
 refine Olp (.i x3) zai zas ?_
 refine Oi (.i (w64 (a2*x3))) ?_
 refine Of ((Weights_.cells a3)) ze5 ?_
 refine Olp (.i a3.all) zai zas ?_
 obtain ⟨q4,hq4,hM⟩:=zap hM
 refine zii (by decide) rfl rfl (zjo hq4) ?_
 obtain ⟨r5,hr5,hM⟩:=zap hM
 refine zbo (bs:=[.i q2,.i q4]) (by decide) rfl rfl ((zhC hr5).le (.k (.k .nil))) ?_
 refine Oa (.i r5) ?_
 refine Ni ?_
 refine zfX [(6,.i r5)] (.k .nil) ?_
 refine zbB ?_
 refine zbL (x:=.i r5) (f:=fun r=>.i r) (.inr rfl) ?_ (.refl _) (Option.some.inj hM) hS
 exact (zaJ (zau (x:=.i r5) rfl))
theorem zfa {n:Nat} {a0:Weights_} {a1:Int} {r:(List Int)} (hM:zbu n a0 a1=some r):zaS Try.prog 29 [.agg (Weights_.cells a0),.i a1] (.sl .no 1 (r.map cI)):=by
 refine zaF mixed Try.func29 rfl (by decide) Try.ntmps29 (by simp) ?pure fun H0 g hf=>?_
 case pure=>exact .sl _ _ (zaK (fun x=>(zaf (.v _) zaN)))
 rw [zaA]
 change wpA _ _ _ _ (Fr.of [(0,.agg (Weights_.cells a0)),(1,.i a1)]) H0 g
 have hS:=St.start hf
 refine Sq ?_
 refine Rg 3 ?_
 refine zeZ (v:=.agg (Weights_.cells a0)) (cs:=(Weights_.cells a0)) hS (by decide) rfl rfl (by omega) fun H hS=>?_
 refine zeZ (v:=.i a1) (cs:=[.i a1]) hS (by decide) rfl rfl (by omega) fun H hS=>?_
 refine Oa (.sl .nil 0 []) ?_
 refine Ni ?_
 refine zcW (L':=[(g+1,.cells [.i a1])]) 1 2 hS rfl rfl rfl fun H hS=>?_
 refine zcW (L':=[]) 0 3 hS rfl rfl rfl fun H hS=>?_
 refine Ws ?_
 refine Sq ?_
 have hS0:=hS
 refine zdb (n:=12) rfl (by kernel_rfl) ?_
 refine Of ((Weights_.cells a0)) zeH ?_
 refine Olp (.sl .no 1 (a0.of_.map cI)) zef zeM ?_
 refine zcI (n:=a0.of_.length) (by decide) rfl (List.length_map _) zcK ?_
 obtain ⟨l1,hl1,hM⟩:=zap hM
 refine zgN (f:=cI) (z:=(a0.of_.length:Int)) (n:=a0.of_.length) (us:=l1) hS (by decide) rfl rfl hl1 rfl zaV zf3 zgm zf4 (by omega) fun H hS=>?_
 refine Of ((Weights_.cells a0)) zeH ?_
 refine Olp (.sl .no 1 (a0.of_.map cI)) zef zeM ?_
 refine zcI (n:=a0.of_.length) (by decide) rfl (List.length_map _) zcK ?_
 obtain ⟨l2,hl2,hM⟩:=zap hM
 refine zgN (f:=cI) (z:=(a0.of_.length:Int)) (n:=a0.of_.length) (us:=l2) hS (by decide) rfl rfl hl2 rfl zaV zf3 zgm zf4 (by omega) fun H hS=>?_
 refine Olp (.i a1) zai zas ?_
 refine Oa (.ms (g+3+3) 0 1 a0.of_.length a0.of_.length) ?_
 refine Oa (.ms (g+3+7) 0 1 a0.of_.length a0.of_.length) ?_
 refine Oa (.i a1) ?_
 refine Ni ?_
 refine Ws ?_
 refine zaY (J:=Int×(List Int)×(List Int)) (fun j=>[(2,.ep (Weights_.cells a0)),(3,.ep [.i a1]),(5,.ms (g+3+3) 0 1 a0.of_.length a0.of_.length),(6,.ms (g+3+7) 0 1 a0.of_.length a0.of_.length),(7,.i j.1)]) (fun j H' g'=>St (·<g) H0 [(g+3+7,.cells (j.2.1.map cI).flatten),(g+3+3,.cells (j.2.2.map cI).flatten)] H' g'/\zbA n a0 a1 j.1 j.2.1 j.2.2=some r) ?_ ?_
 ·rintro ⟨v3,v4,v5⟩ H g1 ⟨hS,hM⟩
  change wpA _ _ _ _ (Fr.of [(2,.ep (Weights_.cells a0)),(3,.ep [.i a1]),(5,.ms (g+3+3) 0 1 a0.of_.length a0.of_.length),(6,.ms (g+3+7) 0 1 a0.of_.length a0.of_.length),(7,.i v3)]) _ _
  replace hS:St (·<g) H0 [(g+3+7,.cells (v4.map cI).flatten),(g+3+3,.cells (v5.map cI).flatten)] H g1:=hS
  replace hM:zbA n a0 a1 v3 v4 v5=some r:=hM
  refine Sq ?_
  refine Rg 3 ?_
  refine Om (.ms (g+3+7) 0 1 a0.of_.length a0.of_.length) ?_
  refine zl0 (first:=[]) (cap:=[.ep [.i a1],.ep (Weights_.cells a0)]) (by decide) rfl rfl ?_
  obtain ⟨r6,hr6,hM⟩:=zap hM
  have hndr6:=hS.nd_at (ns:=[0]) (M:=[(g+3+7,.cells (v4.map cI).flatten)]) (M':=[(g+3+7,.cells (r6.2.1.map cI).flatten)]) (.cons rfl .nil) (by decide)
  refine zfY (bs:=[.ms (g+3+7) 0 1 a0.of_.length a0.of_.length,.fn (.func 52) [] [.ep [.i a1],.ep (Weights_.cells a0)]]) (M:=[(g+3+7,.cells (v4.map cI).flatten)]) (M':=[(g+3+7,.cells (r6.2.1.map cI).flatten)]) (L':=[(g+3+7,.cells (r6.2.1.map cI).flatten),(g+3+3,.cells (v5.map cI).flatten)]) [0] (.inl rfl) hS (by decide) rfl rfl ((ze6 (Lo:=(fun (_:Unit)=>[])) (p1:=g+3+7) (fun _ _=>zfG) (fun _=>hndr6) (fun _=>zhs) (aF:=(fun (x0:Int) (x1:Int) (_:Unit)=>(za8 x0 x1 a1 a0).map fun y=>(y,()))) (fun _ H hH=>(.fn _ _ _ ziY (zim (.ep _ (zim (show Go.AM.Pure _ from .v _).inH ziY)) (zim (.ep _ (zim (show Go.AM.Pure _ from .sl _ _ (zaK (fun x=>(zaf (.v _) zaN)))).inH (zim (show Go.AM.Pure _ from .v _).inH ziY))) ziY)))) rfl (fun h=>zlc (zeN (zj3 h))) hr6).le (.k (.k .nil))) (.cons rfl .nil) rfl (by omega) fun H hS=>?_
  refine Ni ?_
  obtain ⟨x7,hx7,hM⟩:=zap hM
  refine zoM (t:=6) (k:=1) (es:=r6.2.1.map cI) (L':=[(g+3+3,.cells (v5.map cI).flatten)]) 0 hS rfl rfl (zgi hx7) (zg5 hx7) (by decide) (zfA (fun _=>rfl)) (zg3 (fun x=>(zeL zg2))) rfl fun H hS=>?_
  refine Ws ?_
  refine zaY (J:=(List Int)) (fun j=>[(5,.ms (g+3+3) 0 1 a0.of_.length a0.of_.length)]) (fun j H' g'=>St (·<g) H0 [(g+3+3,.cells (j.map cI).flatten)] H' g'/\zcb a0 j=some r) ?_ ?_
  ·rintro v8 H g2 ⟨hS,hM⟩
   change wpA _ _ _ _ (Fr.of [(5,.ms (g+3+3) 0 1 a0.of_.length a0.of_.length)]) _ _
   replace hS:St (·<g) H0 [(g+3+3,.cells (v8.map cI).flatten)] H g2:=hS
   replace hM:zcb a0 v8=some r:=hM
   refine Sq ?_
   refine Rg 2 ?_
   refine Om (.ms (g+3+3) 0 1 a0.of_.length a0.of_.length) ?_
   refine Oa (.ms (g+3+3) 0 1 a0.of_.length a0.of_.length) ?_
   refine Ni ?_
   obtain ⟨x9,hx9,hM⟩:=zap hM
   refine zoM (t:=4) (k:=1) (es:=v8.map cI) (L':=[]) 0 hS rfl rfl (zgi hx9) (zg5 hx9) (by decide) (zfA (fun _=>rfl)) (zg3 (fun x=>(zeL zg2))) rfl fun H hS=>?_
   refine Ws ?_
   refine zbB ?_
   refine zbL (x:=.sl .no 1 (v8.map cI)) (f:=fun r=>.sl .no 1 (r.map cI)) (.inr rfl) ?_ (.refl _) (Option.some.inj hM) hS
   exact (zaJ (zau (x:=.sl .no 1 (v8.map cI)) rfl))
  ·refine Sq ?_
   refine Rg 5 ?_
   refine Om (.sl .no 1 (r6.2.1.map cI)) ?_
   refine Om (.i v3) ?_
   obtain ⟨c10,hc10,hM⟩:=zap hM
   refine zmU (xs:=r6.2.1) (ys:=c10) (f:=cI) (p:=0) (q:=v3) (by decide) rfl zaV (.inl ⟨rfl,rfl⟩) (.inr rfl) hc10 ?_
   refine zcI (n:=c10.length) (by decide) rfl (List.length_map _) zcK ?_
   refine Om (.i 0) ?_
   refine Ni ?_
   refine Ws ?_
   refine zaB ?_
   refine zcx (V:=Int×(List Int)) (fun v=>[(5,.ms (g+3+3) 0 1 a0.of_.length a0.of_.length),(54,.sl .no 1 (c10.map cI)),(55,.i (c10.length:Int)),(56,.i v.1)]) (fun v m4 H' g'=>St (·<g) H0 [(g+3+3,.cells (v.2.map cI).flatten)] H' g'/\zaX a0 c10 m4 v.1 v.2=some r) (n:=n) (0,v5) (.k (.k (.k (.k .nil)))) ⟨(hS.keep [true] rfl).up (by omega),hM⟩ ?_
   rintro ⟨v12,v13⟩ m4 H g4 ⟨hS,hM⟩
   obtain _ | m4:=m4
   ·exact nomatch (show none=some _ from hM)
   change wpA _ _ _ _ (Fr.of [(5,.ms (g+3+3) 0 1 a0.of_.length a0.of_.length),(54,.sl .no 1 (c10.map cI)),(55,.i (c10.length:Int)),(56,.i v12)]) _ _
   replace hS:St (·<g) H0 [(g+3+3,.cells (v13.map cI).flatten)] H g4:=hS
   replace hM:zbX a0 c10 (zaX a0 c10 m4) v12 v13=some r:=hM
   refine Sq ?_
   refine Rg 1 ?_
   refine Oi (.b (decide (v12<(c10.length:Int)))) ?_
   refine Ni ?_
   refine Ws ?_
   refine Sq ?_
   rcases bft (decide (v12<(c10.length:Int))) with hb14 | hb14
   ·replace hM:=ifT hM hb14
    refine Ct hb14 ?_
    refine zaI ?_
    refine Ws ?_
    refine Sq ?_
    refine zaB ?_
    refine Sq ?_
    refine Rg 3 ?_
    obtain ⟨x15,hx15,hM⟩:=zap hM
    refine zbr (xs:=c10) (f:=cI) (z:=v12) (u:=x15) (by decide) rfl rfl zaV hx15 ?_
    refine Olp (.i x15) zai zas ?_
    refine Oa (.i x15) ?_
    refine Ni ?_
    refine Ws ?_
    refine Rg 7 ?_
    refine Om (.ms (g+3+3) 0 1 a0.of_.length a0.of_.length) ?_
    refine Om (.i x15) ?_
    obtain ⟨x16,hx16,hM⟩:=zap hM
    refine zbv (xs:=v13) (z:=x15) (u:=x16) (by decide) rfl (zbw hx16) rfl zaV (zaz hx16) ?_
    refine zex (f:=cI) (xs:=v13) (z:=x15) (u:=x16) (c:=.i x16) 0 hS (by decide) rfl rfl (zaz hx16) .no (fun _=>rfl) rfl zai zas ?_
    refine Oi (.i (w64 (x16+1))) ?_
    obtain ⟨x17,hx17,hM⟩:=zap hM
    refine zbv (xs:=v13) (z:=x15) (u:=x17) (by decide) rfl (zbw hx17) rfl zaV (zaz hx17) ?_
    refine zen (f:=cI) (k:=1) (xs:=v13) (z:=x15) (u:=x17) (w:=(w64 (x16+1))) (v:=.i (w64 (x16+1))) (L':=[(g+3+3,.cells ((v13.set (Int.toNat x15) (w64 (x16+1))).map cI).flatten)]) 0 hS rfl rfl (zaz hx17) .no (fun _=>rfl) rfl rfl zdO rfl fun H hS=>?_
    refine Ni ?_
    refine zak ?_
    refine Ws ?_
    refine Rg 2 ?_
    refine Oi (.i (w64 (v12+1))) ?_
    refine Om (.i (w64 (v12+1))) ?_
    refine Ni ?_
    exact zbY (w64 (v12+1),(v13.set (Int.toNat x15) (w64 (x16+1)))) (Nat.lt_succ_self _) (.k (.k (.k (.k .nil)))) ⟨(hS.keep [true] rfl).up (by omega),hM⟩
   ·replace hM:=ifF hM hb14
    refine Cf hb14 ?_
    refine zcw ?_
    refine zax ?_
    refine zaq ?_
    refine zaG ?_
    exact zal v13 (.k .nil) ⟨(hS.keep [true] rfl).up (by omega),hM⟩
 ·refine Sq ?_
  refine Rg 4 ?_
  refine Of ((Weights_.cells a0)) zeH ?_
  refine Olp (.sl .no 1 (a0.of_.map cI)) zef zeM ?_
  refine zcI (n:=a0.of_.length) (by decide) rfl (List.length_map _) zcK ?_
  refine Om (.i 0) ?_
  refine Ni ?_
  refine Ws ?_
  refine zaB ?_
  refine zcx (V:=Int×Int×(List Int)×(List Int)) (fun v=>[(2,.ep (Weights_.cells a0)),(3,.ep [.i a1]),(5,.ms (g+3+3) 0 1 a0.of_.length a0.of_.length),(6,.ms (g+3+7) 0 1 a0.of_.length a0.of_.length),(7,.i v.1),(22,.sl .no 1 (a0.of_.map cI)),(23,.i (a0.of_.length:Int)),(24,.i v.2.1)]) (fun v m6 H' g'=>St (·<g) H0 [(g+3+7,.cells (v.2.2.1.map cI).flatten),(g+3+3,.cells (v.2.2.2.map cI).flatten)] H' g'/\zaM n a0 a1 m6 v.1 v.2.1 v.2.2.1 v.2.2.2=some r) (n:=n) (a1,0,l2,l1) (.k (.k (.k (.k (.k (.k (.k (.k .nil)))))))) ⟨(hS.keep [true,true] rfl).up (by omega),hM⟩ ?_
  rintro ⟨v20,v21,v22,v23⟩ m6 H g6 ⟨hS,hM⟩
  obtain _ | m6:=m6
  ·exact nomatch (show none=some _ from hM)
  change wpA _ _ _ _ (Fr.of [(2,.ep (Weights_.cells a0)),(3,.ep [.i a1]),(5,.ms (g+3+3) 0 1 a0.of_.length a0.of_.length),(6,.ms (g+3+7) 0 1 a0.of_.length a0.of_.length),(7,.i v20),(22,.sl .no 1 (a0.of_.map cI)),(23,.i (a0.of_.length:Int)),(24,.i v21)]) _ _
  replace hS:St (·<g) H0 [(g+3+7,.cells (v22.map cI).flatten),(g+3+3,.cells (v23.map cI).flatten)] H g6:=hS
  replace hM:zbk n a0 a1 (zaM n a0 a1 m6) v20 v21 v22 v23=some r:=hM
  refine Sq ?_
  refine Rg 1 ?_
  refine Oi (.b (decide (v21<(a0.of_.length:Int)))) ?_
  refine Ni ?_
  refine Ws ?_
  refine Sq ?_
  rcases bft (decide (v21<(a0.of_.length:Int))) with hb24 | hb24
  ·replace hM:=ifT hM hb24
   refine Ct hb24 ?_
   refine zaI ?_
   refine Ws ?_
   refine Sq ?_
   refine zaB ?_
   refine Sq ?_
   refine Rg 5 ?_
   refine Om (.i v21) ?_
   obtain ⟨x25,hx25,hM⟩:=zap hM
   refine zbr (xs:=a0.of_) (f:=cI) (z:=v21) (u:=x25) (by decide) rfl rfl zaV hx25 ?_
   refine Olp (.i x25) zai zas ?_
   refine Oa (.i v21) ?_
   refine Oa (.i x25) ?_
   refine Ni ?_
   refine Ws ?_
   refine Sq ?_
   refine Rg 15 ?_
   refine Om (.ms (g+3+3) 0 1 a0.of_.length a0.of_.length) ?_
   refine Om (.i v21) ?_
   refine Om (.ms (g+3+7) 0 1 a0.of_.length a0.of_.length) ?_
   refine Om (.i v21) ?_
   refine Olp (.i a1) zai zas ?_
   refine Om (.i x25) ?_
   refine Oi (.i (w64 (a1*x25))) ?_
   refine Of ((Weights_.cells a0)) ze5 ?_
   refine Olp (.i a0.all) zai zas ?_
   obtain ⟨q26,hq26,hM⟩:=zap hM
   refine zii (by decide) rfl rfl (zhr hq26) ?_
   refine Om (.i v21) ?_
   obtain ⟨x27,hx27,hM⟩:=zap hM
   refine zbv (xs:=v23) (z:=v21) (u:=x27) (by decide) rfl (zbw hx27) rfl zaV (zaz hx27) ?_
   refine zen (f:=cI) (k:=1) (xs:=v23) (z:=v21) (u:=x27) (w:=q26) (v:=.i q26) (L':=[(g+3+7,.cells (v22.map cI).flatten),(g+3+3,.cells ((v23.set (Int.toNat v21) q26).map cI).flatten)]) 1 hS rfl rfl (zaz hx27) .no (fun _=>rfl) rfl rfl zdO rfl fun H hS=>?_
   obtain ⟨x28,hx28,hM⟩:=zap hM
   refine zbv (xs:=v22) (z:=v21) (u:=x28) (by decide) rfl (zbw hx28) rfl zaV (zaz hx28) ?_
   refine zen (f:=cI) (k:=1) (xs:=v22) (z:=v21) (u:=x28) (w:=v21) (v:=.i v21) (L':=[(g+3+7,.cells ((v22.set (Int.toNat v21) v21).map cI).flatten),(g+3+3,.cells ((v23.set (Int.toNat v21) q26).map cI).flatten)]) 0 hS rfl rfl (zaz hx28) .no (fun _=>rfl) rfl rfl zdO rfl fun H hS=>?_
   refine Ni ?_
   refine Ws ?_
   refine Rg 7 ?_
   refine Om (.i v20) ?_
   refine Om (.ms (g+3+3) 0 1 a0.of_.length a0.of_.length) ?_
   refine Om (.i v21) ?_
   obtain ⟨x29,hx29,hM⟩:=zap hM
   refine zbv (xs:=(v23.set (Int.toNat v21) q26)) (z:=v21) (u:=x29) (by decide) rfl (zbw hx29) rfl zaV (zaz hx29) ?_
   refine zex (f:=cI) (xs:=(v23.set (Int.toNat v21) q26)) (z:=v21) (u:=x29) (c:=.i x29) 1 hS (by decide) rfl rfl (zaz hx29) .no (fun _=>rfl) rfl zai zas ?_
   refine Oi (.i (w64 (v20-x29))) ?_
   refine Oa (.i (w64 (v20-x29))) ?_
   refine Ni ?_
   refine zak ?_
   refine Ws ?_
   refine Rg 2 ?_
   refine Oi (.i (w64 (v21+1))) ?_
   refine Om (.i (w64 (v21+1))) ?_
   refine Ni ?_
   exact zbY (w64 (v20-x29),w64 (v21+1),(v22.set (Int.toNat v21) v21),(v23.set (Int.toNat v21) q26)) (Nat.lt_succ_self _) (.k (.k (.k (.k (.k (.k (.k (.k .nil)))))))) ⟨(hS.keep [true,true] rfl).up (by omega),hM⟩
  ·replace hM:=ifF hM hb24
   refine Cf hb24 ?_
   refine zcw ?_
   refine zax ?_
   refine zaq ?_
   refine zaG ?_
   exact zal (v20,v22,v23) (.k (.k (.k (.k (.k .nil))))) ⟨(hS.keep [true,true] rfl).up (by omega),hM⟩
theorem zfg {n:Nat} {a0:Royal} {r:(List Int)×Int} (hM:zed n a0=some r):zaS Try.prog 10 [.agg (Royal.cells a0)] (.tup [.sl .no 1 (r.1.map cI),.i r.2]):=by
 refine zaF mixed Try.func10 rfl (by decide) Try.ntmps10 (by simp) ?pure fun H0 g hf=>?_
 case pure=>exact .tup _ (zaf (.sl _ _ (zaK (fun x=>(zaf (.v _) zaN)))) (zaf (.v _) zaN))
 rw [zaA]
 change wpA _ _ _ _ (Fr.of [(0,.agg (Royal.cells a0))]) H0 g
 have hS:=St.start hf
 refine Sq ?_
 refine Rg 3 ?_
 refine zeZ (v:=.agg (Royal.cells a0)) (cs:=(Royal.cells a0)) hS (by decide) rfl rfl (by omega) fun H hS=>?_
 refine Oa (.sl .nil 0 []) ?_
 refine Oa (.i 0) ?_
 refine Ni ?_
 refine zcW (L':=[]) 0 1 hS rfl rfl rfl fun H hS=>?_
 refine Ws ?_
 refine Sq ?_
 refine Rg 8 ?_
 refine Olg (.agg (Royal.cells a0)) zfE ?_
 obtain ⟨r1,hr1,hM⟩:=zap hM
 refine zbo (bs:=[.agg (Royal.cells a0),.b true]) (by decide) rfl rfl ((zfr hr1).le (.k (.k .nil))) ?_
 refine Om (.tup [.agg (Weights_.cells r1.1),.i r1.2]) ?_
 refine Ox (.agg (Weights_.cells r1.1)) ?_
 refine Ox (.i r1.2) ?_
 refine zem hS (by decide) zit (by omega) fun H hS=>?_
 refine zbC (v:=.agg (Weights_.cells r1.1)) (ns:=(Weights_.cells r1.1)) (L':=[(g+3+5,.cells (Weights_.cells r1.1))]) 0 hS rfl rfl .no rfl rfl zgn nlb rfl fun H hS=>?_
 refine Oa (.i r1.2) ?_
 refine Ni ?_
 refine zcW (L':=[]) 0 4 hS rfl rfl rfl fun H hS=>?_
 refine Ws ?_
 refine Sq ?_
 refine Sq ?_
 refine Rg 2 ?_
 refine Om (.i r1.2) ?_
 refine Oi (.b (r1.2 != 0)) ?_
 refine Ni ?_
 refine Ws ?_
 rcases bft (r1.2 != 0) with hb2 | hb2
 ·replace hM:=ifT hM hb2
  refine Ct hb2 ?_
  refine Sq ?_
  refine Rg 3 ?_
  refine Om (.i r1.2) ?_
  refine Oa (.sl .nil 0 []) ?_
  refine Oa (.i r1.2) ?_
  refine Ni ?_
  refine Ws ?_
  refine zbB ?_
  refine zay ?_
  refine zbL (x:=.tup [.sl .nil 0 [],.i r1.2]) (f:=fun r=>.tup [.sl .no 1 (r.1.map cI),.i r.2]) (.inr rfl) ?_ (.tupL (.cons (.sl0 .nil 1 0) (.k .nil))) (Option.some.inj hM) hS
  exact (ze0 (zau (x:=.sl .nil 0 []) rfl) (zau (x:=.i r1.2) rfl))
 ·replace hM:=ifF hM hb2
  refine Cf hb2 ?_
  refine zaI ?_
  refine Ws ?_
  refine Sq ?_
  refine Rg 6 ?_
  refine Olg (.agg (Weights_.cells r1.1)) zeR ?_
  refine Of ((Royal.cells a0)) ziu ?_
  refine Olp (.i a0.Pool) zai zas ?_
  obtain ⟨r3,hr3,hM⟩:=zap hM
  refine zbo (bs:=[.agg (Weights_.cells r1.1),.i a0.Pool]) (by decide) rfl rfl ((zfa hr3).le (.k (.k .nil))) ?_
  refine Oa (.sl .no 1 (r3.map cI)) ?_
  refine Oa (.i 0) ?_
  refine Ni ?_
  refine zfX [(2,.sl .no 1 (r3.map cI)),(3,.i 0)] (.k (.k .nil)) ?_
  refine zbB ?_
  refine zbL (x:=.tup [.sl .no 1 (r3.map cI),.i 0]) (f:=fun r=>.tup [.sl .no 1 (r.1.map cI),.i r.2]) (.inr rfl) ?_ (.refl _) (Option.some.inj hM) hS
  exact (ze0 (zau (x:=.sl .no 1 (r3.map cI)) rfl) (zau (x:=.i 0) rfl))
theorem ziz {r:Royal} (hM:zg8=some r):zaS Try.prog 26 [] (.agg [.i r.Pool,.sl .no 2 (r.Sides.map RoyalSide.cells),.sl .no 1 (r.Owed.map cI)]):=by
 refine zaF mixed Try.func26 rfl (by decide) Try.ntmps26 (by simp) ?pure fun H0 g hf=>?_
 case pure=>exact .agg _ (zaf (.v _) (zaf (.sl _ _ (zaK (fun x=>(zaf (.v _) (zaf (.sl _ _ (zaK (fun x=>(zaf (.v _) (zaf (.v _) zaN))))) zaN))))) (zaf (.sl _ _ (zaK (fun x=>(zaf (.v _) zaN)))) zaN)))
 rw [zaA]
 change wpA _ _ _ _ (Fr.of []) H0 g
 have hS:=St.start hf
 refine Sq ?_
 refine Rg 1 ?_
 refine zem hS (by decide) zhc (by omega) fun H hS=>?_
 refine Ni ?_
 refine Ws ?_
 refine Sq ?_
 refine Rg 12 ?_
 refine zd3 (cs:=[.i 0,.i 50]) (by decide) ze3 zir rfl ?_
 refine zd3 (cs:=[.i 1,.i 50]) (by decide) ze3 zir rfl ?_
 refine zcz (es:=[[.i 0,.i 50],[.i 1,.i 50]]) hS (by decide) zis zkM rfl zkN rfl (by decide) (by omega) fun H hS=>?_
 refine zd3 (cs:=[.i 3,.sl (.id (g+1+2)) 2 (([(⟨0,50⟩:RoyalPart),(⟨1,50⟩:RoyalPart)]:List RoyalPart).map RoyalPart.cells)]) (by decide) zf5 zkO rfl ?_
 refine zd3 (cs:=[.i 1,.i 30]) (by decide) ze3 zir rfl ?_
 refine zd3 (cs:=[.i 2,.i 70]) (by decide) ze3 zir rfl ?_
 refine zcz (es:=[[.i 1,.i 30],[.i 2,.i 70]]) hS (by decide) zis zkM rfl zkN rfl (by decide) (by omega) fun H hS=>?_
 refine zd3 (cs:=[.i 1,.sl (.id (g+1+6)) 2 (([(⟨1,30⟩:RoyalPart),(⟨2,70⟩:RoyalPart)]:List RoyalPart).map RoyalPart.cells)]) (by decide) zf5 zkO rfl ?_
 refine zju (es:=[[.i 3,.sl (.id (g+1+2)) 2 (([(⟨0,50⟩:RoyalPart),(⟨1,50⟩:RoyalPart)]:List RoyalPart).map RoyalPart.cells)],[.i 1,.sl (.id (g+1+6)) 2 (([(⟨1,30⟩:RoyalPart),(⟨2,70⟩:RoyalPart)]:List RoyalPart).map RoyalPart.cells)]]) (es':=[[.i 3,.sl .no 2 (([(⟨0,50⟩:RoyalPart),(⟨1,50⟩:RoyalPart)]:List RoyalPart).map RoyalPart.cells)],[.i 1,.sl .no 2 (([(⟨1,30⟩:RoyalPart),(⟨2,70⟩:RoyalPart)]:List RoyalPart).map RoyalPart.cells)]]) hS (by decide) ziq zkK rfl zkL rfl (by decide) (by omega) (zld (zg6 (.k (.cons (.sl _ _ _) .nil)) (zg6 (.k (.cons (.sl _ _ _) .nil)) zlf))) fun H hS=>?_
 refine zcz (es:=[[.i 0],[.i 40],[.i 0]]) hS (by decide) zaV zf3 rfl zf4 rfl (by decide) (by omega) fun H hS=>?_
 refine zd3 (cs:=[.i 100,.sl (.id (g+1+8)) 2 (([(⟨3,([(⟨0,50⟩:RoyalPart),(⟨1,50⟩:RoyalPart)]:List RoyalPart)⟩:RoyalSide),(⟨1,([(⟨1,30⟩:RoyalPart),(⟨2,70⟩:RoyalPart)]:List RoyalPart)⟩:RoyalSide)]:List RoyalSide).map RoyalSide.cells),.sl (.id (g+1+9)) 1 (([0,40,0]:List Int).map cI)]) (by decide) zhc znh rfl ?_
 refine zbC (v:=.agg [.i 100,.sl (.id (g+1+8)) 2 (([(⟨3,([(⟨0,50⟩:RoyalPart),(⟨1,50⟩:RoyalPart)]:List RoyalPart)⟩:RoyalSide),(⟨1,([(⟨1,30⟩:RoyalPart),(⟨2,70⟩:RoyalPart)]:List RoyalPart)⟩:RoyalSide)]:List RoyalSide).map RoyalSide.cells),.sl (.id (g+1+9)) 1 (([0,40,0]:List Int).map cI)]) (ns:=[.i 100,.sl (.id (g+1+8)) 2 (([(⟨3,([(⟨0,50⟩:RoyalPart),(⟨1,50⟩:RoyalPart)]:List RoyalPart)⟩:RoyalSide),(⟨1,([(⟨1,30⟩:RoyalPart),(⟨2,70⟩:RoyalPart)]:List RoyalPart)⟩:RoyalSide)]:List RoyalSide).map RoyalSide.cells),.sl (.id (g+1+9)) 1 (([0,40,0]:List Int).map cI)]) (L':=[(g+1+9,.row 3 3),(g+1+8,.row 40 2),(g+1+6,.row 37 2),(g+1+2,.row 37 2),(g+0,.cells [.i 100,.sl (.id (g+1+8)) 2 (([(⟨3,([(⟨0,50⟩:RoyalPart),(⟨1,50⟩:RoyalPart)]:List RoyalPart)⟩:RoyalSide),(⟨1,([(⟨1,30⟩:RoyalPart),(⟨2,70⟩:RoyalPart)]:List RoyalPart)⟩:RoyalSide)]:List RoyalSide).map RoyalSide.cells),.sl (.id (g+1+9)) 1 (([0,40,0]:List Int).map cI)])]) 4 hS rfl rfl .no rfl rfl zlj nlb rfl fun H hS=>?_
 refine Ni ?_
 replace hS:=hS.keep (L':=[(g+1+9,.row 3 3),(g+1+8,.row 40 2),(g+0,.cells [.i 100,.sl (.id (g+1+8)) 2 (([(⟨3,([(⟨0,50⟩:RoyalPart),(⟨1,50⟩:RoyalPart)]:List RoyalPart)⟩:RoyalSide),(⟨1,([(⟨1,30⟩:RoyalPart),(⟨2,70⟩:RoyalPart)]:List RoyalPart)⟩:RoyalSide)]:List RoyalSide).map RoyalSide.cells),.sl (.id (g+1+9)) 1 (([0,40,0]:List Int).map cI)])]) [true,true,false,false,true] rfl
 refine zfX [(0,.ptr (g+0) 0)] (.k .nil) ?_
 refine zbB ?_
 refine zbL (x:=.agg [.i 100,.sl (.id (g+1+8)) 2 (([(⟨3,([(⟨0,50⟩:RoyalPart),(⟨1,50⟩:RoyalPart)]:List RoyalPart)⟩:RoyalSide),(⟨1,([(⟨1,30⟩:RoyalPart),(⟨2,70⟩:RoyalPart)]:List RoyalPart)⟩:RoyalSide)]:List RoyalSide).map RoyalSide.cells),.sl (.id (g+1+9)) 1 (([0,40,0]:List Int).map cI)]) (f:=fun r=>.agg [.i r.Pool,.sl .no 2 (r.Sides.map RoyalSide.cells),.sl .no 1 (r.Owed.map cI)]) (.inr rfl) ?_ (.aggL (.k (.cons (.sl _ _ _) (.cons (.sl _ _ _) .nil)))) (Option.some.inj hM) hS
 exact (zaJ (zfc (x:=.agg [.i 100,.sl (.id (g+1+8)) 2 (([(⟨3,([(⟨0,50⟩:RoyalPart),(⟨1,50⟩:RoyalPart)]:List RoyalPart)⟩:RoyalSide),(⟨1,([(⟨1,30⟩:RoyalPart),(⟨2,70⟩:RoyalPart)]:List RoyalPart)⟩:RoyalSide)]:List RoyalSide).map RoyalSide.cells),.sl (.id (g+1+9)) 1 (([0,40,0]:List Int).map cI)]) 2 hS rfl rfl (pg zfE)))
theorem zhL {n:Nat} {a0:List Int} {a1:List Int} {r:Bool} (hM:zgA n a0 a1=some r):zaS Try.prog 27 [.sl .no 1 (a0.map cI),.sl .no 1 (a1.map cI)] (.b r):=by
 refine zaF mixed Try.func27 rfl (by decide) Try.ntmps27 (by simp) ?pure fun H0 g hf=>?_
 case pure=>exact .v _
 rw [zaA]
 change wpA _ _ _ _ (Fr.of [(0,.sl .no 1 (a0.map cI)),(1,.sl .no 1 (a1.map cI))]) H0 g
 have hS:=St.start hf
 refine Sq ?_
 refine Rg 1 ?_
 refine Oa (.b false) ?_
 refine Ni ?_
 refine Ws ?_
 refine Sq ?_
 refine Sq ?_
 refine Rg 5 ?_
 refine Om (.sl .no 1 (a0.map cI)) ?_
 refine zcI (n:=a0.length) (by decide) rfl (List.length_map _) zcK ?_
 refine Om (.sl .no 1 (a1.map cI)) ?_
 refine zcI (n:=a1.length) (by decide) rfl (List.length_map _) zcK ?_
 refine Oi (.b ((a0.length:Int) != (a1.length:Int))) ?_
 refine Ni ?_
 refine Ws ?_
 rcases bft ((a0.length:Int) != (a1.length:Int)) with hb1 | hb1
 ·replace hM:=ifT hM hb1
  refine Ct hb1 ?_
  refine Sq ?_
  refine Rg 1 ?_
  refine Oa (.b false) ?_
  refine Ni ?_
  refine Ws ?_
  refine zbB ?_
  refine zay ?_
  refine zbL (x:=.b false) (f:=fun r=>.b r) (.inr rfl) ?_ (.refl _) (Option.some.inj hM) hS
  exact (zaJ (zau (x:=.b false) rfl))
 ·replace hM:=ifF hM hb1
  refine Cf hb1 ?_
  refine zaI ?_
  refine Ws ?_
  refine zaY (J:=Unit) (fun j=>[]) (fun j H' g'=>St (·<g) H0 [] H' g'/\zey=some r) ?_ ?_
  ·rintro _ H g1 ⟨hS,hM⟩
   change wpA _ _ _ _ (Fr.of []) _ _
   replace hS:St (·<g) H0 [] H g1:=hS
   replace hM:zey=some r:=hM
   refine Sq ?_
   refine Rg 1 ?_
   refine Oa (.b true) ?_
   refine Ni ?_
   refine Ws ?_
   refine zbB ?_
   refine zbL (x:=.b true) (f:=fun r=>.b r) (.inr rfl) ?_ (.refl _) (Option.some.inj hM) hS
   exact (zaJ (zau (x:=.b true) rfl))
  ·refine Sq ?_
   refine Rg 1 ?_
   refine Oa (.i 0) ?_
   refine Ni ?_
   refine Ws ?_
   refine zaB ?_
   refine zcx (V:=Int) (fun v=>[(0,.sl .no 1 (a0.map cI)),(1,.sl .no 1 (a1.map cI)),(5,.i v)]) (fun v m2 H' g'=>St (·<g) H0 [] H' g'/\zdT a0 a1 m2 v=some r) (n:=n) 0 (.k (.k (.k .nil))) ⟨(hS.keep [] rfl).up (by omega),hM⟩ ?_
   rintro v2 m2 H g2 ⟨hS,hM⟩
   obtain _ | m2:=m2
   ·exact nomatch (show none=some _ from hM)
   change wpA _ _ _ _ (Fr.of [(0,.sl .no 1 (a0.map cI)),(1,.sl .no 1 (a1.map cI)),(5,.i v2)]) _ _
   replace hS:St (·<g) H0 [] H g2:=hS
   replace hM:ze1 a0 a1 (zdT a0 a1 m2) v2=some r:=hM
   refine Sq ?_
   refine Sq ?_
   refine Rg 4 ?_
   refine Om (.i v2) ?_
   refine Om (.sl .no 1 (a0.map cI)) ?_
   refine zcI (n:=a0.length) (by decide) rfl (List.length_map _) zcK ?_
   refine Oi (.b (decide (v2<(a0.length:Int)))) ?_
   refine Ni ?_
   refine Ws ?_
   rcases bft (decide (v2<(a0.length:Int))) with hb3 | hb3
   ·replace hM:=ifT hM hb3
    refine Ct hb3 ?_
    refine zaI ?_
    refine Ws ?_
    refine Sq ?_
    refine zaB ?_
    refine Sq ?_
    have hS0:=hS
    refine zdb (n:=9) rfl (by kernel_rfl) ?_
    refine Om (.sl .no 1 (a0.map cI)) ?_
    refine Om (.i v2) ?_
    obtain ⟨x4,hx4,hM⟩:=zap hM
    refine zbr (xs:=a0) (f:=cI) (z:=v2) (u:=x4) (by decide) rfl rfl zaV hx4 ?_
    refine Olp (.i x4) zai zas ?_
    refine Om (.sl .no 1 (a1.map cI)) ?_
    refine Om (.i v2) ?_
    obtain ⟨x5,hx5,hM⟩:=zap hM
    refine zbr (xs:=a1) (f:=cI) (z:=v2) (u:=x5) (by decide) rfl rfl zaV hx5 ?_
    refine Olp (.i x5) zai zas ?_
    refine Oi (.b (x4 != x5)) ?_
    refine Ni ?_
    refine Ws ?_
    rcases bft (x4 != x5) with hb6 | hb6
    ·replace hM:=ifT hM hb6
     refine Ct hb6 ?_
     refine Sq ?_
     refine Rg 1 ?_
     refine Oa (.b false) ?_
     refine Ni ?_
     refine Ws ?_
     refine zbB ?_
     refine zcm ?_
     refine zay ?_
     refine zdm ?_
     refine zcm ?_
     refine zej ?_
     refine zbL (x:=.b false) (f:=fun r=>.b r) (.inr rfl) ?_ (.refl _) (Option.some.inj hM) hS
     exact (zaJ (zau (x:=.b false) rfl))
    ·replace hM:=ifF hM hb6
     refine Cf hb6 ?_
     refine zaI ?_
     refine zak ?_
     refine Ws ?_
     refine Rg 3 ?_
     refine Om (.i v2) ?_
     refine Oi (.i (w64 (v2+1))) ?_
     refine Oa (.i (w64 (v2+1))) ?_
     refine Ni ?_
     exact zbY (w64 (v2+1)) (Nat.lt_succ_self _) (.k (.k (.k .nil))) ⟨(hS.keep [] rfl).up (by omega),hM⟩
   ·replace hM:=ifF hM hb3
    refine Cf hb3 ?_
    refine zcw ?_
    refine zax ?_
    refine zaq ?_
    refine zaG ?_
    exact zal () .nil ⟨(hS.keep [] rfl).up (by omega),hM⟩
theorem zeS {n:Nat} {r:Bool} (hM:zeg n=some r):zaS Try.prog 8 [] (.b r):=by
 refine zaF mixed Try.func8 rfl (by decide) Try.ntmps8 (by simp) ?pure fun H0 g hf=>?_
 case pure=>exact .v _
 rw [zaA]
 change wpA _ _ _ _ (Fr.of []) H0 g
 have hS:=St.start hf
 refine Sq ?_
 refine Rg 1 ?_
 refine Oa (.b false) ?_
 refine Ni ?_
 refine Ws ?_
 refine Sq ?_
 refine Rg 7 ?_
 obtain ⟨r1,hr1,hM⟩:=zap hM
 refine zbo (bs:=[]) (by decide) rfl rfl ((ziz hr1).le .nil) ?_
 obtain ⟨r2,hr2,hM⟩:=zap hM
 refine zbo (bs:=[.agg (Royal.cells r1)]) (by decide) rfl rfl ((zfg hr2).le (.k .nil)) ?_
 refine Om (.tup [.sl .no 1 (r2.1.map cI),.i r2.2]) ?_
 refine Ox (.sl .no 1 (r2.1.map cI)) ?_
 refine Ox (.i r2.2) ?_
 refine Oa (.sl .no 1 (r2.1.map cI)) ?_
 refine Oa (.i r2.2) ?_
 refine Ni ?_
 refine Ws ?_
 refine zaY (J:=Bool) (fun j=>[(0,.b j)]) (fun j H' g'=>St (·<g) H0 [] H' g'/\zeB j=some r) ?_ ?_
 ·rintro v3 H g1 ⟨hS,hM⟩
  change wpA _ _ _ _ (Fr.of [(0,.b v3)]) _ _
  replace hS:St (·<g) H0 [] H g1:=hS
  replace hM:zeB v3=some r:=hM
  refine zbB ?_
  refine zbL (x:=.b v3) (f:=fun r=>.b r) (.inr rfl) ?_ (.refl _) (Option.some.inj hM) hS
  exact (zaJ (zau (x:=.b v3) rfl))
 ·refine Rg 8 ?_
  refine Om (.i r2.2) ?_
  refine Oi (.b (r2.2==0)) ?_
  refine Om (.b (r2.2==0)) ?_
  rcases bft (r2.2==0) with hb4 | hb4
  ·replace hM:=ifT hM hb4
   refine Oy (want:=true) hb4 ?_
   refine Om (.sl .no 1 (r2.1.map cI)) ?_
   refine Oy (want:=true) hb4 ?_
   refine zcz (es:=[[.i 38],[.i 45],[.i 17]]) hS (by decide) zaV zf3 rfl zf4 rfl (by decide) (by omega) fun H hS=>?_
   refine Oy (want:=true) hb4 ?_
   obtain ⟨r5,hr5,hM⟩:=zap hM
   refine zbo (bs:=[.sl .no 1 (r2.1.map cI),.sl (.id (g+1+7+4)) 1 (([38,45,17]:List Int).map cI)]) (by decide) rfl rfl ((zhL hr5).le (.k (.cons (.sl _ _ _) .nil))) ?_
   refine Pt (.b r5) hb4 ?_
   refine Oa (.b r5) ?_
   refine Ni ?_
   exact zal r5 (.k .nil) ⟨(hS.keep [false] rfl).up (by omega),hM⟩
  ·replace hM:=ifF hM hb4
   refine On (want:=true) hb4 ?_
   refine On (want:=true) hb4 ?_
   refine On (want:=true) hb4 ?_
   refine Pf (.b false) hb4 ?_
   refine Oa (.b false) ?_
   refine Ni ?_
   exact zal false (.k .nil) ⟨(hS.keep [] rfl).up (by omega),hM⟩
theorem zkb {a0:Tray} {r:Tray} (hM:zgj a0=some r):zaS Try.prog 14 [.agg (Tray.cells a0)] (.agg [.sl .no 2 (r.Records.map TrayRecord.cells),.i r.At,.i r.Way,.i r.Step,.sl .no 2 (r.Presses.map TrayPress.cells)]):=by
 refine zaF mixed Try.func14 rfl (by decide) Try.ntmps14 (by simp) ?pure fun H0 g hf=>?_
 case pure=>exact .agg _ (zaf (.sl _ _ (zaK (fun x=>(zaf (.v _) (zaf (.v _) zaN))))) (zaf (.v _) (zaf (.v _) (zaf (.v _) (zaf (.sl _ _ (zaK (fun x=>(zaf (.v _) (zaf (.v _) zaN))))) zaN)))))
 rw [zaA]
 change wpA _ _ _ _ (Fr.of [(0,.agg (Tray.cells a0))]) H0 g
 have hS:=St.start hf
 refine Sq ?_
 refine Rg 2 ?_
 refine zeZ (v:=.agg (Tray.cells a0)) (cs:=(Tray.cells a0)) hS (by decide) rfl rfl (by omega) fun H hS=>?_
 refine zem hS (by decide) zj7 (by omega) fun H hS=>?_
 refine Ni ?_
 refine zcW (L':=[(g+1,.cells [.sl .nil 0 [],.i 0,.i 0,.i 0,.sl .nil 0 []])]) 1 1 hS rfl rfl rfl fun H hS=>?_
 refine Ws ?_
 refine Sq ?_
 refine Rg 3 ?_
 refine Olg (.agg (Tray.cells a0)) zdr ?_
 refine zem hS (by decide) zj7 (by omega) fun H hS=>?_
 refine zbC (v:=.agg (Tray.cells a0)) (ns:=(Tray.cells a0)) (L':=[(g+2+1,.cells (Tray.cells a0)),(g+1,.cells [.sl .nil 0 [],.i 0,.i 0,.i 0,.sl .nil 0 []])]) 0 hS rfl rfl .no rfl rfl zli nlb rfl fun H hS=>?_
 refine Ni ?_
 refine Ws ?_
 refine Sq ?_
 have hS0:=hS
 refine zdb (n:=12) rfl (by kernel_rfl) ?_
 refine zcz (es:=[]) hS (by decide) zgQ znf rfl zng rfl (by decide) (by omega) fun H hS=>?_
 refine Of ((Tray.cells a0)) zbK ?_
 refine Olp (.sl .no 2 (a0.Records.map TrayRecord.cells)) zcv zc3 ?_
 obtain ⟨l1,hl1,hM⟩:=zap hM
 refine zg0 (xs:=([]:List TrayRecord)) (ys:=a0.Records) (zs:=l1) (f:=TrayRecord.cells) (L':=[(g+2+3+0,.row 75 l1.length),(g+2+1,.cells (Tray.cells a0)),(g+1,.cells [.sl .nil 0 [],.i 0,.i 0,.i 0,.sl .nil 0 []])]) 0 hS (by decide) rfl rfl rfl rfl (.behind (by kernel_rfl)) zgQ znf zng hl1 rfl fun H hS=>?_
 refine zcz (es:=[]) hS (by decide) zdP zjv rfl zjw rfl (by decide) (by omega) fun H hS=>?_
 refine Of ((Tray.cells a0)) zdu ?_
 refine Olp (.sl .no 2 (a0.Presses.map TrayPress.cells)) zcJ zdq ?_
 obtain ⟨l2,hl2,hM⟩:=zap hM
 refine zg0 (xs:=([]:List TrayPress)) (ys:=a0.Presses) (zs:=l2) (f:=TrayPress.cells) (L':=[(g+2+3+4,.row 55 l2.length),(g+2+3+0,.row 75 l1.length),(g+2+1,.cells (Tray.cells a0)),(g+1,.cells [.sl .nil 0 [],.i 0,.i 0,.i 0,.sl .nil 0 []])]) 0 hS (by decide) rfl rfl rfl rfl (.behind (by kernel_rfl)) zdP zjv zjw hl2 rfl fun H hS=>?_
 refine zan (by decide) zbK rfl ?_
 refine zbC (v:=.sl (.id (g+2+3+0)) 2 (l1.map TrayRecord.cells)) (ns:=[.sl (.id (g+2+3+0)) 2 (l1.map TrayRecord.cells)]) (L':=[(g+2+3+4,.row 55 l2.length),(g+2+3+0,.row 75 l1.length),(g+2+1,.cells [.sl (.id (g+2+3+0)) 2 (l1.map TrayRecord.cells),.i a0.At,.i a0.Way,.i a0.Step,.sl .no 2 (a0.Presses.map TrayPress.cells)]),(g+1,.cells [.sl .nil 0 [],.i 0,.i 0,.i 0,.sl .nil 0 []])]) 2 hS rfl rfl (.st hS0 0 rfl (by omega)) rfl rfl zob nlb rfl fun H hS=>?_
 refine zan (by decide) zdu rfl ?_
 refine zbC (v:=.sl (.id (g+2+3+4)) 2 (l2.map TrayPress.cells)) (ns:=[.sl (.id (g+2+3+4)) 2 (l2.map TrayPress.cells)]) (L':=[(g+2+3+4,.row 55 l2.length),(g+2+3+0,.row 75 l1.length),(g+2+1,.cells [.sl (.id (g+2+3+0)) 2 (l1.map TrayRecord.cells),.i a0.At,.i a0.Way,.i a0.Step,.sl (.id (g+2+3+4)) 2 (l2.map TrayPress.cells)]),(g+1,.cells [.sl .nil 0 [],.i 0,.i 0,.i 0,.sl .nil 0 []])]) 2 hS rfl rfl (.st hS0 0 rfl (by omega)) rfl rfl zlh nlb rfl fun H hS=>?_
 refine Ni ?_
 refine Ws ?_
 refine Sq ?_
 refine Rg 2 ?_
 refine zbJ (v:=.agg [.sl (.id (g+2+3+0)) 2 (l1.map TrayRecord.cells),.i a0.At,.i a0.Way,.i a0.Step,.sl (.id (g+2+3+4)) 2 (l2.map TrayPress.cells)]) 2 hS (by decide) rfl rfl .no (pg zdr) ?_
 refine zbC (v:=.agg [.sl (.id (g+2+3+0)) 2 (l1.map TrayRecord.cells),.i a0.At,.i a0.Way,.i a0.Step,.sl (.id (g+2+3+4)) 2 (l2.map TrayPress.cells)]) (ns:=[.sl (.id (g+2+3+0)) 2 (l1.map TrayRecord.cells),.i a0.At,.i a0.Way,.i a0.Step,.sl (.id (g+2+3+4)) 2 (l2.map TrayPress.cells)]) (L':=[(g+2+3+4,.row 55 l2.length),(g+2+3+0,.row 75 l1.length),(g+2+1,.cells [.sl (.id (g+2+3+0)) 2 (l1.map TrayRecord.cells),.i a0.At,.i a0.Way,.i a0.Step,.sl (.id (g+2+3+4)) 2 (l2.map TrayPress.cells)]),(g+1,.cells [.sl (.id (g+2+3+0)) 2 (l1.map TrayRecord.cells),.i a0.At,.i a0.Way,.i a0.Step,.sl (.id (g+2+3+4)) 2 (l2.map TrayPress.cells)])]) 3 hS rfl rfl .no rfl rfl zli nlb rfl fun H hS=>?_
 refine Ni ?_
 replace hS:=hS.keep (L':=[(g+2+3+4,.row 55 l2.length),(g+2+3+0,.row 75 l1.length),(g+1,.cells [.sl (.id (g+2+3+0)) 2 (l1.map TrayRecord.cells),.i a0.At,.i a0.Way,.i a0.Step,.sl (.id (g+2+3+4)) 2 (l2.map TrayPress.cells)])]) [true,true,false,true] rfl
 refine zfX [(2,.ptr (g+1) 0)] (.k .nil) ?_
 refine zbB ?_
 refine zbL (x:=.agg [.sl (.id (g+2+3+0)) 2 (l1.map TrayRecord.cells),.i a0.At,.i a0.Way,.i a0.Step,.sl (.id (g+2+3+4)) 2 (l2.map TrayPress.cells)]) (f:=fun r=>.agg [.sl .no 2 (r.Records.map TrayRecord.cells),.i r.At,.i r.Way,.i r.Step,.sl .no 2 (r.Presses.map TrayPress.cells)]) (.inr rfl) ?_ (.aggL (.cons (.sl _ _ _) (.k (.k (.k (.cons (.sl _ _ _) .nil)))))) (Option.some.inj hM) hS
 exact (zaJ (zfc (x:=.agg [.sl (.id (g+2+3+0)) 2 (l1.map TrayRecord.cells),.i a0.At,.i a0.Way,.i a0.Step,.sl (.id (g+2+3+4)) 2 (l2.map TrayPress.cells)]) 2 hS rfl rfl (pg zdr)))
theorem zjC {a0:Tray} {a1:Int} {r:Bool} (hM:zgO a0 a1=some r):zaS Try.prog 64 [.agg (Tray.cells a0),.i a1] (.b r):=by
 refine zaF mixed Try.func64 rfl (by decide) Try.ntmps64 (by simp) ?pure fun H0 g hf=>?_
 case pure=>exact .v _
 rw [zaA]
 change wpA _ _ _ _ (Fr.of [(0,.agg (Tray.cells a0)),(1,.i a1)]) H0 g
 have hS:=St.start hf
 refine Sq ?_
 refine Rg 2 ?_
 refine zeZ (v:=.agg (Tray.cells a0)) (cs:=(Tray.cells a0)) hS (by decide) rfl rfl (by omega) fun H hS=>?_
 refine Oa (.b false) ?_
 refine Ni ?_
 refine zcW (L':=[]) 0 2 hS rfl rfl rfl fun H hS=>?_
 refine Ws ?_
 refine zaY (J:=Bool) (fun j=>[(4,.b j)]) (fun j H' g'=>St (·<g) H0 [] H' g'/\zd7 j=some r) ?_ ?_
 ·rintro v1 H g1 ⟨hS,hM⟩
  change wpA _ _ _ _ (Fr.of [(4,.b v1)]) _ _
  replace hS:St (·<g) H0 [] H g1:=hS
  replace hM:zd7 v1=some r:=hM
  refine zbB ?_
  refine zbL (x:=.b v1) (f:=fun r=>.b r) (.inr rfl) ?_ (.refl _) (Option.some.inj hM) hS
  exact (zaJ (zau (x:=.b v1) rfl))
 ·refine Rg 11 ?_
  refine Om (.i a1) ?_
  refine Oi (.b (decide (a1≥0))) ?_
  refine Om (.b (decide (a1≥0))) ?_
  rcases bft (decide (a1≥0)) with hb2 | hb2
  ·replace hM:=ifT hM hb2
   refine Oy (want:=true) hb2 ?_
   refine Om (.i a1) ?_
   refine Oy (want:=true) hb2 ?_
   refine Of ((Tray.cells a0)) zbK ?_
   refine Oy (want:=true) hb2 ?_
   refine Olp (.sl .no 2 (a0.Records.map TrayRecord.cells)) zcv zc3 ?_
   refine Oy (want:=true) hb2 ?_
   refine zcI (n:=a0.Records.length) (by decide) rfl (List.length_map _) zc9 ?_
   refine Oy (want:=true) hb2 ?_
   refine Oi (.i (w64 (2*(a0.Records.length:Int)))) ?_
   refine Oy (want:=true) hb2 ?_
   refine Oi (.b (decide (a1<(w64 (2*(a0.Records.length:Int)))))) ?_
   refine Pt (.b (decide (a1<(w64 (2*(a0.Records.length:Int)))))) hb2 ?_
   refine Oa (.b (decide (a1<(w64 (2*(a0.Records.length:Int)))))) ?_
   refine Ni ?_
   exact zal (decide (a1<(w64 (2*(a0.Records.length:Int))))) (.k .nil) ⟨(hS.keep [] rfl).up (by omega),hM⟩
  ·replace hM:=ifF hM hb2
   refine On (want:=true) hb2 ?_
   refine On (want:=true) hb2 ?_
   refine On (want:=true) hb2 ?_
   refine On (want:=true) hb2 ?_
   refine On (want:=true) hb2 ?_
   refine On (want:=true) hb2 ?_
   refine Pf (.b false) hb2 ?_
   refine Oa (.b false) ?_
   refine Ni ?_
   exact zal false (.k .nil) ⟨(hS.keep [] rfl).up (by omega),hM⟩
theorem zjD {a0:Int} {r:Bool} (hM:zgP a0=some r):zaS Try.prog 65 [.i a0] (.b r):=by
 refine zaF mixed Try.func65 rfl (by decide) Try.ntmps65 (by simp) ?pure fun H0 g hf=>?_
 case pure=>exact .v _
 rw [zaA]
 change wpA _ _ _ _ (Fr.of [(0,.i a0)]) H0 g
 have hS:=St.start hf
 refine Sq ?_
 refine Rg 1 ?_
 refine Oa (.b false) ?_
 refine Ni ?_
 refine Ws ?_
 refine zaY (J:=Bool) (fun j=>[(2,.b j)]) (fun j H' g'=>St (·<g) H0 [] H' g'/\zd8 j=some r) ?_ ?_
 ·rintro v1 H g1 ⟨hS,hM⟩
  change wpA _ _ _ _ (Fr.of [(2,.b v1)]) _ _
  replace hS:St (·<g) H0 [] H g1:=hS
  replace hM:zd8 v1=some r:=hM
  refine zbB ?_
  refine zbL (x:=.b v1) (f:=fun r=>.b r) (.inr rfl) ?_ (.refl _) (Option.some.inj hM) hS
  exact (zaJ (zau (x:=.b v1) rfl))
 ·refine Rg 7 ?_
  refine Om (.i a0) ?_
  refine Oi (.b (decide (a0≥0))) ?_
  refine Om (.b (decide (a0≥0))) ?_
  rcases bft (decide (a0≥0)) with hb2 | hb2
  ·replace hM:=ifT hM hb2
   refine Oy (want:=true) hb2 ?_
   refine Om (.i a0) ?_
   refine Oy (want:=true) hb2 ?_
   refine Oi (.b (decide (a0<=9999))) ?_
   refine Pt (.b (decide (a0<=9999))) hb2 ?_
   refine Oa (.b (decide (a0<=9999))) ?_
   refine Ni ?_
   exact zal (decide (a0<=9999)) (.k .nil) ⟨(hS.keep [] rfl).up (by omega),hM⟩
  ·replace hM:=ifF hM hb2
   refine On (want:=true) hb2 ?_
   refine On (want:=true) hb2 ?_
   refine Pf (.b false) hb2 ?_
   refine Oa (.b false) ?_
   refine Ni ?_
   exact zal false (.k .nil) ⟨(hS.keep [] rfl).up (by omega),hM⟩
end Go.Proofs.Ytclaalcoefcljaa
