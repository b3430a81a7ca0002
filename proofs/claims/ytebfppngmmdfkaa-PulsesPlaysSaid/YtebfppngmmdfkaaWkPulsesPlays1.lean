/-
  The code returns what the functions say (printed by gen.py).
  Conditions: none.
-/
import Derived.Test.YtebfppngmmdfkaaTy
import Derived.Test.YtebfppngmmdfkaaMd
import Derived.Test.YtebfppngmmdfkaaAmPg
set_option linter.all false
namespace Go.Proofs.Ytebfppngmmdfkaa
open Go Go.AM Go.Law
set_option linter.unusedVariables false
set_option maxRecDepth 4000
set_option maxHeartbeats 4000000
abbrev _root_.Go.AM.AV.i (x:Int):Go.AM.AV:=.v (.int .i64 x)
abbrev _root_.Go.AM.AV.b (x:Bool):Go.AM.AV:=.v (.bool x)
theorem _root_.Go.AM.FLe.k {l l0:List (Nat×AV)} {t:Nat} (r:FLe l l0):FLe l ((t,lk l t)::l0):=.cons (.refl _) r
theorem _root_.Go.AM.LeL.k {a:AV} {ps qs:List AV} (r:LeL ps qs):LeL (a::ps) (a::qs):=.cons (.refl _) r
section
open Go.AM
variable {P:Program} {N:Nat} {l:List (Nat×AV)} {H:zaa} {g:Nat} {ops:Array Oper} {i d g0:Nat} {r:List Oper} {K:Fr->zaa->Nat->Prop} {lim:Option Nat} {ty:TypeId} {pos:String} {after:Array Edge} {Q:Exit->Fr->zaa->Nat->Prop} {a b:Code}
theorem _root_.Go.AM.Om {x:Operand} (v:AV) (h:zbh P N lim g0 ops K (i+1) r (Fr.of ((d,v)::l)) H g) (hd:d<N:=by decide) (hx:evL N l x=v:=by rfl):zbh P N lim g0 ops K i (⟨some d,.move x,ty,pos,after,none⟩::r) (Fr.of l) H g:=ztY hd hx h
theorem _root_.Go.AM.Oa {x:Operand} (v:AV) (h:zbh P N lim g0 ops K (i+1) r (Fr.of ((d,v)::l)) H g) (hd:d<N:=by decide) (hx:evL N l x=v:=by rfl):zbh P N lim g0 ops K i (⟨some d,.assign x,ty,pos,after,none⟩::r) (Fr.of l) H g:=zrF hd hx h
theorem _root_.Go.AM.Olp {t:TypeId} {x:Operand} {cs:List AV} (v:AV) (h1:zaN P t=none) (h2:scalar P t=true) (h:zbh P N lim g0 ops K (i+1) r (Fr.of ((d,v)::l)) H g) (hd:d<N:=by decide) (hx:evL N l x=.ep cs:=by rfl) (hc:cs[0]?=some v:=by rfl):zbh P N lim g0 ops K i (⟨some d,.load t x,ty,pos,after,none⟩::r) (Fr.of l) H g:=zl2 hd hx (zj5 h1 h2 hc) h
theorem _root_.Go.AM.Olg {t:TypeId} {x:Operand} {cs:List AV} {k:Nat} (v:AV) (ha:zaN P t=some k) (h:zbh P N lim g0 ops K (i+1) r (Fr.of ((d,v)::l)) H g) (hd:d<N:=by decide) (hx:evL N l x=.ep cs:=by rfl) (hk:Nat.ble (0+k) cs.length=true:=by rfl) (hc:AV.agg ((cs.drop 0).take k)=v:=by rfl):zbh P N lim g0 ops K i (⟨some d,.load t x,ty,pos,after,none⟩::r) (Fr.of l) H g:=zl2 hd hx (zl1 ha (Nat.le_of_ble_eq_true hk) rfl) (hc▸h)
theorem _root_.Go.AM.Og {op:Op} {j:Nat} {want:Bool} (h:zbh P N lim g0 ops K (i+1) r (Fr.of ((d,.tup [])::l)) H g) (hd:d<N:=by decide) (hg:gd ops N (Fr.of l) j=some (some (!want)):=by rfl):zbh P N lim g0 ops K i (⟨some d,op,ty,pos,after,some (j,want)⟩::r) (Fr.of l) H g:=zoo hd hg rfl h
theorem _root_.Go.AM.On {op:Op} {j:Nat} {want e:Bool} (he:e=!want) (h:zbh P N lim g0 ops K (i+1) r (Fr.of ((d,.tup [])::l)) H g) (hd:d<N:=by decide) (hg:gd ops N (Fr.of l) j=some (some e):=by rfl):zbh P N lim g0 ops K i (⟨some d,op,ty,pos,after,some (j,want)⟩::r) (Fr.of l) H g:=zoo hd hg he h
theorem _root_.Go.AM.Oz {op:Op} {j:Nat} {want:Bool} {dst:Option Tmp} (h:zbh P N lim g0 ops K i (⟨dst,op,ty,pos,after,none⟩::r) (Fr.of l) H g) (hg:gd ops N (Fr.of l) j=some (some want):=by rfl):zbh P N lim g0 ops K i (⟨dst,op,ty,pos,after,some (j,want)⟩::r) (Fr.of l) H g:=zon hg rfl h
theorem _root_.Go.AM.Oy {op:Op} {j:Nat} {want e:Bool} {dst:Option Tmp} (he:e=want) (h:zbh P N lim g0 ops K i (⟨dst,op,ty,pos,after,none⟩::r) (Fr.of l) H g) (hg:gd ops N (Fr.of l) j=some (some e):=by rfl):zbh P N lim g0 ops K i (⟨dst,op,ty,pos,after,some (j,want)⟩::r) (Fr.of l) H g:=zon hg he h
theorem _root_.Go.AM.Oi {bo:BinOp} {t t':TypeId} {x y:Operand} {k:IntKind} {m n:Int} (v:AV) (h:zbh P N lim g0 ops K (i+1) r (Fr.of ((d,v)::l)) H g) (hd:d<N:=by decide) (hx:evL N l x=.v (.int k m):=by rfl) (hy:evL N l y=.v (.int k n):=by rfl) (hv:ziN bo k m n=some v:=by rfl):zbh P N lim g0 ops K i (⟨some d,.binOp bo t x y t',ty,pos,after,none⟩::r) (Fr.of l) H g:=znM hd hx hy hv h
theorem _root_.Go.AM.Ox {x:Operand} {n:Nat} {vs:List AV} (v:AV) (h:zbh P N lim g0 ops K (i+1) r (Fr.of ((d,v)::l)) H g) (hd:d<N:=by decide) (hx:evL N l x=.tup vs:=by rfl) (hn:vs[n]?=some v:=by rfl):zbh P N lim g0 ops K i (⟨some d,.extract x n,ty,pos,after,none⟩::r) (Fr.of l) H g:=zp9 hd hx hn h
theorem _root_.Go.AM.Of {s f:Nat} {x:Operand} (cs:List AV) {k:Nat} (hk:zaT P s f=some k) (h:zbh P N lim g0 ops K (i+1) r (Fr.of ((d,.ep (cs.drop k))::l)) H g) (hd:d<N:=by decide) (hx:evL N l x=.ep cs:=by rfl):zbh P N lim g0 ops K i (⟨some d,.fieldAddr s x f,ty,pos,after,none⟩::r) (Fr.of l) H g:=zrH hd hk hx h
theorem _root_.Go.AM.Pt {c x y:Operand} (v:AV) {e:Bool} (he:e=true) (h:zbh P N lim g0 ops K (i+1) r (Fr.of ((d,v)::l)) H g) (hd:d<N:=by decide) (hc:evL N l c=.v (.bool e):=by rfl) (hx:evL N l x=v:=by rfl):zbh P N lim g0 ops K i (⟨some d,.pick c x y,ty,pos,after,none⟩::r) (Fr.of l) H g:=za7 hd hc he hx h
theorem _root_.Go.AM.Pf {c x y:Operand} (v:AV) {e:Bool} (he:e=false) (h:zbh P N lim g0 ops K (i+1) r (Fr.of ((d,v)::l)) H g) (hd:d<N:=by decide) (hc:evL N l c=.v (.bool e):=by rfl) (hy:evL N l y=v:=by rfl):zbh P N lim g0 ops K i (⟨some d,.pick c x y,ty,pos,after,none⟩::r) (Fr.of l) H g:=zaE hd hc he hy h
theorem _root_.Go.AM.Ct {o:Operand} {e:Bool} (he:e=true) (h:wpA P N a Q (Fr.of l) H g) (hc:evL N l o=.v (.bool e):=by rfl):wpA P N (.cond o a b) Q (Fr.of l) H g:=zsZ hc he h
theorem _root_.Go.AM.Cf {o:Operand} {e:Bool} (he:e=false) (h:wpA P N b Q (Fr.of l) H g) (hc:evL N l o=.v (.bool e):=by rfl):wpA P N (.cond o a b) Q (Fr.of l) H g:=zp6 hc he h
theorem _root_.Go.AM.Rg {id:Nat} {os:List Oper} (n:Nat) (h:zbh P N none g os.toArray (Q .normal) 0 os (Fr.of l) H (g+n)) (hn:os.length=n:=by rfl):wpA P N (.region id os.toArray false) Q (Fr.of l) H g:=zrB hn h
theorem _root_.Go.AM.Ws (h:wpA P N b Q (Fr.of l) H g):Exit.thenA (fun fr' H' g'=>∃fr0 H0 g0,zjU fr' H' g' fr0 H0 g0/\wpA P N b Q fr0 H0 g0) Q .normal (Fr.of l) H g:=⟨_,H,g,.le (fun _=>.refl _) H g,h⟩
theorem _root_.Go.AM.Sq (h:wpA P N a (Exit.thenA (fun fr' H' g'=>∃fr0 H0 g0,zjU fr' H' g' fr0 H0 g0/\wpA P N b Q fr0 H0 g0) Q) (Fr.of l) H g):wpA P N (.seq a b) Q (Fr.of l) H g:=ztV h
theorem _root_.Go.AM.Ni (h:K (Fr.of l) H g):zbh P N lim g0 ops K i [] (Fr.of l) H g:=zsV h
theorem _root_.Go.AM.pg {t:TypeId} {cs ds:List AV} {off k:Nat} (h:zaN P t=some k) (hl:off+k<=cs.length:=by exact Nat.le_of_ble_eq_true rfl) (hc:(cs.drop off).take k=ds:=by rfl):zgr P t cs off=some (.agg ds):=zl1 h hl hc
theorem _root_.Go.AM.po {t:TypeId} {cs:List AV} {off:Nat} {v:AV} (h:zaN P t=none) (hs:scalar P t=true) (hc:cs[off]?=some v:=by rfl):zgr P t cs off=some v:=zj5 h hs hc
theorem _root_.Go.AM.bft (b:Bool):b=true\/b=false:=Bool.eq_false_or_eq_true b
theorem _root_.Go.AM.nlb {a b:Nat} (h:Nat.ble a b=true:=by rfl):a<=b:=Nat.le_of_ble_eq_true h
end
theorem zix {a0:Int} {a1:Int} {a2:Int} {r:Bool} (hM:zef a0 a1 a2=some r):zav Try.prog 56 [.i a0,.i a1,.i a2] (.b r):=by
 refine zaj mixed Try.func56 rfl (by decide) Try.ntmps56 (by simp) ?pure fun H0 g hf=>?_
 case pure=>exact .v _
 rw [zah]
 change wpA _ _ _ _ (Fr.of [(0,.i a0),(1,.i a1),(2,.i a2)]) H0 g
 have hS:=St.start hf
 refine Sq ?_
 refine Rg 1 ?_
 refine Oa (.b false) ?_
 refine Ni ?_
 refine Ws ?_
 refine zaC (J:=Bool) (fun j=>[(6,.b j)]) (fun j H' g'=>St (·<g) H0 [] H' g'/\zdo j=some r) ?_ ?_
 ·rintro v1 H g1 ⟨hS,hM⟩
  change wpA _ _ _ _ (Fr.of [(6,.b v1)]) _ _
  replace hS:St (·<g) H0 [] H g1:=hS
  replace hM:zdo v1=some r:=hM
  refine zaA ?_
  refine zaJ (x:=.b v1) (f:=fun r=>.b r) (.inr rfl) ?_ (.refl _) (Option.some.inj hM) hS
  exact (zao (zac (x:=.b v1) rfl))
 ·refine Rg 9 ?_
  refine Om (.i a0) ?_
  refine Om (.i a1) ?_
  refine Oi (.b (decide (a0≥a1))) ?_
  refine Om (.b (decide (a0≥a1))) ?_
  rcases bft (decide (a0≥a1)) with hb2 | hb2
  ·replace hM:=ifT hM hb2
   refine Oy (want:=true) hb2 ?_
   refine Om (.i a0) ?_
   refine Oy (want:=true) hb2 ?_
   refine Om (.i a2) ?_
   refine Oy (want:=true) hb2 ?_
   refine Oi (.b (decide (a0<=a2))) ?_
   refine Pt (.b (decide (a0<=a2))) hb2 ?_
   refine Oa (.b (decide (a0<=a2))) ?_
   refine Ni ?_
   exact zag (decide (a0<=a2)) (.k .nil) ⟨(hS.keep [] rfl).up (by omega),hM⟩
  ·replace hM:=ifF hM hb2
   refine On (want:=true) hb2 ?_
   refine On (want:=true) hb2 ?_
   refine On (want:=true) hb2 ?_
   refine Pf (.b false) hb2 ?_
   refine Oa (.b false) ?_
   refine Ni ?_
   exact zag false (.k .nil) ⟨(hS.keep [] rfl).up (by omega),hM⟩
theorem zb1 {a0:Int} {a1:Int} {a2:Int} {r:Bool} (hM:zbS a0 a1 a2=some r):zav Try.prog 28 [.i a0,.i a1,.i a2] (.b r):=by
 refine zaj mixed Try.func28 rfl (by decide) Try.ntmps28 (by simp) ?pure fun H0 g hf=>?_
 case pure=>exact .v _
 rw [zah]
 change wpA _ _ _ _ (Fr.of [(0,.i a0),(1,.i a1),(2,.i a2)]) H0 g
 have hS:=St.start hf
 refine Sq ?_
 refine Rg 1 ?_
 refine Oa (.b false) ?_
 refine Ni ?_
 refine Ws ?_
 refine Sq ?_
 refine Rg 5 ?_
 refine Om (.i a0) ?_
 refine Om (.i a1) ?_
 refine Om (.i a2) ?_
 obtain ⟨r1,hr1,hM⟩:=zai hM
 refine zau (bs:=[.i a0,.i a1,.i a2]) (by decide) rfl rfl ((zix hr1).le (.k (.k (.k .nil)))) ?_
 refine Oa (.b r1) ?_
 refine Ni ?_
 refine zdz [(6,.b r1)] (.k .nil) ?_
 refine zaA ?_
 refine zaJ (x:=.b r1) (f:=fun r=>.b r) (.inr rfl) ?_ (.refl _) (Option.some.inj hM) hS
 exact (zao (zac (x:=.b r1) rfl))
theorem zlc {n:Nat} {a0:List Int} {a1:Int} {a2:Int} {r:Bool} (hM:zh1 n a0 a1 a2=some r):zav Try.prog 29 [.sl .no 1 (a0.map cI),.i a1,.i a2] (.b r):=by
 refine zaj mixed Try.func29 rfl (by decide) Try.ntmps29 (by simp) ?pure fun H0 g hf=>?_
 case pure=>exact .v _
 rw [zah]
 change wpA _ _ _ _ (Fr.of [(0,.sl .no 1 (a0.map cI)),(1,.i a1),(2,.i a2)]) H0 g
 have hS:=St.start hf
 refine Sq ?_
 refine Rg 1 ?_
 refine Oa (.b false) ?_
 refine Ni ?_
 refine Ws ?_
 refine zaC (J:=Unit) (fun j=>[]) (fun j H' g'=>St (·<g) H0 [] H' g'/\zeZ=some r) ?_ ?_
 ·rintro _ H g1 ⟨hS,hM⟩
  change wpA _ _ _ _ (Fr.of []) _ _
  replace hS:St (·<g) H0 [] H g1:=hS
  replace hM:zeZ=some r:=hM
  refine Sq ?_
  refine Rg 1 ?_
  refine Oa (.b true) ?_
  refine Ni ?_
  refine Ws ?_
  refine zaA ?_
  refine zaJ (x:=.b true) (f:=fun r=>.b r) (.inr rfl) ?_ (.refl _) (Option.some.inj hM) hS
  exact (zao (zac (x:=.b true) rfl))
 ·refine Sq ?_
  refine Rg 1 ?_
  refine Oa (.i 0) ?_
  refine Ni ?_
  refine Ws ?_
  refine zaq ?_
  refine zbr (V:=Int) (fun v=>[(0,.sl .no 1 (a0.map cI)),(1,.i a1),(2,.i a2),(7,.i v)]) (fun v m2 H' g'=>St (·<g) H0 [] H' g'/\zb4 a0 a1 a2 m2 v=some r) (n:=n) 0 (.k (.k (.k (.k .nil)))) ⟨(hS.keep [] rfl).up (by omega),hM⟩ ?_
  rintro v1 m2 H g2 ⟨hS,hM⟩
  obtain _ | m2:=m2
  ·exact nomatch (show none=some _ from hM)
  change wpA _ _ _ _ (Fr.of [(0,.sl .no 1 (a0.map cI)),(1,.i a1),(2,.i a2),(7,.i v1)]) _ _
  replace hS:St (·<g) H0 [] H g2:=hS
  replace hM:zeq a0 a1 a2 (zb4 a0 a1 a2 m2) v1=some r:=hM
  refine Sq ?_
  refine Sq ?_
  refine Rg 4 ?_
  refine Om (.i v1) ?_
  refine Om (.sl .no 1 (a0.map cI)) ?_
  refine zcj (n:=a0.length) (by decide) rfl (List.length_map _) za9 ?_
  refine Oi (.b (decide (v1<(a0.length:Int)))) ?_
  refine Ni ?_
  refine Ws ?_
  rcases bft (decide (v1<(a0.length:Int))) with hb2 | hb2
  ·replace hM:=ifT hM hb2
   refine Ct hb2 ?_
   refine zar ?_
   refine Ws ?_
   refine Sq ?_
   refine zaq ?_
   refine zaC (J:=Bool) (fun j=>[(0,.sl .no 1 (a0.map cI)),(1,.i a1),(2,.i a2),(7,.i v1),(37,.b j)]) (fun j H' g'=>St (·<g) H0 [] H' g'/\zcr (zb4 a0 a1 a2 m2) v1 j=some r) ?_ ?_
   ·rintro v3 H g3 ⟨hS,hM⟩
    change wpA _ _ _ _ (Fr.of [(0,.sl .no 1 (a0.map cI)),(1,.i a1),(2,.i a2),(7,.i v1),(37,.b v3)]) _ _
    replace hS:St (·<g) H0 [] H g3:=hS
    replace hM:zcr (zb4 a0 a1 a2 m2) v1 v3=some r:=hM
    rcases bft v3 with hb4 | hb4
    ·replace hM:=ifT hM hb4
     refine Ct hb4 ?_
     refine Sq ?_
     refine Rg 1 ?_
     refine Oa (.b false) ?_
     refine Ni ?_
     refine Ws ?_
     refine zaA ?_
     refine zas ?_
     refine zam ?_
     refine zaL ?_
     refine zas ?_
     refine zaI ?_
     refine zaJ (x:=.b false) (f:=fun r=>.b r) (.inr rfl) ?_ (.refl _) (Option.some.inj hM) hS
     exact (zao (zac (x:=.b false) rfl))
    ·replace hM:=ifF hM hb4
     refine Cf hb4 ?_
     refine zar ?_
     refine zae ?_
     refine Ws ?_
     refine Rg 3 ?_
     refine Om (.i v1) ?_
     refine Oi (.i (w64 (v1+1))) ?_
     refine Oa (.i (w64 (v1+1))) ?_
     refine Ni ?_
     exact zaW (w64 (v1+1)) (Nat.lt_succ_self _) (.k (.k (.k (.k .nil)))) ⟨(hS.keep [] rfl).up (by omega),hM⟩
   ·have hS0:=hS
    refine zd1 (n:=24) rfl (by kernel_rfl) ?_
    refine Om (.sl .no 1 (a0.map cI)) ?_
    refine Om (.i v1) ?_
    obtain ⟨x5,hx5,hM⟩:=zai hM
    refine zaU (xs:=a0) (f:=cI) (z:=v1) (u:=x5) (by decide) rfl rfl zaR hx5 ?_
    refine Olp (.i x5) zab zaf ?_
    refine Om (.i a1) ?_
    refine Om (.i a2) ?_
    obtain ⟨r6,hr6,hM⟩:=zai hM
    refine zau (bs:=[.i x5,.i a1,.i a2]) (by decide) rfl rfl ((zix hr6).le (.k (.k (.k .nil)))) ?_
    refine zd7 (e:=r6) (by decide) rfl ?_
    refine Om (.b (!r6)) ?_
    rcases bft (!r6) with hb7 | hb7
    ·replace hM:=ifT hM hb7
     refine On (want:=false) hb7 ?_
     refine On (want:=false) hb7 ?_
     refine On (want:=false) hb7 ?_
     refine zak (j:=11) (by decide) rfl ?_
     refine zak (j:=11) (by decide) rfl ?_
     refine zak (j:=11) (by decide) rfl ?_
     refine zak (j:=11) (by decide) rfl ?_
     refine zak (j:=11) (by decide) rfl ?_
     refine zak (j:=11) (by decide) rfl ?_
     refine zak (j:=11) (by decide) rfl ?_
     refine zak (j:=11) (by decide) rfl ?_
     refine zak (j:=11) (by decide) rfl ?_
     refine zak (j:=11) (by decide) rfl ?_
     refine On (want:=false) hb7 ?_
     refine Pt (.b true) hb7 ?_
     refine Ni ?_
     exact zag true (.k (.k (.k (.k (.k .nil))))) ⟨(hS.keep [] rfl).up (by omega),hM⟩
    ·replace hM:=ifF hM hb7
     refine Oy (want:=false) hb7 ?_
     refine Om (.i v1) ?_
     refine Oy (want:=false) hb7 ?_
     refine Oi (.b (decide (v1>0))) ?_
     refine Oy (want:=false) hb7 ?_
     refine Om (.b (decide (v1>0))) ?_
     rcases bft (decide (v1>0)) with hb8 | hb8
     ·replace hM:=ifT hM hb8
      refine Oy (want:=true) hb8 ?_
      refine Om (.sl .no 1 (a0.map cI)) ?_
      refine Oy (want:=true) hb8 ?_
      refine Om (.i v1) ?_
      refine Oy (want:=true) hb8 ?_
      obtain ⟨x9,hx9,hM⟩:=zai hM
      refine zaU (xs:=a0) (f:=cI) (z:=v1) (u:=x9) (by decide) rfl rfl zaR hx9 ?_
      refine Oy (want:=true) hb8 ?_
      refine Olp (.i x9) zab zaf ?_
      refine Oy (want:=true) hb8 ?_
      refine Om (.sl .no 1 (a0.map cI)) ?_
      refine Oy (want:=true) hb8 ?_
      refine Om (.i v1) ?_
      refine Oy (want:=true) hb8 ?_
      refine Oi (.i (w64 (v1-1))) ?_
      refine Oy (want:=true) hb8 ?_
      obtain ⟨x10,hx10,hM⟩:=zai hM
      refine zaU (xs:=a0) (f:=cI) (z:=(w64 (v1-1))) (u:=x10) (by decide) rfl rfl zaR hx10 ?_
      refine Oy (want:=true) hb8 ?_
      refine Olp (.i x10) zab zaf ?_
      refine Oy (want:=true) hb8 ?_
      refine Oi (.b (decide (x9<=x10))) ?_
      refine Oy (want:=false) hb7 ?_
      refine Pt (.b (decide (x9<=x10))) hb8 ?_
      refine Pf (.b (decide (x9<=x10))) hb7 ?_
      refine Ni ?_
      exact zag (decide (x9<=x10)) (.k (.k (.k (.k (.k .nil))))) ⟨(hS.keep [] rfl).up (by omega),hM⟩
     ·replace hM:=ifF hM hb8
      refine On (want:=true) hb8 ?_
      refine On (want:=true) hb8 ?_
      refine On (want:=true) hb8 ?_
      refine On (want:=true) hb8 ?_
      refine On (want:=true) hb8 ?_
      refine On (want:=true) hb8 ?_
      refine On (want:=true) hb8 ?_
      refine On (want:=true) hb8 ?_
      refine On (want:=true) hb8 ?_
      refine On (want:=true) hb8 ?_
      refine Oy (want:=false) hb7 ?_
      refine Pf (.b false) hb8 ?_
      refine Pf (.b false) hb7 ?_
      refine Ni ?_
      exact zag false (.k (.k (.k (.k (.k .nil))))) ⟨(hS.keep [] rfl).up (by omega),hM⟩
  ·replace hM:=ifF hM hb2
   refine Cf hb2 ?_
   refine zbl ?_
   refine zap ?_
   refine zan ?_
   refine zat ?_
   exact zag () .nil ⟨(hS.keep [] rfl).up (by omega),hM⟩
theorem zhz {n:Nat} {a0:Pulse} {r:Int} (hM:zfy n a0=some r):zav Try.prog 11 [.agg (Pulse.cells a0)] (.i r):=by
 refine zaj mixed Try.func11 rfl (by decide) Try.ntmps11 (by simp) ?pure fun H0 g hf=>?_
 case pure=>exact .v _
 rw [zah]
 change wpA _ _ _ _ (Fr.of [(0,.agg (Pulse.cells a0))]) H0 g
 have hS:=St.start hf
 refine Sq ?_
 refine Rg 2 ?_
 refine zbX (v:=.agg (Pulse.cells a0)) (cs:=(Pulse.cells a0)) hS (by decide) rfl rfl (by omega) fun H hS=>?_
 refine Oa (.i 0) ?_
 refine Ni ?_
 refine zaZ (L':=[]) 0 1 hS rfl rfl rfl fun H hS=>?_
 refine Ws ?_
 refine Sq ?_
 refine zaC (J:=Bool) (fun j=>[(66,.b j)]) (fun j H' g'=>St (·<g) H0 [] H' g'/\zby j=some r) ?_ ?_
 ·rintro v1 H g1 ⟨hS,hM⟩
  change wpA _ _ _ _ (Fr.of [(66,.b v1)]) _ _
  replace hS:St (·<g) H0 [] H g1:=hS
  replace hM:zby v1=some r:=hM
  rcases bft v1 with hb2 | hb2
  ·replace hM:=ifT hM hb2
   refine Ct hb2 ?_
   refine Sq ?_
   refine Rg 1 ?_
   refine Oa (.i 130) ?_
   refine Ni ?_
   refine Ws ?_
   refine zaA ?_
   refine zam ?_
   refine zaJ (x:=.i 130) (f:=fun r=>.i r) (.inr rfl) ?_ (.refl _) (Option.some.inj hM) hS
   exact (zao (zac (x:=.i 130) rfl))
  ·replace hM:=ifF hM hb2
   refine Cf hb2 ?_
   refine zar ?_
   refine Ws ?_
   refine Sq ?_
   refine Rg 1 ?_
   refine Oa (.i 0) ?_
   refine Ni ?_
   refine Ws ?_
   refine zaA ?_
   refine zaJ (x:=.i 0) (f:=fun r=>.i r) (.inr rfl) ?_ (.refl _) (Option.some.inj hM) hS
   exact (zao (zac (x:=.i 0) rfl))
 ·refine Rg 64 ?_
  refine Of ((Pulse.cells a0)) zfo ?_
  refine Olp (.i a0.Letters) zab zaf ?_
  obtain ⟨r3,hr3,hM⟩:=zai hM
  refine zau (bs:=[.i a0.Letters,.i 1,.i 5]) (by decide) rfl rfl ((zb1 hr3).le (.k (.k (.k .nil)))) ?_
  refine zd7 (e:=r3) (by decide) rfl ?_
  refine Om (.b (!r3)) ?_
  rcases bft (!r3) with hb4 | hb4
  ·replace hM:=ifT hM hb4
   refine On (want:=false) hb4 ?_
   refine On (want:=false) hb4 ?_
   refine On (want:=false) hb4 ?_
   refine On (want:=false) hb4 ?_
   refine Pt (.b true) hb4 ?_
   refine Om (.b true) ?_
   refine Og ?_
   refine Og ?_
   refine Og ?_
   refine Og ?_
   refine za7 (v:=.b true) (e:=true) (by decide) rfl rfl rfl ?_
   refine Om (.b true) ?_
   refine Og ?_
   refine Og ?_
   refine Og ?_
   refine Og ?_
   refine Og ?_
   refine Og ?_
   refine Og ?_
   refine za7 (v:=.b true) (e:=true) (by decide) rfl rfl rfl ?_
   refine Om (.b true) ?_
   refine Og ?_
   refine Og ?_
   refine Og ?_
   refine Og ?_
   refine za7 (v:=.b true) (e:=true) (by decide) rfl rfl rfl ?_
   refine Om (.b true) ?_
   refine Og ?_
   refine Og ?_
   refine Og ?_
   refine Og ?_
   refine Og ?_
   refine Og ?_
   refine Og ?_
   refine Og ?_
   refine Og ?_
   refine Og ?_
   refine Og ?_
   refine Og ?_
   refine Og ?_
   refine za7 (v:=.b true) (e:=true) (by decide) rfl rfl rfl ?_
   refine Om (.b true) ?_
   refine Og ?_
   refine Og ?_
   refine Og ?_
   refine Og ?_
   refine za7 (v:=.b true) (e:=true) (by decide) rfl rfl rfl ?_
   refine Om (.b true) ?_
   refine Og ?_
   refine Og ?_
   refine Og ?_
   refine Og ?_
   refine za7 (v:=.b true) (e:=true) (by decide) rfl rfl rfl ?_
   refine Om (.b true) ?_
   refine Og ?_
   refine Og ?_
   refine Og ?_
   refine Og ?_
   refine za7 (v:=.b true) (e:=true) (by decide) rfl rfl rfl ?_
   refine Ni ?_
   exact zag true (.k .nil) ⟨(hS.keep [] rfl).up (by omega),hM⟩
  ·replace hM:=ifF hM hb4
   refine Oy (want:=false) hb4 ?_
   refine Of ((Pulse.cells a0)) zcu ?_
   refine Oy (want:=false) hb4 ?_
   refine Olp (.i a0.Numbers) zab zaf ?_
   refine Oy (want:=false) hb4 ?_
   obtain ⟨r5,hr5,hM⟩:=zai hM
   refine zau (bs:=[.i a0.Numbers,.i 1,.i 5]) (by decide) rfl rfl ((zb1 hr5).le (.k (.k (.k .nil)))) ?_
   refine Oy (want:=false) hb4 ?_
   refine zd7 (e:=r5) (by decide) rfl ?_
   refine Pf (.b (!r5)) hb4 ?_
   refine Om (.b (!r5)) ?_
   rcases bft (!r5) with hb6 | hb6
   ·replace hM:=ifT hM hb6
    refine On (want:=false) hb6 ?_
    refine On (want:=false) hb6 ?_
    refine On (want:=false) hb6 ?_
    refine On (want:=false) hb6 ?_
    refine Pt (.b true) hb6 ?_
    refine Om (.b true) ?_
    refine Og ?_
    refine Og ?_
    refine Og ?_
    refine Og ?_
    refine Og ?_
    refine Og ?_
    refine Og ?_
    refine za7 (v:=.b true) (e:=true) (by decide) rfl rfl rfl ?_
    refine Om (.b true) ?_
    refine Og ?_
    refine Og ?_
    refine Og ?_
    refine Og ?_
    refine za7 (v:=.b true) (e:=true) (by decide) rfl rfl rfl ?_
    refine Om (.b true) ?_
    refine Og ?_
    refine Og ?_
    refine Og ?_
    refine Og ?_
    refine Og ?_
    refine Og ?_
    refine Og ?_
    refine Og ?_
    refine Og ?_
    refine Og ?_
    refine Og ?_
    refine Og ?_
    refine Og ?_
    refine za7 (v:=.b true) (e:=true) (by decide) rfl rfl rfl ?_
    refine Om (.b true) ?_
    refine Og ?_
    refine Og ?_
    refine Og ?_
    refine Og ?_
    refine za7 (v:=.b true) (e:=true) (by decide) rfl rfl rfl ?_
    refine Om (.b true) ?_
    refine Og ?_
    refine Og ?_
    refine Og ?_
    refine Og ?_
    refine za7 (v:=.b true) (e:=true) (by decide) rfl rfl rfl ?_
    refine Om (.b true) ?_
    refine Og ?_
    refine Og ?_
    refine Og ?_
    refine Og ?_
    refine za7 (v:=.b true) (e:=true) (by decide) rfl rfl rfl ?_
    refine Ni ?_
    exact zag true (.k .nil) ⟨(hS.keep [] rfl).up (by omega),hM⟩
   ·replace hM:=ifF hM hb6
    refine Oy (want:=false) hb6 ?_
    refine Of ((Pulse.cells a0)) zdw ?_
    refine Oy (want:=false) hb6 ?_
    refine Olp (.i a0.Pitch) zab zaf ?_
    refine Oy (want:=false) hb6 ?_
    obtain ⟨r7,hr7,hM⟩:=zai hM
    refine zau (bs:=[.i a0.Pitch,.i 1,.i 99]) (by decide) rfl rfl ((zb1 hr7).le (.k (.k (.k .nil)))) ?_
    refine Oy (want:=false) hb6 ?_
    refine zd7 (e:=r7) (by decide) rfl ?_
    refine Pf (.b (!r7)) hb6 ?_
    refine Om (.b (!r7)) ?_
    rcases bft (!r7) with hb8 | hb8
    ·replace hM:=ifT hM hb8
     refine On (want:=false) hb8 ?_
     refine On (want:=false) hb8 ?_
     refine On (want:=false) hb8 ?_
     refine On (want:=false) hb8 ?_
     refine On (want:=false) hb8 ?_
     refine On (want:=false) hb8 ?_
     refine On (want:=false) hb8 ?_
     refine Pt (.b true) hb8 ?_
     refine Om (.b true) ?_
     refine Og ?_
     refine Og ?_
     refine Og ?_
     refine Og ?_
     refine za7 (v:=.b true) (e:=true) (by decide) rfl rfl rfl ?_
     refine Om (.b true) ?_
     refine Og ?_
     refine Og ?_
     refine Og ?_
     refine Og ?_
     refine Og ?_
     refine Og ?_
     refine Og ?_
     refine Og ?_
     refine Og ?_
     refine Og ?_
     refine Og ?_
     refine Og ?_
     refine Og ?_
     refine za7 (v:=.b true) (e:=true) (by decide) rfl rfl rfl ?_
     refine Om (.b true) ?_
     refine Og ?_
     refine Og ?_
     refine Og ?_
     refine Og ?_
     refine za7 (v:=.b true) (e:=true) (by decide) rfl rfl rfl ?_
     refine Om (.b true) ?_
     refine Og ?_
     refine Og ?_
     refine Og ?_
     refine Og ?_
     refine za7 (v:=.b true) (e:=true) (by decide) rfl rfl rfl ?_
     refine Om (.b true) ?_
     refine Og ?_
     refine Og ?_
     refine Og ?_
     refine Og ?_
     refine za7 (v:=.b true) (e:=true) (by decide) rfl rfl rfl ?_
     refine Ni ?_
     exact zag true (.k .nil) ⟨(hS.keep [] rfl).up (by omega),hM⟩
    ·replace hM:=ifF hM hb8
     refine Oy (want:=false) hb8 ?_
     refine Of ((Pulse.cells a0)) zeJ ?_
     refine Oy (want:=false) hb8 ?_
     refine Olp (.i a0.Slack) zab zaf ?_
     refine Oy (want:=false) hb8 ?_
     refine Of ((Pulse.cells a0)) zdw ?_
     refine Oy (want:=false) hb8 ?_
     refine Olp (.i a0.Pitch) zab zaf ?_
     refine Oy (want:=false) hb8 ?_
     refine Oi (.i (w64 (a0.Pitch-1))) ?_
     refine Oy (want:=false) hb8 ?_
     obtain ⟨r9,hr9,hM⟩:=zai hM
     refine zau (bs:=[.i a0.Slack,.i 0,.i (w64 (a0.Pitch-1))]) (by decide) rfl rfl ((zb1 hr9).le (.k (.k (.k .nil)))) ?_
     refine Oy (want:=false) hb8 ?_
     refine zd7 (e:=r9) (by decide) rfl ?_
     refine Pf (.b (!r9)) hb8 ?_
     refine Om (.b (!r9)) ?_
     rcases bft (!r9) with hb10 | hb10
     ·replace hM:=ifT hM hb10
      refine On (want:=false) hb10 ?_
      refine On (want:=false) hb10 ?_
      refine On (want:=false) hb10 ?_
      refine On (want:=false) hb10 ?_
      refine Pt (.b true) hb10 ?_
      refine Om (.b true) ?_
      refine Og ?_
      refine Og ?_
      refine Og ?_
      refine Og ?_
      refine Og ?_
      refine Og ?_
      refine Og ?_
      refine Og ?_
      refine Og ?_
      refine Og ?_
      refine Og ?_
      refine Og ?_
      refine Og ?_
      refine za7 (v:=.b true) (e:=true) (by decide) rfl rfl rfl ?_
      refine Om (.b true) ?_
      refine Og ?_
      refine Og ?_
      refine Og ?_
      refine Og ?_
      refine za7 (v:=.b true) (e:=true) (by decide) rfl rfl rfl ?_
      refine Om (.b true) ?_
      refine Og ?_
      refine Og ?_
      refine Og ?_
      refine Og ?_
      refine za7 (v:=.b true) (e:=true) (by decide) rfl rfl rfl ?_
      refine Om (.b true) ?_
      refine Og ?_
      refine Og ?_
      refine Og ?_
      refine Og ?_
      refine za7 (v:=.b true) (e:=true) (by decide) rfl rfl rfl ?_
      refine Ni ?_
      exact zag true (.k .nil) ⟨(hS.keep [] rfl).up (by omega),hM⟩
     ·replace hM:=ifF hM hb10
      refine Oy (want:=false) hb10 ?_
      refine Of ((Pulse.cells a0)) zeK ?_
      refine Oy (want:=false) hb10 ?_
      refine Olp (.i a0.Pause) zab zaf ?_
      refine Oy (want:=false) hb10 ?_
      obtain ⟨r11,hr11,hM⟩:=zai hM
      refine zau (bs:=[.i a0.Pause,.i 1,.i 999]) (by decide) rfl rfl ((zb1 hr11).le (.k (.k (.k .nil)))) ?_
      refine Oy (want:=false) hb10 ?_
      refine zd7 (e:=r11) (by decide) rfl ?_
      refine Pf (.b (!r11)) hb10 ?_
      refine Om (.b (!r11)) ?_
      rcases bft (!r11) with hb12 | hb12
      ·replace hM:=ifT hM hb12
       refine On (want:=false) hb12 ?_
       refine On (want:=false) hb12 ?_
       refine On (want:=false) hb12 ?_
       refine On (want:=false) hb12 ?_
       refine On (want:=false) hb12 ?_
       refine On (want:=false) hb12 ?_
       refine On (want:=false) hb12 ?_
       refine On (want:=false) hb12 ?_
       refine On (want:=false) hb12 ?_
       refine On (want:=false) hb12 ?_
       refine On (want:=false) hb12 ?_
       refine On (want:=false) hb12 ?_
       refine On (want:=false) hb12 ?_
       refine Pt (.b true) hb12 ?_
       refine Om (.b true) ?_
       refine Og ?_
       refine Og ?_
       refine Og ?_
       refine Og ?_
       refine za7 (v:=.b true) (e:=true) (by decide) rfl rfl rfl ?_
       refine Om (.b true) ?_
       refine Og ?_
       refine Og ?_
       refine Og ?_
       refine Og ?_
       refine za7 (v:=.b true) (e:=true) (by decide) rfl rfl rfl ?_
       refine Om (.b true) ?_
       refine Og ?_
       refine Og ?_
       refine Og ?_
       refine Og ?_
       refine za7 (v:=.b true) (e:=true) (by decide) rfl rfl rfl ?_
       refine Ni ?_
       exact zag true (.k .nil) ⟨(hS.keep [] rfl).up (by omega),hM⟩
      ·replace hM:=ifF hM hb12
       refine Oy (want:=false) hb12 ?_
       refine Of ((Pulse.cells a0)) zgK ?_
       refine Oy (want:=false) hb12 ?_
       refine Olp (.i a0.Gap) zab zaf ?_
       refine Oy (want:=false) hb12 ?_
       refine Of ((Pulse.cells a0)) zdw ?_
       refine Oy (want:=false) hb12 ?_
       refine Olp (.i a0.Pitch) zab zaf ?_
       refine Oy (want:=false) hb12 ?_
       refine Of ((Pulse.cells a0)) zeJ ?_
       refine Oy (want:=false) hb12 ?_
       refine Olp (.i a0.Slack) zab zaf ?_
       refine Oy (want:=false) hb12 ?_
       refine Oi (.i (w64 (a0.Pitch+a0.Slack))) ?_
       refine Oy (want:=false) hb12 ?_
       refine Oi (.i (w64 ((w64 (a0.Pitch+a0.Slack))+1))) ?_
       refine Oy (want:=false) hb12 ?_
       refine Of ((Pulse.cells a0)) zeK ?_
       refine Oy (want:=false) hb12 ?_
       refine Olp (.i a0.Pause) zab zaf ?_
       refine Oy (want:=false) hb12 ?_
       refine Oi (.i (w64 (a0.Pause-1))) ?_
       refine Oy (want:=false) hb12 ?_
       obtain ⟨r13,hr13,hM⟩:=zai hM
       refine zau (bs:=[.i a0.Gap,.i (w64 ((w64 (a0.Pitch+a0.Slack))+1)),.i (w64 (a0.Pause-1))]) (by decide) rfl rfl ((zb1 hr13).le (.k (.k (.k .nil)))) ?_
       refine Oy (want:=false) hb12 ?_
       refine zd7 (e:=r13) (by decide) rfl ?_
       refine Pf (.b (!r13)) hb12 ?_
       refine Om (.b (!r13)) ?_
       rcases bft (!r13) with hb14 | hb14
       ·replace hM:=ifT hM hb14
        refine On (want:=false) hb14 ?_
        refine On (want:=false) hb14 ?_
        refine On (want:=false) hb14 ?_
        refine On (want:=false) hb14 ?_
        refine Pt (.b true) hb14 ?_
        refine Om (.b true) ?_
        refine Og ?_
        refine Og ?_
        refine Og ?_
        refine Og ?_
        refine za7 (v:=.b true) (e:=true) (by decide) rfl rfl rfl ?_
        refine Om (.b true) ?_
        refine Og ?_
        refine Og ?_
        refine Og ?_
        refine Og ?_
        refine za7 (v:=.b true) (e:=true) (by decide) rfl rfl rfl ?_
        refine Ni ?_
        exact zag true (.k .nil) ⟨(hS.keep [] rfl).up (by omega),hM⟩
       ·replace hM:=ifF hM hb14
        refine Oy (want:=false) hb14 ?_
        refine Of ((Pulse.cells a0)) zgL ?_
        refine Oy (want:=false) hb14 ?_
        refine Olp (.i a0.Sparks) zab zaf ?_
        refine Oy (want:=false) hb14 ?_
        obtain ⟨r15,hr15,hM⟩:=zai hM
        refine zau (bs:=[.i a0.Sparks,.i 0,.i 3]) (by decide) rfl rfl ((zb1 hr15).le (.k (.k (.k .nil)))) ?_
        refine Oy (want:=false) hb14 ?_
        refine zd7 (e:=r15) (by decide) rfl ?_
        refine Pf (.b (!r15)) hb14 ?_
        refine Om (.b (!r15)) ?_
        rcases bft (!r15) with hb16 | hb16
        ·replace hM:=ifT hM hb16
         refine On (want:=false) hb16 ?_
         refine On (want:=false) hb16 ?_
         refine On (want:=false) hb16 ?_
         refine On (want:=false) hb16 ?_
         refine Pt (.b true) hb16 ?_
         refine Om (.b true) ?_
         refine Og ?_
         refine Og ?_
         refine Og ?_
         refine Og ?_
         refine za7 (v:=.b true) (e:=true) (by decide) rfl rfl rfl ?_
         refine Ni ?_
         exact zag true (.k .nil) ⟨(hS.keep [] rfl).up (by omega),hM⟩
        ·replace hM:=ifF hM hb16
         refine Oy (want:=false) hb16 ?_
         refine Of ((Pulse.cells a0)) zcV ?_
         refine Oy (want:=false) hb16 ?_
         refine Olp (.sl .no 1 (a0.Times.map cI)) za6 zbx ?_
         refine Oy (want:=false) hb16 ?_
         refine zcj (n:=a0.Times.length) (by decide) rfl (List.length_map _) za9 ?_
         refine Oy (want:=false) hb16 ?_
         refine Oi (.b (decide ((a0.Times.length:Int)>24))) ?_
         refine Pf (.b (decide ((a0.Times.length:Int)>24))) hb16 ?_
         refine Om (.b (decide ((a0.Times.length:Int)>24))) ?_
         rcases bft (decide ((a0.Times.length:Int)>24)) with hb17 | hb17
         ·replace hM:=ifT hM hb17
          refine On (want:=false) hb17 ?_
          refine On (want:=false) hb17 ?_
          refine On (want:=false) hb17 ?_
          refine On (want:=false) hb17 ?_
          refine Pt (.b true) hb17 ?_
          refine Ni ?_
          exact zag true (.k .nil) ⟨(hS.keep [] rfl).up (by omega),hM⟩
         ·replace hM:=ifF hM hb17
          refine Oy (want:=false) hb17 ?_
          refine Of ((Pulse.cells a0)) zcV ?_
          refine Oy (want:=false) hb17 ?_
          refine Olp (.sl .no 1 (a0.Times.map cI)) za6 zbx ?_
          refine Oy (want:=false) hb17 ?_
          obtain ⟨r18,hr18,hM⟩:=zai hM
          refine zau (bs:=[.sl .no 1 (a0.Times.map cI),.i 0,.i 99999]) (by decide) rfl rfl ((zlc hr18).le (.k (.k (.k .nil)))) ?_
          refine Oy (want:=false) hb17 ?_
          refine zd7 (e:=r18) (by decide) rfl ?_
          refine Pf (.b (!r18)) hb17 ?_
          refine Ni ?_
          exact zag (!r18) (.k .nil) ⟨(hS.keep [] rfl).up (by omega),hM⟩
theorem zn0 {n:Nat} {a0:Pulse} {r:Bool} (hM:ziZ n a0=some r):zav Try.prog 4 [.agg (Pulse.cells a0)] (.b r):=by
 refine zaj mixed Try.func4 rfl (by decide) Try.ntmps4 (by simp) ?pure fun H0 g hf=>?_
 case pure=>exact .v _
 rw [zah]
 change wpA _ _ _ _ (Fr.of [(0,.agg (Pulse.cells a0))]) H0 g
 have hS:=St.start hf
 refine Sq ?_
 refine Rg 2 ?_
 refine zbX (v:=.agg (Pulse.cells a0)) (cs:=(Pulse.cells a0)) hS (by decide) rfl rfl (by omega) fun H hS=>?_
 refine Oa (.b false) ?_
 refine Ni ?_
 refine zaZ (L':=[]) 0 1 hS rfl rfl rfl fun H hS=>?_
 refine Ws ?_
 refine zaC (J:=Bool) (fun j=>[(2,.b j)]) (fun j H' g'=>St (·<g) H0 [] H' g'/\zeV j=some r) ?_ ?_
 ·rintro v1 H g1 ⟨hS,hM⟩
  change wpA _ _ _ _ (Fr.of [(2,.b v1)]) _ _
  replace hS:St (·<g) H0 [] H g1:=hS
  replace hM:zeV v1=some r:=hM
  refine zaA ?_
  refine zaJ (x:=.b v1) (f:=fun r=>.b r) (.inr rfl) ?_ (.refl _) (Option.some.inj hM) hS
  exact (zao (zac (x:=.b v1) rfl))
 ·refine Rg 16 ?_
  refine Of ((Pulse.cells a0)) zcV ?_
  refine Olp (.sl .no 1 (a0.Times.map cI)) za6 zbx ?_
  refine zcj (n:=a0.Times.length) (by decide) rfl (List.length_map _) za9 ?_
  refine Oi (.b (decide ((a0.Times.length:Int)>40))) ?_
  refine Om (.b (decide ((a0.Times.length:Int)>40))) ?_
  rcases bft (decide ((a0.Times.length:Int)>40)) with hb2 | hb2
  ·replace hM:=ifT hM hb2
   refine On (want:=false) hb2 ?_
   refine On (want:=false) hb2 ?_
   refine On (want:=false) hb2 ?_
   refine On (want:=false) hb2 ?_
   refine zak (j:=8) (by decide) rfl ?_
   refine zak (j:=8) (by decide) rfl ?_
   refine zak (j:=8) (by decide) rfl ?_
   refine zak (j:=8) (by decide) rfl ?_
   refine On (want:=false) hb2 ?_
   refine Pt (.b true) hb2 ?_
   refine Oa (.b true) ?_
   refine Ni ?_
   exact zag true (.k .nil) ⟨(hS.keep [] rfl).up (by omega),hM⟩
  ·replace hM:=ifF hM hb2
   refine Oy (want:=false) hb2 ?_
   refine Olg (.agg (Pulse.cells a0)) za0 ?_
   refine Oy (want:=false) hb2 ?_
   obtain ⟨r3,hr3,hM⟩:=zai hM
   refine zau (bs:=[.agg (Pulse.cells a0)]) (by decide) rfl rfl ((zhz hr3).le (.k .nil)) ?_
   refine Oy (want:=false) hb2 ?_
   refine Oi (.b (r3==0)) ?_
   refine Oy (want:=false) hb2 ?_
   refine Om (.b (r3==0)) ?_
   rcases bft (r3==0) with hb4 | hb4
   ·replace hM:=ifT hM hb4
    refine Oy (want:=true) hb4 ?_
    refine Of ((Pulse.cells a0)) zcV ?_
    refine Oy (want:=true) hb4 ?_
    refine Olp (.sl .no 1 (a0.Times.map cI)) za6 zbx ?_
    refine Oy (want:=true) hb4 ?_
    refine zcj (n:=a0.Times.length) (by decide) rfl (List.length_map _) za9 ?_
    refine Oy (want:=true) hb4 ?_
    refine Oi (.b (decide ((a0.Times.length:Int)>14))) ?_
    refine Oy (want:=false) hb2 ?_
    refine Pt (.b (decide ((a0.Times.length:Int)>14))) hb4 ?_
    refine Pf (.b (decide ((a0.Times.length:Int)>14))) hb2 ?_
    refine Oa (.b (decide ((a0.Times.length:Int)>14))) ?_
    refine Ni ?_
    exact zag (decide ((a0.Times.length:Int)>14)) (.k .nil) ⟨(hS.keep [] rfl).up (by omega),hM⟩
   ·replace hM:=ifF hM hb4
    refine On (want:=true) hb4 ?_
    refine On (want:=true) hb4 ?_
    refine On (want:=true) hb4 ?_
    refine On (want:=true) hb4 ?_
    refine Oy (want:=false) hb2 ?_
    refine Pf (.b false) hb4 ?_
    refine Pf (.b false) hb2 ?_
    refine Oa (.b false) ?_
    refine Ni ?_
    exact zag false (.k .nil) ⟨(hS.keep [] rfl).up (by omega),hM⟩
theorem zdR {n:Nat} {a0:List Int} {a1:List Int} {r:Bool} (hM:zbN n a0 a1=some r):zav Try.prog 9 [.sl .no 1 (a0.map cI),.sl .no 1 (a1.map cI)] (.b r):=by
 refine zaj mixed Try.func9 rfl (by decide) Try.ntmps9 (by simp) ?pure fun H0 g hf=>?_
 case pure=>exact .v _
 rw [zah]
 change wpA _ _ _ _ (Fr.of [(0,.sl .no 1 (a0.map cI)),(1,.sl .no 1 (a1.map cI))]) H0 g
 have hS:=St.start hf
 refine Sq ?_
 refine Rg 1 ?_
 refine Oa (.b false) ?_
 refine Ni ?_
 refine Ws ?_
 refine Sq ?_
 refine Sq ?_
 refine Rg 5 ?_
 refine Om (.sl .no 1 (a0.map cI)) ?_
 refine zcj (n:=a0.length) (by decide) rfl (List.length_map _) za9 ?_
 refine Om (.sl .no 1 (a1.map cI)) ?_
 refine zcj (n:=a1.length) (by decide) rfl (List.length_map _) za9 ?_
 refine Oi (.b ((a0.length:Int) != (a1.length:Int))) ?_
 refine Ni ?_
 refine Ws ?_
 rcases bft ((a0.length:Int) != (a1.length:Int)) with hb1 | hb1
 ·replace hM:=ifT hM hb1
  refine Ct hb1 ?_
  refine Sq ?_
  refine Rg 1 ?_
  refine Oa (.b false) ?_
  refine Ni ?_
  refine Ws ?_
  refine zaA ?_
  refine zam ?_
  refine zaJ (x:=.b false) (f:=fun r=>.b r) (.inr rfl) ?_ (.refl _) (Option.some.inj hM) hS
  exact (zao (zac (x:=.b false) rfl))
 ·replace hM:=ifF hM hb1
  refine Cf hb1 ?_
  refine zar ?_
  refine Ws ?_
  refine zaC (J:=Unit) (fun j=>[]) (fun j H' g'=>St (·<g) H0 [] H' g'/\zdp=some r) ?_ ?_
  ·rintro _ H g1 ⟨hS,hM⟩
   change wpA _ _ _ _ (Fr.of []) _ _
   replace hS:St (·<g) H0 [] H g1:=hS
   replace hM:zdp=some r:=hM
   refine Sq ?_
   refine Rg 1 ?_
   refine Oa (.b true) ?_
   refine Ni ?_
   refine Ws ?_
   refine zaA ?_
   refine zaJ (x:=.b true) (f:=fun r=>.b r) (.inr rfl) ?_ (.refl _) (Option.some.inj hM) hS
   exact (zao (zac (x:=.b true) rfl))
  ·refine Sq ?_
   refine Rg 1 ?_
   refine Oa (.i 0) ?_
   refine Ni ?_
   refine Ws ?_
   refine zaq ?_
   refine zbr (V:=Int) (fun v=>[(0,.sl .no 1 (a0.map cI)),(1,.sl .no 1 (a1.map cI)),(5,.i v)]) (fun v m2 H' g'=>St (·<g) H0 [] H' g'/\zba a0 a1 m2 v=some r) (n:=n) 0 (.k (.k (.k .nil))) ⟨(hS.keep [] rfl).up (by omega),hM⟩ ?_
   rintro v2 m2 H g2 ⟨hS,hM⟩
   obtain _ | m2:=m2
   ·exact nomatch (show none=some _ from hM)
   change wpA _ _ _ _ (Fr.of [(0,.sl .no 1 (a0.map cI)),(1,.sl .no 1 (a1.map cI)),(5,.i v2)]) _ _
   replace hS:St (·<g) H0 [] H g2:=hS
   replace hM:zch a0 a1 (zba a0 a1 m2) v2=some r:=hM
   refine Sq ?_
   refine Sq ?_
   refine Rg 4 ?_
   refine Om (.i v2) ?_
   refine Om (.sl .no 1 (a0.map cI)) ?_
   refine zcj (n:=a0.length) (by decide) rfl (List.length_map _) za9 ?_
   refine Oi (.b (decide (v2<(a0.length:Int)))) ?_
   refine Ni ?_
   refine Ws ?_
   rcases bft (decide (v2<(a0.length:Int))) with hb3 | hb3
   ·replace hM:=ifT hM hb3
    refine Ct hb3 ?_
    refine zar ?_
    refine Ws ?_
    refine Sq ?_
    refine zaq ?_
    refine Sq ?_
    have hS0:=hS
    refine zd1 (n:=9) rfl (by kernel_rfl) ?_
    refine Om (.sl .no 1 (a0.map cI)) ?_
    refine Om (.i v2) ?_
    obtain ⟨x4,hx4,hM⟩:=zai hM
    refine zaU (xs:=a0) (f:=cI) (z:=v2) (u:=x4) (by decide) rfl rfl zaR hx4 ?_
    refine Olp (.i x4) zab zaf ?_
    refine Om (.sl .no 1 (a1.map cI)) ?_
    refine Om (.i v2) ?_
    obtain ⟨x5,hx5,hM⟩:=zai hM
    refine zaU (xs:=a1) (f:=cI) (z:=v2) (u:=x5) (by decide) rfl rfl zaR hx5 ?_
    refine Olp (.i x5) zab zaf ?_
    refine Oi (.b (x4 != x5)) ?_
    refine Ni ?_
    refine Ws ?_
    rcases bft (x4 != x5) with hb6 | hb6
    ·replace hM:=ifT hM hb6
     refine Ct hb6 ?_
     refine Sq ?_
     refine Rg 1 ?_
     refine Oa (.b false) ?_
     refine Ni ?_
     refine Ws ?_
     refine zaA ?_
     refine zas ?_
     refine zam ?_
     refine zaL ?_
     refine zas ?_
     refine zaI ?_
     refine zaJ (x:=.b false) (f:=fun r=>.b r) (.inr rfl) ?_ (.refl _) (Option.some.inj hM) hS
     exact (zao (zac (x:=.b false) rfl))
    ·replace hM:=ifF hM hb6
     refine Cf hb6 ?_
     refine zar ?_
     refine zae ?_
     refine Ws ?_
     refine Rg 3 ?_
     refine Om (.i v2) ?_
     refine Oi (.i (w64 (v2+1))) ?_
     refine Oa (.i (w64 (v2+1))) ?_
     refine Ni ?_
     exact zaW (w64 (v2+1)) (Nat.lt_succ_self _) (.k (.k (.k .nil))) ⟨(hS.keep [] rfl).up (by omega),hM⟩
   ·replace hM:=ifF hM hb3
    refine Cf hb3 ?_
    refine zbl ?_
    refine zap ?_
    refine zan ?_
    refine zat ?_
    exact zag () .nil ⟨(hS.keep [] rfl).up (by omega),hM⟩
theorem zkR {r:Pulse} (hM:zi0=some r):zav Try.prog 12 [] (.agg [.i r.Letters,.i r.Numbers,.i r.Pitch,.i r.Slack,.i r.Gap,.i r.Pause,.i r.Sparks,.sl .no 1 (r.Times.map cI)]):=by
 refine zaj mixed Try.func12 rfl (by decide) Try.ntmps12 (by simp) ?pure fun H0 g hf=>?_
 case pure=>exact .agg _ (zad (.v _) (zad (.v _) (zad (.v _) (zad (.v _) (zad (.v _) (zad (.v _) (zad (.v _) (zad (.sl _ _ (zaz (fun x=>(zad (.v _) zaG)))) zaG))))))))
 rw [zah]
 change wpA _ _ _ _ (Fr.of []) H0 g
 have hS:=St.start hf
 refine Sq ?_
 refine Rg 1 ?_
 refine zcp hS (by decide) zhe (by omega) fun H hS=>?_
 refine Ni ?_
 refine Ws ?_
 refine Sq ?_
 refine Rg 3 ?_
 refine zaK (es:=[[.i 0],[.i 10],[.i 40],[.i 50],[.i 60]]) hS (by decide) zaR zcT rfl zcU rfl (by decide) (by omega) fun H hS=>?_
 refine zbD (cs:=[.i 3,.i 4,.i 10,.i 2,.i 30,.i 100,.i 1,.sl (.id (g+1+0)) 1 (([0,10,40,50,60]:List Int).map cI)]) (by decide) zhe ztg rfl ?_
 refine za1 (v:=.agg [.i 3,.i 4,.i 10,.i 2,.i 30,.i 100,.i 1,.sl (.id (g+1+0)) 1 (([0,10,40,50,60]:List Int).map cI)]) (ns:=[.i 3,.i 4,.i 10,.i 2,.i 30,.i 100,.i 1,.sl (.id (g+1+0)) 1 (([0,10,40,50,60]:List Int).map cI)]) (L':=[(g+1+0,.row 3 5),(g+0,.cells [.i 3,.i 4,.i 10,.i 2,.i 30,.i 100,.i 1,.sl (.id (g+1+0)) 1 (([0,10,40,50,60]:List Int).map cI)])]) 1 hS rfl rfl .no rfl rfl zi1 nlb rfl fun H hS=>?_
 refine Ni ?_
 refine zdz [(0,.ptr (g+0) 0)] (.k .nil) ?_
 refine zaA ?_
 refine zaJ (x:=.agg [.i 3,.i 4,.i 10,.i 2,.i 30,.i 100,.i 1,.sl (.id (g+1+0)) 1 (([0,10,40,50,60]:List Int).map cI)]) (f:=fun r=>.agg [.i r.Letters,.i r.Numbers,.i r.Pitch,.i r.Slack,.i r.Gap,.i r.Pause,.i r.Sparks,.sl .no 1 (r.Times.map cI)]) (.inr rfl) ?_ (.aggL (.k (.k (.k (.k (.k (.k (.k (.cons (.sl _ _ _) .nil))))))))) (Option.some.inj hM) hS
 exact (zao (zeM (x:=.agg [.i 3,.i 4,.i 10,.i 2,.i 30,.i 100,.i 1,.sl (.id (g+1+0)) 1 (([0,10,40,50,60]:List Int).map cI)]) 1 hS rfl rfl (pg za0)))
theorem zcX {a0:Int} {a1:Int} {a2:Int} {r:Bool} (hM:zck a0 a1 a2=some r):zav Try.prog 60 [.i a0,.i a1,.i a2] (.b r):=by
 refine zaj mixed Try.func60 rfl (by decide) Try.ntmps60 (by simp) ?pure fun H0 g hf=>?_
 case pure=>exact .v _
 rw [zah]
 change wpA _ _ _ _ (Fr.of [(0,.i a0),(1,.i a1),(2,.i a2)]) H0 g
 have hS:=St.start hf
 refine Sq ?_
 refine Rg 1 ?_
 refine Oa (.b false) ?_
 refine Ni ?_
 refine Ws ?_
 refine zaC (J:=Bool) (fun j=>[(6,.b j)]) (fun j H' g'=>St (·<g) H0 [] H' g'/\zdL j=some r) ?_ ?_
 ·rintro v1 H g1 ⟨hS,hM⟩
  change wpA _ _ _ _ (Fr.of [(6,.b v1)]) _ _
  replace hS:St (·<g) H0 [] H g1:=hS
  replace hM:zdL v1=some r:=hM
  refine zaA ?_
  refine zaJ (x:=.b v1) (f:=fun r=>.b r) (.inr rfl) ?_ (.refl _) (Option.some.inj hM) hS
  exact (zao (zac (x:=.b v1) rfl))
 ·refine Rg 9 ?_
  refine Om (.i a1) ?_
  refine Om (.i a0) ?_
  refine Oi (.b (decide (a1<=a0))) ?_
  refine Om (.b (decide (a1<=a0))) ?_
  rcases bft (decide (a1<=a0)) with hb2 | hb2
  ·replace hM:=ifT hM hb2
   refine Oy (want:=true) hb2 ?_
   refine Om (.i a0) ?_
   refine Oy (want:=true) hb2 ?_
   refine Om (.i a2) ?_
   refine Oy (want:=true) hb2 ?_
   refine Oi (.b (decide (a0<=a2))) ?_
   refine Pt (.b (decide (a0<=a2))) hb2 ?_
   refine Oa (.b (decide (a0<=a2))) ?_
   refine Ni ?_
   exact zag (decide (a0<=a2)) (.k .nil) ⟨(hS.keep [] rfl).up (by omega),hM⟩
  ·replace hM:=ifF hM hb2
   refine On (want:=true) hb2 ?_
   refine On (want:=true) hb2 ?_
   refine On (want:=true) hb2 ?_
   refine Pf (.b false) hb2 ?_
   refine Oa (.b false) ?_
   refine Ni ?_
   exact zag false (.k .nil) ⟨(hS.keep [] rfl).up (by omega),hM⟩
theorem ziy {n:Nat} {a0:Pulse} {r:Int} (hM:zfU n a0=some r):zav Try.prog 36 [.agg (Pulse.cells a0)] (.i r):=by
 refine zaj mixed Try.func36 rfl (by decide) Try.ntmps36 (by simp) ?pure fun H0 g hf=>?_
 case pure=>exact .v _
 rw [zah]
 change wpA _ _ _ _ (Fr.of [(0,.agg (Pulse.cells a0))]) H0 g
 have hS:=St.start hf
 refine Sq ?_
 refine Rg 2 ?_
 refine zbX (v:=.agg (Pulse.cells a0)) (cs:=(Pulse.cells a0)) hS (by decide) rfl rfl (by omega) fun H hS=>?_
 refine Oa (.i 0) ?_
 refine Ni ?_
 refine zaZ (L':=[]) 0 1 hS rfl rfl rfl fun H hS=>?_
 refine Ws ?_
 refine zaC (J:=Unit) (fun j=>[(1,.ep (Pulse.cells a0))]) (fun j H' g'=>St (·<g) H0 [] H' g'/\zgx n a0=some r) ?_ ?_
 ·rintro _ H g1 ⟨hS,hM⟩
  change wpA _ _ _ _ (Fr.of [(1,.ep (Pulse.cells a0))]) _ _
  replace hS:St (·<g) H0 [] H g1:=hS
  replace hM:zgx n a0=some r:=hM
  refine zaC (J:=Unit) (fun j=>[]) (fun j H' g'=>St (·<g) H0 [] H' g'/\ze0=some r) ?_ ?_
  ·rintro _ H g2 ⟨hS,hM⟩
   change wpA _ _ _ _ (Fr.of []) _ _
   replace hS:St (·<g) H0 [] H g2:=hS
   replace hM:ze0=some r:=hM
   refine Sq ?_
   refine Rg 1 ?_
   refine Oa (.i 0) ?_
   refine Ni ?_
   refine Ws ?_
   refine zaA ?_
   refine zaJ (x:=.i 0) (f:=fun r=>.i r) (.inr rfl) ?_ (.refl _) (Option.some.inj hM) hS
   exact (zao (zac (x:=.i 0) rfl))
  ·refine Sq ?_
   refine Rg 4 ?_
   refine Of ((Pulse.cells a0)) zcV ?_
   refine Olp (.sl .no 1 (a0.Times.map cI)) za6 zbx ?_
   refine zcj (n:=a0.Times.length) (by decide) rfl (List.length_map _) za9 ?_
   refine Om (.i 0) ?_
   refine Ni ?_
   refine Ws ?_
   refine zaq ?_
   refine zbr (V:=Int) (fun v=>[(1,.ep (Pulse.cells a0)),(58,.sl .no 1 (a0.Times.map cI)),(59,.i (a0.Times.length:Int)),(60,.i v)]) (fun v m3 H' g'=>St (·<g) H0 [] H' g'/\zb5 a0 m3 v=some r) (n:=n) 0 (.k (.k (.k (.k .nil)))) ⟨(hS.keep [] rfl).up (by omega),hM⟩ ?_
   rintro v1 m3 H g3 ⟨hS,hM⟩
   obtain _ | m3:=m3
   ·exact nomatch (show none=some _ from hM)
   change wpA _ _ _ _ (Fr.of [(1,.ep (Pulse.cells a0)),(58,.sl .no 1 (a0.Times.map cI)),(59,.i (a0.Times.length:Int)),(60,.i v1)]) _ _
   replace hS:St (·<g) H0 [] H g3:=hS
   replace hM:zer a0 (zb5 a0 m3) v1=some r:=hM
   refine Sq ?_
   refine Rg 1 ?_
   refine Oi (.b (decide (v1<(a0.Times.length:Int)))) ?_
   refine Ni ?_
   refine Ws ?_
   refine Sq ?_
   rcases bft (decide (v1<(a0.Times.length:Int))) with hb2 | hb2
   ·replace hM:=ifT hM hb2
    refine Ct hb2 ?_
    refine zar ?_
    refine Ws ?_
    refine Sq ?_
    refine zaq ?_
    refine Sq ?_
    refine Rg 5 ?_
    refine Om (.i v1) ?_
    obtain ⟨x3,hx3,hM⟩:=zai hM
    refine zaU (xs:=a0.Times) (f:=cI) (z:=v1) (u:=x3) (by decide) rfl rfl zaR hx3 ?_
    refine Olp (.i x3) zab zaf ?_
    refine Oa (.i v1) ?_
    refine Oa (.i x3) ?_
    refine Ni ?_
    refine Ws ?_
    refine zaC (J:=Bool) (fun j=>[(1,.ep (Pulse.cells a0)),(58,.sl .no 1 (a0.Times.map cI)),(59,.i (a0.Times.length:Int)),(60,.i v1),(81,.b j)]) (fun j H' g'=>St (·<g) H0 [] H' g'/\zcs (zb5 a0 m3) v1 j=some r) ?_ ?_
    ·rintro v4 H g4 ⟨hS,hM⟩
     change wpA _ _ _ _ (Fr.of [(1,.ep (Pulse.cells a0)),(58,.sl .no 1 (a0.Times.map cI)),(59,.i (a0.Times.length:Int)),(60,.i v1),(81,.b v4)]) _ _
     replace hS:St (·<g) H0 [] H g4:=hS
     replace hM:zcs (zb5 a0 m3) v1 v4=some r:=hM
     rcases bft v4 with hb5 | hb5
     ·replace hM:=ifT hM hb5
      refine Ct hb5 ?_
      refine Sq ?_
      refine Rg 1 ?_
      refine Oa (.i 130) ?_
      refine Ni ?_
      refine Ws ?_
      refine zaA ?_
      refine zas ?_
      refine zam ?_
      refine zaL ?_
      refine zas ?_
      refine zaI ?_
      refine zaJ (x:=.i 130) (f:=fun r=>.i r) (.inr rfl) ?_ (.refl _) (Option.some.inj hM) hS
      exact (zao (zac (x:=.i 130) rfl))
     ·replace hM:=ifF hM hb5
      refine Cf hb5 ?_
      refine zar ?_
      refine zae ?_
      refine Ws ?_
      refine Rg 2 ?_
      refine Oi (.i (w64 (v1+1))) ?_
      refine Om (.i (w64 (v1+1))) ?_
      refine Ni ?_
      exact zaW (w64 (v1+1)) (Nat.lt_succ_self _) (.k (.k (.k (.k .nil)))) ⟨(hS.keep [] rfl).up (by omega),hM⟩
    ·refine Rg 17 ?_
     refine Om (.i x3) ?_
     obtain ⟨r6,hr6,hM⟩:=zai hM
     refine zau (bs:=[.i x3,.i 0,.i 99999]) (by decide) rfl rfl ((zcX hr6).le (.k (.k (.k .nil)))) ?_
     refine zd7 (e:=r6) (by decide) rfl ?_
     refine Om (.b (!r6)) ?_
     rcases bft (!r6) with hb7 | hb7
     ·replace hM:=ifT hM hb7
      refine On (want:=false) hb7 ?_
      refine On (want:=false) hb7 ?_
      refine On (want:=false) hb7 ?_
      refine zak (j:=6) (by decide) rfl ?_
      refine zak (j:=6) (by decide) rfl ?_
      refine zak (j:=6) (by decide) rfl ?_
      refine zak (j:=6) (by decide) rfl ?_
      refine zak (j:=6) (by decide) rfl ?_
      refine zak (j:=6) (by decide) rfl ?_
      refine zak (j:=6) (by decide) rfl ?_
      refine zak (j:=6) (by decide) rfl ?_
      refine On (want:=false) hb7 ?_
      refine Pt (.b true) hb7 ?_
      refine Ni ?_
      exact zag true (.k (.k (.k (.k (.k .nil))))) ⟨(hS.keep [] rfl).up (by omega),hM⟩
     ·replace hM:=ifF hM hb7
      refine Oy (want:=false) hb7 ?_
      refine Om (.i v1) ?_
      refine Oy (want:=false) hb7 ?_
      refine Oi (.b (decide (v1>0))) ?_
      refine Oy (want:=false) hb7 ?_
      refine Om (.b (decide (v1>0))) ?_
      rcases bft (decide (v1>0)) with hb8 | hb8
      ·replace hM:=ifT hM hb8
       refine Oy (want:=true) hb8 ?_
       refine Om (.i x3) ?_
       refine Oy (want:=true) hb8 ?_
       refine Of ((Pulse.cells a0)) zcV ?_
       refine Oy (want:=true) hb8 ?_
       refine Olp (.sl .no 1 (a0.Times.map cI)) za6 zbx ?_
       refine Oy (want:=true) hb8 ?_
       refine Om (.i v1) ?_
       refine Oy (want:=true) hb8 ?_
       refine Oi (.i (w64 (v1-1))) ?_
       refine Oy (want:=true) hb8 ?_
       obtain ⟨x9,hx9,hM⟩:=zai hM
       refine zaU (xs:=a0.Times) (f:=cI) (z:=(w64 (v1-1))) (u:=x9) (by decide) rfl rfl zaR hx9 ?_
       refine Oy (want:=true) hb8 ?_
       refine Olp (.i x9) zab zaf ?_
       refine Oy (want:=true) hb8 ?_
       refine Oi (.b (decide (x3<=x9))) ?_
       refine Oy (want:=false) hb7 ?_
       refine Pt (.b (decide (x3<=x9))) hb8 ?_
       refine Pf (.b (decide (x3<=x9))) hb7 ?_
       refine Ni ?_
       exact zag (decide (x3<=x9)) (.k (.k (.k (.k (.k .nil))))) ⟨(hS.keep [] rfl).up (by omega),hM⟩
      ·replace hM:=ifF hM hb8
       refine On (want:=true) hb8 ?_
       refine On (want:=true) hb8 ?_
       refine On (want:=true) hb8 ?_
       refine On (want:=true) hb8 ?_
       refine On (want:=true) hb8 ?_
       refine On (want:=true) hb8 ?_
       refine On (want:=true) hb8 ?_
       refine On (want:=true) hb8 ?_
       refine Oy (want:=false) hb7 ?_
       refine Pf (.b false) hb8 ?_
       refine Pf (.b false) hb7 ?_
       refine Ni ?_
       exact zag false (.k (.k (.k (.k (.k .nil))))) ⟨(hS.keep [] rfl).up (by omega),hM⟩
   ·replace hM:=ifF hM hb2
    refine Cf hb2 ?_
    refine zbl ?_
    refine zap ?_
    refine zan ?_
    refine zat ?_
    exact zag () .nil ⟨(hS.keep [] rfl).up (by omega),hM⟩
 ·refine Sq ?_
  refine Rg 39 ?_
  refine Of ((Pulse.cells a0)) zfo ?_
  refine Olp (.i a0.Letters) zab zaf ?_
  refine zbD (cs:=[.i a0.Letters,.i 1,.i 5]) (by decide) zeA zg2 rfl ?_
  refine Of ((Pulse.cells a0)) zcu ?_
  refine Olp (.i a0.Numbers) zab zaf ?_
  refine zbD (cs:=[.i a0.Numbers,.i 1,.i 5]) (by decide) zeA zg2 rfl ?_
  refine Of ((Pulse.cells a0)) zdw ?_
  refine Olp (.i a0.Pitch) zab zaf ?_
  refine zbD (cs:=[.i a0.Pitch,.i 1,.i 99]) (by decide) zeA zg2 rfl ?_
  refine Of ((Pulse.cells a0)) zeJ ?_
  refine Olp (.i a0.Slack) zab zaf ?_
  refine Of ((Pulse.cells a0)) zdw ?_
  refine Olp (.i a0.Pitch) zab zaf ?_
  refine Oi (.i (w64 (a0.Pitch-1))) ?_
  refine zbD (cs:=[.i a0.Slack,.i 0,.i (w64 (a0.Pitch-1))]) (by decide) zeA zg2 rfl ?_
  refine Of ((Pulse.cells a0)) zgK ?_
  refine Olp (.i a0.Gap) zab zaf ?_
  refine Of ((Pulse.cells a0)) zdw ?_
  refine Olp (.i a0.Pitch) zab zaf ?_
  refine Of ((Pulse.cells a0)) zeJ ?_
  refine Olp (.i a0.Slack) zab zaf ?_
  refine Oi (.i (w64 (a0.Pitch+a0.Slack))) ?_
  refine Oi (.i (w64 ((w64 (a0.Pitch+a0.Slack))+1))) ?_
  refine Of ((Pulse.cells a0)) zeK ?_
  refine Olp (.i a0.Pause) zab zaf ?_
  refine Oi (.i (w64 (a0.Pause-1))) ?_
  refine zbD (cs:=[.i a0.Gap,.i (w64 ((w64 (a0.Pitch+a0.Slack))+1)),.i (w64 (a0.Pause-1))]) (by decide) zeA zg2 rfl ?_
  refine Of ((Pulse.cells a0)) zeK ?_
  refine Olp (.i a0.Pause) zab zaf ?_
  refine zbD (cs:=[.i a0.Pause,.i 0,.i 999]) (by decide) zeA zg2 rfl ?_
  refine Of ((Pulse.cells a0)) zgL ?_
  refine Olp (.i a0.Sparks) zab zaf ?_
  refine zbD (cs:=[.i a0.Sparks,.i 0,.i 3]) (by decide) zeA zg2 rfl ?_
  refine Of ((Pulse.cells a0)) zcV ?_
  refine Olp (.sl .no 1 (a0.Times.map cI)) za6 zbx ?_
  refine zcj (n:=a0.Times.length) (by decide) rfl (List.length_map _) za9 ?_
  refine zbD (cs:=[.i (a0.Times.length:Int),.i 0,.i 24]) (by decide) zeA zg2 rfl ?_
  refine zbD (cs:=[.i a0.Letters,.i 1,.i 5,.i a0.Numbers,.i 1,.i 5,.i a0.Pitch,.i 1,.i 99,.i a0.Slack,.i 0,.i (w64 (a0.Pitch-1)),.i a0.Gap,.i (w64 ((w64 (a0.Pitch+a0.Slack))+1)),.i (w64 (a0.Pause-1)),.i a0.Pause,.i 0,.i 999,.i a0.Sparks,.i 0,.i 3,.i (a0.Times.length:Int),.i 0,.i 24]) (by decide) zpk zr0 rfl ?_
  refine Om (.i 0) ?_
  refine Ni ?_
  refine Ws ?_
  refine zaq ?_
  refine zbr (V:=Int) (fun v=>[(1,.ep (Pulse.cells a0)),(44,.agg [.i a0.Letters,.i 1,.i 5,.i a0.Numbers,.i 1,.i 5,.i a0.Pitch,.i 1,.i 99,.i a0.Slack,.i 0,.i (w64 (a0.Pitch-1)),.i a0.Gap,.i (w64 ((w64 (a0.Pitch+a0.Slack))+1)),.i (w64 (a0.Pause-1)),.i a0.Pause,.i 0,.i 999,.i a0.Sparks,.i 0,.i 3,.i (a0.Times.length:Int),.i 0,.i 24]),(45,.i v)]) (fun v m5 H' g'=>St (·<g) H0 [] H' g'/\zbv n a0 m5 v=some r) (n:=n) 0 (.k (.k (.k .nil))) ⟨(hS.keep [] rfl).up (by omega),hM⟩ ?_
  rintro v10 m5 H g5 ⟨hS,hM⟩
  obtain _ | m5:=m5
  ·exact nomatch (show none=some _ from hM)
  change wpA _ _ _ _ (Fr.of [(1,.ep (Pulse.cells a0)),(44,.agg [.i a0.Letters,.i 1,.i 5,.i a0.Numbers,.i 1,.i 5,.i a0.Pitch,.i 1,.i 99,.i a0.Slack,.i 0,.i (w64 (a0.Pitch-1)),.i a0.Gap,.i (w64 ((w64 (a0.Pitch+a0.Slack))+1)),.i (w64 (a0.Pause-1)),.i a0.Pause,.i 0,.i 999,.i a0.Sparks,.i 0,.i 3,.i (a0.Times.length:Int),.i 0,.i 24]),(45,.i v10)]) _ _
  replace hS:St (·<g) H0 [] H g5:=hS
  replace hM:zes n a0 (zbv n a0 m5) v10=some r:=hM
  refine Sq ?_
  refine Rg 1 ?_
  refine Oi (.b (decide (v10<8))) ?_
  refine Ni ?_
  refine Ws ?_
  refine Sq ?_
  rcases bft (decide (v10<8)) with hb11 | hb11
  ·replace hM:=ifT hM hb11
   refine Ct hb11 ?_
   refine zar ?_
   refine Ws ?_
   refine Sq ?_
   refine zaq ?_
   refine Sq ?_
   refine Rg 3 ?_
   obtain ⟨x12,hx12,hM⟩:=zai hM
   refine zrO (xs:=([(⟨a0.Letters,1,5⟩:An103),(⟨a0.Numbers,1,5⟩:An103),(⟨a0.Pitch,1,99⟩:An103),(⟨a0.Slack,0,w64 (a0.Pitch-1)⟩:An103),(⟨a0.Gap,w64 ((w64 (a0.Pitch+a0.Slack))+1),w64 (a0.Pause-1)⟩:An103),(⟨a0.Pause,0,999⟩:An103),(⟨a0.Sparks,0,3⟩:An103),(⟨(a0.Times.length:Int),0,24⟩:An103)]:List An103)) (f:=An103.cells) (z:=v10) (u:=x12) (by decide) rfl rfl zqI rfl zqG (fun _=>rfl) hx12 ?_
   refine zcp hS (by decide) zeA (by omega) fun H hS=>?_
   refine za1 (v:=.agg (An103.cells x12)) (ns:=(An103.cells x12)) (L':=[(g5+1+1,.cells (An103.cells x12))]) 0 hS rfl rfl .no rfl rfl zqH nlb rfl fun H hS=>?_
   refine Ni ?_
   refine zaZ (L':=[]) 0 4 hS rfl rfl rfl fun H hS=>?_
   refine Ws ?_
   refine Sq ?_
   refine Rg 8 ?_
   refine Of ((An103.cells x12)) zpn ?_
   refine Olp (.i x12.n) zab zaf ?_
   refine Of ((An103.cells x12)) zpo ?_
   refine Olp (.i x12.low) zab zaf ?_
   refine Of ((An103.cells x12)) zpp ?_
   refine Olp (.i x12.high) zab zaf ?_
   obtain ⟨r13,hr13,hM⟩:=zai hM
   refine zau (bs:=(An103.cells x12)) (by decide) rfl rfl ((zcX hr13).le (.k (.k (.k .nil)))) ?_
   refine zd7 (e:=r13) (by decide) rfl ?_
   refine Ni ?_
   refine Ws ?_
   rcases bft (!r13) with hb14 | hb14
   ·replace hM:=ifT hM hb14
    refine Ct hb14 ?_
    refine Sq ?_
    refine Rg 1 ?_
    refine Oa (.i 130) ?_
    refine Ni ?_
    refine Ws ?_
    refine zaA ?_
    refine zas ?_
    refine zam ?_
    refine zaL ?_
    refine zas ?_
    refine zaI ?_
    refine zaJ (x:=.i 130) (f:=fun r=>.i r) (.inr rfl) ?_ (.refl _) (Option.some.inj hM) hS
    exact (zao (zac (x:=.i 130) rfl))
   ·replace hM:=ifF hM hb14
    refine Cf hb14 ?_
    refine zar ?_
    refine zae ?_
    refine Ws ?_
    refine Rg 2 ?_
    refine Oi (.i (w64 (v10+1))) ?_
    refine Om (.i (w64 (v10+1))) ?_
    refine Ni ?_
    exact zaW (w64 (v10+1)) (Nat.lt_succ_self _) (.k (.k (.k .nil))) ⟨(hS.keep [] rfl).up (by omega),hM⟩
  ·replace hM:=ifF hM hb11
   refine Cf hb11 ?_
   refine zbl ?_
   refine zap ?_
   refine zan ?_
   refine zat ?_
   exact zag () (.k .nil) ⟨(hS.keep [] rfl).up (by omega),hM⟩
theorem zib {S:Type} {Lo:S->BL} (hk:∀s s',zhi (Lo s) (Lo s')) (hnd:∀s,(ids (Lo s)).Nodup) (hin:∀s,InB In (Lo s)) {aF:Int->S->Option (Bool×S)} {f0:AV} (hF:∀s H,Has H (Lo s)->In H f0) (h0:cellsOf f0=some [f0]) (hf:∀{x0:Int} {s:S} {r:Bool×S},aF x0 s=some r->zkh Try.prog f0 [.v (.int .u64 x0)] (Lo s) (.b r.1) (Lo r.2)) {n:Nat} {rec:Train_->Int->Int->Int->S->Option (Bool×S)} (hrec:∀{a0:Train_} {a1:Int} {a2:Int} {a3:Int} {st:S} {r:Bool×S},rec a0 a1 a2 a3 st=some r->zhD Try.prog 63 [.agg (Train_.cells a0),.v (.int .u64 a1),.i a2,.i a3,f0] (Lo st) (.b r.1) (Lo r.2)) {a0:Train_} {a1:Int} {a2:Int} {a3:Int} {st:S} {r:Bool×S} (hM:zdC n rec aF a0 a1 a2 a3 st=some r):zhD Try.prog 63 [.agg (Train_.cells a0),.v (.int .u64 a1),.i a2,.i a3,f0] (Lo st) (.b r.1) (Lo r.2):=by
 have hnd0:∀s,(ids (Lo s)).Nodup:=fun s=>hnd s
 refine zbk mixed Try.func63 rfl (by decide) Try.ntmps63 (by simp) (hk _ _) (hnd st) ?pure ?cells fun H0 g hf_ hp=>?_
 case pure=>exact fun H _=>(show Go.AM.Pure _ from .v _).inH
 case cells=>exact hin _
 rw [zah]
 change wpA _ _ _ _ (Fr.of [(0,.agg (Train_.cells a0)),(1,.v (.int .u64 a1)),(2,.i a2),(3,.i a3),(4,f0)]) H0 g
 have hS:=St.startH (L:=([]++Lo st)) hf_ (hnd st) hp
 replace hS:St (fun i=>i<g/\i∉ids (Lo st)) H0 ([]++Lo st) H0 g:=hS
 refine Sq ?_
 refine Rg 2 ?_
 refine zbX (v:=.agg (Train_.cells a0)) (cs:=(Train_.cells a0)) hS (by decide) rfl rfl (by omega) fun H hS=>?_
 refine Oa (.b false) ?_
 refine Ni ?_
 refine zaZ (L':=([]++Lo st)) 0 5 hS rfl rfl rfl fun H hS=>?_
 refine Ws ?_
 refine Sq ?_
 refine Sq ?_
 refine Rg 2 ?_
 refine Om (.i a3) ?_
 refine Oi (.b (a3==0)) ?_
 refine Ni ?_
 refine Ws ?_
 rcases bft (a3==0) with hb1 | hb1
 ·replace hM:=ifT hM hb1
  refine Ct hb1 ?_
  refine Sq ?_
  refine Rg 4 ?_
  refine Om (f0) ?_
  refine Om (.v (.int .u64 a1)) ?_
  obtain ⟨r2,hr2,hM⟩:=zai hM
  replace hS:St (fun i=>i<g/\i∉ids (Lo st)) H0 ([]++Lo st) _ _:=hS
  refine zhZ (bs:=[.v (.int .u64 a1)]) (.inl rfl) hS (by decide) rfl rfl ((hf hr2).le (.k .nil)) (hk _ _).ids (by omega) fun H hS=>?_
  refine Oa (.b r2.1) ?_
  refine Ni ?_
  refine Ws ?_
  refine zaA ?_
  refine zam ?_
  refine zc2 (x:=.b r2.1) (f:=fun r=>.b r.1) (fd:=fun r=>(Lo r.2)) (.inr rfl) ?_ (.refl _) (Option.some.inj hM) hS 0 rfl
  exact (zao (zac (x:=.b r2.1) rfl))
 ·replace hM:=ifF hM hb1
  refine Cf hb1 ?_
  refine zar ?_
  refine Ws ?_
  refine zaC (J:=S) (fun j=>[]) (fun j H' g'=>St (fun i=>i<g/\i∉ids (Lo st)) H0 ([]++Lo j) H' g'/\zdn j=some r) ?_ ?_
  ·rintro v3 H g1 ⟨hS,hM⟩
   change wpA _ _ _ _ (Fr.of []) _ _
   replace hS:St (fun i=>i<g/\i∉ids (Lo st)) H0 ([]++Lo v3) H g1:=hS
   replace hM:zdn v3=some r:=hM
   refine Sq ?_
   refine Rg 1 ?_
   refine Oa (.b true) ?_
   refine Ni ?_
   refine Ws ?_
   refine zaA ?_
   refine zc2 (x:=.b true) (f:=fun r=>.b r.1) (fd:=fun r=>(Lo r.2)) (.inr rfl) ?_ (.refl _) (Option.some.inj hM) hS 0 rfl
   exact (zao (zac (x:=.b true) rfl))
  ·refine Sq ?_
   refine Rg 2 ?_
   refine Om (.i a2) ?_
   refine Oa (.i a2) ?_
   refine Ni ?_
   refine Ws ?_
   refine zaq ?_
   refine zbr (V:=Int×S) (fun v=>[(1,.v (.int .u64 a1)),(3,.i a3),(4,f0),(5,.ep (Train_.cells a0)),(11,.i v.1)]) (fun v m3 H' g'=>St (fun i=>i<g/\i∉ids (Lo st)) H0 ([]++Lo v.2) H' g'/\zbE rec a0 a1 a3 m3 v.1 v.2=some r) (n:=n) (a2,st) (.k (.k (.k (.k (.k .nil))))) ⟨(hS.keep [] rfl).up (by omega),hM⟩ ?_
   rintro ⟨v5,v6⟩ m3 H g3 ⟨hS,hM⟩
   obtain _ | m3:=m3
   ·exact nomatch (show none=some _ from hM)
   change wpA _ _ _ _ (Fr.of [(1,.v (.int .u64 a1)),(3,.i a3),(4,f0),(5,.ep (Train_.cells a0)),(11,.i v5)]) _ _
   replace hS:St (fun i=>i<g/\i∉ids (Lo st)) H0 ([]++Lo v6) H g3:=hS
   replace hM:zcY rec a0 a1 a3 (zbE rec a0 a1 a3 m3) v5 v6=some r:=hM
   refine Sq ?_
   refine Sq ?_
   refine Rg 6 ?_
   refine Om (.i v5) ?_
   refine Of ((Train_.cells a0)) zcW ?_
   refine Of ((Train_.cells a0)) zcV ?_
   refine Olp (.sl .no 1 (a0.Pulse.Times.map cI)) za6 zbx ?_
   refine zcj (n:=a0.Pulse.Times.length) (by decide) rfl (List.length_map _) za9 ?_
   refine Oi (.b (decide (v5<(a0.Pulse.Times.length:Int)))) ?_
   refine Ni ?_
   refine Ws ?_
   rcases bft (decide (v5<(a0.Pulse.Times.length:Int))) with hb7 | hb7
   ·replace hM:=ifT hM hb7
    refine Ct hb7 ?_
    refine zar ?_
    refine Ws ?_
    refine Sq ?_
    refine zaq ?_
    refine Sq ?_
    have hS0:=hS
    refine zd1 (n:=12) rfl (by kernel_rfl) ?_
    refine Olg (.agg (Train_.cells a0)) zgp ?_
    refine Om (.v (.int .u64 a1)) ?_
    refine Om (.i v5) ?_
    obtain ⟨q8,hq8,hM⟩:=zai hM
    refine zp7 (by decide) rfl rfl (zs0 hq8) ?_
    refine Oi (.v (.int .u64 (ztZ a1 q8))) ?_
    refine Om (.i v5) ?_
    refine Oi (.i (w64 (v5+1))) ?_
    refine Om (.i a3) ?_
    refine Oi (.i (w64 (a3-1))) ?_
    refine Om (f0) ?_
    obtain ⟨r9,hr9,hM⟩:=zai hM
    replace hS:St (fun i=>i<g/\i∉ids (Lo st)) H0 ([]++Lo v6) _ _:=hS
    refine ziW (bs:=[.agg (Train_.cells a0),.v (.int .u64 (ztZ a1 q8)),.i (w64 (v5+1)),.i (w64 (a3-1)),f0]) (.inr (by kernel_rfl)) hS (by decide) rfl rfl ((hrec hr9).le (.k (.k (.k (.k (.k .nil)))))) (hk _ _).ids (by omega) fun H hS=>?_
    refine zd7 (e:=r9.1) (by decide) rfl ?_
    refine Ni ?_
    refine Ws ?_
    rcases bft (!r9.1) with hb10 | hb10
    ·replace hM:=ifT hM hb10
     refine Ct hb10 ?_
     refine Sq ?_
     refine Rg 1 ?_
     refine Oa (.b false) ?_
     refine Ni ?_
     refine Ws ?_
     refine zaA ?_
     refine zas ?_
     refine zam ?_
     refine zaL ?_
     refine zas ?_
     refine zaI ?_
     refine zc2 (x:=.b false) (f:=fun r=>.b r.1) (fd:=fun r=>(Lo r.2)) (.inr rfl) ?_ (.refl _) (Option.some.inj hM) hS 0 rfl
     exact (zao (zac (x:=.b false) rfl))
    ·replace hM:=ifF hM hb10
     refine Cf hb10 ?_
     refine zar ?_
     refine zae ?_
     refine Ws ?_
     refine Rg 3 ?_
     refine Om (.i v5) ?_
     refine Oi (.i (w64 (v5+1))) ?_
     refine Oa (.i (w64 (v5+1))) ?_
     refine Ni ?_
     exact zaW (w64 (v5+1),r9.2) (Nat.lt_succ_self _) (.k (.k (.k (.k (.k .nil))))) ⟨(hS.keep [] rfl).up (by omega),hM⟩
   ·replace hM:=ifF hM hb7
    refine Cf hb7 ?_
    refine zbl ?_
    refine zap ?_
    refine zan ?_
    refine zat ?_
    exact zag v6 .nil ⟨(hS.keep [] rfl).up (by omega),hM⟩
theorem zgN {S:Type} {Lo:S->BL} (hk:∀s s',zhi (Lo s) (Lo s')) (hnd:∀s,(ids (Lo s)).Nodup) (hin:∀s,InB In (Lo s)) {aF:Int->S->Option (Bool×S)} {f0:AV} (hF:∀s H,Has H (Lo s)->In H f0) (h0:cellsOf f0=some [f0]) (hf:∀{x0:Int} {s:S} {r:Bool×S},aF x0 s=some r->zkh Try.prog f0 [.v (.int .u64 x0)] (Lo s) (.b r.1) (Lo r.2)):∀{n:Nat} {a0:Train_} {a1:Int} {a2:Int} {a3:Int} {st:S} {r:Bool×S},zbB n aF a0 a1 a2 a3 st=some r->zhD Try.prog 63 [.agg (Train_.cells a0),.v (.int .u64 a1),.i a2,.i a3,f0] (Lo st) (.b r.1) (Lo r.2)
 | 0,_,_,_,_,_,_,h=>nomatch (show none=some _ from h)
 | n+1,_,_,_,_,_,_,h=>zib hk hnd hin hF h0 hf (n:=n) (rec:=zbB n aF) (fun h=>zgN hk hnd hin hF h0 hf h) h
theorem zjV {a0:Int} {a1:Int} {r:Bool} (hM:zfH a0 a1=some r):zav Try.prog 65 [.v (.int .u64 a0),.i a1] (.b r):=by
 refine zaj mixed Try.func65 rfl (by decide) Try.ntmps65 (by simp) ?pure fun H0 g hf=>?_
 case pure=>exact .v _
 rw [zah]
 change wpA _ _ _ _ (Fr.of [(0,.v (.int .u64 a0)),(1,.i a1)]) H0 g
 have hS:=St.start hf
 refine Sq ?_
 refine Rg 1 ?_
 refine Oa (.b false) ?_
 refine Ni ?_
 refine Ws ?_
 refine Sq ?_
 refine Rg 6 ?_
 refine Om (.v (.int .u64 a0)) ?_
 refine Om (.i a1) ?_
 obtain ⟨q1,hq1,hM⟩:=zai hM
 refine zp7 (by decide) rfl rfl (zs1 hq1) ?_
 refine Oi (.v (.int .u64 (zmU q1 1))) ?_
 refine Oi (.b ((zmU q1 1)==1)) ?_
 refine Oa (.b ((zmU q1 1)==1)) ?_
 refine Ni ?_
 refine Ws ?_
 refine zaA ?_
 refine zaJ (x:=.b ((zmU q1 1)==1)) (f:=fun r=>.b r) (.inr rfl) ?_ (.refl _) (Option.some.inj hM) hS
 exact (zao (zac (x:=.b ((zmU q1 1)==1)) rfl))
theorem zfu {p1 w1 p2 p3:Nat} (hnd:[p1,w1,p2,p3].Nodup) {a1:Groups_} {a2:Train_} {st:(List Int)} {r:Bool×(List Int)} (hM:zcC a1 a2 st=some r):zhD Try.prog 79 [.ptr p1 0,.ptr p2 0,.ptr p3 0] [(p1,.cells [.sl (.id w1) 1 (st.map cI)]),(w1,.row 3 st.length),(p2,.cells (Groups_.cells a1)),(p3,.cells (Train_.cells a2))] (.b r.1) [(p1,.cells [.sl (.id w1) 1 (r.2.map cI)]),(w1,.row 3 r.2.length),(p2,.cells (Groups_.cells a1)),(p3,.cells (Train_.cells a2))]:=by
 refine zbk mixed Try.func79 rfl (by decide) Try.ntmps79 (by simp) (zbP (zor (zbP (zbP zdJ)))) hnd ?pure ?cells fun H0 g hf_ hp=>?_
 case pure=>exact fun H _=>(show Go.AM.Pure _ from .v _).inH
 case cells=>exact (zfT (zb2 (zaw (.inl (.inr ⟨_,_,_,_,_,rfl,(List.mem_of_getElem? (i:=1) rfl),zaz (fun x=>(zad (.v _) zaG))⟩)) zed) (zqb (zb2 (zaw (.inl (.inl (.v _))) (zaw (.inl (.inl (.v _))) zed)) (zb2 (zaw (.inl (.inl (.v _))) (zaw (.inl (.inl (.v _))) (zaw (.inl (.inl (.v _))) (zaw (.inl (.inl (.v _))) (zaw (.inl (.inl (.v _))) (zaw (.inl (.inl (.v _))) (zaw (.inl (.inl (.v _))) (zaw (.inl (.inl (.sl _ _ (zaz (fun x=>(zad (.v _) zaG)))))) zed)))))))) zfS)))) zdi)
 rw [zah]
 change wpA _ _ _ _ (Fr.of [(0,.ptr p1 0),(1,.ptr p2 0),(2,.ptr p3 0)]) H0 g
 have hS:=St.startH (L:=[(p1,.cells [.sl (.id w1) 1 (st.map cI)]),(w1,.row 3 st.length),(p2,.cells (Groups_.cells a1)),(p3,.cells (Train_.cells a2))]) hf_ hnd hp
 replace hS:St (fun i=>i<g/\i∉ids [(p1,.cells [.sl (.id w1) 1 (st.map cI)]),(w1,.row 3 st.length),(p2,.cells (Groups_.cells a1)),(p3,.cells (Train_.cells a2))]) H0 [(p1,.cells [.sl (.id w1) 1 (st.map cI)]),(w1,.row 3 st.length),(p2,.cells (Groups_.cells a1)),(p3,.cells (Train_.cells a2))] H0 g:=hS
 refine Sq ?_
 refine Rg 1 ?_
 refine Oa (.b false) ?_
 refine Ni ?_
 refine Ws ?_
 refine Sq ?_
 refine Rg 15 ?_
 refine za3 (v:=.sl (.id w1) 1 (st.map cI)) 0 hS (by decide) rfl rfl .no (po za6 zbx) ?_
 refine zaO (by decide) zio rfl ?_
 refine za3 (v:=.i a1.letter) 2 hS (by decide) rfl rfl .no (po zab zaf) ?_
 refine Oi (.i (w64 (a1.letter-1))) ?_
 refine zaO (by decide) zcW rfl ?_
 refine zaO (by decide) zcu rfl ?_
 refine za3 (v:=.i a2.Pulse.Numbers) 3 hS (by decide) rfl rfl .no (po zab zaf) ?_
 refine Oi (.i (w64 ((w64 (a1.letter-1))*a2.Pulse.Numbers))) ?_
 refine zaO (by decide) zfB rfl ?_
 refine za3 (v:=.i a1.number) 2 hS (by decide) rfl rfl .no (po zab zaf) ?_
 refine Oi (.i (w64 ((w64 ((w64 (a1.letter-1))*a2.Pulse.Numbers))+a1.number))) ?_
 refine Oi (.i (w64 ((w64 ((w64 ((w64 (a1.letter-1))*a2.Pulse.Numbers))+a1.number))-1))) ?_
 refine zaK (es:=[[.i (w64 ((w64 ((w64 ((w64 (a1.letter-1))*a2.Pulse.Numbers))+a1.number))-1))]]) hS (by decide) zaR zcT rfl zcU rfl (by decide) (by omega) fun H hS=>?_
 obtain ⟨l1,hl1,hM⟩:=zai hM
 refine zcv (xs:=st) (ys:=([w64 ((w64 ((w64 ((w64 (a1.letter-1))*a2.Pulse.Numbers))+a1.number))-1)]:List Int)) (zs:=l1) (f:=cI) (L':=[(g+1+12,.row 3 1),(p1,.cells [.sl (.id w1) 1 (st.map cI)]),(w1,.row 3 l1.length),(p2,.cells (Groups_.cells a1)),(p3,.cells (Train_.cells a2))]) 2 hS (by decide) rfl rfl rfl rfl .no zaR zcT zcU hl1 rfl fun H hS=>?_
 refine za1 (v:=.sl (.id w1) 1 (l1.map cI)) (ns:=[.sl (.id w1) 1 (l1.map cI)]) (L':=[(g+1+12,.row 3 1),(p1,.cells [.sl (.id w1) 1 (l1.map cI)]),(w1,.row 3 l1.length),(p2,.cells (Groups_.cells a1)),(p3,.cells (Train_.cells a2))]) 1 hS rfl rfl .no rfl rfl zg0 nlb rfl fun H hS=>?_
 refine Ni ?_
 replace hS:=hS.keep (L':=[(p1,.cells [.sl (.id w1) 1 (l1.map cI)]),(w1,.row 3 l1.length),(p2,.cells (Groups_.cells a1)),(p3,.cells (Train_.cells a2))]) [false,true,true,true,true] rfl
 refine Ws ?_
 refine zaC (J:=Bool) (fun j=>[(3,.b j)]) (fun j H' g'=>St (fun i=>i<g/\i∉ids [(p1,.cells [.sl (.id w1) 1 (st.map cI)]),(w1,.row 3 st.length),(p2,.cells (Groups_.cells a1)),(p3,.cells (Train_.cells a2))]) H0 [(p1,.cells [.sl (.id w1) 1 (l1.map cI)]),(w1,.row 3 l1.length),(p2,.cells (Groups_.cells a1)),(p3,.cells (Train_.cells a2))] H' g'/\zb6 l1 j=some r) ?_ ?_
 ·rintro v2 H g1 ⟨hS,hM⟩
  change wpA _ _ _ _ (Fr.of [(3,.b v2)]) _ _
  replace hS:St (fun i=>i<g/\i∉ids [(p1,.cells [.sl (.id w1) 1 (st.map cI)]),(w1,.row 3 st.length),(p2,.cells (Groups_.cells a1)),(p3,.cells (Train_.cells a2))]) H0 [(p1,.cells [.sl (.id w1) 1 (l1.map cI)]),(w1,.row 3 l1.length),(p2,.cells (Groups_.cells a1)),(p3,.cells (Train_.cells a2))] H g1:=hS
  replace hM:zb6 l1 v2=some r:=hM
  refine zaA ?_
  refine zc2 (x:=.b v2) (f:=fun r=>.b r.1) (fd:=fun r=>[(p1,.cells [.sl (.id w1) 1 (r.2.map cI)]),(w1,.row 3 r.2.length),(p2,.cells (Groups_.cells a1)),(p3,.cells (Train_.cells a2))]) (.inr rfl) ?_ (.refl _) (Option.some.inj hM) hS 0 rfl
  exact (zao (zac (x:=.b v2) rfl))
 ·refine Rg 15 ?_
  refine zaO (by decide) zio rfl ?_
  refine za3 (v:=.i a1.letter) 2 hS (by decide) rfl rfl .no (po zab zaf) ?_
  refine zaO (by decide) zcW rfl ?_
  refine zaO (by decide) zfo rfl ?_
  refine za3 (v:=.i a2.Pulse.Letters) 3 hS (by decide) rfl rfl .no (po zab zaf) ?_
  obtain ⟨r3,hr3,hM⟩:=zai hM
  refine zau (bs:=[.i a1.letter,.i 1,.i a2.Pulse.Letters]) (by decide) rfl rfl ((zcX hr3).le (.k (.k (.k .nil)))) ?_
  refine Om (.b r3) ?_
  rcases bft r3 with hb4 | hb4
  ·replace hM:=ifT hM hb4
   refine Oy (want:=true) hb4 ?_
   refine zaO (by decide) zfB rfl ?_
   refine Oy (want:=true) hb4 ?_
   refine za3 (v:=.i a1.number) 2 hS (by decide) rfl rfl .no (po zab zaf) ?_
   refine Oy (want:=true) hb4 ?_
   refine zaO (by decide) zcW rfl ?_
   refine Oy (want:=true) hb4 ?_
   refine zaO (by decide) zcu rfl ?_
   refine Oy (want:=true) hb4 ?_
   refine za3 (v:=.i a2.Pulse.Numbers) 3 hS (by decide) rfl rfl .no (po zab zaf) ?_
   refine Oy (want:=true) hb4 ?_
   obtain ⟨r5,hr5,hM⟩:=zai hM
   refine zau (bs:=[.i a1.number,.i 1,.i a2.Pulse.Numbers]) (by decide) rfl rfl ((zcX hr5).le (.k (.k (.k .nil)))) ?_
   refine Pt (.b r5) hb4 ?_
   refine Oa (.b r5) ?_
   refine Ni ?_
   exact zag r5 (.k .nil) ⟨(hS.keep [true,true,true,true] rfl).up (by omega),hM⟩
  ·replace hM:=ifF hM hb4
   refine On (want:=true) hb4 ?_
   refine On (want:=true) hb4 ?_
   refine On (want:=true) hb4 ?_
   refine On (want:=true) hb4 ?_
   refine On (want:=true) hb4 ?_
   refine On (want:=true) hb4 ?_
   refine Pf (.b false) hb4 ?_
   refine Oa (.b false) ?_
   refine Ni ?_
   exact zag false (.k .nil) ⟨(hS.keep [true,true,true,true] rfl).up (by omega),hM⟩
theorem ziJ {a0:Train_} {a1:Int} {r:Int} (hM:zet a0 a1=some r):zav Try.prog 80 [.agg (Train_.cells a0),.i a1] (.i r):=by
 refine zaj mixed Try.func80 rfl (by decide) Try.ntmps80 (by simp) ?pure fun H0 g hf=>?_
 case pure=>exact .v _
 rw [zah]
 change wpA _ _ _ _ (Fr.of [(0,.agg (Train_.cells a0)),(1,.i a1)]) H0 g
 have hS:=St.start hf
 refine Sq ?_
 refine Rg 2 ?_
 refine zbX (v:=.agg (Train_.cells a0)) (cs:=(Train_.cells a0)) hS (by decide) rfl rfl (by omega) fun H hS=>?_
 refine Oa (.i 0) ?_
 refine Ni ?_
 refine zaZ (L':=[]) 0 2 hS rfl rfl rfl fun H hS=>?_
 refine Ws ?_
 refine Sq ?_
 refine zaq ?_
 refine Sq ?_
 refine Rg 6 ?_
 refine Om (.i a1) ?_
 refine Of ((Train_.cells a0)) zcW ?_
 refine Of ((Train_.cells a0)) zeK ?_
 refine Olp (.i a0.Pulse.Pause) zab zaf ?_
 refine Oi (.b (decide (a1≥a0.Pulse.Pause))) ?_
 refine Oa (.b (decide (a1≥a0.Pulse.Pause))) ?_
 refine Ni ?_
 refine Ws ?_
 rcases bft (decide (a1≥a0.Pulse.Pause)) with hb1 | hb1
 ·replace hM:=ifT hM hb1
  refine Ct hb1 ?_
  refine Sq ?_
  refine Rg 1 ?_
  refine Oa (.i 3) ?_
  refine Ni ?_
  refine Ws ?_
  refine zaA ?_
  refine zas ?_
  refine zam ?_
  refine zaJ (x:=.i 3) (f:=fun r=>.i r) (.inr rfl) ?_ (.refl _) (Option.some.inj hM) hS
  exact (zao (zac (x:=.i 3) rfl))
 ·replace hM:=ifF hM hb1
  refine Cf hb1 ?_
  refine Sq ?_
  refine Rg 6 ?_
  refine Om (.i a1) ?_
  refine Of ((Train_.cells a0)) zcW ?_
  refine Of ((Train_.cells a0)) zgK ?_
  refine Olp (.i a0.Pulse.Gap) zab zaf ?_
  refine Oi (.b (decide (a1≥a0.Pulse.Gap))) ?_
  refine Oa (.b (decide (a1≥a0.Pulse.Gap))) ?_
  refine Ni ?_
  refine Ws ?_
  rcases bft (decide (a1≥a0.Pulse.Gap)) with hb2 | hb2
  ·replace hM:=ifT hM hb2
   refine Ct hb2 ?_
   refine Sq ?_
   refine Rg 1 ?_
   refine Oa (.i 2) ?_
   refine Ni ?_
   refine Ws ?_
   refine zaA ?_
   refine zas ?_
   refine zam ?_
   refine zaJ (x:=.i 2) (f:=fun r=>.i r) (.inr rfl) ?_ (.refl _) (Option.some.inj hM) hS
   exact (zao (zac (x:=.i 2) rfl))
  ·replace hM:=ifF hM hb2
   refine Cf hb2 ?_
   refine Sq ?_
   refine Rg 17 ?_
   refine Om (.i a1) ?_
   refine Of ((Train_.cells a0)) zcW ?_
   refine Of ((Train_.cells a0)) zdw ?_
   refine Olp (.i a0.Pulse.Pitch) zab zaf ?_
   refine Of ((Train_.cells a0)) zcW ?_
   refine Of ((Train_.cells a0)) zeJ ?_
   refine Olp (.i a0.Pulse.Slack) zab zaf ?_
   refine Oi (.i (w64 (a0.Pulse.Pitch-a0.Pulse.Slack))) ?_
   refine Of ((Train_.cells a0)) zcW ?_
   refine Of ((Train_.cells a0)) zdw ?_
   refine Olp (.i a0.Pulse.Pitch) zab zaf ?_
   refine Of ((Train_.cells a0)) zcW ?_
   refine Of ((Train_.cells a0)) zeJ ?_
   refine Olp (.i a0.Pulse.Slack) zab zaf ?_
   refine Oi (.i (w64 (a0.Pulse.Pitch+a0.Pulse.Slack))) ?_
   obtain ⟨r3,hr3,hM⟩:=zai hM
   refine zau (bs:=[.i a1,.i (w64 (a0.Pulse.Pitch-a0.Pulse.Slack)),.i (w64 (a0.Pulse.Pitch+a0.Pulse.Slack))]) (by decide) rfl rfl ((zcX hr3).le (.k (.k (.k .nil)))) ?_
   refine Oa (.b r3) ?_
   refine Ni ?_
   refine Ws ?_
   rcases bft r3 with hb4 | hb4
   ·replace hM:=ifT hM hb4
    refine Ct hb4 ?_
    refine Sq ?_
    refine Rg 1 ?_
    refine Oa (.i 1) ?_
    refine Ni ?_
    refine Ws ?_
    refine zaA ?_
    refine zas ?_
    refine zam ?_
    refine zaJ (x:=.i 1) (f:=fun r=>.i r) (.inr rfl) ?_ (.refl _) (Option.some.inj hM) hS
    exact (zao (zac (x:=.i 1) rfl))
   ·replace hM:=ifF hM hb4
    refine Cf hb4 ?_
    refine zar ?_
    refine zae ?_
    refine Ws ?_
    refine Sq ?_
    refine Rg 1 ?_
    refine Oa (.i 0) ?_
    refine Ni ?_
    refine zdz [(4,.i 0)] (.k .nil) ?_
    refine zaA ?_
    refine zaJ (x:=.i 0) (f:=fun r=>.i r) (.inr rfl) ?_ (.refl _) (Option.some.inj hM) hS
    exact (zao (zac (x:=.i 0) rfl))
theorem ziK {n:Nat} {a0:Train_} {a1:List Int} {r:(List Int)×Bool} (hM:zeu n a0 a1=some r):zav Try.prog 66 [.agg (Train_.cells a0),.sl .no 1 (a1.map cI)] (.tup [.sl .fr 1 (r.1.map cI),.b r.2]):=by
 refine znW mixed Try.func66 rfl (by decide) Try.ntmps66 (by simp) ?pure (e:=3) (zs:=r.1) (y:=(.bool r.2)) fun H0 g hf=>?_
 case pure=>exact (zad (.agg _ (zad (.v _) (zad (.v _) (zad (.v _) (zad (.v _) (zad (.v _) (zad (.v _) (zad (.v _) (zad (.sl _ _ (zaz (fun x=>(zad (.v _) zaG)))) zaG))))))))) (zad (.sl _ _ (zaz (fun x=>(zad (.v _) zaG)))) zaG))
 rw [zah]
 change wpA _ _ _ _ (Fr.of [(0,.agg (Train_.cells a0)),(1,.sl .no 1 (a1.map cI))]) H0 g
 have hS:=St.start hf
 refine Sq ?_
 refine Rg 3 ?_
 refine zbX (v:=.agg (Train_.cells a0)) (cs:=(Train_.cells a0)) hS (by decide) rfl rfl (by omega) fun H hS=>?_
 refine zcp hS (by decide) zm3 (by omega) fun H hS=>?_
 refine Oa (.b false) ?_
 refine Ni ?_
 refine zkD (cs':=[.sl (.id (g+3)) 1 (([]:List Int).map cI)]) (L':=[(g+1,.cells [.sl (.id (g+3)) 1 (([]:List Int).map cI)]),(g+0,.cells (Train_.cells a0))]) 0 0 1 3 hS (by omega) (by decide) rfl rfl rfl rfl fun H hS=>?_
 refine Ws ?_
 refine Sq ?_
 refine Rg 1 ?_
 refine zcp hS (by decide) zjv (by omega) fun H hS=>?_
 refine Ni ?_
 refine Ws ?_
 refine Sq ?_
 refine Rg 2 ?_
 refine zcO (first:=[]) (cap:=[.ptr (g+1) 0,.ptr (g+3+1+0) 0,.ptr (g+0) 0]) (by decide) rfl rfl ?_
 refine Oa (.fn (.func 79) [] [.ptr (g+1) 0,.ptr (g+3+1+0) 0,.ptr (g+0) 0]) ?_
 refine Ni ?_
 refine Ws ?_
 refine zaC (J:=Int×Int×(List Int)) (fun j=>[(1,.sl .no 1 (a1.map cI)),(4,.ptr (g+1) 0),(7,.fn (.func 79) [] [.ptr (g+1) 0,.ptr (g+3+1+0) 0,.ptr (g+0) 0])]) (fun j H' g'=>St (·<g) H0 [(g+3+1+0,.cells [.i j.1,.i j.2.1]),(g+3,.row 3 j.2.2.length),(g+1,.cells [.sl (.id (g+3)) 1 (j.2.2.map cI)]),(g+0,.cells (Train_.cells a0))] H' g'/\zcD a0 a1 j.1 j.2.1 j.2.2=some r) ?_ ?_
 ·rintro ⟨v1,v2,v3⟩ H g1 ⟨hS,hM⟩
  change wpA _ _ _ _ (Fr.of [(1,.sl .no 1 (a1.map cI)),(4,.ptr (g+1) 0),(7,.fn (.func 79) [] [.ptr (g+1) 0,.ptr (g+3+1+0) 0,.ptr (g+0) 0])]) _ _
  replace hS:St (·<g) H0 [(g+3+1+0,.cells [.i v1,.i v2]),(g+3,.row 3 v3.length),(g+1,.cells [.sl (.id (g+3)) 1 (v3.map cI)]),(g+0,.cells (Train_.cells a0))] H g1:=hS
  replace hM:zcD a0 a1 v1 v2 v3=some r:=hM
  refine Sq ?_
  refine zaC (J:=Bool×(List Int)) (fun j=>[(4,.ptr (g+1) 0),(63,.b j.1)]) (fun j H' g'=>St (·<g) H0 [(g+3,.row 3 j.2.length),(g+1,.cells [.sl (.id (g+3)) 1 (j.2.map cI)])] H' g'/\zcc j.1 j.2=some r) ?_ ?_
  ·rintro ⟨v4,v5⟩ H g2 ⟨hS,hM⟩
   change wpA _ _ _ _ (Fr.of [(4,.ptr (g+1) 0),(63,.b v4)]) _ _
   replace hS:St (·<g) H0 [(g+3,.row 3 v5.length),(g+1,.cells [.sl (.id (g+3)) 1 (v5.map cI)])] H g2:=hS
   replace hM:zcc v4 v5=some r:=hM
   rcases bft v4 with hb6 | hb6
   ·replace hM:=ifT hM hb6
    refine Ct hb6 ?_
    refine Sq ?_
    refine Rg 2 ?_
    refine za1 (v:=.sl .nil 0 []) (ns:=[.sl .nil 0 []]) (L':=[(g+3,.row 3 v5.length),(g+1,.cells [.sl .nil 0 []])]) 1 hS rfl rfl .no rfl rfl zg0 nlb rfl fun H hS=>?_
    refine Oa (.b false) ?_
    refine Ni ?_
    refine zkD (cs':=[.sl (.id (g2+2)) 1 (([]:List Int).map cI)]) (L':=[(g+3,.row 3 v5.length),(g+1,.cells [.sl (.id (g2+2)) 1 (([]:List Int).map cI)])]) 1 0 1 3 hS (by omega) (by decide) rfl rfl rfl rfl fun H hS=>?_
    replace hS:=hS.keep (L':=[(g2+2,.row 3 0),(g+1,.cells [.sl (.id (g2+2)) 1 (([]:List Int).map cI)])]) [true,false,true] rfl
    refine Ws ?_
    refine zaA ?_
    refine zam ?_
    obtain rfl:=Option.some.inj hM
    exact zm1 0 (.inr rfl) (za2 (zeM (x:=.sl (.id (g2+2)) 1 (([]:List Int).map cI)) 1 hS rfl rfl (po za6 zbx)) (zac (x:=.b false) rfl)) hS rfl
   ·replace hM:=ifF hM hb6
    refine Cf hb6 ?_
    refine zar ?_
    refine Ws ?_
    refine Sq ?_
    refine Rg 3 ?_
    refine za3 (v:=.sl (.id (g+3)) 1 (v5.map cI)) 1 hS (by decide) rfl rfl .no (po za6 zbx) ?_
    refine za1 (v:=.sl (.id (g+3)) 1 (v5.map cI)) (ns:=[.sl (.id (g+3)) 1 (v5.map cI)]) (L':=[(g+3,.row 3 v5.length),(g+1,.cells [.sl (.id (g+3)) 1 (v5.map cI)])]) 1 hS rfl rfl .no rfl rfl zg0 nlb rfl fun H hS=>?_
    refine Oa (.b true) ?_
    refine Ni ?_
    refine Ws ?_
    refine zaA ?_
    obtain rfl:=Option.some.inj hM
    exact zm1 0 (.inr rfl) (za2 (zeM (x:=.sl (.id (g+3)) 1 (v5.map cI)) 1 hS rfl rfl (po za6 zbx)) (zac (x:=.b true) rfl)) hS rfl
  ·refine Rg 8 ?_
   refine Om (.sl .no 1 (a1.map cI)) ?_
   refine zcj (n:=a1.length) (by decide) rfl (List.length_map _) za9 ?_
   refine Oi (.b (decide ((a1.length:Int)>0))) ?_
   refine Om (.b (decide ((a1.length:Int)>0))) ?_
   rcases bft (decide ((a1.length:Int)>0)) with hb7 | hb7
   ·replace hM:=ifT hM hb7
    refine Oy (want:=true) hb7 ?_
    refine Om (.fn (.func 79) [] [.ptr (g+1) 0,.ptr (g+3+1+0) 0,.ptr (g+0) 0]) ?_
    refine Oy (want:=true) hb7 ?_
    obtain ⟨r8,hr8,hM⟩:=zai hM
    have hndr8:=hS.nd_at (ns:=[2,1,0,3]) (M:=[(g+1,.cells [.sl (.id (g+3)) 1 (v3.map cI)]),(g+3,.row 3 v3.length),(g+3+1+0,.cells [.i v1,.i v2]),(g+0,.cells (Train_.cells a0))]) (M':=[(g+1,.cells [.sl (.id (g+3)) 1 (r8.2.map cI)]),(g+3,.row 3 r8.2.length),(g+3+1+0,.cells [.i v1,.i v2]),(g+0,.cells (Train_.cells a0))]) (.cons rfl (.cons rfl (.cons rfl (.cons rfl .nil)))) (by decide)
    refine zit (bs:=[.ptr (g+1) 0,.ptr (g+3+1+0) 0,.ptr (g+0) 0]) (M:=[(g+1,.cells [.sl (.id (g+3)) 1 (v3.map cI)]),(g+3,.row 3 v3.length),(g+3+1+0,.cells [.i v1,.i v2]),(g+0,.cells (Train_.cells a0))]) (M':=[(g+1,.cells [.sl (.id (g+3)) 1 (r8.2.map cI)]),(g+3,.row 3 r8.2.length),(g+3+1+0,.cells [.i v1,.i v2]),(g+0,.cells (Train_.cells a0))]) (L':=[(g+3+1+0,.cells [.i v1,.i v2]),(g+3,.row 3 r8.2.length),(g+1,.cells [.sl (.id (g+3)) 1 (r8.2.map cI)]),(g+0,.cells (Train_.cells a0))]) [2,1,0,3] (.inl rfl) hS (by decide) rfl rfl ((zfu (p1:=g+1) (w1:=g+3) (p2:=g+3+1+0) (p3:=g+0) hndr8 hr8).le (.k (.k (.k .nil)))) (.cons rfl (.cons rfl (.cons rfl (.cons rfl .nil)))) rfl (by omega) fun H hS=>?_
    refine Oy (want:=true) hb7 ?_
    refine zd7 (e:=r8.1) (by decide) rfl ?_
    refine Pt (.b (!r8.1)) hb7 ?_
    refine Ni ?_
    exact zag ((!r8.1),r8.2) (.k (.k .nil)) ⟨(hS.keep [false,true,true,false] rfl).up (by omega),hM⟩
   ·replace hM:=ifF hM hb7
    refine On (want:=true) hb7 ?_
    refine On (want:=true) hb7 ?_
    refine On (want:=true) hb7 ?_
    refine Pf (.b false) hb7 ?_
    refine Ni ?_
    exact zag (false,v3) (.k (.k .nil)) ⟨(hS.keep [false,true,true,false] rfl).up (by omega),hM⟩
 ·refine Sq ?_
  refine Rg 3 ?_
  refine Om (.sl .no 1 (a1.map cI)) ?_
  refine zcj (n:=a1.length) (by decide) rfl (List.length_map _) za9 ?_
  refine Om (.i 0) ?_
  refine Ni ?_
  refine Ws ?_
  refine zaq ?_
  refine zbr (V:=Int×Int×Int×(List Int)) (fun v=>[(1,.sl .no 1 (a1.map cI)),(2,.ptr (g+0) 0),(4,.ptr (g+1) 0),(6,.ptr (g+3+1+0) 0),(7,.fn (.func 79) [] [.ptr (g+1) 0,.ptr (g+3+1+0) 0,.ptr (g+0) 0]),(11,.sl .no 1 (a1.map cI)),(12,.i (a1.length:Int)),(13,.i v.1)]) (fun v m4 H' g'=>St (·<g) H0 [(g+3+1+0,.cells [.i v.2.1,.i v.2.2.1]),(g+3,.row 3 v.2.2.2.length),(g+1,.cells [.sl (.id (g+3)) 1 (v.2.2.2.map cI)]),(g+0,.cells (Train_.cells a0))] H' g'/\zaM a0 a1 m4 v.1 v.2.1 v.2.2.1 v.2.2.2=some r) (n:=n) (0,0,0,([]:List Int)) (.k (.k (.k (.k (.k (.k (.k (.k .nil)))))))) ⟨(hS.keep [true,true,true,true] rfl).up (by omega),hM⟩ ?_
  rintro ⟨v10,v11,v12,v13⟩ m4 H g4 ⟨hS,hM⟩
  obtain _ | m4:=m4
  ·exact nomatch (show none=some _ from hM)
  change wpA _ _ _ _ (Fr.of [(1,.sl .no 1 (a1.map cI)),(2,.ptr (g+0) 0),(4,.ptr (g+1) 0),(6,.ptr (g+3+1+0) 0),(7,.fn (.func 79) [] [.ptr (g+1) 0,.ptr (g+3+1+0) 0,.ptr (g+0) 0]),(11,.sl .no 1 (a1.map cI)),(12,.i (a1.length:Int)),(13,.i v10)]) _ _
  replace hS:St (·<g) H0 [(g+3+1+0,.cells [.i v11,.i v12]),(g+3,.row 3 v13.length),(g+1,.cells [.sl (.id (g+3)) 1 (v13.map cI)]),(g+0,.cells (Train_.cells a0))] H g4:=hS
  replace hM:zbK a0 a1 (zaM a0 a1 m4) v10 v11 v12 v13=some r:=hM
  refine Sq ?_
  refine Rg 1 ?_
  refine Oi (.b (decide (v10<(a1.length:Int)))) ?_
  refine Ni ?_
  refine Ws ?_
  refine Sq ?_
  rcases bft (decide (v10<(a1.length:Int))) with hb14 | hb14
  ·replace hM:=ifT hM hb14
   refine Ct hb14 ?_
   refine zar ?_
   refine Ws ?_
   refine zaC (J:=Int×Int×(List Int)) (fun j=>[(1,.sl .no 1 (a1.map cI)),(2,.ptr (g+0) 0),(4,.ptr (g+1) 0),(6,.ptr (g+3+1+0) 0),(7,.fn (.func 79) [] [.ptr (g+1) 0,.ptr (g+3+1+0) 0,.ptr (g+0) 0]),(11,.sl .no 1 (a1.map cI)),(12,.i (a1.length:Int)),(13,.i v10)]) (fun j H' g'=>St (·<g) H0 [(g+3+1+0,.cells [.i j.1,.i j.2.1]),(g+3,.row 3 j.2.2.length),(g+1,.cells [.sl (.id (g+3)) 1 (j.2.2.map cI)]),(g+0,.cells (Train_.cells a0))] H' g'/\zaX (zaM a0 a1 m4) v10 j.1 j.2.1 j.2.2=some r) ?_ ?_
   ·rintro ⟨v15,v16,v17⟩ H g5 ⟨hS,hM⟩
    change wpA _ _ _ _ (Fr.of [(1,.sl .no 1 (a1.map cI)),(2,.ptr (g+0) 0),(4,.ptr (g+1) 0),(6,.ptr (g+3+1+0) 0),(7,.fn (.func 79) [] [.ptr (g+1) 0,.ptr (g+3+1+0) 0,.ptr (g+0) 0]),(11,.sl .no 1 (a1.map cI)),(12,.i (a1.length:Int)),(13,.i v10)]) _ _
    replace hS:St (·<g) H0 [(g+3+1+0,.cells [.i v15,.i v16]),(g+3,.row 3 v17.length),(g+1,.cells [.sl (.id (g+3)) 1 (v17.map cI)]),(g+0,.cells (Train_.cells a0))] H g5:=hS
    replace hM:zaX (zaM a0 a1 m4) v10 v15 v16 v17=some r:=hM
    refine Rg 2 ?_
    refine Oi (.i (w64 (v10+1))) ?_
    refine Om (.i (w64 (v10+1))) ?_
    refine Ni ?_
    exact zaW (w64 (v10+1),v15,v16,v17) (Nat.lt_succ_self _) (.k (.k (.k (.k (.k (.k (.k (.k .nil)))))))) ⟨(hS.keep [true,true,true,true] rfl).up (by omega),hM⟩
   ·refine zaq ?_
    refine Sq ?_
    refine Rg 5 ?_
    refine Om (.i v10) ?_
    obtain ⟨x18,hx18,hM⟩:=zai hM
    refine zaU (xs:=a1) (f:=cI) (z:=v10) (u:=x18) (by decide) rfl rfl zaR hx18 ?_
    refine Olp (.i x18) zab zaf ?_
    refine Oa (.i v10) ?_
    refine Oa (.i x18) ?_
    refine Ni ?_
    refine Ws ?_
    refine Sq ?_
    refine Sq ?_
    refine Rg 2 ?_
    refine Om (.i v10) ?_
    refine Oi (.b (v10==0)) ?_
    refine Ni ?_
    refine Ws ?_
    rcases bft (v10==0) with hb19 | hb19
    ·replace hM:=ifT hM hb19
     refine Ct hb19 ?_
     refine Sq ?_
     refine Rg 2 ?_
     refine zbD (cs:=[.i 1,.i 0]) (by decide) zjv zoD rfl ?_
     refine za1 (v:=.agg [.i 1,.i 0]) (ns:=[.i 1,.i 0]) (L':=[(g+3+1+0,.cells [.i 1,.i 0]),(g+3,.row 3 v13.length),(g+1,.cells [.sl (.id (g+3)) 1 (v13.map cI)]),(g+0,.cells (Train_.cells a0))]) 0 hS rfl rfl .no rfl rfl zm4 nlb rfl fun H hS=>?_
     refine Ni ?_
     refine Ws ?_
     refine zbl ?_
     refine zap ?_
     refine zat ?_
     exact zag (1,0,v13) (.k (.k (.k (.k (.k (.k (.k (.k .nil)))))))) ⟨(hS.keep [true,true,true,true] rfl).up (by omega),hM⟩
    ·replace hM:=ifF hM hb19
     refine Cf hb19 ?_
     refine zar ?_
     refine Ws ?_
     refine Sq ?_
     have hS0:=hS
     refine zd1 (n:=9) rfl (by kernel_rfl) ?_
     refine za3 (v:=.agg (Train_.cells a0)) 3 hS (by decide) rfl rfl (.st hS0 3 rfl (by omega)) (pg zgp) ?_
     refine Om (.i x18) ?_
     refine Om (.sl .no 1 (a1.map cI)) ?_
     refine Om (.i v10) ?_
     refine Oi (.i (w64 (v10-1))) ?_
     obtain ⟨x20,hx20,hM⟩:=zai hM
     refine zaU (xs:=a1) (f:=cI) (z:=(w64 (v10-1))) (u:=x20) (by decide) rfl rfl zaR hx20 ?_
     refine Olp (.i x20) zab zaf ?_
     refine Oi (.i (w64 (x18-x20))) ?_
     obtain ⟨r21,hr21,hM⟩:=zai hM
     refine zau (bs:=[.agg (Train_.cells a0),.i (w64 (x18-x20))]) (by decide) rfl rfl ((ziJ hr21).le (.k (.k .nil))) ?_
     refine Ni ?_
     refine Ws ?_
     refine zaq ?_
     refine Sq ?_
     refine Rg 2 ?_
     refine Oi (.b (r21==1)) ?_
     refine Oa (.b (r21==1)) ?_
     refine Ni ?_
     refine Ws ?_
     rcases bft (r21==1) with hb22 | hb22
     ·replace hM:=ifT hM hb22
      refine Ct hb22 ?_
      refine Sq ?_
      refine Rg 3 ?_
      refine zaO (by decide) zfB rfl ?_
      refine za3 (v:=.i v12) 0 hS (by decide) rfl rfl .no (po zab zaf) ?_
      refine Oi (.b (decide (v12>0))) ?_
      refine Ni ?_
      refine Ws ?_
      rcases bft (decide (v12>0)) with hb23 | hb23
      ·replace hM:=ifT hM hb23
       refine Ct hb23 ?_
       refine Rg 5 ?_
       refine zaO (by decide) zfB rfl ?_
       refine za3 (v:=.i v12) 0 hS (by decide) rfl rfl .no (po zab zaf) ?_
       refine Oi (.i (w64 (v12+1))) ?_
       refine zaO (by decide) zfB rfl ?_
       refine za1 (v:=.i (w64 (v12+1))) (ns:=[.i (w64 (v12+1))]) (L':=[(g+3+1+0,.cells [.i v11,.i (w64 (v12+1))]),(g+3,.row 3 v13.length),(g+1,.cells [.sl (.id (g+3)) 1 (v13.map cI)]),(g+0,.cells (Train_.cells a0))]) 0 hS rfl rfl .no rfl rfl zf0 nlb rfl fun H hS=>?_
       refine Ni ?_
       refine zae ?_
       refine zae ?_
       exact zag (v11,w64 (v12+1),v13) (.k (.k (.k (.k (.k (.k (.k (.k .nil)))))))) ⟨(hS.keep [true,true,true,true] rfl).up (by omega),hM⟩
      ·replace hM:=ifF hM hb23
       refine Cf hb23 ?_
       refine Rg 5 ?_
       refine zaO (by decide) zio rfl ?_
       refine za3 (v:=.i v11) 0 hS (by decide) rfl rfl .no (po zab zaf) ?_
       refine Oi (.i (w64 (v11+1))) ?_
       refine zaO (by decide) zio rfl ?_
       refine za1 (v:=.i (w64 (v11+1))) (ns:=[.i (w64 (v11+1))]) (L':=[(g+3+1+0,.cells [.i (w64 (v11+1)),.i v12]),(g+3,.row 3 v13.length),(g+1,.cells [.sl (.id (g+3)) 1 (v13.map cI)]),(g+0,.cells (Train_.cells a0))]) 0 hS rfl rfl .no rfl rfl zf0 nlb rfl fun H hS=>?_
       refine Ni ?_
       refine zae ?_
       refine zae ?_
       exact zag (w64 (v11+1),v12,v13) (.k (.k (.k (.k (.k (.k (.k (.k .nil)))))))) ⟨(hS.keep [true,true,true,true] rfl).up (by omega),hM⟩
     ·replace hM:=ifF hM hb22
      refine Cf hb22 ?_
      refine Sq ?_
      refine Rg 2 ?_
      refine Oi (.b (r21==2)) ?_
      refine Oa (.b (r21==2)) ?_
      refine Ni ?_
      refine Ws ?_
      rcases bft (r21==2) with hb24 | hb24
      ·replace hM:=ifT hM hb24
       refine Ct hb24 ?_
       refine Sq ?_
       refine Sq ?_
       refine Rg 3 ?_
       refine zaO (by decide) zfB rfl ?_
       refine za3 (v:=.i v12) 0 hS (by decide) rfl rfl .no (po zab zaf) ?_
       refine Oi (.b (decide (v12>0))) ?_
       refine Ni ?_
       refine Ws ?_
       rcases bft (decide (v12>0)) with hb25 | hb25
       ·replace hM:=ifT hM hb25
        refine Ct hb25 ?_
        refine Sq ?_
        refine Rg 2 ?_
        refine za1 (v:=.sl .nil 0 []) (ns:=[.sl .nil 0 []]) (L':=[(g+3+1+0,.cells [.i v11,.i v12]),(g+3,.row 3 v13.length),(g+1,.cells [.sl .nil 0 []]),(g+0,.cells (Train_.cells a0))]) 2 hS rfl rfl .no rfl rfl zg0 nlb rfl fun H hS=>?_
        refine Oa (.b false) ?_
        refine Ni ?_
        refine zkD (cs':=[.sl (.id (g4+1+5+2+9+2+2+3+2)) 1 (([]:List Int).map cI)]) (L':=[(g+3+1+0,.cells [.i v11,.i v12]),(g+3,.row 3 v13.length),(g+1,.cells [.sl (.id (g4+1+5+2+9+2+2+3+2)) 1 (([]:List Int).map cI)]),(g+0,.cells (Train_.cells a0))]) 2 0 1 3 hS (by omega) (by decide) rfl rfl rfl rfl fun H hS=>?_
        replace hS:=hS.keep (L':=[(g4+1+5+2+9+2+2+3+2,.row 3 0),(g+1,.cells [.sl (.id (g4+1+5+2+9+2+2+3+2)) 1 (([]:List Int).map cI)])]) [true,false,false,true,false] rfl
        refine Ws ?_
        refine zaA ?_
        refine zam ?_
        refine zas ?_
        refine zas ?_
        refine zaI ?_
        refine zaL ?_
        refine zas ?_
        refine zaI ?_
        obtain rfl:=Option.some.inj hM
        exact zm1 0 (.inr rfl) (za2 (zeM (x:=.sl (.id (g4+1+5+2+9+2+2+3+2)) 1 (([]:List Int).map cI)) 1 hS rfl rfl (po za6 zbx)) (zac (x:=.b false) rfl)) hS rfl
       ·replace hM:=ifF hM hb25
        refine Cf hb25 ?_
        refine zar ?_
        refine Ws ?_
        refine Rg 2 ?_
        refine zaO (by decide) zfB rfl ?_
        refine za1 (v:=.i 1) (ns:=[.i 1]) (L':=[(g+3+1+0,.cells [.i v11,.i 1]),(g+3,.row 3 v13.length),(g+1,.cells [.sl (.id (g+3)) 1 (v13.map cI)]),(g+0,.cells (Train_.cells a0))]) 0 hS rfl rfl .no rfl rfl zf0 nlb rfl fun H hS=>?_
        refine Ni ?_
        refine zae ?_
        refine zae ?_
        exact zag (v11,1,v13) (.k (.k (.k (.k (.k (.k (.k (.k .nil)))))))) ⟨(hS.keep [true,true,true,true] rfl).up (by omega),hM⟩
      ·replace hM:=ifF hM hb24
       refine Cf hb24 ?_
       refine Sq ?_
       refine Rg 2 ?_
       refine Oi (.b (r21==3)) ?_
       refine Oa (.b (r21==3)) ?_
       refine Ni ?_
       refine Ws ?_
       rcases bft (r21==3) with hb26 | hb26
       ·replace hM:=ifT hM hb26
        refine Ct hb26 ?_
        refine Sq ?_
        refine Sq ?_
        refine Rg 3 ?_
        refine Om (.fn (.func 79) [] [.ptr (g+1) 0,.ptr (g+3+1+0) 0,.ptr (g+0) 0]) ?_
        obtain ⟨r27,hr27,hM⟩:=zai hM
        have hndr27:=hS.nd_at (ns:=[2,1,0,3]) (M:=[(g+1,.cells [.sl (.id (g+3)) 1 (v13.map cI)]),(g+3,.row 3 v13.length),(g+3+1+0,.cells [.i v11,.i v12]),(g+0,.cells (Train_.cells a0))]) (M':=[(g+1,.cells [.sl (.id (g+3)) 1 (r27.2.map cI)]),(g+3,.row 3 r27.2.length),(g+3+1+0,.cells [.i v11,.i v12]),(g+0,.cells (Train_.cells a0))]) (.cons rfl (.cons rfl (.cons rfl (.cons rfl .nil)))) (by decide)
        refine zit (bs:=[.ptr (g+1) 0,.ptr (g+3+1+0) 0,.ptr (g+0) 0]) (M:=[(g+1,.cells [.sl (.id (g+3)) 1 (v13.map cI)]),(g+3,.row 3 v13.length),(g+3+1+0,.cells [.i v11,.i v12]),(g+0,.cells (Train_.cells a0))]) (M':=[(g+1,.cells [.sl (.id (g+3)) 1 (r27.2.map cI)]),(g+3,.row 3 r27.2.length),(g+3+1+0,.cells [.i v11,.i v12]),(g+0,.cells (Train_.cells a0))]) (L':=[(g+3+1+0,.cells [.i v11,.i v12]),(g+3,.row 3 r27.2.length),(g+1,.cells [.sl (.id (g+3)) 1 (r27.2.map cI)]),(g+0,.cells (Train_.cells a0))]) [2,1,0,3] (.inl rfl) hS (by decide) rfl rfl ((zfu (p1:=g+1) (w1:=g+3) (p2:=g+3+1+0) (p3:=g+0) hndr27 hr27).le (.k (.k (.k .nil)))) (.cons rfl (.cons rfl (.cons rfl (.cons rfl .nil)))) rfl (by omega) fun H hS=>?_
        refine zd7 (e:=r27.1) (by decide) rfl ?_
        refine Ni ?_
        refine Ws ?_
        rcases bft (!r27.1) with hb28 | hb28
        ·replace hM:=ifT hM hb28
         refine Ct hb28 ?_
         refine Sq ?_
         refine Rg 2 ?_
         refine za1 (v:=.sl .nil 0 []) (ns:=[.sl .nil 0 []]) (L':=[(g+3+1+0,.cells [.i v11,.i v12]),(g+3,.row 3 r27.2.length),(g+1,.cells [.sl .nil 0 []]),(g+0,.cells (Train_.cells a0))]) 2 hS rfl rfl .no rfl rfl zg0 nlb rfl fun H hS=>?_
         refine Oa (.b false) ?_
         refine Ni ?_
         refine zkD (cs':=[.sl (.id (g4+1+5+2+9+2+2+2+3+2)) 1 (([]:List Int).map cI)]) (L':=[(g+3+1+0,.cells [.i v11,.i v12]),(g+3,.row 3 r27.2.length),(g+1,.cells [.sl (.id (g4+1+5+2+9+2+2+2+3+2)) 1 (([]:List Int).map cI)]),(g+0,.cells (Train_.cells a0))]) 2 0 1 3 hS (by omega) (by decide) rfl rfl rfl rfl fun H hS=>?_
         replace hS:=hS.keep (L':=[(g4+1+5+2+9+2+2+2+3+2,.row 3 0),(g+1,.cells [.sl (.id (g4+1+5+2+9+2+2+2+3+2)) 1 (([]:List Int).map cI)])]) [true,false,false,true,false] rfl
         refine Ws ?_
         refine zaA ?_
         refine zam ?_
         refine zas ?_
         refine zas ?_
         refine zaI ?_
         refine zaL ?_
         refine zas ?_
         refine zaI ?_
         obtain rfl:=Option.some.inj hM
         exact zm1 0 (.inr rfl) (za2 (zeM (x:=.sl (.id (g4+1+5+2+9+2+2+2+3+2)) 1 (([]:List Int).map cI)) 1 hS rfl rfl (po za6 zbx)) (zac (x:=.b false) rfl)) hS rfl
        ·replace hM:=ifF hM hb28
         refine Cf hb28 ?_
         refine zar ?_
         refine Ws ?_
         refine Rg 2 ?_
         refine zbD (cs:=[.i 1,.i 0]) (by decide) zjv zoD rfl ?_
         refine za1 (v:=.agg [.i 1,.i 0]) (ns:=[.i 1,.i 0]) (L':=[(g+3+1+0,.cells [.i 1,.i 0]),(g+3,.row 3 r27.2.length),(g+1,.cells [.sl (.id (g+3)) 1 (r27.2.map cI)]),(g+0,.cells (Train_.cells a0))]) 0 hS rfl rfl .no rfl rfl zm4 nlb rfl fun H hS=>?_
         refine Ni ?_
         refine zae ?_
         refine zae ?_
         exact zag (1,0,r27.2) (.k (.k (.k (.k (.k (.k (.k (.k .nil)))))))) ⟨(hS.keep [true,true,true,true] rfl).up (by omega),hM⟩
       ·replace hM:=ifF hM hb26
        refine Cf hb26 ?_
        refine Sq ?_
        refine Rg 2 ?_
        refine za1 (v:=.sl .nil 0 []) (ns:=[.sl .nil 0 []]) (L':=[(g+3+1+0,.cells [.i v11,.i v12]),(g+3,.row 3 v13.length),(g+1,.cells [.sl .nil 0 []]),(g+0,.cells (Train_.cells a0))]) 2 hS rfl rfl .no rfl rfl zg0 nlb rfl fun H hS=>?_
        refine Oa (.b false) ?_
        refine Ni ?_
        refine zkD (cs':=[.sl (.id (g4+1+5+2+9+2+2+2+2)) 1 (([]:List Int).map cI)]) (L':=[(g+3+1+0,.cells [.i v11,.i v12]),(g+3,.row 3 v13.length),(g+1,.cells [.sl (.id (g4+1+5+2+9+2+2+2+2)) 1 (([]:List Int).map cI)]),(g+0,.cells (Train_.cells a0))]) 2 0 1 3 hS (by omega) (by decide) rfl rfl rfl rfl fun H hS=>?_
        replace hS:=hS.keep (L':=[(g4+1+5+2+9+2+2+2+2,.row 3 0),(g+1,.cells [.sl (.id (g4+1+5+2+9+2+2+2+2)) 1 (([]:List Int).map cI)])]) [true,false,false,true,false] rfl
        refine Ws ?_
        refine zaA ?_
        refine zas ?_
        refine zas ?_
        refine zaI ?_
        refine zaL ?_
        refine zas ?_
        refine zaI ?_
        obtain rfl:=Option.some.inj hM
        exact zm1 0 (.inr rfl) (za2 (zeM (x:=.sl (.id (g4+1+5+2+9+2+2+2+2)) 1 (([]:List Int).map cI)) 1 hS rfl rfl (po za6 zbx)) (zac (x:=.b false) rfl)) hS rfl
  ·replace hM:=ifF hM hb14
   refine Cf hb14 ?_
   refine zbl ?_
   refine zap ?_
   refine zan ?_
   refine zat ?_
   exact zag (v11,v12,v13) (.k (.k (.k .nil))) ⟨(hS.keep [true,true,true,true] rfl).up (by omega),hM⟩
theorem zf1 {S:Type} {Lo:S->BL} (hk:∀s s',zhi (Lo s) (Lo s')) {p1:Nat} (hnd:∀s,([p1]++ids (Lo s)).Nodup) (hin:∀s,InB In (Lo s)) {aF:Reading_->S->Option (Bool×S)} {f0:AV} (hF:∀s H,Has H (Lo s)->In H f0) (h0:cellsOf f0=some [f0]) (hf:∀{x0:Reading_} {s:S} {r:Bool×S},aF x0 s=some r->zkh Try.prog f0 [.agg (Reading_.cells x0)] (Lo s) (.b r.1) (Lo r.2)) {n:Nat} {a0:Int} {a1:Train_} {st:S} {r:Bool×S} (hM:zbb n aF a0 a1 st=some r):zhD Try.prog 64 [.v (.int .u64 a0),.ptr p1 0,.ep [f0]] ([(p1,.cells (Train_.cells a1))]++Lo st) (.b r.1) ([(p1,.cells (Train_.cells a1))]++Lo r.2):=by
 have hnd0:∀s,(ids (Lo s)).Nodup:=fun s=>(List.nodup_append.1 (hnd s)).2.1
 refine zbk mixed Try.func64 rfl (by decide) Try.ntmps64 (by simp) (znR (zbP zdJ) (hk _ _)) (hnd st) ?pure ?cells fun H0 g hf_ hp=>?_
 case pure=>exact fun H _=>(show Go.AM.Pure _ from .v _).inH
 case cells=>exact (zfT (zb2 (zaw (.inl (.inl (.v _))) (zaw (.inl (.inl (.v _))) (zaw (.inl (.inl (.v _))) (zaw (.inl (.inl (.v _))) (zaw (.inl (.inl (.v _))) (zaw (.inl (.inl (.v _))) (zaw (.inl (.inl (.v _))) (zaw (.inl (.inl (.sl _ _ (zaz (fun x=>(zad (.v _) zaG)))))) zed)))))))) zfS) (hin _))
 rw [zah]
 change wpA _ _ _ _ (Fr.of [(0,.v (.int .u64 a0)),(1,.ptr p1 0),(2,.ep [f0])]) H0 g
 have hS:=St.startH (L:=([(p1,.cells (Train_.cells a1))]++Lo st)) hf_ (zsz (hnd st)) hp
 replace hS:St (fun i=>i<g/\i∉ids ([(p1,.cells (Train_.cells a1))]++Lo st)) H0 ([(p1,.cells (Train_.cells a1))]++Lo st) H0 g:=hS
 refine Sq ?_
 refine Rg 1 ?_
 refine Oa (.b false) ?_
 refine Ni ?_
 refine Ws ?_
 refine Sq ?_
 refine Rg 1 ?_
 refine Oa (.sl .nil 0 []) ?_
 refine Ni ?_
 refine zmT [(0,.v (.int .u64 a0)),(1,.ptr p1 0),(2,.ep [f0]),(5,.sl (.id (g+1+1)) 1 (([]:List Int).map cI))] 5 1 3 hS (by omega) (by decide) rfl (.k (.k (.k (.k .nil)))) fun H hS=>?_
 refine zaC (J:=(List Int)) (fun j=>[(0,.v (.int .u64 a0)),(1,.ptr p1 0),(2,.ep [f0]),(5,.sl (.id (g+1+1)) 1 (j.map cI))]) (fun j H' g'=>St (fun i=>i<g/\i∉ids ([(p1,.cells (Train_.cells a1))]++Lo st)) H0 ([(g+1+1,.row 3 j.length),(p1,.cells (Train_.cells a1))]++Lo st) H' g'/\zbG n a0 aF st a1 j=some r) ?_ ?_
 ·rintro v1 H g1 ⟨hS,hM⟩
  change wpA _ _ _ _ (Fr.of [(0,.v (.int .u64 a0)),(1,.ptr p1 0),(2,.ep [f0]),(5,.sl (.id (g+1+1)) 1 (v1.map cI))]) _ _
  replace hS:St (fun i=>i<g/\i∉ids ([(p1,.cells (Train_.cells a1))]++Lo st)) H0 ([(g+1+1,.row 3 v1.length),(p1,.cells (Train_.cells a1))]++Lo st) H g1:=hS
  replace hM:zbG n a0 aF st a1 v1=some r:=hM
  refine Sq ?_
  refine Rg 8 ?_
  refine za3 (v:=.agg (Train_.cells a1)) 1 hS (by decide) rfl rfl .no (pg zgp) ?_
  refine Om (.sl (.id (g+1+1)) 1 (v1.map cI)) ?_
  obtain ⟨r2,hr2,hM⟩:=zai hM
  refine zau (bs:=[.agg (Train_.cells a1),.sl (.id (g+1+1)) 1 (v1.map cI)]) (by decide) rfl rfl ((ziK hr2).le (.k (.cons (.sl _ _ _) .nil))) ?_
  refine Om (.tup [.sl .fr 1 (r2.1.map cI),.b r2.2]) ?_
  refine Ox (.sl .fr 1 (r2.1.map cI)) ?_
  refine Ox (.b r2.2) ?_
  refine Oa (.sl .fr 1 (r2.1.map cI)) ?_
  refine Oa (.b r2.2) ?_
  refine Ni ?_
  replace hS:=hS.keep (L':=([(p1,.cells (Train_.cells a1))]++Lo st)) [false,true] rfl
  refine Ws ?_
  refine zaC (J:=Bool×S) (fun j=>[(4,.b j.1)]) (fun j H' g'=>St (fun i=>i<g/\i∉ids ([(p1,.cells (Train_.cells a1))]++Lo st)) H0 ([(p1,.cells (Train_.cells a1))]++Lo j.2) H' g'/\zbe j.1 j.2=some r) ?_ ?_
  ·rintro ⟨v3,v4⟩ H g2 ⟨hS,hM⟩
   change wpA _ _ _ _ (Fr.of [(4,.b v3)]) _ _
   replace hS:St (fun i=>i<g/\i∉ids ([(p1,.cells (Train_.cells a1))]++Lo st)) H0 ([(p1,.cells (Train_.cells a1))]++Lo v4) H g2:=hS
   replace hM:zbe v3 v4=some r:=hM
   refine zaA ?_
   refine zc2 (x:=.b v3) (f:=fun r=>.b r.1) (fd:=fun r=>([(p1,.cells (Train_.cells a1))]++Lo r.2)) (.inr rfl) ?_ (.refl _) (Option.some.inj hM) hS 0 rfl
   exact (zao (zac (x:=.b v3) rfl))
  ·refine Rg 10 ?_
   refine Om (.b r2.2) ?_
   refine zd7 (e:=r2.2) (by decide) rfl ?_
   refine Om (.b (!r2.2)) ?_
   rcases bft (!r2.2) with hb5 | hb5
   ·replace hM:=ifT hM hb5
    refine On (want:=false) hb5 ?_
    refine On (want:=false) hb5 ?_
    refine On (want:=false) hb5 ?_
    refine On (want:=false) hb5 ?_
    refine On (want:=false) hb5 ?_
    refine Pt (.b true) hb5 ?_
    refine Oa (.b true) ?_
    refine Ni ?_
    exact zag (true,st) (.k .nil) ⟨(hS.keep [true] rfl).up (by omega),hM⟩
   ·replace hM:=ifF hM hb5
    refine Oy (want:=false) hb5 ?_
    refine Olp (f0) zqJ zr1 ?_
    refine Oy (want:=false) hb5 ?_
    refine Om (.v (.int .u64 a0)) ?_
    refine Oy (want:=false) hb5 ?_
    refine Om (.sl .fr 1 (r2.1.map cI)) ?_
    refine Oy (want:=false) hb5 ?_
    refine zbD (cs:=[.v (.int .u64 a0),.sl .fr 1 (r2.1.map cI)]) (by decide) zi5 zti rfl ?_
    refine Oy (want:=false) hb5 ?_
    obtain ⟨r6,hr6,hM⟩:=zai hM
    replace hS:St (fun i=>i<g/\i∉ids ([(p1,.cells (Train_.cells a1))]++Lo st)) H0 ([(p1,.cells (Train_.cells a1))]++Lo st) _ _:=hS
    refine zhZ (bs:=[.agg [.v (.int .u64 a0),.sl .fr 1 (r2.1.map cI)]]) (.inl rfl) hS (by decide) rfl rfl ((hf hr6).le (.k .nil)) (hk _ _).ids (by omega) fun H hS=>?_
    refine Pf (.b r6.1) hb5 ?_
    refine Oa (.b r6.1) ?_
    refine Ni ?_
    exact zag (r6.1,r6.2) (.k .nil) ⟨(hS.keep [true] rfl).up (by omega),hM⟩
 ·refine Sq ?_
  refine Rg 5 ?_
  refine zaO (by decide) zcW rfl ?_
  refine zaO (by decide) zcV rfl ?_
  refine za3 (v:=.sl .no 1 (a1.Pulse.Times.map cI)) 1 hS (by decide) rfl rfl .no (po za6 zbx) ?_
  refine zcj (n:=a1.Pulse.Times.length) (by decide) rfl (List.length_map _) za9 ?_
  refine Om (.i 0) ?_
  refine Ni ?_
  refine Ws ?_
  refine zaq ?_
  refine zbr (V:=(List Int)×Int) (fun v=>[(0,.v (.int .u64 a0)),(1,.ptr p1 0),(2,.ep [f0]),(5,.sl (.id (g+1+1)) 1 (v.1.map cI)),(12,.sl .no 1 (a1.Pulse.Times.map cI)),(13,.i (a1.Pulse.Times.length:Int)),(14,.i v.2)]) (fun v m3 H' g'=>St (fun i=>i<g/\i∉ids ([(p1,.cells (Train_.cells a1))]++Lo st)) H0 ([(g+1+1,.row 3 v.1.length),(p1,.cells (Train_.cells a1))]++Lo st) H' g'/\zaD n a0 aF st a1 m3 v.1 v.2=some r) (n:=n) (([]:List Int),0) (.k (.k (.k (.k (.k (.k (.k .nil))))))) ⟨(hS.keep [true,true] rfl).up (by omega),hM⟩ ?_
  rintro ⟨v7,v8⟩ m3 H g3 ⟨hS,hM⟩
  obtain _ | m3:=m3
  ·exact nomatch (show none=some _ from hM)
  change wpA _ _ _ _ (Fr.of [(0,.v (.int .u64 a0)),(1,.ptr p1 0),(2,.ep [f0]),(5,.sl (.id (g+1+1)) 1 (v7.map cI)),(12,.sl .no 1 (a1.Pulse.Times.map cI)),(13,.i (a1.Pulse.Times.length:Int)),(14,.i v8)]) _ _
  replace hS:St (fun i=>i<g/\i∉ids ([(p1,.cells (Train_.cells a1))]++Lo st)) H0 ([(g+1+1,.row 3 v7.length),(p1,.cells (Train_.cells a1))]++Lo st) H g3:=hS
  replace hM:zbs n a0 aF st a1 (zaD n a0 aF st a1 m3) v7 v8=some r:=hM
  refine Sq ?_
  refine Rg 1 ?_
  refine Oi (.b (decide (v8<(a1.Pulse.Times.length:Int)))) ?_
  refine Ni ?_
  refine Ws ?_
  refine Sq ?_
  rcases bft (decide (v8<(a1.Pulse.Times.length:Int))) with hb9 | hb9
  ·replace hM:=ifT hM hb9
   refine Ct hb9 ?_
   refine zar ?_
   refine Ws ?_
   refine zaC (J:=(List Int)) (fun j=>[(0,.v (.int .u64 a0)),(1,.ptr p1 0),(2,.ep [f0]),(5,.sl (.id (g+1+1)) 1 (j.map cI)),(12,.sl .no 1 (a1.Pulse.Times.map cI)),(13,.i (a1.Pulse.Times.length:Int)),(14,.i v8)]) (fun j H' g'=>St (fun i=>i<g/\i∉ids ([(p1,.cells (Train_.cells a1))]++Lo st)) H0 ([(g+1+1,.row 3 j.length),(p1,.cells (Train_.cells a1))]++Lo st) H' g'/\zbf (zaD n a0 aF st a1 m3) v8 j=some r) ?_ ?_
   ·rintro v10 H g4 ⟨hS,hM⟩
    change wpA _ _ _ _ (Fr.of [(0,.v (.int .u64 a0)),(1,.ptr p1 0),(2,.ep [f0]),(5,.sl (.id (g+1+1)) 1 (v10.map cI)),(12,.sl .no 1 (a1.Pulse.Times.map cI)),(13,.i (a1.Pulse.Times.length:Int)),(14,.i v8)]) _ _
    replace hS:St (fun i=>i<g/\i∉ids ([(p1,.cells (Train_.cells a1))]++Lo st)) H0 ([(g+1+1,.row 3 v10.length),(p1,.cells (Train_.cells a1))]++Lo st) H g4:=hS
    replace hM:zbf (zaD n a0 aF st a1 m3) v8 v10=some r:=hM
    refine Rg 2 ?_
    refine Oi (.i (w64 (v8+1))) ?_
    refine Om (.i (w64 (v8+1))) ?_
    refine Ni ?_
    exact zaW (v10,w64 (v8+1)) (Nat.lt_succ_self _) (.k (.k (.k (.k (.k (.k (.k .nil))))))) ⟨(hS.keep [true,true] rfl).up (by omega),hM⟩
   ·refine zaq ?_
    refine Sq ?_
    refine Rg 5 ?_
    refine Om (.i v8) ?_
    obtain ⟨x11,hx11,hM⟩:=zai hM
    refine zaU (xs:=a1.Pulse.Times) (f:=cI) (z:=v8) (u:=x11) (by decide) rfl rfl zaR hx11 ?_
    refine Olp (.i x11) zab zaf ?_
    refine Oa (.i v8) ?_
    refine Oa (.i x11) ?_
    refine Ni ?_
    refine Ws ?_
    refine Sq ?_
    refine Rg 4 ?_
    refine Om (.v (.int .u64 a0)) ?_
    refine Om (.i v8) ?_
    obtain ⟨r12,hr12,hM⟩:=zai hM
    refine zau (bs:=[.v (.int .u64 a0),.i v8]) (by decide) rfl rfl ((zjV hr12).le (.k (.k .nil))) ?_
    refine zd7 (e:=r12) (by decide) rfl ?_
    refine Ni ?_
    refine Ws ?_
    rcases bft (!r12) with hb13 | hb13
    ·replace hM:=ifT hM hb13
     refine Ct hb13 ?_
     refine Rg 5 ?_
     refine Om (.sl (.id (g+1+1)) 1 (v7.map cI)) ?_
     refine Om (.i x11) ?_
     refine zaK (es:=[[.i x11]]) hS (by decide) zaR zcT rfl zcU rfl (by decide) (by omega) fun H hS=>?_
     obtain ⟨l14,hl14,hM⟩:=zai hM
     refine zcv (xs:=v7) (ys:=([x11]:List Int)) (zs:=l14) (f:=cI) (L':=([(g3+1+5+4+2,.row 3 1),(g+1+1,.row 3 l14.length),(p1,.cells (Train_.cells a1))]++Lo st)) 1 hS (by decide) rfl rfl rfl rfl .no zaR zcT zcU hl14 rfl fun H hS=>?_
     refine Oa (.sl (.id (g+1+1)) 1 (l14.map cI)) ?_
     refine Ni ?_
     refine zae ?_
     exact zag l14 (.k (.k (.k (.k (.k (.k (.k .nil))))))) ⟨(hS.keep [false,true,true] rfl).up (by omega),hM⟩
    ·replace hM:=ifF hM hb13
     refine Cf hb13 ?_
     refine zar ?_
     refine zae ?_
     exact zag v7 (.k (.k (.k (.k (.k (.k (.k .nil))))))) ⟨(hS.keep [true,true] rfl).up (by omega),hM⟩
  ·replace hM:=ifF hM hb9
   refine Cf hb9 ?_
   refine zbl ?_
   refine zap ?_
   refine zan ?_
   refine zat ?_
   exact zag v7 (.k (.k (.k (.k .nil)))) ⟨(hS.keep [true,true] rfl).up (by omega),hM⟩
theorem zgR {S:Type} {Lo:S->BL} (hk:∀s s',zhi (Lo s) (Lo s')) {p1 p2:Nat} (hnd:∀s,([p1,p2]++ids (Lo s)).Nodup) (hin:∀s,InB In (Lo s)) {aF:Reading_->S->Option (Bool×S)} {f0:AV} (hF:∀s H,Has H (Lo s)->In H f0) (h0:cellsOf f0=some [f0]) (hf:∀{x0:Reading_} {s:S} {r:Bool×S},aF x0 s=some r->zkh Try.prog f0 [.agg (Reading_.cells x0)] (Lo s) (.b r.1) (Lo r.2)) {n:Nat} {a1:Train_} {a2:Int} {st:S} {r:Unit×S} (hM:zcw n aF a1 a2 st=some r):zhD Try.prog 62 [f0,.ptr p1 0,.ptr p2 0] ([(p1,.cells (Train_.cells a1)),(p2,.cells [.i a2])]++Lo st) (.tup []) ([(p1,.cells (Train_.cells a1)),(p2,.cells [.i a2])]++Lo r.2):=by
 have hnd0:∀s,(ids (Lo s)).Nodup:=fun s=>(List.nodup_append.1 (hnd s)).2.1
 refine zbk mixed Try.func62 rfl (by decide) Try.ntmps62 (by simp) (znR (zbP (zbP zdJ)) (hk _ _)) (hnd st) ?pure ?cells fun H0 g hf_ hp=>?_
 case pure=>exact fun H _=>(show Go.AM.Pure _ from .tup _ zaG).inH
 case cells=>exact (zfT (zb2 (zaw (.inl (.inl (.v _))) (zaw (.inl (.inl (.v _))) (zaw (.inl (.inl (.v _))) (zaw (.inl (.inl (.v _))) (zaw (.inl (.inl (.v _))) (zaw (.inl (.inl (.v _))) (zaw (.inl (.inl (.v _))) (zaw (.inl (.inl (.sl _ _ (zaz (fun x=>(zad (.v _) zaG)))))) zed)))))))) (zb2 (zaw (.inl (.inl (.v _))) zed) zfS)) (hin _))
 rw [zah]
 change wpA _ _ _ _ (Fr.of [(0,f0),(1,.ptr p1 0),(2,.ptr p2 0)]) H0 g
 have hS:=St.startH (L:=([(p1,.cells (Train_.cells a1)),(p2,.cells [.i a2])]++Lo st)) hf_ (zsz (hnd st)) hp
 replace hS:St (fun i=>i<g/\i∉ids ([(p1,.cells (Train_.cells a1)),(p2,.cells [.i a2])]++Lo st)) H0 ([(p1,.cells (Train_.cells a1)),(p2,.cells [.i a2])]++Lo st) H0 g:=hS
 refine Sq ?_
 refine Rg 1 ?_
 refine zbX (v:=f0) (cs:=[f0]) hS (by decide) rfl h0 (by omega) fun H hS=>?_
 refine Ni ?_
 refine zaZ (L':=([(p1,.cells (Train_.cells a1)),(p2,.cells [.i a2])]++Lo st)) 0 3 hS rfl rfl rfl fun H hS=>?_
 refine Ws ?_
 refine Rg 4 ?_
 refine za3 (v:=.agg (Train_.cells a1)) 0 hS (by decide) rfl rfl .no (pg zgp) ?_
 refine za3 (v:=.i a2) 1 hS (by decide) rfl rfl .no (po zab zaf) ?_
 refine zcO (first:=[]) (cap:=[.ptr p1 0,.ep [f0]]) (by decide) rfl rfl ?_
 obtain ⟨r1,hr1,hM⟩:=zai hM
 replace hS:St (fun i=>i<g/\i∉ids ([(p1,.cells (Train_.cells a1)),(p2,.cells [.i a2])]++Lo st)) H0 ([(p1,.cells (Train_.cells a1)),(p2,.cells [.i a2])]++Lo st) _ _:=hS
 have hndr1:=hS.nd_atS (ns:=[0]) (A:=[(p1,.cells (Train_.cells a1))]) (A':=[(p1,.cells (Train_.cells a1))]) (.cons rfl .nil) (by decide)
 have hncr1:=hS.nd_atS (ns:=[0]) (A:=[(p1,.cells (Train_.cells a1))]) (A':=[(p1,.cells (Train_.cells a1))]) (.cons rfl .nil) (by decide)
 refine zs5 (bs:=[.agg (Train_.cells a1),.v (.int .u64 0),.i 0,.i a2,.fn (.func 64) [] [.ptr p1 0,.ep [f0]]]) (A:=[(p1,.cells (Train_.cells a1))]) (A':=[(p1,.cells (Train_.cells a1))]) (M:=Lo st) (M':=Lo r1.2) (L':=[(p1,.cells (Train_.cells a1)),(p2,.cells [.i a2])]) [0] (.inl rfl) hS (by decide) rfl rfl ((zgN (Lo:=(fun s=>([(p1,.cells (Train_.cells a1))]++Lo s)))  (fun _ _=>znR (zbP zdJ) (hk _ _)) (fun s=>zql (T':=Lo s) (hk _ _) hndr1) (fun s=>(zfT (zb2 (zaw (.inl (.inl (.v _))) (zaw (.inl (.inl (.v _))) (zaw (.inl (.inl (.v _))) (zaw (.inl (.inl (.v _))) (zaw (.inl (.inl (.v _))) (zaw (.inl (.inl (.v _))) (zaw (.inl (.inl (.v _))) (zaw (.inl (.inl (.sl _ _ (zaz (fun x=>(zad (.v _) zaG)))))) zed)))))))) zfS) (hin _))) (aF:=(fun (x0:Int) s=>zbb n aF x0 a1 s)) (fun s H hH=>(.fn _ _ _ zcq (zbo (ziX hH 0 rfl) (zbo (.ep _ (zbo (hF _ H (zrL hH)) zcq)) zcq)))) rfl (fun h=>zjr (zf1 (Lo:=Lo) (p1:=p1)  hk (fun _=>zql (hk _ _) hncr1) hin hF h0 hf h)) hr1).le (.k (.k (.k (.k (.k .nil)))))) (.cons rfl .nil) (hk _ _).ids rfl (by omega) fun H hS=>?_
 refine Ni ?_
 refine zc2 (x:=.tup []) (f:=fun r=>.tup []) (fd:=fun r=>([(p1,.cells (Train_.cells a1)),(p2,.cells [.i a2])]++Lo r.2)) (.inl rfl) ?_ (.refl _) (Option.some.inj hM) hS 0 rfl
 exact rfl
theorem zft {w0 p1 p2:Nat} (hnd:[w0,p1,p2].Nodup) {n:Nat} {a0:List Reading_} {a91:Train_} {a92:Int} {r:(List Reading_)} (hM:zbH n a0 a91 a92=some r):zhD Try.prog 41 [.sl (.id w0) 2 (a0.map Reading_.cells),.fn (.func 62) [] [.ptr p1 0,.ptr p2 0]] [(w0,.row 72 a0.length),(p1,.cells (Train_.cells a91)),(p2,.cells [.i a92])] (.sl (.id w0) 2 (r.map Reading_.cells)) [(w0,.row 72 r.length),(p1,.cells (Train_.cells a91)),(p2,.cells [.i a92])]:=by
 refine zbk mixed Try.func41 rfl (by decide) Try.ntmps41 (by simp) (zor (zbP (zbP zdJ))) hnd ?pure ?cells fun H0 g hf_ hp=>?_
 case pure=>exact fun H hH=>zt2 hH 0 rfl (zaz (fun x=>(zad (.v _) (zad (.fr _ _ (zaz (fun x=>(zad (.v _) zaG)))) zaG))))
 case cells=>exact (zs9 (zfT (zb2 (zaw (.inl (.inl (.v _))) (zaw (.inl (.inl (.v _))) (zaw (.inl (.inl (.v _))) (zaw (.inl (.inl (.v _))) (zaw (.inl (.inl (.v _))) (zaw (.inl (.inl (.v _))) (zaw (.inl (.inl (.v _))) (zaw (.inl (.inl (.sl _ _ (zaz (fun x=>(zad (.v _) zaG)))))) zed)))))))) (zb2 (zaw (.inl (.inl (.v _))) zed) zfS)) zdi))
 rw [zah]
 change wpA _ _ _ _ (Fr.of [(0,.sl (.id w0) 2 (a0.map Reading_.cells)),(1,.fn (.func 62) [] [.ptr p1 0,.ptr p2 0])]) H0 g
 have hS:=St.startH (L:=[(w0,.row 72 a0.length),(p1,.cells (Train_.cells a91)),(p2,.cells [.i a92])]) hf_ hnd hp
 replace hS:St (fun i=>i<g/\i∉ids [(w0,.row 72 a0.length),(p1,.cells (Train_.cells a91)),(p2,.cells [.i a92])]) H0 [(w0,.row 72 a0.length),(p1,.cells (Train_.cells a91)),(p2,.cells [.i a92])] H0 g:=hS
 refine Sq ?_
 refine Rg 2 ?_
 refine zbX (v:=.sl (.id w0) 2 (a0.map Reading_.cells)) (cs:=[.sl (.id w0) 2 (a0.map Reading_.cells)]) hS (by decide) rfl rfl (by omega) fun H hS=>?_
 refine Oa (.sl .nil 0 []) ?_
 refine Ni ?_
 refine Ws ?_
 refine Sq ?_
 refine Sq ?_
 refine Rg 1 ?_
 refine Om (.fn (.func 62) [] [.ptr p1 0,.ptr p2 0]) ?_
 refine Ni ?_
 refine Ws ?_
 refine zaq ?_
 obtain ⟨r3,hr3,hM⟩:=zai hM
 refine zrN (Lo:=fun s:(List Reading_)=>[(g+0,.cells [.sl (.id w0) 2 (s.map Reading_.cells)]),(w0,.row 72 s.length)]) (R:=fun x s b s'=>∃y,x=.agg (Reading_.cells y)/\za4 y s=some (b,s')) (s0:=a0) (sF:=r3.2) (A:=[(p1,.cells (Train_.cells a91)),(p2,.cells [.i a92])]) (A':=[(p1,.cells (Train_.cells a91)),(p2,.cells [.i a92])]) (L':=[(g+0,.cells [.sl (.id w0) 2 (r3.2.map Reading_.cells)]),(w0,.row 72 r3.2.length),(p1,.cells (Train_.cells a91)),(p2,.cells [.i a92])]) [(2,.ptr (g+0) 0)] [2,3,0,1] hS (by omega) rfl rfl rfl (.cons rfl (.cons rfl (.cons rfl (.cons rfl .nil)))) (by decide) rfl (zbP (zbP zdJ)) (fun _ _=>(zbP (zor zdJ))) (fun s=>(zfT (zb2 (zaw (.inl (.inr ⟨_,_,_,_,_,rfl,List.mem_of_getElem? (i:=1) rfl,zaz (fun x=>(zad (.v _) (zad (.fr _ _ (zaz (fun x=>(zad (.v _) zaG)))) zaG)))⟩)) zed) (zqb zfS)) zdi)) (fun s H hH=>(zbo (ziX hH 0 rfl) zcq)) (.k .nil) rfl (by decide) rfl ?_ (fun F Lx hk1 hnd1 hin1 hF1 h01 hf1=>zgR (Lo:=Lx) (p1:=p1) (p2:=p2) hk1 hnd1 hin1 (aF:=za4) hF1 h01 (fun h=>hf1 _ _ _ _ ⟨_,rfl,h⟩) hr3) fun H hS=>?_
 ·rintro x v1 b s' ⟨y1,rfl,hM⟩
  refine ⟨rfl,fun H' g1 hf' hh'=>?_⟩
  have hS:=St.start hf'
  change wpA _ _ _ _ (Fr.of [(7,.agg (Reading_.cells y1)),(2,.ptr (g+0) 0)]) _ _
  refine Rg 2 ?_
  refine zcp hS (by decide) zi5 (by omega) fun H hS=>?_
  refine za1 (v:=.agg (Reading_.cells y1)) (ns:=(Reading_.cells y1)) (L':=[(g1+0,.cells (Reading_.cells y1))]) 0 hS rfl rfl .no rfl rfl zmi nlb rfl fun H hS=>?_
  refine Ni ?_
  refine zt5 (l3:=[(2,.ptr (g+0) 0),(5,.ptr (g1+0) 0)]) (.k (.k .nil)) hS (by omega) fun Hb H hS=>?_
  replace hS:St (fun i=>i<g1/\i∉ids [(g+0,.cells [.sl (.id w0) 2 (v1.map Reading_.cells)]),(w0,.row 72 v1.length)]) Hb [(g1+0,.cells (Reading_.cells y1)),(g+0,.cells [.sl (.id w0) 2 (v1.map Reading_.cells)]),(w0,.row 72 v1.length)] H _:=hS
  refine zaq ?_
  refine Rg 5 ?_
  refine za3 (v:=.sl (.id w0) 2 (v1.map Reading_.cells)) 1 hS (by decide) rfl rfl .no (po zox zqz) ?_
  refine za3 (v:=.agg (Reading_.cells y1)) 0 hS (by decide) rfl rfl .no (pg zmh) ?_
  refine zl9 (es:=[(Reading_.cells y1)]) (es':=[(Reading_.cells y1)]) hS (by decide) zmd zqA rfl zqB rfl (by decide) (by omega) (zrQ (zqv (.k (.k .nil)) zrU)) fun H hS=>?_
  obtain ⟨l2,hl2,hM⟩:=zai hM
  refine zcv (xs:=v1) (ys:=([y1]:List Reading_)) (zs:=l2) (f:=Reading_.cells) (L':=[(g1+2+2,.row 72 1),(g1+0,.cells (Reading_.cells y1)),(g+0,.cells [.sl (.id w0) 2 (v1.map Reading_.cells)]),(w0,.row 72 l2.length)]) 3 hS (by decide) rfl rfl rfl rfl .no zmd zqA zqB hl2 rfl fun H hS=>?_
  refine za1 (v:=.sl (.id w0) 2 (l2.map Reading_.cells)) (ns:=[.sl (.id w0) 2 (l2.map Reading_.cells)]) (L':=[(g1+2+2,.row 72 1),(g1+0,.cells (Reading_.cells y1)),(g+0,.cells [.sl (.id w0) 2 (l2.map Reading_.cells)]),(w0,.row 72 l2.length)]) 2 hS rfl rfl .no rfl rfl zrY nlb rfl fun H hS=>?_
  refine Ni ?_
  refine zae ?_
  injection hM with hM
  injection hM with hm1 hm2
  subst hm1 hm2
  exact zt4 (hS.keep [false,false,true,true] rfl)
 refine zae ?_
 refine Ws ?_
 refine Sq ?_
 refine Rg 2 ?_
 refine za3 (v:=.sl (.id w0) 2 (r3.2.map Reading_.cells)) 0 hS (by decide) rfl rfl .no (po zox zqz) ?_
 refine Oa (.sl (.id w0) 2 (r3.2.map Reading_.cells)) ?_
 refine Ni ?_
 replace hS:=hS.keep (L':=[(w0,.row 72 r3.2.length),(p1,.cells (Train_.cells a91)),(p2,.cells [.i a92])]) [false,true,true,true] rfl
 refine zdz [(4,.sl (.id w0) 2 (r3.2.map Reading_.cells))] (.k .nil) ?_
 refine zaA ?_
 refine zc2 (x:=.sl (.id w0) 2 (r3.2.map Reading_.cells)) (f:=fun r=>.sl (.id w0) 2 (r.map Reading_.cells)) (fd:=fun r=>[(w0,.row 72 r.length),(p1,.cells (Train_.cells a91)),(p2,.cells [.i a92])]) (.inr rfl) ?_ (.refl _) (Option.some.inj hM) hS 0 rfl
 exact (zao (zac (x:=.sl (.id w0) 2 (r3.2.map Reading_.cells)) rfl))
theorem zhA {a0:Train_} {a1:Int}:zlD Try.prog 42 [.agg (Train_.cells a0),.i a1] (fun g=>.fn (.func 62) [] [.ptr g 0,.ptr (g+1) 0]) [.i a1] (Train_.cells a0):=by
 refine zqm mixed Try.func42 rfl (by decide) Try.ntmps42 (by simp) (zad (.v _) zaG) (zad (.v _) (zad (.v _) (zad (.v _) (zad (.v _) (zad (.v _) (zad (.v _) (zad (.v _) (zad (.sl _ _ (zaz (fun x=>(zad (.v _) zaG)))) zaG)))))))) (fun g H hH=>.fn _ _ _ zcq (zbo (ziX hH 1 rfl) (zbo (ziX hH 0 rfl) zcq))) fun H0 g hf=>?_
 rw [zah]
 change wpA _ _ _ _ (Fr.of [(0,.agg (Train_.cells a0)),(1,.i a1)]) H0 g
 have hS:=St.start hf
 refine Sq ?_
 refine Rg 3 ?_
 refine zbX (v:=.agg (Train_.cells a0)) (cs:=(Train_.cells a0)) hS (by decide) rfl rfl (by omega) fun H hS=>?_
 refine zbX (v:=.i a1) (cs:=[.i a1]) hS (by decide) rfl rfl (by omega) fun H hS=>?_
 refine Oa (.v .nilFunc) ?_
 refine Ni ?_
 refine Ws ?_
 refine Sq ?_
 refine Rg 2 ?_
 refine zcO (first:=[]) (cap:=[.ptr (g+0) 0,.ptr (g+1) 0]) (by decide) rfl rfl ?_
 refine Oa (.fn (.func 62) [] [.ptr (g+0) 0,.ptr (g+1) 0]) ?_
 refine Ni ?_
 refine Ws ?_
 refine zaA ?_
 refine zt3 (x:=.fn (.func 62) [] [.ptr (g+0) 0,.ptr (g+1) 0]) (.inr rfl) ?_ (.refl _) hS [true,true] rfl
 exact (zao (zac (x:=.fn (.func 62) [] [.ptr (g+0) 0,.ptr (g+1) 0]) rfl))
theorem zfq {S:Type} {Lo:S->BL} (hk:∀s s',zhi (Lo s) (Lo s')) (hnd:∀s,(ids (Lo s)).Nodup) (hin:∀s,InB In (Lo s)) {aF:Train_->S->Option (Bool×S)} {f0:AV} (hF:∀s H,Has H (Lo s)->In H f0) (h0:cellsOf f0=some [f0]) (hf:∀{x0:Train_} {s:S} {r:Bool×S},aF x0 s=some r->zkh Try.prog f0 [.agg (Train_.cells x0)] (Lo s) (.b r.1) (Lo r.2)) {n:Nat} {a0:Pulse} {st:S} {r:((List Reading_)×Int)×S} (hM:zeg n aF a0 st=some r):zhD Try.prog 18 [.agg (Pulse.cells a0),f0] (Lo st) (.tup [.sl .no 2 (r.1.1.map Reading_.cells),.i r.1.2]) (Lo r.2):=by
 have hnd0:∀s,(ids (Lo s)).Nodup:=fun s=>hnd s
 refine zbk mixed Try.func18 rfl (by decide) Try.ntmps18 (by simp) (hk _ _) (hnd st) ?pure ?cells fun H0 g hf_ hp=>?_
 case pure=>exact fun H _=>(show Go.AM.Pure _ from .tup _ (zad (.sl _ _ (zaz (fun x=>(zad (.v _) (zad (.fr _ _ (zaz (fun x=>(zad (.v _) zaG)))) zaG))))) (zad (.v _) zaG))).inH
 case cells=>exact hin _
 rw [zah]
 change wpA _ _ _ _ (Fr.of [(0,.agg (Pulse.cells a0)),(1,f0)]) H0 g
 have hS:=St.startH (L:=([]++Lo st)) hf_ (hnd st) hp
 replace hS:St (fun i=>i<g/\i∉ids (Lo st)) H0 ([]++Lo st) H0 g:=hS
 refine Sq ?_
 refine Rg 3 ?_
 refine zbX (v:=.agg (Pulse.cells a0)) (cs:=(Pulse.cells a0)) hS (by decide) rfl rfl (by omega) fun H hS=>?_
 refine Oa (.sl .nil 0 []) ?_
 refine Oa (.i 0) ?_
 refine Ni ?_
 refine zaZ (L':=([]++Lo st)) 0 2 hS rfl rfl rfl fun H hS=>?_
 refine Ws ?_
 refine Sq ?_
 refine Sq ?_
 refine Rg 3 ?_
 refine Olg (.agg (Pulse.cells a0)) za0 ?_
 obtain ⟨r1,hr1,hM⟩:=zai hM
 refine zau (bs:=[.agg (Pulse.cells a0)]) (by decide) rfl rfl ((ziy hr1).le (.k .nil)) ?_
 refine Oa (.i r1) ?_
 refine Ni ?_
 refine Ws ?_
 refine Sq ?_
 refine Rg 2 ?_
 refine Om (.i r1) ?_
 refine Oi (.b (r1 != 0)) ?_
 refine Ni ?_
 refine Ws ?_
 rcases bft (r1 != 0) with hb2 | hb2
 ·replace hM:=ifT hM hb2
  refine Ct hb2 ?_
  refine Sq ?_
  refine Rg 3 ?_
  refine Om (.i r1) ?_
  refine Oa (.sl .nil 0 []) ?_
  refine Oa (.i r1) ?_
  refine Ni ?_
  refine Ws ?_
  refine zaA ?_
  refine zam ?_
  refine zc2 (x:=.tup [.sl .nil 0 [],.i r1]) (f:=fun r=>.tup [.sl .no 2 (r.1.1.map Reading_.cells),.i r.1.2]) (fd:=fun r=>(Lo r.2)) (.inr rfl) ?_ (.tupL (.cons (.sl0 .nil 2 0) (.k .nil))) (Option.some.inj hM) hS 0 rfl
  exact (za2 (zac (x:=.sl .nil 0 []) rfl) (zac (x:=.i r1) rfl))
 ·replace hM:=ifF hM hb2
  refine Cf hb2 ?_
  refine zar ?_
  refine Ws ?_
  refine Sq ?_
  refine Rg 4 ?_
  refine Olg (.agg (Pulse.cells a0)) za0 ?_
  refine zbD (cs:=(Pulse.cells a0)) (by decide) zh9 znY rfl ?_
  refine zcp hS (by decide) zh9 (by omega) fun H hS=>?_
  refine za1 (v:=.agg (Pulse.cells a0)) (ns:=(Pulse.cells a0)) (L':=([(g+3+3+2+2,.cells (Pulse.cells a0))]++Lo st)) 0 hS rfl rfl .no rfl rfl zoy nlb rfl fun H hS=>?_
  refine Ni ?_
  refine zaZ (L':=([]++Lo st)) 0 7 hS rfl rfl rfl fun H hS=>?_
  refine Ws ?_
  refine Sq ?_
  refine Sq ?_
  refine Rg 4 ?_
  refine Om (f0) ?_
  refine Olg (.agg (Pulse.cells a0)) zgp ?_
  obtain ⟨r3,hr3,hM⟩:=zai hM
  replace hS:St (fun i=>i<g/\i∉ids (Lo st)) H0 ([]++Lo st) _ _:=hS
  refine zhZ (bs:=[.agg (Pulse.cells a0)]) (.inl rfl) hS (by decide) rfl rfl ((hf hr3).le (.k .nil)) (hk _ _).ids (by omega) fun H hS=>?_
  refine zd7 (e:=r3.1) (by decide) rfl ?_
  refine Ni ?_
  refine Ws ?_
  rcases bft (!r3.1) with hb4 | hb4
  ·replace hM:=ifT hM hb4
   refine Ct hb4 ?_
   refine Sq ?_
   refine Rg 2 ?_
   refine Oa (.sl .nil 0 []) ?_
   refine Oa (.i 1) ?_
   refine Ni ?_
   refine Ws ?_
   refine zaA ?_
   refine zam ?_
   refine zc2 (x:=.tup [.sl .nil 0 [],.i 1]) (f:=fun r=>.tup [.sl .no 2 (r.1.1.map Reading_.cells),.i r.1.2]) (fd:=fun r=>(Lo r.2)) (.inr rfl) ?_ (.tupL (.cons (.sl0 .nil 2 0) (.k .nil))) (Option.some.inj hM) hS 0 rfl
   exact (za2 (zac (x:=.sl .nil 0 []) rfl) (zac (x:=.i 1) rfl))
  ·replace hM:=ifF hM hb4
   refine Cf hb4 ?_
   refine zar ?_
   refine Ws ?_
   refine Sq ?_
   refine Rg 1 ?_
   refine Oa (.sl .nil 0 []) ?_
   refine Ni ?_
   refine zmT [(2,.ep (Pulse.cells a0)),(7,.ep (Pulse.cells a0)),(8,.sl (.id (g+3+3+2+4+4+1)) 2 (([]:List Reading_).map Reading_.cells))] 8 2 72 hS (by omega) (by decide) rfl (.k (.k (.k .nil))) fun H hS=>?_
   refine zaC (J:=(List Reading_)) (fun j=>[(8,.sl (.id (g+3+3+2+4+4+1)) 2 (j.map Reading_.cells))]) (fun j H' g'=>St (fun i=>i<g/\i∉ids (Lo st)) H0 ([(g+3+3+2+4+4+1,.row 72 j.length)]++Lo r3.2) H' g'/\zeC r3 j=some r) ?_ ?_
   ·rintro v5 H g1 ⟨hS,hM⟩
    change wpA _ _ _ _ (Fr.of [(8,.sl (.id (g+3+3+2+4+4+1)) 2 (v5.map Reading_.cells))]) _ _
    replace hS:St (fun i=>i<g/\i∉ids (Lo st)) H0 ([(g+3+3+2+4+4+1,.row 72 v5.length)]++Lo r3.2) H g1:=hS
    replace hM:zeC r3 v5=some r:=hM
    refine Sq ?_
    refine Sq ?_
    refine Rg 3 ?_
    refine Om (.sl (.id (g+3+3+2+4+4+1)) 2 (v5.map Reading_.cells)) ?_
    refine zcj (n:=v5.length) (by decide) rfl (List.length_map _) zka ?_
    refine Oi (.b ((v5.length:Int)==0)) ?_
    refine Ni ?_
    refine Ws ?_
    rcases bft ((v5.length:Int)==0) with hb6 | hb6
    ·replace hM:=ifT hM hb6
     refine Ct hb6 ?_
     refine Sq ?_
     refine Rg 2 ?_
     refine Oa (.sl .nil 0 []) ?_
     refine Oa (.i 3) ?_
     refine Ni ?_
     replace hS:=hS.keep (L':=([]++Lo r3.2)) [false] rfl
     refine Ws ?_
     refine zaA ?_
     refine zam ?_
     refine zc2 (x:=.tup [.sl .nil 0 [],.i 3]) (f:=fun r=>.tup [.sl .no 2 (r.1.1.map Reading_.cells),.i r.1.2]) (fd:=fun r=>(Lo r.2)) (.inr rfl) ?_ (.tupL (.cons (.sl0 .nil 2 0) (.k .nil))) (Option.some.inj hM) hS 0 rfl
     exact (za2 (zac (x:=.sl .nil 0 []) rfl) (zac (x:=.i 3) rfl))
    ·replace hM:=ifF hM hb6
     refine Cf hb6 ?_
     refine zar ?_
     refine Ws ?_
     refine Sq ?_
     refine Rg 3 ?_
     refine Om (.sl (.id (g+3+3+2+4+4+1)) 2 (v5.map Reading_.cells)) ?_
     refine Oa (.sl (.id (g+3+3+2+4+4+1)) 2 (v5.map Reading_.cells)) ?_
     refine Oa (.i 0) ?_
     refine Ni ?_
     refine Ws ?_
     refine zaA ?_
     refine zc2 (x:=.tup [.sl (.id (g+3+3+2+4+4+1)) 2 (v5.map Reading_.cells),.i 0]) (f:=fun r=>.tup [.sl .no 2 (r.1.1.map Reading_.cells),.i r.1.2]) (fd:=fun r=>(Lo r.2)) (.inr rfl) ?_ (.tupL (.cons (.sl _ _ _) (.k .nil))) (Option.some.inj hM) hS 1 rfl
     exact (za2 (zac (x:=.sl (.id (g+3+3+2+4+4+1)) 2 (v5.map Reading_.cells)) rfl) (zac (x:=.i 0) rfl))
   ·refine Sq ?_
    refine Rg 4 ?_
    refine Of ((Pulse.cells a0)) zgL ?_
    refine Olp (.i a0.Sparks) zab zaf ?_
    refine Oi (.i (w64 (a0.Sparks+1))) ?_
    refine Om (.i 0) ?_
    refine Ni ?_
    refine Ws ?_
    refine zaq ?_
    refine zbr (V:=(List Reading_)×Int) (fun v=>[(7,.ep (Pulse.cells a0)),(8,.sl (.id (g+3+3+2+4+4+1)) 2 (v.1.map Reading_.cells)),(23,.i (w64 (a0.Sparks+1))),(24,.i v.2)]) (fun v m2 H' g'=>St (fun i=>i<g/\i∉ids (Lo st)) H0 ([(g+3+3+2+4+4+1,.row 72 v.1.length)]++Lo r3.2) H' g'/\zcL n a0 r3 m2 v.1 v.2=some r) (n:=n) (([]:List Reading_),0) (.k (.k (.k (.k .nil)))) ⟨(hS.keep [true] rfl).up (by omega),hM⟩ ?_
    rintro ⟨v7,v8⟩ m2 H g2 ⟨hS,hM⟩
    obtain _ | m2:=m2
    ·exact nomatch (show none=some _ from hM)
    change wpA _ _ _ _ (Fr.of [(7,.ep (Pulse.cells a0)),(8,.sl (.id (g+3+3+2+4+4+1)) 2 (v7.map Reading_.cells)),(23,.i (w64 (a0.Sparks+1))),(24,.i v8)]) _ _
    replace hS:St (fun i=>i<g/\i∉ids (Lo st)) H0 ([(g+3+3+2+4+4+1,.row 72 v7.length)]++Lo r3.2) H g2:=hS
    replace hM:zeN n a0 r3 (zcL n a0 r3 m2) v7 v8=some r:=hM
    refine Sq ?_
    refine Rg 1 ?_
    refine Oi (.b (decide (v8<(w64 (a0.Sparks+1))))) ?_
    refine Ni ?_
    refine Ws ?_
    refine Sq ?_
    rcases bft (decide (v8<(w64 (a0.Sparks+1)))) with hb9 | hb9
    ·replace hM:=ifT hM hb9
     refine Ct hb9 ?_
     refine zar ?_
     refine Ws ?_
     refine Sq ?_
     refine zaq ?_
     refine Sq ?_
     refine Rg 2 ?_
     refine Om (.i v8) ?_
     refine Oa (.i v8) ?_
     refine Ni ?_
     refine Ws ?_
     refine Rg 6 ?_
     refine Om (.sl (.id (g+3+3+2+4+4+1)) 2 (v7.map Reading_.cells)) ?_
     refine Olg (.agg (Pulse.cells a0)) zgp ?_
     refine Om (.i v8) ?_
     refine zvG (bs:=[.agg (Pulse.cells a0),.i v8]) (.inl rfl) hS (by decide) rfl rfl (zhA.le (.k (.k .nil))) (by omega) fun H hS=>?_
     obtain ⟨r10,hr10,hM⟩:=zai hM
     have hndr10:=hS.nd_at (ns:=[2,1,0]) (M:=[(g+3+3+2+4+4+1,.row 72 v7.length),(g2+1+2+6,.cells (Pulse.cells a0)),(g2+1+2+6+1,.cells [.i v8])]) (M':=[(g+3+3+2+4+4+1,.row 72 r10.length),(g2+1+2+6,.cells (Pulse.cells a0)),(g2+1+2+6+1,.cells [.i v8])]) (.cons rfl (.cons rfl (.cons rfl .nil))) (by decide)
     refine zit (bs:=[.sl (.id (g+3+3+2+4+4+1)) 2 (v7.map Reading_.cells),.fn (.func 62) [] [.ptr (g2+1+2+6) 0,.ptr (g2+1+2+6+1) 0]]) (M:=[(g+3+3+2+4+4+1,.row 72 v7.length),(g2+1+2+6,.cells (Pulse.cells a0)),(g2+1+2+6+1,.cells [.i v8])]) (M':=[(g+3+3+2+4+4+1,.row 72 r10.length),(g2+1+2+6,.cells (Pulse.cells a0)),(g2+1+2+6+1,.cells [.i v8])]) (L':=([(g2+1+2+6+1,.cells [.i v8]),(g2+1+2+6,.cells (Pulse.cells a0)),(g+3+3+2+4+4+1,.row 72 r10.length)]++Lo r3.2)) [2,1,0] (.inl rfl) hS (by decide) rfl rfl ((zft (w0:=g+3+3+2+4+4+1) (p1:=g2+1+2+6) (p2:=g2+1+2+6+1) hndr10 hr10).le (.k (.k .nil))) (.cons rfl (.cons rfl (.cons rfl .nil))) rfl (by omega) fun H hS=>?_
     refine Oa (.sl (.id (g+3+3+2+4+4+1)) 2 (r10.map Reading_.cells)) ?_
     refine Ni ?_
     refine zae ?_
     replace hS:=hS.keep (L':=([(g+3+3+2+4+4+1,.row 72 r10.length)]++Lo r3.2)) [false,false,true] rfl
     refine Ws ?_
     refine Rg 2 ?_
     refine Oi (.i (w64 (v8+1))) ?_
     refine Om (.i (w64 (v8+1))) ?_
     refine Ni ?_
     exact zaW (r10,w64 (v8+1)) (Nat.lt_succ_self _) (.k (.k (.k (.k .nil)))) ⟨(hS.keep [true] rfl).up (by omega),hM⟩
    ·replace hM:=ifF hM hb9
     refine Cf hb9 ?_
     refine zbl ?_
     refine zap ?_
     refine zan ?_
     refine zat ?_
     exact zag v7 (.k .nil) ⟨(hS.keep [true] rfl).up (by omega),hM⟩
end Go.Proofs.Ytebfppngmmdfkaa
