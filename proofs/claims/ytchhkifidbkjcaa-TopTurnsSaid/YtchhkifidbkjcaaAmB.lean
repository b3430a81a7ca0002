/-
  The abstract machine: what each operation does, what a call is known to do, and what holds behind a piece of code.
  Conditions: none; it speaks of any program.
-/
import Derived.Test.YtchhkifidbkjcaaAmA
import Derived.Orders
import Derived.Maps.Keyed
set_option linter.all false
namespace Go.AM
open Go Go.RowKit
def cv:Value->AV
 | .slice none 0 0=>.sl .nil 0 []
 | x=>.v x
section types
variable (P:Program)
def zar (t:TypeId):Option Nat:=(P.info? t).map (·.size)
def zax (t:TypeId):Option Nat :=
 match P.underlying t with
 | some (.struct _) | some (.array _ _)=>zar P t
 | _=>none
def scalar (t:TypeId):Bool :=
 match P.underlying t with
 | some (.struct _) | some (.array _ _) | none=>false
 | some _=>zar P t==some 1
def zdK (t:TypeId):Option (List AV) :=
 match (P.info? t).bind (·.zero) with
 | some z=>if z.cells.all (·.oneCell') then some (z.cells.toList.map cv) else none
 | none=>none
def zaH (s f:Nat):Option Nat :=
 match P.underlying s with
 | some (.struct fs)=>(fs[f]?).bind fun x=>match zar P x.type with | some (_+1)=>some x.offset | _=>none
 | _=>none
def fieldType (s f:Nat):Option (Nat×TypeId) :=
 match P.underlying s with
 | some (.struct fs)=>(fs[f]?).map fun x=>(x.offset,x.type)
 | _=>none
def places (t:TypeId):Option (List (Nat×Nat)) :=
 match P.underlying t with
 | some (.struct fs)=>fs.toList.mapM fun f=>(zar P f.type).map fun s=>(f.offset,s)
 | some (.array n e)=>(zar P e).map fun s=>(List.range n).map fun i=>(i*s,s)
 | _=>none
def zaF (t:TypeId):Option Nat :=
 match P.underlying t with
 | some (.slice e)=>match zar P e with | some (n+1)=>some (n+1) | _=>none
 | _=>none
def za6 (t:TypeId):Bool :=
 match P.underlying t with
 | some (.slice e)=>match P.info? e with
  | some i=>i.bytes<=1048576&&0<i.size&&match i.zero with | some z=>z.cells.size==i.size&&z.cells.all (·.oneCell') | none=>false
  | none=>false
 | _=>false
def zog (t:TypeId) (n:Nat):Bool :=
 decide (n<=1048576) || (decide (n<=140737488355328)&&match P.underlying t with
  | some (.slice e)=>match P.info? e with
   | some i=>decide (n*i.bytes<=140737488355328)
   | none=>false
  | _=>false)
def zcy (t:TypeId):Option TypeId:=match P.underlying t with | some (.slice e)=>some e | _=>none
def zma (t:TypeId):Option (Nat×Nat) :=
 match P.underlying t with
 | some (.array n e)=>(zar P e).map fun s=>(n,s)
 | _=>none
def zp5 (t:TypeId):Option (Nat×TypeId×Nat) :=
 match P.underlying t with
 | some (.array n e)=>(zar P e).map fun s=>(n,e,s)
 | _=>none
def isSlice (t:TypeId):Bool:=match P.underlying t with | some (.slice _)=>true | _=>false
def isBool (t:TypeId):Bool:=match P.underlying t with | some .bool=>true | _=>false
def intKind (t:TypeId):Option IntKind:=match P.underlying t with | some (.int k)=>some k | _=>none
def zdY:Nat->TypeId->Option Nat
 | 0,_=>none
 | d+1,t=>match P.underlying t with
  | some (.int _)=>some 1
  | some (.array n e)=>(zdY d e).bind fun k=>if zar P e=some k then some (n*k) else none
  | some (.struct fs) => if P.stoodInHeld t then none else fs.toList.foldlM (fun off f => (zdY d f.type).bind fun k => if f.name != "_" && f.offset == off && zar P f.type == some k then some (off + k) else none) 0
  | _=>none
def zey (t:TypeId):Option Nat :=
 match P.underlying t with
 | some (.struct _) | some (.array _ _)=>if P.eqGuardType P.depth t then none else zdY P 9 t
 | _=>none
end types
def cellsOf:AV->Option (List AV)
 | .agg cs=>some cs
 | .v x=>if x.oneCell' then some [.v x] else none
 | .any | .tup _=>none
 | x=>some [x]
def zdZ (P:Program) (t:TypeId) (cs:List AV) (off:Nat):Option AV :=
 match zax P t with
 | some k=>if off+k<=cs.length then some (.agg ((cs.drop off).take k)) else none
 | none=>if scalar P t then cs[off]? else none
def zdL (cs:List AV) (off:Nat) (new:List AV):List AV:=cs.take off++new++cs.drop (off+new.length)
def zlq (pl:List (Nat×Nat)):List AV->List (Nat×AV)->Option (List AV)
 | cs,[]=>some cs
 | cs,(i,x)::r=>match pl[i]? with
  | none=>none
  | some (off,sz)=>match cellsOf x with
   | none=>none
   | some new=>if new.length=sz/\off+sz<=cs.length then zlq pl (zdL cs off new) r else none
def ziu (op:BinOp) (k:IntKind) (a b:Int):Option AV :=
 match op with
 | .add=>some (.v (.int k (k.wrap (a+b))))
 | .sub=>some (.v (.int k (k.wrap (a-b))))
 | .mul=>some (.v (.int k (k.wrap (a*b))))
 | .quo=>if b=0 then none else some (.v (.int k (k.wrap (a.tdiv b))))
 | .rem=>if b=0 then none else some (.v (.int k (a.tmod b)))
 | .eql=>some (.v (.bool (a==b)))
 | .neq=>some (.v (.bool (a != b)))
 | .lss=>some (.v (.bool (a<b)))
 | .leq=>some (.v (.bool (a<=b)))
 | .gtr=>some (.v (.bool (a>b)))
 | .geq=>some (.v (.bool (a≥b)))
 | .and=>some (.v (.int k (k.wrap (BitVec.ofInt k.bits a &&& BitVec.ofInt k.bits b).toNat)))
 | .or=>some (.v (.int k (k.wrap (BitVec.ofInt k.bits a ||| BitVec.ofInt k.bits b).toNat)))
 | _=>none
def znb (op:BinOp) (k:IntKind) (a b:Int):Option (Option AV) :=
 match op with
 | .shl=>some (if 0<=b then some (.v (.int k (k.wrap (a*2 ^ min b.toNat k.bits)))) else none)
 | .shr=>some (if 0<=b then some (.v (.int k (a.fdiv (2 ^ min b.toNat k.bits)))) else none)
 | _=>none
def zbd:List AV->List AV->Option Bool
 | [],[]=>some true
 | .v (.int k a)::cs,.v (.int k' b)::ds=>if k=k' then (zbd cs ds).map fun r=>(a==b)&&r else none
 | _,_=>none
def zv0 (P:Program) (op:BinOp) (t:TypeId) (x y:AV):Option AV :=
 match x,y with
 | .v (.int k a),.v (.int k' b)=>match znb op k a b with
  | some r=>r
  | none=>if k=k' then ziu op k a b else none
 | .v (.bool a),.v (.bool b)=>if isBool P t then (match op with | .eql=>some (.v (.bool (a==b))) | .neq=>some (.v (.bool (!(a==b)))) | _=>none) else none
 | .agg cs,.agg ds=>if zey P t=some cs.length then (match op with | .eql=>(zbd cs ds).map fun r=>.v (.bool r) | .neq=>(zbd cs ds).map fun r=>.v (.bool (!r)) | _=>none) else none
 | _,_=>none
def zxl:List AV->Option AV
 | [.v (.int k a)]=>some (.v (.int k a))
 | [.v (.int k a),.v (.int _ b)]=>some (.v (.int k (min a b)))
 | [.v (.int k a),.v (.int _ b),.v (.int _ c)]=>some (.v (.int k (min (min a b) c)))
 | _=>none
def zxm:List AV->Option AV
 | [.v (.int k a)]=>some (.v (.int k a))
 | [.v (.int k a),.v (.int _ b)]=>some (.v (.int k (max a b)))
 | [.v (.int k a),.v (.int _ b),.v (.int _ c)]=>some (.v (.int k (max (max a b) c)))
 | [.v (.int k a),.v (.int _ b),.v (.int _ c),.v (.int _ d)]=>some (.v (.int k (max (max (max a b) c) d)))
 | [.v (.int k a),.v (.int _ b),.v (.int _ c),.v (.int _ d),.v (.int _ e)]=>some (.v (.int k (max (max (max (max a b) c) d) e)))
 | _=>none
def zfM:AV->Option Nat
 | .v (.int _ n)=>if 0<=n then some n.toNat else none
 | _=>none
def loN:Option AV->Option Nat
 | none=>some 0
 | some l=>zfM l
def hiN (mx:Bool) (len:Nat):Option AV->Option Nat
 | none=>if mx then none else some len
 | some h=>zfM h
def zya (k:Nat) (es:List (List AV)) (l h:Nat):Option AV->Option AV
 | none=>if l<=h/\h<=es.length then some (.sl .no k ((es.drop l).take (h-l))) else none
 | some m=>(zfM m).bind fun m=>if l<=h/\h<=m/\m<=es.length then some (.sl (if m=h then .clip else .no) k ((es.drop l).take (h-l))) else none
def zvR (i off k c l h:Nat):Option AV->Option AV
 | none=>if l<=h/\h<=c then some (.ms i (off+l*k) k (h-l) (c-l)) else none
 | some m=>(zfM m).bind fun m=>if l<=h/\h<=m/\m<=c then some (.ms i (off+l*k) k (h-l) (m-l)) else none
def zpa (P:Program) (t:TypeId) (x:AV) (lo hi mx:Option AV):Option AV :=
 match x with
 | .ms i off k n c=>if zaF P t=some k then (loN lo).bind fun l=>(hiN mx.isSome n hi).bind fun h=>zvR i off k c l h mx else none
 | .sl _ k es=>if zaF P t=some k then (loN lo).bind fun l=>(hiN mx.isSome es.length hi).bind fun h=>zya k es l h mx else none
 | _=>none
def zeQ (P:Program) (t:TypeId) (new:Nat) (H:zaa) (s x:AV):Option (AV×Option (Nat×Blk)) :=
 match s,x with
 | .sl tg k es,.sl _ k' xs =>
  if za6 P t/\zog P t (es.length+xs.length)=true/\(zaF P t=some k'\/xs=[]) then
   match tg with
   | .no=>none
   | .fr=>none
   | .od=>none
   | .nil=>(zaF P t).bind fun k0=>(zcy P t).bind fun e=>some (.sl (.id new) k0 xs,some (new,.row e xs.length))
   | .clip=>if zaF P t=some k/\xs≠[] then (zcy P t).bind fun e=>some (.sl (.id new) k (es++xs),some (new,.row e (es.length+xs.length))) else none
   | .id τ=>match H τ with
    | some (.row e n)=>if zaF P t=some k/\zcy P t=some e/\n=es.length then some (.sl (.id τ) k (es++xs),some (τ,.row e (n+xs.length))) else none
    | _=>none
  else none
 | .v (.slice none 0 0),.sl _ k xs=>if za6 P t=true/\zaF P t=some k/\xs≠[]/\xs.length<=1048576 then some (.ms new 0 k xs.length xs.length,some (new,.cells xs.flatten)) else none
 | _,_=>none
def zrb (H:zaa) (k:Nat):AV->Option (Nat×List AV)
 | .ms j off k' n _=>if k'=k then (match H j with
  | some (.cells ds)=>if off+n*k<=ds.length then some (n,(ds.drop off).take (n*k)) else none
  | _=>none) else none
 | .sl _ k' xs=>if k'=k then some (xs.length,xs.flatten) else none
 | _=>none
def zh7 (P:Program) (t:TypeId) (H:zaa) (s x:AV):Option (AV×Option (Nat×Blk)) :=
 match s with
 | .ms i off k n c=>match H i with
  | some (.cells cs)=>if zaF P t=some k/\0<c then (zrb H k x).bind fun q=>if n+q.1<=c/\off+n*k+q.2.length<=cs.length then some (.ms i off k (n+q.1) c,some (i,.cells (zdL cs (off+n*k) q.2))) else none else none
  | _=>none
 | _=>none
def znc (P:Program) (t:TypeId) (H:zaa) (s:AV):Option (AV×Option (Nat×Blk)) :=
 match s with
 | .ms i off k n c=>match H i with
  | some (.cells cs)=>if zaF P t=some k then (zcy P t).bind fun e=>(zdK P e).bind fun z=>if z.length=k/\off+n*k<=cs.length then some (.any,some (i,.cells (zdL cs off (List.replicate n z).flatten))) else none else none
  | _=>none
 | _=>none
def zb8 (k:Nat):Nat->List (Nat×AV)->Option (List (List AV))
 | _,[]=>some []
 | n,(i,x)::r=>if i=n then (match cellsOf x with | some cs=>if cs.length=k then (zb8 k (n+1) r).map (cs::·) else none | none=>none) else none
def zgn (m:List (Value×Value)):Array MapEntry:=(m.mapIdx fun i p=>{ key:=p.1,val:=p.2,born:=i }).toArray
def zag (m:List (Value×Value)) (o:Obj):Prop:=o=.map (zgn m) m.length
open Classical in
noncomputable def mapOf (p:Obj->Prop):Option (List (Value×Value)):=if h:∃m,p=zag m then some (Classical.choose h) else none
def zgP (P:Program) (t:TypeId):Option (TypeId×TypeId):=match P.underlying t with | some (.map k e)=>some (k,e) | _=>none
def zvS:AV->Option Value
 | .v (.int k n)=>some (.int k n)
 | _=>none
def zrc:AV->Option Value
 | .v (.int k n)=>some (.int k n)
 | .agg cs=>(cs.mapM zvS).map fun l=>.agg l.toArray
 | _=>none
def ztf:AV->Option Value
 | .v x=>some x
 | .agg cs=>(cs.mapM zvS).map fun l=>.agg l.toArray
 | _=>none
def zfu (P:Program) (t:TypeId):Option Value:=(P.info? t).bind (·.zero)
def zjb (P:Program) (t:TypeId):Option IntKind:=match zfu P t with | some (.int k 0)=>some k | _=>none
theorem zoh {P:Program} {t:TypeId} {k:IntKind} (h:zjb P t=some k):zfu P t=some (.int k 0):=by
 unfold zjb at h
 split at h
 ·rename_i k' he
  injection h with h
  subst h
  exact he
 ·cases h
def zrd (P:Program) (kt:TypeId) (m:List (Value×Value)) (key:Value):Prop:=Go.Maps.Keyed P kt/\(∃l,keyOf P kt key=some l)/\(∀p,p∈m->∃l,keyOf P kt p.1=some l)/\(m.map (·.1)).Nodup
open Classical in
noncomputable def zex (m:List (Value×Value)) (key:Value):Option Nat:=m.findIdx? fun p=>decide (p.1=key)
noncomputable def zpb (m:List (Value×Value)) (key:Value) (kd:Value):Value:=match zex m key with | some j=>((m[j]?).map (·.2)).getD kd | none=>kd
noncomputable def mput (m:List (Value×Value)) (key val:Value):List (Value×Value):=match zex m key with | some j=>m.set j (key,val) | none=>m++[(key,val)]
open Classical in
noncomputable def zjR (P:Program) (t:TypeId) (H:zaa) (x ix:AV):Option (Nat×List (Value×Value)×Value×Value) :=
 match x with
 | .mp i=>match H i with
  | some (.obj none p)=>(zgP P t).bind fun q=>(mapOf p).bind fun m=>(zrc ix).bind fun key=>(zfu P q.2).bind fun kd=>if zrd P q.1 m key then some (i,m,key,kd) else none
  | _=>none
 | _=>none
noncomputable def zat (P:Program) (new:Nat) (op:Op) (ρ:Operand->AV) (H:zaa):Option (AV×Option (Nat×Blk)) :=
 match op with
 | .move x | .assign x=>some (ρ x,none)
 | .pick c a b=>match ρ c with | .v (.bool t)=>some (if t then ρ a else ρ b,none) | _=>none
 | .alloc t=>(zdK P t).map fun cs=>(.ptr new 0,some (new,.cells cs))
 | .box _ x=>(cellsOf (ρ x)).map fun cs=>(.ptr new 0,some (new,.cells cs))
 | .build t ps=>(zdK P t).bind fun z=>(places P t).bind fun pl=>(zlq pl z (ps.toList.map fun q=>(q.1,ρ q.2))).map fun cs=>(.agg cs,none)
 | .buildSlice t n ps=>(zaF P t).bind fun k=>(zb8 k 0 (ps.toList.map fun q=>(q.1,ρ q.2))).bind fun es =>
   if za6 P t/\es.length=n/\n*k<=1048576 then (zcy P t).bind fun e=>some (.sl (.id new) k es,some (new,.row e n)) else none
 | .load t x=>match ρ x with
  | .ptr i off=>match H i with | some (.cells cs)=>(zdZ P t cs off).map fun r=>(r,none) | _=>none
  | .ep cs=>(zdZ P t cs 0).map fun r=>(r,none)
  | _=>none
 | .store t a x=>match ρ a with
  | .ptr i off=>match H i with
   | some (.cells cs)=>(cellsOf (ρ x)).bind fun ns=>if zar P t=some ns.length/\off+ns.length<=cs.length then some (.any,some (i,.cells (zdL cs off ns))) else none
   | _=>none
  | _=>none
 | .nilCheck x=>match ρ x with
  | .ptr i off=>some (.ptr i off,none)
  | .ep cs=>some (.ep cs,none)
  | _=>none
 | .binOp op t x y _=>(zv0 P op t (ρ x) (ρ y)).map fun r=>(r,none)
 | .unOp op _ x=>match op,ρ x with
  | .not,.v (.bool b)=>some (.v (.bool (!b)),none)
  | .neg,.v (.int k n)=>some (.v (.int k (k.wrap (0-n))),none)
  | _,_=>none
 | .convert s d x=>match ρ x,intKind P s,intKind P d with
  | .v (.int _ n),some _,some k=>some (.v (.int k (k.wrap n)),none)
  | _,_,_=>none
 | .makeFunc fn first cap=>some (.fn fn (first.toList.map ρ) (cap.toList.map ρ),none)
 | .fieldAddr s x f=>(zaH P s f).bind fun k=>match ρ x with
  | .ptr i off=>some (.ptr i (off+k),none)
  | .ep cs=>some (.ep (cs.drop k),none)
  | _=>none
 | .field s x f=>(fieldType P s f).bind fun q=>match ρ x with
  | .agg cs=>(zdZ P q.2 cs q.1).map fun r=>(r,none)
  | _=>none
 | .index t x i=>(zfM (ρ i)).bind fun n=>(zp5 P t).bind fun q=>match ρ x with
  | .agg cs=>if n<q.1 then (zdZ P q.2.1 cs (n*q.2.2)).map fun r=>(r,none) else none
  | _=>none
 | .indexAddr t x i=>(zfM (ρ i)).bind fun n=>match ρ x with
  | .sl _ k es=>if zaF P t=some k then (es[n]?).map fun e=>(.ep e,none) else none
  | .ms j off k m _=>if zaF P t=some k/\n<m then some (.ptr j (off+n*k),none) else none
  | .ptr b off=>(zma P t).bind fun q=>if n<q.1 then some (.ptr b (off+n*q.2),none) else none
  | .ep cs=>(zma P t).bind fun q=>if n<q.1 then some (.ep (cs.drop (n*q.2)),none) else none
  | _=>none
 | .makeMap t none=>(zgP P t).map fun _=>(.mp new,some (new,.obj none (zag [])))
 | .makeSlice t x y=>(zfM (ρ x)).bind fun n=>(zcy P t).bind fun e=>(zdK P e).bind fun zs=>if zfM (ρ y)=some n/\zs.length=1/\n<=1048576/\zaF P t=some 1/\za6 P t=true then (if n=0 then some (.sl .no 1 [],none) else some (.ms new 0 1 n n,some (new,.cells (List.replicate n zs).flatten))) else none
 | .lookup t x ix ok=>(zjR P t H (ρ x) (ρ ix)).map fun q=>(if ok then .tup [.v (zpb q.2.1 q.2.2.1 q.2.2.2),.v (.bool (zex q.2.1 q.2.2.1).isSome)] else .v (zpb q.2.1 q.2.2.1 q.2.2.2),none)
 | .mapUpdate t x ix v=>(zjR P t H (ρ x) (ρ ix)).bind fun q=>(ztf (ρ v)).map fun val=>(.any,some (q.1,.obj none (zag (mput q.2.1 q.2.2.1 val))))
 | .insert t x ix v=>(zjR P t H (ρ x) (ρ ix)).bind fun q=>(ztf (ρ v)).map fun val=>(.any,some (q.1,.obj none (zag (mput q.2.1 q.2.2.1 val))))
 | .mapEntry t x ix=>(zjR P t H (ρ x) (ρ ix)).map fun q=>match zex q.2.1 q.2.2.1 with
  | some j=>(.tup [.v (zpb q.2.1 q.2.2.1 q.2.2.2),.v (.int .i64 j)],some (q.1,.obj none (zag q.2.1)))
  | none=>(.tup [.v q.2.2.2,.v (.int .i64 q.2.1.length)],some (q.1,.obj none (zag (q.2.1++[(q.2.2.1,q.2.2.2)]))))
 | .entryStore _ x s v=>match ρ x,ρ s with
  | .mp i,.v (.int .i64 n)=>match H i with
   | some (.obj none p)=>(mapOf p).bind fun m=>(ztf (ρ v)).bind fun val=>if 0<=n/\n.toNat<m.length then some (.any,some (i,.obj none (zag (m.modify n.toNat fun q=>(q.1,val))))) else none
   | _=>none
  | _,_=>none
 | .extract x k=>match ρ x with
  | .tup vs=>(vs[k]?).map fun r=>(r,none)
  | _=>none
 | .slice t x lo hi mx=>(zpa P t (ρ x) (lo.map ρ) (hi.map ρ) (mx.map ρ)).map fun r=>(r,none)
 | .call { callee:=.builtin b,args,argTypes } =>
  match b with
  | .len=>match args.toList.map ρ,argTypes[0]? with
   | [.sl _ _ es],some t=>if isSlice P t then some (.v (.int .i64 es.length),none) else none
   | [.ms _ _ _ n _],some t=>if isSlice P t then some (.v (.int .i64 n),none) else none
   | _,_=>none
  | .min=>(zxl (args.toList.map ρ)).map fun r=>(r,none)
  | .max=>(zxm (args.toList.map ρ)).map fun r=>(r,none)
  | .append=>match args.toList.map ρ,argTypes.toList with
   | [s,x],[t,u]=>if t=u then (match s with | .ms _ _ _ _ _=>zh7 P t H s x | _=>zeQ P t new H s x) else none
   | _,_=>none
  | .clear=>match args.toList.map ρ,argTypes.toList with
   | [s],[t]=>znc P t H s
   | _,_=>none
  | _=>none
 | _=>none
def zaa.patch (H:zaa):Option (Nat×Blk)->zaa
 | none=>H
 | some (i,b)=>H.set i b
def za2 (H:zaa) (g:Nat):Prop:=∀i,g<=i->H i=none
def VRs (G:Gh) (H:zaa) (w:World) (as:List AV) (vs:Array Value):Prop :=
 vs.size=as.length/\∀(i:Nat) (c:AV) (x:Value),as[i]?=some c->vs[i]?=some x->VR G H w c x
def ztg (P : Program) (f : FuncId) : Prop := ∃ fn c, P.funcs[f]? = some fn /\ fn.body = some c /\ fn.name ≠ "runtime.NumGoroutine"
def Sat (P:Program) (f:FuncId) (as:List AV) (H:zaa) (g:Nat) (r:AV) (H':zaa) (g':Nat):Prop :=
 ztg P f/\∀(G:Gh) (w:World) (vs:Array Value),Hp G H w->VRs G H w as vs ->
  Calls P f vs w fun e w'=>∃v G',e=.returned v/\Hp G' H' w'/\(za2 H' g'/\g<=g'/\∀i,i<g->H i=none->H' i=none)/\Ext G H w G' H' w'/\VR G' H' w' r v
def zq9 (P:Program) (f:FuncId) (as:List AV) (H:zaa) (g:Nat) (T:AV->zaa->Nat->Prop):Prop :=
 ztg P f/\(∃r H' g',T r H' g')/\∀(G:Gh) (w:World) (vs:Array Value),Hp G H w->VRs G H w as vs ->
  Calls P f vs w fun e w'=>∃v G' r H' g',T r H' g'/\e=.returned v/\Hp G' H' w'/\(za2 H' g'/\g<=g'/\∀i,i<g->H i=none->H' i=none)/\Ext G H w G' H' w'/\VR G' H' w' r v
theorem zq9.mono {P:Program} {f:FuncId} {as:List AV} {H:zaa} {g:Nat} {T T':AV->zaa->Nat->Prop} (h:zq9 P f as H g T) (hk:∀r H' g',T r H' g'->T' r H' g'):zq9 P f as H g T' :=
 ⟨h.1,h.2.1.imp fun r ⟨H',g',ht⟩=>⟨H',g',hk _ _ _ ht⟩,fun G w vs hp ha=>(h.2.2 G w vs hp ha).mono fun e w' ⟨v,G',r,H',g',ht,q⟩=>⟨v,G',r,H',g',hk _ _ _ ht,q⟩⟩
theorem Sat.toP {P:Program} {f:FuncId} {as:List AV} {H H':zaa} {g g':Nat} {r:AV} {T:AV->zaa->Nat->Prop} (h:Sat P f as H g r H' g') (hk:T r H' g'):zq9 P f as H g T :=
 ⟨h.1,⟨r,H',g',hk⟩,fun G w vs hp ha=>(h.2 G w vs hp ha).mono fun e w' ⟨v,G',q⟩=>⟨v,G',r,H',g',hk,q⟩⟩
def zaR (P:Program) (f:FuncId) (as:List AV) (r:AV):Prop:=∀H g,za2 H g->Sat P f as H g r H g
def zh8 (P:Program) (f:FuncId) (as:List AV) (r:Nat->AV) (b:Option Blk):Prop :=
 ztg P f/\∀(G:Gh) (H:zaa) (g new:Nat) (w:World) (vs:Array Value),za2 H g->H new=none->Hp G H w->VRs G H w as vs ->
  Calls P f vs w fun en w'=>∃v G',en=.returned v/\Hp G' (H.patch (b.map fun x=>(new,x))) w'/\Ext G H w G' (H.patch (b.map fun x=>(new,x))) w'/\VR G' (H.patch (b.map fun x=>(new,x))) w' (r new) v
def zf9 (P:Program) (f:FuncId) (as:List AV) (e:TypeId) (k:Nat) (es:List (List AV)):Prop :=
 ztg P f/\∀(G:Gh) (H:zaa) (g new:Nat) (w:World) (vs:Array Value),za2 H g->H new=none->Hp G H w->VRs G H w as vs ->
  Calls P f vs w fun en w'=>∃v G',en=.returned v/\Hp G' (H.set new (.row e es.length)) w'/\Ext G H w G' (H.set new (.row e es.length)) w'/\VR G' (H.set new (.row e es.length)) w' (.sl (.id new) k es) v
abbrev BL:=List (Nat×Blk)
def ids (L:BL):List Nat:=L.map (·.1)
def zaa.puts (H:zaa):BL->zaa
 | []=>H
 | p::L=>(zaa.puts H L).set p.1 p.2
def kin:Blk->Blk->Prop
 | .cells _,.cells _=>True
 | .row e _,.row e' _=>e=e'
 | .obj k _,.obj k' _=>k=k'
 | .ice,.ice=>True
 | _,_=>False
def zg7:BL->BL->Prop
 | [],[]=>True
 | p::L,q::M=>p.1=q.1/\kin p.2 q.2/\zg7 L M
 | _,_=>False
def Has (H:zaa) (L:BL):Prop:=∀p,p∈L->H p.1=some p.2
def zhc (P:Program) (f:FuncId) (as:List AV) (L:BL) (r:AV) (L':BL):Prop :=
 ∀H g,za2 H g->Has H L->Sat P f as H g r (H.puts L') g
def FR (ro:Option Nat):Fence:={ Fence.wide with round:=ro }
def zhd (q:Loop) (pe:Option Code) (o:Obj):Prop:=o=.loop { q with state:=if pe.isNone then .ready else .done,pending:=pe }
def zur (q:Loop) (o:Obj):Prop:=∃pe,o=.loop { q with state:=.busy,pending:=pe }
def zvT (P:Program) (i:Nat) (ts:List Nat) (cs:List AV) (xs:List AV) (M:BL) (r:AV) (M':BL):Prop :=
 zg7 M M'/\∀(n:Nat) (G:Gh) (H:zaa) (g:Nat) (w:World) (vs:Array Value),za2 H g->Has H M->Hp G H w->VR G H w (.yld i ts cs) (.func (.yield (G.φ i)) #[] #[])->VRs G H w xs vs ->
  ∃lp,w.heap[G.φ i]?=some (.loop lp)/\vs.size=lp.params.size /\
   RoundIn Fence.wide n P (G.φ i) lp.fn ((lp.params.zip vs).foldl (fun tmps (t,a)=>tmps.setIfInBounds t a) lp.tmps) lp.assign lp.body w
    fun e w'=>∃v G',e=.returned v/\Hp G' (H.puts M') w'/\Ext G H w G' (H.puts M') w'/\VR G' (H.puts M') w' r v
def zlo (P:Program) (f:AV) (xs:List AV) (L:BL) (r:AV) (L':BL):Prop :=
 match f with
 | .fn (.func k) u v=>zhc P k (u++xs++v) L r L'
 | .yld i ts cs=>zvT P i ts cs xs L r L'
 | _=>False
def yOf:AV->Option (Nat×List Nat×List AV)
 | .yld i ts cs=>some (i,ts,cs)
 | _=>none
def tgt:AV->Option (FuncId×List AV×List AV)
 | .fn (.func f) first cap=>some (f,first,cap)
 | _=>none
def zfN (P:Program) (f:FuncId) (as:List AV) (id:Nat) (cs:List AV) (r:AV) (ds:List AV):Prop :=
 ∀H g,za2 H g->H id=some (.cells cs)->Sat P f as H g r (H.set id (.cells ds)) g
def zeR (P:Program) (strict:Bool) (mu:Nat->Bool) (ta:Nat->Bool) (new:Nat) (f:FuncId) (as:List AV) (K:AV->zaa->Nat->Prop) (H:zaa) (g:Nat):Prop :=
 (∃r,zaR P f as r/\K r H g) \/
 (∃r b,zh8 P f as r b/\K (r new) (H.patch (b.map fun x=>(new,x))) g) \/
 (strict=false/\zq9 P f as H g K) \/
 (∃id cs r ds,mu id=true/\H id=some (.cells cs)/\zfN P f as id cs r ds/\K r (H.set id (.cells ds)) g) \/
 (∃id d cs r x,ta id=true/\as[0]?=some (.ptr id d)/\H id=some (.cells cs)/\zfN P f as id cs r (cs.set d x)/\K r (H.set id (.cells (cs.set d x))) g)
theorem zeR.pure {P:Program} {strict:Bool} {mu ta:Nat->Bool} {new f:Nat} {as:List AV} {K:AV->zaa->Nat->Prop} {H:zaa} {g:Nat} {r:AV} (h:zaR P f as r) (hk:K r H g):zeR P strict mu ta new f as K H g:=.inl ⟨r,h,hk⟩
theorem zeR.fresh {P:Program} {strict:Bool} {mu ta:Nat->Bool} {new f:Nat} {as:List AV} {K:AV->zaa->Nat->Prop} {H:zaa} {g e k:Nat} {es:List (List AV)} (h:zf9 P f as e k es) (hk:K (.sl (.id new) k es) (H.set new (.row e es.length)) g):zeR P strict mu ta new f as K H g:=.inr (.inl ⟨fun new=>.sl (.id new) k es,some (.row e es.length),h,hk⟩)
theorem zeR.new1 {P:Program} {strict:Bool} {mu ta:Nat->Bool} {new f:Nat} {as:List AV} {K:AV->zaa->Nat->Prop} {H:zaa} {g:Nat} {r:Nat->AV} {b:Option Blk} (h:zh8 P f as r b) (hk:K (r new) (H.patch (b.map fun x=>(new,x))) g):zeR P strict mu ta new f as K H g:=.inr (.inl ⟨r,b,h,hk⟩)
theorem zeR.sat {P:Program} {mu ta:Nat->Bool} {new f:Nat} {as:List AV} {K:AV->zaa->Nat->Prop} {H H':zaa} {g g':Nat} {r:AV} (h:Sat P f as H g r H' g') (hk:K r H' g'):zeR P false mu ta new f as K H g:=.inr (.inr (.inl ⟨rfl,h.toP hk⟩))
theorem zeR.satP {P:Program} {mu ta:Nat->Bool} {new f:Nat} {as:List AV} {K:AV->zaa->Nat->Prop} {H:zaa} {g:Nat} (h:zq9 P f as H g K):zeR P false mu ta new f as K H g:=.inr (.inr (.inl ⟨rfl,h⟩))
theorem zeR.mu {P:Program} {strict:Bool} {mu ta:Nat->Bool} {new f:Nat} {as:List AV} {K:AV->zaa->Nat->Prop} {H:zaa} {g id:Nat} {cs ds:List AV} {r:AV} (hm:mu id=true) (hc:H id=some (.cells cs)) (h:zfN P f as id cs r ds) (hk:K r (H.set id (.cells ds)) g):zeR P strict mu ta new f as K H g:=.inr (.inr (.inr (.inl ⟨id,cs,r,ds,hm,hc,h,hk⟩)))
theorem zeR.ta {P:Program} {strict:Bool} {mu ta:Nat->Bool} {new f:Nat} {as:List AV} {K:AV->zaa->Nat->Prop} {H:zaa} {g id d:Nat} {cs:List AV} {x r:AV} (hm:ta id=true) (ha:as[0]?=some (.ptr id d)) (hc:H id=some (.cells cs)) (h:zfN P f as id cs r (cs.set d x)) (hk:K r (H.set id (.cells (cs.set d x))) g):zeR P strict mu ta new f as K H g:=.inr (.inr (.inr (.inr ⟨id,d,cs,r,x,hm,ha,hc,h,hk⟩)))
abbrev Fr:=Nat->AV
def Fr.put (N:Nat) (fr:Fr) (d:Option Tmp) (x:AV):Fr:=match d with
 | none=>fr
 | some d=>if d<N then fun t=>if t=d then x else fr t else fr
def Fr.ev (N:Nat) (fr:Fr):Operand->AV
 | .tmp t=>if t<N then fr t else .any
 | .const v=>cv v
 | .global _=>.any
 | .func f=>.fn (.func f) [] []
def gd (ops:Array Oper) (N:Nat) (fr:Fr) (j:Nat):Option (Option Bool) :=
 match (ops[j]?).bind (·.dst) with
 | some d=>match fr.ev N (.tmp d) with | .v (.bool b)=>some (some b) | .tup []=>some none | _=>none
 | none=>none
def behind (ops:Array Oper):Nat->Nat->Nat->Bool
 | 0,_,_=>false
 | n+1,i,j=>match ops[i]? with
  | none=>false
  | some o=>o.after.any fun e=>Region.binds .any e&&(e.on==j || behind ops n e.on j)
def old (lim:Option Nat) (ops:Array Oper) (i:Nat) (op:Op) (ρ:Operand->AV):Bool :=
 match lim with
 | none=>true
 | some g0=>match op with
  | .load _ x | .store _ x _=>match ρ x with | .ptr b _=>decide (b<g0) || behind ops ops.size i (b-g0) | _=>true
  | .call { callee:=.builtin .append,args,.. }=>match ((args.toList.map ρ)[0]?:Option AV) with
   | some (.sl (.id b) _ _)=>decide (b<g0) || behind ops ops.size i (b-g0)
   | some (.ms _ _ _ _ _)=>false
   | _=>true
  | .call { callee:=.builtin .clear,.. }=>false
  | .lookup _ x _ _ | .mapEntry _ x _=>match ρ x with | .mp b=>decide (b<g0) || behind ops ops.size i (b-g0) | _=>true
  | .mapUpdate .. | .insert .. | .entryStore ..=>false
  | _=>true
def zbz:Op->Option (Operand×Array Operand)
 | .call { callee:=.value f,args,.. }=>some (f,args)
 | _=>none
inductive Kd where | pure | reads | makes | writes | grows | calls | mread | mwrite
 deriving DecidableEq
def zvU (op:Op):Kd:=match op with
 | .load _ _=>.reads
 | .store _ _ _=>.writes
 | .alloc _ | .box _ _ | .buildSlice _ _ _ | .makeMap _ _ | .makeSlice _ _ _=>.makes
 | .call { callee:=.builtin .append,.. }=>.grows
 | .call { callee:=.builtin _,.. }=>.pure
 | .call _=>.makes
 | .lookup _ _ _ _=>.mread
 | .mapEntry _ _ _=>.mwrite
 | _=>.pure
def zgQ:Kd->Kd->Bool
 | .pure,_ | _,.pure=>true
 | .writes,.reads | .reads,.writes | .writes,.writes | .grows,.grows | .calls,.reads | .reads,.calls | .calls,.writes | .writes,.calls | .calls,.calls | .mread,.mwrite | .mwrite,.mread | .mwrite,.mwrite=>false
 | _,_=>true
def quiet (ops:Array Oper) (i:Nat):Bool :=
 (List.range ops.size).all fun j=>j==i || behind ops ops.size i j || behind ops ops.size j i || (match ops[j]? with
  | some o=>(zbz o.op).isNone&&zvU o.op != .reads&&zvU o.op != .writes
  | none=>true)
def still (ops:Array Oper) (fr:Fr) (j:Nat):Bool:=match ops[j]? with
 | some o=>match o.op with
  | .move _=>true
  | .assign _=>true
  | .load _ (.tmp s)=>(match fr s with | .ep _=>true | _=>false)&&ops.toList.all fun o'=>o'.dst != some s
  | _=>false
 | none=>false
def zfe (ops:Array Oper) (fr:Fr) (i:Nat):Bool:=(List.range ops.size).all fun j=>j==i || behind ops ops.size i j || behind ops ops.size j i || still ops fr j
def znd (ops:Array Oper) (i:Nat):Option Nat:=match ops[i]? with
 | some o=>match zbz o.op with
  | some (.func _,args)=>match (args[0]?:Option Operand) with
   | some (.tmp s)=>if !quiet ops i&&ops.toList.any (fun o'=>o'.dst==some s&&(match o'.op with | .fieldAddr _ _ _=>true | _=>false)) then some s else none
   | _=>none
  | _=>none
 | none=>none
def zlp (ops:Array Oper) (i:Nat) (op:Op):Kd:=if (zbz op).isSome&&(quiet ops i || (znd ops i).isSome) then .calls else zvU op
def zlD (lim:Option Nat) (ops:Array Oper) (i:Nat) (id:Nat):Bool:=match lim with
 | none=>false
 | some g0=>(znd ops i).isSome&&(decide (id<g0) || behind ops ops.size i (id-g0))
def zp6 (lim:Option Nat) (ops:Array Oper) (i:Nat) (id:Nat):Bool:=match lim with
 | none=>true
 | some g0=>quiet ops i&&(decide (id<g0) || behind ops ops.size i (id-g0))
def zjS:Op->Option (TypeId×Operand×Bool)
 | .binOp .eql t x (.const (.slice none 0 0)) _=>some (t,x,true)
 | .binOp .neq t x (.const (.slice none 0 0)) _=>some (t,x,false)
 | _=>none
def zv1 (v:AV) (K:Bool->Prop):Prop :=
 match v with
 | .sl tg _ es=>(tg≠.nil->K false)/\(es=[]->K true)
 | _=>False
def zlE (a c:Nat) (seen:Array Nat) (o:Obj):Prop:=o=.mapIter (some a) c seen c
def ztk (P:Program) (new:Nat) (op:Op) (ρ:Operand->AV) (H:zaa) (K:AV->zaa->Prop):Prop :=
 match op with
 | .range t x=>∃i m,ρ x=.mp i/\H i=some (.obj none (zag m))/\(zgP P t).isSome=true/\∀a,K (.it new i a) (H.patch (some (new,.obj none (zlE a m.length #[]))))
 | .next x false=>∃(j i a:Nat) (m:List (Value×Value)) (seen:Array Nat),ρ x=.it j i a/\H i=some (.obj none (zag m))/\H j=some (.obj none (zlE a m.length seen)) /\
   ((∀e,e<m.length->seen.contains e=true)->K (.tup [.v (.bool false)]) H) /\
   ∀e p,m[e]?=some p->seen.contains e=false->K (.tup [.v (.bool true),.v p.1,.v p.2]) (H.patch (some (j,.obj none (zlE a m.length (seen.push e)))))
 | .entry x=>∃(j i a:Nat) (m:List (Value×Value)) (seen:Array Nat) (e:Nat) (p:Value×Value),ρ x=.it j i a/\H i=some (.obj none (zag m))/\H j=some (.obj none (zlE a m.length (seen.push e)))/\m[e]?=some p/\K (.tup [.v p.1,.v p.2]) H
 | _=>False
def zpc (P:Program) (new:Nat) (op:Op) (ρ:Operand->AV) (H:zaa) (K:AV->zaa->Prop):Prop :=
 match op with
 | .buildSlice t n ps=>∃(k:Nat) (es:List (List AV)),zaF P t=some k/\zb8 k 0 (ps.toList.map fun q=>(q.1,ρ q.2))=some es/\za6 P t=true/\es.length=n/\n*k<=1048576 /\
   (K (.ms new 0 k n n) (H.set new (.cells es.flatten))\/K (.sl .clip k es) H)
 | .call { callee:=.builtin .append,args,argTypes }=>∃(t:TypeId) (s x:Operand) (k m:Nat) (ds:List AV),args=#[s,x]/\argTypes=#[t,t]/\zaF P t=some k/\za6 P t=true/\zrb H k (ρ x)=some (m,ds) /\
   ((m=0/\∃(tg:Tag) (k':Nat) (es:List (List AV)),ρ s=.sl tg k' es/\K (.sl .no k' es) H)\/0<m/\((∃(i off n:Nat) (cs:List AV),ρ s=.ms i off k n n/\H i=some (.cells cs)/\cs.length=off+n*k/\n+m<=1048576/\K (.ms new off k (n+m) (n+m)) ((H.set i .ice).set new (.cells (cs++ds)))/\K (.ms new 0 k (n+m) (n+m)) ((H.set i .ice).set new (.cells (cs.drop off++ds)))) \/
   ∃(tg:Tag) (es:List (List AV)),(ρ s=.sl tg k es\/es=[]/\tg=.nil/\∃k',ρ s=.sl .nil k' [])/\(tg=.clip\/tg=.nil)/\es.length+m<=1048576/\K (.ms new 0 k (es.length+m) (es.length+m)) (H.set new (.cells (es.flatten++ds)))))
 | .makeSlice t x y=>∃(n:Nat) (e:TypeId) (z:AV),zfM (ρ x)=some n/\zfM (ρ y)=some n/\0<n/\n<=1048576/\zcy P t=some e/\zdK P e=some [z]/\zaF P t=some 1/\za6 P t=true /\
   K (.ms new 0 1 n n) (H.set new (.cells (List.replicate n z)))
 | _=>False
def opQ (P:Program) (N:Nat) (lim:Option Nat) (g0:Nat) (ops:Array Oper) (i:Nat) (o:Oper) (K:Fr->zaa->Nat->Prop) (fr:Fr) (H:zaa) (g:Nat):Prop :=
 match zbz o.op with
 | some (f,args) =>
  match tgt (fr.ev N f) with
  | some (k,first,cap)=>zeR P (lim.isSome&&!zfe ops fr i) (zp6 lim ops i) (zlD lim ops i) (g0+i) k (first++args.toList.map (fr.ev N)++cap) (fun r H' g'=>K (fr.put N o.dst r) H' g') H g
  | none=>(lim=none\/zfe ops fr i=true)/\∃q M r M',yOf (fr.ev N f)=some q/\zvT P q.1 q.2.1 q.2.2 (args.toList.map (fr.ev N)) M r M'/\Has H M/\K (fr.put N o.dst r) (H.puts M') g
 | none=>if old lim ops i o.op (fr.ev N) then match zat P (g0+i) o.op (fr.ev N) H with
  | some (r,wr)=>K (fr.put N o.dst r) (H.patch wr) g\/(lim=none/\((∃r',Le r' r/\K (fr.put N o.dst r') (H.patch wr) g)\/zpc P (g0+i) o.op (fr.ev N) H fun r H'=>K (fr.put N o.dst r) H' g))
  | none=>match lim with
   | none=>match zjS o.op with
    | some (t,x,b)=>isSlice P t=true/\zv1 (fr.ev N x) fun e=>K (fr.put N o.dst (.v (.bool (e==b)))) H g
    | none=>ztk P (g0+i) o.op (fr.ev N) H (fun r H'=>K (fr.put N o.dst r) H' g)\/zpc P (g0+i) o.op (fr.ev N) H fun r H'=>K (fr.put N o.dst r) H' g
   | some _=>False
  else zfe ops fr i=true/\∃r wr,zat P (g0+i) o.op (fr.ev N) H=some (r,wr)/\K (fr.put N o.dst r) (H.patch wr) g
def zbs (P:Program) (N:Nat) (lim:Option Nat) (g0:Nat) (ops:Array Oper) (i:Nat) (o:Oper) (K:Fr->zaa->Nat->Prop) (fr:Fr) (H:zaa) (g:Nat):Prop :=
 match o.guard with
 | none=>opQ P N lim g0 ops i o K fr H g
 | some (j,want)=>match gd ops N fr j with
  | some b=>if b=some want then opQ P N lim g0 ops i o K fr H g else K (fr.put N o.dst (.tup [])) H g
  | none=>False
def zaL (P:Program) (N:Nat) (lim:Option Nat) (g0:Nat) (ops:Array Oper) (K:Fr->zaa->Nat->Prop):Nat->List Oper->Fr->zaa->Nat->Prop
 | _,[],fr,H,g=>K fr H g
 | i,o::r,fr,H,g=>zbs P N lim g0 ops i o (zaL P N lim g0 ops K (i+1) r) fr H g
def addrOf:Op->Option Nat
 | .load _ (.tmp t)=>some t
 | .store _ (.tmp t) _=>some t
 | _=>none
def early (ops:Array Oper) (t n:Nat):Bool:=(List.range ops.size).all fun k=>match ops[k]? with
 | some o=>o.dst != some t || decide (k<n)
 | none=>true
def exc (ops:Array Oper) (i j:Nat):Option (Nat×Nat):=match ops[i]?,ops[j]? with
 | some x,some y=>match addrOf x.op,addrOf y.op with
  | some s,some t=>if early ops s i&&early ops t j then some (s,t) else none
  | _,_=>none
 | _,_=>none
def zvV (ops:Array Oper) (i j:Nat):Bool:=match ops[i]?,ops[j]? with
 | some x,some y=>match x.op,y.op,x.guard,y.guard with
  | .mapEntry t (.tmp m) (.tmp k),.lookup t' (.tmp m') (.tmp k') false,none,none=>t==t'&&m==m'&&k==k'
  | _,_,_,_=>false
 | _,_=>false
def tame (ops:Array Oper) (i j:Nat):Option (Nat×Nat×TypeId):=match znd ops i,ops[j]? with
 | some s,some y=>match y.op with
  | .load ty (.tmp t)=>if early ops s i&&early ops t j then some (s,t,ty) else none
  | _=>none
 | _,_=>none
def zlr (ops:Array Oper):List (Nat×Nat×TypeId):=(List.range ops.size).flatMap fun i=>(List.range i).filterMap fun j=>match ops[i]?,ops[j]? with
 | some x,some y=>if behind ops ops.size i j || zgQ (zlp ops i x.op) (zlp ops j y.op) then none else tame ops i j
 | _,_=>none
def zhZ (P:Program) (ty:TypeId):AV->AV->Prop
 | .ptr b d,.ptr c off=>b≠c\/d<off\/(off<d/\zax P ty=none)
 | _,_=>True
def zth (ops:Array Oper):List (Nat×Nat):=(List.range ops.size).flatMap fun i=>(List.range i).filterMap fun j=>match ops[i]?,ops[j]? with
 | some x,some y=>if behind ops ops.size i j || zgQ (zlp ops i x.op) (zlp ops j y.op) then none else exc ops i j
 | _,_=>none
def zkf:AV->AV->Prop
 | .ptr b _,.ptr c _=>b≠c
 | _,_=>True
def zkg (ops:Array Oper):Bool :=
 (List.range ops.size).all fun i=>(match ops[i]? with | some x=>x.after.all fun e=>!Region.binds .any e || decide (e.on<i) | none=>true) &&
  (List.range i).all fun j=>match ops[i]?,ops[j]? with
   | some x,some y=>behind ops ops.size i j || (x.apart ops y&&(zgQ (zlp ops i x.op) (zlp ops j y.op) || (exc ops i j).isSome || zvV ops i j || (tame ops i j).isSome)&&!behind ops ops.size j i)
   | _,_=>true
def _root_.Go.Exit.thenA (next:Fr->zaa->Nat->Prop) (Q:Exit->Fr->zaa->Nat->Prop):Exit->Fr->zaa->Nat->Prop
 | .normal=>next
 | e=>Q e
def _root_.Go.Exit.inBlockA (id:Nat) (Q:Exit->Fr->zaa->Nat->Prop):Exit->Fr->zaa->Nat->Prop
 | .exit id'=>if id'=id then Q .normal else Q (.exit id')
 | e=>Q e
def _root_.Go.Exit.noGotoA (Q:Exit->Fr->zaa->Nat->Prop):Exit->Fr->zaa->Nat->Prop
 | .goto _=>fun _ _ _=>False
 | e=>Q e
def zkh (fr fr':Fr):Prop:=∀t,Le (fr t) (fr' t)
def zjc (fr:Fr) (H:zaa) (g:Nat) (fr0:Fr) (H0:zaa) (g0:Nat):Prop :=
 za2 H g->za2 H0 g0/\∀(G:Gh) (w:World),Hp G H w->∃G',Hp G' H0 w/\Ext G H w G' H0 w/\∀t x,VR G H w (fr t) x->VR G' H0 w (fr0 t) x
theorem zjc.le {fr fr0:Fr} (h:zkh fr0 fr) (H:zaa) (g:Nat):zjc fr H g fr0 H g :=
 fun hf=>⟨hf,fun G w hp=>⟨G,hp,.refl _ _ _,fun t _ hv=>hv.le (h t)⟩⟩
theorem zjc.trans {fr1 fr2 fr3:Fr} {H1 H2 H3:zaa} {g1 g2 g3:Nat} (h:zjc fr1 H1 g1 fr2 H2 g2) (k:zjc fr2 H2 g2 fr3 H3 g3):zjc fr1 H1 g1 fr3 H3 g3:=fun hf=>by
 obtain ⟨hf2,h⟩:=h hf
 obtain ⟨hf3,k⟩:=k hf2
 refine ⟨hf3,fun G w hp=>?_⟩
 obtain ⟨G2,hp2,e2,v2⟩:=h G w hp
 obtain ⟨G3,hp3,e3,v3⟩:=k G2 w hp2
 exact ⟨G3,hp3,e2.trans e3,fun t x hv=>v3 t x (v2 t x hv)⟩
def zjB:Code->Bool
 | .seq a b=>zjB a&&zjB b
 | .cond _ a b=>zjB a&&zjB b
 | .block _ a=>zjB a
 | .loop a=>zjB a
 | .scope a=>zjB a
 | .rangeFunc _ _ _ _=>false
 | _=>true
def rFr (N:Nat) (ps:List Tmp) (ts:List Nat) (cs xs:List AV):Fr :=
 (ps.zip xs).foldl (fun fr q=>fr.put N (some q.1) q.2) (fun t=>match (ts.zip cs).find? (fun q=>q.1==t) with | some q=>q.2 | none=>.any)
def zlF:Code->Option Exit
 | .ret=>some .ret
 | .exit id=>some (.exit id)
 | _=>none
def InB (In:zaa->AV->Prop) (M:BL):Prop:=∀p cs,p∈M->p.2=.cells cs->∀c,c∈cs->∀H,Has H M->In H c
structure RangeQ (In:zaa->AV->Prop) (P:Program) (N:Nat) (ps:List Tmp) (wasg wbody:(Exit->Fr->zaa->Nat->Prop)->Fr->zaa->Nat->Prop) (Q:Exit->Fr->zaa->Nat->Prop) (fr:Fr) (H:zaa) (g:Nat)
  (k:FuncId) (first cap:List AV) (S:Type) (Lo:S->BL) (A A':BL) (pe:S->Option Code) (R:List AV->S->Bool->S->Prop) (s0:S) (ts:List Nat) (cs:List AV):Prop where
 pend:pe s0=none
 has:Has H (A++Lo s0)
 nd:(ids (A++Lo s0)).Nodup
 kinA:zg7 A A'
 kinds:∀s s',zg7 (Lo s) (Lo s')
 isin:∀s,InB In (Lo s)
 caught:∀(j t:Nat) (c:AV),ts[j]?=some t->cs[j]?=some c->t<N/\Le c (fr t)
 pslt:∀t,t∈ps->t<N
 tsnd:∀(j t:Nat),ts[j]?=some t->t∉ps
 round:∀xs s b s',R xs s b s'->pe s=none/\xs.length=ps.length/\∀H' g',za2 H' g'->Has H' (Lo s)->g<g' ->
  wasg (fun e fr2 H2 g2=>e=.normal/\(∀i,i<g'->H2 i=H' i)/\∃fr3,zkh fr3 fr2/\∀q,
   wbody (fun e _ H4 _=>(match pe s' with | none=>b=true/\e=.normal | some c=>b=false/\zlF c=some e)/\Has H4 (Lo s')/\∀i,i<g'/\i∉ids (Lo s)->H4 i=(H'.set g (.obj (some q) (zur q))) i)
    fr3 (H2.set g (.obj (some q) (zur q))) g2) (rFr N ps ts cs xs) H' g'
 contract:∀q:Loop,q.params.toList=ps->∃rv sF,
  ((∀xs s b s',R xs s b s'->zvT P g ts cs xs ((g,.obj (some q) (zhd q (pe s)))::Lo s) (.v (.bool b)) ((g,.obj (some q) (zhd q (pe s')))::Lo s')) ->
   zhc P k (first++[.yld g ts cs]++cap) (A++(g,.obj (some q) (zhd q none))::Lo s0) rv (A'++(g,.obj (some q) (zhd q (pe sF)))::Lo sF)) /\
  ∀H',za2 H' (g+1)->Has H' (A'++Lo sF)->(∀i,i<g/\i∉ids (A++Lo s0)->H' i=H i)->match pe sF with
   | none=>Q .normal fr H' (g+1)
   | some c=>∃e,zlF c=some e/\Q e fr H' (g+1)
inductive In (H:zaa):AV->Prop
 | any:In H .any
 | v (x:Value):In H (.v x)
 | agg (cs:List AV) (h:∀c,c∈cs->In H c):In H (.agg cs)
 | tup (cs:List AV) (h:∀c,c∈cs->In H c):In H (.tup cs)
 | ptr (i off:Nat) (h:H.cel i):In H (.ptr i off)
 | ms (i off k n c:Nat) (h:H.cel i):In H (.ms i off k n c)
 | sl (t:Tag) (k:Nat) (es:List (List AV)) (ht:∀τ,t=.id τ->∃e n,H τ=some (.row e n)) (h:∀e,e∈es->∀c,c∈e->In H c):In H (.sl t k es)
 | ep (cs:List AV) (h:∀c,c∈cs->In H c):In H (.ep cs)
 | fn (f:Fn) (first cap:List AV) (h1:∀c,c∈first->In H c) (h2:∀c,c∈cap->In H c):In H (.fn f first cap)
 | yld (i:Nat) (ts:List Nat) (cs:List AV) (q:Loop) (p:Obj->Prop) (h:H i=some (.obj (some q) p)) (hc:∀(j t:Nat) (c:AV),ts[j]?=some t->cs[j]?=some c->In H c):In H (.yld i ts cs)
 | mp (i:Nat) (k:Option Loop) (p:Obj->Prop) (h:H i=some (.obj k p)):In H (.mp i)
 | it (j i a:Nat) (k k':Option Loop) (p p':Obj->Prop) (hj:H j=some (.obj k p)) (hi:H i=some (.obj k' p')):In H (.it j i a)
def wpA (P:Program) (N:Nat):Code->(Exit->Fr->zaa->Nat->Prop)->Fr->zaa->Nat->Prop
 | .skip,Q,fr,H,g=>Q .normal fr H g
 | .label _,Q,fr,H,g=>Q .normal fr H g
 | .region _ ops draw,Q,fr,H,g =>
  if draw then zkg ops=true/\zaL P N (some g) g ops (fun fr H g=>((∀q,q∈zth ops->zkf (fr q.1) (fr q.2))/\∀q,q∈zlr ops->zhZ P q.2.2 (fr q.1) (fr q.2.1))/\Q .normal fr H g) 0 ops.toList fr H (g+ops.size)
  else zaL P N none g ops (Q .normal) 0 ops.toList fr H (g+ops.size)
 | .seq a b,Q,fr,H,g=>wpA P N a (Exit.thenA (fun fr' H' g'=>∃fr0 H0 g0,zjc fr' H' g' fr0 H0 g0/\wpA P N b Q fr0 H0 g0) Q) fr H g
 | .cond c a b,Q,fr,H,g=>match fr.ev N c with
  | .v (.bool t)=>if t then wpA P N a Q fr H g else wpA P N b Q fr H g
  | _=>False
 | .block id c,Q,fr,H,g=>wpA P N c (Exit.inBlockA id Q) fr H g
 | .scope c,Q,fr,H,g=>wpA P N c (Exit.noGotoA Q) fr H g
 | .loop c,Q,fr,H,g=>∃I:Nat->Fr->zaa->Nat->Prop,(∃n fr0,zkh fr0 fr/\I n fr0 H g) /\
   ∀n fr H g,I n fr H g->za2 H g->wpA P N c (Exit.thenA (fun fr' H' g'=>∃m fr0,m<n/\zkh fr0 fr'/\I m fr0 H' g') Q) fr H g
 | .exit id,Q,fr,H,g=>Q (.exit id) fr H g
 | .ret,Q,fr,H,g=>Q .ret fr H g
 | .rangeFunc gop ps asg body,Q,fr,H,g=>zjB asg=true/\zjB body=true/\∃k first cap,fr.ev N gop=.fn (.func k) first cap /\
   ∃(S:Type) (Lo:S->BL) (A A':BL) (pe:S->Option Code) (R:List AV->S->Bool->S->Prop) (s0:S) (ts:List Nat) (cs:List AV),
    RangeQ In P N ps.toList (fun Q fr H g=>wpA P N asg Q fr H g) (fun Q fr H g=>wpA P N body Q fr H g) Q fr H g k first cap S Lo A A' pe R s0 ts cs
 | _,_,_,_,_=>False
def zf7 (P:Program) (N:Nat) (fr:Fr) (H:zaa):ResultVar->Option AV
 | .tmp t=>some (fr.ev N (.tmp t))
 | .cell a ty=>match fr.ev N (.tmp a) with
  | .ptr i off=>match H i with
   | some (.cells cs)=>zdZ P ty cs off
   | _=>none
  | _=>none
def zgu (P:Program) (N:Nat) (fr:Fr) (H:zaa) (rs:List ResultVar):Option AV :=
 match rs.mapM (zf7 P N fr H) with
 | some [r]=>some r
 | some l=>some (.tup l)
 | none=>none
def zfB (as:List AV):Fr:=fun t=>(as[t]?).getD .any
end Go.AM
