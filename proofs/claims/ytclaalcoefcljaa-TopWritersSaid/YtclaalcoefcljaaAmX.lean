/-
  The abstract machine: the rules for slices whose cells may be written to.
  Conditions: none; it speaks of any program.
-/
import Derived.Test.YtclaalcoefcljaaAmW
set_option linter.all false
namespace Go.AM
open Go Go.RowKit
section
variable {P:Program} {N:Nat} {l:List (Nat×AV)} {H:zaa} {g:Nat} {lim:Option Nat} {g0 i:Nat} {ops:Array Oper} {K:Fr->zaa->Nat->Prop} {r:List Oper} {d:Nat} {ty:TypeId} {pos:String} {after:Array Edge}
 {O:Nat->Prop} {H0:zaa} {L Lp:List (Nat×Blk)} {b:Nat}
theorem St.perm {L':BL} (hS:St O H0 L H b) (h:L'.Perm L):St O H0 L' H b:=⟨hS.old,fun p hp=>hS.has p (h.mem_iff.1 hp),(h.map (·.1)).nodup_iff.2 hS.nd,hS.fr⟩
def msn (new k n:Nat):AV:=if n=0 then .sl .no k [] else .ms new 0 k n n
theorem zm7 {new k n:Nat} {es:List (List AV)} (h:es.length=n):msl new k es=msn new k n:=by
 subst h
 unfold msl msn
 by_cases e:es=[]
 ·rw [if_pos e,if_pos (by simp [e])]
 ·rw [if_neg e,if_neg (by simpa using e)]
def zfJ (new n:Nat) (es:List (List AV)):BL:=if es.length=n then zd6 new es else [(new,.ice),(new,.ice)]
theorem St.len {j n:Nat} {es:List (List AV)} (hS:St O H0 (Lp++zfJ j n es) H b):es.length=n:=by
 by_cases h:es.length=n
 ·exact h
 ·have:=hS.nd
  rw [List.map_append,List.nodup_append] at this
  have h2:=this.2.1
  unfold zfJ at h2
  rw [if_neg h] at h2
  simp at h2
theorem St.thaw {j n:Nat} {es:List (List AV)} (hS:St O H0 (Lp++zfJ j n es) H b):St O H0 (Lp++zd6 j es) H b:=by
 have h:=hS.len
 unfold zfJ at hS
 rwa [if_pos h] at hS
theorem St.unthaw {j n:Nat} {es:List (List AV)} (h:es.length=n) (hS:St O H0 (Lp++zd6 j es) H b):St O H0 (Lp++zfJ j n es) H b:=by
 unfold zfJ
 rwa [if_pos h]
theorem zoJ {F:Operand} {args:Array Operand} {ts:Array TypeId} {kf:FuncId} {first cap bs:List AV} {mk:AV->AV} {e k:Nat} {es:List (List AV)} (hS:St O H0 Lp H b) (hd:d<N) (ht:tgt (evL N l F)=some (kf,first,cap)) (ha:first++args.toList.map (evL N l)++cap=bs)
  (hs:zk9 P kf bs mk e k es) (hm:zo9 mk) (hp:∀a,a∈bs->Pure a) (hfl:∀e,e∈es->∀c,c∈e->Flat c) {n:Nat} (hn:es.length=n) (hb:b<=g0+i)
  (h:∀H',St O H0 (Lp++zfJ (g0+i) n es) H' (g0+i+1)->za7 P N lim g0 ops K (i+1) r (Fr.of ((d,mk (msn (g0+i) k n))::l)) H' g) :
  za7 P N lim g0 ops K i (⟨some d,.call { callee:=.value F,args:=args,argTypes:=ts },ty,pos,after,none⟩::r) (Fr.of l) H g:=by
 simp only [za7,zcO,opQ,zdy,zig,ht,ha]
 refine zfv.new1 (hs.ms hm hp hfl) ?_
 rw [zgZ hd]
 replace h:=fun H' h'=>h H' (St.unthaw hn h')
 rw [←zm7 hn] at h
 by_cases hne:es=[]
 ·subst hne
  exact h _ (by rw [show zd6 (g0+i) []=[] from rfl,List.append_nil];exact hS.up (by omega))
 ·have e1:(mbl 0 es).map (fun x=>(g0+i,x))=some (g0+i,.cells es.flatten):=by unfold mbl;rw [if_neg hne];rfl
  rw [e1]
  refine h _ ?_
  have e2:zd6 (g0+i) es=[(g0+i,.cells es.flatten)]:=by unfold zd6;rw [if_neg hne]
  rw [e2]
  exact (hS.add (.cells es.flatten) hb).perm (List.perm_append_comm)
theorem zlb {α:Type} {t:TypeId} {x y:Operand} {j k n:Nat} {xs:List α} {f:α->List AV} {z:Int} {u:α} (hS:St O H0 (Lp++zfJ j n (xs.map f)) H b) (hd:d<N) (hx:evL N l x=msn j k n) (hy:evL N l y=.v (.int .i64 z)) (hk:zaD P t=some k) (hu:idx xs z=some u)
  (h:za7 P N lim g0 ops K (i+1) r (Fr.of ((d,.ptr j (0+z.toNat*k))::l)) H g):za7 P N lim g0 ops K i (⟨some d,.indexAddr t x y,ty,pos,after,none⟩::r) (Fr.of l) H g:=by
 obtain ⟨h0,h1⟩:=zmP f hu
 have hlt:z.toNat<(xs.map f).length:=(List.getElem?_eq_some_iff.1 h1).1
 rw [hS.len] at hlt
 unfold msn at hx
 rw [if_neg (by omega)] at hx
 refine zb4 (wr:=none) hd rfl (by cases lim<;>rfl) ?_ h
 simp only [zaE,hx,hy,zfi,if_pos h0,Option.bind_some]
 rw [if_pos ⟨hk,hlt⟩]
theorem zg1 (xs:List Int):(xs.map cI).flatten=xs.map fun x=>AV.v (.int .i64 x):=by
 induction xs with
 | nil=>rfl
 | cons x xs ih=>simp [ih]
theorem Ok.tl {b':Nat} {O:Nat->Prop} {H0 H:zaa} {Lp:BL} {ops:Array Oper} {i j n g0:Nat} {xs:List Int} {z u:Int} (hS:St O H0 (Lp++zfJ j n (xs.map cI)) H b') (hu:idx xs z=some u) (hb:b'<=g0):Ok (some g0) ops i j:=by
 have hne:xs.map cI≠[]:=fun e=>by
  have:xs=[]:=by simpa using e
  rw [this] at hu
  unfold idx at hu
  split at hu<;>simp at hu
 have hT:=hS.thaw
 unfold zd6 at hT
 rw [if_neg hne] at hT
 have:=(hT.has (j,.cells (xs.map cI).flatten) (by simp)).2.1
 exact .lt (Nat.lt_of_lt_of_le this hb)
theorem zpa {t:TypeId} {x:Operand} {j n:Nat} {xs:List Int} {z u:Int} (hS:St O H0 (Lp++zfJ j n (xs.map cI)) H b) (hd:d<N) (hx:evL N l x=.ptr j (0+z.toNat*1)) (hu:idx xs z=some u) (ho:Ok lim ops i j) (ha:zaw P t=none) (hs:scalar P t=true)
  (h:za7 P N lim g0 ops K (i+1) r (Fr.of ((d,.v (.int .i64 u))::l)) H g):za7 P N lim g0 ops K i (⟨some d,.load t x,ty,pos,after,none⟩::r) (Fr.of l) H g:=by
 have hu':xs[z.toNat]?=some u:=by
  unfold idx at hu
  split at hu
  ·exact hu
  ·cases hu
 have hne:xs.map cI≠[]:=fun e=>by
  have:xs=[]:=by simpa using e
  rw [this] at hu'
  simp at hu'
 have hH:=hS.thaw.tail hne
 rw [zg1] at hH
 refine zb4 (wr:=none) hd rfl (by
  cases hlim:lim with
  | none=>rfl
  | some q=>simpa [old,hx] using ho q hlim) ?_ h
 have hp:zfh P t (xs.map fun x=>AV.v (.int .i64 x)) (0+z.toNat*1)=some (.v (.int .i64 u)):=zhS ha hs (by rw [Nat.zero_add,Nat.mul_one,List.getElem?_map,hu'];rfl)
 simp only [zaE,hx,hH,hp,Option.map_some]
theorem zl8 (p:BL) (x:Nat×Blk) (y:Blk):putAt (p++[x]) p.length y=p++[(x.1,y)]:=by
 induction p with
 | nil=>rfl
 | cons q p ih=>simp only [List.cons_append,List.length_cons,putAt,ih]
theorem St.putTail {j:Nat} {es es':List (List AV)} (hS:St O H0 (Lp++zd6 j es) H b) (hne:es≠[]) (hne':es'≠[]):St O H0 (Lp++zd6 j es') (H.set j (.cells es'.flatten)) b:=by
 have e1:zd6 j es=[(j,.cells es.flatten)]:=by unfold zd6;rw [if_neg hne]
 have e2:zd6 j es'=[(j,.cells es'.flatten)]:=by unfold zd6;rw [if_neg hne']
 rw [e1] at hS
 rw [e2,←zl8 Lp (j,.cells es.flatten)]
 exact hS.put (n:=Lp.length) (x0:=.cells es.flatten) (by simp) _
theorem zn6 {t:TypeId} {x y:Operand} {j n:Nat} {xs:List Int} {z u v:Int} (hS:St O H0 (Lp++zfJ j n (xs.map cI)) H b) (hx:evL N l x=.ptr j (0+z.toNat*1)) (hu:idx xs z=some u) (ho:Ok lim ops i j) (hy:evL N l y=.v (.int .i64 v)) (hv:zam P t=some 1)
  (h:∀H',St O H0 (Lp++zfJ j n ((xs.set z.toNat v).map cI)) H' b->za7 P N lim g0 ops K (i+1) r (Fr.of l) H' g):za7 P N lim g0 ops K i (⟨none,.store t x y,ty,pos,after,none⟩::r) (Fr.of l) H g:=by
 have hu':xs[z.toNat]?=some u:=by
  unfold idx at hu
  split at hu
  ·exact hu
  ·cases hu
 have hlt:z.toNat<xs.length:=(List.getElem?_eq_some_iff.1 hu').1
 have hne:xs.map cI≠[]:=fun e=>by
  have:xs=[]:=by simpa using e
  rw [this] at hu'
  simp at hu'
 have hne':(xs.set z.toNat v).map cI≠[]:=fun e=>by
  have:=congrArg List.length e
  simp only [List.length_map,List.length_set,List.length_nil] at this
  omega
 have hlen:=hS.len
 replace hS:=hS.thaw
 have hH:=hS.tail hne
 have h2:=h _ (St.unthaw (by simpa using hlen) (hS.putTail hne hne'))
 have e:zdx ((xs.map cI).flatten) (0+z.toNat*1) [.v (.int .i64 v)]=((xs.set z.toNat v).map cI).flatten:=by
  rw [zg1,zg1,Nat.zero_add,Nat.mul_one]
  unfold zdx
  apply List.ext_getElem?
  intro q
  by_cases q1:q<z.toNat
  ·rw [List.append_assoc,List.getElem?_append_left (by simp;omega),List.getElem?_take,if_pos q1,List.getElem?_map,List.getElem?_map,List.getElem?_set_ne (by omega)]
  ·by_cases q2:q=z.toNat
   ·subst q2
    rw [List.append_assoc,List.getElem?_append_right (by simp;omega)]
    simp [Nat.min_eq_left (Nat.le_of_lt hlt),hlt]
   ·rw [List.getElem?_append_right (by simp;omega),List.getElem?_drop,List.getElem?_map,List.getElem?_map,List.getElem?_set_ne (by omega)]
    congr 2
    simp
    omega
 refine zkC (v:=.any) (wr:=some (j,.cells (((xs.set z.toNat v).map cI).flatten))) rfl (by
  cases hlim:lim with
  | none=>rfl
  | some q=>simpa [old,hx] using ho q hlim) ?_ h2
 have hc:cellsOf (.v (.int .i64 v))=some [.v (.int .i64 v)]:=rfl
 simp only [zaE,hx,hH,hy,hc,Option.bind_some]
 rw [if_pos ⟨hv,by rw [zg1];simp;omega⟩,e]
end
section
variable {P:Program} {N:Nat} {Q:Exit->Fr->zaa->Nat->Prop} {l:List (Nat×AV)} {H:zaa} {g:Nat} {b:Code} {O:Nat->Prop} {H0:zaa} {bd:Nat}
end
theorem zg2:∀c,c∈([]:List AV)->Flat c:=fun _ h=>by simp at h
theorem zeL {x:Value} {cs:List AV} (t:∀c,c∈cs->Flat c):∀c,c∈AV.v x::cs->Flat c:=fun c hc=>by
 rcases List.mem_cons.1 hc with rfl | hc
 ·exact ⟨_,rfl⟩
 ·exact t c hc
theorem zg3 {α:Type} {f:α->List AV} {xs:List α} (h:∀x,∀c,c∈f x->Flat c):∀e,e∈xs.map f->∀c,c∈e->Flat c:=fun e he=>by
 obtain ⟨x,_,rfl⟩:=List.mem_map.1 he
 exact h x
theorem zfA {α:Type} {f:α->List AV} {k:Nat} {xs:List α} (h:∀x,(f x).length=k):∀e,e∈xs.map f->e.length=k:=fun e he=>by
 obtain ⟨x,_,rfl⟩:=List.mem_map.1 he
 exact h x
theorem zqj:zo9 (fun s=>s):=.inl rfl
theorem Flat.pure {c:AV} (h:Flat c):Pure c:=by obtain ⟨x,rfl⟩:=h;exact .v x
section
variable {P:Program} {N:Nat} {Q:Exit->Fr->zaa->Nat->Prop} {l:List (Nat×AV)} {H:zaa} {g:Nat} {a b:Code} {O:Nat->Prop} {H0:zaa} {bd:Nat}
theorem zpb {J:Type} (fr:J->List (Nat×AV)) (R:J->zaa->Nat->Prop) (hb:∀j H g,R j H g->wpA P N b Q (Fr.of (fr j)) H g)
  (ha:wpA P N a (Exit.thenA (fun fr' H' g'=>∃j H0 g0,zfM fr' H' g' (Fr.of (fr j)) H0 g0/\R j H0 g0) Q) (Fr.of l) H g):wpA P N (.seq a b) Q (Fr.of l) H g:=by
 refine zo1 (l:=l) ?_
 refine zmM ha fun e fr' H' g' hq=>?_
 cases e with
 | normal =>
  obtain ⟨j,H0,g0,hd,hR⟩:=hq
  exact ⟨_,_,_,hd,hb j H0 g0 hR⟩
 | _=>exact hq
theorem zkH {J:Type} {fr:J->List (Nat×AV)} {R:J->zaa->Nat->Prop} (h:Q .ret (Fr.of l) H g) :
  Exit.thenA (fun fr' H' g'=>∃j H0 g0,zfM fr' H' g' (Fr.of (fr j)) H0 g0/\R j H0 g0) Q .ret (Fr.of l) H g:=h
theorem zpc (P:Program) {J:Type} {fr:J->List (Nat×AV)} {R:J->zaa->Nat->Prop} {Lp:BL} {i t k:Nat} {es:List (List AV)} {m:Nat} (hS:St O H0 (Lp++zfJ i m es) H bd) (ht:lk l t=msn i k m) (hk:0<k) (hes:∀e,e∈es->e.length=k) (hfl:∀e,e∈es->∀c,c∈e->Flat c)
  (v:J) (hl:FLe ((t,.sl .no k es)::l) (fr v)) (h:∀H',St O H0 Lp H' bd->R v H' g) :
  Exit.thenA (fun fr' H' g'=>∃j H0 g0,zfM fr' H' g' (Fr.of (fr j)) H0 g0/\R j H0 g0) Q .normal (Fr.of l) H g:=by
 have key:=zoI (P:=P) (N:=0) (b:=.skip) (Q:=fun _ fr0 H1 g1=>fr0=Fr.of (fr v)/\R v H1 g1) hS.thaw (by rw [ht,zm7 hS.len]) hk hes hfl (fun H' hS'=>⟨Fr.of (fr v),H',g,.le hl.le _ _,rfl,h H' hS'⟩)
 obtain ⟨fr0,H1,g1,hd,rfl,hR⟩:=key
 exact ⟨v,H1,g1,hd,hR⟩
end
end Go.AM
