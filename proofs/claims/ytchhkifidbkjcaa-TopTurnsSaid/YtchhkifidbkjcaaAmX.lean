/-
  The abstract machine: the rules for slices whose cells may be written to.
  Conditions: none; it speaks of any program.
-/
import Derived.Test.YtchhkifidbkjcaaAmW
set_option linter.all false
namespace Go.AM
open Go Go.RowKit
section
variable {P:Program} {N:Nat} {l:List (Nat×AV)} {H:zaa} {g:Nat} {lim:Option Nat} {g0 i:Nat} {ops:Array Oper} {K:Fr->zaa->Nat->Prop} {r:List Oper} {d:Nat} {ty:TypeId} {pos:String} {after:Array Edge}
 {O:Nat->Prop} {H0:zaa} {L Lp:List (Nat×Blk)} {b:Nat}
theorem St.perm {L':BL} (hS:St O H0 L H b) (h:L'.Perm L):St O H0 L' H b:=⟨hS.old,fun p hp=>hS.has p (h.mem_iff.1 hp),(h.map (·.1)).nodup_iff.2 hS.nd,hS.fr⟩
def msn (new k n:Nat):AV:=if n=0 then .sl .no k [] else .ms new 0 k n n
def zfT (new n:Nat) (es:List (List AV)):BL:=if es.length=n then zfx new es else [(new,.ice),(new,.ice)]
theorem St.len {j n:Nat} {es:List (List AV)} (hS:St O H0 (Lp++zfT j n es) H b):es.length=n:=by
 by_cases h:es.length=n
 ·exact h
 ·have:=hS.nd
  rw [List.map_append,List.nodup_append] at this
  have h2:=this.2.1
  unfold zfT at h2
  rw [if_neg h] at h2
  simp at h2
theorem St.thaw {j n:Nat} {es:List (List AV)} (hS:St O H0 (Lp++zfT j n es) H b):St O H0 (Lp++zfx j es) H b:=by
 have h:=hS.len
 unfold zfT at hS
 rwa [if_pos h] at hS
theorem St.unthaw {j n:Nat} {es:List (List AV)} (h:es.length=n) (hS:St O H0 (Lp++zfx j es) H b):St O H0 (Lp++zfT j n es) H b:=by
 unfold zfT
 rwa [if_pos h]
theorem zwn {t ty':TypeId} {x:Operand} {j k n:Nat} (hd:d<N) (hx:evL N l x=msn j k n) (ht:isSlice P t=true)
  (h:zaL P N lim g0 ops K (i+1) r (Fr.of ((d,.v (.int .i64 n))::l)) H g):zaL P N lim g0 ops K i (⟨some d,.call { callee:=.builtin .len,args:=#[x],argTypes:=#[t] },ty',pos,after,none⟩::r) (Fr.of l) H g:=by
 refine za3 (wr:=none) hd rfl (by cases lim<;>rfl) ?_ h
 unfold msn at hx
 by_cases hne:n=0
 ·subst hne
  rw [if_pos rfl] at hx
  simp [zat,hx,ht]
 ·rw [if_neg hne] at hx
  simp [zat,hx,ht]
theorem zj3 {α:Type} {t:TypeId} {x y:Operand} {j k n:Nat} {xs:List α} {f:α->List AV} {z:Int} {u:α} (hS:St O H0 (Lp++zfT j n (xs.map f)) H b) (hd:d<N) (hx:evL N l x=msn j k n) (hy:evL N l y=.v (.int .i64 z)) (hk:zaF P t=some k) (hu:idx xs z=some u)
  (h:zaL P N lim g0 ops K (i+1) r (Fr.of ((d,.ptr j (0+z.toNat*k))::l)) H g):zaL P N lim g0 ops K i (⟨some d,.indexAddr t x y,ty,pos,after,none⟩::r) (Fr.of l) H g:=by
 obtain ⟨h0,h1⟩:=zrG f hu
 have hlt:z.toNat<(xs.map f).length:=(List.getElem?_eq_some_iff.1 h1).1
 rw [hS.len] at hlt
 unfold msn at hx
 rw [if_neg (by omega)] at hx
 refine za3 (wr:=none) hd rfl (by cases lim<;>rfl) ?_ h
 simp only [zat,hx,hy,zfM,if_pos h0,Option.bind_some]
 rw [if_pos ⟨hk,hlt⟩]
theorem zhu (xs:List Int):(xs.map cI).flatten=xs.map fun x=>AV.v (.int .i64 x):=by
 induction xs with
 | nil=>rfl
 | cons x xs ih=>simp [ih]
theorem Ok.tl {b':Nat} {O:Nat->Prop} {H0 H:zaa} {Lp:BL} {ops:Array Oper} {i j n g0:Nat} {xs:List Int} {z u:Int} (hS:St O H0 (Lp++zfT j n (xs.map cI)) H b') (hu:idx xs z=some u) (hb:b'<=g0):Ok (some g0) ops i j:=by
 have hne:xs.map cI≠[]:=fun e=>by
  have:xs=[]:=by simpa using e
  rw [this] at hu
  unfold idx at hu
  split at hu<;>simp at hu
 have hT:=hS.thaw
 unfold zfx at hT
 rw [if_neg hne] at hT
 have:=(hT.has (j,.cells (xs.map cI).flatten) (by simp)).2.1
 exact .lt (Nat.lt_of_lt_of_le this hb)
theorem zrR {t:TypeId} {x:Operand} {j n:Nat} {xs:List Int} {z u:Int} (hS:St O H0 (Lp++zfT j n (xs.map cI)) H b) (hd:d<N) (hx:evL N l x=.ptr j (0+z.toNat*1)) (hu:idx xs z=some u) (ho:Ok lim ops i j) (ha:zax P t=none) (hs:scalar P t=true)
  (h:zaL P N lim g0 ops K (i+1) r (Fr.of ((d,.v (.int .i64 u))::l)) H g):zaL P N lim g0 ops K i (⟨some d,.load t x,ty,pos,after,none⟩::r) (Fr.of l) H g:=by
 have hu':xs[z.toNat]?=some u:=by
  unfold idx at hu
  split at hu
  ·exact hu
  ·cases hu
 have hne:xs.map cI≠[]:=fun e=>by
  have:xs=[]:=by simpa using e
  rw [this] at hu'
  simp at hu'
 have hH:=hS.thaw.tail hne
 rw [zhu] at hH
 refine za3 (wr:=none) hd rfl (by
  cases hlim:lim with
  | none=>rfl
  | some q=>simpa [old,hx] using ho q hlim) ?_ h
 have hp:zdZ P t (xs.map fun x=>AV.v (.int .i64 x)) (0+z.toNat*1)=some (.v (.int .i64 u)):=ziA ha hs (by rw [Nat.zero_add,Nat.mul_one,List.getElem?_map,hu'];rfl)
 simp only [zat,hx,hH,hp,Option.map_some]
theorem zqy (p:BL) (x:Nat×Blk) (y:Blk):putAt (p++[x]) p.length y=p++[(x.1,y)]:=by
 induction p with
 | nil=>rfl
 | cons q p ih=>simp only [List.cons_append,List.length_cons,putAt,ih]
theorem St.putTail {j:Nat} {es es':List (List AV)} (hS:St O H0 (Lp++zfx j es) H b) (hne:es≠[]) (hne':es'≠[]):St O H0 (Lp++zfx j es') (H.set j (.cells es'.flatten)) b:=by
 have e1:zfx j es=[(j,.cells es.flatten)]:=by unfold zfx;rw [if_neg hne]
 have e2:zfx j es'=[(j,.cells es'.flatten)]:=by unfold zfx;rw [if_neg hne']
 rw [e1] at hS
 rw [e2,←zqy Lp (j,.cells es.flatten)]
 exact hS.put (n:=Lp.length) (x0:=.cells es.flatten) (by simp) _
theorem zpq {t:TypeId} {x y:Operand} {j n:Nat} {xs:List Int} {z u v:Int} (hS:St O H0 (Lp++zfT j n (xs.map cI)) H b) (hx:evL N l x=.ptr j (0+z.toNat*1)) (hu:idx xs z=some u) (ho:Ok lim ops i j) (hy:evL N l y=.v (.int .i64 v)) (hv:zar P t=some 1)
  (h:∀H',St O H0 (Lp++zfT j n ((xs.set z.toNat v).map cI)) H' b->zaL P N lim g0 ops K (i+1) r (Fr.of l) H' g):zaL P N lim g0 ops K i (⟨none,.store t x y,ty,pos,after,none⟩::r) (Fr.of l) H g:=by
 have hu':xs[z.toNat]?=some u:=by
  unfold idx at hu
  split at hu
  ·exact hu
  ·cases hu
 have hlt:z.toNat<xs.length:=(List.getElem?_eq_some_iff.1 hu').1
 have hne:xs.map cI≠[]:=fun e=>by
  have:xs=[]:=by simpa using e
  rw [this] at hu'
  simp at hu'
 have hne':(xs.set z.toNat v).map cI≠[]:=fun e=>by
  have:=congrArg List.length e
  simp only [List.length_map,List.length_set,List.length_nil] at this
  omega
 have hlen:=hS.len
 replace hS:=hS.thaw
 have hH:=hS.tail hne
 have h2:=h _ (St.unthaw (by simpa using hlen) (hS.putTail hne hne'))
 have e:zdL ((xs.map cI).flatten) (0+z.toNat*1) [.v (.int .i64 v)]=((xs.set z.toNat v).map cI).flatten:=by
  rw [zhu,zhu,Nat.zero_add,Nat.mul_one]
  unfold zdL
  apply List.ext_getElem?
  intro q
  by_cases q1:q<z.toNat
  ·rw [List.append_assoc,List.getElem?_append_left (by simp;omega),List.getElem?_take,if_pos q1,List.getElem?_map,List.getElem?_map,List.getElem?_set_ne (by omega)]
  ·by_cases q2:q=z.toNat
   ·subst q2
    rw [List.append_assoc,List.getElem?_append_right (by simp;omega)]
    simp [Nat.min_eq_left (Nat.le_of_lt hlt),hlt]
   ·rw [List.getElem?_append_right (by simp;omega),List.getElem?_drop,List.getElem?_map,List.getElem?_map,List.getElem?_set_ne (by omega)]
    congr 2
    simp
    omega
 refine zho (v:=.any) (wr:=some (j,.cells (((xs.set z.toNat v).map cI).flatten))) rfl (by
  cases hlim:lim with
  | none=>rfl
  | some q=>simpa [old,hx] using ho q hlim) ?_ h2
 have hc:cellsOf (.v (.int .i64 v))=some [.v (.int .i64 v)]:=rfl
 simp only [zat,hx,hH,hy,hc,Option.bind_some]
 rw [if_pos ⟨hv,by rw [zhu];simp;omega⟩,e]
end
section
variable {P:Program} {N:Nat} {Q:Exit->Fr->zaa->Nat->Prop} {l:List (Nat×AV)} {H:zaa} {g:Nat} {b:Code} {O:Nat->Prop} {H0:zaa} {bd:Nat}
theorem zwo {Lp:BL} {i t k n c:Nat} {cs:List AV} {es:List (List AV)} (hS:St O H0 (Lp++[(i,.cells cs)]) H bd) (ht:lk l t=.ms i 0 k n c) (hk:0<k) (hes:∀e,e∈es->e.length=k) (hfl:∀e,e∈es->∀c,c∈e->Flat c) (hn:n=es.length) (hcs:cs.take (n*k)=es.flatten)
  (h:∀H',St O H0 Lp H' bd->Exit.thenA (fun fr' H' g'=>∃fr0 H0 g0,zjc fr' H' g' fr0 H0 g0/\wpA P N b Q fr0 H0 g0) Q .normal (Fr.of ((t,.sl .no k es)::l)) H' g) :
  Exit.thenA (fun fr' H' g'=>∃fr0 H0 g0,zjc fr' H' g' fr0 H0 g0/\wpA P N b Q fr0 H0 g0) Q .normal (Fr.of l) H g:=by
 have hi:H i=some (.cells cs):=(hS.has (i,.cells cs) (by simp)).2.2
 have hnd:=hS.nd
 rw [List.map_append,List.nodup_append] at hnd
 have hni:∀p,p∈Lp->p.1≠i:=fun p hp e=>hnd.2.2 p.1 (List.mem_map_of_mem (f:=(·.1)) hp) i (by simp) e
 have hOi:¬O i/\i<bd:=by
  have:=hS.has (i,.cells cs) (by simp)
  exact ⟨this.1,this.2.1⟩
 obtain ⟨fr0,H1,g1,hd,hw⟩:=h (H.set i .ice) ⟨fun j hj=>⟨(hS.old j hj).1,(zaa.set_ne _ _ (show j≠i from fun e=>hOi.1 (by rw [←e];exact hj))).trans (hS.old j hj).2⟩,fun p hp=>by
  have:=hS.has p (List.mem_append.2 (.inl hp))
  exact ⟨this.1,this.2.1,by rw [zaa.set_ne _ _ (hni p hp)];exact this.2.2⟩,hnd.1,fun j hj=>by rw [zaa.set_ne _ _ (by omega)];exact hS.fr j hj⟩
 refine ⟨fr0,H1,g1,zjc.trans (fun hf=>?_) hd,hw⟩
 obtain ⟨h1,h2⟩:=zmk hi hf
 refine ⟨h1,fun G w hp=>?_⟩
 obtain ⟨q1,q2⟩:=h2 G w hp
 refine ⟨G,q1,q2,fun t' x hv=>?_⟩
 show VR G _ w (lk _ t') x
 by_cases e:t'=t
 ·subst e
  rw [zkz]
  have hv:VR G H w (lk l t') x:=hv
  rw [ht] at hv
  exact zuz hi hp hk hes hn hcs hfl hv
 ·rw [zoA e]
  exact VR.evo q2.evo hv
end
theorem zwp {α:Type} {f:α->List AV} {xs:List α} (h:∀x,∀c,c∈f x->Flat c):∀e,e∈xs.map f->∀c,c∈e->Flat c:=fun e he=>by
 obtain ⟨x,_,rfl⟩:=List.mem_map.1 he
 exact h x
theorem Flat.pure {c:AV} (h:Flat c):Pure c:=by obtain ⟨x,rfl⟩:=h;exact .v x
section
variable {P:Program} {N:Nat} {Q:Exit->Fr->zaa->Nat->Prop} {l:List (Nat×AV)} {H:zaa} {g:Nat} {a b:Code} {O:Nat->Prop} {H0:zaa} {bd:Nat}
end
end Go.AM
