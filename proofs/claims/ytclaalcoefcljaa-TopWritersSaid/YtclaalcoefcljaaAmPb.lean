/-
  The abstract machine: slices whose cells may be written to, at some place among the blocks.
  Conditions: none; it speaks of any program.
-/
import Derived.Test.YtclaalcoefcljaaAmOx
import Derived.Test.YtclaalcoefcljaaAmSf
set_option linter.all false
namespace Go.AM
open Go Go.RowKit
theorem zi1 {α:Type} {f:α->List AV} {k:Nat} (hk:∀a,(f a).length=k):∀(xs:List α) (n:Nat) (u:α),xs[n]?=some u->((xs.map f).flatten.drop (n*k)).take k=f u
 | [],n,u,h=>by simp at h
 | x::xs,0,u,h=>by
  simp at h
  subst h
  simp only [List.map_cons,List.flatten_cons,Nat.zero_mul,List.drop_zero]
  rw [List.take_append_of_le_length (by rw [hk];exact Nat.le_refl _),List.take_of_length_le (by rw [hk];exact Nat.le_refl _)]
 | x::xs,n+1,u,h=>by
  have:=zi1 hk xs n u (by simpa using h)
  simp only [List.map_cons,List.flatten_cons]
  rw [List.drop_append,List.drop_of_length_le (by rw [hk,Nat.succ_mul];omega),List.nil_append,hk,show (n+1)*k-k=n*k by rw [Nat.succ_mul];omega]
  exact this
theorem zio {α:Type} {f:α->List AV} {k:Nat} (hk:∀a,(f a).length=k) {w:α}:∀(xs:List α) (n:Nat),n<xs.length->zdx (xs.map f).flatten (n*k) (f w)=((xs.set n w).map f).flatten
 | [],n,h=>by simp at h
 | x::xs,0,h=>by
  unfold zdx
  simp only [List.map_cons,List.flatten_cons,List.set_cons_zero,Nat.zero_mul,List.take_zero,List.nil_append,Nat.zero_add]
  rw [List.drop_append,List.drop_of_length_le (by rw [hk,hk];exact Nat.le_refl _),List.nil_append,hk,hk,Nat.sub_self,List.drop_zero]
 | x::xs,n+1,h=>by
  have:=zio hk (w:=w) xs n (by simpa using h)
  unfold zdx at this ⊢
  simp only [List.map_cons,List.flatten_cons,List.set_cons_succ]
  rw [←this,List.take_append,List.take_of_length_le (by rw [hk,Nat.succ_mul];omega),List.drop_append,List.drop_of_length_le (by rw [hk,hk,Nat.succ_mul];omega),List.nil_append,hk,hk,show (n+1)*k-k=n*k by rw [Nat.succ_mul];omega,show (n+1)*k+k-k=n*k+k by rw [Nat.succ_mul];omega,List.append_assoc,List.append_assoc,List.append_assoc]
section
variable {P:Program} {N:Nat} {l:List (Nat×AV)} {H:zaa} {g:Nat} {lim:Option Nat} {g0 i:Nat} {ops:Array Oper} {K:Fr->zaa->Nat->Prop} {r:List Oper} {d:Nat} {ty:TypeId} {pos:String} {after:Array Edge}
 {O:Nat->Prop} {H0:zaa} {L L':BL} {b:Nat}
theorem zj6 {t ty':TypeId} {x:Operand} {j k n:Nat} (hd:d<N) (hx:evL N l x=.ms j 0 k n n) (ht:isSlice P t=true)
  (h:za7 P N lim g0 ops K (i+1) r (Fr.of ((d,.v (.int .i64 n))::l)) H g):za7 P N lim g0 ops K i (⟨some d,.call { callee:=.builtin .len,args:=#[x],argTypes:=#[t] },ty',pos,after,none⟩::r) (Fr.of l) H g :=
 zb4 (wr:=none) hd rfl (by cases lim<;>rfl) (by simp [zaE,hx,ht]) h
theorem zbv {α:Type} {t:TypeId} {x y:Operand} {j k n:Nat} {xs:List α} {z:Int} {u:α} (hd:d<N) (hx:evL N l x=.ms j 0 k n n) (hn:n=xs.length) (hy:evL N l y=.v (.int .i64 z)) (hk:zaD P t=some k) (hu:idx xs z=some u)
  (h:za7 P N lim g0 ops K (i+1) r (Fr.of ((d,.ptr j (0+z.toNat*k))::l)) H g):za7 P N lim g0 ops K i (⟨some d,.indexAddr t x y,ty,pos,after,none⟩::r) (Fr.of l) H g:=by
 subst hn
 have h0:=(zoK hu).1
 have hlt:=zkI hu
 refine zb4 (wr:=none) hd rfl (by cases lim<;>rfl) ?_ h
 simp only [zaE,hx,hy,zfi,if_pos h0,Option.bind_some]
 rw [if_pos ⟨hk,hlt⟩]
theorem zex {α:Type} {f:α->List AV} {t:TypeId} {x:Operand} {j:Nat} {xs:List α} {z:Int} {u:α} {c:AV} (n:Nat) (hS:St O H0 L H b) (hd:d<N) (hx:evL N l x=.ptr j (0+z.toNat*1)) (hn:L[n]?=some (j,.cells (xs.map f).flatten)) (hu:idx xs z=some u) (ho:Ok lim ops i j) (hk:∀a,(f a).length=1) (hc:f u=[c]) (ha:zaw P t=none) (hs:scalar P t=true)
  (h:za7 P N lim g0 ops K (i+1) r (Fr.of ((d,c)::l)) H g):za7 P N lim g0 ops K i (⟨some d,.load t x,ty,pos,after,none⟩::r) (Fr.of l) H g :=
 zbJ n hS hd hx hn ho (zhS ha hs (by
  have:=zj5 hk xs _ u (zna hu) (q:=0) (by omega)
  rw [Nat.add_zero] at this
  rw [Nat.zero_add,this,hc]
  rfl)) h
theorem zhT {α:Type} {f:α->List AV} {k:Nat} {t:TypeId} {x:Operand} {j:Nat} {xs:List α} {z:Int} {u:α} (n:Nat) (hS:St O H0 L H b) (hd:d<N) (hx:evL N l x=.ptr j (0+z.toNat*k)) (hn:L[n]?=some (j,.cells (xs.map f).flatten)) (hu:idx xs z=some u) (ho:Ok lim ops i j) (hk:∀a,(f a).length=k) (ha:zaw P t=some k)
  (h:za7 P N lim g0 ops K (i+1) r (Fr.of ((d,.agg (f u))::l)) H g):za7 P N lim g0 ops K i (⟨some d,.load t x,ty,pos,after,none⟩::r) (Fr.of l) H g :=
 zbJ n hS hd hx hn ho (zjp ha (by
  rw [Nat.zero_add,zin hk]
  have:=Nat.mul_le_mul_right k (show z.toNat+1<=xs.length from zkI hu)
  rw [Nat.succ_mul] at this
  exact this) (by rw [Nat.zero_add];exact zi1 hk xs _ u (zna hu))) h
theorem zen {α:Type} {f:α->List AV} {k:Nat} {t:TypeId} {x y:Operand} {j:Nat} {xs:List α} {z:Int} {u w:α} {v:AV} (n:Nat) (hS:St O H0 L H b) (hx:evL N l x=.ptr j (0+z.toNat*k)) (hn:L[n]?=some (j,.cells (xs.map f).flatten)) (hu:idx xs z=some u) (ho:Ok lim ops i j) (hk:∀a,(f a).length=k) (hy:evL N l y=v) (hc:cellsOf v=some (f w)) (hv:zam P t=some k) (hL:putAt L n (.cells ((xs.set z.toNat w).map f).flatten)=L')
  (h:∀H',St O H0 L' H' b->za7 P N lim g0 ops K (i+1) r (Fr.of l) H' g):za7 P N lim g0 ops K i (⟨none,.store t x y,ty,pos,after,none⟩::r) (Fr.of l) H g:=by
 have hlt:=zkI hu
 have hH:=hS.get hn
 have hfl:=zin hk xs
 have hb:=Nat.mul_le_mul_right k (show z.toNat+1<=xs.length from hlt)
 rw [Nat.succ_mul] at hb
 have h2:=h _ (hL▸hS.put hn (.cells ((xs.set z.toNat w).map f).flatten))
 refine zkC (v:=.any) (wr:=some (j,.cells ((xs.set z.toNat w).map f).flatten)) rfl (by
  cases hlim:lim with
  | none=>rfl
  | some q=>simpa [old,hx] using ho q hlim) ?_ h2
 simp only [zaE,hx,hH,hy,hc,Option.bind_some]
 rw [if_pos ⟨by rw [hk];exact hv,by rw [hk,hfl];omega⟩,Nat.zero_add,zio hk xs _ hlt]
theorem zpg {kf:FuncId} {k:Nat} {es:List (List AV)} {bs:List AV} {x:Value} (hs:zaS P kf (.sl .no k es::bs) (.v x)) (hp:∀a,a∈bs->Pure a) (hk:0<k) (hes:∀e,e∈es->e.length=k) (hfl:∀e,e∈es->∀c,c∈e->Flat c) {j:Nat} {H:zaa} {g:Nat} (hf:zcl H g) (hj:H j=some (.cells es.flatten)) :
  Sat P kf (.ms j 0 k es.length es.length::bs) H g (.v x) H g:=by
 refine ⟨(hs E0 0 fun _ _=>rfl).1,fun G w vs hp1 hv=>?_⟩
 have hpure:Pure (.sl .no k es):=.sl k es fun e he c hc=>by
  obtain ⟨y,rfl⟩:=hfl e he c hc
  exact .v y
 have hv0:VRs G E0 w (.sl .no k es::bs) vs:=by
  refine ⟨by simpa using hv.1,fun q c y hc hy=>?_⟩
  cases q with
  | zero =>
   simp at hc
   subst hc
   have h1:=zm6 hj hp1 hk hes rfl (by rw [List.take_of_length_le (by rw [(zcD es hes).1];exact Nat.le_refl _)]) hfl (hv.2 0 _ y rfl hy)
   exact h1.back (fun i x h=>by cases h) hpure.inH
  | succ q=>exact (hv.2 (q+1) c y (by simpa using hc) hy).back (fun i x h=>by cases h) (hp c (List.mem_of_getElem? (by simpa using hc))).inH
 refine ((hs E0 0 fun _ _=>rfl).2 G w vs (hp0 G w) hv0).mono fun en w' ⟨v,G',h1,h2,h3,h4,h5⟩=>?_
 have gw:Grw w w':=⟨fun b hb=>h4.block b hb fun h=>zm5 h,h4.size,h4.os,h4.tape,h4.output⟩
 have q:=Gro.start hp1 gw
 cases h5
 exact ⟨_,G,h1,q.hp,⟨hf,Nat.le_refl _,fun _ _ h=>h⟩,q.ext gw,.v _⟩
theorem zph {f:Operand} {args:Array Operand} {ts:Array TypeId} {kf:FuncId} {first cap bs:List AV} {j k:Nat} {es:List (List AV)} {x:Value} (n:Nat) (hS:St O H0 L H b) (hd:d<N) (ht:tgt (evL N l f)=some (kf,first,cap)) (ha:first++args.toList.map (evL N l)++cap=.ms j 0 k es.length es.length::bs) (hn:L[n]?=some (j,.cells es.flatten))
  (hs:zaS P kf (.sl .no k es::bs) (.v x)) (hp:∀a,a∈bs->Pure a) (hk:0<k) (hes:∀e,e∈es->e.length=k) (hfl:∀e,e∈es->∀c,c∈e->Flat c) (hb:b<=g)
  (h:za7 P N none g0 ops K (i+1) r (Fr.of ((d,.v x)::l)) H g) :
  za7 P N none g0 ops K i (⟨some d,.call { callee:=.value f,args:=args,argTypes:=ts },ty,pos,after,none⟩::r) (Fr.of l) H g :=
 zjn hd ht ha (zpg hs hp hk hes hfl (fun j hj=>hS.fr j (Nat.le_trans hb hj)) (hS.get hn)) (.inl rfl) h
end
end Go.AM
