/-
  The abstract machine: slices whose cells may be written to, at some place among the blocks.
  Conditions: none; it speaks of any program.
-/
import Derived.Test.YtebfppngmmdfkaaGreatAmOx
import Derived.Test.YtebfppngmmdfkaaGreatAmSf
set_option linter.all false
namespace Go.AM
open Go Go.RowKit
theorem zlf {α:Type} {f:α->List AV} {k:Nat} (hk:∀a,(f a).length=k) {w:α}:∀(xs:List α) (n:Nat),n<xs.length->zds (xs.map f).flatten (n*k) (f w)=((xs.set n w).map f).flatten
 | [],n,h=>by simp at h
 | x::xs,0,h=>by
  unfold zds
  simp only [List.map_cons,List.flatten_cons,List.set_cons_zero,Nat.zero_mul,List.take_zero,List.nil_append,Nat.zero_add]
  rw [List.drop_append,List.drop_of_length_le (by rw [hk,hk];exact Nat.le_refl _),List.nil_append,hk,hk,Nat.sub_self,List.drop_zero]
 | x::xs,n+1,h=>by
  have:=zlf hk (w:=w) xs n (by simpa using h)
  unfold zds at this ⊢
  simp only [List.map_cons,List.flatten_cons,List.set_cons_succ]
  rw [←this,List.take_append,List.take_of_length_le (by rw [hk,Nat.succ_mul];omega),List.drop_append,List.drop_of_length_le (by rw [hk,hk,Nat.succ_mul];omega),List.nil_append,hk,hk,show (n+1)*k-k=n*k by rw [Nat.succ_mul];omega,show (n+1)*k+k-k=n*k+k by rw [Nat.succ_mul];omega,List.append_assoc,List.append_assoc,List.append_assoc]
section
variable {P:Program} {N:Nat} {l:List (Nat×AV)} {H:zab} {g:Nat} {lim:Option Nat} {g0 i:Nat} {ops:Array Oper} {K:Fr->zab->Nat->Prop} {r:List Oper} {d:Nat} {ty:TypeId} {pos:String} {after:Array Edge}
 {O:Nat->Prop} {H0:zab} {L L':BL} {b:Nat}
theorem zvu {t ty':TypeId} {x:Operand} {j k n:Nat} (hd:d<N) (hx:evL N l x=.ms j 0 k n n) (ht:isSlice P t=true)
  (h:za1 P N lim g0 ops K (i+1) r (Fr.of ((d,.v (.int .i64 n))::l)) H g):za1 P N lim g0 ops K i (⟨some d,.call { callee:=.builtin .len,args:=#[x],argTypes:=#[t] },ty',pos,after,none⟩::r) (Fr.of l) H g :=
 zbC (wr:=none) hd rfl (by cases lim<;>rfl) (by simp [zaE,hx,ht]) h
theorem zpl {α:Type} {t:TypeId} {x y:Operand} {j k n:Nat} {xs:List α} {z:Int} {u:α} (hd:d<N) (hx:evL N l x=.ms j 0 k n n) (hn:n=xs.length) (hy:evL N l y=.v (.int .i64 z)) (hk:zaR P t=some k) (hu:idx xs z=some u)
  (h:za1 P N lim g0 ops K (i+1) r (Fr.of ((d,.ptr j (0+z.toNat*k))::l)) H g):za1 P N lim g0 ops K i (⟨some d,.indexAddr t x y,ty,pos,after,none⟩::r) (Fr.of l) H g:=by
 subst hn
 have h0:=(ziQ hu).1
 have hlt:=zoB hu
 refine zbC (wr:=none) hd rfl (by cases lim<;>rfl) ?_ h
 simp only [zaE,hx,hy,zgk,if_pos h0,Option.bind_some]
 rw [if_pos ⟨hk,hlt⟩]
theorem zut {α:Type} {f:α->List AV} {t:TypeId} {x:Operand} {j:Nat} {xs:List α} {z:Int} {u:α} {c:AV} (n:Nat) (hS:St O H0 L H b) (hd:d<N) (hx:evL N l x=.ptr j (0+z.toNat*1)) (hn:L[n]?=some (j,.cells (xs.map f).flatten)) (hu:idx xs z=some u) (ho:Ok lim ops i j) (hk:∀a,(f a).length=1) (hc:f u=[c]) (ha:zaG P t=none) (hs:scalar P t=true)
  (h:za1 P N lim g0 ops K (i+1) r (Fr.of ((d,c)::l)) H g):za1 P N lim g0 ops K i (⟨some d,.load t x,ty,pos,after,none⟩::r) (Fr.of l) H g :=
 zaW n hS hd hx hn ho (zky ha hs (by
  have:=zns hk xs _ u (zus hu) (q:=0) (by omega)
  rw [Nat.add_zero] at this
  rw [Nat.zero_add,this,hc]
  rfl)) h
theorem zs0 {α:Type} {f:α->List AV} {k:Nat} {t:TypeId} {x y:Operand} {j:Nat} {xs:List α} {z:Int} {u w:α} {v:AV} (n:Nat) (hS:St O H0 L H b) (hx:evL N l x=.ptr j (0+z.toNat*k)) (hn:L[n]?=some (j,.cells (xs.map f).flatten)) (hu:idx xs z=some u) (ho:Ok lim ops i j) (hk:∀a,(f a).length=k) (hy:evL N l y=v) (hc:cellsOf v=some (f w)) (hv:zaA P t=some k) (hL:putAt L n (.cells ((xs.set z.toNat w).map f).flatten)=L')
  (h:∀H',St O H0 L' H' b->za1 P N lim g0 ops K (i+1) r (Fr.of l) H' g):za1 P N lim g0 ops K i (⟨none,.store t x y,ty,pos,after,none⟩::r) (Fr.of l) H g:=by
 have hlt:=zoB hu
 have hH:=hS.get hn
 have hfl:=znt hk xs
 have hb:=Nat.mul_le_mul_right k (show z.toNat+1<=xs.length from hlt)
 rw [Nat.succ_mul] at hb
 have h2:=h _ (hL▸hS.put hn (.cells ((xs.set z.toNat w).map f).flatten))
 refine zmv (v:=.any) (wr:=some (j,.cells ((xs.set z.toNat w).map f).flatten)) rfl (by
  cases hlim:lim with
  | none=>rfl
  | some q=>simpa [old,hx] using ho q hlim) ?_ h2
 simp only [zaE,hx,hH,hy,hc,Option.bind_some]
 rw [if_pos ⟨by rw [hk];exact hv,by rw [hk,hfl];omega⟩,Nat.zero_add,zlf hk xs _ hlt]
end
end Go.AM
