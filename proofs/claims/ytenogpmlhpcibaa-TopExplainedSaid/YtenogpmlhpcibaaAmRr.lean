/-
  The abstract machine: a slice of slices of its own, that are appended to in place.
  Conditions: none; it speaks of any program.
-/
import Derived.Test.YtenogpmlhpcibaaAmSk
set_option linter.all false
namespace Go.AM
open Go Go.RowKit
section
variable {α:Type} (f:α->List AV) (k:Nat) (e:TypeId)
def zcD (rs:List Nat) (ys:List (List α)):List AV:=List.zipWith (fun r xs=>AV.sl (.id r) k (xs.map f)) rs ys
def ze6 (rs:List Nat) (ys:List (List α)):BL:=List.zipWith (fun r xs=>(r,Blk.row e xs.length)) rs ys
def zb7 (b m:Nat) (rs:List Nat) (ys:List (List α)):BL:=if rs.length=ys.length/\ys.length=m/\0<m then (b,.cells (zcD f k rs ys))::ze6 e rs ys else [(b,.ice),(b,.ice)]
def zjZ (b m:Nat) (rs:List Nat) (ys:List (List α)):BL:=if rs.length=ys.length then zb7 f k e b m rs ys else if rs.length+1=ys.length/\ys.length=m/\ys.getLast?.map List.isEmpty=some true then (b,.cells (zcD f k rs ys++[.sl .nil 0 []]))::ze6 e rs ys else [(b,.ice),(b,.ice)]
def zpo (b m:Nat) (rs:List Nat) (ys ys':List (List α)):BL:=if rs.length=ys.length/\ys'.length=ys.length/\ys.length=m/\0<m then (b,.cells (zcD f k rs ys))::ze6 e rs ys' else [(b,.ice),(b,.ice)]
end
section
variable {α:Type} {f:α->List AV} {k:Nat} {e:TypeId} {O:Nat->Prop} {H0 H:zab} {Lp:BL} {b bd m:Nat} {rs:List Nat} {ys ys':List (List α)}
theorem zqf (hS:St O H0 (Lp++[(b,.ice),(b,.ice)]) H bd):False:=by
 have:=hS.nd
 rw [List.map_append,List.nodup_append] at this
 simp at this
theorem St.rl (hS:St O H0 (Lp++zb7 f k e b m rs ys) H bd):rs.length=ys.length/\ys.length=m/\0<m:=by
 unfold zb7 at hS
 split at hS
 ·assumption
 ·exact (zqf hS).elim
theorem St.ra (hS:St O H0 (Lp++zpo f k e b m rs ys ys') H bd):rs.length=ys.length/\ys'.length=ys.length/\ys.length=m/\0<m:=by
 unfold zpo at hS
 split at hS
 ·assumption
 ·exact (zqf hS).elim
theorem zgP (h:rs.length=ys.length/\ys.length=m/\0<m):zb7 f k e b m rs ys=(b,.cells (zcD f k rs ys))::ze6 e rs ys:=by unfold zb7;rw [if_pos h]
theorem zqg (h:rs.length=ys.length/\ys'.length=ys.length/\ys.length=m/\0<m):zpo f k e b m rs ys ys'=(b,.cells (zcD f k rs ys))::ze6 e rs ys':=by unfold zpo;rw [if_pos h]
theorem St.toP (hS:St O H0 (Lp++zb7 f k e b m rs ys) H bd):St O H0 (Lp++zjZ f k e b m rs ys) H bd:=by
 have h:=hS.rl
 unfold zjZ
 rw [if_pos h.1]
 exact hS
theorem St.bR (hS:St O H0 (Lp++zb7 f k e b m rs ys) H bd):b<bd:=by
 have h:=hS.rl
 rw [zgP h] at hS
 exact (hS.has (b,.cells (zcD f k rs ys)) (by simp)).2.1
theorem zpp {A B:BL} {x:Nat×Blk}:(A++x::B)[A.length]?=some x:=by simp
theorem zmF {n:Nat} (h:n<rs.length):rs[n]?=some (rs.getD n 0):=by simp [List.getD,h]
theorem zrG {n:Nat} {u:List α} (hl:rs.length=ys.length) (hu:ys[n]?=some u):(zcD f k rs ys)[n]?=some (.sl (.id (rs.getD n 0)) k (u.map f)):=by
 have hn:=(List.getElem?_eq_some_iff.1 hu).1
 unfold zcD
 rw [List.getElem?_zipWith,hu,zmF (by omega)]
theorem zob {n:Nat} {u:List α} (hl:rs.length=ys.length) (hu:ys[n]?=some u):(ze6 e rs ys)[n]?=some (rs.getD n 0,.row e u.length):=by
 have hn:=(List.getElem?_eq_some_iff.1 hu).1
 unfold ze6
 rw [List.getElem?_zipWith,hu,zmF (by omega)]
theorem ziO {A B:BL} {n:Nat} {x:Blk}:putAt (A++B) (A.length+n) x=A++putAt B n x:=by
 induction A with
 | nil=>rw [List.nil_append,List.nil_append];congr 1;simp
 | cons p A ih =>
  have:(p::A).length+n=(A.length+n)+1:=by simp;omega
  rw [this]
  simp only [List.cons_append,putAt,ih]
theorem zoc:∀{rs:List Nat} {ys:List (List α)} {n:Nat} {u:List α},rs.length=ys.length->n<ys.length->putAt (ze6 e rs ys) n (.row e u.length)=ze6 e rs (ys.set n u)
 | [],[],n,u,_,hn=>by simp at hn
 | r::rs,y::ys,0,u,_,_=>rfl
 | r::rs,y::ys,n+1,u,hl,hn=>by
  have:=zoc (rs:=rs) (ys:=ys) (n:=n) (u:=u) (by simpa using hl) (by simpa using hn)
  show (r,Blk.row e y.length)::putAt (ze6 e rs ys) n _=(r,Blk.row e y.length)::ze6 e rs (ys.set n u)
  rw [this]
 | [],_::_,_,_,h,_=>by simp at h
 | _::_,[],_,_,h,_=>by simp at h
theorem zmG:∀{rs:List Nat} {ys:List (List α)} {n:Nat} {u:List α},rs.length=ys.length->n<ys.length->(zcD f k rs ys).set n (.sl (.id (rs.getD n 0)) k (u.map f))=zcD f k rs (ys.set n u)
 | [],[],n,u,_,hn=>by simp at hn
 | r::rs,y::ys,0,u,_,_=>rfl
 | r::rs,y::ys,n+1,u,hl,hn=>by
  have:=zmG (rs:=rs) (ys:=ys) (n:=n) (u:=u) (by simpa using hl) (by simpa using hn)
  show AV.sl (.id r) k (y.map f)::(zcD f k rs ys).set n (.sl (.id ((r::rs).getD (n+1) 0)) k (u.map f))=AV.sl (.id r) k (y.map f)::zcD f k rs (ys.set n u)
  rw [←this]
  rfl
 | [],_::_,_,_,h,_=>by simp at h
 | _::_,[],_,_,h,_=>by simp at h
theorem zj0 (hl:rs.length=ys.length):(zcD f k rs ys).length=ys.length:=by unfold zcD;simp [hl]
theorem zhX {β γ δ:Type} (g:β->γ->δ):∀{xs:List β} {zs:List γ} {ws:List γ},xs.length=zs.length->List.zipWith g xs (zs++ws)=List.zipWith g xs zs
 | [],[],ws,_=>by simp
 | x::xs,z::zs,ws,h=>by
  simp only [List.cons_append,List.zipWith_cons_cons]
  rw [zhX g (by simpa using h)]
 | [],_::_,_,h=>by simp at h
 | _::_,[],_,h=>by simp at h
end
section
variable {P:Program} {N:Nat} {l:List (Nat×AV)} {H:zab} {g:Nat} {lim:Option Nat} {g0 i:Nat} {ops:Array Oper} {K:Fr->zab->Nat->Prop} {r:List Oper} {d:Nat} {ty:TypeId} {pos:String} {after:Array Edge}
 {O:Nat->Prop} {H0:zab} {Lp:BL} {b bd k m:Nat} {e:TypeId} {α:Type} {f:α->List AV} {rs:List Nat} {ys ys':List (List α)}
theorem Ok.rr {bd':Nat} {H':zab} (hS:St O H0 (Lp++zb7 f k e b m rs ys) H' bd') (hb:bd'<=g0):Ok (some g0) ops i b:=.lt (Nat.lt_of_lt_of_le hS.bR hb)
theorem Ok.rw_ {bd':Nat} {H':zab} {z:Int} {u:List α} (hS:St O H0 (Lp++zb7 f k e b m rs ys) H' bd') (hu:idx ys z=some u) (hb:bd'<=g0):Ok (some g0) ops i (rs.getD z.toNat 0):=by
 have h:=hS.rl
 rw [zgP h] at hS
 have hu':ys[z.toNat]?=some u:=by
  unfold idx at hu
  rwa [if_pos (zeB hu).1] at hu
 have hm:=List.mem_of_getElem? (zob (e:=e) h.1 hu')
 exact .lt (Nat.lt_of_lt_of_le (hS.has (rs.getD z.toNat 0,.row e u.length) (List.mem_append.2 (.inr (List.mem_cons_of_mem _ hm)))).2.1 hb)
theorem St.lenL (hS:St O H0 (Lp++zb7 f k e b m rs ys) H bd):ys.length=m:=hS.rl.2.1
theorem St.lenP (hS:St O H0 (Lp++zjZ f k e b m rs ys) H bd):ys.length=m:=by
 unfold zjZ at hS
 split at hS
 ·exact hS.lenL
 ·split at hS
  ·rename_i h;exact h.2.1
  ·exact (zqf hS).elim
theorem zxq {t ty':TypeId} {x:Operand} {j k' n:Nat} (hd:d<N) (hx:evL N l x=.ms j 0 k' m m) (hm:n=m) (ht:isSlice P t=true)
  (h:zaN P N lim g0 ops K (i+1) r (Fr.of ((d,.v (.int .i64 n))::l)) H g):zaN P N lim g0 ops K i (⟨some d,.call { callee:=.builtin .len,args:=#[x],argTypes:=#[t] },ty',pos,after,none⟩::r) (Fr.of l) H g:=by
 subst hm
 exact za7 (wr:=none) hd rfl (by cases lim<;>rfl) (by simp [zaz,hx,ht]) h
theorem zqh {t:TypeId} {x y:Operand} {z:Int} {u:List α} (hd:d<N) (hS:St O H0 (Lp++zb7 f k e b m rs ys) H bd) (hx:evL N l x=.ms b 0 1 m m) (hy:evL N l y=.v (.int .i64 z)) (hk:zaF P t=some 1) (hu:idx ys z=some u)
  (h:zaN P N lim g0 ops K (i+1) r (Fr.of ((d,.ptr b (0+z.toNat*1))::l)) H g):zaN P N lim g0 ops K i (⟨some d,.indexAddr t x y,ty,pos,after,none⟩::r) (Fr.of l) H g:=by
 have hz:=zeB hu
 have hlt:=zjY hu
 rw [hS.rl.2.1] at hlt
 refine za7 (wr:=none) hd rfl (by cases lim<;>rfl) ?_ h
 simp only [zaz,hx,hy,zg1,if_pos hz.1,Option.bind_some]
 rw [if_pos ⟨hk,hlt⟩]
theorem zs4 {t:TypeId} {x y:Operand} {z:Int} {u:List α} (hd:d<N) (hS:St O H0 (Lp++zpo f k e b m rs ys ys') H bd) (hx:evL N l x=.ms b 0 1 m m) (hy:evL N l y=.v (.int .i64 z)) (hk:zaF P t=some 1) (hu:idx ys z=some u)
  (h:zaN P N lim g0 ops K (i+1) r (Fr.of ((d,.ptr b (0+z.toNat*1))::l)) H g):zaN P N lim g0 ops K i (⟨some d,.indexAddr t x y,ty,pos,after,none⟩::r) (Fr.of l) H g:=by
 have hz:=zeB hu
 have hlt:=zjY hu
 rw [hS.ra.2.2.1] at hlt
 refine za7 (wr:=none) hd rfl (by cases lim<;>rfl) ?_ h
 simp only [zaz,hx,hy,zg1,if_pos hz.1,Option.bind_some]
 rw [if_pos ⟨hk,hlt⟩]
theorem zs5 {t:TypeId} {x:Operand} {z:Int} {u:List α} (hS:St O H0 (Lp++zb7 f k e b m rs ys) H bd) (hd:d<N) (hx:evL N l x=.ptr b (0+z.toNat*1)) (hu:idx ys z=some u) (ho:Ok lim ops i b) (ha:zaq P t=none) (hs:scalar P t=true)
  (h:zaN P N lim g0 ops K (i+1) r (Fr.of ((d,.sl (.id (rs.getD z.toNat 0)) k (u.map f))::l)) H g):zaN P N lim g0 ops K i (⟨some d,.load t x,ty,pos,after,none⟩::r) (Fr.of l) H g:=by
 have hr:=hS.rl
 rw [zgP hr] at hS
 have hu':ys[z.toNat]?=some u:=by
  unfold idx at hu
  rwa [if_pos (zeB hu).1] at hu
 refine zaO Lp.length hS hd hx zpp ho (zia ha hs ?_) h
 rw [Nat.zero_add,Nat.mul_one]
 exact zrG hr.1 hu'
theorem zxr {t:TypeId} {x:Operand} {τ:Nat} {u:List α} {e':TypeId} (hS:St O H0 ((τ,.row e u.length)::Lp) H bd) (hd:d<N) (hx:evL N l x=.sl (.id τ) k (u.map f)) (hk:zaF P t=some 1) (he:zbU P t=some e') (hf:za4 P t=true) (hb:bd<=g0+i)
  (h:∀H',St O H0 (Lp++zb7 f k e (g0+i) 1 [τ] [u]) H' (g0+i+1)->zaN P N none g0 ops K (i+1) r (Fr.of ((d,.ms (g0+i) 0 1 1 1)::l)) H' g) :
  zaN P N none g0 ops K i (⟨some d,.buildSlice t 1 #[(0,x)],ty,pos,after,none⟩::r) (Fr.of l) H g:=by
 refine zvn (es:=[[.sl (.id τ) k (u.map f)]]) hS hd hk he ?_ hf rfl (by decide) hb fun H' hS'=>h H' ?_
 ·simp only [List.map_cons,List.map_nil]
  rw [hx]
  rfl
 ·rw [show zb7 f k e (g0+i) 1 [τ] [u]=(g0+i,.cells (zcD f k [τ] [u]))::ze6 e [τ] [u] from zgP ⟨rfl,rfl,by decide⟩]
  exact hS'.perm (List.perm_append_comm (l₁:=Lp) (l₂:=[(g0+i,.cells [.sl (.id τ) k (u.map f)]),(τ,.row e u.length)]))
theorem zs6 {t:TypeId} {x y:Operand} {tg:Tag} {z:Int} {u w u':List α} (hS:St O H0 (Lp++zb7 f k e b m rs ys) H bd) (hd:d<N) (hx:evL N l x=.sl (.id (rs.getD z.toNat 0)) k (u.map f)) (hy:evL N l y=.sl tg k (w.map f)) (hu:idx ys z=some u)
  (ho:Ok lim ops i (rs.getD z.toNat 0)) (hk:zaF P t=some k) (he:zbU P t=some e) (hf:za4 P t=true) (hz:app u w=some u')
  (h:∀H',St O H0 (Lp++zpo f k e b m rs ys (ys.set z.toNat u')) H' bd->zaN P N lim g0 ops K (i+1) r (Fr.of ((d,.sl (.id (rs.getD z.toNat 0)) k (u'.map f))::l)) H' g) :
  zaN P N lim g0 ops K i (⟨some d,.call { callee:=.builtin .append,args:=#[x,y],argTypes:=#[t,t] },ty,pos,after,none⟩::r) (Fr.of l) H g:=by
 have hr:=hS.rl
 rw [zgP hr] at hS
 have hu':ys[z.toNat]?=some u:=by
  unfold idx at hu
  rwa [if_pos (zeB hu).1] at hu
 have hlt:=(List.getElem?_eq_some_iff.1 hu').1
 have e1:Lp++(b,.cells (zcD f k rs ys))::ze6 e rs ys=(Lp++[(b,.cells (zcD f k rs ys))])++ze6 e rs ys:=by simp
 have e2:Lp.length+1=(Lp++[(b,Blk.cells (zcD f k rs ys))]).length:=by simp
 refine zes (Lp.length+1+z.toNat) hS hd hx hy (m:=u.length) ?_ rfl ho hk he hf hz (L':=Lp++(b,.cells (zcD f k rs ys))::ze6 e rs (ys.set z.toNat u')) ?_ fun H' hS'=>h H' ?_
 ·rw [e1,e2,List.getElem?_append_right (by omega),Nat.add_sub_cancel_left]
  exact zob hr.1 hu'
 ·rw [e1,e2,ziO,zoc hr.1 hlt]
  simp
 ·rw [zqg ⟨hr.1,by simp,hr.2⟩]
  exact hS'
theorem zuH {t:TypeId} {x y:Operand} {z:Int} {u u':List α} (hS:St O H0 (Lp++zpo f k e b m rs ys (ys.set z.toNat u')) H bd) (hx:evL N l x=.ptr b (0+z.toNat*1)) (hu:idx ys z=some u) (ho:Ok lim ops i b) (hy:evL N l y=.sl (.id (rs.getD z.toNat 0)) k (u'.map f)) (hv:zal P t=some 1)
  (h:∀H',St O H0 (Lp++zb7 f k e b m rs (ys.set z.toNat u')) H' bd->zaN P N lim g0 ops K (i+1) r (Fr.of l) H' g):zaN P N lim g0 ops K i (⟨none,.store t x y,ty,pos,after,none⟩::r) (Fr.of l) H g:=by
 have hr:=hS.ra
 rw [zqg hr] at hS
 have hlt:=zjY hu
 have hl:=zj0 (f:=f) (k:=k) hr.1
 refine zaE (v:=.sl (.id (rs.getD z.toNat 0)) k (u'.map f)) (ns:=[.sl (.id (rs.getD z.toNat 0)) k (u'.map f)]) (L':=Lp++(b,.cells (zcD f k rs (ys.set z.toNat u')))::ze6 e rs (ys.set z.toNat u')) Lp.length hS hx zpp ho hy rfl hv (by rw [hl];simp;omega) ?_ fun H' hS'=>h H' ?_
 ·rw [Nat.zero_add,Nat.mul_one,zmC (by rw [hl];exact hlt),zmG hr.1 hlt]
  have:=ziO (A:=Lp) (B:=(b,.cells (zcD f k rs ys))::ze6 e rs (ys.set z.toNat u')) (n:=0) (x:=.cells (zcD f k rs (ys.set z.toNat u')))
  rw [Nat.add_zero] at this
  rw [this]
  rfl
 ·rw [zgP ⟨by rw [List.length_set];exact hr.1,by rw [List.length_set];exact hr.2.2.1,hr.2.2.2⟩]
  exact hS'
theorem zv1 {t:TypeId} {x y:Operand} {tg:Tag} (hS:St O H0 (Lp++zb7 f k e b m rs ys) H bd) (hd:d<N) (hx:evL N l x=.ms b 0 1 m m) (hy:evL N l y=.sl tg 1 [[.sl .nil 0 []]]) (hk:zaF P t=some 1) (hf:za4 P t=true) (hz:app ys [[]]=some ys') (hb:bd<=g0+i)
  (h:∀H',St O H0 (Lp++zjZ f k e (g0+i) ys'.length rs ys') H' (g0+i+1)->zaN P N none g0 ops K (i+1) r (Fr.of ((d,.ms (g0+i) 0 1 ys'.length ys'.length)::l)) H' g) :
  zaN P N none g0 ops K i (⟨some d,.call { callee:=.builtin .append,args:=#[x,y],argTypes:=#[t,t] },ty,pos,after,none⟩::r) (Fr.of l) H g:=by
 have hr:=hS.rl
 rw [zgP hr] at hS
 unfold app at hz
 split at hz
 case isFalse=>cases hz
 rename_i hlen
 injection hz with hz
 subst hz
 have hpos:=hr.2.2
 have hm:=hr.2.1
 refine zoa (hS.perm (L':=(b,.cells (zcD f k rs ys))::(Lp++ze6 e rs ys)) (List.perm_middle.symm)) hd hx (by rw [zj0 hr.1,Nat.mul_one,hm]) (q:=1) (ds:=[.sl .nil 0 []]) (by rw [hy];simp [zsd]) hk hf hpos (by omega) (by rw [←hm];simpa using hlen) hb fun H' hS'=>?_
 have h2:=h H' ?_
 ·rw [show (ys++[([]:List α)]).length=m+1 by simp [hm]] at h2
  exact h2
 ·have e1:zjZ f k e (g0+i) (ys++[([]:List α)]).length rs (ys++[[]])=(g0+i,.cells (zcD f k rs ys++[.sl .nil 0 []]))::ze6 e rs ys:=by
   unfold zjZ
   rw [if_neg (by simp;omega),if_pos ⟨by simp;omega,rfl,by simp⟩]
   unfold zcD ze6
   rw [zhX _ hr.1,zhX _ hr.1]
  rw [e1]
  exact hS'.perm List.perm_middle
end
section
variable {P:Program} {N:Nat} {Q:Exit->Fr->zab->Nat->Prop} {l:List (Nat×AV)} {H:zab} {g:Nat} {cd:Code} {O:Nat->Prop} {H0:zab} {Lp:BL} {b bd k m:Nat} {e:TypeId} {α:Type} {f:α->List AV} {rs:List Nat} {ys:List (List α)}
theorem zxs (hS:St O H0 (Lp++zjZ f k e b m rs ys) H bd) (hb:bd<=g) (hk:0<k)
  (h:∀rs' H',St O H0 (Lp++zb7 f k e b m rs' ys) H' (g+1)->Exit.thenA (fun fr' H' g'=>∃fr0 H0 g0,zi2 fr' H' g' fr0 H0 g0/\wpA P N cd Q fr0 H0 g0) Q .normal (Fr.of l) H' (g+1)) :
  Exit.thenA (fun fr' H' g'=>∃fr0 H0 g0,zi2 fr' H' g' fr0 H0 g0/\wpA P N cd Q fr0 H0 g0) Q .normal (Fr.of l) H g:=by
 unfold zjZ at hS
 split at hS
 ·obtain ⟨fr0,H1,g1,hd,hw⟩:=h rs H (hS.up (by omega))
  refine ⟨fr0,H1,g1,zi2.trans (fun hf=>⟨fun j hj=>hf j (by omega),fun G w hp=>⟨G,hp,.refl _ _ _,fun t x hv=>hv⟩⟩) hd,hw⟩
 ·split at hS
  case isFalse=>exact (zqf hS).elim
  rename_i hq
  obtain ⟨zs,rfl⟩:∃zs,ys=zs++[[]]:=by
   obtain ⟨u,h2,h3⟩:=Option.map_eq_some_iff.1 hq.2.2
   obtain ⟨zs,h4⟩:=List.getLast?_eq_some_iff.1 h2
   exact ⟨zs,by rw [h4,List.isEmpty_iff.1 h3]⟩
  have hl:rs.length=zs.length:=by have:=hq.1;simp at this;omega
  have ec:zcD f k rs (zs++[[]])=zcD f k rs zs:=by unfold zcD;rw [zhX _ hl]
  have er:ze6 e rs (zs++[[]])=ze6 e rs zs:=by unfold ze6;rw [zhX _ hl]
  rw [ec,er] at hS
  have hcl:=zj0 (f:=f) (k:=k) hl
  refine zxb (cs':=zcD f k (rs++[g]) (zs++[[]])) (L':=Lp++(b,.cells (zcD f k (rs++[g]) (zs++[[]])))::ze6 e rs zs) Lp.length zs.length k e hS hb hk zpp ?_ ?_ ?_ fun H' hS'=>h (rs++[g]) H' ?_
  ·rw [List.getElem?_append_right (by omega),hcl]
   simp
  ·rw [List.set_append_right _ _ (by omega),hcl,Nat.sub_self]
   unfold zcD
   rw [List.zipWith_append hl]
   rfl
  ·have:=ziO (A:=Lp) (B:=(b,.cells (zcD f k rs zs++[.sl .nil 0 []]))::ze6 e rs zs) (n:=0) (x:=.cells (zcD f k (rs++[g]) (zs++[[]])))
   rw [Nat.add_zero] at this
   rw [this]
   rfl
  ·rw [zgP ⟨by simp [hl],hq.2.1,by have:=hq.2.1;simp at this;omega⟩]
   have e3:ze6 e (rs++[g]) (zs++[[]])=ze6 e rs zs++[(g,.row e 0)]:=by
    unfold ze6
    rw [List.zipWith_append hl]
    rfl
   rw [e3]
   refine hS'.perm ?_
   have:(Lp++(b,Blk.cells (zcD f k (rs++[g]) (zs++[[]])))::(ze6 e rs zs++[(g,.row e 0)]))=(Lp++(b,Blk.cells (zcD f k (rs++[g]) (zs++[[]])))::ze6 e rs zs)++[(g,.row e 0)]:=by simp
   rw [this]
   exact List.perm_append_singleton _ _
end
end Go.AM
