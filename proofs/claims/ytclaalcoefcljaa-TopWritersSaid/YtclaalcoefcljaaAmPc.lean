/-
  The abstract machine: slices of a known length whose cells may be written to.
  Conditions: none; it speaks of any program.
-/
import Derived.Test.YtclaalcoefcljaaAmPb
import Derived.Test.YtclaalcoefcljaaAmLw
import Derived.Test.YtclaalcoefcljaaAmWq
set_option linter.all false
namespace Go.AM
open Go Go.RowKit
def zet {α:Type} (n:Nat) (xs:List α) (z:Int):Option α:=if xs.length=n then idx xs z else none
theorem zbw {α:Type} {n:Nat} {xs:List α} {z:Int} {u:α} (h:zet n xs z=some u):n=xs.length:=by
 unfold zet at h
 split at h
 ·rename_i e;exact e.symm
 ·cases h
theorem zaz {α:Type} {n:Nat} {xs:List α} {z:Int} {u:α} (h:zet n xs z=some u):idx xs z=some u:=by
 unfold zet at h
 split at h
 ·exact h
 ·cases h
def zkh {α:Type} (n:Nat) (xs:List α):Option Unit:=if xs.length=n/\0<n then some () else none
theorem zn8 {α:Type} {n:Nat} {xs:List α} {u:Unit} (h:zkh n xs=some u):n=xs.length:=by
 unfold zkh at h
 split at h
 ·rename_i e;exact e.1.symm
 ·cases h
theorem zg5 {α:Type} {n:Nat} {xs:List α} {u:Unit} (h:zkh n xs=some u):0<n:=by
 unfold zkh at h
 split at h
 ·rename_i e;exact e.2
 ·cases h
theorem zgi {α β:Type} {f:α->β} {n:Nat} {xs:List α} {u:Unit} (h:zkh n xs=some u):n=(xs.map f).length:=by
 rw [List.length_map];exact zn8 h
def mkN {α:Type} (n:Nat) (z:Int) (a:α):Option (List α):=if z=n/\0<z/\z<=1048576 then some (List.replicate n a) else none
theorem zfk {α:Type} {A M:BL} {f:α->List AV} {xs:List α} (h:∀x,∀c,c∈f x->Pure c):∀c,c∈(xs.map f).flatten->zik A M c:=fun c hc=>by
 obtain ⟨e,he,h1⟩:=List.mem_flatten.1 hc
 obtain ⟨x,hx,rfl⟩:=List.mem_map.1 he
 exact .inl (.inl (h x c h1))
theorem zlf:zqm [] []:=⟨rfl,fun i a b h1 h2=>by simp at h1,fun i j a b c c' h1 h2 h3 h4=>by simp at h1⟩
theorem zg6 {e d:List AV} {es ds:List (List AV)} (h:LeL e d) (t:zqm es ds):zqm (e::es) (d::ds):=by
 obtain ⟨hl,hk,hh⟩:=t
 refine ⟨by simp [hl],fun i a b h1 h2=>?_,fun i j a b c c' h1 h2 h3 h4=>?_⟩
 ·rcases i with _ | i
  ·simp at h1 h2
   subst h1 h2
   exact h.get.1
  ·exact hk i a b (by simpa using h1) (by simpa using h2)
 ·rcases i with _ | i
  ·simp at h1 h2
   subst h1 h2
   exact h.get.2 j _ _ h3 h4
  ·exact hh i j a b c c' (by simpa using h1) (by simpa using h2) h3 h4
theorem zhy {α:Type}:∀{L:List α} {m:Nat} {x:α},L[m]?=some x->(L.eraseIdx m++[x]).Perm L
 | [],_,_,h=>by simp at h
 | y::L,0,x,h=>by
  simp at h
  subst h
  exact List.perm_append_comm (l₁:=L) (l₂:=[y])
 | y::L,m+1,x,h=>List.Perm.cons y (zhy (by simpa using h))
section
variable {P:Program} {N:Nat} {l:List (Nat×AV)} {H:zaa} {g:Nat} {lim:Option Nat} {g0 i:Nat} {ops:Array Oper} {K:Fr->zaa->Nat->Prop} {r:List Oper} {d:Nat} {ty:TypeId} {pos:String} {after:Array Edge}
 {O:Nat->Prop} {H0:zaa} {L L':BL} {b:Nat}
theorem zgN {α:Type} {f:α->List AV} {a0:α} {zc:AV} {t:TypeId} {e:TypeId} {x y:Operand} {z:Int} {n:Nat} {us:List α} (hS:St O H0 L H b) (hd:d<N) (hx:evL N l x=.v (.int .i64 z)) (hy:evL N l y=.v (.int .i64 z)) (hu:mkN n z a0=some us) (hf0:f a0=[zc]) (hk:zaD P t=some 1) (he:zb5 P t=some e) (hz:zda P e=some [zc]) (hf:za3 P t=true) (hb:b<=g0+i)
  (h:∀H',St O H0 ((g0+i,.cells (us.map f).flatten)::L) H' (g0+i+1)->za7 P N lim g0 ops K (i+1) r (Fr.of ((d,.ms (g0+i) 0 1 n n)::l)) H' g) :
  za7 P N lim g0 ops K i (⟨some d,.makeSlice t x y,ty,pos,after,none⟩::r) (Fr.of l) H g:=by
 unfold mkN at hu
 split at hu
 case isFalse=>cases hu
 case isTrue hz0 =>
 injection hu with hu
 obtain ⟨h1,h2⟩:=hz0
 have e1:us.length=n:=by rw [←hu];simp
 subst e1
 exact zm8 hS hd hx hy h2 (by rw [←hu,h1];simp) hf0 hk he hz hf hb h
theorem znb {α:Type} {t e:TypeId} {x y:Operand} {τ k:Nat} {tg:Tag} {xs ys zs:List α} {ds:List (List AV)} {f:α->List AV} {m:Nat} (n:Nat) (hS:St O H0 L H b) (hd:d<N) (hx:evL N l x=.sl (.id τ) k (xs.map f)) (hy:evL N l y=.sl tg k ds) (hl:ds.length=ys.length)
  (hn:L[n]?=some (τ,.row e m)) (hm:m=xs.length) (ho:Ok lim ops i τ) (hk:zaD P t=some k) (he:zb5 P t=some e) (hf:za3 P t=true) (hz:app xs ys=some zs) (hL:putAt L n (.row e zs.length)=L')
  (h:∀H',St O H0 L' H' b->za7 P N lim g0 ops K (i+1) r (Fr.of ((d,.sl (.id τ) k (xs.map f++ds))::l)) H' g) :
  za7 P N lim g0 ops K i (⟨some d,.call { callee:=.builtin .append,args:=#[x,y],argTypes:=#[t,t] },ty,pos,after,none⟩::r) (Fr.of l) H g:=by
 unfold app at hz
 split at hz
 case isFalse=>cases hz
 injection hz with hz
 subst hm
 refine zb4 (v:=.sl (.id τ) k (xs.map f++ds)) (wr:=some (τ,.row e zs.length)) hd rfl ?_ ?_ (h _ (hL▸hS.put hn _))
 ·cases hlim:lim with
  | none=>rfl
  | some q=>simpa [old,hx] using ho q hlim
 ·simp only [zaE,List.map_cons,List.map_nil,hx,hy,if_true,zeI]
  rw [if_pos ⟨hf,zij (by simp [hl];assumption),.inl hk⟩]
  simp only [hS.get hn]
  rw [if_pos ⟨hk,he,by simp⟩]
  simp [←hz,hl]
theorem zn9 {α:Type} {tg:Tag} {k:Nat} {xs ys zs:List α} {ds:List (List AV)} {f:α->List AV} (hz:app xs ys=some zs) (h:zqm (ys.map f) ds):Le (.sl tg k (zs.map f)) (.sl tg k (xs.map f++ds)):=by
 unfold app at hz
 split at hz
 case isFalse=>cases hz
 injection hz with hz
 subst hz
 rw [List.map_append]
 refine zld ?_
 induction xs.map f with
 | nil=>exact h
 | cons x l ih=>exact zg6 (LeL.refl x) ih
theorem zpi {f:Operand} {args:Array Operand} {ts:Array TypeId} {kf:FuncId} {first cap bs:List AV} {j k m:Nat} {es:List (List AV)} {x:Value} (n:Nat) (hS:St O H0 L H b) (hd:d<N) (hm:m=es.length) (ht:tgt (evL N l f)=some (kf,first,cap)) (ha:first++args.toList.map (evL N l)++cap=.ms j 0 k m m::bs) (hn:L[n]?=some (j,.cells es.flatten))
  (hs:zaS P kf (.sl .no k es::bs) (.v x)) (hp:∀a,a∈bs->Pure a) (hk:0<k) (hes:∀e,e∈es->e.length=k) (hfl:∀e,e∈es->∀c,c∈e->Flat c) (hb:b<=g)
  (h:za7 P N none g0 ops K (i+1) r (Fr.of ((d,.v x)::l)) H g) :
  za7 P N none g0 ops K i (⟨some d,.call { callee:=.value f,args:=args,argTypes:=ts },ty,pos,after,none⟩::r) (Fr.of l) H g:=by
 subst hm
 exact zph n hS hd ht ha hn hs hp hk hes hfl hb h
theorem zpj {α:Type} {f:α->List AV} {F:Operand} {args:Array Operand} {ts:Array TypeId} {kf:FuncId} {first cap bs:List AV} {mk:AV->AV} {e k:Nat} {us:List α} (hS:St O H0 L H b) (hd:d<N) (ht:tgt (evL N l F)=some (kf,first,cap)) (ha:first++args.toList.map (evL N l)++cap=bs)
  (hs:zk9 P kf bs mk e k (us.map f)) (hm:zo9 mk) (hp:∀a,a∈bs->Pure a) (hfl:∀e,e∈us.map f->∀c,c∈e->Flat c) (hne:(us.length==0)=false) (hb:b<=g0+i)
  (h:∀H',St O H0 ((g0+i,.cells (us.map f).flatten)::L) H' (g0+i+1)->za7 P N lim g0 ops K (i+1) r (Fr.of ((d,mk (.ms (g0+i) 0 k us.length us.length))::l)) H' g) :
  za7 P N lim g0 ops K i (⟨some d,.call { callee:=.value F,args:=args,argTypes:=ts },ty,pos,after,none⟩::r) (Fr.of l) H g:=by
 refine zoJ hS hd ht ha hs hm hp hfl (n:=us.length) (List.length_map _) hb fun H' h'=>?_
 have hn:us.length≠0:=fun e=>by rw [e] at hne;exact absurd hne (by decide)
 have h2:=h'.thaw
 have e2:zd6 (g0+i) (us.map f)=[(g0+i,.cells (us.map f).flatten)]:=by
  unfold zd6
  rw [if_neg fun e=>hn (by rw [←List.length_map (f:=f),e];rfl)]
 rw [e2] at h2
 have h3:=h H' (h2.perm (List.perm_append_comm (l₁:=[_])))
 rwa [show msn (g0+i) k us.length=.ms (g0+i) 0 k us.length us.length by unfold msn;rw [if_neg hn]]
theorem zpk {α:Type} {f:α->List AV} {F:Operand} {args:Array Operand} {ts:Array TypeId} {kf:FuncId} {first cap bs:List AV} {mk:AV->AV} {e k:Nat} {us:List α} (hS:St O H0 L H b) (hd:d<N) (ht:tgt (evL N l F)=some (kf,first,cap)) (ha:first++args.toList.map (evL N l)++cap=bs)
  (hs:zk9 P kf bs mk e k (us.map f)) (hm:zo9 mk) (hp:∀a,a∈bs->Pure a) (hfl:∀e,e∈us.map f->∀c,c∈e->Flat c) (hne:(us.length==0)=true) (hb:b<=g0+i)
  (h:∀H',St O H0 L H' (g0+i+1)->za7 P N lim g0 ops K (i+1) r (Fr.of ((d,mk (.sl .no k (([]:List α).map f)))::l)) H' g) :
  za7 P N lim g0 ops K i (⟨some d,.call { callee:=.value F,args:=args,argTypes:=ts },ty,pos,after,none⟩::r) (Fr.of l) H g:=by
 refine zoJ hS hd ht ha hs hm hp hfl (n:=us.length) (List.length_map _) hb fun H' h'=>?_
 have hn:us.length=0:=eq_of_beq hne
 have h2:=h'.thaw.front
 have h3:=h H' h2
 rwa [show msn (g0+i) k us.length=.sl .no k (([]:List α).map f) by unfold msn;rw [if_pos hn];rfl]
end
section
variable {P:Program} {N:Nat} {Q:Exit->Fr->zaa->Nat->Prop} {l:List (Nat×AV)} {H:zaa} {g:Nat} {b:Code} {O:Nat->Prop} {H0:zaa} {L L':List (Nat×Blk)} {bd:Nat}
theorem zoM {i t k q:Nat} {es:List (List AV)} (m:Nat) (hS:St O H0 L H bd) (hm:L[m]?=some (i,.cells es.flatten)) (ht:lk l t=.ms i 0 k q q) (hq:q=es.length) (hpos:0<q) (hk:0<k) (hes:∀e,e∈es->e.length=k) (hfl:∀e,e∈es->∀c,c∈e->Flat c) (hL:L.eraseIdx m=L')
  (h:∀H',St O H0 L' H' bd->Exit.thenA (fun fr' H' g'=>∃fr0 H0 g0,zfM fr' H' g' fr0 H0 g0/\wpA P N b Q fr0 H0 g0) Q .normal (Fr.of ((t,.sl .no k es)::l)) H' g) :
  Exit.thenA (fun fr' H' g'=>∃fr0 H0 g0,zfM fr' H' g' fr0 H0 g0/\wpA P N b Q fr0 H0 g0) Q .normal (Fr.of l) H g:=by
 subst hL
 have hne:es≠[]:=fun e=>by subst e;subst hq;exact absurd hpos (by decide)
 have e2:zd6 i es=[(i,.cells es.flatten)]:=by unfold zd6;rw [if_neg hne]
 refine zoI (i:=i) (k:=k) (es:=es) (Lp:=L.eraseIdx m) (by rw [e2];exact hS.perm (zhy hm)) ?_ hk hes hfl h
 rw [ht,hq]
 unfold msl
 rw [if_neg hne]
theorem znc {i j p k q:Nat} {cs cs':List AV} {es:List (List AV)} (n m:Nat) (hS:St O H0 L H bd) (hm:L[m]?=some (i,.cells es.flatten)) (hn:(L.eraseIdx m)[n]?=some (j,.cells cs)) (hc:cs[p]?=some (.ms i 0 k q q)) (hq:q=es.length) (hpos:0<q) (hk:0<k) (hes:∀e,e∈es->e.length=k) (hfl:∀e,e∈es->∀c,c∈e->Flat c)
  (hcs:cs.set p (.sl .no k es)=cs') (hL:putAt (L.eraseIdx m) n (.cells cs')=L')
  (h:∀H',St O H0 L' H' bd->Exit.thenA (fun fr' H' g'=>∃fr0 H0 g0,zfM fr' H' g' fr0 H0 g0/\wpA P N b Q fr0 H0 g0) Q .normal (Fr.of l) H' g) :
  Exit.thenA (fun fr' H' g'=>∃fr0 H0 g0,zfM fr' H' g' fr0 H0 g0/\wpA P N b Q fr0 H0 g0) Q .normal (Fr.of l) H g:=by
 have hne:es≠[]:=fun e=>by subst e;subst hq;exact absurd hpos (by decide)
 have e2:zd6 i es=[(i,.cells es.flatten)]:=by unfold zd6;rw [if_neg hne]
 refine zqi (i:=i) (k:=k) (es:=es) (Lp:=L.eraseIdx m) n (by rw [e2];exact hS.perm (zhy hm)) hn ?_ hk hes hfl hcs hL h
 rw [hc,hq]
 unfold msl
 rw [if_neg hne]
end
end Go.AM
