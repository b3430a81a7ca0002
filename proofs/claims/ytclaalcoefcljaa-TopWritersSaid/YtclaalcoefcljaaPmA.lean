/-
  Plain laws.
  Conditions: none.
-/
import Derived.Test.YtclaalcoefcljaaMd
import Derived.Test.YtclaalcoefcljaaPlA
set_option linter.all false
namespace Go.Law
open Go Go.AM
theorem ztI {α S R:Type} (F:Nat->Int->S->Option R) (xs:List α) (spec:List α->S->Option R) (hl:xs.length<1048576) (h0:∀m s,F (m+1) (xs.length:Int) s=spec [] s)
  (hs:∀m (i:Nat) x l s,idx xs (i:Int)=some x->(i:Int)<(xs.length:Int)->i<1048576->xs.drop (i+1)=l->(∀s',F m (w64 ((i:Int)+1)) s'=spec l s')->F (m+1) (i:Int) s=spec (x::l) s) :
  ∀(l:List α) (i m:Nat) (s:S),i<=xs.length->xs.drop i=l->l.length<m->F m (i:Int) s=spec l s:=by
 intro l
 induction l with
 | nil =>
  intro i m s hi hd hm
  obtain ⟨m,rfl⟩:∃k,m=k+1:=⟨m-1,by omega⟩
  have:i=xs.length:=by have:=List.drop_eq_nil_iff.1 hd;omega
  subst this
  exact h0 m s
 | cons x l ih =>
  intro i m s hi hd hm
  obtain ⟨m,rfl⟩:∃k,m=k+1:=⟨m-1,by omega⟩
  simp only [List.length_cons] at hm
  have hlt:i<xs.length:=by
   rcases Nat.lt_or_ge i xs.length with h | h
   ·exact h
   ·rw [List.drop_eq_nil_of_le h] at hd;cases hd
  rw [List.drop_eq_getElem_cons hlt] at hd
  injection hd with h1 h2
  refine hs m i x l s (by rw [zgM hlt,h1]) (by omega) (by omega) h2 fun s'=>?_
  rw [zcB (by omega) (by omega)]
  exact ih (i+1) m s' (by omega) h2 (by omega)
theorem znu {α S R:Type} {F:Nat->Int->S->Option R} {xs:List α} {spec:List α->S->Option R} (hl:xs.length<1048576) {n:Nat} (hn:xs.length<n) (s:S) (h0:∀m s,F (m+1) (xs.length:Int) s=spec [] s)
  (hs:∀m (i:Nat) x l s,idx xs (i:Int)=some x->(i:Int)<(xs.length:Int)->i<1048576->xs.drop (i+1)=l->(∀s',F m (w64 ((i:Int)+1)) s'=spec l s')->F (m+1) (i:Int) s=spec (x::l) s) :
  F n 0 s=spec xs s:=ztI F xs spec hl h0 hs xs 0 n s (by omega) rfl hn
theorem zmf {α S R:Type} (F:Nat->Int->S->Option R) (xs:List α) (spec:List α->S->Option R) (I:List α->S->Prop) (hl:xs.length<1048576) (h0:∀m s,I [] s->F (m+1) (xs.length:Int) s=spec [] s)
  (hs:∀m (i:Nat) x l s,I (x::l) s->idx xs (i:Int)=some x->(i:Int)<(xs.length:Int)->i<1048576->xs.drop (i+1)=l->(∀s',I l s'->F m (w64 ((i:Int)+1)) s'=spec l s')->F (m+1) (i:Int) s=spec (x::l) s) :
  ∀(l:List α) (i m:Nat) (s:S),i<=xs.length->xs.drop i=l->l.length<m->I l s->F m (i:Int) s=spec l s:=by
 intro l
 induction l with
 | nil =>
  intro i m s hi hd hm hI
  obtain ⟨m,rfl⟩:∃k,m=k+1:=⟨m-1,by omega⟩
  have:i=xs.length:=by have:=List.drop_eq_nil_iff.1 hd;omega
  subst this
  exact h0 m s hI
 | cons x l ih =>
  intro i m s hi hd hm hI
  obtain ⟨m,rfl⟩:∃k,m=k+1:=⟨m-1,by omega⟩
  simp only [List.length_cons] at hm
  have hlt:i<xs.length:=by
   rcases Nat.lt_or_ge i xs.length with h | h
   ·exact h
   ·rw [List.drop_eq_nil_of_le h] at hd;cases hd
  rw [List.drop_eq_getElem_cons hlt] at hd
  injection hd with h1 h2
  refine hs m i x l s hI (by rw [zgM hlt,h1]) (by omega) (by omega) h2 fun s' hI'=>?_
  rw [zcB (by omega) (by omega)]
  exact ih (i+1) m s' (by omega) h2 (by omega) hI'
theorem zac {α β:Type} (a:α) (f:α->Option β):Option.bind (some a) f=f a:=rfl
theorem zhW {α:Type} {N:Nat} {xs:List α} {i:Nat} (hl:xs.length=N) (h:i<xs.length):zet N xs (i:Int)=some xs[i]:=by
 unfold zet
 rw [if_pos hl,zgM h]
theorem zjE {α:Type} {N:Nat} {xs:List α} {z:Int} (hl:xs.length=N) (h0:0<=z) (h:z.toNat<xs.length):zet N xs z=some xs[z.toNat]:=by
 obtain ⟨i,rfl⟩:=Int.eq_ofNat_of_zero_le h0
 exact zhW hl h
theorem zjF {α:Type} {N:Nat} {xs:List α} (hl:xs.length=N) (h:0<N):zkh N xs=some ():=if_pos ⟨hl,h⟩
abbrev zrZ:TrayPress->TrayPress->Unit->Option (Int×Unit):=fun (x0:TrayPress) (x1:TrayPress) (_:Unit)=>(zff x0 x1).map fun y=>(y,())
theorem znv (x y:TrayPress) (u:Unit):∃z:Int,zrZ x y u=some (z,()):=⟨_,rfl⟩
theorem zr0 {N:Nat} (hN:N<=100) (rec1:Int->List TrayPress->Unit->Option (Unit×(List TrayPress×Unit))) (v2:Int):∀(k m:Nat) (ys:List TrayPress),k<m->k<N->ys.length=N ->
  ∃zs,zs.Perm ys/\zaj rec1 0 zrZ N v2 m (k:Int) ys ()=rec1 (w64 (v2+1)) zs ():=by
 intro k
 induction k with
 | zero =>
  intro m ys hm hk hl
  obtain ⟨m,rfl⟩:∃q,m=q+1:=⟨m-1,by omega⟩
  refine ⟨ys,.refl _,?_⟩
  simp [zaj,zaO,zaC,zaT]
 | succ k ih =>
  intro m ys hm hk hl
  obtain ⟨m,rfl⟩:∃q,m=q+1:=⟨m-1,by omega⟩
  have e1:w64 (((k+1:Nat):Int)-1)=(k:Int):=by rw [zcB (by omega) (by omega)];omega
  have i1:zet N ys ((k+1:Nat):Int)=some ys[k+1]:=zhW hl (by omega)
  have i2:zet N ys (k:Int)=some ys[k]:=zhW hl (by omega)
  obtain ⟨z,hz⟩:=znv ys[k+1] ys[k] ()
  unfold zaj zaO
  rw [if_pos (by simp<;>omega),e1,i1,i2]
  simp only [zac]
  rw [hz]
  simp only [zac]
  unfold zaC
  by_cases hb:z<0
  ·rw [if_pos (by simpa using hb),e1,i1,i2]
   simp only [zac]
   have i3:zet N (ys.set (Int.toNat ((k+1:Nat):Int)) ys[k]) (k:Int)=some ((ys.set (Int.toNat ((k+1:Nat):Int)) ys[k])[k]'(by simp;omega)):=zhW (by simp [hl]) (by simp;omega)
   rw [i3]
   simp only [zac,Int.toNat_natCast]
   obtain ⟨zs,hp,he⟩:=ih m ((ys.set (k+1) ys[k]).set k ys[k+1]) (by omega) (by omega) (by simp [hl])
   exact ⟨zs,hp.trans (List.set_set_perm (by omega) (by omega)),he⟩
  ·rw [if_neg (by simpa using hb)]
   exact ⟨ys,.refl _,rfl⟩
theorem zr1 {N n:Nat} (hN:N<=100) (hn:200<=n):∀(d i m:Nat) (ys:List TrayPress),d=N-i->i<=N->d<m->ys.length=N ->
  ∃zs,zs.Perm ys/\zab n 0 (N:Int) zrZ N m (i:Int) ys ()=some ((),(zs,())):=by
 intro d
 induction d with
 | zero =>
  intro i m ys hd hi hm hl
  obtain ⟨m,rfl⟩:∃q,m=q+1:=⟨m-1,by omega⟩
  refine ⟨ys,.refl _,?_⟩
  unfold zab zaP
  rw [if_neg (by simp;omega)]
 | succ d ih =>
  intro i m ys hd hi hm hl
  obtain ⟨m,rfl⟩:∃q,m=q+1:=⟨m-1,by omega⟩
  unfold zab zaP
  rw [if_pos (by simp;omega)]
  obtain ⟨zs,hp,he⟩:=zr0 hN (zab n 0 (N:Int) zrZ N m) (i:Int) i n ys (by omega) (by omega) hl
  rw [he,zcB (by omega) (by omega)]
  obtain ⟨us,hq,hf⟩:=ih (i+1) m zs (by omega) (by omega) (by omega) (by rw [hp.length_eq,hl])
  exact ⟨us,hq.trans hp,hf⟩
theorem zpn {n:Nat} (hn:200<=n) (xs:List TrayPress) (h0:0<xs.length) (hl:xs.length<=19):∃zs,zs.Perm xs/\zbm n zrZ xs.length (xs,())=some ((),(zs,())):=by
 obtain ⟨n,rfl⟩:∃q,n=q+1:=⟨n-1,by omega⟩
 obtain ⟨zs,hp,he⟩:=zr1 (N:=xs.length) (n:=n+1) (by omega) hn (xs.length-1) 1 (n+1) xs rfl (by omega) (by omega) rfl
 refine ⟨zs,hp,?_⟩
 unfold zbm zcc zaU zbF
 rw [if_neg (by simp;omega)]
 unfold zbh zaZ
 rw [show w64 ((0:Int)+1)=((1:Nat):Int) from by decide +kernel,he]
 simp only [zac]
 unfold zah zbE
 rw [if_neg (by simp;omega)]
 rfl
theorem zok {n:Nat} (hn:2<=n):zbi n=some ():=by
 obtain ⟨n,rfl⟩:∃q,n=q+1:=⟨n-1,by omega⟩
 unfold zbi zbZ zaR zbt
 rw [if_neg (by decide)]
 unfold za5 zaW zae za2
 rw [show w64 ((0:Int)+1)=1 from by decide +kernel,if_neg (by decide)]
 simp only [zac]
 unfold zag zbs
 rw [if_neg (by decide)]
 rfl
def nxp (R:Nat) (p:Int×Int):Int×Int:=if 0<=p.1+p.2/\p.1+p.2<R then (p.1+p.2,p.2) else (p.1,-p.2)
def sdp (p:Int×Int):Int:=if p.2<0 then 2*p.1+1 else 2*p.1
def itp (R:Nat):Nat->Int×Int->Int×Int
 | 0,p=>p
 | k+1,p=>itp R k (nxp R p)
def okp (R:Nat) (p:Int×Int):Prop:=(0<=p.1/\p.1<R)/\(p.2=1\/p.2=-1)
theorem zr2 {R:Nat} {p:Int×Int} (h:okp R p):okp R (nxp R p):=by
 obtain ⟨⟨h1,h2⟩,h3⟩:=h
 unfold nxp
 split
 ·exact ⟨by assumption,h3⟩
 ·exact ⟨⟨h1,h2⟩,by rcases h3 with h3 | h3<;>simp [h3]⟩
theorem zoO {R:Nat} {p:Int×Int} (h:okp R p):0<=sdp p/\sdp p<2*R:=by
 obtain ⟨⟨h1,h2⟩,h3⟩:=h
 unfold sdp
 split<;>omega
def zoP:Bool:=(List.range 7).all fun R=>(List.range R).all fun a=>[1,-1].all fun w=>(List.range (2*R)).all fun s=>(List.range (2*R)).any fun k=>sdp (itp R k ((a:Int),w))==(s:Int)
theorem znw:zoP=true:=by decide +kernel
theorem zol {R:Nat} (hR:R<=6) {p:Int×Int} (h:okp R p) {s:Nat} (hs:s<2*R):∃k,k<2*R/\sdp (itp R k p)=(s:Int):=by
 obtain ⟨⟨h1,h2⟩,h3⟩:=h
 obtain ⟨a,w⟩:=p
 simp only at h1 h2 h3
 obtain ⟨a,rfl⟩:=Int.eq_ofNat_of_zero_le h1
 have hb:=znw
 unfold zoP at hb
 have h4:=List.all_eq_true.1 (List.all_eq_true.1 (List.all_eq_true.1 (List.all_eq_true.1 hb R (List.mem_range.2 (by omega))) a (List.mem_range.2 (by omega))) w (by rcases h3 with rfl | rfl<;>simp)) s (List.mem_range.2 hs)
 obtain ⟨k,hk,e⟩:=List.any_eq_true.1 h4
 exact ⟨k,List.mem_range.1 hk,eq_of_beq e⟩
theorem zfs (a b c:Int):zch a b c=some (inR a b c):=by
 unfold zch zcP inR
 by_cases h:b<=a
 ·rw [if_pos (by simpa using h)];simp [h]
 ·rw [if_neg (by simpa using h)];simp [h]
theorem zft:zeg 20000=some true:=by decide +kernel
abbrev zd5 (q:Int×Int):RoyalSide:=⟨q.1,[⟨q.2,100⟩]⟩
def zes (k:Int):List (Int×Int)->Int
 | []=>0
 | q::l=>(if q.2=k then q.1 else 0)+zes k l
theorem zgb (k:Int) (q:Int×Int):∀l,zes k (l++[q])=zes k l+(if q.2=k then q.1 else 0)
 | []=>by simp [zes]
 | x::l=>by simp only [List.cons_append,zes,zgb k q l];omega
def okQ (q:Int×Int):Prop:=(0<=q.1/\q.1<=12)/\(q.2=0\/q.2=1\/q.2=2)
theorem zdh (k:Int):∀l:List (Int×Int),(∀q,q∈l->okQ q)->0<=zes k l/\zes k l<=12*l.length
 | [],_=>by simp [zes]
 | q::l,h=>by
  have ih:=zdh k l fun x hx=>h x (List.mem_cons_of_mem _ hx)
  have hq:=(h q (List.mem_cons_self ..)).1
  simp only [zes,List.length_cons]
  split<;>omega
abbrev zgr (c:Int) (l:List (Int×Int)):List Int:=[c*zes 0 l,c*zes 1 l,c*zes 2 l]
abbrev zcM (pool:Int) (l:List (Int×Int)):Royal:=⟨pool,l.map zd5,[0,0,0]⟩
structure OkW (pool:Int) (l:List (Int×Int)):Prop where
 pool:0<=pool/\pool<=9999
 few:l.length<=6
 q:∀q,q∈l->okQ q
theorem znx {n:Nat} (hn:10<=n) {q:Int×Int} (h:okQ q):zds n (zd5 q).Parts 3=some true:=by
 obtain ⟨n,rfl⟩:∃k,n=k+2:=⟨n-2,by omega⟩
 obtain ⟨_,h⟩:=h
 unfold zds
 have e:∀m v2 v3,za1 (zd5 q).Parts 3 (m+1) v2 v3 1=some (v2==100):=fun m v2 v3=>by
  simp [za1,zcA,zdo]
 rw [show za1 (zd5 q).Parts 3 (n+2) 0 (-1) 0=zcA (zd5 q).Parts 3 (za1 (zd5 q).Parts 3 (n+1)) 0 (-1) 0 from rfl]
 unfold zcA
 rw [if_pos (by simp),show idx (zd5 q).Parts 0=some ⟨q.2,100⟩ from rfl]
 simp only [zac]
 rw [if_neg (by simp;omega),if_neg (by simp;omega),zfs]
 simp only [zac]
 unfold zco
 rw [if_neg (by decide),show w64 ((0:Int)+100)=100 from by decide +kernel,show w64 ((0:Int)+1)=1 from by decide +kernel,e]
 rfl
theorem zny {n:Nat} (hn:100<=n) {pool:Int} {l:List (Int×Int)} (W:OkW pool l):zep n (zcM pool l)=some 0:=by
 have hf:=W.few
 have l1:zbc n (zcM pool l) n true 0=some 0:=by
  refine zmf (fun m i s=>zbc n (zcM pool l) m s i) (l.map zd5) (fun _ _=>some 0) (fun k s=>s=true/\∀x,x∈k->∃q,x=zd5 q/\okQ q) (by rw [List.length_map];omega) (fun m s I=>?_) (fun m i x k s I hx hi hi' hd hrec=>?_) (l.map zd5) 0 n true (by omega) rfl (by rw [List.length_map];omega) ⟨rfl,fun x hx=>?_⟩
  ·obtain ⟨rfl,_⟩:=I
   simp [zbc,zc4,zdC]
  ·obtain ⟨rfl,I⟩:=I
   obtain ⟨q,rfl,hq⟩:=I x (List.mem_cons_self ..)
   simp only [zbc,zc4]
   rw [if_pos (by simpa using hi),hx]
   simp only [zac]
   rw [if_pos trivial,zfs,show inR (zd5 q).Plays 0 9999=true from zfB.2 ⟨hq.1.1,by have:=hq.1.2;show q.1<=9999;omega⟩]
   simp only [zac]
   rw [if_pos trivial,show zds n (zd5 q).Parts ((([0,0,0]:List Int).length:Nat):Int)=some true from znx (by omega) hq]
   simp only [zac]
   exact hrec true ⟨rfl,fun y hy=>I y (List.mem_cons_of_mem _ hy)⟩
  ·obtain ⟨q,hq,rfl⟩:=List.mem_map.1 hx
   exact ⟨q,rfl,W.q q hq⟩
 have l2:zbd n (zcM pool l) n true 0=some 0:=by
  refine zmf (fun m i s=>zbd n (zcM pool l) m s i) ([0,0,0]:List Int) (fun _ _=>some 0) (fun k s=>s=true/\∀x,x∈k->x=0) (by decide) (fun m s I=>?_) (fun m i x k s I hx hi hi' hd hrec=>?_) [0,0,0] 0 n true (by omega) rfl (by show 3<n;omega) ⟨rfl,fun x hx=>by simpa using hx⟩
  ·obtain ⟨rfl,_⟩:=I
   simp only [zbd,zc5]
   rw [if_neg (by simp)]
   exact l1
  ·obtain ⟨rfl,I⟩:=I
   have h0:=I x (List.mem_cons_self ..)
   subst h0
   simp only [zbd,zc5]
   rw [if_pos (by simpa using hi),hx]
   simp only [zac]
   rw [if_pos trivial,zfs]
   simp only [zac]
   exact hrec true ⟨rfl,fun y hy=>I y (List.mem_cons_of_mem _ hy)⟩
 unfold zep
 rw [zfs,show inR (zcM pool l).Pool 0 9999=true from zfB.2 W.pool]
 simp only [zac]
 rw [if_pos trivial,if_pos (show decide ((([0,0,0]:List Int).length:Int)<=6)=true by decide),show decide (((zcM pool l).Sides.length:Int)<=6)=true by simp;omega]
 exact l2
theorem znz {c:Int} (l:List (Int×Int)) {q:Int×Int} (h:okQ q):∃u,idx (zgr c l) q.2=some u/\u=c*zes q.2 l/\(zgr c l).set q.2.toNat (u+c*q.1)=zgr c (l++[q]):=by
 obtain ⟨x,w⟩:=q
 obtain ⟨_,h⟩:=h
 simp only at h
 rcases h with rfl | rfl | rfl
 ·refine ⟨_,rfl,rfl,?_⟩
  simp [zgr,zgb,Int.mul_add]
 ·refine ⟨_,rfl,rfl,?_⟩
  simp [zgr,zgb,Int.mul_add]
 ·refine ⟨_,rfl,rfl,?_⟩
  simp [zgr,zgb,Int.mul_add]
def zeu (l:List (Int×Int)):Int:=zes 0 l+zes 1 l+zes 2 l
theorem zlw (l:List (Int×Int)) {q:Int×Int} (h:okQ q):zeu (l++[q])=zeu l+q.1:=by
 obtain ⟨_,h⟩:=h
 unfold zeu
 simp only [zgb]
 rcases h with h | h | h<;>simp [h]<;>omega
theorem zgc {α:Type} {N:Nat} {xs:List α} {z:Int} (h:xs.length=N):zet N xs z=idx xs z:=if_pos h
theorem zlx {n:Nat} (hn:100<=n) {pool:Int} {l:List (Int×Int)} (W:OkW pool l):zdc n (zcM pool l) true=some (⟨zgr 100 l,100*zeu l⟩,if zeu l=0 then 3 else 0):=by
 have hf:=W.few
 have key:zav n (zcM pool l) n 0 [0,0,0] 0=some (⟨zgr 100 l,100*zeu l⟩,if zeu l=0 then 3 else 0):=by
  refine zmf (fun m i (s:List Int×Int)=>zav n (zcM pool l) m i s.1 s.2) l (fun _ _=>some (⟨zgr 100 l,100*zeu l⟩,if zeu l=0 then 3 else 0)) (fun k s=>∃pre,pre++k=l/\s=(zgr 100 pre,100*zeu pre)) (by omega) (fun m s I=>?_) (fun m i x k s I hx hi hi' hd hrec=>?_) l 0 n ([0,0,0],0) (by omega) rfl (by omega) ⟨[],rfl,rfl⟩
  ·obtain ⟨pre,e,rfl⟩:=I
   rw [List.append_nil] at e
   subst e
   simp only [zav,zc6]
   rw [if_neg (by simp)]
   unfold zdE
   rw [show zkh (zcM pool pre).Owed.length (zgr 100 pre)=some () from rfl]
   simp only [zac]
   by_cases h0:zeu pre=0
   ·rw [if_pos (by simp [h0]),if_pos h0]
   ·rw [if_neg (by simp [h0]),if_neg h0]
  ·obtain ⟨pre,e,rfl⟩:=I
   have hmem:x∈l:=by rw [←e];simp
   have hq:=W.q x hmem
   have hpre:∀q,q∈pre->okQ q:=fun q hq=>W.q q (by rw [←e];simp [hq])
   have hlen:pre.length<=6:=by have:=congrArg List.length e;simp at this;omega
   have r0:=zdh 0 pre hpre
   have r1:=zdh 1 pre hpre
   have r2:=zdh 2 pre hpre
   have rk:=zdh x.2 pre hpre
   obtain ⟨u,hu1,hu2,hu3⟩:=znz (c:=100) pre hq
   have hx':idx (zcM pool l).Sides (i:Int)=some (zd5 x):=by
    show idx (l.map zd5) (i:Int)=_
    unfold idx at hx ⊢
    rw [if_pos (by omega)] at hx ⊢
    rw [List.getElem?_map,hx]
    rfl
   simp only [zav,zc6]
   rw [if_pos (by simpa using hi),hx']
   simp only [zac]
   obtain ⟨n',rfl⟩:∃k,n=k+2:=⟨n-2,by omega⟩
   rw [show zbN (zav (n'+2) (zcM pool l) m) (zcM pool l) i (100*zeu pre) (zd5 x) (n'+2) 0 (zgr 100 pre)=zcd (zav (n'+2) (zcM pool l) m) (zcM pool l) i (100*zeu pre) (zd5 x) (zbN (zav (n'+2) (zcM pool l) m) (zcM pool l) i (100*zeu pre) (zd5 x) (n'+1)) 0 (zgr 100 pre) from rfl]
   unfold zcd
   rw [if_pos (by simp),show idx (zd5 x).Parts 0=some ⟨x.2,100⟩ from rfl]
   simp only [zac]
   rw [show zet (zcM pool l).Owed.length (zgr 100 pre) x.2=some u from (zgc rfl).trans hu1]
   simp only [zac]
   have hx1:=hq.1
   rw [show w64 ((0:Int)+1)=1 from by decide +kernel,zcB (x:=x.1*100) (by omega) (by omega),zcB (by rw [hu2];omega) (by rw [hu2];omega),show x.1*100=100*x.1 by omega,hu3]
   rw [show ∀L,zbN (zav (n'+2) (zcM pool l) m) (zcM pool l) i (100*zeu pre) (zd5 x) (n'+1) 1 L=zcd (zav (n'+2) (zcM pool l) m) (zcM pool l) i (100*zeu pre) (zd5 x) (zbN (zav (n'+2) (zcM pool l) m) (zcM pool l) i (100*zeu pre) (zd5 x) n') 1 L from fun _=>rfl]
   unfold zcd
   rw [if_neg (by simp)]
   unfold zdF
   have ha:zeu pre<=300/\0<=zeu pre:=by unfold zeu;omega
   rw [zcB (x:=100*x.1) (by omega) (by omega),zcB (x:=100*zeu pre+100*x.1) (by omega) (by omega),show 100*zeu pre+100*x.1=100*zeu (pre++[x]) by rw [zlw pre hq];omega]
   exact hrec (zgr 100 (pre++[x]),100*zeu (pre++[x])) ⟨pre++[x],by rw [List.append_assoc];exact e,rfl⟩
 unfold zdc
 rw [zny hn W]
 simp only [zac]
 rw [if_neg (by decide),if_neg (by decide),show mkN (zcM pool l).Owed.length (((zcM pool l).Owed.length:Nat):Int) (0:Int)=some [0,0,0] from rfl]
 simp only [zac]
 exact key
theorem znA {α:Type} (pre:List α):pre=[]\/∃q y,pre=q++[y]:=by
 rcases List.eq_nil_or_concat pre with h | ⟨q,y,h⟩
 ·exact .inl h
 ·exact .inr ⟨q,y,by simpa using h⟩
structure CmpK (aF:Int->Int->Unit->Option (Int×Unit)) (K:Int->Int) (V:Int->Prop):Prop where
 eq:∀x y,V x->V y->∃z,aF x y ()=some (z,())/\(z<0↔K y<K x)
abbrev zmg (K:Int->Int) (l:List Int):Prop:=l.Pairwise fun a b=>K b<=K a
theorem zpo {aF:Int->Int->Unit->Option (Int×Unit)} {K:Int->Int} {V:Int->Prop} (C:CmpK aF K V) {N:Nat} (hN:N<=100) (rec1:Int->List Int->Unit->Option (Unit×(List Int×Unit))) (v2 x:Int):∀(k m:Nat) (pre post:List Int),pre.length=k->k<m->(pre++x::post).length=N->(∀y,y∈pre++x::post->V y)->zmg K pre ->
  ∃zs,zs.Perm (pre++[x])/\zmg K zs/\zat rec1 0 aF N v2 m (k:Int) (pre++x::post) ()=rec1 (w64 (v2+1)) (zs++post) ():=by
 intro k
 induction k with
 | zero =>
  intro m pre post hk hm hl hV hS
  have:pre=[]:=List.eq_nil_of_length_eq_zero hk
  subst this
  obtain ⟨m,rfl⟩:∃q,m=q+1:=⟨m-1,by omega⟩
  refine ⟨[x],.refl _,List.pairwise_singleton _ _,?_⟩
  simp [zat,zbe,zaL,zbl]
 | succ k ih =>
  intro m pre post hk hm hl hV hS
  rcases znA pre with rfl | ⟨q,y,rfl⟩
  ·simp at hk
  have hq:q.length=k:=by simpa using hk
  obtain ⟨m,rfl⟩:∃r,m=r+1:=⟨m-1,by omega⟩
  have hkN:k+1<N:=by rw [←hl];simp;omega
  have e1:w64 (((k+1:Nat):Int)-1)=(k:Int):=by rw [zcB (by omega) (by omega)];omega
  have i1:zet N ((q++[y])++x::post) ((k+1:Nat):Int)=some x:=by
   rw [zgc hl,←hk]
   exact zkJ _ _ _
  have i2:zet N ((q++[y])++x::post) (k:Int)=some y:=by
   rw [zgc hl,List.append_assoc,←hq]
   exact zkJ _ _ _
  have s1:((q++[y])++x::post).set (k+1) y=(q++[y])++y::post:=by
   rw [List.set_append_right _ _ (by omega),show k+1-(q++[y]).length=0 by omega]
   rfl
  have s2:((q++[y])++y::post).set k x=q++x::(y::post):=by
   rw [List.append_assoc,List.set_append_right _ _ (by omega),show k-q.length=0 by omega]
   rfl
  obtain ⟨z,hz,hzk⟩:=C.eq x y (hV x (by simp)) (hV y (by simp))
  unfold zat zbe
  rw [if_pos (by simp<;>omega),e1,i1,i2]
  simp only [zac]
  rw [hz]
  simp only [zac]
  unfold zaL
  by_cases hb:z<0
  ·have hKK:=hzk.1 hb
   rw [if_pos (by simpa using hb),e1,i1,i2]
   simp only [zac,Int.toNat_natCast]
   rw [s1,show zet N ((q++[y])++y::post) (k:Int)=some y by
    rw [zgc (by rw [←hl];simp),List.append_assoc,←hq]
    exact zkJ _ _ _]
   simp only [zac]
   rw [s2]
   have hS2:=List.pairwise_append.1 hS
   obtain ⟨zs,hp,hs,he⟩:=ih m q (y::post) hq (by omega) (by rw [←hl];simp) (fun w hw=>hV w (by simp at hw ⊢;rcases hw with h | h | h | h<;>simp [h])) hS2.1
   refine ⟨zs++[y],?_,?_,by rw [he,List.append_assoc];rfl⟩
   ·refine (hp.append_right [y]).trans ?_
    rw [List.append_assoc,List.append_assoc]
    exact List.Perm.append_left q (List.Perm.swap _ _ _)
   ·refine List.pairwise_append.2 ⟨hs,List.pairwise_singleton _ _,fun a ha b hb=>?_⟩
    rw [List.mem_singleton.1 hb]
    rcases List.mem_append.1 (hp.mem_iff.1 ha) with h | h
    ·exact hS2.2.2 a h y (List.mem_singleton.2 rfl)
    ·rw [List.mem_singleton.1 h];omega
  ·rw [if_neg (by simpa using hb)]
   have hKK:¬K y<K x:=fun h=>hb (hzk.2 h)
   refine ⟨(q++[y])++[x],.refl _,?_,by rw [List.append_assoc (q++[y]) [x] post];rfl⟩
   refine List.pairwise_append.2 ⟨hS,List.pairwise_singleton _ _,fun a ha b hb2=>?_⟩
   rw [List.mem_singleton.1 hb2]
   rcases List.mem_append.1 ha with h | h
   ·have:=(List.pairwise_append.1 hS).2.2 a h y (List.mem_singleton.2 rfl)
    omega
   ·rw [List.mem_singleton.1 h];omega
theorem zpp {aF:Int->Int->Unit->Option (Int×Unit)} {K:Int->Int} {V:Int->Prop} (C:CmpK aF K V) {N n:Nat} (hN:N<=100) (hn:200<=n):∀(post pre:List Int) (m:Nat),post.length<m->(pre++post).length=N->(∀y,y∈pre++post->V y)->zmg K pre ->
  ∃zs,zs.Perm (pre++post)/\zmg K zs/\zad n 0 (N:Int) aF N m (pre.length:Int) (pre++post) ()=some ((),(zs,())):=by
 intro post
 induction post with
 | nil =>
  intro pre m hm hl hV hS
  obtain ⟨m,rfl⟩:∃q,m=q+1:=⟨m-1,by omega⟩
  rw [List.append_nil] at hl ⊢
  refine ⟨pre,.refl _,hS,?_⟩
  unfold zad zbf
  rw [if_neg (by simp;omega)]
 | cons x post ih =>
  intro pre m hm hl hV hS
  obtain ⟨m,rfl⟩:∃q,m=q+1:=⟨m-1,by omega⟩
  simp only [List.length_cons] at hm
  have hl2:=hl
  simp only [List.length_append,List.length_cons] at hl2
  unfold zad zbf
  rw [if_pos (by simp;omega)]
  obtain ⟨zs,hp,hs,he⟩:=zpo C hN (zad n 0 (N:Int) aF N m) (pre.length:Int) x pre.length n pre post rfl (by omega) hl hV hS
  have hzl:zs.length=pre.length+1:=by rw [hp.length_eq];simp
  rw [he,zcB (by omega) (by omega),show ((pre.length:Int)+1)=(zs.length:Int) by omega]
  obtain ⟨us,h1,h2,h3⟩:=ih zs m (by omega) (by rw [←hl];simp [hzl];omega) (fun y hy=>hV y (by
   rcases List.mem_append.1 hy with h | h
   ·have:=hp.mem_iff.1 h
    simp at this ⊢
    rcases this with h | h<;>simp [h]
   ·simp [h])) hs
  refine ⟨us,h1.trans ((hp.append_right post).trans (by rw [List.append_assoc];exact .refl _)),h2,h3⟩
theorem zom {aF:Int->Int->Unit->Option (Int×Unit)} {K:Int->Int} {V:Int->Prop} (C:CmpK aF K V) {n:Nat} (hn:200<=n) (xs:List Int) (h0:0<xs.length) (hl:xs.length<=19) (hV:∀y,y∈xs->V y):∃zs,zs.Perm xs/\zmg K zs/\zbR n aF xs.length (xs,())=some ((),(zs,())):=by
 obtain ⟨n,rfl⟩:∃q,n=q+1:=⟨n-1,by omega⟩
 cases xs with
 | nil=>simp at h0
 | cons x xs =>
  obtain ⟨zs,hp,hs,he⟩:=zpp C (N:=(x::xs).length) (n:=n+1) (by omega) hn xs [x] (n+1) (by simp at hl;omega) rfl hV (List.pairwise_singleton _ _)
  refine ⟨zs,hp,hs,?_⟩
  unfold zbR zdd zbz zcF
  rw [if_neg (by simp at hl ⊢;omega)]
  unfold zca zbD
  rw [show w64 ((0:Int)+1)=(([x]:List Int).length:Int) from (show w64 ((0:Int)+1)=1 by decide +kernel)]
  simp only [List.singleton_append] at he
  rw [he]
  simp only [zac]
  unfold zar zcE
  rw [if_neg (by simp at hl ⊢;omega)]
  rfl
abbrev wsW (a b c A:Int):Weights_:=⟨[a,b,c],A⟩
def zki (P a b c A x:Int):Int:=P*(if x=0 then a else if x=1 then b else c) % A
structure OkS (P a b c A:Int):Prop where
 hp:0<=P/\P<=9999
 ha:0<=a/\a<=100000
 hb:0<=b/\b<=100000
 hc:0<=c/\c<=100000
 sum:A=a+b+c
 pos:0<A
theorem zgd {P a:Int} (hp:0<=P/\P<=9999) (ha:0<=a/\a<=100000):0<=P*a/\P*a<=999900000:=by
 refine ⟨Int.mul_nonneg hp.1 ha.1,?_⟩
 have:=Int.mul_le_mul hp.2 ha.2 ha.1 (by omega)
 omega
abbrev V3 (x:Int):Prop:=x=0\/x=1\/x=2
theorem ztT {P a b c A:Int} (S:OkS P a b c A):CmpK (fun (x0:Int) (x1:Int) (_:Unit)=>(za8 x0 x1 P (wsW a b c A)).map fun y=>(y,())) (zki P a b c A) V3:=by
 refine ⟨fun x y hx hy=>?_⟩
 have hk:∀x,V3 x->∃o,idx ([a,b,c]:List Int) x=some o/\(0<=o/\o<=100000)/\zki P a b c A x=P*o % A:=by
  rintro x (rfl | rfl | rfl)
  ·exact ⟨a,rfl,S.ha,rfl⟩
  ·exact ⟨b,rfl,S.hb,rfl⟩
  ·exact ⟨c,rfl,S.hc,rfl⟩
 obtain ⟨o,h1,h2,h3⟩:=hk x hx
 obtain ⟨u,k1,k2,k3⟩:=hk y hy
 have m1:=zgd S.hp h2
 have m2:=zgd S.hp k2
 unfold za8
 rw [k1]
 simp only [zac]
 rw [zcB (by omega) (by omega),zle m2.1 S.pos]
 simp only [zac]
 rw [h1]
 simp only [zac]
 rw [zcB (by omega) (by omega),zle m1.1 S.pos]
 simp only [zac]
 rw [←h3,←k3]
 unfold cmp_Compare_int cmp_isNaN_int
 simp only [zac,bne_self_eq_false,Bool.false_eq_true,if_false]
 by_cases e1:zki P a b c A y<zki P a b c A x
 ·rw [if_pos (by simpa using e1)]
  exact ⟨-1,rfl,by omega⟩
 ·rw [if_neg (by simpa using e1)]
  split
  ·exact ⟨1,rfl,by omega⟩
  ·exact ⟨0,rfl,by omega⟩
theorem zon {l k:List Int} (h:l.Perm k):l.sum=k.sum:=by
 induction h with
 | nil=>rfl
 | cons x _ ih=>simp [ih]
 | swap x y l=>simp;omega
 | trans _ _ a b=>exact a.trans b
theorem zoo {P a b c A:Int} (S:OkS P a b c A) {zs:List Int} (hp:zs.Perm [0,1,2]) (hs:zmg (zki P a b c A) zs) :
  0<=P-P*a / A-P*b / A-P*c / A/\P-P*a / A-P*b / A-P*c / A<=2/\∀x,x∈zs.take (P-P*a / A-P*b / A-P*c / A).toNat->zki P a b c A x≠0:=by
 have hA:=S.pos
 have d0:=Int.mul_ediv_add_emod (P*a) A
 have d1:=Int.mul_ediv_add_emod (P*b) A
 have d2:=Int.mul_ediv_add_emod (P*c) A
 have r0:=Int.emod_nonneg (P*a) (show A≠0 by omega)
 have r1:=Int.emod_nonneg (P*b) (show A≠0 by omega)
 have r2:=Int.emod_nonneg (P*c) (show A≠0 by omega)
 have s0:=Int.emod_lt_of_pos (P*a) hA
 have s1:=Int.emod_lt_of_pos (P*b) hA
 have s2:=Int.emod_lt_of_pos (P*c) hA
 have hsum:A*(P-P*a / A-P*b / A-P*c / A)=P*a % A+P*b % A+P*c % A:=by
  rw [Int.mul_sub,Int.mul_sub,Int.mul_sub]
  have:A*P=P*a+P*b+P*c:=by rw [Int.mul_comm,S.sum,Int.mul_add,Int.mul_add]
  omega
 generalize hL:P-P*a / A-P*b / A-P*c / A=L at hsum
 have hL0:0<=L:=by
  by_cases h:0<=L
  ·exact h
  ·have:=Int.mul_le_mul_of_nonneg_left (show L<=-1 by omega) (show 0<=A by omega)
   omega
 have hL2:L<=2:=by
  by_cases h:L<=2
  ·exact h
  ·have:=Int.mul_le_mul_of_nonneg_left (show 3<=L by omega) (show 0<=A by omega)
   omega
 refine ⟨hL0,hL2,fun x hx=>?_⟩
 have k0:zki P a b c A 0=P*a % A:=rfl
 have k1:zki P a b c A 1=P*b % A:=rfl
 have k2:zki P a b c A 2=P*c % A:=rfl
 have hlen:=hp.length_eq
 match zs,hp,hs,hx,hlen with
 | [i,j,k],hp,hs,hx,_ =>
  have hm:∀f:Int->Int,f i+f j+f k=f 0+f 1+f 2:=fun f=>by
   have:=zon (hp.map f)
   simp at this
   omega
  have hkk:=hm (zki P a b c A)
  rw [k0,k1,k2] at hkk
  have hb:∀y,y∈[i,j,k]->0<=zki P a b c A y/\zki P a b c A y<A:=fun y hy=>by
   have:=hp.mem_iff.1 hy
   simp at this
   rcases this with rfl | rfl | rfl
   ·rw [k0];omega
   ·rw [k1];omega
   ·rw [k2];omega
  have hi:=hb i (by simp)
  have hj:=hb j (by simp)
  have hk:=hb k (by simp)
  simp only [List.pairwise_cons,List.mem_cons,List.not_mem_nil,or_false,forall_eq_or_imp,forall_eq] at hs
  obtain ⟨⟨q1,q2⟩,q3,_⟩:=hs
  have hLL:L=0\/L=1\/L=2:=by omega
  rcases hLL with rfl | rfl | rfl
  ·simp at hx
  ·have:x=i:=by simpa using hx
   subst this
   omega
  ·have:x=i\/x=j:=by simpa using hx
   rcases this with rfl | rfl<;>omega
theorem znB {n:Nat} {a b c A:Int} (W:Int->Prop):∀(k:List Int) (cs:List Int) (i m:Nat) (v:List Int),cs.drop i=k->i<=cs.length->cs.length<=3->k.length<m->v.length=3->(∀x,x∈v->0<=x/\x<=100000-k.length)->(∀x,x∈k->V3 x/\¬W x) ->
  ∃u,zaX (wsW a b c A) cs m (i:Int) v=some u/\u.length=3/\∀x,V3 x->W x->u[x.toNat]?=v[x.toNat]?:=by
 intro k
 induction k with
 | nil =>
  intro cs i m v hd hi hc hm hv hb hk
  obtain ⟨m,rfl⟩:∃q,m=q+1:=⟨m-1,by omega⟩
  have:i=cs.length:=by have:=List.drop_eq_nil_iff.1 hd;omega
  subst this
  refine ⟨v,?_,hv,fun _ _ _=>rfl⟩
  unfold zaX zbX
  rw [if_neg (by simp)]
  unfold zcb
  rw [show zkh (wsW a b c A).of_.length v=some () from zjF hv (show 0<3 by decide)]
  rfl
 | cons x k ih =>
  intro cs i m v hd hi hc hm hv hb hk
  obtain ⟨m,rfl⟩:∃q,m=q+1:=⟨m-1,by omega⟩
  simp only [List.length_cons] at hm
  have hlt:i<cs.length:=by
   rcases Nat.lt_or_ge i cs.length with h | h
   ·exact h
   ·rw [List.drop_eq_nil_of_le h] at hd;cases hd
  have hd2:=hd
  rw [List.drop_eq_getElem_cons hlt] at hd2
  injection hd2 with h1 h2
  obtain ⟨hx,hnw⟩:=hk x (List.mem_cons_self ..)
  have hx3:0<=x/\x.toNat<v.length:=by rcases hx with rfl | rfl | rfl<;>rw [hv]<;>decide
  unfold zaX zbX
  rw [if_pos (by simp;omega),zgM hlt,h1]
  simp only [zac]
  rw [show zet (wsW a b c A).of_.length v x=some v[x.toNat] from zjE hv hx3.1 hx3.2]
  simp only [zac]
  have hvx:=hb v[x.toNat] (List.getElem_mem _)
  simp only [List.length_cons] at hvx
  rw [zcB (x:=(i:Int)+1) (by omega) (by omega),zcB (by omega) (by omega)]
  obtain ⟨u,e,hu,hw⟩:=ih cs (i+1) m (v.set x.toNat (v[x.toNat]+1)) h2 (by omega) hc (by omega) (by simpa using hv) (fun y hy=>by
   rcases List.mem_or_eq_of_mem_set hy with h | h
   ·have:=hb y h
    simp only [List.length_cons] at this
    omega
   ·omega) (fun y hy=>hk y (List.mem_cons_of_mem _ hy))
  refine ⟨u,e,hu,fun y hy hwy=>?_⟩
  rw [hw y hy hwy,List.getElem?_set_ne]
  intro e2
  have:y=x:=by
   rcases hx with rfl | rfl | rfl<;>rcases hy with rfl | rfl | rfl<;>first | rfl | (exact absurd e2 (by decide))
  subst this
  exact hnw hwy
theorem znC {n:Nat} (hn:200<=n) {P a b c A:Int} (S:OkS P a b c A):∃u,zbu n (wsW a b c A) P=some u/\u.length=3/\∀x,V3 x->zki P a b c A x=0->u[x.toNat]?=some (P*(if x=0 then a else if x=1 then b else c) / A):=by
 have hA:=S.pos
 have m0:=zgd S.hp S.ha
 have m1:=zgd S.hp S.hb
 have m2:=zgd S.hp S.hc
 have dv:∀{q:Int},0<=q/\q<=999900000->quo (w64 q) A=some (q / A)/\0<=q / A:=fun {q} h=>by
  rw [zcB (by omega) (by omega)]
  exact ⟨zj4 h.1 hA (by omega),Int.ediv_nonneg h.1 (by omega)⟩
 have le:∀{o:Int},0<=o->o<=A->P*o / A<=P:=fun {o} h1 h2=>by
  have:=Int.mul_le_mul_of_nonneg_left h2 S.hp.1
  exact Int.le_trans (Int.ediv_le_ediv hA this) (by rw [Int.mul_ediv_cancel _ (by omega)];omega)
 have hs:=S.sum
 have l0:=le S.ha.1 (by have:=S.hb;have:=S.hc;omega)
 have l1:=le S.hb.1 (by have:=S.ha;have:=S.hc;omega)
 have l2:=le S.hc.1 (by have:=S.ha;have:=S.hb;omega)
 have d0:=dv m0
 have d1:=dv m1
 have d2:=dv m2
 obtain ⟨n,rfl⟩:∃q,n=q+4:=⟨n-4,by omega⟩
 have hP:=S.hp
 obtain ⟨zs,hp,hsrt,hsort⟩:=zom (ztT S) hn [0,1,2] (by decide) (by decide) (fun y hy=>by simpa using hy)
 obtain ⟨hl0,hl2,hkey⟩:=zoo S hp hsrt
 have hzl:zs.length=3:=hp.length_eq
 have way:zbu (n+4) (wsW a b c A) P=zbA (n+4) (wsW a b c A) P (P-P*a / A-P*b / A-P*c / A) [0,1,2] [P*a / A,P*b / A,P*c / A]:=by
  unfold zbu
  rw [show mkN (wsW a b c A).of_.length (((wsW a b c A).of_.length:Nat):Int) (0:Int)=some [0,0,0] from (show mkN 3 3 (0:Int)=some [0,0,0] from by decide +kernel)]
  simp only [zac]
  have st:∀(m:Nat) (L i:Int) (xs ys:List Int),i<3->zaM (n+4) (wsW a b c A) P (m+1) L i xs ys=Option.bind (idx [a,b,c] i) fun x25=>Option.bind (quo (w64 (P*x25)) A) fun q26=>Option.bind (zet 3 ys i) fun x27=>Option.bind (zet 3 xs i) fun x28=>Option.bind (zet 3 (ys.set (Int.toNat i) q26) i) fun x29=>zaM (n+4) (wsW a b c A) P m (w64 (L-x29)) (w64 (i+1)) (xs.set (Int.toNat i) i) (ys.set (Int.toNat i) q26):=fun m L i xs ys h=>by
   show zbk (n+4) (wsW a b c A) P (zaM (n+4) (wsW a b c A) P m) L i xs ys=_
   unfold zbk
   rw [if_pos (by simpa using h)]
   rfl
  rw [st _ _ _ _ _ (by decide),show idx [a,b,c] 0=some a from rfl]
  simp only [zac]
  rw [d0.1]
  simp only [zac,show zet 3 ([0,0,0]:List Int) 0=some 0 from rfl]
  rw [show ([0,0,0]:List Int).set (Int.toNat 0) (P*a / A)=[P*a / A,0,0] from rfl,show zet 3 [P*a / A,0,0] 0=some (P*a / A) from rfl]
  simp only [zac]
  rw [zcB (x:=P-P*a / A) (by omega) (by omega),show w64 ((0:Int)+1)=1 from by decide +kernel,show ([0,0,0]:List Int).set (Int.toNat 0) 0=[0,0,0] from rfl]
  rw [st _ _ _ _ _ (by decide),show idx [a,b,c] 1=some b from rfl]
  simp only [zac]
  rw [d1.1]
  simp only [zac,show zet 3 [P*a / A,0,0] 1=some 0 from rfl,show zet 3 ([0,0,0]:List Int) 1=some 0 from rfl]
  rw [show [P*a / A,0,0].set (Int.toNat 1) (P*b / A)=[P*a / A,P*b / A,0] from rfl,show zet 3 [P*a / A,P*b / A,0] 1=some (P*b / A) from rfl]
  simp only [zac]
  rw [zcB (x:=P-P*a / A-P*b / A) (by omega) (by omega),show w64 ((1:Int)+1)=2 from by decide +kernel,show ([0,0,0]:List Int).set (Int.toNat 1) 1=[0,1,0] from rfl]
  rw [st _ _ _ _ _ (by decide),show idx [a,b,c] 2=some c from rfl]
  simp only [zac]
  rw [d2.1]
  simp only [zac,show zet 3 [P*a / A,P*b / A,0] 2=some 0 from rfl,show zet 3 ([0,1,0]:List Int) 2=some 0 from rfl]
  rw [show [P*a / A,P*b / A,0].set (Int.toNat 2) (P*c / A)=[P*a / A,P*b / A,P*c / A] from rfl,show zet 3 [P*a / A,P*b / A,P*c / A] 2=some (P*c / A) from rfl]
  simp only [zac]
  rw [zcB (x:=P-P*a / A-P*b / A-P*c / A) (by omega) (by omega),show w64 ((2:Int)+1)=3 from by decide +kernel,show ([0,1,0]:List Int).set (Int.toNat 2) 2=[0,1,2] from rfl]
  unfold zaM zbk
  rw [if_neg (by simp)]
 rw [way]
 unfold zbA
 rw [show zbR (n+4) (fun (x0:Int) (x1:Int) (_:Unit)=>(za8 x0 x1 P (wsW a b c A)).map fun y=>(y,())) (wsW a b c A).of_.length ([0,1,2],())=some ((),(zs,())) from hsort]
 simp only [zac]
 rw [show zkh (wsW a b c A).of_.length zs=some () from zjF hzl (show 0<3 by decide)]
 simp only [zac]
 rw [show cut zs 0 (P-P*a / A-P*b / A-P*c / A)=some (zs.take (P-P*a / A-P*b / A-P*c / A).toNat) by
  unfold cut
  rw [if_pos (by rw [hzl];omega)]
  rfl]
 simp only [zac]
 obtain ⟨u,e,hu,hw⟩:=znB (n:=n) (a:=a) (b:=b) (c:=c) (A:=A) (fun x=>zki P a b c A x=0) (zs.take (P-P*a / A-P*b / A-P*c / A).toNat) (zs.take (P-P*a / A-P*b / A-P*c / A).toNat) 0 (n+4) [P*a / A,P*b / A,P*c / A] rfl (by omega) (by rw [List.length_take,hzl];omega) (by rw [List.length_take,hzl];omega) rfl (fun x hx=>by
  have:(zs.take (P-P*a / A-P*b / A-P*c / A).toNat).length<=3:=by rw [List.length_take,hzl];omega
  simp at hx
  rcases hx with rfl | rfl | rfl<;>omega) (fun x hx=>⟨by
  have:=hp.mem_iff.1 (List.mem_of_mem_take hx)
  simpa using this,hkey x hx⟩)
 refine ⟨u,e,hu,fun x hx hk=>?_⟩
 rw [hw x hx hk]
 rcases hx with rfl | rfl | rfl<;>rfl
theorem mark_eq (s:Int) (st:Carriage_) (h:st.run.spells.length<1048576):zbO s st=some ((),(⟨st.t,st.queue,st.pins,st.now,⟨st.at_.At,st.at_.Way,s⟩,⟨st.run.spells++[⟨⟨st.at_.At,st.at_.Way,s⟩,st.now⟩],st.run.plays,st.run.steps,st.run.end_⟩⟩:Carriage_)):=by
 unfold zbO
 rw [zi0 (by simp;omega)]
 rfl
def prs (now:Int):List TrayPress->List Bool->List TrayPress×List Bool
 | [],ps=>([],ps)
 | p::q,ps=>if p.Time<=now then prs now q (ps.set p.Side.toNat true) else (p::q,ps)
def zgC (R:Nat) (s:Int):Prop:=0<=s/\s<2*R
theorem zop {R:Nat} (st:Carriage_) (hR:st.t.Records.length=R):∀(q:List TrayPress) (m:Nat) (ps:List Bool),q.length<m->q.length<1048576->(∀p,p∈q->zgC R p.Side)->ps.length=2*R ->
  za6 st m q ps=some ((),(⟨st.t,(prs st.now q ps).1,(prs st.now q ps).2,st.now,st.at_,st.run⟩:Carriage_)):=by
 intro q
 induction q with
 | nil =>
  intro m ps hm _ _ _
  obtain ⟨m,rfl⟩:∃k,m=k+1:=⟨m-1,by omega⟩
  rfl
 | cons p q ih =>
  intro m ps hm hl hq hp
  obtain ⟨m,rfl⟩:∃k,m=k+1:=⟨m-1,by omega⟩
  simp only [List.length_cons] at hm hl
  unfold za6 zde
  rw [if_pos (by simp),show idx (p::q) 0=some p from rfl]
  simp only [zac]
  unfold zcn
  obtain ⟨s1,s2⟩:=hq p (List.mem_cons_self ..)
  by_cases h:p.Time<=st.now
  ·rw [if_pos (by simpa using h),show idx (p::q) 0=some p from rfl]
   simp only [zac]
   rw [hR,zjE hp s1 (by omega)]
   simp only [zac]
   have hc:cut (p::q) 1 ((p::q).length:Int)=some q:=by
    unfold cut
    rw [if_pos (by simp;omega)]
    simp
   rw [hc]
   simp only [zac]
   rw [ih m _ (by omega) (by omega) (fun x hx=>hq x (List.mem_cons_of_mem _ hx)) (by simpa using hp)]
   simp only [prs,if_pos h]
  ·rw [if_neg (by simpa using h)]
   simp only [prs,if_neg h]
theorem zoq {R n:Nat} (st:Carriage_) (hR:st.t.Records.length=R) (hn:st.queue.length<n) (hl:st.queue.length<1048576) (hq:∀p,p∈st.queue->zgC R p.Side) (hp:st.pins.length=2*R) :
  zeh n st=some ((),(⟨st.t,(prs st.now st.queue st.pins).1,(prs st.now st.queue st.pins).2,st.now,st.at_,st.run⟩:Carriage_)):=zop st hR _ _ _ hn hl hq hp
theorem zor {n:Nat} (l:List Bool) (hl:l.length<1048576) (hn:l.length<n):zc8 n l true=some (decide (true∈l)):=by
 have key:(zdV n l true).map (fun r=>decide (r≥0))=some (decide (true∈l)):=by
  refine znu (F:=fun m i (_:Unit)=>(zbM l true m i).map fun r=>decide (r≥0)) (spec:=fun k _=>some (decide (true∈k))) hl hn () (fun m s=>?_) (fun m i x k s hx hi hi' hd hrec=>?_)
  ·simp [zbM,zcS,zc7]
  ·simp only [zbM,zcS]
   rw [if_pos (by simpa using hi),hx,zac]
   cases x with
   | true=>simp
   | false=>simpa using hrec ()
 unfold zc8
 cases h:zdV n l true with
 | none=>rw [h] at key;cases key
 | some r=>rw [h] at key;simpa using key
theorem znD {R:Nat} {t:Tray} (hR:t.Records.length=R) {s:Int} (hs:zgC R s) (hl:R<=6):∃d,zg9 t s=some d:=by
 obtain ⟨h1,h2⟩:=hs
 unfold zg9
 rw [zle h1 (by decide)]
 simp only [zac]
 have hq:quo s 2=some ((s / 2).toNat:Int):=by rw [zj4 h1 (by decide) (by omega)];congr 1;omega
 rw [hq]
 have hi:idx t.Records ((s / 2).toNat:Int)=some t.Records[(s / 2).toNat]:=zgM (by omega)
 split
 ·simp only [zac]
  rw [hi]
  exact ⟨_,rfl⟩
 ·simp only [zac]
  rw [hi]
  exact ⟨_,rfl⟩
structure Next (R:Nat) (st st':Carriage_):Prop where
 t:st'.t=st.t
 queue:st'.queue=st.queue
 pins:st'.pins=st.pins
 plays:st'.run.plays=st.run.plays
 pos:(st'.at_.At,st'.at_.Way)=nxp R (st.at_.At,st.at_.Way)
 spells:st'.run.spells.length=st.run.spells.length+1
theorem znE {R:Nat} (st:Carriage_) (hR:st.t.Records.length=R) (hl:R<=6) (hp:okp R (st.at_.At,st.at_.Way)) (hs:st.run.spells.length<1048576):∃st',zdG st=some ((),st')/\Next R st st':=by
 obtain ⟨⟨h1,h2⟩,h3⟩:=hp
 simp only at h1 h2 h3
 have e1:w64 (st.at_.At+st.at_.Way)=st.at_.At+st.at_.Way:=zcB (by omega) (by omega)
 have e2:w64 (0-st.at_.Way)=-st.at_.Way:=by rw [zcB (by omega) (by omega)];omega
 have yes:0<=st.at_.At+st.at_.Way/\st.at_.At+st.at_.Way<R->∃st',zbj st true=some ((),st')/\Next R st st':=fun h=>by
  unfold zbj zb1
  rw [if_pos rfl,mark_eq _ _ (by exact hs)]
  refine ⟨_,rfl,⟨rfl,rfl,rfl,rfl,?_,by simp⟩⟩
  simp only [e1]
  unfold nxp
  rw [if_pos h]
 have no:¬(0<=st.at_.At+st.at_.Way/\st.at_.At+st.at_.Way<R)->∃st',zbj st false=some ((),st')/\Next R st st':=fun h=>by
  unfold zbj zb1
  rw [if_neg (by decide),mark_eq _ _ (by exact hs)]
  refine ⟨_,rfl,⟨rfl,rfl,rfl,rfl,?_,by simp⟩⟩
  simp only [e2]
  unfold nxp
  rw [if_neg h]
 unfold zdG
 rw [e1,hR]
 by_cases ha:0<=st.at_.At+st.at_.Way
 ·rw [if_pos (by simpa using ha)]
  by_cases hb:st.at_.At+st.at_.Way<R
  ·rw [show decide (st.at_.At+st.at_.Way<(R:Int))=true by simpa using hb]
   exact yes ⟨ha,hb⟩
  ·rw [show decide (st.at_.At+st.at_.Way<(R:Int))=false by simpa using hb]
   exact no fun h=>hb h.2
 ·rw [if_neg (by simpa using ha)]
  exact no fun h=>ha h.1
theorem zr3 {R n:Nat} (st:Carriage_) (hR:st.t.Records.length=R) (hR0:0<R) (hl:R<=6) (hpos:okp R (st.at_.At,st.at_.Way)) (hn:100<=n) (hql:st.queue.length<50) (hq:∀p,p∈st.queue->zgC R p.Side) (hp:st.pins.length=2*R)
  (hs:st.run.spells.length<1000000) (hy:st.run.plays.length<1000000) {q':List TrayPress} {ps':List Bool} (he:prs st.now st.queue st.pins=(q',ps')) (hps:ps'.length=2*R) :
  ∃b st',zcp n st=some (b,st')/\st'.t=st.t/\st'.queue=q' /\
   ((true∉ps'/\q'=[]/\b=false/\st'.pins=ps'/\st'.run.plays=st.run.plays/\st'.at_=st.at_/\st'.run.spells=st.run.spells) \/
   (true∉ps'/\(∃p k,q'=p::k/\st'.now=p.Time)/\b=true/\st'.pins=ps'/\st'.run.plays=st.run.plays/\st'.at_=st.at_/\st'.run.spells=st.run.spells) \/
   (true∈ps'/\ps'[(sdp (st.at_.At,st.at_.Way)).toNat]?=some false/\b=true/\st'.pins=ps'/\st'.run.plays=st.run.plays/\(st'.at_.At,st'.at_.Way)=nxp R (st.at_.At,st.at_.Way)/\st'.run.spells.length=st.run.spells.length+1) \/
   (true∈ps'/\ps'[(sdp (st.at_.At,st.at_.Way)).toNat]?=some true/\b=true/\st'.pins=ps'.set (sdp (st.at_.At,st.at_.Way)).toNat false/\st'.run.plays=st.run.plays++[⟨sdp (st.at_.At,st.at_.Way),st.now⟩]/\(st'.at_.At,st'.at_.Way)=nxp R (st.at_.At,st.at_.Way)/\st'.run.spells.length=st.run.spells.length+3)):=by
 have hsd:=zoO hpos
 obtain ⟨⟨h1,h2⟩,h3⟩:=id hpos
 simp only at h1 h2 h3
 unfold zcp
 rw [zoq st hR (by omega) (by omega) hq hp,he]
 simp only [zac]
 rw [hR,zjF hps (by omega),zac,zor ps' (by omega) (by omega),zac]
 by_cases hT:true∈ps'
 ·rw [if_neg (by simp [hT])]
  have hj:∀s:Int,s=sdp (st.at_.At,st.at_.Way)->∃b st',zcf ((),(⟨st.t,q',ps',st.now,st.at_,st.run⟩:Carriage_)) s=some (b,st')/\st'.t=st.t/\st'.queue=q' /\
   ((true∈ps'/\ps'[(sdp (st.at_.At,st.at_.Way)).toNat]?=some false/\b=true/\st'.pins=ps'/\st'.run.plays=st.run.plays/\(st'.at_.At,st'.at_.Way)=nxp R (st.at_.At,st.at_.Way)/\st'.run.spells.length=st.run.spells.length+1) \/
   (true∈ps'/\ps'[(sdp (st.at_.At,st.at_.Way)).toNat]?=some true/\b=true/\st'.pins=ps'.set (sdp (st.at_.At,st.at_.Way)).toNat false/\st'.run.plays=st.run.plays++[⟨sdp (st.at_.At,st.at_.Way),st.now⟩]/\(st'.at_.At,st'.at_.Way)=nxp R (st.at_.At,st.at_.Way)/\st'.run.spells.length=st.run.spells.length+3)):=by
   rintro s rfl
   generalize hsg:sdp (st.at_.At,st.at_.Way)=s at hsd ⊢
   have hlt:s.toNat<ps'.length:=by omega
   unfold zcf
   simp only [hR]
   rw [zjE hps hsd.1 hlt]
   simp only [zac]
   have hg:ps'[s.toNat]?=some ps'[s.toNat]:=List.getElem?_eq_getElem hlt
   by_cases hb:ps'[s.toNat]=true
   ·rw [if_pos hb,zi0 (by simp;omega)]
    simp only [zac]
    rw [mark_eq _ _ (by show st.run.spells.length<1048576;omega)]
    simp only [zac]
    obtain ⟨d,hd⟩:=znD hR hsd hl
    rw [hd]
    simp only [zac]
    rw [mark_eq _ _ (by simp;omega)]
    simp only [zac]
    unfold zce
    obtain ⟨st',e,hx⟩:=znE (R:=R) (⟨⟨st.t.Records,st.t.At,st.t.Way,st.t.Step,st.t.Presses⟩,q',ps'.set s.toNat false,w64 (st.now+d),⟨st.at_.At,st.at_.Way,-1⟩,⟨(st.run.spells++[⟨⟨st.at_.At,st.at_.Way,s⟩,st.now⟩])++[⟨⟨st.at_.At,st.at_.Way,-1⟩,w64 (st.now+d)⟩],st.run.plays++[⟨s,st.now⟩],st.run.steps,w64 (st.now+d)⟩⟩:Carriage_) hR hl hpos (by simp;omega)
    rw [e]
    refine ⟨true,st',rfl,hx.t,hx.queue,.inr ⟨hT,by rw [hg,hb],rfl,hx.pins,hx.plays,hx.pos,?_⟩⟩
    rw [hx.spells]
    simp
   ·rw [if_neg hb]
    unfold zce
    obtain ⟨st',e,hx⟩:=znE (R:=R) (⟨⟨st.t.Records,st.t.At,st.t.Way,st.t.Step,st.t.Presses⟩,q',ps',st.now,⟨st.at_.At,st.at_.Way,st.at_.Side⟩,⟨st.run.spells,st.run.plays,st.run.steps,st.run.end_⟩⟩:Carriage_) hR hl hpos (by show st.run.spells.length<1048576;omega)
    rw [e]
    exact ⟨true,st',rfl,hx.t,hx.queue,.inl ⟨hT,by rw [hg,Bool.eq_false_iff.2 hb],rfl,hx.pins,hx.plays,hx.pos,hx.spells⟩⟩
  by_cases hw:st.at_.Way<0
  ·rw [if_pos (by simpa using hw)]
   obtain ⟨b,st',e,a1,a2,a3⟩:=hj (w64 ((w64 (2*st.at_.At))+1)) (by
    rw [zcB (x:=2*st.at_.At) (by omega) (by omega),zcB (by omega) (by omega)]
    unfold sdp
    rw [if_pos hw])
   exact ⟨b,st',e,a1,a2,.inr (.inr a3)⟩
  ·rw [if_neg (by simpa using hw)]
   obtain ⟨b,st',e,a1,a2,a3⟩:=hj (w64 (2*st.at_.At)) (by
    rw [zcB (x:=2*st.at_.At) (by omega) (by omega)]
    unfold sdp
    rw [if_neg hw])
   exact ⟨b,st',e,a1,a2,.inr (.inr a3)⟩
 ·rw [if_pos (by simp [hT])]
  cases q' with
  | nil =>
   rw [if_pos (by decide)]
   exact ⟨_,_,rfl,rfl,rfl,.inl ⟨hT,rfl,rfl,rfl,rfl,rfl,rfl⟩⟩
  | cons p k =>
   rw [if_neg (by simp;omega),show idx (p::k) 0=some p from rfl]
   exact ⟨_,_,rfl,rfl,rfl,.inr (.inl ⟨hT,⟨p,k,rfl,rfl⟩,rfl,rfl,rfl,rfl,rfl⟩)⟩
theorem zke (l:List Bool) (i:Nat):(l.set i true).count true<=l.count true+1:=by
 induction l generalizing i with
 | nil=>simp
 | cons b l ih =>
  cases i with
  | zero=>cases b<;>simp
  | succ i =>
   have:=ih i
   simp only [List.set_cons_succ,List.count_cons]
   omega
theorem ziA (l:List Bool) (i:Nat) (h:l[i]?=some true):(l.set i false).count true+1=l.count true:=by
 induction l generalizing i with
 | nil=>simp at h
 | cons b l ih =>
  cases i with
  | zero=>simp at h;subst h;simp
  | succ i =>
   have:=ih i (by simpa using h)
   simp only [List.set_cons_succ,List.count_cons]
   omega
def zly (ps:List Bool) (s:Int):Prop:=∃i:Nat,s=(i:Int)/\ps[i]?=some true
def quT (q:List TrayPress) (s:Int):Prop:=∃p,p∈q/\p.Side=s
theorem zos {R:Nat} {ps:List Bool} {a s:Int} (hl:ps.length=2*R) (ha:zgC R a):zly (ps.set a.toNat true) s↔s=a\/zly ps s:=by
 obtain ⟨h1,h2⟩:=ha
 constructor
 ·rintro ⟨i,rfl,hi⟩
  by_cases e:i=a.toNat
  ·exact .inl (by omega)
  ·rw [List.getElem?_set_ne (by omega)] at hi
   exact .inr ⟨i,rfl,hi⟩
 ·intro h
  by_cases e:s=a
  ·subst e
   exact ⟨s.toNat,by omega,by rw [List.getElem?_set_self (by omega)]⟩
  ·rcases h with h | ⟨i,rfl,hi⟩
   ·exact absurd h e
   ·exact ⟨i,rfl,by rw [List.getElem?_set_ne (by omega)];exact hi⟩
theorem zi7 {ps:List Bool} {a s:Int} (h0:0<=a):zly (ps.set a.toNat false) s->s≠a/\zly ps s:=by
 rintro ⟨i,rfl,hi⟩
 by_cases e:i=a.toNat
 ·subst e
  rw [List.getElem?_set] at hi
  simp at hi
 ·rw [List.getElem?_set_ne (by omega)] at hi
  exact ⟨by omega,i,rfl,hi⟩
theorem znF {ps:List Bool} {a s:Int} (h:zly ps s) (hne:s≠a) (h0:0<=a):zly (ps.set a.toNat false) s:=by
 obtain ⟨i,rfl,hi⟩:=h
 exact ⟨i,rfl,by rw [List.getElem?_set_ne (by omega)];exact hi⟩
structure Prs (R:Nat) (now:Int) (q:List TrayPress) (ps:List Bool) (q':List TrayPress) (ps':List Bool):Prop where
 len:ps'.length=ps.length
 mem:∀p,p∈q'->p∈q
 cnt:q'.length+ps'.count true<=q.length+ps.count true
 shorter:q'.length<q.length\/(q'=q/\ps'=ps)
 union:∀s,(zly ps' s\/quT q' s)↔(zly ps s\/quT q s)
 past:(∀p,p∈q->p.Time<=now)->q'=[]
 head:∀p k,q'=p::k->¬p.Time<=now
theorem zlz {R:Nat} (now:Int):∀(q:List TrayPress) (ps:List Bool),(∀p,p∈q->zgC R p.Side)->ps.length=2*R->Prs R now q ps (prs now q ps).1 (prs now q ps).2
 | [],ps,_,_=>⟨rfl,fun _ h=>h,Nat.le_refl _,.inr ⟨rfl,rfl⟩,fun _=>Iff.rfl,fun _=>rfl,fun p k h=>by cases h⟩
 | p::q,ps,hq,hl=>by
  unfold prs
  by_cases h:p.Time<=now
  ·rw [if_pos h]
   have hp:=hq p (List.mem_cons_self ..)
   have ih:=zlz (R:=R) now q (ps.set p.Side.toNat true) (fun x hx=>hq x (List.mem_cons_of_mem _ hx)) (by simpa using hl)
   have hc:=zke ps p.Side.toNat
   refine ⟨by rw [ih.len];simp,fun x hx=>List.mem_cons_of_mem _ (ih.mem x hx),?_,?_,fun s=>?_,fun ha=>ih.past fun x hx=>ha x (List.mem_cons_of_mem _ hx),ih.head⟩
   ·have:=ih.cnt
    simp only [List.length_cons]
    omega
   ·refine .inl ?_
    rcases ih.shorter with h1 | ⟨h1,_⟩
    ·simp only [List.length_cons];omega
    ·rw [h1];simp
   ·rw [ih.union s,zos hl hp]
    constructor
    ·rintro ((rfl | h1) | ⟨x,hx,rfl⟩)
     ·exact .inr ⟨p,List.mem_cons_self ..,rfl⟩
     ·exact .inl h1
     ·exact .inr ⟨x,List.mem_cons_of_mem _ hx,rfl⟩
    ·rintro (h1 | ⟨x,hx,rfl⟩)
     ·exact .inl (.inr h1)
     ·rcases List.mem_cons.1 hx with rfl | hx
      ·exact .inl (.inl rfl)
      ·exact .inr ⟨x,hx,rfl⟩
  ·rw [if_neg h]
   exact ⟨rfl,fun _ h=>h,Nat.le_refl _,.inr ⟨rfl,rfl⟩,fun _=>Iff.rfl,fun ha=>absurd (ha p (List.mem_cons_self ..)) h,fun x k e=>by injection e with e1 e2;subst e1;exact h⟩
def plT (l:List TrayPlay) (s:Int):Prop:=∃y,y∈l/\y.Side=s
structure Inv (R N:Nat) (L:Int->Prop) (z:Prop) (st:Carriage_):Prop where
 hR:st.t.Records.length=R
 pos:okp R (st.at_.At,st.at_.Way)
 q:∀p,p∈st.queue->zgC R p.Side
 pins:st.pins.length=2*R
 cnt:st.run.plays.length+(st.queue.length+st.pins.count true)<=N
 side:∀y,y∈st.run.plays->zgC R y.Side
 all:∀s,L s↔plT st.run.plays s\/(zly st.pins s\/quT st.queue s)
 one:z->(∀p,p∈st.queue->p.Time<=st.now)/\(st.queue=[]\/st.run.plays=[])/\(st.run.plays.map (·.Side)).Nodup/\∀y,y∈st.run.plays->¬zly st.pins y.Side
structure Dst (R:Nat) (st:Carriage_) (d:Nat):Prop where
 le:d<=2*R+1
 some:true∈st.pins->st.pins[(sdp (itp R d (st.at_.At,st.at_.Way))).toNat]?=some true
 none:true∉st.pins->∀p k,st.queue=p::k->¬p.Time<=st.now->1<=d
theorem zlA {R:Nat} (st:Carriage_) (hR:R<=6) (hp:okp R (st.at_.At,st.at_.Way)) (hl:st.pins.length=2*R):∃d,Dst R st d:=by
 by_cases h:true∈st.pins
 ·obtain ⟨i,hi,e⟩:=List.mem_iff_getElem.1 h
  obtain ⟨k,hk,e2⟩:=zol hR hp (s:=i) (by omega)
  exact ⟨k,by omega,fun _=>by rw [e2,Int.toNat_natCast,List.getElem?_eq_getElem hi,e],fun h'=>absurd h h'⟩
 ·exact ⟨1,by omega,fun h'=>absurd h' h,fun _ _ _ _ _=>Nat.le_refl _⟩
def wgt (st:Carriage_):Nat:=2*st.queue.length+st.pins.count true
theorem zjG {a b d d' K:Nat} (h:a<b) (hd:d'<K):a*K+d'<b*K+d:=by
 have:=Nat.mul_le_mul_right K (show a+1<=b from h)
 rw [Nat.succ_mul] at this
 omega
theorem zlB {R N n:Nat} {L:Int->Prop} {z:Prop} {st:Carriage_} {d:Nat} (hR0:0<R) (hl:R<=6) (hN:N<50) (hn:100<=n) (I:Inv R N L z st) (D:Dst R st d) (hs:st.run.spells.length<1000000) :
  ∃b st',zcp n st=some (b,st')/\Inv R N L z st'/\(b=false->st'.queue=[]/\true∉st'.pins)/\(b=true->∃d',Dst R st' d'/\wgt st'*(2*R+2)+d'<wgt st*(2*R+2)+d)/\st'.run.spells.length<=st.run.spells.length+3:=by
 have hc:=I.cnt
 have P:=zlz (R:=R) st.now st.queue st.pins I.q I.pins
 obtain ⟨q',ps',hpq⟩:∃q' ps',prs st.now st.queue st.pins=(q',ps'):=⟨_,_,rfl⟩
 rw [hpq] at P
 have hps:ps'.length=2*R:=by rw [P.len];exact I.pins
 obtain ⟨b,st',e,ht,hqu,hcase⟩:=zr3 (n:=n) st I.hR hR0 hl I.pos hn (by omega) I.q I.pins hs (by omega) hpq hps
 have hsd:=zoO I.pos
 have hnx:=zr2 I.pos
 have hc2:st.run.plays.length+(q'.length+ps'.count true)<=N:=by have:=P.cnt;simp only at this;omega
 have hall:∀s,L s↔plT st.run.plays s\/(zly ps' s\/quT q' s):=fun s=>by rw [I.all s];exact or_congr Iff.rfl (P.union s).symm
 have hq':∀p,p∈q'->zgC R p.Side:=fun p hp=>I.q p (P.mem p hp)
 have hone:z->q'=[]/\(st.run.plays.map (·.Side)).Nodup/\∀y,y∈st.run.plays->¬zly ps' y.Side:=fun hz=>by
  obtain ⟨o1,o2,o3,o4⟩:=I.one hz
  refine ⟨P.past o1,o3,fun y hy hpin=>?_⟩
  rcases o2 with o2 | o2
  ·rcases (P.union y.Side).1 (.inl hpin) with h | ⟨p,hp,_⟩
   ·exact o4 y hy h
   ·rw [o2] at hp;cases hp
  ·rw [o2] at hy;cases hy
 have hw:q'.length<st.queue.length/\2*q'.length+ps'.count true<wgt st\/q'=st.queue/\ps'=st.pins:=by
  have:=P.cnt
  simp only at this
  rcases P.shorter with h | h
  ·simp only at h;exact .inl ⟨h,by unfold wgt;omega⟩
  ·exact .inr h
 refine ⟨b,st',e,?_⟩
 have hcnt:2*q'.length+ps'.count true<=wgt st:=by
  rcases hw with h | ⟨h1,h2⟩
  ·omega
  ·rw [h1,h2];exact Nat.le_refl _
 rcases hcase with ⟨h1,h2,rfl,h4,h5,h6,h7⟩ | ⟨h1,⟨p,k,h2,h3⟩,rfl,h4,h5,h6,h7⟩ | ⟨h1,h2,rfl,h4,h5,h6,h7⟩ | ⟨h1,h2,rfl,h4,h5,h6,h7⟩
 ·-- the end
  refine ⟨⟨by rw [ht];exact I.hR,by rw [h6];exact I.pos,by rw [hqu];exact hq',by rw [h4];exact hps,by rw [h4,h5,hqu];exact hc2,by rw [h5];exact I.side,fun s=>by rw [h4,h5,hqu];exact hall s,fun hz=>?_⟩,fun _=>⟨by rw [hqu,h2],by rw [h4];exact h1⟩,(fun h=>by cases h),by rw [h7];omega⟩
  rw [h4,h5,hqu,h2]
  obtain ⟨_,o2,o3⟩:=hone hz
  exact ⟨(fun _ h=>by cases h),.inl rfl,o2,o3⟩
 ·-- on to the next press
  have I':Inv R N L z st':=⟨by rw [ht];exact I.hR,by rw [h6];exact I.pos,by rw [hqu];exact hq',by rw [h4];exact hps,by rw [h4,h5,hqu];exact hc2,by rw [h5];exact I.side,fun s=>by rw [h4,h5,hqu];exact hall s,fun hz=>by
   have:=(hone hz).1
   rw [h2] at this
   cases this⟩
  refine ⟨I',(fun h=>by cases h),fun _=>?_,by rw [h7];omega⟩
  rcases hw with ⟨_,hw⟩ | ⟨hw1,hw2⟩
  ·obtain ⟨d',D'⟩:=zlA st' hl I'.pos I'.pins
   exact ⟨d',D',zjG (by unfold wgt;rw [hqu,h4];exact hw) (by have:=D'.le;omega)⟩
  ·have h8:1<=d:=D.none (by rw [←hw2];exact h1) p k (by rw [←hw1];exact h2) (P.head p k h2)
   refine ⟨0,⟨by omega,fun h=>absurd h (by rw [h4];exact h1),fun _ p2 k2 e2 hno=>?_⟩,?_⟩
   ·rw [hqu,h2] at e2
    injection e2 with e3 e4
    exact absurd (by rw [h3,e3];exact Int.le_refl _) hno
   ·have:wgt st'=wgt st:=by unfold wgt;rw [hqu,h4,hw1,hw2]
    rw [this]
    omega
 ·-- on to the next position
  have I':Inv R N L z st':=⟨by rw [ht];exact I.hR,by rw [h6];exact hnx,by rw [hqu];exact hq',by rw [h4];exact hps,by rw [h4,h5,hqu];exact hc2,by rw [h5];exact I.side,fun s=>by rw [h4,h5,hqu];exact hall s,fun hz=>by
   obtain ⟨o1,o2,o3⟩:=hone hz
   rw [h4,h5,hqu,o1]
   exact ⟨(fun _ h=>by cases h),.inl rfl,o2,o3⟩⟩
  refine ⟨I',(fun h=>by cases h),fun _=>?_,by rw [h7];omega⟩
  rcases hw with ⟨_,hw⟩ | ⟨hw1,hw2⟩
  ·obtain ⟨d',D'⟩:=zlA st' hl I'.pos I'.pins
   exact ⟨d',D',zjG (by unfold wgt;rw [hqu,h4];exact hw) (by have:=D'.le;omega)⟩
  ·have h8:=D.some (by rw [←hw2];exact h1)
   cases d with
   | zero =>
    rw [hw2] at h2
    rw [show itp R 0 (st.at_.At,st.at_.Way)=(st.at_.At,st.at_.Way) from rfl,h2] at h8
    cases h8
   | succ d =>
    refine ⟨d,⟨by have:=D.le;omega,fun _=>?_,fun h=>absurd h1 (by rw [←h4];exact h)⟩,?_⟩
    ·rw [h4,h6,hw2]
     exact h8
    ·have:wgt st'=wgt st:=by unfold wgt;rw [hqu,h4,hw1,hw2]
     rw [this]
     omega
 ·-- a side is played
  generalize hsg:sdp (st.at_.At,st.at_.Way)=s at *
  have hcf:=ziA ps' s.toNat h2
  have hpin:zly ps' s:=⟨s.toNat,by omega,h2⟩
  have I':Inv R N L z st':=⟨by rw [ht];exact I.hR,by rw [h6];exact hnx,by rw [hqu];exact hq',by rw [h4];simpa using hps,by rw [h4,h5,hqu,List.length_append];simp only [List.length_cons,List.length_nil];omega,fun y hy=>by
   rw [h5] at hy
   rcases List.mem_append.1 hy with hy | hy
   ·exact I.side y hy
   ·rw [List.mem_singleton.1 hy];exact hsd,fun x=>by
   rw [h4,h5,hqu,hall x]
   constructor
   ·rintro (⟨y,hy,e⟩ | h | h)
    ·exact .inl ⟨y,List.mem_append.2 (.inl hy),e⟩
    ·by_cases e:x=s
     ·exact .inl ⟨⟨s,st.now⟩,List.mem_append.2 (.inr (List.mem_singleton.2 rfl)),e.symm⟩
     ·exact .inr (.inl (znF h e hsd.1))
    ·exact .inr (.inr h)
   ·rintro (⟨y,hy,e⟩ | h | h)
    ·rcases List.mem_append.1 hy with hy | hy
     ·exact .inl ⟨y,hy,e⟩
     ·rw [List.mem_singleton.1 hy] at e
      exact .inr (.inl (by rw [←e];exact hpin))
    ·exact .inr (.inl (zi7 hsd.1 h).2)
    ·exact .inr (.inr h),fun hz=>by
   obtain ⟨o1,o2,o3⟩:=hone hz
   rw [h4,h5,hqu,o1]
   refine ⟨(fun _ h=>by cases h),.inl rfl,?_,fun y hy hyp=>?_⟩
   ·rw [List.map_append,List.nodup_append]
    refine ⟨o2,by simp,fun a ha b hb=>?_⟩
    obtain ⟨y,hy,rfl⟩:=List.mem_map.1 ha
    simp only [List.map_cons,List.map_nil,List.mem_singleton] at hb
    subst hb
    intro e
    exact o3 y hy (by rw [e];exact hpin)
   ·obtain ⟨e1,e2⟩:=zi7 hsd.1 hyp
    rcases List.mem_append.1 hy with hy | hy
    ·exact o3 y hy e2
    ·rw [List.mem_singleton.1 hy] at e1
     exact e1 rfl⟩
  refine ⟨I',(fun h=>by cases h),fun _=>?_,by rw [h7];omega⟩
  obtain ⟨d',D'⟩:=zlA st' hl I'.pos I'.pins
  exact ⟨d',D',zjG (by unfold wgt;rw [hqu,h4];unfold wgt at hcnt;omega) (by have:=D'.le;omega)⟩
abbrev goF (n m:Nat) (st:Carriage_):Option Run_:=zdL n m st.t.Records st.t.At st.t.Way st.t.Step st.t.Presses st.queue st.now st.at_.At st.at_.Way st.at_.Side st.run.spells st.run.plays st.run.steps st.run.end_ st.pins
theorem zlC (n m:Nat) (st:Carriage_):goF n (m+1) st=Option.bind (zcp n st) fun r=>if r.1=true then goF n m r.2 else some r.2.run:=rfl
theorem zi8 (n:Nat):∀m,zek n m=zdL n m
 | 0=>rfl
 | m+1=>by
  funext a b c d e f g h i j k l o p q
  show zfm n (zek n m) a b c d e f g h i j k l o p q=zfl n (zdL n m) a b c d e f g h i j k l o p q
  rw [zi8 n m]
  rfl
theorem zpq {R N n:Nat} {L:Int->Prop} {z:Prop} (hR0:0<R) (hl:R<=6) (hN:N<50) (hn:100<=n):∀(M:Nat) (st:Carriage_) (d m:Nat),Inv R N L z st->Dst R st d->wgt st*(2*R+2)+d<=M->M<m->st.run.spells.length+3*M<900000 ->
  ∃st',goF n m st=some st'.run/\Inv R N L z st'/\st'.queue=[]/\true∉st'.pins:=by
 intro M
 induction M with
 | zero =>
  intro st d m I D hM hm hs
  obtain ⟨m,rfl⟩:∃k,m=k+1:=⟨m-1,by omega⟩
  obtain ⟨b,st',e,I',hf,ht,hs'⟩:=zlB hR0 hl hN hn I D (by omega)
  rw [zlC,e,zac]
  cases b with
  | false=>exact ⟨st',rfl,I',hf rfl⟩
  | true=>obtain ⟨d',_,h⟩:=ht rfl;omega
 | succ M ih =>
  intro st d m I D hM hm hs
  obtain ⟨m,rfl⟩:∃k,m=k+1:=⟨m-1,by omega⟩
  obtain ⟨b,st',e,I',hf,ht,hs'⟩:=zlB hR0 hl hN hn I D (by omega)
  rw [zlC,e,zac]
  cases b with
  | false=>exact ⟨st',rfl,I',hf rfl⟩
  | true =>
   obtain ⟨d',D',h⟩:=ht rfl
   exact ih st' d' m I' D' (by omega) (by omega) (by omega)
theorem zez (a b c:Int):zcg a b c=some (inR a b c):=by
 unfold zcg zdK inR
 by_cases h:b<=a<;>simp [h]
def okR (r:TrayRecord):Bool:=inR r.Front 1 999&&inR r.Back 1 999
def zmj (R:Nat) (p:TrayPress):Bool:=inR p.Side 0 (2*R-1)&&inR p.Time 0 9999
def okT (t:Tray):Bool:=inR t.Records.length 1 6&&(inR t.At 0 (t.Records.length-1)&&((t.Way==1 || t.Way==-1)&&(inR t.Step 0 60&&(t.Records.all okR&&(decide (t.Presses.length<=12)&&t.Presses.all (zmj t.Records.length))))))
theorem zkT (t:Tray) (h:t.Records.length<1048576):w64 (2*(t.Records.length:Int))=2*(t.Records.length:Int):=zcB (by omega) (by omega)
theorem zkf (t:Tray) (h:t.Records.length<1048576) (s:Int):zeF t s=some (inR s 0 (2*t.Records.length-1)):=by
 unfold zeF
 rw [zkT t h,zcB (by omega) (by omega),zez]
 rfl
theorem znG (s:Int):zfe s=some (inR s 0 9999):=by
 unfold zfe
 rw [zez]
 rfl
theorem zmh {n:Nat} (t:Tray) (h:t.Records.length<1048576) (hp:t.Presses.length<=40) (hn:100<=n):zeP n t 12=some (cond (decide (t.Presses.length<=12)&&t.Presses.all (zmj t.Records.length)) 0 20):=by
 unfold zeP
 by_cases hl:t.Presses.length<=12
 ·rw [if_neg (by simp;omega)]
  have key:=znu (F:=fun m i (_:Unit)=>zbW t m i) (xs:=t.Presses) (spec:=fun k _=>some (cond (k.all (zmj t.Records.length)) 0 20)) (by omega) (n:=n) (by omega) () (fun m s=>by
    simp [zbW,zdB,zeb]) (fun m i x k s hx hi hi' hd hrec=>by
    have hr:=hrec ()
    simp only [zbW,zdB]
    rw [if_pos (by simpa using hi),hx]
    simp only [zac]
    rw [zkf t h]
    simp only [zac]
    rw [List.all_cons,show zmj t.Records.length x=(inR x.Side 0 (2*t.Records.length-1)&&inR x.Time 0 9999) from rfl]
    by_cases h1:inR x.Side 0 (2*(t.Records.length:Int)-1)=true
    ·rw [if_neg (by simp [h1]),znG]
     simp only [zac]
     unfold zcT
     by_cases h2:inR x.Time 0 9999=true
     ·rw [if_neg (by simp [h2])]
      simp only [h1,h2,Bool.and_self,Bool.true_and]
      exact hr
     ·rw [if_pos (by simp [h2])]
      simp [h1,h2]
    ·rw [if_pos (by simp [h1])]
     unfold zcT
     simp [h1])
  rw [key]
  simp [hl]
 ·rw [if_pos (by simp;omega)]
  simp [hl]
theorem zpr {n:Nat} (t:Tray) (h:t.Records.length<=40) (hp:t.Presses.length<=40) (hn:100<=n):zfC n t=some (cond (okT t) 0 20):=by
 have key:zb7 n t n 0=some (cond (t.Records.all okR&&(decide (t.Presses.length<=12)&&t.Presses.all (zmj t.Records.length))) 0 20):=by
  refine znu (F:=fun m i (_:Unit)=>zb7 n t m i) (xs:=t.Records) (spec:=fun k _=>some (cond (k.all okR&&(decide (t.Presses.length<=12)&&t.Presses.all (zmj t.Records.length))) 0 20)) (by omega) (n:=n) (by omega) () (fun m s=>?_) (fun m i x k s hx hi hi' hd hrec=>?_)
  ·simp only [zb7,zec]
   rw [if_neg (by simp)]
   unfold zeA
   rw [zmh t (by omega) hp hn]
   rfl
  ·have hr:=hrec ()
   simp only [zb7,zec]
   rw [if_pos (by simpa using hi),hx]
   simp only [zac]
   rw [zez]
   simp only [zac]
   rw [List.all_cons]
   by_cases h1:inR x.Front 1 999=true
   ·rw [if_neg (by simp [h1]),zez]
    simp only [zac]
    unfold zdw
    by_cases h2:inR x.Back 1 999=true
    ·rw [if_neg (by simp [h2]),show okR x=true by simp [okR,h1,h2],Bool.true_and]
     exact hr
    ·rw [if_pos (by simp [h2])]
     simp [okR,h1,h2]
   ·rw [if_pos (by simp [h1])]
    unfold zdw
    simp [okR,h1]
 have j1t:zb8 n t true=some 20:=rfl
 have j1f:zb8 n t false=some (cond (t.Records.all okR&&(decide (t.Presses.length<=12)&&t.Presses.all (zmj t.Records.length))) 0 20):=key
 unfold zfC okT
 rw [zez]
 simp only [zac]
 by_cases h1:inR t.Records.length 1 6=true
 ·rw [if_neg (by simp [h1]),zcB (by omega) (by omega),zez]
  simp only [zac]
  by_cases h2:inR t.At 0 (t.Records.length-1)=true
  ·rw [if_neg (by simp [h2])]
   have step:(Option.bind (zcg t.Step 0 60) fun r=>zb8 n t (!r))=some (cond (inR t.Step 0 60&&(t.Records.all okR&&(decide (t.Presses.length<=12)&&t.Presses.all (zmj t.Records.length)))) 0 20):=by
    rw [zez]
    simp only [zac]
    by_cases h4:inR t.Step 0 60=true
    ·rw [h4,show (!true)=false from rfl,j1f,Bool.true_and]
    ·rw [Bool.not_eq_true] at h4;rw [h4,show (!false)=true from rfl,j1t];rfl
   by_cases h3:t.Way=1
   ·rw [if_neg (by simp [h3]),step]
    simp [h1,h2,h3]
   ·rw [if_pos (by simp [h3])]
    by_cases h4:t.Way=-1
    ·rw [if_neg (by simp [h4]),step]
     simp [h1,h2,h4]
    ·rw [if_pos (by simp [h4]),j1t,show (t.Way==1)=false by simpa using h3,show (t.Way==-1)=false by simpa using h4]
     simp [h1,h2]
  ·rw [if_pos (by simp [h2]),j1t]
   simp [h2]
 ·rw [if_pos (by simp [h1]),j1t]
  simp [h1]
structure ValidT (t:Tray):Prop where
 len:1<=t.Records.length/\t.Records.length<=6
 at_:0<=t.At/\t.At<t.Records.length
 way:t.Way=1\/t.Way=-1
 step:0<=t.Step/\t.Step<=60
 recs:∀r,r∈t.Records->okR r=true
 few:t.Presses.length<=12
 press:∀p,p∈t.Presses->zmj t.Records.length p=true
theorem zps {t:Tray}:okT t=true↔ValidT t:=by
 constructor
 ·intro h
  simp only [okT,Bool.and_eq_true,Bool.or_eq_true,zfB,decide_eq_true_eq,List.all_eq_true,beq_iff_eq] at h
  obtain ⟨h1,h2,h3,h4,h5,h6,h7⟩:=h
  exact ⟨by omega,by omega,h3,h4,h5,h6,h7⟩
 ·rintro ⟨h1,h2,h3,h4,h5,h6,h7⟩
  simp only [okT,Bool.and_eq_true,Bool.or_eq_true,zfB,decide_eq_true_eq,List.all_eq_true,beq_iff_eq]
  exact ⟨by omega,by omega,h3,h4,h5,h6,h7⟩
theorem znH {n:Nat} {t:Tray} (V:ValidT t) (hn:100<=n):zgk n t=some 0:=by
 have l1:zct t n true 0=some 0:=by
  refine zmf (fun m i s=>zct t m s i) t.Presses (fun _ _=>some 0) (fun k s=>s=true/\∀p,p∈k->zmj t.Records.length p=true) (by have:=V.few;omega) (fun m s I=>?_) (fun m i x k s I hx hi hi' hd hrec=>?_) t.Presses 0 n true (by omega) rfl (by have:=V.few;omega) ⟨rfl,V.press⟩
  ·obtain ⟨rfl,_⟩:=I
   simp [zct,zeq,zeQ]
  ·obtain ⟨rfl,I⟩:=I
   have hp:=I x (List.mem_cons_self ..)
   simp only [zmj,Bool.and_eq_true,zfB] at hp
   obtain ⟨⟨a1,a2⟩,a3,a4⟩:=hp
   have:=V.len
   simp only [zct,zeq]
   rw [if_pos (by simpa using hi),hx]
   simp only [zac]
   rw [if_pos trivial]
   unfold zgO zd7
   rw [if_pos (by simpa using a1),zkT t (by omega)]
   simp only [zac]
   rw [if_pos (by simp;omega)]
   unfold zgP zd8
   rw [if_pos (by simpa using a3)]
   simp only [zac]
   unfold zdU
   rw [show decide (x.Time<=9999)=true by simpa using a4]
   exact hrec true ⟨rfl,fun p hp=>I p (List.mem_cons_of_mem _ hp)⟩
 have l2:zcu n t n true 0=some 0:=by
  refine zmf (fun m i s=>zcu n t m s i) t.Records (fun _ _=>some 0) (fun k s=>s=true/\∀p,p∈k->okR p=true) (by have:=V.len;omega) (fun m s I=>?_) (fun m i x k s I hx hi hi' hd hrec=>?_) t.Records 0 n true (by omega) rfl (by have:=V.len;omega) ⟨rfl,V.recs⟩
  ·obtain ⟨rfl,_⟩:=I
   simp only [zcu,zer]
   rw [if_neg (by simp)]
   exact l1
  ·obtain ⟨rfl,I⟩:=I
   have hp:=I x (List.mem_cons_self ..)
   simp only [okR,Bool.and_eq_true,zfB] at hp
   obtain ⟨⟨a1,a2⟩,a3,a4⟩:=hp
   simp only [zcu,zer]
   rw [if_pos (by simpa using hi),hx]
   simp only [zac]
   rw [if_pos trivial,if_pos (by simpa using a1),if_pos (by simpa using a2),if_pos (by simpa using a3)]
   unfold zcZ
   rw [show decide (x.Back<=999)=true by simpa using a4]
   exact hrec true ⟨rfl,fun p hp=>I p (List.mem_cons_of_mem _ hp)⟩
 have h1:=V.len
 have h2:=V.at_
 have h3:=V.step
 have h4:=V.few
 have j1:zbp n t (decide ((t.Presses.length:Int)<=12))=some 0:=by
  rw [show decide ((t.Presses.length:Int)<=12)=true by simp;omega]
  exact l2
 unfold zgk
 rw [if_pos (by simp;omega),if_pos (by simp;omega),if_pos (by simp;omega),if_pos (by simp;omega)]
 rcases V.way with h | h
 ·rw [if_pos (by simp [h]),if_pos (by simp;omega),if_pos (by simp;omega)]
  exact j1
 ·rw [if_neg (by simp [h]),if_pos (by simp [h]),if_pos (by simp;omega),if_pos (by simp;omega)]
  exact j1
structure PlaysOk (t:Tray) (l:List TrayPlay):Prop where
 few:l.length<=t.Presses.length
 side:∀y,y∈l->zgC t.Records.length y.Side
 all:∀s,quT t.Presses s↔plT l s
 one:(∀p,p∈t.Presses->p.Time<=0)->(l.map (·.Side)).Nodup
theorem zot (l:List TrayPress) (h:l.length<=40):zbS l=some l:=by
 unfold zbS
 rw [zi0 (by simp;omega)]
 rfl
theorem znI {n:Nat} {t:Tray} (V:ValidT t) (hn:10000<=n) {zs:List TrayPress} (hz:zs.Perm t.Presses) {sp:List Spell_} (hsp:sp.length<=10) {sd:Int} :
  ∃r,goF n n (⟨t,zs,List.replicate (2*t.Records.length) false,0,⟨t.At,t.Way,sd⟩,⟨sp,[],0,0⟩⟩:Carriage_)=some r/\PlaysOk t r.plays:=by
 have hl:=hz.length_eq
 have hrep:∀s,¬zly (List.replicate (2*t.Records.length) false) s:=by
  rintro s ⟨i,_,hi⟩
  rw [List.getElem?_replicate] at hi
  split at hi
  ·cases hi
  ·cases hi
 have hcount:(List.replicate (2*t.Records.length) false).count true=0:=by
  rw [List.count_eq_zero]
  intro h
  have:=(List.mem_replicate.1 h).2
  cases this
 have hV1:=V.len
 have hV2:=V.few
 have I:Inv t.Records.length t.Presses.length (quT t.Presses) (∀p,p∈t.Presses->p.Time<=0) (⟨t,zs,List.replicate (2*t.Records.length) false,0,⟨t.At,t.Way,sd⟩,⟨sp,[],0,0⟩⟩:Carriage_):=by
  refine ⟨rfl,⟨V.at_,V.way⟩,fun p hp=>?_,by simp,?_,(fun y hy=>by cases hy),fun s=>?_,fun hz0=>⟨fun p hp=>hz0 p (hz.mem_iff.1 hp),.inr rfl,by simp,fun y hy=>by cases hy⟩⟩
  ·have:=V.press p (hz.mem_iff.1 hp)
   simp only [zmj,Bool.and_eq_true,zfB] at this
   exact ⟨by omega,by omega⟩
  ·show 0+(zs.length+_)<=_
   rw [hcount,hl]
   omega
  ·constructor
   ·rintro ⟨p,hp,e⟩
    exact .inr (.inr ⟨p,hz.mem_iff.2 hp,e⟩)
   ·rintro (⟨y,hy,_⟩ | h | ⟨p,hp,e⟩)
    ·cases hy
    ·exact absurd h (hrep s)
    ·exact ⟨p,hz.mem_iff.1 hp,e⟩
 obtain ⟨d,D⟩:=zlA _ hV1.2 I.pos I.pins
 have hle:=D.le
 have hw:wgt (⟨t,zs,List.replicate (2*t.Records.length) false,0,⟨t.At,t.Way,sd⟩,⟨sp,[],0,0⟩⟩:Carriage_)*(2*t.Records.length+2)+d<=400:=by
  have e1:wgt (⟨t,zs,List.replicate (2*t.Records.length) false,0,⟨t.At,t.Way,sd⟩,⟨sp,[],0,0⟩⟩:Carriage_)=2*zs.length:=by
   show 2*zs.length+_=_
   rw [hcount]
   rfl
  rw [e1,hl]
  have h1:2*t.Presses.length*(2*t.Records.length+2)<=24*14:=Nat.mul_le_mul (by omega) (by omega)
  omega
 obtain ⟨st',e,I',h1,h2⟩:=zpq (n:=n) (by omega) hV1.2 (by omega) (by omega) 400 _ d n I D hw (by omega) (by show sp.length+_<_;omega)
 refine ⟨_,e,⟨?_,I'.side,fun s=>?_,fun hz0=>(I'.one hz0).2.2.1⟩⟩
 ·have:=I'.cnt
  omega
 ·rw [I'.all s,h1]
  constructor
  ·rintro (h | ⟨i,_,hi⟩ | ⟨p,hp,_⟩)
   ·exact h
   ·exact absurd (List.mem_of_getElem? hi) h2
   ·cases hp
  ·exact .inl
theorem zpt {n:Nat} {t:Tray} (V:ValidT t) (hn:10000<=n):∃r,zha n t=some r/\PlaysOk t r.plays:=by
 have h1:=V.len
 have h2:=V.few
 unfold zha
 rw [zot _ (by omega)]
 simp only [zac]
 have hm:mkN (2*t.Records.length) (w64 (2*(t.Records.length:Int))) false=some (List.replicate (2*t.Records.length) false):=by
  rw [zkT t (by omega)]
  unfold mkN
  rw [if_pos (by omega)]
 by_cases hl:t.Presses.length=0
 ·rw [if_pos (by simp [hl]),hm]
  simp only [zac]
  rw [zok (by omega)]
  simp only [zac]
  rw [mark_eq _ _ (by show 0<1048576;decide)]
  simp only [zac]
  have he:t.Presses=[]:=List.eq_nil_of_length_eq_zero hl
  exact znI V hn (zs:=[]) (by rw [he]) (by simp)
 ·rw [if_neg (by simpa using hl),hm]
  simp only [zac]
  obtain ⟨zs,hz,e⟩:=zpn (n:=n) (by omega) t.Presses (by omega) (by omega)
  rw [e]
  simp only [zac]
  rw [zjF hz.length_eq (by omega)]
  simp only [zac]
  rw [mark_eq _ _ (by show 0<1048576;decide)]
  simp only [zac]
  rw [zi8]
  exact znI V hn hz (by simp)
theorem zou {n:Nat} {t:Tray} (V:ValidT t) (hn:10000<=n):∃l,zgl n t=some (l,0)/\PlaysOk t l:=by
 obtain ⟨r,e,h⟩:=zpt V hn
 refine ⟨r.plays,?_,h⟩
 unfold zgl
 rw [znH V (by omega)]
 simp only [zac]
 rw [if_neg (by decide),e]
 rfl
theorem zpu (t:Tray):zg7 t=some (decide (t.Records.length>40) || decide (t.Presses.length>40)):=by
 unfold zg7 zeE
 by_cases h:t.Records.length>40
 ·rw [if_pos (by simp;omega)]
  simp [h]
 ·rw [if_neg (by simp;omega)]
  have:decide ((t.Presses.length:Int)>40)=decide (t.Presses.length>40):=by
   by_cases h2:t.Presses.length>40
   ·rw [show decide (t.Presses.length>40)=true by simpa using h2,show decide ((t.Presses.length:Int)>40)=true by simp;omega]
   ·rw [show decide (t.Presses.length>40)=false by simpa using h2,show decide ((t.Presses.length:Int)>40)=false by simp;omega]
  rw [this]
  simp [h]
theorem zov (t:Tray) (h1:t.Records.length<=40) (h2:t.Presses.length<=40):zgj t=some t:=by
 unfold zgj
 rw [zi0 (by simp;omega)]
 simp only [zac]
 rw [zi0 (by simp;omega)]
 rfl
theorem zgs:∀l:List (Int×Int),(∀q,q∈l->okQ q)->0<=zeu l/\zeu l<=12*l.length
 | [],_=>by simp [zeu,zes]
 | q::l,h=>by
  have ih:=zgs l fun x hx=>h x (List.mem_cons_of_mem _ hx)
  obtain ⟨h1,h2⟩:=h q (List.mem_cons_self ..)
  have e:zeu (q::l)=q.1+zeu l:=by
   unfold zeu
   simp only [zes]
   rcases h2 with h | h | h<;>simp [h]<;>omega
  rw [e]
  simp only [List.length_cons]
  omega
theorem ztU (R:Royal) (r2:Weights_×Int) (x4:Int):∀(k m a b:Nat),b<=k->k<m->zbq R r2 x4 m (a:Int) (b:Int)=zc0 R r2 x4 ((Nat.gcd a b:Nat):Int):=by
 intro k
 induction k with
 | zero =>
  intro m a b hb hm
  obtain ⟨m,rfl⟩:∃q,m=q+1:=⟨m-1,by omega⟩
  have:b=0:=by omega
  subst this
  unfold zbq zcG
  rw [if_neg (by decide),Nat.gcd_zero_right]
 | succ k ih =>
  intro m a b hb hm
  obtain ⟨m,rfl⟩:∃q,m=q+1:=⟨m-1,by omega⟩
  show zcG R r2 x4 (zbq R r2 x4 m) a b=_
  unfold zcG
  by_cases h0:b=0
  ·subst h0
   rw [if_neg (by decide),Nat.gcd_zero_right]
  ·rw [if_pos (by simpa using h0),zle (by omega) (by omega)]
   simp only [zac]
   have hlt:=Nat.mod_lt a (show b>0 by omega)
   rw [show (a:Int) % (b:Int)=((a % b:Nat):Int) by simp,ih m b (a % b) (by omega) (by omega),Nat.gcd_comm a b,Nat.gcd_rec b a,Nat.gcd_comm]
theorem zow {pool:Int} {l:List (Int×Int)} (W:OkW pool l) (hA:0<zeu l) {x:Int} (hx:V3 x) :
  ∃n d,zdN 20000 (zcM pool l) x=some (n,d,0)/\(1<=d/\d<=7200)/\(0<=n/\n<=71992800)/\n*zeu l=pool*zes x l*d:=by
 have hf:=W.few
 have ha:=zgs l W.q
 have hs:0<=zes x l/\zes x l<=72:=by have:=zdh x l W.q;omega
 have hp:=W.pool
 have hm:0<=pool*(100*zes x l)/\pool*(100*zes x l)<=71992800:=by
  refine ⟨Int.mul_nonneg hp.1 (by omega),?_⟩
  have:=Int.mul_le_mul hp.2 (show 100*zes x l<=7200 by omega) (by omega) (by omega)
  omega
 unfold zdN ze2
 rw [show w64 (((zcM pool l).Owed.length:Int)-1)=2 from (show w64 ((3:Int)-1)=2 by decide +kernel),zfs,show inR x 0 2=true by rw [zfB];rcases hx with rfl | rfl | rfl<;>decide]
 simp only [zac]
 rw [zlx (by decide) W,if_neg (by omega)]
 simp only [zac]
 rw [if_neg (by decide),show idx (zgr 100 l) x=some (100*zes x l) by rcases hx with rfl | rfl | rfl<;>rfl]
 simp only [zac]
 rw [zcB (by omega) (by omega)]
 obtain ⟨a,ea⟩:=Int.eq_ofNat_of_zero_le hm.1
 obtain ⟨b,eb⟩:=Int.eq_ofNat_of_zero_le (show 0<=100*zeu l by omega)
 have hb:0<b/\b<=7200:=by omega
 rw [show zbq (zcM pool l) (⟨zgr 100 l,100*zeu l⟩,0) (100*zes x l) 20000 (pool*(100*zes x l)) (100*zeu l)=zbq (zcM pool l) (⟨zgr 100 l,100*zeu l⟩,0) (100*zes x l) 20000 (a:Int) (b:Int) by rw [ea];congr 1,ztU _ _ _ b 20000 a b (Nat.le_refl _) (by omega)]
 have hg:0<Nat.gcd a b:=Nat.gcd_pos_of_pos_right _ hb.1
 obtain ⟨n',hn'⟩:=Nat.gcd_dvd_left a b
 obtain ⟨d',hd'⟩:=Nat.gcd_dvd_right a b
 generalize Nat.gcd a b=g at hg hn' hd'
 unfold zc0
 have q1:(a:Int) / (g:Int)=(n':Int):=by rw [hn',Int.natCast_mul,Int.mul_ediv_cancel_left _ (by omega)]
 have q2:(b:Int) / (g:Int)=(d':Int):=by rw [hd',Int.natCast_mul,Int.mul_ediv_cancel_left _ (by omega)]
 rw [show w64 ((zcM pool l).Pool*(100*zes x l))=(a:Int) by rw [←ea];exact zcB (x:=pool*(100*zes x l)) (by omega) (by omega),zj4 (by omega) (by omega) (by omega),q1]
 simp only [zac]
 rw [eb,zj4 (by omega) (by omega) (by omega),q2]
 simp only [zac]
 have hd0:0<d':=by
  rcases Nat.eq_zero_or_pos d' with h | h
  ·subst h;omega
  ·exact h
 have hdb:d'<=b:=by rw [hd'];exact Nat.le_mul_of_pos_left _ hg
 have hna:n'<=a:=by rw [hn'];exact Nat.le_mul_of_pos_left _ hg
 refine ⟨_,_,rfl,by omega,by omega,?_⟩
 have e1:(g:Int)*n'=pool*(100*zes x l):=by rw [ea,hn',Int.natCast_mul]
 have e2:(g:Int)*d'=100*zeu l:=by rw [eb,hd',Int.natCast_mul]
 apply Int.eq_of_mul_eq_mul_right (show (g:Int)≠0 by omega)
 have a1:(n':Int)*zeu l*g=(g*n')*zeu l:=by ac_rfl
 have a2:pool*zes x l*d'*g=pool*zes x l*(g*d'):=by ac_rfl
 rw [a1,a2,e1,e2]
 ac_rfl
theorem zox {t:Tray} (V:ValidT t):∃l,zhb 20000 t=some (l,true)/\l.length=t.Records.length/\∀x,x∈l->0<=x/\x<=12:=by
 have h1:=V.len
 have h2:=V.few
 obtain ⟨ps,e,P⟩:=zou (n:=20000) V (by decide)
 have hfew:=P.few
 unfold zhb
 rw [show mkz (t.Records.length:Int)=some (List.replicate t.Records.length 0) by
  unfold mkz
  rw [if_pos (by omega),Int.toNat_natCast]]
 simp only [zac]
 rw [zov t (by omega) (by omega)]
 simp only [zac]
 rw [e]
 simp only [zac]
 rw [if_neg (show ¬((0:Int) != 0)=true by decide),show decide ((ps.length:Int)>(t.Presses.length:Int))=false by simp;omega]
 unfold zeG
 rw [if_neg (by decide)]
 have key:∀(k:List TrayPlay) (i m:Nat) (s:List Int),i<=ps.length->ps.drop i=k->k.length<m->s.length=t.Records.length->(∀x,x∈s->0<=x/\x<=i)->∃l,zdM t (ps,0) m (i:Int) s=some (l,true)/\l.length=t.Records.length/\∀x,x∈l->0<=x/\x<=12:=by
  intro k
  induction k with
  | nil =>
   intro i m s hi hd hm hs hb
   obtain ⟨m,rfl⟩:∃q,m=q+1:=⟨m-1,by omega⟩
   have:i=ps.length:=by have:=List.drop_eq_nil_iff.1 hd;omega
   subst this
   unfold zdM zeC
   rw [if_neg (by simp)]
   exact ⟨s,rfl,hs,fun x hx=>by have:=hb x hx;omega⟩
  | cons y k ih =>
   intro i m s hi hd hm hs hb
   obtain ⟨m,rfl⟩:∃q,m=q+1:=⟨m-1,by omega⟩
   simp only [List.length_cons] at hm
   have hlt:i<ps.length:=by
    rcases Nat.lt_or_ge i ps.length with h | h
    ·exact h
    ·rw [List.drop_eq_nil_of_le h] at hd;cases hd
   have hd2:=hd
   rw [List.drop_eq_getElem_cons hlt] at hd2
   injection hd2 with g1 g2
   obtain ⟨b1,b2⟩:=P.side y (by rw [←g1];exact List.getElem_mem _)
   unfold zdM zeC
   rw [if_pos (by simp;omega),zgM hlt,g1]
   simp only [zac]
   rw [zkf t (by omega),show inR y.Side 0 (2*t.Records.length-1)=true from zfB.2 ⟨b1,by omega⟩]
   simp only [zac]
   rw [if_neg (by decide),zj4 b1 (by decide) (by omega)]
   simp only [zac]
   have hi2:y.Side / 2=(((y.Side / 2).toNat:Nat):Int):=by omega
   have hlt2:(y.Side / 2).toNat<s.length:=by omega
   rw [hi2,zgM hlt2]
   simp only [zac,Int.toNat_natCast]
   have hx:=hb _ (List.getElem_mem hlt2)
   rw [zcB (x:=(i:Int)+1) (by omega) (by omega),zcB (by omega) (by omega)]
   exact ih (i+1) m _ (by omega) g2 (by omega) (by simpa using hs) fun x hx2=>by
    rcases List.mem_or_eq_of_mem_set hx2 with h | h
    ·have:=hb x h
     omega
    ·omega
 exact key ps 0 20000 _ (by omega) rfl (by omega) (by simp) fun x hx=>by
  rw [(List.mem_replicate.1 hx).2]
  omega
theorem zpv {α β:Type} {l:List α} {k:List β} {i:Nat} {x:α×β} (h:idx (l.zip k) (i:Int)=some x):idx l (i:Int)=some x.1/\idx k (i:Int)=some x.2:=by
 unfold idx at h ⊢
 rw [if_pos (by omega),Int.toNat_natCast] at h
 rw [if_pos (by omega),if_pos (by omega),Int.toNat_natCast]
 rw [List.getElem?_zip_eq_some] at h
 exact h
theorem zpw {pool:Int} {l:List (Int×Int)} (W:OkW pool l):zdg 20000 pool [0,0,0] (zeu l) (zgr 1 l) (l.map zd5)=some true:=by
 have hf:=W.few
 have ha:=zgs l W.q
 have r0:=zdh 0 l W.q
 have r1:=zdh 1 l W.q
 have r2:=zdh 2 l W.q
 have hp:=W.pool
 unfold zdg zed
 rw [show zdc 20000 (⟨pool,l.map zd5,[0,0,0]⟩:Royal) true=_ from zlx (by decide) W]
 simp only [zac]
 by_cases h0:zeu l=0
 ·rw [if_pos h0,if_pos (by decide)]
  simp only [zac]
  rw [if_pos (by simp [h0]),if_pos (by decide),zft]
  rfl
 rw [if_neg h0,if_neg (by decide)]
 have hA:0<zeu l:=by omega
 have S:OkS pool (100*zes 0 l) (100*zes 1 l) (100*zes 2 l) (100*zeu l):=⟨hp,by omega,by omega,by omega,by unfold zeu;omega,by omega⟩
 obtain ⟨u,e,hu,hk⟩:=znC (n:=20000) (by decide) S
 rw [show zbu 20000 (⟨zgr 100 l,100*zeu l⟩:Weights_) pool=some u from e]
 simp only [zac]
 rw [if_neg (by simpa using h0),if_neg (show ¬((0:Int) != 0)=true by decide),show ((u.length:Int) != (3:Int))=false by rw [hu];decide]
 unfold zdf
 rw [if_neg (by decide)]
 have hsel:∀x,V3 x->(if x=0 then 100*zes 0 l else if x=1 then 100*zes 1 l else 100*zes 2 l)=100*zes x l:=by
  rintro x (rfl | rfl | rfl)<;>rfl
 have none_:∀x,V3 x->zes x l=0->idx u x=some 0:=fun x hx h=>by
  have:=hk x hx (by unfold zki;rw [hsel x hx,h];simp)
  rw [hsel x hx,h] at this
  unfold idx
  rw [if_pos (by rcases hx with rfl | rfl | rfl<;>decide),this]
  simp
 have all_:∀x,V3 x->zes x l=zeu l->idx u x=some pool:=fun x hx h=>by
  have:=hk x hx (by unfold zki;rw [hsel x hx,h];simp)
  rw [hsel x hx,h] at this
  unfold idx
  rw [if_pos (by rcases hx with rfl | rfl | rfl<;>decide),this,Int.mul_ediv_cancel _ (by omega)]
 have own_:∀x,V3 x->zet 3 (zgr 1 l) x=some (zes x l):=by
  rintro x (rfl | rfl | rfl)
  ·exact (zgc (xs:=zgr 1 l) rfl).trans (show some (1*zes 0 l)=some (zes 0 l) by rw [Int.one_mul])
  ·exact (zgc (xs:=zgr 1 l) rfl).trans (show some (1*zes 1 l)=some (zes 1 l) by rw [Int.one_mul])
  ·exact (zgc (xs:=zgr 1 l) rfl).trans (show some (1*zes 2 l)=some (zes 2 l) by rw [Int.one_mul])
 have has:∀x,V3 x->∃y,idx u x=some y:=fun x hx=>by
  have h3:0<=x/\x.toNat<u.length:=by rw [hu];rcases hx with rfl | rfl | rfl<;>decide
  unfold idx
  rw [if_pos h3.1]
  exact ⟨_,List.getElem?_eq_getElem h3.2⟩
 have j6:∀(rec1:Int->Option Bool) (x:Int),V3 x->zbn rec1 pool (zeu l) (zgr 1 l) (u,0) x false=rec1 (w64 (x+1)):=fun rec1 x hx=>by
  unfold zbn
  rw [if_neg (by decide),own_ x hx]
  simp only [zac]
  have j7:zb2 rec1 x false=rec1 (w64 (x+1)):=rfl
  by_cases hz:zes x l=0
  ·rw [if_pos (by simp [hz]),none_ x hx hz]
   simp only [zac]
   rw [if_neg (by decide),if_neg (by simp [hz];omega),j7]
  ·rw [if_neg (by simpa using hz)]
   by_cases hz2:zes x l=zeu l
   ·rw [if_pos (by simp [hz2]),all_ x hx hz2]
    simp only [zac]
    rw [show (pool != pool)=false by simp,j7]
   ·rw [if_neg (by simpa using hz2),j7]
 have step:∀(m:Nat) (x:Int),V3 x->za0 20000 pool [0,0,0] (zeu l) (zgr 1 l) (l.map zd5) (u,0) (m+1) x=za0 20000 pool [0,0,0] (zeu l) (zgr 1 l) (l.map zd5) (u,0) m (w64 (x+1)):=fun m x hx=>by
  obtain ⟨n,d,e1,⟨d1,d2⟩,⟨n1,n2⟩,e2⟩:=zow W hA hx
  have hs:0<=zes x l/\zes x l<=72:=by have:=zdh x l W.q;omega
  have hm:0<=pool*zes x l/\pool*zes x l<=719928:=by
   refine ⟨Int.mul_nonneg hp.1 hs.1,?_⟩
   have:=Int.mul_le_mul hp.2 hs.2 hs.1 (by omega)
   omega
  show zcq 20000 pool [0,0,0] (zeu l) (zgr 1 l) (l.map zd5) (u,0) (za0 20000 pool [0,0,0] (zeu l) (zgr 1 l) (l.map zd5) (u,0) m) x=_
  unfold zcq
  rw [if_pos (by rcases hx with rfl | rfl | rfl<;>decide),show zdN 20000 (⟨pool,l.map zd5,[0,0,0]⟩:Royal) x=some (n,d,0) from e1]
  simp only [zac]
  rw [if_neg (show ¬((0:Int) != 0)=true by decide),if_neg (by simp;omega),if_neg (by simp;omega),if_neg (by simp;omega),if_neg (by simp;omega),own_ x hx]
  simp only [zac]
  rw [zcB (x:=pool*zes x l) (by omega) (by omega),e2,show (w64 (pool*zes x l*d) != w64 (pool*zes x l*d))=false by simp]
  exact j6 _ x hx
 have s0:=step 19999 0 (.inl rfl)
 have s1:=step 19998 1 (.inr (.inl rfl))
 have s2:=step 19997 2 (.inr (.inr rfl))
 rw [show w64 ((0:Int)+1)=1 from by decide +kernel] at s0
 rw [show w64 ((1:Int)+1)=2 from by decide +kernel] at s1
 rw [show w64 ((2:Int)+1)=3 from by decide +kernel] at s2
 refine s0.trans (s1.trans (s2.trans ?_))
 show zcq 20000 pool [0,0,0] (zeu l) (zgr 1 l) (l.map zd5) (u,0) (za0 20000 pool [0,0,0] (zeu l) (zgr 1 l) (l.map zd5) (u,0) 19996) 3=_
 unfold zcq
 rw [if_neg (by decide)]
 unfold zdX
 rw [zft]
 rfl
theorem ziH (t:Tray) (whose:List Int) (pool:Int):zfn 20000 t whose pool=some true:=by
 have jt:zbb 20000 t whose pool true=some true:=by
  unfold zbb
  rw [if_pos rfl,zft]
  rfl
 unfold zfn
 rw [zpu]
 simp only [zac]
 by_cases hf:(decide (t.Records.length>40) || decide (t.Presses.length>40))=true
 ·rw [if_pos hf];exact jt
 rw [if_neg hf]
 have hf1:t.Records.length<=40/\t.Presses.length<=40:=by
  simp only [Bool.or_eq_true,decide_eq_true_eq,not_or] at hf
  omega
 rw [zpr t hf1.1 hf1.2 (by decide)]
 simp only [zac]
 by_cases hk:okT t=true
 case neg =>
  rw [Bool.not_eq_true] at hk
  rw [hk,if_pos (by decide)]
  exact jt
 have V:=zps.1 hk
 have hV:=V.len
 rw [hk,if_neg (by decide)]
 by_cases hw:whose.length=t.Records.length
 case neg =>
  rw [if_pos (by simp;omega)]
  exact jt
 rw [if_neg (by simp;omega),if_neg (by simp;omega)]
 by_cases hp0:pool<0
 ·rw [if_pos (by simpa using hp0)];exact jt
 rw [if_neg (by simpa using hp0)]
 by_cases hp1:pool>9999
 ·rw [show decide (pool>9999)=true by simpa using hp1];exact jt
 rw [show decide (pool>9999)=false by simpa using hp1]
 obtain ⟨l,e,hl,hb⟩:=zox V
 unfold zbb
 rw [if_neg (by decide),e]
 simp only [zac]
 rw [if_neg (by decide),show mkN 3 3 (0:Int)=some [0,0,0] from by decide +kernel]
 simp only [zac]
 rw [show zkh 3 ([0,0,0]:List Int)=some () from rfl]
 simp only [zac]
 have hzl:(l.zip whose).length=l.length:=by rw [List.length_zip];omega
 refine zmf (fun m i (s:Int×List Int×List RoyalSide)=>zbI 20000 whose pool (l,true) [0,0,0] m s.1 i s.2.1 s.2.2) (l.zip whose) (fun _ _=>some true) (fun k s=>∃pre,pre++k=l.zip whose/\(∀q,q∈pre->okQ q)/\s=(zeu pre,zgr 1 pre,pre.map zd5)) (by omega) (fun m s I=>?_) (fun m i x k s I hx hi hi' hd hrec=>?_) (l.zip whose) 0 20000 (0,[0,0,0],[]) (by omega) rfl (by omega) ⟨[],rfl,(fun q hq=>by cases hq),rfl⟩
 ·obtain ⟨pre,e1,h1,rfl⟩:=I
  rw [List.append_nil] at e1
  subst e1
  simp only [zbI,zdp]
  rw [if_neg (by simp;omega)]
  exact zpw ⟨⟨by omega,by omega⟩,by omega,h1⟩
 ·obtain ⟨pre,e1,h1,rfl⟩:=I
  obtain ⟨z1,z2⟩:=zpv hx
  have hmem:x.1∈l:=by
   unfold idx at z1
   rw [if_pos (by omega)] at z1
   exact List.mem_of_getElem? z1
  have hx1:=hb x.1 hmem
  have hlen:pre.length<=6:=by have:=congrArg List.length e1;simp at this;omega
  have hset:zeg 20000=some true:=zft
  simp only [zbI,zdp]
  rw [if_pos (by simp;omega),z2]
  simp only [zac]
  have bad:∀rec2 a b c d,zcr 20000 rec2 whose (l,true) a b c d true=some true:=fun rec2 a b c d=>by
   unfold zcr
   rw [if_pos rfl,zft]
   rfl
  by_cases hx0:x.2<0
  ·rw [if_pos (by simpa using hx0)];exact bad ..
  rw [if_neg (by simpa using hx0)]
  by_cases hx3:x.2≥3
  ·rw [show decide (x.2≥3)=true by simpa using hx3];exact bad ..
  rw [show decide (x.2≥3)=false by simpa using hx3]
  have hq:okQ x:=⟨hx1,by omega⟩
  obtain ⟨u,hu1,hu2,hu3⟩:=znz (c:=1) pre hq
  have ra:=zgs pre h1
  have rs:=zdh x.2 pre h1
  unfold zcr
  rw [if_neg (by decide),z1]
  simp only [zac]
  rw [z2]
  simp only [zac]
  rw [zi0 (by simp;omega)]
  simp only [zac]
  rw [show zet 3 (zgr 1 pre) x.2=some u from (zgc rfl).trans hu1]
  simp only [zac]
  rw [zcB (x:=zeu pre+x.1) (by omega) (by omega),zcB (x:=u+x.1) (by rw [hu2];omega) (by rw [hu2];omega),show u+x.1=u+1*x.1 by omega,hu3,←zlw pre hq]
  exact hrec (zeu (pre++[x]),zgr 1 (pre++[x]),pre.map zd5++[zd5 x]) ⟨pre++[x],by rw [List.append_assoc];exact e1,fun q hq2=>by
   rcases List.mem_append.1 hq2 with h | h
   ·exact h1 q h
   ·rw [List.mem_singleton.1 h];exact hq,by simp⟩
end Go.Law
