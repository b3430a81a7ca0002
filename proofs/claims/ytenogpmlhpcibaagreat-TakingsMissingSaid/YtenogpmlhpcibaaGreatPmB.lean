/-
  Plain laws.
  Conditions: none.
-/
import Derived.Test.YtenogpmlhpcibaaGreatPmA
set_option linter.all false
namespace Go.Law
open Go Go.AM
theorem same_eq {b:Box} (h:zvz b) {n:Nat} (hn:200<=n):zjd n b b=some true:=by
 obtain ⟨h1,h2,h3,h4,h5⟩:=h
 unfold zjd
 rw [if_pos (by simp),zcW _ (by omega) (by omega),zaa,if_pos rfl,zcW _ (by omega) (by omega),zaa,if_pos rfl,zcW _ (by omega) (by omega),zaa,if_pos rfl,zcW _ (by omega) (by omega),zaa,if_pos rfl,zcW _ (by omega) (by omega),zaa,if_pos rfl,if_pos (by simp)]
 unfold zce
 simp
def zla (p:Nat->Bool):Nat->Nat->List Int
 | _,0=>[]
 | k,d+1=>if p k=true then (k:Int)::zla p (k+1) d else zla p (k+1) d
theorem zpq (p:Nat->Bool):∀(d k:Nat),(zla p k d).length<=d
 | 0,_=>Nat.le_refl _
 | d+1,k=>by
  have:=zpq p d (k+1)
  simp only [zla]
  split
  ·simp only [List.length_cons];omega
  ·omega
theorem zt7 {n:Nat} (f:Gap_->Option Bool) (bad:Gap_->Bool) (xs:List Gap_) (hf:∀x,x∈xs->f x=some (bad x)) (hl:xs.length<1048576) (hn:xs.length<n) :
  zbH n (fun x (_:Unit)=>(f x).map fun y=>(y,())) xs ()=some (xs.any bad,()):=by
 have key:∀(l:List Gap_) (i m:Nat) (s:Unit),i<=xs.length->xs.drop i=l->l.length<m->(zaI xs (fun x (_:Unit)=>(f x).map fun y=>(y,())) m (i:Int) s).map (fun r=>decide (r.1≥0))=some (l.any bad):=by
  intro l i m s h1 h2 h3
  refine ztC (fun m i s=>(zaI xs (fun x (_:Unit)=>(f x).map fun y=>(y,())) m i s).map (fun r=>decide (r.1≥0))) xs (fun l _=>some (l.any bad)) hl (fun m s=>?_) (fun m i x l s hx hi _ _ hrec=>?_) l i m s h1 h2 h3
  ·simp [zaI,zbs,zbG]
  ·have hmem:x∈xs:=by
    unfold idx at hx
    rw [if_pos (by omega)] at hx
    exact List.mem_of_getElem? hx
   simp only [zaI,zbs]
   rw [if_pos (by simpa using hi),hx,zaa]
   simp only [hf x hmem,Option.map_some,zaa]
   by_cases hg:bad x=true
   ·rw [if_pos (by simpa using hg)]
    simp [hg]
   ·rw [if_neg (by simpa using hg)]
    have:=hrec ()
    rw [this]
    simp [hg]
 have h:=key xs 0 n () (by omega) rfl hn
 unfold zbH zc5
 change Option.map _ (zaI xs _ n 0 ())=_ at h
 cases hx:zaI xs (fun x (_:Unit)=>(f x).map fun y=>(y,())) n 0 () with
 | none=>rw [hx] at h;cases h
 | some r =>
  rw [hx] at h
  simp only [Option.map_some,Option.some.injEq] at h
  simp only [zaa]
  rw [h]
open Classical in
noncomputable def zlb (b:Box) (m:Int) (k:Nat):Bool:=decide (∃P,More b P/\zmW b (sums (zcC b) P)/\zbA b.Wheel P=m/\0<P.getD k 0)
theorem zpr {b:Box} {m:Int} {k:Nat}:zlb b m k=true↔∃P,More b P/\zmW b (sums (zcC b) P)/\zbA b.Wheel P=m/\0<P.getD k 0:=by simp [zlb]
theorem zps {b:Box} (N:Near b) {n:Nat} (hn:100000<=n):(zsj b/\zdZ n b=some ([],3))\/∃m,zhs b m/\zdZ n b=some (zla (zlb b m) 0 b.Wheel.Coins.length,0):=by
 have hk3:=N.k3
 obtain ⟨gs,hg,h⟩:=zmN N hn
 obtain ⟨a1,a2,a3,a4⟩:=zqk N hn hg
 unfold zdZ
 rcases h with ⟨rfl,h,h2⟩ | ⟨x,t,rfl,h,h3,h4,h5⟩
 ·rw [h]
  exact .inl ⟨h2,rfl⟩
 ·rw [h,zaa,if_neg (by simp)]
  refine .inr ⟨_,h5,?_⟩
  have hany:∀k:Nat,(x::t).any (fun g=>decide (0<g.purse.getD k 0))=zlb b (zbA b.Wheel x.purse) k:=fun k=>by
   rw [Bool.eq_iff_iff,List.any_eq_true,zpr]
   constructor
   ·rintro ⟨g,hg1,hg2⟩
    obtain ⟨m1,m2⟩:=a1 g hg1
    exact ⟨g.purse,m1,m2.ex,a2 g hg1 x (by simp),by simpa using hg2⟩
   ·rintro ⟨P,p1,p2,p3,p4⟩
    obtain ⟨g,hg1,hg2⟩:=a3 P p1 p2
    have:=a2 g hg1 x (by simp)
    rcases hg2 with rfl | hg2
    ·exact ⟨g,hg1,by simpa using p4⟩
    ·omega
  have key:∀(d k m:Nat) (v:List Int),k+d=b.Wheel.Coins.length->d<m->v.length<=k->zbQ n b (some ⟨b⟩,x::t,0) m v (k:Int)=some (v++zla (zlb b (zbA b.Wheel x.purse)) k d,0):=by
   intro d
   induction d with
   | zero =>
    intro k m v hk hm hv
    obtain ⟨m,rfl⟩:∃q,m=q+1:=⟨m-1,by omega⟩
    simp only [zbQ,zeq,zfr,zla]
    rw [if_neg (by simp;omega),List.append_nil]
   | succ d ih =>
    intro k m v hk hm hv
    obtain ⟨m,rfl⟩:∃q,m=q+1:=⟨m-1,by omega⟩
    simp only [zbQ,zeq,zla]
    rw [if_pos (by simp;omega),zt7 (fun x0=>zd8 x0 (k:Int)) (fun g=>decide (0<g.purse.getD k 0)) (x::t) (fun g hg1=>by
     have hl:=(a1 g hg1).1.l
     unfold zd8
     rw [zbV (by omega),zaa,getD_get]) (by omega) (by omega),zaa,hany k]
    unfold zd9
    by_cases hq:zlb b (zbA b.Wheel x.purse) k=true
    ·rw [if_pos hq,if_pos hq,zf0 (by simp;omega),zaa,zaF (by omega) (by omega)]
     have:=ih (k+1) m (v++[(k:Int)]) (by omega) (by omega) (by simp;omega)
     rw [show (((k+1:Nat)):Int)=(k:Int)+1 by simp] at this
     rw [this]
     simp
    ·rw [if_neg hq,if_neg hq,zaF (by omega) (by omega)]
     have:=ih (k+1) m v (by omega) (by omega) (by omega)
     rw [show (((k+1:Nat)):Int)=(k:Int)+1 by simp] at this
     exact this
  have:=key b.Wheel.Coins.length 0 n [] (by omega) (by omega) (by simp)
  rw [List.nil_append] at this
  exact this
theorem zpt {b:Box} (N:Near b) {n:Nat} (hn:200000<=n):(zsj b/\zfz n b=some ([],3))\/∃m,zhs b m/\zfz n b=some (zla (zlb b m) 0 b.Wheel.Coins.length,0):=by
 have F:=N.ok.far
 have hk3:=N.k3
 have hfl:=F.fl
 obtain ⟨r,h1,h2⟩:=zmS N hn
 obtain ⟨R,r1,r2,r3⟩:=zlo N hn
 unfold zfz
 rw [h1,zaa]
 rcases h2 with ⟨e,hl⟩ | ⟨rfl,h2⟩
 ·rw [if_neg (by simp [e]),r1,zaa]
  refine .inr ⟨r.1,hl,?_⟩
  have hw:=fun {P} (hP:More b P)=>zit F.h (show 100<=n by omega) hP.l (zhI hP)
  have hany:∀k:Nat,R.any (fun P=>decide (0<P.getD k 0)&&(zbA b.Wheel P==r.1))=zlb b r.1 k:=fun k=>by
   rw [Bool.eq_iff_iff,List.any_eq_true,zpr]
   constructor
   ·rintro ⟨P,p1,p2⟩
    rw [Bool.and_eq_true,decide_eq_true_eq,beq_iff_eq] at p2
    obtain ⟨q1,q2⟩:=(r3 P).1 p1
    exact ⟨P,q1,q2,p2.2,p2.1⟩
   ·rintro ⟨P,p1,p2,p3,p4⟩
    exact ⟨P,(r3 P).2 ⟨p1,p2⟩,by rw [Bool.and_eq_true,decide_eq_true_eq,beq_iff_eq];exact ⟨p4,p3⟩⟩
  have l2:∀(rec1:List Int->Int->Option (List Int×Int)) (k:Nat) (v:List Int),k<b.Wheel.Coins.length->v.length<=k->zbN n rec1 b r R (k:Int) n v 0=zdx rec1 (k:Int) (if zlb b r.1 k=true then v++[(k:Int)] else v):=fun rec1 k v hk hv=>by
   have key:=zmu (F:=fun m i (_:Unit)=>zbN n rec1 b r R (k:Int) m v i) (xs:=R) (spec:=fun l _=>zdx rec1 (k:Int) (if l.any (fun P=>decide (0<P.getD k 0)&&(zbA b.Wheel P==r.1))=true then v++[(k:Int)] else v)) (I:=fun l _=>∀P,P∈l->More b P) (by omega)
    (fun m s hI=>by
     simp only [zbN,zfs]
     rw [if_neg (by simp)]
     rfl)
    (fun m i P l s hI hx hi _ _ hrec=>by
     have hP:=hI P (by simp)
     have hl:=hP.l
     simp only [zbN,zfs]
     rw [if_pos (by simpa using hi),hx,zaa,zbV (by omega),zaa,getD_get]
     have hrec':=hrec () fun Q hQ=>hI Q (by simp [hQ])
     unfold ze8
     by_cases hq:P.getD k 0>0
     ·rw [if_pos (by simpa using hq),zaa,hw hP,zaa]
      by_cases hm:zbA b.Wheel P=r.1
      ·rw [if_pos (by simpa using hm),zf0 (by simp;omega),zaa,if_pos]
       simp only [List.any_cons,Bool.or_eq_true,Bool.and_eq_true,decide_eq_true_eq,beq_iff_eq]
       exact .inl ⟨hq,hm⟩
      ·rw [if_neg (by simpa using hm),hrec']
       simp only [List.any_cons,show (zbA b.Wheel P==r.1)=false by simpa using hm,Bool.and_false,Bool.false_or]
     ·rw [if_neg (by simpa using hq),if_neg (by simp),hrec']
      simp only [List.any_cons,show decide (0<P.getD k 0)=false by simpa using hq,Bool.false_and,Bool.false_or])
    R 0 n () (by omega) rfl (by omega) fun P hP=>((r3 P).1 hP).1
   rw [show zbN n rec1 b r R (k:Int) n v 0=_ from key,hany k]
  have key:∀(d k m:Nat) (v:List Int),k+d=b.Wheel.Coins.length->d<m->v.length<=k->za7 n b r R m v (k:Int)=some (v++zla (zlb b r.1) k d,0):=by
   intro d
   induction d with
   | zero =>
    intro k m v hk hm hv
    obtain ⟨m,rfl⟩:∃q,m=q+1:=⟨m-1,by omega⟩
    simp only [za7,zft,zgw,zla]
    rw [if_neg (by simp;omega),List.append_nil]
   | succ d ih =>
    intro k m v hk hm hv
    obtain ⟨m,rfl⟩:∃q,m=q+1:=⟨m-1,by omega⟩
    simp only [za7,zft,zla]
    rw [if_pos (by simp;omega),l2 _ k v (by omega) hv]
    unfold zdx
    rw [zaF (by omega) (by omega)]
    by_cases hq:zlb b r.1 k=true
    ·rw [if_pos hq,if_pos hq]
     have:=ih (k+1) m (v++[(k:Int)]) (by omega) (by omega) (by simp;omega)
     rw [show (((k+1:Nat)):Int)=(k:Int)+1 by simp] at this
     rw [this]
     simp
    ·rw [if_neg hq,if_neg hq]
     have:=ih (k+1) m v (by omega) (by omega) (by omega)
     rw [show (((k+1:Nat)):Int)=(k:Int)+1 by simp] at this
     exact this
  have:=key b.Wheel.Coins.length 0 n [] (by omega) (by omega) (by simp)
  rw [List.nil_append] at this
  exact this
 ·rw [if_pos (by simp)]
  exact .inl ⟨h2,rfl⟩
theorem zhs.uniq {b:Box} {m m':Int} (h:zhs b m) (h':zhs b m'):m=m':=by
 have:=zol.eq (b:=b) (r:=(m,0)) (r':=(m',0)) (.inl ⟨rfl,h⟩) (.inl ⟨rfl,h'⟩)
 simpa using this
theorem zhs.no {b:Box} {m:Int} (h:zhs b m):¬zsj b:=fun hn=>by
 obtain ⟨P,h1,h2,_⟩:=h.1
 exact hn P h1 h2
theorem zmT {b:Box} (N:Near b) {n:Nat} (hn:100000<=n):(zsj b/\zc6 n b=some ([],[],3))\/∃P acts,zc6 n b=some (P,acts,0)/\More b P/\ExplOk b (sums (zcC b) P) acts/\zhs b (zbA b.Wheel P):=by
 obtain ⟨gs,hg,h⟩:=zmN N hn
 unfold zc6
 rcases h with ⟨rfl,h,h2⟩ | ⟨x,t,rfl,h,h3,h4,h5⟩
 ·rw [h]
  exact .inl ⟨h2,rfl⟩
 ·rw [h,zaa,if_neg (by simp)]
  exact .inr ⟨x.purse,x.acts,rfl,h3,h4,h5⟩
theorem zpu {b:Box} (F:NearF b) {P:List Int} (h:More b P) {n:Nat} (hn:200<=n):zfV n b P=some true:=by
 have hfl:=F.fl
 have hl:=h.l
 have h4:=F.h.clen
 unfold zfV
 rw [if_neg (by simp;omega)]
 have hs:=h.small
 have key:=zmu (F:=fun m i (_:Unit)=>zcf n P m i) (xs:=P) (spec:=fun _ _=>some true) (I:=fun l _=>∀x,x∈l->0<=x/\x<=2) (by omega)
  (fun m s hI=>by
   simp only [zcf,zdG,zer]
   rw [if_neg (by simp),zkA (zhI h) (by omega) (by omega),zaa,show decide (total P<=2)=true by simpa using h.t])
  (fun m i x l s hI hx hi _ _ hrec=>by
   simp only [zcf,zdG]
   rw [if_pos (by simpa using hi),hx,zaa,zhc,zaa,zbW.2 (hI x (by simp)),if_neg (by simp)]
   exact hrec () fun y hy=>hI y (by simp [hy]))
  P 0 n () (by omega) rfl (by omega) fun x hx=>by
   obtain ⟨k,hk⟩:=List.getElem?_of_mem hx
   have:=hs k
   rwa [List.getD_eq_getElem?_getD,hk] at this
 exact key
theorem zm5 {b:Box} (N:Near b) {P acts:List Int} (h:More b P) (he:ExplOk b (sums (zcC b) P) acts):zeV 1000000 b P acts=some true:=by
 have F:=N.ok.far
 have hfl:=F.fl
 have hl:=h.l
 have hk3:=N.k3
 have hpl:=ziu F
 have C:=N.cx h
 have ht5:=C.t5
 have hal:=he.len
 have hsl:(sums (zcC b) P).length=b.Wheel.Coins.length:=C.hl
 have hss:zgW (sums (zcC b) P):=fun k=>by
  have:=zhR (zfI C.nn) k
  omega
 have hpp:=F.p
 have hkk:=F.k
 unfold zeV
 rw [if_neg (by simp;omega),if_neg (by simp;omega),zpu F h (by omega),zaa]
 show zbD 1000000 b P acts false=_
 unfold zbD
 rw [if_neg (by simp)]
 have hj2:zcT 1000000 b P acts=some true:=by
  unfold zcT
  rw [zql F (by omega),zaa,zqh (by omega) (zmM F) (zhI h) (by omega) (by omega),zaa,zkA hss (by omega) (by omega),zaa,zaF (by omega) (by omega),if_pos (by simpa using hal),zyu b.Wheel acts (by omega) (by omega) (by omega) (by omega),zaa,zwi hsl he.bag,zcW _ (by omega) (by omega),zaa,if_pos rfl,zwj F.h (by omega) acts (by omega) he.ok,zaa]
  unfold zfT
  rw [zaF (by omega) (by omega),zhc,zaa,zbW.2 ⟨he.pl,he.pl2⟩]
  rfl
 have key:=zmu (F:=fun m i (_:Unit)=>zbd 1000000 b P acts m i) (xs:=acts) (spec:=fun _ _=>some true) (I:=fun l _=>∀x,x∈l->ze4 b.Wheel x=true) (by omega)
  (fun m s hI=>by
   simp only [zbd,zc9]
   rw [if_neg (by simp),hj2])
  (fun m i x l s hI hx hi _ _ hrec=>by
   have hok:=zbW.1 (hI x (by simp))
   simp only [zbd,zc9]
   rw [if_pos (by simpa using hi),hx,zaa,if_neg (by simp;omega),zaa]
   unfold zcU
   rw [if_neg (by simp;omega)]
   exact hrec () fun y hy=>hI y (by simp [hy]))
  acts 0 1000000 () (by omega) rfl (by omega) fun x hx=>List.all_eq_true.1 he.ok x hx
 exact key
theorem zkF (b:Box):ze2 1000000 b=some true:=by
 have hw:=zu0 (n:=1000000) (by omega)
 unfold ze2
 rcases zyx b (n:=1000000) (by omega) with h | ⟨h,hL,hN⟩
 ·rw [h,zaa,if_pos rfl,hw]
  rfl
 rw [h,zaa,if_neg (by simp),zu1 hL,zaa]
 have hsame:=same_eq hL (n:=1000000) (by omega)
 by_cases hb:BoxOk b
 ·have N:=hN hb
  obtain ⟨g,hm⟩:=zvB N (n:=1000000) (by omega)
  have hpl:∀m,(zla (zlb b m) 0 b.Wheel.Coins.length).length<=3:=fun m=>by
   have:=zpq (zlb b m) b.Wheel.Coins.length 0
   have:=N.k3
   omega
  rw [g,zaa,zos N (by omega),zaa]
  rcases hm with ⟨e,hl⟩ | ⟨e,hno⟩
  ·obtain ⟨m1,l1,w1⟩:=(zps N (n:=1000000) (by omega)).resolve_left fun q=>hl.no q.1
   obtain ⟨m2,l2,w2⟩:=(zpt N (n:=1000000) (by omega)).resolve_left fun q=>hl.no q.1
   obtain ⟨P,acts,x1,x2,x3,x4⟩:=(zmT N (n:=1000000) (by omega)).resolve_left fun q=>hl.no q.1
   obtain rfl:=l1.uniq l2
   have hpm:=hl.uniq x4
   have h3:=hpl m1
   rw [w1,zaa,w2,zaa,x1,zaa,if_neg (by simp),if_neg (by simp),zcW _ (by simp only;omega) (by simp only;omega),zaa,if_neg (by simp),if_neg (by simp),if_neg (by simp [e]),hsame,zaa]
   show zaH 1000000 b (mOf 1000000 b) (P,acts,0) false=_
   unfold zaH
   rw [if_neg (by simp),if_neg (by simp [e]),zm5 N x2 x3,zaa,if_pos rfl,zit N.ok.far.h (by omega) x2.l (zhI x2),zaa,if_pos (by simp [hpm]),hw]
   rfl
  ·have w1:=((zps N (n:=1000000) (by omega)).resolve_right fun ⟨m,q,_⟩=>q.no hno).2
   have w2:=((zpt N (n:=1000000) (by omega)).resolve_right fun ⟨m,q,_⟩=>q.no hno).2
   have x1:=((zmT N (n:=1000000) (by omega)).resolve_right fun ⟨_,_,_,_,_,q⟩=>q.no hno).2
   rw [w1,zaa,w2,zaa,x1,zaa,if_neg (by simp),if_neg (by simp),zcW _ (by simp) (by simp),zaa,if_neg (by simp),if_neg (by simp),if_neg (by simp [e]),hsame,zaa]
   show zaH 1000000 b (mOf 1000000 b) ([],[],3) false=_
   unfold zaH
   rw [if_neg (by simp),if_pos (by simp [e]),if_pos (by rfl),hw]
   rfl
 ·have ho:=zwp hb hL (n:=1000000) (by omega)
  have hst:zcA 1000000 b=some (none,[],50):=by unfold zcA;rw [ho];rfl
  have e1:zcc 1000000 b=some (0,50):=by unfold zcc;rw [hst];rfl
  have e2:zdk 1000000 b=some (0,50):=by unfold zdk;rw [zwo b _ hL (by omega),zi2 hb];rfl
  have e3:zdZ 1000000 b=some ([],50):=by unfold zdZ;rw [hst];rfl
  have e4:zfz 1000000 b=some ([],50):=by unfold zfz;rw [e2];rfl
  have e5:zc6 1000000 b=some ([],[],50):=by unfold zc6;rw [hst];rfl
  rw [e1,zaa,e2,zaa,e3,zaa,e4,zaa,e5,zaa,if_neg (by simp),if_neg (by simp),zcW _ (by simp) (by simp),zaa,if_neg (by simp),if_neg (by simp),if_neg (by simp),hsame,zaa]
  show zaH 1000000 b (0,50) ([],[],50) false=_
  unfold zaH
  rw [if_neg (by simp),if_pos (by simp),if_pos (by rfl),hw]
  rfl
end Go.Law
