/-
  Plain laws.
  Conditions: none.
-/
import Derived.Test.YtenogpmlhpcibaaPmA
set_option linter.all false
namespace Go.Law
open Go Go.AM
def wA (w:Wheel):List Int->Int
 | []=>0
 | a::l=>(if 0<=a then coin w a else 0)+wA w l
def zui (w:Wheel) (acts:List Int):Nat->Nat->Int
 | 0,_=>0
 | d+1,k=>coin w k*cnt k acts+zui w acts d (k+1)
theorem zq1 (w:Wheel):∀d k,zui w [] d k=0
 | 0,k=>rfl
 | d+1,k=>by simp only [zui,cnt,zq1 w d (k+1)];omega
theorem zoQ (w:Wheel) (a:Int) (l:List Int):∀d k:Nat,zui w (a::l) d k=zui w l d k+(if (k:Int)<=a/\a<k+d then coin w a else 0)
 | 0,k=>by
  simp only [zui]
  rw [if_neg (by omega)]
  omega
 | d+1,k=>by
  simp only [zui,cnt]
  rw [zoQ w a l d (k+1),Int.mul_add]
  by_cases e:a=(k:Int)
  ·subst e
   rw [if_pos rfl,if_neg (by omega),if_pos (by omega)]
   omega
  ·rw [if_neg e]
   by_cases q:((k+1:Nat):Int)<=a/\a<((k+1:Nat):Int)+d
   ·rw [if_pos q,if_pos (by omega)];omega
   ·rw [if_neg q,if_neg (by omega)];omega
theorem zue {w:Wheel}:∀{acts:List Int},acts.all (zfk w)=true->wA w acts=zui w acts w.Coins.length 0
 | [],_=>by rw [zq1];rfl
 | a::l,h=>by
  simp only [List.all_cons,Bool.and_eq_true] at h
  have ha:=zbK.1 h.1
  rw [zoQ,←zue h.2]
  simp only [wA]
  by_cases e:0<=a
  ·rw [if_pos e,if_pos (by omega)];omega
  ·rw [if_neg e,if_neg (by omega)];omega
theorem zoR {w:Wheel} {l acts:List Int}:∀(d k:Nat),(∀j:Nat,k<=j->j<k+d->cnt j acts=l.getD j 0)->zui w acts d k=znH w l d k
 | 0,k,_=>rfl
 | d+1,k,h=>by
  simp only [zui,znH]
  rw [h k (by omega) (by omega),zoR d (k+1) (fun j h1 h2=>h j (by omega) (by omega))]
theorem zk2 {w:Wheel} (h:OkW w) {one:Nat->Int} {P:Nat} (ho:∀k:Nat,k<=P->IsOne w k (one k)):∀(acts:List Int) (s:Stand) (b c p:Int),OkS w s b->acts.all (zfk w)=true->zpP w one P c s.Place p->∃place,zpP w one P (c+wA w acts) place (p+zeU w s acts)
 | [],s,b,c,p,_,_,hc=>⟨s.Place,by simpa [wA,zeU] using hc⟩
 | a::acts,s,b,c,p,hs,hok,hc=>by
  simp only [List.all_cons,Bool.and_eq_true] at hok
  have ha:=zbK.1 hok.1
  have hs':=zpC h hs hok.1
  simp only [wA,zeU]
  by_cases e:0<=a
  ·obtain ⟨k,rfl⟩:∃k:Nat,a=k:=⟨a.toNat,by omega⟩
   have hk:k<w.Coins.length:=by omega
   have hc':=hc.coin h hk
   have ea:(zhi w s (k:Int)).1.Place=(turn w s.Place (coin w k)).1:=by
    unfold zhi
    rw [if_pos e]
   rw [←ea] at hc'
   obtain ⟨pl,hh⟩:=zk2 h ho acts _ _ _ _ hs' hok.2 hc'
   rw [if_pos e,if_pos e]
   exact ⟨pl,by rw [←Int.add_assoc,←Int.add_assoc];exact hh⟩
  ·rw [if_neg e,if_neg e,Int.zero_add,Int.zero_add]
   by_cases q:s.Credit=0
   ·have ea:(zhi w s a).1=s:=by
     unfold zhi
     rw [if_neg e,if_pos q]
    rw [ea]
    exact zk2 h ho acts s b c p hs hok.2 hc
   ·have ea:(zhi w s a).1=⟨0,s.Credit-1⟩:=by
     unfold zhi
     rw [if_neg e,if_neg q]
    rw [ea] at hs' ⊢
    exact zk2 h ho acts _ _ c p hs' hok.2 (hc.select h ho)
theorem zzE {w:Wheel} (h:OkW w) {one:Nat->Int} {P:Nat} (ho:∀k:Nat,k<=P->IsOne w k (one k)) {l:List Int} (hl:OkP w l) (hq:(P:Int)<=Q true w (total l).toNat 0 0 l):F one P<=zdw w l:=by
 have hr:=h.r1
 have hn:=zdk hl.nn
 obtain ⟨acts,hw⟩:=ztS true h (total l).toNat (p:=0) (c:=0) (l:=l) (by omega) hl (by omega) (by omega) (by omega)
 obtain ⟨pl,hc⟩:=zk2 h ho acts ⟨0,0⟩ 0 0 0 ⟨by simp,by simp;omega,by simp,by simp⟩ hw.ok (zpP.start h)
 have:=hc.le h ho
 rw [hw.buys,Int.zero_add,Int.zero_add,zue hw.ok,zoR (l:=l) _ _ (fun j _ h2=>hw.bag j (by omega)),show (min (Q true w (total l).toNat 0 0 l) (P:Int)).toNat=P by omega] at this
 exact this
theorem zmS {w:Wheel} (hn:w.Notches=[]):∀(acts:List Int) (s:Stand),zeU w s acts=0
 | [],s=>rfl
 | a::acts,s=>by
  simp only [zeU]
  rw [zmS hn acts]
  unfold turn
  rw [hn]
  simp [reached]
theorem zzF {w:Wheel} (h:OkW w) {l:List Int} (hl:OkP w l) (hno:w.Coins.length=0\/w.Notches.length=0):Q true w (total l).toNat 0 0 l=0:=by
 have hr:=h.r1
 have hn:=zdk hl.nn
 rcases hno with e | e
 ·have:l=[]:=List.eq_nil_of_length_eq_zero (by rw [hl.len,e])
  subst this
  rfl
 ·obtain ⟨acts,hw⟩:=ztS true h (total l).toNat (p:=0) (c:=0) (l:=l) (by omega) hl (by omega) (by omega) (by omega)
  rw [←hw.buys]
  exact zmS (List.eq_nil_of_length_eq_zero e) _ _
def onB:Box:=⟨exW,[0,0,0],[0,0,0],[0,0,0],3,0⟩
theorem zws:Near onB:=by
 refine ⟨⟨by decide,by decide,by decide,by decide,by decide,rfl,fun k hk=>?_,by decide⟩,by decide,by decide⟩
 have:k=0\/k=1\/k=2:=by
  have:onB.Found.length=3:=rfl
  omega
 rcases this with rfl | rfl | rfl<;>decide
theorem zkm {al:List Int} {q:Int} (hP:OkP exW al) (hq:Q true exW (total al).toNat 0 0 al=q) {v:Int} (h:Can exW al v):v<=q:=by
 obtain ⟨acts,h1,h2,rfl⟩:=h
 have hi:=zoA true (zfj (show valid exW=true by decide)) acts (p:=0) (c:=0) h1 h2 hP (by decide) (by decide) (by decide)
 rw [hq] at hi
 exact hi
theorem zvd:zpM onB 25:=by
 have hl:onB.Wheel.Coins.length=3:=rfl
 refine ⟨⟨[0,0,1],⟨rfl,fun k=>?_,by decide⟩,⟨3,⟨[2],by decide,zzy (by decide),by decide⟩,by decide,by decide⟩,by decide⟩,fun P hP hE=>?_⟩
 ·match k with
  | 0=>decide
  | 1=>decide
  | 2=>decide
  | k+3=>simp
 ·match P,hP with
  | [a,b,c],hP =>
   have h0:0<=a:=hP.nn 0
   have h1:0<=b:=hP.nn 1
   have h2:0<=c:=hP.nn 2
   have ht:a+(b+(c+0))<=2:=hP.t
   have hw:zdw onB.Wheel [a,b,c]=5*a+(10*b+(25*c+0)):=rfl
   rw [hw]
   by_cases hc:c=0
   ·exfalso
    subst hc
    obtain ⟨v,hv,h3,_⟩:=hE
    have h3:(3:Int)<=v:=h3
    have hs:sums (zdM onB) [a,b,0]=[a,b,0]:=by
     show [0+0+a,0+0+b,0+0+0]=_
     simp
    rw [hs] at hv
    have hcs:(a=0/\b=0)\/(a=1/\b=0)\/(a=2/\b=0)\/(a=0/\b=1)\/(a=1/\b=1)\/(a=0/\b=2):=by omega
    rcases hcs with ⟨rfl,rfl⟩ | ⟨rfl,rfl⟩ | ⟨rfl,rfl⟩ | ⟨rfl,rfl⟩ | ⟨rfl,rfl⟩ | ⟨rfl,rfl⟩
    ·have:=zkm (al:=[0,0,0]) (q:=0) ⟨rfl,by decide,by decide⟩ (by decide +kernel) hv
     omega
    ·have:=zkm (al:=[1,0,0]) (q:=0) ⟨rfl,by decide,by decide⟩ (by decide +kernel) hv
     omega
    ·have:=zkm (al:=[2,0,0]) (q:=1) ⟨rfl,by decide,by decide⟩ (by decide +kernel) hv
     omega
    ·have:=zkm (al:=[0,1,0]) (q:=1) ⟨rfl,by decide,by decide⟩ (by decide +kernel) hv
     omega
    ·have:=zkm (al:=[1,1,0]) (q:=1) ⟨rfl,by decide,by decide⟩ (by decide +kernel) hv
     omega
    ·have:=zkm (al:=[0,2,0]) (q:=2) ⟨rfl,by decide,by decide⟩ (by decide +kernel) hv
     omega
   ·omega
  | [],hP=>exact absurd hP.l (by decide)
  | [_],hP=>exact absurd hP.l (by rw [hl];simp)
  | [_,_],hP=>exact absurd hP.l (by rw [hl];simp)
  | _::_::_::_::_,hP=>exact absurd hP.l (by rw [hl];simp)
theorem zpR:zd0 1000000=some true:=by
 obtain ⟨r,h5,h6⟩:=zkh zws (n:=1000000) (by omega)
 obtain rfl:=h6.eq (r':=(25,0)) (.inl ⟨rfl,zvd⟩)
 have hm:ze3 1000000 exW [0,0,2]=some (6,0):=by
  rw [ztQ (w:=exW) ⟨by decide,by decide,by decide,by decide⟩ (by omega) _ (by simp) (by simp),show zpE true exW [0,0,2]=(6,0) by decide +kernel]
 unfold zd0
 show Option.bind (ze3 1000000 exW [0,0,2]) _=_
 rw [hm,zaa]
 show Option.bind (zbq 1000000 onB) _=_
 rw [h5]
 rfl
def withP (b:Box) (x:Int):Box:=⟨b.Wheel,b.Found,b.Marked,b.Slugs,x,0⟩
theorem Near.withP {b:Box} (N:Near b) {x:Int} (h:0<=x/\x<=9999):Near (withP b x) :=
 ⟨⟨N.ok.v,zbK.2 h,rfl,N.ok.f,N.ok.g,N.ok.ml,N.ok.mkd,N.ok.t⟩,N.k3,N.t3⟩
theorem zpS {b:Box} (N:Near b) {x:Int} (hc:Can b.Wheel (zdM b) x) {n:Nat} (hn:100000<=n):zbq n (withP b x)=some (0,0)/\zcM n (withP b x)=some (0,0)/\zb4 n (withP b x)=some (0,0):=by
 have hx:=zfW N.cx0 hc
 have N':Near (withP b x):=N.withP (by omega)
 obtain ⟨r,h1,h2⟩:=zkh N' hn
 obtain ⟨L,i1,g1⟩:=zqW N' hn
 obtain ⟨L',i2,g2⟩:=zmP N' hn
 obtain rfl:=i1.eq i2
 have hm:x∈L:=(i1.2 x).2 hc
 have ht:=zvA i1.1 hm
 refine ⟨?_,?_,?_⟩
 ·rw [h1]
  have hE:zse (withP b x) (sums (zdM (withP b x)) (zki b)):=⟨x,by
   show Can b.Wheel (sums (zdM b) (zki b)) x
   rw [zoL N.ok.far]
   exact hc,Int.le_refl x,by show x<=x+0;omega⟩
  rcases h2 with ⟨e,⟨P,p1,p2,p3⟩,l⟩ | ⟨_,h2⟩
  ·have h0:=l _ (zl0 (withP b x)) hE
   have h0:r.1<=zdw b.Wheel (zki b):=h0
   rw [zr7] at h0
   have hnn:=zqV N'.ok.far.h (zjO p1)
   have e1:r.1=0:=by omega
   rw [show r=(r.1,r.2) from rfl,e,e1]
  ·exact absurd hE (h2 _ (zl0 (withP b x)))
 ·rw [g1]
  show some (max 0 (x-zt9 L),(0:Int))=_
  rw [show max 0 (x-zt9 L)=0 by omega]
 ·rw [g2]
  show some (zmi x L)=_
  rcases zlZ (P:=x) i1.1 with ⟨v,v1,v2,v3,v4⟩ | ⟨_,h⟩
  ·have:=v4 x hm (Int.le_refl _)
   rw [v3,show v-x=0 by omega]
  ·have:=h x hm
   omega
theorem zuf {b:Box} (N:Near b) {M:Int} (hc:Can b.Wheel (zdM b) M) (hM:∀v,Can b.Wheel (zdM b) v->v<=M) {n:Nat} (hn:100000<=n):(∃r,zbq n (withP b (M+1))=some r/\((r.2=0/\1<=r.1)\/r=(0,3)))/\zcM n (withP b (M+1))=some (1,0)/\zb4 n (withP b (M+1))=some (0,3):=by
 have hx:=zfW N.cx0 hc
 have N':Near (withP b (M+1)):=N.withP (by omega)
 obtain ⟨r,h1,h2⟩:=zkh N' hn
 obtain ⟨L,i1,g1⟩:=zqW N' hn
 obtain ⟨L',i2,g2⟩:=zmP N' hn
 obtain rfl:=i1.eq i2
 have hm:M∈L:=(i1.2 M).2 hc
 have ht:=zvA i1.1 hm
 have ht2:=hM _ ((i1.2 _).1 (zua (zvB N'.cx0 i1)))
 refine ⟨⟨r,h1,?_⟩,?_,?_⟩
 ·rcases h2 with ⟨e,⟨P,p1,p2,p3⟩,l⟩ | ⟨h2,_⟩
  ·refine .inl ⟨e,?_⟩
   rcases Int.lt_or_le 0 r.1 with hh | hh
   ·omega
   ·exfalso
    have hPn:=zr8 N'.ok p1 (by rw [p3];exact hh)
    subst hPn
    obtain ⟨u,u1,u2,_⟩:=p2
    have u1:Can b.Wheel (sums (zdM b) (zki b)) u:=u1
    rw [zoL N.ok.far] at u1
    have u2:M+1<=u:=u2
    have:=hM u u1
    omega
  ·exact .inr h2
 ·rw [g1]
  show some (max 0 (M+1-zt9 L),(0:Int))=_
  rw [show max 0 (M+1-zt9 L)=1 by omega]
 ·rw [g2]
  show some (zmi (M+1) L)=_
  rcases zlZ (P:=M+1) i1.1 with ⟨v,v1,v2,_⟩ | ⟨h,_⟩
  ·have:=hM v ((i1.2 v).1 v1)
   omega
  ·rw [h]
theorem zvD {b:Box} {M:Int} {put:List Int}:zbH 1000000 b put (M,0) true=some true:=by
 unfold zbH
 rw [if_pos rfl,zpR]
 rfl
theorem zzG {b:Box} (N:Near b) {M:Int} (hq:Q true b.Wheel (total (zdM b)).toNat 0 0 (zdM b)=M) (hM:0<=M/\M<=500):zay 1000000 b (zdM b) (M,0) false=some true:=by
 have F:=N.ok.far
 have h:=F.h
 have hP:OkP b.Wheel (zdM b):=⟨zgG F,zgE N.cx0.nn,by have:=N.cx0.t5;omega⟩
 unfold zay
 rw [if_neg (by simp)]
 by_cases h1:M<1
 ·rw [if_pos (by simpa using h1),zvD]
 ·rw [if_neg (by simpa using h1)]
  by_cases h2:M>20
  ·rw [show decide (M>20)=true by simpa using h2,zvD]
  ·rw [show decide (M>20)=false by simpa using h2]
   have hno:¬(b.Wheel.Coins.length=0\/b.Wheel.Notches.length=0):=fun hh=>by
    have:=zzF h hP hh
    omega
   have hc0:b.Wheel.Coins.length≠0:=fun e=>hno (.inl e)
   have hn0:b.Wheel.Notches.length≠0:=fun e=>hno (.inr e)
   obtain ⟨one,ho⟩:=zBU h hc0 hn0
   have ho':∀k:Nat,k<=M.toNat->IsOne b.Wheel k (one k):=fun k hk=>ho k (by omega)
   have eC:=zpQ (h.len (show 100<=1000000 by omega)) N.ok.v (n:=1000000) (by omega) hc0 hn0 (P:=M.toNat) (by omega) ho'
   rw [show ((M.toNat:Nat):Int)=M by omega] at eC
   have hpos:=zBJ (znN h ho') (n:=M.toNat) (by omega) (by omega)
   have hcost:=zzE h ho' hP (by omega)
   unfold zbH
   rw [if_neg (by simp)]
   show Option.bind (zeF 1000000 b.Wheel M) _=_
   rw [eC,zaa,if_pos (by rfl),if_pos (by simpa using hpos),znI h (by omega) (zgG F) (zlY F),zaa,if_pos (by simpa using hcost),zpR]
   rfl
theorem zkM (b:Box):zf2 1000000 b=some true:=by
 have hj:zbs 1000000 b true=some true:=by
  unfold zbs
  rw [if_pos rfl,zpR]
  rfl
 unfold zf2
 rcases zzv b (n:=1000000) (by omega) with h | ⟨h,hL,hN⟩
 ·rw [h,zaa,if_pos rfl,hj]
 rw [h,zaa,if_neg (by simp),zzu b _ hL (by omega),zaa]
 by_cases hb:BoxOk b
 ·have N:=hN hb
  have F:=hb.far
  have C:=N.cx0
  have hw:=F.h
  have ht5:=C.t5
  have hpl:=zgG F
  have hk3:=N.k3
  have hsm:=zlY F
  have hP:OkP b.Wheel (zdM b):=⟨hpl,zgE C.nn,by omega⟩
  have hpu:zbl b.Wheel (zdM b)=true:=by
   simp only [zbl,Bool.and_eq_true,decide_eq_true_eq,List.all_eq_true]
   refine ⟨⟨hpl,fun x hx=>?_⟩,by omega⟩
   obtain ⟨k,hk⟩:=List.getElem?_of_mem hx
   have h1:=zf4 (zgE C.nn) k
   rw [List.getD_eq_getElem?_getD,hk] at h1
   have h1:0<=x/\x<=total (zdM b):=h1
   exact zbK.2 ⟨h1.1,by omega⟩
  have hol:=hw.len (show 100<=1000000 by omega)
  have e1:ze3 1000000 b.Wheel (zdM b)=some (Q true b.Wheel (total (zdM b)).toNat 0 0 (zdM b),0):=by
   rw [ztQ hol (by omega) _ (by omega) (by omega)]
   unfold zpE
   rw [if_pos N.ok.v,if_pos hpu]
  have e2:zgs 1000000 b.Wheel (zdM b)=some (Q false b.Wheel (total (zdM b)).toNat 0 0 (zdM b),0):=by
   rw [zuY hol (by omega) _ (by omega) (by omega)]
   unfold zpE
   rw [if_pos N.ok.v,if_pos hpu]
  have htn:=zdk hP.nn
  have way:∀q,Can b.Wheel (zdM b) (Q q b.Wheel (total (zdM b)).toNat 0 0 (zdM b)):=fun q=>by
   obtain ⟨acts,hw'⟩:=ztS q hw (total (zdM b)).toNat (p:=0) (c:=0) (l:=zdM b) (by omega) hP (Int.le_refl _) (by have:=hw.r1;omega) (Int.le_refl _)
   exact ⟨acts,hw'.ok,hw'.bag,hw'.buys⟩
  have le:∀q v,Can b.Wheel (zdM b) v->leB q v (Q q b.Wheel (total (zdM b)).toNat 0 0 (zdM b)):=fun q v hv=>by
   obtain ⟨acts,h1,h2,rfl⟩:=hv
   exact zoA q hw acts (p:=0) (c:=0) h1 h2 hP (Int.le_refl _) (by have:=hw.r1;omega) (Int.le_refl _)
  have wM:=way true
  have wm:=way false
  have lM:∀v,Can b.Wheel (zdM b) v->v<=Q true b.Wheel (total (zdM b)).toNat 0 0 (zdM b):=fun v hv=>le true v hv
  have hj4:=zzG N rfl (zfW C wM)
  generalize Q true b.Wheel (total (zdM b)).toNat 0 0 (zdM b)=M at *
  generalize Q false b.Wheel (total (zdM b)).toNat 0 0 (zdM b)=m at *
  have rM:=zfW C wM
  have rm:=zfW C wm
  have hmM:=lM m wm
  have a1:=zpS N wM (n:=1000000) (by omega)
  have a2:=zpS N wm (n:=1000000) (by omega)
  obtain ⟨⟨r13,o1,o1'⟩,o2,o3⟩:=zuf N wM lM (n:=1000000) (by omega)
  have happ:app ([]:List Int) (zdM b)=some (zdM b):=zlN (by omega)
  rw [zh5.2 hb]
  show zbs 1000000 b false=_
  unfold zbs
  rw [if_neg (by simp),zt6 F (by omega),zaa,happ,zaa,e1,zaa,zaa,e2,zaa,if_neg (by simp),if_neg (by simp),if_neg (by simp;omega),if_neg (by simp;omega),show decide ((M,(0:Int)).1≥9999)=false by simp;omega]
  unfold zbr
  rw [if_neg (by simp),zu5 hL,zaa]
  have hj3:∀v,zcY 1000000 b (zdM b) (M,0) b v=some true:=fun v=>by
   unfold zcY
   simp only
   rw [zaU (by omega) (by omega)]
   show Option.bind (zbq 1000000 (withP b (M+1))) _=_
   rw [o1,zaa]
   show Option.bind (zcM 1000000 (withP b (M+1))) _=_
   rw [o2,zaa]
   show Option.bind (zb4 1000000 (withP b (M+1))) _=_
   rw [o3,zaa]
   rcases o1' with ⟨z,z1⟩ | rfl
   ·rw [if_pos (by simp [z]),if_neg (by simp;omega),if_neg (by simp [z]),if_neg (by simp),if_neg (by simp)]
    exact hj4
   ·rw [if_neg (by simp),if_pos (by simp),if_neg (by simp),if_neg (by simp),if_neg (by simp)]
    exact hj4
  have step:∀(k:Nat) (i v x:Int),i<2->0<=i->idx ([M,m]:List Int) i=some x->Can b.Wheel (zdM b) x->za1 1000000 b (zdM b) (M,0) (m,0) b (k+1) i v=za1 1000000 b (zdM b) (M,0) (m,0) b k (i+1) x:=fun k i v x hi hi0 hx hc=>by
   obtain ⟨q1,q2,q3⟩:=zpS N hc (n:=1000000) (by omega)
   simp only [za1,zdb]
   rw [if_pos (by simpa using hi),hx,zaa]
   show Option.bind (zbq 1000000 (withP b x)) _=_
   rw [q1,zaa]
   show Option.bind (zcM 1000000 (withP b x)) _=_
   rw [q2,zaa]
   show Option.bind (zb4 1000000 (withP b x)) _=_
   rw [q3,zaa,if_neg (by simp),if_neg (by simp),if_neg (by simp),if_neg (by simp),if_neg (by simp)]
   unfold zbe
   rw [if_neg (by simp),zaU (by omega) (by omega)]
  show za1 1000000 b (zdM b) (M,0) (m,0) b (999999+1) 0 b.Plays=_
  rw [step 999999 0 _ M (by omega) (by omega) rfl wM]
  show za1 1000000 b (zdM b) (M,0) (m,0) b (999998+1) 1 M=_
  rw [step 999998 1 _ m (by omega) (by omega) rfl wm]
  have last:∀k:Nat,za1 1000000 b (zdM b) (M,0) (m,0) b (k+1) 2 m=some true:=fun k=>by
   simp only [za1,zdb]
   rw [if_neg (by simp),hj3]
  exact last 999997
 ·rw [zjL hb]
  exact hj
end Go.Law
