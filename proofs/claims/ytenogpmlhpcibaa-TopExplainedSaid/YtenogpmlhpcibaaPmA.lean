/-
  Plain laws.
  Conditions: none.
-/
import Derived.Test.YtenogpmlhpcibaaMd
import Derived.Test.YtenogpmlhpcibaaPlA
import Derived.Test.YtenogpmlhpcibaaEn
set_option linter.all false
namespace Go.Law
open Go Go.AM
theorem zwa {α S R:Type} (F:Nat->Int->S->Option R) (xs:List α) (spec:List α->S->Option R) (hl:xs.length<1048576) (h0:∀m s,F (m+1) (xs.length:Int) s=spec [] s)
  (hs:∀m (i:Nat) x l s,idx xs (i:Int)=some x->(i:Int)<(xs.length:Int)->i<1048576->xs.drop (i+1)=l->(∀s',F m (w64 ((i:Int)+1)) s'=spec l s')->F (m+1) (i:Int) s=spec (x::l) s) :
  ∀(l:List α) (i m:Nat) (s:S),i<=xs.length->xs.drop i=l->l.length<m->F m (i:Int) s=spec l s:=by
 intro l
 induction l with
 | nil =>
  intro i m s hi hd hm
  obtain ⟨m,rfl⟩:∃k,m=k+1:=⟨m-1,by omega⟩
  have:i=xs.length:=by have:=List.drop_eq_nil_iff.1 hd;omega
  subst this
  exact h0 m s
 | cons x l ih =>
  intro i m s hi hd hm
  obtain ⟨m,rfl⟩:∃k,m=k+1:=⟨m-1,by omega⟩
  simp only [List.length_cons] at hm
  have hlt:i<xs.length:=by
   rcases Nat.lt_or_ge i xs.length with h | h
   ·exact h
   ·rw [List.drop_eq_nil_of_le h] at hd;cases hd
  rw [List.drop_eq_getElem_cons hlt] at hd
  injection hd with h1 h2
  refine hs m i x l s (by rw [zdL hlt,h1]) (by omega) (by omega) h2 fun s'=>?_
  rw [zaU (by omega) (by omega)]
  exact ih (i+1) m s' (by omega) h2 (by omega)
theorem zrX {α S R:Type} (F:Nat->Int->S->Option R) (xs:List α) (spec:List α->S->Option R) (I:List α->S->Prop) (hl:xs.length<1048576) (h0:∀m s,I [] s->F (m+1) (xs.length:Int) s=spec [] s)
  (hs:∀m (i:Nat) x l s,I (x::l) s->idx xs (i:Int)=some x->(i:Int)<(xs.length:Int)->i<1048576->xs.drop (i+1)=l->(∀s',I l s'->F m (w64 ((i:Int)+1)) s'=spec l s')->F (m+1) (i:Int) s=spec (x::l) s) :
  ∀(l:List α) (i m:Nat) (s:S),i<=xs.length->xs.drop i=l->l.length<m->I l s->F m (i:Int) s=spec l s:=by
 intro l
 induction l with
 | nil =>
  intro i m s hi hd hm hI
  obtain ⟨m,rfl⟩:∃k,m=k+1:=⟨m-1,by omega⟩
  have:i=xs.length:=by have:=List.drop_eq_nil_iff.1 hd;omega
  subst this
  exact h0 m s hI
 | cons x l ih =>
  intro i m s hi hd hm hI
  obtain ⟨m,rfl⟩:∃k,m=k+1:=⟨m-1,by omega⟩
  simp only [List.length_cons] at hm
  have hlt:i<xs.length:=by
   rcases Nat.lt_or_ge i xs.length with h | h
   ·exact h
   ·rw [List.drop_eq_nil_of_le h] at hd;cases hd
  rw [List.drop_eq_getElem_cons hlt] at hd
  injection hd with h1 h2
  refine hs m i x l s hI (by rw [zdL hlt,h1]) (by omega) (by omega) h2 fun s' hI'=>?_
  rw [zaU (by omega) (by omega)]
  exact ih (i+1) m s' (by omega) h2 (by omega) hI'
theorem zBE {S R:Type} (F:Nat->Int->S->Option R) (b:Nat) (spec:Nat->S->Option R) (hb:b<1048576) (h0:∀m s,F (m+1) (b:Int) s=spec b s)
  (hs:∀m (i:Nat) s,i<b->(∀s',F m (w64 ((i:Int)+1)) s'=spec (i+1) s')->F (m+1) (i:Int) s=spec i s) :
  ∀(d i m:Nat) (s:S),d=b-i->i<=b->d<m->F m (i:Int) s=spec i s:=by
 intro d
 induction d with
 | zero =>
  intro i m s hd hi hm
  obtain ⟨m,rfl⟩:∃k,m=k+1:=⟨m-1,by omega⟩
  have:i=b:=by omega
  subst this
  exact h0 m s
 | succ d ih =>
  intro i m s hd hi hm
  obtain ⟨m,rfl⟩:∃k,m=k+1:=⟨m-1,by omega⟩
  refine hs m i s (by omega) fun s'=>?_
  rw [zaU (by omega) (by omega)]
  exact ih (i+1) m s' (by omega) (by omega) (by omega)
theorem zaa {α β:Type} (a:α) (f:α->Option β):Option.bind (some a) f=f a:=rfl
theorem zgA (a b c:Int):zcP a b c=some (inR a b c):=by
 unfold zcP zei inR
 by_cases h:b<=a<;>simp [h]
theorem zjH (a b c:Int):zeh a b c=some (inR a b c):=by
 unfold zeh zeg inR
 by_cases h:b<=a<;>simp [h]
def znO (lo hi:Int):Option Int->List Int->Bool
 | _,[]=>true
 | prev,x::l=>inR x lo hi&&(match prev with | none=>true | some y=>decide (y<x))&&znO lo hi (some x) l
theorem ziV (pre:List Int):pre=[]\/∃q y,pre=q++[y]:=by
 rcases List.eq_nil_or_concat pre with h | ⟨q,y,h⟩
 ·exact .inl h
 ·exact .inr ⟨q,y,by simpa using h⟩
theorem zqF (q:List Int) (y:Int) (l:List Int) (h:(q++[y]++l).length<1048576):idx (q++[y]++l) (w64 (((q++[y]).length:Int)-1))=some y:=by
 simp at h
 rw [zaU (by simp<;>omega) (by simp<;>omega),show (((q++[y]).length:Int)-1)=(q.length:Int) by simp,show q++[y]++l=q++y::l by simp,zlB]
theorem zuT (lo hi:Int):∀(l pre:List Int) (m:Nat),(pre++l).length<1048576->l.length<m ->
  zbZ (pre++l) lo hi m (pre.length:Int)=some (znO lo hi pre.getLast? l):=by
 intro l
 induction l with
 | nil =>
  intro pre m hs hm
  obtain ⟨m,rfl⟩:∃k,m=k+1:=⟨m-1,by omega⟩
  simp [zbZ,zet,zfa,znO]
 | cons x l ih =>
  intro pre m hs hm
  obtain ⟨m,rfl⟩:∃k,m=k+1:=⟨m-1,by omega⟩
  have h:=ih (pre++[x]) m (by simpa using hs) (by simp at hm;omega)
  rw [show (((pre++[x]).length:Nat):Int)=(pre.length:Int)+1 by simp,List.getLast?_concat,show pre++[x]++l=pre++x::l by simp] at h
  simp at hs hm
  simp only [zbZ,zet]
  rw [if_pos (by simp<;>omega),zlB]
  simp only [Option.bind_some,zjH,znO]
  by_cases hr:inR x lo hi=true
  ·rw [if_neg (by simp [hr])]
   rcases ziV pre with rfl | ⟨q,y,rfl⟩
   ·rw [if_neg (by simp)]
    simp only [zcA]
    rw [if_neg (by simp),zaU (by simp) (by simp),h]
    simp [hr]
   ·rw [if_pos (by simp<;>omega),zqF q y (x::l) (by simp at hs ⊢;omega)]
    simp only [Option.bind_some,zcA,List.getLast?_concat]
    by_cases hb:x<=y
    ·rw [if_pos (by simpa using hb)]
     simp [hr,show ¬y<x by omega]
    ·rw [if_neg (by simpa using hb),zaU (by omega) (by omega),h]
     simp [hr,show y<x by omega]
  ·have hr':inR x lo hi=false:=by simpa using hr
   rw [if_pos (by simp [hr'])]
   simp [zcA,hr']
theorem zot {n:Nat} (l:List Int) (lo hi:Int) (hs:l.length<1048576) (hn:l.length<n):zgM n l lo hi=some (znO lo hi none l):=zuT lo hi l [] n (by simpa using hs) hn
theorem zuU (many most:Int):∀(l pre:List Int) (m:Nat),(pre++l).length<1048576->l.length<m ->
  zb0 (pre++l) many most m (pre.length:Int)=some (znO 1 most pre.getLast? l&&decide (((pre++l).length:Int)<=many)):=by
 intro l
 induction l with
 | nil =>
  intro pre m hs hm
  obtain ⟨m,rfl⟩:∃k,m=k+1:=⟨m-1,by omega⟩
  simp [zb0,zev,zfb,znO]
 | cons x l ih =>
  intro pre m hs hm
  obtain ⟨m,rfl⟩:∃k,m=k+1:=⟨m-1,by omega⟩
  have h:=ih (pre++[x]) m (by simpa using hs) (by simp at hm;omega)
  rw [show (((pre++[x]).length:Nat):Int)=(pre.length:Int)+1 by simp,List.getLast?_concat,show pre++[x]++l=pre++x::l by simp] at h
  simp at hs hm
  simp only [zb0,zev]
  rw [if_pos (by simp<;>omega),zlB]
  simp only [Option.bind_some,zgA,znO]
  by_cases hr:inR x 1 most=true
  ·rw [if_neg (by simp [hr])]
   rcases ziV pre with rfl | ⟨q,y,rfl⟩
   ·rw [if_neg (by simp)]
    simp only [zcB]
    rw [if_neg (by simp),zaU (by simp) (by simp),h]
    simp [hr]
   ·rw [if_pos (by simp<;>omega),zqF q y (x::l) (by simp at hs ⊢;omega)]
    simp only [Option.bind_some,zcB,List.getLast?_concat]
    by_cases hb:x<=y
    ·rw [if_pos (by simpa using hb)]
     simp [hr,show ¬y<x by omega]
    ·rw [if_neg (by simpa using hb),zaU (by omega) (by omega),h]
     simp [hr,show y<x by omega]
  ·have hr':inR x 1 most=false:=by simpa using hr
   rw [if_pos (by simp [hr'])]
   simp [zcB,hr']
theorem zou {n:Nat} (l:List Int) (many most:Int) (hs:l.length<1048576) (hn:l.length<n):zgN n l many most=some (znO 1 most none l&&decide ((l.length:Int)<=many)):=zuU many most l [] n (by simpa using hs) hn
def valid (w:Wheel):Bool:=inR w.Round 1 200&&(znO 1 w.Round none w.Notches&&decide ((w.Notches.length:Int)<=12))&&(znO 1 100 none w.Coins&&decide ((w.Coins.length:Int)<=4))
def zj6 (n:Nat) (w:Wheel):Prop:=w.Notches.length<1048576/\w.Coins.length<1048576/\w.Notches.length<n/\w.Coins.length<n
theorem znz {n:Nat} {w:Wheel} (h:zj6 n w):zgr n w=some (cond (valid w) 0 10):=by
 obtain ⟨h1,h2,h3,h4⟩:=h
 unfold zgr zdY valid
 rw [zgA,zaa,zou _ _ _ h1 h3,zou _ _ _ h2 h4,zaa,zaa]
 cases inR w.Round 1 200<;>cases (znO 1 w.Round none w.Notches&&decide ((w.Notches.length:Int)<=12))<;>cases (znO 1 100 none w.Coins&&decide ((w.Coins.length:Int)<=4))<;>rfl
theorem ztB {n:Nat} {w:Wheel} (h:zj6 n w):zhr n w=some (cond (valid w) 0 10):=by
 obtain ⟨h1,h2,h3,h4⟩:=h
 unfold zhr zcO valid
 rw [zjH,zaa,zot _ _ _ h1 h3,zot _ _ _ h2 h4,zaa,zaa]
 by_cases q1:(w.Notches.length:Int)<=12
 ·have e1:decide ((w.Notches.length:Int)>12)=false:=by simpa using q1
  rw [e1]
  by_cases q2:(w.Coins.length:Int)<=4
  ·have e2:decide ((w.Coins.length:Int)>4)=false:=by simpa using q2
   rw [e2]
   simp only [q1,q2,decide_true,Bool.and_true]
   cases inR w.Round 1 200<;>cases znO 1 w.Round none w.Notches<;>cases znO 1 100 none w.Coins<;>rfl
  ·have e2:decide ((w.Coins.length:Int)>4)=true:=by simp;omega
   rw [e2]
   simp only [q2,decide_false,Bool.and_false]
   cases inR w.Round 1 200<;>cases znO 1 w.Round none w.Notches<;>rfl
 ·have e1:decide ((w.Notches.length:Int)>12)=true:=by simp;omega
  rw [e1]
  simp only [q1,decide_false,Bool.and_false,Bool.false_and]
  cases inR w.Round 1 200<;>rfl
theorem znA {lo hi:Int}:∀{l:List Int} {p:Option Int},znO lo hi p l=true->(∀x,x∈l->lo<=x/\x<=hi/\∀y,p=some y->y<x)/\l.Pairwise (·<·)
 | [],_,_=>⟨fun x h=>by simp at h,.nil⟩
 | x::l,p,h=>by
  simp only [znO,Bool.and_eq_true] at h
  obtain ⟨⟨h1,h2⟩,h3⟩:=h
  obtain ⟨ih1,ih2⟩:=znA h3
  have h1':=zbK.1 h1
  have hp:∀y,p=some y->y<x:=fun y e=>by subst e;simpa using h2
  refine ⟨fun z hz=>?_,List.pairwise_cons.2 ⟨fun z hz=>(ih1 z hz).2.2 x rfl,ih2⟩⟩
  rcases List.mem_cons.1 hz with rfl | hz
  ·exact ⟨h1'.1,h1'.2,hp⟩
  ·have:=ih1 z hz
   exact ⟨this.1,this.2.1,fun y e=>Int.lt_trans (hp y e) (this.2.2 x rfl)⟩
structure OkW (w:Wheel):Prop where
 r1:1<=w.Round
 r2:w.Round<=200
 nlen:w.Notches.length<=12
 clen:w.Coins.length<=4
 nm:∀x,x∈w.Notches->1<=x/\x<=w.Round
 nd:w.Notches.Pairwise (·<·)
 cm:∀x,x∈w.Coins->1<=x/\x<=100
 cd:w.Coins.Pairwise (·<·)
theorem zfj {w:Wheel} (h:valid w=true):OkW w:=by
 simp only [valid,Bool.and_eq_true,decide_eq_true_eq] at h
 obtain ⟨⟨h1,h2,h3⟩,h4,h5⟩:=h
 have h1:=zbK.1 h1
 obtain ⟨a1,a2⟩:=znA h2
 obtain ⟨b1,b2⟩:=znA h4
 exact ⟨h1.1,h1.2,by omega,by omega,fun x hx=>⟨(a1 x hx).1,(a1 x hx).2.1⟩,a2,fun x hx=>⟨(b1 x hx).1,(b1 x hx).2.1⟩,b2⟩
theorem OkW.len {w:Wheel} (h:OkW w) {n:Nat} (hn:100<=n):zj6 n w:=⟨by have:=h.nlen;omega,by have:=h.clen;omega,by have:=h.nlen;omega,by have:=h.clen;omega⟩
def nx (R p:Int):Int:=if p+1=R then 0 else p+1
def hit (w:Wheel) (p:Int):Int:=if p+1∈w.Notches then 1 else 0
def put (w:Wheel):Nat->Int->Int->Int×Int
 | 0,p,c=>(p,c)
 | k+1,p,c=>put w k (nx w.Round p) (c+hit w p)
theorem zuV {R p:Int} (h0:0<=p) (h1:p<R):0<=nx R p/\nx R p<R:=by
 unfold nx
 split<;>omega
theorem ztC (w:Wheel) (p:Int):0<=hit w p/\hit w p<=1:=by
 unfold hit
 split<;>omega
theorem zov {w:Wheel} (h:OkW w):∀(k:Nat) (p c:Int),0<=p->p<w.Round->(0<=(put w k p c).1/\(put w k p c).1<w.Round)/\c<=(put w k p c).2/\(put w k p c).2<=c+k
 | 0,p,c,h0,h1=>⟨⟨h0,h1⟩,by simp [put],by simp [put]⟩
 | k+1,p,c,h0,h1=>by
  have hy:=zuV h0 h1
  have hx:=ztC w p
  have:=zov h k (nx w.Round p) (c+hit w p) hy.1 hy.2
  simp only [put]
  omega
theorem zpA (w:Wheel):∀(k:Nat) (p c:Int),put w k p c=((put w k p 0).1,c+(put w k p 0).2)
 | 0,p,c=>by simp [put]
 | k+1,p,c=>by
  simp only [put]
  rw [zpA w k (nx w.Round p) (c+hit w p),zpA w k (nx w.Round p) (0+hit w p)]
  simp only [Prod.mk.injEq,true_and]
  omega
theorem zpB (w:Wheel):∀(j k:Nat) (p c:Int),put w (j+k) p c=put w k (put w j p c).1 (put w j p c).2
 | 0,k,p,c=>by simp [put]
 | j+1,k,p,c=>by
  rw [show j+1+k=(j+k)+1 by omega]
  simp only [put]
  exact zpB w j k _ _
theorem ztD {A R:Int} (hR:0<R):(A+1) / R=A / R+(if A % R=R-1 then 1 else 0):=by
 have h1:=Int.mul_ediv_add_emod A R
 have h2:=Int.emod_nonneg A (show R≠0 by omega)
 have h3:=Int.emod_lt_of_pos A hR
 split
 ·rename_i h
  have:A+1=R*(A / R+1):=by rw [Int.mul_add];omega
  rw [this,Int.mul_ediv_cancel_left _ (by omega)]
 ·rename_i h
  have:A+1=(A % R+1)+R*(A / R):=by omega
  rw [this,Int.add_mul_ediv_left _ _ (by omega),Int.ediv_eq_zero_of_lt (by omega) (by omega)]
  omega
theorem ztE {A R:Int} (hR:0<R):(A+1) % R=nx R (A % R):=by
 have h1:=Int.mul_ediv_add_emod A R
 have h2:=Int.emod_nonneg A (show R≠0 by omega)
 have h3:=Int.emod_lt_of_pos A hR
 unfold nx
 split
 ·rename_i h
  have:A+1=R*(A / R+1):=by rw [Int.mul_add];omega
  rw [this,Int.mul_emod_right]
 ·rename_i h
  have:A+1=(A % R+1)+R*(A / R):=by omega
  rw [this,Int.add_mul_emod_self_left,Int.emod_eq_of_lt (by omega) (by omega)]
theorem zrY {B R m:Int} (hR:0<R) (h1:1<=m) (h2:m<=R):(B-m+R) % R=R-1↔m=B % R+1:=by
 have e1:=Int.mul_ediv_add_emod B R
 have e2:=Int.emod_nonneg B (show R≠0 by omega)
 have e3:=Int.emod_lt_of_pos B hR
 by_cases h:m<=B % R
 ·have:B-m+R=(B % R-m)+R*(B / R+1):=by rw [Int.mul_add];omega
  rw [this,Int.add_mul_emod_self_left,Int.emod_eq_of_lt (by omega) (by omega)]
  omega
 ·have:B-m+R=(B % R-m+R)+R*(B / R):=by omega
  rw [this,Int.add_mul_emod_self_left,Int.emod_eq_of_lt (by omega) (by omega)]
  omega
def reached (R e p:Int):List Int->Int
 | []=>0
 | m::l=>(e-m+R) / R-(p-m+R) / R+reached R e p l
def turn (w:Wheel) (p c:Int):Int×Int:=((p+c) % w.Round,reached w.Round (p+c) p w.Notches)
theorem zkx {R B p:Int} (hR:0<R):∀(l:List Int),(∀x,x∈l->1<=x/\x<=R)->l.Pairwise (·<·)->reached R (B+1) p l=reached R B p l+(if B % R+1∈l then 1 else 0)
 | [],_,_=>by simp [reached]
 | m::l,h,hd=>by
  have hm:=h m (by simp)
  obtain ⟨d1,d2⟩:=List.pairwise_cons.1 hd
  have ih:=zkx (B:=B) (p:=p) hR l (fun x hx=>h x (by simp [hx])) d2
  simp only [reached]
  rw [ih,show B+1-m+R=(B-m+R)+1 by omega,ztD hR]
  have hn:=zrY (B:=B) hR hm.1 hm.2
  by_cases q:m=B % R+1
  ·rw [if_pos (hn.2 q),if_pos (show B % R+1∈m::l by simp [q]),if_neg (fun hx=>by have:=d1 _ hx;omega)]
   omega
  ·rw [if_neg (fun hx=>q (hn.1 hx))]
   by_cases q2:B % R+1∈l
   ·rw [if_pos q2,if_pos (by simp [q2])]
    omega
   ·rw [if_neg q2,if_neg (by simp [q2];omega)]
    omega
theorem zky {R p:Int}:∀(l:List Int),reached R p p l=0
 | []=>rfl
 | m::l=>by simp only [reached];rw [zky l];omega
theorem zij {w:Wheel} (h:OkW w) {p:Int} (h0:0<=p) (h1:p<w.Round):∀k:Nat,put w k p 0=turn w p k
 | 0=>by
  unfold turn
  rw [show p+((0:Nat):Int)=p by simp,zky,Int.emod_eq_of_lt h0 h1]
  rfl
 | k+1=>by
  have hr:=h.r1
  have ih:=zij h h0 h1 k
  rw [zpB w k 1 p 0,ih]
  unfold turn
  simp only [put]
  rw [show p+((k+1:Nat):Int)=(p+k)+1 by simp;omega,ztE (by omega),zkx (by omega) w.Notches h.nm h.nd]
  rfl
theorem zbv {w:Wheel} (h:OkW w) {p c:Int} (h0:0<=p) (h1:p<w.Round) (hc:0<=c):(0<=(turn w p c).1/\(turn w p c).1<w.Round)/\0<=(turn w p c).2/\(turn w p c).2<=c:=by
 have:=zov h c.toNat p 0 h0 h1
 rw [zij h h0 h1,show ((c.toNat:Nat):Int)=c by omega] at this
 omega
theorem zkz {R e p:Int} (hR:0<R) (h:p<=e):∀l:List Int,0<=reached R e p l
 | []=>by simp [reached]
 | m::l=>by
  have:=zkz hR h l
  have h2:=Int.ediv_le_ediv hR (show p-m+R<=e-m+R by omega)
  simp only [reached]
  omega
theorem ztF {n:Nat} {w:Wheel} (h:OkW w) (hn:100<=n) {p c:Int} (hp:0<=p) (hp':p<w.Round) (hc:0<=c) (hc2:c<1048576):zdQ n ⟨w⟩ p c=some (turn w p c):=by
 have hr:=h.r1
 have hr2:=h.r2
 have hl:=h.nlen
 have hfin:=zbv h hp hp' hc
 unfold turn at hfin
 simp only at hfin
 have e0:w64 (p+c)=p+c:=zaU (by omega) (by omega)
 have key:=zrX (F:=fun m i s=>zbp ⟨w⟩ p c m s i) (xs:=w.Notches) (spec:=fun l s=>some ((p+c) % w.Round,s+reached w.Round (p+c) p l)) (I:=fun l s=>0<=s/\s+reached w.Round (p+c) p l<=c/\∀x,x∈l->1<=x/\x<=w.Round) (by omega)
  (fun m s hI=>by simp [zbp,zc8,zdC,reached,e0,zzp (show 0<=p+c by omega) (show 0<w.Round by omega)])
  (fun m i x l s hI hx hi _ _ hrec=>by
   obtain ⟨i1,i2,i3⟩:=hI
   have hxm:=i3 x (by simp)
   simp only [reached] at i2
   have hrl:=zkz (R:=w.Round) (e:=p+c) (p:=p) (by omega) (by omega) l
   have hd1:=Int.ediv_nonneg (show 0<=p+c-x+w.Round by omega) (show 0<=w.Round by omega)
   have hd2:=Int.ediv_nonneg (show 0<=p-x+w.Round by omega) (show 0<=w.Round by omega)
   have hd3:=Int.ediv_le_self w.Round (show 0<=p+c-x+w.Round by omega)
   have hd5:=Int.ediv_le_ediv (show 0<w.Round by omega) (show p-x+w.Round<=p+c-x+w.Round by omega)
   simp only [zbp,zc8]
   rw [if_pos (by simpa using hi),hx,zaa,e0,zaU (x:=p+c-x) (by omega) (by omega),zaU (x:=p+c-x+w.Round) (by omega) (by omega),zaU (x:=p-x) (by omega) (by omega),zaU (x:=p-x+w.Round) (by omega) (by omega),
    zvp (by omega) (by omega) (by omega),zvp (by omega) (by omega) (by omega),zaa,zaa,zaU (x:=_-_) (by omega) (by omega),zaU (x:=s+_) (by omega) (by omega),
    hrec _ ⟨by omega,by omega,fun y hy=>i3 y (by simp [hy])⟩]
   simp only [reached]
   congr 2
   omega)
  w.Notches 0 n 0 (by omega) rfl (by omega) ⟨by omega,by omega,h.nm⟩
 have key:zbp ⟨w⟩ p c n 0 0=_:=key
 unfold zdQ
 rw [key]
 unfold turn
 rw [Int.zero_add]
structure OkS (w:Wheel) (s:Stand) (b:Int):Prop where
 p0:0<=s.Place
 p1:s.Place<w.Round
 c0:0<=s.Credit
 c1:s.Credit<=b
def zfk (w:Wheel) (a:Int):Bool:=inR a (-1) (w.Coins.length-1)
def zqG (w:Wheel) (a:Int):Bool:=inR a 0 (w.Coins.length-1)
def coin (w:Wheel) (a:Int):Int:=w.Coins.getD a.toNat 0
def zhi (w:Wheel) (s:Stand) (a:Int):Stand×Bool :=
 if 0<=a then (⟨(turn w s.Place (coin w a)).1,s.Credit+(turn w s.Place (coin w a)).2⟩,false) else if s.Credit=0 then (s,false) else (⟨0,s.Credit-1⟩,true)
theorem zjI {w:Wheel} {a:Int} (h0:0<=a) (h1:a<=w.Coins.length-1):idx w.Coins a=some (coin w a):=by
 obtain ⟨k,rfl⟩:∃k:Nat,a=k:=⟨a.toNat,by omega⟩
 have hk:k<w.Coins.length:=by omega
 rw [zdL hk]
 simp [coin,hk]
theorem zc5 {w:Wheel} (h:OkW w) {a:Int} (h0:0<=a) (h1:a<=w.Coins.length-1):1<=coin w a/\coin w a<=100:=by
 obtain ⟨k,rfl⟩:∃k:Nat,a=k:=⟨a.toNat,by omega⟩
 have hk:k<w.Coins.length:=by omega
 have:coin w k=w.Coins[k]:=by simp [coin,hk]
 rw [this]
 exact h.cm _ (List.getElem_mem hk)
theorem zpC {w:Wheel} (h:OkW w) {s:Stand} {b a:Int} (hs:OkS w s b) (ha:zfk w a=true):OkS w (zhi w s a).1 (b+100):=by
 have ha:=zbK.1 ha
 have hr:=h.r1
 unfold zhi
 split
 ·rename_i h0
  have hc:=zc5 h h0 ha.2
  have ht:=zbv h hs.p0 hs.p1 (show 0<=coin w a by omega)
  have:=hs.c0
  have:=hs.c1
  exact ⟨ht.1.1,ht.1.2,by show 0<=s.Credit+_;omega,by show s.Credit+_<=_;omega⟩
 ·have:=hs.c0
  have:=hs.c1
  split
  ·exact ⟨hs.p0,hs.p1,hs.c0,by show s.Credit<=b+100;omega⟩
  ·exact ⟨by show (0:Int)<=0;omega,by show (0:Int)<_;omega,by show 0<=s.Credit-1;omega,by show s.Credit-1<=_;omega⟩
theorem ztG {n:Nat} {w:Wheel} (h:OkW w) (hn:200<=n) {s:Stand} {b a:Int} (hs:OkS w s b) (hb:b<1099511627776) (ha:zfk w a=true):zcX n ⟨w⟩ s a=some (zhi w s a).1:=by
 have ha:=zbK.1 ha
 have:=hs.c0
 have:=hs.c1
 unfold zcX zhi
 by_cases h0:0<=a
 ·have hc:=zc5 h h0 ha.2
  have ht:=zbv h hs.p0 hs.p1 (show 0<=coin w a by omega)
  rw [if_pos (by simp;omega),if_pos h0,zjI h0 ha.2,zaa,ztF h (by omega) hs.p0 hs.p1 (by omega) (by omega),zaa,zaU (by omega) (by omega)]
 ·rw [if_neg (by simp;omega),if_neg h0]
  by_cases hc:s.Credit=0
  ·rw [if_neg (by simp;omega),if_pos hc]
  ·rw [if_pos (by simp;omega),if_neg hc,zaU (by omega) (by omega)]
theorem zBS {n:Nat} (f:Int->Option Bool) (g:Int->Bool) (xs:List Int) (hf:∀x,x∈xs->f x=some (g x)) (hl:xs.length<1048576) (hn:xs.length<n) :
  zga n (fun x (_:Unit)=>(f x).map fun y=>(y,())) xs ()=some (decide ((xs.length:Int)<=20)&&xs.all g,()):=by
 have key:∀(l:List Int) (i m:Nat) (s:Unit),i<=xs.length->xs.drop i=l->l.length<m->(zav xs (zcI (fun x (_:Unit)=>(f x).map fun y=>(y,()))) m (i:Int) s).map (fun r=>decide (r.1≥0))=some (!l.all g):=by
  intro l i m s h1 h2 h3
  refine zwa (fun m i s=>(zav xs (zcI (fun x (_:Unit)=>(f x).map fun y=>(y,()))) m i s).map (fun r=>decide (r.1≥0))) xs (fun l _=>some (!l.all g)) hl (fun m s=>?_) (fun m i x l s hx hi _ _ hrec=>?_) l i m s h1 h2 h3
  ·simp [zav,zbf,zb1]
  ·have hmem:x∈xs:=by
    unfold idx at hx
    rw [if_pos (by omega)] at hx
    exact List.mem_of_getElem? hx
   simp only [zav,zbf]
   rw [if_pos (by simpa using hi),hx,zaa]
   simp only [zcI,hf x hmem,Option.map_some,zaa]
   by_cases hg:g x=true
   ·rw [if_neg (by simp [hg])]
    have:=hrec ()
    rw [this]
    simp [hg]
   ·rw [if_pos (by simpa using hg)]
    simp [hg]
 have h:=key xs 0 n () (by omega) rfl hn
 unfold zga zdR
 by_cases hq:(xs.length:Int)<=20
 ·rw [if_pos (by simpa using hq)]
  unfold zbt zdg
  change Option.map _ (zav xs _ n 0 ())=_ at h
  cases hx:zav xs (zcI (fun x (_:Unit)=>(f x).map fun y=>(y,()))) n 0 () with
  | none=>rw [hx] at h;cases h
  | some r =>
   rw [hx] at h
   simp only [Option.map_some,Option.some.injEq] at h
   simp only [zaa]
   rw [h]
   simp [hq]
 ·rw [if_neg (by simpa using hq)]
  simp [hq]
theorem ztH {w:Wheel} (hw:w.Coins.length<1048576) (x:Int):zd7 ⟨w⟩ x=some (zqG w x):=by
 unfold zd7 zqG
 simp only []
 rw [zaU (by omega) (by omega),zgA,zaa]
theorem zuW {w:Wheel} (hw:w.Coins.length<1048576) (x:Int):zcQ ⟨w⟩ x=some (zfk w x):=by
 unfold zcQ zcK
 rw [ztH hw,zaa]
 have e:zfk w x=(decide (x=-1) || zqG w x):=by
  rw [Bool.eq_iff_iff]
  simp only [zfk,zqG,zbK,Bool.or_eq_true,decide_eq_true_eq]
  omega
 rw [e]
 by_cases h:x=-1
 ·rw [if_pos (by simpa using h)]
  simp [h]
 ·rw [if_neg (by simpa using h)]
  simp [h]
def ziW (w:Wheel) (p:Int):Bool:=inR p 0 (w.Round-1)
theorem zrZ {w:Wheel} (h:OkW w) (p:Int):zdD ⟨w⟩ p=some (ziW w p):=by
 have:=h.r1
 have:=h.r2
 unfold zdD ziW
 simp only []
 rw [zaU (by omega) (by omega),zgA,zaa]
def zg0 (w:Wheel) (s:Stand):Bool:=ziW w s.Place&&inR s.Credit 0 20
theorem zr0 {w:Wheel} {s:Stand} (h:zg0 w s=true):OkS w s 20:=by
 simp only [zg0,ziW,Bool.and_eq_true,zbK] at h
 exact ⟨h.1.1,by omega,h.2.1,h.2.2⟩
def zw:Wheel_:=⟨⟨0,[],[]⟩⟩
theorem ztI {n:Nat} {w:Wheel} (hl:zj6 n w) (aF:Wheel_->Unit->Option (Bool×Unit)) (b:Bool) (ha:valid w=true->aF ⟨w⟩ ()=some (b,())) :
  ze1 n aF w ()=some (cond (valid w) (cond b (((⟨w⟩:Wheel_),0),()) ((zw,1),())) ((zw,10),())):=by
 unfold ze1
 rw [znz hl,zaa]
 cases hv:valid w with
 | false=>rfl
 | true =>
  rw [ha hv]
  cases b<;>rfl
def zr1 (w:Wheel):List Int->Int->Stand->Stand×Int
 | [],k,s=>(s,k)
 | a::l,k,s=>zr1 w l (k+if (zhi w s a).2 then 1 else 0) (zhi w s a).1
def zAX (w:Wheel) (s:Stand) (acts:List Int):Stand×Int×Int :=
 if valid w=true then (if zg0 w s=true/\(acts.length:Int)<=20/\acts.all (zfk w)=true then ((zr1 w acts 0 s).1,(zr1 w acts 0 s).2,0) else (⟨0,0⟩,0,1)) else (⟨0,0⟩,0,10)
theorem zuX {w:Wheel} {s:Stand} {a:Int} (h:zfk w a=true) (hc:0<=s.Credit):(zhi w s a).2=true↔a=-1/\s.Credit>0:=by
 have h:=zbK.1 h
 unfold zhi
 split
 ·simp;omega
 ·split<;>simp<;>omega
theorem zBF {n:Nat} {w:Wheel} (h:OkW w) (hn:200<=n) (acts:List Int) (hl:(acts.length:Int)<=20) (ha:acts.all (zfk w)=true) {s:Stand} (hs:OkS w s 20) :
  zbO n acts ((⟨w⟩,0),()) n 0 0 s.Place s.Credit=some ((zr1 w acts 0 s).1,(zr1 w acts 0 s).2,0):=by
 have key:=zrX (F:=fun m i (q:Int×Stand)=>zbO n acts ((⟨w⟩,0),()) m q.1 i q.2.Place q.2.Credit) (xs:=acts) (spec:=fun l q=>some ((zr1 w l q.1 q.2).1,(zr1 w l q.1 q.2).2,0))
  (I:=fun l q=>(0<=q.1/\q.1+l.length<=100)/\OkS w q.2 (2100-100*l.length)/\l.length<=20/\l.all (zfk w)=true) (by omega)
  (fun m q hI=>by simp [zbO,zfD,zgO,zr1])
  (fun m i x l q hI hx hi _ _ hrec=>by
   obtain ⟨i1,i2,i3,i4⟩:=hI
   simp only [List.length_cons,List.all_cons,Bool.and_eq_true] at i1 i2 i3 i4
   have hb:(2100-100*((l.length+1:Nat):Int))+100=2100-100*(l.length:Int):=by simp;omega
   have hok:=zpC h i2 i4.1
   rw [hb] at hok
   have hmi:=zuX i4.1 i2.c0
   have goal:∀c:Bool,(c=(zhi w q.2 x).2)->ze2 n (zbO n acts ((⟨w⟩,0),()) m) ((⟨w⟩,0),()) q.1 (i:Int) q.2.Place q.2.Credit x c=some ((zr1 w (x::l) q.1 q.2).1,(zr1 w (x::l) q.1 q.2).2,0):=by
    rintro c rfl
    have e:(⟨q.2.Place,q.2.Credit⟩:Stand)=q.2:=rfl
    simp only [ze2,zfN,zr1,e,ztG h hn i2 (by omega) i4.1,zaa]
    by_cases hm:(zhi w q.2 x).2=true
    ·rw [if_pos hm,zaU (x:=q.1+1) (by omega) (by omega)]
     have:=hrec (q.1+1,(zhi w q.2 x).1) ⟨⟨by simp;omega,by simp;omega⟩,hok,by omega,i4.2⟩
     simp only at this
     rw [this]
     simp [hm]
    ·rw [if_neg hm]
     have:=hrec (q.1,(zhi w q.2 x).1) ⟨⟨by simp;omega,by simp;omega⟩,hok,by omega,i4.2⟩
     simp only at this
     rw [this]
     simp [hm]
   simp only [zbO,zfD]
   rw [if_pos (by simpa using hi),hx,zaa]
   by_cases hx1:x=-1
   ·rw [if_pos (by simpa using hx1)]
    refine goal _ ?_
    rw [Bool.eq_iff_iff,hmi]
    simp [hx1]
   ·rw [if_neg (by simpa using hx1)]
    refine goal _ ?_
    rw [Bool.eq_iff_iff,hmi]
    simp [hx1])
  acts 0 n (0,s) (by omega) rfl (by omega) ⟨⟨by simp,by simp;omega⟩,⟨hs.p0,hs.p1,hs.c0,by have:=hs.c1;simp;omega⟩,by omega,ha⟩
 exact key
theorem zvs {n:Nat} {w:Wheel} (hl:zj6 n w) (hn:200<=n) (s:Stand) (acts:List Int) (h1:acts.length<1048576) (h2:acts.length<n):zfe n w s acts=some (zAX w s acts):=by
 unfold zfe zAX
 rw [ztI hl _ (zg0 w s&&(decide ((acts.length:Int)<=20)&&acts.all (zfk w))) (fun hv=>?_),zaa]
 ·cases hv:valid w with
  | false=>rfl
  | true =>
   have h:=zfj hv
   by_cases hq:zg0 w s=true/\(acts.length:Int)<=20/\acts.all (zfk w)=true
   ·rw [if_pos rfl,if_pos hq,hq.1,hq.2.2,show decide ((acts.length:Int)<=20)=true by simpa using hq.2.1]
    exact zBF h hn acts hq.2.1 hq.2.2 (zr0 hq.1)
   ·rw [if_pos rfl,if_neg hq,show (zg0 w s&&(decide ((acts.length:Int)<=20)&&acts.all (zfk w)))=false by
     cases hz:(zg0 w s&&(decide ((acts.length:Int)<=20)&&acts.all (zfk w))) with
     | false=>rfl
     | true=>simp only [Bool.and_eq_true,decide_eq_true_eq] at hz;exact (hq hz).elim]
    rfl
 ·have h:=zfj hv
  show (zfM n ⟨w⟩ s acts).map (fun y=>(y,()))=_
  unfold zfM zdn
  rw [zrZ h,zaa,zgA,zBS (fun x=>zcQ ⟨w⟩ x) (zfk w) acts (fun x _=>zuW hl.2.1 x) h1 h2]
  unfold zg0
  cases ziW w s.Place<;>cases inR s.Credit 0 20<;>rfl
theorem zwb {n:Nat} {w:Wheel} (h:zj6 n w):zic w=some w:=by
 unfold zic
 rw [zjw (by simp;exact Nat.le_of_lt h.1),zjw (by simp;exact Nat.le_of_lt h.2.1)]
 rfl
theorem zlN {α:Type} {l:List α} (h:l.length<1048576):app ([]:List α) l=some l:=by rw [zjw (by simp;omega)];rfl
section
variable {κ:Type} [DecidableEq κ]
theorem zik:∀{M:List (κ×Int)} {k:κ},zbm M k=true↔k∈M.map (·.1)
 | [],k=>by simp [zbm]
 | p::M,k=>by
  simp only [zbm,List.map_cons,List.mem_cons]
  by_cases h:p.1=k
  ·simp [h]
  ·rw [if_neg h,zik]
   exact ⟨.inr,fun e=>e.resolve_left (Ne.symm h)⟩
theorem zqH:∀{M:List (κ×Int)} {k:κ},zbm M k=true->(k,zge M k)∈M
 | [],k,h=>by simp [zbm] at h
 | p::M,k,h=>by
  by_cases e:p.1=k
  ·simp only [zge,if_pos e]
   rw [←e]
   exact List.mem_cons_self
  ·simp only [zbm,if_neg e] at h
   simp only [zge,if_neg e]
   exact List.mem_cons_of_mem _ (zqH h)
theorem zlO:∀{M:List (κ×Int)} {k:κ},zbm M k=false->zge M k=0
 | [],k,h=>rfl
 | p::M,k,h=>by
  by_cases e:p.1=k
  ·simp [zbm,e] at h
  ·simp only [zbm,if_neg e] at h
   simp only [zge,if_neg e]
   exact zlO h
theorem zqI:∀{M:List (κ×Int)} {k:κ} {v:Int} {p:κ×Int},p∈zcW M k v->p=(k,v)\/p∈M
 | [],k,v,p,h=>by simp [zcW] at h;exact .inl h
 | q::M,k,v,p,h=>by
  simp only [zcW] at h
  split at h
  ·rcases List.mem_cons.1 h with h | h
   ·exact .inl h
   ·exact .inr (List.mem_cons_of_mem _ h)
  ·rcases List.mem_cons.1 h with h | h
   ·exact .inr (h▸List.mem_cons_self)
   ·rcases zqI h with h | h
    ·exact .inl h
    ·exact .inr (List.mem_cons_of_mem _ h)
theorem zfS:∀{M:List (κ×Int)} {k:κ} {v:Int},(zcW M k v).map (·.1)=if zbm M k=true then M.map (·.1) else M.map (·.1)++[k]
 | [],k,v=>by simp [zcW,zbm]
 | q::M,k,v=>by
  by_cases e:q.1=k
  ·simp [zcW,zbm,e]
  ·simp only [zcW,zbm,if_neg e,List.map_cons]
   rw [zfS]
   cases zbm M k<;>simp
theorem zil {M:List (κ×Int)} {k:κ} {v:Int} (h:(M.map (·.1)).Nodup):((zcW M k v).map (·.1)).Nodup:=by
 rw [zfS]
 cases e:zbm M k with
 | true=>simpa using h
 | false =>
  have:¬k∈M.map (·.1):=fun hk=>by rw [zik.2 hk] at e;cases e
  simp only [Bool.false_eq_true,if_false]
  rw [List.nodup_append]
  refine ⟨h,by simp,fun a ha b hb=>?_⟩
  simp only [List.mem_singleton] at hb
  subst hb
  exact fun e=>this (e▸ha)
theorem znB:∀{M:List (κ×Int)} {k k':κ} {v:Int},zge (zcW M k v) k'=if k=k' then v else zge M k'
 | [],k,k',v=>by simp [zcW,zge]
 | q::M,k,k',v=>by
  by_cases e:q.1=k
  ·simp only [zcW,if_pos e,zge,e]
   by_cases e2:k=k'
   ·simp [zge,e2]
   ·simp [zge,e2]
  ·simp only [zcW,if_neg e,zge]
   by_cases e2:q.1=k'
   ·rw [if_pos e2,if_neg (fun e3=>e (e2.trans e3.symm)),if_pos e2]
   ·rw [if_neg e2,if_neg e2,znB]
theorem zqJ {M:List (κ×Int)} {k k':κ} {v:Int}:zbm (zcW M k v) k'=true↔k'=k\/zbm M k'=true:=by
 rw [zik,zik,zfS]
 cases e:zbm M k with
 | true =>
  simp only [if_true]
  exact ⟨.inr,fun h=>h.elim (fun q=>q▸zik.1 e) id⟩
 | false=>simp [or_comm]
end
def zhe (b:Bool) (s:Bool×Int) (n:Int):Bool×Int:=if s.1=true\/cond b (decide (n>s.2)) (decide (n<s.2))=true then (false,n) else s
def pick (b:Bool) (vs:List Int):Int:=(vs.foldl (zhe b) (true,0)).2
def leB (b:Bool) (x y:Int):Prop:=cond b (x<=y) (y<=x)
theorem leB.refl (b:Bool) (x:Int):leB b x x:=by cases b<;>exact Int.le_refl x
theorem leB.trans {b:Bool} {x y z:Int} (h:leB b x y) (h':leB b y z):leB b x z:=by
 cases b
 ·exact Int.le_trans h' h
 ·exact Int.le_trans h h'
theorem leB.anti {b:Bool} {x y:Int} (h:leB b x y) (h':leB b y x):x=y:=by
 cases b
 ·exact Int.le_antisymm h' h
 ·exact Int.le_antisymm h h'
theorem leB.add {b:Bool} {x y:Int} (h:leB b x y) (a:Int):leB b (a+x) (a+y):=by
 cases b
 ·exact Int.add_le_add_left h a
 ·exact Int.add_le_add_left h a
theorem zj7 (b:Bool):∀(vs:List Int) (m:Int),(vs.foldl (zhe b) (false,m)).1=false/\((vs.foldl (zhe b) (false,m)).2=m\/(vs.foldl (zhe b) (false,m)).2∈vs)/\leB b m (vs.foldl (zhe b) (false,m)).2/\∀v,v∈vs->leB b v (vs.foldl (zhe b) (false,m)).2
 | [],m=>⟨rfl,.inl rfl,leB.refl b m,fun v h=>by simp at h⟩
 | x::vs,m=>by
  simp only [List.foldl_cons]
  by_cases h:cond b (decide (x>m)) (decide (x<m))=true
  ·have e:zhe b (false,m) x=(false,x):=by
    unfold zhe
    rw [if_pos (.inr h)]
   rw [e]
   obtain ⟨h1,h2,h3,h4⟩:=zj7 b vs x
   have hm:leB b m x:=by
    cases b
    ·exact Int.le_of_lt (by simpa using h)
    ·exact Int.le_of_lt (by simpa using h)
   refine ⟨h1,?_,hm.trans h3,fun v hv=>?_⟩
   ·rcases h2 with h2 | h2
    ·exact .inr (by rw [h2];exact List.mem_cons_self)
    ·exact .inr (List.mem_cons_of_mem _ h2)
   ·rcases List.mem_cons.1 hv with rfl | hv
    ·exact h3
    ·exact h4 v hv
  ·have e:zhe b (false,m) x=(false,m):=by
    unfold zhe
    rw [if_neg (by simpa using h)]
   rw [e]
   obtain ⟨h1,h2,h3,h4⟩:=zj7 b vs m
   have hm:leB b x m:=by
    cases b
    ·simpa [leB] using h
    ·simpa [leB] using h
   refine ⟨h1,h2.imp_right (List.mem_cons_of_mem _),h3,fun v hv=>?_⟩
   rcases List.mem_cons.1 hv with rfl | hv
   ·exact hm.trans h3
   ·exact h4 v hv
theorem zpD (b:Bool) (m x:Int):zhe b (true,m) x=(false,x):=by
 unfold zhe
 rw [if_pos (.inl rfl)]
theorem zhf (b:Bool) {vs:List Int} (h:vs≠[]):pick b vs∈vs/\∀v,v∈vs->leB b v (pick b vs):=by
 cases vs with
 | nil=>exact (h rfl).elim
 | cons x vs =>
  unfold pick
  rw [List.foldl_cons,zpD]
  obtain ⟨h1,h2,h3,h4⟩:=zj7 b vs x
  refine ⟨?_,fun v hv=>?_⟩
  ·rcases h2 with h2 | h2
   ·rw [h2];exact List.mem_cons_self
   ·exact List.mem_cons_of_mem _ h2
  ·rcases List.mem_cons.1 hv with rfl | hv
   ·exact h3
   ·exact h4 v hv
theorem zwc (b:Bool) {vs:List Int} {r:Int} (h:r∈vs) (hr:∀v,v∈vs->leB b v r):pick b vs=r:=by
 obtain ⟨h1,h2⟩:=zhf b (vs:=vs) (fun e=>by rw [e] at h;simp at h)
 exact (hr _ h1).anti (h2 _ h)
theorem zqK (b:Bool):pick b []=0:=rfl
def total:List Int->Int
 | []=>0
 | x::l=>x+total l
def zcN (l:List Int) (k:Nat):List Int:=l.set k (l.getD k 0-1)
theorem zlP:∀{l:List Int} {k:Nat} {v:Int},k<l.length->total (l.set k v)=total l-l.getD k 0+v
 | [],k,v,h=>by simp at h
 | x::l,0,v,h=>by simp [total];omega
 | x::l,k+1,v,h=>by
  have:=zlP (l:=l) (k:=k) (v:=v) (by simpa using h)
  simp only [List.set_cons_succ,total,List.getD_cons_succ]
  omega
theorem zfz {l:List Int} {k:Nat} (h:k<l.length):total (zcN l k)=total l-1:=by
 unfold zcN
 rw [zlP h]
 omega
theorem zdk:∀{l:List Int},(∀x,x∈l->0<=x)->0<=total l
 | [],_=>Int.le_refl _
 | x::l,h=>by
  have:=h x (by simp)
  have:=zdk (l:=l) (fun y hy=>h y (by simp [hy]))
  simp only [total]
  omega
theorem zf4:∀{l:List Int},(∀x,x∈l->0<=x)->∀k,0<=l.getD k 0/\l.getD k 0<=total l
 | [],_,k=>by simp [total]
 | x::l,h,0=>by
  have:=h x (by simp)
  have:=zdk (l:=l) (fun y hy=>h y (by simp [hy]))
  simp only [List.getD_cons_zero,total]
  omega
 | x::l,h,k+1=>by
  have:=h x (by simp)
  have:=zf4 (l:=l) (fun y hy=>h y (by simp [hy])) k
  simp only [List.getD_cons_succ,total]
  omega
theorem zr2:∀{l:List Int},(∀x,x∈l->0<=x)->total l=0->∀k,l.getD k 0=0:=fun h h0 k=>by
 have:=zf4 h k
 omega
structure OkP (w:Wheel) (l:List Int):Prop where
 len:l.length=w.Coins.length
 nn:∀x,x∈l->0<=x
 tot:total l<=1000
theorem OkP.less {w:Wheel} {l:List Int} (h:OkP w l) {k:Nat} (hk:k<w.Coins.length) (h0:l.getD k 0≠0):OkP w (zcN l k):=by
 have hk':k<l.length:=by rw [h.len];exact hk
 have:=zf4 h.nn k
 refine ⟨by simp [zcN,h.len],fun x hx=>?_,by rw [zfz hk'];have:=h.tot;omega⟩
 rcases List.mem_or_eq_of_mem_set hx with hx | rfl
 ·exact h.nn x hx
 ·omega
def ztJ (l:List Int):List Int:=[l.getD 0 0,l.getD 1 0,l.getD 2 0,l.getD 3 0]
def zcg (l:List Int):Bag_:=⟨l.getD 0 0,l.getD 1 0,l.getD 2 0,l.getD 3 0⟩
theorem ziX {l:List Int} {k:Nat} (h:k<4):idx (ztJ l) (k:Int)=some (l.getD k 0):=by
 match k,h with
 | 0,_=>rfl
 | 1,_=>rfl
 | 2,_=>rfl
 | 3,_=>rfl
theorem znC {l:List Int} {k:Nat} {v:Int} (h:k<l.length) (h4:l.length<=4):zrr (ztJ l) (k:Int) v=some (ztJ (l.set k v)):=by
 unfold zrr
 rw [if_pos ⟨by omega,by simp [ztJ];omega⟩,Int.toNat_natCast]
 match l,k,h,h4 with
 | [a],0,_,_=>rfl
 | [a,b],0,_,_=>rfl
 | [a,b],1,_,_=>rfl
 | [a,b,c],0,_,_=>rfl
 | [a,b,c],1,_,_=>rfl
 | [a,b,c],2,_,_=>rfl
 | [a,b,c,d],0,_,_=>rfl
 | [a,b,c,d],1,_,_=>rfl
 | [a,b,c,d],2,_,_=>rfl
 | [a,b,c,d],3,_,_=>rfl
theorem znD {l l':List Int} (h:zcg l=zcg l') (hl:l.length=l'.length) (h4:l.length<=4):l=l':=by
 simp only [zcg,Bag_.mk.injEq] at h
 obtain ⟨h0,h1,h2,h3⟩:=h
 apply List.ext_getElem hl
 intro i hi hi'
 have e1:l[i]=l.getD i 0:=by simp [hi]
 have e2:l'[i]=l'.getD i 0:=by simp [hi']
 rw [e1,e2]
 match i,(show i<4 by omega) with
 | 0,_=>exact h0
 | 1,_=>exact h1
 | 2,_=>exact h2
 | 3,_=>exact h3
structure Opn where
 acts:List Int
 plays:Int
 p:Int
 c:Int
 k:Nat
def ziD (w:Wheel) (p c:Int) (k:Nat):Opn:=⟨[(k:Int)],(turn w p (coin w k)).2,(turn w p (coin w k)).1,c+(turn w p (coin w k)).2,k⟩
def zkJ (w:Wheel) (c:Int) (k:Nat):Opn:=⟨[-1,(k:Int)],(turn w 0 (coin w k)).2,(turn w 0 (coin w k)).1,c-1+(turn w 0 (coin w k)).2,k⟩
def zwd (w:Wheel) (p c:Int) (k:Nat):List Opn:=ziD w p c k::(if c=0\/p=0 then [] else [zkJ w c k])
def zj8 (w:Wheel) (p c:Int) (l:List Int):Nat->Nat->List Opn
 | 0,_=>[]
 | d+1,k=>(if l.getD k 0=0 then [] else zwd w p c k)++zj8 w p c l d (k+1)
theorem zfl {w:Wheel} {p c:Int} {l:List Int} {o:Opn}:∀{d k:Nat},o∈zj8 w p c l d k↔∃j,k<=j/\j<k+d/\l.getD j 0≠0/\o∈zwd w p c j
 | 0,k=>by
  simp only [zj8,List.not_mem_nil,false_iff]
  rintro ⟨j,h1,h2,_⟩
  omega
 | d+1,k=>by
  simp only [zj8,List.mem_append]
  rw [zfl]
  constructor
  ·rintro (h | ⟨j,h1,h2,h3,h4⟩)
   ·split at h
    ·simp at h
    ·rename_i h0
     exact ⟨k,Nat.le_refl k,by omega,h0,h⟩
   ·exact ⟨j,by omega,by omega,h3,h4⟩
  ·rintro ⟨j,h1,h2,h3,h4⟩
   by_cases e:j=k
   ·subst e
    exact .inl (by rw [if_neg h3];exact h4)
   ·exact .inr ⟨j,by omega,by omega,h3,h4⟩
theorem zfI {w:Wheel} {p c:Int} {k:Nat} {o:Opn}:o∈zwd w p c k↔o=ziD w p c k\/(c≠0/\p≠0/\o=zkJ w c k):=by
 unfold zwd
 rw [List.mem_cons]
 by_cases h:c=0\/p=0
 ·rw [if_pos h]
  simp only [List.not_mem_nil,or_false]
  exact ⟨.inl,fun q=>q.elim id fun q=>(h.elim q.1 q.2.1).elim⟩
 ·rw [if_neg h]
  simp only [List.mem_singleton]
  exact or_congr_right ⟨fun q=>⟨fun e=>h (.inl e),fun e=>h (.inr e),q⟩,fun q=>q.2.2⟩
def Q (b:Bool) (w:Wheel):Nat->Int->Int->List Int->Int
 | 0,_,_,_=>0
 | T+1,p,c,l=>pick b ((zj8 w p c l l.length 0).map fun o=>o.plays+Q b w T o.p o.c (zcN l o.k))
structure OkO (w:Wheel) (c:Int) (l:List Int) (o:Opn):Prop where
 k:o.k<w.Coins.length
 nz:l.getD o.k 0≠0
 p0:0<=o.p
 p1:o.p<w.Round
 c0:0<=o.c
 c1:o.c<=c+100
 y0:0<=o.plays
 y1:o.plays<=100
theorem znE {w:Wheel} (h:OkW w) {p c:Int} (hp:0<=p) (hp':p<w.Round) (hc:0<=c) {l:List Int} (hl:OkP w l) {o:Opn} (ho:o∈zj8 w p c l l.length 0):OkO w c l o:=by
 have hr:=h.r1
 obtain ⟨j,_,h2,h3,h4⟩:=zfl.1 ho
 have hj:j<w.Coins.length:=by have:=hl.len;omega
 have hco:=zc5 h (a:=(j:Int)) (by omega) (by omega)
 rcases zfI.1 h4 with rfl | ⟨h5,h6,rfl⟩
 ·have ht:=zbv h hp hp' (show 0<=coin w j by omega)
  exact ⟨hj,h3,ht.1.1,ht.1.2,by show 0<=c+_;omega,by show c+_<=_;omega,ht.2.1,by show (turn w p (coin w j)).2<=100;omega⟩
 ·have ht:=zbv h (p:=0) (by omega) (by omega) (show 0<=coin w j by omega)
  exact ⟨hj,h3,ht.1.1,ht.1.2,by show 0<=c-1+_;omega,by show c-1+_<=_;omega,ht.2.1,by show (turn w 0 (coin w j)).2<=100;omega⟩
theorem zlQ:∀{l:List Int},total l≠0->∃j,j<l.length/\l.getD j 0≠0
 | [],h=>(h rfl).elim
 | x::l,h=>by
  by_cases e:x=0
  ·obtain ⟨j,h1,h2⟩:=zlQ (l:=l) (fun q=>h (by simp [total,q,e]))
   exact ⟨j+1,by simp;omega,by simpa using h2⟩
  ·exact ⟨0,by simp,by simpa using e⟩
theorem ztK {w:Wheel} {p c:Int} {l:List Int} (h:total l≠0):∃j,j<l.length/\l.getD j 0≠0/\ziD w p c j∈zj8 w p c l l.length 0:=by
 obtain ⟨j,h1,h2⟩:=zlQ h
 exact ⟨j,h1,h2,zfl.2 ⟨j,by omega,by omega,h2,zfI.2 (.inl rfl)⟩⟩
theorem ztL (b:Bool) {w:Wheel} (h:OkW w):∀(T:Nat) {p c:Int} {l:List Int},0<=p->p<w.Round->0<=c->OkP w l->0<=Q b w T p c l/\Q b w T p c l<=100*T
 | 0,p,c,l,_,_,_,_=>by simp [Q]
 | T+1,p,c,l,hp,hp',hc,hl=>by
  simp only [Q]
  by_cases e:((zj8 w p c l l.length 0).map fun o=>o.plays+Q b w T o.p o.c (zcN l o.k))=[]
  ·rw [e]
   exact ⟨by simp [zqK],by simp [zqK];omega⟩
  ·obtain ⟨h1,_⟩:=zhf b e
   obtain ⟨o,ho,he⟩:=List.mem_map.1 h1
   have ok:=znE h hp hp' hc hl ho
   have:=ztL b h T ok.p0 ok.p1 ok.c0 (hl.less ok.k ok.nz)
   have:=ok.y0
   have:=ok.y1
   rw [←he]
   omega
theorem ztM (b:Bool) {w:Wheel} (h:OkW w):∀(T:Nat) {p c c':Int} {l:List Int},0<=p->p<w.Round->(T:Int)<=c->(T:Int)<=c'->OkP w l->(∀j,w.Coins.length<=j->l.getD j 0=0)->Q b w T p c l=Q b w T p c' l
 | 0,p,c,c',l,_,_,_,_,_,_=>rfl
 | T+1,p,c,c',l,hp,hp',hc,hc',hl,hz=>by
  simp only [Q]
  congr 1
  have key:∀o o':Opn,o.plays=o'.plays->o.p=o'.p->o.k=o'.k->(0<=o.p/\o.p<w.Round)->(T:Int)<=o.c->(T:Int)<=o'.c->o.k<w.Coins.length->l.getD o.k 0≠0->o.plays+Q b w T o.p o.c (zcN l o.k)=o'.plays+Q b w T o'.p o'.c (zcN l o'.k):=by
   intro o o' e1 e2 e3 hq h1 h2 h3 h4
   have hl':=hl.less h3 h4
   rw [←e1,←e2,←e3,ztM b h T hq.1 hq.2 h1 h2 hl' (fun j hj=>by
    unfold zcN
    rw [List.getD_eq_getElem?_getD,List.getElem?_set_ne (by omega),←List.getD_eq_getElem?_getD]
    exact hz j hj)]
  have main:∀d k,(zj8 w p c l d k).map (fun o=>o.plays+Q b w T o.p o.c (zcN l o.k))=(zj8 w p c' l d k).map (fun o=>o.plays+Q b w T o.p o.c (zcN l o.k)):=by
   intro d
   induction d with
   | zero=>intro k;rfl
   | succ d ih =>
    intro k
    simp only [zj8,List.map_append]
    rw [ih (k+1)]
    congr 1
    split
    ·rfl
    ·rename_i h0
     have hk:k<w.Coins.length:=by
      rcases Nat.lt_or_ge k w.Coins.length with q | q
      ·exact q
      ·exact (h0 (hz k q)).elim
     have hco:=zc5 h (a:=(k:Int)) (by omega) (by omega)
     have hr:=h.r1
     have ht:=zbv h hp hp' (show 0<=coin w k by omega)
     have ht0:=zbv h (p:=0) (by omega) (by omega) (show 0<=coin w k by omega)
     have k1:=key (ziD w p c k) (ziD w p c' k) rfl rfl rfl ht.1 (by show (T:Int)<=c+_;omega) (by show (T:Int)<=c'+_;omega) hk h0
     have k2:=key (zkJ w c k) (zkJ w c' k) rfl rfl rfl ht0.1 (by show (T:Int)<=c-1+_;omega) (by show (T:Int)<=c'-1+_;omega) hk h0
     unfold zwd
     by_cases e:p=0
     ·rw [if_pos (.inr e),if_pos (.inr e)]
      simp [k1]
     ·rw [if_neg (by omega),if_neg (by omega)]
      simp [k1,k2]
  exact main _ _
theorem OkP.out {w:Wheel} {l:List Int} (h:OkP w l):∀j,w.Coins.length<=j->l.getD j 0=0:=fun j hj=>by
 rw [←h.len] at hj
 simp [hj]
theorem zBG (b:Bool) {w:Wheel} (h:OkW w) {T:Nat} {p c:Int} {l:List Int} (hp:0<=p) (hp':p<w.Round) (hl:OkP w l):Q b w T p (min c T) l=Q b w T p c l:=by
 by_cases e:c<=T
 ·rw [Int.min_eq_left e]
 ·rw [Int.min_eq_right (by omega)]
  exact ztM b h T hp hp' (by omega) (by omega) hl hl.out
def zug {S:Type} (F:Opn->S->Option (Bool×S)):List Opn->S->Option S
 | [],s=>some s
 | o::l,s=>(F o s).bind fun r=>if r.1=true then zug F l r.2 else some r.2
def spot (l:List Int) (p c:Int):Spot_:=⟨zcg l,p,c⟩
theorem ztN {n:Nat} {w:Wheel} (h:OkW w) (hn:200<=n) {p c:Int} (hp:0<=p) (hp':p<w.Round) (hc:-1<=c) (hc2:c<1099511627776) {l:List Int} (hl:OkP w l) {k:Nat} (hk:k<w.Coins.length) :
  zbx n ⟨w⟩ k (l.getD 0 0) (l.getD 1 0) (l.getD 2 0) (l.getD 3 0) p c=some (spot (zcN l k) (turn w p (coin w k)).1 (c+(turn w p (coin w k)).2),(turn w p (coin w k)).2):=by
 have hco:=zc5 h (a:=(k:Int)) (by omega) (by omega)
 have ht:=zbv h hp hp' (show 0<=coin w k by omega)
 have h4:=h.clen
 have hg:=zf4 hl.nn k
 have htot:=hl.tot
 unfold zbx
 show Option.bind (idx w.Coins (k:Int)) _=_
 rw [zjI (by omega) (by omega),zaa,ztF h (by omega) hp hp' (by omega) (by omega),zaa]
 rw [show ([l.getD 0 0,l.getD 1 0,l.getD 2 0,l.getD 3 0]:List Int)=ztJ l from rfl,ziX (by omega),zaa,zaa,zaU (by omega) (by omega),znC (by rw [hl.len];exact hk) (by rw [hl.len];exact h4),zaa,zaU (by omega) (by omega)]
 rfl
theorem zwe {n:Nat} {w:Wheel} (h:OkW w) (hn:200<=n) {p c:Int} (hp:0<=p) (hp':p<w.Round) (hc:0<=c) (hc2:c<1099511627776) {l:List Int} (hl:OkP w l) {k:Nat} (hk:k<w.Coins.length) :
  zco n ⟨w⟩ (spot l p c) k false=some (spot (zcN l k) (ziD w p c k).p (ziD w p c k).c,(ziD w p c k).plays):=by
 unfold zco
 rw [if_neg (by simp)]
 exact ztN h hn hp hp' (by omega) hc2 hl hk
theorem zwf {n:Nat} {w:Wheel} (h:OkW w) (hn:200<=n) {p c:Int} (hc:0<=c) (hc2:c<1099511627776) {l:List Int} (hl:OkP w l) {k:Nat} (hk:k<w.Coins.length) :
  zco n ⟨w⟩ (spot l p c) k true=some (spot (zcN l k) (zkJ w c k).p (zkJ w c k).c,(zkJ w c k).plays):=by
 have hr:=h.r1
 unfold zco
 rw [if_pos rfl]
 show zbx n ⟨w⟩ k _ _ _ _ 0 (w64 (c-1))=_
 rw [zaU (by omega) (by omega)]
 exact ztN h hn (by omega) (by omega) (by omega) (by omega) hl hk
theorem zwg {S:Type} {n:Nat} {w:Wheel} (h:OkW w) (hn:200<=n) {p c:Int} (hp:0<=p) (hp':p<w.Round) (hc:0<=c) (hc2:c<1099511627776) {l:List Int} (hl:OkP w l) (b:Bool) (aF:List Int->Spot_->Int->S->Option (Bool×S)) (st:S) :
  zfs n aF (⟨w⟩,b) (spot l p c) st=(zug (fun o s=>aF o.acts (spot (zcN l o.k) o.p o.c) o.plays s) (zj8 w p c l l.length 0) st).map fun s=>((),s):=by
 have h4:=h.clen
 have key:=zBE (F:=fun m i s=>zaX n (⟨w⟩,b) (spot l p c) aF m (l.getD 0 0) (l.getD 1 0) (l.getD 2 0) (l.getD 3 0) i s) (b:=w.Coins.length)
  (spec:=fun i s=>(zug (fun o s=>aF o.acts (spot (zcN l o.k) o.p o.c) o.plays s) (zj8 w p c l (w.Coins.length-i) i) s).map fun s=>((),s)) (by omega)
  (fun m s=>by simp [zaX,zc2,zj8,zug])
  (fun m i s hi hrec=>by
   obtain ⟨d,hd⟩:∃d,w.Coins.length-i=d+1:=⟨w.Coins.length-i-1,by omega⟩
   have hd':w.Coins.length-(i+1)=d:=by omega
   simp only [hd'] at hrec
   simp only [zaX,zc2,hd,zj8]
   rw [if_pos (by simp;omega),show ([l.getD 0 0,l.getD 1 0,l.getD 2 0,l.getD 3 0]:List Int)=ztJ l from rfl,ziX (by omega),zaa]
   by_cases e:l.getD i 0=0
   ·rw [if_pos (by simpa using e),if_pos e]
    simp only [zbh,List.nil_append]
    exact hrec s
   ·rw [if_neg (by simpa using e),if_neg e]
    rw [show (⟨⟨l.getD 0 0,l.getD 1 0,l.getD 2 0,l.getD 3 0⟩,(spot l p c).place,(spot l p c).credit⟩:Spot_)=spot l p c from rfl,zwe h hn hp hp' hc hc2 hl hi,zaa]
    unfold zwd
    simp only [List.cons_append,zug]
    show Option.bind (aF (ziD w p c i).acts _ _ s) _=_
    rw [show (ziD w p c i).k=i from rfl]
    cases hF:aF (ziD w p c i).acts (spot (zcN l i) (ziD w p c i).p (ziD w p c i).c) (ziD w p c i).plays s with
    | none=>rfl
    | some r =>
     simp only [zaa]
     cases hr:r.1 with
     | false=>simp
     | true =>
      simp only [Bool.not_true,Bool.false_eq_true,if_false,if_true]
      have skip:za9 n (zaX n (⟨w⟩,b) (spot l p c) aF m) (⟨w⟩,b) (spot l p c) aF (l.getD 0 0) (l.getD 1 0) (l.getD 2 0) (l.getD 3 0) (i:Int) r true=(zug (fun o s=>aF o.acts (spot (zcN l o.k) o.p o.c) o.plays s) (zj8 w p c l d (i+1)) r.2).map fun s=>((),s):=by
       unfold za9 zbh
       rw [if_pos rfl]
       exact hrec r.2
      have go:c≠0->za9 n (zaX n (⟨w⟩,b) (spot l p c) aF m) (⟨w⟩,b) (spot l p c) aF (l.getD 0 0) (l.getD 1 0) (l.getD 2 0) (l.getD 3 0) (i:Int) r false=(zug (fun o s=>aF o.acts (spot (zcN l o.k) o.p o.c) o.plays s) (zkJ w c i::zj8 w p c l d (i+1)) r.2).map fun s=>((),s):=by
       intro hc0
       unfold za9 zbh
       rw [if_neg (by simp)]
       rw [show (⟨⟨l.getD 0 0,l.getD 1 0,l.getD 2 0,l.getD 3 0⟩,(spot l p c).place,(spot l p c).credit⟩:Spot_)=spot l p c from rfl,zwf h hn hc hc2 hl hi,zaa]
       simp only [zug]
       show Option.bind (aF (zkJ w c i).acts _ _ r.2) _=_
       rw [show (zkJ w c i).k=i from rfl]
       cases hF2:aF (zkJ w c i).acts (spot (zcN l i) (zkJ w c i).p (zkJ w c i).c) (zkJ w c i).plays r.2 with
       | none=>rfl
       | some r2 =>
        simp only [zaa]
        cases hr2:r2.1 with
        | false=>simp
        | true =>
         simp only [Bool.not_true,Bool.false_eq_true,if_false,if_true]
         exact hrec r2.2
      show (if (c==0)=true then _ else za9 n _ _ _ aF _ _ _ _ _ r (p==0))=_
      by_cases e1:c=0
      ·rw [if_pos (by simpa using e1),if_pos (.inl e1)]
       exact skip
      ·rw [if_neg (by simpa using e1)]
       by_cases e2:p=0
       ·rw [if_pos (.inr e2),show (p==0)=true by simpa using e2]
        exact skip
       ·rw [if_neg (by simp [e1,e2]),show (p==0)=false by simpa using e2]
        exact go e1)
  w.Coins.length 0 n st (by omega) (by omega) (by omega)
 rw [Nat.sub_zero,←hl.len] at key
 exact key
def znF (b:Bool) (w:Wheel) (M:List (Spot_×Int)):Prop :=
 (M.map (·.1)).Nodup/\∀e,e∈M->∃l p c,e.1=spot l p c/\OkP w l/\(0<=p/\p<w.Round)/\(0<=c/\c<1099511627776)/\e.2=Q b w (total l).toNat p c l
theorem znF.nil (b:Bool) (w:Wheel):znF b w []:=⟨by simp,fun e h=>by simp at h⟩
theorem zfT {x:Int} (h1:-9223372036854775808<=x) (h2:x<9223372036854775808):okI x=true:=by
 simp only [okI,Lit.wf,IntKind.min,IntKind.max,IntKind.signed,IntKind.bits]
 simp
 omega
theorem zow {w:Wheel} (h:OkW w) {l:List Int} (hl:OkP w l) {p c:Int} (hp:0<=p) (hp':p<w.Round) (hc:0<=c) (hc2:c<1099511627776):zhq (spot l p c)=true:=by
 have hr:=h.r2
 have ht:=hl.tot
 have g:=zf4 hl.nn
 have g0:=g 0
 have g1:=g 1
 have g2:=g 2
 have g3:=g 3
 simp only [zhq,spot,zcg,List.all_cons,List.all_nil,Bool.and_true,Bool.and_eq_true]
 exact ⟨zfT (by omega) (by omega),zfT (by omega) (by omega),zfT (by omega) (by omega),zfT (by omega) (by omega),zfT (by omega) (by omega),zfT (by omega) (by omega)⟩
theorem znF.mok {b:Bool} {w:Wheel} {M:List (Spot_×Int)} (hM:znF b w M) (h:OkW w) {l:List Int} (hl:OkP w l) {p c:Int} (hp:0<=p) (hp':p<w.Round) (hc:0<=c) (hc2:c<1099511627776):mok zhq M (spot l p c)=true:=by
 unfold Go.AM.mok
 rw [zow h hl hp hp' hc hc2,show M.all (fun p=>zhq p.1)=true from List.all_eq_true.2 fun e he=>?_,show decide ((M.map (·.1)).Nodup)=true by simpa using hM.1]
 ·rfl
 ·obtain ⟨l',p',c',e1,e2,e3,e4,_⟩:=hM.2 e he
  rw [e1]
  exact zow h e2 e3.1 e3.2 e4.1 e4.2
theorem znF.get {b:Bool} {w:Wheel} {M:List (Spot_×Int)} (hM:znF b w M) (h:OkW w) {l:List Int} (hl:OkP w l) {p c:Int} (hk:zbm M (spot l p c)=true):zge M (spot l p c)=Q b w (total l).toNat p c l:=by
 obtain ⟨l',p',c',e1,e2,e3,e4,e5⟩:=hM.2 _ (zqH hk)
 simp only [spot,Spot_.mk.injEq] at e1
 obtain ⟨q1,q2,q3⟩:=e1
 have e:l=l':=znD q1 (by rw [hl.len,e2.len]) (by rw [hl.len];exact h.clen)
 subst e q2 q3
 exact e5
theorem znF.set {b:Bool} {w:Wheel} {M:List (Spot_×Int)} (hM:znF b w M) {l:List Int} (hl:OkP w l) {p c:Int} (hp:0<=p) (hp':p<w.Round) (hc:0<=c) (hc2:c<1099511627776):znF b w (zcW M (spot l p c) (Q b w (total l).toNat p c l)):=by
 refine ⟨zil hM.1,fun e he=>?_⟩
 rcases zqI he with rfl | he
 ·exact ⟨l,p,c,rfl,hl,⟨hp,hp'⟩,⟨hc,hc2⟩,rfl⟩
 ·exact hM.2 e he
theorem ztO (b:Bool) (x y:Int):zhP b x y=some (cond b (decide (x>y)) (decide (x<y))):=by cases b<;>rfl
theorem zox {n:Nat} {b:Bool} {w:Wheel} {l:List Int} {T:Nat}
  (rec:∀o,OkO w 2000 l o->∀M,znF b w M->∃M',zbg n (⟨w⟩,b) (spot (zcN l o.k) o.p o.c) M=some (Q b w T o.p o.c (zcN l o.k),M')/\znF b w M')
  (hq:∀o,OkO w 2000 l o->0<=Q b w T o.p o.c (zcN l o.k)/\Q b w T o.p o.c (zcN l o.k)<=1000000) :
  ∀(os:List Opn),(∀o,o∈os->OkO w 2000 l o)->∀(f:Bool) (m:Int) (M:List (Spot_×Int)),znF b w M ->
   ∃M',zug (fun o s=>zcb (zbg n) o.acts (spot (zcN l o.k) o.p o.c) o.plays (⟨w⟩,b) s) os (f,m,M) =
    some ((((os.map fun o=>o.plays+Q b w T o.p o.c (zcN l o.k)).foldl (zhe b) (f,m)).1),(((os.map fun o=>o.plays+Q b w T o.p o.c (zcN l o.k)).foldl (zhe b) (f,m)).2),M')/\znF b w M'
 | [],_,f,m,M,hM=>⟨M,rfl,hM⟩
 | o::os,ho,f,m,M,hM=>by
  have ok:=ho o (by simp)
  obtain ⟨M1,h1,h2⟩:=rec o ok M hM
  have hr:=hq o ok
  have y0:=ok.y0
  have y1:=ok.y1
  have step:zcb (zbg n) o.acts (spot (zcN l o.k) o.p o.c) o.plays (⟨w⟩,b) (f,m,M)=some (true,(zhe b (f,m) (o.plays+Q b w T o.p o.c (zcN l o.k))).1,(zhe b (f,m) (o.plays+Q b w T o.p o.c (zcN l o.k))).2,M1):=by
   unfold zcb
   simp only []
   rw [h1,zaa]
   simp only [zb6,zb5]
   rw [zaU (by omega) (by omega),ztO,zaa]
   unfold zhe
   cases f with
   | true=>simp
   | false =>
    simp only [Bool.false_eq_true,false_or,if_false]
    cases hb:cond b (decide (o.plays+Q b w T o.p o.c (zcN l o.k)>m)) (decide (o.plays+Q b w T o.p o.c (zcN l o.k)<m))<;>simp
  obtain ⟨M2,h3,h4⟩:=zox rec hq os (fun o' h'=>ho o' (by simp [h'])) (zhe b (f,m) (o.plays+Q b w T o.p o.c (zcN l o.k))).1 (zhe b (f,m) (o.plays+Q b w T o.p o.c (zcN l o.k))).2 M1 h2
  refine ⟨M2,?_,h4⟩
  simp only [zug,step,zaa,if_true,h3,List.map_cons,List.foldl_cons]
theorem zoy {l:List Int} (h4:l.length<=4):l.getD 0 0+l.getD 1 0+l.getD 2 0+l.getD 3 0=total l:=by
 match l,h4 with
 | [],_=>rfl
 | [a],_=>simp [total]
 | [a,b],_=>simp [total]
 | [a,b,c],_=>simp [total];omega
 | [a,b,c,d],_=>simp [total];omega
theorem zqL {n:Nat} (rec:(Wheel_×Bool)->Spot_->(List (Spot_×Int))->Option (Int×(List (Spot_×Int)))) (a0:Wheel_×Bool) {l:List Int} (h4:l.length<=4) (hnn:∀x,x∈l->0<=x) (ht:total l<=1000) (p c:Int) (M:List (Spot_×Int)) (hn:10<=n) :
  zcp n rec a0 (spot l p c) M=zcd n rec a0 (spot l p c) M (total l) (l.getD 0 0) (l.getD 1 0) (l.getD 2 0) (l.getD 3 0):=by
 have g:=zf4 hnn
 have g0:=g 0
 have g1:=g 1
 have g2:=g 2
 have g3:=g 3
 have hb:=zoy h4
 obtain ⟨m,rfl⟩:∃m,n=m+5:=⟨n-5,by omega⟩
 unfold zcp
 simp only [zcL,zd2]
 have e1:w64 (0+1)=1:=rfl
 have e2:w64 (1+1)=2:=rfl
 have e3:w64 (2+1)=3:=rfl
 have e4:w64 (3+1)=4:=rfl
 have i0:idx ([(spot l p c).left.c0,(spot l p c).left.c1,(spot l p c).left.c2,(spot l p c).left.c3]:List Int) 0=some (l.getD 0 0):=rfl
 have i1:idx ([(spot l p c).left.c0,(spot l p c).left.c1,(spot l p c).left.c2,(spot l p c).left.c3]:List Int) 1=some (l.getD 1 0):=rfl
 have i2:idx ([(spot l p c).left.c0,(spot l p c).left.c1,(spot l p c).left.c2,(spot l p c).left.c3]:List Int) 2=some (l.getD 2 0):=rfl
 have i3:idx ([(spot l p c).left.c0,(spot l p c).left.c1,(spot l p c).left.c2,(spot l p c).left.c3]:List Int) 3=some (l.getD 3 0):=rfl
 rw [if_pos (by decide),i0,zaa,e1,zaU (x:=0+_) (by omega) (by omega)]
 rw [if_pos (by decide),i1,zaa,e2,zaU (x:=0+l.getD 0 0+_) (by omega) (by omega)]
 rw [if_pos (by decide),i2,zaa,e3,zaU (x:=0+l.getD 0 0+l.getD 1 0+_) (by omega) (by omega)]
 rw [if_pos (by decide),i3,zaa,e4,zaU (x:=0+l.getD 0 0+l.getD 1 0+l.getD 2 0+_) (by omega) (by omega)]
 rw [if_neg (by decide),show 0+l.getD 0 0+l.getD 1 0+l.getD 2 0+l.getD 3 0=total l by omega]
 rfl
theorem zwh {b:Bool} {w:Wheel} (h:OkW w):∀(T n:Nat) (p c:Int) (l:List Int) (M:List (Spot_×Int)),(T:Int)=total l->T+300<=n->OkP w l->0<=p->p<w.Round->0<=c->c<1099511627776->znF b w M ->
  ∃M',zbg n (⟨w⟩,b) (spot l p c) M=some (Q b w T p c l,M')/\znF b w M':=by
 intro T
 induction T with
 | zero =>
  intro n p c l M hT hn hl hp hp' hc hc2 hM
  obtain ⟨n,rfl⟩:∃m,n=m+1:=⟨n-1,by omega⟩
  have h4:l.length<=4:=by rw [hl.len];exact h.clen
  refine ⟨M,?_,hM⟩
  show zcp n _ _ _ _=_
  rw [zqL _ _ h4 hl.nn hl.tot p c M (by omega)]
  unfold zcd
  have e0:total l=0:=by omega
  rw [show (⟨⟨l.getD 0 0,l.getD 1 0,l.getD 2 0,l.getD 3 0⟩,(spot l p c).place,min (spot l p c).credit (total l)⟩:Spot_)=spot l p (min c (total l)) from rfl]
  unfold ziM
  rw [if_pos (hM.mok h hl hp hp' (by omega) (by omega)),zaa]
  have hv:zge M (spot l p (min c (total l)))=0:=by
   cases hh:zbm M (spot l p (min c (total l))) with
   | true =>
    rw [hM.get h hl hh,e0]
    rfl
   | false=>exact zlO hh
  rw [hv,e0]
  unfold zcc
  simp [Q]
 | succ T ih =>
  intro n p c l M hT hn hl hp hp' hc hc2 hM
  obtain ⟨n,rfl⟩:∃m,n=m+1:=⟨n-1,by omega⟩
  have h4:l.length<=4:=by rw [hl.len];exact h.clen
  have htot:=hl.tot
  have hc':0<=min c (total l)/\min c (total l)<=total l:=by omega
  have hT2:(total l).toNat=T+1:=by omega
  have hQ:Q b w (T+1) p (min c (total l)) l=Q b w (T+1) p c l:=by
   rw [←hT]
   exact zBG b h hp hp' hl
  show ∃M',zcp n _ _ _ _=_/\_
  rw [zqL _ _ h4 hl.nn hl.tot p c M (by omega)]
  unfold zcd zcc
  rw [show (⟨⟨l.getD 0 0,l.getD 1 0,l.getD 2 0,l.getD 3 0⟩,(spot l p c).place,min (spot l p c).credit (total l)⟩:Spot_)=spot l p (min c (total l)) from rfl]
  unfold ziM
  rw [if_pos (hM.mok h hl hp hp' (by omega) (by omega)),zaa]
  cases hh:zbm M (spot l p (min c (total l))) with
  | true =>
   refine ⟨M,?_,hM⟩
   rw [if_pos rfl,if_pos rfl,hM.get h hl hh,hT2,hQ]
  | false =>
   rw [if_neg (by simp),show (total l==0)=false by simp;omega,if_neg (by simp)]
   rw [zwg h (by omega) hp hp' hc'.1 (by omega) hl b]
   have hok:∀o,o∈zj8 w p (min c (total l)) l l.length 0->OkO w 2000 l o:=fun o ho=>by
    have:=znE h hp hp' hc'.1 hl ho
    exact ⟨this.k,this.nz,this.p0,this.p1,this.c0,by have:=this.c1;omega,this.y0,this.y1⟩
   obtain ⟨M1,h1,h2⟩:=zox (n:=n) (b:=b) (w:=w) (l:=l) (T:=T)
    (fun o ok M0 hM0=>ih n o.p o.c (zcN l o.k) M0 (by rw [zfz (by rw [hl.len];exact ok.k)];omega) (by omega) (hl.less ok.k ok.nz) ok.p0 ok.p1 ok.c0 (by have:=ok.c1;omega) hM0)
    (fun o ok=>by
     have:=ztL b h T ok.p0 ok.p1 ok.c0 (hl.less ok.k ok.nz)
     omega)
    _ hok true 0 M hM
   rw [h1,Option.map_some,zaa]
   simp only []
   unfold zhO
   rw [if_pos (h2.mok h hl hp hp' (by omega) (by omega)),zaa]
   have hset:=h2.set hl hp hp' hc'.1 (show min c (total l)<1099511627776 by omega)
   rw [hT2] at hset
   have hval':(((zj8 w p (min c (total l)) l l.length 0).map fun o=>o.plays+Q b w T o.p o.c (zcN l o.k)).foldl (zhe b) (true,0)).2=Q b w (T+1) p (min c (total l)) l:=rfl
   rw [hval']
   exact ⟨_,by rw [hQ],hQ▸hset⟩
def zjJ (w:Wheel) (p c:Int) (l:List Int):Nat->Nat->List Opn
 | 0,_=>[]
 | d+1,k=>(if l.getD k 0=0 then [] else [ziD w p c k])++zjJ w p c l d (k+1)
theorem zgB {w:Wheel} {p c:Int} {l:List Int} {o:Opn}:∀{d k:Nat},o∈zjJ w p c l d k↔∃j,k<=j/\j<k+d/\l.getD j 0≠0/\o=ziD w p c j
 | 0,k=>by
  simp only [zjJ,List.not_mem_nil,false_iff]
  rintro ⟨j,h1,h2,_⟩
  omega
 | d+1,k=>by
  simp only [zjJ,List.mem_append]
  rw [zgB]
  constructor
  ·rintro (h | ⟨j,h1,h2,h3,h4⟩)
   ·split at h
    ·simp at h
    ·rename_i h0
     exact ⟨k,Nat.le_refl k,by omega,h0,by simpa using h⟩
   ·exact ⟨j,by omega,by omega,h3,h4⟩
  ·rintro ⟨j,h1,h2,h3,h4⟩
   by_cases e:j=k
   ·subst e
    exact .inl (by rw [if_neg h3];simpa using h4)
   ·exact .inr ⟨j,by omega,by omega,h3,h4⟩
theorem zvt (w:Wheel) (c:Int) (l:List Int):∀d k,zj8 w 0 c l d k=zjJ w 0 c l d k
 | 0,k=>rfl
 | d+1,k=>by
  simp only [zj8,zjJ,zvt w c l d (k+1)]
  congr 1
  split
  ·rfl
  ·unfold zwd
   rw [if_pos (.inr rfl)]
def zqM (b:Bool) (w:Wheel) (T:Nat) (l:List Int) (o:Opn):Int:=o.plays+Q b w T o.p o.c (zcN l o.k)
def zwi (b:Bool) (x y:Int):Int:=cond b (max x y) (min x y)
theorem zqN (b:Bool) (x y:Int):leB b x (zwi b x y)/\leB b y (zwi b x y)/\(zwi b x y=x\/zwi b x y=y):=by
 cases b
 ·simp only [leB,zwi,cond_false];omega
 ·simp only [leB,zwi,cond_true];omega
theorem zwj (b:Bool) (w:Wheel) (T:Nat) (p c:Int) (l:List Int) (hc:c≠0) (hp:p≠0) (ht:total l≠0) :
  Q b w (T+1) p c l=zwi b (pick b ((zjJ w p c l l.length 0).map (zqM b w T l))) (Q b w (T+1) 0 (c-1) l):=by
 have h0:Q b w (T+1) 0 (c-1) l=pick b ((zjJ w 0 (c-1) l l.length 0).map (zqM b w T l)):=by
  simp only [Q,zvt]
  rfl
 rw [h0]
 obtain ⟨j,h1,h2,_⟩:=ztK (w:=w) (p:=p) (c:=c) ht
 have e1:(zjJ w p c l l.length 0).map (zqM b w T l)≠[]:=by
  intro e
  have:=List.mem_map_of_mem (f:=zqM b w T l) (zgB.2 ⟨j,by omega,by omega,h2,rfl⟩:ziD w p c j∈zjJ w p c l l.length 0)
  rw [e] at this
  simp at this
 have e2:(zjJ w 0 (c-1) l l.length 0).map (zqM b w T l)≠[]:=by
  intro e
  have:=List.mem_map_of_mem (f:=zqM b w T l) (zgB.2 ⟨j,by omega,by omega,h2,rfl⟩:ziD w 0 (c-1) j∈zjJ w 0 (c-1) l l.length 0)
  rw [e] at this
  simp at this
 obtain ⟨a1,a2⟩:=zhf b e1
 obtain ⟨b1,b2⟩:=zhf b e2
 obtain ⟨m1,m2,m3⟩:=zqN b (pick b ((zjJ w p c l l.length 0).map (zqM b w T l))) (pick b ((zjJ w 0 (c-1) l l.length 0).map (zqM b w T l)))
 have vs:∀j,zqM b w T l (zkJ w c j)=zqM b w T l (ziD w 0 (c-1) j):=fun j=>rfl
 simp only [Q]
 refine zwc b ?_ ?_
 ·show _∈(zj8 w p c l l.length 0).map (zqM b w T l)
  rw [List.mem_map]
  rcases m3 with m3 | m3
  ·rw [m3]
   obtain ⟨o,ho,he⟩:=List.mem_map.1 a1
   obtain ⟨j,q1,q2,q3,rfl⟩:=zgB.1 ho
   exact ⟨_,zfl.2 ⟨j,q1,q2,q3,zfI.2 (.inl rfl)⟩,he⟩
  ·rw [m3]
   obtain ⟨o,ho,he⟩:=List.mem_map.1 b1
   obtain ⟨j,q1,q2,q3,rfl⟩:=zgB.1 ho
   exact ⟨zkJ w c j,zfl.2 ⟨j,q1,q2,q3,zfI.2 (.inr ⟨hc,hp,rfl⟩)⟩,by rw [vs];exact he⟩
 ·intro v hv
  obtain ⟨o,ho,he⟩:=List.mem_map.1 hv
  obtain ⟨j,q1,q2,q3,q4⟩:=zfl.1 ho
  rw [←he]
  rcases zfI.1 q4 with rfl | ⟨_,_,rfl⟩
  ·exact (a2 _ (List.mem_map_of_mem (f:=zqM b w T l) (zgB.2 ⟨j,q1,q2,q3,rfl⟩))).trans m1
  ·refine leB.trans ?_ m2
   show leB b (zqM b w T l (zkJ w c j)) _
   rw [vs]
   exact b2 _ (List.mem_map_of_mem (f:=zqM b w T l) (zgB.2 ⟨j,q1,q2,q3,rfl⟩))
def zbl (w:Wheel) (l:List Int):Bool:=decide (l.length=w.Coins.length)&&l.all (fun x=>inR x 0 12)&&decide (total l<=12)
theorem zqO {w:Wheel} {l:List Int} (h:zbl w l=true):OkP w l/\total l<=12:=by
 simp only [zbl,Bool.and_eq_true,decide_eq_true_eq,List.all_eq_true] at h
 exact ⟨⟨h.1.1,fun x hx=>(zbK.1 (h.1.2 x hx)).1,by omega⟩,h.2⟩
theorem zj9 {n:Nat} {w:Wheel} (hw:w.Coins.length<100000) (hn:w.Coins.length<n) (l:List Int):zeu n w l=some (zbl w l):=by
 unfold zeu zbl
 by_cases hl:l.length=w.Coins.length
 ·rw [if_neg (by simp;omega)]
  have key:=zrX (F:=fun m i (s:Int)=>zce l m s i) (xs:=l) (spec:=fun k s=>some (k.all (fun x=>inR x 0 12)&&decide (s+total k<=12))) (I:=fun k s=>0<=s/\s+12*k.length<=100000000) (by omega)
   (fun m s hI=>by simp [zce,zd5,zeJ,total])
   (fun m i x k s hI hx hi _ _ hrec=>by
    simp only [List.length_cons] at hI
    simp only [zce,zd5]
    rw [if_pos (by simpa using hi),hx,zaa,zjH,zaa,zaa]
    by_cases q:inR x 0 12=true
    ·have:=zbK.1 q
     rw [if_neg (by simp [q]),zaU (x:=s+x) (by omega) (by omega),hrec (s+x) ⟨by omega,by omega⟩]
     have e:s+total (x::k)=s+x+total k:=by simp only [total];omega
     rw [e]
     simp only [List.all_cons,q,Bool.true_and]
    ·rw [if_pos (by simpa using q)]
     simp [q])
   l 0 n 0 (by omega) rfl (by omega) ⟨by omega,by omega⟩
  rw [show zce l n 0 0=_ from key]
  simp [hl]
 ·rw [if_pos (by simp;omega)]
  simp [hl]
theorem zqP:∀{l:List Int},(∀x,x∈l->0<=x/\x<=12)->total l<=12*l.length
 | [],_=>by simp [total]
 | x::l,h=>by
  have h1:=h x (by simp)
  have h2:=zqP (l:=l) (fun y hy=>h y (by simp [hy]))
  simp only [total,List.length_cons]
  omega
theorem zkA:∀(a b:List Int),total (a++b)=total a+total b
 | [],b=>by simp [total]
 | x::a,b=>by
  simp only [List.cons_append,total]
  rw [zkA a b]
  omega
theorem zwk {n:Nat} {w:Wheel} (h:OkW w) (hn:100<=n) (l:List Int) (hl:l.length<100000) (hn2:l.length<n):∃st,zdG n ⟨w⟩ l (spot [] 0 0)=some (zbl w l,st)/\(zbl w l=true->st=spot l 0 0):=by
 have h4:=h.clen
 have key:∀(k pre:List Int) (m:Nat) (s:Int),l=pre++k->k.length<m->pre.length<=w.Coins.length->s=total pre->(∀x,x∈pre->0<=x/\x<=12) ->
   ∃st,zbD ⟨w⟩ (spot [] 0 0) l m s (pre.length:Int) (pre.getD 0 0) (pre.getD 1 0) (pre.getD 2 0) (pre.getD 3 0)=some (zbl w l,st)/\(zbl w l=true->st=spot l 0 0):=by
  intro k
  induction k with
  | nil =>
   intro pre m s he hm hpl hs hx
   obtain ⟨m,rfl⟩:∃q,m=q+1:=⟨m-1,by omega⟩
   rw [List.append_nil] at he
   subst he
   have hall:l.all (fun x=>inR x 0 12)=true:=List.all_eq_true.2 fun x hx'=>zbK.2 (hx x hx')
   simp only [zbD,zea]
   rw [if_neg (by simp)]
   unfold zeN zdT zbl
   rw [hall]
   by_cases e:l.length=w.Coins.length
   ·rw [if_pos (by simp;omega)]
    exact ⟨spot l 0 0,by simp [e,hs];rfl,fun _=>rfl⟩
   ·rw [if_neg (by simp;omega)]
    exact ⟨spot l 0 0,by simp [e];rfl,fun q=>by simp [e] at q⟩
  | cons x k ih =>
   intro pre m s he hm hpl hs hx
   obtain ⟨m,rfl⟩:∃q,m=q+1:=⟨m-1,by omega⟩
   simp only [List.length_cons] at hm
   have hlen:l.length=pre.length+(k.length+1):=by rw [he];simp
   have hxi:idx l (pre.length:Int)=some x:=by rw [he,zlB]
   simp only [zbD,zea]
   rw [if_pos (by simp;omega),hxi,zaa]
   by_cases e:pre.length≥w.Coins.length
   ·rw [if_pos (by simp;omega)]
    unfold zc4
    rw [if_pos rfl]
    have hf:zbl w l=false:=by
     unfold zbl
     rw [show decide (l.length=w.Coins.length)=false by simp;omega]
     rfl
    rw [hf]
    exact ⟨_,rfl,fun q=>by cases q⟩
   ·rw [if_neg (by simp;omega),zgA,zaa]
    unfold zc4
    by_cases q:inR x 0 12=true
    ·have hxr:=zbK.1 q
     have hb:=zdk (l:=pre) (fun y hy=>(hx y hy).1)
     have hb2:=zqP hx
     rw [if_neg (by simp [q])]
     have hset:zrr ([pre.getD 0 0,pre.getD 1 0,pre.getD 2 0,pre.getD 3 0]:List Int) (pre.length:Int) x=some (ztJ (pre++[x])):=by
      match pre,(show pre.length<4 by omega) with
      | [],_=>rfl
      | [a],_=>rfl
      | [a,b],_=>rfl
      | [a,b,c],_=>rfl
     have hidx:∃y,idx ([pre.getD 0 0,pre.getD 1 0,pre.getD 2 0,pre.getD 3 0]:List Int) (pre.length:Int)=some y:=⟨_,zdL (by simp;omega)⟩
     obtain ⟨y,hy⟩:=hidx
     rw [hy,zaa,hset,zaa,zaU (x:=s+x) (by omega) (by omega),zaU (x:=(pre.length:Int)+1) (by omega) (by omega)]
     have:=ih (pre++[x]) m (s+x) (by simp [he]) (by omega) (by simp;omega) (by
      rw [hs,zkA]
      simp [total]) (fun z hz=>by
      rcases List.mem_append.1 hz with hz | hz
      ·exact hx z hz
      ·simp only [List.mem_singleton] at hz
       subst hz
       exact hxr)
     rw [show (((pre++[x]).length:Nat):Int)=(pre.length:Int)+1 by simp] at this
     exact this
    ·rw [if_pos (by simpa using q)]
     have hf:zbl w l=false:=by
      unfold zbl
      have:l.all (fun x=>inR x 0 12)=false:=by
       rw [he,List.all_append,List.all_cons,show inR x 0 12=false by simpa using q]
       simp
      rw [this]
      simp
     rw [hf]
     exact ⟨_,rfl,fun q=>by cases q⟩
 exact key l [] n 0 rfl hn2 (by simp) rfl (fun x hx=>by simp at hx)
theorem zqQ {S:Type} {n:Nat} {w:Wheel} (hl:zj6 n w) (aF:Wheel_->S->Option (Bool×S)) (s s':S) (b:Bool) (ha:valid w=true->aF ⟨w⟩ s=some (b,s')) :
  ∃s0,ze1 n aF w s=some (cond (valid w) (cond b (((⟨w⟩:Wheel_),0),s') ((zw,1),s')) ((zw,10),s0))/\(valid w=true->s0=s0):=by
 unfold ze1
 rw [znz hl,zaa]
 cases hv:valid w with
 | false=>exact ⟨s,rfl,fun _=>rfl⟩
 | true =>
  rw [ha hv]
  cases b<;>exact ⟨s,rfl,fun _=>rfl⟩
theorem ztP {n:Nat} {w:Wheel} (hw:zj6 n w) (hn:100<=n) (l:List Int) (hl:l.length<100000) (hn2:l.length<n) (b:Bool) :
  zgf n w l b=some (if valid w=true then (if zbl w l=true then (some ⟨w⟩,spot l 0 0,0) else (none,spot [] 0 0,1)) else (none,spot [] 0 0,10)):=by
 unfold zgf
 by_cases hv:valid w=true
 ·have h:=zfj hv
  obtain ⟨st,h1,h2⟩:=zwk h hn l hl hn2
  obtain ⟨s0,h3,_⟩:=zqQ hw (fun (x0:Wheel_) s=>zdG n x0 l s) (spot [] 0 0) st (zbl w l) (fun _=>h1)
  rw [show (⟨⟨0,0,0,0⟩,0,0⟩:Spot_)=spot [] 0 0 from rfl,h3,zaa,hv]
  cases hp:zbl w l with
  | true=>simp [h2 hp]
  | false=>simp
 ·have hv':valid w=false:=by simpa using hv
  obtain ⟨s0,h3,_⟩:=zqQ hw (fun (x0:Wheel_) s=>zdG n x0 l s) (spot [] 0 0) (spot [] 0 0) true (fun q=>by rw [hv'] at q;cases q)
  rw [show (⟨⟨0,0,0,0⟩,0,0⟩:Spot_)=spot [] 0 0 from rfl,h3,zaa,hv']
  simp
def zpE (b:Bool) (w:Wheel) (l:List Int):Int×Int :=
 if valid w=true then (if zbl w l=true then (Q b w (total l).toNat 0 0 l,0) else (0,1)) else (0,10)
theorem zmO {n:Nat} {b:Bool} {w:Wheel} (h:OkW w) (hn:400<=n) {l:List Int} (hp:zbl w l=true) {M:List (Spot_×Int)} (hM:znF b w M):∃M',zbg n (⟨w⟩,b) (spot l 0 0) M=some (Q b w (total l).toNat 0 0 l,M')/\znF b w M':=by
 obtain ⟨hl,h12⟩:=zqO hp
 have:=zdk hl.nn
 have:=h.r1
 exact zwh h (total l).toNat n 0 0 l M (by omega) (by omega) hl (by omega) (by omega) (by omega) (by omega) hM
theorem ztQ {n:Nat} {w:Wheel} (hw:zj6 n w) (hn:400<=n) (l:List Int) (hl:l.length<100000) (hn2:l.length<n):ze3 n w l=some (zpE true w l):=by
 unfold ze3 zpE
 rw [ztP hw (by omega) l hl hn2,zaa]
 by_cases hv:valid w=true
 ·rw [if_pos hv,if_pos hv]
  by_cases hp:zbl w l=true
  ·obtain ⟨M',h1,_⟩:=zmO (zfj hv) hn hp (znF.nil true w)
   rw [if_pos hp,if_pos hp]
   simp only [Option.isSome_some,if_true,zaa,bne_self_eq_false,Bool.false_eq_true,if_false]
   rw [h1,zaa]
  ·rw [if_neg hp,if_neg hp]
   rfl
 ·rw [if_neg hv,if_neg hv]
  rfl
theorem zuY {n:Nat} {w:Wheel} (hw:zj6 n w) (hn:400<=n) (l:List Int) (hl:l.length<100000) (hn2:l.length<n):zgs n w l=some (zpE false w l):=by
 unfold zgs zpE
 rw [ztP hw (by omega) l hl hn2,zaa]
 by_cases hv:valid w=true
 ·rw [if_pos hv,if_pos hv]
  by_cases hp:zbl w l=true
  ·obtain ⟨M',h1,_⟩:=zmO (zfj hv) hn hp (znF.nil false w)
   rw [if_pos hp,if_pos hp]
   simp only [Option.isSome_some,if_true,zaa,bne_self_eq_false,Bool.false_eq_true,if_false]
   rw [h1,zaa]
  ·rw [if_neg hp,if_neg hp]
   rfl
 ·rw [if_neg hv,if_neg hv]
  rfl
def zeU (w:Wheel):Stand->List Int->Int
 | _,[]=>0
 | s,a::l=>(if 0<=a then (turn w s.Place (coin w a)).2 else 0)+zeU w (zhi w s a).1 l
def cnt (k:Int):List Int->Int
 | []=>0
 | a::l=>(if a=k then 1 else 0)+cnt k l
theorem zfA (k:Int):∀(a b:List Int),cnt k (a++b)=cnt k a+cnt k b
 | [],b=>by simp [cnt]
 | x::a,b=>by
  simp only [List.cons_append,cnt]
  rw [zfA k a b]
  omega
structure Way (w:Wheel) (s:Stand) (l acts:List Int) (q:Int):Prop where
 ok:acts.all (zfk w)=true
 len:(acts.length:Int)<=2*total l
 bag:∀k:Nat,k<w.Coins.length->cnt k acts=l.getD k 0
 buys:zeU w s acts=q
theorem zka {l:List Int} {k j:Nat} (hk:k<l.length):(zcN l k).getD j 0=l.getD j 0-(if k=j then 1 else 0):=by
 unfold zcN
 by_cases e:k=j
 ·subst e
  rw [if_pos rfl,List.getD_eq_getElem?_getD,List.getElem?_set_self hk]
  rfl
 ·rw [if_neg e,List.getD_eq_getElem?_getD,List.getElem?_set_ne e,←List.getD_eq_getElem?_getD]
  omega
theorem zlR {w:Wheel} {k:Nat} (h:k<w.Coins.length):zfk w k=true:=zbK.2 ⟨by omega,by omega⟩
theorem znG {w:Wheel}:zfk w (-1)=true:=zbK.2 ⟨by omega,by omega⟩
theorem ztR (w:Wheel) (p c:Int) (k:Nat):zhi w ⟨p,c⟩ (k:Int)=(⟨(ziD w p c k).p,(ziD w p c k).c⟩,false):=by
 unfold zhi
 rw [if_pos (by omega)]
 rfl
theorem zvu (w:Wheel) (p c:Int) (hc:c≠0):zhi w ⟨p,c⟩ (-1)=(⟨0,c-1⟩,true):=by
 unfold zhi
 rw [if_neg (by omega),if_neg hc]
theorem Way.step {w:Wheel} {p c:Int} {l acts:List Int} {q:Int} {o:Opn} (hl:OkP w l) (hc:0<=c) (ho:o∈zj8 w p c l l.length 0) (h:Way w ⟨o.p,o.c⟩ (zcN l o.k) acts q):Way w ⟨p,c⟩ l (o.acts++acts) (o.plays+q):=by
 obtain ⟨j,_,h2,h3,h4⟩:=zfl.1 ho
 have hj:j<l.length:=by omega
 have hj':j<w.Coins.length:=by have:=hl.len;omega
 rcases zfI.1 h4 with rfl | ⟨h5,h6,rfl⟩
 ·refine ⟨?_,?_,fun k hk=>?_,?_⟩
  ·show List.all ([(j:Int)]++acts) (zfk w)=true
   rw [List.singleton_append,List.all_cons,zlR hj',h.ok]
   rfl
  ·have:=h.len
   have e:=zfz hj
   show ((([(j:Int)]++acts).length:Nat):Int)<=_
   rw [show (ziD w p c j).k=j from rfl] at this
   simp
   omega
  ·show cnt k ((j:Int)::acts)=_
   simp only [cnt]
   rw [h.bag k hk,show (ziD w p c j).k=j from rfl,zka hj]
   by_cases e:j=k
   ·rw [if_pos (by omega),if_pos e];omega
   ·rw [if_neg (by omega),if_neg e];omega
  ·show zeU w ⟨p,c⟩ ((j:Int)::acts)=_
   simp only [zeU]
   rw [if_pos (by omega),ztR,h.buys]
   rfl
 ·refine ⟨?_,?_,fun k hk=>?_,?_⟩
  ·show List.all ([-1,(j:Int)]++acts) (zfk w)=true
   rw [List.cons_append,List.singleton_append,List.all_cons,List.all_cons,zlR hj',znG,h.ok]
   rfl
  ·have:=h.len
   have e:=zfz hj
   show ((([-1,(j:Int)]++acts).length:Nat):Int)<=_
   rw [show (zkJ w c j).k=j from rfl] at this
   simp
   omega
  ·show cnt k (-1::(j:Int)::acts)=_
   simp only [cnt]
   rw [h.bag k hk,show (zkJ w c j).k=j from rfl,zka hj,if_neg (by omega)]
   by_cases e:j=k
   ·rw [if_pos (by omega),if_pos e];omega
   ·rw [if_neg (by omega),if_neg e];omega
  ·show zeU w ⟨p,c⟩ (-1::(j:Int)::acts)=_
   simp only [zeU]
   rw [if_neg (by omega),zvu w p c h5]
   simp only []
   rw [if_pos (by omega),ztR]
   rw [show (⟨(ziD w 0 (c-1) j).p,(ziD w 0 (c-1) j).c⟩:Stand)=⟨(zkJ w c j).p,(zkJ w c j).c⟩ from rfl,h.buys]
   show 0+((turn w 0 (coin w j)).2+q)=(turn w 0 (coin w j)).2+q
   omega
theorem zvv {w:Wheel} {T:Nat} {p c:Int} {l:List Int} (b:Bool) (h0:total l≠0):∃o,o∈zj8 w p c l l.length 0/\o.plays+Q b w T o.p o.c (zcN l o.k)=Q b w (T+1) p c l:=by
 obtain ⟨j,h1,h2,h3⟩:=ztK (w:=w) (p:=p) (c:=c) h0
 have e:((zj8 w p c l l.length 0).map fun o=>o.plays+Q b w T o.p o.c (zcN l o.k))≠[]:=by
  intro e
  rw [List.map_eq_nil_iff] at e
  rw [e] at h3
  simp at h3
 obtain ⟨a1,_⟩:=zhf b e
 obtain ⟨o,ho,he⟩:=List.mem_map.1 a1
 exact ⟨o,ho,he⟩
theorem zBH {w:Wheel} {T:Nat} {p c:Int} {l:List Int} (b:Bool) {o:Opn} (ho:o∈zj8 w p c l l.length 0):leB b (o.plays+Q b w T o.p o.c (zcN l o.k)) (Q b w (T+1) p c l):=by
 have hm:=List.mem_map_of_mem (f:=fun o:Opn=>o.plays+Q b w T o.p o.c (zcN l o.k)) ho
 have e:((zj8 w p c l l.length 0).map fun o=>o.plays+Q b w T o.p o.c (zcN l o.k))≠[]:=by
  intro e
  rw [e] at hm
  simp at hm
 exact (zhf b e).2 _ hm
theorem ztS (b:Bool) {w:Wheel} (h:OkW w):∀(T:Nat) {p c:Int} {l:List Int},(T:Int)=total l->OkP w l->0<=p->p<w.Round->0<=c->∃acts,Way w ⟨p,c⟩ l acts (Q b w T p c l)
 | 0,p,c,l,hT,hl,_,_,_=>⟨[],rfl,by simp;omega,fun k hk=>by rw [zr2 hl.nn (by omega) k];rfl,rfl⟩
 | T+1,p,c,l,hT,hl,hp,hp',hc=>by
  obtain ⟨o,ho,he⟩:=zvv (w:=w) (T:=T) (p:=p) (c:=c) b (show total l≠0 by omega)
  have ok:=znE h hp hp' hc hl ho
  obtain ⟨acts,hw⟩:=ztS b h T (p:=o.p) (c:=o.c) (l:=zcN l o.k) (by rw [zfz (by rw [hl.len];exact ok.k)];omega) (hl.less ok.k ok.nz) ok.p0 ok.p1 ok.c0
  exact ⟨o.acts++acts,he▸hw.step hl hc ho⟩
theorem zoz (k:Int):∀l:List Int,0<=cnt k l/\cnt k l<=l.length
 | []=>by simp [cnt]
 | a::l=>by
  have:=zoz k l
  simp only [cnt,List.length_cons]
  split<;>omega
theorem ztT (b:Bool) {w:Wheel} (h:OkW w):∀(T:Nat) {p c c':Int} {l:List Int},(T:Int)=total l->OkP w l->0<=p->p<w.Round->0<=c->c<=c'->leB b (Q b w T p c l) (Q b w T p c' l)
 | 0,p,c,c',l,_,_,_,_,_,_=>leB.refl b _
 | T+1,p,c,c',l,hT,hl,hp,hp',hc,hcc=>by
  obtain ⟨o,ho,he⟩:=zvv (w:=w) (T:=T) (p:=p) (c:=c) b (show total l≠0 by omega)
  have ok:=znE h hp hp' hc hl ho
  have hT':(T:Int)=total (zcN l o.k):=by rw [zfz (by rw [hl.len];exact ok.k)];omega
  obtain ⟨j,h1,h2,h3,h4⟩:=zfl.1 ho
  rw [←he]
  rcases zfI.1 h4 with rfl | ⟨h5,h6,rfl⟩
  ·have ih:=ztT b h T (p:=(ziD w p c j).p) (c:=(ziD w p c j).c) (c':=(ziD w p c' j).c) hT' (hl.less ok.k ok.nz) ok.p0 ok.p1 ok.c0 (by show c+_<=c'+_;omega)
   exact (ih.add _).trans (zBH (T:=T) (p:=p) (c:=c') b (o:=ziD w p c' j) (zfl.2 ⟨j,h1,h2,h3,zfI.2 (.inl rfl)⟩))
  ·have ih:=ztT b h T (p:=(zkJ w c j).p) (c:=(zkJ w c j).c) (c':=(zkJ w c' j).c) hT' (hl.less ok.k ok.nz) ok.p0 ok.p1 ok.c0 (by show c-1+_<=c'-1+_;omega)
   exact (ih.add _).trans (zBH (T:=T) (p:=p) (c:=c') b (o:=zkJ w c' j) (zfl.2 ⟨j,h1,h2,h3,zfI.2 (.inr ⟨by omega,h6,rfl⟩)⟩))
theorem zBI (b:Bool) {w:Wheel} (h:OkW w) {T:Nat} {p c:Int} {l:List Int} (hT:(T:Int)=total l) (hl:OkP w l) (hp:0<=p) (hp':p<w.Round) (hc:0<c):leB b (Q b w T 0 (c-1) l) (Q b w T p c l):=by
 have hr:=h.r1
 cases T with
 | zero=>exact leB.refl b _
 | succ T =>
  by_cases e:p=0
  ·subst e
   exact ztT b h (T+1) hT hl (by omega) (by omega) (by omega) (by omega)
  ·rw [zwj b w T p c l (by omega) e (by omega)]
   exact (zqN b _ _).2.1
theorem zwl {w:Wheel} {l:List Int} (hl:OkP w l) (h:∀k:Nat,k<w.Coins.length->(0:Int)=l.getD k 0):total l=0:=by
 by_cases e:total l=0
 ·exact e
 ·obtain ⟨j,h1,h2⟩:=zlQ e
  exact (h2 (h j (by rw [←hl.len];exact h1)).symm).elim
theorem zoA (b:Bool) {w:Wheel} (h:OkW w):∀(acts:List Int) {p c:Int} {l:List Int},acts.all (zfk w)=true->(∀k:Nat,k<w.Coins.length->cnt k acts=l.getD k 0)->OkP w l->0<=p->p<w.Round->0<=c->leB b (zeU w ⟨p,c⟩ acts) (Q b w (total l).toNat p c l)
 | [],p,c,l,_,hk,hl,_,_,_=>by
  rw [zwl hl hk]
  exact leB.refl b 0
 | a::acts,p,c,l,hok,hk,hl,hp,hp',hc=>by
  have hr:=h.r1
  simp only [List.all_cons,Bool.and_eq_true] at hok
  have ha:=zbK.1 hok.1
  by_cases h0:0<=a
  ·obtain ⟨k,rfl⟩:∃k:Nat,a=k:=⟨a.toNat,by omega⟩
   have hkl:k<w.Coins.length:=by omega
   have hkl':k<l.length:=by rw [hl.len];exact hkl
   have hnz:l.getD k 0≠0:=by
    have e:=hk k hkl
    simp only [cnt] at e
    have:=zoz (k:Int) acts
    rw [if_pos trivial] at e
    omega
   have hco:=zc5 h (a:=(k:Int)) (by omega) (by omega)
   have ht:=zbv h hp hp' (show 0<=coin w k by omega)
   have hlt:=zfz hkl'
   have hnn:=zdk (hl.less hkl hnz).nn
   have ih:=zoA b h acts (p:=(ziD w p c k).p) (c:=(ziD w p c k).c) (l:=zcN l k) hok.2 (fun j hj=>by
    have e:=hk j hj
    simp only [cnt] at e
    rw [zka hkl']
    by_cases q:k=j
    ·rw [if_pos (by omega)] at e;rw [if_pos q];omega
    ·rw [if_neg (by omega)] at e;rw [if_neg q];omega) (hl.less hkl hnz) ht.1.1 ht.1.2 (by show 0<=c+_;omega)
   simp only [zeU]
   rw [if_pos h0,ztR]
   have eT:(total l).toNat=(total (zcN l k)).toNat+1:=by omega
   rw [eT]
   exact (ih.add _).trans (zBH b (o:=ziD w p c k) (zfl.2 ⟨k,by omega,by omega,hnz,zfI.2 (.inl rfl)⟩))
  ·have ea:a=-1:=by omega
   subst ea
   have hk':∀k:Nat,k<w.Coins.length->cnt k acts=l.getD k 0:=fun k hkl=>by
    have e:=hk k hkl
    simp only [cnt] at e
    rw [if_neg (by omega)] at e
    omega
   simp only [zeU]
   rw [if_neg h0,Int.zero_add]
   by_cases hc0:c=0
   ·have e:(zhi w ⟨p,c⟩ (-1)).1=⟨p,c⟩:=by
     unfold zhi
     rw [if_neg h0,if_pos hc0]
    rw [e]
    exact zoA b h acts hok.2 hk' hl hp hp' hc
   ·rw [zvu w p c hc0]
    have hnn:=zdk hl.nn
    exact (zoA b h acts hok.2 hk' hl (by omega) (by omega) (by omega)).trans (zBI b h (by omega) hl hp hp' (by omega))
def znH (w:Wheel) (l:List Int):Nat->Nat->Int
 | 0,_=>0
 | d+1,k=>coin w k*l.getD k 0+znH w l d (k+1)
def zdw (w:Wheel) (l:List Int):Int:=znH w l w.Coins.length 0
theorem zuZ {w:Wheel} (h:OkW w) {l:List Int} (hl:∀k,0<=l.getD k 0/\l.getD k 0<=1000) {k:Nat} (hk:k<w.Coins.length):0<=coin w k*l.getD k 0/\coin w k*l.getD k 0<=100000:=by
 have hco:=zc5 h (a:=(k:Int)) (by omega) (by omega)
 have:=hl k
 refine ⟨Int.mul_nonneg (by omega) (by omega),?_⟩
 have h1:coin w k*l.getD k 0<=100*l.getD k 0:=Int.mul_le_mul_of_nonneg_right hco.2 (by omega)
 omega
theorem zkb {w:Wheel} (h:OkW w) {l:List Int} (hl:∀k,0<=l.getD k 0/\l.getD k 0<=1000):∀(d k:Nat),k+d<=w.Coins.length->0<=znH w l d k/\znH w l d k<=100000*d
 | 0,k,_=>by simp [znH]
 | d+1,k,hk=>by
  have:=zkb h hl d (k+1) (by omega)
  have:=zuZ h hl (show k<w.Coins.length by omega)
  simp only [znH]
  omega
theorem znI {n:Nat} {w:Wheel} (h:OkW w) (hn:100<=n) {l:List Int} (hlen:l.length=w.Coins.length) (hl:∀k,0<=l.getD k 0/\l.getD k 0<=1000):zf1 n w l=some (zdw w l):=by
 have h4:=h.clen
 have key:∀(d i m:Nat) (s:Int),d=w.Coins.length-i->i<=w.Coins.length->d<m->0<=s->s+100000*d<=1000000->zbG w l m s (i:Int)=some (s+znH w l d i):=by
  intro d
  induction d with
  | zero =>
   intro i m s hd hi hm hs hs2
   obtain ⟨m,rfl⟩:∃q,m=q+1:=⟨m-1,by omega⟩
   simp only [zbG,zda,zdF,znH]
   rw [if_neg (by simp;omega),Int.add_zero]
  | succ d ih =>
   intro i m s hd hi hm hs hs2
   obtain ⟨m,rfl⟩:∃q,m=q+1:=⟨m-1,by omega⟩
   have ht:=zuZ h hl (show i<w.Coins.length by omega)
   have ei:l[i]'(by omega)=l.getD i 0:=by simp [show i<l.length by omega]
   simp only [zbG,zda,znH]
   rw [if_pos (by simp;omega),zdL (by omega),zaa,zjI (by omega) (by omega),zaa,ei,Int.mul_comm,zaU (x:=coin w i*_) (by omega) (by omega),zaU (x:=s+_) (by omega) (by omega),zaU (x:=(i:Int)+1) (by omega) (by omega)]
   have:=ih (i+1) m (s+coin w i*l.getD i 0) (by omega) (by omega) (by omega) (by omega) (by omega)
   rw [show (((i+1:Nat)):Int)=(i:Int)+1 by simp] at this
   rw [this]
   congr 1
   omega
 have:=key w.Coins.length 0 n 0 (by omega) (by omega) (by omega) (by omega) (by omega)
 rw [Int.zero_add] at this
 exact this
def down:Nat->List Int
 | 0=>[0]
 | n+1=>((n+1:Nat):Int)::down n
def upF:Nat->Nat->List Int
 | _,0=>[]
 | i,d+1=>(i:Int)::upF (i+1) d
theorem znJ {v:Int}:∀{d i:Nat},v∈upF i d↔(i:Int)<=v/\v<i+d
 | 0,i=>by simp [upF]<;>omega
 | d+1,i=>by
  simp only [upF,List.mem_cons,znJ]
  omega
theorem zpF:∀(d i:Nat),(upF i d).length=d
 | 0,i=>rfl
 | d+1,i=>by simp [upF,zpF d (i+1)]
def Part (t l:List Int):Prop:=t.length=l.length/\∀k,0<=t.getD k 0/\t.getD k 0<=l.getD k 0
def zvw (w:Wheel) (t:List Int):List Int:=t.take w.Coins.length
structure OkT (w:Wheel) (t:List Int):Prop where
 len:t.length=4
 rng:∀k,0<=t.getD k 0/\t.getD k 0<=1000
 out:∀k,w.Coins.length<=k->t.getD k 0=0
 tot:total (zvw w t)<=1000
theorem zoB {w:Wheel} {t:List Int} (h:OkT w t) (k:Nat):(zvw w t).getD k 0=t.getD k 0:=by
 unfold zvw
 rw [List.getD_eq_getElem?_getD,List.getElem?_take]
 split
 ·rfl
 ·rw [h.out k (by omega)]
  rfl
theorem OkT.purse {w:Wheel} (hw:OkW w) {t:List Int} (h:OkT w t):OkP w (zvw w t):=by
 have h4:=hw.clen
 have hl:=h.len
 refine ⟨by simp [zvw];omega,fun x hx=>?_,h.tot⟩
 obtain ⟨i,hi,rfl⟩:=List.getElem_of_mem hx
 have e:(zvw w t)[i]=(zvw w t).getD i 0:=by simp [hi]
 rw [e,zoB h]
 exact (h.rng i).1
theorem OkT.bag {w:Wheel} {t:List Int} (h:OkT w t):zcg t=zcg (zvw w t):=by
 simp only [zcg,zoB h]
def ziY (w:Wheel):Stand->List Int->Stand
 | s,[]=>s
 | s,a::l=>ziY w (zhi w s a).1 l
theorem zeV (w:Wheel):∀(a b:List Int) (s:Stand),ziY w s (a++b)=ziY w (ziY w s a) b
 | [],b,s=>rfl
 | x::a,b,s=>zeV w a b _
theorem zfU (w:Wheel):∀(a b:List Int) (s:Stand),zeU w s (a++b)=zeU w s a+zeU w (ziY w s a) b
 | [],b,s=>by simp [zeU,ziY]
 | x::a,b,s=>by
  simp only [List.cons_append,zeU,ziY]
  rw [zfU w a b]
  omega
theorem ztU {w:Wheel} (h:OkW w):∀(acts:List Int) (s:Stand) (b:Int),OkS w s b->acts.all (zfk w)=true->OkS w (ziY w s acts) (b+100*acts.length)
 | [],s,b,hs,_=>by simpa [ziY] using hs
 | a::l,s,b,hs,ha=>by
  rw [List.all_cons,Bool.and_eq_true] at ha
  have:=ztU h l _ _ (zpC h hs ha.1) ha.2
  simp only [ziY,List.length_cons]
  rwa [show b+100*((l.length+1:Nat):Int)=b+100+100*(l.length:Int) by omega]
def Can (w:Wheel) (al:List Int) (v:Int):Prop:=∃acts:List Int,acts.all (zfk w)=true/\(∀k:Nat,k<w.Coins.length->cnt k acts=al.getD k 0)/\zeU w ⟨0,0⟩ acts=v
structure Pn where
 p:Int
 c:Int
 l:List Int
 b:Int
def zl (w:Wheel):List Int:=List.replicate w.Coins.length 0
def zgC (l:List Int) (k:Nat):List Int:=l.set k (l.getD k 0+1)
def zuh (cl:Int->Int->Int) (x:Pn):Pn:=⟨0,cl (total x.l) (x.c-1),x.l,x.b⟩
def zr3 (cl:Int->Int->Int) (w:Wheel) (x:Pn) (k:Nat):Pn:=⟨(turn w x.p (coin w k)).1,cl (total x.l+1) (x.c+(turn w x.p (coin w k)).2),zgC x.l k,x.b+(turn w x.p (coin w k)).2⟩
def zmg (w:Wheel):Pn:=⟨0,0,zl w,0⟩
inductive RP (cl:Int->Int->Int) (w:Wheel) (al:List Int):List Int->Pn->Prop
 | zero:RP cl w al [] (zmg w)
 | sel {acts:List Int} {x:Pn} (h:RP cl w al acts x) (hc:0<x.c) (hp:0<x.p):RP cl w al (acts++[-1]) (zuh cl x)
 | coin {acts:List Int} {x:Pn} {k:Nat} (h:RP cl w al acts x) (hk:k<w.Coins.length) (hl:x.l.getD k 0≠al.getD k 0):RP cl w al (acts++[(k:Int)]) (zr3 cl w x k)
theorem zjK:∀n:Nat,total (List.replicate n 0)=0
 | 0=>rfl
 | n+1=>by rw [List.replicate_succ,total,zjK n];rfl
theorem zkc (w:Wheel) (k:Nat):(zl w).getD k 0=0:=by
 unfold zl
 rw [List.getD_eq_getElem?_getD,List.getElem?_replicate]
 split<;>rfl
theorem zoC (l:List Int) (k:Nat):(zgC l k).length=l.length:=by simp [zgC]
theorem zhg {l:List Int} {k j:Nat} (hk:k<l.length):(zgC l k).getD j 0=l.getD j 0+(if k=j then 1 else 0):=by
 unfold zgC
 by_cases e:k=j
 ·subst e
  rw [if_pos rfl,List.getD_eq_getElem?_getD,List.getElem?_set_self hk]
  rfl
 ·rw [if_neg e,List.getD_eq_getElem?_getD,List.getElem?_set_ne e,←List.getD_eq_getElem?_getD]
  omega
theorem zfB {l:List Int} {k:Nat} (h:k<l.length):total (zgC l k)=total l+1:=by
 unfold zgC
 rw [zlP h]
 omega
theorem zgD:∀{l m:List Int},l.length=m.length->(∀k,l.getD k 0<=m.getD k 0)->total l<=total m
 | [],[],_,_=>Int.le_refl _
 | [],_::_,h,_=>by simp at h
 | _::_,[],h,_=>by simp at h
 | x::l,y::m,h,hk=>by
  have h0:=hk 0
  have:=zgD (l:=l) (m:=m) (by simpa using h) (fun k=>by simpa using hk (k+1))
  simp only [total]
  simp at h0
  omega
theorem zlS {l m:List Int} (h:l.length=m.length) (hk:∀k,l.getD k 0<=m.getD k 0) {k:Nat} (hlt:l.getD k 0<m.getD k 0):total l<total m:=by
 have hkl:k<l.length:=by
  rcases Nat.lt_or_ge k l.length with h1 | h1
  ·exact h1
  ·rw [List.getD_eq_getElem?_getD,List.getD_eq_getElem?_getD,List.getElem?_eq_none h1,List.getElem?_eq_none (by omega)] at hlt
   simp at hlt
 have h1:=zgD (l:=zgC l k) (m:=m) (by rw [zoC];exact h) fun j=>by
  rw [zhg hkl]
  have:=hk j
  split
  ·rename_i e
   subst e
   omega
  ·omega
 rw [zfB hkl] at h1
 omega
structure Clamp (cl:Int->Int->Int) (T:Int):Prop where
 le:∀t c,cl t c<=c
 nn:∀t c,t<=T->0<=c->0<=cl t c
structure OkX (w:Wheel) (al:List Int) (acts:List Int) (x:Pn):Prop where
 p0:0<=x.p
 p1:x.p<w.Round
 c0:0<=x.c
 cb:x.c<=x.b
 bt:x.b<=100*total x.l
 len:x.l.length=w.Coins.length
 nn:∀k,0<=x.l.getD k 0
 le:∀k,x.l.getD k 0<=al.getD k 0
 ok:acts.all (zfk w)=true
 bag:∀k:Nat,cnt k acts=x.l.getD k 0
 buys:zeU w ⟨0,0⟩ acts=x.b
 pl:(ziY w ⟨0,0⟩ acts).Place=x.p
 cr:x.c<=(ziY w ⟨0,0⟩ acts).Credit
theorem zgg (k:Nat) (a:Int):cnt k [a]=if a=(k:Int) then 1 else 0:=by simp [cnt]
theorem RP.ok {cl:Int->Int->Int} {w:Wheel} {al:List Int} (h:OkW w) (hl:al.length=w.Coins.length) (hnn:∀k,0<=al.getD k 0) (hcl:Clamp cl (total al)) {acts:List Int} {x:Pn} (hr:RP cl w al acts x):OkX w al acts x:=by
 have hr1:=h.r1
 induction hr with
 | zero=>exact ⟨Int.le_refl _,by show (0:Int)<w.Round;omega,Int.le_refl _,Int.le_refl _,by show (0:Int)<=100*total (zl w);rw [show total (zl w)=0 from zjK _];omega,by simp [zmg,zl],fun k=>by show 0<=(zl w).getD k 0;rw [zkc];omega,fun k=>by show (zl w).getD k 0<=_;rw [zkc];exact hnn k,rfl,fun k=>by show _=(zl w).getD k 0;rw [zkc];rfl,rfl,rfl,Int.le_refl _⟩
 | @sel acts x hr hc hp ih =>
  have ht:total x.l<=total al:=zgD (by rw [ih.len,hl]) ih.le
  have hcr:=ih.cr
  have he:zhi w (ziY w ⟨0,0⟩ acts) (-1)=(⟨0,(ziY w ⟨0,0⟩ acts).Credit-1⟩,true):=by
   unfold zhi
   rw [if_neg (by omega),if_neg (by omega)]
  have hle:=hcl.le (total x.l) (x.c-1)
  have hcb:=ih.cb
  refine ⟨Int.le_refl _,by show (0:Int)<w.Round;omega,hcl.nn _ _ ht (by omega),by show cl _ _<=x.b;omega,ih.bt,ih.len,ih.nn,ih.le,?_,fun k=>?_,?_,?_,?_⟩
  ·rw [List.all_append,ih.ok]
   simp [znG]
  ·rw [zfA,ih.bag,zgg,if_neg (by omega)]
   exact Int.add_zero _
  ·rw [zfU,ih.buys]
   simp [zeU,zuh]
  ·rw [zeV]
   simp only [ziY,he]
   rfl
  ·rw [zeV]
   simp only [ziY,he]
   show cl _ _<=_
   omega
 | @coin acts x k hr hk hne ih =>
  have hkl:k<x.l.length:=by rw [ih.len];exact hk
  have hlt:x.l.getD k 0<al.getD k 0:=by have:=ih.le k;omega
  have ht:total x.l<total al:=zlS (by rw [ih.len,hl]) ih.le hlt
  have hcoin:=zc5 h (a:=(k:Int)) (by omega) (by omega)
  have htr:=zbv h ih.p0 ih.p1 (show 0<=Go.Law.coin w k by omega)
  have hcb:=ih.cb
  have hbt:=ih.bt
  have hc0:=ih.c0
  have hcr:=ih.cr
  have he:(zhi w (ziY w ⟨0,0⟩ acts) (k:Int)).1=⟨(turn w x.p (Go.Law.coin w k)).1,(ziY w ⟨0,0⟩ acts).Credit+(turn w x.p (Go.Law.coin w k)).2⟩:=by
   unfold zhi
   rw [if_pos (by omega),ih.pl]
  have hle:=hcl.le (total x.l+1) (x.c+(turn w x.p (Go.Law.coin w k)).2)
  refine ⟨htr.1.1,htr.1.2,hcl.nn _ _ (by omega) (by omega),?_,?_,?_,fun j=>?_,fun j=>?_,?_,fun j=>?_,?_,?_,?_⟩
  ·show cl _ _<=x.b+_
   omega
  ·show x.b+_<=100*total (zgC x.l k)
   rw [zfB hkl]
   omega
  ·show (zgC x.l k).length=_
   rw [zoC,ih.len]
  ·show 0<=(zgC x.l k).getD j 0
   rw [zhg hkl]
   have:=ih.nn j
   split<;>omega
  ·show (zgC x.l k).getD j 0<=_
   rw [zhg hkl]
   have:=ih.le j
   split
   ·rename_i e
    subst e
    omega
   ·omega
  ·rw [List.all_append,ih.ok]
   simp [zlR hk]
  ·show _=(zgC x.l k).getD j 0
   rw [zfA,ih.bag,zgg,zhg hkl]
   congr 1
   by_cases e:k=j
   ·subst e;simp
   ·rw [if_neg e,if_neg (by omega)]
  ·rw [zfU,ih.buys]
   simp only [zeU,ih.pl]
   rw [if_pos (by omega)]
   show x.b+(_+0)=x.b+_
   omega
  ·rw [zeV]
   simp only [ziY,he]
   rfl
  ·rw [zeV]
   simp only [ziY,he]
   show cl _ _<=_
   omega
theorem zgE {al:List Int} (h:∀k,0<=al.getD k 0):∀x,x∈al->0<=x:=fun x hx=>by
 obtain ⟨k,hk⟩:=List.getElem?_of_mem hx
 have:=h k
 rwa [List.getD_eq_getElem?_getD,hk] at this
theorem zpG (l:List Int):l=[]\/∃q a,l=q++[a]:=ziV l
def clT (T:Int):Int->Int->Int:=fun t c=>min c (T-t)
theorem zkd (T:Int):Clamp (clT T) T:=⟨fun t c=>by unfold clT;omega,fun t c h1 h2=>by unfold clT;omega⟩
theorem zpH {w:Wheel} {a:Int} (h:zfk w a=true):a=-1\/∃k:Nat,k<w.Coins.length/\a=k:=by
 have h:=zbK.1 h
 by_cases h0:0<=a
 ·exact .inr ⟨a.toNat,by omega,by omega⟩
 ·exact .inl (by omega)
theorem cnt_mono {k:Nat} {l:List Int} {a:Int}:cnt k l<=cnt k (l++[a]):=by
 rw [zfA,zgg]
 split<;>omega
theorem ztV {w:Wheel} {al:List Int} (h:OkW w) (hl:al.length=w.Coins.length) (hnn:∀k,0<=al.getD k 0):∀(n:Nat) (acts:List Int),acts.length=n->acts.all (zfk w)=true->(∀k:Nat,k<w.Coins.length->cnt k acts<=al.getD k 0) ->
  ∃acts' x,RP (clT (total al)) w al acts' x/\x.b=zeU w ⟨0,0⟩ acts/\(∀k:Nat,k<w.Coins.length->x.l.getD k 0=cnt k acts)/\(total x.l<total al->x.p=(ziY w ⟨0,0⟩ acts).Place/\min (ziY w ⟨0,0⟩ acts).Credit (if x.p=0 then total al-total x.l-1 else total al-total x.l)<=x.c)
 | 0,acts,hlen,_,_=>by
  obtain rfl:=List.eq_nil_of_length_eq_zero hlen
  refine ⟨[],zmg w,.zero,rfl,fun k _=>zkc w k,fun ht=>⟨rfl,?_⟩⟩
  show min (0:Int) _<=0
  omega
 | n+1,acts,hlen,hok,hbag=>by
  rcases zpG acts with rfl | ⟨l,a,rfl⟩
  ·simp at hlen
  rw [List.all_append,Bool.and_eq_true] at hok
  have hoa:zfk w a=true:=by simpa using hok.2
  obtain ⟨acts',x,hr,hb,hcn,hx⟩:=ztV h hl hnn n l (by simpa using hlen) hok.1 fun k hk=>Int.le_trans cnt_mono (hbag k hk)
  have hX:=hr.ok h hl hnn (zkd _)
  have hes:=ztU h l ⟨0,0⟩ 0 ⟨Int.le_refl _,by show (0:Int)<w.Round;have:=h.r1;omega,Int.le_refl _,Int.le_refl _⟩ hok.1
  have hec:=hes.c0
  have hep:=hes.p0
  have htl:total x.l<=total al:=zgD (by rw [hX.len,hl]) hX.le
  rcases zpH hoa with rfl | ⟨k,hk,rfl⟩
  ·have hbu:zeU w ⟨0,0⟩ (l++[-1])=zeU w ⟨0,0⟩ l:=by rw [zfU];simp [zeU]
   have hcn':∀k:Nat,cnt k (l++[-1])=cnt k l:=fun k=>by
    rw [zfA,zgg,if_neg (by omega)]
    exact Int.add_zero _
   have he:ziY w ⟨0,0⟩ (l++[-1])=if (ziY w ⟨0,0⟩ l).Credit=0 then ziY w ⟨0,0⟩ l else ⟨0,(ziY w ⟨0,0⟩ l).Credit-1⟩:=by
    rw [zeV]
    simp only [ziY,zhi]
    rw [if_neg (by omega)]
    split<;>rfl
   by_cases ht:total x.l<total al
   ·obtain ⟨hp,hc⟩:=hx ht
    by_cases hz:(ziY w ⟨0,0⟩ l).Credit=0
    ·exact ⟨acts',x,hr,by rw [hbu,hb],fun k hk=>by rw [hcn',hcn k hk],fun _=>by rw [he,if_pos hz];exact ⟨hp,hc⟩⟩
    ·by_cases hp0:x.p=0
     ·refine ⟨acts',x,hr,by rw [hbu,hb],fun k hk=>by rw [hcn',hcn k hk],fun _=>?_⟩
      rw [he,if_neg hz]
      refine ⟨hp0,?_⟩
      rw [if_pos hp0] at hc ⊢
      show min (_-1) _<=_
      omega
     ·rw [if_neg hp0] at hc
      have hp1:=hX.p0
      refine ⟨_,_,hr.sel (by omega) (by omega),by rw [hbu,←hb];rfl,fun k hk=>by rw [hcn',←hcn k hk];rfl,fun _=>?_⟩
      rw [he,if_neg hz]
      refine ⟨rfl,?_⟩
      show min (_-1) (if (0:Int)=0 then _ else _)<=min (x.c-1) (total al-total x.l)
      rw [if_pos rfl]
      show min (_-1) (total al-total x.l-1)<=_
      omega
   ·exact ⟨acts',x,hr,by rw [hbu,hb],fun k hk=>by rw [hcn',hcn k hk],fun ht'=>absurd ht' ht⟩
  ·have hck:cnt k (l++[(k:Int)])=cnt k l+1:=by rw [zfA,zgg,if_pos rfl]
   have hlt:x.l.getD k 0<al.getD k 0:=by
    have:=hbag k hk
    rw [hcn k hk]
    omega
   have ht:total x.l<total al:=zlS (by rw [hX.len,hl]) hX.le hlt
   obtain ⟨hp,hc⟩:=hx ht
   have hkl:k<x.l.length:=by rw [hX.len];exact hk
   have he:ziY w ⟨0,0⟩ (l++[(k:Int)])=⟨(turn w x.p (coin w k)).1,(ziY w ⟨0,0⟩ l).Credit+(turn w x.p (coin w k)).2⟩:=by
    rw [zeV]
    simp only [ziY,zhi]
    rw [if_pos (by omega),hp]
   have hcoin:=zc5 h (a:=(k:Int)) (by omega) (by omega)
   have htr:=zbv h hX.p0 hX.p1 (show 0<=coin w k by omega)
   have hc0:=hX.c0
   refine ⟨_,_,hr.coin hk (by omega),?_,fun j hj=>?_,fun ht'=>?_⟩
   ·rw [zfU]
    simp only [zeU]
    rw [if_pos (by omega),←hb,←hp]
    show x.b+_=x.b+(_+0)
    omega
   ·show (zgC x.l k).getD j 0=_
    rw [zhg hkl,hcn j hj,zfA,zgg]
    congr 1
    by_cases e:k=j
    ·subst e;simp
    ·rw [if_neg e,if_neg (by omega)]
   ·rw [he]
    refine ⟨rfl,?_⟩
    show min (_+_) (if (turn w x.p (coin w k)).1=0 then total al-total (zgC x.l k)-1 else total al-total (zgC x.l k))<=min (x.c+_) (total al-(total x.l+1))
    rw [zfB hkl]
    by_cases h1:x.p=0
    ·rw [if_pos h1] at hc
     split<;>omega
    ·rw [if_neg h1] at hc
     split<;>omega
theorem zfV {l m:List Int} {n:Nat} (h1:l.length=n) (h2:m.length=n) (h:∀k:Nat,k<n->l.getD k 0=m.getD k 0):l=m:=by
 apply List.ext_getElem (by omega)
 intro k a b
 have:=h k (by omega)
 simpa [List.getD_eq_getElem?_getD,a,b] using this
theorem zzs {w:Wheel} {al:List Int} (h:OkW w) (hl:al.length=w.Coins.length) (hnn:∀k,0<=al.getD k 0) {v:Int}:Can w al v↔∃acts x,RP (clT (total al)) w al acts x/\x.l=al/\x.b=v:=by
 constructor
 ·rintro ⟨acts,hok,hbag,hb⟩
  obtain ⟨acts',x,hr,h1,h2,_⟩:=ztV h hl hnn acts.length acts rfl hok fun k hk=>Int.le_of_eq (hbag k hk)
  have hX:=hr.ok h hl hnn (zkd _)
  exact ⟨acts',x,hr,zfV hX.len hl fun k hk=>by rw [h2 k hk,hbag k hk],by rw [h1,hb]⟩
 ·rintro ⟨acts,x,hr,rfl,rfl⟩
  have hX:=hr.ok h hl hnn (zkd _)
  exact ⟨acts,hX.ok,fun k _=>hX.bag k,hX.buys⟩
theorem RP.short {w:Wheel} {al:List Int} (h:OkW w) (hl:al.length=w.Coins.length) (hnn:∀k,0<=al.getD k 0) {acts:List Int} {x:Pn} (hr:RP (clT (total al)) w al acts x) :
  x.c<=total al-total x.l/\((acts.length:Int)<=2*total x.l\/x.p=0/\total x.l<total al/\(acts.length:Int)<=2*total x.l+1):=by
 induction hr with
 | zero =>
  have h0:total (zl w)=0:=zjK _
  have h1:0<=total al:=zdk (zgE hnn)
  refine ⟨?_,.inl ?_⟩
  ·show (0:Int)<=total al-total (zl w)
   omega
  ·show ((0:Nat):Int)<=2*total (zl w)
   omega
 | @sel acts x hr hc hp ih =>
  refine ⟨?_,.inr ⟨rfl,?_,?_⟩⟩
  ·show min (x.c-1) (total al-total x.l)<=total al-total x.l
   omega
  ·show total x.l<total al
   omega
  ·show ((acts++[-1]).length:Int)<=2*total x.l+1
   rw [List.length_append,List.length_singleton]
   rcases ih.2 with h1 | ⟨h1,_⟩
   ·omega
   ·omega
 | @coin acts x k hr hk hne ih =>
  have hX:=hr.ok h hl hnn (zkd _)
  have hkl:k<x.l.length:=by rw [hX.len];exact hk
  refine ⟨?_,.inl ?_⟩
  ·show min _ (total al-(total x.l+1))<=total al-total (zgC x.l k)
   rw [zfB hkl]
   omega
  ·show ((acts++[(k:Int)]).length:Int)<=2*total (zgC x.l k)
   rw [zfB hkl,List.length_append,List.length_singleton]
   rcases ih.2 with h1 | ⟨_,_,h1⟩<;>omega
def lvl (cl:Int->Int->Int) (w:Wheel):Nat->List Pn
 | 0=>[zmg w]
 | t+1=>(lvl cl w t++(lvl cl w t).map (zuh cl)).flatMap fun x=>(List.range w.Coins.length).map fun k=>zr3 cl w x k
def lvs (cl:Int->Int->Int) (w:Wheel) (t:Nat):List Pn:=lvl cl w t++(lvl cl w t).map (zuh cl)
def zvx (cl:Int->Int->Int) (w:Wheel):Nat->List Pn
 | 0=>lvs cl w 0
 | t+1=>zvx cl w t++lvs cl w (t+1)
theorem zke {α β:Type} {f:α->List β} {c:Nat}:∀{l:List α},(∀x,x∈l->(f x).length<=c)->(l.flatMap f).length<=l.length*c
 | [],_=>by simp
 | x::l,h=>by
  have h1:=h x (by simp)
  have h2:=zke (f:=f) (c:=c) (l:=l) fun y hy=>h y (by simp [hy])
  simp only [List.flatMap_cons,List.length_append,List.length_cons,Nat.add_mul,Nat.one_mul]
  omega
theorem zpI (cl:Int->Int->Int) {w:Wheel} (hk:w.Coins.length<=3):∀t,(lvl cl w t).length<=6 ^ t
 | 0=>by simp [lvl]
 | t+1=>by
  have h1:=zpI cl hk t
  unfold lvl
  refine Nat.le_trans (zke (c:=3) fun x _=>by simp;exact hk) ?_
  rw [List.length_append,List.length_map,Nat.pow_succ]
  omega
theorem zu0 (cl:Int->Int->Int) {w:Wheel} (hk:w.Coins.length<=3) {t:Nat} (ht:t<=5):(zvx cl w t).length<=93312:=by
 have key:∀t,t<=5->(zvx cl w t).length<=(t+1)*15552:=by
  intro t
  induction t with
  | zero =>
   intro _
   have:=zpI cl hk 0
   simp only [zvx,lvs,List.length_append,List.length_map]
   omega
  | succ t ih =>
   intro ht
   have h1:=ih (by omega)
   have h2:=zpI cl hk (t+1)
   have h3:6 ^ (t+1)<=6 ^ 5:=Nat.pow_le_pow_right (by omega) ht
   simp only [zvx,lvs,List.length_append,List.length_map]
   have:(6:Nat) ^ 5=7776:=by decide
   omega
 have:=key t ht
 omega
theorem RP.level {cl:Int->Int->Int} {w:Wheel} {al:List Int} (h:OkW w) (hl:al.length=w.Coins.length) (hnn:∀k,0<=al.getD k 0) (hcl:Clamp cl (total al)) {acts:List Int} {x:Pn} (hr:RP cl w al acts x):x∈lvl cl w (total x.l).toNat\/x.p=0/\x∈(lvl cl w (total x.l).toNat).map (zuh cl):=by
 induction hr with
 | zero =>
  refine .inl ?_
  have:total (zmg w).l=0:=zjK _
  rw [this]
  simp [lvl]
 | @sel acts x hr hc hp ih =>
  refine .inr ⟨rfl,?_⟩
  show zuh cl x∈(lvl cl w (total x.l).toNat).map (zuh cl)
  rcases ih with ih | ⟨h0,_⟩
  ·exact List.mem_map.2 ⟨x,ih,rfl⟩
  ·omega
 | @coin acts x k hr hk hne ih =>
  have hX:=hr.ok h hl hnn hcl
  have hkl:k<x.l.length:=by rw [hX.len];exact hk
  have h0:0<=total x.l:=zdk (zgE hX.nn)
  refine .inl ?_
  have e:(total (zr3 cl w x k).l).toNat=(total x.l).toNat+1:=by
   show (total (zgC x.l k)).toNat=_
   rw [zfB hkl]
   omega
  rw [e]
  unfold lvl
  refine List.mem_flatMap.2 ⟨x,?_,List.mem_map.2 ⟨k,List.mem_range.2 hk,rfl⟩⟩
  rcases ih with ih | ⟨_,ih⟩
  ·exact List.mem_append_left _ ih
  ·exact List.mem_append_right _ ih
theorem zqR (cl:Int->Int->Int) (w:Wheel):∀{t m:Nat},m<=t->∀x,x∈lvs cl w m->x∈zvx cl w t
 | 0,m,h,x,hx=>by
  obtain rfl:m=0:=by omega
  exact hx
 | t+1,m,h,x,hx=>by
  by_cases e:m=t+1
  ·subst e
   exact List.mem_append_right _ hx
  ·exact List.mem_append_left _ (zqR cl w (by omega) x hx)
theorem RP.up {cl:Int->Int->Int} {w:Wheel} {al:List Int} (h:OkW w) (hl:al.length=w.Coins.length) (hnn:∀k,0<=al.getD k 0) (hcl:Clamp cl (total al)) {acts:List Int} {x:Pn} (hr:RP cl w al acts x) {t:Nat} (ht:total x.l<=t):x∈zvx cl w t:=by
 refine zqR cl w (m:=(total x.l).toNat) (by omega) x ?_
 rcases hr.level h hl hnn hcl with h1 | ⟨_,h1⟩
 ·exact List.mem_append_left _ h1
 ·exact List.mem_append_right _ h1
theorem zkf {α:Type} [DecidableEq α]:∀{l m:List α},l.Nodup->(∀x,x∈l->x∈m)->l.length<=m.length
 | [],_,_,_=>Nat.zero_le _
 | x::l,m,hn,h=>by
  have hn:=List.nodup_cons.1 hn
  have hx:=h x (by simp)
  have:=zkf (l:=l) (m:=m.erase x) hn.2 fun y hy=>by
   have hne:y≠x:=fun e=>hn.1 (by rw [←e];exact hy)
   exact (List.mem_erase_of_ne hne).2 (h y (by simp [hy]))
  rw [List.length_erase_of_mem hx] at this
  have:=List.length_pos_of_mem hx
  simp only [List.length_cons]
  omega
theorem ztW {n:Nat} {l:List Int} (h4:l.length<=4) (hnn:∀k,0<=l.getD k 0/\l.getD k 0<=1000) (hn:10<=n):zdP n (zcg l)=some (total l):=by
 obtain ⟨m,rfl⟩:∃m,n=m+5:=⟨n-5,by omega⟩
 have h0:=hnn 0
 have h1:=hnn 1
 have h2:=hnn 2
 have h3:=hnn 3
 have ht:=zoy h4
 unfold zdP
 have e:∀(m:Nat) (s k:Int) (j:Nat),k=j->j<4->0<=s->s<=100000->zbo (zcg l) (m+1) s k=zbo (zcg l) m (s+l.getD j 0) (k+1):=fun m s k j hk hj hs hs2=>by
  subst hk
  have hb:=hnn j
  simp only [zbo,zc7]
  rw [if_pos (by simp;omega)]
  rw [show idx ([(zcg l).c0,(zcg l).c1,(zcg l).c2,(zcg l).c3]:List Int) (j:Int)=some (l.getD j 0) from ziX hj,zaa,zaU (by omega) (by omega),zaU (by omega) (by omega)]
 rw [e (m+4) 0 0 0 rfl (by omega) (by omega) (by omega),e (m+3) _ (0+1) 1 rfl (by omega) (by omega) (by omega),e (m+2) _ (0+1+1) 2 rfl (by omega) (by omega) (by omega),e (m+1) _ (0+1+1+1) 3 rfl (by omega) (by omega) (by omega)]
 simp only [zbo,zc7,zdB]
 rw [if_neg (by simp)]
 congr 1
 omega
def pnt (x:Pn):PointT_:=⟨⟨x.p,x.c⟩,zcg x.l,x.b⟩
theorem zwm {x y:Pn} (h:pnt x=pnt y) (hl:x.l.length=y.l.length) (h4:x.l.length<=4):x=y:=by
 obtain ⟨a,b,c,d⟩:=x
 obtain ⟨a',b',c',d'⟩:=y
 simp only [pnt,PointT_.mk.injEq,Stand.mk.injEq] at h
 obtain ⟨⟨rfl,rfl⟩,h1,rfl⟩:=h
 obtain rfl:=znD h1 hl h4
 rfl
structure Cx (w:Wheel) (al:List Int):Prop where
 v:valid w=true
 hl:al.length=w.Coins.length
 nn:∀k,0<=al.getD k 0
 k3:w.Coins.length<=3
 t5:total al<=5
theorem Cx.h {w:Wheel} {al:List Int} (C:Cx w al):OkW w:=zfj C.v
theorem zoT {w:Wheel} {al acts:List Int} {x:Pn} (C:Cx w al) (hr:RP (clT (total al)) w al acts x):OkX w al acts x/\total x.l<=total al/\(∀k,0<=x.l.getD k 0/\x.l.getD k 0<=5)/\zbN (pnt x)=true:=by
 have hX:=hr.ok C.h C.hl C.nn (zkd _)
 have ht:total x.l<=total al:=zgD (by rw [hX.len,C.hl]) hX.le
 have hk:∀k,0<=x.l.getD k 0/\x.l.getD k 0<=5:=fun k=>by
  have:=zf4 (zgE hX.nn) k
  have:=C.t5
  omega
 refine ⟨hX,ht,hk,?_⟩
 have h0:=hk 0
 have h1:=hk 1
 have h2:=hk 2
 have h3:=hk 3
 have h4:=hX.p0
 have h5:=hX.p1
 have h6:=hX.c0
 have h7:=hX.cb
 have h8:=hX.bt
 have h9:=C.h.r2
 have h10:=C.t5
 unfold zbN pnt zcg
 simp only [List.all_cons,List.all_nil,Bool.and_true,Bool.and_eq_true]
 exact ⟨zfT (by omega) (by omega),zfT (by omega) (by omega),zfT (by omega) (by omega),zfT (by omega) (by omega),zfT (by omega) (by omega),zfT (by omega) (by omega),zfT (by omega) (by omega)⟩
structure WI (w:Wheel) (al:List Int) (A:PointT_->List Int) (M:List (PointT_×Step_)):Prop where
 nd:(M.map (·.1)).Nodup
 pt:∀k st,(k,st)∈M->(∃X,k=pnt X/\RP (clT (total al)) w al (A k) X)/\(st.act=-2/\A k=[]\/st.act≠-2/\zbm M st.from_=true/\A k=A st.from_++[st.act])
structure Ext (A:PointT_->List Int) (M:List (PointT_×Step_)) (q:List PointT_) (A':PointT_->List Int) (M':List (PointT_×Step_)) (q':List PointT_):Prop where
 ex:∃N:List (PointT_×Step_),M'=M++N/\q'=q++N.map (·.1)
 same:∀k,zbm M k=true->A' k=A k
theorem Ext.has {A M q A' M' q'} (h:Ext A M q A' M' q') {k:PointT_} (hk:zbm M k=true):zbm M' k=true:=by
 obtain ⟨N,rfl,_⟩:=h.ex
 rw [zbj] at hk ⊢
 rw [List.map_append]
 exact List.mem_append_left _ hk
theorem Ext.refl (A M q):Ext A M q A M q:=⟨⟨[],by simp,by simp⟩,fun _ _=>rfl⟩
theorem Ext.trans {A M q A' M' q' A2 M2 q2} (h:Ext A M q A' M' q') (g:Ext A' M' q' A2 M2 q2):Ext A M q A2 M2 q2:=by
 refine ⟨?_,fun k hk=>by rw [g.same k (h.has hk),h.same k hk]⟩
 obtain ⟨N,rfl,rfl⟩:=h.ex
 obtain ⟨N',rfl,rfl⟩:=g.ex
 exact ⟨N++N',by simp,by simp⟩
theorem Ext.len {A M q A' M' q'} (h:Ext A M q A' M' q'):M.length+q'.length=M'.length+q.length:=by
 obtain ⟨N,rfl,rfl⟩:=h.ex
 simp
 omega
theorem Ext.out {A M q A' M' q'} (h:Ext A M q A' M' q') {k:PointT_} (hk:zbm M' k=true) (hq:k∉q'):zbm M k=true/\k∉q:=by
 obtain ⟨N,rfl,rfl⟩:=h.ex
 rw [zbj,List.map_append] at hk
 rw [zbj]
 simp only [List.mem_append,not_or] at hk hq
 rcases hk with hk | hk
 ·exact ⟨hk,hq.1⟩
 ·exact absurd hk hq.2
theorem WI.key {w al A M} (hW:WI w al A M) {k:PointT_} (hk:zbm M k=true):∃X,k=pnt X/\RP (clT (total al)) w al (A k) X:=(hW.pt k _ (zg8 zbc hk)).1
theorem WI.len {w al A M} (C:Cx w al) (hW:WI w al A M):M.length<=93312:=by
 have h1:=zkf (m:=(zvx (clT (total al)) w 5).map pnt) hW.nd fun k hk=>by
  obtain ⟨X,rfl,hr⟩:=hW.key (zbj.2 hk)
  exact List.mem_map.2 ⟨X,hr.up C.h C.hl C.nn (zkd _) (by have:=(zoT C hr).2.1;have:=C.t5;omega),rfl⟩
 rw [List.length_map,List.length_map] at h1
 have h2:=zu0 (clT (total al)) C.k3 (t:=5) (by omega)
 omega
theorem WI.mok {w al A M} (C:Cx w al) (hW:WI w al A M) {acts:List Int} {X:Pn} (hr:RP (clT (total al)) w al acts X):mok zbN M (pnt X)=true:=by
 unfold Go.AM.mok
 rw [(zoT C hr).2.2.2,Bool.true_and,Bool.and_eq_true]
 refine ⟨List.all_eq_true.2 fun p hp=>?_,decide_eq_true hW.nd⟩
 obtain ⟨Y,e,hr'⟩:=(hW.pt p.1 p.2 hp).1
 show zbN p.1=true
 rw [e]
 exact (zoT C hr').2.2.2
theorem Cx.len4 {w al} (C:Cx w al):al.length<=4:=by rw [C.hl];have:=C.k3;omega
theorem zvy {w al} (C:Cx w al) {n:Nat} (hn:10<=n) {A M q} (hW:WI w al A M) {X Y:Pn} {a:Int} (hx:zbm M (pnt X)=true) (hr:RP (clT (total al)) w al (A (pnt X)++[a]) Y) (ha:a≠-2) {y:PointT_} (e1:y.in_=zcg Y.l) (e2:y.bought=Y.b) (e3:y.Stand.Place=Y.p) (e4:min y.Stand.Credit (total al-total Y.l)=Y.c) (hq:q.length<=M.length) :
  ∃A' M' q',zeR n (zcg al) (pnt X) a y (M,q)=some (M',q')/\WI w al A' M'/\Ext A M q A' M' q'/\zbm M' (pnt Y)=true:=by
 obtain ⟨hY,ht,hk,hok⟩:=zoT C hr
 have h4:=C.len4
 have hal:∀k,0<=al.getD k 0/\al.getD k 0<=1000:=fun k=>by
  have h1:=zf4 (zgE C.nn) k
  have h2:=C.t5
  omega
 have hnn:0<=total Y.l:=zdk (zgE hY.nn)
 have h5:=C.t5
 have e:zeD y (w64 (total al-total Y.l))=pnt Y:=by
  rw [zaU (by omega) (by omega)]
  show (⟨⟨y.Stand.Place,min y.Stand.Credit (total al-total Y.l)⟩,y.in_,y.bought⟩:PointT_)=_
  rw [e1,e2,e3,e4]
  rfl
 have hlen:=hW.len C
 unfold zeR
 rw [ztW h4 hal hn,zaa,e1,ztW (by rw [hY.len];have:=C.k3;omega) (fun k=>by have:=hk k;omega) hn,zaa]
 simp only [e]
 rw [show zg3 zbN zbc M (pnt Y)=some (zhh zbc M (pnt Y)) from if_pos (hW.mok C hr),zaa]
 cases hh:zbm M (pnt Y) with
 | true =>
  rw [if_pos rfl]
  exact ⟨A,M,q,rfl,hW,Ext.refl A M q,hh⟩
 | false =>
  rw [if_neg (by simp),show zhO zbN M (pnt Y) ⟨a,pnt X⟩=some (zcW M (pnt Y) ⟨a,pnt X⟩) from if_pos (hW.mok C hr),zaa,if_pos (by omega),(zg4 zbc M _ hh).2.2]
  have hno:∀k,zbm M k=true->k≠pnt Y:=fun k hk he=>by rw [he,hh] at hk;cases hk
  refine ⟨fun k=>if k=pnt Y then A (pnt X)++[a] else A k,_,_,rfl,⟨?_,fun k st hm=>?_⟩,⟨⟨[(pnt Y,⟨a,pnt X⟩)],rfl,rfl⟩,fun k hk=>if_neg (hno k hk)⟩,?_⟩
  ·rw [List.map_append,List.nodup_append]
   refine ⟨hW.nd,by simp,fun u hu v hv=>?_⟩
   simp only [List.map_cons,List.map_nil,List.mem_singleton] at hv
   rw [hv]
   exact hno u (zbj.2 hu)
  ·have hmono:∀k,zbm M k=true->zbm (M++[(pnt Y,(⟨a,pnt X⟩:Step_))]) k=true:=fun k hk=>by
    rw [zbj] at hk ⊢
    rw [List.map_append]
    exact List.mem_append_left _ hk
   rcases List.mem_append.1 hm with hm | hm
   ·have hk:zbm M k=true:=zbj.2 (List.mem_map.2 ⟨_,hm,rfl⟩)
    obtain ⟨p1,p2⟩:=hW.pt k st hm
    simp only [if_neg (hno k hk)]
    refine ⟨p1,?_⟩
    rcases p2 with p2 | ⟨p2,p3,p4⟩
    ·exact .inl p2
    ·exact .inr ⟨p2,hmono _ p3,by rw [if_neg (hno _ p3)];exact p4⟩
   ·simp only [List.mem_singleton,Prod.mk.injEq] at hm
    obtain ⟨rfl,rfl⟩:=hm
    simp only [if_pos rfl]
    exact ⟨⟨Y,rfl,hr⟩,.inr ⟨ha,hmono _ hx,by rw [if_neg (hno _ hx)];simp⟩⟩
  ·rw [zbj,List.map_append]
   exact List.mem_append_right _ (by simp)
theorem zwn {w:Wheel} (hv:valid w=true) {n:Nat} (hn:200<=n) {p:Int} (h0:0<=p) (h1:p<w.Round):zfe n w ⟨p,1⟩ [-1]=some (⟨0,0⟩,1,0):=by
 have h:=zfj hv
 rw [zvs (h.len (by omega)) hn _ _ (by simp) (by simp;omega)]
 have e:zhi w ⟨p,1⟩ (-1)=(⟨0,0⟩,true):=by
  unfold zhi
  rw [if_neg (by omega),if_neg (by simp)]
  rfl
 unfold zAX
 rw [if_pos hv,if_pos ⟨by simp only [zg0,ziW,Bool.and_eq_true,zbK];omega,by simp,by simp [znG]⟩]
 simp only [zr1,e]
 rfl
theorem zu1 {w:Wheel} (hv:valid w=true) {n:Nat} (hn:200<=n) {p:Int} (h0:0<=p) (h1:p<w.Round) {k:Nat} (hk:k<w.Coins.length):zfe n w ⟨p,0⟩ [(k:Int)]=some (⟨(turn w p (coin w k)).1,(turn w p (coin w k)).2⟩,0,0):=by
 have h:=zfj hv
 rw [zvs (h.len (by omega)) hn _ _ (by simp) (by simp;omega)]
 have e:zhi w ⟨p,0⟩ (k:Int)=(⟨(turn w p (coin w k)).1,(turn w p (coin w k)).2⟩,false):=by
  unfold zhi
  rw [if_pos (by omega)]
  simp
 unfold zAX
 rw [if_pos hv,if_pos ⟨by simp only [zg0,ziW,Bool.and_eq_true,zbK];omega,by simp,by simp [zlR hk]⟩]
 simp only [zr1,e]
 rfl
theorem ztX {w al} (C:Cx w al) {n:Nat} (hn:200<=n) {b:Box_} (hb:b.Box.Wheel=w) {A M q} (hW:WI w al A M) {X:Pn} (hx:zbm M (pnt X)=true) (hr:RP (clT (total al)) w al (A (pnt X)) X) (hq:q.length<=M.length) :
  ∃A' M' q',zfE n b (zcg al) (pnt X) (M,q)=some (M',q')/\WI w al A' M'/\Ext A M q A' M' q'/\(0<X.c->0<X.p->zbm M' (pnt (zuh (clT (total al)) X))=true):=by
 obtain ⟨hX,ht,hk,hok⟩:=zoT C hr
 have h5:=C.t5
 have h6:=hX.cb
 have h7:=hX.bt
 unfold zfE
 rw [hb]
 show ∃A' M' q',(if decide (X.c>0)=true then if decide (X.p>0)=true then _ else _ else _)=_/\_
 by_cases hc:0<X.c
 ·by_cases hp:0<X.p
  ·rw [if_pos (by simpa using hc),if_pos (by simpa using hp)]
   show ∃A' M' q',Option.bind (zfe n w ⟨X.p,1⟩ [-1]) _=_/\_
   rw [zwn C.v hn hX.p0 hX.p1,zaa]
   obtain ⟨A',M',q',g1,g2,g3,g4⟩:=zvy (n:=n) C (by omega) hW (Y:=zuh (clT (total al)) X) (a:=-1) (y:=⟨⟨0,w64 (X.c-1)⟩,zcg X.l,X.b⟩) hx (hr.sel hc hp) (by omega) rfl rfl rfl (by
    show min (w64 (X.c-1)) (total al-total X.l)=min (X.c-1) (total al-total X.l)
    rw [zaU (by omega) (by omega)]) hq
   exact ⟨A',M',q',g1,g2,g3,fun _ _=>g4⟩
  ·rw [if_pos (by simpa using hc),if_neg (by simpa using hp)]
   exact ⟨A,M,q,rfl,hW,Ext.refl A M q,fun _ h=>absurd h hp⟩
 ·rw [if_neg (by simpa using hc)]
  exact ⟨A,M,q,rfl,hW,Ext.refl A M q,fun h=>absurd h hc⟩
theorem zlT {w al} (C:Cx w al) {n:Nat} (hn:200<=n) {b:Box_} (hb:b.Box.Wheel=w) {X:Pn}:∀(d i m:Nat),i+d=w.Coins.length->d<m->∀{A M q},WI w al A M->zbm M (pnt X)=true->RP (clT (total al)) w al (A (pnt X)) X->q.length<=M.length ->
  ∃A' M' q',zbA n b (zcg al) (pnt X) m (i:Int) (M,q)=some (M',q')/\WI w al A' M'/\Ext A M q A' M' q'/\∀k:Nat,i<=k->k<w.Coins.length->X.l.getD k 0≠al.getD k 0->zbm M' (pnt (zr3 (clT (total al)) w X k))=true
 | d,i,0,_,hm,_,_,_,_,_,_,_=>absurd hm (Nat.not_lt_zero _)
 | 0,i,m+1,hi,_,A,M,q,hW,hx,hr,hq=>by
  unfold zbA
  rw [hb,if_neg (by simp;omega)]
  exact ⟨A,M,q,rfl,hW,Ext.refl A M q,fun k h1 h2=>by omega⟩
 | d+1,i,m+1,hi,hm,A,M,q,hW,hx,hr,hq=>by
  obtain ⟨hX,ht,hk,hok⟩:=zoT C hr
  have h5:=C.t5
  have h6:=hX.cb
  have h7:=hX.bt
  have h8:=hX.c0
  have h9:=C.k3
  have h4:=C.len4
  have hki:=hk i
  have hil:i<X.l.length:=by rw [hX.len];omega
  unfold zbA
  rw [hb,if_pos (by simp;omega)]
  show ∃A' M' q',Option.bind (idx (ztJ X.l) (i:Int)) _=_/\_
  rw [ziX (by omega),zaa,show idx ([(zcg al).c0,(zcg al).c1,(zcg al).c2,(zcg al).c3]:List Int) (i:Int)=some (al.getD i 0) from ziX (by omega),zaa,zaU (x:=(i:Int)+1) (by omega) (by omega)]
  by_cases he:X.l.getD i 0=al.getD i 0
  ·rw [if_pos (by simpa using he)]
   obtain ⟨A',M',q',g1,g2,g3,g4⟩:=zlT C hn hb d (i+1) m (by omega) (by omega) hW hx hr hq
   refine ⟨A',M',q',g1,g2,g3,fun k k1 k2 k3=>?_⟩
   by_cases e:k=i
   ·subst e
    exact absurd he k3
   ·exact g4 k (by omega) k2 k3
  ·rw [if_neg (by simpa using he)]
   show ∃A' M' q',Option.bind (zfe n w ⟨X.p,0⟩ [(i:Int)]) _=_/\_
   have hcoin:=zc5 C.h (a:=(i:Int)) (by omega) (by omega)
   have htr:=zbv C.h hX.p0 hX.p1 (show 0<=coin w i by omega)
   rw [zu1 C.v hn hX.p0 hX.p1 (by omega),zaa,zaU (x:=X.l.getD i 0+1) (by omega) (by omega)]
   rw [show zrr ([(pnt X).in_.c0,(pnt X).in_.c1,(pnt X).in_.c2,(pnt X).in_.c3]:List Int) (i:Int) (X.l.getD i 0+1)=some (ztJ (zgC X.l i)) from znC hil (by rw [hX.len];omega),zaa]
   obtain ⟨A1,M1,q1,g1,g2,g3,g4⟩:=zvy (n:=n) C (by omega) hW (Y:=zr3 (clT (total al)) w X i) (a:=(i:Int)) (y:=⟨⟨(turn w X.p (coin w i)).1,w64 (X.c+(turn w X.p (coin w i)).2)⟩,zcg (zgC X.l i),w64 (X.b+(turn w X.p (coin w i)).2)⟩) hx (hr.coin (by omega) he) (by omega) rfl (by
     show w64 _=X.b+_
     rw [zaU (by omega) (by omega)]) rfl (by
     show min (w64 (X.c+(turn w X.p (coin w i)).2)) (total al-total (zgC X.l i))=min (X.c+(turn w X.p (coin w i)).2) (total al-(total X.l+1))
     rw [zaU (by omega) (by omega),zfB hil]) hq
   have hl1:=g3.len
   obtain ⟨A',M',q',k1,k2,k3,k4⟩:=zlT C hn hb d (i+1) m (by omega) (by omega) g2 (g3.has hx) (by rw [g3.same _ hx];exact hr) (show q1.length<=M1.length by omega)
   refine ⟨A',M',q',?_,k2,g3.trans k3,fun k j1 j2 j3=>?_⟩
   ·show Option.bind (zeR n (zcg al) (pnt X) (i:Int) ⟨⟨(turn w X.p (coin w i)).1,w64 (X.c+(turn w X.p (coin w i)).2)⟩,zcg (zgC X.l i),w64 (X.b+(turn w X.p (coin w i)).2)⟩ (M,q)) _=_
    rw [g1,zaa]
    exact k1
   ·by_cases e:k=i
    ·subst e
     exact k3.has g4
    ·exact k4 k (by omega) j2 j3
def Closed (w:Wheel) (al:List Int) (M:List (PointT_×Step_)) (X:Pn):Prop:=(0<X.c->0<X.p->zbm M (pnt (zuh (clT (total al)) X))=true)/\∀k:Nat,k<w.Coins.length->X.l.getD k 0≠al.getD k 0->zbm M (pnt (zr3 (clT (total al)) w X k))=true
theorem Closed.ext {w al A M q A' M' q'} (h:Ext A M q A' M' q') {X:Pn} (hc:Closed w al M X):Closed w al M' X:=⟨fun a b=>h.has (hc.1 a b),fun k a b=>h.has (hc.2 k a b)⟩
theorem zoD {w al} (C:Cx w al) {n:Nat} (hn:200<=n) {b:Box_} (hb:b.Box.Wheel=w):∀(m:Nat) {A M q},93312+q.length<m+M.length->WI w al A M->q.length<=M.length->(∀k,k∈q->zbm M k=true)->zbm M (pnt (zmg w))=true->(∀acts X,RP (clT (total al)) w al acts X->zbm M (pnt X)=true->pnt X∉q->Closed w al M X) ->
  ∃A' M',zdZ n b (zcg al) m (M,q)=some M'/\WI w al A' M'/\∀acts X,RP (clT (total al)) w al acts X->zbm M' (pnt X)=true
 | 0,A,M,q,hf,hW,_,_,_,_=>by
  have:=hW.len C
  omega
 | m+1,A,M,[],hf,hW,hq,hqm,hz,hcl=>by
  refine ⟨A,M,rfl,hW,fun acts X hr=>?_⟩
  induction hr with
  | zero=>exact hz
  | sel hr hc hp ih=>exact (hcl _ _ hr ih (by simp)).1 hc hp
  | coin hr hk hne ih=>exact (hcl _ _ hr ih (by simp)).2 _ hk hne
 | m+1,A,M,x::q,hf,hW,hq,hqm,hz,hcl=>by
  have hx:zbm M x=true:=hqm x (by simp)
  obtain ⟨X,rfl,hr⟩:=hW.key hx
  simp only [List.length_cons] at hf hq
  obtain ⟨A1,M1,q1,g1,g2,g3,g4⟩:=ztX C hn hb hW hx hr (show q.length<=M.length by omega)
  have hl1:=g3.len
  obtain ⟨A2,M2,q2,k1,k2,k3,k4⟩:=zlT C hn hb w.Coins.length 0 n (by omega) (by have:=C.k3;omega) g2 (g3.has hx) (by rw [g3.same _ hx];exact hr) (show q1.length<=M1.length by omega)
  have hl2:=k3.len
  have hE:=g3.trans k3
  have hXc:Closed w al M2 X:=⟨fun a b=>k3.has (g4 a b),fun k a b=>k4 k (Nat.zero_le _) a b⟩
  have hX:=zoT C hr
  obtain ⟨A',M',j1,j2,j3⟩:=zoD C hn hb m (A:=A2) (M:=M2) (q:=q2) (by omega) k2 (by omega) (fun k hk=>by
   obtain ⟨N,e1,e2⟩:=hE.ex
   rw [e2] at hk
   rcases List.mem_append.1 hk with hk | hk
   ·exact hE.has (hqm k (List.mem_cons_of_mem _ hk))
   ·rw [zbj,e1,List.map_append]
    exact List.mem_append_right _ hk) (hE.has hz) fun acts Y hY hm hnq=>by
   obtain ⟨o1,o2⟩:=hE.out hm hnq
   by_cases e:pnt Y=pnt X
   ·obtain rfl:=zwm e (by rw [(zoT C hY).1.len,hX.1.len]) (by rw [(zoT C hY).1.len];have:=C.k3;omega)
    exact hXc
   ·exact (hcl acts Y hY o1 (by simp only [List.mem_cons,not_or];exact ⟨e,o2⟩)).ext hE
  refine ⟨A',M',?_,j2,j3⟩
  unfold zdZ
  simp only
  rw [g1,zaa]
  show Option.bind (zbA n b (zcg al) (pnt X) n ((0:Nat):Int) (M1,q1)) _=_
  rw [k1,zaa]
  exact j1
theorem zqS (w:Wheel):pnt (zmg w)=zaP:=by
 have h:=fun k=>zkc w k
 unfold pnt zmg zcg
 simp only [h]
theorem ztY {w al} (C:Cx w al) {n:Nat} (hn:100000<=n) {b:Box_} (hb:b.Box.Wheel=w):∃A M,zdS n (some b) (zcg al)=some M/\WI w al A M/\∀acts X,RP (clT (total al)) w al acts X->zbm M (pnt X)=true:=by
 have hz:zbm [(zaP,(⟨-2,zaP⟩:Step_))] (pnt (zmg w))=true:=by rw [zqS];simp [zbm]
 exact zoD C (by omega) hb n (A:=fun _=>[]) (M:=[(zaP,⟨-2,zaP⟩)]) (q:=[zaP]) (by simp;omega) ⟨by simp,fun k st hm=>by
  simp only [List.mem_singleton,Prod.mk.injEq] at hm
  obtain ⟨rfl,rfl⟩:=hm
  exact ⟨⟨zmg w,(zqS w).symm,.zero⟩,.inl ⟨rfl,rfl⟩⟩⟩ (by simp) (by simp [zbm]) hz fun acts X hr hm hnq=>by
  exfalso
  rw [zbj] at hm
  exact hnq hm
theorem ztZ {w al} (C:Cx w al) {A M} (hW:WI w al A M):∀(m:Nat) {k:PointT_} {acts:List Int},zbm M k=true->(A k).length<m->acts.length+(A k).length<100000->zek M m (zhh zbc M k) acts=some (acts++(A k).reverse)
 | 0,k,acts,hk,hm,_=>absurd hm (Nat.not_lt_zero _)
 | m+1,k,acts,hk,hm,hl=>by
  unfold zek
  rcases (hW.pt k _ (zg8 zbc hk)).2 with ⟨h1,h2⟩ | ⟨h1,h2,h3⟩
  ·rw [if_neg (by simpa using h1),h2]
   simp
  ·rw [h3,List.length_append,List.length_singleton] at hm hl
   obtain ⟨Y,e,hr⟩:=hW.key h2
   rw [if_pos (by simpa using h1),if_pos (by omega),show zg3 zbN zbc M (zhh zbc M k).from_=some (zhh zbc M (zhh zbc M k).from_) from if_pos (by rw [e];exact hW.mok C hr),zaa,ztZ C hW m h2 (by omega) (by simp;omega)]
   conv=>rhs;rw [h3]
   simp
def sums (a b:List Int):List Int:=List.zipWith (·+·) a b
theorem zhw {a b:List Int} (h:b.length=a.length):(sums a b).length=a.length:=by simp [sums,h]
theorem zgF:∀{a b:List Int},b.length=a.length->∀k,(sums a b).getD k 0=a.getD k 0+b.getD k 0
 | [],[],_,k=>by simp [sums]
 | [],_::_,h,_=>by simp at h
 | _::_,[],h,_=>by simp at h
 | x::a,y::b,h,0=>by simp [sums]
 | x::a,y::b,h,k+1=>by
  have:=zgF (a:=a) (b:=b) (by simpa using h) k
  simpa [sums] using this
theorem zgh:∀{a b:List Int},b.length=a.length->total (sums a b)=total a+total b
 | [],[],_=>rfl
 | [],_::_,h=>by simp at h
 | _::_,[],h=>by simp at h
 | x::a,y::b,h=>by
  have:=zgh (a:=a) (b:=b) (by simpa using h)
  simp only [sums,List.zipWith_cons_cons,total] at this ⊢
  omega
def zkK (l:List Int):Prop:=∀k,0<=l.getD k 0/\l.getD k 0<=1000
theorem zkK.sums {a b:List Int} (h:b.length=a.length) (ha:∀k,0<=a.getD k 0/\a.getD k 0<=500) (hb:∀k,0<=b.getD k 0/\b.getD k 0<=500):zkK (sums a b):=fun k=>by
 rw [zgF h]
 have:=ha k
 have:=hb k
 omega
theorem getD_get {l:List Int} {k:Nat} (h:k<l.length):l[k]=l.getD k 0:=by simp [h]
theorem zt0 {n:Nat} {a b:List Int} (h:b.length=a.length) (ha:zkK a) (hb:zkK b) (hl:a.length<1000) (hn:a.length<n):zib n a b=some (sums a b):=by
 have key:∀(d i m:Nat) (v:List Int),d=a.length-i->i<=a.length->d<m->v.length=i->zdA a b m v (i:Int)=some (v++(sums a b).drop i):=by
  intro d
  induction d with
  | zero =>
   intro i m v hd hi hm hv
   obtain ⟨m,rfl⟩:∃q,m=q+1:=⟨m-1,by omega⟩
   simp only [zdA,ze9,zf8]
   rw [if_neg (by simp;omega),List.drop_eq_nil_of_le (by rw [zhw h];omega),List.append_nil]
  | succ d ih =>
   intro i m v hd hi hm hv
   obtain ⟨m,rfl⟩:∃q,m=q+1:=⟨m-1,by omega⟩
   have h1:=ha i
   have h2:=hb i
   simp only [zdA,ze9]
   rw [if_pos (by simp;omega),zdL (by omega),zaa,zdL (by omega),zaa,getD_get,getD_get,zaU (by omega) (by omega),zjw (by simp;omega),zaa,zaU (by omega) (by omega)]
   have:=ih (i+1) m (v++[a.getD i 0+b.getD i 0]) (by omega) (by omega) (by omega) (by simp [hv])
   rw [show (((i+1:Nat)):Int)=(i:Int)+1 by simp] at this
   rw [this,List.drop_eq_getElem_cons (l:=sums a b) (i:=i) (by rw [zhw h];omega),getD_get,zgF h]
   simp
 have:=key a.length 0 n [] (by omega) (by omega) hn rfl
 rw [List.nil_append,List.drop_zero] at this
 exact this
theorem zu2 {n:Nat} {l:List Int} (hs:zkK l) (hl:l.length<1000) (hn:l.length<n):zhs n l=some (total l):=by
 have key:=zrX (F:=fun m i (s:Int)=>zdc l m s i) (xs:=l) (spec:=fun k s=>some (s+total k)) (I:=fun k s=>0<=s/\s+1000*k.length<=100000000/\∀x,x∈k->0<=x/\x<=1000) (by omega)
  (fun m s hI=>by simp [zdc,zeL,zfC,total])
  (fun m i x k s hI hx hi _ _ hrec=>by
   obtain ⟨i1,i2,i3⟩:=hI
   have hxr:=i3 x (by simp)
   simp only [List.length_cons] at i2
   simp only [zdc,zeL]
   rw [if_pos (by simpa using hi),hx,zaa,zaU (x:=s+x) (by omega) (by omega),hrec (s+x) ⟨by omega,by omega,fun y hy=>i3 y (by simp [hy])⟩]
   simp only [total]
   congr 1
   omega)
  l 0 n 0 (by omega) rfl (by omega) ⟨by omega,by omega,fun x hx=>by
   obtain ⟨k,hk⟩:=List.getElem?_of_mem hx
   have:=hs k
   rwa [List.getD_eq_getElem?_getD,hk] at this⟩
 rw [show zhs n l=_ from key,Int.zero_add]
theorem zim (a b c:Int):zdd a b c=some (inR a b c):=by
 unfold zdd zdm inR
 by_cases h:b<=a<;>simp [h]
theorem zkg (a b c:Int):zeY a b c=some (inR a b c):=by
 unfold zeY
 rw [zjH,zaa]
def zzt (b:Box):Prop:=∀k,k<b.Found.length->0<=b.Marked.getD k 0/\b.Marked.getD k 0<=b.Found.getD k 0
instance (b:Box):Decidable (zzt b):=inferInstanceAs (Decidable (∀k,k<b.Found.length->0<=b.Marked.getD k 0/\b.Marked.getD k 0<=b.Found.getD k 0))
structure BoxOk (b:Box):Prop where
 v:valid b.Wheel=true
 p:inR b.Plays 0 9999=true
 s:inR b.Skips 0 9=true
 f:zbl b.Wheel b.Found=true
 g:zbl b.Wheel b.Slugs=true
 ml:b.Marked.length=b.Found.length
 mkd:zzt b
 t:total b.Found+total b.Slugs<=12
open Classical in
noncomputable def zoE (b:Box):Bool:=decide (BoxOk b)
theorem zh5 {b:Box}:zoE b=true↔BoxOk b:=by simp [zoE]
theorem zjL {b:Box} (h:¬BoxOk b):zoE b=false:=by simp [zoE,h]
def zw0 (b:Box):Prop:=b.Wheel.Notches.length<=40/\b.Wheel.Coins.length<=40/\b.Found.length<=40/\b.Marked.length<=40/\b.Slugs.length<=40
theorem zeW {w:Wheel} {l:List Int} (h:zbl w l=true):l.length=w.Coins.length/\(∀k,0<=l.getD k 0/\l.getD k 0<=12)/\total l<=12:=by
 obtain ⟨h1,h2⟩:=zqO h
 simp only [zbl,Bool.and_eq_true,decide_eq_true_eq] at h
 refine ⟨h.1.1,fun k=>?_,h2⟩
 have:=zf4 h1.nn k
 omega
theorem zoF {w:Wheel} {l:List Int} (h:zbl w l=true):l.all (fun x=>inR x 0 12)=true:=by
 simp only [zbl,Bool.and_eq_true] at h
 exact h.1.2
open Classical in
theorem zzu (b:Box) (n:Nat) (hl:zw0 b) (hn:200<=n):zgq n b=some (cond (zoE b) 0 50):=by
 obtain ⟨l1,l2,l3,l4,l5⟩:=hl
 unfold zgq
 have hol:zj6 n b.Wheel:=⟨by omega,by omega,by omega,by omega⟩
 have no:∀h:¬BoxOk b,(some 50:Option Int)=some (cond (zoE b) 0 50):=fun h=>by rw [zjL h];rfl
 have j1:zcv n b true=some 50:=rfl
 rw [ztB hol,zaa]
 by_cases hv:valid b.Wheel=true
 ·rw [hv]
  show Option.bind _ _=_
  rw [zj9 (by omega) (by omega),zaa]
  by_cases hf:zbl b.Wheel b.Found=true
  ·rw [if_neg (by simp [hf]),zj9 (by omega) (by omega),zaa]
   by_cases hg:zbl b.Wheel b.Slugs=true
   ·rw [if_neg (by simp [hg])]
    by_cases hm:b.Marked.length=b.Found.length
    ·rw [if_neg (by simp;omega),zkg,zaa]
     by_cases hp:inR b.Plays 0 9999=true
     ·rw [if_neg (by simp [hp]),zkg,zaa]
      by_cases hs:inR b.Skips 0 9=true
      ·rw [hs]
       show zcu n b n 0=_
       obtain ⟨f1,f2,f3⟩:=zeW hf
       obtain ⟨g1,g2,g3⟩:=zeW hg
       have hfg:b.Slugs.length=b.Found.length:=by omega
       have hS:=zkK.sums hfg (fun k=>by have:=f2 k;omega) (fun k=>by have:=g2 k;omega)
       have hj2:zeC n b=some (if total b.Found+total b.Slugs<=12 then 0 else 50):=by
        unfold zeC
        rw [zt0 hfg (fun k=>by have:=f2 k;omega) (fun k=>by have:=g2 k;omega) (by omega) (by omega),zaa,zj9 (by omega) (by omega),zaa]
        by_cases ht:total b.Found+total b.Slugs<=12
        ·rw [if_pos ht,if_neg]
         have hnn:∀k,0<=(sums b.Found b.Slugs).getD k 0:=fun k=>(hS k).1
         have:zbl b.Wheel (sums b.Found b.Slugs)=true:=by
          simp only [zbl,Bool.and_eq_true,decide_eq_true_eq,List.all_eq_true]
          refine ⟨⟨by rw [zhw hfg];omega,fun x hx=>?_⟩,by rw [zgh hfg];exact ht⟩
          obtain ⟨k,hk⟩:=List.getElem?_of_mem hx
          have h1:=zf4 (zgE hnn) k
          rw [zgh hfg] at h1
          rw [List.getD_eq_getElem?_getD,hk] at h1
          exact zbK.2 ⟨h1.1,Int.le_trans h1.2 ht⟩
         simp [this]
        ·rw [if_neg ht,if_pos]
         have:zbl b.Wheel (sums b.Found b.Slugs)=false:=by
          simp only [zbl,zgh hfg]
          simp [ht]
         simp [this]
       have key:∀(d i m:Nat),d=b.Found.length-i->i<=b.Found.length->d<m->zcu n b m (i:Int)=some (if (∀k,i<=k->k<b.Found.length->0<=b.Marked.getD k 0/\b.Marked.getD k 0<=b.Found.getD k 0)/\total b.Found+total b.Slugs<=12 then 0 else 50):=by
        intro d
        induction d with
        | zero =>
         intro i m hd hi hm
         obtain ⟨m,rfl⟩:∃q,m=q+1:=⟨m-1,by omega⟩
         simp only [zcu,zeK]
         rw [if_neg (by simp;omega),hj2]
         congr 1
         by_cases ht:total b.Found+total b.Slugs<=12
         ·rw [if_pos ht,if_pos ⟨fun k h1 h2=>by omega,ht⟩]
         ·rw [if_neg ht,if_neg fun h=>ht h.2]
        | succ d ih =>
         intro i m hd hi hm
         obtain ⟨m,rfl⟩:∃q,m=q+1:=⟨m-1,by omega⟩
         simp only [zcu,zeK]
         rw [if_pos (by simp;omega),zdL (by omega),zaa,zdL (by omega),zaa,zkg,zaa,getD_get,getD_get,zaU (by omega) (by omega)]
         have:=ih (i+1) m (by omega) (by omega) (by omega)
         rw [show (((i+1:Nat)):Int)=(i:Int)+1 by simp] at this
         by_cases hq:inR (b.Marked.getD i 0) 0 (b.Found.getD i 0)=true
         ·rw [if_neg (by rw [hq];simp),this]
          congr 1
          by_cases hR:(∀k,i+1<=k->k<b.Found.length->0<=b.Marked.getD k 0/\b.Marked.getD k 0<=b.Found.getD k 0)/\total b.Found+total b.Slugs<=12
          ·have hall:∀k,i<=k->k<b.Found.length->0<=b.Marked.getD k 0/\b.Marked.getD k 0<=b.Found.getD k 0:=fun k h1 h2=>by
            by_cases e:k=i
            ·subst e
             exact zbK.1 hq
            ·exact hR.1 k (by omega) h2
           rw [if_pos hR,if_pos ⟨hall,hR.2⟩]
          ·rw [if_neg hR,if_neg fun h=>hR ⟨fun k h1 h2=>h.1 k (by omega) h2,h.2⟩]
         ·rw [if_pos (by simpa using hq),if_neg fun h=>hq (zbK.2 (h.1 i (Nat.le_refl _) (by omega)))]
       rw [show zcu n b n 0=_ from key b.Found.length 0 n (by omega) (by omega) (by omega)]
       by_cases hR:(∀k,0<=k->k<b.Found.length->0<=b.Marked.getD k 0/\b.Marked.getD k 0<=b.Found.getD k 0)/\total b.Found+total b.Slugs<=12
       ·rw [if_pos hR,zh5.2 ⟨hv,hp,hs,hf,hg,hm,fun k hk=>hR.1 k (Nat.zero_le _) hk,hR.2⟩]
        rfl
       ·rw [if_neg hR]
        exact no fun h=>hR ⟨fun k _ hk=>h.mkd k hk,h.t⟩
      ·rw [show (!inR b.Skips 0 9)=true by simpa using hs,j1]
       exact no fun h=>hs h.s
     ·rw [if_pos (by simpa using hp),j1]
      exact no fun h=>hp h.p
    ·rw [if_pos (by simp;omega),j1]
     exact no fun h=>hm h.ml
   ·rw [if_pos (by simpa using hg),j1]
    exact no fun h=>hg h.g
  ·rw [if_pos (by simpa using hf),j1]
   exact no fun h=>hf h.f
 ·rw [show valid b.Wheel=false by simpa using hv]
  exact no fun h=>hv h.v
theorem zt1 {n:Nat} (f:Int->Option Bool) (g:Int->Bool) (xs:List Int) (hf:∀x,x∈xs->f x=some (g x)) (hl:xs.length<1048576) (hn:xs.length<n) :
  zbt n (fun x (_:Unit)=>(f x).map fun y=>(y,())) xs ()=some (xs.any g,()):=by
 have key:∀(l:List Int) (i m:Nat) (s:Unit),i<=xs.length->xs.drop i=l->l.length<m->(zav xs (fun x (_:Unit)=>(f x).map fun y=>(y,())) m (i:Int) s).map (fun r=>decide (r.1≥0))=some (l.any g):=by
  intro l i m s h1 h2 h3
  refine zwa (fun m i s=>(zav xs (fun x (_:Unit)=>(f x).map fun y=>(y,())) m i s).map (fun r=>decide (r.1≥0))) xs (fun l _=>some (l.any g)) hl (fun m s=>?_) (fun m i x l s hx hi _ _ hrec=>?_) l i m s h1 h2 h3
  ·simp [zav,zbf,zb1]
  ·have hmem:x∈xs:=by
    unfold idx at hx
    rw [if_pos (by omega)] at hx
    exact List.mem_of_getElem? hx
   simp only [zav,zbf]
   rw [if_pos (by simpa using hi),hx,zaa]
   simp only [hf x hmem,Option.map_some,zaa]
   by_cases hg:g x=true
   ·rw [if_pos (by simpa using hg)]
    simp [hg]
   ·rw [if_neg (by simpa using hg)]
    have:=hrec ()
    rw [this]
    simp [hg]
 have h:=key xs 0 n () (by omega) rfl hn
 unfold zbt zdg
 change Option.map _ (zav xs _ n 0 ())=_ at h
 cases hx:zav xs (fun x (_:Unit)=>(f x).map fun y=>(y,())) n 0 () with
 | none=>rw [hx] at h;cases h
 | some r =>
  rw [hx] at h
  simp only [Option.map_some,Option.some.injEq] at h
  simp only [zaa]
  rw [h]
def zu3 (w:Wheel) (l:List Int):Bool:=decide (l.length≠w.Coins.length) || l.any (fun x=>!inR x 0 12)
theorem znK {n:Nat} (hn:200<=n) (b:Box) (m:Nat) (i:Int) (l:List Int) (hi:i<3) (h0:0<=i) (hl:l.length<=40) (hc:b.Wheel.Coins.length<=40) (hx:idx ([b.Found,b.Marked,b.Slugs]:List (List Int)) i=some l) :
  zaV n b (m+1) i=if zu3 b.Wheel l=true then some 50 else zaV n b m (i+1):=by
 simp only [zaV,zfc,zdO]
 rw [if_pos (by simpa using hi),hx,zaa,zt1 zdN (fun x=>!inR x 0 12) l (fun x _=>by unfold zdN;rw [zim,zaa]) (by omega) (by omega),zaa,zaU (x:=i+1) (by omega) (by omega)]
 unfold zu3
 by_cases h1:l.length=b.Wheel.Coins.length
 ·rw [if_neg (by simp;omega),show decide (l.length≠b.Wheel.Coins.length)=false by simp [h1],Bool.false_or]
 ·rw [if_pos (by simp;omega),show decide (l.length≠b.Wheel.Coins.length)=true by simp [h1],Bool.true_or]
  rfl
theorem zpJ {w:Wheel} {l:List Int} (h:zu3 w l=false):l.length=w.Coins.length/\l.all (fun x=>inR x 0 12)=true:=by
 simp only [zu3,Bool.or_eq_false_iff,decide_eq_false_iff_not,Decidable.not_not,List.any_eq_false,List.all_eq_true] at h ⊢
 exact ⟨h.1,fun x hx=>by simpa using h.2 x hx⟩
theorem zpK {w:Wheel} {l:List Int} (h1:l.length=w.Coins.length) (h2:l.all (fun x=>inR x 0 12)=true):zu3 w l=false:=by
 rw [List.all_eq_true] at h2
 simp only [zu3,Bool.or_eq_false_iff,decide_eq_false_iff_not,Decidable.not_not,List.any_eq_false]
 exact ⟨h1,fun x hx=>by simp [h2 x hx]⟩
open Classical in
theorem zt2 (b:Box) (n:Nat) (hl:zw0 b) (hn:200<=n):zf9 n b=some (cond (zoE b) 0 50):=by
 obtain ⟨l1,l2,l3,l4,l5⟩:=hl
 have hol:zj6 n b.Wheel:=⟨by omega,by omega,by omega,by omega⟩
 have no:∀h:¬BoxOk b,(some 50:Option Int)=some (cond (zoE b) 0 50):=fun h=>by rw [zjL h];rfl
 have j1:zc3 n b true=some 50:=rfl
 unfold zf9
 rw [znz hol,zaa]
 by_cases hv:valid b.Wheel=true
 ·rw [hv]
  show Option.bind _ _=_
  rw [zim,zaa]
  by_cases hp:inR b.Plays 0 9999=true
  ·rw [if_neg (by simp [hp]),zim,zaa]
   by_cases hs:inR b.Skips 0 9=true
   ·rw [hs]
    show zaV n b n 0=_
    obtain ⟨n,rfl⟩:∃q,n=q+4:=⟨n-4,by omega⟩
    have en:∀m i,zaV (n+4) b (m+1) i=zaV (n+4) b (m+1) i:=fun _ _=>rfl
    rw [show zaV (n+4) b (n+4) 0=zaV (n+4) b ((n+3)+1) 0 from rfl,znK hn b (n+3) 0 b.Found (by omega) (by omega) (by omega) l2 rfl]
    by_cases b1:zu3 b.Wheel b.Found=true
    ·rw [if_pos b1]
     exact no fun h=>by rw [zpK (zeW h.f).1 (zoF h.f)] at b1;cases b1
    rw [if_neg b1,show zaV (n+4) b (n+3) (0+1)=zaV (n+4) b ((n+2)+1) 1 from rfl,znK hn b (n+2) 1 b.Marked (by omega) (by omega) (by omega) l2 rfl]
    obtain ⟨f1,f2⟩:=zpJ (by simpa using b1)
    by_cases b2:zu3 b.Wheel b.Marked=true
    ·rw [if_pos b2]
     refine no fun h=>?_
     rw [zpK (by rw [h.ml];exact f1) (List.all_eq_true.2 fun x hx=>?_)] at b2
     ·cases b2
     ·obtain ⟨k,hk⟩:=List.getElem?_of_mem hx
      have hkl:k<b.Marked.length:=by
       rcases Nat.lt_or_ge k b.Marked.length with h1 | h1
       ·exact h1
       ·rw [List.getElem?_eq_none h1] at hk
        cases hk
      have h1:=h.mkd k (by have:=h.ml;omega)
      have h2:=(zeW h.f).2.1 k
      rw [List.getD_eq_getElem?_getD,hk] at h1
      have h3:0<=x/\x<=b.Found.getD k 0:=h1
      exact zbK.2 ⟨h3.1,by omega⟩
    rw [if_neg b2,show zaV (n+4) b (n+2) (1+1)=zaV (n+4) b ((n+1)+1) 2 from rfl,znK hn b (n+1) 2 b.Slugs (by omega) (by omega) (by omega) l2 rfl]
    obtain ⟨m1,m2⟩:=zpJ (by simpa using b2)
    by_cases b3:zu3 b.Wheel b.Slugs=true
    ·rw [if_pos b3]
     exact no fun h=>by rw [zpK (zeW h.g).1 (zoF h.g)] at b3;cases b3
    rw [if_neg b3]
    obtain ⟨g1,g2⟩:=zpJ (by simpa using b3)
    have sm:∀{l:List Int},l.all (fun x=>inR x 0 12)=true->∀k,0<=l.getD k 0/\l.getD k 0<=12:=fun {l} h k=>by
     rw [List.all_eq_true] at h
     rw [List.getD_eq_getElem?_getD]
     cases hk:l[k]? with
     | none=>simp
     | some x=>exact zbK.1 (h x (List.mem_of_getElem? hk))
    have f3:=sm f2
    have g3:=sm g2
    have m3:=sm m2
    show zbB b (n+4) 0 0=_
    have key:∀(d i m:Nat) (v:Int),d=b.Found.length-i->i<=b.Found.length->d<m->0<=v->v<=100*i->zbB b m v (i:Int)=some (if (∀k,i<=k->k<b.Found.length->b.Marked.getD k 0<=b.Found.getD k 0)/\v+total (b.Found.drop i)+total (b.Slugs.drop i)<=12 then 0 else 50):=by
     intro d
     induction d with
     | zero =>
      intro i m v hd hi hm h0 h1
      obtain ⟨m,rfl⟩:∃q,m=q+1:=⟨m-1,by omega⟩
      simp only [zbB,zd6,zeM]
      have e1:total (b.Found.drop i)=0:=by rw [List.drop_eq_nil_of_le (by omega)];rfl
      have e2:total (b.Slugs.drop i)=0:=by rw [List.drop_eq_nil_of_le (by omega)];rfl
      rw [if_neg (by simp;omega)]
      by_cases ht:v>12
      ·rw [if_pos (by simpa using ht),if_neg fun h=>by omega]
      ·rw [if_neg (by simpa using ht),if_pos ⟨fun k h1 h2=>by omega,by omega⟩]
     | succ d ih =>
      intro i m v hd hi hm h0 h1
      obtain ⟨m,rfl⟩:∃q,m=q+1:=⟨m-1,by omega⟩
      have fi:=f3 i
      have gi:=g3 i
      simp only [zbB,zd6]
      rw [if_pos (by simp;omega),zdL (by omega),zaa,zdL (by omega),zaa,getD_get,getD_get]
      by_cases hq:b.Marked.getD i 0>b.Found.getD i 0
      ·rw [if_pos (by simpa using hq),if_neg fun h=>by have:=h.1 i (Nat.le_refl _) (by omega);omega]
      ·rw [if_neg (by simpa using hq),zdL (by omega),zaa,getD_get,zaU (x:=b.Found.getD i 0+b.Slugs.getD i 0) (by omega) (by omega),zaU (x:=v+_) (by omega) (by omega),zaU (x:=(i:Int)+1) (by omega) (by omega)]
       have:=ih (i+1) m (v+(b.Found.getD i 0+b.Slugs.getD i 0)) (by omega) (by omega) (by omega) (by omega) (by omega)
       rw [show (((i+1:Nat)):Int)=(i:Int)+1 by simp] at this
       have e1:total (b.Found.drop i)=b.Found.getD i 0+total (b.Found.drop (i+1)):=by rw [List.drop_eq_getElem_cons (l:=b.Found) (i:=i) (by omega),getD_get];rfl
       have e2:total (b.Slugs.drop i)=b.Slugs.getD i 0+total (b.Slugs.drop (i+1)):=by rw [List.drop_eq_getElem_cons (l:=b.Slugs) (i:=i) (by omega),getD_get];rfl
       rw [this]
       congr 1
       by_cases hR:(∀k,i+1<=k->k<b.Found.length->b.Marked.getD k 0<=b.Found.getD k 0)/\v+(b.Found.getD i 0+b.Slugs.getD i 0)+total (b.Found.drop (i+1))+total (b.Slugs.drop (i+1))<=12
       ·have hall:∀k,i<=k->k<b.Found.length->b.Marked.getD k 0<=b.Found.getD k 0:=fun k h1 h2=>by
         by_cases e:k=i
         ·subst e
          omega
         ·exact hR.1 k (by omega) h2
        rw [if_pos hR,if_pos ⟨hall,by have:=hR.2;omega⟩]
       ·rw [if_neg hR,if_neg fun h=>hR ⟨fun k h1 h2=>h.1 k (by omega) h2,by have:=h.2;omega⟩]
    rw [show zbB b (n+4) 0 0=_ from key b.Found.length 0 (n+4) 0 (by omega) (by omega) (by omega) (by omega) (by omega)]
    simp only [List.drop_zero,Int.zero_add]
    have nnf:∀x,x∈b.Found->0<=x:=zgE fun k=>(f3 k).1
    have nng:∀x,x∈b.Slugs->0<=x:=zgE fun k=>(g3 k).1
    by_cases hR:(∀k,0<=k->k<b.Found.length->b.Marked.getD k 0<=b.Found.getD k 0)/\total b.Found+total b.Slugs<=12
    ·have tf:=zdk nnf
     have tg:=zdk nng
     rw [if_pos hR,zh5.2 ⟨hv,hp,hs,by simp only [zbl,Bool.and_eq_true,decide_eq_true_eq];exact ⟨⟨f1,f2⟩,by have:=hR.2;omega⟩,by simp only [zbl,Bool.and_eq_true,decide_eq_true_eq];exact ⟨⟨g1,g2⟩,by have:=hR.2;omega⟩,by omega,fun k hk=>⟨(m3 k).1,hR.1 k (Nat.zero_le _) hk⟩,hR.2⟩]
     rfl
    ·rw [if_neg hR]
     exact no fun h=>hR ⟨fun k _ hk=>(h.mkd k hk).2,h.t⟩
   ·rw [show (!inR b.Skips 0 9)=true by simpa using hs,j1]
    exact no fun h=>hs h.s
  ·rw [if_pos (by simpa using hp),j1]
   exact no fun h=>hp h.p
 ·rw [show valid b.Wheel=false by simpa using hv]
  exact no fun h=>hv h.v
def zdM (b:Box):List Int:=sums b.Found b.Slugs
structure Near (b:Box):Prop where
 ok:BoxOk b
 k3:b.Wheel.Coins.length<=3
 t3:total b.Found+total b.Slugs<=3
theorem znL {l:List Int} {k j:Nat} {v:Int} (hk:k<l.length):(l.set k v).getD j 0=if k=j then v else l.getD j 0:=by
 by_cases e:k=j
 ·subst e
  rw [if_pos rfl,List.getD_eq_getElem?_getD,List.getElem?_set_self hk]
  rfl
 ·rw [if_neg e,List.getD_eq_getElem?_getD,List.getElem?_set_ne e,←List.getD_eq_getElem?_getD]
structure NearF (b:Box):Prop where
 fl:b.Found.length=b.Wheel.Coins.length
 sl:b.Slugs.length=b.Wheel.Coins.length
 ml:b.Marked.length=b.Wheel.Coins.length
 f:∀k,0<=b.Found.getD k 0/\b.Found.getD k 0<=12
 s:∀k,0<=b.Slugs.getD k 0/\b.Slugs.getD k 0<=12
 m:∀k,0<=b.Marked.getD k 0/\b.Marked.getD k 0<=12
 p:0<=b.Plays/\b.Plays<=9999
 k:0<=b.Skips/\b.Skips<=9
 h:OkW b.Wheel
theorem BoxOk.far {b:Box} (N:BoxOk b):NearF b:=by
 obtain ⟨f1,f2,f3⟩:=zeW N.f
 obtain ⟨g1,g2,g3⟩:=zeW N.g
 refine ⟨f1,g1,by rw [N.ml];exact f1,f2,g2,fun k=>?_,zbK.1 N.p,zbK.1 N.s,zfj N.v⟩
 rcases Nat.lt_or_ge k b.Found.length with h | h
 ·have:=N.mkd k h
  have:=f2 k
  omega
 ·rw [List.getD_eq_getElem?_getD,List.getElem?_eq_none (by rw [N.ml];exact h)]
  simp
theorem zgG {b:Box} (F:NearF b):(zdM b).length=b.Wheel.Coins.length:=by rw [zdM,zhw (by rw [F.sl,F.fl]),F.fl]
theorem zjM {b:Box} (F:NearF b) (k:Nat):(zdM b).getD k 0=b.Found.getD k 0+b.Slugs.getD k 0:=zgF (by rw [F.sl,F.fl]) k
theorem zlU {b:Box} (F:NearF b):total (zdM b)=total b.Found+total b.Slugs:=zgh (by rw [F.sl,F.fl])
structure More (b:Box) (P:List Int):Prop where
 l:P.length=b.Wheel.Coins.length
 nn:∀k,0<=P.getD k 0
 t:total P<=2
theorem More.small {b:Box} {P:List Int} (h:More b P):∀k,0<=P.getD k 0/\P.getD k 0<=2:=fun k=>by
 have:=zf4 (zgE h.nn) k
 have:=h.t
 omega
theorem Near.cx0 {b:Box} (N:Near b):Cx b.Wheel (zdM b) :=
 have F:=N.ok.far
 ⟨N.ok.v,zgG F,fun k=>by rw [zjM F];have:=F.f k;have:=F.s k;omega,N.k3,by rw [zlU F];have:=N.t3;omega⟩
theorem Near.cx {b:Box} (N:Near b) {P:List Int} (h:More b P):Cx b.Wheel (sums (zdM b) P) :=
 have F:=N.ok.far
 have e:P.length=(zdM b).length:=by rw [h.l,zgG F]
 ⟨N.ok.v,by rw [zhw e,zgG F],fun k=>by rw [zgF e,zjM F];have:=F.f k;have:=F.s k;have:=h.nn k;omega,N.k3,by rw [zgh e,zlU F];have:=N.t3;have:=h.t;omega⟩
theorem put_eq {b:Box} (F:NearF b) (h4:b.Wheel.Coins.length<=4) {n:Nat} (hn:10<=n):zej n (some ⟨b⟩)=some (zcg (zdM b)):=by
 have hfl:=F.fl
 have hsl:=F.sl
 have key:∀(d i m:Nat) (Q:List Int),d=b.Found.length-i->i<=b.Found.length->d<m->Q.length=b.Found.length->(∀k:Nat,k<i->Q.getD k 0=b.Found.getD k 0+b.Slugs.getD k 0)->zb2 (some ⟨b⟩) ⟨b⟩ m (i:Int) (Q.getD 0 0) (Q.getD 1 0) (Q.getD 2 0) (Q.getD 3 0)=some (zcg (zdM b)):=by
  intro d
  induction d with
  | zero =>
   intro i m Q hd hi hm hQ hk
   obtain ⟨m,rfl⟩:∃q,m=q+1:=⟨m-1,by omega⟩
   simp only [zb2,zdh,zd8]
   have e:Q=zdM b:=zfV (n:=b.Found.length) hQ (by rw [zgG F,F.fl]) fun k hk'=>by rw [hk k (by omega),zjM F]
   rw [if_neg (by simp;omega),e]
   rfl
  | succ d ih =>
   intro i m Q hd hi hm hQ hk
   obtain ⟨m,rfl⟩:∃q,m=q+1:=⟨m-1,by omega⟩
   have h1:=F.f i
   have h2:=F.s i
   simp only [zb2,zdh]
   rw [if_pos (by simp;omega),show idx b.Found (i:Int)=some (b.Found.getD i 0) by rw [zdL (by omega),getD_get],zaa,zaa,show idx (⟨b⟩:Box_).Box.Slugs (i:Int)=some (b.Slugs.getD i 0) by show idx b.Slugs (i:Int)=_;rw [zdL (by omega),getD_get],zaa,show idx ([Q.getD 0 0,Q.getD 1 0,Q.getD 2 0,Q.getD 3 0]:List Int) (i:Int)=some (Q.getD i 0) from ziX (by omega),zaa,zaU (x:=b.Found.getD i 0+_) (by omega) (by omega),show zrr ([Q.getD 0 0,Q.getD 1 0,Q.getD 2 0,Q.getD 3 0]:List Int) (i:Int) (b.Found.getD i 0+b.Slugs.getD i 0)=some (ztJ (Q.set i (b.Found.getD i 0+b.Slugs.getD i 0))) from znC (by omega) (by omega),zaa,zaU (x:=(i:Int)+1) (by omega) (by omega)]
   have:=ih (i+1) m (Q.set i (b.Found.getD i 0+b.Slugs.getD i 0)) (by omega) (by omega) (by omega) (by simp [hQ]) fun k hk'=>by
    rw [znL (by omega)]
    by_cases e:i=k
    ·subst e
     rw [if_pos rfl]
    ·rw [if_neg e,hk k (by omega)]
   rw [show (((i+1:Nat)):Int)=(i:Int)+1 by simp] at this
   exact this
 have:=key b.Found.length 0 n (List.replicate b.Found.length 0) (by omega) (by omega) (by omega) (by simp) fun k hk=>by omega
 have hz:∀k,(List.replicate b.Found.length (0:Int)).getD k 0=0:=fun k=>by
  rw [List.getD_eq_getElem?_getD,List.getElem?_replicate]
  split<;>rfl
 simp only [hz] at this
 exact this
theorem zoG {b:Box} {P base:List Int} (hP:More b P) (hb:base.length=b.Wheel.Coins.length) (hs:zkK base) (h4:b.Wheel.Coins.length<=4) {n:Nat} (hn:10<=n):zbP P n 0 (zcg base)=some (zcg (sums base P)):=by
 have hl:=hP.l
 have key:∀(d i m:Nat) (Q:List Int),d=P.length-i->i<=P.length->d<m->Q.length=P.length->(∀k:Nat,k<i->Q.getD k 0=base.getD k 0+P.getD k 0)->(∀k:Nat,i<=k->Q.getD k 0=base.getD k 0)->zbP P m (i:Int) (zcg Q)=some (zcg (sums base P)):=by
  intro d
  induction d with
  | zero =>
   intro i m Q hd hi hm hQ hk _
   obtain ⟨m,rfl⟩:∃q,m=q+1:=⟨m-1,by omega⟩
   simp only [zbP]
   have e:Q=sums base P:=zfV (n:=P.length) hQ (by rw [zhw (by omega)];omega) fun k hk'=>by rw [hk k (by omega),zgF (by omega)]
   rw [if_neg (by simp;omega),e]
  | succ d ih =>
   intro i m Q hd hi hm hQ hk hk2
   obtain ⟨m,rfl⟩:∃q,m=q+1:=⟨m-1,by omega⟩
   have h1:=hs i
   have h2:=hP.small i
   have h3:=hk2 i (Nat.le_refl _)
   simp only [zbP]
   rw [if_pos (by simp;omega),zdL (by omega),zaa,getD_get,show idx ([(zcg Q).c0,(zcg Q).c1,(zcg Q).c2,(zcg Q).c3]:List Int) (i:Int)=some (Q.getD i 0) from ziX (by omega),zaa,zaU (x:=Q.getD i 0+_) (by omega) (by omega),show zrr ([(zcg Q).c0,(zcg Q).c1,(zcg Q).c2,(zcg Q).c3]:List Int) (i:Int) (Q.getD i 0+P.getD i 0)=some (ztJ (Q.set i (Q.getD i 0+P.getD i 0))) from znC (by omega) (by omega),zaa,zaU (x:=(i:Int)+1) (by omega) (by omega)]
   have:=ih (i+1) m (Q.set i (Q.getD i 0+P.getD i 0)) (by omega) (by omega) (by omega) (by simp [hQ]) (fun k hk'=>by
    rw [znL (by omega)]
    by_cases e:i=k
    ·subst e
     rw [if_pos rfl,h3]
    ·rw [if_neg e,hk k (by omega)]) fun k hk'=>by
    rw [znL (by omega),if_neg (by omega),hk2 k (by omega)]
   rw [show (((i+1:Nat)):Int)=(i:Int)+1 by simp] at this
   exact this
 exact key P.length 0 n base (by omega) (by omega) (by omega) (by omega) (fun k hk=>by omega) fun k _=>rfl
theorem zqT {n:Nat} {b:Box} (h:OkW b.Wheel) (hn:100<=n) {l:List Int} (hlen:l.length=b.Wheel.Coins.length) (hl:zkK l):zck n (some ⟨b⟩) l=some (zdw b.Wheel l):=by
 have h4:=h.clen
 have key:∀(d i m:Nat) (s:Int),d=b.Wheel.Coins.length-i->i<=b.Wheel.Coins.length->d<m->0<=s->s+100000*d<=1000000->zbw (some ⟨b⟩) l m s (i:Int)=some (s+znH b.Wheel l d i):=by
  intro d
  induction d with
  | zero =>
   intro i m s hd hi hm hs hs2
   obtain ⟨m,rfl⟩:∃q,m=q+1:=⟨m-1,by omega⟩
   simp only [zbw,zc1,zdi,znH]
   rw [if_neg (by simp;omega),Int.add_zero]
  | succ d ih =>
   intro i m s hd hi hm hs hs2
   obtain ⟨m,rfl⟩:∃q,m=q+1:=⟨m-1,by omega⟩
   have ht:=zuZ h hl (show i<b.Wheel.Coins.length by omega)
   simp only [zbw,zc1,znH]
   rw [if_pos (by simp;omega),zdL (by omega),zaa,zaa,show idx (⟨b⟩:Box_).Box.Wheel.Coins (i:Int)=some (coin b.Wheel i) from zjI (w:=b.Wheel) (by omega) (by omega),zaa,getD_get,Int.mul_comm,zaU (x:=coin b.Wheel i*_) (by omega) (by omega),zaU (x:=s+_) (by omega) (by omega),zaU (x:=(i:Int)+1) (by omega) (by omega)]
   have:=ih (i+1) m (s+coin b.Wheel i*l.getD i 0) (by omega) (by omega) (by omega) (by omega) (by omega)
   rw [show (((i+1:Nat)):Int)=(i:Int)+1 by simp] at this
   rw [this]
   congr 1
   omega
 have:=key b.Wheel.Coins.length 0 n 0 (by omega) (by omega) (by omega) (by omega) (by omega)
 rw [Int.zero_add] at this
 exact this
def zmh (w:Wheel) (al L:List Int):Prop:=L.Pairwise (·<·)/\∀v,v∈L↔Can w al v
theorem zt3:∀{L:List Int},L.Pairwise (·<=·)->L.Nodup->L.Pairwise (·<·)
 | [],_,_=>.nil
 | x::L,h,hn=>by
  rw [List.pairwise_cons] at h ⊢
  rw [List.nodup_cons] at hn
  refine ⟨fun y hy=>?_,zt3 h.2 hn.2⟩
  have:=h.1 y hy
  rcases Int.lt_or_eq_of_le this with h1 | h1
  ·exact h1
  ·subst h1
   exact absurd hy hn.1
theorem zvz:∀{L L':List Int},L.Pairwise (·<·)->L'.Pairwise (·<·)->(∀v,v∈L↔v∈L')->L=L'
 | [],[],_,_,_=>rfl
 | [],y::_,_,_,h=>absurd ((h y).2 (by simp)) (by simp)
 | x::_,[],_,_,h=>absurd ((h x).1 (by simp)) (by simp)
 | x::L,y::L',h1,h2,h=>by
  rw [List.pairwise_cons] at h1 h2
  have e:x=y:=by
   have hx:=(h x).1 (by simp)
   have hy:=(h y).2 (by simp)
   rcases List.mem_cons.1 hx with e | hx
   ·exact e
   ·rcases List.mem_cons.1 hy with e | hy
    ·exact e.symm
    ·have:=h1.1 y hy
     have:=h2.1 x hx
     omega
  subst e
  congr 1
  refine zvz h1.2 h2.2 fun v=>⟨fun hv=>?_,fun hv=>?_⟩
  ·rcases List.mem_cons.1 ((h v).1 (List.mem_cons_of_mem _ hv)) with e | hv'
   ·have:=h1.1 v hv
    omega
   ·exact hv'
  ·rcases List.mem_cons.1 ((h v).2 (List.mem_cons_of_mem _ hv)) with e | hv'
   ·have:=h2.1 v hv
    omega
   ·exact hv'
theorem zmh.eq {w:Wheel} {al L L':List Int} (h:zmh w al L) (h':zmh w al L'):L=L':=zvz h.1 h'.1 fun v=>by rw [h.2,h'.2]
theorem zt4 {w:Wheel} {al K:List Int} (hn:K.Nodup) (h:∀v,v∈K↔Can w al v):zmh w al (zfK K) :=
 ⟨zt3 (zfO K) ((zey K).nodup_iff.2 hn),fun v=>by rw [(zey K).mem_iff];exact h v⟩
theorem zqU {w:Wheel} {al:List Int} (C:Cx w al) {A M} (hW:WI w al A M) (hall:∀acts X,RP (clT (total al)) w al acts X->zbm M (pnt X)=true) :
  zjb M=true/\EndsOk (zcg al) (M.map (·.1)) (zfd (zcg al) M)/\zmh w al (zfK ((zfd (zcg al) M).map (·.1)))/\(∀v,v∈(zfd (zcg al) M).map (·.1)->okI v=true):=by
 have hE:EndsOk (zcg al) (M.map (·.1)) (zfd (zcg al) M):=zlE (zcg al) (M.map (·.1))
 have hkey:∀o,o∈M.map (·.1)->∃X,o=pnt X/\RP (clT (total al)) w al (A o) X:=fun o ho=>hW.key (zbj.2 ho)
 have hmem:∀v,v∈(zfd (zcg al) M).map (·.1)↔∃acts X,RP (clT (total al)) w al acts X/\X.l=al/\X.b=v:=fun v=>by
  constructor
  ·intro hv
   obtain ⟨⟨b,o⟩,ho,rfl⟩:=List.mem_map.1 hv
   obtain ⟨h1,h2,h3,_⟩:=(hE.mem b o).1 ho
   obtain ⟨X,rfl,hr⟩:=hkey o h1
   refine ⟨_,X,hr,znD h2 (by rw [(zoT C hr).1.len,C.hl]) (by rw [(zoT C hr).1.len];have:=C.k3;omega),h3⟩
  ·rintro ⟨acts,X,hr,rfl,rfl⟩
   exact zbj.1 (hE.has (pnt X) (zbj.1 (hall acts X hr)) rfl)
 refine ⟨?_,hE,zt4 hE.nd fun v=>by rw [hmem,zzs C.h C.hl C.nn],fun v hv=>?_⟩
 ·unfold zjb
  rw [Bool.and_eq_true]
  refine ⟨List.all_eq_true.2 fun p hp=>?_,decide_eq_true (by have:=hW.len C;omega)⟩
  obtain ⟨X,e,hr⟩:=(hW.pt p.1 p.2 hp).1
  rw [e]
  have:=(zoT C hr).2.2.2
  unfold zbN at this
  simp only [List.all_cons,List.all_nil,Bool.and_true,Bool.and_eq_true] at this
  exact this.2.2.2.2.2.2
 ·obtain ⟨acts,X,hr,_,rfl⟩:=(hmem v).1 hv
  have h1:=zoT C hr
  have h2:=h1.1.bt
  have h3:=h1.1.cb
  have h4:=h1.1.c0
  have h5:=C.t5
  exact zfT (by omega) (by omega)
theorem zoH {b:Box} (N:Near b) {n:Nat} (hn:100000<=n):∃L,zdo n (some ⟨b⟩)=some L/\zmh b.Wheel (zdM b) L:=by
 have h3:=N.k3
 obtain ⟨A,M,h1,hW,hall⟩:=ztY N.cx0 hn (b:=⟨b⟩) rfl
 obtain ⟨s1,s2,s3,s4⟩:=zqU N.cx0 hW hall
 refine ⟨_,?_,s3⟩
 unfold zdo
 rw [put_eq N.ok.far (by omega) (by omega),zaa,h1,zaa,zaa,if_pos s1]
def zse (b:Box) (al:List Int):Prop:=∃v,Can b.Wheel al v/\b.Plays<=v/\v<=b.Plays+b.Skips
structure ExplOk (b:Box) (al acts:List Int):Prop where
 ok:acts.all (zfk b.Wheel)=true
 len:(acts.length:Int)<=2*total al
 bag:∀k:Nat,k<b.Wheel.Coins.length->cnt k acts=al.getD k 0
 pl:b.Plays<=zeU b.Wheel ⟨0,0⟩ acts
 pl2:zeU b.Wheel ⟨0,0⟩ acts<=b.Plays+b.Skips
theorem ExplOk.ex {b:Box} {al acts:List Int} (h:ExplOk b al acts):zse b al:=⟨_,⟨acts,h.ok,h.bag,rfl⟩,h.pl,h.pl2⟩
theorem zr4 {b:Box} (N:Near b) {P:List Int} (hP:More b P) {n:Nat} (hn:100000<=n):∃r,zcl n (some ⟨b⟩) P=some r/\(r.2=true/\ExplOk b (sums (zdM b) P) r.1\/r.2=false/\¬zse b (sums (zdM b) P)):=by
 have h3:=N.k3
 have F:=N.ok.far
 have hpl:=F.p
 have hsk:=F.k
 have hpt:=F.f
 have C:=N.cx hP
 obtain ⟨A,M,h1,hW,hall⟩:=ztY C hn (b:=⟨b⟩) rfl
 obtain ⟨s1,s2,s3,s4⟩:=zqU C hW hall
 unfold zcl
 rw [zaa,put_eq F (by omega) (by omega),zaa,zoG hP (zgG F) (fun k=>by rw [zjM F];have:=F.f k;have:=F.s k;omega) (by omega) (by omega),zaa,h1,zaa,if_pos s1]
 generalize hal:sums (zdM b) P=al at *
 generalize hE:zfd (zcg al) M=E at *
 generalize hbs:zfK (E.map (·.1))=bs at *
 have hbl:bs.length<=93312:=by
  rw [←hbs,(zey _).length_eq,List.length_map,←hE]
  have:=zk0 (al:=zcg al) (M.map (·.1)) []
  simp only [List.length_map,List.length_nil] at this
  have:=hW.len C
  unfold zfd
  omega
 have key:∀(d i m:Nat),d=bs.length-i->i<=bs.length->d<m->(∀v,v∈bs->v∈bs.drop i\/¬(b.Plays<=v/\v<=b.Plays+b.Skips))->∃r,zbQ n ⟨b⟩ M E bs m (i:Int)=some r/\(r.2=true/\ExplOk b al r.1\/r.2=false/\¬zse b al):=by
  intro d
  induction d with
  | zero =>
   intro i m hd hi hm hv
   obtain ⟨m,rfl⟩:∃q,m=q+1:=⟨m-1,by omega⟩
   simp only [zbQ]
   rw [if_neg (by simp;omega)]
   refine ⟨_,rfl,.inr ⟨rfl,?_⟩⟩
   rintro ⟨v,h1,h2⟩
   rcases hv v ((s3.2 v).2 h1) with h | h
   ·rw [List.drop_eq_nil_of_le (by omega)] at h
    simp at h
   ·exact h h2
  | succ d ih =>
   intro i m hd hi hm hv
   obtain ⟨m,rfl⟩:∃q,m=q+1:=⟨m-1,by omega⟩
   simp only [zbQ]
   have hdr:bs.drop i=bs.getD i 0::bs.drop (i+1):=by rw [List.drop_eq_getElem_cons (l:=bs) (i:=i) (by omega),getD_get]
   have hbm:bs.getD i 0∈bs:=by
    rw [←getD_get (by omega)]
    exact List.getElem_mem (by omega)
   rw [if_pos (by simp;omega),zdL (by omega),zaa,getD_get,zim,zaa,zaU (x:=b.Plays+b.Skips) (by omega) (by omega),zaU (x:=(i:Int)+1) (by omega) (by omega)]
   generalize hx:bs.getD i 0=x at *
   by_cases hq:inR x b.Plays (b.Plays+b.Skips)=true
   ·rw [if_neg (by rw [hq];simp)]
    have hxk:x∈E.map (·.1):=by
     rw [←hbs,(zey _).mem_iff] at hbm
     exact hbm
    have hmx:zbm E x=true:=zbj.2 hxk
    have hok:mok okI E x=true:=by
     unfold Go.AM.mok
     rw [s4 x hxk,Bool.true_and,Bool.and_eq_true]
     exact ⟨List.all_eq_true.2 fun p hp=>s4 p.1 (List.mem_map.2 ⟨p,hp,rfl⟩),decide_eq_true s2.nd⟩
    rw [show zg3 okI zaP E x=some (zhh zaP E x) from if_pos hok,zaa]
    obtain ⟨p1,p2,p3,_⟩:=(s2.mem _ _).1 (zg8 zaP hmx)
    have hmp:=zbj.2 p1
    obtain ⟨X,e,hr⟩:=hW.key hmp
    obtain ⟨hX,ht,hk,hokp⟩:=zoT C hr
    generalize hp:zhh zaP E x=p at *
    subst e
    have hXl:X.l=al:=znD p2 (by rw [hX.len,C.hl]) (by rw [hX.len];omega)
    have hsh:=hr.short C.h C.hl C.nn
    have hlen:((A (pnt X)).length:Int)<=2*total al:=by
     rcases hsh.2 with h | ⟨_,h,_⟩
     ·rw [hXl] at h
      exact h
     ·rw [hXl] at h
      omega
    have ht5:=C.t5
    rw [show zg3 zbN zbc M (pnt X)=some (zhh zbc M (pnt X)) from if_pos (hW.mok C hr),zaa,ztZ C hW n hmp (by omega) (by simp;omega),zaa]
    refine ⟨_,rfl,.inl ⟨rfl,?_⟩⟩
    simp only [List.nil_append,List.reverse_reverse]
    have hb:zeU b.Wheel ⟨0,0⟩ (A (pnt X))=x:=by rw [hX.buys];exact p3
    have hq:=zbK.1 hq
    exact ⟨hX.ok,hlen,fun k _=>by rw [hX.bag k,hXl],by rw [hb];exact hq.1,by rw [hb];exact hq.2⟩
   ·rw [if_pos (by simpa using hq)]
    have:=ih (i+1) m (by omega) (by omega) (by omega) fun v hvm=>by
     rcases hv v hvm with h | h
     ·rw [hdr] at h
      rcases List.mem_cons.1 h with rfl | h
      ·exact .inr fun hh=>hq (zbK.2 hh)
      ·exact .inl h
     ·exact .inr h
    rw [show (((i+1:Nat)):Int)=(i:Int)+1 by simp] at this
    exact this
 exact key bs.length 0 n (by omega) (by omega) (by omega) fun v hv=>.inl (by simpa using hv)
def zjN:Nat->List Int->Nat->List (List Int)
 | 0,p,_=>[p]
 | d+1,p,t=>(upF 0 (t+1)).flatMap fun v=>zjN d (p++[v]) (t-v.toNat)
def zlV {S:Type} (F:List Int->S->Option (Unit×S)):List (List Int)->S->Option S
 | [],s=>some s
 | x::l,s=>(F x s).bind fun r=>zlV F l r.2
theorem zkB {S:Type} (F:List Int->S->Option (Unit×S)):∀(a b:List (List Int)) (s:S),zlV F (a++b) s=(zlV F a s).bind fun s=>zlV F b s
 | [],b,s=>rfl
 | x::a,b,s=>by
  simp only [List.cons_append,zlV]
  cases F x s with
  | none=>rfl
  | some r =>
   simp only [Option.bind_some]
   exact zkB F a b r.2
theorem zt5 {S:Type} (F:List Int->S->Option (Unit×S)) {b:Box} (h4:b.Wheel.Coins.length<=4):∀(d:Nat) (p:List Int) (t n:Nat) (s:S),p.length+d=b.Wheel.Coins.length->t<=2->d+10<=n->zbC n F (some ⟨b⟩) p (t:Int) s=(zlV F (zjN d p t) s).map fun s=>((),s)
 | d,p,t,0,s,_,_,hn=>absurd hn (by omega)
 | 0,p,t,n+1,s,hp,ht,hn=>by
  simp only [zbC,zc9]
  rw [zaa,if_pos (by simp;omega)]
  simp only [zjN,zlV]
  cases F p s<;>rfl
 | d+1,p,t,n+1,s,hp,ht,hn=>by
  simp only [zbC,zc9]
  rw [zaa,if_neg (by simp;omega)]
  have loop:∀(e i m:Nat) (s:S),i+e=t+1->e<m->zbF (zbC n F) (some ⟨b⟩) p (t:Int) m (i:Int) s=(zlV F ((upF i e).flatMap fun v=>zjN d (p++[v]) (t-v.toNat)) s).map fun s=>((),s):=by
   intro e
   induction e with
   | zero =>
    intro i m s hi hm
    obtain ⟨m,rfl⟩:∃q,m=q+1:=⟨m-1,by omega⟩
    simp only [zbF,zcC]
    rw [zaU (by omega) (by omega),if_neg (by simp;omega)]
    rfl
   | succ e ih =>
    intro i m s hi hm
    obtain ⟨m,rfl⟩:∃q,m=q+1:=⟨m-1,by omega⟩
    simp only [zbF,zcC,slices_Clone_int]
    have hrec:=zt5 F h4 d (p++[(i:Int)]) (t-i) n s (by simp;omega) (by omega) (by omega)
    rw [show ((t-i:Nat):Int)=(t:Int)-(i:Int) by omega] at hrec
    rw [zaU (x:=(t:Int)+1) (by omega) (by omega),if_pos (by simp;omega),zlN (by omega),zaa,zjw (by simp;omega),zaa,zaU (x:=(t:Int)-i) (by omega) (by omega),zaU (x:=(i:Int)+1) (by omega) (by omega),hrec]
    simp only [upF,List.flatMap_cons,zkB,Int.toNat_natCast]
    cases zlV F (zjN d (p++[(i:Int)]) (t-i)) s with
    | none=>rfl
    | some s' =>
     have:=ih (i+1) m s' (by omega) (by omega)
     rw [show (((i+1:Nat)):Int)=(i:Int)+1 by simp] at this
     simp only [Option.map_some,Option.bind_some]
     exact this
  exact loop (t+1) 0 n s (by omega) (by omega)
theorem zlW:∀(d:Nat) (p:List Int) (t:Nat) (P:List Int),P∈zjN d p t↔∃r,P=p++r/\r.length=d/\(∀k,0<=r.getD k 0)/\total r<=t
 | 0,p,t,P=>by
  simp only [zjN,List.mem_singleton]
  constructor
  ·rintro rfl
   exact ⟨[],by simp,rfl,fun k=>by simp,by simp [total]⟩
  ·rintro ⟨r,rfl,h,_⟩
   obtain rfl:=List.eq_nil_of_length_eq_zero h
   simp
 | d+1,p,t,P=>by
  simp only [zjN,List.mem_flatMap]
  constructor
  ·rintro ⟨v,hv,hP⟩
   have hv:=znJ.1 hv
   obtain ⟨r,rfl,h1,h2,h3⟩:=(zlW d _ _ P).1 hP
   refine ⟨v::r,by simp,by simp [h1],fun k=>?_,?_⟩
   ·cases k with
    | zero =>
     show 0<=v
     omega
    | succ k=>simpa using h2 k
   ·simp only [total]
    omega
  ·rintro ⟨r,rfl,h1,h2,h3⟩
   cases r with
   | nil=>simp at h1
   | cons v r =>
    have hv:0<=v:=h2 0
    have hr:∀k,0<=r.getD k 0:=fun k=>by simpa using h2 (k+1)
    have ht:=zdk (zgE hr)
    simp only [total] at h3
    exact ⟨v,znJ.2 ⟨by omega,by omega⟩,(zlW d _ _ _).2 ⟨r,by simp,by simpa using h1,hr,by omega⟩⟩
theorem zlX {b:Box} {P:List Int}:P∈zjN b.Wheel.Coins.length [] 2↔More b P:=by
 rw [zlW]
 constructor
 ·rintro ⟨r,rfl,h1,h2,h3⟩
  exact ⟨by simpa using h1,by simpa using h2,by simpa using h3⟩
 ·rintro ⟨h1,h2,h3⟩
  exact ⟨P,by simp,h1,h2,h3⟩
theorem zoI:∀(d:Nat) (p:List Int) (t:Nat),t<=2->(zjN d p t).length<=3 ^ d
 | 0,p,t,_=>by simp [zjN]
 | d+1,p,t,ht=>by
  simp only [zjN]
  refine Nat.le_trans (zke (c:=3 ^ d) fun v _=>zoI d _ _ (by omega)) ?_
  rw [zpF,Nat.pow_succ,Nat.mul_comm]
  exact Nat.mul_le_mul_left _ (by omega)
structure GInv (b:Box) (xs:List (List Int)) (gs:List Gap_):Prop where
 len:gs.length<=xs.length
 mem:∀g,g∈gs->More b g.purse/\ExplOk b (sums (zdM b) g.purse) g.acts
 eq:∀g,g∈gs->∀h,h∈gs->zdw b.Wheel g.purse=zdw b.Wheel h.purse
 le:∀P,P∈xs->zse b (sums (zdM b) P)->∃g,g∈gs/\zdw b.Wheel g.purse<=zdw b.Wheel P
theorem zjO {b:Box} {P:List Int} (h:More b P):zkK P:=fun k=>by have:=h.small k;omega
theorem zoJ {b:Box} (N:Near b) {n:Nat} (hn:100000<=n) {xs:List (List Int)} {gs:List Gap_} {P:List Int} (hP:More b P) (hx:xs.length<=100) (h:GInv b xs gs):∃gs',zaM n (some ⟨b⟩) P gs=some ((),gs')/\GInv b (xs++[P]) gs':=by
 obtain ⟨r,hr,hc⟩:=zr4 N hP hn
 have hw:=fun {l} (hl:More b l)=>zqT N.ok.far.h (show 100<=n by omega) hl.l (zjO hl)
 have skip:r.2=false->¬zse b (sums (zdM b) P):=fun e=>by
  rcases hc with ⟨h1,_⟩ | ⟨_,h2⟩
  ·rw [e] at h1
   cases h1
  ·exact h2
 have take:r.2=true->ExplOk b (sums (zdM b) P) r.1:=fun e=>by
  rcases hc with ⟨_,h2⟩ | ⟨h1,_⟩
  ·exact h2
  ·rw [e] at h1
   cases h1
 have keep:¬zse b (sums (zdM b) P)->GInv b (xs++[P]) gs:=fun hno=>⟨by have:=h.len;simp;omega,h.mem,h.eq,fun Q hQ hE=>by
  rcases List.mem_append.1 hQ with hQ | hQ
  ·exact h.le Q hQ hE
  ·obtain rfl:=List.mem_singleton.1 hQ
   exact absurd hE hno⟩
 cases gs with
 | nil =>
  simp only [zaM]
  rw [hr,zaa]
  cases e:r.2 with
  | false =>
   rw [if_pos (by rfl)]
   exact ⟨_,rfl,keep (skip e)⟩
  | true =>
   rw [if_neg (by simp)]
   refine ⟨_,rfl,by simp,fun g hg=>?_,fun g hg g' hg'=>?_,fun Q hQ hE=>?_⟩
   ·obtain rfl:=List.mem_singleton.1 hg
    exact ⟨hP,take e⟩
   ·rw [List.mem_singleton.1 hg,List.mem_singleton.1 hg']
   ·rcases List.mem_append.1 hQ with hQ | hQ
    ·obtain ⟨g,hg,_⟩:=h.le Q hQ hE
     simp at hg
    ·obtain rfl:=List.mem_singleton.1 hQ
     exact ⟨_,List.mem_singleton.2 rfl,Int.le_refl _⟩
 | cons x gs =>
  simp only [zaM]
  obtain ⟨hxm,hxe⟩:=h.mem x (by simp)
  rw [hw hP,zaa,hw hxm,zaa]
  by_cases hgt:zdw b.Wheel P>zdw b.Wheel x.purse
  ·rw [if_pos (by simpa using hgt)]
   refine ⟨_,rfl,by have:=h.len;simp at this ⊢;omega,h.mem,h.eq,fun Q hQ hE=>?_⟩
   rcases List.mem_append.1 hQ with hQ | hQ
   ·exact h.le Q hQ hE
   ·obtain rfl:=List.mem_singleton.1 hQ
    exact ⟨x,by simp,by omega⟩
  ·rw [if_neg (by simpa using hgt),hr,zaa]
   cases e:r.2 with
   | false =>
    rw [if_pos (by rfl)]
    exact ⟨_,rfl,keep (skip e)⟩
   | true =>
    rw [if_neg (by simp),zaa,zaa]
    by_cases hlt:zdw b.Wheel P<zdw b.Wheel x.purse
    ·rw [if_pos (by simpa using hlt)]
     refine ⟨_,rfl,by simp,fun g hg=>?_,fun g hg g' hg'=>?_,fun Q hQ hE=>?_⟩
     ·obtain rfl:=List.mem_singleton.1 hg
      exact ⟨hP,take e⟩
     ·rw [List.mem_singleton.1 hg,List.mem_singleton.1 hg']
     ·refine ⟨_,List.mem_singleton.2 rfl,?_⟩
      show zdw b.Wheel P<=_
      rcases List.mem_append.1 hQ with hQ | hQ
      ·obtain ⟨g,hg,hle⟩:=h.le Q hQ hE
       have:=h.eq g hg x (by simp)
       omega
      ·obtain rfl:=List.mem_singleton.1 hQ
       exact Int.le_refl _
    ·rw [if_neg (by simpa using hlt),zjw (by have:=h.len;simp at this ⊢;omega),zaa]
     have heq:zdw b.Wheel P=zdw b.Wheel x.purse:=by omega
     have hall:∀g,g∈x::gs++[⟨P,r.1⟩]->zdw b.Wheel g.purse=zdw b.Wheel P:=fun g hg=>by
      rcases List.mem_append.1 hg with hg | hg
      ·rw [heq]
       exact h.eq g hg x (by simp)
      ·rw [List.mem_singleton.1 hg]
     refine ⟨_,rfl,by have:=h.len;simp at this ⊢;omega,fun g hg=>?_,fun g hg g' hg'=>by rw [hall g hg,hall g' hg'],fun Q hQ hE=>?_⟩
     ·rcases List.mem_append.1 hg with hg | hg
      ·exact h.mem g hg
      ·obtain rfl:=List.mem_singleton.1 hg
       exact ⟨hP,take e⟩
     ·rcases List.mem_append.1 hQ with hQ | hQ
      ·obtain ⟨g,hg,hle⟩:=h.le Q hQ hE
       exact ⟨g,List.mem_append_left _ hg,hle⟩
      ·obtain rfl:=List.mem_singleton.1 hQ
       exact ⟨⟨Q,r.1⟩,List.mem_append_right _ (by simp),Int.le_refl _⟩
theorem zkC {b:Box} (N:Near b) {n:Nat} (hn:100000<=n):∀(l xs:List (List Int)) (gs:List Gap_),(∀P,P∈l->More b P)->xs.length+l.length<=100->GInv b xs gs->∃gs',zlV (fun x0 s=>zaM n (some ⟨b⟩) x0 s) l gs=some gs'/\GInv b (xs++l) gs'
 | [],xs,gs,_,_,h=>⟨gs,rfl,by simpa using h⟩
 | P::l,xs,gs,hm,hl,h=>by
  simp only [List.length_cons] at hl
  obtain ⟨gs1,h1,h2⟩:=zoJ N hn (hm P (by simp)) (by omega) h
  obtain ⟨gs2,h3,h4⟩:=zkC N hn l (xs++[P]) gs1 (fun Q hQ=>hm Q (by simp [hQ])) (by simp;omega) h2
  refine ⟨gs2,?_,by simpa using h4⟩
  simp only [zlV,h1,Option.bind_some]
  exact h3
def zBT (b:Box) (gs:List Gap_):Prop:=(gs=[]/\∀P,More b P->¬zse b (sums (zdM b) P))\/∃x t,gs=x::t/\More b x.purse/\ExplOk b (sums (zdM b) x.purse) x.acts/\∀P,More b P->zse b (sums (zdM b) P)->zdw b.Wheel x.purse<=zdw b.Wheel P
theorem zr5 {b:Box} (N:Near b) {n:Nat} (hn:100000<=n):∃gs,zcm n (some ⟨b⟩)=some gs/\zBT b gs:=by
 have h3:=N.k3
 have hlen:(zjN b.Wheel.Coins.length [] 2).length<=100:=by
  have h1:=zoI b.Wheel.Coins.length [] 2 (by omega)
  have h2:3 ^ b.Wheel.Coins.length<=3 ^ 3:=Nat.pow_le_pow_right (by omega) h3
  omega
 obtain ⟨gs,h1,h2⟩:=zkC N hn (zjN b.Wheel.Coins.length [] 2) [] [] (fun P hP=>zlX.1 hP) (by simpa using hlen) ⟨by simp,by simp,by simp,by simp⟩
 refine ⟨gs,?_,?_⟩
 ·unfold zcm
  have:=zt5 (fun x0 s=>zaM n (some ⟨b⟩) x0 s) (b:=b) (by omega) b.Wheel.Coins.length [] 2 n [] (by simp) (by omega) (by omega)
  rw [show zbC n (fun x0 s=>zaM n (some ⟨b⟩) x0 s) (some ⟨b⟩) [] 2 []=_ from this,h1]
  rfl
 ·rw [List.nil_append] at h2
  cases gs with
  | nil =>
   refine .inl ⟨rfl,fun P hP hE=>?_⟩
   obtain ⟨g,hg,_⟩:=h2.le P (zlX.2 hP) hE
   simp at hg
  | cons x t =>
   obtain ⟨m1,m2⟩:=h2.mem x (by simp)
   refine .inr ⟨x,t,rfl,m1,m2,fun P hP hE=>?_⟩
   obtain ⟨g,hg,hle⟩:=h2.le P (zlX.2 hP) hE
   have:=h2.eq g hg x (by simp)
   omega
theorem BoxOk.len {b:Box} (N:BoxOk b):zw0 b:=by
 have F:=N.far
 have h1:=F.fl
 have h2:=F.sl
 have h3:=F.ml
 have h4:=F.h.nlen
 have h5:=F.h.clen
 exact ⟨by omega,by omega,by omega,by omega,by omega⟩
theorem zpL {b:Box} (N:BoxOk b) {n:Nat} (hn:200<=n):ze0 n b=some (some ⟨b⟩,0):=by
 unfold ze0
 rw [zt2 b n N.len hn,zh5.2 N]
 rfl
theorem zt6 {b:Box} (F:NearF b) {n:Nat} (hn:200<=n):zhQ n b=some (zdM b):=by
 have h1:=F.fl
 have h2:=F.sl
 have h3:=F.h.clen
 unfold zhQ
 rw [zt0 (by omega) (fun k=>by have:=F.f k;omega) (fun k=>by have:=F.s k;omega) (by omega) (by omega)]
 rfl
theorem zlY {b:Box} (F:NearF b):zkK (zdM b):=fun k=>by
 rw [zjM F]
 have:=F.f k
 have:=F.s k
 omega
theorem zzv (b:Box) {n:Nat} (hn:200<=n):zhR n b=some true\/(zhR n b=some false/\zw0 b/\(BoxOk b->Near b)):=by
 unfold zhR
 by_cases hl:(max (max (max (max (b.Wheel.Notches.length:Int) (b.Wheel.Coins.length:Int)) (b.Found.length:Int)) (b.Marked.length:Int)) (b.Slugs.length:Int))>40
 ·rw [if_pos (by simpa using hl)]
  exact .inl rfl
 ·rw [if_neg (by simpa using hl)]
  have hL:zw0 b:=⟨by omega,by omega,by omega,by omega,by omega⟩
  rw [zzu b n hL hn,zaa]
  by_cases hb:BoxOk b
  ·have F:=hb.far
   have h1:=F.fl
   have h3:=F.h.clen
   rw [zh5.2 hb]
   show (Option.bind _ _=_)\/(Option.bind _ _=_/\_)
   rw [zt6 F hn,zaa,zu2 (zlY F) (by rw [zgG F];omega) (by rw [zgG F];omega),zaa,zlU F]
   by_cases ht:total b.Found+total b.Slugs>3
   ·rw [if_pos (by simpa using ht)]
    exact .inl rfl
   ·rw [if_neg (by simpa using ht)]
    unfold zeZ
    by_cases hk:(b.Found.length:Int)>3
    ·exact .inl (by simp [hk])
    ·exact .inr ⟨by simp;omega,hL,fun _=>⟨hb,by omega,by omega⟩⟩
  ·rw [zjL hb]
   exact .inr ⟨rfl,hL,fun h=>absurd h hb⟩
def zpM (b:Box) (m:Int):Prop:=(∃P,More b P/\zse b (sums (zdM b) P)/\zdw b.Wheel P=m)/\∀P,More b P->zse b (sums (zdM b) P)->m<=zdw b.Wheel P
def zzw (b:Box):Prop:=∀P,More b P->¬zse b (sums (zdM b) P)
def zr6 (b:Box) (r:Int×Int):Prop:=(r.2=0/\zpM b r.1)\/(r=(0,3)/\zzw b)
theorem zt7 {b:Box} (N:Near b) {n:Nat} (hn:100000<=n):∃gs,zcm n (some ⟨b⟩)=some gs/\((gs=[]/\zeE n b=some (none,[],3)/\zzw b)\/∃x t,gs=x::t/\zeE n b=some (some ⟨b⟩,x::t,0)/\More b x.purse/\ExplOk b (sums (zdM b) x.purse) x.acts/\zpM b (zdw b.Wheel x.purse)):=by
 obtain ⟨gs,h1,h2⟩:=zr5 N hn
 refine ⟨gs,h1,?_⟩
 unfold zeE
 rw [zpL N.ok (by omega),zaa,if_neg (by simp),h1,zaa]
 rcases h2 with ⟨rfl,h2⟩ | ⟨x,t,rfl,h3,h4,h5⟩
 ·exact .inl ⟨rfl,rfl,h2⟩
 ·rw [if_neg (by simp;omega)]
  exact .inr ⟨x,t,rfl,rfl,h3,h4,⟨x.purse,h3,h4.ex,rfl⟩,h5⟩
theorem zkh {b:Box} (N:Near b) {n:Nat} (hn:100000<=n):∃r,zbq n b=some r/\zr6 b r:=by
 obtain ⟨gs,_,h⟩:=zt7 N hn
 unfold zbq
 rcases h with ⟨rfl,h,h2⟩ | ⟨x,t,rfl,h,h3,h4,h5⟩
 ·rw [h]
  exact ⟨(0,3),rfl,.inr ⟨rfl,h2⟩⟩
 ·rw [h,zaa,if_neg (by simp)]
  show ∃r,Option.bind (some x) _=some r/\_
  rw [zaa,zqT N.ok.far.h (by omega) h3.l (zjO h3)]
  exact ⟨_,rfl,.inl ⟨rfl,h5⟩⟩
theorem zqV {w:Wheel} (h:OkW w) {P:List Int} (hs:zkK P):0<=zdw w P/\zdw w P<=100000*w.Coins.length:=by
 have:=zkb h hs w.Coins.length 0 (by omega)
 exact this
theorem zr6.eq {b:Box} {r r':Int×Int} (h:zr6 b r) (h':zr6 b r'):r=r':=by
 obtain ⟨a,c⟩:=r
 obtain ⟨a',c'⟩:=r'
 rcases h with ⟨h1,⟨P,p1,p2,p3⟩,h3⟩ | ⟨h1,h2⟩
 ·rcases h' with ⟨k1,⟨P',q1,q2,q3⟩,k3⟩ | ⟨k1,k2⟩
  ·have:=h3 P' q1 q2
   have:=k3 P p1 p2
   simp only at *
   have:a=a':=by omega
   rw [this,h1,k1]
  ·exact absurd p2 (k2 P p1)
 ·rcases h' with ⟨k1,⟨P',q1,q2,q3⟩,k3⟩ | ⟨k1,k2⟩
  ·exact absurd q2 (h2 P' q1)
  ·rw [h1,k1]
theorem zr6.nn {b:Box} (N:BoxOk b) {r:Int×Int} (h:zr6 b r):0<=r.1/\r.1<=1000000:=by
 rcases h with ⟨_,⟨P,h1,_,he⟩,_⟩ | ⟨rfl,_⟩
 ·rw [←he]
  have:=zqV N.far.h (zjO h1)
  have:=N.far.h.clen
  omega
 ·simp
theorem zfW {w:Wheel} {al:List Int} (C:Cx w al) {v:Int} (h:Can w al v):0<=v/\v<=500:=by
 obtain ⟨acts,x,hr,h1,rfl⟩:=(zzs C.h C.hl C.nn).1 h
 have hX:=(zoT C hr).1
 have h2:=hX.c0
 have h3:=hX.cb
 have h4:=hX.bt
 have h5:=(zoT C hr).2.1
 have h6:=C.t5
 omega
theorem zt8 {w:Wheel} {al L:List Int} (C:Cx w al) (h:zmh w al L):L.length<=501:=by
 have:=zkf (l:=L) (m:=upF 0 501) (h.1.imp fun hlt he=>by omega) fun v hv=>by
  have:=zfW C ((h.2 v).1 hv)
  exact znJ.2 (by omega)
 rw [zpF] at this
 exact this
theorem zu4 {w:Wheel} {al:List Int} (C:Cx w al):∃v,Can w al v:=by
 have ht:0<=total al:=zdk (zgE C.nn)
 have h5:=C.t5
 obtain ⟨acts,hw⟩:=ztS true C.h (total al).toNat (p:=0) (c:=0) (l:=al) (by omega) ⟨C.hl,zgE C.nn,by omega⟩ (Int.le_refl _) (by have:=C.h.r1;omega) (Int.le_refl _)
 exact ⟨_,acts,hw.ok,hw.bag,rfl⟩
def zmi (P:Int):List Int->Int×Int
 | []=>(0,3)
 | x::l=>if P<=x then (x-P,0) else zmi P l
theorem zmP {b:Box} (N:Near b) {n:Nat} (hn:100000<=n):∃L,zmh b.Wheel (zdM b) L/\zb4 n b=some (zmi b.Plays L):=by
 obtain ⟨L,h1,h2⟩:=zoH N hn
 have hL:=zt8 N.cx0 h2
 have hp:=N.ok.far.p
 refine ⟨L,h2,?_⟩
 unfold zb4
 rw [zpL N.ok (by omega),zaa,if_neg (by simp),h1,zaa]
 have key:=zrX (F:=fun m i (_:Unit)=>zb3 b L m i) (xs:=L) (spec:=fun l _=>some (zmi b.Plays l)) (I:=fun l _=>∀v,v∈l->0<=v/\v<=500) (by omega)
  (fun m s hI=>by simp [zb3,zdj,zd9,zmi])
  (fun m i x l s hI hx hi _ _ hrec=>by
   have hxr:=hI x (by simp)
   simp only [zb3,zdj,zmi]
   rw [if_pos (by simpa using hi),hx,zaa]
   by_cases hq:b.Plays<=x
   ·rw [if_pos (by simpa using hq),if_pos hq,zaU (by omega) (by omega)]
   ·rw [if_neg (by simpa using hq),if_neg hq]
    exact hrec () fun v hv=>hI v (by simp [hv]))
  L 0 n () (by omega) rfl (by omega) fun v hv=>zfW N.cx0 ((h2.2 v).1 hv)
 exact key
theorem zlZ {P:Int}:∀{L:List Int},L.Pairwise (·<·)->(∃v,v∈L/\P<=v/\zmi P L=(v-P,0)/\∀u,u∈L->P<=u->v<=u)\/(zmi P L=(0,3)/\∀u,u∈L->u<P)
 | [],_=>.inr ⟨rfl,by simp⟩
 | x::L,h=>by
  rw [List.pairwise_cons] at h
  simp only [zmi]
  by_cases hq:P<=x
  ·refine .inl ⟨x,by simp,hq,if_pos hq,fun u hu _=>?_⟩
   rcases List.mem_cons.1 hu with rfl | hu
   ·exact Int.le_refl _
   ·have:=h.1 u hu
    omega
  ·rw [if_neg hq]
   rcases zlZ h.2 with ⟨v,h1,h2,h3,h4⟩ | ⟨h1,h2⟩
   ·refine .inl ⟨v,by simp [h1],h2,h3,fun u hu hpu=>?_⟩
    rcases List.mem_cons.1 hu with rfl | hu
    ·exact absurd hpu hq
    ·exact h4 u hu hpu
   ·refine .inr ⟨h1,fun u hu=>?_⟩
    rcases List.mem_cons.1 hu with rfl | hu
    ·omega
    ·exact h2 u hu
theorem zzx {L:List Int} {n:Nat} (h:L≠[]) (hl:L.length<1048576) (hn:L.length<n):slices_Max_int n L=some (L.tail.foldl max (L.getD 0 0)):=by
 cases L with
 | nil=>exact absurd rfl h
 | cons x t =>
  unfold slices_Max_int zex
  rw [if_neg (by simp;omega),show idx (x::t) 0=some x from rfl,zaa]
  have key:=zwa (F:=fun m i (s:Int)=>zcn (x::t) m s i) (xs:=x::t) (spec:=fun l s=>some (l.foldl max s)) hl
   (fun m s=>by simp [zcn,zdE,zew])
   (fun m i y l s hx hi _ _ hrec=>by
    simp only [zcn,zdE,List.foldl_cons]
    rw [if_pos (by simpa using hi),hx,zaa]
    exact hrec _)
   t 1 n x (by simp) rfl (by simp at hn;omega)
  exact key
theorem zoK:∀(t:List Int) (x:Int),(∀y,y∈t->x<y)->t.Pairwise (·<·)->t.foldl max x=(x::t).getLast (by simp)
 | [],x,_,_=>rfl
 | y::t,x,h1,h2=>by
  rw [List.pairwise_cons] at h2
  have hxy:=h1 y (by simp)
  rw [List.foldl_cons,Int.max_eq_right (by omega),zoK t y h2.1 h2.2]
  rfl
def zt9 (L:List Int):Int:=L.getD (L.length-1) 0
theorem zwo {L:List Int} (h:L≠[]) (hp:L.Pairwise (·<·)):L.tail.foldl max (L.getD 0 0)=zt9 L:=by
 cases L with
 | nil=>exact absurd rfl h
 | cons x t =>
  rw [List.pairwise_cons] at hp
  show t.foldl max x=_
  rw [zoK t x hp.1 hp.2,List.getLast_eq_getElem]
  unfold zt9
  rw [getD_get]
theorem zua {L:List Int} (h:L≠[]):zt9 L∈L:=by
 have hl:0<L.length:=List.length_pos_iff.2 h
 unfold zt9
 rw [←getD_get (by omega)]
 exact List.getElem_mem _
theorem zvA {L:List Int} (hp:L.Pairwise (·<·)) {v:Int} (hv:v∈L):v<=zt9 L:=by
 obtain ⟨i,hi,rfl⟩:=List.getElem_of_mem hv
 unfold zt9
 rw [←getD_get (show L.length-1<L.length by omega)]
 rcases Nat.lt_or_ge i (L.length-1) with h | h
 ·exact Int.le_of_lt (List.pairwise_iff_getElem.1 hp i (L.length-1) hi (by omega) h)
 ·have:i=L.length-1:=by omega
  subst this
  exact Int.le_refl _
theorem zvB {w:Wheel} {al L:List Int} (C:Cx w al) (h:zmh w al L):L≠[]:=fun e=>by
 obtain ⟨v,hv⟩:=zu4 C
 have:=(h.2 v).2 hv
 rw [e] at this
 simp at this
theorem zqW {b:Box} (N:Near b) {n:Nat} (hn:100000<=n):∃L,zmh b.Wheel (zdM b) L/\zcM n b=some (max 0 (b.Plays-zt9 L),0):=by
 obtain ⟨L,h1,h2⟩:=zoH N hn
 have hL:=zt8 N.cx0 h2
 have hne:=zvB N.cx0 h2
 have hp:=N.ok.far.p
 have ht:=zfW N.cx0 ((h2.2 _).1 (zua hne))
 refine ⟨L,h2,?_⟩
 unfold zcM
 rw [zpL N.ok (by omega),zaa,if_neg (by simp),h1,zaa,zzx hne (by omega) (by omega),zaa,zwo hne h2.1,zaU (by omega) (by omega)]
def exW:Wheel:=⟨50,[10,20,25],[5,10,25]⟩
theorem zzy {w:Wheel} {al acts:List Int} (h:(List.range w.Coins.length).all (fun k=>cnt (k:Int) acts==al.getD k 0)=true):∀k:Nat,k<w.Coins.length->cnt k acts=al.getD k 0:=fun k hk=>by
 rw [List.all_eq_true] at h
 simpa using h k (List.mem_range.2 hk)
theorem zu5 {b:Box} (h:zw0 b):zid b=some b:=by
 obtain ⟨h1,h2,h3,h4,h5⟩:=h
 unfold zid
 rw [zwb (n:=100) ⟨by omega,by omega,by omega,by omega⟩,zaa,zlN (by omega),zaa,zlN (by omega),zaa,zlN (by omega),zaa]
theorem zub {w:Wheel} (h:OkW w) {l:List Int} (hl:zkK l):∀(d k j:Nat),k+d<=w.Coins.length->k<=j->j<k+d->l.getD j 0<=znH w l d k
 | 0,k,j,_,h1,h2=>by omega
 | d+1,k,j,hk,h1,h2=>by
  have ht:=zuZ h hl (show k<w.Coins.length by omega)
  have hr:=zkb h hl d (k+1) (by omega)
  simp only [znH]
  by_cases e:j=k
  ·subst e
   have hco:=zc5 h (a:=(j:Int)) (by omega) (by omega)
   have:=hl j
   have:1*l.getD j 0<=coin w j*l.getD j 0:=Int.mul_le_mul_of_nonneg_right hco.1 (by omega)
   omega
  ·have:=zub h hl d (k+1) j (by omega) (by omega) (by omega)
   omega
def zki (b:Box):List Int:=List.replicate b.Wheel.Coins.length 0
theorem zin (b:Box) (k:Nat):(zki b).getD k 0=0:=zkc b.Wheel k
theorem zl0 (b:Box):More b (zki b):=⟨by simp [zki],fun k=>by rw [zin];exact Int.le_refl _,by rw [show total (zki b)=0 from zjK _];omega⟩
theorem zoL {b:Box} (F:NearF b):sums (zdM b) (zki b)=zdM b:=by
 have e:(zki b).length=(zdM b).length:=by rw [zgG F];simp [zki]
 exact zfV (n:=(zdM b).length) (zhw e) rfl fun k _=>by rw [zgF e,zin,Int.add_zero]
theorem zoM {w:Wheel} {l:List Int} (h:∀k,l.getD k 0=0):∀(d k:Nat),znH w l d k=0
 | 0,k=>rfl
 | d+1,k=>by simp only [znH,h k,zoM h d (k+1)];simp
theorem zr7 (b:Box):zdw b.Wheel (zki b)=0:=zoM (zin b) _ _
theorem zr8 {b:Box} (N:BoxOk b) {P:List Int} (h:More b P) (hz:zdw b.Wheel P<=0):P=zki b:=by
 refine zfV (n:=b.Wheel.Coins.length) h.l (zl0 b).l fun k hk=>?_
 rw [zin]
 have h1:=zub N.far.h (zjO h) b.Wheel.Coins.length 0 k (by omega) (by omega) (by omega)
 have h2:=h.nn k
 have h3:znH b.Wheel P b.Wheel.Coins.length 0<=0:=hz
 omega
theorem zjP {R q p:Int} (hR:0<R):∀l:List Int,reached R (p+R*q) p l=q*l.length
 | []=>by simp [reached]
 | m::l=>by
  simp only [reached]
  rw [zjP hR l,show p+R*q-m+R=(p-m+R)+R*q by omega,Int.add_mul_ediv_left _ _ (by omega),List.length_cons,Int.natCast_add,Int.mul_add]
  simp
  omega
theorem zu6 {w:Wheel} (h:OkW w) {p c d:Int} (h0:0<=p) (h1:p<w.Round) (hc:0<=c) (hd:0<=d) :
  turn w p (c+d)=((turn w (turn w p c).1 d).1,(turn w p c).2+(turn w (turn w p c).1 d).2):=by
 obtain ⟨j,rfl⟩:∃j:Nat,c=j:=⟨c.toNat,by omega⟩
 obtain ⟨k,rfl⟩:∃k:Nat,d=k:=⟨d.toNat,by omega⟩
 have hr:=zbv h h0 h1 (show (0:Int)<=(j:Int) by omega)
 rw [show ((j:Int)+(k:Int))=((j+k:Nat):Int) by simp,←zij h h0 h1 (j+k),zpB,zpA,zij h h0 h1 j,zij h hr.1.1 hr.1.2 k]
inductive Rep (w:Wheel):Int->Prop
 | zero:Rep w 0
 | add (s:Int) (k:Nat):Rep w s->k<w.Coins.length->Rep w (s+coin w k)
def cN (w:Wheel) (s:Int):Int:=(turn w 0 s).2
theorem znM {w:Wheel} (h:OkW w) {k:Nat} (hk:k<w.Coins.length):1<=coin w k/\coin w k<=100:=zc5 h (a:=(k:Int)) (by omega) (by omega)
theorem Rep.nn {w:Wheel} (h:OkW w) {s:Int} (hs:Rep w s):0<=s:=by
 induction hs with
 | zero=>omega
 | add s k _ hk ih=>have:=znM h hk;omega
theorem zr9 {w:Wheel} (h:OkW w) {s:Int} (hs:0<=s):0<=cN w s/\cN w s<=s:=by
 have:=h.r1
 have:=zbv h (p:=0) (by omega) (by omega) hs
 exact this.2
theorem zpN {w:Wheel} (h:OkW w):cN w 0=0:=by have:=zr9 h (s:=0) (by omega);omega
theorem zl1 {w:Wheel} (h:OkW w):turn w 0 0=(0,0):=by
 have:=h.r1
 have e:=zij h (p:=0) (by omega) (by omega) 0
 rw [show turn w 0 0=turn w 0 ((0:Nat):Int) from rfl,←e]
 rfl
theorem zpO {w:Wheel} (h:OkW w) {s:Int} (hs:0<=s):0<=(turn w 0 s).1/\(turn w 0 s).1<w.Round:=by
 have:=h.r1
 exact (zbv h (p:=0) (by omega) (by omega) hs).1
theorem zqX {w:Wheel} (h:OkW w) {s c:Int} (hs:0<=s) (hc:0<=c):cN w (s+c)=cN w s+(turn w (turn w 0 s).1 c).2/\(turn w 0 (s+c)).1=(turn w (turn w 0 s).1 c).1:=by
 have:=h.r1
 have:=zu6 h (p:=0) (c:=s) (d:=c) (by omega) (by omega) hs hc
 unfold cN
 rw [this]
 exact ⟨rfl,rfl⟩
theorem zwp {w:Wheel} (h:OkW w) {s t:Int} (hs:0<=s) (ht:s<=t):cN w s<=cN w t:=by
 have hp:=zpO h hs
 have:=(zqX h hs (show 0<=t-s by omega)).1
 have:=zbv h hp.1 hp.2 (show 0<=t-s by omega)
 rw [show s+(t-s)=t by omega] at *
 omega
structure IsOne (w:Wheel) (k s:Int):Prop where
 rep:Rep w s
 cnt:k<=cN w s
 least:∀s',Rep w s'->k<=cN w s'->s<=s'
theorem IsOne.mono {w:Wheel} {k k' s s':Int} (h:IsOne w k s) (h':IsOne w k' s') (hk:k<=k'):s<=s':=h.least _ h'.rep (by have:=h'.cnt;omega)
theorem IsOne.pos {w:Wheel} (hw:OkW w) {k s:Int} (h:IsOne w k s) (hk:1<=k):1<=s:=by
 have:=h.rep.nn hw
 have:=h.cnt
 have:=zr9 hw (s:=s) (by omega)
 omega
theorem IsOne.zero {w:Wheel} (hw:OkW w) {s:Int} (h:IsOne w 0 s):s=0:=by
 have:=h.least 0 .zero (by rw [zpN hw];omega)
 have:=h.rep.nn hw
 omega
theorem Rep.mul {w:Wheel} {k:Nat} (hk:k<w.Coins.length):∀m:Nat,Rep w ((m:Int)*coin w k)
 | 0=>by simp;exact .zero
 | m+1=>by
  have:=Rep.add _ k (Rep.mul hk m) hk
  rw [show ((m+1:Nat):Int)*coin w k=(m:Int)*coin w k+coin w k by rw [Int.natCast_add,Int.add_mul];simp]
  exact this
theorem zoN {w:Wheel} (h:OkW w):∀m:Nat,cN w ((m:Int)*w.Round)=m*w.Notches.length/\(turn w 0 ((m:Int)*w.Round)).1=0
 | 0=>by
  have:=zl1 h
  simp only [cN,Int.natCast_zero,Int.zero_mul,this]
  exact ⟨trivial,trivial⟩
 | m+1=>by
  have hr:=h.r1
  obtain ⟨h1,h2⟩:=zoN h m
  have hs:0<=(m:Int)*w.Round:=Int.mul_nonneg (by omega) (by omega)
  obtain ⟨a,b⟩:=zqX h hs (show 0<=w.Round by omega)
  rw [show ((m+1:Nat):Int)*w.Round=(m:Int)*w.Round+w.Round by rw [Int.natCast_add,Int.add_mul];simp]
  rw [a,b,h1,h2]
  have e:turn w 0 w.Round=(0,(w.Notches.length:Int)):=by
   unfold turn
   have:=zjP (show 0<w.Round by omega) w.Notches (p:=0) (q:=1)
   rw [Int.mul_one,Int.one_mul] at this
   rw [this,Int.zero_add,Int.emod_self]
  rw [e]
  refine ⟨?_,rfl⟩
  rw [Int.natCast_add,Int.add_mul]
  simp
theorem zqY {w:Wheel} (h:OkW w) (hc:w.Coins.length≠0) (hn:w.Notches.length≠0) {k:Nat} (hk:k<=20):∃s,Rep w s/\(k:Int)<=cN w s/\s<=4099:=by
 have hr1:=h.r1
 have hr2:=h.r2
 have hco:=znM h (k:=0) (by omega)
 generalize hcc:coin w (0:Nat)=c at hco
 have hm:0<=20*w.Round:=by omega
 have hd:=Int.mul_ediv_add_emod (20*w.Round+c-1) c
 have hd2:=Int.emod_nonneg (20*w.Round+c-1) (show c≠0 by omega)
 have hd3:=Int.emod_lt_of_pos (20*w.Round+c-1) (show 0<c by omega)
 have hq:0<=(20*w.Round+c-1) / c:=Int.ediv_nonneg (by omega) (by omega)
 generalize (20*w.Round+c-1) / c=q at *
 have hrep:=Rep.mul (w:=w) (k:=0) (by omega) q.toNat
 rw [hcc,show ((q.toNat:Nat):Int)=q by omega,Int.mul_comm] at hrep
 have e20:=(zoN h 20).1
 have hmono:=zwp h (s:=((20:Nat):Int)*w.Round) (t:=c*q) (by simp;omega) (by simp;omega)
 rw [e20] at hmono
 refine ⟨c*q,hrep,?_,by omega⟩
 have:(1:Int)<=w.Notches.length:=by omega
 have:=Int.mul_le_mul_of_nonneg_left this (show (0:Int)<=((20:Nat):Int) by simp)
 simp at this hmono
 omega
theorem zmQ {P:Int->Prop}:∀(d:Nat) {s:Int},P s->0<=s->s<=d->∃m,P m/\0<=m/\∀s',P s'->0<=s'->m<=s'
 | 0,s,h,h0,h1=>⟨s,h,h0,fun s' _ h'=>by omega⟩
 | d+1,s,h,h0,h1=>by
  by_cases q:∃s',P s'/\0<=s'/\s'<s
  ·obtain ⟨s',a,b,c⟩:=q
   exact zmQ d a b (by omega)
  ·exact ⟨s,h,h0,fun s' a b=>Classical.byContradiction fun e=>q ⟨s',a,b,by omega⟩⟩
theorem zsa {w:Wheel} (h:OkW w) (hc:w.Coins.length≠0) (hn:w.Notches.length≠0) (k:Nat):∃s,k<=20->IsOne w k s:=by
 by_cases hk:k<=20
 ·obtain ⟨s,h1,h2,_⟩:=zqY h hc hn hk
  obtain ⟨m,⟨a1,a2⟩,b,c⟩:=zmQ (P:=fun s=>Rep w s/\(k:Int)<=cN w s) s.toNat (s:=s) ⟨h1,h2⟩ (h1.nn h) (by have:=h1.nn h;omega)
  exact ⟨m,fun _=>⟨a1,a2,fun s' r q=>c s' ⟨r,q⟩ (r.nn h)⟩⟩
 ·exact ⟨0,fun q=>(hk q).elim⟩
theorem zBU {w:Wheel} (h:OkW w) (hc:w.Coins.length≠0) (hn:w.Notches.length≠0):∃one:Nat->Int,∀k:Nat,k<=20->IsOne w k (one k):=Classical.skolem.1 (zsa h hc hn)
def zvC (one:Nat->Int) (best:List Int) (n:Nat):Nat->Nat->Int->Int
 | 0,_,m=>m
 | d+1,k,m=>zvC one best n d (k+1) (min m (one k+best.getD (n-k) 0))
def zl2 (one:Nat->Int):Nat->List Int
 | 0=>[0]
 | n+1=>zl2 one n++[zvC one (zl2 one n) (n+1) n 1 (one (n+1))]
def F (one:Nat->Int) (n:Nat):Int:=(zl2 one n).getD n 0
theorem zl3 (one:Nat->Int):∀n,(zl2 one n).length=n+1
 | 0=>rfl
 | n+1=>by simp [zl2,zl3 one n]
theorem zkj (one:Nat->Int):∀(n k:Nat),k<=n->(zl2 one n).getD k 0=F one k
 | 0,k,hk=>by
  have:k=0:=by omega
  subst this
  rfl
 | n+1,k,hk=>by
  by_cases e:k=n+1
  ·subst e;rfl
  ·have hl:=zl3 one n
   rw [←zkj one n k (by omega),zl2,List.getD_eq_getElem?_getD,List.getElem?_append_left (by omega),←List.getD_eq_getElem?_getD]
theorem ziE (one:Nat->Int):F one 0=0:=rfl
theorem zl4 (one:Nat->Int) (best:List Int) (n:Nat):∀(d k:Nat) (m:Int),zvC one best n d k m<=m/\(∀j,k<=j->j<k+d->zvC one best n d k m<=one j+best.getD (n-j) 0)/\(zvC one best n d k m=m\/∃j,k<=j/\j<k+d/\zvC one best n d k m=one j+best.getD (n-j) 0)
 | 0,k,m=>⟨Int.le_refl m,fun j h1 h2=>by omega,.inl rfl⟩
 | d+1,k,m=>by
  obtain ⟨h1,h2,h3⟩:=zl4 one best n d (k+1) (min m (one k+best.getD (n-k) 0))
  simp only [zvC]
  refine ⟨by omega,fun j a b=>?_,?_⟩
  ·by_cases e:j=k
   ·subst e;omega
   ·exact h2 j (by omega) (by omega)
  ·rcases h3 with h3 | ⟨j,a,b,c⟩
   ·by_cases q:m<=one k+best.getD (n-k) 0
    ·exact .inl (by rw [h3];omega)
    ·exact .inr ⟨k,by omega,by omega,by rw [h3];omega⟩
   ·exact .inr ⟨j,by omega,by omega,c⟩
theorem zuc (one:Nat->Int) (n:Nat):F one (n+1)=zvC one (zl2 one n) (n+1) n 1 (one (n+1)):=by
 have hl:=zl3 one n
 unfold F
 rw [zl2,List.getD_eq_getElem?_getD,List.getElem?_append_right (by omega),hl]
 simp
theorem zzz (one:Nat->Int) {n k:Nat} (h1:1<=k) (h2:k<=n):F one n<=one k+F one (n-k):=by
 obtain ⟨n,rfl⟩:∃m,n=m+1:=⟨n-1,by omega⟩
 rw [zuc]
 obtain ⟨a,b,c⟩:=zl4 one (zl2 one n) (n+1) n 1 (one (n+1))
 by_cases e:k=n+1
 ·subst e
  rw [Nat.sub_self,ziE]
  omega
 ·have:=b k h1 (by omega)
  rw [zkj one n _ (by omega)] at this
  exact this
theorem zzA (one:Nat->Int) {n:Nat} (h:1<=n):∃k,1<=k/\k<=n/\F one n=one k+F one (n-k):=by
 obtain ⟨n,rfl⟩:∃m,n=m+1:=⟨n-1,by omega⟩
 obtain ⟨a,b,c⟩:=zl4 one (zl2 one n) (n+1) n 1 (one (n+1))
 rcases c with c | ⟨j,c1,c2,c3⟩
 ·exact ⟨n+1,by omega,by omega,by rw [zuc,c,Nat.sub_self,ziE];omega⟩
 ·exact ⟨j,c1,by omega,by rw [zuc,c3,zkj one n _ (by omega)]⟩
structure Ones (one:Nat->Int) (N:Nat):Prop where
 nn:∀k,k<=N->0<=one k
 pos:∀k,1<=k->k<=N->1<=one k
 mono:∀k k',k<=k'->k'<=N->one k<=one k'
theorem zzB {one:Nat->Int} {N:Nat} (h:Ones one N):∀n:Nat,n<=N->0<=F one n:=by
 intro n
 induction n using Nat.strongRecOn with
 | ind n ih =>
  intro hn
  by_cases e:n=0
  ·subst e;exact Int.le_refl 0
  ·obtain ⟨k,a,b,c⟩:=zzA one (show 1<=n by omega)
   have:=ih (n-k) (by omega) (by omega)
   have:=h.nn k (by omega)
   omega
theorem zBJ {one:Nat->Int} {N:Nat} (h:Ones one N) {n:Nat} (h1:1<=n) (hn:n<=N):1<=F one n:=by
 obtain ⟨k,a,b,c⟩:=zzA one h1
 have:=zzB h (n-k) (by omega)
 have:=h.pos k a (by omega)
 omega
theorem zwq {one:Nat->Int} {N:Nat} (h:Ones one N):∀n:Nat,n+1<=N->F one n<=F one (n+1):=by
 intro n
 induction n using Nat.strongRecOn with
 | ind n ih =>
  intro hn
  obtain ⟨k,a,b,c⟩:=zzA one (show 1<=n+1 by omega)
  by_cases e:k=n+1
  ·subst e
   rw [Nat.sub_self,ziE] at c
   by_cases e0:n=0
   ·subst e0
    have:=zzB h 1 (by omega)
    rw [ziE]
    exact this
   ·have h1:=zzz one (n:=n) (k:=n) (by omega) (by omega)
    rw [Nat.sub_self,ziE] at h1
    have:=h.mono n (n+1) (by omega) (by omega)
    omega
  ·have h1:=zzz one (n:=n) (k:=k) a (by omega)
   have h2:=ih (n-k) (by omega) (by omega)
   rw [show n-k+1=n+1-k by omega] at h2
   omega
theorem zqZ {one:Nat->Int} {N:Nat} (h:Ones one N) {n:Nat}:∀{m:Nat},n<=m->m<=N->F one n<=F one m
 | 0,h1,_=>by
  have:n=0:=by omega
  subst this
  exact Int.le_refl _
 | m+1,h1,h2=>by
  by_cases e:n=m+1
  ·subst e;exact Int.le_refl _
  ·have:=zqZ h (n:=n) (m:=m) (by omega) (by omega)
   have:=zwq h m h2
   omega
theorem zzC {one:Nat->Int} {N:Nat} (h:Ones one N) {b:Nat}:∀a:Nat,a+b<=N->F one (a+b)<=F one a+F one b:=by
 intro a
 induction a using Nat.strongRecOn with
 | ind a ih =>
  intro hn
  by_cases e:a=0
  ·subst e
   rw [Nat.zero_add,ziE]
   omega
  ·obtain ⟨k,c1,c2,c3⟩:=zzA one (show 1<=a by omega)
   have h1:=zzz one (n:=a+b) (k:=k) c1 (by omega)
   have h2:=ih (a-k) (by omega) (by omega)
   rw [show a-k+b=a+b-k by omega] at h2
   omega
theorem znN {w:Wheel} (h:OkW w) {one:Nat->Int} {N:Nat} (ho:∀k:Nat,k<=N->IsOne w k (one k)):Ones one N :=
 ⟨fun k hk=>(ho k hk).rep.nn h,fun k h1 hk=>(ho k hk).pos h (by omega),fun k k' h1 h2=>(ho k (by omega)).mono (ho k' h2) (by omega)⟩
def zpP (w:Wheel) (one:Nat->Int) (P:Nat) (c place bought:Int):Prop :=
 ∃c' s b',Rep w s/\c=c'+s/\place=(turn w 0 s).1/\bought=b'+cN w s/\0<=b'/\F one (min b' P).toNat<=c'
theorem zpP.start {w:Wheel} (h:OkW w) {one:Nat->Int} {P:Nat}:zpP w one P 0 0 0:=by
 have e:=zl1 h
 refine ⟨0,0,0,.zero,rfl,by rw [e],by rw [zpN h];rfl,by omega,?_⟩
 rw [show (min 0 (P:Int)).toNat=0 by omega]
 exact Int.le_refl 0
theorem zpP.coin {w:Wheel} (h:OkW w) {one:Nat->Int} {P:Nat} {c place bought:Int} (hc:zpP w one P c place bought) {k:Nat} (hk:k<w.Coins.length):zpP w one P (c+coin w k) (turn w place (coin w k)).1 (bought+(turn w place (coin w k)).2):=by
 obtain ⟨c',s,b',h1,h2,h3,h4,h5,h6⟩:=hc
 have hs:=h1.nn h
 have hco:=znM h hk
 obtain ⟨a,b⟩:=zqX h hs (show 0<=Go.Law.coin w k by omega)
 exact ⟨c',s+Go.Law.coin w k,b',.add s k h1 hk,by omega,by rw [h3,b],by rw [h4,a,h3];omega,h5,h6⟩
theorem zzD {w:Wheel} (h:OkW w) {one:Nat->Int} {P:Nat} (ho:∀k:Nat,k<=P->IsOne w k (one k)) {s:Int} (hs:Rep w s):F one (min (cN w s) P).toNat<=s:=by
 have hnn:=hs.nn h
 have hc:=zr9 h hnn
 by_cases e:(min (cN w s) (P:Int)).toNat=0
 ·rw [e,ziE];exact hnn
 ·have h1:=zzz one (n:=(min (cN w s) (P:Int)).toNat) (k:=(min (cN w s) (P:Int)).toNat) (by omega) (by omega)
  rw [Nat.sub_self,ziE] at h1
  have:=(ho (min (cN w s) (P:Int)).toNat (by omega)).least s hs (by omega)
  omega
theorem zpP.le {w:Wheel} (h:OkW w) {one:Nat->Int} {P:Nat} (ho:∀k:Nat,k<=P->IsOne w k (one k)) {c place bought:Int} (hc:zpP w one P c place bought):F one (min bought P).toNat<=c:=by
 obtain ⟨c',s,b',h1,h2,h3,h4,h5,h6⟩:=hc
 have ok:=znN h ho
 have hcn:=zr9 h (h1.nn h)
 have ht:=zzD h ho h1
 by_cases e:(min b' (P:Int)).toNat+(min (cN w s) (P:Int)).toNat<=P
 ·have h7:=zzC ok (b:=(min (cN w s) (P:Int)).toNat) (min b' (P:Int)).toNat e
  have h8:=zqZ ok (n:=(min bought (P:Int)).toNat) (m:=(min b' (P:Int)).toNat+(min (cN w s) (P:Int)).toNat) (by omega) e
  omega
 ·-- the second part is cut
  have h7:=zzC ok (b:=P-(min b' (P:Int)).toNat) (min b' (P:Int)).toNat (by omega)
  have h8:=zqZ ok (n:=P-(min b' (P:Int)).toNat) (m:=(min (cN w s) (P:Int)).toNat) (by omega) (by omega)
  have h9:=zqZ ok (n:=(min bought (P:Int)).toNat) (m:=(min b' (P:Int)).toNat+(P-(min b' (P:Int)).toNat)) (by omega) (by omega)
  omega
theorem zpP.select {w:Wheel} (h:OkW w) {one:Nat->Int} {P:Nat} (ho:∀k:Nat,k<=P->IsOne w k (one k)) {c place bought:Int} (hc:zpP w one P c place bought):zpP w one P c 0 bought:=by
 have hle:=hc.le h ho
 obtain ⟨c',s,b',h1,h2,h3,h4,h5,h6⟩:=hc
 have e:=zl1 h
 have:=zr9 h (h1.nn h)
 exact ⟨c,0,bought,.zero,by omega,by rw [e],by rw [zpN h];omega,by omega,hle⟩
structure OkPt (w:Wheel) (P:Int) (x:Point_):Prop where
 p0:0<=x.Stand.Place
 p1:x.Stand.Place<w.Round
 c0:0<=x.Stand.Credit
 c1:x.Stand.Credit<=P
 b0:0<=x.bought
 b1:x.bought<=200
def zeH (x:Point_):List Stand:=x.Stand::(if x.Stand.Credit>0/\x.Stand.Place>0 then [⟨0,x.Stand.Credit-1⟩] else [])
def child (w:Wheel) (P:Int) (x:Point_) (s:Stand) (k:Nat):Point_:=⟨⟨(turn w s.Place (coin w k)).1,min (s.Credit+(turn w s.Place (coin w k)).2) P⟩,x.bought+(turn w s.Place (coin w k)).2⟩
inductive Reach (w:Wheel) (P:Int):Nat->Point_->Prop
 | start:Reach w P 0 ⟨⟨0,0⟩,0⟩
 | step (c:Nat) (x:Point_) (s:Stand) (k:Nat):Reach w P c x->x.bought<P->s∈zeH x->k<w.Coins.length->Reach w P (c+(coin w k).toNat) (child w P x s k)
theorem zoO {w:Wheel} (h:OkW w) {P:Int} {x:Point_} (hx:OkPt w P x) {s:Stand} (hs:s∈zeH x):OkS w s P:=by
 have:=h.r1
 unfold zeH at hs
 rcases List.mem_cons.1 hs with rfl | hs
 ·exact ⟨hx.p0,hx.p1,hx.c0,hx.c1⟩
 ·split at hs
  ·rename_i q
   simp only [List.mem_singleton] at hs
   subst hs
   have:=hx.c1
   exact ⟨by show (0:Int)<=0;omega,by show (0:Int)<_;omega,by show 0<=x.Stand.Credit-1;omega,by show x.Stand.Credit-1<=_;omega⟩
  ·simp at hs
theorem zu7 {w:Wheel} (h:OkW w) {P:Int} (hP:1<=P/\P<=20) {x:Point_} (hx:OkPt w P x) (hb:x.bought<P) {s:Stand} (hs:s∈zeH x) {k:Nat} (hk:k<w.Coins.length):OkPt w P (child w P x s k):=by
 have ok:=zoO h hx hs
 have hco:=znM h hk
 have ht:=zbv h ok.p0 ok.p1 (show 0<=coin w k by omega)
 have:=ok.c0
 have:=hx.b0
 exact ⟨ht.1.1,ht.1.2,by show 0<=min _ _;omega,by show min _ _<=_;omega,by show 0<=x.bought+_;omega,by show x.bought+_<=_;omega⟩
theorem Reach.ok {w:Wheel} (h:OkW w) {P:Int} (hP:1<=P/\P<=20) {c:Nat} {x:Point_} (hr:Reach w P c x):OkPt w P x:=by
 have:=h.r1
 induction hr with
 | start=>exact ⟨by show (0:Int)<=0;omega,by show (0:Int)<_;omega,by show (0:Int)<=0;omega,by show (0:Int)<=P;omega,by show (0:Int)<=0;omega,by show (0:Int)<=200;omega⟩
 | step c x s k _ hb hs hk ih=>exact zu7 h hP ih hb hs hk
theorem zkk {w:Wheel} (h:OkW w) {P:Int} (hP:1<=P/\P<=20) {x:Point_} (hx:OkPt w P x):zd4 x=true:=by
 have:=h.r2
 obtain ⟨a,b,c,d,e,f⟩:=hx
 simp only [zd4,List.all_cons,List.all_nil,Bool.and_true,Bool.and_eq_true]
 exact ⟨zfT (by omega) (by omega),zfT (by omega) (by omega),zfT (by omega) (by omega)⟩
theorem zl5:∀(n:Nat) (l:List Nat),l.Nodup->(∀x,x∈l->x<n)->l.length<=n
 | 0,l,_,h=>by
  cases l with
  | nil=>simp
  | cons x l=>have:=h x (by simp);omega
 | n+1,l,hd,h=>by
  by_cases q:n∈l
  ·have h1:=zl5 n (l.erase n) (hd.erase n) (fun x hx=>by
    have h2:=(List.Nodup.mem_erase_iff hd).1 hx
    have:=h x h2.2
    have:=h2.1
    omega)
   rw [List.length_erase_of_mem q] at h1
   omega
  ·have h1:=zl5 n l hd (fun x hx=>by
    have:=h x hx
    by_cases e:x=n
    ·subst e;exact (q hx).elim
    ·omega)
   omega
def code (x:Point_):Nat:=(x.Stand.Place+200*(x.Stand.Credit+21*x.bought)).toNat
theorem zoP {α β:Type} {f:α->β}:∀{l:List α},l.Nodup->(∀a,a∈l->∀b,b∈l->f a=f b->a=b)->(l.map f).Nodup
 | [],_,_=>by simp
 | x::l,hd,hi=>by
  rw [List.nodup_cons] at hd
  rw [List.map_cons,List.nodup_cons]
  refine ⟨fun hm=>?_,zoP hd.2 (fun a ha b hb=>hi a (by simp [ha]) b (by simp [hb]))⟩
  obtain ⟨y,hy,he⟩:=List.mem_map.1 hm
  have:=hi y (by simp [hy]) x (by simp) he
  subst this
  exact hd.1 hy
theorem zsb {w:Wheel} (h:OkW w) {P:Int} (hP:1<=P/\P<=20) {l:List Point_} (hd:l.Nodup) (hx:∀x,x∈l->OkPt w P x/\x.bought<P):l.length<=84000:=by
 have hr:=h.r2
 have e:=zl5 84000 (l.map code) (zoP hd (fun a ha b hb he=>by
  obtain ⟨a1,a2⟩:=hx a ha
  obtain ⟨b1,b2⟩:=hx b hb
  have:=a1.p0;have:=a1.p1;have:=a1.c0;have:=a1.c1;have:=a1.b0
  have:=b1.p0;have:=b1.p1;have:=b1.c0;have:=b1.c1;have:=b1.b0
  unfold code at he
  obtain ⟨⟨pa,ca⟩,ba⟩:=a
  obtain ⟨⟨pb,cb⟩,bb⟩:=b
  simp only at *
  have e1:ba=bb:=by omega
  have e2:ca=cb:=by omega
  have e3:pa=pb:=by omega
  rw [e1,e2,e3])) (fun y hy=>by
  obtain ⟨x,hxm,rfl⟩:=List.mem_map.1 hy
  obtain ⟨a1,a2⟩:=hx x hxm
  have:=a1.p0;have:=a1.p1;have:=a1.c0;have:=a1.c1;have:=a1.b0
  unfold code
  omega)
 simpa using e
def push (C:List (List Point_)) (j:Nat) (y:Point_):List (List Point_):=C.set j (C.getD j []++[y])
theorem zk1 (C:List (List Point_)) (j:Nat) (y:Point_):(push C j y).length=C.length:=by simp [push]
theorem zjQ {C:List (List Point_)} {j c:Nat} {y:Point_} (hj:j<C.length):(push C j y).getD c []=C.getD c []++(if j=c then [y] else []):=by
 unfold push
 by_cases e:j=c
 ·subst e
  rw [if_pos rfl,List.getD_eq_getElem?_getD,List.getElem?_set_self hj]
  rfl
 ·rw [if_neg e,List.append_nil,List.getD_eq_getElem?_getD,List.getElem?_set_ne e,←List.getD_eq_getElem?_getD]
def zl6 (w:Wheel) (P:Int) (x:Point_) (s:Stand) (i:Nat):Nat->Nat->List (List Point_)->List (List Point_)
 | 0,_,C=>C
 | d+1,k,C=>zl6 w P x s i d (k+1) (push C (i+(coin w k).toNat) (child w P x s k))
def zkL (w:Wheel) (P:Int) (x:Point_) (i:Nat):List Stand->List (List Point_)->List (List Point_)
 | [],C=>C
 | s::l,C=>zkL w P x i l (zl6 w P x s i w.Coins.length 0 C)
theorem zkl {w:Wheel} (h:OkW w) {P:Int} {x:Point_} {s:Stand} {i:Nat}:∀(d k:Nat) (C:List (List Point_)),k+d=w.Coins.length->i+100<C.length ->
  (zl6 w P x s i d k C).length=C.length/\(∀c z,z∈(zl6 w P x s i d k C).getD c []↔z∈C.getD c []\/∃j,k<=j/\j<k+d/\c=i+(coin w j).toNat/\z=child w P x s j)/\(∀c,c<=i->(zl6 w P x s i d k C).getD c []=C.getD c []) /\
  (∀B:Nat,(∀c,(C.getD c []).length<=B)->∀c,((zl6 w P x s i d k C).getD c []).length<=B+d)
 | 0,k,C,_,_=>⟨rfl,fun c z=>⟨.inl,fun q=>q.elim id fun ⟨j,a,b,_⟩=>by omega⟩,fun c _=>rfl,fun B hB c=>hB c⟩
 | d+1,k,C,hk,hC=>by
  have hco:=znM h (show k<w.Coins.length by omega)
  have hj:i+(coin w k).toNat<C.length:=by omega
  obtain ⟨h1,h2,h3,h4⟩:=zkl h (P:=P) (x:=x) (s:=s) (i:=i) d (k+1) (push C (i+(coin w k).toNat) (child w P x s k)) (by omega) (by rw [zk1];exact hC)
  simp only [zl6]
  refine ⟨by rw [h1,zk1],fun c z=>?_,fun c hc=>?_,fun B hB c=>?_⟩
  ·rw [h2,zjQ hj,List.mem_append]
   constructor
   ·rintro ((q | q) | ⟨j,a,b,e⟩)
    ·exact .inl q
    ·split at q
     ·rename_i e
      exact .inr ⟨k,by omega,by omega,e.symm,by simpa using q⟩
     ·simp at q
    ·exact .inr ⟨j,by omega,by omega,e⟩
   ·rintro (q | ⟨j,a,b,e1,e2⟩)
    ·exact .inl (.inl q)
    ·by_cases e:j=k
     ·subst e
      exact .inl (.inr (by rw [if_pos e1.symm];simpa using e2))
     ·exact .inr ⟨j,by omega,by omega,e1,e2⟩
  ·rw [h3 c hc,zjQ hj,if_neg (by omega),List.append_nil]
  ·have:=h4 (B+1) (fun c=>by
    rw [zjQ hj,List.length_append]
    have:=hB c
    split
    ·simp only [List.length_singleton];omega
    ·simp only [List.length_nil];omega) c
   omega
theorem zmR {w:Wheel} (h:OkW w) {P:Int} {x:Point_} {i:Nat}:∀(l:List Stand) (C:List (List Point_)),i+100<C.length ->
  (zkL w P x i l C).length=C.length/\(∀c z,z∈(zkL w P x i l C).getD c []↔z∈C.getD c []\/∃s,s∈l/\∃j,j<w.Coins.length/\c=i+(coin w j).toNat/\z=child w P x s j)/\(∀c,c<=i->(zkL w P x i l C).getD c []=C.getD c []) /\
  (∀B:Nat,(∀c,(C.getD c []).length<=B)->∀c,((zkL w P x i l C).getD c []).length<=B+4*l.length)
 | [],C,_=>⟨rfl,fun c z=>⟨.inl,fun q=>q.elim id fun ⟨s,a,_⟩=>by simp at a⟩,fun c _=>rfl,fun B hB c=>hB c⟩
 | s::l,C,hC=>by
  have h4c:=h.clen
  obtain ⟨a1,a2,a3,a4⟩:=zkl h (P:=P) (x:=x) (s:=s) (i:=i) w.Coins.length 0 C (by omega) hC
  obtain ⟨h1,h2,h3,h4⟩:=zmR h (P:=P) (x:=x) (i:=i) l (zl6 w P x s i w.Coins.length 0 C) (by rw [a1];exact hC)
  simp only [zkL]
  refine ⟨by rw [h1,a1],fun c z=>?_,fun c hc=>by rw [h3 c hc,a3 c hc],fun B hB c=>?_⟩
  ·rw [h2,a2]
   constructor
   ·rintro ((q | ⟨j,_,b,e⟩) | ⟨s',a,e⟩)
    ·exact .inl q
    ·exact .inr ⟨s,by simp,j,by omega,e⟩
    ·exact .inr ⟨s',by simp [a],e⟩
   ·rintro (q | ⟨s',a,j,b,e⟩)
    ·exact .inl (.inl q)
    ·rcases List.mem_cons.1 a with rfl | a
     ·exact .inl (.inr ⟨j,by omega,by omega,e⟩)
     ·exact .inr ⟨s',a,j,b,e⟩
  ·have:=h4 (B+w.Coins.length) (a4 B hB) c
   simp only [List.length_cons]
   omega
theorem zsc (x:Point_):(zeH x).length<=2:=by
 unfold zeH
 split<;>simp
abbrev opened (w:Wheel):(Wheel_×Int)×Unit:=((⟨w⟩,0),())
theorem zu8 {n:Nat} {w:Wheel} (h:OkW w) (hn:1000<=n) {P:Int} (hP:1<=P/\P<=20) (rec3:Int->List (List Point_)->Option (Int×Int)) {i:Nat} (hi:i<=6000) {x:Point_} (hx:OkPt w P x) (v37:Int) {s:Stand} (hs:OkS w s P) :
  ∀(d k m:Nat) (C:List (List Point_)),k+d=w.Coins.length->d<m->i+100<C.length->(∃B:Nat,(∀c,(C.getD c []).length<=B)/\B+d<=1000000)->C.length<=10000 ->
   zcq n rec3 w P (opened w) i x v37 s m (k:Int) C=zdq rec3 v37 (zl6 w P x s i d k C):=by
 intro d
 induction d with
 | zero =>
  intro k m C hk hm hC hB hC2
  obtain ⟨m,rfl⟩:∃q,m=q+1:=⟨m-1,by omega⟩
  simp only [zcq,zdH,zl6]
  rw [if_neg (by simp;omega)]
 | succ d ih =>
  intro k m C hk hm hC hB hC2
  obtain ⟨m,rfl⟩:∃q,m=q+1:=⟨m-1,by omega⟩
  obtain ⟨B,hB,hB2⟩:=hB
  have hkl:k<w.Coins.length:=by omega
  have hco:=znM h hkl
  have h4:=h.clen
  have ht:=zbv h hs.p0 hs.p1 (show 0<=coin w k by omega)
  have hx0:=hx.b0
  have hx1:=hx.b1
  have hs0:=hs.c0
  have hs1:=hs.c1
  have hj:i+(coin w k).toNat<C.length:=by omega
  have e1:w64 ((i:Int)+coin w k)=((i+(coin w k).toNat:Nat):Int):=by rw [zaU (by omega) (by omega)];omega
  have hl:=hB (i+(coin w k).toNat)
  have eg:C[i+(coin w k).toNat]=C.getD (i+(coin w k).toNat) []:=by simp [hj]
  have hact:(zhi w s (k:Int)).1=⟨(turn w s.Place (coin w k)).1,s.Credit+(turn w s.Place (coin w k)).2⟩:=by
   unfold zhi
   rw [if_pos (by omega)]
  simp only [zcq,zdH,zl6]
  rw [if_pos (by simp;omega),zjI (by omega) (by omega),zaa,ztG h (by omega) hs (by omega) (zlR hkl),zaa,hact,e1,zdL hj,zaa,eg,zjw (by simp only [List.length_singleton];omega),zaa,zaa,zaU (x:=_-s.Credit) (by simp only;omega) (by simp only;omega),zaU (x:=x.bought+_) (by simp only;omega) (by simp only;omega),Int.toNat_natCast,zaU (x:=(k:Int)+1) (by omega) (by omega)]
  have hrec:=ih (k+1) m (push C (i+(coin w k).toNat) (child w P x s k)) (by omega) (by omega) (by rw [zk1];exact hC) ⟨B+1,fun c=>by
   rw [zjQ hj,List.length_append]
   have:=hB c
   split
   ·simp only [List.length_singleton];omega
   ·simp only [List.length_nil];omega,by omega⟩ (by rw [zk1];exact hC2)
  rw [show (((k+1:Nat)):Int)=(k:Int)+1 by simp] at hrec
  rw [←hrec]
  unfold push child
  congr 4
  simp only
  congr 1
  omega
theorem zu9 {n:Nat} {w:Wheel} (h:OkW w) (hn:1000<=n) {P:Int} (hP:1<=P/\P<=20) (rec2:Int->List (Point_×Int)->List (List Point_)->Option (Int×Int)) {i:Nat} (hi:i<=6000) {x:Point_} (hx:OkPt w P x) (v23:Int) (M:List (Point_×Int)) (x31:Int)
  (l:List Stand) (hl:l.length<=2) (hs:∀s,s∈l->OkS w s P) (C:List (List Point_)) (hC:i+100<C.length) (hB:∀c,(C.getD c []).length<=900000) (hC2:C.length<=10000) :
  zaY n rec2 w P (opened w) i v23 M x x31 l n 0 C=zbR rec2 v23 (zcW M x (w64 (x31+1))) (zkL w P x i l C):=by
 have h4:=h.clen
 have key:=zrX (F:=fun m j (C:List (List Point_))=>zaY n rec2 w P (opened w) i v23 M x x31 l m j C) (xs:=l) (spec:=fun k C=>zbR rec2 v23 (zcW M x (w64 (x31+1))) (zkL w P x i k C))
  (I:=fun k C=>i+100<C.length/\C.length<=10000/\(∀c,(C.getD c []).length<=900100-10*k.length)/\k.length<=2/\∀s,s∈k->OkS w s P) (by omega)
  (fun m C hI=>by simp [zaY,zdI,zkL])
  (fun m j s k C hI hx' hj _ _ hrec=>by
   obtain ⟨i1,i2,i3,i4,i5⟩:=hI
   simp only [List.length_cons] at i3 i4
   obtain ⟨a1,a2,a3,a4⟩:=zkl h (P:=P) (x:=x) (s:=s) (i:=i) w.Coins.length 0 C (by omega) i1
   simp only [zaY,zdI,zkL]
   rw [if_pos (by simpa using hj),hx',zaa]
   have h4':=zu8 h hn hP (zaY n rec2 w P (opened w) i v23 M x x31 l m) hi hx (j:Int) (i5 s (by simp)) w.Coins.length 0 n C (by omega) (by omega) i1 ⟨_,i3,by omega⟩ i2
   rw [show ((0:Nat):Int)=0 from rfl] at h4'
   rw [h4']
   unfold zdq
   exact hrec _ ⟨by rw [a1];exact i1,by rw [a1];exact i2,fun c=>by have:=a4 _ i3 c;omega,by omega,fun s' hs'=>i5 s' (by simp [hs'])⟩)
  l 0 n C (by omega) rfl (by omega) ⟨hC,hC2,fun c=>by have:=hB c;omega,hl,hs⟩
 exact key
def Kids (w:Wheel) (P:Int) (C:List (List Point_)) (c0:Nat) (x:Point_):Prop:=∀s,s∈zeH x->∀k,k<w.Coins.length->child w P x s k∈C.getD (c0+(coin w k).toNat) []
structure Lv (w:Wheel) (P:Int) (i:Nat) (T:Int) (M:List (Point_×Int)) (C:List (List Point_)):Prop where
 nd:(M.map (·.1)).Nodup
 key:∀x,x∈M.map (·.1)->OkPt w P x/\x.bought<P/\∃c0,c0<=i/\Kids w P C c0 x
 cnt:∀x,zbm M x=true->1<=zge M x/\zge M x<=T
 rch:∀c x,x∈C.getD c []->Reach w P c x
 fst:(⟨⟨0,0⟩,0⟩:Point_)∈C.getD 0 []
 siz:∀c,(C.getD c []).length<=1+8*M.length
 done:∀c,c<i->∀x,x∈C.getD c []->x.bought<P/\∃c0,c0<=c/\Kids w P C c0 x
theorem Lv.small {w:Wheel} (h:OkW w) {P:Int} (hP:1<=P/\P<=20) {i:Nat} {T:Int} {M:List (Point_×Int)} {C:List (List Point_)} (hI:Lv w P i T M C):M.length<=84000:=by
 have:=zsb h hP hI.nd (fun x hx=>⟨(hI.key x hx).1,(hI.key x hx).2.1⟩)
 simpa using this
theorem zq0 {κ:Type} [DecidableEq κ] {M:List (κ×Int)} {k:κ} {v:Int}:(zcW M k v).length=M.length+(if zbm M k=true then 0 else 1):=by
 have e:=congrArg List.length (zfS (M:=M) (k:=k) (v:=v))
 rw [List.length_map] at e
 rw [e]
 split<;>simp
theorem zva {n:Nat} {w:Wheel} (h:OkW w) (hn:1000000<=n) {P:Int} (hP:1<=P/\P<=20) (rec1:Int->List (Point_×Int)->List (List Point_)->Option (Int×Int)) {i:Nat} (hi:i<=6000) (X:List Point_) (hX:X.length<=900000) :
  ∀(k pre:List Point_) (m:Nat) (T:Int) (M:List (Point_×Int)) (C:List (List Point_)),X=pre++k->k.length<m->0<=T->T+k.length<=1099511627776->Lv w P i T M C->C.length=i+101->C.getD i []=X->(∀x,x∈pre->x∈M.map (·.1)) ->
   ((∃x,x∈k/\P<=x.bought)/\zaj n rec1 w P (opened w) i X m (pre.length:Int) M C=some ((i:Int),0)) \/
   (∃M' C',zaj n rec1 w P (opened w) i X m (pre.length:Int) M C=zcS rec1 i M' C'/\Lv w P i (T+k.length) M' C'/\C'.length=i+101/\C'.getD i []=X/\∀x,x∈X->x∈M'.map (·.1)):=by
 intro k
 induction k with
 | nil =>
  intro pre m T M C hx hm hT hT2 hI hC hCi hp
  obtain ⟨m,rfl⟩:∃q,m=q+1:=⟨m-1,by omega⟩
  refine .inr ⟨M,C,?_,by simpa using hI,hC,hCi,fun x hxx=>hp x (by rw [hx] at hxx;simpa using hxx)⟩
  simp only [zaj,zdJ]
  rw [if_neg (by rw [hx];simp)]
 | cons x k ih =>
  intro pre m T M C hx hm hT hT2 hI hC hCi hp
  obtain ⟨m,rfl⟩:∃q,m=q+1:=⟨m-1,by omega⟩
  simp only [List.length_cons] at hm hT2
  have hxl:X.length=pre.length+(k.length+1):=by rw [hx];simp
  have hxX:x∈X:=by rw [hx];simp
  have hreach:=hI.rch i x (by rw [hCi];exact hxX)
  have okx:=hreach.ok h hP
  have hsm:=hI.small h hP
  simp only [zaj,zdJ]
  rw [if_pos (by simp;omega),show idx X (pre.length:Int)=some x by rw [hx,zlB],zaa]
  by_cases hb:P<=x.bought
  ·rw [if_pos (by simpa using hb)]
   exact .inl ⟨⟨x,by simp,hb⟩,rfl⟩
  ·rw [if_neg (by simpa using hb)]
   have hmok:∀M':List (Point_×Int),(M'.map (·.1)).Nodup->(∀y,y∈M'.map (·.1)->y=x\/y∈M.map (·.1))->mok zd4 M' x=true:=by
    intro M' hnd hall
    unfold Go.AM.mok
    rw [zkk h hP okx,show M'.all (fun p=>zd4 p.1)=true from List.all_eq_true.2 fun e he=>?_,show decide ((M'.map (·.1)).Nodup)=true by simpa using hnd]
    ·rfl
    ·rcases hall e.1 (List.mem_map_of_mem (f:=(·.1)) he) with q | q
     ·rw [q];exact zkk h hP okx
     ·exact zkk h hP (hI.key _ q).1
   have l1:ziM zd4 M x=some (zge M x):=if_pos (hmok M hI.nd fun y hy=>.inr hy)
   have hw:w64 (zge M x+1)=zge M x+1:=by
    cases hh:zbm M x with
    | true =>
     have:=hI.cnt x hh
     exact zaU (by omega) (by omega)
    | false=>rw [zlO hh];rfl
   have l2:ziM zd4 (zcW M x (zge M x+1)) x=some (zge M x+1):=by
    have:mok zd4 (zcW M x (zge M x+1)) x=true:=hmok _ (zil hI.nd) fun y hy=>by
     rw [zfS] at hy
     split at hy
     ·exact .inr hy
     ·rcases List.mem_append.1 hy with q | q
      ·exact .inr q
      ·exact .inl (by simpa using q)
    unfold ziM
    rw [if_pos this,znB,if_pos rfl]
   rw [l1,zaa,zaa,hw,l2,zaa]
   have keysub:∀y,y∈M.map (·.1)->y∈(zcW M x (zge M x+1)).map (·.1):=fun y hy=>by
    rw [zfS]
    split
    ·exact hy
    ·exact List.mem_append_left _ hy
   have keyx:x∈(zcW M x (zge M x+1)).map (·.1):=by
    rw [←zik,zqJ]
    exact .inl rfl
   have cnt':∀y,zbm (zcW M x (zge M x+1)) y=true->1<=zge (zcW M x (zge M x+1)) y/\zge (zcW M x (zge M x+1)) y<=T+1:=fun y hy=>by
    rw [znB]
    by_cases e:x=y
    ·rw [if_pos e]
     cases hh:zbm M x with
     | true=>have:=hI.cnt x hh;omega
     | false=>rw [zlO hh];omega
    ·rw [if_neg e]
     have:=hI.cnt y ((zqJ.1 hy).resolve_left (fun q=>e q.symm))
     omega
   have epre:((pre++[x]).length:Int)=(pre.length:Int)+1:=by simp
   have next:=fun C' (hI':Lv w P i (T+1) (zcW M x (zge M x+1)) C') (hC':C'.length=i+101) (hCi':C'.getD i []=X)=>ih (pre++[x]) m (T+1) (zcW M x (zge M x+1)) C' (by rw [hx];simp) (by omega) (by omega) (by omega) hI' hC' hCi' (fun y hy=>by
    rcases List.mem_append.1 hy with q | q
    ·exact keysub y (hp y q)
    ·simp only [List.mem_singleton] at q
     subst q
     exact keyx)
   have wrap:∀(C':List (List Point_)) (res:Option (Int×Int)),res=zaj n rec1 w P (opened w) i X m ((pre.length:Int)+1) (zcW M x (zge M x+1)) C'->Lv w P i (T+1) (zcW M x (zge M x+1)) C'->C'.length=i+101->C'.getD i []=X ->
     ((∃y,y∈x::k/\P<=y.bought)/\res=some ((i:Int),0))\/(∃M' C'',res=zcS rec1 i M' C''/\Lv w P i (T+((k.length+1:Nat):Int)) M' C''/\C''.length=i+101/\C''.getD i []=X/\∀y,y∈X->y∈M'.map (·.1)):=by
    intro C' res hres hI' hC' hCi'
    rw [hres,←epre]
    rcases next C' hI' hC' hCi' with ⟨⟨y,a,b⟩,e⟩ | ⟨M',C'',a,b,c⟩
    ·exact .inl ⟨⟨y,by simp [a],b⟩,e⟩
    ·exact .inr ⟨M',C'',a,by rw [show T+((k.length+1:Nat):Int)=T+1+(k.length:Int) by simp;omega];exact b,c⟩
   cases hh:zbm M x with
   | true =>
    have hc:=hI.cnt x hh
    rw [if_pos (by simp;omega)]
    unfold zbR
    rw [zaU (x:=(pre.length:Int)+1) (by omega) (by omega)]
    refine wrap C _ rfl ⟨zil hI.nd,fun y hy=>?_,cnt',hI.rch,hI.fst,fun c=>by rw [zq0];have:=hI.siz c;omega,hI.done⟩ hC hCi
    rw [zfS,if_pos hh] at hy
    exact hI.key y hy
   | false =>
    have hg:zge M x=0:=zlO hh
    rw [if_neg (by rw [hg];simp)]
    obtain ⟨a1,a2,a3,a4⟩:=zmR h (P:=P) (x:=x) (i:=i) (zeH x) C (by omega)
    have hst:∀s,s∈zeH x->OkS w s P:=fun s hs=>zoO h okx hs
    have hsl:=zsc x
    have hfin:=zu9 h (show 1000<=n by omega) hP (zaj n rec1 w P (opened w) i X m) hi okx (pre.length:Int) M (zge M x) (zeH x) hsl hst C (by omega) (fun c=>by have:=hI.siz c;omega) (by omega)
    rw [hw] at hfin
    have htake:(if decide (x.Stand.Credit>0)=true then zbu n (zaj n rec1 w P (opened w) i X m) w P (opened w) i (pre.length:Int) M C x (zge M x) (decide (x.Stand.Place>0)) else zbu n (zaj n rec1 w P (opened w) i X m) w P (opened w) i (pre.length:Int) M C x (zge M x) false) =
      zaY n (zaj n rec1 w P (opened w) i X m) w P (opened w) i (pre.length:Int) M x (zge M x) (zeH x) n 0 C:=by
     have hone:¬(x.Stand.Credit>0/\x.Stand.Place>0)->zbu n (zaj n rec1 w P (opened w) i X m) w P (opened w) i (pre.length:Int) M C x (zge M x) false=zaY n (zaj n rec1 w P (opened w) i X m) w P (opened w) i (pre.length:Int) M x (zge M x) (zeH x) n 0 C:=by
      intro q
      unfold zbu zcT zeH
      rw [if_neg (by simp),if_neg q]
     by_cases e1:x.Stand.Credit>0
     ·rw [if_pos (by simpa using e1)]
      by_cases e2:x.Stand.Place>0
      ·rw [show decide (x.Stand.Place>0)=true by simpa using e2]
       have hact:(zhi w x.Stand (-1)).1=⟨0,x.Stand.Credit-1⟩:=by
        unfold zhi
        rw [if_neg (by omega),if_neg (by omega)]
       unfold zbu zcT zeH
       rw [if_pos rfl,if_pos ⟨e1,e2⟩]
       show Option.bind (zcX n ⟨w⟩ x.Stand (-1)) _=_
       rw [ztG h (by omega) ⟨okx.p0,okx.p1,okx.c0,okx.c1⟩ (by omega) znG,zaa,hact,zjw (by simp),zaa]
       rfl
      ·rw [show decide (x.Stand.Place>0)=false by simpa using e2]
       exact hone (fun q=>e2 q.2)
     ·rw [if_neg (by simpa using e1)]
      exact hone (fun q=>e1 q.1)
    rw [htake,hfin]
    unfold zbR
    rw [zaU (x:=(pre.length:Int)+1) (by omega) (by omega)]
    have kidmono:∀c0 y,Kids w P C c0 y->Kids w P (zkL w P x i (zeH x) C) c0 y:=fun c0 y hk s hs j hj=>(a2 _ _).2 (.inl (hk s hs j hj))
    refine wrap (zkL w P x i (zeH x) C) _ rfl ⟨zil hI.nd,fun y hy=>?_,cnt',fun c z hz=>?_,?_,fun c=>?_,fun c hc y hy=>?_⟩ (by rw [a1,hC]) (by rw [a3 i (by omega)];exact hCi)
    ·rw [zfS,if_neg (by simp [hh])] at hy
     rcases List.mem_append.1 hy with q | q
     ·obtain ⟨b1,b2,c0,b3,b4⟩:=hI.key y q
      exact ⟨b1,b2,c0,b3,kidmono c0 y b4⟩
     ·simp only [List.mem_singleton] at q
      subst q
      exact ⟨okx,by omega,i,by omega,fun s hs j hj=>(a2 _ _).2 (.inr ⟨s,hs,j,hj,rfl,rfl⟩)⟩
    ·rcases (a2 c z).1 hz with q | ⟨s,hs,j,hj,e1,e2⟩
     ·exact hI.rch c z q
     ·rw [e1,e2]
      exact .step i x s j hreach (by omega) hs hj
    ·rw [a3 0 (by omega)]
     exact hI.fst
    ·have hb2:=a4 (1+8*M.length) hI.siz c
     rw [zq0,if_neg (by simp [hh])]
     omega
    ·rw [a3 c (by omega)] at hy
     obtain ⟨b1,c0,b2,b3⟩:=hI.done c hc y hy
     exact ⟨b1,c0,b2,kidmono c0 y b3⟩
theorem zvb {n:Nat} (rec1:Int->List (Point_×Int)->List (List Point_)->Option (Int×Int)) (w:Wheel) (P:Int) {i:Nat} (hi:i<=6000) (M:List (Point_×Int)):∀(d m:Nat) (C:List (List Point_)),C.length+d=i+101->d<m ->
  zcr n rec1 w P (opened w) i M m C=zdr n rec1 w P (opened w) i M (C++List.replicate d []):=by
 intro d
 induction d with
 | zero =>
  intro m C hC hm
  obtain ⟨m,rfl⟩:∃q,m=q+1:=⟨m-1,by omega⟩
  simp only [zcr,zdK]
  rw [zaU (by omega) (by omega),if_neg (by simp;omega)]
  simp
 | succ d ih =>
  intro m C hC hm
  obtain ⟨m,rfl⟩:∃q,m=q+1:=⟨m-1,by omega⟩
  simp only [zcr,zdK]
  rw [zaU (by omega) (by omega),if_pos (by simp;omega),zjw (by simp;omega),zaa,ih m (C++[[]]) (by simp;omega) (by omega),List.replicate_succ]
  simp
theorem zio (C:List (List Point_)) (d c:Nat):(C++List.replicate d ([]:List Point_)).getD c []=C.getD c []:=by
 rw [List.getD_eq_getElem?_getD,List.getD_eq_getElem?_getD]
 by_cases e:c<C.length
 ·rw [List.getElem?_append_left e]
 ·rw [List.getElem?_append_right (by omega),List.getElem?_replicate,List.getElem?_eq_none (by omega)]
  split<;>rfl
theorem Lv.reach {w:Wheel} (h:OkW w) {P:Int} {i:Nat} {T:Int} {M:List (Point_×Int)} {C:List (List Point_)} (hI:Lv w P i T M C) {c:Nat} {x:Point_} (hr:Reach w P c x) (hc:c<=i):∃c0,c0<=c/\x∈C.getD c0 []:=by
 induction hr with
 | start=>exact ⟨0,by omega,hI.fst⟩
 | step c x s k hx hb hs hk ih =>
  have hco:=znM h hk
  obtain ⟨c0,h1,h2⟩:=ih (by omega)
  obtain ⟨_,c1,h3,h4⟩:=hI.done c0 (by omega) x h2
  exact ⟨c1+(coin w k).toNat,by omega,h4 s hs k hk⟩
theorem Lv.cheap {w:Wheel} (h:OkW w) {P:Int} {i:Nat} {T:Int} {M:List (Point_×Int)} {C:List (List Point_)} (hI:Lv w P i T M C) {c:Nat} {x:Point_} (hr:Reach w P c x) (hb:P<=x.bought):i<=c:=by
 rcases Nat.lt_or_ge c i with q | q
 ·obtain ⟨c0,h1,h2⟩:=hI.reach h hr (by omega)
  have:=(hI.done c0 (by omega) x h2).1
  omega
 ·exact q
theorem zvc {n:Nat} {w:Wheel} (h:OkW w) (hn:1000000<=n) {P:Int} (hP:1<=P/\P<=20) {cm:Nat} {xm:Point_} (hr:Reach w P cm xm) (hb:P<=xm.bought) (hcm:cm<=5000) :
  ∀(d i m:Nat) (T:Int) (M:List (Point_×Int)) (C:List (List Point_)),i+d=cm+1->d<m->0<=T->T<=2097152*i->Lv w P i T M C->C.length<=i+101 ->
   ∃r:Nat,zah n w P (opened w) m (i:Int) M C=some ((r:Int),0)/\(∃x,Reach w P r x/\P<=x.bought)/\∀c x,Reach w P c x->P<=x.bought->r<=c:=by
 intro d
 induction d with
 | zero =>
  intro i m T M C hi hm hT hT2 hI hC
  have:=hI.cheap h hr hb
  omega
 | succ d ih =>
  intro i m T M C hi hm hT hT2 hI hC
  obtain ⟨m,rfl⟩:∃q,m=q+1:=⟨m-1,by omega⟩
  have hsm:=hI.small h hP
  obtain ⟨e,he⟩:∃e,C.length+e=i+101:=⟨i+101-C.length,by omega⟩
  simp only [zah,zeS]
  rw [zvb _ w P (show i<=6000 by omega) M e n C he (by omega)]
  unfold zdr
  have hlen:(C++List.replicate e ([]:List Point_)).length=i+101:=by simp;omega
  have hI':Lv w P i T M (C++List.replicate e []):=by
   refine ⟨hI.nd,fun x hx=>?_,hI.cnt,fun c x hx=>?_,?_,fun c=>?_,fun c hc x hx=>?_⟩
   ·obtain ⟨a,b,c0,c1,c2⟩:=hI.key x hx
    exact ⟨a,b,c0,c1,fun s hs k hk=>by rw [zio];exact c2 s hs k hk⟩
   ·rw [zio] at hx;exact hI.rch c x hx
   ·rw [zio];exact hI.fst
   ·rw [zio];exact hI.siz c
   ·rw [zio] at hx
    obtain ⟨a,c0,c1,c2⟩:=hI.done c hc x hx
    exact ⟨a,c0,c1,fun s hs k hk=>by rw [zio];exact c2 s hs k hk⟩
  generalize C++List.replicate e []=C1 at hlen hI' ⊢
  have hil:i<C1.length:=by omega
  have eg:C1[i]=C1.getD i []:=by simp [hil]
  have hXl:=hI'.siz i
  rw [zdL hil,zaa,eg]
  rcases zva h hn hP (zah n w P (opened w) m) (show i<=6000 by omega) (C1.getD i []) (by omega) (C1.getD i []) [] n T M C1 rfl (by omega) hT (by omega) hI' hlen rfl (fun x hx=>by simp at hx) with ⟨⟨x,a,b⟩,c⟩ | ⟨M',C',a,b,c1,c2,c3⟩
  ·exact ⟨i,c,⟨x,hI'.rch i x a,b⟩,fun c x hr' hb'=>hI'.cheap h hr' hb'⟩
  ·rw [show ((([]:List Point_).length:Nat):Int)=0 from rfl] at a
   rw [a]
   unfold zcS
   rw [zaU (by omega) (by omega),show (i:Int)+1=((i+1:Nat):Int) by simp]
   refine ih (i+1) m (T+(C1.getD i []).length) M' C' (by omega) (by omega) (by omega) (by omega) ⟨b.nd,fun x hx=>?_,b.cnt,b.rch,b.fst,b.siz,fun c hc x hx=>?_⟩ (by omega)
   ·obtain ⟨q1,q2,c0,q3,q4⟩:=b.key x hx
    exact ⟨q1,q2,c0,by omega,q4⟩
   ·by_cases e:c=i
    ·subst e
     rw [c2] at hx
     obtain ⟨q1,q2,c0,q3,q4⟩:=b.key x (c3 x hx)
     exact ⟨q2,c0,q3,q4⟩
    ·exact b.done c (by omega) x hx
theorem Reach.cost {w:Wheel} (h:OkW w) {one:Nat->Int} {P:Nat} (ho:∀k:Nat,k<=P->IsOne w k (one k)) {c:Nat} {x:Point_} (hr:Reach w P c x):zpP w one P c x.Stand.Place x.bought:=by
 induction hr with
 | start=>exact zpP.start h
 | step c x s k _ hb hs hk ih =>
  have hco:=znM h hk
  rw [show (((c+(coin w k).toNat:Nat)):Int)=(c:Int)+coin w k by omega]
  unfold zeH at hs
  rcases List.mem_cons.1 hs with rfl | hs
  ·exact ih.coin h hk
  ·split at hs
   ·simp only [List.mem_singleton] at hs
    subst hs
    exact (ih.select h ho).coin h hk
   ·simp at hs
theorem seg {w:Wheel} (h:OkW w) {P:Int} (hP:1<=P/\P<=20) {c:Nat} {x:Point_} (hr:Reach w P c x) (hst:x.Stand.Place=0\/x.Stand.Credit>0) (hb:x.bought<P) {s:Int} (hs:Rep w s) :
  s=0\/(∃(c':Nat) (x':Point_),(c':Int)<=c+s/\Reach w P c' x'/\P<=x'.bought) \/
   (∃(c':Nat) (x':Point_),(c':Int)=c+s/\Reach w P c' x'/\x'.Stand.Place=(turn w 0 s).1/\x'.bought=x.bought+cN w s/\(1<=cN w s->1<=x'.Stand.Credit)):=by
 have okx:=hr.ok h hP
 induction hs with
 | zero=>exact .inl rfl
 | add s k hs hk ih =>
  have hco:=znM h hk
  have hs0:=hs.nn h
  obtain ⟨a1,a2⟩:=zqX h hs0 (show 0<=coin w k by omega)
  refine .inr ?_
  by_cases e0:s=0
  ·subst e0
   have first:∃s0,s0∈zeH x/\s0.Place=0/\0<=s0.Credit:=by
    by_cases q:x.Stand.Place=0
    ·exact ⟨x.Stand,by simp [zeH],q,okx.c0⟩
    ·have h0:=okx.p0
     have hc:=hst.resolve_left q
     refine ⟨⟨0,x.Stand.Credit-1⟩,?_,rfl,by show 0<=x.Stand.Credit-1;omega⟩
     unfold zeH
     rw [if_pos ⟨hc,by omega⟩]
     simp
   obtain ⟨s0,q1,q2,q3⟩:=first
   have hstep:=Reach.step c x s0 k hr hb q1 hk
   refine .inr ⟨_,_,by omega,hstep,?_,?_,?_⟩
   ·show (turn w s0.Place (coin w k)).1=_
    rw [q2,Int.zero_add]
   ·show x.bought+(turn w s0.Place (coin w k)).2=_
    rw [q2,Int.zero_add]
    rfl
   ·intro q
    rw [Int.zero_add] at q
    show 1<=min (s0.Credit+(turn w s0.Place (coin w k)).2) P
    rw [q2]
    have:cN w (coin w k)=(turn w 0 (coin w k)).2:=rfl
    omega
  ·rcases ih.resolve_left e0 with ⟨c',x',b1,b2,b3⟩ | ⟨c',x',b1,b2,b3,b4,b5⟩
   ·exact .inl ⟨c',x',by omega,b2,b3⟩
   ·by_cases q:P<=x'.bought
    ·exact .inl ⟨c',x',by omega,b2,q⟩
    ·have ok':=b2.ok h hP
     have ht:=zbv h ok'.p0 ok'.p1 (show 0<=coin w k by omega)
     have hstep:=Reach.step c' x' x'.Stand k b2 (by omega) (by simp [zeH]) hk
     have hcn:=zr9 h hs0
     refine .inr ⟨_,_,by omega,hstep,?_,?_,?_⟩
     ·show (turn w x'.Stand.Place (coin w k)).1=_
      rw [b3,a2]
     ·show x'.bought+(turn w x'.Stand.Place (coin w k)).2=_
      rw [b4,a1,b3]
      omega
     ·intro q'
      show 1<=min (x'.Stand.Credit+(turn w x'.Stand.Place (coin w k)).2) P
      rw [a1,←b3] at q'
      have:=ok'.c0
      by_cases q2:1<=cN w s
      ·have:=b5 q2
       omega
      ·omega
theorem upper {w:Wheel} (h:OkW w) {one:Nat->Int} {P:Nat} (hP:1<=P/\P<=20) (ho:∀k:Nat,k<=P->IsOne w k (one k)):∀(n:Nat),n<=P->∀(c:Nat) (x:Point_),Reach w P c x->(x.Stand.Place=0\/x.Stand.Credit>0)->(P:Int)<=x.bought+n ->
  ∃(c':Nat) (x':Point_),(c':Int)<=c+F one n/\Reach w P c' x'/\(P:Int)<=x'.bought:=by
 intro n
 induction n using Nat.strongRecOn with
 | ind n ih =>
  intro hn c x hr hst hb
  have ok:=znN h ho
  by_cases q:(P:Int)<=x.bought
  ·have:=zzB ok n hn
   exact ⟨c,x,by omega,hr,q⟩
  ·have hn0:1<=n:=by omega
   obtain ⟨k,k1,k2,k3⟩:=zzA one hn0
   have hone:=ho k (by omega)
   have hpos:=hone.pos h (by omega)
   rcases seg h (P:=(P:Int)) (by omega) hr hst (by omega) hone.rep with e | ⟨c',x',b1,b2,b3⟩ | ⟨c',x',b1,b2,b3,b4,b5⟩
   ·omega
   ·have:=zzB ok (n-k) (by omega)
    exact ⟨c',x',by omega,b2,b3⟩
   ·have hc:=hone.cnt
    obtain ⟨c2,x2,d1,d2,d3⟩:=ih (n-k) (by omega) (by omega) c' x' b2 (.inr (by have:=b5 (by omega);omega)) (by omega)
    exact ⟨c2,x2,by omega,d2,d3⟩
theorem zud {w:Wheel} (h:OkW w) (hc:w.Coins.length≠0) (hn:w.Notches.length≠0) {k:Nat} (hk:k<=20) {s:Int} (hs:IsOne w k s):s<=4099:=by
 obtain ⟨t,h1,h2,h3⟩:=zqY h hc hn hk
 have:=hs.least t h1 h2
 omega
theorem zwr {w:Wheel} (h:OkW w) (hc:w.Coins.length≠0) (hn:w.Notches.length≠0) {one:Nat->Int} {P:Nat} (hP:P<=20) (ho:∀k:Nat,k<=P->IsOne w k (one k)) {n:Nat} (hn2:n<=P):0<=F one n/\F one n<=4099:=by
 have ok:=znN h ho
 refine ⟨zzB ok n hn2,?_⟩
 by_cases e:n=0
 ·subst e;rw [ziE];omega
 ·have h1:=zzz one (n:=n) (k:=n) (by omega) (by omega)
  rw [Nat.sub_self,ziE] at h1
  have:=zud h hc hn (by omega) (ho n hn2)
  omega
theorem zpQ {n:Nat} {w:Wheel} (hl:zj6 n w) (hv:valid w=true) (hn:1000000<=n) (hc:w.Coins.length≠0) (hno:w.Notches.length≠0) {P:Nat} (hP:1<=P/\P<=20) {one:Nat->Int} (ho:∀k:Nat,k<=P->IsOne w k (one k)) :
  zeF n w P=some (F one P,0):=by
 have h:=zfj hv
 unfold zeF
 have hin:inR (P:Int) 1 20=true:=zbK.2 (by omega)
 rw [ztI hl _ true (fun _=>by
  show (zdp ⟨w⟩ (P:Int)).map (fun y=>(y,()))=_
  unfold zdp
  rw [zgA,zaa,hin]
  rfl),zaa,hv]
 simp only [cond_true,bne_self_eq_false,Bool.false_eq_true,if_false]
 rw [if_neg (by simpa using hc),show ((w.Notches.length:Int)==0)=false by simpa using hno]
 unfold zds
 rw [if_neg (by simp)]
 obtain ⟨cm,xm,m1,m2,m3⟩:=upper h hP ho P (by omega) 0 ⟨⟨0,0⟩,0⟩ .start (.inl rfl) (by show (P:Int)<=0+P;omega)
 have hF:=zwr h hc hno hP.2 ho (n:=P) (by omega)
 have start:Lv w P 0 0 [] [[⟨⟨0,0⟩,0⟩]]:=by
  refine ⟨by simp,fun x hx=>by simp at hx,fun x hx=>by simp [zbm] at hx,fun c x hx=>?_,by simp,fun c=>?_,fun c hc=>by omega⟩
  ·cases c with
   | zero =>
    simp at hx
    subst hx
    exact .start
   | succ c=>simp at hx
  ·cases c with
   | zero=>simp
   | succ c=>simp
 obtain ⟨r,r1,⟨x,r2,r3⟩,r4⟩:=zvc h hn (P:=(P:Int)) (by omega) m2 m3 (by omega) (cm+1) 0 n 0 [] [[⟨⟨0,0⟩,0⟩]] (by omega) (by omega) (by omega) (by omega) start (by simp)
 have e1:=r4 cm xm m2 m3
 have e2:=(r2.cost h ho).le h ho
 rw [show (min x.bought (P:Int)).toNat=P by omega] at e2
 have e:(r:Int)=F one P:=by omega
 rw [←e]
 exact r1
structure Found (w:Wheel) (P:Nat) (cents:Int) (L:List Int):Prop where
 l1:1<=L.length
 l2:L.length<=P+1
 one:∀k:Nat,k<L.length->IsOne w k (L.getD k 0)
 all:∀s,Rep w s->s<cents->min (cN w s) P<L.length
end Go.Law
