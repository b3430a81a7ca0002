/-
  Plain laws.
  Conditions: none.
-/
import Derived.Test.YtenogpmlhpcibaaMd
import Derived.Test.YtenogpmlhpcibaaPlA
import Derived.Test.YtenogpmlhpcibaaEn
set_option linter.all false
namespace Go.Law
open Go Go.AM
theorem zuk {α S R:Type} (F:Nat->Int->S->Option R) (xs:List α) (spec:List α->S->Option R) (hl:xs.length<1048576) (h0:∀m s,F (m+1) (xs.length:Int) s=spec [] s)
  (hs:∀m (i:Nat) x l s,idx xs (i:Int)=some x->(i:Int)<(xs.length:Int)->i<1048576->xs.drop (i+1)=l->(∀s',F m (w64 ((i:Int)+1)) s'=spec l s')->F (m+1) (i:Int) s=spec (x::l) s) :
  ∀(l:List α) (i m:Nat) (s:S),i<=xs.length->xs.drop i=l->l.length<m->F m (i:Int) s=spec l s:=by
 intro l
 induction l with
 | nil =>
  intro i m s hi hd hm
  obtain ⟨m,rfl⟩:∃k,m=k+1:=⟨m-1,by omega⟩
  have:i=xs.length:=by have:=List.drop_eq_nil_iff.1 hd;omega
  subst this
  exact h0 m s
 | cons x l ih =>
  intro i m s hi hd hm
  obtain ⟨m,rfl⟩:∃k,m=k+1:=⟨m-1,by omega⟩
  simp only [List.length_cons] at hm
  have hlt:i<xs.length:=by
   rcases Nat.lt_or_ge i xs.length with h | h
   ·exact h
   ·rw [List.drop_eq_nil_of_le h] at hd;cases hd
  rw [List.drop_eq_getElem_cons hlt] at hd
  injection hd with h1 h2
  refine hs m i x l s (by rw [zb2 hlt,h1]) (by omega) (by omega) h2 fun s'=>?_
  rw [zaI (by omega) (by omega)]
  exact ih (i+1) m s' (by omega) h2 (by omega)
theorem zmP {α S R:Type} {F:Nat->Int->S->Option R} {xs:List α} {spec:List α->S->Option R} (hl:xs.length<1048576) {n:Nat} (hn:xs.length<n) (s:S) (h0:∀m s,F (m+1) (xs.length:Int) s=spec [] s)
  (hs:∀m (i:Nat) x l s,idx xs (i:Int)=some x->(i:Int)<(xs.length:Int)->i<1048576->xs.drop (i+1)=l->(∀s',F m (w64 ((i:Int)+1)) s'=spec l s')->F (m+1) (i:Int) s=spec (x::l) s) :
  F n 0 s=spec xs s:=zuk F xs spec hl h0 hs xs 0 n s (by omega) rfl hn
theorem zlU {α S R:Type} (F:Nat->Int->S->Option R) (xs:List α) (spec:List α->S->Option R) (I:List α->S->Prop) (hl:xs.length<1048576) (h0:∀m s,I [] s->F (m+1) (xs.length:Int) s=spec [] s)
  (hs:∀m (i:Nat) x l s,I (x::l) s->idx xs (i:Int)=some x->(i:Int)<(xs.length:Int)->i<1048576->xs.drop (i+1)=l->(∀s',I l s'->F m (w64 ((i:Int)+1)) s'=spec l s')->F (m+1) (i:Int) s=spec (x::l) s) :
  ∀(l:List α) (i m:Nat) (s:S),i<=xs.length->xs.drop i=l->l.length<m->I l s->F m (i:Int) s=spec l s:=by
 intro l
 induction l with
 | nil =>
  intro i m s hi hd hm hI
  obtain ⟨m,rfl⟩:∃k,m=k+1:=⟨m-1,by omega⟩
  have:i=xs.length:=by have:=List.drop_eq_nil_iff.1 hd;omega
  subst this
  exact h0 m s hI
 | cons x l ih =>
  intro i m s hi hd hm hI
  obtain ⟨m,rfl⟩:∃k,m=k+1:=⟨m-1,by omega⟩
  simp only [List.length_cons] at hm
  have hlt:i<xs.length:=by
   rcases Nat.lt_or_ge i xs.length with h | h
   ·exact h
   ·rw [List.drop_eq_nil_of_le h] at hd;cases hd
  rw [List.drop_eq_getElem_cons hlt] at hd
  injection hd with h1 h2
  refine hs m i x l s hI (by rw [zb2 hlt,h1]) (by omega) (by omega) h2 fun s' hI'=>?_
  rw [zaI (by omega) (by omega)]
  exact ih (i+1) m s' (by omega) h2 (by omega) hI'
theorem zaa {α β:Type} (a:α) (f:α->Option β):Option.bind (some a) f=f a:=rfl
theorem zis (a b c:Int):zdx a b c=some (inR a b c):=by
 unfold zdx zei inR
 by_cases h:b<=a<;>simp [h]
theorem zjW (a b c:Int):zeg a b c=some (inR a b c):=by
 unfold zeg zef inR
 by_cases h:b<=a<;>simp [h]
def znR (lo hi:Int):Option Int->List Int->Bool
 | _,[]=>true
 | prev,x::l=>inR x lo hi&&(match prev with | none=>true | some y=>decide (y<x))&&znR lo hi (some x) l
theorem zji (pre:List Int):pre=[]\/∃q y,pre=q++[y]:=by
 rcases List.eq_nil_or_concat pre with h | ⟨q,y,h⟩
 ·exact .inl h
 ·exact .inr ⟨q,y,by simpa using h⟩
theorem zqo (q:List Int) (y:Int) (l:List Int) (h:(q++[y]++l).length<1048576):idx (q++[y]++l) (w64 (((q++[y]).length:Int)-1))=some y:=by
 simp at h
 rw [zaI (by simp<;>omega) (by simp<;>omega),show (((q++[y]).length:Int)-1)=(q.length:Int) by simp,show q++[y]++l=q++y::l by simp,zgX]
theorem zul (lo hi:Int):∀(l pre:List Int) (m:Nat),(pre++l).length<1048576->l.length<m ->
  zbV (pre++l) lo hi m (pre.length:Int)=some (znR lo hi pre.getLast? l):=by
 intro l
 induction l with
 | nil =>
  intro pre m hs hm
  obtain ⟨m,rfl⟩:∃k,m=k+1:=⟨m-1,by omega⟩
  simp [zbV,zev,zfi,znR]
 | cons x l ih =>
  intro pre m hs hm
  obtain ⟨m,rfl⟩:∃k,m=k+1:=⟨m-1,by omega⟩
  have h:=ih (pre++[x]) m (by simpa using hs) (by simp at hm;omega)
  rw [show (((pre++[x]).length:Nat):Int)=(pre.length:Int)+1 by simp,List.getLast?_concat,show pre++[x]++l=pre++x::l by simp] at h
  simp at hs hm
  simp only [zbV,zev]
  rw [if_pos (by simp<;>omega),zgX]
  simp only [Option.bind_some,zjW,znR]
  by_cases hr:inR x lo hi=true
  ·rw [if_neg (by simp [hr])]
   rcases zji pre with rfl | ⟨q,y,rfl⟩
   ·rw [if_neg (by simp)]
    simp only [zck]
    rw [if_neg (by simp),zaI (by simp) (by simp),h]
    simp [hr]
   ·rw [if_pos (by simp<;>omega),zqo q y (x::l) (by simp at hs ⊢;omega)]
    simp only [Option.bind_some,zck,List.getLast?_concat]
    by_cases hb:x<=y
    ·rw [if_pos (by simpa using hb)]
     simp [hr,show ¬y<x by omega]
    ·rw [if_neg (by simpa using hb),zaI (by omega) (by omega),h]
     simp [hr,show y<x by omega]
  ·have hr':inR x lo hi=false:=by simpa using hr
   rw [if_pos (by simp [hr'])]
   simp [zck,hr']
theorem zot {n:Nat} (l:List Int) (lo hi:Int) (hs:l.length<1048576) (hn:l.length<n):zg5 n l lo hi=some (znR lo hi none l):=zul lo hi l [] n (by simpa using hs) hn
theorem zum (many most:Int):∀(l pre:List Int) (m:Nat),(pre++l).length<1048576->l.length<m ->
  zbW (pre++l) many most m (pre.length:Int)=some (znR 1 most pre.getLast? l&&decide (((pre++l).length:Int)<=many)):=by
 intro l
 induction l with
 | nil =>
  intro pre m hs hm
  obtain ⟨m,rfl⟩:∃k,m=k+1:=⟨m-1,by omega⟩
  simp [zbW,zex,zfj,znR]
 | cons x l ih =>
  intro pre m hs hm
  obtain ⟨m,rfl⟩:∃k,m=k+1:=⟨m-1,by omega⟩
  have h:=ih (pre++[x]) m (by simpa using hs) (by simp at hm;omega)
  rw [show (((pre++[x]).length:Nat):Int)=(pre.length:Int)+1 by simp,List.getLast?_concat,show pre++[x]++l=pre++x::l by simp] at h
  simp at hs hm
  simp only [zbW,zex]
  rw [if_pos (by simp<;>omega),zgX]
  simp only [Option.bind_some,zis,znR]
  by_cases hr:inR x 1 most=true
  ·rw [if_neg (by simp [hr])]
   rcases zji pre with rfl | ⟨q,y,rfl⟩
   ·rw [if_neg (by simp)]
    simp only [zcl]
    rw [if_neg (by simp),zaI (by simp) (by simp),h]
    simp [hr]
   ·rw [if_pos (by simp<;>omega),zqo q y (x::l) (by simp at hs ⊢;omega)]
    simp only [Option.bind_some,zcl,List.getLast?_concat]
    by_cases hb:x<=y
    ·rw [if_pos (by simpa using hb)]
     simp [hr,show ¬y<x by omega]
    ·rw [if_neg (by simpa using hb),zaI (by omega) (by omega),h]
     simp [hr,show y<x by omega]
  ·have hr':inR x 1 most=false:=by simpa using hr
   rw [if_pos (by simp [hr'])]
   simp [zcl,hr']
theorem zou {n:Nat} (l:List Int) (many most:Int) (hs:l.length<1048576) (hn:l.length<n):zg6 n l many most=some (znR 1 most none l&&decide ((l.length:Int)<=many)):=zum many most l [] n (by simpa using hs) hn
def valid (w:Wheel):Bool:=inR w.Round 1 200&&(znR 1 w.Round none w.Notches&&decide ((w.Notches.length:Int)<=12))&&(znR 1 100 none w.Coins&&decide ((w.Coins.length:Int)<=4))
def zov (n:Nat) (w:Wheel):Prop:=w.Notches.length<1048576/\w.Coins.length<1048576/\w.Notches.length<n/\w.Coins.length<n
theorem zqp {n:Nat} {w:Wheel} (h:zov n w):zgT n w=some (cond (valid w) 0 10):=by
 obtain ⟨h1,h2,h3,h4⟩:=h
 unfold zgT zdS valid
 rw [zis,zaa,zou _ _ _ h1 h3,zou _ _ _ h2 h4,zaa,zaa]
 cases inR w.Round 1 200<;>cases (znR 1 w.Round none w.Notches&&decide ((w.Notches.length:Int)<=12))<;>cases (znR 1 100 none w.Coins&&decide ((w.Coins.length:Int)<=4))<;>rfl
theorem zs2 {n:Nat} {w:Wheel} (h:zov n w):zhJ n w=some (cond (valid w) 0 10):=by
 obtain ⟨h1,h2,h3,h4⟩:=h
 unfold zhJ zcE valid
 rw [zjW,zaa,zot _ _ _ h1 h3,zot _ _ _ h2 h4,zaa,zaa]
 by_cases q1:(w.Notches.length:Int)<=12
 ·have e1:decide ((w.Notches.length:Int)>12)=false:=by simpa using q1
  rw [e1]
  by_cases q2:(w.Coins.length:Int)<=4
  ·have e2:decide ((w.Coins.length:Int)>4)=false:=by simpa using q2
   rw [e2]
   simp only [q1,q2,decide_true,Bool.and_true]
   cases inR w.Round 1 200<;>cases znR 1 w.Round none w.Notches<;>cases znR 1 100 none w.Coins<;>rfl
  ·have e2:decide ((w.Coins.length:Int)>4)=true:=by simp;omega
   rw [e2]
   simp only [q2,decide_false,Bool.and_false]
   cases inR w.Round 1 200<;>cases znR 1 w.Round none w.Notches<;>rfl
 ·have e1:decide ((w.Notches.length:Int)>12)=true:=by simp;omega
  rw [e1]
  simp only [q1,decide_false,Bool.and_false,Bool.false_and]
  cases inR w.Round 1 200<;>rfl
theorem znz {lo hi:Int}:∀{l:List Int} {p:Option Int},znR lo hi p l=true->(∀x,x∈l->lo<=x/\x<=hi/\∀y,p=some y->y<x)/\l.Pairwise (·<·)
 | [],_,_=>⟨fun x h=>by simp at h,.nil⟩
 | x::l,p,h=>by
  simp only [znR,Bool.and_eq_true] at h
  obtain ⟨⟨h1,h2⟩,h3⟩:=h
  obtain ⟨ih1,ih2⟩:=znz h3
  have h1':=zcf.1 h1
  have hp:∀y,p=some y->y<x:=fun y e=>by subst e;simpa using h2
  refine ⟨fun z hz=>?_,List.pairwise_cons.2 ⟨fun z hz=>(ih1 z hz).2.2 x rfl,ih2⟩⟩
  rcases List.mem_cons.1 hz with rfl | hz
  ·exact ⟨h1'.1,h1'.2,hp⟩
  ·have:=ih1 z hz
   exact ⟨this.1,this.2.1,fun y e=>Int.lt_trans (hp y e) (this.2.2 x rfl)⟩
structure OkW (w:Wheel):Prop where
 r1:1<=w.Round
 r2:w.Round<=200
 nlen:w.Notches.length<=12
 clen:w.Coins.length<=4
 nm:∀x,x∈w.Notches->1<=x/\x<=w.Round
 nd:w.Notches.Pairwise (·<·)
 cm:∀x,x∈w.Coins->1<=x/\x<=100
 cd:w.Coins.Pairwise (·<·)
theorem zhd {w:Wheel} (h:valid w=true):OkW w:=by
 simp only [valid,Bool.and_eq_true,decide_eq_true_eq] at h
 obtain ⟨⟨h1,h2,h3⟩,h4,h5⟩:=h
 have h1:=zcf.1 h1
 obtain ⟨a1,a2⟩:=znz h2
 obtain ⟨b1,b2⟩:=znz h4
 exact ⟨h1.1,h1.2,by omega,by omega,fun x hx=>⟨(a1 x hx).1,(a1 x hx).2.1⟩,a2,fun x hx=>⟨(b1 x hx).1,(b1 x hx).2.1⟩,b2⟩
theorem OkW.len {w:Wheel} (h:OkW w) {n:Nat} (hn:100<=n):zov n w:=⟨by have:=h.nlen;omega,by have:=h.clen;omega,by have:=h.nlen;omega,by have:=h.clen;omega⟩
theorem zBz {n:Nat} (l:List Int) (x:Int) (hs:l.length<1048576) (hn:l.length<n):zne n l x=some (decide (x∈l)):=by
 have:=zmP (F:=fun m i (_:Unit)=>ze7 l x m i) (xs:=l) (spec:=fun l _=>some (decide (x∈l))) (n:=n) hs hn () (fun m s=>by simp [ze7,zgE,zhN]) (fun m i y l s hx hi _ _ hrec=>by
  simp only [ze7,zgE]
  rw [if_pos (by simpa using hi),hx,zaa]
  by_cases h:y=x
  ·rw [if_pos (by simpa using h)]
   simp [h]
  ·rw [if_neg (by simpa using h),hrec ()]
   simp [Ne.symm h])
 exact this
def nx (R p:Int):Int:=if p+1=R then 0 else p+1
def hit (w:Wheel) (p:Int):Int:=if p+1∈w.Notches then 1 else 0
def put (w:Wheel):Nat->Int->Int->Int×Int
 | 0,p,c=>(p,c)
 | k+1,p,c=>put w k (nx w.Round p) (c+hit w p)
theorem zqq {R p:Int} (h0:0<=p) (h1:p<R):0<=nx R p/\nx R p<R:=by
 unfold nx
 split<;>omega
theorem zow (w:Wheel) (p:Int):0<=hit w p/\hit w p<=1:=by
 unfold hit
 split<;>omega
theorem zBA {n:Nat} {w:Wheel} (h:OkW w) (hn:100<=n) {cents:Nat} (hc:cents<1048576):∀(k i m:Nat) (p c:Int),k=cents-i->i<=cents->k<m->0<=p->p<w.Round->0<=c->c<=i ->
  zcn n w cents m p c (i:Int)=some (put w k p c):=by
 have hr:=h.r2
 intro k
 induction k with
 | zero =>
  intro i m p c hk hi hm hp hp' hc0 hc1
  obtain ⟨m,rfl⟩:∃k,m=k+1:=⟨m-1,by omega⟩
  have:i=cents:=by omega
  subst this
  simp [zcn,zf1,zg8,put]
 | succ k ih =>
  intro i m p c hk hi hm hp hp' hc0 hc1
  obtain ⟨m,rfl⟩:∃k,m=k+1:=⟨m-1,by omega⟩
  have hx:=zow w p
  have hy:=zqq hp hp'
  have key:=ih (i+1) m (nx w.Round p) (c+hit w p) (by omega) (by omega) (by omega) hy.1 hy.2 (by omega) (by omega)
  simp only [zcn,zf1]
  rw [if_pos (by simp;omega),zaI (by omega) (by omega),zBz _ _ (by have:=h.nlen;omega) (by have:=h.nlen;omega),zaa]
  have e1:w64 ((i:Int)+1)=((i+1:Nat):Int):=by rw [zaI (by omega) (by omega)];simp
  have e2:w64 (c+1)=c+1:=zaI (by omega) (by omega)
  simp only [zgk,zgj,e1,e2,zaI (x:=p+1) (by omega) (by omega)]
  show _=some (put w k (nx w.Round p) (c+hit w p))
  rw [←key]
  unfold nx hit
  by_cases q1:p+1∈w.Notches
  ·rw [if_pos (by simpa using q1),if_pos q1]
   by_cases q2:p+1=w.Round
   ·rw [if_pos (by simpa using q2),if_pos q2]
   ·rw [if_neg (by simpa using q2),if_neg q2]
  ·rw [if_neg (by simpa using q1),if_neg q1,Int.add_zero]
   by_cases q2:p+1=w.Round
   ·rw [if_pos (by simpa using q2),if_pos q2]
   ·rw [if_neg (by simpa using q2),if_neg q2]
theorem zzk {n:Nat} {w:Wheel} (h:OkW w) (hn:100<=n) {p c:Int} (hp:0<=p) (hp':p<w.Round) (hc:0<=c) (hc':c<n) (hc2:c<1048576):zjz n w p c=some (put w c.toNat p 0):=by
 have:=zBA h hn (cents:=c.toNat) (by omega) c.toNat 0 n p 0 (by omega) (by omega) (by omega) hp hp' (by omega) (by omega)
 rw [show ((c.toNat:Nat):Int)=c by omega] at this
 exact this
theorem zox {w:Wheel} (h:OkW w):∀(k:Nat) (p c:Int),0<=p->p<w.Round->(0<=(put w k p c).1/\(put w k p c).1<w.Round)/\c<=(put w k p c).2/\(put w k p c).2<=c+k
 | 0,p,c,h0,h1=>⟨⟨h0,h1⟩,by simp [put],by simp [put]⟩
 | k+1,p,c,h0,h1=>by
  have hy:=zqq h0 h1
  have hx:=zow w p
  have:=zox h k (nx w.Round p) (c+hit w p) hy.1 hy.2
  simp only [put]
  omega
theorem zs3 (w:Wheel):∀(j k:Nat) (p c:Int),put w (j+k) p c=put w k (put w j p c).1 (put w j p c).2
 | 0,k,p,c=>by simp [put]
 | j+1,k,p,c=>by
  rw [show j+1+k=(j+k)+1 by omega]
  simp only [put]
  exact zs3 w j k _ _
theorem zs4 {A R:Int} (hR:0<R):(A+1) / R=A / R+(if A % R=R-1 then 1 else 0):=by
 have h1:=Int.mul_ediv_add_emod A R
 have h2:=Int.emod_nonneg A (show R≠0 by omega)
 have h3:=Int.emod_lt_of_pos A hR
 split
 ·rename_i h
  have:A+1=R*(A / R+1):=by rw [Int.mul_add];omega
  rw [this,Int.mul_ediv_cancel_left _ (by omega)]
 ·rename_i h
  have:A+1=(A % R+1)+R*(A / R):=by omega
  rw [this,Int.add_mul_ediv_left _ _ (by omega),Int.ediv_eq_zero_of_lt (by omega) (by omega)]
  omega
theorem zs5 {A R:Int} (hR:0<R):(A+1) % R=nx R (A % R):=by
 have h1:=Int.mul_ediv_add_emod A R
 have h2:=Int.emod_nonneg A (show R≠0 by omega)
 have h3:=Int.emod_lt_of_pos A hR
 unfold nx
 split
 ·rename_i h
  have:A+1=R*(A / R+1):=by rw [Int.mul_add];omega
  rw [this,Int.mul_emod_right]
 ·rename_i h
  have:A+1=(A % R+1)+R*(A / R):=by omega
  rw [this,Int.add_mul_emod_self_left,Int.emod_eq_of_lt (by omega) (by omega)]
theorem zrA {B R m:Int} (hR:0<R) (h1:1<=m) (h2:m<=R):(B-m+R) % R=R-1↔m=B % R+1:=by
 have e1:=Int.mul_ediv_add_emod B R
 have e2:=Int.emod_nonneg B (show R≠0 by omega)
 have e3:=Int.emod_lt_of_pos B hR
 by_cases h:m<=B % R
 ·have:B-m+R=(B % R-m)+R*(B / R+1):=by rw [Int.mul_add];omega
  rw [this,Int.add_mul_emod_self_left,Int.emod_eq_of_lt (by omega) (by omega)]
  omega
 ·have:B-m+R=(B % R-m+R)+R*(B / R):=by omega
  rw [this,Int.add_mul_emod_self_left,Int.emod_eq_of_lt (by omega) (by omega)]
  omega
def reached (R e p:Int):List Int->Int
 | []=>0
 | m::l=>(e-m+R) / R-(p-m+R) / R+reached R e p l
def turn (w:Wheel) (p c:Int):Int×Int:=((p+c) % w.Round,reached w.Round (p+c) p w.Notches)
theorem zkD {R B p:Int} (hR:0<R):∀(l:List Int),(∀x,x∈l->1<=x/\x<=R)->l.Pairwise (·<·)->reached R (B+1) p l=reached R B p l+(if B % R+1∈l then 1 else 0)
 | [],_,_=>by simp [reached]
 | m::l,h,hd=>by
  have hm:=h m (by simp)
  obtain ⟨d1,d2⟩:=List.pairwise_cons.1 hd
  have ih:=zkD (B:=B) (p:=p) hR l (fun x hx=>h x (by simp [hx])) d2
  simp only [reached]
  rw [ih,show B+1-m+R=(B-m+R)+1 by omega,zs4 hR]
  have hn:=zrA (B:=B) hR hm.1 hm.2
  by_cases q:m=B % R+1
  ·rw [if_pos (hn.2 q),if_pos (show B % R+1∈m::l by simp [q]),if_neg (fun hx=>by have:=d1 _ hx;omega)]
   omega
  ·rw [if_neg (fun hx=>q (hn.1 hx))]
   by_cases q2:B % R+1∈l
   ·rw [if_pos q2,if_pos (by simp [q2])]
    omega
   ·rw [if_neg q2,if_neg (by simp [q2];omega)]
    omega
theorem zkE {R p:Int}:∀(l:List Int),reached R p p l=0
 | []=>rfl
 | m::l=>by simp only [reached];rw [zkE l];omega
theorem znA {w:Wheel} (h:OkW w) {p:Int} (h0:0<=p) (h1:p<w.Round):∀k:Nat,put w k p 0=turn w p k
 | 0=>by
  unfold turn
  rw [show p+((0:Nat):Int)=p by simp,zkE,Int.emod_eq_of_lt h0 h1]
  rfl
 | k+1=>by
  have hr:=h.r1
  have ih:=znA h h0 h1 k
  rw [zs3 w k 1 p 0,ih]
  unfold turn
  simp only [put]
  rw [show p+((k+1:Nat):Int)=(p+k)+1 by simp;omega,zs5 (by omega),zkD (by omega) w.Notches h.nm h.nd]
  rfl
theorem zdu {w:Wheel} (h:OkW w) {p c:Int} (h0:0<=p) (h1:p<w.Round) (hc:0<=c):(0<=(turn w p c).1/\(turn w p c).1<w.Round)/\0<=(turn w p c).2/\(turn w p c).2<=c:=by
 have:=zox h c.toNat p 0 h0 h1
 rw [znA h h0 h1,show ((c.toNat:Nat):Int)=c by omega] at this
 omega
theorem zun {n:Nat} {w:Wheel} (h:OkW w) (hn:100<=n) {p c:Int} (hp:0<=p) (hp':p<w.Round) (hc:0<=c) (hc':c<n) (hc2:c<1048576):zjz n w p c=some (turn w p c):=by
 rw [zzk h hn hp hp' hc hc' hc2,znA h hp hp',show ((c.toNat:Nat):Int)=c by omega]
theorem zkF {R e p:Int} (hR:0<R) (h:p<=e):∀l:List Int,0<=reached R e p l
 | []=>by simp [reached]
 | m::l=>by
  have:=zkF hR h l
  have h2:=Int.ediv_le_ediv hR (show p-m+R<=e-m+R by omega)
  simp only [reached]
  omega
theorem zvI {n:Nat} {w:Wheel} (h:OkW w) (hn:100<=n) {p c:Int} (hp:0<=p) (hp':p<w.Round) (hc:0<=c) (hc2:c<1048576):zeW n ⟨w⟩ p c=some (turn w p c):=by
 have hr:=h.r1
 have hr2:=h.r2
 have hl:=h.nlen
 have hfin:=zdu h hp hp' hc
 unfold turn at hfin
 simp only at hfin
 have e0:w64 (p+c)=p+c:=zaI (by omega) (by omega)
 have key:=zlU (F:=fun m i s=>zbo ⟨w⟩ p c m s i) (xs:=w.Notches) (spec:=fun l s=>some ((p+c) % w.Round,s+reached w.Round (p+c) p l)) (I:=fun l s=>0<=s/\s+reached w.Round (p+c) p l<=c/\∀x,x∈l->1<=x/\x<=w.Round) (by omega)
  (fun m s hI=>by simp [zbo,zcU,zdC,reached,e0,zzh (show 0<=p+c by omega) (show 0<w.Round by omega)])
  (fun m i x l s hI hx hi _ _ hrec=>by
   obtain ⟨i1,i2,i3⟩:=hI
   have hxm:=i3 x (by simp)
   simp only [reached] at i2
   have hrl:=zkF (R:=w.Round) (e:=p+c) (p:=p) (by omega) (by omega) l
   have hd1:=Int.ediv_nonneg (show 0<=p+c-x+w.Round by omega) (show 0<=w.Round by omega)
   have hd2:=Int.ediv_nonneg (show 0<=p-x+w.Round by omega) (show 0<=w.Round by omega)
   have hd3:=Int.ediv_le_self w.Round (show 0<=p+c-x+w.Round by omega)
   have hd5:=Int.ediv_le_ediv (show 0<w.Round by omega) (show p-x+w.Round<=p+c-x+w.Round by omega)
   simp only [zbo,zcU]
   rw [if_pos (by simpa using hi),hx,zaa,e0,zaI (x:=p+c-x) (by omega) (by omega),zaI (x:=p+c-x+w.Round) (by omega) (by omega),zaI (x:=p-x) (by omega) (by omega),zaI (x:=p-x+w.Round) (by omega) (by omega),
    zu0 (by omega) (by omega) (by omega),zu0 (by omega) (by omega) (by omega),zaa,zaa,zaI (x:=_-_) (by omega) (by omega),zaI (x:=s+_) (by omega) (by omega),
    hrec _ ⟨by omega,by omega,fun y hy=>i3 y (by simp [hy])⟩]
   simp only [reached]
   congr 2
   omega)
  w.Notches 0 n 0 (by omega) rfl (by omega) ⟨by omega,by omega,h.nm⟩
 have key:zbo ⟨w⟩ p c n 0 0=_:=key
 unfold zeW
 rw [key]
 unfold turn
 rw [Int.zero_add]
structure OkS (w:Wheel) (s:Stand) (b:Int):Prop where
 p0:0<=s.Place
 p1:s.Place<w.Round
 c0:0<=s.Credit
 c1:s.Credit<=b
def zff (w:Wheel) (a:Int):Bool:=inR a (-1) (w.Coins.length-1)
def zqr (w:Wheel) (a:Int):Bool:=inR a 0 (w.Coins.length-1)
def coin (w:Wheel) (a:Int):Int:=w.Coins.getD a.toNat 0
def zh3 (w:Wheel) (s:Stand) (a:Int):Stand×Bool :=
 if 0<=a then (⟨(turn w s.Place (coin w a)).1,s.Credit+(turn w s.Place (coin w a)).2⟩,false) else if s.Credit=0 then (s,false) else (⟨0,s.Credit-1⟩,true)
theorem zkZ {w:Wheel} {a:Int} (h0:0<=a) (h1:a<=w.Coins.length-1):idx w.Coins a=some (coin w a):=by
 obtain ⟨k,rfl⟩:∃k:Nat,a=k:=⟨a.toNat,by omega⟩
 have hk:k<w.Coins.length:=by omega
 rw [zb2 hk]
 simp [coin,hk]
theorem zdW {w:Wheel} (h:OkW w) {a:Int} (h0:0<=a) (h1:a<=w.Coins.length-1):1<=coin w a/\coin w a<=100:=by
 obtain ⟨k,rfl⟩:∃k:Nat,a=k:=⟨a.toNat,by omega⟩
 have hk:k<w.Coins.length:=by omega
 have:coin w k=w.Coins[k]:=by simp [coin,hk]
 rw [this]
 exact h.cm _ (List.getElem_mem hk)
theorem zs6 {w:Wheel} (h:OkW w) {s:Stand} {b a:Int} (hs:OkS w s b) (ha:zff w a=true):OkS w (zh3 w s a).1 (b+100):=by
 have ha:=zcf.1 ha
 have hr:=h.r1
 unfold zh3
 split
 ·rename_i h0
  have hc:=zdW h h0 ha.2
  have ht:=zdu h hs.p0 hs.p1 (show 0<=coin w a by omega)
  have:=hs.c0
  have:=hs.c1
  exact ⟨ht.1.1,ht.1.2,by show 0<=s.Credit+_;omega,by show s.Credit+_<=_;omega⟩
 ·have:=hs.c0
  have:=hs.c1
  split
  ·exact ⟨hs.p0,hs.p1,hs.c0,by show s.Credit<=b+100;omega⟩
  ·exact ⟨by show (0:Int)<=0;omega,by show (0:Int)<_;omega,by show 0<=s.Credit-1;omega,by show s.Credit-1<=_;omega⟩
theorem zs7 {n:Nat} {w:Wheel} (h:OkW w) (hn:200<=n) {s:Stand} {b a:Int} (hs:OkS w s b) (hb:b<1099511627776) (ha:zff w a=true):zeN n w s a=some (zh3 w s a):=by
 have ha:=zcf.1 ha
 have:=hs.c0
 have:=hs.c1
 unfold zeN zh3
 by_cases h0:0<=a
 ·have hc:=zdW h h0 ha.2
  have ht:=zdu h hs.p0 hs.p1 (show 0<=coin w a by omega)
  rw [if_pos (by simpa using h0),if_pos h0,zkZ h0 ha.2,zaa,zun h (by omega) hs.p0 hs.p1 (by omega) (by omega) (by omega),zaa,zaI (by omega) (by omega)]
 ·rw [if_neg (by simpa using h0),if_neg h0]
  by_cases hc:s.Credit=0
  ·rw [if_pos (by simpa using hc),if_pos hc]
  ·rw [if_neg (by simpa using hc),if_neg hc,zaI (by omega) (by omega)]
theorem zzl {n:Nat} {w:Wheel} (h:OkW w) (hn:200<=n) {s:Stand} {b a:Int} (hs:OkS w s b) (hb:b<1099511627776) (ha:zff w a=true):zfm n ⟨w⟩ s a=some (zh3 w s a).1:=by
 have ha:=zcf.1 ha
 have:=hs.c0
 have:=hs.c1
 unfold zfm zh3
 by_cases h0:0<=a
 ·have hc:=zdW h h0 ha.2
  have ht:=zdu h hs.p0 hs.p1 (show 0<=coin w a by omega)
  rw [if_pos (by simp;omega),if_pos h0,zkZ h0 ha.2,zaa,zvI h (by omega) hs.p0 hs.p1 (by omega) (by omega),zaa,zaI (by omega) (by omega)]
 ·rw [if_neg (by simp;omega),if_neg h0]
  by_cases hc:s.Credit=0
  ·rw [if_neg (by simp;omega),if_pos hc]
  ·rw [if_pos (by simp;omega),if_neg hc,zaI (by omega) (by omega)]
theorem zBQ {n:Nat} (f:Int->Option Bool) (g:Int->Bool) (xs:List Int) (hf:∀x,x∈xs->f x=some (g x)) (hl:xs.length<1048576) (hn:xs.length<n) :
  zgC n (fun x (_:Unit)=>(f x).map fun y=>(y,())) xs ()=some (decide ((xs.length:Int)<=20)&&xs.all g,()):=by
 have key:∀(l:List Int) (i m:Nat) (s:Unit),i<=xs.length->xs.drop i=l->l.length<m->(zaB xs (zcv (fun x (_:Unit)=>(f x).map fun y=>(y,()))) m (i:Int) s).map (fun r=>decide (r.1≥0))=some (!l.all g):=by
  intro l i m s h1 h2 h3
  refine zuk (fun m i s=>(zaB xs (zcv (fun x (_:Unit)=>(f x).map fun y=>(y,()))) m i s).map (fun r=>decide (r.1≥0))) xs (fun l _=>some (!l.all g)) hl (fun m s=>?_) (fun m i x l s hx hi _ _ hrec=>?_) l i m s h1 h2 h3
  ·simp [zaB,zbf,zbX]
  ·have hmem:x∈xs:=by
    unfold idx at hx
    rw [if_pos (by omega)] at hx
    exact List.mem_of_getElem? hx
   simp only [zaB,zbf]
   rw [if_pos (by simpa using hi),hx,zaa]
   simp only [zcv,hf x hmem,Option.map_some,zaa]
   by_cases hg:g x=true
   ·rw [if_neg (by simp [hg])]
    have:=hrec ()
    rw [this]
    simp [hg]
   ·rw [if_pos (by simpa using hg)]
    simp [hg]
 have h:=key xs 0 n () (by omega) rfl hn
 unfold zgC zdN
 by_cases hq:(xs.length:Int)<=20
 ·rw [if_pos (by simpa using hq)]
  unfold zbq zdf
  change Option.map _ (zaB xs _ n 0 ())=_ at h
  cases hx:zaB xs (zcv (fun x (_:Unit)=>(f x).map fun y=>(y,()))) n 0 () with
  | none=>rw [hx] at h;cases h
  | some r =>
   rw [hx] at h
   simp only [Option.map_some,Option.some.injEq] at h
   simp only [zaa]
   rw [h]
   simp [hq]
 ·rw [if_neg (by simpa using hq)]
  simp [hq]
theorem zs8 {w:Wheel} (hw:w.Coins.length<1048576) (x:Int):zd2 ⟨w⟩ x=some (zqr w x):=by
 unfold zd2 zqr
 simp only []
 rw [zaI (by omega) (by omega),zis,zaa]
theorem zuo {w:Wheel} (hw:w.Coins.length<1048576) (x:Int):zcH ⟨w⟩ x=some (zff w x):=by
 unfold zcH zcA
 rw [zs8 hw,zaa]
 have e:zff w x=(decide (x=-1) || zqr w x):=by
  rw [Bool.eq_iff_iff]
  simp only [zff,zqr,zcf,Bool.or_eq_true,decide_eq_true_eq]
  omega
 rw [e]
 by_cases h:x=-1
 ·rw [if_pos (by simpa using h)]
  simp [h]
 ·rw [if_neg (by simpa using h)]
  simp [h]
def zjj (w:Wheel) (p:Int):Bool:=inR p 0 (w.Round-1)
theorem zrB {w:Wheel} (h:OkW w) (p:Int):zdD ⟨w⟩ p=some (zjj w p):=by
 have:=h.r1
 have:=h.r2
 unfold zdD zjj
 simp only []
 rw [zaI (by omega) (by omega),zis,zaa]
def zhk (w:Wheel) (s:Stand):Bool:=zjj w s.Place&&inR s.Credit 0 20
theorem zrC {w:Wheel} {s:Stand} (h:zhk w s=true):OkS w s 20:=by
 simp only [zhk,zjj,Bool.and_eq_true,zcf] at h
 exact ⟨h.1.1,by omega,h.2.1,h.2.2⟩
def zw:Wheel_:=⟨⟨0,[],[]⟩⟩
theorem zvJ {n:Nat} {w:Wheel} (hl:zov n w) (aF:Wheel_->Unit->Option (Bool×Unit)) (b:Bool) (ha:valid w=true->aF ⟨w⟩ ()=some (b,())) :
  ziD n aF w ()=some (cond (valid w) (cond b (((⟨w⟩:Wheel_),0),()) ((zw,1),())) ((zw,10),())):=by
 unfold ziD
 rw [zqp hl,zaa]
 cases hv:valid w with
 | false=>rfl
 | true =>
  rw [ha hv]
  cases b<;>rfl
def zrD (w:Wheel):List Int->Int->Stand->Stand×Int
 | [],k,s=>(s,k)
 | a::l,k,s=>zrD w l (k+if (zh3 w s a).2 then 1 else 0) (zh3 w s a).1
def zAX (w:Wheel) (s:Stand) (acts:List Int):Stand×Int×Int :=
 if valid w=true then (if zhk w s=true/\(acts.length:Int)<=20/\acts.all (zff w)=true then ((zrD w acts 0 s).1,(zrD w acts 0 s).2,0) else (⟨0,0⟩,0,1)) else (⟨0,0⟩,0,10)
theorem zup {w:Wheel} {s:Stand} {a:Int} (h:zff w a=true) (hc:0<=s.Credit):(zh3 w s a).2=true↔a=-1/\s.Credit>0:=by
 have h:=zcf.1 h
 unfold zh3
 split
 ·simp;omega
 ·split<;>simp<;>omega
theorem zBB {n:Nat} {w:Wheel} (h:OkW w) (hn:200<=n) (acts:List Int) (hl:(acts.length:Int)<=20) (ha:acts.all (zff w)=true) {s:Stand} (hs:OkS w s 20) :
  zbL n acts ((⟨w⟩,0),()) n 0 0 s.Place s.Credit=some ((zrD w acts 0 s).1,(zrD w acts 0 s).2,0):=by
 have key:=zlU (F:=fun m i (q:Int×Stand)=>zbL n acts ((⟨w⟩,0),()) m q.1 i q.2.Place q.2.Credit) (xs:=acts) (spec:=fun l q=>some ((zrD w l q.1 q.2).1,(zrD w l q.1 q.2).2,0))
  (I:=fun l q=>(0<=q.1/\q.1+l.length<=100)/\OkS w q.2 (2100-100*l.length)/\l.length<=20/\l.all (zff w)=true) (by omega)
  (fun m q hI=>by simp [zbL,zfZ,zg7,zrD])
  (fun m i x l q hI hx hi _ _ hrec=>by
   obtain ⟨i1,i2,i3,i4⟩:=hI
   simp only [List.length_cons,List.all_cons,Bool.and_eq_true] at i1 i2 i3 i4
   have hb:(2100-100*((l.length+1:Nat):Int))+100=2100-100*(l.length:Int):=by simp;omega
   have hok:=zs6 h i2 i4.1
   rw [hb] at hok
   have hmi:=zup i4.1 i2.c0
   have goal:∀c:Bool,(c=(zh3 w q.2 x).2)->zfc n (zbL n acts ((⟨w⟩,0),()) m) ((⟨w⟩,0),()) q.1 (i:Int) q.2.Place q.2.Credit x c=some ((zrD w (x::l) q.1 q.2).1,(zrD w (x::l) q.1 q.2).2,0):=by
    rintro c rfl
    have e:(⟨q.2.Place,q.2.Credit⟩:Stand)=q.2:=rfl
    simp only [zfc,zgh,zrD,e,zzl h hn i2 (by omega) i4.1,zaa]
    by_cases hm:(zh3 w q.2 x).2=true
    ·rw [if_pos hm,zaI (x:=q.1+1) (by omega) (by omega)]
     have:=hrec (q.1+1,(zh3 w q.2 x).1) ⟨⟨by simp;omega,by simp;omega⟩,hok,by omega,i4.2⟩
     simp only at this
     rw [this]
     simp [hm]
    ·rw [if_neg hm]
     have:=hrec (q.1,(zh3 w q.2 x).1) ⟨⟨by simp;omega,by simp;omega⟩,hok,by omega,i4.2⟩
     simp only at this
     rw [this]
     simp [hm]
   simp only [zbL,zfZ]
   rw [if_pos (by simpa using hi),hx,zaa]
   by_cases hx1:x=-1
   ·rw [if_pos (by simpa using hx1)]
    refine goal _ ?_
    rw [Bool.eq_iff_iff,hmi]
    simp [hx1]
   ·rw [if_neg (by simpa using hx1)]
    refine goal _ ?_
    rw [Bool.eq_iff_iff,hmi]
    simp [hx1])
  acts 0 n (0,s) (by omega) rfl (by omega) ⟨⟨by simp,by simp;omega⟩,⟨hs.p0,hs.p1,hs.c0,by have:=hs.c1;simp;omega⟩,by omega,ha⟩
 exact key
theorem zu3 {n:Nat} {w:Wheel} (hl:zov n w) (hn:200<=n) (s:Stand) (acts:List Int) (h1:acts.length<1048576) (h2:acts.length<n):zfn n w s acts=some (zAX w s acts):=by
 unfold zfn zAX
 rw [zvJ hl _ (zhk w s&&(decide ((acts.length:Int)<=20)&&acts.all (zff w))) (fun hv=>?_),zaa]
 ·cases hv:valid w with
  | false=>rfl
  | true =>
   have h:=zhd hv
   by_cases hq:zhk w s=true/\(acts.length:Int)<=20/\acts.all (zff w)=true
   ·rw [if_pos rfl,if_pos hq,hq.1,hq.2.2,show decide ((acts.length:Int)<=20)=true by simpa using hq.2.1]
    exact zBB h hn acts hq.2.1 hq.2.2 (zrC hq.1)
   ·rw [if_pos rfl,if_neg hq,show (zhk w s&&(decide ((acts.length:Int)<=20)&&acts.all (zff w)))=false by
     cases hz:(zhk w s&&(decide ((acts.length:Int)<=20)&&acts.all (zff w))) with
     | false=>rfl
     | true=>simp only [Bool.and_eq_true,decide_eq_true_eq] at hz;exact (hq hz).elim]
    rfl
 ·have h:=zhd hv
  show (zgg n ⟨w⟩ s acts).map (fun y=>(y,()))=_
  unfold zgg zdp
  rw [zrB h,zaa,zis,zBQ (fun x=>zcH ⟨w⟩ x) (zff w) acts (fun x _=>zuo hl.2.1 x) h1 h2]
  unfold zhk
  cases zjj w s.Place<;>cases inR s.Credit 0 20<;>rfl
theorem zlV {n:Nat} (a b:List Int) (hs:a.length<1048576) (hn:a.length<n):zbR n a b=some (decide (a=b)):=by
 unfold zbR
 by_cases h:a.length=b.length
 ·rw [if_neg (by simp [h])]
  have:=zmP (F:=fun m i (_:Unit)=>zbO a b m i) (xs:=a.zip b) (spec:=fun l _=>some (decide (∀q,q∈l->q.1=q.2))) (n:=n) (by simp [←h];omega) (by simp [←h];omega) () (fun m s=>by simp [zbO,zdE,zey,←h]) (fun m i x l s hx hi hi' hd hrec=>by
   have hi1:i<a.length:=by simp [←h] at hi;exact hi
   have hi2:i<b.length:=by omega
   have hx':x=(a[i],b[i]):=by
    rw [zb2 (by simp;omega)] at hx
    injection hx with hx
    rw [←hx]
    simp
   simp only [zbO,zdE]
   rw [if_pos (by simp;omega),zb2 hi1,zb2 hi2,zaa,zaa]
   subst hx'
   by_cases hb:a[i]=b[i]
   ·rw [if_neg (by simp [hb]),hrec ()]
    simp [hb]
   ·rw [if_pos (by simp [hb])]
    simp [hb])
  rw [show zbO a b n 0=_ from this]
  congr 1
  apply decide_eq_decide.2
  constructor
  ·intro hq
   apply List.ext_getElem h
   intro i h1 h2
   have:=hq (a[i],b[i]) (by
    have h3:i<(a.zip b).length:=by simp;omega
    have:(a.zip b)[i]=(a[i],b[i]):=by simp
    rw [←this]
    exact List.getElem_mem h3)
   exact this
  ·rintro rfl q hq
   obtain ⟨i,hi,rfl⟩:=List.getElem_of_mem hq
   simp
 ·rw [if_pos (by simp;omega)]
  have:a≠b:=fun e=>h (by rw [e])
  simp [this]
theorem zfy {n:Nat} (a:List Int) (hs:a.length<1048576) (hn:a.length<n):zbR n a a=some true:=by rw [zlV a a hs hn];simp
theorem zvK {n:Nat} {w:Wheel} (h:zov n w):ziE w=some w:=by
 unfold ziE
 rw [zgp (by simp;exact Nat.le_of_lt h.1),zgp (by simp;exact Nat.le_of_lt h.2.1)]
 rfl
theorem zko {α:Type} {l:List α} (h:l.length<1048576):app ([]:List α) l=some l:=by rw [zgp (by simp;omega)];rfl
section
variable {κ:Type} [DecidableEq κ]
theorem zqs:∀{M:List (κ×Int)} {k:κ},zcz M k=true↔k∈M.map (·.1)
 | [],k=>by simp [zcz]
 | p::M,k=>by
  simp only [zcz,List.map_cons,List.mem_cons]
  by_cases h:p.1=k
  ·simp [h]
  ·rw [if_neg h,zqs]
   exact ⟨.inr,fun e=>e.resolve_left (Ne.symm h)⟩
theorem zqt:∀{M:List (κ×Int)} {k:κ},zcz M k=true->(k,zwM M k)∈M
 | [],k,h=>by simp [zcz] at h
 | p::M,k,h=>by
  by_cases e:p.1=k
  ·simp only [zwM,if_pos e]
   rw [←e]
   exact List.mem_cons_self
  ·simp only [zcz,if_neg e] at h
   simp only [zwM,if_neg e]
   exact List.mem_cons_of_mem _ (zqt h)
theorem zqu:∀{M:List (κ×Int)} {k:κ} {v:Int} {p:κ×Int},p∈zh1 M k v->p=(k,v)\/p∈M
 | [],k,v,p,h=>by simp [zh1] at h;exact .inl h
 | q::M,k,v,p,h=>by
  simp only [zh1] at h
  split at h
  ·rcases List.mem_cons.1 h with h | h
   ·exact .inl h
   ·exact .inr (List.mem_cons_of_mem _ h)
  ·rcases List.mem_cons.1 h with h | h
   ·exact .inr (h▸List.mem_cons_self)
   ·rcases zqu h with h | h
    ·exact .inl h
    ·exact .inr (List.mem_cons_of_mem _ h)
theorem zoy:∀{M:List (κ×Int)} {k:κ} {v:Int},(zh1 M k v).map (·.1)=if zcz M k=true then M.map (·.1) else M.map (·.1)++[k]
 | [],k,v=>by simp [zh1,zcz]
 | q::M,k,v=>by
  by_cases e:q.1=k
  ·simp [zh1,zcz,e]
  ·simp only [zh1,zcz,if_neg e,List.map_cons]
   rw [zoy]
   cases zcz M k<;>simp
theorem zrE {M:List (κ×Int)} {k:κ} {v:Int} (h:(M.map (·.1)).Nodup):((zh1 M k v).map (·.1)).Nodup:=by
 rw [zoy]
 cases e:zcz M k with
 | true=>simpa using h
 | false =>
  have:¬k∈M.map (·.1):=fun hk=>by rw [zqs.2 hk] at e;cases e
  simp only [Bool.false_eq_true,if_false]
  rw [List.nodup_append]
  refine ⟨h,by simp,fun a ha b hb=>?_⟩
  simp only [List.mem_singleton] at hb
  subst hb
  exact fun e=>this (e▸ha)
end
def zkL (b:Bool) (s:Bool×Int) (n:Int):Bool×Int:=if s.1=true\/cond b (decide (n>s.2)) (decide (n<s.2))=true then (false,n) else s
def pick (b:Bool) (vs:List Int):Int:=(vs.foldl (zkL b) (true,0)).2
def leB (b:Bool) (x y:Int):Prop:=cond b (x<=y) (y<=x)
theorem leB.refl (b:Bool) (x:Int):leB b x x:=by cases b<;>exact Int.le_refl x
theorem leB.trans {b:Bool} {x y z:Int} (h:leB b x y) (h':leB b y z):leB b x z:=by
 cases b
 ·exact Int.le_trans h' h
 ·exact Int.le_trans h h'
theorem leB.anti {b:Bool} {x y:Int} (h:leB b x y) (h':leB b y x):x=y:=by
 cases b
 ·exact Int.le_antisymm h' h
 ·exact Int.le_antisymm h h'
theorem leB.add {b:Bool} {x y:Int} (h:leB b x y) (a:Int):leB b (a+x) (a+y):=by
 cases b
 ·exact Int.add_le_add_left h a
 ·exact Int.add_le_add_left h a
theorem zkp (b:Bool):∀(vs:List Int) (m:Int),(vs.foldl (zkL b) (false,m)).1=false/\((vs.foldl (zkL b) (false,m)).2=m\/(vs.foldl (zkL b) (false,m)).2∈vs)/\leB b m (vs.foldl (zkL b) (false,m)).2/\∀v,v∈vs->leB b v (vs.foldl (zkL b) (false,m)).2
 | [],m=>⟨rfl,.inl rfl,leB.refl b m,fun v h=>by simp at h⟩
 | x::vs,m=>by
  simp only [List.foldl_cons]
  by_cases h:cond b (decide (x>m)) (decide (x<m))=true
  ·have e:zkL b (false,m) x=(false,x):=by
    unfold zkL
    rw [if_pos (.inr h)]
   rw [e]
   obtain ⟨h1,h2,h3,h4⟩:=zkp b vs x
   have hm:leB b m x:=by
    cases b
    ·exact Int.le_of_lt (by simpa using h)
    ·exact Int.le_of_lt (by simpa using h)
   refine ⟨h1,?_,hm.trans h3,fun v hv=>?_⟩
   ·rcases h2 with h2 | h2
    ·exact .inr (by rw [h2];exact List.mem_cons_self)
    ·exact .inr (List.mem_cons_of_mem _ h2)
   ·rcases List.mem_cons.1 hv with rfl | hv
    ·exact h3
    ·exact h4 v hv
  ·have e:zkL b (false,m) x=(false,m):=by
    unfold zkL
    rw [if_neg (by simpa using h)]
   rw [e]
   obtain ⟨h1,h2,h3,h4⟩:=zkp b vs m
   have hm:leB b x m:=by
    cases b
    ·simpa [leB] using h
    ·simpa [leB] using h
   refine ⟨h1,h2.imp_right (List.mem_cons_of_mem _),h3,fun v hv=>?_⟩
   rcases List.mem_cons.1 hv with rfl | hv
   ·exact hm.trans h3
   ·exact h4 v hv
theorem zpy (b:Bool) (m x:Int):zkL b (true,m) x=(false,x):=by
 unfold zkL
 rw [if_pos (.inl rfl)]
theorem zit (b:Bool) {vs:List Int} (h:vs≠[]):pick b vs∈vs/\∀v,v∈vs->leB b v (pick b vs):=by
 cases vs with
 | nil=>exact (h rfl).elim
 | cons x vs =>
  unfold pick
  rw [List.foldl_cons,zpy]
  obtain ⟨h1,h2,h3,h4⟩:=zkp b vs x
  refine ⟨?_,fun v hv=>?_⟩
  ·rcases h2 with h2 | h2
   ·rw [h2];exact List.mem_cons_self
   ·exact List.mem_cons_of_mem _ h2
  ·rcases List.mem_cons.1 hv with rfl | hv
   ·exact h3
   ·exact h4 v hv
theorem zvL (b:Bool) {vs:List Int} {r:Int} (h:r∈vs) (hr:∀v,v∈vs->leB b v r):pick b vs=r:=by
 obtain ⟨h1,h2⟩:=zit b (vs:=vs) (fun e=>by rw [e] at h;simp at h)
 exact (hr _ h1).anti (h2 _ h)
def total:List Int->Int
 | []=>0
 | x::l=>x+total l
def zc3 (l:List Int) (k:Nat):List Int:=l.set k (l.getD k 0-1)
theorem zlW:∀{l:List Int} {k:Nat} {v:Int},k<l.length->total (l.set k v)=total l-l.getD k 0+v
 | [],k,v,h=>by simp at h
 | x::l,0,v,h=>by simp [total];omega
 | x::l,k+1,v,h=>by
  have:=zlW (l:=l) (k:=k) (v:=v) (by simpa using h)
  simp only [List.set_cons_succ,total,List.getD_cons_succ]
  omega
theorem zfe {l:List Int} {k:Nat} (h:k<l.length):total (zc3 l k)=total l-1:=by
 unfold zc3
 rw [zlW h]
 omega
theorem ze5:∀{l:List Int},(∀x,x∈l->0<=x)->0<=total l
 | [],_=>Int.le_refl _
 | x::l,h=>by
  have:=h x (by simp)
  have:=ze5 (l:=l) (fun y hy=>h y (by simp [hy]))
  simp only [total]
  omega
theorem zhl:∀{l:List Int},(∀x,x∈l->0<=x)->∀k,0<=l.getD k 0/\l.getD k 0<=total l
 | [],_,k=>by simp [total]
 | x::l,h,0=>by
  have:=h x (by simp)
  have:=ze5 (l:=l) (fun y hy=>h y (by simp [hy]))
  simp only [List.getD_cons_zero,total]
  omega
 | x::l,h,k+1=>by
  have:=h x (by simp)
  have:=zhl (l:=l) (fun y hy=>h y (by simp [hy])) k
  simp only [List.getD_cons_succ,total]
  omega
theorem zmQ:∀{l:List Int},(∀x,x∈l->0<=x)->total l=0->∀k,l.getD k 0=0:=fun h h0 k=>by
 have:=zhl h k
 omega
structure OkP (w:Wheel) (l:List Int):Prop where
 len:l.length=w.Coins.length
 nn:∀x,x∈l->0<=x
 tot:total l<=1000
theorem OkP.less {w:Wheel} {l:List Int} (h:OkP w l) {k:Nat} (hk:k<w.Coins.length) (h0:l.getD k 0≠0):OkP w (zc3 l k):=by
 have hk':k<l.length:=by rw [h.len];exact hk
 have:=zhl h.nn k
 refine ⟨by simp [zc3,h.len],fun x hx=>?_,by rw [zfe hk'];have:=h.tot;omega⟩
 rcases List.mem_or_eq_of_mem_set hx with hx | rfl
 ·exact h.nn x hx
 ·omega
def zu4 (l:List Int):List Int:=[l.getD 0 0,l.getD 1 0,l.getD 2 0,l.getD 3 0]
def zb8 (l:List Int):Bag_:=⟨l.getD 0 0,l.getD 1 0,l.getD 2 0,l.getD 3 0⟩
theorem zlX {l:List Int} {k:Nat} (h:k<4):idx (zu4 l) (k:Int)=some (l.getD k 0):=by
 match k,h with
 | 0,_=>rfl
 | 1,_=>rfl
 | 2,_=>rfl
 | 3,_=>rfl
theorem zpz {l:List Int} {k:Nat} {v:Int} (h:k<l.length) (h4:l.length<=4):ztE (zu4 l) (k:Int) v=some (zu4 (l.set k v)):=by
 unfold ztE
 rw [if_pos ⟨by omega,by simp [zu4];omega⟩,Int.toNat_natCast]
 match l,k,h,h4 with
 | [a],0,_,_=>rfl
 | [a,b],0,_,_=>rfl
 | [a,b],1,_,_=>rfl
 | [a,b,c],0,_,_=>rfl
 | [a,b,c],1,_,_=>rfl
 | [a,b,c],2,_,_=>rfl
 | [a,b,c,d],0,_,_=>rfl
 | [a,b,c,d],1,_,_=>rfl
 | [a,b,c,d],2,_,_=>rfl
 | [a,b,c,d],3,_,_=>rfl
theorem znB {l l':List Int} (h:zb8 l=zb8 l') (hl:l.length=l'.length) (h4:l.length<=4):l=l':=by
 simp only [zb8,Bag_.mk.injEq] at h
 obtain ⟨h0,h1,h2,h3⟩:=h
 apply List.ext_getElem hl
 intro i hi hi'
 have e1:l[i]=l.getD i 0:=by simp [hi]
 have e2:l'[i]=l'.getD i 0:=by simp [hi']
 rw [e1,e2]
 match i,(show i<4 by omega) with
 | 0,_=>exact h0
 | 1,_=>exact h1
 | 2,_=>exact h2
 | 3,_=>exact h3
structure Opn where
 acts:List Int
 plays:Int
 p:Int
 c:Int
 k:Nat
def zmq (w:Wheel) (p c:Int) (k:Nat):Opn:=⟨[(k:Int)],(turn w p (coin w k)).2,(turn w p (coin w k)).1,c+(turn w p (coin w k)).2,k⟩
def zrF (w:Wheel) (c:Int) (k:Nat):Opn:=⟨[-1,(k:Int)],(turn w 0 (coin w k)).2,(turn w 0 (coin w k)).1,c-1+(turn w 0 (coin w k)).2,k⟩
def zzm (w:Wheel) (p c:Int) (k:Nat):List Opn:=zmq w p c k::(if c=0\/p=0 then [] else [zrF w c k])
def zpA (w:Wheel) (p c:Int) (l:List Int):Nat->Nat->List Opn
 | 0,_=>[]
 | d+1,k=>(if l.getD k 0=0 then [] else zzm w p c k)++zpA w p c l d (k+1)
theorem zfz {w:Wheel} {p c:Int} {l:List Int} {o:Opn}:∀{d k:Nat},o∈zpA w p c l d k↔∃j,k<=j/\j<k+d/\l.getD j 0≠0/\o∈zzm w p c j
 | 0,k=>by
  simp only [zpA,List.not_mem_nil,false_iff]
  rintro ⟨j,h1,h2,_⟩
  omega
 | d+1,k=>by
  simp only [zpA,List.mem_append]
  rw [zfz]
  constructor
  ·rintro (h | ⟨j,h1,h2,h3,h4⟩)
   ·split at h
    ·simp at h
    ·rename_i h0
     exact ⟨k,Nat.le_refl k,by omega,h0,h⟩
   ·exact ⟨j,by omega,by omega,h3,h4⟩
  ·rintro ⟨j,h1,h2,h3,h4⟩
   by_cases e:j=k
   ·subst e
    exact .inl (by rw [if_neg h3];exact h4)
   ·exact .inr ⟨j,by omega,by omega,h3,h4⟩
theorem zge {w:Wheel} {p c:Int} {k:Nat} {o:Opn}:o∈zzm w p c k↔o=zmq w p c k\/(c≠0/\p≠0/\o=zrF w c k):=by
 unfold zzm
 rw [List.mem_cons]
 by_cases h:c=0\/p=0
 ·rw [if_pos h]
  simp only [List.not_mem_nil,or_false]
  exact ⟨.inl,fun q=>q.elim id fun q=>(h.elim q.1 q.2.1).elim⟩
 ·rw [if_neg h]
  simp only [List.mem_singleton]
  exact or_congr_right ⟨fun q=>⟨fun e=>h (.inl e),fun e=>h (.inr e),q⟩,fun q=>q.2.2⟩
def Q (b:Bool) (w:Wheel):Nat->Int->Int->List Int->Int
 | 0,_,_,_=>0
 | T+1,p,c,l=>pick b ((zpA w p c l l.length 0).map fun o=>o.plays+Q b w T o.p o.c (zc3 l o.k))
structure OkO (w:Wheel) (c:Int) (l:List Int) (o:Opn):Prop where
 k:o.k<w.Coins.length
 nz:l.getD o.k 0≠0
 p0:0<=o.p
 p1:o.p<w.Round
 c0:0<=o.c
 c1:o.c<=c+100
 y0:0<=o.plays
 y1:o.plays<=100
theorem zs9 {w:Wheel} (h:OkW w) {p c:Int} (hp:0<=p) (hp':p<w.Round) (hc:0<=c) {l:List Int} (hl:OkP w l) {o:Opn} (ho:o∈zpA w p c l l.length 0):OkO w c l o:=by
 have hr:=h.r1
 obtain ⟨j,_,h2,h3,h4⟩:=zfz.1 ho
 have hj:j<w.Coins.length:=by have:=hl.len;omega
 have hco:=zdW h (a:=(j:Int)) (by omega) (by omega)
 rcases zge.1 h4 with rfl | ⟨h5,h6,rfl⟩
 ·have ht:=zdu h hp hp' (show 0<=coin w j by omega)
  exact ⟨hj,h3,ht.1.1,ht.1.2,by show 0<=c+_;omega,by show c+_<=_;omega,ht.2.1,by show (turn w p (coin w j)).2<=100;omega⟩
 ·have ht:=zdu h (p:=0) (by omega) (by omega) (show 0<=coin w j by omega)
  exact ⟨hj,h3,ht.1.1,ht.1.2,by show 0<=c-1+_;omega,by show c-1+_<=_;omega,ht.2.1,by show (turn w 0 (coin w j)).2<=100;omega⟩
theorem zlY:∀{l:List Int},total l≠0->∃j,j<l.length/\l.getD j 0≠0
 | [],h=>(h rfl).elim
 | x::l,h=>by
  by_cases e:x=0
  ·obtain ⟨j,h1,h2⟩:=zlY (l:=l) (fun q=>h (by simp [total,q,e]))
   exact ⟨j+1,by simp;omega,by simpa using h2⟩
  ·exact ⟨0,by simp,by simpa using e⟩
theorem zta {w:Wheel} {p c:Int} {l:List Int} (h:total l≠0):∃j,j<l.length/\l.getD j 0≠0/\zmq w p c j∈zpA w p c l l.length 0:=by
 obtain ⟨j,h1,h2⟩:=zlY h
 exact ⟨j,h1,h2,zfz.2 ⟨j,by omega,by omega,h2,zge.2 (.inl rfl)⟩⟩
theorem OkP.out {w:Wheel} {l:List Int} (h:OkP w l):∀j,w.Coins.length<=j->l.getD j 0=0:=fun j hj=>by
 rw [←h.len] at hj
 simp [hj]
def spot (l:List Int) (p c:Int):Spot_:=⟨zb8 l,p,c⟩
def zuq (b:Bool) (w:Wheel) (M:List (Spot_×Int)):Prop :=
 (M.map (·.1)).Nodup/\∀e,e∈M->∃l p c,e.1=spot l p c/\OkP w l/\(0<=p/\p<w.Round)/\(0<=c/\c<1099511627776)/\e.2=Q b w (total l).toNat p c l
theorem zuq.nil (b:Bool) (w:Wheel):zuq b w []:=⟨by simp,fun e h=>by simp at h⟩
theorem zhe {x:Int} (h1:-9223372036854775808<=x) (h2:x<9223372036854775808):okI x=true:=by
 simp only [okI,Lit.wf,IntKind.min,IntKind.max,IntKind.signed,IntKind.bits]
 simp
 omega
theorem zoz {w:Wheel} (h:OkW w) {l:List Int} (hl:OkP w l) {p c:Int} (hp:0<=p) (hp':p<w.Round) (hc:0<=c) (hc2:c<1099511627776):znd (spot l p c)=true:=by
 have hr:=h.r2
 have ht:=hl.tot
 have g:=zhl hl.nn
 have g0:=g 0
 have g1:=g 1
 have g2:=g 2
 have g3:=g 3
 simp only [znd,spot,zb8,List.all_cons,List.all_nil,Bool.and_true,Bool.and_eq_true]
 exact ⟨zhe (by omega) (by omega),zhe (by omega) (by omega),zhe (by omega) (by omega),zhe (by omega) (by omega),zhe (by omega) (by omega),zhe (by omega) (by omega)⟩
theorem zuq.mok {b:Bool} {w:Wheel} {M:List (Spot_×Int)} (hM:zuq b w M) (h:OkW w) {l:List Int} (hl:OkP w l) {p c:Int} (hp:0<=p) (hp':p<w.Round) (hc:0<=c) (hc2:c<1099511627776):mok znd M (spot l p c)=true:=by
 unfold Go.AM.mok
 rw [zoz h hl hp hp' hc hc2,show M.all (fun p=>znd p.1)=true from List.all_eq_true.2 fun e he=>?_,show decide ((M.map (·.1)).Nodup)=true by simpa using hM.1]
 ·rfl
 ·obtain ⟨l',p',c',e1,e2,e3,e4,_⟩:=hM.2 e he
  rw [e1]
  exact zoz h e2 e3.1 e3.2 e4.1 e4.2
theorem zuq.get {b:Bool} {w:Wheel} {M:List (Spot_×Int)} (hM:zuq b w M) (h:OkW w) {l:List Int} (hl:OkP w l) {p c:Int} (hk:zcz M (spot l p c)=true):zwM M (spot l p c)=Q b w (total l).toNat p c l:=by
 obtain ⟨l',p',c',e1,e2,e3,e4,e5⟩:=hM.2 _ (zqt hk)
 simp only [spot,Spot_.mk.injEq] at e1
 obtain ⟨q1,q2,q3⟩:=e1
 have e:l=l':=znB q1 (by rw [hl.len,e2.len]) (by rw [hl.len];exact h.clen)
 subst e q2 q3
 exact e5
theorem zuq.set {b:Bool} {w:Wheel} {M:List (Spot_×Int)} (hM:zuq b w M) {l:List Int} (hl:OkP w l) {p c:Int} (hp:0<=p) (hp':p<w.Round) (hc:0<=c) (hc2:c<1099511627776):zuq b w (zh1 M (spot l p c) (Q b w (total l).toNat p c l)):=by
 refine ⟨zrE hM.1,fun e he=>?_⟩
 rcases zqu he with rfl | he
 ·exact ⟨l,p,c,rfl,hl,⟨hp,hp'⟩,⟨hc,hc2⟩,rfl⟩
 ·exact hM.2 e he
theorem ztb {l:List Int} (h4:l.length<=4):l.getD 0 0+l.getD 1 0+l.getD 2 0+l.getD 3 0=total l:=by
 match l,h4 with
 | [],_=>rfl
 | [a],_=>simp [total]
 | [a,b],_=>simp [total]
 | [a,b,c],_=>simp [total];omega
 | [a,b,c,d],_=>simp [total];omega
def zjX (w:Wheel) (p c:Int) (l:List Int):Nat->Nat->List Opn
 | 0,_=>[]
 | d+1,k=>(if l.getD k 0=0 then [] else [zmq w p c k])++zjX w p c l d (k+1)
theorem zgZ {w:Wheel} {p c:Int} {l:List Int} {o:Opn}:∀{d k:Nat},o∈zjX w p c l d k↔∃j,k<=j/\j<k+d/\l.getD j 0≠0/\o=zmq w p c j
 | 0,k=>by
  simp only [zjX,List.not_mem_nil,false_iff]
  rintro ⟨j,h1,h2,_⟩
  omega
 | d+1,k=>by
  simp only [zjX,List.mem_append]
  rw [zgZ]
  constructor
  ·rintro (h | ⟨j,h1,h2,h3,h4⟩)
   ·split at h
    ·simp at h
    ·rename_i h0
     exact ⟨k,Nat.le_refl k,by omega,h0,by simpa using h⟩
   ·exact ⟨j,by omega,by omega,h3,h4⟩
  ·rintro ⟨j,h1,h2,h3,h4⟩
   by_cases e:j=k
   ·subst e
    exact .inl (by rw [if_neg h3];simpa using h4)
   ·exact .inr ⟨j,by omega,by omega,h3,h4⟩
theorem zu5 (w:Wheel) (c:Int) (l:List Int):∀d k,zpA w 0 c l d k=zjX w 0 c l d k
 | 0,k=>rfl
 | d+1,k=>by
  simp only [zpA,zjX,zu5 w c l d (k+1)]
  congr 1
  split
  ·rfl
  ·unfold zzm
   rw [if_pos (.inr rfl)]
def zqv (b:Bool) (w:Wheel) (T:Nat) (l:List Int) (o:Opn):Int:=o.plays+Q b w T o.p o.c (zc3 l o.k)
def zvM (b:Bool) (x y:Int):Int:=cond b (max x y) (min x y)
theorem zqw (b:Bool) (x y:Int):leB b x (zvM b x y)/\leB b y (zvM b x y)/\(zvM b x y=x\/zvM b x y=y):=by
 cases b
 ·simp only [leB,zvM,cond_false];omega
 ·simp only [leB,zvM,cond_true];omega
theorem zvN (b:Bool) (w:Wheel) (T:Nat) (p c:Int) (l:List Int) (hc:c≠0) (hp:p≠0) (ht:total l≠0) :
  Q b w (T+1) p c l=zvM b (pick b ((zjX w p c l l.length 0).map (zqv b w T l))) (Q b w (T+1) 0 (c-1) l):=by
 have h0:Q b w (T+1) 0 (c-1) l=pick b ((zjX w 0 (c-1) l l.length 0).map (zqv b w T l)):=by
  simp only [Q,zu5]
  rfl
 rw [h0]
 obtain ⟨j,h1,h2,_⟩:=zta (w:=w) (p:=p) (c:=c) ht
 have e1:(zjX w p c l l.length 0).map (zqv b w T l)≠[]:=by
  intro e
  have:=List.mem_map_of_mem (f:=zqv b w T l) (zgZ.2 ⟨j,by omega,by omega,h2,rfl⟩:zmq w p c j∈zjX w p c l l.length 0)
  rw [e] at this
  simp at this
 have e2:(zjX w 0 (c-1) l l.length 0).map (zqv b w T l)≠[]:=by
  intro e
  have:=List.mem_map_of_mem (f:=zqv b w T l) (zgZ.2 ⟨j,by omega,by omega,h2,rfl⟩:zmq w 0 (c-1) j∈zjX w 0 (c-1) l l.length 0)
  rw [e] at this
  simp at this
 obtain ⟨a1,a2⟩:=zit b e1
 obtain ⟨b1,b2⟩:=zit b e2
 obtain ⟨m1,m2,m3⟩:=zqw b (pick b ((zjX w p c l l.length 0).map (zqv b w T l))) (pick b ((zjX w 0 (c-1) l l.length 0).map (zqv b w T l)))
 have vs:∀j,zqv b w T l (zrF w c j)=zqv b w T l (zmq w 0 (c-1) j):=fun j=>rfl
 simp only [Q]
 refine zvL b ?_ ?_
 ·show _∈(zpA w p c l l.length 0).map (zqv b w T l)
  rw [List.mem_map]
  rcases m3 with m3 | m3
  ·rw [m3]
   obtain ⟨o,ho,he⟩:=List.mem_map.1 a1
   obtain ⟨j,q1,q2,q3,rfl⟩:=zgZ.1 ho
   exact ⟨_,zfz.2 ⟨j,q1,q2,q3,zge.2 (.inl rfl)⟩,he⟩
  ·rw [m3]
   obtain ⟨o,ho,he⟩:=List.mem_map.1 b1
   obtain ⟨j,q1,q2,q3,rfl⟩:=zgZ.1 ho
   exact ⟨zrF w c j,zfz.2 ⟨j,q1,q2,q3,zge.2 (.inr ⟨hc,hp,rfl⟩)⟩,by rw [vs];exact he⟩
 ·intro v hv
  obtain ⟨o,ho,he⟩:=List.mem_map.1 hv
  obtain ⟨j,q1,q2,q3,q4⟩:=zfz.1 ho
  rw [←he]
  rcases zge.1 q4 with rfl | ⟨_,_,rfl⟩
  ·exact (a2 _ (List.mem_map_of_mem (f:=zqv b w T l) (zgZ.2 ⟨j,q1,q2,q3,rfl⟩))).trans m1
  ·refine leB.trans ?_ m2
   show leB b (zqv b w T l (zrF w c j)) _
   rw [vs]
   exact b2 _ (List.mem_map_of_mem (f:=zqv b w T l) (zgZ.2 ⟨j,q1,q2,q3,rfl⟩))
theorem zvO {l:List Int} {k:Nat} (hk:k<l.length) (hl:l.length<1048576) (hv:0<=l.getD k 0/\l.getD k 0<=1000000):zhr l k=some (zc3 l k):=by
 unfold zhr
 have e:l.getD k 0=l[k]:=by simp [hk]
 rw [zko hl,zaa,zb2 hk,zaa,zaa,Int.toNat_natCast,zaI (by omega) (by omega),zc3,e]
def zdY (w:Wheel) (l:List Int):Bool:=decide (l.length=w.Coins.length)&&l.all (fun x=>inR x 0 12)&&decide (total l<=12)
theorem zur {w:Wheel} {l:List Int} (h:zdY w l=true):OkP w l/\total l<=12:=by
 simp only [zdY,Bool.and_eq_true,decide_eq_true_eq,List.all_eq_true] at h
 exact ⟨⟨h.1.1,fun x hx=>(zcf.1 (h.1.2 x hx)).1,by omega⟩,h.2⟩
theorem zkq {n:Nat} {w:Wheel} (hw:w.Coins.length<100000) (hn:w.Coins.length<n) (l:List Int):zew n w l=some (zdY w l):=by
 unfold zew zdY
 by_cases hl:l.length=w.Coins.length
 ·rw [if_neg (by simp;omega)]
  have key:=zlU (F:=fun m i (s:Int)=>zb4 l m s i) (xs:=l) (spec:=fun k s=>some (k.all (fun x=>inR x 0 12)&&decide (s+total k<=12))) (I:=fun k s=>0<=s/\s+12*k.length<=100000000) (by omega)
   (fun m s hI=>by simp [zb4,zd0,zeS,total])
   (fun m i x k s hI hx hi _ _ hrec=>by
    simp only [List.length_cons] at hI
    simp only [zb4,zd0]
    rw [if_pos (by simpa using hi),hx,zaa,zjW,zaa,zaa]
    by_cases q:inR x 0 12=true
    ·have:=zcf.1 q
     rw [if_neg (by simp [q]),zaI (x:=s+x) (by omega) (by omega),hrec (s+x) ⟨by omega,by omega⟩]
     have e:s+total (x::k)=s+x+total k:=by simp only [total];omega
     rw [e]
     simp only [List.all_cons,q,Bool.true_and]
    ·rw [if_pos (by simpa using q)]
     simp [q])
   l 0 n 0 (by omega) rfl (by omega) ⟨by omega,by omega⟩
  rw [show zb4 l n 0 0=_ from key]
  simp [hl]
 ·rw [if_pos (by simp;omega)]
  simp [hl]
def zeI (w:Wheel):Stand->List Int->Int
 | _,[]=>0
 | s,a::l=>(if 0<=a then (turn w s.Place (coin w a)).2 else 0)+zeI w (zh3 w s a).1 l
def cnt (k:Int):List Int->Int
 | []=>0
 | a::l=>(if a=k then 1 else 0)+cnt k l
theorem zdX (k:Int):∀(a b:List Int),cnt k (a++b)=cnt k a+cnt k b
 | [],b=>by simp [cnt]
 | x::a,b=>by
  simp only [List.cons_append,cnt]
  rw [zdX k a b]
  omega
structure Way (w:Wheel) (s:Stand) (l acts:List Int) (q:Int):Prop where
 ok:acts.all (zff w)=true
 len:(acts.length:Int)<=2*total l
 bag:∀k:Nat,k<w.Coins.length->cnt k acts=l.getD k 0
 buys:zeI w s acts=q
theorem zfT {l:List Int} {k j:Nat} (hk:k<l.length):(zc3 l k).getD j 0=l.getD j 0-(if k=j then 1 else 0):=by
 unfold zc3
 by_cases e:k=j
 ·subst e
  rw [if_pos rfl,List.getD_eq_getElem?_getD,List.getElem?_set_self hk]
  rfl
 ·rw [if_neg e,List.getD_eq_getElem?_getD,List.getElem?_set_ne e,←List.getD_eq_getElem?_getD]
  omega
theorem zlZ {w:Wheel} {k:Nat} (h:k<w.Coins.length):zff w k=true:=zcf.2 ⟨by omega,by omega⟩
theorem zl0 {w:Wheel}:zff w (-1)=true:=zcf.2 ⟨by omega,by omega⟩
theorem ztc (w:Wheel) (p c:Int) (k:Nat):zh3 w ⟨p,c⟩ (k:Int)=(⟨(zmq w p c k).p,(zmq w p c k).c⟩,false):=by
 unfold zh3
 rw [if_pos (by omega)]
 rfl
theorem zu6 (w:Wheel) (p c:Int) (hc:c≠0):zh3 w ⟨p,c⟩ (-1)=(⟨0,c-1⟩,true):=by
 unfold zh3
 rw [if_neg (by omega),if_neg hc]
theorem Way.step {w:Wheel} {p c:Int} {l acts:List Int} {q:Int} {o:Opn} (hl:OkP w l) (hc:0<=c) (ho:o∈zpA w p c l l.length 0) (h:Way w ⟨o.p,o.c⟩ (zc3 l o.k) acts q):Way w ⟨p,c⟩ l (o.acts++acts) (o.plays+q):=by
 obtain ⟨j,_,h2,h3,h4⟩:=zfz.1 ho
 have hj:j<l.length:=by omega
 have hj':j<w.Coins.length:=by have:=hl.len;omega
 rcases zge.1 h4 with rfl | ⟨h5,h6,rfl⟩
 ·refine ⟨?_,?_,fun k hk=>?_,?_⟩
  ·show List.all ([(j:Int)]++acts) (zff w)=true
   rw [List.singleton_append,List.all_cons,zlZ hj',h.ok]
   rfl
  ·have:=h.len
   have e:=zfe hj
   show ((([(j:Int)]++acts).length:Nat):Int)<=_
   rw [show (zmq w p c j).k=j from rfl] at this
   simp
   omega
  ·show cnt k ((j:Int)::acts)=_
   simp only [cnt]
   rw [h.bag k hk,show (zmq w p c j).k=j from rfl,zfT hj]
   by_cases e:j=k
   ·rw [if_pos (by omega),if_pos e];omega
   ·rw [if_neg (by omega),if_neg e];omega
  ·show zeI w ⟨p,c⟩ ((j:Int)::acts)=_
   simp only [zeI]
   rw [if_pos (by omega),ztc,h.buys]
   rfl
 ·refine ⟨?_,?_,fun k hk=>?_,?_⟩
  ·show List.all ([-1,(j:Int)]++acts) (zff w)=true
   rw [List.cons_append,List.singleton_append,List.all_cons,List.all_cons,zlZ hj',zl0,h.ok]
   rfl
  ·have:=h.len
   have e:=zfe hj
   show ((([-1,(j:Int)]++acts).length:Nat):Int)<=_
   rw [show (zrF w c j).k=j from rfl] at this
   simp
   omega
  ·show cnt k (-1::(j:Int)::acts)=_
   simp only [cnt]
   rw [h.bag k hk,show (zrF w c j).k=j from rfl,zfT hj,if_neg (by omega)]
   by_cases e:j=k
   ·rw [if_pos (by omega),if_pos e];omega
   ·rw [if_neg (by omega),if_neg e];omega
  ·show zeI w ⟨p,c⟩ (-1::(j:Int)::acts)=_
   simp only [zeI]
   rw [if_neg (by omega),zu6 w p c h5]
   simp only []
   rw [if_pos (by omega),ztc]
   rw [show (⟨(zmq w 0 (c-1) j).p,(zmq w 0 (c-1) j).c⟩:Stand)=⟨(zrF w c j).p,(zrF w c j).c⟩ from rfl,h.buys]
   show 0+((turn w 0 (coin w j)).2+q)=(turn w 0 (coin w j)).2+q
   omega
theorem zu7 {w:Wheel} {T:Nat} {p c:Int} {l:List Int} (b:Bool) (h0:total l≠0):∃o,o∈zpA w p c l l.length 0/\o.plays+Q b w T o.p o.c (zc3 l o.k)=Q b w (T+1) p c l:=by
 obtain ⟨j,h1,h2,h3⟩:=zta (w:=w) (p:=p) (c:=c) h0
 have e:((zpA w p c l l.length 0).map fun o=>o.plays+Q b w T o.p o.c (zc3 l o.k))≠[]:=by
  intro e
  rw [List.map_eq_nil_iff] at e
  rw [e] at h3
  simp at h3
 obtain ⟨a1,_⟩:=zit b e
 obtain ⟨o,ho,he⟩:=List.mem_map.1 a1
 exact ⟨o,ho,he⟩
theorem zBC {w:Wheel} {T:Nat} {p c:Int} {l:List Int} (b:Bool) {o:Opn} (ho:o∈zpA w p c l l.length 0):leB b (o.plays+Q b w T o.p o.c (zc3 l o.k)) (Q b w (T+1) p c l):=by
 have hm:=List.mem_map_of_mem (f:=fun o:Opn=>o.plays+Q b w T o.p o.c (zc3 l o.k)) ho
 have e:((zpA w p c l l.length 0).map fun o=>o.plays+Q b w T o.p o.c (zc3 l o.k))≠[]:=by
  intro e
  rw [e] at hm
  simp at hm
 exact (zit b e).2 _ hm
theorem zzn (b:Bool) {w:Wheel} (h:OkW w):∀(T:Nat) {p c:Int} {l:List Int},(T:Int)=total l->OkP w l->0<=p->p<w.Round->0<=c->∃acts,Way w ⟨p,c⟩ l acts (Q b w T p c l)
 | 0,p,c,l,hT,hl,_,_,_=>⟨[],rfl,by simp;omega,fun k hk=>by rw [zmQ hl.nn (by omega) k];rfl,rfl⟩
 | T+1,p,c,l,hT,hl,hp,hp',hc=>by
  obtain ⟨o,ho,he⟩:=zu7 (w:=w) (T:=T) (p:=p) (c:=c) b (show total l≠0 by omega)
  have ok:=zs9 h hp hp' hc hl ho
  obtain ⟨acts,hw⟩:=zzn b h T (p:=o.p) (c:=o.c) (l:=zc3 l o.k) (by rw [zfe (by rw [hl.len];exact ok.k)];omega) (hl.less ok.k ok.nz) ok.p0 ok.p1 ok.c0
  exact ⟨o.acts++acts,he▸hw.step hl hc ho⟩
theorem zoA (k:Int):∀l:List Int,0<=cnt k l/\cnt k l<=l.length
 | []=>by simp [cnt]
 | a::l=>by
  have:=zoA k l
  simp only [cnt,List.length_cons]
  split<;>omega
theorem ztd (b:Bool) {w:Wheel} (h:OkW w):∀(T:Nat) {p c c':Int} {l:List Int},(T:Int)=total l->OkP w l->0<=p->p<w.Round->0<=c->c<=c'->leB b (Q b w T p c l) (Q b w T p c' l)
 | 0,p,c,c',l,_,_,_,_,_,_=>leB.refl b _
 | T+1,p,c,c',l,hT,hl,hp,hp',hc,hcc=>by
  obtain ⟨o,ho,he⟩:=zu7 (w:=w) (T:=T) (p:=p) (c:=c) b (show total l≠0 by omega)
  have ok:=zs9 h hp hp' hc hl ho
  have hT':(T:Int)=total (zc3 l o.k):=by rw [zfe (by rw [hl.len];exact ok.k)];omega
  obtain ⟨j,h1,h2,h3,h4⟩:=zfz.1 ho
  rw [←he]
  rcases zge.1 h4 with rfl | ⟨h5,h6,rfl⟩
  ·have ih:=ztd b h T (p:=(zmq w p c j).p) (c:=(zmq w p c j).c) (c':=(zmq w p c' j).c) hT' (hl.less ok.k ok.nz) ok.p0 ok.p1 ok.c0 (by show c+_<=c'+_;omega)
   exact (ih.add _).trans (zBC (T:=T) (p:=p) (c:=c') b (o:=zmq w p c' j) (zfz.2 ⟨j,h1,h2,h3,zge.2 (.inl rfl)⟩))
  ·have ih:=ztd b h T (p:=(zrF w c j).p) (c:=(zrF w c j).c) (c':=(zrF w c' j).c) hT' (hl.less ok.k ok.nz) ok.p0 ok.p1 ok.c0 (by show c-1+_<=c'-1+_;omega)
   exact (ih.add _).trans (zBC (T:=T) (p:=p) (c:=c') b (o:=zrF w c' j) (zfz.2 ⟨j,h1,h2,h3,zge.2 (.inr ⟨by omega,h6,rfl⟩)⟩))
theorem zBD (b:Bool) {w:Wheel} (h:OkW w) {T:Nat} {p c:Int} {l:List Int} (hT:(T:Int)=total l) (hl:OkP w l) (hp:0<=p) (hp':p<w.Round) (hc:0<c):leB b (Q b w T 0 (c-1) l) (Q b w T p c l):=by
 have hr:=h.r1
 cases T with
 | zero=>exact leB.refl b _
 | succ T =>
  by_cases e:p=0
  ·subst e
   exact ztd b h (T+1) hT hl (by omega) (by omega) (by omega) (by omega)
  ·rw [zvN b w T p c l (by omega) e (by omega)]
   exact (zqw b _ _).2.1
theorem zvP {w:Wheel} {l:List Int} (hl:OkP w l) (h:∀k:Nat,k<w.Coins.length->(0:Int)=l.getD k 0):total l=0:=by
 by_cases e:total l=0
 ·exact e
 ·obtain ⟨j,h1,h2⟩:=zlY e
  exact (h2 (h j (by rw [←hl.len];exact h1)).symm).elim
theorem zoB (b:Bool) {w:Wheel} (h:OkW w):∀(acts:List Int) {p c:Int} {l:List Int},acts.all (zff w)=true->(∀k:Nat,k<w.Coins.length->cnt k acts=l.getD k 0)->OkP w l->0<=p->p<w.Round->0<=c->leB b (zeI w ⟨p,c⟩ acts) (Q b w (total l).toNat p c l)
 | [],p,c,l,_,hk,hl,_,_,_=>by
  rw [zvP hl hk]
  exact leB.refl b 0
 | a::acts,p,c,l,hok,hk,hl,hp,hp',hc=>by
  have hr:=h.r1
  simp only [List.all_cons,Bool.and_eq_true] at hok
  have ha:=zcf.1 hok.1
  by_cases h0:0<=a
  ·obtain ⟨k,rfl⟩:∃k:Nat,a=k:=⟨a.toNat,by omega⟩
   have hkl:k<w.Coins.length:=by omega
   have hkl':k<l.length:=by rw [hl.len];exact hkl
   have hnz:l.getD k 0≠0:=by
    have e:=hk k hkl
    simp only [cnt] at e
    have:=zoA (k:Int) acts
    rw [if_pos trivial] at e
    omega
   have hco:=zdW h (a:=(k:Int)) (by omega) (by omega)
   have ht:=zdu h hp hp' (show 0<=coin w k by omega)
   have hlt:=zfe hkl'
   have hnn:=ze5 (hl.less hkl hnz).nn
   have ih:=zoB b h acts (p:=(zmq w p c k).p) (c:=(zmq w p c k).c) (l:=zc3 l k) hok.2 (fun j hj=>by
    have e:=hk j hj
    simp only [cnt] at e
    rw [zfT hkl']
    by_cases q:k=j
    ·rw [if_pos (by omega)] at e;rw [if_pos q];omega
    ·rw [if_neg (by omega)] at e;rw [if_neg q];omega) (hl.less hkl hnz) ht.1.1 ht.1.2 (by show 0<=c+_;omega)
   simp only [zeI]
   rw [if_pos h0,ztc]
   have eT:(total l).toNat=(total (zc3 l k)).toNat+1:=by omega
   rw [eT]
   exact (ih.add _).trans (zBC b (o:=zmq w p c k) (zfz.2 ⟨k,by omega,by omega,hnz,zge.2 (.inl rfl)⟩))
  ·have ea:a=-1:=by omega
   subst ea
   have hk':∀k:Nat,k<w.Coins.length->cnt k acts=l.getD k 0:=fun k hkl=>by
    have e:=hk k hkl
    simp only [cnt] at e
    rw [if_neg (by omega)] at e
    omega
   simp only [zeI]
   rw [if_neg h0,Int.zero_add]
   by_cases hc0:c=0
   ·have e:(zh3 w ⟨p,c⟩ (-1)).1=⟨p,c⟩:=by
     unfold zh3
     rw [if_neg h0,if_pos hc0]
    rw [e]
    exact zoB b h acts hok.2 hk' hl hp hp' hc
   ·rw [zu6 w p c hc0]
    have hnn:=ze5 hl.nn
    exact (zoB b h acts hok.2 hk' hl (by omega) (by omega) (by omega)).trans (zBD b h (by omega) hl hp hp' (by omega))
def zrN (w:Wheel) (l:List Int):Nat->Nat->Int
 | 0,_=>0
 | d+1,k=>coin w k*l.getD k 0+zrN w l d (k+1)
def zcN (w:Wheel) (l:List Int):Int:=zrN w l w.Coins.length 0
theorem zvQ {w:Wheel} (h:OkW w) {l:List Int} (hl:∀k,0<=l.getD k 0/\l.getD k 0<=1000) {k:Nat} (hk:k<w.Coins.length):0<=coin w k*l.getD k 0/\coin w k*l.getD k 0<=100000:=by
 have hco:=zdW h (a:=(k:Int)) (by omega) (by omega)
 have:=hl k
 refine ⟨Int.mul_nonneg (by omega) (by omega),?_⟩
 have h1:coin w k*l.getD k 0<=100*l.getD k 0:=Int.mul_le_mul_of_nonneg_right hco.2 (by omega)
 omega
theorem zmR {w:Wheel} (h:OkW w) {l:List Int} (hl:∀k,0<=l.getD k 0/\l.getD k 0<=1000):∀(d k:Nat),k+d<=w.Coins.length->0<=zrN w l d k/\zrN w l d k<=100000*d
 | 0,k,_=>by simp [zrN]
 | d+1,k,hk=>by
  have:=zmR h hl d (k+1) (by omega)
  have:=zvQ h hl (show k<w.Coins.length by omega)
  simp only [zrN]
  omega
theorem zgI {n:Nat} {w:Wheel} (h:OkW w) (hn:100<=n) {l:List Int} (hlen:l.length=w.Coins.length) (hl:∀k,0<=l.getD k 0/\l.getD k 0<=1000):zcw n w l=some (zcN w l):=by
 have h4:=h.clen
 have key:∀(d i m:Nat) (s:Int),d=w.Coins.length-i->i<=w.Coins.length->d<m->0<=s->s+100000*d<=1000000->zbD w l m s (i:Int)=some (s+zrN w l d i):=by
  intro d
  induction d with
  | zero =>
   intro i m s hd hi hm hs hs2
   obtain ⟨m,rfl⟩:∃q,m=q+1:=⟨m-1,by omega⟩
   simp only [zbD,zcW,zdG,zrN]
   rw [if_neg (by simp;omega),Int.add_zero]
  | succ d ih =>
   intro i m s hd hi hm hs hs2
   obtain ⟨m,rfl⟩:∃q,m=q+1:=⟨m-1,by omega⟩
   have ht:=zvQ h hl (show i<w.Coins.length by omega)
   have ei:l[i]'(by omega)=l.getD i 0:=by simp [show i<l.length by omega]
   simp only [zbD,zcW,zrN]
   rw [if_pos (by simp;omega),zb2 (by omega),zaa,zkZ (by omega) (by omega),zaa,ei,Int.mul_comm,zaI (x:=coin w i*_) (by omega) (by omega),zaI (x:=s+_) (by omega) (by omega),zaI (x:=(i:Int)+1) (by omega) (by omega)]
   have:=ih (i+1) m (s+coin w i*l.getD i 0) (by omega) (by omega) (by omega) (by omega) (by omega)
   rw [show (((i+1:Nat)):Int)=(i:Int)+1 by simp] at this
   rw [this]
   congr 1
   omega
 have:=key w.Coins.length 0 n 0 (by omega) (by omega) (by omega) (by omega) (by omega)
 rw [Int.zero_add] at this
 exact this
def down:Nat->List Int
 | 0=>[0]
 | n+1=>((n+1:Nat):Int)::down n
def upF:Nat->Nat->List Int
 | _,0=>[]
 | i,d+1=>(i:Int)::upF (i+1) d
def za0:List Int->List (List Int)
 | []=>[[]]
 | x::l=>(upF 0 (x.toNat+1)).flatMap fun v=>(za0 l).map (v::·)
theorem zl1 {v:Int}:∀{d i:Nat},v∈upF i d↔(i:Int)<=v/\v<i+d
 | 0,i=>by simp [upF]<;>omega
 | d+1,i=>by
  simp only [upF,List.mem_cons,zl1]
  omega
theorem zl2:∀(d i:Nat),(upF i d).length=d
 | 0,i=>rfl
 | d+1,i=>by simp [upF,zl2 d (i+1)]
def Part (t l:List Int):Prop:=t.length=l.length/\∀k,0<=t.getD k 0/\t.getD k 0<=l.getD k 0
theorem zhB {v x:Int} {t l:List Int}:Part (v::t) (x::l)↔(0<=v/\v<=x)/\Part t l:=by
 unfold Part
 constructor
 ·rintro ⟨h1,h2⟩
  exact ⟨by simpa using h2 0,by simpa using h1,fun k=>by simpa using h2 (k+1)⟩
 ·rintro ⟨h1,h2,h3⟩
  refine ⟨by simp [h2],fun k=>?_⟩
  cases k with
  | zero=>simpa using h1
  | succ k=>simpa using h3 k
theorem zjY:∀{l t:List Int},(∀x,x∈l->0<=x)->(t∈za0 l↔Part t l)
 | [],t,_=>by
  simp only [za0,List.mem_singleton]
  constructor
  ·rintro rfl;exact ⟨rfl,fun k=>by simp⟩
  ·exact fun h=>List.eq_nil_of_length_eq_zero h.1
 | x::l,t,h=>by
  have hx:=h x (by simp)
  have ih:=fun t=>zjY (l:=l) (t:=t) (fun y hy=>h y (by simp [hy]))
  simp only [za0,List.mem_flatMap,List.mem_map,ih,zl1]
  constructor
  ·rintro ⟨v,hv,t',ht,rfl⟩
   exact zhB.2 ⟨by omega,ht⟩
  ·intro hp
   cases t with
   | nil=>exact absurd hp.1 (by simp)
   | cons v t =>
    obtain ⟨h1,h2⟩:=zhB.1 hp
    exact ⟨v,by omega,t,h2,rfl⟩
theorem zjk {α β:Type} {f:α->List β} {c:Nat}:∀{l:List α},(∀x,x∈l->(f x).length=c)->(l.flatMap f).length=l.length*c
 | [],_=>by simp
 | x::l,h=>by
  rw [List.flatMap_cons,List.length_append,h x (by simp),zjk (l:=l) (fun y hy=>h y (by simp [hy])),List.length_cons,Nat.succ_mul]
  omega
theorem zjZ:∀{l:List Int},(∀x,x∈l->x<=6)->(za0 l).length<=7 ^ l.length
 | [],_=>by simp [za0]
 | x::l,h=>by
  have ih:=zjZ (l:=l) (fun y hy=>h y (by simp [hy]))
  have hx:=h x (by simp)
  simp only [za0,List.length_cons]
  rw [zjk (c:=(za0 l).length) (fun v _=>by simp),zl2,Nat.pow_succ,Nat.mul_comm]
  exact Nat.mul_le_mul ih (by omega)
theorem znC (pre:List Int) (y:Int) (rest:List Int):(pre++y::rest).getD pre.length 0=y:=by
 simp
theorem zte:∀(rest pre f:List Int) (n:Nat),f.length=pre.length->pre.length+rest.length<=4->(∀x,x∈rest->0<=x/\x<=6)->100+rest.length<=n->zcK n (pre++rest) f=some ((za0 rest).map (f++·)):=by
 intro rest
 induction rest with
 | nil =>
  intro pre f n hf hlen hx hn
  obtain ⟨n,rfl⟩:∃q,n=q+1:=⟨n-1,by omega⟩
  simp only [zcK,zgF,za0]
  rw [if_pos (by simp [hf])]
  simp
 | cons x rest ih =>
  intro pre f n hf hlen hx hn
  obtain ⟨n,rfl⟩:∃q,n=q+1:=⟨n-1,by omega⟩
  simp only [List.length_cons] at hlen hn
  have hxr:=hx x (by simp)
  have hsl:=zjZ (l:=rest) (fun y hy=>(hx y (by simp [hy])).2)
  have hpow:7 ^ rest.length<=7 ^ 3:=Nat.pow_le_pow_right (by omega) (by omega)
  simp only [zcK,zgF]
  rw [if_neg (by simp;omega)]
  have loop:∀(d i m:Nat) (out:List (List Int)),(d:Int)=x+1-i->(i:Int)<=x+1->d+1<=m->out.length+d*343<=100000 ->
    zc8 (zcK n) (pre++x::rest) f m out (i:Int)=some (out++(((upF i d).flatMap fun v=>(za0 rest).map (v::·)).map (f++·))):=by
   intro d
   induction d with
   | zero =>
    intro i m out hd hi hm ho
    obtain ⟨m,rfl⟩:∃q,m=q+1:=⟨m-1,by omega⟩
    simp only [zc8,zeX,zf2,upF]
    rw [hf,zgX,zaa,if_neg (by simp;omega)]
    simp
   | succ d ihd =>
    intro i m out hd hi hm ho
    obtain ⟨m,rfl⟩:∃q,m=q+1:=⟨m-1,by omega⟩
    have e:pre++x::rest=(pre++[x])++rest:=by simp
    have hrec:=ih (pre++[x]) (f++[(i:Int)]) n (by simp [hf]) (by simp;omega) (fun z hz=>hx z (by simp [hz])) (by omega)
    rw [←e] at hrec
    simp only [zc8,zeX,upF]
    rw [hf,zgX,zaa,if_pos (by simp;omega),zko (by omega),zaa,zgp (by simp;omega),zaa,hrec,zaa,zgp (by simp;omega),zaa,zaI (x:=(i:Int)+1) (by omega) (by omega)]
    have:=ihd (i+1) m (out++(za0 rest).map (f++[(i:Int)]++·)) (by omega) (by omega) (by omega) (by simp;omega)
    rw [show (((i+1:Nat)):Int)=(i:Int)+1 by simp] at this
    rw [this,List.flatMap_cons,List.map_append,List.map_map,List.append_assoc]
    congr 3
    apply List.map_congr_left
    intro t _
    simp
  have:=loop (x.toNat+1) 0 n [] (by omega) (by omega) (by omega) (by simp;omega)
  rw [za0]
  exact this
def zu8 (w:Wheel) (t:List Int):List Int:=t.take w.Coins.length
structure OkT (w:Wheel) (t:List Int):Prop where
 len:t.length=4
 rng:∀k,0<=t.getD k 0/\t.getD k 0<=1000
 out:∀k,w.Coins.length<=k->t.getD k 0=0
 tot:total (zu8 w t)<=1000
theorem zoC {w:Wheel} {t:List Int} (h:OkT w t) (k:Nat):(zu8 w t).getD k 0=t.getD k 0:=by
 unfold zu8
 rw [List.getD_eq_getElem?_getD,List.getElem?_take]
 split
 ·rfl
 ·rw [h.out k (by omega)]
  rfl
theorem OkT.purse {w:Wheel} (hw:OkW w) {t:List Int} (h:OkT w t):OkP w (zu8 w t):=by
 have h4:=hw.clen
 have hl:=h.len
 refine ⟨by simp [zu8];omega,fun x hx=>?_,h.tot⟩
 obtain ⟨i,hi,rfl⟩:=List.getElem_of_mem hx
 have e:(zu8 w t)[i]=(zu8 w t).getD i 0:=by simp [hi]
 rw [e,zoC h]
 exact (h.rng i).1
theorem OkT.bag {w:Wheel} {t:List Int} (h:OkT w t):zb8 t=zb8 (zu8 w t):=by
 simp only [zb8,zoC h]
theorem ztf {t l:List Int} (h:Part t l):∀x,x∈t->0<=x:=fun x hx=>by
 obtain ⟨i,hi,rfl⟩:=List.getElem_of_mem hx
 have:=(h.2 i).1
 simpa [hi] using this
def zhm (w:Wheel):Stand->List Int->Stand
 | s,[]=>s
 | s,a::l=>zhm w (zh3 w s a).1 l
theorem zdJ (w:Wheel):∀(a b:List Int) (s:Stand),zhm w s (a++b)=zhm w (zhm w s a) b
 | [],b,s=>rfl
 | x::a,b,s=>zdJ w a b _
theorem zer (w:Wheel):∀(a b:List Int) (s:Stand),zeI w s (a++b)=zeI w s a+zeI w (zhm w s a) b
 | [],b,s=>by simp [zeI,zhm]
 | x::a,b,s=>by
  simp only [List.cons_append,zeI,zhm]
  rw [zer w a b]
  omega
theorem zpB {w:Wheel} (h:OkW w):∀(acts:List Int) (s:Stand) (b:Int),OkS w s b->acts.all (zff w)=true->OkS w (zhm w s acts) (b+100*acts.length)
 | [],s,b,hs,_=>by simpa [zhm] using hs
 | a::l,s,b,hs,ha=>by
  rw [List.all_cons,Bool.and_eq_true] at ha
  have:=zpB h l _ _ (zs6 h hs ha.1) ha.2
  simp only [zhm,List.length_cons]
  rwa [show b+100*((l.length+1:Nat):Int)=b+100+100*(l.length:Int) by omega]
def Can (w:Wheel) (al:List Int) (v:Int):Prop:=∃acts:List Int,acts.all (zff w)=true/\(∀k:Nat,k<w.Coins.length->cnt k acts=al.getD k 0)/\zeI w ⟨0,0⟩ acts=v
structure Pn where
 p:Int
 c:Int
 l:List Int
 b:Int
def zl (w:Wheel):List Int:=List.replicate w.Coins.length 0
def zfg (l:List Int) (k:Nat):List Int:=l.set k (l.getD k 0+1)
def znD (cl:Int->Int->Int) (x:Pn):Pn:=⟨0,cl (total x.l) (x.c-1),x.l,x.b⟩
def znE (cl:Int->Int->Int) (w:Wheel) (x:Pn) (k:Nat):Pn:=⟨(turn w x.p (coin w k)).1,cl (total x.l+1) (x.c+(turn w x.p (coin w k)).2),zfg x.l k,x.b+(turn w x.p (coin w k)).2⟩
def zkr (w:Wheel):Pn:=⟨0,0,zl w,0⟩
inductive RP (cl:Int->Int->Int) (w:Wheel) (al:List Int):List Int->Pn->Prop
 | zero:RP cl w al [] (zkr w)
 | sel {acts:List Int} {x:Pn} (h:RP cl w al acts x) (hc:0<x.c) (hp:0<x.p):RP cl w al (acts++[-1]) (znD cl x)
 | coin {acts:List Int} {x:Pn} {k:Nat} (h:RP cl w al acts x) (hk:k<w.Coins.length) (hl:x.l.getD k 0≠al.getD k 0):RP cl w al (acts++[(k:Int)]) (znE cl w x k)
theorem zj0:∀n:Nat,total (List.replicate n 0)=0
 | 0=>rfl
 | n+1=>by rw [List.replicate_succ,total,zj0 n];rfl
theorem zjl (w:Wheel) (k:Nat):(zl w).getD k 0=0:=by
 unfold zl
 rw [List.getD_eq_getElem?_getD,List.getElem?_replicate]
 split<;>rfl
theorem zl3 (l:List Int) (k:Nat):(zfg l k).length=l.length:=by simp [zfg]
theorem zeF {l:List Int} {k j:Nat} (hk:k<l.length):(zfg l k).getD j 0=l.getD j 0+(if k=j then 1 else 0):=by
 unfold zfg
 by_cases e:k=j
 ·subst e
  rw [if_pos rfl,List.getD_eq_getElem?_getD,List.getElem?_set_self hk]
  rfl
 ·rw [if_neg e,List.getD_eq_getElem?_getD,List.getElem?_set_ne e,←List.getD_eq_getElem?_getD]
  omega
theorem zfU {l:List Int} {k:Nat} (h:k<l.length):total (zfg l k)=total l+1:=by
 unfold zfg
 rw [zlW h]
 omega
theorem zg0:∀{l m:List Int},l.length=m.length->(∀k,l.getD k 0<=m.getD k 0)->total l<=total m
 | [],[],_,_=>Int.le_refl _
 | [],_::_,h,_=>by simp at h
 | _::_,[],h,_=>by simp at h
 | x::l,y::m,h,hk=>by
  have h0:=hk 0
  have:=zg0 (l:=l) (m:=m) (by simpa using h) (fun k=>by simpa using hk (k+1))
  simp only [total]
  simp at h0
  omega
theorem zl4 {l m:List Int} (h:l.length=m.length) (hk:∀k,l.getD k 0<=m.getD k 0) {k:Nat} (hlt:l.getD k 0<m.getD k 0):total l<total m:=by
 have hkl:k<l.length:=by
  rcases Nat.lt_or_ge k l.length with h1 | h1
  ·exact h1
  ·rw [List.getD_eq_getElem?_getD,List.getD_eq_getElem?_getD,List.getElem?_eq_none h1,List.getElem?_eq_none (by omega)] at hlt
   simp at hlt
 have h1:=zg0 (l:=zfg l k) (m:=m) (by rw [zl3];exact h) fun j=>by
  rw [zeF hkl]
  have:=hk j
  split
  ·rename_i e
   subst e
   omega
  ·omega
 rw [zfU hkl] at h1
 omega
structure Clamp (cl:Int->Int->Int) (T:Int):Prop where
 le:∀t c,cl t c<=c
 nn:∀t c,t<=T->0<=c->0<=cl t c
structure OkX (w:Wheel) (al:List Int) (acts:List Int) (x:Pn):Prop where
 p0:0<=x.p
 p1:x.p<w.Round
 c0:0<=x.c
 cb:x.c<=x.b
 bt:x.b<=100*total x.l
 len:x.l.length=w.Coins.length
 nn:∀k,0<=x.l.getD k 0
 le:∀k,x.l.getD k 0<=al.getD k 0
 ok:acts.all (zff w)=true
 bag:∀k:Nat,cnt k acts=x.l.getD k 0
 buys:zeI w ⟨0,0⟩ acts=x.b
 pl:(zhm w ⟨0,0⟩ acts).Place=x.p
 cr:x.c<=(zhm w ⟨0,0⟩ acts).Credit
theorem zeG (k:Nat) (a:Int):cnt k [a]=if a=(k:Int) then 1 else 0:=by simp [cnt]
theorem RP.ok {cl:Int->Int->Int} {w:Wheel} {al:List Int} (h:OkW w) (hl:al.length=w.Coins.length) (hnn:∀k,0<=al.getD k 0) (hcl:Clamp cl (total al)) {acts:List Int} {x:Pn} (hr:RP cl w al acts x):OkX w al acts x:=by
 have hr1:=h.r1
 induction hr with
 | zero=>exact ⟨Int.le_refl _,by show (0:Int)<w.Round;omega,Int.le_refl _,Int.le_refl _,by show (0:Int)<=100*total (zl w);rw [show total (zl w)=0 from zj0 _];omega,by simp [zkr,zl],fun k=>by show 0<=(zl w).getD k 0;rw [zjl];omega,fun k=>by show (zl w).getD k 0<=_;rw [zjl];exact hnn k,rfl,fun k=>by show _=(zl w).getD k 0;rw [zjl];rfl,rfl,rfl,Int.le_refl _⟩
 | @sel acts x hr hc hp ih =>
  have ht:total x.l<=total al:=zg0 (by rw [ih.len,hl]) ih.le
  have hcr:=ih.cr
  have he:zh3 w (zhm w ⟨0,0⟩ acts) (-1)=(⟨0,(zhm w ⟨0,0⟩ acts).Credit-1⟩,true):=by
   unfold zh3
   rw [if_neg (by omega),if_neg (by omega)]
  have hle:=hcl.le (total x.l) (x.c-1)
  have hcb:=ih.cb
  refine ⟨Int.le_refl _,by show (0:Int)<w.Round;omega,hcl.nn _ _ ht (by omega),by show cl _ _<=x.b;omega,ih.bt,ih.len,ih.nn,ih.le,?_,fun k=>?_,?_,?_,?_⟩
  ·rw [List.all_append,ih.ok]
   simp [zl0]
  ·rw [zdX,ih.bag,zeG,if_neg (by omega)]
   exact Int.add_zero _
  ·rw [zer,ih.buys]
   simp [zeI,znD]
  ·rw [zdJ]
   simp only [zhm,he]
   rfl
  ·rw [zdJ]
   simp only [zhm,he]
   show cl _ _<=_
   omega
 | @coin acts x k hr hk hne ih =>
  have hkl:k<x.l.length:=by rw [ih.len];exact hk
  have hlt:x.l.getD k 0<al.getD k 0:=by have:=ih.le k;omega
  have ht:total x.l<total al:=zl4 (by rw [ih.len,hl]) ih.le hlt
  have hcoin:=zdW h (a:=(k:Int)) (by omega) (by omega)
  have htr:=zdu h ih.p0 ih.p1 (show 0<=Go.Law.coin w k by omega)
  have hcb:=ih.cb
  have hbt:=ih.bt
  have hc0:=ih.c0
  have hcr:=ih.cr
  have he:(zh3 w (zhm w ⟨0,0⟩ acts) (k:Int)).1=⟨(turn w x.p (Go.Law.coin w k)).1,(zhm w ⟨0,0⟩ acts).Credit+(turn w x.p (Go.Law.coin w k)).2⟩:=by
   unfold zh3
   rw [if_pos (by omega),ih.pl]
  have hle:=hcl.le (total x.l+1) (x.c+(turn w x.p (Go.Law.coin w k)).2)
  refine ⟨htr.1.1,htr.1.2,hcl.nn _ _ (by omega) (by omega),?_,?_,?_,fun j=>?_,fun j=>?_,?_,fun j=>?_,?_,?_,?_⟩
  ·show cl _ _<=x.b+_
   omega
  ·show x.b+_<=100*total (zfg x.l k)
   rw [zfU hkl]
   omega
  ·show (zfg x.l k).length=_
   rw [zl3,ih.len]
  ·show 0<=(zfg x.l k).getD j 0
   rw [zeF hkl]
   have:=ih.nn j
   split<;>omega
  ·show (zfg x.l k).getD j 0<=_
   rw [zeF hkl]
   have:=ih.le j
   split
   ·rename_i e
    subst e
    omega
   ·omega
  ·rw [List.all_append,ih.ok]
   simp [zlZ hk]
  ·show _=(zfg x.l k).getD j 0
   rw [zdX,ih.bag,zeG,zeF hkl]
   congr 1
   by_cases e:k=j
   ·subst e;simp
   ·rw [if_neg e,if_neg (by omega)]
  ·rw [zer,ih.buys]
   simp only [zeI,ih.pl]
   rw [if_pos (by omega)]
   show x.b+(_+0)=x.b+_
   omega
  ·rw [zdJ]
   simp only [zhm,he]
   rfl
  ·rw [zdJ]
   simp only [zhm,he]
   show cl _ _<=_
   omega
theorem zfA {al:List Int} (h:∀k,0<=al.getD k 0):∀x,x∈al->0<=x:=fun x hx=>by
 obtain ⟨k,hk⟩:=List.getElem?_of_mem hx
 have:=h k
 rwa [List.getD_eq_getElem?_getD,hk] at this
theorem zl5 (l:List Int):l=[]\/∃q a,l=q++[a]:=zji l
def clT (T:Int):Int->Int->Int:=fun t c=>min c (T-t)
def clI:Int->Int->Int:=fun _ c=>c
theorem zks (T:Int):Clamp (clT T) T:=⟨fun t c=>by unfold clT;omega,fun t c h1 h2=>by unfold clT;omega⟩
theorem zpC (T:Int):Clamp clI T:=⟨fun t c=>Int.le_refl _,fun t c h1 h2=>h2⟩
theorem zl6 {w:Wheel} {a:Int} (h:zff w a=true):a=-1\/∃k:Nat,k<w.Coins.length/\a=k:=by
 have h:=zcf.1 h
 by_cases h0:0<=a
 ·exact .inr ⟨a.toNat,by omega,by omega⟩
 ·exact .inl (by omega)
theorem cnt_mono {k:Nat} {l:List Int} {a:Int}:cnt k l<=cnt k (l++[a]):=by
 rw [zdX,zeG]
 split<;>omega
theorem ztg {w:Wheel} {al:List Int} (h:OkW w) (hl:al.length=w.Coins.length) (hnn:∀k,0<=al.getD k 0):∀(n:Nat) (acts:List Int),acts.length=n->acts.all (zff w)=true->(∀k:Nat,k<w.Coins.length->cnt k acts<=al.getD k 0) ->
  ∃acts' x,RP (clT (total al)) w al acts' x/\x.b=zeI w ⟨0,0⟩ acts/\(∀k:Nat,k<w.Coins.length->x.l.getD k 0=cnt k acts)/\(total x.l<total al->x.p=(zhm w ⟨0,0⟩ acts).Place/\min (zhm w ⟨0,0⟩ acts).Credit (if x.p=0 then total al-total x.l-1 else total al-total x.l)<=x.c)
 | 0,acts,hlen,_,_=>by
  obtain rfl:=List.eq_nil_of_length_eq_zero hlen
  refine ⟨[],zkr w,.zero,rfl,fun k _=>zjl w k,fun ht=>⟨rfl,?_⟩⟩
  show min (0:Int) _<=0
  omega
 | n+1,acts,hlen,hok,hbag=>by
  rcases zl5 acts with rfl | ⟨l,a,rfl⟩
  ·simp at hlen
  rw [List.all_append,Bool.and_eq_true] at hok
  have hoa:zff w a=true:=by simpa using hok.2
  obtain ⟨acts',x,hr,hb,hcn,hx⟩:=ztg h hl hnn n l (by simpa using hlen) hok.1 fun k hk=>Int.le_trans cnt_mono (hbag k hk)
  have hX:=hr.ok h hl hnn (zks _)
  have hes:=zpB h l ⟨0,0⟩ 0 ⟨Int.le_refl _,by show (0:Int)<w.Round;have:=h.r1;omega,Int.le_refl _,Int.le_refl _⟩ hok.1
  have hec:=hes.c0
  have hep:=hes.p0
  have htl:total x.l<=total al:=zg0 (by rw [hX.len,hl]) hX.le
  rcases zl6 hoa with rfl | ⟨k,hk,rfl⟩
  ·have hbu:zeI w ⟨0,0⟩ (l++[-1])=zeI w ⟨0,0⟩ l:=by rw [zer];simp [zeI]
   have hcn':∀k:Nat,cnt k (l++[-1])=cnt k l:=fun k=>by
    rw [zdX,zeG,if_neg (by omega)]
    exact Int.add_zero _
   have he:zhm w ⟨0,0⟩ (l++[-1])=if (zhm w ⟨0,0⟩ l).Credit=0 then zhm w ⟨0,0⟩ l else ⟨0,(zhm w ⟨0,0⟩ l).Credit-1⟩:=by
    rw [zdJ]
    simp only [zhm,zh3]
    rw [if_neg (by omega)]
    split<;>rfl
   by_cases ht:total x.l<total al
   ·obtain ⟨hp,hc⟩:=hx ht
    by_cases hz:(zhm w ⟨0,0⟩ l).Credit=0
    ·exact ⟨acts',x,hr,by rw [hbu,hb],fun k hk=>by rw [hcn',hcn k hk],fun _=>by rw [he,if_pos hz];exact ⟨hp,hc⟩⟩
    ·by_cases hp0:x.p=0
     ·refine ⟨acts',x,hr,by rw [hbu,hb],fun k hk=>by rw [hcn',hcn k hk],fun _=>?_⟩
      rw [he,if_neg hz]
      refine ⟨hp0,?_⟩
      rw [if_pos hp0] at hc ⊢
      show min (_-1) _<=_
      omega
     ·rw [if_neg hp0] at hc
      have hp1:=hX.p0
      refine ⟨_,_,hr.sel (by omega) (by omega),by rw [hbu,←hb];rfl,fun k hk=>by rw [hcn',←hcn k hk];rfl,fun _=>?_⟩
      rw [he,if_neg hz]
      refine ⟨rfl,?_⟩
      show min (_-1) (if (0:Int)=0 then _ else _)<=min (x.c-1) (total al-total x.l)
      rw [if_pos rfl]
      show min (_-1) (total al-total x.l-1)<=_
      omega
   ·exact ⟨acts',x,hr,by rw [hbu,hb],fun k hk=>by rw [hcn',hcn k hk],fun ht'=>absurd ht' ht⟩
  ·have hck:cnt k (l++[(k:Int)])=cnt k l+1:=by rw [zdX,zeG,if_pos rfl]
   have hlt:x.l.getD k 0<al.getD k 0:=by
    have:=hbag k hk
    rw [hcn k hk]
    omega
   have ht:total x.l<total al:=zl4 (by rw [hX.len,hl]) hX.le hlt
   obtain ⟨hp,hc⟩:=hx ht
   have hkl:k<x.l.length:=by rw [hX.len];exact hk
   have he:zhm w ⟨0,0⟩ (l++[(k:Int)])=⟨(turn w x.p (coin w k)).1,(zhm w ⟨0,0⟩ l).Credit+(turn w x.p (coin w k)).2⟩:=by
    rw [zdJ]
    simp only [zhm,zh3]
    rw [if_pos (by omega),hp]
   have hcoin:=zdW h (a:=(k:Int)) (by omega) (by omega)
   have htr:=zdu h hX.p0 hX.p1 (show 0<=coin w k by omega)
   have hc0:=hX.c0
   refine ⟨_,_,hr.coin hk (by omega),?_,fun j hj=>?_,fun ht'=>?_⟩
   ·rw [zer]
    simp only [zeI]
    rw [if_pos (by omega),←hb,←hp]
    show x.b+_=x.b+(_+0)
    omega
   ·show (zfg x.l k).getD j 0=_
    rw [zeF hkl,hcn j hj,zdX,zeG]
    congr 1
    by_cases e:k=j
    ·subst e;simp
    ·rw [if_neg e,if_neg (by omega)]
   ·rw [he]
    refine ⟨rfl,?_⟩
    show min (_+_) (if (turn w x.p (coin w k)).1=0 then total al-total (zfg x.l k)-1 else total al-total (zfg x.l k))<=min (x.c+_) (total al-(total x.l+1))
    rw [zfU hkl]
    by_cases h1:x.p=0
    ·rw [if_pos h1] at hc
     split<;>omega
    ·rw [if_neg h1] at hc
     split<;>omega
theorem zth {w:Wheel} {al:List Int} (h:OkW w) (hl:al.length=w.Coins.length) (hnn:∀k,0<=al.getD k 0):∀(n:Nat) (acts:List Int),acts.length=n->acts.all (zff w)=true->(∀k:Nat,k<w.Coins.length->cnt k acts<=al.getD k 0) ->
  ∃acts' x,RP clI w al acts' x/\x.b=zeI w ⟨0,0⟩ acts/\(∀k:Nat,k<w.Coins.length->x.l.getD k 0=cnt k acts)/\x.p=(zhm w ⟨0,0⟩ acts).Place/\(zhm w ⟨0,0⟩ acts).Credit<=x.c
 | 0,acts,hlen,_,_=>by
  obtain rfl:=List.eq_nil_of_length_eq_zero hlen
  exact ⟨[],zkr w,.zero,rfl,fun k _=>zjl w k,rfl,Int.le_refl _⟩
 | n+1,acts,hlen,hok,hbag=>by
  rcases zl5 acts with rfl | ⟨l,a,rfl⟩
  ·simp at hlen
  rw [List.all_append,Bool.and_eq_true] at hok
  have hoa:zff w a=true:=by simpa using hok.2
  obtain ⟨acts',x,hr,hb,hcn,hp,hc⟩:=zth h hl hnn n l (by simpa using hlen) hok.1 fun k hk=>Int.le_trans cnt_mono (hbag k hk)
  have hX:=hr.ok h hl hnn (zpC _)
  have hes:=zpB h l ⟨0,0⟩ 0 ⟨Int.le_refl _,by show (0:Int)<w.Round;have:=h.r1;omega,Int.le_refl _,Int.le_refl _⟩ hok.1
  have hec:=hes.c0
  rcases zl6 hoa with rfl | ⟨k,hk,rfl⟩
  ·have hbu:zeI w ⟨0,0⟩ (l++[-1])=zeI w ⟨0,0⟩ l:=by rw [zer];simp [zeI]
   have hcn':∀k:Nat,cnt k (l++[-1])=cnt k l:=fun k=>by
    rw [zdX,zeG,if_neg (by omega)]
    exact Int.add_zero _
   have he:zhm w ⟨0,0⟩ (l++[-1])=if (zhm w ⟨0,0⟩ l).Credit=0 then zhm w ⟨0,0⟩ l else ⟨0,(zhm w ⟨0,0⟩ l).Credit-1⟩:=by
    rw [zdJ]
    simp only [zhm,zh3]
    rw [if_neg (by omega)]
    split<;>rfl
   by_cases hz:(zhm w ⟨0,0⟩ l).Credit=0
   ·exact ⟨acts',x,hr,by rw [hbu,hb],fun k hk=>by rw [hcn',hcn k hk],by rw [he,if_pos hz];exact hp,by rw [he,if_pos hz];exact hc⟩
   ·by_cases hp0:x.p=0
    ·exact ⟨acts',x,hr,by rw [hbu,hb],fun k hk=>by rw [hcn',hcn k hk],by rw [he,if_neg hz];exact hp0,by rw [he,if_neg hz];show _-1<=_;omega⟩
    ·have hp1:=hX.p0
     exact ⟨_,_,hr.sel (by omega) (by omega),by rw [hbu,←hb];rfl,fun k hk=>by rw [hcn',←hcn k hk];rfl,by rw [he,if_neg hz];rfl,by rw [he,if_neg hz];show _-1<=x.c-1;omega⟩
  ·have hck:cnt k (l++[(k:Int)])=cnt k l+1:=by rw [zdX,zeG,if_pos rfl]
   have hlt:x.l.getD k 0<al.getD k 0:=by
    have:=hbag k hk
    rw [hcn k hk]
    omega
   have hkl:k<x.l.length:=by rw [hX.len];exact hk
   have he:zhm w ⟨0,0⟩ (l++[(k:Int)])=⟨(turn w x.p (coin w k)).1,(zhm w ⟨0,0⟩ l).Credit+(turn w x.p (coin w k)).2⟩:=by
    rw [zdJ]
    simp only [zhm,zh3]
    rw [if_pos (by omega),hp]
   refine ⟨_,_,hr.coin hk (by omega),?_,fun j hj=>?_,by rw [he];rfl,by rw [he];show (zhm w ⟨0,0⟩ l).Credit+(turn w x.p (coin w k)).2<=x.c+(turn w x.p (coin w k)).2;omega⟩
   ·rw [zer]
    simp only [zeI]
    rw [if_pos (by omega),←hb,←hp]
    show x.b+_=x.b+(_+0)
    omega
   ·show (zfg x.l k).getD j 0=_
    rw [zeF hkl,hcn j hj,zdX,zeG]
    congr 1
    by_cases e:k=j
    ·subst e;simp
    ·rw [if_neg e,if_neg (by omega)]
theorem zc4 {l m:List Int} {n:Nat} (h1:l.length=n) (h2:m.length=n) (h:∀k:Nat,k<n->l.getD k 0=m.getD k 0):l=m:=by
 apply List.ext_getElem (by omega)
 intro k a b
 have:=h k (by omega)
 simpa [List.getD_eq_getElem?_getD,a,b] using this
theorem zzo {w:Wheel} {al:List Int} (h:OkW w) (hl:al.length=w.Coins.length) (hnn:∀k,0<=al.getD k 0) {v:Int}:Can w al v↔∃acts x,RP (clT (total al)) w al acts x/\x.l=al/\x.b=v:=by
 constructor
 ·rintro ⟨acts,hok,hbag,hb⟩
  obtain ⟨acts',x,hr,h1,h2,_⟩:=ztg h hl hnn acts.length acts rfl hok fun k hk=>Int.le_of_eq (hbag k hk)
  have hX:=hr.ok h hl hnn (zks _)
  exact ⟨acts',x,hr,zc4 hX.len hl fun k hk=>by rw [h2 k hk,hbag k hk],by rw [h1,hb]⟩
 ·rintro ⟨acts,x,hr,rfl,rfl⟩
  have hX:=hr.ok h hl hnn (zks _)
  exact ⟨acts,hX.ok,fun k _=>hX.bag k,hX.buys⟩
theorem RP.short {w:Wheel} {al:List Int} (h:OkW w) (hl:al.length=w.Coins.length) (hnn:∀k,0<=al.getD k 0) {acts:List Int} {x:Pn} (hr:RP (clT (total al)) w al acts x) :
  x.c<=total al-total x.l/\((acts.length:Int)<=2*total x.l\/x.p=0/\total x.l<total al/\(acts.length:Int)<=2*total x.l+1):=by
 induction hr with
 | zero =>
  have h0:total (zl w)=0:=zj0 _
  have h1:0<=total al:=ze5 (zfA hnn)
  refine ⟨?_,.inl ?_⟩
  ·show (0:Int)<=total al-total (zl w)
   omega
  ·show ((0:Nat):Int)<=2*total (zl w)
   omega
 | @sel acts x hr hc hp ih =>
  refine ⟨?_,.inr ⟨rfl,?_,?_⟩⟩
  ·show min (x.c-1) (total al-total x.l)<=total al-total x.l
   omega
  ·show total x.l<total al
   omega
  ·show ((acts++[-1]).length:Int)<=2*total x.l+1
   rw [List.length_append,List.length_singleton]
   rcases ih.2 with h1 | ⟨h1,_⟩
   ·omega
   ·omega
 | @coin acts x k hr hk hne ih =>
  have hX:=hr.ok h hl hnn (zks _)
  have hkl:k<x.l.length:=by rw [hX.len];exact hk
  refine ⟨?_,.inl ?_⟩
  ·show min _ (total al-(total x.l+1))<=total al-total (zfg x.l k)
   rw [zfU hkl]
   omega
  ·show ((acts++[(k:Int)]).length:Int)<=2*total (zfg x.l k)
   rw [zfU hkl,List.length_append,List.length_singleton]
   rcases ih.2 with h1 | ⟨_,_,h1⟩<;>omega
def lvl (cl:Int->Int->Int) (w:Wheel):Nat->List Pn
 | 0=>[zkr w]
 | t+1=>(lvl cl w t++(lvl cl w t).map (znD cl)).flatMap fun x=>(List.range w.Coins.length).map fun k=>znE cl w x k
def lvs (cl:Int->Int->Int) (w:Wheel) (t:Nat):List Pn:=lvl cl w t++(lvl cl w t).map (znD cl)
def zus (cl:Int->Int->Int) (w:Wheel):Nat->List Pn
 | 0=>lvs cl w 0
 | t+1=>zus cl w t++lvs cl w (t+1)
theorem zkt {α β:Type} {f:α->List β} {c:Nat}:∀{l:List α},(∀x,x∈l->(f x).length<=c)->(l.flatMap f).length<=l.length*c
 | [],_=>by simp
 | x::l,h=>by
  have h1:=h x (by simp)
  have h2:=zkt (f:=f) (c:=c) (l:=l) fun y hy=>h y (by simp [hy])
  simp only [List.flatMap_cons,List.length_append,List.length_cons,Nat.add_mul,Nat.one_mul]
  omega
theorem zpD (cl:Int->Int->Int) {w:Wheel} (hk:w.Coins.length<=3):∀t,(lvl cl w t).length<=6 ^ t
 | 0=>by simp [lvl]
 | t+1=>by
  have h1:=zpD cl hk t
  unfold lvl
  refine Nat.le_trans (zkt (c:=3) fun x _=>by simp;exact hk) ?_
  rw [List.length_append,List.length_map,Nat.pow_succ]
  omega
theorem zqx (cl:Int->Int->Int) {w:Wheel} (hk:w.Coins.length<=3) {t:Nat} (ht:t<=5):(zus cl w t).length<=93312:=by
 have key:∀t,t<=5->(zus cl w t).length<=(t+1)*15552:=by
  intro t
  induction t with
  | zero =>
   intro _
   have:=zpD cl hk 0
   simp only [zus,lvs,List.length_append,List.length_map]
   omega
  | succ t ih =>
   intro ht
   have h1:=ih (by omega)
   have h2:=zpD cl hk (t+1)
   have h3:6 ^ (t+1)<=6 ^ 5:=Nat.pow_le_pow_right (by omega) ht
   simp only [zus,lvs,List.length_append,List.length_map]
   have:(6:Nat) ^ 5=7776:=by decide
   omega
 have:=key t ht
 omega
theorem RP.level {cl:Int->Int->Int} {w:Wheel} {al:List Int} (h:OkW w) (hl:al.length=w.Coins.length) (hnn:∀k,0<=al.getD k 0) (hcl:Clamp cl (total al)) {acts:List Int} {x:Pn} (hr:RP cl w al acts x):x∈lvl cl w (total x.l).toNat\/x.p=0/\x∈(lvl cl w (total x.l).toNat).map (znD cl):=by
 induction hr with
 | zero =>
  refine .inl ?_
  have:total (zkr w).l=0:=zj0 _
  rw [this]
  simp [lvl]
 | @sel acts x hr hc hp ih =>
  refine .inr ⟨rfl,?_⟩
  show znD cl x∈(lvl cl w (total x.l).toNat).map (znD cl)
  rcases ih with ih | ⟨h0,_⟩
  ·exact List.mem_map.2 ⟨x,ih,rfl⟩
  ·omega
 | @coin acts x k hr hk hne ih =>
  have hX:=hr.ok h hl hnn hcl
  have hkl:k<x.l.length:=by rw [hX.len];exact hk
  have h0:0<=total x.l:=ze5 (zfA hX.nn)
  refine .inl ?_
  have e:(total (znE cl w x k).l).toNat=(total x.l).toNat+1:=by
   show (total (zfg x.l k)).toNat=_
   rw [zfU hkl]
   omega
  rw [e]
  unfold lvl
  refine List.mem_flatMap.2 ⟨x,?_,List.mem_map.2 ⟨k,List.mem_range.2 hk,rfl⟩⟩
  rcases ih with ih | ⟨_,ih⟩
  ·exact List.mem_append_left _ ih
  ·exact List.mem_append_right _ ih
theorem zqy (cl:Int->Int->Int) (w:Wheel):∀{t m:Nat},m<=t->∀x,x∈lvs cl w m->x∈zus cl w t
 | 0,m,h,x,hx=>by
  obtain rfl:m=0:=by omega
  exact hx
 | t+1,m,h,x,hx=>by
  by_cases e:m=t+1
  ·subst e
   exact List.mem_append_right _ hx
  ·exact List.mem_append_left _ (zqy cl w (by omega) x hx)
theorem RP.up {cl:Int->Int->Int} {w:Wheel} {al:List Int} (h:OkW w) (hl:al.length=w.Coins.length) (hnn:∀k,0<=al.getD k 0) (hcl:Clamp cl (total al)) {acts:List Int} {x:Pn} (hr:RP cl w al acts x) {t:Nat} (ht:total x.l<=t):x∈zus cl w t:=by
 refine zqy cl w (m:=(total x.l).toNat) (by omega) x ?_
 rcases hr.level h hl hnn hcl with h1 | ⟨_,h1⟩
 ·exact List.mem_append_left _ h1
 ·exact List.mem_append_right _ h1
theorem ziO {α:Type} [DecidableEq α]:∀{l m:List α},l.Nodup->(∀x,x∈l->x∈m)->l.length<=m.length
 | [],_,_,_=>Nat.zero_le _
 | x::l,m,hn,h=>by
  have hn:=List.nodup_cons.1 hn
  have hx:=h x (by simp)
  have:=ziO (l:=l) (m:=m.erase x) hn.2 fun y hy=>by
   have hne:y≠x:=fun e=>hn.1 (by rw [←e];exact hy)
   exact (List.mem_erase_of_ne hne).2 (h y (by simp [hy]))
  rw [List.length_erase_of_mem hx] at this
  have:=List.length_pos_of_mem hx
  simp only [List.length_cons]
  omega
theorem zti {n:Nat} {l:List Int} (h4:l.length<=4) (hnn:∀k,0<=l.getD k 0/\l.getD k 0<=1000) (hn:10<=n):zdM n (zb8 l)=some (total l):=by
 obtain ⟨m,rfl⟩:∃m,n=m+5:=⟨n-5,by omega⟩
 have h0:=hnn 0
 have h1:=hnn 1
 have h2:=hnn 2
 have h3:=hnn 3
 have ht:=ztb h4
 unfold zdM
 have e:∀(m:Nat) (s k:Int) (j:Nat),k=j->j<4->0<=s->s<=100000->zbn (zb8 l) (m+1) s k=zbn (zb8 l) m (s+l.getD j 0) (k+1):=fun m s k j hk hj hs hs2=>by
  subst hk
  have hb:=hnn j
  simp only [zbn,zcT]
  rw [if_pos (by simp;omega)]
  rw [show idx ([(zb8 l).c0,(zb8 l).c1,(zb8 l).c2,(zb8 l).c3]:List Int) (j:Int)=some (l.getD j 0) from zlX hj,zaa,zaI (by omega) (by omega),zaI (by omega) (by omega)]
 rw [e (m+4) 0 0 0 rfl (by omega) (by omega) (by omega),e (m+3) _ (0+1) 1 rfl (by omega) (by omega) (by omega),e (m+2) _ (0+1+1) 2 rfl (by omega) (by omega) (by omega),e (m+1) _ (0+1+1+1) 3 rfl (by omega) (by omega) (by omega)]
 simp only [zbn,zcT,zdB]
 rw [if_neg (by simp)]
 congr 1
 omega
def pnt (x:Pn):PointT_:=⟨⟨x.p,x.c⟩,zb8 x.l,x.b⟩
theorem zvR {x y:Pn} (h:pnt x=pnt y) (hl:x.l.length=y.l.length) (h4:x.l.length<=4):x=y:=by
 obtain ⟨a,b,c,d⟩:=x
 obtain ⟨a',b',c',d'⟩:=y
 simp only [pnt,PointT_.mk.injEq,Stand.mk.injEq] at h
 obtain ⟨⟨rfl,rfl⟩,h1,rfl⟩:=h
 obtain rfl:=znB h1 hl h4
 rfl
structure Cx (w:Wheel) (al:List Int):Prop where
 v:valid w=true
 hl:al.length=w.Coins.length
 nn:∀k,0<=al.getD k 0
 k3:w.Coins.length<=3
 t5:total al<=5
theorem Cx.h {w:Wheel} {al:List Int} (C:Cx w al):OkW w:=zhd C.v
theorem zoT {w:Wheel} {al acts:List Int} {x:Pn} (C:Cx w al) (hr:RP (clT (total al)) w al acts x):OkX w al acts x/\total x.l<=total al/\(∀k,0<=x.l.getD k 0/\x.l.getD k 0<=5)/\zbK (pnt x)=true:=by
 have hX:=hr.ok C.h C.hl C.nn (zks _)
 have ht:total x.l<=total al:=zg0 (by rw [hX.len,C.hl]) hX.le
 have hk:∀k,0<=x.l.getD k 0/\x.l.getD k 0<=5:=fun k=>by
  have:=zhl (zfA hX.nn) k
  have:=C.t5
  omega
 refine ⟨hX,ht,hk,?_⟩
 have h0:=hk 0
 have h1:=hk 1
 have h2:=hk 2
 have h3:=hk 3
 have h4:=hX.p0
 have h5:=hX.p1
 have h6:=hX.c0
 have h7:=hX.cb
 have h8:=hX.bt
 have h9:=C.h.r2
 have h10:=C.t5
 unfold zbK pnt zb8
 simp only [List.all_cons,List.all_nil,Bool.and_true,Bool.and_eq_true]
 exact ⟨zhe (by omega) (by omega),zhe (by omega) (by omega),zhe (by omega) (by omega),zhe (by omega) (by omega),zhe (by omega) (by omega),zhe (by omega) (by omega),zhe (by omega) (by omega)⟩
structure WI (w:Wheel) (al:List Int) (A:PointT_->List Int) (M:List (PointT_×Step_)):Prop where
 nd:(M.map (·.1)).Nodup
 pt:∀k st,(k,st)∈M->(∃X,k=pnt X/\RP (clT (total al)) w al (A k) X)/\(st.act=-2/\A k=[]\/st.act≠-2/\zcz M st.from_=true/\A k=A st.from_++[st.act])
structure Ext (A:PointT_->List Int) (M:List (PointT_×Step_)) (q:List PointT_) (A':PointT_->List Int) (M':List (PointT_×Step_)) (q':List PointT_):Prop where
 ex:∃N:List (PointT_×Step_),M'=M++N/\q'=q++N.map (·.1)
 same:∀k,zcz M k=true->A' k=A k
theorem Ext.has {A M q A' M' q'} (h:Ext A M q A' M' q') {k:PointT_} (hk:zcz M k=true):zcz M' k=true:=by
 obtain ⟨N,rfl,_⟩:=h.ex
 rw [zbk] at hk ⊢
 rw [List.map_append]
 exact List.mem_append_left _ hk
theorem Ext.refl (A M q):Ext A M q A M q:=⟨⟨[],by simp,by simp⟩,fun _ _=>rfl⟩
theorem Ext.trans {A M q A' M' q' A2 M2 q2} (h:Ext A M q A' M' q') (g:Ext A' M' q' A2 M2 q2):Ext A M q A2 M2 q2:=by
 refine ⟨?_,fun k hk=>by rw [g.same k (h.has hk),h.same k hk]⟩
 obtain ⟨N,rfl,rfl⟩:=h.ex
 obtain ⟨N',rfl,rfl⟩:=g.ex
 exact ⟨N++N',by simp,by simp⟩
theorem Ext.len {A M q A' M' q'} (h:Ext A M q A' M' q'):M.length+q'.length=M'.length+q.length:=by
 obtain ⟨N,rfl,rfl⟩:=h.ex
 simp
 omega
theorem Ext.out {A M q A' M' q'} (h:Ext A M q A' M' q') {k:PointT_} (hk:zcz M' k=true) (hq:k∉q'):zcz M k=true/\k∉q:=by
 obtain ⟨N,rfl,rfl⟩:=h.ex
 rw [zbk,List.map_append] at hk
 rw [zbk]
 simp only [List.mem_append,not_or] at hk hq
 rcases hk with hk | hk
 ·exact ⟨hk,hq.1⟩
 ·exact absurd hk hq.2
theorem WI.key {w al A M} (hW:WI w al A M) {k:PointT_} (hk:zcz M k=true):∃X,k=pnt X/\RP (clT (total al)) w al (A k) X:=(hW.pt k _ (zhx zba hk)).1
theorem WI.len {w al A M} (C:Cx w al) (hW:WI w al A M):M.length<=93312:=by
 have h1:=ziO (m:=(zus (clT (total al)) w 5).map pnt) hW.nd fun k hk=>by
  obtain ⟨X,rfl,hr⟩:=hW.key (zbk.2 hk)
  exact List.mem_map.2 ⟨X,hr.up C.h C.hl C.nn (zks _) (by have:=(zoT C hr).2.1;have:=C.t5;omega),rfl⟩
 rw [List.length_map,List.length_map] at h1
 have h2:=zqx (clT (total al)) C.k3 (t:=5) (by omega)
 omega
theorem WI.mok {w al A M} (C:Cx w al) (hW:WI w al A M) {acts:List Int} {X:Pn} (hr:RP (clT (total al)) w al acts X):mok zbK M (pnt X)=true:=by
 unfold Go.AM.mok
 rw [(zoT C hr).2.2.2,Bool.true_and,Bool.and_eq_true]
 refine ⟨List.all_eq_true.2 fun p hp=>?_,decide_eq_true hW.nd⟩
 obtain ⟨Y,e,hr'⟩:=(hW.pt p.1 p.2 hp).1
 show zbK p.1=true
 rw [e]
 exact (zoT C hr').2.2.2
theorem Cx.len4 {w al} (C:Cx w al):al.length<=4:=by rw [C.hl];have:=C.k3;omega
theorem zu9 {w al} (C:Cx w al) {n:Nat} (hn:10<=n) {A M q} (hW:WI w al A M) {X Y:Pn} {a:Int} (hx:zcz M (pnt X)=true) (hr:RP (clT (total al)) w al (A (pnt X)++[a]) Y) (ha:a≠-2) {y:PointT_} (e1:y.in_=zb8 Y.l) (e2:y.bought=Y.b) (e3:y.Stand.Place=Y.p) (e4:min y.Stand.Credit (total al-total Y.l)=Y.c) (hq:q.length<=M.length) :
  ∃A' M' q',ze6 n (zb8 al) (pnt X) a y (M,q)=some (M',q')/\WI w al A' M'/\Ext A M q A' M' q'/\zcz M' (pnt Y)=true:=by
 obtain ⟨hY,ht,hk,hok⟩:=zoT C hr
 have h4:=C.len4
 have hal:∀k,0<=al.getD k 0/\al.getD k 0<=1000:=fun k=>by
  have h1:=zhl (zfA C.nn) k
  have h2:=C.t5
  omega
 have hnn:0<=total Y.l:=ze5 (zfA hY.nn)
 have h5:=C.t5
 have e:zeL y (w64 (total al-total Y.l))=pnt Y:=by
  rw [zaI (by omega) (by omega)]
  show (⟨⟨y.Stand.Place,min y.Stand.Credit (total al-total Y.l)⟩,y.in_,y.bought⟩:PointT_)=_
  rw [e1,e2,e3,e4]
  rfl
 have hlen:=hW.len C
 unfold ze6
 rw [zti h4 hal hn,zaa,e1,zti (by rw [hY.len];have:=C.k3;omega) (fun k=>by have:=hk k;omega) hn,zaa]
 simp only [e]
 rw [show zhp zbK zba M (pnt Y)=some (zhC zba M (pnt Y)) from if_pos (hW.mok C hr),zaa]
 cases hh:zcz M (pnt Y) with
 | true =>
  rw [if_pos rfl]
  exact ⟨A,M,q,rfl,hW,Ext.refl A M q,hh⟩
 | false =>
  rw [if_neg (by simp),show zlm zbK M (pnt Y) ⟨a,pnt X⟩=some (zh1 M (pnt Y) ⟨a,pnt X⟩) from if_pos (hW.mok C hr),zaa,if_pos (by omega),(zht zba M _ hh).2.2]
  have hno:∀k,zcz M k=true->k≠pnt Y:=fun k hk he=>by rw [he,hh] at hk;cases hk
  refine ⟨fun k=>if k=pnt Y then A (pnt X)++[a] else A k,_,_,rfl,⟨?_,fun k st hm=>?_⟩,⟨⟨[(pnt Y,⟨a,pnt X⟩)],rfl,rfl⟩,fun k hk=>if_neg (hno k hk)⟩,?_⟩
  ·rw [List.map_append,List.nodup_append]
   refine ⟨hW.nd,by simp,fun u hu v hv=>?_⟩
   simp only [List.map_cons,List.map_nil,List.mem_singleton] at hv
   rw [hv]
   exact hno u (zbk.2 hu)
  ·have hmono:∀k,zcz M k=true->zcz (M++[(pnt Y,(⟨a,pnt X⟩:Step_))]) k=true:=fun k hk=>by
    rw [zbk] at hk ⊢
    rw [List.map_append]
    exact List.mem_append_left _ hk
   rcases List.mem_append.1 hm with hm | hm
   ·have hk:zcz M k=true:=zbk.2 (List.mem_map.2 ⟨_,hm,rfl⟩)
    obtain ⟨p1,p2⟩:=hW.pt k st hm
    simp only [if_neg (hno k hk)]
    refine ⟨p1,?_⟩
    rcases p2 with p2 | ⟨p2,p3,p4⟩
    ·exact .inl p2
    ·exact .inr ⟨p2,hmono _ p3,by rw [if_neg (hno _ p3)];exact p4⟩
   ·simp only [List.mem_singleton,Prod.mk.injEq] at hm
    obtain ⟨rfl,rfl⟩:=hm
    simp only [if_pos rfl]
    exact ⟨⟨Y,rfl,hr⟩,.inr ⟨ha,hmono _ hx,by rw [if_neg (hno _ hx)];simp⟩⟩
  ·rw [zbk,List.map_append]
   exact List.mem_append_right _ (by simp)
theorem zvS {w:Wheel} (hv:valid w=true) {n:Nat} (hn:200<=n) {p:Int} (h0:0<=p) (h1:p<w.Round):zfn n w ⟨p,1⟩ [-1]=some (⟨0,0⟩,1,0):=by
 have h:=zhd hv
 rw [zu3 (h.len (by omega)) hn _ _ (by simp) (by simp;omega)]
 have e:zh3 w ⟨p,1⟩ (-1)=(⟨0,0⟩,true):=by
  unfold zh3
  rw [if_neg (by omega),if_neg (by simp)]
  rfl
 unfold zAX
 rw [if_pos hv,if_pos ⟨by simp only [zhk,zjj,Bool.and_eq_true,zcf];omega,by simp,by simp [zl0]⟩]
 simp only [zrD,e]
 rfl
theorem zut {w:Wheel} (hv:valid w=true) {n:Nat} (hn:200<=n) {p:Int} (h0:0<=p) (h1:p<w.Round) {k:Nat} (hk:k<w.Coins.length):zfn n w ⟨p,0⟩ [(k:Int)]=some (⟨(turn w p (coin w k)).1,(turn w p (coin w k)).2⟩,0,0):=by
 have h:=zhd hv
 rw [zu3 (h.len (by omega)) hn _ _ (by simp) (by simp;omega)]
 have e:zh3 w ⟨p,0⟩ (k:Int)=(⟨(turn w p (coin w k)).1,(turn w p (coin w k)).2⟩,false):=by
  unfold zh3
  rw [if_pos (by omega)]
  simp
 unfold zAX
 rw [if_pos hv,if_pos ⟨by simp only [zhk,zjj,Bool.and_eq_true,zcf];omega,by simp,by simp [zlZ hk]⟩]
 simp only [zrD,e]
 rfl
theorem ztj {w al} (C:Cx w al) {n:Nat} (hn:200<=n) {b:Box_} (hb:b.Box.Wheel=w) {A M q} (hW:WI w al A M) {X:Pn} (hx:zcz M (pnt X)=true) (hr:RP (clT (total al)) w al (A (pnt X)) X) (hq:q.length<=M.length) :
  ∃A' M' q',zf0 n b (zb8 al) (pnt X) (M,q)=some (M',q')/\WI w al A' M'/\Ext A M q A' M' q'/\(0<X.c->0<X.p->zcz M' (pnt (znD (clT (total al)) X))=true):=by
 obtain ⟨hX,ht,hk,hok⟩:=zoT C hr
 have h5:=C.t5
 have h6:=hX.cb
 have h7:=hX.bt
 unfold zf0
 rw [hb]
 show ∃A' M' q',(if decide (X.c>0)=true then if decide (X.p>0)=true then _ else _ else _)=_/\_
 by_cases hc:0<X.c
 ·by_cases hp:0<X.p
  ·rw [if_pos (by simpa using hc),if_pos (by simpa using hp)]
   show ∃A' M' q',Option.bind (zfn n w ⟨X.p,1⟩ [-1]) _=_/\_
   rw [zvS C.v hn hX.p0 hX.p1,zaa]
   obtain ⟨A',M',q',g1,g2,g3,g4⟩:=zu9 (n:=n) C (by omega) hW (Y:=znD (clT (total al)) X) (a:=-1) (y:=⟨⟨0,w64 (X.c-1)⟩,zb8 X.l,X.b⟩) hx (hr.sel hc hp) (by omega) rfl rfl rfl (by
    show min (w64 (X.c-1)) (total al-total X.l)=min (X.c-1) (total al-total X.l)
    rw [zaI (by omega) (by omega)]) hq
   exact ⟨A',M',q',g1,g2,g3,fun _ _=>g4⟩
  ·rw [if_pos (by simpa using hc),if_neg (by simpa using hp)]
   exact ⟨A,M,q,rfl,hW,Ext.refl A M q,fun _ h=>absurd h hp⟩
 ·rw [if_neg (by simpa using hc)]
  exact ⟨A,M,q,rfl,hW,Ext.refl A M q,fun h=>absurd h hc⟩
theorem zl7 {w al} (C:Cx w al) {n:Nat} (hn:200<=n) {b:Box_} (hb:b.Box.Wheel=w) {X:Pn}:∀(d i m:Nat),i+d=w.Coins.length->d<m->∀{A M q},WI w al A M->zcz M (pnt X)=true->RP (clT (total al)) w al (A (pnt X)) X->q.length<=M.length ->
  ∃A' M' q',zby n b (zb8 al) (pnt X) m (i:Int) (M,q)=some (M',q')/\WI w al A' M'/\Ext A M q A' M' q'/\∀k:Nat,i<=k->k<w.Coins.length->X.l.getD k 0≠al.getD k 0->zcz M' (pnt (znE (clT (total al)) w X k))=true
 | d,i,0,_,hm,_,_,_,_,_,_,_=>absurd hm (Nat.not_lt_zero _)
 | 0,i,m+1,hi,_,A,M,q,hW,hx,hr,hq=>by
  unfold zby
  rw [hb,if_neg (by simp;omega)]
  exact ⟨A,M,q,rfl,hW,Ext.refl A M q,fun k h1 h2=>by omega⟩
 | d+1,i,m+1,hi,hm,A,M,q,hW,hx,hr,hq=>by
  obtain ⟨hX,ht,hk,hok⟩:=zoT C hr
  have h5:=C.t5
  have h6:=hX.cb
  have h7:=hX.bt
  have h8:=hX.c0
  have h9:=C.k3
  have h4:=C.len4
  have hki:=hk i
  have hil:i<X.l.length:=by rw [hX.len];omega
  unfold zby
  rw [hb,if_pos (by simp;omega)]
  show ∃A' M' q',Option.bind (idx (zu4 X.l) (i:Int)) _=_/\_
  rw [zlX (by omega),zaa,show idx ([(zb8 al).c0,(zb8 al).c1,(zb8 al).c2,(zb8 al).c3]:List Int) (i:Int)=some (al.getD i 0) from zlX (by omega),zaa,zaI (x:=(i:Int)+1) (by omega) (by omega)]
  by_cases he:X.l.getD i 0=al.getD i 0
  ·rw [if_pos (by simpa using he)]
   obtain ⟨A',M',q',g1,g2,g3,g4⟩:=zl7 C hn hb d (i+1) m (by omega) (by omega) hW hx hr hq
   refine ⟨A',M',q',g1,g2,g3,fun k k1 k2 k3=>?_⟩
   by_cases e:k=i
   ·subst e
    exact absurd he k3
   ·exact g4 k (by omega) k2 k3
  ·rw [if_neg (by simpa using he)]
   show ∃A' M' q',Option.bind (zfn n w ⟨X.p,0⟩ [(i:Int)]) _=_/\_
   have hcoin:=zdW C.h (a:=(i:Int)) (by omega) (by omega)
   have htr:=zdu C.h hX.p0 hX.p1 (show 0<=coin w i by omega)
   rw [zut C.v hn hX.p0 hX.p1 (by omega),zaa,zaI (x:=X.l.getD i 0+1) (by omega) (by omega)]
   rw [show ztE ([(pnt X).in_.c0,(pnt X).in_.c1,(pnt X).in_.c2,(pnt X).in_.c3]:List Int) (i:Int) (X.l.getD i 0+1)=some (zu4 (zfg X.l i)) from zpz hil (by rw [hX.len];omega),zaa]
   obtain ⟨A1,M1,q1,g1,g2,g3,g4⟩:=zu9 (n:=n) C (by omega) hW (Y:=znE (clT (total al)) w X i) (a:=(i:Int)) (y:=⟨⟨(turn w X.p (coin w i)).1,w64 (X.c+(turn w X.p (coin w i)).2)⟩,zb8 (zfg X.l i),w64 (X.b+(turn w X.p (coin w i)).2)⟩) hx (hr.coin (by omega) he) (by omega) rfl (by
     show w64 _=X.b+_
     rw [zaI (by omega) (by omega)]) rfl (by
     show min (w64 (X.c+(turn w X.p (coin w i)).2)) (total al-total (zfg X.l i))=min (X.c+(turn w X.p (coin w i)).2) (total al-(total X.l+1))
     rw [zaI (by omega) (by omega),zfU hil]) hq
   have hl1:=g3.len
   obtain ⟨A',M',q',k1,k2,k3,k4⟩:=zl7 C hn hb d (i+1) m (by omega) (by omega) g2 (g3.has hx) (by rw [g3.same _ hx];exact hr) (show q1.length<=M1.length by omega)
   refine ⟨A',M',q',?_,k2,g3.trans k3,fun k j1 j2 j3=>?_⟩
   ·show Option.bind (ze6 n (zb8 al) (pnt X) (i:Int) ⟨⟨(turn w X.p (coin w i)).1,w64 (X.c+(turn w X.p (coin w i)).2)⟩,zb8 (zfg X.l i),w64 (X.b+(turn w X.p (coin w i)).2)⟩ (M,q)) _=_
    rw [g1,zaa]
    exact k1
   ·by_cases e:k=i
    ·subst e
     exact k3.has g4
    ·exact k4 k (by omega) j2 j3
def Closed (w:Wheel) (al:List Int) (M:List (PointT_×Step_)) (X:Pn):Prop:=(0<X.c->0<X.p->zcz M (pnt (znD (clT (total al)) X))=true)/\∀k:Nat,k<w.Coins.length->X.l.getD k 0≠al.getD k 0->zcz M (pnt (znE (clT (total al)) w X k))=true
theorem Closed.ext {w al A M q A' M' q'} (h:Ext A M q A' M' q') {X:Pn} (hc:Closed w al M X):Closed w al M' X:=⟨fun a b=>h.has (hc.1 a b),fun k a b=>h.has (hc.2 k a b)⟩
theorem zoD {w al} (C:Cx w al) {n:Nat} (hn:200<=n) {b:Box_} (hb:b.Box.Wheel=w):∀(m:Nat) {A M q},93312+q.length<m+M.length->WI w al A M->q.length<=M.length->(∀k,k∈q->zcz M k=true)->zcz M (pnt (zkr w))=true->(∀acts X,RP (clT (total al)) w al acts X->zcz M (pnt X)=true->pnt X∉q->Closed w al M X) ->
  ∃A' M',zdT n b (zb8 al) m (M,q)=some M'/\WI w al A' M'/\∀acts X,RP (clT (total al)) w al acts X->zcz M' (pnt X)=true
 | 0,A,M,q,hf,hW,_,_,_,_=>by
  have:=hW.len C
  omega
 | m+1,A,M,[],hf,hW,hq,hqm,hz,hcl=>by
  refine ⟨A,M,rfl,hW,fun acts X hr=>?_⟩
  induction hr with
  | zero=>exact hz
  | sel hr hc hp ih=>exact (hcl _ _ hr ih (by simp)).1 hc hp
  | coin hr hk hne ih=>exact (hcl _ _ hr ih (by simp)).2 _ hk hne
 | m+1,A,M,x::q,hf,hW,hq,hqm,hz,hcl=>by
  have hx:zcz M x=true:=hqm x (by simp)
  obtain ⟨X,rfl,hr⟩:=hW.key hx
  simp only [List.length_cons] at hf hq
  obtain ⟨A1,M1,q1,g1,g2,g3,g4⟩:=ztj C hn hb hW hx hr (show q.length<=M.length by omega)
  have hl1:=g3.len
  obtain ⟨A2,M2,q2,k1,k2,k3,k4⟩:=zl7 C hn hb w.Coins.length 0 n (by omega) (by have:=C.k3;omega) g2 (g3.has hx) (by rw [g3.same _ hx];exact hr) (show q1.length<=M1.length by omega)
  have hl2:=k3.len
  have hE:=g3.trans k3
  have hXc:Closed w al M2 X:=⟨fun a b=>k3.has (g4 a b),fun k a b=>k4 k (Nat.zero_le _) a b⟩
  have hX:=zoT C hr
  obtain ⟨A',M',j1,j2,j3⟩:=zoD C hn hb m (A:=A2) (M:=M2) (q:=q2) (by omega) k2 (by omega) (fun k hk=>by
   obtain ⟨N,e1,e2⟩:=hE.ex
   rw [e2] at hk
   rcases List.mem_append.1 hk with hk | hk
   ·exact hE.has (hqm k (List.mem_cons_of_mem _ hk))
   ·rw [zbk,e1,List.map_append]
    exact List.mem_append_right _ hk) (hE.has hz) fun acts Y hY hm hnq=>by
   obtain ⟨o1,o2⟩:=hE.out hm hnq
   by_cases e:pnt Y=pnt X
   ·obtain rfl:=zvR e (by rw [(zoT C hY).1.len,hX.1.len]) (by rw [(zoT C hY).1.len];have:=C.k3;omega)
    exact hXc
   ·exact (hcl acts Y hY o1 (by simp only [List.mem_cons,not_or];exact ⟨e,o2⟩)).ext hE
  refine ⟨A',M',?_,j2,j3⟩
  unfold zdT
  simp only
  rw [g1,zaa]
  show Option.bind (zby n b (zb8 al) (pnt X) n ((0:Nat):Int) (M1,q1)) _=_
  rw [k1,zaa]
  exact j1
theorem zqz (w:Wheel):pnt (zkr w)=zaP:=by
 have h:=fun k=>zjl w k
 unfold pnt zkr zb8
 simp only [h]
theorem ztk {w al} (C:Cx w al) {n:Nat} (hn:100000<=n) {b:Box_} (hb:b.Box.Wheel=w):∃A M,zdO n (some b) (zb8 al)=some M/\WI w al A M/\∀acts X,RP (clT (total al)) w al acts X->zcz M (pnt X)=true:=by
 have hz:zcz [(zaP,(⟨-2,zaP⟩:Step_))] (pnt (zkr w))=true:=by rw [zqz];simp [zcz]
 exact zoD C (by omega) hb n (A:=fun _=>[]) (M:=[(zaP,⟨-2,zaP⟩)]) (q:=[zaP]) (by simp;omega) ⟨by simp,fun k st hm=>by
  simp only [List.mem_singleton,Prod.mk.injEq] at hm
  obtain ⟨rfl,rfl⟩:=hm
  exact ⟨⟨zkr w,(zqz w).symm,.zero⟩,.inl ⟨rfl,rfl⟩⟩⟩ (by simp) (by simp [zcz]) hz fun acts X hr hm hnq=>by
  exfalso
  rw [zbk] at hm
  exact hnq hm
theorem ztl {w al} (C:Cx w al) {A M} (hW:WI w al A M):∀(m:Nat) {k:PointT_} {acts:List Int},zcz M k=true->(A k).length<m->acts.length+(A k).length<100000->zel M m (zhC zba M k) acts=some (acts++(A k).reverse)
 | 0,k,acts,hk,hm,_=>absurd hm (Nat.not_lt_zero _)
 | m+1,k,acts,hk,hm,hl=>by
  unfold zel
  rcases (hW.pt k _ (zhx zba hk)).2 with ⟨h1,h2⟩ | ⟨h1,h2,h3⟩
  ·rw [if_neg (by simpa using h1),h2]
   simp
  ·rw [h3,List.length_append,List.length_singleton] at hm hl
   obtain ⟨Y,e,hr⟩:=hW.key h2
   rw [if_pos (by simpa using h1),if_pos (by omega),show zhp zbK zba M (zhC zba M k).from_=some (zhC zba M (zhC zba M k).from_) from if_pos (by rw [e];exact hW.mok C hr),zaa,ztl C hW m h2 (by omega) (by simp;omega)]
   conv=>rhs;rw [h3]
   simp
def sums (a b:List Int):List Int:=List.zipWith (·+·) a b
theorem zfB {a b:List Int} (h:b.length=a.length):(sums a b).length=a.length:=by simp [sums,h]
theorem zfC:∀{a b:List Int},b.length=a.length->∀k,(sums a b).getD k 0=a.getD k 0+b.getD k 0
 | [],[],_,k=>by simp [sums]
 | [],_::_,h,_=>by simp at h
 | _::_,[],h,_=>by simp at h
 | x::a,y::b,h,0=>by simp [sums]
 | x::a,y::b,h,k+1=>by
  have:=zfC (a:=a) (b:=b) (by simpa using h) k
  simpa [sums] using this
theorem zfV:∀{a b:List Int},b.length=a.length->total (sums a b)=total a+total b
 | [],[],_=>rfl
 | [],_::_,h=>by simp at h
 | _::_,[],h=>by simp at h
 | x::a,y::b,h=>by
  have:=zfV (a:=a) (b:=b) (by simpa using h)
  simp only [sums,List.zipWith_cons_cons,total] at this ⊢
  omega
def zfD (l:List Int):Prop:=∀k,0<=l.getD k 0/\l.getD k 0<=1000
theorem zfD.sums {a b:List Int} (h:b.length=a.length) (ha:∀k,0<=a.getD k 0/\a.getD k 0<=500) (hb:∀k,0<=b.getD k 0/\b.getD k 0<=500):zfD (sums a b):=fun k=>by
 rw [zfC h]
 have:=ha k
 have:=hb k
 omega
theorem getD_get {l:List Int} {k:Nat} (h:k<l.length):l[k]=l.getD k 0:=by simp [h]
theorem ztm {n:Nat} {a b:List Int} (h:b.length=a.length) (ha:zfD a) (hb:zfD b) (hl:a.length<1000) (hn:a.length<n):ziC n a b=some (sums a b):=by
 have key:∀(d i m:Nat) (v:List Int),d=a.length-i->i<=a.length->d<m->v.length=i->zdA a b m v (i:Int)=some (v++(sums a b).drop i):=by
  intro d
  induction d with
  | zero =>
   intro i m v hd hi hm hv
   obtain ⟨m,rfl⟩:∃q,m=q+1:=⟨m-1,by omega⟩
   simp only [zdA,zfh,zgB]
   rw [if_neg (by simp;omega),List.drop_eq_nil_of_le (by rw [zfB h];omega),List.append_nil]
  | succ d ih =>
   intro i m v hd hi hm hv
   obtain ⟨m,rfl⟩:∃q,m=q+1:=⟨m-1,by omega⟩
   have h1:=ha i
   have h2:=hb i
   simp only [zdA,zfh]
   rw [if_pos (by simp;omega),zb2 (by omega),zaa,zb2 (by omega),zaa,getD_get,getD_get,zaI (by omega) (by omega),zgp (by simp;omega),zaa,zaI (by omega) (by omega)]
   have:=ih (i+1) m (v++[a.getD i 0+b.getD i 0]) (by omega) (by omega) (by omega) (by simp [hv])
   rw [show (((i+1:Nat)):Int)=(i:Int)+1 by simp] at this
   rw [this,List.drop_eq_getElem_cons (l:=sums a b) (i:=i) (by rw [zfB h];omega),getD_get,zfC h]
   simp
 have:=key a.length 0 n [] (by omega) (by omega) hn rfl
 rw [List.nil_append,List.drop_zero] at this
 exact this
theorem znF {n:Nat} {l:List Int} (hs:zfD l) (hl:l.length<1000) (hn:l.length<n):zfN n l=some (total l):=by
 have key:=zlU (F:=fun m i (s:Int)=>zc6 l m s i) (xs:=l) (spec:=fun k s=>some (s+total k)) (I:=fun k s=>0<=s/\s+1000*k.length<=100000000/\∀x,x∈k->0<=x/\x<=1000) (by omega)
  (fun m s hI=>by simp [zc6,zeU,zfY,total])
  (fun m i x k s hI hx hi _ _ hrec=>by
   obtain ⟨i1,i2,i3⟩:=hI
   have hxr:=i3 x (by simp)
   simp only [List.length_cons] at i2
   simp only [zc6,zeU]
   rw [if_pos (by simpa using hi),hx,zaa,zaI (x:=s+x) (by omega) (by omega),hrec (s+x) ⟨by omega,by omega,fun y hy=>i3 y (by simp [hy])⟩]
   simp only [total]
   congr 1
   omega)
  l 0 n 0 (by omega) rfl (by omega) ⟨by omega,by omega,fun x hx=>by
   obtain ⟨k,hk⟩:=List.getElem?_of_mem hx
   have:=hs k
   rwa [List.getD_eq_getElem?_getD,hk] at this⟩
 rw [show zfN n l=_ from key,Int.zero_add]
theorem ziP (a b c:Int):zc7 a b c=some (inR a b c):=by
 unfold zc7 zdo inR
 by_cases h:b<=a<;>simp [h]
theorem ziQ (a b c:Int):zeh a b c=some (inR a b c):=by
 unfold zeh
 rw [zjW,zaa]
def zzp (b:Box):Prop:=∀k,k<b.Found.length->0<=b.Marked.getD k 0/\b.Marked.getD k 0<=b.Found.getD k 0
instance (b:Box):Decidable (zzp b):=inferInstanceAs (Decidable (∀k,k<b.Found.length->0<=b.Marked.getD k 0/\b.Marked.getD k 0<=b.Found.getD k 0))
structure BoxOk (b:Box):Prop where
 v:valid b.Wheel=true
 p:inR b.Plays 0 9999=true
 s:inR b.Skips 0 9=true
 f:zdY b.Wheel b.Found=true
 g:zdY b.Wheel b.Slugs=true
 ml:b.Marked.length=b.Found.length
 mkd:zzp b
 t:total b.Found+total b.Slugs<=12
open Classical in
noncomputable def zoE (b:Box):Bool:=decide (BoxOk b)
theorem zgs {b:Box}:zoE b=true↔BoxOk b:=by simp [zoE]
theorem ziu {b:Box} (h:¬BoxOk b):zoE b=false:=by simp [zoE,h]
def zqA (b:Box):Prop:=b.Wheel.Notches.length<=40/\b.Wheel.Coins.length<=40/\b.Found.length<=40/\b.Marked.length<=40/\b.Slugs.length<=40
theorem ze8 {w:Wheel} {l:List Int} (h:zdY w l=true):l.length=w.Coins.length/\(∀k,0<=l.getD k 0/\l.getD k 0<=12)/\total l<=12:=by
 obtain ⟨h1,h2⟩:=zur h
 simp only [zdY,Bool.and_eq_true,decide_eq_true_eq] at h
 refine ⟨h.1.1,fun k=>?_,h2⟩
 have:=zhl h1.nn k
 omega
theorem zoF {w:Wheel} {l:List Int} (h:zdY w l=true):l.all (fun x=>inR x 0 12)=true:=by
 simp only [zdY,Bool.and_eq_true] at h
 exact h.1.2
open Classical in
theorem zuu (b:Box) (n:Nat) (hl:zqA b) (hn:200<=n):zfM n b=some (cond (zoE b) 0 50):=by
 obtain ⟨l1,l2,l3,l4,l5⟩:=hl
 unfold zfM
 have hol:zov n b.Wheel:=⟨by omega,by omega,by omega,by omega⟩
 have no:∀h:¬BoxOk b,(some 50:Option Int)=some (cond (zoE b) 0 50):=fun h=>by rw [ziu h];rfl
 have j1:zci n b true=some 50:=rfl
 rw [zs2 hol,zaa]
 by_cases hv:valid b.Wheel=true
 ·rw [hv]
  show Option.bind _ _=_
  rw [zkq (by omega) (by omega),zaa]
  by_cases hf:zdY b.Wheel b.Found=true
  ·rw [if_neg (by simp [hf]),zkq (by omega) (by omega),zaa]
   by_cases hg:zdY b.Wheel b.Slugs=true
   ·rw [if_neg (by simp [hg])]
    by_cases hm:b.Marked.length=b.Found.length
    ·rw [if_neg (by simp;omega),ziQ,zaa]
     by_cases hp:inR b.Plays 0 9999=true
     ·rw [if_neg (by simp [hp]),ziQ,zaa]
      by_cases hs:inR b.Skips 0 9=true
      ·rw [hs]
       show zch n b n 0=_
       obtain ⟨f1,f2,f3⟩:=ze8 hf
       obtain ⟨g1,g2,g3⟩:=ze8 hg
       have hfg:b.Slugs.length=b.Found.length:=by omega
       have hS:=zfD.sums hfg (fun k=>by have:=f2 k;omega) (fun k=>by have:=g2 k;omega)
       have hj2:zeK n b=some (if total b.Found+total b.Slugs<=12 then 0 else 50):=by
        unfold zeK
        rw [ztm hfg (fun k=>by have:=f2 k;omega) (fun k=>by have:=g2 k;omega) (by omega) (by omega),zaa,zkq (by omega) (by omega),zaa]
        by_cases ht:total b.Found+total b.Slugs<=12
        ·rw [if_pos ht,if_neg]
         have hnn:∀k,0<=(sums b.Found b.Slugs).getD k 0:=fun k=>(hS k).1
         have:zdY b.Wheel (sums b.Found b.Slugs)=true:=by
          simp only [zdY,Bool.and_eq_true,decide_eq_true_eq,List.all_eq_true]
          refine ⟨⟨by rw [zfB hfg];omega,fun x hx=>?_⟩,by rw [zfV hfg];exact ht⟩
          obtain ⟨k,hk⟩:=List.getElem?_of_mem hx
          have h1:=zhl (zfA hnn) k
          rw [zfV hfg] at h1
          rw [List.getD_eq_getElem?_getD,hk] at h1
          exact zcf.2 ⟨h1.1,Int.le_trans h1.2 ht⟩
         simp [this]
        ·rw [if_neg ht,if_pos]
         have:zdY b.Wheel (sums b.Found b.Slugs)=false:=by
          simp only [zdY,zfV hfg]
          simp [ht]
         simp [this]
       have key:∀(d i m:Nat),d=b.Found.length-i->i<=b.Found.length->d<m->zch n b m (i:Int)=some (if (∀k,i<=k->k<b.Found.length->0<=b.Marked.getD k 0/\b.Marked.getD k 0<=b.Found.getD k 0)/\total b.Found+total b.Slugs<=12 then 0 else 50):=by
        intro d
        induction d with
        | zero =>
         intro i m hd hi hm
         obtain ⟨m,rfl⟩:∃q,m=q+1:=⟨m-1,by omega⟩
         simp only [zch,zeT]
         rw [if_neg (by simp;omega),hj2]
         congr 1
         by_cases ht:total b.Found+total b.Slugs<=12
         ·rw [if_pos ht,if_pos ⟨fun k h1 h2=>by omega,ht⟩]
         ·rw [if_neg ht,if_neg fun h=>ht h.2]
        | succ d ih =>
         intro i m hd hi hm
         obtain ⟨m,rfl⟩:∃q,m=q+1:=⟨m-1,by omega⟩
         simp only [zch,zeT]
         rw [if_pos (by simp;omega),zb2 (by omega),zaa,zb2 (by omega),zaa,ziQ,zaa,getD_get,getD_get,zaI (by omega) (by omega)]
         have:=ih (i+1) m (by omega) (by omega) (by omega)
         rw [show (((i+1:Nat)):Int)=(i:Int)+1 by simp] at this
         by_cases hq:inR (b.Marked.getD i 0) 0 (b.Found.getD i 0)=true
         ·rw [if_neg (by rw [hq];simp),this]
          congr 1
          by_cases hR:(∀k,i+1<=k->k<b.Found.length->0<=b.Marked.getD k 0/\b.Marked.getD k 0<=b.Found.getD k 0)/\total b.Found+total b.Slugs<=12
          ·have hall:∀k,i<=k->k<b.Found.length->0<=b.Marked.getD k 0/\b.Marked.getD k 0<=b.Found.getD k 0:=fun k h1 h2=>by
            by_cases e:k=i
            ·subst e
             exact zcf.1 hq
            ·exact hR.1 k (by omega) h2
           rw [if_pos hR,if_pos ⟨hall,hR.2⟩]
          ·rw [if_neg hR,if_neg fun h=>hR ⟨fun k h1 h2=>h.1 k (by omega) h2,h.2⟩]
         ·rw [if_pos (by simpa using hq),if_neg fun h=>hq (zcf.2 (h.1 i (Nat.le_refl _) (by omega)))]
       rw [show zch n b n 0=_ from key b.Found.length 0 n (by omega) (by omega) (by omega)]
       by_cases hR:(∀k,0<=k->k<b.Found.length->0<=b.Marked.getD k 0/\b.Marked.getD k 0<=b.Found.getD k 0)/\total b.Found+total b.Slugs<=12
       ·rw [if_pos hR,zgs.2 ⟨hv,hp,hs,hf,hg,hm,fun k hk=>hR.1 k (Nat.zero_le _) hk,hR.2⟩]
        rfl
       ·rw [if_neg hR]
        exact no fun h=>hR ⟨fun k _ hk=>h.mkd k hk,h.t⟩
      ·rw [show (!inR b.Skips 0 9)=true by simpa using hs,j1]
       exact no fun h=>hs h.s
     ·rw [if_pos (by simpa using hp),j1]
      exact no fun h=>hp h.p
    ·rw [if_pos (by simp;omega),j1]
     exact no fun h=>hm h.ml
   ·rw [if_pos (by simpa using hg),j1]
    exact no fun h=>hg h.g
  ·rw [if_pos (by simpa using hf),j1]
   exact no fun h=>hf h.f
 ·rw [show valid b.Wheel=false by simpa using hv]
  exact no fun h=>hv h.v
theorem ztn {n:Nat} (f:Int->Option Bool) (g:Int->Bool) (xs:List Int) (hf:∀x,x∈xs->f x=some (g x)) (hl:xs.length<1048576) (hn:xs.length<n) :
  zbq n (fun x (_:Unit)=>(f x).map fun y=>(y,())) xs ()=some (xs.any g,()):=by
 have key:∀(l:List Int) (i m:Nat) (s:Unit),i<=xs.length->xs.drop i=l->l.length<m->(zaB xs (fun x (_:Unit)=>(f x).map fun y=>(y,())) m (i:Int) s).map (fun r=>decide (r.1≥0))=some (l.any g):=by
  intro l i m s h1 h2 h3
  refine zuk (fun m i s=>(zaB xs (fun x (_:Unit)=>(f x).map fun y=>(y,())) m i s).map (fun r=>decide (r.1≥0))) xs (fun l _=>some (l.any g)) hl (fun m s=>?_) (fun m i x l s hx hi _ _ hrec=>?_) l i m s h1 h2 h3
  ·simp [zaB,zbf,zbX]
  ·have hmem:x∈xs:=by
    unfold idx at hx
    rw [if_pos (by omega)] at hx
    exact List.mem_of_getElem? hx
   simp only [zaB,zbf]
   rw [if_pos (by simpa using hi),hx,zaa]
   simp only [hf x hmem,Option.map_some,zaa]
   by_cases hg:g x=true
   ·rw [if_pos (by simpa using hg)]
    simp [hg]
   ·rw [if_neg (by simpa using hg)]
    have:=hrec ()
    rw [this]
    simp [hg]
 have h:=key xs 0 n () (by omega) rfl hn
 unfold zbq zdf
 change Option.map _ (zaB xs _ n 0 ())=_ at h
 cases hx:zaB xs (fun x (_:Unit)=>(f x).map fun y=>(y,())) n 0 () with
 | none=>rw [hx] at h;cases h
 | some r =>
  rw [hx] at h
  simp only [Option.map_some,Option.some.injEq] at h
  simp only [zaa]
  rw [h]
def zuv (w:Wheel) (l:List Int):Bool:=decide (l.length≠w.Coins.length) || l.any (fun x=>!inR x 0 12)
theorem znG {n:Nat} (hn:200<=n) (b:Box) (m:Nat) (i:Int) (l:List Int) (hi:i<3) (h0:0<=i) (hl:l.length<=40) (hc:b.Wheel.Coins.length<=40) (hx:idx ([b.Found,b.Marked,b.Slugs]:List (List Int)) i=some l) :
  zaS n b (m+1) i=if zuv b.Wheel l=true then some 50 else zaS n b m (i+1):=by
 simp only [zaS,zfk,zdL]
 rw [if_pos (by simpa using hi),hx,zaa,ztn zdK (fun x=>!inR x 0 12) l (fun x _=>by unfold zdK;rw [ziP,zaa]) (by omega) (by omega),zaa,zaI (x:=i+1) (by omega) (by omega)]
 unfold zuv
 by_cases h1:l.length=b.Wheel.Coins.length
 ·rw [if_neg (by simp;omega),show decide (l.length≠b.Wheel.Coins.length)=false by simp [h1],Bool.false_or]
 ·rw [if_pos (by simp;omega),show decide (l.length≠b.Wheel.Coins.length)=true by simp [h1],Bool.true_or]
  rfl
theorem zpE {w:Wheel} {l:List Int} (h:zuv w l=false):l.length=w.Coins.length/\l.all (fun x=>inR x 0 12)=true:=by
 simp only [zuv,Bool.or_eq_false_iff,decide_eq_false_iff_not,Decidable.not_not,List.any_eq_false,List.all_eq_true] at h ⊢
 exact ⟨h.1,fun x hx=>by simpa using h.2 x hx⟩
theorem zpF {w:Wheel} {l:List Int} (h1:l.length=w.Coins.length) (h2:l.all (fun x=>inR x 0 12)=true):zuv w l=false:=by
 rw [List.all_eq_true] at h2
 simp only [zuv,Bool.or_eq_false_iff,decide_eq_false_iff_not,Decidable.not_not,List.any_eq_false]
 exact ⟨h1,fun x hx=>by simp [h2 x hx]⟩
open Classical in
theorem zl8 (b:Box) (n:Nat) (hl:zqA b) (hn:200<=n):zfl n b=some (cond (zoE b) 0 50):=by
 obtain ⟨l1,l2,l3,l4,l5⟩:=hl
 have hol:zov n b.Wheel:=⟨by omega,by omega,by omega,by omega⟩
 have no:∀h:¬BoxOk b,(some 50:Option Int)=some (cond (zoE b) 0 50):=fun h=>by rw [ziu h];rfl
 have j1:zcQ n b true=some 50:=rfl
 unfold zfl
 rw [zqp hol,zaa]
 by_cases hv:valid b.Wheel=true
 ·rw [hv]
  show Option.bind _ _=_
  rw [ziP,zaa]
  by_cases hp:inR b.Plays 0 9999=true
  ·rw [if_neg (by simp [hp]),ziP,zaa]
   by_cases hs:inR b.Skips 0 9=true
   ·rw [hs]
    show zaS n b n 0=_
    obtain ⟨n,rfl⟩:∃q,n=q+4:=⟨n-4,by omega⟩
    have en:∀m i,zaS (n+4) b (m+1) i=zaS (n+4) b (m+1) i:=fun _ _=>rfl
    rw [show zaS (n+4) b (n+4) 0=zaS (n+4) b ((n+3)+1) 0 from rfl,znG hn b (n+3) 0 b.Found (by omega) (by omega) (by omega) l2 rfl]
    by_cases b1:zuv b.Wheel b.Found=true
    ·rw [if_pos b1]
     exact no fun h=>by rw [zpF (ze8 h.f).1 (zoF h.f)] at b1;cases b1
    rw [if_neg b1,show zaS (n+4) b (n+3) (0+1)=zaS (n+4) b ((n+2)+1) 1 from rfl,znG hn b (n+2) 1 b.Marked (by omega) (by omega) (by omega) l2 rfl]
    obtain ⟨f1,f2⟩:=zpE (by simpa using b1)
    by_cases b2:zuv b.Wheel b.Marked=true
    ·rw [if_pos b2]
     refine no fun h=>?_
     rw [zpF (by rw [h.ml];exact f1) (List.all_eq_true.2 fun x hx=>?_)] at b2
     ·cases b2
     ·obtain ⟨k,hk⟩:=List.getElem?_of_mem hx
      have hkl:k<b.Marked.length:=by
       rcases Nat.lt_or_ge k b.Marked.length with h1 | h1
       ·exact h1
       ·rw [List.getElem?_eq_none h1] at hk
        cases hk
      have h1:=h.mkd k (by have:=h.ml;omega)
      have h2:=(ze8 h.f).2.1 k
      rw [List.getD_eq_getElem?_getD,hk] at h1
      have h3:0<=x/\x<=b.Found.getD k 0:=h1
      exact zcf.2 ⟨h3.1,by omega⟩
    rw [if_neg b2,show zaS (n+4) b (n+2) (1+1)=zaS (n+4) b ((n+1)+1) 2 from rfl,znG hn b (n+1) 2 b.Slugs (by omega) (by omega) (by omega) l2 rfl]
    obtain ⟨m1,m2⟩:=zpE (by simpa using b2)
    by_cases b3:zuv b.Wheel b.Slugs=true
    ·rw [if_pos b3]
     exact no fun h=>by rw [zpF (ze8 h.g).1 (zoF h.g)] at b3;cases b3
    rw [if_neg b3]
    obtain ⟨g1,g2⟩:=zpE (by simpa using b3)
    have sm:∀{l:List Int},l.all (fun x=>inR x 0 12)=true->∀k,0<=l.getD k 0/\l.getD k 0<=12:=fun {l} h k=>by
     rw [List.all_eq_true] at h
     rw [List.getD_eq_getElem?_getD]
     cases hk:l[k]? with
     | none=>simp
     | some x=>exact zcf.1 (h x (List.mem_of_getElem? hk))
    have f3:=sm f2
    have g3:=sm g2
    have m3:=sm m2
    show zbA b (n+4) 0 0=_
    have key:∀(d i m:Nat) (v:Int),d=b.Found.length-i->i<=b.Found.length->d<m->0<=v->v<=100*i->zbA b m v (i:Int)=some (if (∀k,i<=k->k<b.Found.length->b.Marked.getD k 0<=b.Found.getD k 0)/\v+total (b.Found.drop i)+total (b.Slugs.drop i)<=12 then 0 else 50):=by
     intro d
     induction d with
     | zero =>
      intro i m v hd hi hm h0 h1
      obtain ⟨m,rfl⟩:∃q,m=q+1:=⟨m-1,by omega⟩
      simp only [zbA,zd1,zeV]
      have e1:total (b.Found.drop i)=0:=by rw [List.drop_eq_nil_of_le (by omega)];rfl
      have e2:total (b.Slugs.drop i)=0:=by rw [List.drop_eq_nil_of_le (by omega)];rfl
      rw [if_neg (by simp;omega)]
      by_cases ht:v>12
      ·rw [if_pos (by simpa using ht),if_neg fun h=>by omega]
      ·rw [if_neg (by simpa using ht),if_pos ⟨fun k h1 h2=>by omega,by omega⟩]
     | succ d ih =>
      intro i m v hd hi hm h0 h1
      obtain ⟨m,rfl⟩:∃q,m=q+1:=⟨m-1,by omega⟩
      have fi:=f3 i
      have gi:=g3 i
      simp only [zbA,zd1]
      rw [if_pos (by simp;omega),zb2 (by omega),zaa,zb2 (by omega),zaa,getD_get,getD_get]
      by_cases hq:b.Marked.getD i 0>b.Found.getD i 0
      ·rw [if_pos (by simpa using hq),if_neg fun h=>by have:=h.1 i (Nat.le_refl _) (by omega);omega]
      ·rw [if_neg (by simpa using hq),zb2 (by omega),zaa,getD_get,zaI (x:=b.Found.getD i 0+b.Slugs.getD i 0) (by omega) (by omega),zaI (x:=v+_) (by omega) (by omega),zaI (x:=(i:Int)+1) (by omega) (by omega)]
       have:=ih (i+1) m (v+(b.Found.getD i 0+b.Slugs.getD i 0)) (by omega) (by omega) (by omega) (by omega) (by omega)
       rw [show (((i+1:Nat)):Int)=(i:Int)+1 by simp] at this
       have e1:total (b.Found.drop i)=b.Found.getD i 0+total (b.Found.drop (i+1)):=by rw [List.drop_eq_getElem_cons (l:=b.Found) (i:=i) (by omega),getD_get];rfl
       have e2:total (b.Slugs.drop i)=b.Slugs.getD i 0+total (b.Slugs.drop (i+1)):=by rw [List.drop_eq_getElem_cons (l:=b.Slugs) (i:=i) (by omega),getD_get];rfl
       rw [this]
       congr 1
       by_cases hR:(∀k,i+1<=k->k<b.Found.length->b.Marked.getD k 0<=b.Found.getD k 0)/\v+(b.Found.getD i 0+b.Slugs.getD i 0)+total (b.Found.drop (i+1))+total (b.Slugs.drop (i+1))<=12
       ·have hall:∀k,i<=k->k<b.Found.length->b.Marked.getD k 0<=b.Found.getD k 0:=fun k h1 h2=>by
         by_cases e:k=i
         ·subst e
          omega
         ·exact hR.1 k (by omega) h2
        rw [if_pos hR,if_pos ⟨hall,by have:=hR.2;omega⟩]
       ·rw [if_neg hR,if_neg fun h=>hR ⟨fun k h1 h2=>h.1 k (by omega) h2,by have:=h.2;omega⟩]
    rw [show zbA b (n+4) 0 0=_ from key b.Found.length 0 (n+4) 0 (by omega) (by omega) (by omega) (by omega) (by omega)]
    simp only [List.drop_zero,Int.zero_add]
    have nnf:∀x,x∈b.Found->0<=x:=zfA fun k=>(f3 k).1
    have nng:∀x,x∈b.Slugs->0<=x:=zfA fun k=>(g3 k).1
    by_cases hR:(∀k,0<=k->k<b.Found.length->b.Marked.getD k 0<=b.Found.getD k 0)/\total b.Found+total b.Slugs<=12
    ·have tf:=ze5 nnf
     have tg:=ze5 nng
     rw [if_pos hR,zgs.2 ⟨hv,hp,hs,by simp only [zdY,Bool.and_eq_true,decide_eq_true_eq];exact ⟨⟨f1,f2⟩,by have:=hR.2;omega⟩,by simp only [zdY,Bool.and_eq_true,decide_eq_true_eq];exact ⟨⟨g1,g2⟩,by have:=hR.2;omega⟩,by omega,fun k hk=>⟨(m3 k).1,hR.1 k (Nat.zero_le _) hk⟩,hR.2⟩]
     rfl
    ·rw [if_neg hR]
     exact no fun h=>hR ⟨fun k _ hk=>(h.mkd k hk).2,h.t⟩
   ·rw [show (!inR b.Skips 0 9)=true by simpa using hs,j1]
    exact no fun h=>hs h.s
  ·rw [if_pos (by simpa using hp),j1]
   exact no fun h=>hp h.p
 ·rw [show valid b.Wheel=false by simpa using hv]
  exact no fun h=>hv h.v
def zcD (b:Box):List Int:=sums b.Found b.Slugs
structure Near (b:Box):Prop where
 ok:BoxOk b
 k3:b.Wheel.Coins.length<=3
 t3:total b.Found+total b.Slugs<=3
theorem znH {l:List Int} {k j:Nat} {v:Int} (hk:k<l.length):(l.set k v).getD j 0=if k=j then v else l.getD j 0:=by
 by_cases e:k=j
 ·subst e
  rw [if_pos rfl,List.getD_eq_getElem?_getD,List.getElem?_set_self hk]
  rfl
 ·rw [if_neg e,List.getD_eq_getElem?_getD,List.getElem?_set_ne e,←List.getD_eq_getElem?_getD]
structure NearF (b:Box):Prop where
 fl:b.Found.length=b.Wheel.Coins.length
 sl:b.Slugs.length=b.Wheel.Coins.length
 ml:b.Marked.length=b.Wheel.Coins.length
 f:∀k,0<=b.Found.getD k 0/\b.Found.getD k 0<=12
 s:∀k,0<=b.Slugs.getD k 0/\b.Slugs.getD k 0<=12
 m:∀k,0<=b.Marked.getD k 0/\b.Marked.getD k 0<=12
 p:0<=b.Plays/\b.Plays<=9999
 k:0<=b.Skips/\b.Skips<=9
 h:OkW b.Wheel
theorem BoxOk.far {b:Box} (N:BoxOk b):NearF b:=by
 obtain ⟨f1,f2,f3⟩:=ze8 N.f
 obtain ⟨g1,g2,g3⟩:=ze8 N.g
 refine ⟨f1,g1,by rw [N.ml];exact f1,f2,g2,fun k=>?_,zcf.1 N.p,zcf.1 N.s,zhd N.v⟩
 rcases Nat.lt_or_ge k b.Found.length with h | h
 ·have:=N.mkd k h
  have:=f2 k
  omega
 ·rw [List.getD_eq_getElem?_getD,List.getElem?_eq_none (by rw [N.ml];exact h)]
  simp
theorem ziv {b:Box} (F:NearF b):(zcD b).length=b.Wheel.Coins.length:=by rw [zcD,zfB (by rw [F.sl,F.fl]),F.fl]
theorem zj1 {b:Box} (F:NearF b) (k:Nat):(zcD b).getD k 0=b.Found.getD k 0+b.Slugs.getD k 0:=zfC (by rw [F.sl,F.fl]) k
theorem ziw {b:Box} (F:NearF b):total (zcD b)=total b.Found+total b.Slugs:=zfV (by rw [F.sl,F.fl])
structure More (b:Box) (P:List Int):Prop where
 l:P.length=b.Wheel.Coins.length
 nn:∀k,0<=P.getD k 0
 t:total P<=2
theorem More.small {b:Box} {P:List Int} (h:More b P):∀k,0<=P.getD k 0/\P.getD k 0<=2:=fun k=>by
 have:=zhl (zfA h.nn) k
 have:=h.t
 omega
theorem Near.cx0 {b:Box} (N:Near b):Cx b.Wheel (zcD b) :=
 have F:=N.ok.far
 ⟨N.ok.v,ziv F,fun k=>by rw [zj1 F];have:=F.f k;have:=F.s k;omega,N.k3,by rw [ziw F];have:=N.t3;omega⟩
theorem Near.cx {b:Box} (N:Near b) {P:List Int} (h:More b P):Cx b.Wheel (sums (zcD b) P) :=
 have F:=N.ok.far
 have e:P.length=(zcD b).length:=by rw [h.l,ziv F]
 ⟨N.ok.v,by rw [zfB e,ziv F],fun k=>by rw [zfC e,zj1 F];have:=F.f k;have:=F.s k;have:=h.nn k;omega,N.k3,by rw [zfV e,ziw F];have:=N.t3;have:=h.t;omega⟩
theorem put_eq {b:Box} (F:NearF b) (h4:b.Wheel.Coins.length<=4) {n:Nat} (hn:10<=n):zek n (some ⟨b⟩)=some (zb8 (zcD b)):=by
 have hfl:=F.fl
 have hsl:=F.sl
 have key:∀(d i m:Nat) (Q:List Int),d=b.Found.length-i->i<=b.Found.length->d<m->Q.length=b.Found.length->(∀k:Nat,k<i->Q.getD k 0=b.Found.getD k 0+b.Slugs.getD k 0)->zbY (some ⟨b⟩) ⟨b⟩ m (i:Int) (Q.getD 0 0) (Q.getD 1 0) (Q.getD 2 0) (Q.getD 3 0)=some (zb8 (zcD b)):=by
  intro d
  induction d with
  | zero =>
   intro i m Q hd hi hm hQ hk
   obtain ⟨m,rfl⟩:∃q,m=q+1:=⟨m-1,by omega⟩
   simp only [zbY,zdg,zd3]
   have e:Q=zcD b:=zc4 (n:=b.Found.length) hQ (by rw [ziv F,F.fl]) fun k hk'=>by rw [hk k (by omega),zj1 F]
   rw [if_neg (by simp;omega),e]
   rfl
  | succ d ih =>
   intro i m Q hd hi hm hQ hk
   obtain ⟨m,rfl⟩:∃q,m=q+1:=⟨m-1,by omega⟩
   have h1:=F.f i
   have h2:=F.s i
   simp only [zbY,zdg]
   rw [if_pos (by simp;omega),show idx b.Found (i:Int)=some (b.Found.getD i 0) by rw [zb2 (by omega),getD_get],zaa,zaa,show idx (⟨b⟩:Box_).Box.Slugs (i:Int)=some (b.Slugs.getD i 0) by show idx b.Slugs (i:Int)=_;rw [zb2 (by omega),getD_get],zaa,show idx ([Q.getD 0 0,Q.getD 1 0,Q.getD 2 0,Q.getD 3 0]:List Int) (i:Int)=some (Q.getD i 0) from zlX (by omega),zaa,zaI (x:=b.Found.getD i 0+_) (by omega) (by omega),show ztE ([Q.getD 0 0,Q.getD 1 0,Q.getD 2 0,Q.getD 3 0]:List Int) (i:Int) (b.Found.getD i 0+b.Slugs.getD i 0)=some (zu4 (Q.set i (b.Found.getD i 0+b.Slugs.getD i 0))) from zpz (by omega) (by omega),zaa,zaI (x:=(i:Int)+1) (by omega) (by omega)]
   have:=ih (i+1) m (Q.set i (b.Found.getD i 0+b.Slugs.getD i 0)) (by omega) (by omega) (by omega) (by simp [hQ]) fun k hk'=>by
    rw [znH (by omega)]
    by_cases e:i=k
    ·subst e
     rw [if_pos rfl]
    ·rw [if_neg e,hk k (by omega)]
   rw [show (((i+1:Nat)):Int)=(i:Int)+1 by simp] at this
   exact this
 have:=key b.Found.length 0 n (List.replicate b.Found.length 0) (by omega) (by omega) (by omega) (by simp) fun k hk=>by omega
 have hz:∀k,(List.replicate b.Found.length (0:Int)).getD k 0=0:=fun k=>by
  rw [List.getD_eq_getElem?_getD,List.getElem?_replicate]
  split<;>rfl
 simp only [hz] at this
 exact this
theorem zoG {b:Box} {P base:List Int} (hP:More b P) (hb:base.length=b.Wheel.Coins.length) (hs:zfD base) (h4:b.Wheel.Coins.length<=4) {n:Nat} (hn:10<=n):zbM P n 0 (zb8 base)=some (zb8 (sums base P)):=by
 have hl:=hP.l
 have key:∀(d i m:Nat) (Q:List Int),d=P.length-i->i<=P.length->d<m->Q.length=P.length->(∀k:Nat,k<i->Q.getD k 0=base.getD k 0+P.getD k 0)->(∀k:Nat,i<=k->Q.getD k 0=base.getD k 0)->zbM P m (i:Int) (zb8 Q)=some (zb8 (sums base P)):=by
  intro d
  induction d with
  | zero =>
   intro i m Q hd hi hm hQ hk _
   obtain ⟨m,rfl⟩:∃q,m=q+1:=⟨m-1,by omega⟩
   simp only [zbM]
   have e:Q=sums base P:=zc4 (n:=P.length) hQ (by rw [zfB (by omega)];omega) fun k hk'=>by rw [hk k (by omega),zfC (by omega)]
   rw [if_neg (by simp;omega),e]
  | succ d ih =>
   intro i m Q hd hi hm hQ hk hk2
   obtain ⟨m,rfl⟩:∃q,m=q+1:=⟨m-1,by omega⟩
   have h1:=hs i
   have h2:=hP.small i
   have h3:=hk2 i (Nat.le_refl _)
   simp only [zbM]
   rw [if_pos (by simp;omega),zb2 (by omega),zaa,getD_get,show idx ([(zb8 Q).c0,(zb8 Q).c1,(zb8 Q).c2,(zb8 Q).c3]:List Int) (i:Int)=some (Q.getD i 0) from zlX (by omega),zaa,zaI (x:=Q.getD i 0+_) (by omega) (by omega),show ztE ([(zb8 Q).c0,(zb8 Q).c1,(zb8 Q).c2,(zb8 Q).c3]:List Int) (i:Int) (Q.getD i 0+P.getD i 0)=some (zu4 (Q.set i (Q.getD i 0+P.getD i 0))) from zpz (by omega) (by omega),zaa,zaI (x:=(i:Int)+1) (by omega) (by omega)]
   have:=ih (i+1) m (Q.set i (Q.getD i 0+P.getD i 0)) (by omega) (by omega) (by omega) (by simp [hQ]) (fun k hk'=>by
    rw [znH (by omega)]
    by_cases e:i=k
    ·subst e
     rw [if_pos rfl,h3]
    ·rw [if_neg e,hk k (by omega)]) fun k hk'=>by
    rw [znH (by omega),if_neg (by omega),hk2 k (by omega)]
   rw [show (((i+1:Nat)):Int)=(i:Int)+1 by simp] at this
   exact this
 exact key P.length 0 n base (by omega) (by omega) (by omega) (by omega) (fun k hk=>by omega) fun k _=>rfl
theorem zj2 {n:Nat} {b:Box} (h:OkW b.Wheel) (hn:100<=n) {l:List Int} (hlen:l.length=b.Wheel.Coins.length) (hl:zfD l):zbg n (some ⟨b⟩) l=some (zcN b.Wheel l):=by
 have h4:=h.clen
 have key:∀(d i m:Nat) (s:Int),d=b.Wheel.Coins.length-i->i<=b.Wheel.Coins.length->d<m->0<=s->s+100000*d<=1000000->zbt (some ⟨b⟩) l m s (i:Int)=some (s+zrN b.Wheel l d i):=by
  intro d
  induction d with
  | zero =>
   intro i m s hd hi hm hs hs2
   obtain ⟨m,rfl⟩:∃q,m=q+1:=⟨m-1,by omega⟩
   simp only [zbt,zcO,zdh,zrN]
   rw [if_neg (by simp;omega),Int.add_zero]
  | succ d ih =>
   intro i m s hd hi hm hs hs2
   obtain ⟨m,rfl⟩:∃q,m=q+1:=⟨m-1,by omega⟩
   have ht:=zvQ h hl (show i<b.Wheel.Coins.length by omega)
   simp only [zbt,zcO,zrN]
   rw [if_pos (by simp;omega),zb2 (by omega),zaa,zaa,show idx (⟨b⟩:Box_).Box.Wheel.Coins (i:Int)=some (coin b.Wheel i) from zkZ (w:=b.Wheel) (by omega) (by omega),zaa,getD_get,Int.mul_comm,zaI (x:=coin b.Wheel i*_) (by omega) (by omega),zaI (x:=s+_) (by omega) (by omega),zaI (x:=(i:Int)+1) (by omega) (by omega)]
   have:=ih (i+1) m (s+coin b.Wheel i*l.getD i 0) (by omega) (by omega) (by omega) (by omega) (by omega)
   rw [show (((i+1:Nat)):Int)=(i:Int)+1 by simp] at this
   rw [this]
   congr 1
   omega
 have:=key b.Wheel.Coins.length 0 n 0 (by omega) (by omega) (by omega) (by omega) (by omega)
 rw [Int.zero_add] at this
 exact this
def zku (w:Wheel) (al L:List Int):Prop:=L.Pairwise (·<·)/\∀v,v∈L↔Can w al v
theorem zto:∀{L:List Int},L.Pairwise (·<=·)->L.Nodup->L.Pairwise (·<·)
 | [],_,_=>.nil
 | x::L,h,hn=>by
  rw [List.pairwise_cons] at h ⊢
  rw [List.nodup_cons] at hn
  refine ⟨fun y hy=>?_,zto h.2 hn.2⟩
  have:=h.1 y hy
  rcases Int.lt_or_eq_of_le this with h1 | h1
  ·exact h1
  ·subst h1
   exact absurd hy hn.1
theorem zva:∀{L L':List Int},L.Pairwise (·<·)->L'.Pairwise (·<·)->(∀v,v∈L↔v∈L')->L=L'
 | [],[],_,_,_=>rfl
 | [],y::_,_,_,h=>absurd ((h y).2 (by simp)) (by simp)
 | x::_,[],_,_,h=>absurd ((h x).1 (by simp)) (by simp)
 | x::L,y::L',h1,h2,h=>by
  rw [List.pairwise_cons] at h1 h2
  have e:x=y:=by
   have hx:=(h x).1 (by simp)
   have hy:=(h y).2 (by simp)
   rcases List.mem_cons.1 hx with e | hx
   ·exact e
   ·rcases List.mem_cons.1 hy with e | hy
    ·exact e.symm
    ·have:=h1.1 y hy
     have:=h2.1 x hx
     omega
  subst e
  congr 1
  refine zva h1.2 h2.2 fun v=>⟨fun hv=>?_,fun hv=>?_⟩
  ·rcases List.mem_cons.1 ((h v).1 (List.mem_cons_of_mem _ hv)) with e | hv'
   ·have:=h1.1 v hv
    omega
   ·exact hv'
  ·rcases List.mem_cons.1 ((h v).2 (List.mem_cons_of_mem _ hv)) with e | hv'
   ·have:=h2.1 v hv
    omega
   ·exact hv'
theorem zku.eq {w:Wheel} {al L L':List Int} (h:zku w al L) (h':zku w al L'):L=L':=zva h.1 h'.1 fun v=>by rw [h.2,h'.2]
theorem ztp {w:Wheel} {al K:List Int} (hn:K.Nodup) (h:∀v,v∈K↔Can w al v):zku w al (zfK K) :=
 ⟨zto (zgm K) ((zeC K).nodup_iff.2 hn),fun v=>by rw [(zeC K).mem_iff];exact h v⟩
theorem zqB {w:Wheel} {al:List Int} (C:Cx w al) {A M} (hW:WI w al A M) (hall:∀acts X,RP (clT (total al)) w al acts X->zcz M (pnt X)=true) :
  zjw M=true/\EndsOk (zb8 al) (M.map (·.1)) (zfb (zb8 al) M)/\zku w al (zfK ((zfb (zb8 al) M).map (·.1)))/\(∀v,v∈(zfb (zb8 al) M).map (·.1)->okI v=true):=by
 have hE:EndsOk (zb8 al) (M.map (·.1)) (zfb (zb8 al) M):=zlE (zb8 al) (M.map (·.1))
 have hkey:∀o,o∈M.map (·.1)->∃X,o=pnt X/\RP (clT (total al)) w al (A o) X:=fun o ho=>hW.key (zbk.2 ho)
 have hmem:∀v,v∈(zfb (zb8 al) M).map (·.1)↔∃acts X,RP (clT (total al)) w al acts X/\X.l=al/\X.b=v:=fun v=>by
  constructor
  ·intro hv
   obtain ⟨⟨b,o⟩,ho,rfl⟩:=List.mem_map.1 hv
   obtain ⟨h1,h2,h3,_⟩:=(hE.mem b o).1 ho
   obtain ⟨X,rfl,hr⟩:=hkey o h1
   refine ⟨_,X,hr,znB h2 (by rw [(zoT C hr).1.len,C.hl]) (by rw [(zoT C hr).1.len];have:=C.k3;omega),h3⟩
  ·rintro ⟨acts,X,hr,rfl,rfl⟩
   exact zbk.1 (hE.has (pnt X) (zbk.1 (hall acts X hr)) rfl)
 refine ⟨?_,hE,ztp hE.nd fun v=>by rw [hmem,zzo C.h C.hl C.nn],fun v hv=>?_⟩
 ·unfold zjw
  rw [Bool.and_eq_true]
  refine ⟨List.all_eq_true.2 fun p hp=>?_,decide_eq_true (by have:=hW.len C;omega)⟩
  obtain ⟨X,e,hr⟩:=(hW.pt p.1 p.2 hp).1
  rw [e]
  have:=(zoT C hr).2.2.2
  unfold zbK at this
  simp only [List.all_cons,List.all_nil,Bool.and_true,Bool.and_eq_true] at this
  exact this.2.2.2.2.2.2
 ·obtain ⟨acts,X,hr,_,rfl⟩:=(hmem v).1 hv
  have h1:=zoT C hr
  have h2:=h1.1.bt
  have h3:=h1.1.cb
  have h4:=h1.1.c0
  have h5:=C.t5
  exact zhe (by omega) (by omega)
theorem zoH {b:Box} (N:Near b) {n:Nat} (hn:100000<=n):∃L,zdq n (some ⟨b⟩)=some L/\zku b.Wheel (zcD b) L:=by
 have h3:=N.k3
 obtain ⟨A,M,h1,hW,hall⟩:=ztk N.cx0 hn (b:=⟨b⟩) rfl
 obtain ⟨s1,s2,s3,s4⟩:=zqB N.cx0 hW hall
 refine ⟨_,?_,s3⟩
 unfold zdq
 rw [put_eq N.ok.far (by omega) (by omega),zaa,h1,zaa,zaa,if_pos s1]
def znI (b:Box) (al:List Int):Prop:=∃v,Can b.Wheel al v/\b.Plays<=v/\v<=b.Plays+b.Skips
structure ExplOk (b:Box) (al acts:List Int):Prop where
 ok:acts.all (zff b.Wheel)=true
 len:(acts.length:Int)<=2*total al
 bag:∀k:Nat,k<b.Wheel.Coins.length->cnt k acts=al.getD k 0
 pl:b.Plays<=zeI b.Wheel ⟨0,0⟩ acts
 pl2:zeI b.Wheel ⟨0,0⟩ acts<=b.Plays+b.Skips
theorem ExplOk.ex {b:Box} {al acts:List Int} (h:ExplOk b al acts):znI b al:=⟨_,⟨acts,h.ok,h.bag,rfl⟩,h.pl,h.pl2⟩
theorem zrG {b:Box} (N:Near b) {P:List Int} (hP:More b P) {n:Nat} (hn:100000<=n):∃r,zcc n (some ⟨b⟩) P=some r/\(r.2=true/\ExplOk b (sums (zcD b) P) r.1\/r.2=false/\¬znI b (sums (zcD b) P)):=by
 have h3:=N.k3
 have F:=N.ok.far
 have hpl:=F.p
 have hsk:=F.k
 have hpt:=F.f
 have C:=N.cx hP
 obtain ⟨A,M,h1,hW,hall⟩:=ztk C hn (b:=⟨b⟩) rfl
 obtain ⟨s1,s2,s3,s4⟩:=zqB C hW hall
 unfold zcc
 rw [zaa,put_eq F (by omega) (by omega),zaa,zoG hP (ziv F) (fun k=>by rw [zj1 F];have:=F.f k;have:=F.s k;omega) (by omega) (by omega),zaa,h1,zaa,if_pos s1]
 generalize hal:sums (zcD b) P=al at *
 generalize hE:zfb (zb8 al) M=E at *
 generalize hbs:zfK (E.map (·.1))=bs at *
 have hbl:bs.length<=93312:=by
  rw [←hbs,(zeC _).length_eq,List.length_map,←hE]
  have:=zkY (al:=zb8 al) (M.map (·.1)) []
  simp only [List.length_map,List.length_nil] at this
  have:=hW.len C
  unfold zfb
  omega
 have key:∀(d i m:Nat),d=bs.length-i->i<=bs.length->d<m->(∀v,v∈bs->v∈bs.drop i\/¬(b.Plays<=v/\v<=b.Plays+b.Skips))->∃r,zbN n ⟨b⟩ M E bs m (i:Int)=some r/\(r.2=true/\ExplOk b al r.1\/r.2=false/\¬znI b al):=by
  intro d
  induction d with
  | zero =>
   intro i m hd hi hm hv
   obtain ⟨m,rfl⟩:∃q,m=q+1:=⟨m-1,by omega⟩
   simp only [zbN]
   rw [if_neg (by simp;omega)]
   refine ⟨_,rfl,.inr ⟨rfl,?_⟩⟩
   rintro ⟨v,h1,h2⟩
   rcases hv v ((s3.2 v).2 h1) with h | h
   ·rw [List.drop_eq_nil_of_le (by omega)] at h
    simp at h
   ·exact h h2
  | succ d ih =>
   intro i m hd hi hm hv
   obtain ⟨m,rfl⟩:∃q,m=q+1:=⟨m-1,by omega⟩
   simp only [zbN]
   have hdr:bs.drop i=bs.getD i 0::bs.drop (i+1):=by rw [List.drop_eq_getElem_cons (l:=bs) (i:=i) (by omega),getD_get]
   have hbm:bs.getD i 0∈bs:=by
    rw [←getD_get (by omega)]
    exact List.getElem_mem (by omega)
   rw [if_pos (by simp;omega),zb2 (by omega),zaa,getD_get,ziP,zaa,zaI (x:=b.Plays+b.Skips) (by omega) (by omega),zaI (x:=(i:Int)+1) (by omega) (by omega)]
   generalize hx:bs.getD i 0=x at *
   by_cases hq:inR x b.Plays (b.Plays+b.Skips)=true
   ·rw [if_neg (by rw [hq];simp)]
    have hxk:x∈E.map (·.1):=by
     rw [←hbs,(zeC _).mem_iff] at hbm
     exact hbm
    have hmx:zcz E x=true:=zbk.2 hxk
    have hok:mok okI E x=true:=by
     unfold Go.AM.mok
     rw [s4 x hxk,Bool.true_and,Bool.and_eq_true]
     exact ⟨List.all_eq_true.2 fun p hp=>s4 p.1 (List.mem_map.2 ⟨p,hp,rfl⟩),decide_eq_true s2.nd⟩
    rw [show zhp okI zaP E x=some (zhC zaP E x) from if_pos hok,zaa]
    obtain ⟨p1,p2,p3,_⟩:=(s2.mem _ _).1 (zhx zaP hmx)
    have hmp:=zbk.2 p1
    obtain ⟨X,e,hr⟩:=hW.key hmp
    obtain ⟨hX,ht,hk,hokp⟩:=zoT C hr
    generalize hp:zhC zaP E x=p at *
    subst e
    have hXl:X.l=al:=znB p2 (by rw [hX.len,C.hl]) (by rw [hX.len];omega)
    have hsh:=hr.short C.h C.hl C.nn
    have hlen:((A (pnt X)).length:Int)<=2*total al:=by
     rcases hsh.2 with h | ⟨_,h,_⟩
     ·rw [hXl] at h
      exact h
     ·rw [hXl] at h
      omega
    have ht5:=C.t5
    rw [show zhp zbK zba M (pnt X)=some (zhC zba M (pnt X)) from if_pos (hW.mok C hr),zaa,ztl C hW n hmp (by omega) (by simp;omega),zaa]
    refine ⟨_,rfl,.inl ⟨rfl,?_⟩⟩
    simp only [List.nil_append,List.reverse_reverse]
    have hb:zeI b.Wheel ⟨0,0⟩ (A (pnt X))=x:=by rw [hX.buys];exact p3
    have hq:=zcf.1 hq
    exact ⟨hX.ok,hlen,fun k _=>by rw [hX.bag k,hXl],by rw [hb];exact hq.1,by rw [hb];exact hq.2⟩
   ·rw [if_pos (by simpa using hq)]
    have:=ih (i+1) m (by omega) (by omega) (by omega) fun v hvm=>by
     rcases hv v hvm with h | h
     ·rw [hdr] at h
      rcases List.mem_cons.1 h with rfl | h
      ·exact .inr fun hh=>hq (zcf.2 hh)
      ·exact .inl h
     ·exact .inr h
    rw [show (((i+1:Nat)):Int)=(i:Int)+1 by simp] at this
    exact this
 exact key bs.length 0 n (by omega) (by omega) (by omega) fun v hv=>.inl (by simpa using hv)
def zj3:Nat->List Int->Nat->List (List Int)
 | 0,p,_=>[p]
 | d+1,p,t=>(upF 0 (t+1)).flatMap fun v=>zj3 d (p++[v]) (t-v.toNat)
def zl9 {S:Type} (F:List Int->S->Option (Unit×S)):List (List Int)->S->Option S
 | [],s=>some s
 | x::l,s=>(F x s).bind fun r=>zl9 F l r.2
theorem zkG {S:Type} (F:List Int->S->Option (Unit×S)):∀(a b:List (List Int)) (s:S),zl9 F (a++b) s=(zl9 F a s).bind fun s=>zl9 F b s
 | [],b,s=>rfl
 | x::a,b,s=>by
  simp only [List.cons_append,zl9]
  cases F x s with
  | none=>rfl
  | some r =>
   simp only [Option.bind_some]
   exact zkG F a b r.2
theorem ztq {S:Type} (F:List Int->S->Option (Unit×S)) {b:Box} (h4:b.Wheel.Coins.length<=4):∀(d:Nat) (p:List Int) (t n:Nat) (s:S),p.length+d=b.Wheel.Coins.length->t<=2->d+10<=n->zbB n F (some ⟨b⟩) p (t:Int) s=(zl9 F (zj3 d p t) s).map fun s=>((),s)
 | d,p,t,0,s,_,_,hn=>absurd hn (by omega)
 | 0,p,t,n+1,s,hp,ht,hn=>by
  simp only [zbB,zcV]
  rw [zaa,if_pos (by simp;omega)]
  simp only [zj3,zl9]
  cases F p s<;>rfl
 | d+1,p,t,n+1,s,hp,ht,hn=>by
  simp only [zbB,zcV]
  rw [zaa,if_neg (by simp;omega)]
  have loop:∀(e i m:Nat) (s:S),i+e=t+1->e<m->zbC (zbB n F) (some ⟨b⟩) p (t:Int) m (i:Int) s=(zl9 F ((upF i e).flatMap fun v=>zj3 d (p++[v]) (t-v.toNat)) s).map fun s=>((),s):=by
   intro e
   induction e with
   | zero =>
    intro i m s hi hm
    obtain ⟨m,rfl⟩:∃q,m=q+1:=⟨m-1,by omega⟩
    simp only [zbC,zcm]
    rw [zaI (by omega) (by omega),if_neg (by simp;omega)]
    rfl
   | succ e ih =>
    intro i m s hi hm
    obtain ⟨m,rfl⟩:∃q,m=q+1:=⟨m-1,by omega⟩
    simp only [zbC,zcm,slices_Clone_int]
    have hrec:=ztq F h4 d (p++[(i:Int)]) (t-i) n s (by simp;omega) (by omega) (by omega)
    rw [show ((t-i:Nat):Int)=(t:Int)-(i:Int) by omega] at hrec
    rw [zaI (x:=(t:Int)+1) (by omega) (by omega),if_pos (by simp;omega),zko (by omega),zaa,zgp (by simp;omega),zaa,zaI (x:=(t:Int)-i) (by omega) (by omega),zaI (x:=(i:Int)+1) (by omega) (by omega),hrec]
    simp only [upF,List.flatMap_cons,zkG,Int.toNat_natCast]
    cases zl9 F (zj3 d (p++[(i:Int)]) (t-i)) s with
    | none=>rfl
    | some s' =>
     have:=ih (i+1) m s' (by omega) (by omega)
     rw [show (((i+1:Nat)):Int)=(i:Int)+1 by simp] at this
     simp only [Option.map_some,Option.bind_some]
     exact this
  exact loop (t+1) 0 n s (by omega) (by omega)
theorem zma:∀(d:Nat) (p:List Int) (t:Nat) (P:List Int),P∈zj3 d p t↔∃r,P=p++r/\r.length=d/\(∀k,0<=r.getD k 0)/\total r<=t
 | 0,p,t,P=>by
  simp only [zj3,List.mem_singleton]
  constructor
  ·rintro rfl
   exact ⟨[],by simp,rfl,fun k=>by simp,by simp [total]⟩
  ·rintro ⟨r,rfl,h,_⟩
   obtain rfl:=List.eq_nil_of_length_eq_zero h
   simp
 | d+1,p,t,P=>by
  simp only [zj3,List.mem_flatMap]
  constructor
  ·rintro ⟨v,hv,hP⟩
   have hv:=zl1.1 hv
   obtain ⟨r,rfl,h1,h2,h3⟩:=(zma d _ _ P).1 hP
   refine ⟨v::r,by simp,by simp [h1],fun k=>?_,?_⟩
   ·cases k with
    | zero =>
     show 0<=v
     omega
    | succ k=>simpa using h2 k
   ·simp only [total]
    omega
  ·rintro ⟨r,rfl,h1,h2,h3⟩
   cases r with
   | nil=>simp at h1
   | cons v r =>
    have hv:0<=v:=h2 0
    have hr:∀k,0<=r.getD k 0:=fun k=>by simpa using h2 (k+1)
    have ht:=ze5 (zfA hr)
    simp only [total] at h3
    exact ⟨v,zl1.2 ⟨by omega,by omega⟩,(zma d _ _ _).2 ⟨r,by simp,by simpa using h1,hr,by omega⟩⟩
theorem zmb {b:Box} {P:List Int}:P∈zj3 b.Wheel.Coins.length [] 2↔More b P:=by
 rw [zma]
 constructor
 ·rintro ⟨r,rfl,h1,h2,h3⟩
  exact ⟨by simpa using h1,by simpa using h2,by simpa using h3⟩
 ·rintro ⟨h1,h2,h3⟩
  exact ⟨P,by simp,h1,h2,h3⟩
theorem zoI:∀(d:Nat) (p:List Int) (t:Nat),t<=2->(zj3 d p t).length<=3 ^ d
 | 0,p,t,_=>by simp [zj3]
 | d+1,p,t,ht=>by
  simp only [zj3]
  refine Nat.le_trans (zkt (c:=3 ^ d) fun v _=>zoI d _ _ (by omega)) ?_
  rw [zl2,Nat.pow_succ,Nat.mul_comm]
  exact Nat.mul_le_mul_left _ (by omega)
structure GInv (b:Box) (xs:List (List Int)) (gs:List Gap_):Prop where
 len:gs.length<=xs.length
 mem:∀g,g∈gs->More b g.purse/\ExplOk b (sums (zcD b) g.purse) g.acts
 eq:∀g,g∈gs->∀h,h∈gs->zcN b.Wheel g.purse=zcN b.Wheel h.purse
 le:∀P,P∈xs->znI b (sums (zcD b) P)->∃g,g∈gs/\zcN b.Wheel g.purse<=zcN b.Wheel P
theorem zk0 {b:Box} {P:List Int} (h:More b P):zfD P:=fun k=>by have:=h.small k;omega
theorem zoJ {b:Box} (N:Near b) {n:Nat} (hn:100000<=n) {xs:List (List Int)} {gs:List Gap_} {P:List Int} (hP:More b P) (hx:xs.length<=100) (h:GInv b xs gs):∃gs',zaO n (some ⟨b⟩) P gs=some ((),gs')/\GInv b (xs++[P]) gs':=by
 obtain ⟨r,hr,hc⟩:=zrG N hP hn
 have hw:=fun {l} (hl:More b l)=>zj2 N.ok.far.h (show 100<=n by omega) hl.l (zk0 hl)
 have skip:r.2=false->¬znI b (sums (zcD b) P):=fun e=>by
  rcases hc with ⟨h1,_⟩ | ⟨_,h2⟩
  ·rw [e] at h1
   cases h1
  ·exact h2
 have take:r.2=true->ExplOk b (sums (zcD b) P) r.1:=fun e=>by
  rcases hc with ⟨_,h2⟩ | ⟨h1,_⟩
  ·exact h2
  ·rw [e] at h1
   cases h1
 have keep:¬znI b (sums (zcD b) P)->GInv b (xs++[P]) gs:=fun hno=>⟨by have:=h.len;simp;omega,h.mem,h.eq,fun Q hQ hE=>by
  rcases List.mem_append.1 hQ with hQ | hQ
  ·exact h.le Q hQ hE
  ·obtain rfl:=List.mem_singleton.1 hQ
   exact absurd hE hno⟩
 cases gs with
 | nil =>
  simp only [zaO]
  rw [hr,zaa]
  cases e:r.2 with
  | false =>
   rw [if_pos (by rfl)]
   exact ⟨_,rfl,keep (skip e)⟩
  | true =>
   rw [if_neg (by simp)]
   refine ⟨_,rfl,by simp,fun g hg=>?_,fun g hg g' hg'=>?_,fun Q hQ hE=>?_⟩
   ·obtain rfl:=List.mem_singleton.1 hg
    exact ⟨hP,take e⟩
   ·rw [List.mem_singleton.1 hg,List.mem_singleton.1 hg']
   ·rcases List.mem_append.1 hQ with hQ | hQ
    ·obtain ⟨g,hg,_⟩:=h.le Q hQ hE
     simp at hg
    ·obtain rfl:=List.mem_singleton.1 hQ
     exact ⟨_,List.mem_singleton.2 rfl,Int.le_refl _⟩
 | cons x gs =>
  simp only [zaO]
  obtain ⟨hxm,hxe⟩:=h.mem x (by simp)
  rw [hw hP,zaa,hw hxm,zaa]
  by_cases hgt:zcN b.Wheel P>zcN b.Wheel x.purse
  ·rw [if_pos (by simpa using hgt)]
   refine ⟨_,rfl,by have:=h.len;simp at this ⊢;omega,h.mem,h.eq,fun Q hQ hE=>?_⟩
   rcases List.mem_append.1 hQ with hQ | hQ
   ·exact h.le Q hQ hE
   ·obtain rfl:=List.mem_singleton.1 hQ
    exact ⟨x,by simp,by omega⟩
  ·rw [if_neg (by simpa using hgt),hr,zaa]
   cases e:r.2 with
   | false =>
    rw [if_pos (by rfl)]
    exact ⟨_,rfl,keep (skip e)⟩
   | true =>
    rw [if_neg (by simp),zaa,zaa]
    by_cases hlt:zcN b.Wheel P<zcN b.Wheel x.purse
    ·rw [if_pos (by simpa using hlt)]
     refine ⟨_,rfl,by simp,fun g hg=>?_,fun g hg g' hg'=>?_,fun Q hQ hE=>?_⟩
     ·obtain rfl:=List.mem_singleton.1 hg
      exact ⟨hP,take e⟩
     ·rw [List.mem_singleton.1 hg,List.mem_singleton.1 hg']
     ·refine ⟨_,List.mem_singleton.2 rfl,?_⟩
      show zcN b.Wheel P<=_
      rcases List.mem_append.1 hQ with hQ | hQ
      ·obtain ⟨g,hg,hle⟩:=h.le Q hQ hE
       have:=h.eq g hg x (by simp)
       omega
      ·obtain rfl:=List.mem_singleton.1 hQ
       exact Int.le_refl _
    ·rw [if_neg (by simpa using hlt),zgp (by have:=h.len;simp at this ⊢;omega),zaa]
     have heq:zcN b.Wheel P=zcN b.Wheel x.purse:=by omega
     have hall:∀g,g∈x::gs++[⟨P,r.1⟩]->zcN b.Wheel g.purse=zcN b.Wheel P:=fun g hg=>by
      rcases List.mem_append.1 hg with hg | hg
      ·rw [heq]
       exact h.eq g hg x (by simp)
      ·rw [List.mem_singleton.1 hg]
     refine ⟨_,rfl,by have:=h.len;simp at this ⊢;omega,fun g hg=>?_,fun g hg g' hg'=>by rw [hall g hg,hall g' hg'],fun Q hQ hE=>?_⟩
     ·rcases List.mem_append.1 hg with hg | hg
      ·exact h.mem g hg
      ·obtain rfl:=List.mem_singleton.1 hg
       exact ⟨hP,take e⟩
     ·rcases List.mem_append.1 hQ with hQ | hQ
      ·obtain ⟨g,hg,hle⟩:=h.le Q hQ hE
       exact ⟨g,List.mem_append_left _ hg,hle⟩
      ·obtain rfl:=List.mem_singleton.1 hQ
       exact ⟨⟨Q,r.1⟩,List.mem_append_right _ (by simp),Int.le_refl _⟩
theorem zkH {b:Box} (N:Near b) {n:Nat} (hn:100000<=n):∀(l xs:List (List Int)) (gs:List Gap_),(∀P,P∈l->More b P)->xs.length+l.length<=100->GInv b xs gs->∃gs',zl9 (fun x0 s=>zaO n (some ⟨b⟩) x0 s) l gs=some gs'/\GInv b (xs++l) gs'
 | [],xs,gs,_,_,h=>⟨gs,rfl,by simpa using h⟩
 | P::l,xs,gs,hm,hl,h=>by
  simp only [List.length_cons] at hl
  obtain ⟨gs1,h1,h2⟩:=zoJ N hn (hm P (by simp)) (by omega) h
  obtain ⟨gs2,h3,h4⟩:=zkH N hn l (xs++[P]) gs1 (fun Q hQ=>hm Q (by simp [hQ])) (by simp;omega) h2
  refine ⟨gs2,?_,by simpa using h4⟩
  simp only [zl9,h1,Option.bind_some]
  exact h3
def zBR (b:Box) (gs:List Gap_):Prop:=(gs=[]/\∀P,More b P->¬znI b (sums (zcD b) P))\/∃x t,gs=x::t/\More b x.purse/\ExplOk b (sums (zcD b) x.purse) x.acts/\∀P,More b P->znI b (sums (zcD b) P)->zcN b.Wheel x.purse<=zcN b.Wheel P
theorem zrH {b:Box} (N:Near b) {n:Nat} (hn:100000<=n):∃gs,zcd n (some ⟨b⟩)=some gs/\zBR b gs:=by
 have h3:=N.k3
 have hlen:(zj3 b.Wheel.Coins.length [] 2).length<=100:=by
  have h1:=zoI b.Wheel.Coins.length [] 2 (by omega)
  have h2:3 ^ b.Wheel.Coins.length<=3 ^ 3:=Nat.pow_le_pow_right (by omega) h3
  omega
 obtain ⟨gs,h1,h2⟩:=zkH N hn (zj3 b.Wheel.Coins.length [] 2) [] [] (fun P hP=>zmb.1 hP) (by simpa using hlen) ⟨by simp,by simp,by simp,by simp⟩
 refine ⟨gs,?_,?_⟩
 ·unfold zcd
  have:=ztq (fun x0 s=>zaO n (some ⟨b⟩) x0 s) (b:=b) (by omega) b.Wheel.Coins.length [] 2 n [] (by simp) (by omega) (by omega)
  rw [show zbB n (fun x0 s=>zaO n (some ⟨b⟩) x0 s) (some ⟨b⟩) [] 2 []=_ from this,h1]
  rfl
 ·rw [List.nil_append] at h2
  cases gs with
  | nil =>
   refine .inl ⟨rfl,fun P hP hE=>?_⟩
   obtain ⟨g,hg,_⟩:=h2.le P (zmb.2 hP) hE
   simp at hg
  | cons x t =>
   obtain ⟨m1,m2⟩:=h2.mem x (by simp)
   refine .inr ⟨x,t,rfl,m1,m2,fun P hP hE=>?_⟩
   obtain ⟨g,hg,hle⟩:=h2.le P (zmb.2 hP) hE
   have:=h2.eq g hg x (by simp)
   omega
theorem BoxOk.len {b:Box} (N:BoxOk b):zqA b:=by
 have F:=N.far
 have h1:=F.fl
 have h2:=F.sl
 have h3:=F.ml
 have h4:=F.h.nlen
 have h5:=F.h.clen
 exact ⟨by omega,by omega,by omega,by omega,by omega⟩
theorem znJ {b:Box} (N:BoxOk b) {n:Nat} (hn:200<=n):zej n b=some (some ⟨b⟩,0):=by
 unfold zej
 rw [zl8 b n N.len hn,zgs.2 N]
 rfl
theorem ztr {b:Box} (F:NearF b) {n:Nat} (hn:200<=n):zii n b=some (zcD b):=by
 have h1:=F.fl
 have h2:=F.sl
 have h3:=F.h.clen
 unfold zii
 rw [ztm (by omega) (fun k=>by have:=F.f k;omega) (fun k=>by have:=F.s k;omega) (by omega) (by omega)]
 rfl
theorem zoK {b:Box} (F:NearF b):zfD (zcD b):=fun k=>by
 rw [zj1 F]
 have:=F.f k
 have:=F.s k
 omega
theorem zzq (b:Box) {n:Nat} (hn:200<=n):zij n b=some true\/(zij n b=some false/\zqA b/\(BoxOk b->Near b)):=by
 unfold zij
 by_cases hl:(max (max (max (max (b.Wheel.Notches.length:Int) (b.Wheel.Coins.length:Int)) (b.Found.length:Int)) (b.Marked.length:Int)) (b.Slugs.length:Int))>40
 ·rw [if_pos (by simpa using hl)]
  exact .inl rfl
 ·rw [if_neg (by simpa using hl)]
  have hL:zqA b:=⟨by omega,by omega,by omega,by omega,by omega⟩
  rw [zuu b n hL hn,zaa]
  by_cases hb:BoxOk b
  ·have F:=hb.far
   have h1:=F.fl
   have h3:=F.h.clen
   rw [zgs.2 hb]
   show (Option.bind _ _=_)\/(Option.bind _ _=_/\_)
   rw [ztr F hn,zaa,znF (zoK F) (by rw [ziv F];omega) (by rw [ziv F];omega),zaa,ziw F]
   by_cases ht:total b.Found+total b.Slugs>3
   ·rw [if_pos (by simpa using ht)]
    exact .inl rfl
   ·rw [if_neg (by simpa using ht)]
    unfold zfa
    by_cases hk:(b.Found.length:Int)>3
    ·exact .inl (by simp [hk])
    ·exact .inr ⟨by simp;omega,hL,fun _=>⟨hb,by omega,by omega⟩⟩
  ·rw [ziu hb]
   exact .inr ⟨rfl,hL,fun h=>absurd h hb⟩
def zpG (b:Box) (m:Int):Prop:=(∃P,More b P/\znI b (sums (zcD b) P)/\zcN b.Wheel P=m)/\∀P,More b P->znI b (sums (zcD b) P)->m<=zcN b.Wheel P
def zzr (b:Box):Prop:=∀P,More b P->¬znI b (sums (zcD b) P)
def zoL (b:Box) (r:Int×Int):Prop:=(r.2=0/\zpG b r.1)\/(r=(0,3)/\zzr b)
theorem zts {b:Box} (N:Near b) {n:Nat} (hn:100000<=n):∃gs,zcd n (some ⟨b⟩)=some gs/\((gs=[]/\zeM n b=some (none,[],3)/\zzr b)\/∃x t,gs=x::t/\zeM n b=some (some ⟨b⟩,x::t,0)/\More b x.purse/\ExplOk b (sums (zcD b) x.purse) x.acts/\zpG b (zcN b.Wheel x.purse)):=by
 obtain ⟨gs,h1,h2⟩:=zrH N hn
 refine ⟨gs,h1,?_⟩
 unfold zeM
 rw [znJ N.ok (by omega),zaa,if_neg (by simp),h1,zaa]
 rcases h2 with ⟨rfl,h2⟩ | ⟨x,t,rfl,h3,h4,h5⟩
 ·exact .inl ⟨rfl,rfl,h2⟩
 ·rw [if_neg (by simp;omega)]
  exact .inr ⟨x,t,rfl,rfl,h3,h4,⟨x.purse,h3,h4.ex,rfl⟩,h5⟩
theorem zmS {b:Box} (N:Near b) {n:Nat} (hn:100000<=n):∃r,zcJ n b=some r/\zoL b r:=by
 obtain ⟨gs,_,h⟩:=zts N hn
 unfold zcJ
 rcases h with ⟨rfl,h,h2⟩ | ⟨x,t,rfl,h,h3,h4,h5⟩
 ·rw [h]
  exact ⟨(0,3),rfl,.inr ⟨rfl,h2⟩⟩
 ·rw [h,zaa,if_neg (by simp)]
  show ∃r,Option.bind (some x) _=some r/\_
  rw [zaa,zj2 N.ok.far.h (by omega) h3.l (zk0 h3)]
  exact ⟨_,rfl,.inl ⟨rfl,h5⟩⟩
theorem zhY {w:Wheel} (h:OkW w) {P:List Int} (hs:zfD P):0<=zcN w P/\zcN w P<=100000*w.Coins.length:=by
 have:=zmR h hs w.Coins.length 0 (by omega)
 exact this
theorem zoL.eq {b:Box} {r r':Int×Int} (h:zoL b r) (h':zoL b r'):r=r':=by
 obtain ⟨a,c⟩:=r
 obtain ⟨a',c'⟩:=r'
 rcases h with ⟨h1,⟨P,p1,p2,p3⟩,h3⟩ | ⟨h1,h2⟩
 ·rcases h' with ⟨k1,⟨P',q1,q2,q3⟩,k3⟩ | ⟨k1,k2⟩
  ·have:=h3 P' q1 q2
   have:=k3 P p1 p2
   simp only at *
   have:a=a':=by omega
   rw [this,h1,k1]
  ·exact absurd p2 (k2 P p1)
 ·rcases h' with ⟨k1,⟨P',q1,q2,q3⟩,k3⟩ | ⟨k1,k2⟩
  ·exact absurd q2 (h2 P' q1)
  ·rw [h1,k1]
theorem zoL.nn {b:Box} (N:BoxOk b) {r:Int×Int} (h:zoL b r):0<=r.1/\r.1<=1000000:=by
 rcases h with ⟨_,⟨P,h1,_,he⟩,_⟩ | ⟨rfl,_⟩
 ·rw [←he]
  have:=zhY N.far.h (zk0 h1)
  have:=N.far.h.clen
  omega
 ·simp
theorem zoM {w:Wheel} {al:List Int} (C:Cx w al) {v:Int} (h:Can w al v):0<=v/\v<=500:=by
 obtain ⟨acts,x,hr,h1,rfl⟩:=(zzo C.h C.hl C.nn).1 h
 have hX:=(zoT C hr).1
 have h2:=hX.c0
 have h3:=hX.cb
 have h4:=hX.bt
 have h5:=(zoT C hr).2.1
 have h6:=C.t5
 omega
theorem ztt {w:Wheel} {al L:List Int} (C:Cx w al) (h:zku w al L):L.length<=501:=by
 have:=ziO (l:=L) (m:=upF 0 501) (h.1.imp fun hlt he=>by omega) fun v hv=>by
  have:=zoM C ((h.2 v).1 hv)
  exact zl1.2 (by omega)
 rw [zl2] at this
 exact this
theorem zuw {w:Wheel} {al:List Int} (C:Cx w al):∃v,Can w al v:=by
 have ht:0<=total al:=ze5 (zfA C.nn)
 have h5:=C.t5
 obtain ⟨acts,hw⟩:=zzn true C.h (total al).toNat (p:=0) (c:=0) (l:=al) (by omega) ⟨C.hl,zfA C.nn,by omega⟩ (Int.le_refl _) (by have:=C.h.r1;omega) (Int.le_refl _)
 exact ⟨_,acts,hw.ok,hw.bag,rfl⟩
theorem zzs {L:List Int} {n:Nat} (h:L≠[]) (hl:L.length<1048576) (hn:L.length<n):slices_Max_int n L=some (L.tail.foldl max (L.getD 0 0)):=by
 cases L with
 | nil=>exact absurd rfl h
 | cons x t =>
  unfold slices_Max_int zeA
  rw [if_neg (by simp;omega),show idx (x::t) 0=some x from rfl,zaa]
  have key:=zuk (F:=fun m i (s:Int)=>zce (x::t) m s i) (xs:=x::t) (spec:=fun l s=>some (l.foldl max s)) hl
   (fun m s=>by simp [zce,zdF,zez])
   (fun m i y l s hx hi _ _ hrec=>by
    simp only [zce,zdF,List.foldl_cons]
    rw [if_pos (by simpa using hi),hx,zaa]
    exact hrec _)
   t 1 n x (by simp) rfl (by simp at hn;omega)
  exact key
theorem zoN:∀(t:List Int) (x:Int),(∀y,y∈t->x<y)->t.Pairwise (·<·)->t.foldl max x=(x::t).getLast (by simp)
 | [],x,_,_=>rfl
 | y::t,x,h1,h2=>by
  rw [List.pairwise_cons] at h2
  have hxy:=h1 y (by simp)
  rw [List.foldl_cons,Int.max_eq_right (by omega),zoN t y h2.1 h2.2]
  rfl
def zzt (L:List Int):Int:=L.getD (L.length-1) 0
theorem zvT {L:List Int} (h:L≠[]) (hp:L.Pairwise (·<·)):L.tail.foldl max (L.getD 0 0)=zzt L:=by
 cases L with
 | nil=>exact absurd rfl h
 | cons x t =>
  rw [List.pairwise_cons] at hp
  show t.foldl max x=_
  rw [zoN t x hp.1 hp.2,List.getLast_eq_getElem]
  unfold zzt
  rw [getD_get]
theorem zvU {L:List Int} (h:L≠[]):zzt L∈L:=by
 have hl:0<L.length:=List.length_pos_iff.2 h
 unfold zzt
 rw [←getD_get (by omega)]
 exact List.getElem_mem _
theorem zzu {w:Wheel} {al L:List Int} (C:Cx w al) (h:zku w al L):L≠[]:=fun e=>by
 obtain ⟨v,hv⟩:=zuw C
 have:=(h.2 v).2 hv
 rw [e] at this
 simp at this
theorem zux {b:Box} (N:Near b) {n:Nat} (hn:100000<=n):∃L,zku b.Wheel (zcD b) L/\zgD n b=some (max 0 (b.Plays-zzt L),0):=by
 obtain ⟨L,h1,h2⟩:=zoH N hn
 have hL:=ztt N.cx0 h2
 have hne:=zzu N.cx0 h2
 have hp:=N.ok.far.p
 have ht:=zoM N.cx0 ((h2.2 _).1 (zvU hne))
 refine ⟨L,h2,?_⟩
 unfold zgD
 rw [znJ N.ok (by omega),zaa,if_neg (by simp),h1,zaa,zzs hne (by omega) (by omega),zaa,zvT hne h2.1,zaI (by omega) (by omega)]
theorem zzv {b:Box} (N:Near b) {n:Nat} (hn:100000<=n):∃L,zku b.Wheel (zcD b) L/\zhK n b=some (L,0):=by
 obtain ⟨L,h1,h2⟩:=zoH N hn
 refine ⟨L,h2,?_⟩
 unfold zhK
 rw [znJ N.ok (by omega),zaa,if_neg (by simp),h1,zaa]
def zkM (b:Box):Int×Int×Int×Int:=(zcN b.Wheel b.Found-zcN b.Wheel b.Marked,zcN b.Wheel b.Marked,zcN b.Wheel b.Slugs,0)
theorem ztu {b:Box} (N:BoxOk b) {n:Nat} (hn:200<=n):zgi n b=some (zkM b):=by
 have F:=N.far
 have hf:zfD b.Found:=fun k=>by have:=F.f k;omega
 have hm:zfD b.Marked:=fun k=>by have:=F.m k;omega
 have hs:zfD b.Slugs:=fun k=>by have:=F.s k;omega
 have h1:=zhY F.h hf
 have h2:=zhY F.h hm
 have h3:=F.h.clen
 unfold zgi
 rw [znJ N hn,zaa,if_neg (by simp),zj2 F.h (by omega) F.ml hm,zaa,zj2 F.h (by omega) F.fl hf,zaa,zj2 F.h (by omega) F.sl hs,zaa,zaI (by omega) (by omega)]
 rfl
theorem zuy {b:Box} (N:BoxOk b) {n:Nat} (hn:200<=n):zgK n b=some (zkM b):=by
 have F:=N.far
 have hf:zfD b.Found:=fun k=>by have:=F.f k;omega
 have hm:zfD b.Marked:=fun k=>by have:=F.m k;omega
 have hs:zfD b.Slugs:=fun k=>by have:=F.s k;omega
 have h1:=zhY F.h hf
 have h2:=zhY F.h hm
 have h3:=F.h.clen
 unfold zgK
 rw [zuu b n N.len hn,zgs.2 N]
 show Option.bind _ _=_
 rw [zgI F.h (by omega) F.ml hm,zaa,zgI F.h (by omega) F.fl hf,zaa,zgI F.h (by omega) F.sl hs,zaa,zaI (by omega) (by omega)]
 rfl
def exW:Wheel:=⟨50,[10,20,25],[5,10,25]⟩
def exB:Box:=⟨exW,[0,2,1],[0,1,0],[0,0,0],6,0⟩
theorem znK:Near exB:=by
 refine ⟨⟨by decide,by decide,by decide,by decide,by decide,rfl,fun k hk=>?_,by decide⟩,by decide,by decide⟩
 have:k=0\/k=1\/k=2:=by
  have:exB.Found.length=3:=rfl
  omega
 rcases this with rfl | rfl | rfl<;>decide
theorem zzw:zcD exB=[0,2,1]:=by decide
theorem zqC {w:Wheel} {al acts:List Int} (h:(List.range w.Coins.length).all (fun k=>cnt (k:Int) acts==al.getD k 0)=true):∀k:Nat,k<w.Coins.length->cnt k acts=al.getD k 0:=fun k hk=>by
 rw [List.all_eq_true] at h
 simpa using h k (List.mem_range.2 hk)
theorem ztv:zku exW [0,2,1] [3,4,5]:=by
 have hP:OkP exW [0,2,1]:=⟨rfl,by decide,by decide⟩
 have hW:OkW exW:=zhd (by decide)
 refine ⟨by decide,fun v=>⟨fun hv=>?_,?_⟩⟩
 ·have h3:v=3\/v=4\/v=5:=by simpa using hv
  rcases h3 with rfl | rfl | rfl
  ·exact ⟨[1,1,2],by decide,zqC (by decide),by decide⟩
  ·exact ⟨[1,-1,1,2],by decide,zqC (by decide),by decide⟩
  ·exact ⟨[1,-1,1,-1,2],by decide,zqC (by decide),by decide⟩
 ·rintro ⟨acts,h1,h2,rfl⟩
  have hi:=zoB true hW acts (p:=0) (c:=0) h1 h2 hP (by decide) (by decide) (by decide)
  have lo:=zoB false hW acts (p:=0) (c:=0) h1 h2 hP (by decide) (by decide) (by decide)
  rw [show Q true exW (total [0,2,1]).toNat 0 0 [0,2,1]=5 by decide +kernel] at hi
  rw [show Q false exW (total [0,2,1]).toNat 0 0 [0,2,1]=3 by decide +kernel] at lo
  have hi:zeI exW ⟨0,0⟩ acts<=5:=hi
  have lo:3<=zeI exW ⟨0,0⟩ acts:=lo
  simp only [List.mem_cons,List.not_mem_nil,or_false]
  omega
theorem zuz:zpG exB 5:=by
 have hl:exB.Wheel.Coins.length=3:=rfl
 refine ⟨⟨[1,0,0],⟨rfl,fun k=>?_,by decide⟩,⟨6,⟨[1,1,0,-1,2],by decide,zqC (by decide),by decide⟩,by decide,by decide⟩,by decide⟩,fun P hP hE=>?_⟩
 ·match k with
  | 0=>decide
  | 1=>decide
  | 2=>decide
  | k+3=>simp
 ·match P,hP with
  | [a,b,c],hP =>
   have h0:0<=a:=hP.nn 0
   have h1:0<=b:=hP.nn 1
   have h2:0<=c:=hP.nn 2
   have hw:zcN exB.Wheel [a,b,c]=5*a+(10*b+(25*c+0)):=rfl
   rw [hw]
   by_cases hz:a=0/\b=0/\c=0
   ·obtain ⟨rfl,rfl,rfl⟩:=hz
    obtain ⟨v,hv,h3,h4⟩:=hE
    rw [show sums (zcD exB) [0,0,0]=[0,2,1] by decide] at hv
    have:=(ztv.2 v).2 hv
    simp only [List.mem_cons,List.not_mem_nil,or_false] at this
    have:(6:Int)<=v:=h3
    omega
   ·omega
  | [],hP=>exact absurd hP.l (by decide)
  | [_],hP=>exact absurd hP.l (by rw [hl];simp)
  | [_,_],hP=>exact absurd hP.l (by rw [hl];simp)
  | _::_::_::_::_,hP=>exact absurd hP.l (by rw [hl];simp)
theorem zuA {n:Nat} (hn:100000<=n):zfP n=some true:=by
 have e1:zhL=some exB:=rfl
 obtain ⟨L,h1,h2⟩:=zzv znK hn
 obtain ⟨L',h3,h4⟩:=zux znK hn
 obtain ⟨r,h5,h6⟩:=zmS znK hn
 rw [zzw] at h1 h3
 obtain rfl:=h1.eq ztv
 obtain rfl:=h3.eq ztv
 obtain rfl:=h6.eq (r':=(5,0)) (.inl ⟨rfl,zuz⟩)
 unfold zfP
 rw [e1,zaa,h2,zaa,ztu znK.ok (by omega),zaa,h5,zaa,h4,zaa,zlV _ _ (by simp) (by simp;omega)]
 decide
theorem zuB {b:Box} (h:zqA b):ziF b=some b:=by
 obtain ⟨h1,h2,h3,h4,h5⟩:=h
 unfold ziF
 rw [zvK (n:=100) ⟨by omega,by omega,by omega,by omega⟩,zaa,zko (by omega),zaa,zko (by omega),zaa,zko (by omega),zaa]
def mOf (n:Nat) (b:Box):Int×Int:=(zcJ n b).getD (0,0)
def zmT (n:Nat):List Box->Int×Int×Int
 | []=>(0,0,0)
 | b::l=>((zkM b).1+(zmT n l).1,(mOf n b).1+(zmT n l).2.1,(if (mOf n b).2=0 then 0 else 1)+(zmT n l).2.2)
theorem ztw {b:Box} (N:Near b) {n:Nat} (hn:100000<=n):zcJ n b=some (mOf n b)/\zoL b (mOf n b):=by
 obtain ⟨r,h1,h2⟩:=zmS N hn
 unfold mOf
 rw [h1]
 exact ⟨rfl,h2⟩
theorem zmU {b:Box} (N:BoxOk b):-1000000<=(zkM b).1/\(zkM b).1<=1000000:=by
 have F:=N.far
 have h1:=zhY F.h (show zfD b.Found from fun k=>by have:=F.f k;omega)
 have h2:=zhY F.h (show zfD b.Marked from fun k=>by have:=F.m k;omega)
 have h3:=F.h.clen
 unfold zkM
 simp only
 omega
theorem zzx {n:Nat} (hn:100000<=n) {l:List Box} (h:∀b,b∈l->Near b) (hl:l.length<=5):zdU n l 0 0 0=some ((zmT n l).1,(zmT n l).2.1,(zmT n l).2.2,0):=by
 have key:=zlU (F:=fun m i (s:Int×Int×Int)=>zcj n l m s.1 s.2.1 s.2.2 i) (xs:=l) (spec:=fun k s=>some (s.1+(zmT n k).1,s.2.1+(zmT n k).2.1,s.2.2+(zmT n k).2.2,0))
  (I:=fun k s=>(∀b,b∈k->Near b)/\k.length<=5/\(-1000000*(5-k.length:Int)<=s.1/\s.1<=1000000*(5-k.length:Int))/\(0<=s.2.1/\s.2.1<=1000000*(5-k.length:Int))/\(0<=s.2.2/\s.2.2<=(5-k.length:Int))) (by omega)
  (fun m s hI=>by simp [zcj,ze2,zf7,zmT])
  (fun m i b k s hI hx hi _ _ hrec=>by
   obtain ⟨i1,i2,i3,i4,i5⟩:=hI
   have N:=i1 b (by simp)
   have h1:=zmU N.ok
   obtain ⟨g,hm⟩:=ztw N hn
   have h2:=hm.nn N.ok
   simp only [List.length_cons] at i2 i3 i4 i5
   simp only [zcj,ze2]
   rw [if_pos (by simpa using hi),hx,zaa,ztu N.ok (by omega),zaa,g,zaa]
   unfold zeO
   by_cases e:(mOf n b).2=0
   ·rw [if_pos (by simpa using e),zaI (x:=s.1+_) (by omega) (by omega),zaI (x:=s.2.1+_) (by omega) (by omega)]
    have:=hrec (s.1+(zkM b).1,s.2.1+(mOf n b).1,s.2.2) ⟨fun x hx=>i1 x (by simp [hx]),by omega,by simp only;omega,by simp only;omega,by simp only;omega⟩
    rw [this]
    simp only [zmT,if_pos e,Int.add_assoc,Int.zero_add]
   ·rw [if_neg (by simpa using e),zaI (x:=s.1+_) (by omega) (by omega),zaI (x:=s.2.2+1) (by omega) (by omega)]
    have:=hrec (s.1+(zkM b).1,s.2.1,s.2.2+1) ⟨fun x hx=>i1 x (by simp [hx]),by omega,by simp only;omega,by simp only;omega,by simp only;omega⟩
    rw [this]
    have e1:(mOf n b).1=0:=by
     rcases hm with ⟨h,_⟩ | ⟨h,_⟩
     ·exact absurd h e
     ·rw [h]
    simp only [zmT,if_neg e,e1,Int.add_assoc,Int.zero_add])
  l 0 n (0,0,0) (by omega) rfl (by omega) ⟨h,hl,by simp only;omega,by simp only;omega,by simp only;omega⟩
 unfold zdU
 simp only [Int.zero_add] at key
 exact key
theorem zzy {n:Nat} (hn:100000<=n) {l:List Box} (h:∀b,b∈l->Near b) (hl:l.length<=5):zeo n l=some ((zmT n l).1,(zmT n l).2.1,(zmT n l).2.2,0):=by
 unfold zeo
 rw [if_neg (by simp;omega)]
 have key:=zlU (F:=fun m i (s:Unit)=>zbS n l m 0 0 0 i) (xs:=l) (spec:=fun k s=>zdU n l 0 0 0) (I:=fun k s=>∀b,b∈k->Near b) (by omega)
  (fun m s hI=>by
   simp only [zbS,zdR]
   rw [if_neg (by simp)])
  (fun m i b k s hI hx hi _ _ hrec=>by
   have N:=hI b (by simp)
   simp only [zbS,zdR]
   rw [if_pos (by simpa using hi),hx,zaa,zl8 b n N.ok.len (by omega),zgs.2 N.ok]
   show Option.bind (some 0) _=_
   rw [zaa,if_neg (by simp)]
   exact hrec () fun x hx=>hI x (by simp [hx]))
  l 0 n () (by omega) rfl (by omega) h
 rw [show zbS n l n 0 0 0 0=_ from key,zzx hn h hl]
def pos:List Int->List Int->Nat
 | _::l,v::t=>v.toNat*(za0 l).length+pos l t
 | _,_=>0
theorem znL {α:Type} {f:Int->List α} {c:Nat}:∀(d i v j:Nat),(∀x,x∈upF i d->(f x).length=c)->v<d->j<c->((upF i d).flatMap f)[v*c+j]?=(f ((i+v:Nat):Int))[j]?
 | 0,i,v,j,_,hv,_=>absurd hv (Nat.not_lt_zero _)
 | d+1,i,0,j,h,_,hj=>by
  simp only [upF,List.flatMap_cons]
  rw [Nat.zero_mul,Nat.zero_add,List.getElem?_append_left (by rw [h _ (by simp [upF])];exact hj)]
  rfl
 | d+1,i,v+1,j,h,hv,hj=>by
  simp only [upF,List.flatMap_cons]
  have hc:=h (i:Int) (by simp [upF])
  rw [List.getElem?_append_right (by rw [hc,Nat.add_mul];omega),hc,show (v+1)*c+j-c=v*c+j by rw [Nat.add_mul];omega,znL d (i+1) v j (fun x hx=>h x (by simp [upF,hx])) (by omega) hj]
  congr 2
  congr 1
  omega
theorem znM (x:Int) (l:List Int):(za0 (x::l)).length=(x.toNat+1)*(za0 l).length:=by
 simp only [za0]
 rw [zjk (c:=(za0 l).length) (fun v _=>by simp),zl2]
theorem znN:∀{l t:List Int},Part t l->(za0 l)[pos l t]?=some t/\pos l t<(za0 l).length
 | [],[],_=>by simp [za0,pos]
 | [],_::_,h=>by simp [Part] at h
 | _::_,[],h=>by simp [Part] at h
 | x::l,v::t,h=>by
  obtain ⟨⟨h0,h1⟩,h2⟩:=zhB.1 h
  obtain ⟨g1,g2⟩:=znN h2
  refine ⟨?_,?_⟩
  ·simp only [za0,pos]
   rw [znL (c:=(za0 l).length) (x.toNat+1) 0 v.toNat (pos l t) (fun y _=>by simp) (by omega) g2,List.getElem?_map,g1]
   simp
   omega
  ·rw [znM]
   simp only [pos]
   have:v.toNat*(za0 l).length<=x.toNat*(za0 l).length:=Nat.mul_le_mul_right _ (by omega)
   rw [Nat.add_mul]
   omega
theorem ztx {t l:List Int} (h:Part t l) {k:Nat} (hk:k<t.length) (h0:t.getD k 0≠0):Part (zc3 t k) l:=by
 refine ⟨by simp [zc3,h.1],fun j=>?_⟩
 rw [zfT hk]
 have h1:=h.2 j
 have h2:=h.2 k
 split
 ·rename_i e
  subst e
  omega
 ·omega
theorem zqD:∀{l t:List Int} {k:Nat},Part t l->k<t.length->t.getD k 0≠0->pos l (zc3 t k)<pos l t
 | [],[],k,_,hk,_=>by simp at hk
 | [],_::_,k,h,_,_=>by simp [Part] at h
 | _::_,[],k,h,_,_=>by simp [Part] at h
 | x::l,v::t,0,h,_,h0=>by
  obtain ⟨⟨h1,h2⟩,h3⟩:=zhB.1 h
  have h0:v≠0:=h0
  have hg:=(znN h3).2
  show (v-1).toNat*(za0 l).length+pos l t<v.toNat*(za0 l).length+pos l t
  have e:v.toNat=(v-1).toNat+1:=by omega
  rw [e,Nat.add_mul]
  omega
 | x::l,v::t,k+1,h,hk,h0=>by
  obtain ⟨_,h3⟩:=zhB.1 h
  have:=zqD (l:=l) (t:=t) (k:=k) h3 (by simpa using hk) (by simpa using h0)
  show v.toNat*(za0 l).length+pos l (zc3 t k)<v.toNat*(za0 l).length+pos l t
  omega
theorem zuC {n:Nat} {l t:List Int} (h:Part t l) (h4:l.length<=4) (h6:∀k,l.getD k 0<=6) (hn:100<=n):zjc n l t=some (pos l t:Int):=by
 have key:∀(l' t' pl pt:List Int) (m:Nat) (v:Nat),l=pl++l'->t=pt++t'->pt.length=pl.length->Part t' l'->l'.length<m->v<7 ^ pl.length->zc9 l t m (v:Int) (pl.length:Int)=some ((v*(za0 l').length+pos l' t':Nat):Int):=by
  intro l'
  induction l' with
  | nil =>
   intro t' pl pt m v hl ht hp hpart hm hv
   obtain ⟨m,rfl⟩:∃q,m=q+1:=⟨m-1,by omega⟩
   simp only [zc9,zeY,zf4]
   rw [if_neg (by rw [hl];simp)]
   simp [za0,pos]
  | cons x l' ih =>
   intro t' pl pt m v hl ht hp hpart hm hv
   obtain ⟨m,rfl⟩:∃q,m=q+1:=⟨m-1,by omega⟩
   cases t' with
   | nil=>simp [Part] at hpart
   | cons y t' =>
    obtain ⟨⟨h0,h1⟩,h2⟩:=zhB.1 hpart
    have hlen:l.length=pl.length+(l'.length+1):=by rw [hl];simp
    have hx6:x<=6:=by
     have:=h6 pl.length
     rw [hl,znC] at this
     exact this
    have hpow:7 ^ pl.length<=7 ^ 3:=Nat.pow_le_pow_right (by omega) (by omega)
    have hpw:7 ^ (pl.length+1)=7 ^ pl.length*7:=Nat.pow_succ ..
    simp only [List.length_cons] at hm
    simp only [zc9,zeY]
    have hmul:v*(x.toNat+1)<=v*7:=Nat.mul_le_mul_left _ (by omega)
    have e1:(v:Int)*(x+1)=((v*(x.toNat+1):Nat):Int):=by
     rw [Int.natCast_mul]
     congr 1
     omega
    have e2:((v*(x.toNat+1):Nat):Int)+y=((v*(x.toNat+1)+y.toNat:Nat):Int):=by omega
    rw [if_pos (by simp;omega),show idx l (pl.length:Int)=some x by rw [hl];exact zgX _ _ _,zaa,show idx t (pl.length:Int)=some y by rw [ht,←hp];exact zgX _ _ _,zaa,zaI (x:=x+1) (by omega) (by omega),e1,zaI (x:=((v*(x.toNat+1):Nat):Int)) (by omega) (by omega),e2,zaI (x:=((v*(x.toNat+1)+y.toNat:Nat):Int)) (by omega) (by omega),zaI (x:=(pl.length:Int)+1) (by omega) (by omega)]
    have:=ih t' (pl++[x]) (pt++[y]) m (v*(x.toNat+1)+y.toNat) (by simp [hl]) (by simp [ht]) (by simp [hp]) h2 (by omega) (by rw [List.length_append,List.length_singleton,hpw];omega)
    rw [show (((pl++[x]).length:Nat):Int)=(pl.length:Int)+1 by simp] at this
    rw [this]
    congr 2
    rw [znM]
    simp only [pos]
    rw [Nat.add_mul,Nat.mul_assoc]
    omega
 have:=key l t [] [] n 0 rfl rfl rfl h (by omega) (by simp)
 rw [Nat.zero_mul,Nat.zero_add] at this
 exact this
def za9 (x:Pn):SpotR_:=⟨⟨x.p,x.c⟩,x.b⟩
structure Cr (w:Wheel) (al:List Int):Prop where
 v:valid w=true
 hl:al.length=w.Coins.length
 nn:∀k,0<=al.getD k 0
 k3:w.Coins.length<=3
 m6:∀k,al.getD k 0<=6
theorem Cr.h {w:Wheel} {al:List Int} (C:Cr w al):OkW w:=zhd C.v
structure SpI (w:Wheel) (al p:List Int) (L:List SpotR_):Prop where
 nd:L.Nodup
 pt:∀s,s∈L->∃acts X,RP clI w al acts X/\X.l=p/\s=za9 X
 cl:∀acts X,RP clI w al acts X->X.l=p->za9 X∈L->0<X.c->0<X.p->za9 (znD clI X)∈L
theorem zqE {x y:Pn} (h:za9 x=za9 y) (hl:x.l=y.l):x=y:=by
 obtain ⟨a,b,c,d⟩:=x
 obtain ⟨a',b',c',d'⟩:=y
 simp only [za9,SpotR_.mk.injEq,Stand.mk.injEq] at h
 obtain ⟨⟨rfl,rfl⟩,rfl⟩:=h
 simp only at hl
 subst hl
 rfl
theorem Cr.ok {w:Wheel} {al:List Int} (C:Cr w al) {acts X} (hr:RP clI w al acts X):OkX w al acts X:=hr.ok C.h C.hl C.nn (zpC _)
theorem zj4 {w:Wheel} {al p:List Int} (C:Cr w al) (h5:total p<=5) {L:List SpotR_} (hn:L.Nodup) (hp:∀s,s∈L->∃acts X,RP clI w al acts X/\X.l=p/\s=za9 X):L.length<=93312:=by
 have h1:=ziO (m:=(zus clI w 5).map za9) hn fun s hs=>by
  obtain ⟨acts,X,hr,rfl,rfl⟩:=hp s hs
  exact List.mem_map.2 ⟨X,hr.up C.h C.hl C.nn (zpC _) (by omega),rfl⟩
 rw [List.length_map] at h1
 have h2:=zqx clI C.k3 (t:=5) (by omega)
 omega
theorem zvb {x y:SpotR_}:((x.stand.Place==y.stand.Place)&&((x.stand.Credit==y.stand.Credit)&&((x.bought==y.bought)&&true)))=true↔x=y:=by
 obtain ⟨⟨a,b⟩,c⟩:=x
 obtain ⟨⟨a',b'⟩,c'⟩:=y
 simp only [Bool.and_eq_true,beq_iff_eq,and_true,SpotR_.mk.injEq,Stand.mk.injEq,and_assoc]
theorem zqF {w:Wheel} {rec:Wheel->List SpotR_->SpotR_->Option (List SpotR_)} {n:Nat} {L:List SpotR_} {x:SpotR_} (hl:L.length<100000) (hn:100000<=n):zdy n rec w L x n 0=if x∈L then some L else zen n rec w L x:=by
 have key:=zmP (F:=fun m i (_:Unit)=>zdy n rec w L x m i) (xs:=L) (spec:=fun l _=>if x∈l then some L else zen n rec w L x) (n:=n) (by omega) (by omega) () (fun m s=>by
   simp only [zdy,zf3]
   rw [if_neg (by simp)]
   simp)
  (fun m i y l s hx hi _ _ hrec=>by
   simp only [zdy,zf3]
   rw [if_pos (by simpa using hi),hx,zaa]
   by_cases e:y=x
   ·rw [if_pos (zvb.2 e),if_pos (by rw [e];simp)]
   ·rw [if_neg (fun h=>e (zvb.1 h)),hrec ()]
    have:x∈y::l↔x∈l:=by
     simp only [List.mem_cons]
     exact ⟨fun h=>h.resolve_left fun h=>e h.symm,.inr⟩
    by_cases hm:x∈l
    ·rw [if_pos hm,if_pos (this.2 hm)]
    ·rw [if_neg hm,if_neg (fun h=>hm (this.1 h))])
 exact key
theorem zty {w:Wheel} {al p:List Int} (C:Cr w al) (h5:total p<=5) {n:Nat} (hn:200000<=n) {L:List SpotR_} (hL:SpI w al p L) {acts X} (hr:RP clI w al acts X) (hX:X.l=p):∃L',zfo n w L (za9 X)=some L'/\SpI w al p L'/\za9 X∈L'/\∀s,s∈L->s∈L':=by
 obtain ⟨n,rfl⟩:∃q,n=q+2:=⟨n-2,by omega⟩
 have hlen:=zj4 C h5 hL.nd hL.pt
 have hOk:=C.ok hr
 have hc0:=hOk.c0
 have hp0:=hOk.p0
 have hb5:X.b<=500:=by have:=hOk.bt;rw [hX] at this;omega
 have hcb:=hOk.cb
 have act:∀{Y:Pn} {as},RP clI w al as Y->Y.l=p->zeN (n+2-1) w ⟨Y.p,Y.c⟩ (-1)=some (if Y.c=0 then (⟨Y.p,Y.c⟩,false) else (⟨0,Y.c-1⟩,true)):=fun {Y as} hY hl=>by
  have hO:=C.ok hY
  have h1:=hO.bt
  have h2:=hO.cb
  rw [zs7 C.h (by omega) (b:=500) ⟨hO.p0,hO.p1,hO.c0,by rw [hl] at h1;show Y.c<=500;omega⟩ (by omega) zl0]
  unfold zh3
  rw [if_neg (by omega)]
 have act':∀{Y:Pn} {as},RP clI w al as Y->Y.l=p->zeN n w ⟨Y.p,Y.c⟩ (-1)=some (if Y.c=0 then (⟨Y.p,Y.c⟩,false) else (⟨0,Y.c-1⟩,true)):=fun {Y as} hY hl=>by
  have hO:=C.ok hY
  have h1:=hO.bt
  have h2:=hO.cb
  rw [zs7 C.h (by omega) (b:=500) ⟨hO.p0,hO.p1,hO.c0,by rw [hl] at h1;show Y.c<=500;omega⟩ (by omega) zl0]
  unfold zh3
  rw [if_neg (by omega)]
 show ∃L',zfQ (n+1) (zfo (n+1)) w L (za9 X)=some L'/\_
 unfold zfQ
 rw [zqF (by omega) (by omega)]
 by_cases hm:za9 X∈L
 ·rw [if_pos hm]
  exact ⟨L,rfl,hL,hm,fun _ h=>h⟩
 rw [if_neg hm]
 unfold zen
 rw [zgp (by simp;omega),zaa,show zeN (n+1) w (za9 X).stand (-1)=_ from act hr hX,zaa]
 have nd1:(L++[za9 X]).Nodup:=by
  rw [List.nodup_append]
  exact ⟨hL.nd,by simp,fun a ha b hb e=>by rw [List.mem_singleton.1 hb] at e;exact hm (e▸ha)⟩
 have pt1:∀s,s∈L++[za9 X]->∃acts X,RP clI w al acts X/\X.l=p/\s=za9 X:=fun s hs=>by
  rcases List.mem_append.1 hs with hs | hs
  ·exact hL.pt s hs
  ·exact ⟨acts,X,hr,hX,List.mem_singleton.1 hs⟩
 have inv1:∀L':List SpotR_,L'.Nodup->(∀s,s∈L'->∃acts X,RP clI w al acts X/\X.l=p/\s=za9 X)->(∀s,s∈L++[za9 X]->s∈L')->(0<X.c->0<X.p->za9 (znD clI X)∈L')->(∀s,s∈L'->s∈L++[za9 X]\/s.stand.Place=0)->SpI w al p L':=fun L' n1 p1 s1 c1 o1=>by
  refine ⟨n1,p1,fun as Y hY hl hmY hc hp=>?_⟩
  rcases o1 _ hmY with h | h
  ·rcases List.mem_append.1 h with h | h
   ·exact s1 _ (List.mem_append_left _ (hL.cl as Y hY hl h hc hp))
   ·obtain rfl:=zqE (List.mem_singleton.1 h) (hl.trans hX.symm)
    exact c1 hc hp
  ·have h:Y.p=0:=h
   omega
 by_cases hc:X.c=0
 ·rw [if_pos hc,if_pos (by rfl)]
  refine ⟨L++[za9 X],rfl,inv1 _ nd1 pt1 (fun _ h=>h) (fun h=>by omega) (fun s h=>.inl h),by simp,fun s h=>List.mem_append_left _ h⟩
 rw [if_neg hc,if_neg (by simp)]
 unfold zem
 by_cases hp:X.p=0
 ·rw [if_pos (by simpa [za9] using hp)]
  exact ⟨L++[za9 X],rfl,inv1 _ nd1 pt1 (fun _ h=>h) (fun _ h=>by omega) (fun s h=>.inl h),by simp,fun s h=>List.mem_append_left _ h⟩
 rw [if_neg (by simpa [za9] using hp)]
 have hsel:=hr.sel (by omega) (by omega)
 show ∃L',Option.bind (zfQ n (zfo n) w (L++[za9 X]) (za9 (znD clI X))) _=some L'/\_
 have hlen1:(L++[za9 X]).length<=93312:=zj4 C h5 nd1 pt1
 unfold zfQ
 rw [zqF (by omega) (by omega)]
 by_cases hm2:za9 (znD clI X)∈L++[za9 X]
 ·rw [if_pos hm2]
  exact ⟨L++[za9 X],rfl,inv1 _ nd1 pt1 (fun _ h=>h) (fun _ _=>hm2) (fun s h=>.inl h),by simp,fun s h=>List.mem_append_left _ h⟩
 rw [if_neg hm2]
 unfold zen
 rw [zgp (by simp at hlen1 ⊢;omega),zaa,show zeN n w (za9 (znD clI X)).stand (-1)=_ from act' hsel hX,zaa]
 have nd2:(L++[za9 X]++[za9 (znD clI X)]).Nodup:=by
  rw [List.nodup_append]
  exact ⟨nd1,by simp,fun a ha b hb e=>by rw [List.mem_singleton.1 hb] at e;exact hm2 (e▸ha)⟩
 have pt2:∀s,s∈L++[za9 X]++[za9 (znD clI X)]->∃acts X,RP clI w al acts X/\X.l=p/\s=za9 X:=fun s hs=>by
  rcases List.mem_append.1 hs with hs | hs
  ·exact pt1 s hs
  ·exact ⟨_,_,hsel,hX,List.mem_singleton.1 hs⟩
 have fin:∀q:Option (List SpotR_),q=some (L++[za9 X]++[za9 (znD clI X)])->∃L',Option.bind q (fun r5=>some r5)=some L'/\SpI w al p L'/\za9 X∈L'/\∀s,s∈L->s∈L':=fun q e=>by
  rw [e]
  exact ⟨_,rfl,inv1 _ nd2 pt2 (fun _ h=>List.mem_append_left _ h) (fun _ _=>by simp) (fun s h=>by
   rcases List.mem_append.1 h with h | h
   ·exact .inl h
   ·rw [List.mem_singleton.1 h]
    exact .inr rfl),by simp,fun s h=>by simp [h]⟩
 refine fin _ ?_
 by_cases hz:(znD clI X).c=0
 ·rw [if_pos hz,if_pos (by rfl)]
  unfold zem
  rw [if_pos rfl]
 ·rw [if_neg hz,if_neg (by simp)]
  unfold zem
  rw [if_pos (by rfl)]
def zuD (L:List SpotR_) (N:List Int):Prop:=N.Pairwise (·<·)/\∀v,v∈N↔∃s,s∈L/\s.bought=v
theorem zqG:∀(L:List SpotR_) (m:Int),m<=L.foldl (fun m s=>max m s.bought) m/\(∀s,s∈L->s.bought<=L.foldl (fun m s=>max m s.bought) m)/\(∀b,m<=b->(∀s,s∈L->s.bought<=b)->L.foldl (fun m s=>max m s.bought) m<=b)
 | [],m=>⟨Int.le_refl _,by simp,fun b h _=>h⟩
 | s::L,m=>by
  obtain ⟨h1,h2,h3⟩:=zqG L (max m s.bought)
  simp only [List.foldl_cons]
  refine ⟨by omega,fun t ht=>?_,fun b hb hs=>h3 b (by have:=hs s (by simp);omega) fun t ht=>hs t (by simp [ht])⟩
  rcases List.mem_cons.1 ht with rfl | ht
  ·omega
  ·exact h2 t ht
theorem zrI {n:Nat} (hn:200000<=n) {rec1:List Int->Int->Option (List Int)} {L:List SpotR_} (hl:L.length<=93312) (v:Int) (N:List Int) (hN:N.length<=1000):zb5 rec1 L v n N 0=zcx rec1 v (if L.any (fun s=>s.bought==v)=true then N++[v] else N):=by
 have key:=zmP (F:=fun m i (_:Unit)=>zb5 rec1 L v m N i) (xs:=L) (spec:=fun k _=>zcx rec1 v (if k.any (fun s=>s.bought==v)=true then N++[v] else N)) (n:=n) (by omega) (by omega) () (fun m s=>by
   simp only [zb5,zd4]
   rw [if_neg (by simp)]
   rfl)
  (fun m i y l s hx hi _ _ hrec=>by
   simp only [zb5,zd4]
   rw [if_pos (by simpa using hi),hx,zaa]
   by_cases e:y.bought=v
   ·rw [if_pos (by simpa using e),zgp (by simp;omega),zaa,if_pos (by simp [e])]
   ·rw [if_neg (by simpa using e),hrec ()]
    simp only [List.any_cons,show (y.bought==v)=false by simpa using e,Bool.false_or])
 exact key
theorem zrJ {n:Nat} (hn:200000<=n) {L:List SpotR_} (hl:L.length<=93312) (hb:∀s,s∈L->0<=s.bought/\s.bought<=500):∃N,zgG n L=some N/\zuD L N:=by
 obtain ⟨f1,f2,f3⟩:=zqG L 0
 have f4:=f3 500 (by omega) fun s hs=>(hb s hs).2
 unfold zgG
 have k3:=zmP (F:=fun m i (s:Int)=>zb6 n L m s i) (xs:=L) (spec:=fun k s=>zdP n L (k.foldl (fun m s=>max m s.bought) s)) (n:=n) (by omega) (by omega) 0 (fun m s=>by
   simp only [zb6,zd6]
   rw [if_neg (by simp)]
   rfl)
  (fun m i y l s hx hi _ _ hrec=>by
   simp only [zb6,zd6]
   rw [if_pos (by simpa using hi),hx,zaa]
   exact hrec _)
 rw [show zb6 n L n 0 0=_ from k3]
 generalize L.foldl (fun m s=>max m s.bought) 0=M at *
 unfold zdP
 have key:∀(d i m:Nat) (N:List Int),(d:Int)=M+1-i->(i:Int)<=M+1->d<m->N.Pairwise (·<·)->(∀v,v∈N↔v<i/\∃s,s∈L/\s.bought=v)->N.length<=i->∃N',za6 n L M m N (i:Int)=some N'/\zuD L N':=by
  intro d
  induction d with
  | zero =>
   intro i m N hd hi hm h1 h2 h3
   obtain ⟨m,rfl⟩:∃q,m=q+1:=⟨m-1,by omega⟩
   simp only [za6,zd5,zeZ]
   rw [if_neg (by simp;omega)]
   refine ⟨N,rfl,h1,fun v=>?_⟩
   rw [h2 v]
   refine ⟨fun h=>h.2,fun ⟨s,hs,e⟩=>⟨?_,s,hs,e⟩⟩
   have:=f2 s hs
   omega
  | succ d ih =>
   intro i m N hd hi hm h1 h2 h3
   obtain ⟨m,rfl⟩:∃q,m=q+1:=⟨m-1,by omega⟩
   simp only [za6,zd5]
   rw [if_pos (by simp;omega),zrI hn hl _ N (by omega)]
   unfold zcx
   rw [zaI (by omega) (by omega)]
   have hany:L.any (fun s=>s.bought==(i:Int))=true↔∃s,s∈L/\s.bought=(i:Int):=by simp
   by_cases hq:L.any (fun s=>s.bought==(i:Int))=true
   ·rw [if_pos hq]
    have:=ih (i+1) m (N++[(i:Int)]) (by omega) (by omega) (by omega) (by
      rw [List.pairwise_append]
      refine ⟨h1,by simp,fun a ha b hb'=>?_⟩
      rw [List.mem_singleton.1 hb']
      exact ((h2 a).1 ha).1)
     (fun v=>by
      rw [List.mem_append,h2 v,List.mem_singleton]
      constructor
      ·rintro (⟨h,hs⟩ | rfl)
       ·exact ⟨by omega,hs⟩
       ·exact ⟨by omega,hany.1 hq⟩
      ·rintro ⟨h,hs⟩
       by_cases e:v=i
       ·exact .inr e
       ·exact .inl ⟨by omega,hs⟩) (by simp;omega)
    rw [show (((i+1:Nat)):Int)=(i:Int)+1 by simp] at this
    exact this
   ·rw [if_neg hq]
    have:=ih (i+1) m N (by omega) (by omega) (by omega) h1
     (fun v=>by
      rw [h2 v]
      constructor
      ·rintro ⟨h,hs⟩
       exact ⟨by omega,hs⟩
      ·rintro ⟨h,hs⟩
       refine ⟨?_,hs⟩
       by_cases e:v=i
       ·subst e
        exact absurd (hany.2 hs) hq
       ·omega) (by omega)
    rw [show (((i+1:Nat)):Int)=(i:Int)+1 by simp] at this
    exact this
 exact key (M+1).toNat 0 n [] (by omega) (by omega) (by omega) .nil (fun v=>by
  simp only [List.not_mem_nil,false_iff]
  rintro ⟨h,s,hs,e⟩
  have:=hb s hs
  omega) (by simp)
def exc:List Int->List Int->Int
 | x::p,y::q=>max 0 (x-y)+exc p q
 | _,_=>0
theorem zmc:∀{p q:List Int},q.length=p.length->total p<=total q+exc p q
 | [],[],_=>by simp [exc,total]
 | [],_::_,h=>by simp at h
 | _::_,[],h=>by simp at h
 | x::p,y::q,h=>by
  have:=zmc (p:=p) (q:=q) (by simpa using h)
  simp only [exc,total]
  omega
theorem zkI:∀{p q:List Int},(∀x,x∈q->0<=x)->(∀x,x∈p->0<=x)->exc p q<=total p
 | [],_,_,_=>by simp [exc,total]
 | x::p,[],_,hp=>by
  have:=ze5 hp
  simpa [exc] using this
 | x::p,y::q,hq,hp=>by
  have:=zkI (p:=p) (q:=q) (fun z hz=>hq z (by simp [hz])) (fun z hz=>hp z (by simp [hz]))
  have h1:=hq y (by simp)
  have h2:=hp x (by simp)
  simp only [exc,total]
  omega
theorem zqH:∀{p q:List Int} {k:Nat},exc (zc3 p k) q<=exc p q
 | [],q,k=>by simp [zc3,exc]
 | x::p,[],k=>by
  have e:∀l:List Int,exc l []=0:=fun l=>by cases l<;>rfl
  rw [e,e]
  exact Int.le_refl _
 | x::p,y::q,0=>by
  show max 0 (x-1-y)+exc p q<=max 0 (x-y)+exc p q
  omega
 | x::p,y::q,k+1=>by
  have:=zqH (p:=p) (q:=q) (k:=k)
  show max 0 (x-y)+exc (zc3 p k) q<=max 0 (x-y)+exc p q
  omega
theorem zoO {n:Nat} {p q:List Int} (h:q.length=p.length) (hl:p.length<=10) (hp:zfD p) (hq:zfD q) (hn:100<=n):zik n p q=some (exc p q):=by
 have key:∀(q' p' pp pq:List Int) (m:Nat) (v:Int),p=pp++p'->q=pq++q'->pq.length=pp.length->q'.length=p'.length->q'.length<m->0<=v->v<=1000*pp.length->zcL p q m v (pp.length:Int)=some (v+exc p' q'):=by
  intro q'
  induction q' with
  | nil =>
   intro p' pp pq m v h1 h2 h3 h4 hm hv hv2
   obtain ⟨m,rfl⟩:∃t,m=t+1:=⟨m-1,by omega⟩
   simp only [zcL,zeB,zfp]
   rw [if_neg (by rw [h2];simp;omega)]
   have e:exc p' []=0:=by cases p'<;>rfl
   rw [e,Int.add_zero]
  | cons y q' ih =>
   intro p' pp pq m v h1 h2 h3 h4 hm hv hv2
   obtain ⟨m,rfl⟩:∃t,m=t+1:=⟨m-1,by omega⟩
   cases p' with
   | nil=>simp at h4
   | cons x p' =>
    have hx:=hp pp.length
    have hy:=hq pq.length
    rw [h1,znC] at hx
    rw [h2,znC] at hy
    have hlen:p.length=pp.length+(p'.length+1):=by rw [h1];simp
    simp only [List.length_cons] at hm h4
    simp only [zcL,zeB]
    rw [if_pos (by rw [h2];simp;omega),show idx p (pp.length:Int)=some x by rw [h1];exact zgX _ _ _,zaa,show idx q (pp.length:Int)=some y by rw [h2,←h3];exact zgX _ _ _,zaa,zaI (x:=x-y) (by omega) (by omega),zaI (x:=v+_) (by omega) (by omega),zaI (x:=(pp.length:Int)+1) (by omega) (by omega)]
    have:=ih p' (pp++[x]) (pq++[y]) m (v+max 0 (x-y)) (by simp [h1]) (by simp [h2]) (by simp [h3]) (by omega) (by omega) (by omega) (by simp;omega)
    rw [show (((pp++[x]).length:Nat):Int)=(pp.length:Int)+1 by simp] at this
    rw [this]
    simp only [exc]
    congr 1
    omega
 have:=key q p [] [] n 0 rfl rfl rfl h (by omega) (by omega) (by simp)
 rw [Int.zero_add] at this
 exact this
def zBE (w:Wheel) (al p:List Int) (L:List SpotR_):Prop:=SpI w al p L/\∀acts X,RP clI w al acts X->X.l=p->za9 X∈L
theorem zuE {w:Wheel} {al p:List Int} (C:Cr w al) (h:Part p al) {v:Int}:Can w p v↔∃acts X,RP clI w al acts X/\X.l=p/\X.b=v:=by
 constructor
 ·rintro ⟨acts,hok,hbag,hb⟩
  obtain ⟨acts',x,hr,h1,h2,_⟩:=zth C.h C.hl C.nn acts.length acts rfl hok fun k hk=>by
   rw [hbag k hk]
   exact (h.2 k).2
  have hX:=C.ok hr
  exact ⟨acts',x,hr,zc4 hX.len (by rw [h.1,C.hl]) fun k hk=>by rw [h2 k hk,hbag k hk],by rw [h1,hb]⟩
 ·rintro ⟨acts,x,hr,rfl,rfl⟩
  have hX:=C.ok hr
  exact ⟨acts,hX.ok,fun k _=>hX.bag k,hX.buys⟩
theorem zuF {w:Wheel} {al p:List Int} (C:Cr w al) (h:Part p al) {L:List SpotR_} {N:List Int} (hF:zBE w al p L) (hN:zuD L N):zku w p N:=by
 refine ⟨hN.1,fun v=>?_⟩
 rw [hN.2,zuE C h]
 constructor
 ·rintro ⟨s,hs,rfl⟩
  obtain ⟨acts,X,hr,hl,rfl⟩:=hF.1.pt s hs
  exact ⟨acts,X,hr,hl,rfl⟩
 ·rintro ⟨acts,X,hr,hl,rfl⟩
  exact ⟨_,hF.2 acts X hr hl,rfl⟩
theorem ztz {l:List Int} {k:Nat} (hk:k<l.length):zc3 (zfg l k) k=l:=by
 refine zc4 (n:=l.length) (by simp [zc3,zfg]) rfl fun j hj=>?_
 rw [zfT (by rw [zl3];exact hk),zeF hk]
 split<;>omega
theorem ztA {l:List Int} {k:Nat} (hk:k<l.length):zfg (zc3 l k) k=l:=by
 have hk':k<(zc3 l k).length:=by simp [zc3];exact hk
 refine zc4 (n:=l.length) (by simp [zc3,zfg]) rfl fun j hj=>?_
 rw [zeF hk',zfT hk]
 split<;>omega
theorem zpH {w:Wheel} {al p:List Int} (C:Cr w al) (h5:total p<=5) {L:List SpotR_} (hL:SpI w al p L):∀s,s∈L->0<=s.bought/\s.bought<=500:=fun s hs=>by
 obtain ⟨acts,X,hr,rfl,rfl⟩:=hL.pt s hs
 have h:=C.ok hr
 have h1:=h.c0
 have h2:=h.cb
 have h3:=h.bt
 show 0<=X.b/\X.b<=500
 omega
theorem zqI {w:Wheel} {al p:List Int} (C:Cr w al) (h5:total p<=5) {n:Nat} (hn:200000<=n) {k:Nat} (hk:k<w.Coins.length) (hp:Part p al) (hpk:p.getD k 0≠0) {rec2:List SpotR_->Int->Option (List (List Int))} {xs:List SpotR_} (hl:xs.length<=93312) :
  ∀(l pre:List SpotR_) (m:Nat) (S:List SpotR_),pre++l=xs->l.length<m->(∀s,s∈l->∃acts X,RP clI w al acts X/\X.l=zc3 p k/\s=za9 X)->SpI w al p S ->
   ∃S',zcF n rec2 w (k:Int) xs m S (pre.length:Int)=zdb rec2 (k:Int) S'/\SpI w al p S'/\(∀s,s∈S->s∈S')/\∀acts X,RP clI w al acts X->X.l=zc3 p k->za9 X∈l->za9 (znE clI w X k)∈S'
 | [],pre,0,S,_,hm,_,_=>absurd hm (Nat.not_lt_zero _)
 | [],pre,m+1,S,he,hm,hx,hS=>by
  simp only [zcF,ze0]
  have hpl:pre.length=xs.length:=by rw [←he];simp
  rw [if_neg (by simp;omega)]
  exact ⟨S,rfl,hS,fun _ h=>h,fun _ _ _ _ h=>by simp at h⟩
 | s::l,pre,0,S,_,hm,_,_=>absurd hm (Nat.not_lt_zero _)
 | s::l,pre,m+1,S,he,hm,hx,hS=>by
  obtain ⟨acts,X,hr,hXl,rfl⟩:=hx s (by simp)
  have hpl:k<p.length:=by rw [hp.1,C.hl];exact hk
  have hO:=C.ok hr
  have hbt:=hO.bt
  have hcb:=hO.cb
  have hc0:=hO.c0
  rw [hXl,zfe hpl] at hbt
  have hcoin:=zdW C.h (a:=(k:Int)) (by omega) (by omega)
  have htr:=zdu C.h hO.p0 hO.p1 (show 0<=coin w k by omega)
  have hlen:xs.length=pre.length+(l.length+1):=by rw [←he];simp
  have hix:idx xs (pre.length:Int)=some (za9 X):=by rw [←he];exact zgX _ _ _
  simp only [zcF,ze0]
  have hact:zeN n w (za9 X).stand (k:Int)=some (⟨(turn w X.p (coin w k)).1,X.c+(turn w X.p (coin w k)).2⟩,false):=by
   rw [zs7 C.h (by omega) (s:=(za9 X).stand) (b:=500) ⟨hO.p0,hO.p1,hO.c0,by show X.c<=500;omega⟩ (by omega) (zlZ hk)]
   unfold zh3
   rw [if_pos (by omega)]
   rfl
  rw [if_pos (by simp;omega),hix,zaa,hact,zaa,zaa,zaa]
  have hne:X.l.getD k 0≠al.getD k 0:=by
   rw [hXl,zfT hpl,if_pos rfl]
   have:=(hp.2 k).2
   omega
  have hrc:=hr.coin hk hne
  obtain ⟨S1,a1,a2,a3,a4⟩:=zty C h5 hn hS hrc (show zfg X.l k=p by rw [hXl];exact ztA hpl)
  have e:(⟨⟨(turn w X.p (coin w k)).1,X.c+(turn w X.p (coin w k)).2⟩,w64 (w64 ((za9 X).bought+(X.c+(turn w X.p (coin w k)).2))-(za9 X).stand.Credit)⟩:SpotR_)=za9 (znE clI w X k):=by
   show (⟨⟨_,_⟩,w64 (w64 (X.b+(X.c+(turn w X.p (coin w k)).2))-X.c)⟩:SpotR_)=⟨⟨_,_⟩,X.b+(turn w X.p (coin w k)).2⟩
   rw [zaI (x:=X.b+_) (by omega) (by omega),zaI (by omega) (by omega)]
   congr 1
   omega
  obtain ⟨S',b1,b2,b3,b4⟩:=zqI C h5 hn hk hp hpk hl (rec2:=rec2) l (pre++[za9 X]) m S1 (by simpa using he) (by simpa using hm) (fun s hs=>hx s (by simp [hs])) a2
  refine ⟨S',?_,b2,fun s hs=>b3 s (a4 s hs),fun as Y hY hYl hm'=>?_⟩
  ·simp only
   rw [e,a1,zaa,zaI (x:=(pre.length:Int)+1) (by omega) (by omega)]
   rw [show (((pre++[za9 X]).length:Nat):Int)=(pre.length:Int)+1 by simp] at b1
   exact b1
  ·rcases List.mem_cons.1 hm' with h | h
   ·obtain rfl:=zqE h (hYl.trans hXl.symm)
    exact b3 _ a3
   ·exact b4 as Y hY hYl h
theorem zuG {p al:List Int} {w:Wheel} (C:Cr w al) (hp:Part p al) {k:Nat} (hk:k<w.Coins.length):zhr p (k:Int)=some (zc3 p k):=by
 have h3:=C.k3
 have hl:=C.hl
 have h1:=hp.1
 have h2:=hp.2 k
 have h6:=C.m6 k
 exact zvO (by omega) (by omega) (by omega)
structure TI (w:Wheel) (al put:List Int) (i:Nat) (v3:List (List SpotR_)) (v4:List (List Int)):Prop where
 l3:v3.length=i
 l4:v4.length=i
 ok:∀(j:Nat) (p:List Int) (L:List SpotR_) (N:List Int),(za0 al)[j]?=some p->v3[j]?=some L->v4[j]?=some N->exc p put<=2->zBE w al p L/\zuD L N
theorem zuH {w:Wheel} {al put p:List Int} (C:Cr w al) (hput:zfD put) (hpl:put.length=al.length) (hpt:total put<=3) {n:Nat} (hn:200000<=n) {rec1:List (List SpotR_)->List (List Int)->Int->Option (List (List Int))} {v3:List (List SpotR_)} {v4:List (List Int)} {i:Nat} (hT:TI w al put i v3 v4) (hi:(za0 al)[i]?=some p) (hps:pos al p=i) (hp:Part p al) (hx:exc p put<=2) :
  ∀(d k m:Nat) (S:List SpotR_),d=w.Coins.length-k->k<=w.Coins.length->d<m->SpI w al p S ->
   ∃S',zaX n rec1 w al put (za0 al) v3 v4 (i:Int) m S (k:Int)=zda n rec1 v3 v4 (i:Int) S'/\SpI w al p S'/\(∀s,s∈S->s∈S')/\∀k':Nat,k<=k'->k'<w.Coins.length->p.getD k' 0≠0->∀acts X,RP clI w al acts X->X.l=zc3 p k'->za9 (znE clI w X k')∈S':=by
 have hl:=C.hl
 have hk3:=C.k3
 have hplen:=hp.1
 have ht5:total p<=5:=by
  have:=zmc (p:=p) (q:=put) (by omega)
  omega
 have hsp:zfD p:=fun k=>by
  have:=hp.2 k
  have:=C.m6 k
  omega
 have hi':i<(za0 al).length:=by
  rcases Nat.lt_or_ge i (za0 al).length with h | h
  ·exact h
  ·rw [List.getElem?_eq_none h] at hi
   cases hi
 have hpi:(za0 al)[i]=p:=by
  rw [List.getElem?_eq_getElem hi'] at hi
  exact Option.some.inj hi
 have hidx:idx (za0 al) (i:Int)=some p:=by rw [zb2 hi',hpi]
 intro d
 induction d with
 | zero =>
  intro k m S hd hk hm hS
  obtain ⟨m,rfl⟩:∃q,m=q+1:=⟨m-1,by omega⟩
  simp only [zaX,zdQ]
  rw [if_neg (by simp;omega)]
  unfold zcG
  rw [if_neg (by simp)]
  exact ⟨S,rfl,hS,fun _ h=>h,fun k' h1 h2=>by omega⟩
 | succ d ih =>
  intro k m S hd hk hm hS
  obtain ⟨m,rfl⟩:∃q,m=q+1:=⟨m-1,by omega⟩
  simp only [zaX,zdQ]
  rw [if_pos (by simp;omega),hidx,zaa,zoO (by omega) (by omega) hsp hput (by omega),zaa,show decide (exc p put<=2)=true by simpa using hx]
  unfold zcG
  rw [if_pos rfl,hidx,zaa,zb2 (by omega),zaa,getD_get]
  by_cases hz:p.getD k 0=0
  ·rw [if_pos (by simpa using hz)]
   unfold zdb
   rw [zaI (by omega) (by omega)]
   obtain ⟨S',a1,a2,a3,a4⟩:=ih (k+1) m S (by omega) (by omega) (by omega) hS
   rw [show (((k+1:Nat)):Int)=(k:Int)+1 by simp] at a1
   refine ⟨S',a1,a2,a3,fun k' h1 h2 h3=>?_⟩
   by_cases e:k'=k
   ·subst e
    exact absurd hz h3
   ·exact a4 k' (by omega) h2 h3
  ·rw [if_neg (by simpa using hz),zaa,zuG C hp (by omega),zaa]
   have hpk:Part (zc3 p k) al:=ztx hp (by omega) hz
   obtain ⟨g1,g2⟩:=znN hpk
   have hlt:=zqD (k:=k) hp (by omega) hz
   rw [hps] at hlt
   rw [zuC hpk (by omega) C.m6 (by omega),zaa]
   have hv3:pos al (zc3 p k)<v3.length:=by rw [hT.l3];exact hlt
   have hv4:pos al (zc3 p k)<v4.length:=by rw [hT.l4];exact hlt
   obtain ⟨hF,_⟩:=hT.ok (pos al (zc3 p k)) (zc3 p k) _ _ g1 (List.getElem?_eq_getElem hv3) (List.getElem?_eq_getElem hv4) (Int.le_trans zqH hx)
   rw [zb2 hv3,zaa]
   generalize v3[pos al (zc3 p k)]=X25 at hF
   have h5':total (zc3 p k)<=5:=by rw [zfe (by omega)];omega
   have hlen25:=zj4 C h5' hF.1.nd hF.1.pt
   obtain ⟨S1,b1,b2,b3,b4⟩:=zqI C ht5 hn (show k<w.Coins.length by omega) hp hz (rec2:=zaX n rec1 w al put (za0 al) v3 v4 (i:Int) m) hlen25 X25 [] n S rfl (by omega) hF.1.pt hS
   rw [show zcF n (zaX n rec1 w al put (za0 al) v3 v4 (i:Int) m) w (k:Int) X25 n S 0=_ from b1]
   unfold zdb
   rw [zaI (by omega) (by omega)]
   obtain ⟨S',a1,a2,a3,a4⟩:=ih (k+1) m S1 (by omega) (by omega) (by omega) b2
   rw [show (((k+1:Nat)):Int)=(k:Int)+1 by simp] at a1
   refine ⟨S',a1,a2,fun s hs=>a3 s (b3 s hs),fun k' h1 h2 h3 acts X hX hXl=>?_⟩
   by_cases e:k'=k
   ·subst e
    exact a3 _ (b4 acts X hX hXl (hF.2 acts X hX hXl))
   ·exact a4 k' (by omega) h2 h3 acts X hX hXl
theorem zmd {w:Wheel} {al p:List Int} (C:Cr w al) (hp:Part p al) (h:total p=0):p=zl w :=
 zc4 (n:=w.Coins.length) (by rw [hp.1,C.hl]) (by simp [zl]) fun k _=>by rw [zjl];exact zmQ (ztf hp) h k
theorem zuI {w:Wheel} {al put:List Int} (C:Cr w al) (hput:zfD put) (hpl:put.length=al.length) (hpt:total put<=3) {n:Nat} (hn:200000<=n) (hsz:(za0 al).length<=1000) (hpos:∀(i:Nat) (p:List Int),(za0 al)[i]?=some p->pos al p=i) :
  ∀(d i m:Nat) (v3:List (List SpotR_)) (v4:List (List Int)),d=(za0 al).length-i->i<=(za0 al).length->d<m->TI w al put i v3 v4 ->
   ∃T,zay n w al put (za0 al) m v3 v4 (i:Int)=some T/\∃V,TI w al put (za0 al).length V T:=by
 have hl:=C.hl
 have hk3:=C.k3
 intro d
 induction d with
 | zero =>
  intro i m v3 v4 hd hi hm hT
  obtain ⟨m,rfl⟩:∃q,m=q+1:=⟨m-1,by omega⟩
  simp only [zay,ze1,zf5]
  rw [if_neg (by simp;omega)]
  have:i=(za0 al).length:=by omega
  subst this
  exact ⟨v4,rfl,v3,hT⟩
 | succ d ih =>
  intro i m v3 v4 hd hi hm hT
  obtain ⟨m,rfl⟩:∃q,m=q+1:=⟨m-1,by omega⟩
  have hi':i<(za0 al).length:=by omega
  obtain ⟨p,hpi⟩:∃p,(za0 al)[i]?=some p:=⟨_,List.getElem?_eq_getElem hi'⟩
  have hp:Part p al:=(zjY (zfA C.nn)).1 (List.mem_of_getElem? hpi)
  have hplen:=hp.1
  have hsp:zfD p:=fun k=>by
   have:=hp.2 k
   have:=C.m6 k
   omega
  have hidx:idx (za0 al) (i:Int)=some p:=by
   rw [zb2 hi']
   rw [List.getElem?_eq_getElem hi'] at hpi
   exact hpi
  simp only [zay,ze1]
  rw [if_pos (by simp;omega),hidx,zaa,znF hsp (by omega) (by omega),zaa]
  have fin:∀S:List SpotR_,S.length<=93312->(∀s,s∈S->0<=s.bought/\s.bought<=500)->(exc p put<=2->zBE w al p S)->∃T,zda n (zay n w al put (za0 al) m) v3 v4 (i:Int) S=some T/\∃V,TI w al put (za0 al).length V T:=fun S hS1 hS2 hS3=>by
   obtain ⟨N,n1,n2⟩:=zrJ hn hS1 hS2
   have e3:=hT.l3
   have e4:=hT.l4
   unfold zda
   rw [zgp (by simp;omega),zaa,n1,zaa,zgp (by simp;omega),zaa]
   unfold zf6
   rw [zaI (by omega) (by omega)]
   have:=ih (i+1) m (v3++[S]) (v4++[N]) (by omega) (by omega) (by omega) ⟨by simp [e3],by simp [e4],fun j q L N' h1 h2 h3 h4=>by
    by_cases hj:j<i
    ·rw [List.getElem?_append_left (by omega)] at h2 h3
     exact hT.ok j q L N' h1 h2 h3 h4
    ·by_cases hj2:j=i
     ·subst hj2
      rw [←e3,List.getElem?_append_right (Nat.le_refl _),Nat.sub_self] at h2
      rw [←e4,List.getElem?_append_right (Nat.le_refl _),Nat.sub_self] at h3
      rw [hpi] at h1
      obtain rfl:=Option.some.inj h1
      obtain rfl:=Option.some.inj h2
      obtain rfl:=Option.some.inj h3
      exact ⟨hS3 h4,n2⟩
     ·rw [List.getElem?_eq_none (by simp;omega)] at h2
      cases h2⟩
   rw [show (((i+1:Nat)):Int)=(i:Int)+1 by simp] at this
   exact this
  by_cases hx:exc p put<=2
  ·have ht5:total p<=5:=by
    have:=zmc (p:=p) (q:=put) (by omega)
    omega
   have go:∀S0,SpI w al p S0->(p=zl w->za9 (zkr w)∈S0)->∃T,zdc n (zay n w al put (za0 al) m) w al put (za0 al) v3 v4 (i:Int) S0=some T/\∃V,TI w al put (za0 al).length V T:=fun S0 h1 h2=>by
    unfold zdc
    obtain ⟨S',a1,a2,a3,a4⟩:=zuH C hput hpl hpt hn (rec1:=zay n w al put (za0 al) m) hT hpi (hpos i p hpi) hp hx w.Coins.length 0 n S0 (by omega) (by omega) (by omega) h1
    rw [show zaX n (zay n w al put (za0 al) m) w al put (za0 al) v3 v4 (i:Int) n S0 0=_ from a1]
    refine fin S' (zj4 C ht5 a2.nd a2.pt) (zpH C ht5 a2) fun _=>⟨a2,fun acts X hr=>?_⟩
    induction hr with
    | zero=>exact fun e=>a3 _ (h2 e.symm)
    | sel hr hc hp' ih'=>exact fun e=>a2.cl _ _ hr e (ih' e) hc hp'
    | @coin acts X k hr hk hne ih' =>
     intro e
     have e:zfg X.l k=p:=e
     have hkl:k<X.l.length:=by rw [(C.ok hr).len];exact hk
     refine a4 k (Nat.zero_le _) hk ?_ acts X hr (by rw [←e,ztz hkl])
     rw [←e,zeF hkl,if_pos rfl]
     have:=(C.ok hr).nn k
     omega
   by_cases hz:total p=0
   ·rw [if_pos (by simpa using hz)]
    have hpz:=zmd C hp hz
    obtain ⟨S0,b1,b2,b3,_⟩:=zty C ht5 hn (p:=p) (L:=[]) ⟨by simp,by simp,by simp⟩ (RP.zero (cl:=clI) (w:=w) (al:=al)) (show (zkr w).l=p from hpz.symm)
    rw [show zfo n w [] ⟨⟨0,0⟩,0⟩=_ from b1,zaa]
    exact go S0 b2 fun _=>b3
   ·rw [if_neg (by simpa using hz)]
    exact go [] ⟨by simp,by simp,by simp⟩ fun e=>absurd (by rw [e];exact zj0 _) hz
  ·have hz:total p≠0:=fun e=>by
    have:=zkI (p:=p) (q:=put) (zfA fun k=>(hput k).1) (ztf hp)
    omega
   rw [if_neg (by simpa using hz)]
   unfold zdc
   have e:zaX n (zay n w al put (za0 al) m) w al put (za0 al) v3 v4 (i:Int) n [] 0=zda n (zay n w al put (za0 al) m) v3 v4 (i:Int) []:=by
    obtain ⟨n',rfl⟩:∃q,n=q+1:=⟨n-1,by omega⟩
    simp only [zaX,zdQ]
    by_cases h0:(0:Int)<(al.length:Int)
    ·rw [if_pos (by simpa using h0),hidx,zaa,zoO (by omega) (by omega) hsp hput (by omega),zaa,show decide (exc p put<=2)=false by simpa using hx]
     unfold zcG
     rw [if_neg (by simp)]
    ·rw [if_neg (by simpa using h0)]
     unfold zcG
     rw [if_neg (by simp)]
   rw [e]
   exact fin [] (by simp) (by simp) fun h=>absurd h hx
theorem ztB:∀{l p:List Int} {i:Nat},(∀x,x∈l->0<=x)->(za0 l)[i]?=some p->pos l p=i
 | [],p,i,_,h=>by
  simp only [za0] at h
  cases i with
  | zero=>rfl
  | succ i=>simp at h
 | x::l,p,i,hx,h=>by
  have hi:i<(za0 (x::l)).length:=by
   rcases Nat.lt_or_ge i (za0 (x::l)).length with h1 | h1
   ·exact h1
   ·rw [List.getElem?_eq_none h1] at h
    cases h
  rw [znM] at hi
  have hc:0<(za0 l).length:=by
   rcases Nat.eq_zero_or_pos (za0 l).length with h1 | h1
   ·rw [h1] at hi
    omega
   ·exact h1
  have hv:i / (za0 l).length<x.toNat+1:=Nat.div_lt_of_lt_mul (by rw [Nat.mul_comm];exact hi)
  have hj:i % (za0 l).length<(za0 l).length:=Nat.mod_lt _ hc
  have hdm:i / (za0 l).length*(za0 l).length+i % (za0 l).length=i:=by rw [Nat.mul_comm];exact Nat.div_add_mod i _
  simp only [za0] at h
  rw [←hdm,znL (c:=(za0 l).length) (x.toNat+1) 0 _ _ (fun y _=>by simp) hv hj,List.getElem?_map] at h
  cases ht:(za0 l)[i % (za0 l).length]? with
  | none=>rw [ht] at h;cases h
  | some t =>
   rw [ht] at h
   simp only [Option.map_some,Option.some.injEq] at h
   subst h
   have ih:=ztB (l:=l) (fun y hy=>hx y (by simp [hy])) ht
   simp only [pos,ih]
   rw [Nat.zero_add,Int.toNat_natCast]
   exact hdm
theorem zuJ {w:Wheel} {al put:List Int} (C:Cr w al) (hput:zfD put) (hpl:put.length=al.length) (hpt:total put<=3) {n:Nat} (hn:200000<=n):zcK n al []=some (za0 al)/\∃T,zhO n w al put=some T/\∃V,TI w al put (za0 al).length V T:=by
 have hl:=C.hl
 have hk3:=C.k3
 have hm6:∀x,x∈al->0<=x/\x<=6:=fun x hx=>by
  obtain ⟨k,hk⟩:=List.getElem?_of_mem hx
  have h1:=C.nn k
  have h2:=C.m6 k
  rw [List.getD_eq_getElem?_getD,hk] at h1 h2
  exact ⟨h1,h2⟩
 have hsz:(za0 al).length<=1000:=by
  have h1:=zjZ (l:=al) fun x hx=>(hm6 x hx).2
  have h2:7 ^ al.length<=7 ^ 3:=Nat.pow_le_pow_right (by omega) (by omega)
  omega
 have hparts:zcK n al []=some (za0 al):=by
  have:=zte al [] [] n rfl (by simp;omega) hm6 (by omega)
  simpa using this
 refine ⟨hparts,?_⟩
 unfold zhO
 rw [hparts,zaa]
 exact zuI C hput hpl hpt hn hsz (fun i p h=>ztB (zfA C.nn) h) (za0 al).length 0 n [] [] (by omega) (by omega) (by omega) ⟨rfl,rfl,fun j p L N h1 h2=>by simp at h2⟩
theorem TI.can {w:Wheel} {al put:List Int} (C:Cr w al) {V:List (List SpotR_)} {T:List (List Int)} (hT:TI w al put (za0 al).length V T) {i:Nat} {p:List Int} (hi:(za0 al)[i]?=some p) (hx:exc p put<=2):∃N,idx T (i:Int)=some N/\zku w p N:=by
 have hil:i<(za0 al).length:=by
  rcases Nat.lt_or_ge i (za0 al).length with h1 | h1
  ·exact h1
  ·rw [List.getElem?_eq_none h1] at hi
   cases hi
 have h3:i<V.length:=by rw [hT.l3];exact hil
 have h4:i<T.length:=by rw [hT.l4];exact hil
 obtain ⟨hF,hN⟩:=hT.ok i p _ _ hi (List.getElem?_eq_getElem h3) (List.getElem?_eq_getElem h4) hx
 exact ⟨T[i],zb2 h4,zuF C ((zjY (zfA C.nn)).1 (List.mem_of_getElem? hi)) hF hN⟩
def zfW (a b:List Int):List Int:=List.zipWith (·-·) a b
theorem zgt {a b:List Int} (h:b.length=a.length):(zfW a b).length=a.length:=by simp [zfW,h]
theorem zgM:∀{a b:List Int},b.length=a.length->∀k,(zfW a b).getD k 0=a.getD k 0-b.getD k 0
 | [],[],_,k=>by simp [zfW]
 | [],_::_,h,_=>by simp at h
 | _::_,[],h,_=>by simp at h
 | x::a,y::b,h,0=>by simp [zfW]
 | x::a,y::b,h,k+1=>by
  have:=zgM (a:=a) (b:=b) (by simpa using h) k
  simpa [zfW] using this
theorem zme {p put:List Int} (h:put.length=p.length):sums put (zfW p put)=p :=
 zc4 (n:=p.length) (by rw [zfB (by rw [zgt h];exact h.symm),h]) rfl fun k _=>by rw [zfC (by rw [zgt h];exact h.symm),zgM h];omega
theorem ztC {P put:List Int} (h:P.length=put.length):zfW (sums put P) put=P :=
 zc4 (n:=P.length) (by rw [zgt (by rw [zfB h]),zfB h];exact h.symm) rfl fun k _=>by rw [zgM (by rw [zfB h]),zfC h];omega
theorem zqJ:∀{p q:List Int},q.length=p.length->(∀k,q.getD k 0<=p.getD k 0)->exc p q=total p-total q
 | [],[],_,_=>rfl
 | [],_::_,h,_=>by simp at h
 | _::_,[],h,_=>by simp at h
 | x::p,y::q,h,hk=>by
  have ih:=zqJ (p:=p) (q:=q) (by simpa using h) fun k=>by simpa using hk (k+1)
  have h0:y<=x:=hk 0
  simp only [exc,total]
  omega
theorem zoP {n:Nat} {P:List Int} (h2:∀x,x∈P->x<=2) (hl:P.length<=10) (hn:200<=n):zfq n P=some (P.all (fun x=>decide (0<=x))&&decide (total P<=2)):=by
 have fin:P.all (fun x=>decide (0<=x))=true->zcq n P=some (decide (total P<=2)):=fun h=>by
  unfold zcq
  rw [znF (fun k=>by
   rw [List.getD_eq_getElem?_getD]
   cases hk:P[k]? with
   | none=>simp
   | some x =>
    have hm:=List.mem_of_getElem? hk
    have h1:=h2 x hm
    rw [List.all_eq_true] at h
    have h3:0<=x:=by simpa using h x hm
    show 0<=x/\x<=1000
    omega) (by omega) (by omega)]
  rfl
 have key:=zlU (F:=fun m i (_:Unit)=>zb0 n P m i) (xs:=P) (spec:=fun l _=>if l.all (fun x=>decide (0<=x))=true then zcq n P else some false) (I:=fun _ _=>True) (by omega)
  (fun m s hI=>by
   simp only [zb0,zdi]
   rw [if_neg (by simp),if_pos (by rfl)])
  (fun m i x l s hI hx hi _ _ hrec=>by
   simp only [zb0,zdi]
   rw [if_pos (by simpa using hi),hx,zaa]
   by_cases hq:x<0
   ·rw [if_pos (by simpa using hq),if_neg (by simp;omega)]
   ·rw [if_neg (by simpa using hq),hrec () trivial]
    simp only [List.all_cons,show decide (0<=x)=true by simp;omega,Bool.true_and])
  P 0 n () (by omega) rfl (by omega) trivial
 rw [show zfq n P=_ from key]
 by_cases hq:P.all (fun x=>decide (0<=x))=true
 ·rw [if_pos hq,fin hq,hq,Bool.true_and]
 ·rw [if_neg hq,show P.all (fun x=>decide (0<=x))=false by simpa using hq,Bool.false_and]
theorem zvV {n:Nat} {b:Box} (F:NearF b) {N:List Int} (hl:N.length<=1000) (hn:2000<=n):zke n b N=some (N.any fun v=>inR v b.Plays (b.Plays+b.Skips)):=by
 have h1:=F.p
 have h2:=F.k
 have key:=zmP (F:=fun m i (_:Unit)=>zdH b N m i) (xs:=N) (spec:=fun l _=>some (l.any fun v=>inR v b.Plays (b.Plays+b.Skips))) (n:=n) (by omega) (by omega) ()
  (fun m s=>by simp [zdH,zfr,zgH])
  (fun m i x l s hx hi _ _ hrec=>by
   simp only [zdH,zfr,zhM]
   rw [if_pos (by simpa using hi),hx,zaa,zaI (by omega) (by omega),ziQ,zaa,zaa]
   by_cases hq:inR x b.Plays (b.Plays+b.Skips)=true
   ·rw [if_pos hq]
    simp [hq]
   ·rw [if_neg hq,hrec ()]
    simp [hq])
 exact key
def two (l:List Int):List Int:=l.map (·+2)
theorem znO {l:List Int} {k:Nat} (h:k<l.length):(two l).getD k 0=l.getD k 0+2:=by simp [two,h]
theorem zmf (l:List Int) (k:Nat):(two l).getD k 0<=l.getD k 0+2/\(0<=l.getD k 0->0<=(two l).getD k 0):=by
 rcases Nat.lt_or_ge k l.length with h | h
 ·rw [znO h]
  omega
 ·rw [List.getD_eq_getElem?_getD,List.getD_eq_getElem?_getD,List.getElem?_eq_none (by simpa [two] using h),List.getElem?_eq_none h]
  simp
theorem Near.cr2 {b:Box} (N:Near b):Cr b.Wheel (two (zcD b)) :=
 have C:=N.cx0
 have F:=N.ok.far
 ⟨C.v,by simp [two,C.hl],fun k=>(zmf _ k).2 (C.nn k),C.k3,fun k=>by
  have h1:=(zmf (zcD b) k).1
  have h2:=zhl (zfA C.nn) k
  have h3:=ziw F
  have h4:=N.t3
  omega⟩
theorem zoQ {n:Nat} (hn:2000<=n) {rec1:List (List Int)->Int->Option (List (List Int))} {b:Box} {put p:List Int} {ps T v6:List (List Int)} {i:Nat} (hi:idx ps (i:Int)=some p) (h:put.length=p.length) (hl:put.length<=10) (hp:zfD p) (hq:zfD put):zbu n rec1 b put ps T v6 (i:Int) n [] 0=zct n rec1 b T v6 (i:Int) (zfW p put):=by
 have key:∀(d k m:Nat) (v:List Int),d=put.length-k->k<=put.length->d<m->v.length=k->zbu n rec1 b put ps T v6 (i:Int) m v (k:Int)=zct n rec1 b T v6 (i:Int) (v++(zfW p put).drop k):=by
  intro d
  induction d with
  | zero =>
   intro k m v hd hk hm hv
   obtain ⟨m,rfl⟩:∃q,m=q+1:=⟨m-1,by omega⟩
   simp only [zbu,zdj]
   rw [if_neg (by simp;omega),List.drop_eq_nil_of_le (by rw [zgt h];omega),List.append_nil]
  | succ d ih =>
   intro k m v hd hk hm hv
   obtain ⟨m,rfl⟩:∃q,m=q+1:=⟨m-1,by omega⟩
   have h1:=hp k
   have h2:=hq k
   simp only [zbu,zdj]
   rw [if_pos (by simp;omega),hi,zaa,zb2 (by omega),zaa,zb2 (by omega),zaa,getD_get,getD_get,zaI (by omega) (by omega),zgp (by simp;omega),zaa,zaI (by omega) (by omega)]
   have:=ih (k+1) m (v++[p.getD k 0-put.getD k 0]) (by omega) (by omega) (by omega) (by simp [hv])
   rw [show (((k+1:Nat)):Int)=(k:Int)+1 by simp] at this
   rw [this,List.drop_eq_getElem_cons (l:=zfW p put) (i:=k) (by rw [zgt h];omega),getD_get,zgM h]
   simp
 have:=key put.length 0 n [] (by omega) (by omega) (by omega) rfl
 simpa using this
theorem zoR {b:Box} (N:Near b) {n:Nat} (hn:200000<=n):∃R,zfs n b=some R/\R.length<=1000/\∀P,P∈R↔More b P/\znI b (sums (zcD b) P):=by
 have F:=N.ok.far
 have C:=N.cr2
 have C0:=N.cx0
 have h3:=N.k3
 have hpl:=ziv F
 have hs:=zoK F
 have hpt:total (zcD b)<=3:=by rw [ziw F];exact N.t3
 unfold zfs
 rw [ztr F (by omega),zaa]
 have k3:∀(d i m:Nat) (v:List Int),d=(zcD b).length-i->i<=(zcD b).length->d<m->v.length=i->zbv n b (zcD b) m v (i:Int)=zcX n b (zcD b) (v++(two (zcD b)).drop i):=by
  intro d
  induction d with
  | zero =>
   intro i m v hd hi hm hv
   obtain ⟨m,rfl⟩:∃q,m=q+1:=⟨m-1,by omega⟩
   simp only [zbv,zdl]
   rw [if_neg (by simp;omega),List.drop_eq_nil_of_le (by simp [two];omega),List.append_nil]
  | succ d ih =>
   intro i m v hd hi hm hv
   obtain ⟨m,rfl⟩:∃q,m=q+1:=⟨m-1,by omega⟩
   have h1:=hs i
   simp only [zbv,zdl]
   rw [if_pos (by simp;omega),zb2 (by omega),zaa,getD_get,zaI (by omega) (by omega),zgp (by simp;omega),zaa,zaI (by omega) (by omega)]
   have:=ih (i+1) m (v++[(zcD b).getD i 0+2]) (by omega) (by omega) (by omega) (by simp [hv])
   rw [show (((i+1:Nat)):Int)=(i:Int)+1 by simp] at this
   rw [this,List.drop_eq_getElem_cons (l:=two (zcD b)) (i:=i) (by simp [two];omega),getD_get,znO (by omega)]
   simp
 have k3':=k3 (zcD b).length 0 n [] (by omega) (by omega) (by omega) rfl
 rw [List.nil_append,List.drop_zero] at k3'
 rw [show zbv n b (zcD b) n [] 0=_ from k3']
 unfold zcX
 have htl:(two (zcD b)).length=(zcD b).length:=by simp [two]
 obtain ⟨q1,T,q2,V,hT⟩:=zuJ C hs htl.symm hpt hn
 have hsz:(za0 (two (zcD b))).length<=1000:=by
  have h1:=zjZ (l:=two (zcD b)) fun x hx=>by
   obtain ⟨k,hk⟩:=List.getElem?_of_mem hx
   have h2:=C.m6 k
   rw [List.getD_eq_getElem?_getD,hk] at h2
   exact h2
  have h2:7 ^ (two (zcD b)).length<=7 ^ 3:=Nat.pow_le_pow_right (by omega) (by omega)
  omega
 rw [q1,zaa,q2,zaa]
 have key:∀(d i m:Nat) (v:List (List Int)),d=(za0 (two (zcD b))).length-i->i<=(za0 (two (zcD b))).length->d<m->v.length<=i->(∀P,P∈v↔∃j p,j<i/\(za0 (two (zcD b)))[j]?=some p/\zfW p (zcD b)=P/\More b P/\znI b (sums (zcD b) P))->∃R,zaN n b (zcD b) (za0 (two (zcD b))) T m v (i:Int)=some R/\R.length<=1000/\∀P,P∈R↔∃j p,j<(za0 (two (zcD b))).length/\(za0 (two (zcD b)))[j]?=some p/\zfW p (zcD b)=P/\More b P/\znI b (sums (zcD b) P):=by
  intro d
  induction d with
  | zero =>
   intro i m v hd hi hm hv hvm
   obtain ⟨m,rfl⟩:∃q,m=q+1:=⟨m-1,by omega⟩
   simp only [zaN,zdk,zd7]
   rw [if_neg (by simp;omega)]
   have:i=(za0 (two (zcD b))).length:=by omega
   subst this
   exact ⟨v,rfl,by omega,hvm⟩
  | succ d ih =>
   intro i m v hd hi hm hv hvm
   obtain ⟨m,rfl⟩:∃q,m=q+1:=⟨m-1,by omega⟩
   have hi':i<(za0 (two (zcD b))).length:=by omega
   obtain ⟨p,hpi⟩:∃p,(za0 (two (zcD b)))[i]?=some p:=⟨_,List.getElem?_eq_getElem hi'⟩
   have hp:Part p (two (zcD b)):=(zjY (zfA C.nn)).1 (List.mem_of_getElem? hpi)
   have hplen:(zcD b).length=p.length:=by rw [hp.1,htl]
   have hsp:zfD p:=fun k=>by
    have:=hp.2 k
    have:=C.m6 k
    omega
   have hidx:idx (za0 (two (zcD b))) (i:Int)=some p:=by
    rw [zb2 hi']
    rw [List.getElem?_eq_getElem hi'] at hpi
    exact hpi
   simp only [zaN,zdk]
   rw [if_pos (by simp;omega),zoQ (by omega) hidx hplen (by omega) hsp hs]
   unfold zct
   have hd2:∀x,x∈zfW p (zcD b)->x<=2:=fun x hx=>by
    obtain ⟨k,hk⟩:=List.getElem?_of_mem hx
    have h1:=zgM hplen k
    have h2:=(hp.2 k).2
    have h3:=(zmf (zcD b) k).1
    rw [List.getD_eq_getElem?_getD (l:=zfW p (zcD b)),hk] at h1
    have h1:x=p.getD k 0-(zcD b).getD k 0:=h1
    omega
   rw [zoP hd2 (by rw [zgt hplen];omega) (by omega),zaa]
   have hmore:((zfW p (zcD b)).all (fun x=>decide (0<=x))&&decide (total (zfW p (zcD b))<=2))=true↔More b (zfW p (zcD b)):=by
    rw [Bool.and_eq_true,List.all_eq_true,decide_eq_true_eq]
    constructor
    ·rintro ⟨h1,h2⟩
     refine ⟨by rw [zgt hplen];omega,fun k=>?_,h2⟩
     rw [List.getD_eq_getElem?_getD]
     cases hk:(zfW p (zcD b))[k]? with
     | none=>simp
     | some x=>simpa using h1 x (List.mem_of_getElem? hk)
    ·rintro ⟨h1,h2,h3⟩
     exact ⟨fun x hx=>by simpa using zfA h2 x hx,h3⟩
   have step:∀v':List (List Int),v'.length<=i+1->(∀P,P∈v'↔P∈v\/(zfW p (zcD b)=P/\More b P/\znI b (sums (zcD b) P)))->∃R,zcr (zaN n b (zcD b) (za0 (two (zcD b))) T m) (i:Int) v'=some R/\R.length<=1000/\∀P,P∈R↔∃j p,j<(za0 (two (zcD b))).length/\(za0 (two (zcD b)))[j]?=some p/\zfW p (zcD b)=P/\More b P/\znI b (sums (zcD b) P):=fun v' hl hv'=>by
    unfold zcr
    rw [zaI (by omega) (by omega)]
    have:=ih (i+1) m v' (by omega) (by omega) (by omega) hl fun P=>by
     rw [hv' P,hvm P]
     constructor
     ·rintro (⟨j,q,h1,h2,h3⟩ | h)
      ·exact ⟨j,q,by omega,h2,h3⟩
      ·exact ⟨i,p,by omega,hpi,h⟩
     ·rintro ⟨j,q,h1,h2,h3⟩
      by_cases e:j=i
      ·subst e
       rw [hpi] at h2
       obtain rfl:=Option.some.inj h2
       exact .inr h3
      ·exact .inl ⟨j,q,by omega,h2,h3⟩
    rw [show (((i+1:Nat)):Int)=(i:Int)+1 by simp] at this
    exact this
   have no:¬(More b (zfW p (zcD b))/\znI b (sums (zcD b) (zfW p (zcD b))))->∀P,P∈v↔P∈v\/(zfW p (zcD b)=P/\More b P/\znI b (sums (zcD b) P)):=fun h P=>by
    refine ⟨.inl,?_⟩
    rintro (h1 | ⟨rfl,h1⟩)
    ·exact h1
    ·exact absurd h1 h
   by_cases hq:More b (zfW p (zcD b))
   ·rw [if_pos (hmore.2 hq)]
    have hge:∀k,(zcD b).getD k 0<=p.getD k 0:=fun k=>by
     have h1:=hq.nn k
     rw [zgM hplen] at h1
     omega
    have hex:exc p (zcD b)<=2:=by
     rw [zqJ hplen hge]
     have h1:=zfV (a:=zcD b) (b:=zfW p (zcD b)) (by rw [zgt hplen];exact hplen.symm)
     rw [zme hplen] at h1
     have:=hq.t
     omega
    obtain ⟨N',n1,n2⟩:=hT.can C hpi hex
    have Cp:=N.cx hq
    rw [zme hplen] at Cp
    have hNl:=ztt Cp n2
    rw [n1,zaa,zvV F (by omega) (by omega),zaa]
    have hany:(N'.any fun v=>inR v b.Plays (b.Plays+b.Skips))=true↔znI b (sums (zcD b) (zfW p (zcD b))):=by
     rw [zme hplen,List.any_eq_true]
     constructor
     ·rintro ⟨v,hv1,hv2⟩
      exact ⟨v,(n2.2 v).1 hv1,zcf.1 hv2⟩
     ·rintro ⟨v,hv1,hv2⟩
      exact ⟨v,(n2.2 v).2 hv1,zcf.2 hv2⟩
    unfold zcs
    by_cases hE:(N'.any fun v=>inR v b.Plays (b.Plays+b.Skips))=true
    ·rw [if_pos hE,zgp (by simp;omega),zaa]
     refine step _ (by simp;omega) fun P=>?_
     rw [List.mem_append,List.mem_singleton]
     constructor
     ·rintro (h | rfl)
      ·exact .inl h
      ·exact .inr ⟨rfl,hq,hany.1 hE⟩
     ·rintro (h | ⟨rfl,_⟩)
      ·exact .inl h
      ·exact .inr rfl
    ·rw [if_neg hE]
     exact step v (by omega) (no fun h=>hE (hany.2 h.2))
   ·rw [if_neg fun h=>hq (hmore.1 h)]
    unfold zcs
    rw [if_neg (by simp)]
    exact step v (by omega) (no fun h=>hq h.1)
 obtain ⟨R,r1,r2,r3⟩:=key (za0 (two (zcD b))).length 0 n [] (by omega) (by omega) (by omega) (by simp) fun P=>by simp
 refine ⟨R,r1,r2,fun P=>?_⟩
 rw [r3 P]
 constructor
 ·rintro ⟨j,p,_,_,_,h⟩
  exact h
 ·rintro ⟨h1,h2⟩
  have hl:P.length=(zcD b).length:=by rw [h1.l,hpl]
  have hpart:Part (sums (zcD b) P) (two (zcD b)):=⟨by rw [zfB hl,htl],fun k=>by
   rw [zfC hl]
   have h3:=h1.small k
   have h4:=C0.nn k
   refine ⟨by omega,?_⟩
   rcases Nat.lt_or_ge k (zcD b).length with h5 | h5
   ·rw [znO h5]
    omega
   ·rw [List.getD_eq_getElem?_getD,List.getD_eq_getElem?_getD,List.getD_eq_getElem?_getD,List.getElem?_eq_none h5,List.getElem?_eq_none (by omega),List.getElem?_eq_none (by omega)]
    simp⟩
  obtain ⟨g1,g2⟩:=znN hpart
  exact ⟨_,_,g2,g1,ztC hl,h1,h2⟩
theorem zpI {b:Box} (N:Near b) {n:Nat} (hn:200000<=n):∃r,zft n b=some r/\zoL b r:=by
 have F:=N.ok.far
 have h4:=F.h.clen
 obtain ⟨R,r1,r2,r3⟩:=zoR N hn
 have hw:=fun {P} (hP:More b P)=>zgI F.h (show 100<=n by omega) hP.l (zk0 hP)
 unfold zft
 rw [zuu b n N.ok.len (by omega),zgs.2 N.ok,zaa,if_neg (by simp),r1,zaa]
 cases R with
 | nil =>
  rw [if_pos (by rfl)]
  exact ⟨_,rfl,.inr ⟨rfl,fun P hP hE=>by have:=(r3 P).2 ⟨hP,hE⟩;simp at this⟩⟩
 | cons x t =>
  rw [if_neg (by simp;omega),show idx (x::t) 0=some x from rfl,zaa]
  obtain ⟨m0,e0⟩:=(r3 x).1 (by simp)
  rw [hw m0,zaa]
  have key:=zlU (F:=fun m i (s:Int)=>zcy n b (x::t) m s i) (xs:=x::t) (spec:=fun k s=>some ((k.map (zcN b.Wheel)).foldl min s,0)) (I:=fun k s=>∀P,P∈k->More b P) (by omega)
   (fun m s hI=>by simp [zcy,zd8,ze3])
   (fun m i y k s hI hx hi _ _ hrec=>by
    simp only [zcy,zd8,List.map_cons,List.foldl_cons]
    rw [if_pos (by simpa using hi),hx,zaa,hw (hI y (by simp)),zaa]
    exact hrec _ fun P hP=>hI P (by simp [hP]))
   (x::t) 0 n (zcN b.Wheel x) (by omega) rfl (by simp only [List.length_cons] at r2 ⊢;omega) fun P hP=>((r3 P).1 hP).1
  refine ⟨_,key,.inl ⟨rfl,?_⟩⟩
  have fm:∀(l:List Int) (s:Int),(l.foldl min s=s\/l.foldl min s∈l)/\l.foldl min s<=s/\∀y,y∈l->l.foldl min s<=y:=by
   intro l
   induction l with
   | nil=>exact fun s=>⟨.inl rfl,Int.le_refl _,by simp⟩
   | cons y l ih =>
    intro s
    obtain ⟨h1,h2,h3⟩:=ih (min s y)
    simp only [List.foldl_cons,List.mem_cons]
    refine ⟨?_,by omega,fun z hz=>?_⟩
    ·rcases h1 with h1 | h1
     ·rw [h1]
      omega
     ·exact .inr (.inr h1)
    ·rcases hz with rfl | hz
     ·omega
     ·exact h3 z hz
  obtain ⟨f1,f2,f3⟩:=fm ((x::t).map (zcN b.Wheel)) (zcN b.Wheel x)
  refine ⟨?_,fun P hP hE=>f3 _ (List.mem_map.2 ⟨P,(r3 P).2 ⟨hP,hE⟩,rfl⟩)⟩
  rcases f1 with f1 | f1
  ·exact ⟨x,m0,e0,f1.symm⟩
  ·obtain ⟨P,hP,e⟩:=List.mem_map.1 f1
   obtain ⟨p1,p2⟩:=(r3 P).1 hP
   exact ⟨P,p1,p2,e⟩
theorem znP {b:Box} (N:Near b) {n:Nat} (hn:200000<=n):zft n b=some (mOf n b):=by
 obtain ⟨r,h1,h2⟩:=zpI N hn
 rw [h1,h2.eq (ztw N (show 100000<=n by omega)).2]
end Go.Law
