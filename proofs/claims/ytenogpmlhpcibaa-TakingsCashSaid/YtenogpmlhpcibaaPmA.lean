/-
  Plain laws.
  Conditions: none.
-/
import Derived.Test.YtenogpmlhpcibaaMd
import Derived.Test.YtenogpmlhpcibaaPlA
import Derived.Test.YtenogpmlhpcibaaEn
set_option linter.all false
namespace Go.Law
open Go Go.AM
theorem zrr {α S R:Type} (F:Nat->Int->S->Option R) (xs:List α) (spec:List α->S->Option R) (hl:xs.length<1048576) (h0:∀m s,F (m+1) (xs.length:Int) s=spec [] s)
  (hs:∀m (i:Nat) x l s,idx xs (i:Int)=some x->(i:Int)<(xs.length:Int)->i<1048576->xs.drop (i+1)=l->(∀s',F m (w64 ((i:Int)+1)) s'=spec l s')->F (m+1) (i:Int) s=spec (x::l) s) :
  ∀(l:List α) (i m:Nat) (s:S),i<=xs.length->xs.drop i=l->l.length<m->F m (i:Int) s=spec l s:=by
 intro l
 induction l with
 | nil =>
  intro i m s hi hd hm
  obtain ⟨m,rfl⟩:∃k,m=k+1:=⟨m-1,by omega⟩
  have:i=xs.length:=by have:=List.drop_eq_nil_iff.1 hd;omega
  subst this
  exact h0 m s
 | cons x l ih =>
  intro i m s hi hd hm
  obtain ⟨m,rfl⟩:∃k,m=k+1:=⟨m-1,by omega⟩
  simp only [List.length_cons] at hm
  have hlt:i<xs.length:=by
   rcases Nat.lt_or_ge i xs.length with h | h
   ·exact h
   ·rw [List.drop_eq_nil_of_le h] at hd;cases hd
  rw [List.drop_eq_getElem_cons hlt] at hd
  injection hd with h1 h2
  refine hs m i x l s (by rw [zck hlt,h1]) (by omega) (by omega) h2 fun s'=>?_
  rw [zaS (by omega) (by omega)]
  exact ih (i+1) m s' (by omega) h2 (by omega)
theorem zwn {α S R:Type} {F:Nat->Int->S->Option R} {xs:List α} {spec:List α->S->Option R} (hl:xs.length<1048576) {n:Nat} (hn:xs.length<n) (s:S) (h0:∀m s,F (m+1) (xs.length:Int) s=spec [] s)
  (hs:∀m (i:Nat) x l s,idx xs (i:Int)=some x->(i:Int)<(xs.length:Int)->i<1048576->xs.drop (i+1)=l->(∀s',F m (w64 ((i:Int)+1)) s'=spec l s')->F (m+1) (i:Int) s=spec (x::l) s) :
  F n 0 s=spec xs s:=zrr F xs spec hl h0 hs xs 0 n s (by omega) rfl hn
theorem zrs {α S R:Type} (F:Nat->Int->S->Option R) (xs:List α) (spec:List α->S->Option R) (I:List α->S->Prop) (hl:xs.length<1048576) (h0:∀m s,I [] s->F (m+1) (xs.length:Int) s=spec [] s)
  (hs:∀m (i:Nat) x l s,I (x::l) s->idx xs (i:Int)=some x->(i:Int)<(xs.length:Int)->i<1048576->xs.drop (i+1)=l->(∀s',I l s'->F m (w64 ((i:Int)+1)) s'=spec l s')->F (m+1) (i:Int) s=spec (x::l) s) :
  ∀(l:List α) (i m:Nat) (s:S),i<=xs.length->xs.drop i=l->l.length<m->I l s->F m (i:Int) s=spec l s:=by
 intro l
 induction l with
 | nil =>
  intro i m s hi hd hm hI
  obtain ⟨m,rfl⟩:∃k,m=k+1:=⟨m-1,by omega⟩
  have:i=xs.length:=by have:=List.drop_eq_nil_iff.1 hd;omega
  subst this
  exact h0 m s hI
 | cons x l ih =>
  intro i m s hi hd hm hI
  obtain ⟨m,rfl⟩:∃k,m=k+1:=⟨m-1,by omega⟩
  simp only [List.length_cons] at hm
  have hlt:i<xs.length:=by
   rcases Nat.lt_or_ge i xs.length with h | h
   ·exact h
   ·rw [List.drop_eq_nil_of_le h] at hd;cases hd
  rw [List.drop_eq_getElem_cons hlt] at hd
  injection hd with h1 h2
  refine hs m i x l s hI (by rw [zck hlt,h1]) (by omega) (by omega) h2 fun s' hI'=>?_
  rw [zaS (by omega) (by omega)]
  exact ih (i+1) m s' (by omega) h2 (by omega) hI'
theorem zab {α β:Type} (a:α) (f:α->Option β):Option.bind (some a) f=f a:=rfl
theorem zgC (a b c:Int):zcy a b c=some (inR a b c):=by
 unfold zcy zc7 inR
 by_cases h:b<=a<;>simp [h]
theorem zhY (a b c:Int):zc6 a b c=some (inR a b c):=by
 unfold zc6 zc5 inR
 by_cases h:b<=a<;>simp [h]
def zlu (lo hi:Int):Option Int->List Int->Bool
 | _,[]=>true
 | prev,x::l=>inR x lo hi&&(match prev with | none=>true | some y=>decide (y<x))&&zlu lo hi (some x) l
theorem zhl (pre:List Int):pre=[]\/∃q y,pre=q++[y]:=by
 rcases List.eq_nil_or_concat pre with h | ⟨q,y,h⟩
 ·exact .inl h
 ·exact .inr ⟨q,y,by simpa using h⟩
theorem znO (q:List Int) (y:Int) (l:List Int) (h:(q++[y]++l).length<1048576):idx (q++[y]++l) (w64 (((q++[y]).length:Int)-1))=some y:=by
 simp at h
 rw [zaS (by simp<;>omega) (by simp<;>omega),show (((q++[y]).length:Int)-1)=(q.length:Int) by simp,show q++[y]++l=q++y::l by simp,zmS]
theorem zrt (lo hi:Int):∀(l pre:List Int) (m:Nat),(pre++l).length<1048576->l.length<m ->
  zbw (pre++l) lo hi m (pre.length:Int)=some (zlu lo hi pre.getLast? l):=by
 intro l
 induction l with
 | nil =>
  intro pre m hs hm
  obtain ⟨m,rfl⟩:∃k,m=k+1:=⟨m-1,by omega⟩
  simp [zbw,zdi,zdX,zlu]
 | cons x l ih =>
  intro pre m hs hm
  obtain ⟨m,rfl⟩:∃k,m=k+1:=⟨m-1,by omega⟩
  have h:=ih (pre++[x]) m (by simpa using hs) (by simp at hm;omega)
  rw [show (((pre++[x]).length:Nat):Int)=(pre.length:Int)+1 by simp,List.getLast?_concat,show pre++[x]++l=pre++x::l by simp] at h
  simp at hs hm
  simp only [zbw,zdi]
  rw [if_pos (by simp<;>omega),zmS]
  simp only [Option.bind_some,zhY,zlu]
  by_cases hr:inR x lo hi=true
  ·rw [if_neg (by simp [hr])]
   rcases zhl pre with rfl | ⟨q,y,rfl⟩
   ·rw [if_neg (by simp)]
    simp only [zbR]
    rw [if_neg (by simp),zaS (by simp) (by simp),h]
    simp [hr]
   ·rw [if_pos (by simp<;>omega),znO q y (x::l) (by simp at hs ⊢;omega)]
    simp only [Option.bind_some,zbR,List.getLast?_concat]
    by_cases hb:x<=y
    ·rw [if_pos (by simpa using hb)]
     simp [hr,show ¬y<x by omega]
    ·rw [if_neg (by simpa using hb),zaS (by omega) (by omega),h]
     simp [hr,show y<x by omega]
  ·have hr':inR x lo hi=false:=by simpa using hr
   rw [if_pos (by simp [hr'])]
   simp [zbR,hr']
theorem zl3 {n:Nat} (l:List Int) (lo hi:Int) (hs:l.length<1048576) (hn:l.length<n):zfl n l lo hi=some (zlu lo hi none l):=zrt lo hi l [] n (by simpa using hs) hn
theorem zru (many most:Int):∀(l pre:List Int) (m:Nat),(pre++l).length<1048576->l.length<m ->
  zbx (pre++l) many most m (pre.length:Int)=some (zlu 1 most pre.getLast? l&&decide (((pre++l).length:Int)<=many)):=by
 intro l
 induction l with
 | nil =>
  intro pre m hs hm
  obtain ⟨m,rfl⟩:∃k,m=k+1:=⟨m-1,by omega⟩
  simp [zbx,zdk,zdY,zlu]
 | cons x l ih =>
  intro pre m hs hm
  obtain ⟨m,rfl⟩:∃k,m=k+1:=⟨m-1,by omega⟩
  have h:=ih (pre++[x]) m (by simpa using hs) (by simp at hm;omega)
  rw [show (((pre++[x]).length:Nat):Int)=(pre.length:Int)+1 by simp,List.getLast?_concat,show pre++[x]++l=pre++x::l by simp] at h
  simp at hs hm
  simp only [zbx,zdk]
  rw [if_pos (by simp<;>omega),zmS]
  simp only [Option.bind_some,zgC,zlu]
  by_cases hr:inR x 1 most=true
  ·rw [if_neg (by simp [hr])]
   rcases zhl pre with rfl | ⟨q,y,rfl⟩
   ·rw [if_neg (by simp)]
    simp only [zbS]
    rw [if_neg (by simp),zaS (by simp) (by simp),h]
    simp [hr]
   ·rw [if_pos (by simp<;>omega),znO q y (x::l) (by simp at hs ⊢;omega)]
    simp only [Option.bind_some,zbS,List.getLast?_concat]
    by_cases hb:x<=y
    ·rw [if_pos (by simpa using hb)]
     simp [hr,show ¬y<x by omega]
    ·rw [if_neg (by simpa using hb),zaS (by omega) (by omega),h]
     simp [hr,show y<x by omega]
  ·have hr':inR x 1 most=false:=by simpa using hr
   rw [if_pos (by simp [hr'])]
   simp [zbS,hr']
theorem zl4 {n:Nat} (l:List Int) (many most:Int) (hs:l.length<1048576) (hn:l.length<n):zfm n l many most=some (zlu 1 most none l&&decide ((l.length:Int)<=many)):=zru many most l [] n (by simpa using hs) hn
def valid (w:Wheel):Bool:=inR w.Round 1 200&&(zlu 1 w.Round none w.Notches&&decide ((w.Notches.length:Int)<=12))&&(zlu 1 100 none w.Coins&&decide ((w.Coins.length:Int)<=4))
def zl5 (n:Nat) (w:Wheel):Prop:=w.Notches.length<1048576/\w.Coins.length<1048576/\w.Notches.length<n/\w.Coins.length<n
theorem znP {n:Nat} {w:Wheel} (h:zl5 n w):ze8 n w=some (cond (valid w) 0 10):=by
 obtain ⟨h1,h2,h3,h4⟩:=h
 unfold ze8 zcN valid
 rw [zgC,zab,zl4 _ _ _ h1 h3,zl4 _ _ _ h2 h4,zab,zab]
 cases inR w.Round 1 200<;>cases (zlu 1 w.Round none w.Notches&&decide ((w.Notches.length:Int)<=12))<;>cases (zlu 1 100 none w.Coins&&decide ((w.Coins.length:Int)<=4))<;>rfl
theorem zqg {n:Nat} {w:Wheel} (h:zl5 n w):zfV n w=some (cond (valid w) 0 10):=by
 obtain ⟨h1,h2,h3,h4⟩:=h
 unfold zfV zb5 valid
 rw [zhY,zab,zl3 _ _ _ h1 h3,zl3 _ _ _ h2 h4,zab,zab]
 by_cases q1:(w.Notches.length:Int)<=12
 ·have e1:decide ((w.Notches.length:Int)>12)=false:=by simpa using q1
  rw [e1]
  by_cases q2:(w.Coins.length:Int)<=4
  ·have e2:decide ((w.Coins.length:Int)>4)=false:=by simpa using q2
   rw [e2]
   simp only [q1,q2,decide_true,Bool.and_true]
   cases inR w.Round 1 200<;>cases zlu 1 w.Round none w.Notches<;>cases zlu 1 100 none w.Coins<;>rfl
  ·have e2:decide ((w.Coins.length:Int)>4)=true:=by simp;omega
   rw [e2]
   simp only [q2,decide_false,Bool.and_false]
   cases inR w.Round 1 200<;>cases zlu 1 w.Round none w.Notches<;>rfl
 ·have e1:decide ((w.Notches.length:Int)>12)=true:=by simp;omega
  rw [e1]
  simp only [q1,decide_false,Bool.and_false,Bool.false_and]
  cases inR w.Round 1 200<;>rfl
theorem zlj {lo hi:Int}:∀{l:List Int} {p:Option Int},zlu lo hi p l=true->(∀x,x∈l->lo<=x/\x<=hi/\∀y,p=some y->y<x)/\l.Pairwise (·<·)
 | [],_,_=>⟨fun x h=>by simp at h,.nil⟩
 | x::l,p,h=>by
  simp only [zlu,Bool.and_eq_true] at h
  obtain ⟨⟨h1,h2⟩,h3⟩:=h
  obtain ⟨ih1,ih2⟩:=zlj h3
  have h1':=zb4.1 h1
  have hp:∀y,p=some y->y<x:=fun y e=>by subst e;simpa using h2
  refine ⟨fun z hz=>?_,List.pairwise_cons.2 ⟨fun z hz=>(ih1 z hz).2.2 x rfl,ih2⟩⟩
  rcases List.mem_cons.1 hz with rfl | hz
  ·exact ⟨h1'.1,h1'.2,hp⟩
  ·have:=ih1 z hz
   exact ⟨this.1,this.2.1,fun y e=>Int.lt_trans (hp y e) (this.2.2 x rfl)⟩
structure OkW (w:Wheel):Prop where
 r1:1<=w.Round
 r2:w.Round<=200
 nlen:w.Notches.length<=12
 clen:w.Coins.length<=4
 nm:∀x,x∈w.Notches->1<=x/\x<=w.Round
 nd:w.Notches.Pairwise (·<·)
 cm:∀x,x∈w.Coins->1<=x/\x<=100
 cd:w.Coins.Pairwise (·<·)
theorem zf4 {w:Wheel} (h:valid w=true):OkW w:=by
 simp only [valid,Bool.and_eq_true,decide_eq_true_eq] at h
 obtain ⟨⟨h1,h2,h3⟩,h4,h5⟩:=h
 have h1:=zb4.1 h1
 obtain ⟨a1,a2⟩:=zlj h2
 obtain ⟨b1,b2⟩:=zlj h4
 exact ⟨h1.1,h1.2,by omega,by omega,fun x hx=>⟨(a1 x hx).1,(a1 x hx).2.1⟩,a2,fun x hx=>⟨(b1 x hx).1,(b1 x hx).2.1⟩,b2⟩
theorem OkW.len {w:Wheel} (h:OkW w) {n:Nat} (hn:100<=n):zl5 n w:=⟨by have:=h.nlen;omega,by have:=h.clen;omega,by have:=h.nlen;omega,by have:=h.clen;omega⟩
def nx (R p:Int):Int:=if p+1=R then 0 else p+1
def hit (w:Wheel) (p:Int):Int:=if p+1∈w.Notches then 1 else 0
def put (w:Wheel):Nat->Int->Int->Int×Int
 | 0,p,c=>(p,c)
 | k+1,p,c=>put w k (nx w.Round p) (c+hit w p)
theorem zrv {R p:Int} (h0:0<=p) (h1:p<R):0<=nx R p/\nx R p<R:=by
 unfold nx
 split<;>omega
theorem zqh (w:Wheel) (p:Int):0<=hit w p/\hit w p<=1:=by
 unfold hit
 split<;>omega
theorem zl6 {w:Wheel} (h:OkW w):∀(k:Nat) (p c:Int),0<=p->p<w.Round->(0<=(put w k p c).1/\(put w k p c).1<w.Round)/\c<=(put w k p c).2/\(put w k p c).2<=c+k
 | 0,p,c,h0,h1=>⟨⟨h0,h1⟩,by simp [put],by simp [put]⟩
 | k+1,p,c,h0,h1=>by
  have hy:=zrv h0 h1
  have hx:=zqh w p
  have:=zl6 h k (nx w.Round p) (c+hit w p) hy.1 hy.2
  simp only [put]
  omega
theorem zqi (w:Wheel):∀(j k:Nat) (p c:Int),put w (j+k) p c=put w k (put w j p c).1 (put w j p c).2
 | 0,k,p,c=>by simp [put]
 | j+1,k,p,c=>by
  rw [show j+1+k=(j+k)+1 by omega]
  simp only [put]
  exact zqi w j k _ _
theorem zqj {A R:Int} (hR:0<R):(A+1) / R=A / R+(if A % R=R-1 then 1 else 0):=by
 have h1:=Int.mul_ediv_add_emod A R
 have h2:=Int.emod_nonneg A (show R≠0 by omega)
 have h3:=Int.emod_lt_of_pos A hR
 split
 ·rename_i h
  have:A+1=R*(A / R+1):=by rw [Int.mul_add];omega
  rw [this,Int.mul_ediv_cancel_left _ (by omega)]
 ·rename_i h
  have:A+1=(A % R+1)+R*(A / R):=by omega
  rw [this,Int.add_mul_ediv_left _ _ (by omega),Int.ediv_eq_zero_of_lt (by omega) (by omega)]
  omega
theorem zqk {A R:Int} (hR:0<R):(A+1) % R=nx R (A % R):=by
 have h1:=Int.mul_ediv_add_emod A R
 have h2:=Int.emod_nonneg A (show R≠0 by omega)
 have h3:=Int.emod_lt_of_pos A hR
 unfold nx
 split
 ·rename_i h
  have:A+1=R*(A / R+1):=by rw [Int.mul_add];omega
  rw [this,Int.mul_emod_right]
 ·rename_i h
  have:A+1=(A % R+1)+R*(A / R):=by omega
  rw [this,Int.add_mul_emod_self_left,Int.emod_eq_of_lt (by omega) (by omega)]
theorem zoS {B R m:Int} (hR:0<R) (h1:1<=m) (h2:m<=R):(B-m+R) % R=R-1↔m=B % R+1:=by
 have e1:=Int.mul_ediv_add_emod B R
 have e2:=Int.emod_nonneg B (show R≠0 by omega)
 have e3:=Int.emod_lt_of_pos B hR
 by_cases h:m<=B % R
 ·have:B-m+R=(B % R-m)+R*(B / R+1):=by rw [Int.mul_add];omega
  rw [this,Int.add_mul_emod_self_left,Int.emod_eq_of_lt (by omega) (by omega)]
  omega
 ·have:B-m+R=(B % R-m+R)+R*(B / R):=by omega
  rw [this,Int.add_mul_emod_self_left,Int.emod_eq_of_lt (by omega) (by omega)]
  omega
def reached (R e p:Int):List Int->Int
 | []=>0
 | m::l=>(e-m+R) / R-(p-m+R) / R+reached R e p l
def turn (w:Wheel) (p c:Int):Int×Int:=((p+c) % w.Round,reached w.Round (p+c) p w.Notches)
theorem ziB {R B p:Int} (hR:0<R):∀(l:List Int),(∀x,x∈l->1<=x/\x<=R)->l.Pairwise (·<·)->reached R (B+1) p l=reached R B p l+(if B % R+1∈l then 1 else 0)
 | [],_,_=>by simp [reached]
 | m::l,h,hd=>by
  have hm:=h m (by simp)
  obtain ⟨d1,d2⟩:=List.pairwise_cons.1 hd
  have ih:=ziB (B:=B) (p:=p) hR l (fun x hx=>h x (by simp [hx])) d2
  simp only [reached]
  rw [ih,show B+1-m+R=(B-m+R)+1 by omega,zqj hR]
  have hn:=zoS (B:=B) hR hm.1 hm.2
  by_cases q:m=B % R+1
  ·rw [if_pos (hn.2 q),if_pos (show B % R+1∈m::l by simp [q]),if_neg (fun hx=>by have:=d1 _ hx;omega)]
   omega
  ·rw [if_neg (fun hx=>q (hn.1 hx))]
   by_cases q2:B % R+1∈l
   ·rw [if_pos q2,if_pos (by simp [q2])]
    omega
   ·rw [if_neg q2,if_neg (by simp [q2];omega)]
    omega
theorem ziC {R p:Int}:∀(l:List Int),reached R p p l=0
 | []=>rfl
 | m::l=>by simp only [reached];rw [ziC l];omega
theorem znQ {w:Wheel} (h:OkW w) {p:Int} (h0:0<=p) (h1:p<w.Round):∀k:Nat,put w k p 0=turn w p k
 | 0=>by
  unfold turn
  rw [show p+((0:Nat):Int)=p by simp,ziC,Int.emod_eq_of_lt h0 h1]
  rfl
 | k+1=>by
  have hr:=h.r1
  have ih:=znQ h h0 h1 k
  rw [zqi w k 1 p 0,ih]
  unfold turn
  simp only [put]
  rw [show p+((k+1:Nat):Int)=(p+k)+1 by simp;omega,zqk (by omega),ziB (by omega) w.Notches h.nm h.nd]
  rfl
theorem zdq {w:Wheel} (h:OkW w) {p c:Int} (h0:0<=p) (h1:p<w.Round) (hc:0<=c):(0<=(turn w p c).1/\(turn w p c).1<w.Round)/\0<=(turn w p c).2/\(turn w p c).2<=c:=by
 have:=zl6 h c.toNat p 0 h0 h1
 rw [znQ h h0 h1,show ((c.toNat:Nat):Int)=c by omega] at this
 omega
theorem ziD {R e p:Int} (hR:0<R) (h:p<=e):∀l:List Int,0<=reached R e p l
 | []=>by simp [reached]
 | m::l=>by
  have:=ziD hR h l
  have h2:=Int.ediv_le_ediv hR (show p-m+R<=e-m+R by omega)
  simp only [reached]
  omega
theorem zsG {n:Nat} {w:Wheel} (h:OkW w) (hn:100<=n) {p c:Int} (hp:0<=p) (hp':p<w.Round) (hc:0<=c) (hc2:c<1048576):zdF n ⟨w⟩ p c=some (turn w p c):=by
 have hr:=h.r1
 have hr2:=h.r2
 have hl:=h.nlen
 have hfin:=zdq h hp hp' hc
 unfold turn at hfin
 simp only at hfin
 have e0:w64 (p+c)=p+c:=zaS (by omega) (by omega)
 have key:=zrs (F:=fun m i s=>za9 ⟨w⟩ p c m s i) (xs:=w.Notches) (spec:=fun l s=>some ((p+c) % w.Round,s+reached w.Round (p+c) p l)) (I:=fun l s=>0<=s/\s+reached w.Round (p+c) p l<=c/\∀x,x∈l->1<=x/\x<=w.Round) (by omega)
  (fun m s hI=>by simp [za9,zce,zcC,reached,e0,zwi (show 0<=p+c by omega) (show 0<w.Round by omega)])
  (fun m i x l s hI hx hi _ _ hrec=>by
   obtain ⟨i1,i2,i3⟩:=hI
   have hxm:=i3 x (by simp)
   simp only [reached] at i2
   have hrl:=ziD (R:=w.Round) (e:=p+c) (p:=p) (by omega) (by omega) l
   have hd1:=Int.ediv_nonneg (show 0<=p+c-x+w.Round by omega) (show 0<=w.Round by omega)
   have hd2:=Int.ediv_nonneg (show 0<=p-x+w.Round by omega) (show 0<=w.Round by omega)
   have hd3:=Int.ediv_le_self w.Round (show 0<=p+c-x+w.Round by omega)
   have hd5:=Int.ediv_le_ediv (show 0<w.Round by omega) (show p-x+w.Round<=p+c-x+w.Round by omega)
   simp only [za9,zce]
   rw [if_pos (by simpa using hi),hx,zab,e0,zaS (x:=p+c-x) (by omega) (by omega),zaS (x:=p+c-x+w.Round) (by omega) (by omega),zaS (x:=p-x) (by omega) (by omega),zaS (x:=p-x+w.Round) (by omega) (by omega),
    zrX (by omega) (by omega) (by omega),zrX (by omega) (by omega) (by omega),zab,zab,zaS (x:=_-_) (by omega) (by omega),zaS (x:=s+_) (by omega) (by omega),
    hrec _ ⟨by omega,by omega,fun y hy=>i3 y (by simp [hy])⟩]
   simp only [reached]
   congr 2
   omega)
  w.Notches 0 n 0 (by omega) rfl (by omega) ⟨by omega,by omega,h.nm⟩
 have key:za9 ⟨w⟩ p c n 0 0=_:=key
 unfold zdF
 rw [key]
 unfold turn
 rw [Int.zero_add]
structure OkS (w:Wheel) (s:Stand) (b:Int):Prop where
 p0:0<=s.Place
 p1:s.Place<w.Round
 c0:0<=s.Credit
 c1:s.Credit<=b
def zen (w:Wheel) (a:Int):Bool:=inR a (-1) (w.Coins.length-1)
def znR (w:Wheel) (a:Int):Bool:=inR a 0 (w.Coins.length-1)
def coin (w:Wheel) (a:Int):Int:=w.Coins.getD a.toNat 0
def zhp (w:Wheel) (s:Stand) (a:Int):Stand×Bool :=
 if 0<=a then (⟨(turn w s.Place (coin w a)).1,s.Credit+(turn w s.Place (coin w a)).2⟩,false) else if s.Credit=0 then (s,false) else (⟨0,s.Credit-1⟩,true)
theorem ziX {w:Wheel} {a:Int} (h0:0<=a) (h1:a<=w.Coins.length-1):idx w.Coins a=some (coin w a):=by
 obtain ⟨k,rfl⟩:∃k:Nat,a=k:=⟨a.toNat,by omega⟩
 have hk:k<w.Coins.length:=by omega
 rw [zck hk]
 simp [coin,hk]
theorem zcQ {w:Wheel} (h:OkW w) {a:Int} (h0:0<=a) (h1:a<=w.Coins.length-1):1<=coin w a/\coin w a<=100:=by
 obtain ⟨k,rfl⟩:∃k:Nat,a=k:=⟨a.toNat,by omega⟩
 have hk:k<w.Coins.length:=by omega
 have:coin w k=w.Coins[k]:=by simp [coin,hk]
 rw [this]
 exact h.cm _ (List.getElem_mem hk)
theorem zql {w:Wheel} (h:OkW w) {s:Stand} {b a:Int} (hs:OkS w s b) (ha:zen w a=true):OkS w (zhp w s a).1 (b+100):=by
 have ha:=zb4.1 ha
 have hr:=h.r1
 unfold zhp
 split
 ·rename_i h0
  have hc:=zcQ h h0 ha.2
  have ht:=zdq h hs.p0 hs.p1 (show 0<=coin w a by omega)
  have:=hs.c0
  have:=hs.c1
  exact ⟨ht.1.1,ht.1.2,by show 0<=s.Credit+_;omega,by show s.Credit+_<=_;omega⟩
 ·have:=hs.c0
  have:=hs.c1
  split
  ·exact ⟨hs.p0,hs.p1,hs.c0,by show s.Credit<=b+100;omega⟩
  ·exact ⟨by show (0:Int)<=0;omega,by show (0:Int)<_;omega,by show 0<=s.Credit-1;omega,by show s.Credit-1<=_;omega⟩
theorem zwo {n:Nat} {w:Wheel} (h:OkW w) (hn:200<=n) {s:Stand} {b a:Int} (hs:OkS w s b) (hb:b<1099511627776) (ha:zen w a=true):zd0 n ⟨w⟩ s a=some (zhp w s a).1:=by
 have ha:=zb4.1 ha
 have:=hs.c0
 have:=hs.c1
 unfold zd0 zhp
 by_cases h0:0<=a
 ·have hc:=zcQ h h0 ha.2
  have ht:=zdq h hs.p0 hs.p1 (show 0<=coin w a by omega)
  rw [if_pos (by simp;omega),if_pos h0,ziX h0 ha.2,zab,zsG h (by omega) hs.p0 hs.p1 (by omega) (by omega),zab,zaS (by omega) (by omega)]
 ·rw [if_neg (by simp;omega),if_neg h0]
  by_cases hc:s.Credit=0
  ·rw [if_neg (by simp;omega),if_pos hc]
  ·rw [if_pos (by simp;omega),if_neg hc,zaS (by omega) (by omega)]
theorem zy5 {n:Nat} (f:Int->Option Bool) (g:Int->Bool) (xs:List Int) (hf:∀x,x∈xs->f x=some (g x)) (hl:xs.length<1048576) (hn:xs.length<n) :
  zeT n (fun x (_:Unit)=>(f x).map fun y=>(y,())) xs ()=some (decide ((xs.length:Int)<=20)&&xs.all g,()):=by
 have key:∀(l:List Int) (i m:Nat) (s:Unit),i<=xs.length->xs.drop i=l->l.length<m->(zam xs (zb0 (fun x (_:Unit)=>(f x).map fun y=>(y,()))) m (i:Int) s).map (fun r=>decide (r.1≥0))=some (!l.all g):=by
  intro l i m s h1 h2 h3
  refine zrr (fun m i s=>(zam xs (zb0 (fun x (_:Unit)=>(f x).map fun y=>(y,()))) m i s).map (fun r=>decide (r.1≥0))) xs (fun l _=>some (!l.all g)) hl (fun m s=>?_) (fun m i x l s hx hi _ _ hrec=>?_) l i m s h1 h2 h3
  ·simp [zam,za0,zby]
  ·have hmem:x∈xs:=by
    unfold idx at hx
    rw [if_pos (by omega)] at hx
    exact List.mem_of_getElem? hx
   simp only [zam,za0]
   rw [if_pos (by simpa using hi),hx,zab]
   simp only [zb0,hf x hmem,Option.map_some,zab]
   by_cases hg:g x=true
   ·rw [if_neg (by simp [hg])]
    have:=hrec ()
    rw [this]
    simp [hg]
   ·rw [if_pos (by simpa using hg)]
    simp [hg]
 have h:=key xs 0 n () (by omega) rfl hn
 unfold zeT zcL
 by_cases hq:(xs.length:Int)<=20
 ·rw [if_pos (by simpa using hq)]
  unfold zbe zcn
  change Option.map _ (zam xs _ n 0 ())=_ at h
  cases hx:zam xs (zb0 (fun x (_:Unit)=>(f x).map fun y=>(y,()))) n 0 () with
  | none=>rw [hx] at h;cases h
  | some r =>
   rw [hx] at h
   simp only [Option.map_some,Option.some.injEq] at h
   simp only [zab]
   rw [h]
   simp [hq]
 ·rw [if_neg (by simpa using hq)]
  simp [hq]
theorem zqm {w:Wheel} (hw:w.Coins.length<1048576) (x:Int):zcU ⟨w⟩ x=some (znR w x):=by
 unfold zcU znR
 simp only []
 rw [zaS (by omega) (by omega),zgC,zab]
theorem zrw {w:Wheel} (hw:w.Coins.length<1048576) (x:Int):zb6 ⟨w⟩ x=some (zen w x):=by
 unfold zb6 zb3
 rw [zqm hw,zab]
 have e:zen w x=(decide (x=-1) || znR w x):=by
  rw [Bool.eq_iff_iff]
  simp only [zen,znR,zb4,Bool.or_eq_true,decide_eq_true_eq]
  omega
 rw [e]
 by_cases h:x=-1
 ·rw [if_pos (by simpa using h)]
  simp [h]
 ·rw [if_neg (by simpa using h)]
  simp [h]
def zhm (w:Wheel) (p:Int):Bool:=inR p 0 (w.Round-1)
theorem zoT {w:Wheel} (h:OkW w) (p:Int):zcD ⟨w⟩ p=some (zhm w p):=by
 have:=h.r1
 have:=h.r2
 unfold zcD zhm
 simp only []
 rw [zaS (by omega) (by omega),zgC,zab]
def zfA (w:Wheel) (s:Stand):Bool:=zhm w s.Place&&inR s.Credit 0 20
theorem zoU {w:Wheel} {s:Stand} (h:zfA w s=true):OkS w s 20:=by
 simp only [zfA,zhm,Bool.and_eq_true,zb4] at h
 exact ⟨h.1.1,by omega,h.2.1,h.2.2⟩
def zw:Wheel_:=⟨⟨0,[],[]⟩⟩
theorem zsH {n:Nat} {w:Wheel} (hl:zl5 n w) (aF:Wheel_->Unit->Option (Bool×Unit)) (b:Bool) (ha:valid w=true->aF ⟨w⟩ ()=some (b,())) :
  zgN n aF w ()=some (cond (valid w) (cond b (((⟨w⟩:Wheel_),0),()) ((zw,1),())) ((zw,10),())):=by
 unfold zgN
 rw [znP hl,zab]
 cases hv:valid w with
 | false=>rfl
 | true =>
  rw [ha hv]
  cases b<;>rfl
def zoV (w:Wheel):List Int->Int->Stand->Stand×Int
 | [],k,s=>(s,k)
 | a::l,k,s=>zoV w l (k+if (zhp w s a).2 then 1 else 0) (zhp w s a).1
def zyb (w:Wheel) (s:Stand) (acts:List Int):Stand×Int×Int :=
 if valid w=true then (if zfA w s=true/\(acts.length:Int)<=20/\acts.all (zen w)=true then ((zoV w acts 0 s).1,(zoV w acts 0 s).2,0) else (⟨0,0⟩,0,1)) else (⟨0,0⟩,0,10)
theorem zrx {w:Wheel} {s:Stand} {a:Int} (h:zen w a=true) (hc:0<=s.Credit):(zhp w s a).2=true↔a=-1/\s.Credit>0:=by
 have h:=zb4.1 h
 unfold zhp
 split
 ·simp;omega
 ·split<;>simp<;>omega
theorem zyT {n:Nat} {w:Wheel} (h:OkW w) (hn:200<=n) (acts:List Int) (hl:(acts.length:Int)<=20) (ha:acts.all (zen w)=true) {s:Stand} (hs:OkS w s 20) :
  zbq n acts ((⟨w⟩,0),()) n 0 0 s.Place s.Credit=some ((zoV w acts 0 s).1,(zoV w acts 0 s).2,0):=by
 have key:=zrs (F:=fun m i (q:Int×Stand)=>zbq n acts ((⟨w⟩,0),()) m q.1 i q.2.Place q.2.Credit) (xs:=acts) (spec:=fun l q=>some ((zoV w l q.1 q.2).1,(zoV w l q.1 q.2).2,0))
  (I:=fun l q=>(0<=q.1/\q.1+l.length<=100)/\OkS w q.2 (2100-100*l.length)/\l.length<=20/\l.all (zen w)=true) (by omega)
  (fun m q hI=>by simp [zbq,zes,zfn,zoV])
  (fun m i x l q hI hx hi _ _ hrec=>by
   obtain ⟨i1,i2,i3,i4⟩:=hI
   simp only [List.length_cons,List.all_cons,Bool.and_eq_true] at i1 i2 i3 i4
   have hb:(2100-100*((l.length+1:Nat):Int))+100=2100-100*(l.length:Int):=by simp;omega
   have hok:=zql h i2 i4.1
   rw [hb] at hok
   have hmi:=zrx i4.1 i2.c0
   have goal:∀c:Bool,(c=(zhp w q.2 x).2)->zdQ n (zbq n acts ((⟨w⟩,0),()) m) ((⟨w⟩,0),()) q.1 (i:Int) q.2.Place q.2.Credit x c=some ((zoV w (x::l) q.1 q.2).1,(zoV w (x::l) q.1 q.2).2,0):=by
    rintro c rfl
    have e:(⟨q.2.Place,q.2.Credit⟩:Stand)=q.2:=rfl
    simp only [zdQ,zeA,zoV,e,zwo h hn i2 (by omega) i4.1,zab]
    by_cases hm:(zhp w q.2 x).2=true
    ·rw [if_pos hm,zaS (x:=q.1+1) (by omega) (by omega)]
     have:=hrec (q.1+1,(zhp w q.2 x).1) ⟨⟨by simp;omega,by simp;omega⟩,hok,by omega,i4.2⟩
     simp only at this
     rw [this]
     simp [hm]
    ·rw [if_neg hm]
     have:=hrec (q.1,(zhp w q.2 x).1) ⟨⟨by simp;omega,by simp;omega⟩,hok,by omega,i4.2⟩
     simp only at this
     rw [this]
     simp [hm]
   simp only [zbq,zes]
   rw [if_pos (by simpa using hi),hx,zab]
   by_cases hx1:x=-1
   ·rw [if_pos (by simpa using hx1)]
    refine goal _ ?_
    rw [Bool.eq_iff_iff,hmi]
    simp [hx1]
   ·rw [if_neg (by simpa using hx1)]
    refine goal _ ?_
    rw [Bool.eq_iff_iff,hmi]
    simp [hx1])
  acts 0 n (0,s) (by omega) rfl (by omega) ⟨⟨by simp,by simp;omega⟩,⟨hs.p0,hs.p1,hs.c0,by have:=hs.c1;simp;omega⟩,by omega,ha⟩
 exact key
theorem zr2 {n:Nat} {w:Wheel} (hl:zl5 n w) (hn:200<=n) (s:Stand) (acts:List Int) (h1:acts.length<1048576) (h2:acts.length<n):zd1 n w s acts=some (zyb w s acts):=by
 unfold zd1 zyb
 rw [zsH hl _ (zfA w s&&(decide ((acts.length:Int)<=20)&&acts.all (zen w))) (fun hv=>?_),zab]
 ·cases hv:valid w with
  | false=>rfl
  | true =>
   have h:=zf4 hv
   by_cases hq:zfA w s=true/\(acts.length:Int)<=20/\acts.all (zen w)=true
   ·rw [if_pos rfl,if_pos hq,hq.1,hq.2.2,show decide ((acts.length:Int)<=20)=true by simpa using hq.2.1]
    exact zyT h hn acts hq.2.1 hq.2.2 (zoU hq.1)
   ·rw [if_pos rfl,if_neg hq,show (zfA w s&&(decide ((acts.length:Int)<=20)&&acts.all (zen w)))=false by
     cases hz:(zfA w s&&(decide ((acts.length:Int)<=20)&&acts.all (zen w))) with
     | false=>rfl
     | true=>simp only [Bool.and_eq_true,decide_eq_true_eq] at hz;exact (hq hz).elim]
    rfl
 ·have h:=zf4 hv
  show (zez n ⟨w⟩ s acts).map (fun y=>(y,()))=_
  unfold zez zcs
  rw [zoT h,zab,zgC,zy5 (fun x=>zb6 ⟨w⟩ x) (zen w) acts (fun x _=>zrw hl.2.1 x) h1 h2]
  unfold zfA
  cases zhm w s.Place<;>cases inR s.Credit 0 20<;>rfl
theorem zjQ {n:Nat} (a b:List Int) (hs:a.length<1048576) (hn:a.length<n):zdv n a b=some (decide (a=b)):=by
 unfold zdv
 by_cases h:a.length=b.length
 ·rw [if_neg (by simp [h])]
  have:=zwn (F:=fun m i (_:Unit)=>zbt a b m i) (xs:=a.zip b) (spec:=fun l _=>some (decide (∀q,q∈l->q.1=q.2))) (n:=n) (by simp [←h];omega) (by simp [←h];omega) () (fun m s=>by simp [zbt,zcE,zdl,←h]) (fun m i x l s hx hi hi' hd hrec=>by
   have hi1:i<a.length:=by simp [←h] at hi;exact hi
   have hi2:i<b.length:=by omega
   have hx':x=(a[i],b[i]):=by
    rw [zck (by simp;omega)] at hx
    injection hx with hx
    rw [←hx]
    simp
   simp only [zbt,zcE]
   rw [if_pos (by simp;omega),zck hi1,zck hi2,zab,zab]
   subst hx'
   by_cases hb:a[i]=b[i]
   ·rw [if_neg (by simp [hb]),hrec ()]
    simp [hb]
   ·rw [if_pos (by simp [hb])]
    simp [hb])
  rw [show zbt a b n 0=_ from this]
  congr 1
  apply decide_eq_decide.2
  constructor
  ·intro hq
   apply List.ext_getElem h
   intro i h1 h2
   have:=hq (a[i],b[i]) (by
    have h3:i<(a.zip b).length:=by simp;omega
    have:(a.zip b)[i]=(a[i],b[i]):=by simp
    rw [←this]
    exact List.getElem_mem h3)
   exact this
  ·rintro rfl q hq
   obtain ⟨i,hi,rfl⟩:=List.getElem_of_mem hq
   simp
 ·rw [if_pos (by simp;omega)]
  have:a≠b:=fun e=>h (by rw [e])
  simp [this]
theorem zsI {n:Nat} {w:Wheel} (h:zl5 n w):zgO w=some w:=by
 unfold zgO
 rw [zky (by simp;exact Nat.le_of_lt h.1),zky (by simp;exact Nat.le_of_lt h.2.1)]
 rfl
theorem zlk {α:Type} {l:List α} (h:l.length<1048576):app ([]:List α) l=some l:=by rw [zky (by simp;omega)];rfl
section
variable {κ:Type} [DecidableEq κ]
theorem znS:∀{M:List (κ×Int)} {k:κ},zb2 M k=true↔k∈M.map (·.1)
 | [],k=>by simp [zb2]
 | p::M,k=>by
  simp only [zb2,List.map_cons,List.mem_cons]
  by_cases h:p.1=k
  ·simp [h]
  ·rw [if_neg h,znS]
   exact ⟨.inr,fun e=>e.resolve_left (Ne.symm h)⟩
theorem znT:∀{M:List (κ×Int)} {k:κ},zb2 M k=true->(k,ztN M k)∈M
 | [],k,h=>by simp [zb2] at h
 | p::M,k,h=>by
  by_cases e:p.1=k
  ·simp only [ztN,if_pos e]
   rw [←e]
   exact List.mem_cons_self
  ·simp only [zb2,if_neg e] at h
   simp only [ztN,if_neg e]
   exact List.mem_cons_of_mem _ (znT h)
theorem znU:∀{M:List (κ×Int)} {k:κ} {v:Int} {p:κ×Int},p∈zgb M k v->p=(k,v)\/p∈M
 | [],k,v,p,h=>by simp [zgb] at h;exact .inl h
 | q::M,k,v,p,h=>by
  simp only [zgb] at h
  split at h
  ·rcases List.mem_cons.1 h with h | h
   ·exact .inl h
   ·exact .inr (List.mem_cons_of_mem _ h)
  ·rcases List.mem_cons.1 h with h | h
   ·exact .inr (h▸List.mem_cons_self)
   ·rcases znU h with h | h
    ·exact .inl h
    ·exact .inr (List.mem_cons_of_mem _ h)
theorem zl7:∀{M:List (κ×Int)} {k:κ} {v:Int},(zgb M k v).map (·.1)=if zb2 M k=true then M.map (·.1) else M.map (·.1)++[k]
 | [],k,v=>by simp [zgb,zb2]
 | q::M,k,v=>by
  by_cases e:q.1=k
  ·simp [zgb,zb2,e]
  ·simp only [zgb,zb2,if_neg e,List.map_cons]
   rw [zl7]
   cases zb2 M k<;>simp
theorem zoW {M:List (κ×Int)} {k:κ} {v:Int} (h:(M.map (·.1)).Nodup):((zgb M k v).map (·.1)).Nodup:=by
 rw [zl7]
 cases e:zb2 M k with
 | true=>simpa using h
 | false =>
  have:¬k∈M.map (·.1):=fun hk=>by rw [znS.2 hk] at e;cases e
  simp only [Bool.false_eq_true,if_false]
  rw [List.nodup_append]
  refine ⟨h,by simp,fun a ha b hb=>?_⟩
  simp only [List.mem_singleton] at hb
  subst hb
  exact fun e=>this (e▸ha)
end
def ziJ (b:Bool) (s:Bool×Int) (n:Int):Bool×Int:=if s.1=true\/cond b (decide (n>s.2)) (decide (n<s.2))=true then (false,n) else s
def pick (b:Bool) (vs:List Int):Int:=(vs.foldl (ziJ b) (true,0)).2
def leB (b:Bool) (x y:Int):Prop:=cond b (x<=y) (y<=x)
theorem leB.refl (b:Bool) (x:Int):leB b x x:=by cases b<;>exact Int.le_refl x
theorem leB.trans {b:Bool} {x y z:Int} (h:leB b x y) (h':leB b y z):leB b x z:=by
 cases b
 ·exact Int.le_trans h' h
 ·exact Int.le_trans h h'
theorem leB.anti {b:Bool} {x y:Int} (h:leB b x y) (h':leB b y x):x=y:=by
 cases b
 ·exact Int.le_antisymm h' h
 ·exact Int.le_antisymm h h'
theorem leB.add {b:Bool} {x y:Int} (h:leB b x y) (a:Int):leB b (a+x) (a+y):=by
 cases b
 ·exact Int.add_le_add_left h a
 ·exact Int.add_le_add_left h a
theorem zik (b:Bool):∀(vs:List Int) (m:Int),(vs.foldl (ziJ b) (false,m)).1=false/\((vs.foldl (ziJ b) (false,m)).2=m\/(vs.foldl (ziJ b) (false,m)).2∈vs)/\leB b m (vs.foldl (ziJ b) (false,m)).2/\∀v,v∈vs->leB b v (vs.foldl (ziJ b) (false,m)).2
 | [],m=>⟨rfl,.inl rfl,leB.refl b m,fun v h=>by simp at h⟩
 | x::vs,m=>by
  simp only [List.foldl_cons]
  by_cases h:cond b (decide (x>m)) (decide (x<m))=true
  ·have e:ziJ b (false,m) x=(false,x):=by
    unfold ziJ
    rw [if_pos (.inr h)]
   rw [e]
   obtain ⟨h1,h2,h3,h4⟩:=zik b vs x
   have hm:leB b m x:=by
    cases b
    ·exact Int.le_of_lt (by simpa using h)
    ·exact Int.le_of_lt (by simpa using h)
   refine ⟨h1,?_,hm.trans h3,fun v hv=>?_⟩
   ·rcases h2 with h2 | h2
    ·exact .inr (by rw [h2];exact List.mem_cons_self)
    ·exact .inr (List.mem_cons_of_mem _ h2)
   ·rcases List.mem_cons.1 hv with rfl | hv
    ·exact h3
    ·exact h4 v hv
  ·have e:ziJ b (false,m) x=(false,m):=by
    unfold ziJ
    rw [if_neg (by simpa using h)]
   rw [e]
   obtain ⟨h1,h2,h3,h4⟩:=zik b vs m
   have hm:leB b x m:=by
    cases b
    ·simpa [leB] using h
    ·simpa [leB] using h
   refine ⟨h1,h2.imp_right (List.mem_cons_of_mem _),h3,fun v hv=>?_⟩
   rcases List.mem_cons.1 hv with rfl | hv
   ·exact hm.trans h3
   ·exact h4 v hv
theorem zm0 (b:Bool) (m x:Int):ziJ b (true,m) x=(false,x):=by
 unfold ziJ
 rw [if_pos (.inl rfl)]
theorem zgD (b:Bool) {vs:List Int} (h:vs≠[]):pick b vs∈vs/\∀v,v∈vs->leB b v (pick b vs):=by
 cases vs with
 | nil=>exact (h rfl).elim
 | cons x vs =>
  unfold pick
  rw [List.foldl_cons,zm0]
  obtain ⟨h1,h2,h3,h4⟩:=zik b vs x
  refine ⟨?_,fun v hv=>?_⟩
  ·rcases h2 with h2 | h2
   ·rw [h2];exact List.mem_cons_self
   ·exact List.mem_cons_of_mem _ h2
  ·rcases List.mem_cons.1 hv with rfl | hv
   ·exact h3
   ·exact h4 v hv
theorem zsJ (b:Bool) {vs:List Int} {r:Int} (h:r∈vs) (hr:∀v,v∈vs->leB b v r):pick b vs=r:=by
 obtain ⟨h1,h2⟩:=zgD b (vs:=vs) (fun e=>by rw [e] at h;simp at h)
 exact (hr _ h1).anti (h2 _ h)
def total:List Int->Int
 | []=>0
 | x::l=>x+total l
def zgd (l:List Int) (k:Nat):List Int:=l.set k (l.getD k 0-1)
theorem zjR:∀{l:List Int} {k:Nat} {v:Int},k<l.length->total (l.set k v)=total l-l.getD k 0+v
 | [],k,v,h=>by simp at h
 | x::l,0,v,h=>by simp [total];omega
 | x::l,k+1,v,h=>by
  have:=zjR (l:=l) (k:=k) (v:=v) (by simpa using h)
  simp only [List.set_cons_succ,total,List.getD_cons_succ]
  omega
theorem zeY {l:List Int} {k:Nat} (h:k<l.length):total (zgd l k)=total l-1:=by
 unfold zgd
 rw [zjR h]
 omega
theorem zd5:∀{l:List Int},(∀x,x∈l->0<=x)->0<=total l
 | [],_=>Int.le_refl _
 | x::l,h=>by
  have:=h x (by simp)
  have:=zd5 (l:=l) (fun y hy=>h y (by simp [hy]))
  simp only [total]
  omega
theorem zf5:∀{l:List Int},(∀x,x∈l->0<=x)->∀k,0<=l.getD k 0/\l.getD k 0<=total l
 | [],_,k=>by simp [total]
 | x::l,h,0=>by
  have:=h x (by simp)
  have:=zd5 (l:=l) (fun y hy=>h y (by simp [hy]))
  simp only [List.getD_cons_zero,total]
  omega
 | x::l,h,k+1=>by
  have:=h x (by simp)
  have:=zf5 (l:=l) (fun y hy=>h y (by simp [hy])) k
  simp only [List.getD_cons_succ,total]
  omega
theorem zoX:∀{l:List Int},(∀x,x∈l->0<=x)->total l=0->∀k,l.getD k 0=0:=fun h h0 k=>by
 have:=zf5 h k
 omega
structure OkP (w:Wheel) (l:List Int):Prop where
 len:l.length=w.Coins.length
 nn:∀x,x∈l->0<=x
 tot:total l<=1000
theorem OkP.less {w:Wheel} {l:List Int} (h:OkP w l) {k:Nat} (hk:k<w.Coins.length) (h0:l.getD k 0≠0):OkP w (zgd l k):=by
 have hk':k<l.length:=by rw [h.len];exact hk
 have:=zf5 h.nn k
 refine ⟨by simp [zgd,h.len],fun x hx=>?_,by rw [zeY hk'];have:=h.tot;omega⟩
 rcases List.mem_or_eq_of_mem_set hx with hx | rfl
 ·exact h.nn x hx
 ·omega
def zr3 (l:List Int):List Int:=[l.getD 0 0,l.getD 1 0,l.getD 2 0,l.getD 3 0]
def zbC (l:List Int):Bag_:=⟨l.getD 0 0,l.getD 1 0,l.getD 2 0,l.getD 3 0⟩
theorem zjS {l:List Int} {k:Nat} (h:k<4):idx (zr3 l) (k:Int)=some (l.getD k 0):=by
 match k,h with
 | 0,_=>rfl
 | 1,_=>rfl
 | 2,_=>rfl
 | 3,_=>rfl
theorem zm1 {l:List Int} {k:Nat} {v:Int} (h:k<l.length) (h4:l.length<=4):zqM (zr3 l) (k:Int) v=some (zr3 (l.set k v)):=by
 unfold zqM
 rw [if_pos ⟨by omega,by simp [zr3];omega⟩,Int.toNat_natCast]
 match l,k,h,h4 with
 | [a],0,_,_=>rfl
 | [a,b],0,_,_=>rfl
 | [a,b],1,_,_=>rfl
 | [a,b,c],0,_,_=>rfl
 | [a,b,c],1,_,_=>rfl
 | [a,b,c],2,_,_=>rfl
 | [a,b,c,d],0,_,_=>rfl
 | [a,b,c,d],1,_,_=>rfl
 | [a,b,c,d],2,_,_=>rfl
 | [a,b,c,d],3,_,_=>rfl
theorem zll {l l':List Int} (h:zbC l=zbC l') (hl:l.length=l'.length) (h4:l.length<=4):l=l':=by
 simp only [zbC,Bag_.mk.injEq] at h
 obtain ⟨h0,h1,h2,h3⟩:=h
 apply List.ext_getElem hl
 intro i hi hi'
 have e1:l[i]=l.getD i 0:=by simp [hi]
 have e2:l'[i]=l'.getD i 0:=by simp [hi']
 rw [e1,e2]
 match i,(show i<4 by omega) with
 | 0,_=>exact h0
 | 1,_=>exact h1
 | 2,_=>exact h2
 | 3,_=>exact h3
structure Opn where
 acts:List Int
 plays:Int
 p:Int
 c:Int
 k:Nat
def zj8 (w:Wheel) (p c:Int) (k:Nat):Opn:=⟨[(k:Int)],(turn w p (coin w k)).2,(turn w p (coin w k)).1,c+(turn w p (coin w k)).2,k⟩
def zoY (w:Wheel) (c:Int) (k:Nat):Opn:=⟨[-1,(k:Int)],(turn w 0 (coin w k)).2,(turn w 0 (coin w k)).1,c-1+(turn w 0 (coin w k)).2,k⟩
def zwp (w:Wheel) (p c:Int) (k:Nat):List Opn:=zj8 w p c k::(if c=0\/p=0 then [] else [zoY w c k])
def zm2 (w:Wheel) (p c:Int) (l:List Int):Nat->Nat->List Opn
 | 0,_=>[]
 | d+1,k=>(if l.getD k 0=0 then [] else zwp w p c k)++zm2 w p c l d (k+1)
theorem zd6 {w:Wheel} {p c:Int} {l:List Int} {o:Opn}:∀{d k:Nat},o∈zm2 w p c l d k↔∃j,k<=j/\j<k+d/\l.getD j 0≠0/\o∈zwp w p c j
 | 0,k=>by
  simp only [zm2,List.not_mem_nil,false_iff]
  rintro ⟨j,h1,h2,_⟩
  omega
 | d+1,k=>by
  simp only [zm2,List.mem_append]
  rw [zd6]
  constructor
  ·rintro (h | ⟨j,h1,h2,h3,h4⟩)
   ·split at h
    ·simp at h
    ·rename_i h0
     exact ⟨k,Nat.le_refl k,by omega,h0,h⟩
   ·exact ⟨j,by omega,by omega,h3,h4⟩
  ·rintro ⟨j,h1,h2,h3,h4⟩
   by_cases e:j=k
   ·subst e
    exact .inl (by rw [if_neg h3];exact h4)
   ·exact .inr ⟨j,by omega,by omega,h3,h4⟩
theorem zex {w:Wheel} {p c:Int} {k:Nat} {o:Opn}:o∈zwp w p c k↔o=zj8 w p c k\/(c≠0/\p≠0/\o=zoY w c k):=by
 unfold zwp
 rw [List.mem_cons]
 by_cases h:c=0\/p=0
 ·rw [if_pos h]
  simp only [List.not_mem_nil,or_false]
  exact ⟨.inl,fun q=>q.elim id fun q=>(h.elim q.1 q.2.1).elim⟩
 ·rw [if_neg h]
  simp only [List.mem_singleton]
  exact or_congr_right ⟨fun q=>⟨fun e=>h (.inl e),fun e=>h (.inr e),q⟩,fun q=>q.2.2⟩
def Q (b:Bool) (w:Wheel):Nat->Int->Int->List Int->Int
 | 0,_,_,_=>0
 | T+1,p,c,l=>pick b ((zm2 w p c l l.length 0).map fun o=>o.plays+Q b w T o.p o.c (zgd l o.k))
structure OkO (w:Wheel) (c:Int) (l:List Int) (o:Opn):Prop where
 k:o.k<w.Coins.length
 nz:l.getD o.k 0≠0
 p0:0<=o.p
 p1:o.p<w.Round
 c0:0<=o.c
 c1:o.c<=c+100
 y0:0<=o.plays
 y1:o.plays<=100
theorem zqn {w:Wheel} (h:OkW w) {p c:Int} (hp:0<=p) (hp':p<w.Round) (hc:0<=c) {l:List Int} (hl:OkP w l) {o:Opn} (ho:o∈zm2 w p c l l.length 0):OkO w c l o:=by
 have hr:=h.r1
 obtain ⟨j,_,h2,h3,h4⟩:=zd6.1 ho
 have hj:j<w.Coins.length:=by have:=hl.len;omega
 have hco:=zcQ h (a:=(j:Int)) (by omega) (by omega)
 rcases zex.1 h4 with rfl | ⟨h5,h6,rfl⟩
 ·have ht:=zdq h hp hp' (show 0<=coin w j by omega)
  exact ⟨hj,h3,ht.1.1,ht.1.2,by show 0<=c+_;omega,by show c+_<=_;omega,ht.2.1,by show (turn w p (coin w j)).2<=100;omega⟩
 ·have ht:=zdq h (p:=0) (by omega) (by omega) (show 0<=coin w j by omega)
  exact ⟨hj,h3,ht.1.1,ht.1.2,by show 0<=c-1+_;omega,by show c-1+_<=_;omega,ht.2.1,by show (turn w 0 (coin w j)).2<=100;omega⟩
theorem zjT:∀{l:List Int},total l≠0->∃j,j<l.length/\l.getD j 0≠0
 | [],h=>(h rfl).elim
 | x::l,h=>by
  by_cases e:x=0
  ·obtain ⟨j,h1,h2⟩:=zjT (l:=l) (fun q=>h (by simp [total,q,e]))
   exact ⟨j+1,by simp;omega,by simpa using h2⟩
  ·exact ⟨0,by simp,by simpa using e⟩
theorem zqo {w:Wheel} {p c:Int} {l:List Int} (h:total l≠0):∃j,j<l.length/\l.getD j 0≠0/\zj8 w p c j∈zm2 w p c l l.length 0:=by
 obtain ⟨j,h1,h2⟩:=zjT h
 exact ⟨j,h1,h2,zd6.2 ⟨j,by omega,by omega,h2,zex.2 (.inl rfl)⟩⟩
theorem OkP.out {w:Wheel} {l:List Int} (h:OkP w l):∀j,w.Coins.length<=j->l.getD j 0=0:=fun j hj=>by
 rw [←h.len] at hj
 simp [hj]
def spot (l:List Int) (p c:Int):Spot_:=⟨zbC l,p,c⟩
def zry (b:Bool) (w:Wheel) (M:List (Spot_×Int)):Prop :=
 (M.map (·.1)).Nodup/\∀e,e∈M->∃l p c,e.1=spot l p c/\OkP w l/\(0<=p/\p<w.Round)/\(0<=c/\c<1099511627776)/\e.2=Q b w (total l).toNat p c l
theorem zry.nil (b:Bool) (w:Wheel):zry b w []:=⟨by simp,fun e h=>by simp at h⟩
theorem zft {x:Int} (h1:-9223372036854775808<=x) (h2:x<9223372036854775808):okI x=true:=by
 simp only [okI,Lit.wf,IntKind.min,IntKind.max,IntKind.signed,IntKind.bits]
 simp
 omega
theorem zl8 {w:Wheel} (h:OkW w) {l:List Int} (hl:OkP w l) {p c:Int} (hp:0<=p) (hp':p<w.Round) (hc:0<=c) (hc2:c<1099511627776):zk0 (spot l p c)=true:=by
 have hr:=h.r2
 have ht:=hl.tot
 have g:=zf5 hl.nn
 have g0:=g 0
 have g1:=g 1
 have g2:=g 2
 have g3:=g 3
 simp only [zk0,spot,zbC,List.all_cons,List.all_nil,Bool.and_true,Bool.and_eq_true]
 exact ⟨zft (by omega) (by omega),zft (by omega) (by omega),zft (by omega) (by omega),zft (by omega) (by omega),zft (by omega) (by omega),zft (by omega) (by omega)⟩
theorem zry.mok {b:Bool} {w:Wheel} {M:List (Spot_×Int)} (hM:zry b w M) (h:OkW w) {l:List Int} (hl:OkP w l) {p c:Int} (hp:0<=p) (hp':p<w.Round) (hc:0<=c) (hc2:c<1099511627776):mok zk0 M (spot l p c)=true:=by
 unfold Go.AM.mok
 rw [zl8 h hl hp hp' hc hc2,show M.all (fun p=>zk0 p.1)=true from List.all_eq_true.2 fun e he=>?_,show decide ((M.map (·.1)).Nodup)=true by simpa using hM.1]
 ·rfl
 ·obtain ⟨l',p',c',e1,e2,e3,e4,_⟩:=hM.2 e he
  rw [e1]
  exact zl8 h e2 e3.1 e3.2 e4.1 e4.2
theorem zry.get {b:Bool} {w:Wheel} {M:List (Spot_×Int)} (hM:zry b w M) (h:OkW w) {l:List Int} (hl:OkP w l) {p c:Int} (hk:zb2 M (spot l p c)=true):ztN M (spot l p c)=Q b w (total l).toNat p c l:=by
 obtain ⟨l',p',c',e1,e2,e3,e4,e5⟩:=hM.2 _ (znT hk)
 simp only [spot,Spot_.mk.injEq] at e1
 obtain ⟨q1,q2,q3⟩:=e1
 have e:l=l':=zll q1 (by rw [hl.len,e2.len]) (by rw [hl.len];exact h.clen)
 subst e q2 q3
 exact e5
theorem zry.set {b:Bool} {w:Wheel} {M:List (Spot_×Int)} (hM:zry b w M) {l:List Int} (hl:OkP w l) {p c:Int} (hp:0<=p) (hp':p<w.Round) (hc:0<=c) (hc2:c<1099511627776):zry b w (zgb M (spot l p c) (Q b w (total l).toNat p c l)):=by
 refine ⟨zoW hM.1,fun e he=>?_⟩
 rcases znU he with rfl | he
 ·exact ⟨l,p,c,rfl,hl,⟨hp,hp'⟩,⟨hc,hc2⟩,rfl⟩
 ·exact hM.2 e he
theorem zqp {l:List Int} (h4:l.length<=4):l.getD 0 0+l.getD 1 0+l.getD 2 0+l.getD 3 0=total l:=by
 match l,h4 with
 | [],_=>rfl
 | [a],_=>simp [total]
 | [a,b],_=>simp [total]
 | [a,b,c],_=>simp [total];omega
 | [a,b,c,d],_=>simp [total];omega
def zhZ (w:Wheel) (p c:Int) (l:List Int):Nat->Nat->List Opn
 | 0,_=>[]
 | d+1,k=>(if l.getD k 0=0 then [] else [zj8 w p c k])++zhZ w p c l d (k+1)
theorem zfd {w:Wheel} {p c:Int} {l:List Int} {o:Opn}:∀{d k:Nat},o∈zhZ w p c l d k↔∃j,k<=j/\j<k+d/\l.getD j 0≠0/\o=zj8 w p c j
 | 0,k=>by
  simp only [zhZ,List.not_mem_nil,false_iff]
  rintro ⟨j,h1,h2,_⟩
  omega
 | d+1,k=>by
  simp only [zhZ,List.mem_append]
  rw [zfd]
  constructor
  ·rintro (h | ⟨j,h1,h2,h3,h4⟩)
   ·split at h
    ·simp at h
    ·rename_i h0
     exact ⟨k,Nat.le_refl k,by omega,h0,by simpa using h⟩
   ·exact ⟨j,by omega,by omega,h3,h4⟩
  ·rintro ⟨j,h1,h2,h3,h4⟩
   by_cases e:j=k
   ·subst e
    exact .inl (by rw [if_neg h3];simpa using h4)
   ·exact .inr ⟨j,by omega,by omega,h3,h4⟩
theorem zr4 (w:Wheel) (c:Int) (l:List Int):∀d k,zm2 w 0 c l d k=zhZ w 0 c l d k
 | 0,k=>rfl
 | d+1,k=>by
  simp only [zm2,zhZ,zr4 w c l d (k+1)]
  congr 1
  split
  ·rfl
  ·unfold zwp
   rw [if_pos (.inr rfl)]
def znV (b:Bool) (w:Wheel) (T:Nat) (l:List Int) (o:Opn):Int:=o.plays+Q b w T o.p o.c (zgd l o.k)
def zsK (b:Bool) (x y:Int):Int:=cond b (max x y) (min x y)
theorem znW (b:Bool) (x y:Int):leB b x (zsK b x y)/\leB b y (zsK b x y)/\(zsK b x y=x\/zsK b x y=y):=by
 cases b
 ·simp only [leB,zsK,cond_false];omega
 ·simp only [leB,zsK,cond_true];omega
theorem zsL (b:Bool) (w:Wheel) (T:Nat) (p c:Int) (l:List Int) (hc:c≠0) (hp:p≠0) (ht:total l≠0) :
  Q b w (T+1) p c l=zsK b (pick b ((zhZ w p c l l.length 0).map (znV b w T l))) (Q b w (T+1) 0 (c-1) l):=by
 have h0:Q b w (T+1) 0 (c-1) l=pick b ((zhZ w 0 (c-1) l l.length 0).map (znV b w T l)):=by
  simp only [Q,zr4]
  rfl
 rw [h0]
 obtain ⟨j,h1,h2,_⟩:=zqo (w:=w) (p:=p) (c:=c) ht
 have e1:(zhZ w p c l l.length 0).map (znV b w T l)≠[]:=by
  intro e
  have:=List.mem_map_of_mem (f:=znV b w T l) (zfd.2 ⟨j,by omega,by omega,h2,rfl⟩:zj8 w p c j∈zhZ w p c l l.length 0)
  rw [e] at this
  simp at this
 have e2:(zhZ w 0 (c-1) l l.length 0).map (znV b w T l)≠[]:=by
  intro e
  have:=List.mem_map_of_mem (f:=znV b w T l) (zfd.2 ⟨j,by omega,by omega,h2,rfl⟩:zj8 w 0 (c-1) j∈zhZ w 0 (c-1) l l.length 0)
  rw [e] at this
  simp at this
 obtain ⟨a1,a2⟩:=zgD b e1
 obtain ⟨b1,b2⟩:=zgD b e2
 obtain ⟨m1,m2,m3⟩:=znW b (pick b ((zhZ w p c l l.length 0).map (znV b w T l))) (pick b ((zhZ w 0 (c-1) l l.length 0).map (znV b w T l)))
 have vs:∀j,znV b w T l (zoY w c j)=znV b w T l (zj8 w 0 (c-1) j):=fun j=>rfl
 simp only [Q]
 refine zsJ b ?_ ?_
 ·show _∈(zm2 w p c l l.length 0).map (znV b w T l)
  rw [List.mem_map]
  rcases m3 with m3 | m3
  ·rw [m3]
   obtain ⟨o,ho,he⟩:=List.mem_map.1 a1
   obtain ⟨j,q1,q2,q3,rfl⟩:=zfd.1 ho
   exact ⟨_,zd6.2 ⟨j,q1,q2,q3,zex.2 (.inl rfl)⟩,he⟩
  ·rw [m3]
   obtain ⟨o,ho,he⟩:=List.mem_map.1 b1
   obtain ⟨j,q1,q2,q3,rfl⟩:=zfd.1 ho
   exact ⟨zoY w c j,zd6.2 ⟨j,q1,q2,q3,zex.2 (.inr ⟨hc,hp,rfl⟩)⟩,by rw [vs];exact he⟩
 ·intro v hv
  obtain ⟨o,ho,he⟩:=List.mem_map.1 hv
  obtain ⟨j,q1,q2,q3,q4⟩:=zd6.1 ho
  rw [←he]
  rcases zex.1 q4 with rfl | ⟨_,_,rfl⟩
  ·exact (a2 _ (List.mem_map_of_mem (f:=znV b w T l) (zfd.2 ⟨j,q1,q2,q3,rfl⟩))).trans m1
  ·refine leB.trans ?_ m2
   show leB b (znV b w T l (zoY w c j)) _
   rw [vs]
   exact b2 _ (List.mem_map_of_mem (f:=znV b w T l) (zfd.2 ⟨j,q1,q2,q3,rfl⟩))
def zcR (w:Wheel) (l:List Int):Bool:=decide (l.length=w.Coins.length)&&l.all (fun x=>inR x 0 12)&&decide (total l<=12)
theorem zrz {w:Wheel} {l:List Int} (h:zcR w l=true):OkP w l/\total l<=12:=by
 simp only [zcR,Bool.and_eq_true,decide_eq_true_eq,List.all_eq_true] at h
 exact ⟨⟨h.1.1,fun x hx=>(zb4.1 (h.1.2 x hx)).1,by omega⟩,h.2⟩
theorem zil {n:Nat} {w:Wheel} (hw:w.Coins.length<100000) (hn:w.Coins.length<n) (l:List Int):zdj n w l=some (zcR w l):=by
 unfold zdj zcR
 by_cases hl:l.length=w.Coins.length
 ·rw [if_neg (by simp;omega)]
  have key:=zrs (F:=fun m i (s:Int)=>zbA l m s i) (xs:=l) (spec:=fun k s=>some (k.all (fun x=>inR x 0 12)&&decide (s+total k<=12))) (I:=fun k s=>0<=s/\s+12*k.length<=100000000) (by omega)
   (fun m s hI=>by simp [zbA,zcS,zdB,total])
   (fun m i x k s hI hx hi _ _ hrec=>by
    simp only [List.length_cons] at hI
    simp only [zbA,zcS]
    rw [if_pos (by simpa using hi),hx,zab,zhY,zab,zab]
    by_cases q:inR x 0 12=true
    ·have:=zb4.1 q
     rw [if_neg (by simp [q]),zaS (x:=s+x) (by omega) (by omega),hrec (s+x) ⟨by omega,by omega⟩]
     have e:s+total (x::k)=s+x+total k:=by simp only [total];omega
     rw [e]
     simp only [List.all_cons,q,Bool.true_and]
    ·rw [if_pos (by simpa using q)]
     simp [q])
   l 0 n 0 (by omega) rfl (by omega) ⟨by omega,by omega⟩
  rw [show zbA l n 0 0=_ from key]
  simp [hl]
 ·rw [if_pos (by simp;omega)]
  simp [hl]
def zd9 (w:Wheel):Stand->List Int->Int
 | _,[]=>0
 | s,a::l=>(if 0<=a then (turn w s.Place (coin w a)).2 else 0)+zd9 w (zhp w s a).1 l
def cnt (k:Int):List Int->Int
 | []=>0
 | a::l=>(if a=k then 1 else 0)+cnt k l
theorem zeo (k:Int):∀(a b:List Int),cnt k (a++b)=cnt k a+cnt k b
 | [],b=>by simp [cnt]
 | x::a,b=>by
  simp only [List.cons_append,cnt]
  rw [zeo k a b]
  omega
structure Way (w:Wheel) (s:Stand) (l acts:List Int) (q:Int):Prop where
 ok:acts.all (zen w)=true
 len:(acts.length:Int)<=2*total l
 bag:∀k:Nat,k<w.Coins.length->cnt k acts=l.getD k 0
 buys:zd9 w s acts=q
theorem zim {l:List Int} {k j:Nat} (hk:k<l.length):(zgd l k).getD j 0=l.getD j 0-(if k=j then 1 else 0):=by
 unfold zgd
 by_cases e:k=j
 ·subst e
  rw [if_pos rfl,List.getD_eq_getElem?_getD,List.getElem?_set_self hk]
  rfl
 ·rw [if_neg e,List.getD_eq_getElem?_getD,List.getElem?_set_ne e,←List.getD_eq_getElem?_getD]
  omega
theorem zlm {w:Wheel} {k:Nat} (h:k<w.Coins.length):zen w k=true:=zb4.2 ⟨by omega,by omega⟩
theorem zm3 {w:Wheel}:zen w (-1)=true:=zb4.2 ⟨by omega,by omega⟩
theorem zqq (w:Wheel) (p c:Int) (k:Nat):zhp w ⟨p,c⟩ (k:Int)=(⟨(zj8 w p c k).p,(zj8 w p c k).c⟩,false):=by
 unfold zhp
 rw [if_pos (by omega)]
 rfl
theorem zr5 (w:Wheel) (p c:Int) (hc:c≠0):zhp w ⟨p,c⟩ (-1)=(⟨0,c-1⟩,true):=by
 unfold zhp
 rw [if_neg (by omega),if_neg hc]
theorem Way.step {w:Wheel} {p c:Int} {l acts:List Int} {q:Int} {o:Opn} (hl:OkP w l) (hc:0<=c) (ho:o∈zm2 w p c l l.length 0) (h:Way w ⟨o.p,o.c⟩ (zgd l o.k) acts q):Way w ⟨p,c⟩ l (o.acts++acts) (o.plays+q):=by
 obtain ⟨j,_,h2,h3,h4⟩:=zd6.1 ho
 have hj:j<l.length:=by omega
 have hj':j<w.Coins.length:=by have:=hl.len;omega
 rcases zex.1 h4 with rfl | ⟨h5,h6,rfl⟩
 ·refine ⟨?_,?_,fun k hk=>?_,?_⟩
  ·show List.all ([(j:Int)]++acts) (zen w)=true
   rw [List.singleton_append,List.all_cons,zlm hj',h.ok]
   rfl
  ·have:=h.len
   have e:=zeY hj
   show ((([(j:Int)]++acts).length:Nat):Int)<=_
   rw [show (zj8 w p c j).k=j from rfl] at this
   simp
   omega
  ·show cnt k ((j:Int)::acts)=_
   simp only [cnt]
   rw [h.bag k hk,show (zj8 w p c j).k=j from rfl,zim hj]
   by_cases e:j=k
   ·rw [if_pos (by omega),if_pos e];omega
   ·rw [if_neg (by omega),if_neg e];omega
  ·show zd9 w ⟨p,c⟩ ((j:Int)::acts)=_
   simp only [zd9]
   rw [if_pos (by omega),zqq,h.buys]
   rfl
 ·refine ⟨?_,?_,fun k hk=>?_,?_⟩
  ·show List.all ([-1,(j:Int)]++acts) (zen w)=true
   rw [List.cons_append,List.singleton_append,List.all_cons,List.all_cons,zlm hj',zm3,h.ok]
   rfl
  ·have:=h.len
   have e:=zeY hj
   show ((([-1,(j:Int)]++acts).length:Nat):Int)<=_
   rw [show (zoY w c j).k=j from rfl] at this
   simp
   omega
  ·show cnt k (-1::(j:Int)::acts)=_
   simp only [cnt]
   rw [h.bag k hk,show (zoY w c j).k=j from rfl,zim hj,if_neg (by omega)]
   by_cases e:j=k
   ·rw [if_pos (by omega),if_pos e];omega
   ·rw [if_neg (by omega),if_neg e];omega
  ·show zd9 w ⟨p,c⟩ (-1::(j:Int)::acts)=_
   simp only [zd9]
   rw [if_neg (by omega),zr5 w p c h5]
   simp only []
   rw [if_pos (by omega),zqq]
   rw [show (⟨(zj8 w 0 (c-1) j).p,(zj8 w 0 (c-1) j).c⟩:Stand)=⟨(zoY w c j).p,(zoY w c j).c⟩ from rfl,h.buys]
   show 0+((turn w 0 (coin w j)).2+q)=(turn w 0 (coin w j)).2+q
   omega
theorem zr6 {w:Wheel} {T:Nat} {p c:Int} {l:List Int} (b:Bool) (h0:total l≠0):∃o,o∈zm2 w p c l l.length 0/\o.plays+Q b w T o.p o.c (zgd l o.k)=Q b w (T+1) p c l:=by
 obtain ⟨j,h1,h2,h3⟩:=zqo (w:=w) (p:=p) (c:=c) h0
 have e:((zm2 w p c l l.length 0).map fun o=>o.plays+Q b w T o.p o.c (zgd l o.k))≠[]:=by
  intro e
  rw [List.map_eq_nil_iff] at e
  rw [e] at h3
  simp at h3
 obtain ⟨a1,_⟩:=zgD b e
 obtain ⟨o,ho,he⟩:=List.mem_map.1 a1
 exact ⟨o,ho,he⟩
theorem zyU {w:Wheel} {T:Nat} {p c:Int} {l:List Int} (b:Bool) {o:Opn} (ho:o∈zm2 w p c l l.length 0):leB b (o.plays+Q b w T o.p o.c (zgd l o.k)) (Q b w (T+1) p c l):=by
 have hm:=List.mem_map_of_mem (f:=fun o:Opn=>o.plays+Q b w T o.p o.c (zgd l o.k)) ho
 have e:((zm2 w p c l l.length 0).map fun o=>o.plays+Q b w T o.p o.c (zgd l o.k))≠[]:=by
  intro e
  rw [e] at hm
  simp at hm
 exact (zgD b e).2 _ hm
theorem zwq (b:Bool) {w:Wheel} (h:OkW w):∀(T:Nat) {p c:Int} {l:List Int},(T:Int)=total l->OkP w l->0<=p->p<w.Round->0<=c->∃acts,Way w ⟨p,c⟩ l acts (Q b w T p c l)
 | 0,p,c,l,hT,hl,_,_,_=>⟨[],rfl,by simp;omega,fun k hk=>by rw [zoX hl.nn (by omega) k];rfl,rfl⟩
 | T+1,p,c,l,hT,hl,hp,hp',hc=>by
  obtain ⟨o,ho,he⟩:=zr6 (w:=w) (T:=T) (p:=p) (c:=c) b (show total l≠0 by omega)
  have ok:=zqn h hp hp' hc hl ho
  obtain ⟨acts,hw⟩:=zwq b h T (p:=o.p) (c:=o.c) (l:=zgd l o.k) (by rw [zeY (by rw [hl.len];exact ok.k)];omega) (hl.less ok.k ok.nz) ok.p0 ok.p1 ok.c0
  exact ⟨o.acts++acts,he▸hw.step hl hc ho⟩
theorem zl9 (k:Int):∀l:List Int,0<=cnt k l/\cnt k l<=l.length
 | []=>by simp [cnt]
 | a::l=>by
  have:=zl9 k l
  simp only [cnt,List.length_cons]
  split<;>omega
theorem zqr (b:Bool) {w:Wheel} (h:OkW w):∀(T:Nat) {p c c':Int} {l:List Int},(T:Int)=total l->OkP w l->0<=p->p<w.Round->0<=c->c<=c'->leB b (Q b w T p c l) (Q b w T p c' l)
 | 0,p,c,c',l,_,_,_,_,_,_=>leB.refl b _
 | T+1,p,c,c',l,hT,hl,hp,hp',hc,hcc=>by
  obtain ⟨o,ho,he⟩:=zr6 (w:=w) (T:=T) (p:=p) (c:=c) b (show total l≠0 by omega)
  have ok:=zqn h hp hp' hc hl ho
  have hT':(T:Int)=total (zgd l o.k):=by rw [zeY (by rw [hl.len];exact ok.k)];omega
  obtain ⟨j,h1,h2,h3,h4⟩:=zd6.1 ho
  rw [←he]
  rcases zex.1 h4 with rfl | ⟨h5,h6,rfl⟩
  ·have ih:=zqr b h T (p:=(zj8 w p c j).p) (c:=(zj8 w p c j).c) (c':=(zj8 w p c' j).c) hT' (hl.less ok.k ok.nz) ok.p0 ok.p1 ok.c0 (by show c+_<=c'+_;omega)
   exact (ih.add _).trans (zyU (T:=T) (p:=p) (c:=c') b (o:=zj8 w p c' j) (zd6.2 ⟨j,h1,h2,h3,zex.2 (.inl rfl)⟩))
  ·have ih:=zqr b h T (p:=(zoY w c j).p) (c:=(zoY w c j).c) (c':=(zoY w c' j).c) hT' (hl.less ok.k ok.nz) ok.p0 ok.p1 ok.c0 (by show c-1+_<=c'-1+_;omega)
   exact (ih.add _).trans (zyU (T:=T) (p:=p) (c:=c') b (o:=zoY w c' j) (zd6.2 ⟨j,h1,h2,h3,zex.2 (.inr ⟨by omega,h6,rfl⟩)⟩))
theorem zyV (b:Bool) {w:Wheel} (h:OkW w) {T:Nat} {p c:Int} {l:List Int} (hT:(T:Int)=total l) (hl:OkP w l) (hp:0<=p) (hp':p<w.Round) (hc:0<c):leB b (Q b w T 0 (c-1) l) (Q b w T p c l):=by
 have hr:=h.r1
 cases T with
 | zero=>exact leB.refl b _
 | succ T =>
  by_cases e:p=0
  ·subst e
   exact zqr b h (T+1) hT hl (by omega) (by omega) (by omega) (by omega)
  ·rw [zsL b w T p c l (by omega) e (by omega)]
   exact (znW b _ _).2.1
theorem zsM {w:Wheel} {l:List Int} (hl:OkP w l) (h:∀k:Nat,k<w.Coins.length->(0:Int)=l.getD k 0):total l=0:=by
 by_cases e:total l=0
 ·exact e
 ·obtain ⟨j,h1,h2⟩:=zjT e
  exact (h2 (h j (by rw [←hl.len];exact h1)).symm).elim
theorem zma (b:Bool) {w:Wheel} (h:OkW w):∀(acts:List Int) {p c:Int} {l:List Int},acts.all (zen w)=true->(∀k:Nat,k<w.Coins.length->cnt k acts=l.getD k 0)->OkP w l->0<=p->p<w.Round->0<=c->leB b (zd9 w ⟨p,c⟩ acts) (Q b w (total l).toNat p c l)
 | [],p,c,l,_,hk,hl,_,_,_=>by
  rw [zsM hl hk]
  exact leB.refl b 0
 | a::acts,p,c,l,hok,hk,hl,hp,hp',hc=>by
  have hr:=h.r1
  simp only [List.all_cons,Bool.and_eq_true] at hok
  have ha:=zb4.1 hok.1
  by_cases h0:0<=a
  ·obtain ⟨k,rfl⟩:∃k:Nat,a=k:=⟨a.toNat,by omega⟩
   have hkl:k<w.Coins.length:=by omega
   have hkl':k<l.length:=by rw [hl.len];exact hkl
   have hnz:l.getD k 0≠0:=by
    have e:=hk k hkl
    simp only [cnt] at e
    have:=zl9 (k:Int) acts
    rw [if_pos trivial] at e
    omega
   have hco:=zcQ h (a:=(k:Int)) (by omega) (by omega)
   have ht:=zdq h hp hp' (show 0<=coin w k by omega)
   have hlt:=zeY hkl'
   have hnn:=zd5 (hl.less hkl hnz).nn
   have ih:=zma b h acts (p:=(zj8 w p c k).p) (c:=(zj8 w p c k).c) (l:=zgd l k) hok.2 (fun j hj=>by
    have e:=hk j hj
    simp only [cnt] at e
    rw [zim hkl']
    by_cases q:k=j
    ·rw [if_pos (by omega)] at e;rw [if_pos q];omega
    ·rw [if_neg (by omega)] at e;rw [if_neg q];omega) (hl.less hkl hnz) ht.1.1 ht.1.2 (by show 0<=c+_;omega)
   simp only [zd9]
   rw [if_pos h0,zqq]
   have eT:(total l).toNat=(total (zgd l k)).toNat+1:=by omega
   rw [eT]
   exact (ih.add _).trans (zyU b (o:=zj8 w p c k) (zd6.2 ⟨k,by omega,by omega,hnz,zex.2 (.inl rfl)⟩))
  ·have ea:a=-1:=by omega
   subst ea
   have hk':∀k:Nat,k<w.Coins.length->cnt k acts=l.getD k 0:=fun k hkl=>by
    have e:=hk k hkl
    simp only [cnt] at e
    rw [if_neg (by omega)] at e
    omega
   simp only [zd9]
   rw [if_neg h0,Int.zero_add]
   by_cases hc0:c=0
   ·have e:(zhp w ⟨p,c⟩ (-1)).1=⟨p,c⟩:=by
     unfold zhp
     rw [if_neg h0,if_pos hc0]
    rw [e]
    exact zma b h acts hok.2 hk' hl hp hp' hc
   ·rw [zr5 w p c hc0]
    have hnn:=zd5 hl.nn
    exact (zma b h acts hok.2 hk' hl (by omega) (by omega) (by omega)).trans (zyV b h (by omega) hl hp hp' (by omega))
def zkB (w:Wheel) (l:List Int):Nat->Nat->Int
 | 0,_=>0
 | d+1,k=>coin w k*l.getD k 0+zkB w l d (k+1)
def zbb (w:Wheel) (l:List Int):Int:=zkB w l w.Coins.length 0
theorem zsN {w:Wheel} (h:OkW w) {l:List Int} (hl:∀k,0<=l.getD k 0/\l.getD k 0<=1000) {k:Nat} (hk:k<w.Coins.length):0<=coin w k*l.getD k 0/\coin w k*l.getD k 0<=100000:=by
 have hco:=zcQ h (a:=(k:Int)) (by omega) (by omega)
 have:=hl k
 refine ⟨Int.mul_nonneg (by omega) (by omega),?_⟩
 have h1:coin w k*l.getD k 0<=100*l.getD k 0:=Int.mul_le_mul_of_nonneg_right hco.2 (by omega)
 omega
theorem zkC {w:Wheel} (h:OkW w) {l:List Int} (hl:∀k,0<=l.getD k 0/\l.getD k 0<=1000):∀(d k:Nat),k+d<=w.Coins.length->0<=zkB w l d k/\zkB w l d k<=100000*d
 | 0,k,_=>by simp [zkB]
 | d+1,k,hk=>by
  have:=zkC h hl d (k+1) (by omega)
  have:=zsN h hl (show k<w.Coins.length by omega)
  simp only [zkB]
  omega
theorem zln {n:Nat} {w:Wheel} (h:OkW w) (hn:100<=n) {l:List Int} (hlen:l.length=w.Coins.length) (hl:∀k,0<=l.getD k 0/\l.getD k 0<=1000):zeL n w l=some (zbb w l):=by
 have h4:=h.clen
 have key:∀(d i m:Nat) (s:Int),d=w.Coins.length-i->i<=w.Coins.length->d<m->0<=s->s+100000*d<=1000000->zbo w l m s (i:Int)=some (s+zkB w l d i):=by
  intro d
  induction d with
  | zero =>
   intro i m s hd hi hm hs hs2
   obtain ⟨m,rfl⟩:∃q,m=q+1:=⟨m-1,by omega⟩
   simp only [zbo,zcg,zcG,zkB]
   rw [if_neg (by simp;omega),Int.add_zero]
  | succ d ih =>
   intro i m s hd hi hm hs hs2
   obtain ⟨m,rfl⟩:∃q,m=q+1:=⟨m-1,by omega⟩
   have ht:=zsN h hl (show i<w.Coins.length by omega)
   have ei:l[i]'(by omega)=l.getD i 0:=by simp [show i<l.length by omega]
   simp only [zbo,zcg,zkB]
   rw [if_pos (by simp;omega),zck (by omega),zab,ziX (by omega) (by omega),zab,ei,Int.mul_comm,zaS (x:=coin w i*_) (by omega) (by omega),zaS (x:=s+_) (by omega) (by omega),zaS (x:=(i:Int)+1) (by omega) (by omega)]
   have:=ih (i+1) m (s+coin w i*l.getD i 0) (by omega) (by omega) (by omega) (by omega) (by omega)
   rw [show (((i+1:Nat)):Int)=(i:Int)+1 by simp] at this
   rw [this]
   congr 1
   omega
 have:=key w.Coins.length 0 n 0 (by omega) (by omega) (by omega) (by omega) (by omega)
 rw [Int.zero_add] at this
 exact this
def down:Nat->List Int
 | 0=>[0]
 | n+1=>((n+1:Nat):Int)::down n
def upF:Nat->Nat->List Int
 | _,0=>[]
 | i,d+1=>(i:Int)::upF (i+1) d
theorem zlo {v:Int}:∀{d i:Nat},v∈upF i d↔(i:Int)<=v/\v<i+d
 | 0,i=>by simp [upF]<;>omega
 | d+1,i=>by
  simp only [upF,List.mem_cons,zlo]
  omega
theorem zm4:∀(d i:Nat),(upF i d).length=d
 | 0,i=>rfl
 | d+1,i=>by simp [upF,zm4 d (i+1)]
def Part (t l:List Int):Prop:=t.length=l.length/\∀k,0<=t.getD k 0/\t.getD k 0<=l.getD k 0
def zr7 (w:Wheel) (t:List Int):List Int:=t.take w.Coins.length
structure OkT (w:Wheel) (t:List Int):Prop where
 len:t.length=4
 rng:∀k,0<=t.getD k 0/\t.getD k 0<=1000
 out:∀k,w.Coins.length<=k->t.getD k 0=0
 tot:total (zr7 w t)<=1000
theorem zmb {w:Wheel} {t:List Int} (h:OkT w t) (k:Nat):(zr7 w t).getD k 0=t.getD k 0:=by
 unfold zr7
 rw [List.getD_eq_getElem?_getD,List.getElem?_take]
 split
 ·rfl
 ·rw [h.out k (by omega)]
  rfl
theorem OkT.purse {w:Wheel} (hw:OkW w) {t:List Int} (h:OkT w t):OkP w (zr7 w t):=by
 have h4:=hw.clen
 have hl:=h.len
 refine ⟨by simp [zr7];omega,fun x hx=>?_,h.tot⟩
 obtain ⟨i,hi,rfl⟩:=List.getElem_of_mem hx
 have e:(zr7 w t)[i]=(zr7 w t).getD i 0:=by simp [hi]
 rw [e,zmb h]
 exact (h.rng i).1
theorem OkT.bag {w:Wheel} {t:List Int} (h:OkT w t):zbC t=zbC (zr7 w t):=by
 simp only [zbC,zmb h]
def zhn (w:Wheel):Stand->List Int->Stand
 | s,[]=>s
 | s,a::l=>zhn w (zhp w s a).1 l
theorem zdK (w:Wheel):∀(a b:List Int) (s:Stand),zhn w s (a++b)=zhn w (zhn w s a) b
 | [],b,s=>rfl
 | x::a,b,s=>zdK w a b _
theorem zeG (w:Wheel):∀(a b:List Int) (s:Stand),zd9 w s (a++b)=zd9 w s a+zd9 w (zhn w s a) b
 | [],b,s=>by simp [zd9,zhn]
 | x::a,b,s=>by
  simp only [List.cons_append,zd9,zhn]
  rw [zeG w a b]
  omega
theorem zqs {w:Wheel} (h:OkW w):∀(acts:List Int) (s:Stand) (b:Int),OkS w s b->acts.all (zen w)=true->OkS w (zhn w s acts) (b+100*acts.length)
 | [],s,b,hs,_=>by simpa [zhn] using hs
 | a::l,s,b,hs,ha=>by
  rw [List.all_cons,Bool.and_eq_true] at ha
  have:=zqs h l _ _ (zql h hs ha.1) ha.2
  simp only [zhn,List.length_cons]
  rwa [show b+100*((l.length+1:Nat):Int)=b+100+100*(l.length:Int) by omega]
def Can (w:Wheel) (al:List Int) (v:Int):Prop:=∃acts:List Int,acts.all (zen w)=true/\(∀k:Nat,k<w.Coins.length->cnt k acts=al.getD k 0)/\zd9 w ⟨0,0⟩ acts=v
structure Pn where
 p:Int
 c:Int
 l:List Int
 b:Int
def zl (w:Wheel):List Int:=List.replicate w.Coins.length 0
def zfe (l:List Int) (k:Nat):List Int:=l.set k (l.getD k 0+1)
def zqN (cl:Int->Int->Int) (x:Pn):Pn:=⟨0,cl (total x.l) (x.c-1),x.l,x.b⟩
def zoZ (cl:Int->Int->Int) (w:Wheel) (x:Pn) (k:Nat):Pn:=⟨(turn w x.p (coin w k)).1,cl (total x.l+1) (x.c+(turn w x.p (coin w k)).2),zfe x.l k,x.b+(turn w x.p (coin w k)).2⟩
def zj9 (w:Wheel):Pn:=⟨0,0,zl w,0⟩
inductive RP (cl:Int->Int->Int) (w:Wheel) (al:List Int):List Int->Pn->Prop
 | zero:RP cl w al [] (zj9 w)
 | sel {acts:List Int} {x:Pn} (h:RP cl w al acts x) (hc:0<x.c) (hp:0<x.p):RP cl w al (acts++[-1]) (zqN cl x)
 | coin {acts:List Int} {x:Pn} {k:Nat} (h:RP cl w al acts x) (hk:k<w.Coins.length) (hl:x.l.getD k 0≠al.getD k 0):RP cl w al (acts++[(k:Int)]) (zoZ cl w x k)
theorem ziY:∀n:Nat,total (List.replicate n 0)=0
 | 0=>rfl
 | n+1=>by rw [List.replicate_succ,total,ziY n];rfl
theorem zjU (w:Wheel) (k:Nat):(zl w).getD k 0=0:=by
 unfold zl
 rw [List.getD_eq_getElem?_getD,List.getElem?_replicate]
 split<;>rfl
theorem zmc (l:List Int) (k:Nat):(zfe l k).length=l.length:=by simp [zfe]
theorem zfN {l:List Int} {k j:Nat} (hk:k<l.length):(zfe l k).getD j 0=l.getD j 0+(if k=j then 1 else 0):=by
 unfold zfe
 by_cases e:k=j
 ·subst e
  rw [if_pos rfl,List.getD_eq_getElem?_getD,List.getElem?_set_self hk]
  rfl
 ·rw [if_neg e,List.getD_eq_getElem?_getD,List.getElem?_set_ne e,←List.getD_eq_getElem?_getD]
  omega
theorem zep {l:List Int} {k:Nat} (h:k<l.length):total (zfe l k)=total l+1:=by
 unfold zfe
 rw [zjR h]
 omega
theorem zff:∀{l m:List Int},l.length=m.length->(∀k,l.getD k 0<=m.getD k 0)->total l<=total m
 | [],[],_,_=>Int.le_refl _
 | [],_::_,h,_=>by simp at h
 | _::_,[],h,_=>by simp at h
 | x::l,y::m,h,hk=>by
  have h0:=hk 0
  have:=zff (l:=l) (m:=m) (by simpa using h) (fun k=>by simpa using hk (k+1))
  simp only [total]
  simp at h0
  omega
theorem zjV {l m:List Int} (h:l.length=m.length) (hk:∀k,l.getD k 0<=m.getD k 0) {k:Nat} (hlt:l.getD k 0<m.getD k 0):total l<total m:=by
 have hkl:k<l.length:=by
  rcases Nat.lt_or_ge k l.length with h1 | h1
  ·exact h1
  ·rw [List.getD_eq_getElem?_getD,List.getD_eq_getElem?_getD,List.getElem?_eq_none h1,List.getElem?_eq_none (by omega)] at hlt
   simp at hlt
 have h1:=zff (l:=zfe l k) (m:=m) (by rw [zmc];exact h) fun j=>by
  rw [zfN hkl]
  have:=hk j
  split
  ·rename_i e
   subst e
   omega
  ·omega
 rw [zep hkl] at h1
 omega
structure Clamp (cl:Int->Int->Int) (T:Int):Prop where
 le:∀t c,cl t c<=c
 nn:∀t c,t<=T->0<=c->0<=cl t c
structure OkX (w:Wheel) (al:List Int) (acts:List Int) (x:Pn):Prop where
 p0:0<=x.p
 p1:x.p<w.Round
 c0:0<=x.c
 cb:x.c<=x.b
 bt:x.b<=100*total x.l
 len:x.l.length=w.Coins.length
 nn:∀k,0<=x.l.getD k 0
 le:∀k,x.l.getD k 0<=al.getD k 0
 ok:acts.all (zen w)=true
 bag:∀k:Nat,cnt k acts=x.l.getD k 0
 buys:zd9 w ⟨0,0⟩ acts=x.b
 pl:(zhn w ⟨0,0⟩ acts).Place=x.p
 cr:x.c<=(zhn w ⟨0,0⟩ acts).Credit
theorem zeZ (k:Nat) (a:Int):cnt k [a]=if a=(k:Int) then 1 else 0:=by simp [cnt]
theorem RP.ok {cl:Int->Int->Int} {w:Wheel} {al:List Int} (h:OkW w) (hl:al.length=w.Coins.length) (hnn:∀k,0<=al.getD k 0) (hcl:Clamp cl (total al)) {acts:List Int} {x:Pn} (hr:RP cl w al acts x):OkX w al acts x:=by
 have hr1:=h.r1
 induction hr with
 | zero=>exact ⟨Int.le_refl _,by show (0:Int)<w.Round;omega,Int.le_refl _,Int.le_refl _,by show (0:Int)<=100*total (zl w);rw [show total (zl w)=0 from ziY _];omega,by simp [zj9,zl],fun k=>by show 0<=(zl w).getD k 0;rw [zjU];omega,fun k=>by show (zl w).getD k 0<=_;rw [zjU];exact hnn k,rfl,fun k=>by show _=(zl w).getD k 0;rw [zjU];rfl,rfl,rfl,Int.le_refl _⟩
 | @sel acts x hr hc hp ih =>
  have ht:total x.l<=total al:=zff (by rw [ih.len,hl]) ih.le
  have hcr:=ih.cr
  have he:zhp w (zhn w ⟨0,0⟩ acts) (-1)=(⟨0,(zhn w ⟨0,0⟩ acts).Credit-1⟩,true):=by
   unfold zhp
   rw [if_neg (by omega),if_neg (by omega)]
  have hle:=hcl.le (total x.l) (x.c-1)
  have hcb:=ih.cb
  refine ⟨Int.le_refl _,by show (0:Int)<w.Round;omega,hcl.nn _ _ ht (by omega),by show cl _ _<=x.b;omega,ih.bt,ih.len,ih.nn,ih.le,?_,fun k=>?_,?_,?_,?_⟩
  ·rw [List.all_append,ih.ok]
   simp [zm3]
  ·rw [zeo,ih.bag,zeZ,if_neg (by omega)]
   exact Int.add_zero _
  ·rw [zeG,ih.buys]
   simp [zd9,zqN]
  ·rw [zdK]
   simp only [zhn,he]
   rfl
  ·rw [zdK]
   simp only [zhn,he]
   show cl _ _<=_
   omega
 | @coin acts x k hr hk hne ih =>
  have hkl:k<x.l.length:=by rw [ih.len];exact hk
  have hlt:x.l.getD k 0<al.getD k 0:=by have:=ih.le k;omega
  have ht:total x.l<total al:=zjV (by rw [ih.len,hl]) ih.le hlt
  have hcoin:=zcQ h (a:=(k:Int)) (by omega) (by omega)
  have htr:=zdq h ih.p0 ih.p1 (show 0<=Go.Law.coin w k by omega)
  have hcb:=ih.cb
  have hbt:=ih.bt
  have hc0:=ih.c0
  have hcr:=ih.cr
  have he:(zhp w (zhn w ⟨0,0⟩ acts) (k:Int)).1=⟨(turn w x.p (Go.Law.coin w k)).1,(zhn w ⟨0,0⟩ acts).Credit+(turn w x.p (Go.Law.coin w k)).2⟩:=by
   unfold zhp
   rw [if_pos (by omega),ih.pl]
  have hle:=hcl.le (total x.l+1) (x.c+(turn w x.p (Go.Law.coin w k)).2)
  refine ⟨htr.1.1,htr.1.2,hcl.nn _ _ (by omega) (by omega),?_,?_,?_,fun j=>?_,fun j=>?_,?_,fun j=>?_,?_,?_,?_⟩
  ·show cl _ _<=x.b+_
   omega
  ·show x.b+_<=100*total (zfe x.l k)
   rw [zep hkl]
   omega
  ·show (zfe x.l k).length=_
   rw [zmc,ih.len]
  ·show 0<=(zfe x.l k).getD j 0
   rw [zfN hkl]
   have:=ih.nn j
   split<;>omega
  ·show (zfe x.l k).getD j 0<=_
   rw [zfN hkl]
   have:=ih.le j
   split
   ·rename_i e
    subst e
    omega
   ·omega
  ·rw [List.all_append,ih.ok]
   simp [zlm hk]
  ·show _=(zfe x.l k).getD j 0
   rw [zeo,ih.bag,zeZ,zfN hkl]
   congr 1
   by_cases e:k=j
   ·subst e;simp
   ·rw [if_neg e,if_neg (by omega)]
  ·rw [zeG,ih.buys]
   simp only [zd9,ih.pl]
   rw [if_pos (by omega)]
   show x.b+(_+0)=x.b+_
   omega
  ·rw [zdK]
   simp only [zhn,he]
   rfl
  ·rw [zdK]
   simp only [zhn,he]
   show cl _ _<=_
   omega
theorem zf9 {al:List Int} (h:∀k,0<=al.getD k 0):∀x,x∈al->0<=x:=fun x hx=>by
 obtain ⟨k,hk⟩:=List.getElem?_of_mem hx
 have:=h k
 rwa [List.getD_eq_getElem?_getD,hk] at this
theorem zm5 (l:List Int):l=[]\/∃q a,l=q++[a]:=zhl l
def clT (T:Int):Int->Int->Int:=fun t c=>min c (T-t)
theorem zin (T:Int):Clamp (clT T) T:=⟨fun t c=>by unfold clT;omega,fun t c h1 h2=>by unfold clT;omega⟩
theorem zm6 {w:Wheel} {a:Int} (h:zen w a=true):a=-1\/∃k:Nat,k<w.Coins.length/\a=k:=by
 have h:=zb4.1 h
 by_cases h0:0<=a
 ·exact .inr ⟨a.toNat,by omega,by omega⟩
 ·exact .inl (by omega)
theorem cnt_mono {k:Nat} {l:List Int} {a:Int}:cnt k l<=cnt k (l++[a]):=by
 rw [zeo,zeZ]
 split<;>omega
theorem zqt {w:Wheel} {al:List Int} (h:OkW w) (hl:al.length=w.Coins.length) (hnn:∀k,0<=al.getD k 0):∀(n:Nat) (acts:List Int),acts.length=n->acts.all (zen w)=true->(∀k:Nat,k<w.Coins.length->cnt k acts<=al.getD k 0) ->
  ∃acts' x,RP (clT (total al)) w al acts' x/\x.b=zd9 w ⟨0,0⟩ acts/\(∀k:Nat,k<w.Coins.length->x.l.getD k 0=cnt k acts)/\(total x.l<total al->x.p=(zhn w ⟨0,0⟩ acts).Place/\min (zhn w ⟨0,0⟩ acts).Credit (if x.p=0 then total al-total x.l-1 else total al-total x.l)<=x.c)
 | 0,acts,hlen,_,_=>by
  obtain rfl:=List.eq_nil_of_length_eq_zero hlen
  refine ⟨[],zj9 w,.zero,rfl,fun k _=>zjU w k,fun ht=>⟨rfl,?_⟩⟩
  show min (0:Int) _<=0
  omega
 | n+1,acts,hlen,hok,hbag=>by
  rcases zm5 acts with rfl | ⟨l,a,rfl⟩
  ·simp at hlen
  rw [List.all_append,Bool.and_eq_true] at hok
  have hoa:zen w a=true:=by simpa using hok.2
  obtain ⟨acts',x,hr,hb,hcn,hx⟩:=zqt h hl hnn n l (by simpa using hlen) hok.1 fun k hk=>Int.le_trans cnt_mono (hbag k hk)
  have hX:=hr.ok h hl hnn (zin _)
  have hes:=zqs h l ⟨0,0⟩ 0 ⟨Int.le_refl _,by show (0:Int)<w.Round;have:=h.r1;omega,Int.le_refl _,Int.le_refl _⟩ hok.1
  have hec:=hes.c0
  have hep:=hes.p0
  have htl:total x.l<=total al:=zff (by rw [hX.len,hl]) hX.le
  rcases zm6 hoa with rfl | ⟨k,hk,rfl⟩
  ·have hbu:zd9 w ⟨0,0⟩ (l++[-1])=zd9 w ⟨0,0⟩ l:=by rw [zeG];simp [zd9]
   have hcn':∀k:Nat,cnt k (l++[-1])=cnt k l:=fun k=>by
    rw [zeo,zeZ,if_neg (by omega)]
    exact Int.add_zero _
   have he:zhn w ⟨0,0⟩ (l++[-1])=if (zhn w ⟨0,0⟩ l).Credit=0 then zhn w ⟨0,0⟩ l else ⟨0,(zhn w ⟨0,0⟩ l).Credit-1⟩:=by
    rw [zdK]
    simp only [zhn,zhp]
    rw [if_neg (by omega)]
    split<;>rfl
   by_cases ht:total x.l<total al
   ·obtain ⟨hp,hc⟩:=hx ht
    by_cases hz:(zhn w ⟨0,0⟩ l).Credit=0
    ·exact ⟨acts',x,hr,by rw [hbu,hb],fun k hk=>by rw [hcn',hcn k hk],fun _=>by rw [he,if_pos hz];exact ⟨hp,hc⟩⟩
    ·by_cases hp0:x.p=0
     ·refine ⟨acts',x,hr,by rw [hbu,hb],fun k hk=>by rw [hcn',hcn k hk],fun _=>?_⟩
      rw [he,if_neg hz]
      refine ⟨hp0,?_⟩
      rw [if_pos hp0] at hc ⊢
      show min (_-1) _<=_
      omega
     ·rw [if_neg hp0] at hc
      have hp1:=hX.p0
      refine ⟨_,_,hr.sel (by omega) (by omega),by rw [hbu,←hb];rfl,fun k hk=>by rw [hcn',←hcn k hk];rfl,fun _=>?_⟩
      rw [he,if_neg hz]
      refine ⟨rfl,?_⟩
      show min (_-1) (if (0:Int)=0 then _ else _)<=min (x.c-1) (total al-total x.l)
      rw [if_pos rfl]
      show min (_-1) (total al-total x.l-1)<=_
      omega
   ·exact ⟨acts',x,hr,by rw [hbu,hb],fun k hk=>by rw [hcn',hcn k hk],fun ht'=>absurd ht' ht⟩
  ·have hck:cnt k (l++[(k:Int)])=cnt k l+1:=by rw [zeo,zeZ,if_pos rfl]
   have hlt:x.l.getD k 0<al.getD k 0:=by
    have:=hbag k hk
    rw [hcn k hk]
    omega
   have ht:total x.l<total al:=zjV (by rw [hX.len,hl]) hX.le hlt
   obtain ⟨hp,hc⟩:=hx ht
   have hkl:k<x.l.length:=by rw [hX.len];exact hk
   have he:zhn w ⟨0,0⟩ (l++[(k:Int)])=⟨(turn w x.p (coin w k)).1,(zhn w ⟨0,0⟩ l).Credit+(turn w x.p (coin w k)).2⟩:=by
    rw [zdK]
    simp only [zhn,zhp]
    rw [if_pos (by omega),hp]
   have hcoin:=zcQ h (a:=(k:Int)) (by omega) (by omega)
   have htr:=zdq h hX.p0 hX.p1 (show 0<=coin w k by omega)
   have hc0:=hX.c0
   refine ⟨_,_,hr.coin hk (by omega),?_,fun j hj=>?_,fun ht'=>?_⟩
   ·rw [zeG]
    simp only [zd9]
    rw [if_pos (by omega),←hb,←hp]
    show x.b+_=x.b+(_+0)
    omega
   ·show (zfe x.l k).getD j 0=_
    rw [zfN hkl,hcn j hj,zeo,zeZ]
    congr 1
    by_cases e:k=j
    ·subst e;simp
    ·rw [if_neg e,if_neg (by omega)]
   ·rw [he]
    refine ⟨rfl,?_⟩
    show min (_+_) (if (turn w x.p (coin w k)).1=0 then total al-total (zfe x.l k)-1 else total al-total (zfe x.l k))<=min (x.c+_) (total al-(total x.l+1))
    rw [zep hkl]
    by_cases h1:x.p=0
    ·rw [if_pos h1] at hc
     split<;>omega
    ·rw [if_neg h1] at hc
     split<;>omega
theorem zgE {l m:List Int} {n:Nat} (h1:l.length=n) (h2:m.length=n) (h:∀k:Nat,k<n->l.getD k 0=m.getD k 0):l=m:=by
 apply List.ext_getElem (by omega)
 intro k a b
 have:=h k (by omega)
 simpa [List.getD_eq_getElem?_getD,a,b] using this
theorem zwr {w:Wheel} {al:List Int} (h:OkW w) (hl:al.length=w.Coins.length) (hnn:∀k,0<=al.getD k 0) {v:Int}:Can w al v↔∃acts x,RP (clT (total al)) w al acts x/\x.l=al/\x.b=v:=by
 constructor
 ·rintro ⟨acts,hok,hbag,hb⟩
  obtain ⟨acts',x,hr,h1,h2,_⟩:=zqt h hl hnn acts.length acts rfl hok fun k hk=>Int.le_of_eq (hbag k hk)
  have hX:=hr.ok h hl hnn (zin _)
  exact ⟨acts',x,hr,zgE hX.len hl fun k hk=>by rw [h2 k hk,hbag k hk],by rw [h1,hb]⟩
 ·rintro ⟨acts,x,hr,rfl,rfl⟩
  have hX:=hr.ok h hl hnn (zin _)
  exact ⟨acts,hX.ok,fun k _=>hX.bag k,hX.buys⟩
theorem RP.short {w:Wheel} {al:List Int} (h:OkW w) (hl:al.length=w.Coins.length) (hnn:∀k,0<=al.getD k 0) {acts:List Int} {x:Pn} (hr:RP (clT (total al)) w al acts x) :
  x.c<=total al-total x.l/\((acts.length:Int)<=2*total x.l\/x.p=0/\total x.l<total al/\(acts.length:Int)<=2*total x.l+1):=by
 induction hr with
 | zero =>
  have h0:total (zl w)=0:=ziY _
  have h1:0<=total al:=zd5 (zf9 hnn)
  refine ⟨?_,.inl ?_⟩
  ·show (0:Int)<=total al-total (zl w)
   omega
  ·show ((0:Nat):Int)<=2*total (zl w)
   omega
 | @sel acts x hr hc hp ih =>
  refine ⟨?_,.inr ⟨rfl,?_,?_⟩⟩
  ·show min (x.c-1) (total al-total x.l)<=total al-total x.l
   omega
  ·show total x.l<total al
   omega
  ·show ((acts++[-1]).length:Int)<=2*total x.l+1
   rw [List.length_append,List.length_singleton]
   rcases ih.2 with h1 | ⟨h1,_⟩
   ·omega
   ·omega
 | @coin acts x k hr hk hne ih =>
  have hX:=hr.ok h hl hnn (zin _)
  have hkl:k<x.l.length:=by rw [hX.len];exact hk
  refine ⟨?_,.inl ?_⟩
  ·show min _ (total al-(total x.l+1))<=total al-total (zfe x.l k)
   rw [zep hkl]
   omega
  ·show ((acts++[(k:Int)]).length:Int)<=2*total (zfe x.l k)
   rw [zep hkl,List.length_append,List.length_singleton]
   rcases ih.2 with h1 | ⟨_,_,h1⟩<;>omega
def lvl (cl:Int->Int->Int) (w:Wheel):Nat->List Pn
 | 0=>[zj9 w]
 | t+1=>(lvl cl w t++(lvl cl w t).map (zqN cl)).flatMap fun x=>(List.range w.Coins.length).map fun k=>zoZ cl w x k
def lvs (cl:Int->Int->Int) (w:Wheel) (t:Nat):List Pn:=lvl cl w t++(lvl cl w t).map (zqN cl)
def zr8 (cl:Int->Int->Int) (w:Wheel):Nat->List Pn
 | 0=>lvs cl w 0
 | t+1=>zr8 cl w t++lvs cl w (t+1)
theorem zio {α β:Type} {f:α->List β} {c:Nat}:∀{l:List α},(∀x,x∈l->(f x).length<=c)->(l.flatMap f).length<=l.length*c
 | [],_=>by simp
 | x::l,h=>by
  have h1:=h x (by simp)
  have h2:=zio (f:=f) (c:=c) (l:=l) fun y hy=>h y (by simp [hy])
  simp only [List.flatMap_cons,List.length_append,List.length_cons,Nat.add_mul,Nat.one_mul]
  omega
theorem zm7 (cl:Int->Int->Int) {w:Wheel} (hk:w.Coins.length<=3):∀t,(lvl cl w t).length<=6 ^ t
 | 0=>by simp [lvl]
 | t+1=>by
  have h1:=zm7 cl hk t
  unfold lvl
  refine Nat.le_trans (zio (c:=3) fun x _=>by simp;exact hk) ?_
  rw [List.length_append,List.length_map,Nat.pow_succ]
  omega
theorem zrA (cl:Int->Int->Int) {w:Wheel} (hk:w.Coins.length<=3) {t:Nat} (ht:t<=5):(zr8 cl w t).length<=93312:=by
 have key:∀t,t<=5->(zr8 cl w t).length<=(t+1)*15552:=by
  intro t
  induction t with
  | zero =>
   intro _
   have:=zm7 cl hk 0
   simp only [zr8,lvs,List.length_append,List.length_map]
   omega
  | succ t ih =>
   intro ht
   have h1:=ih (by omega)
   have h2:=zm7 cl hk (t+1)
   have h3:6 ^ (t+1)<=6 ^ 5:=Nat.pow_le_pow_right (by omega) ht
   simp only [zr8,lvs,List.length_append,List.length_map]
   have:(6:Nat) ^ 5=7776:=by decide
   omega
 have:=key t ht
 omega
theorem RP.level {cl:Int->Int->Int} {w:Wheel} {al:List Int} (h:OkW w) (hl:al.length=w.Coins.length) (hnn:∀k,0<=al.getD k 0) (hcl:Clamp cl (total al)) {acts:List Int} {x:Pn} (hr:RP cl w al acts x):x∈lvl cl w (total x.l).toNat\/x.p=0/\x∈(lvl cl w (total x.l).toNat).map (zqN cl):=by
 induction hr with
 | zero =>
  refine .inl ?_
  have:total (zj9 w).l=0:=ziY _
  rw [this]
  simp [lvl]
 | @sel acts x hr hc hp ih =>
  refine .inr ⟨rfl,?_⟩
  show zqN cl x∈(lvl cl w (total x.l).toNat).map (zqN cl)
  rcases ih with ih | ⟨h0,_⟩
  ·exact List.mem_map.2 ⟨x,ih,rfl⟩
  ·omega
 | @coin acts x k hr hk hne ih =>
  have hX:=hr.ok h hl hnn hcl
  have hkl:k<x.l.length:=by rw [hX.len];exact hk
  have h0:0<=total x.l:=zd5 (zf9 hX.nn)
  refine .inl ?_
  have e:(total (zoZ cl w x k).l).toNat=(total x.l).toNat+1:=by
   show (total (zfe x.l k)).toNat=_
   rw [zep hkl]
   omega
  rw [e]
  unfold lvl
  refine List.mem_flatMap.2 ⟨x,?_,List.mem_map.2 ⟨k,List.mem_range.2 hk,rfl⟩⟩
  rcases ih with ih | ⟨_,ih⟩
  ·exact List.mem_append_left _ ih
  ·exact List.mem_append_right _ ih
theorem znX (cl:Int->Int->Int) (w:Wheel):∀{t m:Nat},m<=t->∀x,x∈lvs cl w m->x∈zr8 cl w t
 | 0,m,h,x,hx=>by
  obtain rfl:m=0:=by omega
  exact hx
 | t+1,m,h,x,hx=>by
  by_cases e:m=t+1
  ·subst e
   exact List.mem_append_right _ hx
  ·exact List.mem_append_left _ (znX cl w (by omega) x hx)
theorem RP.up {cl:Int->Int->Int} {w:Wheel} {al:List Int} (h:OkW w) (hl:al.length=w.Coins.length) (hnn:∀k,0<=al.getD k 0) (hcl:Clamp cl (total al)) {acts:List Int} {x:Pn} (hr:RP cl w al acts x) {t:Nat} (ht:total x.l<=t):x∈zr8 cl w t:=by
 refine znX cl w (m:=(total x.l).toNat) (by omega) x ?_
 rcases hr.level h hl hnn hcl with h1 | ⟨_,h1⟩
 ·exact List.mem_append_left _ h1
 ·exact List.mem_append_right _ h1
theorem ziq {α:Type} [DecidableEq α]:∀{l m:List α},l.Nodup->(∀x,x∈l->x∈m)->l.length<=m.length
 | [],_,_,_=>Nat.zero_le _
 | x::l,m,hn,h=>by
  have hn:=List.nodup_cons.1 hn
  have hx:=h x (by simp)
  have:=ziq (l:=l) (m:=m.erase x) hn.2 fun y hy=>by
   have hne:y≠x:=fun e=>hn.1 (by rw [←e];exact hy)
   exact (List.mem_erase_of_ne hne).2 (h y (by simp [hy]))
  rw [List.length_erase_of_mem hx] at this
  have:=List.length_pos_of_mem hx
  simp only [List.length_cons]
  omega
theorem zqu {n:Nat} {l:List Int} (h4:l.length<=4) (hnn:∀k,0<=l.getD k 0/\l.getD k 0<=1000) (hn:10<=n):zcK n (zbC l)=some (total l):=by
 obtain ⟨m,rfl⟩:∃m,n=m+5:=⟨n-5,by omega⟩
 have h0:=hnn 0
 have h1:=hnn 1
 have h2:=hnn 2
 have h3:=hnn 3
 have ht:=zqp h4
 unfold zcK
 have e:∀(m:Nat) (s k:Int) (j:Nat),k=j->j<4->0<=s->s<=100000->za8 (zbC l) (m+1) s k=za8 (zbC l) m (s+l.getD j 0) (k+1):=fun m s k j hk hj hs hs2=>by
  subst hk
  have hb:=hnn j
  simp only [za8,zcd]
  rw [if_pos (by simp;omega)]
  rw [show idx ([(zbC l).c0,(zbC l).c1,(zbC l).c2,(zbC l).c3]:List Int) (j:Int)=some (l.getD j 0) from zjS hj,zab,zaS (by omega) (by omega),zaS (by omega) (by omega)]
 rw [e (m+4) 0 0 0 rfl (by omega) (by omega) (by omega),e (m+3) _ (0+1) 1 rfl (by omega) (by omega) (by omega),e (m+2) _ (0+1+1) 2 rfl (by omega) (by omega) (by omega),e (m+1) _ (0+1+1+1) 3 rfl (by omega) (by omega) (by omega)]
 simp only [za8,zcd,zcB]
 rw [if_neg (by simp)]
 congr 1
 omega
def pnt (x:Pn):PointT_:=⟨⟨x.p,x.c⟩,zbC x.l,x.b⟩
theorem zsO {x y:Pn} (h:pnt x=pnt y) (hl:x.l.length=y.l.length) (h4:x.l.length<=4):x=y:=by
 obtain ⟨a,b,c,d⟩:=x
 obtain ⟨a',b',c',d'⟩:=y
 simp only [pnt,PointT_.mk.injEq,Stand.mk.injEq] at h
 obtain ⟨⟨rfl,rfl⟩,h1,rfl⟩:=h
 obtain rfl:=zll h1 hl h4
 rfl
structure Cx (w:Wheel) (al:List Int):Prop where
 v:valid w=true
 hl:al.length=w.Coins.length
 nn:∀k,0<=al.getD k 0
 k3:w.Coins.length<=3
 t5:total al<=5
theorem Cx.h {w:Wheel} {al:List Int} (C:Cx w al):OkW w:=zf4 C.v
theorem zmn {w:Wheel} {al acts:List Int} {x:Pn} (C:Cx w al) (hr:RP (clT (total al)) w al acts x):OkX w al acts x/\total x.l<=total al/\(∀k,0<=x.l.getD k 0/\x.l.getD k 0<=5)/\zbp (pnt x)=true:=by
 have hX:=hr.ok C.h C.hl C.nn (zin _)
 have ht:total x.l<=total al:=zff (by rw [hX.len,C.hl]) hX.le
 have hk:∀k,0<=x.l.getD k 0/\x.l.getD k 0<=5:=fun k=>by
  have:=zf5 (zf9 hX.nn) k
  have:=C.t5
  omega
 refine ⟨hX,ht,hk,?_⟩
 have h0:=hk 0
 have h1:=hk 1
 have h2:=hk 2
 have h3:=hk 3
 have h4:=hX.p0
 have h5:=hX.p1
 have h6:=hX.c0
 have h7:=hX.cb
 have h8:=hX.bt
 have h9:=C.h.r2
 have h10:=C.t5
 unfold zbp pnt zbC
 simp only [List.all_cons,List.all_nil,Bool.and_true,Bool.and_eq_true]
 exact ⟨zft (by omega) (by omega),zft (by omega) (by omega),zft (by omega) (by omega),zft (by omega) (by omega),zft (by omega) (by omega),zft (by omega) (by omega),zft (by omega) (by omega)⟩
structure WI (w:Wheel) (al:List Int) (A:PointT_->List Int) (M:List (PointT_×Step_)):Prop where
 nd:(M.map (·.1)).Nodup
 pt:∀k st,(k,st)∈M->(∃X,k=pnt X/\RP (clT (total al)) w al (A k) X)/\(st.act=-2/\A k=[]\/st.act≠-2/\zb2 M st.from_=true/\A k=A st.from_++[st.act])
structure Ext (A:PointT_->List Int) (M:List (PointT_×Step_)) (q:List PointT_) (A':PointT_->List Int) (M':List (PointT_×Step_)) (q':List PointT_):Prop where
 ex:∃N:List (PointT_×Step_),M'=M++N/\q'=q++N.map (·.1)
 same:∀k,zb2 M k=true->A' k=A k
theorem Ext.has {A M q A' M' q'} (h:Ext A M q A' M' q') {k:PointT_} (hk:zb2 M k=true):zb2 M' k=true:=by
 obtain ⟨N,rfl,_⟩:=h.ex
 rw [za6] at hk ⊢
 rw [List.map_append]
 exact List.mem_append_left _ hk
theorem Ext.refl (A M q):Ext A M q A M q:=⟨⟨[],by simp,by simp⟩,fun _ _=>rfl⟩
theorem Ext.trans {A M q A' M' q' A2 M2 q2} (h:Ext A M q A' M' q') (g:Ext A' M' q' A2 M2 q2):Ext A M q A2 M2 q2:=by
 refine ⟨?_,fun k hk=>by rw [g.same k (h.has hk),h.same k hk]⟩
 obtain ⟨N,rfl,rfl⟩:=h.ex
 obtain ⟨N',rfl,rfl⟩:=g.ex
 exact ⟨N++N',by simp,by simp⟩
theorem Ext.len {A M q A' M' q'} (h:Ext A M q A' M' q'):M.length+q'.length=M'.length+q.length:=by
 obtain ⟨N,rfl,rfl⟩:=h.ex
 simp
 omega
theorem Ext.out {A M q A' M' q'} (h:Ext A M q A' M' q') {k:PointT_} (hk:zb2 M' k=true) (hq:k∉q'):zb2 M k=true/\k∉q:=by
 obtain ⟨N,rfl,rfl⟩:=h.ex
 rw [za6,List.map_append] at hk
 rw [za6]
 simp only [List.mem_append,not_or] at hk hq
 rcases hk with hk | hk
 ·exact ⟨hk,hq.1⟩
 ·exact absurd hk hq.2
theorem WI.key {w al A M} (hW:WI w al A M) {k:PointT_} (hk:zb2 M k=true):∃X,k=pnt X/\RP (clT (total al)) w al (A k) X:=(hW.pt k _ (zfK zaW hk)).1
theorem WI.len {w al A M} (C:Cx w al) (hW:WI w al A M):M.length<=93312:=by
 have h1:=ziq (m:=(zr8 (clT (total al)) w 5).map pnt) hW.nd fun k hk=>by
  obtain ⟨X,rfl,hr⟩:=hW.key (za6.2 hk)
  exact List.mem_map.2 ⟨X,hr.up C.h C.hl C.nn (zin _) (by have:=(zmn C hr).2.1;have:=C.t5;omega),rfl⟩
 rw [List.length_map,List.length_map] at h1
 have h2:=zrA (clT (total al)) C.k3 (t:=5) (by omega)
 omega
theorem WI.mok {w al A M} (C:Cx w al) (hW:WI w al A M) {acts:List Int} {X:Pn} (hr:RP (clT (total al)) w al acts X):mok zbp M (pnt X)=true:=by
 unfold Go.AM.mok
 rw [(zmn C hr).2.2.2,Bool.true_and,Bool.and_eq_true]
 refine ⟨List.all_eq_true.2 fun p hp=>?_,decide_eq_true hW.nd⟩
 obtain ⟨Y,e,hr'⟩:=(hW.pt p.1 p.2 hp).1
 show zbp p.1=true
 rw [e]
 exact (zmn C hr').2.2.2
theorem Cx.len4 {w al} (C:Cx w al):al.length<=4:=by rw [C.hl];have:=C.k3;omega
theorem zr9 {w al} (C:Cx w al) {n:Nat} (hn:10<=n) {A M q} (hW:WI w al A M) {X Y:Pn} {a:Int} (hx:zb2 M (pnt X)=true) (hr:RP (clT (total al)) w al (A (pnt X)++[a]) Y) (ha:a≠-2) {y:PointT_} (e1:y.in_=zbC Y.l) (e2:y.bought=Y.b) (e3:y.Stand.Place=Y.p) (e4:min y.Stand.Credit (total al-total Y.l)=Y.c) (hq:q.length<=M.length) :
  ∃A' M' q',zdI n (zbC al) (pnt X) a y (M,q)=some (M',q')/\WI w al A' M'/\Ext A M q A' M' q'/\zb2 M' (pnt Y)=true:=by
 obtain ⟨hY,ht,hk,hok⟩:=zmn C hr
 have h4:=C.len4
 have hal:∀k,0<=al.getD k 0/\al.getD k 0<=1000:=fun k=>by
  have h1:=zf5 (zf9 C.nn) k
  have h2:=C.t5
  omega
 have hnn:0<=total Y.l:=zd5 (zf9 hY.nn)
 have h5:=C.t5
 have e:zdt y (w64 (total al-total Y.l))=pnt Y:=by
  rw [zaS (by omega) (by omega)]
  show (⟨⟨y.Stand.Place,min y.Stand.Credit (total al-total Y.l)⟩,y.in_,y.bought⟩:PointT_)=_
  rw [e1,e2,e3,e4]
  rfl
 have hlen:=hW.len C
 unfold zdI
 rw [zqu h4 hal hn,zab,e1,zqu (by rw [hY.len];have:=C.k3;omega) (fun k=>by have:=hk k;omega) hn,zab]
 simp only [e]
 rw [show zfD zbp zaW M (pnt Y)=some (zfP zaW M (pnt Y)) from if_pos (hW.mok C hr),zab]
 cases hh:zb2 M (pnt Y) with
 | true =>
  rw [if_pos rfl]
  exact ⟨A,M,q,rfl,hW,Ext.refl A M q,hh⟩
 | false =>
  rw [if_neg (by simp),show zjl zbp M (pnt Y) ⟨a,pnt X⟩=some (zgb M (pnt Y) ⟨a,pnt X⟩) from if_pos (hW.mok C hr),zab,if_pos (by omega),(zfF zaW M _ hh).2.2]
  have hno:∀k,zb2 M k=true->k≠pnt Y:=fun k hk he=>by rw [he,hh] at hk;cases hk
  refine ⟨fun k=>if k=pnt Y then A (pnt X)++[a] else A k,_,_,rfl,⟨?_,fun k st hm=>?_⟩,⟨⟨[(pnt Y,⟨a,pnt X⟩)],rfl,rfl⟩,fun k hk=>if_neg (hno k hk)⟩,?_⟩
  ·rw [List.map_append,List.nodup_append]
   refine ⟨hW.nd,by simp,fun u hu v hv=>?_⟩
   simp only [List.map_cons,List.map_nil,List.mem_singleton] at hv
   rw [hv]
   exact hno u (za6.2 hu)
  ·have hmono:∀k,zb2 M k=true->zb2 (M++[(pnt Y,(⟨a,pnt X⟩:Step_))]) k=true:=fun k hk=>by
    rw [za6] at hk ⊢
    rw [List.map_append]
    exact List.mem_append_left _ hk
   rcases List.mem_append.1 hm with hm | hm
   ·have hk:zb2 M k=true:=za6.2 (List.mem_map.2 ⟨_,hm,rfl⟩)
    obtain ⟨p1,p2⟩:=hW.pt k st hm
    simp only [if_neg (hno k hk)]
    refine ⟨p1,?_⟩
    rcases p2 with p2 | ⟨p2,p3,p4⟩
    ·exact .inl p2
    ·exact .inr ⟨p2,hmono _ p3,by rw [if_neg (hno _ p3)];exact p4⟩
   ·simp only [List.mem_singleton,Prod.mk.injEq] at hm
    obtain ⟨rfl,rfl⟩:=hm
    simp only [if_pos rfl]
    exact ⟨⟨Y,rfl,hr⟩,.inr ⟨ha,hmono _ hx,by rw [if_neg (hno _ hx)];simp⟩⟩
  ·rw [za6,List.map_append]
   exact List.mem_append_right _ (by simp)
theorem zsP {w:Wheel} (hv:valid w=true) {n:Nat} (hn:200<=n) {p:Int} (h0:0<=p) (h1:p<w.Round):zd1 n w ⟨p,1⟩ [-1]=some (⟨0,0⟩,1,0):=by
 have h:=zf4 hv
 rw [zr2 (h.len (by omega)) hn _ _ (by simp) (by simp;omega)]
 have e:zhp w ⟨p,1⟩ (-1)=(⟨0,0⟩,true):=by
  unfold zhp
  rw [if_neg (by omega),if_neg (by simp)]
  rfl
 unfold zyb
 rw [if_pos hv,if_pos ⟨by simp only [zfA,zhm,Bool.and_eq_true,zb4];omega,by simp,by simp [zm3]⟩]
 simp only [zoV,e]
 rfl
theorem zrB {w:Wheel} (hv:valid w=true) {n:Nat} (hn:200<=n) {p:Int} (h0:0<=p) (h1:p<w.Round) {k:Nat} (hk:k<w.Coins.length):zd1 n w ⟨p,0⟩ [(k:Int)]=some (⟨(turn w p (coin w k)).1,(turn w p (coin w k)).2⟩,0,0):=by
 have h:=zf4 hv
 rw [zr2 (h.len (by omega)) hn _ _ (by simp) (by simp;omega)]
 have e:zhp w ⟨p,0⟩ (k:Int)=(⟨(turn w p (coin w k)).1,(turn w p (coin w k)).2⟩,false):=by
  unfold zhp
  rw [if_pos (by omega)]
  simp
 unfold zyb
 rw [if_pos hv,if_pos ⟨by simp only [zfA,zhm,Bool.and_eq_true,zb4];omega,by simp,by simp [zlm hk]⟩]
 simp only [zoV,e]
 rfl
theorem zqv {w al} (C:Cx w al) {n:Nat} (hn:200<=n) {b:Box_} (hb:b.Box.Wheel=w) {A M q} (hW:WI w al A M) {X:Pn} (hx:zb2 M (pnt X)=true) (hr:RP (clT (total al)) w al (A (pnt X)) X) (hq:q.length<=M.length) :
  ∃A' M' q',zet n b (zbC al) (pnt X) (M,q)=some (M',q')/\WI w al A' M'/\Ext A M q A' M' q'/\(0<X.c->0<X.p->zb2 M' (pnt (zqN (clT (total al)) X))=true):=by
 obtain ⟨hX,ht,hk,hok⟩:=zmn C hr
 have h5:=C.t5
 have h6:=hX.cb
 have h7:=hX.bt
 unfold zet
 rw [hb]
 show ∃A' M' q',(if decide (X.c>0)=true then if decide (X.p>0)=true then _ else _ else _)=_/\_
 by_cases hc:0<X.c
 ·by_cases hp:0<X.p
  ·rw [if_pos (by simpa using hc),if_pos (by simpa using hp)]
   show ∃A' M' q',Option.bind (zd1 n w ⟨X.p,1⟩ [-1]) _=_/\_
   rw [zsP C.v hn hX.p0 hX.p1,zab]
   obtain ⟨A',M',q',g1,g2,g3,g4⟩:=zr9 (n:=n) C (by omega) hW (Y:=zqN (clT (total al)) X) (a:=-1) (y:=⟨⟨0,w64 (X.c-1)⟩,zbC X.l,X.b⟩) hx (hr.sel hc hp) (by omega) rfl rfl rfl (by
    show min (w64 (X.c-1)) (total al-total X.l)=min (X.c-1) (total al-total X.l)
    rw [zaS (by omega) (by omega)]) hq
   exact ⟨A',M',q',g1,g2,g3,fun _ _=>g4⟩
  ·rw [if_pos (by simpa using hc),if_neg (by simpa using hp)]
   exact ⟨A,M,q,rfl,hW,Ext.refl A M q,fun _ h=>absurd h hp⟩
 ·rw [if_neg (by simpa using hc)]
  exact ⟨A,M,q,rfl,hW,Ext.refl A M q,fun h=>absurd h hc⟩
theorem zjW {w al} (C:Cx w al) {n:Nat} (hn:200<=n) {b:Box_} (hb:b.Box.Wheel=w) {X:Pn}:∀(d i m:Nat),i+d=w.Coins.length->d<m->∀{A M q},WI w al A M->zb2 M (pnt X)=true->RP (clT (total al)) w al (A (pnt X)) X->q.length<=M.length ->
  ∃A' M' q',zbj n b (zbC al) (pnt X) m (i:Int) (M,q)=some (M',q')/\WI w al A' M'/\Ext A M q A' M' q'/\∀k:Nat,i<=k->k<w.Coins.length->X.l.getD k 0≠al.getD k 0->zb2 M' (pnt (zoZ (clT (total al)) w X k))=true
 | d,i,0,_,hm,_,_,_,_,_,_,_=>absurd hm (Nat.not_lt_zero _)
 | 0,i,m+1,hi,_,A,M,q,hW,hx,hr,hq=>by
  unfold zbj
  rw [hb,if_neg (by simp;omega)]
  exact ⟨A,M,q,rfl,hW,Ext.refl A M q,fun k h1 h2=>by omega⟩
 | d+1,i,m+1,hi,hm,A,M,q,hW,hx,hr,hq=>by
  obtain ⟨hX,ht,hk,hok⟩:=zmn C hr
  have h5:=C.t5
  have h6:=hX.cb
  have h7:=hX.bt
  have h8:=hX.c0
  have h9:=C.k3
  have h4:=C.len4
  have hki:=hk i
  have hil:i<X.l.length:=by rw [hX.len];omega
  unfold zbj
  rw [hb,if_pos (by simp;omega)]
  show ∃A' M' q',Option.bind (idx (zr3 X.l) (i:Int)) _=_/\_
  rw [zjS (by omega),zab,show idx ([(zbC al).c0,(zbC al).c1,(zbC al).c2,(zbC al).c3]:List Int) (i:Int)=some (al.getD i 0) from zjS (by omega),zab,zaS (x:=(i:Int)+1) (by omega) (by omega)]
  by_cases he:X.l.getD i 0=al.getD i 0
  ·rw [if_pos (by simpa using he)]
   obtain ⟨A',M',q',g1,g2,g3,g4⟩:=zjW C hn hb d (i+1) m (by omega) (by omega) hW hx hr hq
   refine ⟨A',M',q',g1,g2,g3,fun k k1 k2 k3=>?_⟩
   by_cases e:k=i
   ·subst e
    exact absurd he k3
   ·exact g4 k (by omega) k2 k3
  ·rw [if_neg (by simpa using he)]
   show ∃A' M' q',Option.bind (zd1 n w ⟨X.p,0⟩ [(i:Int)]) _=_/\_
   have hcoin:=zcQ C.h (a:=(i:Int)) (by omega) (by omega)
   have htr:=zdq C.h hX.p0 hX.p1 (show 0<=coin w i by omega)
   rw [zrB C.v hn hX.p0 hX.p1 (by omega),zab,zaS (x:=X.l.getD i 0+1) (by omega) (by omega)]
   rw [show zqM ([(pnt X).in_.c0,(pnt X).in_.c1,(pnt X).in_.c2,(pnt X).in_.c3]:List Int) (i:Int) (X.l.getD i 0+1)=some (zr3 (zfe X.l i)) from zm1 hil (by rw [hX.len];omega),zab]
   obtain ⟨A1,M1,q1,g1,g2,g3,g4⟩:=zr9 (n:=n) C (by omega) hW (Y:=zoZ (clT (total al)) w X i) (a:=(i:Int)) (y:=⟨⟨(turn w X.p (coin w i)).1,w64 (X.c+(turn w X.p (coin w i)).2)⟩,zbC (zfe X.l i),w64 (X.b+(turn w X.p (coin w i)).2)⟩) hx (hr.coin (by omega) he) (by omega) rfl (by
     show w64 _=X.b+_
     rw [zaS (by omega) (by omega)]) rfl (by
     show min (w64 (X.c+(turn w X.p (coin w i)).2)) (total al-total (zfe X.l i))=min (X.c+(turn w X.p (coin w i)).2) (total al-(total X.l+1))
     rw [zaS (by omega) (by omega),zep hil]) hq
   have hl1:=g3.len
   obtain ⟨A',M',q',k1,k2,k3,k4⟩:=zjW C hn hb d (i+1) m (by omega) (by omega) g2 (g3.has hx) (by rw [g3.same _ hx];exact hr) (show q1.length<=M1.length by omega)
   refine ⟨A',M',q',?_,k2,g3.trans k3,fun k j1 j2 j3=>?_⟩
   ·show Option.bind (zdI n (zbC al) (pnt X) (i:Int) ⟨⟨(turn w X.p (coin w i)).1,w64 (X.c+(turn w X.p (coin w i)).2)⟩,zbC (zfe X.l i),w64 (X.b+(turn w X.p (coin w i)).2)⟩ (M,q)) _=_
    rw [g1,zab]
    exact k1
   ·by_cases e:k=i
    ·subst e
     exact k3.has g4
    ·exact k4 k (by omega) j2 j3
def Closed (w:Wheel) (al:List Int) (M:List (PointT_×Step_)) (X:Pn):Prop:=(0<X.c->0<X.p->zb2 M (pnt (zqN (clT (total al)) X))=true)/\∀k:Nat,k<w.Coins.length->X.l.getD k 0≠al.getD k 0->zb2 M (pnt (zoZ (clT (total al)) w X k))=true
theorem Closed.ext {w al A M q A' M' q'} (h:Ext A M q A' M' q') {X:Pn} (hc:Closed w al M X):Closed w al M' X:=⟨fun a b=>h.has (hc.1 a b),fun k a b=>h.has (hc.2 k a b)⟩
theorem zmd {w al} (C:Cx w al) {n:Nat} (hn:200<=n) {b:Box_} (hb:b.Box.Wheel=w):∀(m:Nat) {A M q},93312+q.length<m+M.length->WI w al A M->q.length<=M.length->(∀k,k∈q->zb2 M k=true)->zb2 M (pnt (zj9 w))=true->(∀acts X,RP (clT (total al)) w al acts X->zb2 M (pnt X)=true->pnt X∉q->Closed w al M X) ->
  ∃A' M',zcO n b (zbC al) m (M,q)=some M'/\WI w al A' M'/\∀acts X,RP (clT (total al)) w al acts X->zb2 M' (pnt X)=true
 | 0,A,M,q,hf,hW,_,_,_,_=>by
  have:=hW.len C
  omega
 | m+1,A,M,[],hf,hW,hq,hqm,hz,hcl=>by
  refine ⟨A,M,rfl,hW,fun acts X hr=>?_⟩
  induction hr with
  | zero=>exact hz
  | sel hr hc hp ih=>exact (hcl _ _ hr ih (by simp)).1 hc hp
  | coin hr hk hne ih=>exact (hcl _ _ hr ih (by simp)).2 _ hk hne
 | m+1,A,M,x::q,hf,hW,hq,hqm,hz,hcl=>by
  have hx:zb2 M x=true:=hqm x (by simp)
  obtain ⟨X,rfl,hr⟩:=hW.key hx
  simp only [List.length_cons] at hf hq
  obtain ⟨A1,M1,q1,g1,g2,g3,g4⟩:=zqv C hn hb hW hx hr (show q.length<=M.length by omega)
  have hl1:=g3.len
  obtain ⟨A2,M2,q2,k1,k2,k3,k4⟩:=zjW C hn hb w.Coins.length 0 n (by omega) (by have:=C.k3;omega) g2 (g3.has hx) (by rw [g3.same _ hx];exact hr) (show q1.length<=M1.length by omega)
  have hl2:=k3.len
  have hE:=g3.trans k3
  have hXc:Closed w al M2 X:=⟨fun a b=>k3.has (g4 a b),fun k a b=>k4 k (Nat.zero_le _) a b⟩
  have hX:=zmn C hr
  obtain ⟨A',M',j1,j2,j3⟩:=zmd C hn hb m (A:=A2) (M:=M2) (q:=q2) (by omega) k2 (by omega) (fun k hk=>by
   obtain ⟨N,e1,e2⟩:=hE.ex
   rw [e2] at hk
   rcases List.mem_append.1 hk with hk | hk
   ·exact hE.has (hqm k (List.mem_cons_of_mem _ hk))
   ·rw [za6,e1,List.map_append]
    exact List.mem_append_right _ hk) (hE.has hz) fun acts Y hY hm hnq=>by
   obtain ⟨o1,o2⟩:=hE.out hm hnq
   by_cases e:pnt Y=pnt X
   ·obtain rfl:=zsO e (by rw [(zmn C hY).1.len,hX.1.len]) (by rw [(zmn C hY).1.len];have:=C.k3;omega)
    exact hXc
   ·exact (hcl acts Y hY o1 (by simp only [List.mem_cons,not_or];exact ⟨e,o2⟩)).ext hE
  refine ⟨A',M',?_,j2,j3⟩
  unfold zcO
  simp only
  rw [g1,zab]
  show Option.bind (zbj n b (zbC al) (pnt X) n ((0:Nat):Int) (M1,q1)) _=_
  rw [k1,zab]
  exact j1
theorem znY (w:Wheel):pnt (zj9 w)=zaA:=by
 have h:=fun k=>zjU w k
 unfold pnt zj9 zbC
 simp only [h]
theorem zqw {w al} (C:Cx w al) {n:Nat} (hn:100000<=n) {b:Box_} (hb:b.Box.Wheel=w):∃A M,zcM n (some b) (zbC al)=some M/\WI w al A M/\∀acts X,RP (clT (total al)) w al acts X->zb2 M (pnt X)=true:=by
 have hz:zb2 [(zaA,(⟨-2,zaA⟩:Step_))] (pnt (zj9 w))=true:=by rw [znY];simp [zb2]
 exact zmd C (by omega) hb n (A:=fun _=>[]) (M:=[(zaA,⟨-2,zaA⟩)]) (q:=[zaA]) (by simp;omega) ⟨by simp,fun k st hm=>by
  simp only [List.mem_singleton,Prod.mk.injEq] at hm
  obtain ⟨rfl,rfl⟩:=hm
  exact ⟨⟨zj9 w,(znY w).symm,.zero⟩,.inl ⟨rfl,rfl⟩⟩⟩ (by simp) (by simp [zb2]) hz fun acts X hr hm hnq=>by
  exfalso
  rw [za6] at hm
  exact hnq hm
theorem zqx {w al} (C:Cx w al) {A M} (hW:WI w al A M):∀(m:Nat) {k:PointT_} {acts:List Int},zb2 M k=true->(A k).length<m->acts.length+(A k).length<100000->zda M m (zfP zaW M k) acts=some (acts++(A k).reverse)
 | 0,k,acts,hk,hm,_=>absurd hm (Nat.not_lt_zero _)
 | m+1,k,acts,hk,hm,hl=>by
  unfold zda
  rcases (hW.pt k _ (zfK zaW hk)).2 with ⟨h1,h2⟩ | ⟨h1,h2,h3⟩
  ·rw [if_neg (by simpa using h1),h2]
   simp
  ·rw [h3,List.length_append,List.length_singleton] at hm hl
   obtain ⟨Y,e,hr⟩:=hW.key h2
   rw [if_pos (by simpa using h1),if_pos (by omega),show zfD zbp zaW M (zfP zaW M k).from_=some (zfP zaW M (zfP zaW M k).from_) from if_pos (by rw [e];exact hW.mok C hr),zab,zqx C hW m h2 (by omega) (by simp;omega)]
   conv=>rhs;rw [h3]
   simp
def sums (a b:List Int):List Int:=List.zipWith (·+·) a b
theorem zgS {a b:List Int} (h:b.length=a.length):(sums a b).length=a.length:=by simp [sums,h]
theorem zfO:∀{a b:List Int},b.length=a.length->∀k,(sums a b).getD k 0=a.getD k 0+b.getD k 0
 | [],[],_,k=>by simp [sums]
 | [],_::_,h,_=>by simp at h
 | _::_,[],h,_=>by simp at h
 | x::a,y::b,h,0=>by simp [sums]
 | x::a,y::b,h,k+1=>by
  have:=zfO (a:=a) (b:=b) (by simpa using h) k
  simpa [sums] using this
theorem ze0:∀{a b:List Int},b.length=a.length->total (sums a b)=total a+total b
 | [],[],_=>rfl
 | [],_::_,h=>by simp at h
 | _::_,[],h=>by simp at h
 | x::a,y::b,h=>by
  have:=ze0 (a:=a) (b:=b) (by simpa using h)
  simp only [sums,List.zipWith_cons_cons,total] at this ⊢
  omega
def zge (l:List Int):Prop:=∀k,0<=l.getD k 0/\l.getD k 0<=1000
theorem zge.sums {a b:List Int} (h:b.length=a.length) (ha:∀k,0<=a.getD k 0/\a.getD k 0<=500) (hb:∀k,0<=b.getD k 0/\b.getD k 0<=500):zge (sums a b):=fun k=>by
 rw [zfO h]
 have:=ha k
 have:=hb k
 omega
theorem getD_get {l:List Int} {k:Nat} (h:k<l.length):l[k]=l.getD k 0:=by simp [h]
theorem zqy {n:Nat} {a b:List Int} (h:b.length=a.length) (ha:zge a) (hb:zge b) (hl:a.length<1000) (hn:a.length<n):zgM n a b=some (sums a b):=by
 have key:∀(d i m:Nat) (v:List Int),d=a.length-i->i<=a.length->d<m->v.length=i->zcA a b m v (i:Int)=some (v++(sums a b).drop i):=by
  intro d
  induction d with
  | zero =>
   intro i m v hd hi hm hv
   obtain ⟨m,rfl⟩:∃q,m=q+1:=⟨m-1,by omega⟩
   simp only [zcA,zdW,zeR]
   rw [if_neg (by simp;omega),List.drop_eq_nil_of_le (by rw [zgS h];omega),List.append_nil]
  | succ d ih =>
   intro i m v hd hi hm hv
   obtain ⟨m,rfl⟩:∃q,m=q+1:=⟨m-1,by omega⟩
   have h1:=ha i
   have h2:=hb i
   simp only [zcA,zdW]
   rw [if_pos (by simp;omega),zck (by omega),zab,zck (by omega),zab,getD_get,getD_get,zaS (by omega) (by omega),zky (by simp;omega),zab,zaS (by omega) (by omega)]
   have:=ih (i+1) m (v++[a.getD i 0+b.getD i 0]) (by omega) (by omega) (by omega) (by simp [hv])
   rw [show (((i+1:Nat)):Int)=(i:Int)+1 by simp] at this
   rw [this,List.drop_eq_getElem_cons (l:=sums a b) (i:=i) (by rw [zgS h];omega),getD_get,zfO h]
   simp
 have:=key a.length 0 n [] (by omega) (by omega) hn rfl
 rw [List.nil_append,List.drop_zero] at this
 exact this
theorem zrC {n:Nat} {l:List Int} (hs:zge l) (hl:l.length<1000) (hn:l.length<n):zfW n l=some (total l):=by
 have key:=zrs (F:=fun m i (s:Int)=>zci l m s i) (xs:=l) (spec:=fun k s=>some (s+total k)) (I:=fun k s=>0<=s/\s+1000*k.length<=100000000/\∀x,x∈k->0<=x/\x<=1000) (by omega)
  (fun m s hI=>by simp [zci,zdD,zeq,total])
  (fun m i x k s hI hx hi _ _ hrec=>by
   obtain ⟨i1,i2,i3⟩:=hI
   have hxr:=i3 x (by simp)
   simp only [List.length_cons] at i2
   simp only [zci,zdD]
   rw [if_pos (by simpa using hi),hx,zab,zaS (x:=s+x) (by omega) (by omega),hrec (s+x) ⟨by omega,by omega,fun y hy=>i3 y (by simp [hy])⟩]
   simp only [total]
   congr 1
   omega)
  l 0 n 0 (by omega) rfl (by omega) ⟨by omega,by omega,fun x hx=>by
   obtain ⟨k,hk⟩:=List.getElem?_of_mem hx
   have:=hs k
   rwa [List.getD_eq_getElem?_getD,hk] at this⟩
 rw [show zfW n l=_ from key,Int.zero_add]
theorem zgT (a b c:Int):zcj a b c=some (inR a b c):=by
 unfold zcj zcr inR
 by_cases h:b<=a<;>simp [h]
theorem zir (a b c:Int):zdN a b c=some (inR a b c):=by
 unfold zdN
 rw [zhY,zab]
def zws (b:Box):Prop:=∀k,k<b.Found.length->0<=b.Marked.getD k 0/\b.Marked.getD k 0<=b.Found.getD k 0
instance (b:Box):Decidable (zws b):=inferInstanceAs (Decidable (∀k,k<b.Found.length->0<=b.Marked.getD k 0/\b.Marked.getD k 0<=b.Found.getD k 0))
structure BoxOk (b:Box):Prop where
 v:valid b.Wheel=true
 p:inR b.Plays 0 9999=true
 s:inR b.Skips 0 9=true
 f:zcR b.Wheel b.Found=true
 g:zcR b.Wheel b.Slugs=true
 ml:b.Marked.length=b.Found.length
 mkd:zws b
 t:total b.Found+total b.Slugs<=12
open Classical in
noncomputable def zme (b:Box):Bool:=decide (BoxOk b)
theorem zgF {b:Box}:zme b=true↔BoxOk b:=by simp [zme]
theorem zh0 {b:Box} (h:¬BoxOk b):zme b=false:=by simp [zme,h]
def ztC (b:Box):Prop:=b.Wheel.Notches.length<=40/\b.Wheel.Coins.length<=40/\b.Found.length<=40/\b.Marked.length<=40/\b.Slugs.length<=40
theorem zdL {w:Wheel} {l:List Int} (h:zcR w l=true):l.length=w.Coins.length/\(∀k,0<=l.getD k 0/\l.getD k 0<=12)/\total l<=12:=by
 obtain ⟨h1,h2⟩:=zrz h
 simp only [zcR,Bool.and_eq_true,decide_eq_true_eq] at h
 refine ⟨h.1.1,fun k=>?_,h2⟩
 have:=zf5 h1.nn k
 omega
theorem zmf {w:Wheel} {l:List Int} (h:zcR w l=true):l.all (fun x=>inR x 0 12)=true:=by
 simp only [zcR,Bool.and_eq_true] at h
 exact h.1.2
open Classical in
theorem zwt (b:Box) (n:Nat) (hl:ztC b) (hn:200<=n):ze6 n b=some (cond (zme b) 0 50):=by
 obtain ⟨l1,l2,l3,l4,l5⟩:=hl
 unfold ze6
 have hol:zl5 n b.Wheel:=⟨by omega,by omega,by omega,by omega⟩
 have no:∀h:¬BoxOk b,(some 50:Option Int)=some (cond (zme b) 0 50):=fun h=>by rw [zh0 h];rfl
 have j1:zbP n b true=some 50:=rfl
 rw [zqg hol,zab]
 by_cases hv:valid b.Wheel=true
 ·rw [hv]
  show Option.bind _ _=_
  rw [zil (by omega) (by omega),zab]
  by_cases hf:zcR b.Wheel b.Found=true
  ·rw [if_neg (by simp [hf]),zil (by omega) (by omega),zab]
   by_cases hg:zcR b.Wheel b.Slugs=true
   ·rw [if_neg (by simp [hg])]
    by_cases hm:b.Marked.length=b.Found.length
    ·rw [if_neg (by simp;omega),zir,zab]
     by_cases hp:inR b.Plays 0 9999=true
     ·rw [if_neg (by simp [hp]),zir,zab]
      by_cases hs:inR b.Skips 0 9=true
      ·rw [hs]
       show zbO n b n 0=_
       obtain ⟨f1,f2,f3⟩:=zdL hf
       obtain ⟨g1,g2,g3⟩:=zdL hg
       have hfg:b.Slugs.length=b.Found.length:=by omega
       have hS:=zge.sums hfg (fun k=>by have:=f2 k;omega) (fun k=>by have:=g2 k;omega)
       have hj2:zds n b=some (if total b.Found+total b.Slugs<=12 then 0 else 50):=by
        unfold zds
        rw [zqy hfg (fun k=>by have:=f2 k;omega) (fun k=>by have:=g2 k;omega) (by omega) (by omega),zab,zil (by omega) (by omega),zab]
        by_cases ht:total b.Found+total b.Slugs<=12
        ·rw [if_pos ht,if_neg]
         have hnn:∀k,0<=(sums b.Found b.Slugs).getD k 0:=fun k=>(hS k).1
         have:zcR b.Wheel (sums b.Found b.Slugs)=true:=by
          simp only [zcR,Bool.and_eq_true,decide_eq_true_eq,List.all_eq_true]
          refine ⟨⟨by rw [zgS hfg];omega,fun x hx=>?_⟩,by rw [ze0 hfg];exact ht⟩
          obtain ⟨k,hk⟩:=List.getElem?_of_mem hx
          have h1:=zf5 (zf9 hnn) k
          rw [ze0 hfg] at h1
          rw [List.getD_eq_getElem?_getD,hk] at h1
          exact zb4.2 ⟨h1.1,Int.le_trans h1.2 ht⟩
         simp [this]
        ·rw [if_neg ht,if_pos]
         have:zcR b.Wheel (sums b.Found b.Slugs)=false:=by
          simp only [zcR,ze0 hfg]
          simp [ht]
         simp [this]
       have key:∀(d i m:Nat),d=b.Found.length-i->i<=b.Found.length->d<m->zbO n b m (i:Int)=some (if (∀k,i<=k->k<b.Found.length->0<=b.Marked.getD k 0/\b.Marked.getD k 0<=b.Found.getD k 0)/\total b.Found+total b.Slugs<=12 then 0 else 50):=by
        intro d
        induction d with
        | zero =>
         intro i m hd hi hm
         obtain ⟨m,rfl⟩:∃q,m=q+1:=⟨m-1,by omega⟩
         simp only [zbO,zdC]
         rw [if_neg (by simp;omega),hj2]
         congr 1
         by_cases ht:total b.Found+total b.Slugs<=12
         ·rw [if_pos ht,if_pos ⟨fun k h1 h2=>by omega,ht⟩]
         ·rw [if_neg ht,if_neg fun h=>ht h.2]
        | succ d ih =>
         intro i m hd hi hm
         obtain ⟨m,rfl⟩:∃q,m=q+1:=⟨m-1,by omega⟩
         simp only [zbO,zdC]
         rw [if_pos (by simp;omega),zck (by omega),zab,zck (by omega),zab,zir,zab,getD_get,getD_get,zaS (by omega) (by omega)]
         have:=ih (i+1) m (by omega) (by omega) (by omega)
         rw [show (((i+1:Nat)):Int)=(i:Int)+1 by simp] at this
         by_cases hq:inR (b.Marked.getD i 0) 0 (b.Found.getD i 0)=true
         ·rw [if_neg (by rw [hq];simp),this]
          congr 1
          by_cases hR:(∀k,i+1<=k->k<b.Found.length->0<=b.Marked.getD k 0/\b.Marked.getD k 0<=b.Found.getD k 0)/\total b.Found+total b.Slugs<=12
          ·have hall:∀k,i<=k->k<b.Found.length->0<=b.Marked.getD k 0/\b.Marked.getD k 0<=b.Found.getD k 0:=fun k h1 h2=>by
            by_cases e:k=i
            ·subst e
             exact zb4.1 hq
            ·exact hR.1 k (by omega) h2
           rw [if_pos hR,if_pos ⟨hall,hR.2⟩]
          ·rw [if_neg hR,if_neg fun h=>hR ⟨fun k h1 h2=>h.1 k (by omega) h2,h.2⟩]
         ·rw [if_pos (by simpa using hq),if_neg fun h=>hq (zb4.2 (h.1 i (Nat.le_refl _) (by omega)))]
       rw [show zbO n b n 0=_ from key b.Found.length 0 n (by omega) (by omega) (by omega)]
       by_cases hR:(∀k,0<=k->k<b.Found.length->0<=b.Marked.getD k 0/\b.Marked.getD k 0<=b.Found.getD k 0)/\total b.Found+total b.Slugs<=12
       ·rw [if_pos hR,zgF.2 ⟨hv,hp,hs,hf,hg,hm,fun k hk=>hR.1 k (Nat.zero_le _) hk,hR.2⟩]
        rfl
       ·rw [if_neg hR]
        exact no fun h=>hR ⟨fun k _ hk=>h.mkd k hk,h.t⟩
      ·rw [show (!inR b.Skips 0 9)=true by simpa using hs,j1]
       exact no fun h=>hs h.s
     ·rw [if_pos (by simpa using hp),j1]
      exact no fun h=>hp h.p
    ·rw [if_pos (by simp;omega),j1]
     exact no fun h=>hm h.ml
   ·rw [if_pos (by simpa using hg),j1]
    exact no fun h=>hg h.g
  ·rw [if_pos (by simpa using hf),j1]
   exact no fun h=>hf h.f
 ·rw [show valid b.Wheel=false by simpa using hv]
  exact no fun h=>hv h.v
theorem zqz {n:Nat} (f:Int->Option Bool) (g:Int->Bool) (xs:List Int) (hf:∀x,x∈xs->f x=some (g x)) (hl:xs.length<1048576) (hn:xs.length<n) :
  zbe n (fun x (_:Unit)=>(f x).map fun y=>(y,())) xs ()=some (xs.any g,()):=by
 have key:∀(l:List Int) (i m:Nat) (s:Unit),i<=xs.length->xs.drop i=l->l.length<m->(zam xs (fun x (_:Unit)=>(f x).map fun y=>(y,())) m (i:Int) s).map (fun r=>decide (r.1≥0))=some (l.any g):=by
  intro l i m s h1 h2 h3
  refine zrr (fun m i s=>(zam xs (fun x (_:Unit)=>(f x).map fun y=>(y,())) m i s).map (fun r=>decide (r.1≥0))) xs (fun l _=>some (l.any g)) hl (fun m s=>?_) (fun m i x l s hx hi _ _ hrec=>?_) l i m s h1 h2 h3
  ·simp [zam,za0,zby]
  ·have hmem:x∈xs:=by
    unfold idx at hx
    rw [if_pos (by omega)] at hx
    exact List.mem_of_getElem? hx
   simp only [zam,za0]
   rw [if_pos (by simpa using hi),hx,zab]
   simp only [hf x hmem,Option.map_some,zab]
   by_cases hg:g x=true
   ·rw [if_pos (by simpa using hg)]
    simp [hg]
   ·rw [if_neg (by simpa using hg)]
    have:=hrec ()
    rw [this]
    simp [hg]
 have h:=key xs 0 n () (by omega) rfl hn
 unfold zbe zcn
 change Option.map _ (zam xs _ n 0 ())=_ at h
 cases hx:zam xs (fun x (_:Unit)=>(f x).map fun y=>(y,())) n 0 () with
 | none=>rw [hx] at h;cases h
 | some r =>
  rw [hx] at h
  simp only [Option.map_some,Option.some.injEq] at h
  simp only [zab]
  rw [h]
def zrD (w:Wheel) (l:List Int):Bool:=decide (l.length≠w.Coins.length) || l.any (fun x=>!inR x 0 12)
theorem zlp {n:Nat} (hn:200<=n) (b:Box) (m:Nat) (i:Int) (l:List Int) (hi:i<3) (h0:0<=i) (hl:l.length<=40) (hc:b.Wheel.Coins.length<=40) (hx:idx ([b.Found,b.Marked,b.Slugs]:List (List Int)) i=some l) :
  zaF n b (m+1) i=if zrD b.Wheel l=true then some 50 else zaF n b m (i+1):=by
 simp only [zaF,zdZ,zcJ]
 rw [if_pos (by simpa using hi),hx,zab,zqz zcI (fun x=>!inR x 0 12) l (fun x _=>by unfold zcI;rw [zgT,zab]) (by omega) (by omega),zab,zaS (x:=i+1) (by omega) (by omega)]
 unfold zrD
 by_cases h1:l.length=b.Wheel.Coins.length
 ·rw [if_neg (by simp;omega),show decide (l.length≠b.Wheel.Coins.length)=false by simp [h1],Bool.false_or]
 ·rw [if_pos (by simp;omega),show decide (l.length≠b.Wheel.Coins.length)=true by simp [h1],Bool.true_or]
  rfl
theorem zm8 {w:Wheel} {l:List Int} (h:zrD w l=false):l.length=w.Coins.length/\l.all (fun x=>inR x 0 12)=true:=by
 simp only [zrD,Bool.or_eq_false_iff,decide_eq_false_iff_not,Decidable.not_not,List.any_eq_false,List.all_eq_true] at h ⊢
 exact ⟨h.1,fun x hx=>by simpa using h.2 x hx⟩
theorem zm9 {w:Wheel} {l:List Int} (h1:l.length=w.Coins.length) (h2:l.all (fun x=>inR x 0 12)=true):zrD w l=false:=by
 rw [List.all_eq_true] at h2
 simp only [zrD,Bool.or_eq_false_iff,decide_eq_false_iff_not,Decidable.not_not,List.any_eq_false]
 exact ⟨h1,fun x hx=>by simp [h2 x hx]⟩
open Classical in
theorem zqA (b:Box) (n:Nat) (hl:ztC b) (hn:200<=n):zeS n b=some (cond (zme b) 0 50):=by
 obtain ⟨l1,l2,l3,l4,l5⟩:=hl
 have hol:zl5 n b.Wheel:=⟨by omega,by omega,by omega,by omega⟩
 have no:∀h:¬BoxOk b,(some 50:Option Int)=some (cond (zme b) 0 50):=fun h=>by rw [zh0 h];rfl
 have j1:zcb n b true=some 50:=rfl
 unfold zeS
 rw [znP hol,zab]
 by_cases hv:valid b.Wheel=true
 ·rw [hv]
  show Option.bind _ _=_
  rw [zgT,zab]
  by_cases hp:inR b.Plays 0 9999=true
  ·rw [if_neg (by simp [hp]),zgT,zab]
   by_cases hs:inR b.Skips 0 9=true
   ·rw [hs]
    show zaF n b n 0=_
    obtain ⟨n,rfl⟩:∃q,n=q+4:=⟨n-4,by omega⟩
    have en:∀m i,zaF (n+4) b (m+1) i=zaF (n+4) b (m+1) i:=fun _ _=>rfl
    rw [show zaF (n+4) b (n+4) 0=zaF (n+4) b ((n+3)+1) 0 from rfl,zlp hn b (n+3) 0 b.Found (by omega) (by omega) (by omega) l2 rfl]
    by_cases b1:zrD b.Wheel b.Found=true
    ·rw [if_pos b1]
     exact no fun h=>by rw [zm9 (zdL h.f).1 (zmf h.f)] at b1;cases b1
    rw [if_neg b1,show zaF (n+4) b (n+3) (0+1)=zaF (n+4) b ((n+2)+1) 1 from rfl,zlp hn b (n+2) 1 b.Marked (by omega) (by omega) (by omega) l2 rfl]
    obtain ⟨f1,f2⟩:=zm8 (by simpa using b1)
    by_cases b2:zrD b.Wheel b.Marked=true
    ·rw [if_pos b2]
     refine no fun h=>?_
     rw [zm9 (by rw [h.ml];exact f1) (List.all_eq_true.2 fun x hx=>?_)] at b2
     ·cases b2
     ·obtain ⟨k,hk⟩:=List.getElem?_of_mem hx
      have hkl:k<b.Marked.length:=by
       rcases Nat.lt_or_ge k b.Marked.length with h1 | h1
       ·exact h1
       ·rw [List.getElem?_eq_none h1] at hk
        cases hk
      have h1:=h.mkd k (by have:=h.ml;omega)
      have h2:=(zdL h.f).2.1 k
      rw [List.getD_eq_getElem?_getD,hk] at h1
      have h3:0<=x/\x<=b.Found.getD k 0:=h1
      exact zb4.2 ⟨h3.1,by omega⟩
    rw [if_neg b2,show zaF (n+4) b (n+2) (1+1)=zaF (n+4) b ((n+1)+1) 2 from rfl,zlp hn b (n+1) 2 b.Slugs (by omega) (by omega) (by omega) l2 rfl]
    obtain ⟨m1,m2⟩:=zm8 (by simpa using b2)
    by_cases b3:zrD b.Wheel b.Slugs=true
    ·rw [if_pos b3]
     exact no fun h=>by rw [zm9 (zdL h.g).1 (zmf h.g)] at b3;cases b3
    rw [if_neg b3]
    obtain ⟨g1,g2⟩:=zm8 (by simpa using b3)
    have sm:∀{l:List Int},l.all (fun x=>inR x 0 12)=true->∀k,0<=l.getD k 0/\l.getD k 0<=12:=fun {l} h k=>by
     rw [List.all_eq_true] at h
     rw [List.getD_eq_getElem?_getD]
     cases hk:l[k]? with
     | none=>simp
     | some x=>exact zb4.1 (h x (List.mem_of_getElem? hk))
    have f3:=sm f2
    have g3:=sm g2
    have m3:=sm m2
    show zbl b (n+4) 0 0=_
    have key:∀(d i m:Nat) (v:Int),d=b.Found.length-i->i<=b.Found.length->d<m->0<=v->v<=100*i->zbl b m v (i:Int)=some (if (∀k,i<=k->k<b.Found.length->b.Marked.getD k 0<=b.Found.getD k 0)/\v+total (b.Found.drop i)+total (b.Slugs.drop i)<=12 then 0 else 50):=by
     intro d
     induction d with
     | zero =>
      intro i m v hd hi hm h0 h1
      obtain ⟨m,rfl⟩:∃q,m=q+1:=⟨m-1,by omega⟩
      simp only [zbl,zcT,zdE]
      have e1:total (b.Found.drop i)=0:=by rw [List.drop_eq_nil_of_le (by omega)];rfl
      have e2:total (b.Slugs.drop i)=0:=by rw [List.drop_eq_nil_of_le (by omega)];rfl
      rw [if_neg (by simp;omega)]
      by_cases ht:v>12
      ·rw [if_pos (by simpa using ht),if_neg fun h=>by omega]
      ·rw [if_neg (by simpa using ht),if_pos ⟨fun k h1 h2=>by omega,by omega⟩]
     | succ d ih =>
      intro i m v hd hi hm h0 h1
      obtain ⟨m,rfl⟩:∃q,m=q+1:=⟨m-1,by omega⟩
      have fi:=f3 i
      have gi:=g3 i
      simp only [zbl,zcT]
      rw [if_pos (by simp;omega),zck (by omega),zab,zck (by omega),zab,getD_get,getD_get]
      by_cases hq:b.Marked.getD i 0>b.Found.getD i 0
      ·rw [if_pos (by simpa using hq),if_neg fun h=>by have:=h.1 i (Nat.le_refl _) (by omega);omega]
      ·rw [if_neg (by simpa using hq),zck (by omega),zab,getD_get,zaS (x:=b.Found.getD i 0+b.Slugs.getD i 0) (by omega) (by omega),zaS (x:=v+_) (by omega) (by omega),zaS (x:=(i:Int)+1) (by omega) (by omega)]
       have:=ih (i+1) m (v+(b.Found.getD i 0+b.Slugs.getD i 0)) (by omega) (by omega) (by omega) (by omega) (by omega)
       rw [show (((i+1:Nat)):Int)=(i:Int)+1 by simp] at this
       have e1:total (b.Found.drop i)=b.Found.getD i 0+total (b.Found.drop (i+1)):=by rw [List.drop_eq_getElem_cons (l:=b.Found) (i:=i) (by omega),getD_get];rfl
       have e2:total (b.Slugs.drop i)=b.Slugs.getD i 0+total (b.Slugs.drop (i+1)):=by rw [List.drop_eq_getElem_cons (l:=b.Slugs) (i:=i) (by omega),getD_get];rfl
       rw [this]
       congr 1
       by_cases hR:(∀k,i+1<=k->k<b.Found.length->b.Marked.getD k 0<=b.Found.getD k 0)/\v+(b.Found.getD i 0+b.Slugs.getD i 0)+total (b.Found.drop (i+1))+total (b.Slugs.drop (i+1))<=12
       ·have hall:∀k,i<=k->k<b.Found.length->b.Marked.getD k 0<=b.Found.getD k 0:=fun k h1 h2=>by
         by_cases e:k=i
         ·subst e
          omega
         ·exact hR.1 k (by omega) h2
        rw [if_pos hR,if_pos ⟨hall,by have:=hR.2;omega⟩]
       ·rw [if_neg hR,if_neg fun h=>hR ⟨fun k h1 h2=>h.1 k (by omega) h2,by have:=h.2;omega⟩]
    rw [show zbl b (n+4) 0 0=_ from key b.Found.length 0 (n+4) 0 (by omega) (by omega) (by omega) (by omega) (by omega)]
    simp only [List.drop_zero,Int.zero_add]
    have nnf:∀x,x∈b.Found->0<=x:=zf9 fun k=>(f3 k).1
    have nng:∀x,x∈b.Slugs->0<=x:=zf9 fun k=>(g3 k).1
    by_cases hR:(∀k,0<=k->k<b.Found.length->b.Marked.getD k 0<=b.Found.getD k 0)/\total b.Found+total b.Slugs<=12
    ·have tf:=zd5 nnf
     have tg:=zd5 nng
     rw [if_pos hR,zgF.2 ⟨hv,hp,hs,by simp only [zcR,Bool.and_eq_true,decide_eq_true_eq];exact ⟨⟨f1,f2⟩,by have:=hR.2;omega⟩,by simp only [zcR,Bool.and_eq_true,decide_eq_true_eq];exact ⟨⟨g1,g2⟩,by have:=hR.2;omega⟩,by omega,fun k hk=>⟨(m3 k).1,hR.1 k (Nat.zero_le _) hk⟩,hR.2⟩]
     rfl
    ·rw [if_neg hR]
     exact no fun h=>hR ⟨fun k _ hk=>(h.mkd k hk).2,h.t⟩
   ·rw [show (!inR b.Skips 0 9)=true by simpa using hs,j1]
    exact no fun h=>hs h.s
  ·rw [if_pos (by simpa using hp),j1]
   exact no fun h=>hp h.p
 ·rw [show valid b.Wheel=false by simpa using hv]
  exact no fun h=>hv h.v
def zgG (b:Box):List Int:=sums b.Found b.Slugs
structure Near (b:Box):Prop where
 ok:BoxOk b
 k3:b.Wheel.Coins.length<=3
 t3:total b.Found+total b.Slugs<=3
theorem zh1 {l:List Int} {k j:Nat} {v:Int} (hk:k<l.length):(l.set k v).getD j 0=if k=j then v else l.getD j 0:=by
 by_cases e:k=j
 ·subst e
  rw [if_pos rfl,List.getD_eq_getElem?_getD,List.getElem?_set_self hk]
  rfl
 ·rw [if_neg e,List.getD_eq_getElem?_getD,List.getElem?_set_ne e,←List.getD_eq_getElem?_getD]
structure NearF (b:Box):Prop where
 fl:b.Found.length=b.Wheel.Coins.length
 sl:b.Slugs.length=b.Wheel.Coins.length
 ml:b.Marked.length=b.Wheel.Coins.length
 f:∀k,0<=b.Found.getD k 0/\b.Found.getD k 0<=12
 s:∀k,0<=b.Slugs.getD k 0/\b.Slugs.getD k 0<=12
 m:∀k,0<=b.Marked.getD k 0/\b.Marked.getD k 0<=12
 p:0<=b.Plays/\b.Plays<=9999
 k:0<=b.Skips/\b.Skips<=9
 h:OkW b.Wheel
theorem BoxOk.far {b:Box} (N:BoxOk b):NearF b:=by
 obtain ⟨f1,f2,f3⟩:=zdL N.f
 obtain ⟨g1,g2,g3⟩:=zdL N.g
 refine ⟨f1,g1,by rw [N.ml];exact f1,f2,g2,fun k=>?_,zb4.1 N.p,zb4.1 N.s,zf4 N.v⟩
 rcases Nat.lt_or_ge k b.Found.length with h | h
 ·have:=N.mkd k h
  have:=f2 k
  omega
 ·rw [List.getD_eq_getElem?_getD,List.getElem?_eq_none (by rw [N.ml];exact h)]
  simp
theorem zho {b:Box} (F:NearF b):(zgG b).length=b.Wheel.Coins.length:=by rw [zgG,zgS (by rw [F.sl,F.fl]),F.fl]
theorem zh2 {b:Box} (F:NearF b) (k:Nat):(zgG b).getD k 0=b.Found.getD k 0+b.Slugs.getD k 0:=zfO (by rw [F.sl,F.fl]) k
theorem zjX {b:Box} (F:NearF b):total (zgG b)=total b.Found+total b.Slugs:=ze0 (by rw [F.sl,F.fl])
structure More (b:Box) (P:List Int):Prop where
 l:P.length=b.Wheel.Coins.length
 nn:∀k,0<=P.getD k 0
 t:total P<=2
theorem More.small {b:Box} {P:List Int} (h:More b P):∀k,0<=P.getD k 0/\P.getD k 0<=2:=fun k=>by
 have:=zf5 (zf9 h.nn) k
 have:=h.t
 omega
theorem Near.cx0 {b:Box} (N:Near b):Cx b.Wheel (zgG b) :=
 have F:=N.ok.far
 ⟨N.ok.v,zho F,fun k=>by rw [zh2 F];have:=F.f k;have:=F.s k;omega,N.k3,by rw [zjX F];have:=N.t3;omega⟩
theorem Near.cx {b:Box} (N:Near b) {P:List Int} (h:More b P):Cx b.Wheel (sums (zgG b) P) :=
 have F:=N.ok.far
 have e:P.length=(zgG b).length:=by rw [h.l,zho F]
 ⟨N.ok.v,by rw [zgS e,zho F],fun k=>by rw [zfO e,zh2 F];have:=F.f k;have:=F.s k;have:=h.nn k;omega,N.k3,by rw [ze0 e,zjX F];have:=N.t3;have:=h.t;omega⟩
theorem put_eq {b:Box} (F:NearF b) (h4:b.Wheel.Coins.length<=4) {n:Nat} (hn:10<=n):zc9 n (some ⟨b⟩)=some (zbC (zgG b)):=by
 have hfl:=F.fl
 have hsl:=F.sl
 have key:∀(d i m:Nat) (Q:List Int),d=b.Found.length-i->i<=b.Found.length->d<m->Q.length=b.Found.length->(∀k:Nat,k<i->Q.getD k 0=b.Found.getD k 0+b.Slugs.getD k 0)->zbz (some ⟨b⟩) ⟨b⟩ m (i:Int) (Q.getD 0 0) (Q.getD 1 0) (Q.getD 2 0) (Q.getD 3 0)=some (zbC (zgG b)):=by
  intro d
  induction d with
  | zero =>
   intro i m Q hd hi hm hQ hk
   obtain ⟨m,rfl⟩:∃q,m=q+1:=⟨m-1,by omega⟩
   simp only [zbz,zco,zcV]
   have e:Q=zgG b:=zgE (n:=b.Found.length) hQ (by rw [zho F,F.fl]) fun k hk'=>by rw [hk k (by omega),zh2 F]
   rw [if_neg (by simp;omega),e]
   rfl
  | succ d ih =>
   intro i m Q hd hi hm hQ hk
   obtain ⟨m,rfl⟩:∃q,m=q+1:=⟨m-1,by omega⟩
   have h1:=F.f i
   have h2:=F.s i
   simp only [zbz,zco]
   rw [if_pos (by simp;omega),show idx b.Found (i:Int)=some (b.Found.getD i 0) by rw [zck (by omega),getD_get],zab,zab,show idx (⟨b⟩:Box_).Box.Slugs (i:Int)=some (b.Slugs.getD i 0) by show idx b.Slugs (i:Int)=_;rw [zck (by omega),getD_get],zab,show idx ([Q.getD 0 0,Q.getD 1 0,Q.getD 2 0,Q.getD 3 0]:List Int) (i:Int)=some (Q.getD i 0) from zjS (by omega),zab,zaS (x:=b.Found.getD i 0+_) (by omega) (by omega),show zqM ([Q.getD 0 0,Q.getD 1 0,Q.getD 2 0,Q.getD 3 0]:List Int) (i:Int) (b.Found.getD i 0+b.Slugs.getD i 0)=some (zr3 (Q.set i (b.Found.getD i 0+b.Slugs.getD i 0))) from zm1 (by omega) (by omega),zab,zaS (x:=(i:Int)+1) (by omega) (by omega)]
   have:=ih (i+1) m (Q.set i (b.Found.getD i 0+b.Slugs.getD i 0)) (by omega) (by omega) (by omega) (by simp [hQ]) fun k hk'=>by
    rw [zh1 (by omega)]
    by_cases e:i=k
    ·subst e
     rw [if_pos rfl]
    ·rw [if_neg e,hk k (by omega)]
   rw [show (((i+1:Nat)):Int)=(i:Int)+1 by simp] at this
   exact this
 have:=key b.Found.length 0 n (List.replicate b.Found.length 0) (by omega) (by omega) (by omega) (by simp) fun k hk=>by omega
 have hz:∀k,(List.replicate b.Found.length (0:Int)).getD k 0=0:=fun k=>by
  rw [List.getD_eq_getElem?_getD,List.getElem?_replicate]
  split<;>rfl
 simp only [hz] at this
 exact this
theorem zmg {b:Box} {P base:List Int} (hP:More b P) (hb:base.length=b.Wheel.Coins.length) (hs:zge base) (h4:b.Wheel.Coins.length<=4) {n:Nat} (hn:10<=n):zbr P n 0 (zbC base)=some (zbC (sums base P)):=by
 have hl:=hP.l
 have key:∀(d i m:Nat) (Q:List Int),d=P.length-i->i<=P.length->d<m->Q.length=P.length->(∀k:Nat,k<i->Q.getD k 0=base.getD k 0+P.getD k 0)->(∀k:Nat,i<=k->Q.getD k 0=base.getD k 0)->zbr P m (i:Int) (zbC Q)=some (zbC (sums base P)):=by
  intro d
  induction d with
  | zero =>
   intro i m Q hd hi hm hQ hk _
   obtain ⟨m,rfl⟩:∃q,m=q+1:=⟨m-1,by omega⟩
   simp only [zbr]
   have e:Q=sums base P:=zgE (n:=P.length) hQ (by rw [zgS (by omega)];omega) fun k hk'=>by rw [hk k (by omega),zfO (by omega)]
   rw [if_neg (by simp;omega),e]
  | succ d ih =>
   intro i m Q hd hi hm hQ hk hk2
   obtain ⟨m,rfl⟩:∃q,m=q+1:=⟨m-1,by omega⟩
   have h1:=hs i
   have h2:=hP.small i
   have h3:=hk2 i (Nat.le_refl _)
   simp only [zbr]
   rw [if_pos (by simp;omega),zck (by omega),zab,getD_get,show idx ([(zbC Q).c0,(zbC Q).c1,(zbC Q).c2,(zbC Q).c3]:List Int) (i:Int)=some (Q.getD i 0) from zjS (by omega),zab,zaS (x:=Q.getD i 0+_) (by omega) (by omega),show zqM ([(zbC Q).c0,(zbC Q).c1,(zbC Q).c2,(zbC Q).c3]:List Int) (i:Int) (Q.getD i 0+P.getD i 0)=some (zr3 (Q.set i (Q.getD i 0+P.getD i 0))) from zm1 (by omega) (by omega),zab,zaS (x:=(i:Int)+1) (by omega) (by omega)]
   have:=ih (i+1) m (Q.set i (Q.getD i 0+P.getD i 0)) (by omega) (by omega) (by omega) (by simp [hQ]) (fun k hk'=>by
    rw [zh1 (by omega)]
    by_cases e:i=k
    ·subst e
     rw [if_pos rfl,h3]
    ·rw [if_neg e,hk k (by omega)]) fun k hk'=>by
    rw [zh1 (by omega),if_neg (by omega),hk2 k (by omega)]
   rw [show (((i+1:Nat)):Int)=(i:Int)+1 by simp] at this
   exact this
 exact key P.length 0 n base (by omega) (by omega) (by omega) (by omega) (fun k hk=>by omega) fun k _=>rfl
theorem zh3 {n:Nat} {b:Box} (h:OkW b.Wheel) (hn:100<=n) {l:List Int} (hlen:l.length=b.Wheel.Coins.length) (hl:zge l):za1 n (some ⟨b⟩) l=some (zbb b.Wheel l):=by
 have h4:=h.clen
 have key:∀(d i m:Nat) (s:Int),d=b.Wheel.Coins.length-i->i<=b.Wheel.Coins.length->d<m->0<=s->s+100000*d<=1000000->zbg (some ⟨b⟩) l m s (i:Int)=some (s+zkB b.Wheel l d i):=by
  intro d
  induction d with
  | zero =>
   intro i m s hd hi hm hs hs2
   obtain ⟨m,rfl⟩:∃q,m=q+1:=⟨m-1,by omega⟩
   simp only [zbg,zca,zcp,zkB]
   rw [if_neg (by simp;omega),Int.add_zero]
  | succ d ih =>
   intro i m s hd hi hm hs hs2
   obtain ⟨m,rfl⟩:∃q,m=q+1:=⟨m-1,by omega⟩
   have ht:=zsN h hl (show i<b.Wheel.Coins.length by omega)
   simp only [zbg,zca,zkB]
   rw [if_pos (by simp;omega),zck (by omega),zab,zab,show idx (⟨b⟩:Box_).Box.Wheel.Coins (i:Int)=some (coin b.Wheel i) from ziX (w:=b.Wheel) (by omega) (by omega),zab,getD_get,Int.mul_comm,zaS (x:=coin b.Wheel i*_) (by omega) (by omega),zaS (x:=s+_) (by omega) (by omega),zaS (x:=(i:Int)+1) (by omega) (by omega)]
   have:=ih (i+1) m (s+coin b.Wheel i*l.getD i 0) (by omega) (by omega) (by omega) (by omega) (by omega)
   rw [show (((i+1:Nat)):Int)=(i:Int)+1 by simp] at this
   rw [this]
   congr 1
   omega
 have:=key b.Wheel.Coins.length 0 n 0 (by omega) (by omega) (by omega) (by omega) (by omega)
 rw [Int.zero_add] at this
 exact this
def ziK (w:Wheel) (al L:List Int):Prop:=L.Pairwise (·<·)/\∀v,v∈L↔Can w al v
theorem zqB:∀{L:List Int},L.Pairwise (·<=·)->L.Nodup->L.Pairwise (·<·)
 | [],_,_=>.nil
 | x::L,h,hn=>by
  rw [List.pairwise_cons] at h ⊢
  rw [List.nodup_cons] at hn
  refine ⟨fun y hy=>?_,zqB h.2 hn.2⟩
  have:=h.1 y hy
  rcases Int.lt_or_eq_of_le this with h1 | h1
  ·exact h1
  ·subst h1
   exact absurd hy hn.1
theorem zsa:∀{L L':List Int},L.Pairwise (·<·)->L'.Pairwise (·<·)->(∀v,v∈L↔v∈L')->L=L'
 | [],[],_,_,_=>rfl
 | [],y::_,_,_,h=>absurd ((h y).2 (by simp)) (by simp)
 | x::_,[],_,_,h=>absurd ((h x).1 (by simp)) (by simp)
 | x::L,y::L',h1,h2,h=>by
  rw [List.pairwise_cons] at h1 h2
  have e:x=y:=by
   have hx:=(h x).1 (by simp)
   have hy:=(h y).2 (by simp)
   rcases List.mem_cons.1 hx with e | hx
   ·exact e
   ·rcases List.mem_cons.1 hy with e | hy
    ·exact e.symm
    ·have:=h1.1 y hy
     have:=h2.1 x hx
     omega
  subst e
  congr 1
  refine zsa h1.2 h2.2 fun v=>⟨fun hv=>?_,fun hv=>?_⟩
  ·rcases List.mem_cons.1 ((h v).1 (List.mem_cons_of_mem _ hv)) with e | hv'
   ·have:=h1.1 v hv
    omega
   ·exact hv'
  ·rcases List.mem_cons.1 ((h v).2 (List.mem_cons_of_mem _ hv)) with e | hv'
   ·have:=h2.1 v hv
    omega
   ·exact hv'
theorem ziK.eq {w:Wheel} {al L L':List Int} (h:ziK w al L) (h':ziK w al L'):L=L':=zsa h.1 h'.1 fun v=>by rw [h.2,h'.2]
theorem zqC {w:Wheel} {al K:List Int} (hn:K.Nodup) (h:∀v,v∈K↔Can w al v):ziK w al (zef K) :=
 ⟨zqB (zeB K) ((zdo K).nodup_iff.2 hn),fun v=>by rw [(zdo K).mem_iff];exact h v⟩
theorem znZ {w:Wheel} {al:List Int} (C:Cx w al) {A M} (hW:WI w al A M) (hall:∀acts X,RP (clT (total al)) w al acts X->zb2 M (pnt X)=true) :
  zhA M=true/\EndsOk (zbC al) (M.map (·.1)) (zdP (zbC al) M)/\ziK w al (zef ((zdP (zbC al) M).map (·.1)))/\(∀v,v∈(zdP (zbC al) M).map (·.1)->okI v=true):=by
 have hE:EndsOk (zbC al) (M.map (·.1)) (zdP (zbC al) M):=zjF (zbC al) (M.map (·.1))
 have hkey:∀o,o∈M.map (·.1)->∃X,o=pnt X/\RP (clT (total al)) w al (A o) X:=fun o ho=>hW.key (za6.2 ho)
 have hmem:∀v,v∈(zdP (zbC al) M).map (·.1)↔∃acts X,RP (clT (total al)) w al acts X/\X.l=al/\X.b=v:=fun v=>by
  constructor
  ·intro hv
   obtain ⟨⟨b,o⟩,ho,rfl⟩:=List.mem_map.1 hv
   obtain ⟨h1,h2,h3,_⟩:=(hE.mem b o).1 ho
   obtain ⟨X,rfl,hr⟩:=hkey o h1
   refine ⟨_,X,hr,zll h2 (by rw [(zmn C hr).1.len,C.hl]) (by rw [(zmn C hr).1.len];have:=C.k3;omega),h3⟩
  ·rintro ⟨acts,X,hr,rfl,rfl⟩
   exact za6.1 (hE.has (pnt X) (za6.1 (hall acts X hr)) rfl)
 refine ⟨?_,hE,zqC hE.nd fun v=>by rw [hmem,zwr C.h C.hl C.nn],fun v hv=>?_⟩
 ·unfold zhA
  rw [Bool.and_eq_true]
  refine ⟨List.all_eq_true.2 fun p hp=>?_,decide_eq_true (by have:=hW.len C;omega)⟩
  obtain ⟨X,e,hr⟩:=(hW.pt p.1 p.2 hp).1
  rw [e]
  have:=(zmn C hr).2.2.2
  unfold zbp at this
  simp only [List.all_cons,List.all_nil,Bool.and_true,Bool.and_eq_true] at this
  exact this.2.2.2.2.2.2
 ·obtain ⟨acts,X,hr,_,rfl⟩:=(hmem v).1 hv
  have h1:=zmn C hr
  have h2:=h1.1.bt
  have h3:=h1.1.cb
  have h4:=h1.1.c0
  have h5:=C.t5
  exact zft (by omega) (by omega)
theorem zmh {b:Box} (N:Near b) {n:Nat} (hn:100000<=n):∃L,zct n (some ⟨b⟩)=some L/\ziK b.Wheel (zgG b) L:=by
 have h3:=N.k3
 obtain ⟨A,M,h1,hW,hall⟩:=zqw N.cx0 hn (b:=⟨b⟩) rfl
 obtain ⟨s1,s2,s3,s4⟩:=znZ N.cx0 hW hall
 refine ⟨_,?_,s3⟩
 unfold zct
 rw [put_eq N.ok.far (by omega) (by omega),zab,h1,zab,zab,if_pos s1]
def zna (b:Box) (al:List Int):Prop:=∃v,Can b.Wheel al v/\b.Plays<=v/\v<=b.Plays+b.Skips
structure ExplOk (b:Box) (al acts:List Int):Prop where
 ok:acts.all (zen b.Wheel)=true
 len:(acts.length:Int)<=2*total al
 bag:∀k:Nat,k<b.Wheel.Coins.length->cnt k acts=al.getD k 0
 pl:b.Plays<=zd9 b.Wheel ⟨0,0⟩ acts
 pl2:zd9 b.Wheel ⟨0,0⟩ acts<=b.Plays+b.Skips
theorem ExplOk.ex {b:Box} {al acts:List Int} (h:ExplOk b al acts):zna b al:=⟨_,⟨acts,h.ok,h.bag,rfl⟩,h.pl,h.pl2⟩
theorem zo0 {b:Box} (N:Near b) {P:List Int} (hP:More b P) {n:Nat} (hn:100000<=n):∃r,zbK n (some ⟨b⟩) P=some r/\(r.2=true/\ExplOk b (sums (zgG b) P) r.1\/r.2=false/\¬zna b (sums (zgG b) P)):=by
 have h3:=N.k3
 have F:=N.ok.far
 have hpl:=F.p
 have hsk:=F.k
 have hpt:=F.f
 have C:=N.cx hP
 obtain ⟨A,M,h1,hW,hall⟩:=zqw C hn (b:=⟨b⟩) rfl
 obtain ⟨s1,s2,s3,s4⟩:=znZ C hW hall
 unfold zbK
 rw [zab,put_eq F (by omega) (by omega),zab,zmg hP (zho F) (fun k=>by rw [zh2 F];have:=F.f k;have:=F.s k;omega) (by omega) (by omega),zab,h1,zab,if_pos s1]
 generalize hal:sums (zgG b) P=al at *
 generalize hE:zdP (zbC al) M=E at *
 generalize hbs:zef (E.map (·.1))=bs at *
 have hbl:bs.length<=93312:=by
  rw [←hbs,(zdo _).length_eq,List.length_map,←hE]
  have:=ziW (al:=zbC al) (M.map (·.1)) []
  simp only [List.length_map,List.length_nil] at this
  have:=hW.len C
  unfold zdP
  omega
 have key:∀(d i m:Nat),d=bs.length-i->i<=bs.length->d<m->(∀v,v∈bs->v∈bs.drop i\/¬(b.Plays<=v/\v<=b.Plays+b.Skips))->∃r,zbs n ⟨b⟩ M E bs m (i:Int)=some r/\(r.2=true/\ExplOk b al r.1\/r.2=false/\¬zna b al):=by
  intro d
  induction d with
  | zero =>
   intro i m hd hi hm hv
   obtain ⟨m,rfl⟩:∃q,m=q+1:=⟨m-1,by omega⟩
   simp only [zbs]
   rw [if_neg (by simp;omega)]
   refine ⟨_,rfl,.inr ⟨rfl,?_⟩⟩
   rintro ⟨v,h1,h2⟩
   rcases hv v ((s3.2 v).2 h1) with h | h
   ·rw [List.drop_eq_nil_of_le (by omega)] at h
    simp at h
   ·exact h h2
  | succ d ih =>
   intro i m hd hi hm hv
   obtain ⟨m,rfl⟩:∃q,m=q+1:=⟨m-1,by omega⟩
   simp only [zbs]
   have hdr:bs.drop i=bs.getD i 0::bs.drop (i+1):=by rw [List.drop_eq_getElem_cons (l:=bs) (i:=i) (by omega),getD_get]
   have hbm:bs.getD i 0∈bs:=by
    rw [←getD_get (by omega)]
    exact List.getElem_mem (by omega)
   rw [if_pos (by simp;omega),zck (by omega),zab,getD_get,zgT,zab,zaS (x:=b.Plays+b.Skips) (by omega) (by omega),zaS (x:=(i:Int)+1) (by omega) (by omega)]
   generalize hx:bs.getD i 0=x at *
   by_cases hq:inR x b.Plays (b.Plays+b.Skips)=true
   ·rw [if_neg (by rw [hq];simp)]
    have hxk:x∈E.map (·.1):=by
     rw [←hbs,(zdo _).mem_iff] at hbm
     exact hbm
    have hmx:zb2 E x=true:=za6.2 hxk
    have hok:mok okI E x=true:=by
     unfold Go.AM.mok
     rw [s4 x hxk,Bool.true_and,Bool.and_eq_true]
     exact ⟨List.all_eq_true.2 fun p hp=>s4 p.1 (List.mem_map.2 ⟨p,hp,rfl⟩),decide_eq_true s2.nd⟩
    rw [show zfD okI zaA E x=some (zfP zaA E x) from if_pos hok,zab]
    obtain ⟨p1,p2,p3,_⟩:=(s2.mem _ _).1 (zfK zaA hmx)
    have hmp:=za6.2 p1
    obtain ⟨X,e,hr⟩:=hW.key hmp
    obtain ⟨hX,ht,hk,hokp⟩:=zmn C hr
    generalize hp:zfP zaA E x=p at *
    subst e
    have hXl:X.l=al:=zll p2 (by rw [hX.len,C.hl]) (by rw [hX.len];omega)
    have hsh:=hr.short C.h C.hl C.nn
    have hlen:((A (pnt X)).length:Int)<=2*total al:=by
     rcases hsh.2 with h | ⟨_,h,_⟩
     ·rw [hXl] at h
      exact h
     ·rw [hXl] at h
      omega
    have ht5:=C.t5
    rw [show zfD zbp zaW M (pnt X)=some (zfP zaW M (pnt X)) from if_pos (hW.mok C hr),zab,zqx C hW n hmp (by omega) (by simp;omega),zab]
    refine ⟨_,rfl,.inl ⟨rfl,?_⟩⟩
    simp only [List.nil_append,List.reverse_reverse]
    have hb:zd9 b.Wheel ⟨0,0⟩ (A (pnt X))=x:=by rw [hX.buys];exact p3
    have hq:=zb4.1 hq
    exact ⟨hX.ok,hlen,fun k _=>by rw [hX.bag k,hXl],by rw [hb];exact hq.1,by rw [hb];exact hq.2⟩
   ·rw [if_pos (by simpa using hq)]
    have:=ih (i+1) m (by omega) (by omega) (by omega) fun v hvm=>by
     rcases hv v hvm with h | h
     ·rw [hdr] at h
      rcases List.mem_cons.1 h with rfl | h
      ·exact .inr fun hh=>hq (zb4.2 hh)
      ·exact .inl h
     ·exact .inr h
    rw [show (((i+1:Nat)):Int)=(i:Int)+1 by simp] at this
    exact this
 exact key bs.length 0 n (by omega) (by omega) (by omega) fun v hv=>.inl (by simpa using hv)
def zh4:Nat->List Int->Nat->List (List Int)
 | 0,p,_=>[p]
 | d+1,p,t=>(upF 0 (t+1)).flatMap fun v=>zh4 d (p++[v]) (t-v.toNat)
def zjY {S:Type} (F:List Int->S->Option (Unit×S)):List (List Int)->S->Option S
 | [],s=>some s
 | x::l,s=>(F x s).bind fun r=>zjY F l r.2
theorem ziE {S:Type} (F:List Int->S->Option (Unit×S)):∀(a b:List (List Int)) (s:S),zjY F (a++b) s=(zjY F a s).bind fun s=>zjY F b s
 | [],b,s=>rfl
 | x::a,b,s=>by
  simp only [List.cons_append,zjY]
  cases F x s with
  | none=>rfl
  | some r =>
   simp only [Option.bind_some]
   exact ziE F a b r.2
theorem zqD {S:Type} (F:List Int->S->Option (Unit×S)) {b:Box} (h4:b.Wheel.Coins.length<=4):∀(d:Nat) (p:List Int) (t n:Nat) (s:S),p.length+d=b.Wheel.Coins.length->t<=2->d+10<=n->zbm n F (some ⟨b⟩) p (t:Int) s=(zjY F (zh4 d p t) s).map fun s=>((),s)
 | d,p,t,0,s,_,_,hn=>absurd hn (by omega)
 | 0,p,t,n+1,s,hp,ht,hn=>by
  simp only [zbm,zcf]
  rw [zab,if_pos (by simp;omega)]
  simp only [zh4,zjY]
  cases F p s<;>rfl
 | d+1,p,t,n+1,s,hp,ht,hn=>by
  simp only [zbm,zcf]
  rw [zab,if_neg (by simp;omega)]
  have loop:∀(e i m:Nat) (s:S),i+e=t+1->e<m->zbn (zbm n F) (some ⟨b⟩) p (t:Int) m (i:Int) s=(zjY F ((upF i e).flatMap fun v=>zh4 d (p++[v]) (t-v.toNat)) s).map fun s=>((),s):=by
   intro e
   induction e with
   | zero =>
    intro i m s hi hm
    obtain ⟨m,rfl⟩:∃q,m=q+1:=⟨m-1,by omega⟩
    simp only [zbn,zbT]
    rw [zaS (by omega) (by omega),if_neg (by simp;omega)]
    rfl
   | succ e ih =>
    intro i m s hi hm
    obtain ⟨m,rfl⟩:∃q,m=q+1:=⟨m-1,by omega⟩
    simp only [zbn,zbT,slices_Clone_int]
    have hrec:=zqD F h4 d (p++[(i:Int)]) (t-i) n s (by simp;omega) (by omega) (by omega)
    rw [show ((t-i:Nat):Int)=(t:Int)-(i:Int) by omega] at hrec
    rw [zaS (x:=(t:Int)+1) (by omega) (by omega),if_pos (by simp;omega),zlk (by omega),zab,zky (by simp;omega),zab,zaS (x:=(t:Int)-i) (by omega) (by omega),zaS (x:=(i:Int)+1) (by omega) (by omega),hrec]
    simp only [upF,List.flatMap_cons,ziE,Int.toNat_natCast]
    cases zjY F (zh4 d (p++[(i:Int)]) (t-i)) s with
    | none=>rfl
    | some s' =>
     have:=ih (i+1) m s' (by omega) (by omega)
     rw [show (((i+1:Nat)):Int)=(i:Int)+1 by simp] at this
     simp only [Option.map_some,Option.bind_some]
     exact this
  exact loop (t+1) 0 n s (by omega) (by omega)
theorem zjZ:∀(d:Nat) (p:List Int) (t:Nat) (P:List Int),P∈zh4 d p t↔∃r,P=p++r/\r.length=d/\(∀k,0<=r.getD k 0)/\total r<=t
 | 0,p,t,P=>by
  simp only [zh4,List.mem_singleton]
  constructor
  ·rintro rfl
   exact ⟨[],by simp,rfl,fun k=>by simp,by simp [total]⟩
  ·rintro ⟨r,rfl,h,_⟩
   obtain rfl:=List.eq_nil_of_length_eq_zero h
   simp
 | d+1,p,t,P=>by
  simp only [zh4,List.mem_flatMap]
  constructor
  ·rintro ⟨v,hv,hP⟩
   have hv:=zlo.1 hv
   obtain ⟨r,rfl,h1,h2,h3⟩:=(zjZ d _ _ P).1 hP
   refine ⟨v::r,by simp,by simp [h1],fun k=>?_,?_⟩
   ·cases k with
    | zero =>
     show 0<=v
     omega
    | succ k=>simpa using h2 k
   ·simp only [total]
    omega
  ·rintro ⟨r,rfl,h1,h2,h3⟩
   cases r with
   | nil=>simp at h1
   | cons v r =>
    have hv:0<=v:=h2 0
    have hr:∀k,0<=r.getD k 0:=fun k=>by simpa using h2 (k+1)
    have ht:=zd5 (zf9 hr)
    simp only [total] at h3
    exact ⟨v,zlo.2 ⟨by omega,by omega⟩,(zjZ d _ _ _).2 ⟨r,by simp,by simpa using h1,hr,by omega⟩⟩
theorem zj0 {b:Box} {P:List Int}:P∈zh4 b.Wheel.Coins.length [] 2↔More b P:=by
 rw [zjZ]
 constructor
 ·rintro ⟨r,rfl,h1,h2,h3⟩
  exact ⟨by simpa using h1,by simpa using h2,by simpa using h3⟩
 ·rintro ⟨h1,h2,h3⟩
  exact ⟨P,by simp,h1,h2,h3⟩
theorem zmi:∀(d:Nat) (p:List Int) (t:Nat),t<=2->(zh4 d p t).length<=3 ^ d
 | 0,p,t,_=>by simp [zh4]
 | d+1,p,t,ht=>by
  simp only [zh4]
  refine Nat.le_trans (zio (c:=3 ^ d) fun v _=>zmi d _ _ (by omega)) ?_
  rw [zm4,Nat.pow_succ,Nat.mul_comm]
  exact Nat.mul_le_mul_left _ (by omega)
structure GInv (b:Box) (xs:List (List Int)) (gs:List Gap_):Prop where
 len:gs.length<=xs.length
 mem:∀g,g∈gs->More b g.purse/\ExplOk b (sums (zgG b) g.purse) g.acts
 eq:∀g,g∈gs->∀h,h∈gs->zbb b.Wheel g.purse=zbb b.Wheel h.purse
 le:∀P,P∈xs->zna b (sums (zgG b) P)->∃g,g∈gs/\zbb b.Wheel g.purse<=zbb b.Wheel P
theorem zlq {b:Box} {P:List Int} (h:More b P):zge P:=fun k=>by have:=h.small k;omega
theorem zmj {b:Box} (N:Near b) {n:Nat} (hn:100000<=n) {xs:List (List Int)} {gs:List Gap_} {P:List Int} (hP:More b P) (hx:xs.length<=100) (h:GInv b xs gs):∃gs',zaz n (some ⟨b⟩) P gs=some ((),gs')/\GInv b (xs++[P]) gs':=by
 obtain ⟨r,hr,hc⟩:=zo0 N hP hn
 have hw:=fun {l} (hl:More b l)=>zh3 N.ok.far.h (show 100<=n by omega) hl.l (zlq hl)
 have skip:r.2=false->¬zna b (sums (zgG b) P):=fun e=>by
  rcases hc with ⟨h1,_⟩ | ⟨_,h2⟩
  ·rw [e] at h1
   cases h1
  ·exact h2
 have take:r.2=true->ExplOk b (sums (zgG b) P) r.1:=fun e=>by
  rcases hc with ⟨_,h2⟩ | ⟨h1,_⟩
  ·exact h2
  ·rw [e] at h1
   cases h1
 have keep:¬zna b (sums (zgG b) P)->GInv b (xs++[P]) gs:=fun hno=>⟨by have:=h.len;simp;omega,h.mem,h.eq,fun Q hQ hE=>by
  rcases List.mem_append.1 hQ with hQ | hQ
  ·exact h.le Q hQ hE
  ·obtain rfl:=List.mem_singleton.1 hQ
   exact absurd hE hno⟩
 cases gs with
 | nil =>
  simp only [zaz]
  rw [hr,zab]
  cases e:r.2 with
  | false =>
   rw [if_pos (by rfl)]
   exact ⟨_,rfl,keep (skip e)⟩
  | true =>
   rw [if_neg (by simp)]
   refine ⟨_,rfl,by simp,fun g hg=>?_,fun g hg g' hg'=>?_,fun Q hQ hE=>?_⟩
   ·obtain rfl:=List.mem_singleton.1 hg
    exact ⟨hP,take e⟩
   ·rw [List.mem_singleton.1 hg,List.mem_singleton.1 hg']
   ·rcases List.mem_append.1 hQ with hQ | hQ
    ·obtain ⟨g,hg,_⟩:=h.le Q hQ hE
     simp at hg
    ·obtain rfl:=List.mem_singleton.1 hQ
     exact ⟨_,List.mem_singleton.2 rfl,Int.le_refl _⟩
 | cons x gs =>
  simp only [zaz]
  obtain ⟨hxm,hxe⟩:=h.mem x (by simp)
  rw [hw hP,zab,hw hxm,zab]
  by_cases hgt:zbb b.Wheel P>zbb b.Wheel x.purse
  ·rw [if_pos (by simpa using hgt)]
   refine ⟨_,rfl,by have:=h.len;simp at this ⊢;omega,h.mem,h.eq,fun Q hQ hE=>?_⟩
   rcases List.mem_append.1 hQ with hQ | hQ
   ·exact h.le Q hQ hE
   ·obtain rfl:=List.mem_singleton.1 hQ
    exact ⟨x,by simp,by omega⟩
  ·rw [if_neg (by simpa using hgt),hr,zab]
   cases e:r.2 with
   | false =>
    rw [if_pos (by rfl)]
    exact ⟨_,rfl,keep (skip e)⟩
   | true =>
    rw [if_neg (by simp),zab,zab]
    by_cases hlt:zbb b.Wheel P<zbb b.Wheel x.purse
    ·rw [if_pos (by simpa using hlt)]
     refine ⟨_,rfl,by simp,fun g hg=>?_,fun g hg g' hg'=>?_,fun Q hQ hE=>?_⟩
     ·obtain rfl:=List.mem_singleton.1 hg
      exact ⟨hP,take e⟩
     ·rw [List.mem_singleton.1 hg,List.mem_singleton.1 hg']
     ·refine ⟨_,List.mem_singleton.2 rfl,?_⟩
      show zbb b.Wheel P<=_
      rcases List.mem_append.1 hQ with hQ | hQ
      ·obtain ⟨g,hg,hle⟩:=h.le Q hQ hE
       have:=h.eq g hg x (by simp)
       omega
      ·obtain rfl:=List.mem_singleton.1 hQ
       exact Int.le_refl _
    ·rw [if_neg (by simpa using hlt),zky (by have:=h.len;simp at this ⊢;omega),zab]
     have heq:zbb b.Wheel P=zbb b.Wheel x.purse:=by omega
     have hall:∀g,g∈x::gs++[⟨P,r.1⟩]->zbb b.Wheel g.purse=zbb b.Wheel P:=fun g hg=>by
      rcases List.mem_append.1 hg with hg | hg
      ·rw [heq]
       exact h.eq g hg x (by simp)
      ·rw [List.mem_singleton.1 hg]
     refine ⟨_,rfl,by have:=h.len;simp at this ⊢;omega,fun g hg=>?_,fun g hg g' hg'=>by rw [hall g hg,hall g' hg'],fun Q hQ hE=>?_⟩
     ·rcases List.mem_append.1 hg with hg | hg
      ·exact h.mem g hg
      ·obtain rfl:=List.mem_singleton.1 hg
       exact ⟨hP,take e⟩
     ·rcases List.mem_append.1 hQ with hQ | hQ
      ·obtain ⟨g,hg,hle⟩:=h.le Q hQ hE
       exact ⟨g,List.mem_append_left _ hg,hle⟩
      ·obtain rfl:=List.mem_singleton.1 hQ
       exact ⟨⟨Q,r.1⟩,List.mem_append_right _ (by simp),Int.le_refl _⟩
theorem ziF {b:Box} (N:Near b) {n:Nat} (hn:100000<=n):∀(l xs:List (List Int)) (gs:List Gap_),(∀P,P∈l->More b P)->xs.length+l.length<=100->GInv b xs gs->∃gs',zjY (fun x0 s=>zaz n (some ⟨b⟩) x0 s) l gs=some gs'/\GInv b (xs++l) gs'
 | [],xs,gs,_,_,h=>⟨gs,rfl,by simpa using h⟩
 | P::l,xs,gs,hm,hl,h=>by
  simp only [List.length_cons] at hl
  obtain ⟨gs1,h1,h2⟩:=zmj N hn (hm P (by simp)) (by omega) h
  obtain ⟨gs2,h3,h4⟩:=ziF N hn l (xs++[P]) gs1 (fun Q hQ=>hm Q (by simp [hQ])) (by simp;omega) h2
  refine ⟨gs2,?_,by simpa using h4⟩
  simp only [zjY,h1,Option.bind_some]
  exact h3
def zy6 (b:Box) (gs:List Gap_):Prop:=(gs=[]/\∀P,More b P->¬zna b (sums (zgG b) P))\/∃x t,gs=x::t/\More b x.purse/\ExplOk b (sums (zgG b) x.purse) x.acts/\∀P,More b P->zna b (sums (zgG b) P)->zbb b.Wheel x.purse<=zbb b.Wheel P
theorem zo1 {b:Box} (N:Near b) {n:Nat} (hn:100000<=n):∃gs,zbL n (some ⟨b⟩)=some gs/\zy6 b gs:=by
 have h3:=N.k3
 have hlen:(zh4 b.Wheel.Coins.length [] 2).length<=100:=by
  have h1:=zmi b.Wheel.Coins.length [] 2 (by omega)
  have h2:3 ^ b.Wheel.Coins.length<=3 ^ 3:=Nat.pow_le_pow_right (by omega) h3
  omega
 obtain ⟨gs,h1,h2⟩:=ziF N hn (zh4 b.Wheel.Coins.length [] 2) [] [] (fun P hP=>zj0.1 hP) (by simpa using hlen) ⟨by simp,by simp,by simp,by simp⟩
 refine ⟨gs,?_,?_⟩
 ·unfold zbL
  have:=zqD (fun x0 s=>zaz n (some ⟨b⟩) x0 s) (b:=b) (by omega) b.Wheel.Coins.length [] 2 n [] (by simp) (by omega) (by omega)
  rw [show zbm n (fun x0 s=>zaz n (some ⟨b⟩) x0 s) (some ⟨b⟩) [] 2 []=_ from this,h1]
  rfl
 ·rw [List.nil_append] at h2
  cases gs with
  | nil =>
   refine .inl ⟨rfl,fun P hP hE=>?_⟩
   obtain ⟨g,hg,_⟩:=h2.le P (zj0.2 hP) hE
   simp at hg
  | cons x t =>
   obtain ⟨m1,m2⟩:=h2.mem x (by simp)
   refine .inr ⟨x,t,rfl,m1,m2,fun P hP hE=>?_⟩
   obtain ⟨g,hg,hle⟩:=h2.le P (zj0.2 hP) hE
   have:=h2.eq g hg x (by simp)
   omega
theorem BoxOk.len {b:Box} (N:BoxOk b):ztC b:=by
 have F:=N.far
 have h1:=F.fl
 have h2:=F.sl
 have h3:=F.ml
 have h4:=F.h.nlen
 have h5:=F.h.clen
 exact ⟨by omega,by omega,by omega,by omega,by omega⟩
theorem zlr {b:Box} (N:BoxOk b) {n:Nat} (hn:200<=n):zc8 n b=some (some ⟨b⟩,0):=by
 unfold zc8
 rw [zqA b n N.len hn,zgF.2 N]
 rfl
theorem zsQ {b:Box} (F:NearF b) {n:Nat} (hn:200<=n):zhz n b=some (zgG b):=by
 have h1:=F.fl
 have h2:=F.sl
 have h3:=F.h.clen
 unfold zhz
 rw [zqy (by omega) (fun k=>by have:=F.f k;omega) (fun k=>by have:=F.s k;omega) (by omega) (by omega)]
 rfl
theorem zqE {b:Box} (F:NearF b):zge (zgG b):=fun k=>by
 rw [zh2 F]
 have:=F.f k
 have:=F.s k
 omega
theorem zwu (b:Box) {n:Nat} (hn:200<=n):zgu n b=some true\/(zgu n b=some false/\ztC b/\(BoxOk b->Near b)):=by
 unfold zgu
 by_cases hl:(max (max (max (max (b.Wheel.Notches.length:Int) (b.Wheel.Coins.length:Int)) (b.Found.length:Int)) (b.Marked.length:Int)) (b.Slugs.length:Int))>40
 ·rw [if_pos (by simpa using hl)]
  exact .inl rfl
 ·rw [if_neg (by simpa using hl)]
  have hL:ztC b:=⟨by omega,by omega,by omega,by omega,by omega⟩
  rw [zwt b n hL hn,zab]
  by_cases hb:BoxOk b
  ·have F:=hb.far
   have h1:=F.fl
   have h3:=F.h.clen
   rw [zgF.2 hb]
   show (Option.bind _ _=_)\/(Option.bind _ _=_/\_)
   rw [zsQ F hn,zab,zrC (zqE F) (by rw [zho F];omega) (by rw [zho F];omega),zab,zjX F]
   by_cases ht:total b.Found+total b.Slugs>3
   ·rw [if_pos (by simpa using ht)]
    exact .inl rfl
   ·rw [if_neg (by simpa using ht)]
    unfold zdO
    by_cases hk:(b.Found.length:Int)>3
    ·exact .inl (by simp [hk])
    ·exact .inr ⟨by simp;omega,hL,fun _=>⟨hb,by omega,by omega⟩⟩
  ·rw [zh0 hb]
   exact .inr ⟨rfl,hL,fun h=>absurd h hb⟩
theorem ready_eq (b:Box) {n:Nat} (hn:200<=n):ze7 n b=some false\/(ze7 n b=some true/\Near b):=by
 unfold ze7
 rcases zwu b hn with h | ⟨h,hL,hN⟩
 ·rw [h]
  exact .inl rfl
 ·rw [h,zab,zwt b n hL hn]
  by_cases hb:BoxOk b
  ·rw [zgF.2 hb]
   exact .inr ⟨rfl,hN hb⟩
  ·rw [zh0 hb]
   exact .inl rfl
def znb (b:Box) (m:Int):Prop:=(∃P,More b P/\zna b (sums (zgG b) P)/\zbb b.Wheel P=m)/\∀P,More b P->zna b (sums (zgG b) P)->m<=zbb b.Wheel P
def zwv (b:Box):Prop:=∀P,More b P->¬zna b (sums (zgG b) P)
def zka (b:Box) (r:Int×Int):Prop:=(r.2=0/\znb b r.1)\/(r=(0,3)/\zwv b)
theorem zqF {b:Box} (N:Near b) {n:Nat} (hn:100000<=n):∃gs,zbL n (some ⟨b⟩)=some gs/\((gs=[]/\zdu n b=some (none,[],3)/\zwv b)\/∃x t,gs=x::t/\zdu n b=some (some ⟨b⟩,x::t,0)/\More b x.purse/\ExplOk b (sums (zgG b) x.purse) x.acts/\znb b (zbb b.Wheel x.purse)):=by
 obtain ⟨gs,h1,h2⟩:=zo1 N hn
 refine ⟨gs,h1,?_⟩
 unfold zdu
 rw [zlr N.ok (by omega),zab,if_neg (by simp),h1,zab]
 rcases h2 with ⟨rfl,h2⟩ | ⟨x,t,rfl,h3,h4,h5⟩
 ·exact .inl ⟨rfl,rfl,h2⟩
 ·rw [if_neg (by simp;omega)]
  exact .inr ⟨x,t,rfl,rfl,h3,h4,⟨x.purse,h3,h4.ex,rfl⟩,h5⟩
theorem zis {b:Box} (N:Near b) {n:Nat} (hn:100000<=n):∃r,zcu n b=some r/\zka b r:=by
 obtain ⟨gs,_,h⟩:=zqF N hn
 unfold zcu
 rcases h with ⟨rfl,h,h2⟩ | ⟨x,t,rfl,h,h3,h4,h5⟩
 ·rw [h]
  exact ⟨(0,3),rfl,.inr ⟨rfl,h2⟩⟩
 ·rw [h,zab,if_neg (by simp)]
  show ∃r,Option.bind (some x) _=some r/\_
  rw [zab,zh3 N.ok.far.h (by omega) h3.l (zlq h3)]
  exact ⟨_,rfl,.inl ⟨rfl,h5⟩⟩
theorem zf6 {w:Wheel} (h:OkW w) {P:List Int} (hs:zge P):0<=zbb w P/\zbb w P<=100000*w.Coins.length:=by
 have:=zkC h hs w.Coins.length 0 (by omega)
 exact this
theorem zka.eq {b:Box} {r r':Int×Int} (h:zka b r) (h':zka b r'):r=r':=by
 obtain ⟨a,c⟩:=r
 obtain ⟨a',c'⟩:=r'
 rcases h with ⟨h1,⟨P,p1,p2,p3⟩,h3⟩ | ⟨h1,h2⟩
 ·rcases h' with ⟨k1,⟨P',q1,q2,q3⟩,k3⟩ | ⟨k1,k2⟩
  ·have:=h3 P' q1 q2
   have:=k3 P p1 p2
   simp only at *
   have:a=a':=by omega
   rw [this,h1,k1]
  ·exact absurd p2 (k2 P p1)
 ·rcases h' with ⟨k1,⟨P',q1,q2,q3⟩,k3⟩ | ⟨k1,k2⟩
  ·exact absurd q2 (h2 P' q1)
  ·rw [h1,k1]
theorem zka.nn {b:Box} (N:BoxOk b) {r:Int×Int} (h:zka b r):0<=r.1/\r.1<=1000000:=by
 rcases h with ⟨_,⟨P,h1,_,he⟩,_⟩ | ⟨rfl,_⟩
 ·rw [←he]
  have:=zf6 N.far.h (zlq h1)
  have:=N.far.h.clen
  omega
 ·simp
theorem zmk {w:Wheel} {al:List Int} (C:Cx w al) {v:Int} (h:Can w al v):0<=v/\v<=500:=by
 obtain ⟨acts,x,hr,h1,rfl⟩:=(zwr C.h C.hl C.nn).1 h
 have hX:=(zmn C hr).1
 have h2:=hX.c0
 have h3:=hX.cb
 have h4:=hX.bt
 have h5:=(zmn C hr).2.1
 have h6:=C.t5
 omega
theorem zqG {w:Wheel} {al L:List Int} (C:Cx w al) (h:ziK w al L):L.length<=501:=by
 have:=ziq (l:=L) (m:=upF 0 501) (h.1.imp fun hlt he=>by omega) fun v hv=>by
  have:=zmk C ((h.2 v).1 hv)
  exact zlo.2 (by omega)
 rw [zm4] at this
 exact this
theorem zrE {w:Wheel} {al:List Int} (C:Cx w al):∃v,Can w al v:=by
 have ht:0<=total al:=zd5 (zf9 C.nn)
 have h5:=C.t5
 obtain ⟨acts,hw⟩:=zwq true C.h (total al).toNat (p:=0) (c:=0) (l:=al) (by omega) ⟨C.hl,zf9 C.nn,by omega⟩ (Int.le_refl _) (by have:=C.h.r1;omega) (Int.le_refl _)
 exact ⟨_,acts,hw.ok,hw.bag,rfl⟩
theorem zww {L:List Int} {n:Nat} (h:L≠[]) (hl:L.length<1048576) (hn:L.length<n):slices_Max_int n L=some (L.tail.foldl max (L.getD 0 0)):=by
 cases L with
 | nil=>exact absurd rfl h
 | cons x t =>
  unfold slices_Max_int zdn
  rw [if_neg (by simp;omega),show idx (x::t) 0=some x from rfl,zab]
  have key:=zrr (F:=fun m i (s:Int)=>zbM (x::t) m s i) (xs:=x::t) (spec:=fun l s=>some (l.foldl max s)) hl
   (fun m s=>by simp [zbM,zcF,zdm])
   (fun m i y l s hx hi _ _ hrec=>by
    simp only [zbM,zcF,List.foldl_cons]
    rw [if_pos (by simpa using hi),hx,zab]
    exact hrec _)
   t 1 n x (by simp) rfl (by simp at hn;omega)
  exact key
theorem zml:∀(t:List Int) (x:Int),(∀y,y∈t->x<y)->t.Pairwise (·<·)->t.foldl max x=(x::t).getLast (by simp)
 | [],x,_,_=>rfl
 | y::t,x,h1,h2=>by
  rw [List.pairwise_cons] at h2
  have hxy:=h1 y (by simp)
  rw [List.foldl_cons,Int.max_eq_right (by omega),zml t y h2.1 h2.2]
  rfl
def zwx (L:List Int):Int:=L.getD (L.length-1) 0
theorem zsR {L:List Int} (h:L≠[]) (hp:L.Pairwise (·<·)):L.tail.foldl max (L.getD 0 0)=zwx L:=by
 cases L with
 | nil=>exact absurd rfl h
 | cons x t =>
  rw [List.pairwise_cons] at hp
  show t.foldl max x=_
  rw [zml t x hp.1 hp.2,List.getLast_eq_getElem]
  unfold zwx
  rw [getD_get]
theorem zsS {L:List Int} (h:L≠[]):zwx L∈L:=by
 have hl:0<L.length:=List.length_pos_iff.2 h
 unfold zwx
 rw [←getD_get (by omega)]
 exact List.getElem_mem _
theorem zwy {w:Wheel} {al L:List Int} (C:Cx w al) (h:ziK w al L):L≠[]:=fun e=>by
 obtain ⟨v,hv⟩:=zrE C
 have:=(h.2 v).2 hv
 rw [e] at this
 simp at this
theorem zrF {b:Box} (N:Near b) {n:Nat} (hn:100000<=n):∃L,ziK b.Wheel (zgG b) L/\zeU n b=some (max 0 (b.Plays-zwx L),0):=by
 obtain ⟨L,h1,h2⟩:=zmh N hn
 have hL:=zqG N.cx0 h2
 have hne:=zwy N.cx0 h2
 have hp:=N.ok.far.p
 have ht:=zmk N.cx0 ((h2.2 _).1 (zsS hne))
 refine ⟨L,h2,?_⟩
 unfold zeU
 rw [zlr N.ok (by omega),zab,if_neg (by simp),h1,zab,zww hne (by omega) (by omega),zab,zsR hne h2.1,zaS (by omega) (by omega)]
theorem zqH {b:Box} (N:Near b) {n:Nat} (hn:100000<=n):∃L,ziK b.Wheel (zgG b) L/\zeh n b=some (L,0):=by
 obtain ⟨L,h1,h2⟩:=zmh N hn
 refine ⟨L,h2,?_⟩
 unfold zeh
 rw [zlr N.ok (by omega),zab,if_neg (by simp),h1,zab]
def zkb (b:Box):Int×Int×Int×Int:=(zbb b.Wheel b.Found-zbb b.Wheel b.Marked,zbb b.Wheel b.Marked,zbb b.Wheel b.Slugs,0)
theorem znc {b:Box} (N:BoxOk b) {n:Nat} (hn:200<=n):zdR n b=some (zkb b):=by
 have F:=N.far
 have hf:zge b.Found:=fun k=>by have:=F.f k;omega
 have hm:zge b.Marked:=fun k=>by have:=F.m k;omega
 have hs:zge b.Slugs:=fun k=>by have:=F.s k;omega
 have h1:=zf6 F.h hf
 have h2:=zf6 F.h hm
 have h3:=F.h.clen
 unfold zdR
 rw [zlr N hn,zab,if_neg (by simp),zh3 F.h (by omega) F.ml hm,zab,zh3 F.h (by omega) F.fl hf,zab,zh3 F.h (by omega) F.sl hs,zab,zaS (by omega) (by omega)]
 rfl
def exW:Wheel:=⟨50,[10,20,25],[5,10,25]⟩
def exB:Box:=⟨exW,[0,2,1],[0,1,0],[0,0,0],6,0⟩
theorem zls:Near exB:=by
 refine ⟨⟨by decide,by decide,by decide,by decide,by decide,rfl,fun k hk=>?_,by decide⟩,by decide,by decide⟩
 have:k=0\/k=1\/k=2:=by
  have:exB.Found.length=3:=rfl
  omega
 rcases this with rfl | rfl | rfl<;>decide
theorem zwz:zgG exB=[0,2,1]:=by decide
theorem zn0 {w:Wheel} {al acts:List Int} (h:(List.range w.Coins.length).all (fun k=>cnt (k:Int) acts==al.getD k 0)=true):∀k:Nat,k<w.Coins.length->cnt k acts=al.getD k 0:=fun k hk=>by
 rw [List.all_eq_true] at h
 simpa using h k (List.mem_range.2 hk)
theorem zqI:ziK exW [0,2,1] [3,4,5]:=by
 have hP:OkP exW [0,2,1]:=⟨rfl,by decide,by decide⟩
 have hW:OkW exW:=zf4 (by decide)
 refine ⟨by decide,fun v=>⟨fun hv=>?_,?_⟩⟩
 ·have h3:v=3\/v=4\/v=5:=by simpa using hv
  rcases h3 with rfl | rfl | rfl
  ·exact ⟨[1,1,2],by decide,zn0 (by decide),by decide⟩
  ·exact ⟨[1,-1,1,2],by decide,zn0 (by decide),by decide⟩
  ·exact ⟨[1,-1,1,-1,2],by decide,zn0 (by decide),by decide⟩
 ·rintro ⟨acts,h1,h2,rfl⟩
  have hi:=zma true hW acts (p:=0) (c:=0) h1 h2 hP (by decide) (by decide) (by decide)
  have lo:=zma false hW acts (p:=0) (c:=0) h1 h2 hP (by decide) (by decide) (by decide)
  rw [show Q true exW (total [0,2,1]).toNat 0 0 [0,2,1]=5 by decide +kernel] at hi
  rw [show Q false exW (total [0,2,1]).toNat 0 0 [0,2,1]=3 by decide +kernel] at lo
  have hi:zd9 exW ⟨0,0⟩ acts<=5:=hi
  have lo:3<=zd9 exW ⟨0,0⟩ acts:=lo
  simp only [List.mem_cons,List.not_mem_nil,or_false]
  omega
theorem zrG:znb exB 5:=by
 have hl:exB.Wheel.Coins.length=3:=rfl
 refine ⟨⟨[1,0,0],⟨rfl,fun k=>?_,by decide⟩,⟨6,⟨[1,1,0,-1,2],by decide,zn0 (by decide),by decide⟩,by decide,by decide⟩,by decide⟩,fun P hP hE=>?_⟩
 ·match k with
  | 0=>decide
  | 1=>decide
  | 2=>decide
  | k+3=>simp
 ·match P,hP with
  | [a,b,c],hP =>
   have h0:0<=a:=hP.nn 0
   have h1:0<=b:=hP.nn 1
   have h2:0<=c:=hP.nn 2
   have hw:zbb exB.Wheel [a,b,c]=5*a+(10*b+(25*c+0)):=rfl
   rw [hw]
   by_cases hz:a=0/\b=0/\c=0
   ·obtain ⟨rfl,rfl,rfl⟩:=hz
    obtain ⟨v,hv,h3,h4⟩:=hE
    rw [show sums (zgG exB) [0,0,0]=[0,2,1] by decide] at hv
    have:=(zqI.2 v).2 hv
    simp only [List.mem_cons,List.not_mem_nil,or_false] at this
    have:(6:Int)<=v:=h3
    omega
   ·omega
  | [],hP=>exact absurd hP.l (by decide)
  | [_],hP=>exact absurd hP.l (by rw [hl];simp)
  | [_,_],hP=>exact absurd hP.l (by rw [hl];simp)
  | _::_::_::_::_,hP=>exact absurd hP.l (by rw [hl];simp)
theorem zrH {n:Nat} (hn:100000<=n):zei n=some true:=by
 have e1:zfX=some exB:=rfl
 obtain ⟨L,h1,h2⟩:=zqH zls hn
 obtain ⟨L',h3,h4⟩:=zrF zls hn
 obtain ⟨r,h5,h6⟩:=zis zls hn
 rw [zwz] at h1 h3
 obtain rfl:=h1.eq zqI
 obtain rfl:=h3.eq zqI
 obtain rfl:=h6.eq (r':=(5,0)) (.inl ⟨rfl,zrG⟩)
 unfold zei
 rw [e1,zab,h2,zab,znc zls.ok (by omega),zab,h5,zab,h4,zab,zjQ _ _ (by simp) (by simp;omega)]
 decide
theorem zrI {b:Box} (h:ztC b):zgP b=some b:=by
 obtain ⟨h1,h2,h3,h4,h5⟩:=h
 unfold zgP
 rw [zsI (n:=100) ⟨by omega,by omega,by omega,by omega⟩,zab,zlk (by omega),zab,zlk (by omega),zab,zlk (by omega),zab]
theorem zo2 {b:Box} (N:BoxOk b):-1000000<=(zkb b).1/\(zkb b).1<=1000000:=by
 have F:=N.far
 have h1:=zf6 F.h (show zge b.Found from fun k=>by have:=F.f k;omega)
 have h2:=zf6 F.h (show zge b.Marked from fun k=>by have:=F.m k;omega)
 have h3:=F.h.clen
 unfold zkb
 simp only
 omega
theorem zn1 (w:Wheel) {l:List Int} {j:Nat} {v:Int} (hj:j<l.length):∀(d k:Nat),zkB w (l.set j v) d k=zkB w l d k+(if k<=j/\j<k+d then coin w j*(v-l.getD j 0) else 0)
 | 0,k=>by rw [if_neg (by omega)];simp [zkB]
 | d+1,k=>by
  simp only [zkB,zn1 w hj d (k+1),zh1 hj]
  by_cases e:j=k
  ·subst e
   rw [if_pos rfl,if_neg (by omega),if_pos (by omega),Int.mul_sub]
   omega
  ·rw [if_neg e]
   by_cases h:k+1<=j/\j<k+1+d
   ·rw [if_pos h,if_pos (by omega)]
    omega
   ·rw [if_neg h,if_neg (by omega)]
    omega
theorem zqJ {w:Wheel} {l:List Int} {j:Nat} {v:Int} (hj:j<l.length) (hl:l.length=w.Coins.length):zbb w (l.set j v)=zbb w l+coin w j*(v-l.getD j 0):=by
 unfold zbb
 rw [zn1 w hj,if_pos (by omega)]
theorem zka.congr {b b':Box} (hw:b'.Wheel=b.Wheel) (hp:zgG b'=zgG b) (h1:b'.Plays=b.Plays) (h2:b'.Skips=b.Skips) {r:Int×Int} (h:zka b' r):zka b r:=by
 have hM:∀P,More b P->More b' P:=fun P h=>⟨by rw [hw];exact h.l,h.nn,h.t⟩
 have hM':∀P,More b' P->More b P:=fun P h=>⟨by rw [←hw];exact h.l,h.nn,h.t⟩
 have hE:∀al,zna b al->zna b' al:=fun al ⟨v,q1,q2,q3⟩=>⟨v,by rw [hw];exact q1,by rw [h1];exact q2,by rw [h1,h2];exact q3⟩
 have hE':∀al,zna b' al->zna b al:=fun al ⟨v,q1,q2,q3⟩=>⟨v,by rw [←hw];exact q1,by rw [←h1];exact q2,by rw [←h1,←h2];exact q3⟩
 rcases h with ⟨a,⟨P,p1,p2,p3⟩,c⟩ | ⟨a,c⟩
 ·refine .inl ⟨a,⟨P,hM' P p1,by rw [←hp];exact hE' _ p2,by rw [←hw];exact p3⟩,fun P q1 q2=>?_⟩
  rw [←hw]
  exact c P (hM P q1) (by rw [hp];exact hE _ q2)
 ·exact .inr ⟨a,fun P q1 q2=>c P (hM P q1) (by rw [hp];exact hE _ q2)⟩
abbrev zsT (b:Box) (k:Nat):Box:=⟨b.Wheel,b.Found,b.Marked.set k (b.Marked.getD k 0+1),b.Slugs,b.Plays,b.Skips⟩
theorem zqK {b:Box} (N:Near b) {k:Nat} (hk:k<b.Wheel.Coins.length) (h0:b.Marked.getD k 0≠b.Found.getD k 0):Near (zsT b k):=by
 have F:=N.ok.far
 have h1:=F.fl
 have h2:=F.ml
 have hm:k<b.Marked.length:=by omega
 refine ⟨⟨N.ok.v,N.ok.p,N.ok.s,N.ok.f,N.ok.g,by simp [N.ok.ml],fun j hj=>?_,N.ok.t⟩,N.k3,N.t3⟩
 show 0<=(b.Marked.set _ _).getD j 0/\(b.Marked.set _ _).getD j 0<=b.Found.getD j 0
 have:=N.ok.mkd j hj
 rw [zh1 hm]
 split
 ·rename_i e
  subst e
  omega
 ·omega
theorem zj1 (b:Box) (a1:Int):zej 1000000 b a1=some true:=by
 have hw:=zrH (n:=1000000) (by omega)
 unfold zej
 rcases ready_eq b (n:=1000000) (by omega) with h | ⟨h,N⟩
 ·rw [h,zab,if_pos (by rfl),hw]
  rfl
 have F:=N.ok.far
 have e1:=F.fl
 have e2:=F.ml
 have sf:zge b.Found:=fun k=>by have:=F.f k;omega
 have sm:zge b.Marked:=fun k=>by have:=F.m k;omega
 have w1:=zo2 N.ok
 have w2:(zkb b).2.1=zbb b.Wheel b.Marked:=rfl
 have w2':(zkb b).1=zbb b.Wheel b.Found-zbb b.Wheel b.Marked:=rfl
 have w3:=zf6 F.h sm
 have w3':=zf6 F.h sf
 have w4:=F.h.clen
 have w5:zbb b.Wheel b.Marked<=zbb b.Wheel b.Found:=by
  have key:∀(d k:Nat),k+d<=b.Wheel.Coins.length->zkB b.Wheel b.Marked d k<=zkB b.Wheel b.Found d k:=fun d=>by
   induction d with
   | zero=>intro k _;simp [zkB]
   | succ d ih =>
    intro k hk
    simp only [zkB]
    have:=ih (k+1) (by omega)
    have hm:=N.ok.mkd k (by omega)
    have hc:=zcQ F.h (a:=(k:Int)) (by omega) (by omega)
    have:=Int.mul_le_mul_of_nonneg_left hm.2 (show (0:Int)<=coin b.Wheel k by omega)
    omega
  exact key _ 0 (by omega)
 rw [h,zab,if_neg (by simp),znc N.ok (by omega),zab,zln F.h (by omega) e1 sf,zab,if_neg (by simp [zkb]),if_neg (by simp;omega),if_neg (by simp;omega),if_neg (by simp;omega),zaS (by omega) (by omega),
  show ((zkb b).1+(zkb b).2.1 != zbb b.Wheel b.Found)=false by simp;omega]
 have hj:za3 1000000 b a1 (zkb b) true=some true:=by
  unfold za3
  rw [if_pos rfl,hw]
  rfl
 unfold za4
 rw [if_neg (by simp)]
 by_cases h1:a1<0
 ·rw [if_pos (by simpa using h1),hj]
 rw [if_neg (by simpa using h1)]
 by_cases h2:a1≥(b.Found.length:Int)
 ·rw [if_pos (by simpa using h2),hj]
 rw [if_neg (by simpa using h2)]
 obtain ⟨k,rfl⟩:∃k:Nat,a1=k:=⟨a1.toNat,by omega⟩
 have hkf:k<b.Found.length:=by omega
 have hkm:k<b.Marked.length:=by omega
 have i1:idx b.Marked (k:Int)=some (b.Marked.getD k 0):=by rw [zck hkm,getD_get hkm]
 have i2:idx b.Found (k:Int)=some (b.Found.getD k 0):=by rw [zck hkf,getD_get hkf]
 rw [i1,zab,i2,zab]
 by_cases h3:b.Marked.getD k 0=b.Found.getD k 0
 ·rw [show (b.Marked.getD k 0==b.Found.getD k 0)=true by simpa using h3,hj]
 rw [show (b.Marked.getD k 0==b.Found.getD k 0)=false by simpa using h3]
 have N':Near (zsT b k):=zqK N (by omega) h3
 have b1:=F.m k
 obtain ⟨L,c1,c2⟩:=zqH N (n:=1000000) (by omega)
 obtain ⟨L',c3,c4⟩:=zqH N' (n:=1000000) (by omega)
 have c3:ziK b.Wheel (zgG b) L':=c3
 obtain rfl:=c1.eq c3
 have hL:=zqG N.cx0 c1
 obtain ⟨r,m1,m2⟩:=zis N (n:=1000000) (by omega)
 obtain ⟨r',m3,m4⟩:=zis N' (n:=1000000) (by omega)
 obtain rfl:=m2.eq (zka.congr (b:=b) (b':=zsT b k) rfl rfl rfl rfl m4)
 have hc:=zcQ F.h (a:=(k:Int)) (by omega) (by omega)
 have p1:zbb b.Wheel (b.Marked.set k (b.Marked.getD k 0+1))=zbb b.Wheel b.Marked+coin b.Wheel k:=by
  rw [zqJ hkm (by omega),show b.Marked.getD k 0+1-b.Marked.getD k 0=1 by omega,Int.mul_one]
 unfold za3
 rw [if_neg (by simp),zrI N.ok.len,zab,i1,zab,zab,zaS (by omega) (by omega),Int.toNat_natCast,znc N'.ok (by omega),zab,c2,zab,c4,zab,m1,zab,m3,zab,if_pos (by rfl),
  ziX (by omega) (by omega),zab,zaS (by omega) (by omega),if_pos ?_,zab,zaS (by omega) (by omega),if_pos ?_,if_pos ?_,zjQ _ _ (by simp only;omega) (by simp only;omega),zab,if_pos (by simp),if_pos (by simp),if_pos (by simp),if_pos (by simp),hw]
 ·rfl
 ·show (zbb b.Wheel b.Slugs==zbb b.Wheel b.Slugs)=true
  simp
 ·show (zbb b.Wheel (b.Marked.set _ _)==zbb b.Wheel b.Marked+coin b.Wheel k)=true
  rw [p1]
  simp
 ·show (zbb b.Wheel b.Found-zbb b.Wheel (b.Marked.set _ _)==zbb b.Wheel b.Found-zbb b.Wheel b.Marked-coin b.Wheel k)=true
  rw [p1]
  simp
  omega
end Go.Law
