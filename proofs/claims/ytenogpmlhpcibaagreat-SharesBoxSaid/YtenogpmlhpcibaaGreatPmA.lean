/-
  Plain laws.
  Conditions: none.
-/
import Derived.Test.YtenogpmlhpcibaaGreatMd
import Derived.Test.YtenogpmlhpcibaaGreatPlA
import Derived.Test.YtenogpmlhpcibaaGreatEn
set_option linter.all false
namespace Go.Law
open Go Go.AM
theorem zvZ {α S R:Type} (F:Nat->Int->S->Option R) (xs:List α) (spec:List α->S->Option R) (hl:xs.length<1048576) (h0:∀m s,F (m+1) (xs.length:Int) s=spec [] s)
  (hs:∀m (i:Nat) x l s,idx xs (i:Int)=some x->(i:Int)<(xs.length:Int)->i<1048576->xs.drop (i+1)=l->(∀s',F m (w64 ((i:Int)+1)) s'=spec l s')->F (m+1) (i:Int) s=spec (x::l) s) :
  ∀(l:List α) (i m:Nat) (s:S),i<=xs.length->xs.drop i=l->l.length<m->F m (i:Int) s=spec l s:=by
 intro l
 induction l with
 | nil =>
  intro i m s hi hd hm
  obtain ⟨m,rfl⟩:∃k,m=k+1:=⟨m-1,by omega⟩;have:i=xs.length:=by have:=List.drop_eq_nil_iff.1 hd;omega
  subst this
  exact h0 m s
 | cons x l ih =>
  intro i m s hi hd hm
  obtain ⟨m,rfl⟩:∃k,m=k+1:=⟨m-1,by omega⟩;simp only [List.length_cons] at hm
  have hlt:i<xs.length:=by
   rcases Nat.lt_or_ge i xs.length with h | h
   ·exact h
   ·rw [List.drop_eq_nil_of_le h] at hd;cases hd
  rw [List.drop_eq_getElem_cons hlt] at hd
  injection hd with h1 h2
  refine hs m i x l s (by rw [zcz hlt,h1]) (by omega) (by omega) h2 fun s'=>?_
  rw [zaw (by omega) (by omega)];exact ih (i+1) m s' (by omega) h2 (by omega)
theorem zqn {α S R:Type} {F:Nat->Int->S->Option R} {xs:List α} {spec:List α->S->Option R} (hl:xs.length<1048576) {n:Nat} (hn:xs.length<n) (s:S) (h0:∀m s,F (m+1) (xs.length:Int) s=spec [] s)
  (hs:∀m (i:Nat) x l s,idx xs (i:Int)=some x->(i:Int)<(xs.length:Int)->i<1048576->xs.drop (i+1)=l->(∀s',F m (w64 ((i:Int)+1)) s'=spec l s')->F (m+1) (i:Int) s=spec (x::l) s) :
  F n 0 s=spec xs s:=zvZ F xs spec hl h0 hs xs 0 n s (by omega) rfl hn
theorem zti {α S R:Type} (F:Nat->Int->S->Option R) (xs:List α) (spec:List α->S->Option R) (I:List α->S->Prop) (hl:xs.length<1048576) (h0:∀m s,I [] s->F (m+1) (xs.length:Int) s=spec [] s)
  (hs:∀m (i:Nat) x l s,I (x::l) s->idx xs (i:Int)=some x->(i:Int)<(xs.length:Int)->i<1048576->xs.drop (i+1)=l->(∀s',I l s'->F m (w64 ((i:Int)+1)) s'=spec l s')->F (m+1) (i:Int) s=spec (x::l) s) :
  ∀(l:List α) (i m:Nat) (s:S),i<=xs.length->xs.drop i=l->l.length<m->I l s->F m (i:Int) s=spec l s:=by
 intro l
 induction l with
 | nil =>
  intro i m s hi hd hm hI
  obtain ⟨m,rfl⟩:∃k,m=k+1:=⟨m-1,by omega⟩;have:i=xs.length:=by have:=List.drop_eq_nil_iff.1 hd;omega
  subst this
  exact h0 m s hI
 | cons x l ih =>
  intro i m s hi hd hm hI
  obtain ⟨m,rfl⟩:∃k,m=k+1:=⟨m-1,by omega⟩;simp only [List.length_cons] at hm
  have hlt:i<xs.length:=by
   rcases Nat.lt_or_ge i xs.length with h | h
   ·exact h
   ·rw [List.drop_eq_nil_of_le h] at hd;cases hd
  rw [List.drop_eq_getElem_cons hlt] at hd
  injection hd with h1 h2
  refine hs m i x l s hI (by rw [zcz hlt,h1]) (by omega) (by omega) h2 fun s' hI'=>?_
  rw [zaw (by omega) (by omega)];exact ih (i+1) m s' (by omega) h2 (by omega) hI'
theorem zaa {α β:Type} (a:α) (f:α->Option β):Option.bind (some a) f=f a:=rfl
theorem within_eq (a b c:Int):zdI a b c=some (inR a b c):=by
 unfold zdI zev inR
 by_cases h:b<=a<;>simp [h]
theorem Within_eq (a b c:Int):zcQ a b c=some (inR a b c):=by
 unfold zcQ zdx inR
 by_cases h:b<=a<;>simp [h]
def zpI (lo hi:Int):Option Int->List Int->Bool
 | _,[]=>true
 | prev,x::l=>inR x lo hi&&(match prev with | none=>true | some y=>decide (y<x))&&zpI lo hi (some x) l
theorem zkr (pre:List Int):pre=[]\/∃q y,pre=q++[y]:=by
 rcases List.eq_nil_or_concat pre with h | ⟨q,y,h⟩
 ·exact .inl h
 ·exact .inr ⟨q,y,by simpa using h⟩
theorem zsf (q:List Int) (y:Int) (l:List Int) (h:(q++[y]++l).length<1048576):idx (q++[y]++l) (w64 (((q++[y]).length:Int)-1))=some y:=by
 simp at h
 rw [zaw (by simp<;>omega) (by simp<;>omega),show (((q++[y]).length:Int)-1)=(q.length:Int) by simp,show q++[y]++l=q++y::l by simp,zf2]
theorem zv0 (lo hi:Int):∀(l pre:List Int) (m:Nat),(pre++l).length<1048576->l.length<m ->
  zb3 (pre++l) lo hi m (pre.length:Int)=some (zpI lo hi pre.getLast? l):=by
 intro l
 induction l with
 | nil =>
  intro pre m hs hm
  obtain ⟨m,rfl⟩:∃k,m=k+1:=⟨m-1,by omega⟩;simp [zb3,zeL,zfG,zpI]
 | cons x l ih =>
  intro pre m hs hm
  obtain ⟨m,rfl⟩:∃k,m=k+1:=⟨m-1,by omega⟩;have h:=ih (pre++[x]) m (by simpa using hs) (by simp at hm;omega)
  rw [show (((pre++[x]).length:Nat):Int)=(pre.length:Int)+1 by simp,List.getLast?_concat,show pre++[x]++l=pre++x::l by simp] at h;simp at hs hm
  simp only [zb3,zeL]
  rw [if_pos (by simp<;>omega),zf2];simp only [Option.bind_some,Within_eq,zpI]
  by_cases hr:inR x lo hi=true
  ·rw [if_neg (by simp [hr])];rcases zkr pre with rfl | ⟨q,y,rfl⟩
   ·rw [if_neg (by simp)];simp only [zcv]
    rw [if_neg (by simp),zaw (by simp) (by simp),h];simp [hr]
   ·rw [if_pos (by simp<;>omega),zsf q y (x::l) (by simp at hs ⊢;omega)];simp only [Option.bind_some,zcv,List.getLast?_concat]
    by_cases hb:x<=y
    ·rw [if_pos (by simpa using hb)];simp [hr,show ¬y<x by omega]
    ·rw [if_neg (by simpa using hb),zaw (by omega) (by omega),h];simp [hr,show y<x by omega]
  ·have hr':inR x lo hi=false:=by simpa using hr
   rw [if_pos (by simp [hr'])];simp [zcv,hr']
theorem zqo {n:Nat} (l:List Int) (lo hi:Int) (hs:l.length<1048576) (hn:l.length<n):zhW n l lo hi=some (zpI lo hi none l):=zv0 lo hi l [] n (by simpa using hs) hn
theorem zv1 (many most:Int):∀(l pre:List Int) (m:Nat),(pre++l).length<1048576->l.length<m ->
  zb4 (pre++l) many most m (pre.length:Int)=some (zpI 1 most pre.getLast? l&&decide (((pre++l).length:Int)<=many)):=by
 intro l
 induction l with
 | nil =>
  intro pre m hs hm
  obtain ⟨m,rfl⟩:∃k,m=k+1:=⟨m-1,by omega⟩;simp [zb4,zeN,zfH,zpI]
 | cons x l ih =>
  intro pre m hs hm
  obtain ⟨m,rfl⟩:∃k,m=k+1:=⟨m-1,by omega⟩;have h:=ih (pre++[x]) m (by simpa using hs) (by simp at hm;omega)
  rw [show (((pre++[x]).length:Nat):Int)=(pre.length:Int)+1 by simp,List.getLast?_concat,show pre++[x]++l=pre++x::l by simp] at h;simp at hs hm
  simp only [zb4,zeN]
  rw [if_pos (by simp<;>omega),zf2];simp only [Option.bind_some,within_eq,zpI]
  by_cases hr:inR x 1 most=true
  ·rw [if_neg (by simp [hr])];rcases zkr pre with rfl | ⟨q,y,rfl⟩
   ·rw [if_neg (by simp)];simp only [zcw]
    rw [if_neg (by simp),zaw (by simp) (by simp),h];simp [hr]
   ·rw [if_pos (by simp<;>omega),zsf q y (x::l) (by simp at hs ⊢;omega)];simp only [Option.bind_some,zcw,List.getLast?_concat]
    by_cases hb:x<=y
    ·rw [if_pos (by simpa using hb)];simp [hr,show ¬y<x by omega]
    ·rw [if_neg (by simpa using hb),zaw (by omega) (by omega),h];simp [hr,show y<x by omega]
  ·have hr':inR x 1 most=false:=by simpa using hr
   rw [if_pos (by simp [hr'])];simp [zcw,hr']
theorem zqp {n:Nat} (l:List Int) (many most:Int) (hs:l.length<1048576) (hn:l.length<n):zhX n l many most=some (zpI 1 most none l&&decide ((l.length:Int)<=many)):=zv1 many most l [] n (by simpa using hs) hn
def valid (w:Wheel):Bool:=inR w.Round 1 200&&(zpI 1 w.Round none w.Notches&&decide ((w.Notches.length:Int)<=12))&&(zpI 1 100 none w.Coins&&decide ((w.Coins.length:Int)<=4))
def zqq (n:Nat) (w:Wheel):Prop:=w.Notches.length<1048576/\w.Coins.length<1048576/\w.Notches.length<n/\w.Coins.length<n
theorem Check_eq {n:Nat} {w:Wheel} (h:zqq n w):zhy n w=some (cond (valid w) 0 10):=by
 obtain ⟨h1,h2,h3,h4⟩:=h
 unfold zhy zd6 valid
 rw [within_eq,zaa,zqp _ _ _ h1 h3,zqp _ _ _ h2 h4,zaa,zaa];cases inR w.Round 1 200<;>cases (zpI 1 w.Round none w.Notches&&decide ((w.Notches.length:Int)<=12))<;>cases (zpI 1 100 none w.Coins&&decide ((w.Coins.length:Int)<=4))<;>rfl
theorem rCheck_eq {n:Nat} {w:Wheel} (h:zqq n w):ziJ n w=some (cond (valid w) 0 10):=by
 obtain ⟨h1,h2,h3,h4⟩:=h
 unfold ziJ zcR valid
 rw [Within_eq,zaa,zqo _ _ _ h1 h3,zqo _ _ _ h2 h4,zaa,zaa]
 by_cases q1:(w.Notches.length:Int)<=12
 ·have e1:decide ((w.Notches.length:Int)>12)=false:=by simpa using q1
  rw [e1]
  by_cases q2:(w.Coins.length:Int)<=4
  ·have e2:decide ((w.Coins.length:Int)>4)=false:=by simpa using q2
   rw [e2];simp only [q1,q2,decide_true,Bool.and_true]
   cases inR w.Round 1 200<;>cases zpI 1 w.Round none w.Notches<;>cases zpI 1 100 none w.Coins<;>rfl
  ·have e2:decide ((w.Coins.length:Int)>4)=true:=by simp;omega
   rw [e2];simp only [q2,decide_false,Bool.and_false]
   cases inR w.Round 1 200<;>cases zpI 1 w.Round none w.Notches<;>rfl
 ·have e1:decide ((w.Notches.length:Int)>12)=true:=by simp;omega
  rw [e1];simp only [q1,decide_false,Bool.and_false,Bool.false_and]
  cases inR w.Round 1 200<;>rfl
theorem zpn {lo hi:Int}:∀{l:List Int} {p:Option Int},zpI lo hi p l=true->(∀x,x∈l->lo<=x/\x<=hi/\∀y,p=some y->y<x)/\l.Pairwise (·<·)
 | [],_,_=>⟨fun x h=>by simp at h,.nil⟩
 | x::l,p,h=>by
  simp only [zpI,Bool.and_eq_true] at h
  obtain ⟨⟨h1,h2⟩,h3⟩:=h;obtain ⟨ih1,ih2⟩:=zpn h3;have h1':=zck.1 h1
  have hp:∀y,p=some y->y<x:=fun y e=>by subst e;simpa using h2
  refine ⟨fun z hz=>?_,List.pairwise_cons.2 ⟨fun z hz=>(ih1 z hz).2.2 x rfl,ih2⟩⟩;rcases List.mem_cons.1 hz with rfl | hz
  ·exact ⟨h1'.1,h1'.2,hp⟩
  ·have:=ih1 z hz
   exact ⟨this.1,this.2.1,fun y e=>Int.lt_trans (hp y e) (this.2.2 x rfl)⟩
structure OkW (w:Wheel):Prop where
 r1:1<=w.Round
 r2:w.Round<=200
 nlen:w.Notches.length<=12
 clen:w.Coins.length<=4
 nm:∀x,x∈w.Notches->1<=x/\x<=w.Round
 nd:w.Notches.Pairwise (·<·)
 cm:∀x,x∈w.Coins->1<=x/\x<=100
 cd:w.Coins.Pairwise (·<·)
theorem ziV {w:Wheel} (h:valid w=true):OkW w:=by
 simp only [valid,Bool.and_eq_true,decide_eq_true_eq] at h
 obtain ⟨⟨h1,h2,h3⟩,h4,h5⟩:=h;have h1:=zck.1 h1
 obtain ⟨a1,a2⟩:=zpn h2;obtain ⟨b1,b2⟩:=zpn h4;exact ⟨h1.1,h1.2,by omega,by omega,fun x hx=>⟨(a1 x hx).1,(a1 x hx).2.1⟩,a2,fun x hx=>⟨(b1 x hx).1,(b1 x hx).2.1⟩,b2⟩
theorem OkW.len {w:Wheel} (h:OkW w) {n:Nat} (hn:100<=n):zqq n w:=⟨by have:=h.nlen;omega,by have:=h.clen;omega,by have:=h.nlen;omega,by have:=h.clen;omega⟩
theorem zAb {n:Nat} (l:List Int) (x:Int) (hs:l.length<1048576) (hn:l.length<n):zoX n l x=some (decide (x∈l)):=by
 have:=zqn (F:=fun m i (_:Unit)=>zfs l x m i) (xs:=l) (spec:=fun l _=>some (decide (x∈l))) (n:=n) hs hn () (fun m s=>by simp [zfs,zhc,ziK]) (fun m i y l s hx hi _ _ hrec=>by
  simp only [zfs,zhc]
  rw [if_pos (by simpa using hi),hx,zaa]
  by_cases h:y=x
  ·rw [if_pos (by simpa using h)];simp [h]
  ·rw [if_neg (by simpa using h),hrec ()];simp [Ne.symm h])
 exact this
def nx (R p:Int):Int:=if p+1=R then 0 else p+1
def hit (w:Wheel) (p:Int):Int:=if p+1∈w.Notches then 1 else 0
def put (w:Wheel):Nat->Int->Int->Int×Int
 | 0,p,c=>(p,c)
 | k+1,p,c=>put w k (nx w.Round p) (c+hit w p)
theorem zsg {R p:Int} (h0:0<=p) (h1:p<R):0<=nx R p/\nx R p<R:=by
 unfold nx
 split<;>omega
theorem zqr (w:Wheel) (p:Int):0<=hit w p/\hit w p<=1:=by
 unfold hit
 split<;>omega
theorem zAc {n:Nat} {w:Wheel} (h:OkW w) (hn:100<=n) {cents:Nat} (hc:cents<1048576):∀(k i m:Nat) (p c:Int),k=cents-i->i<=cents->k<m->0<=p->p<w.Round->0<=c->c<=i ->
  zcy n w cents m p c (i:Int)=some (put w k p c):=by
 have hr:=h.r2
 intro k
 induction k with
 | zero =>
  intro i m p c hk hi hm hp hp' hc0 hc1
  obtain ⟨m,rfl⟩:∃k,m=k+1:=⟨m-1,by omega⟩;have:i=cents:=by omega
  subst this
  simp [zcy,zgz,zh0,put]
 | succ k ih =>
  intro i m p c hk hi hm hp hp' hc0 hc1
  obtain ⟨m,rfl⟩:∃k,m=k+1:=⟨m-1,by omega⟩;have hx:=zqr w p
  have hy:=zsg hp hp'
  have key:=ih (i+1) m (nx w.Round p) (c+hit w p) (by omega) (by omega) (by omega) hy.1 hy.2 (by omega) (by omega)
  simp only [zcy,zgz]
  rw [if_pos (by simp;omega),zaw (by omega) (by omega),zAb _ _ (by have:=h.nlen;omega) (by have:=h.nlen;omega),zaa];have e1:w64 ((i:Int)+1)=((i+1:Nat):Int):=by rw [zaw (by omega) (by omega)];simp
  have e2:w64 (c+1)=c+1:=zaw (by omega) (by omega)
  simp only [zgO,zgN,e1,e2,zaw (x:=p+1) (by omega) (by omega)]
  show _=some (put w k (nx w.Round p) (c+hit w p))
  rw [←key]
  unfold nx hit
  by_cases q1:p+1∈w.Notches
  ·rw [if_pos (by simpa using q1),if_pos q1]
   by_cases q2:p+1=w.Round
   ·rw [if_pos (by simpa using q2),if_pos q2]
   ·rw [if_neg (by simpa using q2),if_neg q2]
  ·rw [if_neg (by simpa using q1),if_neg q1,Int.add_zero]
   by_cases q2:p+1=w.Round
   ·rw [if_pos (by simpa using q2),if_pos q2]
   ·rw [if_neg (by simpa using q2),if_neg q2]
theorem zy8 {n:Nat} {w:Wheel} (h:OkW w) (hn:100<=n) {p c:Int} (hp:0<=p) (hp':p<w.Round) (hc:0<=c) (hc':c<n) (hc2:c<1048576):zkK n w p c=some (put w c.toNat p 0):=by
 have:=zAc h hn (cents:=c.toNat) (by omega) c.toNat 0 n p 0 (by omega) (by omega) (by omega) hp hp' (by omega) (by omega)
 rw [show ((c.toNat:Nat):Int)=c by omega] at this;exact this
theorem zqs {w:Wheel} (h:OkW w):∀(k:Nat) (p c:Int),0<=p->p<w.Round->(0<=(put w k p c).1/\(put w k p c).1<w.Round)/\c<=(put w k p c).2/\(put w k p c).2<=c+k
 | 0,p,c,h0,h1=>⟨⟨h0,h1⟩,by simp [put],by simp [put]⟩
 | k+1,p,c,h0,h1=>by
  have hy:=zsg h0 h1
  have hx:=zqr w p
  have:=zqs h k (nx w.Round p) (c+hit w p) hy.1 hy.2
  simp only [put]
  omega
theorem zuH (w:Wheel):∀(j k:Nat) (p c:Int),put w (j+k) p c=put w k (put w j p c).1 (put w j p c).2
 | 0,k,p,c=>by simp [put]
 | j+1,k,p,c=>by
  rw [show j+1+k=(j+k)+1 by omega];simp only [put]
  exact zuH w j k _ _
theorem zuI {A R:Int} (hR:0<R):(A+1) / R=A / R+(if A % R=R-1 then 1 else 0):=by
 have h1:=Int.mul_ediv_add_emod A R
 have h2:=Int.emod_nonneg A (show R≠0 by omega)
 have h3:=Int.emod_lt_of_pos A hR
 split
 ·rename_i h
  have:A+1=R*(A / R+1):=by rw [Int.mul_add];omega
  rw [this,Int.mul_ediv_cancel_left _ (by omega)]
 ·rename_i h
  have:A+1=(A % R+1)+R*(A / R):=by omega
  rw [this,Int.add_mul_ediv_left _ _ (by omega),Int.ediv_eq_zero_of_lt (by omega) (by omega)]
  omega
theorem zuJ {A R:Int} (hR:0<R):(A+1) % R=nx R (A % R):=by
 have h1:=Int.mul_ediv_add_emod A R
 have h2:=Int.emod_nonneg A (show R≠0 by omega)
 have h3:=Int.emod_lt_of_pos A hR
 unfold nx
 split
 ·rename_i h
  have:A+1=R*(A / R+1):=by rw [Int.mul_add];omega
  rw [this,Int.mul_emod_right]
 ·rename_i h
  have:A+1=(A % R+1)+R*(A / R):=by omega
  rw [this,Int.add_mul_emod_self_left,Int.emod_eq_of_lt (by omega) (by omega)]
theorem ztj {B R m:Int} (hR:0<R) (h1:1<=m) (h2:m<=R):(B-m+R) % R=R-1↔m=B % R+1:=by
 have e1:=Int.mul_ediv_add_emod B R
 have e2:=Int.emod_nonneg B (show R≠0 by omega)
 have e3:=Int.emod_lt_of_pos B hR
 by_cases h:m<=B % R
 ·have:B-m+R=(B % R-m)+R*(B / R+1):=by rw [Int.mul_add];omega
  rw [this,Int.add_mul_emod_self_left,Int.emod_eq_of_lt (by omega) (by omega)]
  omega
 ·have:B-m+R=(B % R-m+R)+R*(B / R):=by omega
  rw [this,Int.add_mul_emod_self_left,Int.emod_eq_of_lt (by omega) (by omega)]
  omega
def reached (R e p:Int):List Int->Int
 | []=>0
 | m::l=>(e-m+R) / R-(p-m+R) / R+reached R e p l
def turn (w:Wheel) (p c:Int):Int×Int:=((p+c) % w.Round,reached w.Round (p+c) p w.Notches)
theorem zl5 {R B p:Int} (hR:0<R):∀(l:List Int),(∀x,x∈l->1<=x/\x<=R)->l.Pairwise (·<·)->reached R (B+1) p l=reached R B p l+(if B % R+1∈l then 1 else 0)
 | [],_,_=>by simp [reached]
 | m::l,h,hd=>by
  have hm:=h m (by simp)
  obtain ⟨d1,d2⟩:=List.pairwise_cons.1 hd;have ih:=zl5 (B:=B) (p:=p) hR l (fun x hx=>h x (by simp [hx])) d2
  simp only [reached]
  rw [ih,show B+1-m+R=(B-m+R)+1 by omega,zuI hR];have hn:=ztj (B:=B) hR hm.1 hm.2
  by_cases q:m=B % R+1
  ·rw [if_pos (hn.2 q),if_pos (show B % R+1∈m::l by simp [q]),if_neg (fun hx=>by have:=d1 _ hx;omega)]
   omega
  ·rw [if_neg (fun hx=>q (hn.1 hx))]
   by_cases q2:B % R+1∈l
   ·rw [if_pos q2,if_pos (by simp [q2])]
    omega
   ·rw [if_neg q2,if_neg (by simp [q2];omega)]
    omega
theorem zl6 {R p:Int}:∀(l:List Int),reached R p p l=0
 | []=>rfl
 | m::l=>by simp only [reached];rw [zl6 l];omega
theorem zpo {w:Wheel} (h:OkW w) {p:Int} (h0:0<=p) (h1:p<w.Round):∀k:Nat,put w k p 0=turn w p k
 | 0=>by
  unfold turn
  rw [show p+((0:Nat):Int)=p by simp,zl6,Int.emod_eq_of_lt h0 h1]
  rfl
 | k+1=>by
  have hr:=h.r1
  have ih:=zpo h h0 h1 k
  rw [zuH w k 1 p 0,ih]
  unfold turn
  simp only [put]
  rw [show p+((k+1:Nat):Int)=(p+k)+1 by simp;omega,zuJ (by omega),zl5 (by omega) w.Notches h.nm h.nd]
  rfl
theorem zfC {w:Wheel} (h:OkW w) {p c:Int} (h0:0<=p) (h1:p<w.Round) (hc:0<=c):(0<=(turn w p c).1/\(turn w p c).1<w.Round)/\0<=(turn w p c).2/\(turn w p c).2<=c:=by
 have:=zqs h c.toNat p 0 h0 h1
 rw [zpo h h0 h1,show ((c.toNat:Nat):Int)=c by omega] at this
 omega
theorem zv2 {n:Nat} {w:Wheel} (h:OkW w) (hn:100<=n) {p c:Int} (hp:0<=p) (hp':p<w.Round) (hc:0<=c) (hc':c<n) (hc2:c<1048576):zkK n w p c=some (turn w p c):=by
 rw [zy8 h hn hp hp' hc hc' hc2,zpo h hp hp',show ((c.toNat:Nat):Int)=c by omega]
theorem zl7 {R e p:Int} (hR:0<R) (h:p<=e):∀l:List Int,0<=reached R e p l
 | []=>by simp [reached]
 | m::l=>by
  have:=zl7 hR h l
  have h2:=Int.ediv_le_ediv hR (show p-m+R<=e-m+R by omega)
  simp only [reached]
  omega
theorem zxm {n:Nat} {w:Wheel} (h:OkW w) (hn:100<=n) {p c:Int} (hp:0<=p) (hp':p<w.Round) (hc:0<=c) (hc2:c<1048576):zfe n ⟨w⟩ p c=some (turn w p c):=by
 have hr:=h.r1
 have hr2:=h.r2
 have hl:=h.nlen
 have hfin:=zfC h hp hp' hc
 unfold turn at hfin
 simp only at hfin
 have e0:w64 (p+c)=p+c:=zaw (by omega) (by omega)
 have key:=zti (F:=fun m i s=>zbs ⟨w⟩ p c m s i) (xs:=w.Notches) (spec:=fun l s=>some ((p+c) % w.Round,s+reached w.Round (p+c) p l)) (I:=fun l s=>0<=s/\s+reached w.Round (p+c) p l<=c/\∀x,x∈l->1<=x/\x<=w.Round) (by omega)
  (fun m s hI=>by simp [zbs,zc9,zdN,reached,e0,zy5 (show 0<=p+c by omega) (show 0<w.Round by omega)])
  (fun m i x l s hI hx hi _ _ hrec=>by
   obtain ⟨i1,i2,i3⟩:=hI;have hxm:=i3 x (by simp)
   simp only [reached] at i2
   have hrl:=zl7 (R:=w.Round) (e:=p+c) (p:=p) (by omega) (by omega) l
   have hd1:=Int.ediv_nonneg (show 0<=p+c-x+w.Round by omega) (show 0<=w.Round by omega)
   have hd2:=Int.ediv_nonneg (show 0<=p-x+w.Round by omega) (show 0<=w.Round by omega)
   have hd3:=Int.ediv_le_self w.Round (show 0<=p+c-x+w.Round by omega)
   have hd5:=Int.ediv_le_ediv (show 0<w.Round by omega) (show p-x+w.Round<=p+c-x+w.Round by omega)
   simp only [zbs,zc9]
   rw [if_pos (by simpa using hi),hx,zaa,e0,zaw (x:=p+c-x) (by omega) (by omega),zaw (x:=p+c-x+w.Round) (by omega) (by omega),zaw (x:=p-x) (by omega) (by omega),zaw (x:=p-x+w.Round) (by omega) (by omega),
    zqa (by omega) (by omega) (by omega),zqa (by omega) (by omega) (by omega),zaa,zaa,zaw (x:=_-_) (by omega) (by omega),zaw (x:=s+_) (by omega) (by omega),
    hrec _ ⟨by omega,by omega,fun y hy=>i3 y (by simp [hy])⟩]
   simp only [reached]
   congr 2
   omega)
  w.Notches 0 n 0 (by omega) rfl (by omega) ⟨by omega,by omega,h.nm⟩
 have key:zbs ⟨w⟩ p c n 0 0=_:=key
 unfold zfe
 rw [key]
 unfold turn
 rw [Int.zero_add]
structure OkS (w:Wheel) (s:Stand) (b:Int):Prop where
 p0:0<=s.Place
 p1:s.Place<w.Round
 c0:0<=s.Credit
 c1:s.Credit<=b
def zf8 (w:Wheel) (a:Int):Bool:=inR a (-1) (w.Coins.length-1)
def zsh (w:Wheel) (a:Int):Bool:=inR a 0 (w.Coins.length-1)
def coin (w:Wheel) (a:Int):Int:=w.Coins.getD a.toNat 0
def zjz (w:Wheel) (s:Stand) (a:Int):Stand×Bool :=
 if 0<=a then (⟨(turn w s.Place (coin w a)).1,s.Credit+(turn w s.Place (coin w a)).2⟩,false) else if s.Credit=0 then (s,false) else (⟨0,s.Credit-1⟩,true)
theorem zmF {w:Wheel} {a:Int} (h0:0<=a) (h1:a<=w.Coins.length-1):idx w.Coins a=some (coin w a):=by
 obtain ⟨k,rfl⟩:∃k:Nat,a=k:=⟨a.toNat,by omega⟩;have hk:k<w.Coins.length:=by omega
 rw [zcz hk];simp [coin,hk]
theorem zd8 {w:Wheel} (h:OkW w) {a:Int} (h0:0<=a) (h1:a<=w.Coins.length-1):1<=coin w a/\coin w a<=100:=by
 obtain ⟨k,rfl⟩:∃k:Nat,a=k:=⟨a.toNat,by omega⟩;have hk:k<w.Coins.length:=by omega
 have:coin w k=w.Coins[k]:=by simp [coin,hk]
 rw [this];exact h.cm _ (List.getElem_mem hk)
theorem zuK {w:Wheel} (h:OkW w) {s:Stand} {b a:Int} (hs:OkS w s b) (ha:zf8 w a=true):OkS w (zjz w s a).1 (b+100):=by
 have ha:=zck.1 ha
 have hr:=h.r1
 unfold zjz
 split
 ·rename_i h0
  have hc:=zd8 h h0 ha.2
  have ht:=zfC h hs.p0 hs.p1 (show 0<=coin w a by omega)
  have:=hs.c0
  have:=hs.c1
  exact ⟨ht.1.1,ht.1.2,by show 0<=s.Credit+_;omega,by show s.Credit+_<=_;omega⟩
 ·have:=hs.c0
  have:=hs.c1
  split
  ·exact ⟨hs.p0,hs.p1,hs.c0,by show s.Credit<=b+100;omega⟩
  ·exact ⟨by show (0:Int)<=0;omega,by show (0:Int)<_;omega,by show 0<=s.Credit-1;omega,by show s.Credit-1<=_;omega⟩
theorem zuL {n:Nat} {w:Wheel} (h:OkW w) (hn:200<=n) {s:Stand} {b a:Int} (hs:OkS w s b) (hb:b<1099511627776) (ha:zf8 w a=true):ze1 n w s a=some (zjz w s a):=by
 have ha:=zck.1 ha
 have:=hs.c0
 have:=hs.c1
 unfold ze1 zjz
 by_cases h0:0<=a
 ·have hc:=zd8 h h0 ha.2
  have ht:=zfC h hs.p0 hs.p1 (show 0<=coin w a by omega)
  rw [if_pos (by simpa using h0),if_pos h0,zmF h0 ha.2,zaa,zv2 h (by omega) hs.p0 hs.p1 (by omega) (by omega) (by omega),zaa,zaw (by omega) (by omega)]
 ·rw [if_neg (by simpa using h0),if_neg h0]
  by_cases hc:s.Credit=0
  ·rw [if_pos (by simpa using hc),if_pos hc]
  ·rw [if_neg (by simpa using hc),if_neg hc,zaw (by omega) (by omega)]
theorem zy9 {n:Nat} {w:Wheel} (h:OkW w) (hn:200<=n) {s:Stand} {b a:Int} (hs:OkS w s b) (hb:b<1099511627776) (ha:zf8 w a=true):zfJ n ⟨w⟩ s a=some (zjz w s a).1:=by
 have ha:=zck.1 ha
 have:=hs.c0
 have:=hs.c1
 unfold zfJ zjz
 by_cases h0:0<=a
 ·have hc:=zd8 h h0 ha.2
  have ht:=zfC h hs.p0 hs.p1 (show 0<=coin w a by omega)
  rw [if_pos (by simp;omega),if_pos h0,zmF h0 ha.2,zaa,zxm h (by omega) hs.p0 hs.p1 (by omega) (by omega),zaa,zaw (by omega) (by omega)]
 ·rw [if_neg (by simp;omega),if_neg h0]
  by_cases hc:s.Credit=0
  ·rw [if_neg (by simp;omega),if_pos hc]
  ·rw [if_pos (by simp;omega),if_neg hc,zaw (by omega) (by omega)]
theorem zAv {n:Nat} (f:Int->Option Bool) (g:Int->Bool) (xs:List Int) (hf:∀x,x∈xs->f x=some (g x)) (hl:xs.length<1048576) (hn:xs.length<n) :
  zha n (fun x (_:Unit)=>(f x).map fun y=>(y,())) xs ()=some (decide ((xs.length:Int)<=20)&&xs.all g,()):=by
 have key:∀(l:List Int) (i m:Nat) (s:Unit),i<=xs.length->xs.drop i=l->l.length<m->(zaD xs (zcH (fun x (_:Unit)=>(f x).map fun y=>(y,()))) m (i:Int) s).map (fun r=>decide (r.1≥0))=some (!l.all g):=by
  intro l i m s h1 h2 h3
  refine zvZ (fun m i s=>(zaD xs (zcH (fun x (_:Unit)=>(f x).map fun y=>(y,()))) m i s).map (fun r=>decide (r.1≥0))) xs (fun l _=>some (!l.all g)) hl (fun m s=>?_) (fun m i x l s hx hi _ _ hrec=>?_) l i m s h1 h2 h3
  ·simp [zaD,zbj,zb5]
  ·have hmem:x∈xs:=by
    unfold idx at hx
    rw [if_pos (by omega)] at hx;exact List.mem_of_getElem? hx
   simp only [zaD,zbj]
   rw [if_pos (by simpa using hi),hx,zaa];simp only [zcH,hf x hmem,Option.map_some,zaa]
   by_cases hg:g x=true
   ·rw [if_neg (by simp [hg])];have:=hrec ()
    rw [this];simp [hg]
   ·rw [if_pos (by simpa using hg)];simp [hg]
 have h:=key xs 0 n () (by omega) rfl hn
 unfold zha zd0
 by_cases hq:(xs.length:Int)<=20
 ·rw [if_pos (by simpa using hq)]
  unfold zbv zdp
  change Option.map _ (zaD xs _ n 0 ())=_ at h;cases hx:zaD xs (zcH (fun x (_:Unit)=>(f x).map fun y=>(y,()))) n 0 () with
  | none=>rw [hx] at h;cases h
  | some r =>
   rw [hx] at h;simp only [Option.map_some,Option.some.injEq] at h
   simp only [zaa]
   rw [h];simp [hq]
 ·rw [if_neg (by simpa using hq)];simp [hq]
theorem zuM {w:Wheel} (hw:w.Coins.length<1048576) (x:Int):zeg ⟨w⟩ x=some (zsh w x):=by
 unfold zeg zsh
 simp only []
 rw [zaw (by omega) (by omega),within_eq,zaa]
theorem zv3 {w:Wheel} (hw:w.Coins.length<1048576) (x:Int):zcU ⟨w⟩ x=some (zf8 w x):=by
 unfold zcU zcN
 rw [zuM hw,zaa];have e:zf8 w x=(decide (x=-1) || zsh w x):=by
  rw [Bool.eq_iff_iff];simp only [zf8,zsh,zck,Bool.or_eq_true,decide_eq_true_eq]
  omega
 rw [e]
 by_cases h:x=-1
 ·rw [if_pos (by simpa using h)];simp [h]
 ·rw [if_neg (by simpa using h)];simp [h]
def zks (w:Wheel) (p:Int):Bool:=inR p 0 (w.Round-1)
theorem ztk {w:Wheel} (h:OkW w) (p:Int):zdM ⟨w⟩ p=some (zks w p):=by
 have:=h.r1
 have:=h.r2
 unfold zdM zks
 simp only []
 rw [zaw (by omega) (by omega),within_eq,zaa]
def zif (w:Wheel) (s:Stand):Bool:=zks w s.Place&&inR s.Credit 0 20
theorem ztl {w:Wheel} {s:Stand} (h:zif w s=true):OkS w s 20:=by
 simp only [zif,zks,Bool.and_eq_true,zck] at h
 exact ⟨h.1.1,by omega,h.2.1,h.2.2⟩
def zw:Wheel_:=⟨⟨0,[],[]⟩⟩
theorem zxn {n:Nat} {w:Wheel} (hl:zqq n w) (aF:Wheel_->Unit->Option (Bool×Unit)) (b:Bool) (ha:valid w=true->aF ⟨w⟩ ()=some (b,())) :
  zjL n aF w ()=some (cond (valid w) (cond b (((⟨w⟩:Wheel_),0),()) ((zw,1),())) ((zw,10),())):=by
 unfold zjL
 rw [Check_eq hl,zaa];cases hv:valid w with
 | false=>rfl
 | true =>
  rw [ha hv];cases b<;>rfl
def ztm (w:Wheel):List Int->Int->Stand->Stand×Int
 | [],k,s=>(s,k)
 | a::l,k,s=>ztm w l (k+if (zjz w s a).2 then 1 else 0) (zjz w s a).1
def zzO (w:Wheel) (s:Stand) (acts:List Int):Stand×Int×Int :=
 if valid w=true then (if zif w s=true/\(acts.length:Int)<=20/\acts.all (zf8 w)=true then ((ztm w acts 0 s).1,(ztm w acts 0 s).2,0) else (⟨0,0⟩,0,1)) else (⟨0,0⟩,0,10)
theorem zv4 {w:Wheel} {s:Stand} {a:Int} (h:zf8 w a=true) (hc:0<=s.Credit):(zjz w s a).2=true↔a=-1/\s.Credit>0:=by
 have h:=zck.1 h
 unfold zjz
 split
 ·simp;omega
 ·split<;>simp<;>omega
theorem zAd {n:Nat} {w:Wheel} (h:OkW w) (hn:200<=n) (acts:List Int) (hl:(acts.length:Int)<=20) (ha:acts.all (zf8 w)=true) {s:Stand} (hs:OkS w s 20) :
  zbW n acts ((⟨w⟩,0),()) n 0 0 s.Place s.Credit=some ((ztm w acts 0 s).1,(ztm w acts 0 s).2,0):=by
 have key:=zti (F:=fun m i (q:Int×Stand)=>zbW n acts ((⟨w⟩,0),()) m q.1 i q.2.Place q.2.Credit) (xs:=acts) (spec:=fun l q=>some ((ztm w l q.1 q.2).1,(ztm w l q.1 q.2).2,0))
  (I:=fun l q=>(0<=q.1/\q.1+l.length<=100)/\OkS w q.2 (2100-100*l.length)/\l.length<=20/\l.all (zf8 w)=true) (by omega)
  (fun m q hI=>by simp [zbW,zgw,zhZ,ztm])
  (fun m i x l q hI hx hi _ _ hrec=>by
   obtain ⟨i1,i2,i3,i4⟩:=hI;simp only [List.length_cons,List.all_cons,Bool.and_eq_true] at i1 i2 i3 i4
   have hb:(2100-100*((l.length+1:Nat):Int))+100=2100-100*(l.length:Int):=by simp;omega
   have hok:=zuK h i2 i4.1
   rw [hb] at hok;have hmi:=zv4 i4.1 i2.c0
   have goal:∀c:Bool,(c=(zjz w q.2 x).2)->zfy n (zbW n acts ((⟨w⟩,0),()) m) ((⟨w⟩,0),()) q.1 (i:Int) q.2.Place q.2.Credit x c=some ((ztm w (x::l) q.1 q.2).1,(ztm w (x::l) q.1 q.2).2,0):=by
    rintro c rfl
    have e:(⟨q.2.Place,q.2.Credit⟩:Stand)=q.2:=rfl
    simp only [zfy,zgM,ztm,e,zy9 h hn i2 (by omega) i4.1,zaa]
    by_cases hm:(zjz w q.2 x).2=true
    ·rw [if_pos hm,zaw (x:=q.1+1) (by omega) (by omega)];have:=hrec (q.1+1,(zjz w q.2 x).1) ⟨⟨by simp;omega,by simp;omega⟩,hok,by omega,i4.2⟩
     simp only at this
     rw [this];simp [hm]
    ·rw [if_neg hm];have:=hrec (q.1,(zjz w q.2 x).1) ⟨⟨by simp;omega,by simp;omega⟩,hok,by omega,i4.2⟩
     simp only at this
     rw [this];simp [hm]
   simp only [zbW,zgw]
   rw [if_pos (by simpa using hi),hx,zaa]
   by_cases hx1:x=-1
   ·rw [if_pos (by simpa using hx1)];refine goal _ ?_;rw [Bool.eq_iff_iff,hmi];simp [hx1]
   ·rw [if_neg (by simpa using hx1)];refine goal _ ?_;rw [Bool.eq_iff_iff,hmi];simp [hx1])
  acts 0 n (0,s) (by omega) rfl (by omega) ⟨⟨by simp,by simp;omega⟩,⟨hs.p0,hs.p1,hs.c0,by have:=hs.c1;simp;omega⟩,by omega,ha⟩
 exact key
theorem zwC {n:Nat} {w:Wheel} (hl:zqq n w) (hn:200<=n) (s:Stand) (acts:List Int) (h1:acts.length<1048576) (h2:acts.length<n):zfK n w s acts=some (zzO w s acts):=by
 unfold zfK zzO
 rw [zxn hl _ (zif w s&&(decide ((acts.length:Int)<=20)&&acts.all (zf8 w))) (fun hv=>?_),zaa]
 ·cases hv:valid w with
  | false=>rfl
  | true =>
   have h:=ziV hv
   by_cases hq:zif w s=true/\(acts.length:Int)<=20/\acts.all (zf8 w)=true
   ·rw [if_pos rfl,if_pos hq,hq.1,hq.2.2,show decide ((acts.length:Int)<=20)=true by simpa using hq.2.1];exact zAd h hn acts hq.2.1 hq.2.2 (ztl hq.1)
   ·rw [if_pos rfl,if_neg hq,show (zif w s&&(decide ((acts.length:Int)<=20)&&acts.all (zf8 w)))=false by
     cases hz:(zif w s&&(decide ((acts.length:Int)<=20)&&acts.all (zf8 w))) with
     | false=>rfl
     | true=>simp only [Bool.and_eq_true,decide_eq_true_eq] at hz;exact (hq hz).elim]
    rfl
 ·have h:=ziV hv
  show (zgL n ⟨w⟩ s acts).map (fun y=>(y,()))=_
  unfold zgL zdz
  rw [ztk h,zaa,within_eq,zAv (fun x=>zcU ⟨w⟩ x) (zf8 w) acts (fun x _=>zv3 hl.2.1 x) h1 h2]
  unfold zif
  cases zks w s.Place<;>cases inR s.Credit 0 20<;>rfl
theorem Copy_eq {n:Nat} {w:Wheel} (h:zqq n w):zjM w=some w:=by
 unfold zjM
 rw [zf3 (by simp;exact Nat.le_of_lt h.1),zf3 (by simp;exact Nat.le_of_lt h.2.1)]
 rfl
theorem zlT {α:Type} {l:List α} (h:l.length<1048576):app ([]:List α) l=some l:=by rw [zf3 (by simp;omega)];rfl
section
variable {κ:Type} [DecidableEq κ]
end
def zAe (b:Bool) (s:Bool×Int) (n:Int):Bool×Int:=if s.1=true\/cond b (decide (n>s.2)) (decide (n<s.2))=true then (false,n) else s
def pick (b:Bool) (vs:List Int):Int:=(vs.foldl (zAe b) (true,0)).2
def leB (b:Bool) (x y:Int):Prop:=cond b (x<=y) (y<=x)
theorem leB.refl (b:Bool) (x:Int):leB b x x:=by cases b<;>exact Int.le_refl x
theorem leB.trans {b:Bool} {x y z:Int} (h:leB b x y) (h':leB b y z):leB b x z:=by
 cases b
 ·exact Int.le_trans h' h
 ·exact Int.le_trans h h'
theorem leB.add {b:Bool} {x y:Int} (h:leB b x y) (a:Int):leB b (a+x) (a+y):=by
 cases b
 ·exact Int.add_le_add_left h a
 ·exact Int.add_le_add_left h a
def total:List Int->Int
 | []=>0
 | x::l=>x+total l
def ze8 (l:List Int) (k:Nat):List Int:=l.set k (l.getD k 0-1)
theorem znG:∀{l:List Int} {k:Nat} {v:Int},k<l.length->total (l.set k v)=total l-l.getD k 0+v
 | [],k,v,h=>by simp at h
 | x::l,0,v,h=>by simp [total];omega
 | x::l,k+1,v,h=>by
  have:=znG (l:=l) (k:=k) (v:=v) (by simpa using h)
  simp only [List.set_cons_succ,total,List.getD_cons_succ]
  omega
theorem zjV {l:List Int} {k:Nat} (h:k<l.length):total (ze8 l k)=total l-1:=by
 unfold ze8
 rw [znG h]
 omega
theorem zhk:∀{l:List Int},(∀x,x∈l->0<=x)->0<=total l
 | [],_=>Int.le_refl _
 | x::l,h=>by
  have:=h x (by simp)
  have:=zhk (l:=l) (fun y hy=>h y (by simp [hy]))
  simp only [total]
  omega
theorem zjA:∀{l:List Int},(∀x,x∈l->0<=x)->∀k,0<=l.getD k 0/\l.getD k 0<=total l
 | [],_,k=>by simp [total]
 | x::l,h,0=>by
  have:=h x (by simp)
  have:=zhk (l:=l) (fun y hy=>h y (by simp [hy]))
  simp only [List.getD_cons_zero,total]
  omega
 | x::l,h,k+1=>by
  have:=h x (by simp)
  have:=zjA (l:=l) (fun y hy=>h y (by simp [hy])) k
  simp only [List.getD_cons_succ,total]
  omega
theorem ztn:∀{l:List Int},(∀x,x∈l->0<=x)->total l=0->∀k,l.getD k 0=0:=fun h h0 k=>by
 have:=zjA h k
 omega
structure OkP (w:Wheel) (l:List Int):Prop where
 len:l.length=w.Coins.length
 nn:∀x,x∈l->0<=x
 tot:total l<=1000
def zwD (l:List Int):List Int:=[l.getD 0 0,l.getD 1 0,l.getD 2 0,l.getD 3 0]
def zcq (l:List Int):Bag_:=⟨l.getD 0 0,l.getD 1 0,l.getD 2 0,l.getD 3 0⟩
theorem znH {l:List Int} {k:Nat} (h:k<4):idx (zwD l) (k:Int)=some (l.getD k 0):=by
 match k,h with
 | 0,_=>rfl
 | 1,_=>rfl
 | 2,_=>rfl
 | 3,_=>rfl
theorem zrr {l:List Int} {k:Nat} {v:Int} (h:k<l.length) (h4:l.length<=4):zve (zwD l) (k:Int) v=some (zwD (l.set k v)):=by
 unfold zve
 rw [if_pos ⟨by omega,by simp [zwD];omega⟩,Int.toNat_natCast]
 match l,k,h,h4 with
 | [a],0,_,_=>rfl
 | [a,b],0,_,_=>rfl
 | [a,b],1,_,_=>rfl
 | [a,b,c],0,_,_=>rfl
 | [a,b,c],1,_,_=>rfl
 | [a,b,c],2,_,_=>rfl
 | [a,b,c,d],0,_,_=>rfl
 | [a,b,c,d],1,_,_=>rfl
 | [a,b,c,d],2,_,_=>rfl
 | [a,b,c,d],3,_,_=>rfl
theorem zrs {l l':List Int} (h:zcq l=zcq l') (hl:l.length=l'.length) (h4:l.length<=4):l=l':=by
 simp only [zcq,Bag_.mk.injEq] at h
 obtain ⟨h0,h1,h2,h3⟩:=h
 apply List.ext_getElem hl
 intro i hi hi'
 have e1:l[i]=l.getD i 0:=by simp [hi]
 have e2:l'[i]=l'.getD i 0:=by simp [hi']
 rw [e1,e2]
 match i,(show i<4 by omega) with
 | 0,_=>exact h0
 | 1,_=>exact h1
 | 2,_=>exact h2
 | 3,_=>exact h3
structure Opn where
 acts:List Int
 plays:Int
 p:Int
 c:Int
 k:Nat
def zwE (w:Wheel) (p c:Int) (k:Nat):Opn:=⟨[(k:Int)],(turn w p (coin w k)).2,(turn w p (coin w k)).1,c+(turn w p (coin w k)).2,k⟩
def zxK (w:Wheel) (c:Int) (k:Nat):Opn:=⟨[-1,(k:Int)],(turn w 0 (coin w k)).2,(turn w 0 (coin w k)).1,c-1+(turn w 0 (coin w k)).2,k⟩
def zzP (w:Wheel) (p c:Int) (k:Nat):List Opn:=zwE w p c k::(if c=0\/p=0 then [] else [zxK w c k])
def zxL (w:Wheel) (p c:Int) (l:List Int):Nat->Nat->List Opn
 | 0,_=>[]
 | d+1,k=>(if l.getD k 0=0 then [] else zzP w p c k)++zxL w p c l d (k+1)
theorem zsi {w:Wheel} {p c:Int} {l:List Int} {o:Opn}:∀{d k:Nat},o∈zxL w p c l d k↔∃j,k<=j/\j<k+d/\l.getD j 0≠0/\o∈zzP w p c j
 | 0,k=>by
  simp only [zxL,List.not_mem_nil,false_iff]
  rintro ⟨j,h1,h2,_⟩
  omega
 | d+1,k=>by
  simp only [zxL,List.mem_append]
  rw [zsi]
  constructor
  ·rintro (h | ⟨j,h1,h2,h3,h4⟩)
   ·split at h
    ·simp at h
    ·rename_i h0
     exact ⟨k,Nat.le_refl k,by omega,h0,h⟩
   ·exact ⟨j,by omega,by omega,h3,h4⟩
  ·rintro ⟨j,h1,h2,h3,h4⟩
   by_cases e:j=k
   ·subst e
    exact .inl (by rw [if_neg h3];exact h4)
   ·exact .inr ⟨j,by omega,by omega,h3,h4⟩
theorem zv5 {w:Wheel} {p c:Int} {k:Nat} {o:Opn}:o∈zzP w p c k↔o=zwE w p c k\/(c≠0/\p≠0/\o=zxK w c k):=by
 unfold zzP
 rw [List.mem_cons]
 by_cases h:c=0\/p=0
 ·rw [if_pos h];simp only [List.not_mem_nil,or_false]
  exact ⟨.inl,fun q=>q.elim id fun q=>(h.elim q.1 q.2.1).elim⟩
 ·rw [if_neg h];simp only [List.mem_singleton]
  exact or_congr_right ⟨fun q=>⟨fun e=>h (.inl e),fun e=>h (.inr e),q⟩,fun q=>q.2.2⟩
def Q (b:Bool) (w:Wheel):Nat->Int->Int->List Int->Int
 | 0,_,_,_=>0
 | T+1,p,c,l=>pick b ((zxL w p c l l.length 0).map fun o=>o.plays+Q b w T o.p o.c (ze8 l o.k))
structure OkO (w:Wheel) (c:Int) (l:List Int) (o:Opn):Prop where
 k:o.k<w.Coins.length
 nz:l.getD o.k 0≠0
 p0:0<=o.p
 p1:o.p<w.Round
 c0:0<=o.c
 c1:o.c<=c+100
 y0:0<=o.plays
 y1:o.plays<=100
theorem OkP.out {w:Wheel} {l:List Int} (h:OkP w l):∀j,w.Coins.length<=j->l.getD j 0=0:=fun j hj=>by
 rw [←h.len] at hj;simp [hj]
theorem zl8 {x:Int} (h1:-9223372036854775808<=x) (h2:x<9223372036854775808):okI x=true:=by
 simp only [okI,Lit.wf,IntKind.min,IntKind.max,IntKind.signed,IntKind.bits]
 simp
 omega
theorem zuN {l:List Int} (h4:l.length<=4):l.getD 0 0+l.getD 1 0+l.getD 2 0+l.getD 3 0=total l:=by
 match l,h4 with
 | [],_=>rfl
 | [a],_=>simp [total]
 | [a,b],_=>simp [total]
 | [a,b,c],_=>simp [total];omega
 | [a,b,c,d],_=>simp [total];omega
theorem zxo {l:List Int} {k:Nat} (hk:k<l.length) (hl:l.length<1048576) (hv:0<=l.getD k 0/\l.getD k 0<=1000000):zij l k=some (ze8 l k):=by
 unfold zij
 have e:l.getD k 0=l[k]:=by simp [hk]
 rw [zlT hl,zaa,zcz hk,zaa,zaa,Int.toNat_natCast,zaw (by omega) (by omega),ze8,e]
def zec (w:Wheel) (l:List Int):Bool:=decide (l.length=w.Coins.length)&&l.all (fun x=>inR x 0 12)&&decide (total l<=12)
theorem zv6 {w:Wheel} {l:List Int} (h:zec w l=true):OkP w l/\total l<=12:=by
 simp only [zec,Bool.and_eq_true,decide_eq_true_eq,List.all_eq_true] at h
 exact ⟨⟨h.1.1,fun x hx=>(zck.1 (h.1.2 x hx)).1,by omega⟩,h.2⟩
theorem zlU {n:Nat} {w:Wheel} (hw:w.Coins.length<100000) (hn:w.Coins.length<n) (l:List Int):zeM n w l=some (zec w l):=by
 unfold zeM zec
 by_cases hl:l.length=w.Coins.length
 ·rw [if_neg (by simp;omega)];have key:=zti (F:=fun m i (s:Int)=>zce l m s i) (xs:=l) (spec:=fun k s=>some (k.all (fun x=>inR x 0 12)&&decide (s+total k<=12))) (I:=fun k s=>0<=s/\s+12*k.length<=100000000) (by omega)
   (fun m s hI=>by simp [zce,zee,zfa,total])
   (fun m i x k s hI hx hi _ _ hrec=>by
    simp only [List.length_cons] at hI
    simp only [zce,zee]
    rw [if_pos (by simpa using hi),hx,zaa,Within_eq,zaa,zaa]
    by_cases q:inR x 0 12=true
    ·have:=zck.1 q
     rw [if_neg (by simp [q]),zaw (x:=s+x) (by omega) (by omega),hrec (s+x) ⟨by omega,by omega⟩];have e:s+total (x::k)=s+x+total k:=by simp only [total];omega
     rw [e];simp only [List.all_cons,q,Bool.true_and]
    ·rw [if_pos (by simpa using q)];simp [q])
   l 0 n 0 (by omega) rfl (by omega) ⟨by omega,by omega⟩
  rw [show zce l n 0 0=_ from key];simp [hl]
 ·rw [if_pos (by simp;omega)];simp [hl]
def zgc (w:Wheel):Stand->List Int->Int
 | _,[]=>0
 | s,a::l=>(if 0<=a then (turn w s.Place (coin w a)).2 else 0)+zgc w (zjz w s a).1 l
def cnt (k:Int):List Int->Int
 | []=>0
 | a::l=>(if a=k then 1 else 0)+cnt k l
theorem zd9 (k:Int):∀(a b:List Int),cnt k (a++b)=cnt k a+cnt k b
 | [],b=>by simp [cnt]
 | x::a,b=>by
  simp only [List.cons_append,cnt]
  rw [zd9 k a b]
  omega
structure Way (w:Wheel) (s:Stand) (l acts:List Int) (q:Int):Prop where
 ok:acts.all (zf8 w)=true
 len:(acts.length:Int)<=2*total l
 bag:∀k:Nat,k<w.Coins.length->cnt k acts=l.getD k 0
 buys:zgc w s acts=q
theorem zhq {l:List Int} {k j:Nat} (hk:k<l.length):(ze8 l k).getD j 0=l.getD j 0-(if k=j then 1 else 0):=by
 unfold ze8
 by_cases e:k=j
 ·subst e
  rw [if_pos rfl,List.getD_eq_getElem?_getD,List.getElem?_set_self hk]
  rfl
 ·rw [if_neg e,List.getD_eq_getElem?_getD,List.getElem?_set_ne e,←List.getD_eq_getElem?_getD]
  omega
theorem znI {w:Wheel} {k:Nat} (h:k<w.Coins.length):zf8 w k=true:=zck.2 ⟨by omega,by omega⟩
theorem znJ {w:Wheel}:zf8 w (-1)=true:=zck.2 ⟨by omega,by omega⟩
theorem zwF (w:Wheel) (p c:Int) (k:Nat):zjz w ⟨p,c⟩ (k:Int)=(⟨(zwE w p c k).p,(zwE w p c k).c⟩,false):=by
 unfold zjz
 rw [if_pos (by omega)]
 rfl
theorem zza (w:Wheel) (p c:Int) (hc:c≠0):zjz w ⟨p,c⟩ (-1)=(⟨0,c-1⟩,true):=by
 unfold zjz
 rw [if_neg (by omega),if_neg hc]
theorem Way.step {w:Wheel} {p c:Int} {l acts:List Int} {q:Int} {o:Opn} (hl:OkP w l) (hc:0<=c) (ho:o∈zxL w p c l l.length 0) (h:Way w ⟨o.p,o.c⟩ (ze8 l o.k) acts q):Way w ⟨p,c⟩ l (o.acts++acts) (o.plays+q):=by
 obtain ⟨j,_,h2,h3,h4⟩:=zsi.1 ho;have hj:j<l.length:=by omega
 have hj':j<w.Coins.length:=by have:=hl.len;omega
 rcases zv5.1 h4 with rfl | ⟨h5,h6,rfl⟩
 ·refine ⟨?_,?_,fun k hk=>?_,?_⟩
  ·show List.all ([(j:Int)]++acts) (zf8 w)=true
   rw [List.singleton_append,List.all_cons,znI hj',h.ok]
   rfl
  ·have:=h.len
   have e:=zjV hj
   show ((([(j:Int)]++acts).length:Nat):Int)<=_
   rw [show (zwE w p c j).k=j from rfl] at this;simp
   omega
  ·show cnt k ((j:Int)::acts)=_
   simp only [cnt]
   rw [h.bag k hk,show (zwE w p c j).k=j from rfl,zhq hj]
   by_cases e:j=k
   ·rw [if_pos (by omega),if_pos e];omega
   ·rw [if_neg (by omega),if_neg e];omega
  ·show zgc w ⟨p,c⟩ ((j:Int)::acts)=_
   simp only [zgc]
   rw [if_pos (by omega),zwF,h.buys]
   rfl
 ·refine ⟨?_,?_,fun k hk=>?_,?_⟩
  ·show List.all ([-1,(j:Int)]++acts) (zf8 w)=true
   rw [List.cons_append,List.singleton_append,List.all_cons,List.all_cons,znI hj',znJ,h.ok]
   rfl
  ·have:=h.len
   have e:=zjV hj
   show ((([-1,(j:Int)]++acts).length:Nat):Int)<=_
   rw [show (zxK w c j).k=j from rfl] at this;simp
   omega
  ·show cnt k (-1::(j:Int)::acts)=_
   simp only [cnt]
   rw [h.bag k hk,show (zxK w c j).k=j from rfl,zhq hj,if_neg (by omega)]
   by_cases e:j=k
   ·rw [if_pos (by omega),if_pos e];omega
   ·rw [if_neg (by omega),if_neg e];omega
  ·show zgc w ⟨p,c⟩ (-1::(j:Int)::acts)=_
   simp only [zgc]
   rw [if_neg (by omega),zza w p c h5];simp only []
   rw [if_pos (by omega),zwF];rw [show (⟨(zwE w 0 (c-1) j).p,(zwE w 0 (c-1) j).c⟩:Stand)=⟨(zxK w c j).p,(zxK w c j).c⟩ from rfl,h.buys]
   show 0+((turn w 0 (coin w j)).2+q)=(turn w 0 (coin w j)).2+q
   omega
def zpp (w:Wheel) (l:List Int):Nat->Nat->Int
 | 0,_=>0
 | d+1,k=>coin w k*l.getD k 0+zpp w l d (k+1)
def zch (w:Wheel) (l:List Int):Int:=zpp w l w.Coins.length 0
theorem zxp {w:Wheel} (h:OkW w) {l:List Int} (hl:∀k,0<=l.getD k 0/\l.getD k 0<=1000) {k:Nat} (hk:k<w.Coins.length):0<=coin w k*l.getD k 0/\coin w k*l.getD k 0<=100000:=by
 have hco:=zd8 h (a:=(k:Int)) (by omega) (by omega)
 have:=hl k
 refine ⟨Int.mul_nonneg (by omega) (by omega),?_⟩;have h1:coin w k*l.getD k 0<=100*l.getD k 0:=Int.mul_le_mul_of_nonneg_right hco.2 (by omega)
 omega
theorem zoB {w:Wheel} (h:OkW w) {l:List Int} (hl:∀k,0<=l.getD k 0/\l.getD k 0<=1000):∀(d k:Nat),k+d<=w.Coins.length->0<=zpp w l d k/\zpp w l d k<=100000*d
 | 0,k,_=>by simp [zpp]
 | d+1,k,hk=>by
  have:=zoB h hl d (k+1) (by omega)
  have:=zxp h hl (show k<w.Coins.length by omega)
  simp only [zpp]
  omega
theorem zhl {n:Nat} {w:Wheel} (h:OkW w) (hn:100<=n) {l:List Int} (hlen:l.length=w.Coins.length) (hl:∀k,0<=l.getD k 0/\l.getD k 0<=1000):zcI n w l=some (zch w l):=by
 have h4:=h.clen
 have key:∀(d i m:Nat) (s:Int),d=w.Coins.length-i->i<=w.Coins.length->d<m->0<=s->s+100000*d<=1000000->zbS w l m s (i:Int)=some (s+zpp w l d i):=by
  intro d
  induction d with
  | zero =>
   intro i m s hd hi hm hs hs2
   obtain ⟨m,rfl⟩:∃q,m=q+1:=⟨m-1,by omega⟩;simp only [zbS,zda,zdO,zpp]
   rw [if_neg (by simp;omega),Int.add_zero]
  | succ d ih =>
   intro i m s hd hi hm hs hs2
   obtain ⟨m,rfl⟩:∃q,m=q+1:=⟨m-1,by omega⟩;have ht:=zxp h hl (show i<w.Coins.length by omega)
   have ei:l[i]'(by omega)=l.getD i 0:=by simp [show i<l.length by omega]
   simp only [zbS,zda,zpp]
   rw [if_pos (by simp;omega),zcz (by omega),zaa,zmF (by omega) (by omega),zaa,ei,Int.mul_comm,zaw (x:=coin w i*_) (by omega) (by omega),zaw (x:=s+_) (by omega) (by omega),zaw (x:=(i:Int)+1) (by omega) (by omega)];have:=ih (i+1) m (s+coin w i*l.getD i 0) (by omega) (by omega) (by omega) (by omega) (by omega)
   rw [show (((i+1:Nat)):Int)=(i:Int)+1 by simp] at this;rw [this]
   congr 1
   omega
 have:=key w.Coins.length 0 n 0 (by omega) (by omega) (by omega) (by omega) (by omega)
 rw [Int.zero_add] at this;exact this
theorem zqt {w:Wheel} (h:OkW w) {l l':List Int}:∀(d k:Nat),k+d<=w.Coins.length->(∀j,l.getD j 0<=l'.getD j 0)->zpp w l d k<=zpp w l' d k
 | 0,k,_,_=>by simp [zpp]
 | d+1,k,hk,hl=>by
  have:=zqt h d (k+1) (by omega) hl
  have hco:=zd8 h (a:=(k:Int)) (by omega) (by omega)
  have:=Int.mul_le_mul_of_nonneg_left (hl k) (show 0<=coin w k by omega)
  simp only [zpp]
  omega
def down:Nat->List Int
 | 0=>[0]
 | n+1=>((n+1:Nat):Int)::down n
def upF:Nat->Nat->List Int
 | _,0=>[]
 | i,d+1=>(i:Int)::upF (i+1) d
def za5:List Int->List (List Int)
 | []=>[[]]
 | x::l=>(upF 0 (x.toNat+1)).flatMap fun v=>(za5 l).map (v::·)
theorem znK {v:Int}:∀{d i:Nat},v∈upF i d↔(i:Int)<=v/\v<i+d
 | 0,i=>by simp [upF]<;>omega
 | d+1,i=>by
  simp only [upF,List.mem_cons,znK]
  omega
theorem znL:∀(d i:Nat),(upF i d).length=d
 | 0,i=>rfl
 | d+1,i=>by simp [upF,znL d (i+1)]
def Part (t l:List Int):Prop:=t.length=l.length/\∀k,0<=t.getD k 0/\t.getD k 0<=l.getD k 0
theorem ziz {v x:Int} {t l:List Int}:Part (v::t) (x::l)↔(0<=v/\v<=x)/\Part t l:=by
 unfold Part
 constructor
 ·rintro ⟨h1,h2⟩
  exact ⟨by simpa using h2 0,by simpa using h1,fun k=>by simpa using h2 (k+1)⟩
 ·rintro ⟨h1,h2,h3⟩
  refine ⟨by simp [h2],fun k=>?_⟩;cases k with
  | zero=>simpa using h1
  | succ k=>simpa using h3 k
theorem zlg:∀{l t:List Int},(∀x,x∈l->0<=x)->(t∈za5 l↔Part t l)
 | [],t,_=>by
  simp only [za5,List.mem_singleton]
  constructor
  ·rintro rfl;exact ⟨rfl,fun k=>by simp⟩
  ·exact fun h=>List.eq_nil_of_length_eq_zero h.1
 | x::l,t,h=>by
  have hx:=h x (by simp)
  have ih:=fun t=>zlg (l:=l) (t:=t) (fun y hy=>h y (by simp [hy]))
  simp only [za5,List.mem_flatMap,List.mem_map,ih,znK]
  constructor
  ·rintro ⟨v,hv,t',ht,rfl⟩
   exact ziz.2 ⟨by omega,ht⟩
  ·intro hp
   cases t with
   | nil=>exact absurd hp.1 (by simp)
   | cons v t =>
    obtain ⟨h1,h2⟩:=ziz.1 hp;exact ⟨v,by omega,t,h2,rfl⟩
theorem zkt {α β:Type} {f:α->List β} {c:Nat}:∀{l:List α},(∀x,x∈l->(f x).length=c)->(l.flatMap f).length=l.length*c
 | [],_=>by simp
 | x::l,h=>by
  rw [List.flatMap_cons,List.length_append,h x (by simp),zkt (l:=l) (fun y hy=>h y (by simp [hy])),List.length_cons,Nat.succ_mul]
  omega
theorem zlh:∀{l:List Int},(∀x,x∈l->x<=6)->(za5 l).length<=7 ^ l.length
 | [],_=>by simp [za5]
 | x::l,h=>by
  have ih:=zlh (l:=l) (fun y hy=>h y (by simp [hy]))
  have hx:=h x (by simp)
  simp only [za5,List.length_cons]
  rw [zkt (c:=(za5 l).length) (fun v _=>by simp),znL,Nat.pow_succ,Nat.mul_comm];exact Nat.mul_le_mul ih (by omega)
theorem zpq (pre:List Int) (y:Int) (rest:List Int):(pre++y::rest).getD pre.length 0=y:=by
 simp
theorem zuO:∀(rest pre f:List Int) (n:Nat),f.length=pre.length->pre.length+rest.length<=4->(∀x,x∈rest->0<=x/\x<=6)->100+rest.length<=n->zcW n (pre++rest) f=some ((za5 rest).map (f++·)):=by
 intro rest
 induction rest with
 | nil =>
  intro pre f n hf hlen hx hn
  obtain ⟨n,rfl⟩:∃q,n=q+1:=⟨n-1,by omega⟩;simp only [zcW,zhb,za5]
  rw [if_pos (by simp [hf])];simp
 | cons x rest ih =>
  intro pre f n hf hlen hx hn
  obtain ⟨n,rfl⟩:∃q,n=q+1:=⟨n-1,by omega⟩;simp only [List.length_cons] at hlen hn
  have hxr:=hx x (by simp)
  have hsl:=zlh (l:=rest) (fun y hy=>(hx y (by simp [hy])).2)
  have hpow:7 ^ rest.length<=7 ^ 3:=Nat.pow_le_pow_right (by omega) (by omega)
  simp only [zcW,zhb]
  rw [if_neg (by simp;omega)];have loop:∀(d i m:Nat) (out:List (List Int)),(d:Int)=x+1-i->(i:Int)<=x+1->d+1<=m->out.length+d*343<=100000 ->
    zdj (zcW n) (pre++x::rest) f m out (i:Int)=some (out++(((upF i d).flatMap fun v=>(za5 rest).map (v::·)).map (f++·))):=by
   intro d
   induction d with
   | zero =>
    intro i m out hd hi hm ho
    obtain ⟨m,rfl⟩:∃q,m=q+1:=⟨m-1,by omega⟩;simp only [zdj,zfg,zgy,upF]
    rw [hf,zf2,zaa,if_neg (by simp;omega)];simp
   | succ d ihd =>
    intro i m out hd hi hm ho
    obtain ⟨m,rfl⟩:∃q,m=q+1:=⟨m-1,by omega⟩;have e:pre++x::rest=(pre++[x])++rest:=by simp
    have hrec:=ih (pre++[x]) (f++[(i:Int)]) n (by simp [hf]) (by simp;omega) (fun z hz=>hx z (by simp [hz])) (by omega)
    rw [←e] at hrec;simp only [zdj,zfg,upF]
    rw [hf,zf2,zaa,if_pos (by simp;omega),zlT (by omega),zaa,zf3 (by simp;omega),zaa,hrec,zaa,zf3 (by simp;omega),zaa,zaw (x:=(i:Int)+1) (by omega) (by omega)];have:=ihd (i+1) m (out++(za5 rest).map (f++[(i:Int)]++·)) (by omega) (by omega) (by omega) (by simp;omega)
    rw [show (((i+1:Nat)):Int)=(i:Int)+1 by simp] at this;rw [this,List.flatMap_cons,List.map_append,List.map_map,List.append_assoc]
    congr 3
    apply List.map_congr_left
    intro t _
    simp
  have:=loop (x.toNat+1) 0 n [] (by omega) (by omega) (by omega) (by simp;omega)
  rw [za5];exact this
def zwG (w:Wheel) (t:List Int):List Int:=t.take w.Coins.length
structure OkT (w:Wheel) (t:List Int):Prop where
 len:t.length=4
 rng:∀k,0<=t.getD k 0/\t.getD k 0<=1000
 out:∀k,w.Coins.length<=k->t.getD k 0=0
 tot:total (zwG w t)<=1000
theorem zqu {w:Wheel} {t:List Int} (h:OkT w t) (k:Nat):(zwG w t).getD k 0=t.getD k 0:=by
 unfold zwG
 rw [List.getD_eq_getElem?_getD,List.getElem?_take]
 split
 ·rfl
 ·rw [h.out k (by omega)]
  rfl
theorem OkT.purse {w:Wheel} (hw:OkW w) {t:List Int} (h:OkT w t):OkP w (zwG w t):=by
 have h4:=hw.clen
 have hl:=h.len
 refine ⟨by simp [zwG];omega,fun x hx=>?_,h.tot⟩;obtain ⟨i,hi,rfl⟩:=List.getElem_of_mem hx;have e:(zwG w t)[i]=(zwG w t).getD i 0:=by simp [hi]
 rw [e,zqu h];exact (h.rng i).1
theorem OkT.bag {w:Wheel} {t:List Int} (h:OkT w t):zcq t=zcq (zwG w t):=by
 simp only [zcq,zqu h]
theorem zuP {t l:List Int} (h:Part t l):∀x,x∈t->0<=x:=fun x hx=>by
 obtain ⟨i,hi,rfl⟩:=List.getElem_of_mem hx;have:=(h.2 i).1
 simpa [hi] using this
def zig (w:Wheel):Stand->List Int->Stand
 | s,[]=>s
 | s,a::l=>zig w (zjz w s a).1 l
theorem zdV (w:Wheel):∀(a b:List Int) (s:Stand),zig w s (a++b)=zig w (zig w s a) b
 | [],b,s=>rfl
 | x::a,b,s=>zdV w a b _
theorem zeG (w:Wheel):∀(a b:List Int) (s:Stand),zgc w s (a++b)=zgc w s a+zgc w (zig w s a) b
 | [],b,s=>by simp [zgc,zig]
 | x::a,b,s=>by
  simp only [List.cons_append,zgc,zig]
  rw [zeG w a b]
  omega
theorem zrt {w:Wheel} (h:OkW w):∀(acts:List Int) (s:Stand) (b:Int),OkS w s b->acts.all (zf8 w)=true->OkS w (zig w s acts) (b+100*acts.length)
 | [],s,b,hs,_=>by simpa [zig] using hs
 | a::l,s,b,hs,ha=>by
  rw [List.all_cons,Bool.and_eq_true] at ha;have:=zrt h l _ _ (zuK h hs ha.1) ha.2
  simp only [zig,List.length_cons]
  rwa [show b+100*((l.length+1:Nat):Int)=b+100+100*(l.length:Int) by omega]
def Can (w:Wheel) (al:List Int) (v:Int):Prop:=∃acts:List Int,acts.all (zf8 w)=true/\(∀k:Nat,k<w.Coins.length->cnt k acts=al.getD k 0)/\zgc w ⟨0,0⟩ acts=v
structure Pn where
 p:Int
 c:Int
 l:List Int
 b:Int
def zl (w:Wheel):List Int:=List.replicate w.Coins.length 0
def zfD (l:List Int) (k:Nat):List Int:=l.set k (l.getD k 0+1)
def zpr (cl:Int->Int->Int) (x:Pn):Pn:=⟨0,cl (total x.l) (x.c-1),x.l,x.b⟩
def zps (cl:Int->Int->Int) (w:Wheel) (x:Pn) (k:Nat):Pn:=⟨(turn w x.p (coin w k)).1,cl (total x.l+1) (x.c+(turn w x.p (coin w k)).2),zfD x.l k,x.b+(turn w x.p (coin w k)).2⟩
def zlV (w:Wheel):Pn:=⟨0,0,zl w,0⟩
inductive RP (cl:Int->Int->Int) (w:Wheel) (al:List Int):List Int->Pn->Prop
 | zero:RP cl w al [] (zlV w)
 | sel {acts:List Int} {x:Pn} (h:RP cl w al acts x) (hc:0<x.c) (hp:0<x.p):RP cl w al (acts++[-1]) (zpr cl x)
 | coin {acts:List Int} {x:Pn} {k:Nat} (h:RP cl w al acts x) (hk:k<w.Coins.length) (hl:x.l.getD k 0≠al.getD k 0):RP cl w al (acts++[(k:Int)]) (zps cl w x k)
theorem zli:∀n:Nat,total (List.replicate n 0)=0
 | 0=>rfl
 | n+1=>by rw [List.replicate_succ,total,zli n];rfl
theorem zku (w:Wheel) (k:Nat):(zl w).getD k 0=0:=by
 unfold zl
 rw [List.getD_eq_getElem?_getD,List.getElem?_replicate]
 split<;>rfl
theorem znM (l:List Int) (k:Nat):(zfD l k).length=l.length:=by simp [zfD]
theorem zeU {l:List Int} {k j:Nat} (hk:k<l.length):(zfD l k).getD j 0=l.getD j 0+(if k=j then 1 else 0):=by
 unfold zfD
 by_cases e:k=j
 ·subst e
  rw [if_pos rfl,List.getD_eq_getElem?_getD,List.getElem?_set_self hk]
  rfl
 ·rw [if_neg e,List.getD_eq_getElem?_getD,List.getElem?_set_ne e,←List.getD_eq_getElem?_getD]
  omega
theorem zgs {l:List Int} {k:Nat} (h:k<l.length):total (zfD l k)=total l+1:=by
 unfold zfD
 rw [znG h]
 omega
theorem zhP:∀{l m:List Int},l.length=m.length->(∀k,l.getD k 0<=m.getD k 0)->total l<=total m
 | [],[],_,_=>Int.le_refl _
 | [],_::_,h,_=>by simp at h
 | _::_,[],h,_=>by simp at h
 | x::l,y::m,h,hk=>by
  have h0:=hk 0
  have:=zhP (l:=l) (m:=m) (by simpa using h) (fun k=>by simpa using hk (k+1))
  simp only [total]
  simp at h0
  omega
theorem znN {l m:List Int} (h:l.length=m.length) (hk:∀k,l.getD k 0<=m.getD k 0) {k:Nat} (hlt:l.getD k 0<m.getD k 0):total l<total m:=by
 have hkl:k<l.length:=by
  rcases Nat.lt_or_ge k l.length with h1 | h1
  ·exact h1
  ·rw [List.getD_eq_getElem?_getD,List.getD_eq_getElem?_getD,List.getElem?_eq_none h1,List.getElem?_eq_none (by omega)] at hlt;simp at hlt
 have h1:=zhP (l:=zfD l k) (m:=m) (by rw [znM];exact h) fun j=>by
  rw [zeU hkl];have:=hk j
  split
  ·rename_i e
   subst e
   omega
  ·omega
 rw [zgs hkl] at h1
 omega
structure Clamp (cl:Int->Int->Int) (T:Int):Prop where
 le:∀t c,cl t c<=c
 nn:∀t c,t<=T->0<=c->0<=cl t c
structure OkX (w:Wheel) (al:List Int) (acts:List Int) (x:Pn):Prop where
 p0:0<=x.p
 p1:x.p<w.Round
 c0:0<=x.c
 cb:x.c<=x.b
 bt:x.b<=100*total x.l
 len:x.l.length=w.Coins.length
 nn:∀k,0<=x.l.getD k 0
 le:∀k,x.l.getD k 0<=al.getD k 0
 ok:acts.all (zf8 w)=true
 bag:∀k:Nat,cnt k acts=x.l.getD k 0
 buys:zgc w ⟨0,0⟩ acts=x.b
 pl:(zig w ⟨0,0⟩ acts).Place=x.p
 cr:x.c<=(zig w ⟨0,0⟩ acts).Credit
theorem zeV (k:Nat) (a:Int):cnt k [a]=if a=(k:Int) then 1 else 0:=by simp [cnt]
theorem RP.ok {cl:Int->Int->Int} {w:Wheel} {al:List Int} (h:OkW w) (hl:al.length=w.Coins.length) (hnn:∀k,0<=al.getD k 0) (hcl:Clamp cl (total al)) {acts:List Int} {x:Pn} (hr:RP cl w al acts x):OkX w al acts x:=by
 have hr1:=h.r1
 induction hr with
 | zero=>exact ⟨Int.le_refl _,by show (0:Int)<w.Round;omega,Int.le_refl _,Int.le_refl _,by show (0:Int)<=100*total (zl w);rw [show total (zl w)=0 from zli _];omega,by simp [zlV,zl],fun k=>by show 0<=(zl w).getD k 0;rw [zku];omega,fun k=>by show (zl w).getD k 0<=_;rw [zku];exact hnn k,rfl,fun k=>by show _=(zl w).getD k 0;rw [zku];rfl,rfl,rfl,Int.le_refl _⟩
 | @sel acts x hr hc hp ih =>
  have ht:total x.l<=total al:=zhP (by rw [ih.len,hl]) ih.le
  have hcr:=ih.cr
  have he:zjz w (zig w ⟨0,0⟩ acts) (-1)=(⟨0,(zig w ⟨0,0⟩ acts).Credit-1⟩,true):=by
   unfold zjz
   rw [if_neg (by omega),if_neg (by omega)]
  have hle:=hcl.le (total x.l) (x.c-1)
  have hcb:=ih.cb
  refine ⟨Int.le_refl _,by show (0:Int)<w.Round;omega,hcl.nn _ _ ht (by omega),by show cl _ _<=x.b;omega,ih.bt,ih.len,ih.nn,ih.le,?_,fun k=>?_,?_,?_,?_⟩
  ·rw [List.all_append,ih.ok];simp [znJ]
  ·rw [zd9,ih.bag,zeV,if_neg (by omega)];exact Int.add_zero _
  ·rw [zeG,ih.buys];simp [zgc,zpr]
  ·rw [zdV];simp only [zig,he]
   rfl
  ·rw [zdV];simp only [zig,he]
   show cl _ _<=_
   omega
 | @coin acts x k hr hk hne ih =>
  have hkl:k<x.l.length:=by rw [ih.len];exact hk
  have hlt:x.l.getD k 0<al.getD k 0:=by have:=ih.le k;omega
  have ht:total x.l<total al:=znN (by rw [ih.len,hl]) ih.le hlt
  have hcoin:=zd8 h (a:=(k:Int)) (by omega) (by omega)
  have htr:=zfC h ih.p0 ih.p1 (show 0<=Go.Law.coin w k by omega)
  have hcb:=ih.cb
  have hbt:=ih.bt
  have hc0:=ih.c0
  have hcr:=ih.cr
  have he:(zjz w (zig w ⟨0,0⟩ acts) (k:Int)).1=⟨(turn w x.p (Go.Law.coin w k)).1,(zig w ⟨0,0⟩ acts).Credit+(turn w x.p (Go.Law.coin w k)).2⟩:=by
   unfold zjz
   rw [if_pos (by omega),ih.pl]
  have hle:=hcl.le (total x.l+1) (x.c+(turn w x.p (Go.Law.coin w k)).2)
  refine ⟨htr.1.1,htr.1.2,hcl.nn _ _ (by omega) (by omega),?_,?_,?_,fun j=>?_,fun j=>?_,?_,fun j=>?_,?_,?_,?_⟩
  ·show cl _ _<=x.b+_
   omega
  ·show x.b+_<=100*total (zfD x.l k)
   rw [zgs hkl]
   omega
  ·show (zfD x.l k).length=_
   rw [znM,ih.len]
  ·show 0<=(zfD x.l k).getD j 0
   rw [zeU hkl];have:=ih.nn j
   split<;>omega
  ·show (zfD x.l k).getD j 0<=_
   rw [zeU hkl];have:=ih.le j
   split
   ·rename_i e
    subst e
    omega
   ·omega
  ·rw [List.all_append,ih.ok];simp [znI hk]
  ·show _=(zfD x.l k).getD j 0
   rw [zd9,ih.bag,zeV,zeU hkl]
   congr 1
   by_cases e:k=j
   ·subst e;simp
   ·rw [if_neg e,if_neg (by omega)]
  ·rw [zeG,ih.buys];simp only [zgc,ih.pl]
   rw [if_pos (by omega)]
   show x.b+(_+0)=x.b+_
   omega
  ·rw [zdV];simp only [zig,he]
   rfl
  ·rw [zdV];simp only [zig,he]
   show cl _ _<=_
   omega
theorem zgW {al:List Int} (h:∀k,0<=al.getD k 0):∀x,x∈al->0<=x:=fun x hx=>by
 obtain ⟨k,hk⟩:=List.getElem?_of_mem hx;have:=h k
 rwa [List.getD_eq_getElem?_getD,hk] at this
theorem znO (l:List Int):l=[]\/∃q a,l=q++[a]:=zkr l
def clT (T:Int):Int->Int->Int:=fun t c=>min c (T-t)
def clI:Int->Int->Int:=fun _ c=>c
theorem zlW (T:Int):Clamp (clT T) T:=⟨fun t c=>by unfold clT;omega,fun t c h1 h2=>by unfold clT;omega⟩
theorem zru (T:Int):Clamp clI T:=⟨fun t c=>Int.le_refl _,fun t c h1 h2=>h2⟩
theorem znP {w:Wheel} {a:Int} (h:zf8 w a=true):a=-1\/∃k:Nat,k<w.Coins.length/\a=k:=by
 have h:=zck.1 h
 by_cases h0:0<=a
 ·exact .inr ⟨a.toNat,by omega,by omega⟩
 ·exact .inl (by omega)
theorem cnt_mono {k:Nat} {l:List Int} {a:Int}:cnt k l<=cnt k (l++[a]):=by
 rw [zd9,zeV]
 split<;>omega
theorem zuQ {w:Wheel} {al:List Int} (h:OkW w) (hl:al.length=w.Coins.length) (hnn:∀k,0<=al.getD k 0):∀(n:Nat) (acts:List Int),acts.length=n->acts.all (zf8 w)=true->(∀k:Nat,k<w.Coins.length->cnt k acts<=al.getD k 0) ->
  ∃acts' x,RP (clT (total al)) w al acts' x/\x.b=zgc w ⟨0,0⟩ acts/\(∀k:Nat,k<w.Coins.length->x.l.getD k 0=cnt k acts)/\(total x.l<total al->x.p=(zig w ⟨0,0⟩ acts).Place/\min (zig w ⟨0,0⟩ acts).Credit (if x.p=0 then total al-total x.l-1 else total al-total x.l)<=x.c)
 | 0,acts,hlen,_,_=>by
  obtain rfl:=List.eq_nil_of_length_eq_zero hlen;refine ⟨[],zlV w,.zero,rfl,fun k _=>zku w k,fun ht=>⟨rfl,?_⟩⟩
  show min (0:Int) _<=0
  omega
 | n+1,acts,hlen,hok,hbag=>by
  rcases znO acts with rfl | ⟨l,a,rfl⟩
  ·simp at hlen
  rw [List.all_append,Bool.and_eq_true] at hok;have hoa:zf8 w a=true:=by simpa using hok.2
  obtain ⟨acts',x,hr,hb,hcn,hx⟩:=zuQ h hl hnn n l (by simpa using hlen) hok.1 fun k hk=>Int.le_trans cnt_mono (hbag k hk)
  have hX:=hr.ok h hl hnn (zlW _)
  have hes:=zrt h l ⟨0,0⟩ 0 ⟨Int.le_refl _,by show (0:Int)<w.Round;have:=h.r1;omega,Int.le_refl _,Int.le_refl _⟩ hok.1
  have hec:=hes.c0
  have hep:=hes.p0
  have htl:total x.l<=total al:=zhP (by rw [hX.len,hl]) hX.le
  rcases znP hoa with rfl | ⟨k,hk,rfl⟩
  ·have hbu:zgc w ⟨0,0⟩ (l++[-1])=zgc w ⟨0,0⟩ l:=by rw [zeG];simp [zgc]
   have hcn':∀k:Nat,cnt k (l++[-1])=cnt k l:=fun k=>by
    rw [zd9,zeV,if_neg (by omega)];exact Int.add_zero _
   have he:zig w ⟨0,0⟩ (l++[-1])=if (zig w ⟨0,0⟩ l).Credit=0 then zig w ⟨0,0⟩ l else ⟨0,(zig w ⟨0,0⟩ l).Credit-1⟩:=by
    rw [zdV];simp only [zig,zjz]
    rw [if_neg (by omega)]
    split<;>rfl
   by_cases ht:total x.l<total al
   ·obtain ⟨hp,hc⟩:=hx ht
    by_cases hz:(zig w ⟨0,0⟩ l).Credit=0
    ·exact ⟨acts',x,hr,by rw [hbu,hb],fun k hk=>by rw [hcn',hcn k hk],fun _=>by rw [he,if_pos hz];exact ⟨hp,hc⟩⟩
    ·by_cases hp0:x.p=0
     ·refine ⟨acts',x,hr,by rw [hbu,hb],fun k hk=>by rw [hcn',hcn k hk],fun _=>?_⟩;rw [he,if_neg hz];refine ⟨hp0,?_⟩;rw [if_pos hp0] at hc ⊢
      show min (_-1) _<=_
      omega
     ·rw [if_neg hp0] at hc;have hp1:=hX.p0
      refine ⟨_,_,hr.sel (by omega) (by omega),by rw [hbu,←hb];rfl,fun k hk=>by rw [hcn',←hcn k hk];rfl,fun _=>?_⟩;rw [he,if_neg hz];refine ⟨rfl,?_⟩
      show min (_-1) (if (0:Int)=0 then _ else _)<=min (x.c-1) (total al-total x.l)
      rw [if_pos rfl]
      show min (_-1) (total al-total x.l-1)<=_
      omega
   ·exact ⟨acts',x,hr,by rw [hbu,hb],fun k hk=>by rw [hcn',hcn k hk],fun ht'=>absurd ht' ht⟩
  ·have hck:cnt k (l++[(k:Int)])=cnt k l+1:=by rw [zd9,zeV,if_pos rfl]
   have hlt:x.l.getD k 0<al.getD k 0:=by
    have:=hbag k hk
    rw [hcn k hk]
    omega
   have ht:total x.l<total al:=znN (by rw [hX.len,hl]) hX.le hlt
   obtain ⟨hp,hc⟩:=hx ht;have hkl:k<x.l.length:=by rw [hX.len];exact hk
   have he:zig w ⟨0,0⟩ (l++[(k:Int)])=⟨(turn w x.p (coin w k)).1,(zig w ⟨0,0⟩ l).Credit+(turn w x.p (coin w k)).2⟩:=by
    rw [zdV];simp only [zig,zjz]
    rw [if_pos (by omega),hp]
   have hcoin:=zd8 h (a:=(k:Int)) (by omega) (by omega)
   have htr:=zfC h hX.p0 hX.p1 (show 0<=coin w k by omega)
   have hc0:=hX.c0
   refine ⟨_,_,hr.coin hk (by omega),?_,fun j hj=>?_,fun ht'=>?_⟩
   ·rw [zeG];simp only [zgc]
    rw [if_pos (by omega),←hb,←hp]
    show x.b+_=x.b+(_+0)
    omega
   ·show (zfD x.l k).getD j 0=_
    rw [zeU hkl,hcn j hj,zd9,zeV]
    congr 1
    by_cases e:k=j
    ·subst e;simp
    ·rw [if_neg e,if_neg (by omega)]
   ·rw [he];refine ⟨rfl,?_⟩
    show min (_+_) (if (turn w x.p (coin w k)).1=0 then total al-total (zfD x.l k)-1 else total al-total (zfD x.l k))<=min (x.c+_) (total al-(total x.l+1))
    rw [zgs hkl]
    by_cases h1:x.p=0
    ·rw [if_pos h1] at hc
     split<;>omega
    ·rw [if_neg h1] at hc
     split<;>omega
theorem zuR {w:Wheel} {al:List Int} (h:OkW w) (hl:al.length=w.Coins.length) (hnn:∀k,0<=al.getD k 0):∀(n:Nat) (acts:List Int),acts.length=n->acts.all (zf8 w)=true->(∀k:Nat,k<w.Coins.length->cnt k acts<=al.getD k 0) ->
  ∃acts' x,RP clI w al acts' x/\x.b=zgc w ⟨0,0⟩ acts/\(∀k:Nat,k<w.Coins.length->x.l.getD k 0=cnt k acts)/\x.p=(zig w ⟨0,0⟩ acts).Place/\(zig w ⟨0,0⟩ acts).Credit<=x.c
 | 0,acts,hlen,_,_=>by
  obtain rfl:=List.eq_nil_of_length_eq_zero hlen;exact ⟨[],zlV w,.zero,rfl,fun k _=>zku w k,rfl,Int.le_refl _⟩
 | n+1,acts,hlen,hok,hbag=>by
  rcases znO acts with rfl | ⟨l,a,rfl⟩
  ·simp at hlen
  rw [List.all_append,Bool.and_eq_true] at hok;have hoa:zf8 w a=true:=by simpa using hok.2
  obtain ⟨acts',x,hr,hb,hcn,hp,hc⟩:=zuR h hl hnn n l (by simpa using hlen) hok.1 fun k hk=>Int.le_trans cnt_mono (hbag k hk)
  have hX:=hr.ok h hl hnn (zru _)
  have hes:=zrt h l ⟨0,0⟩ 0 ⟨Int.le_refl _,by show (0:Int)<w.Round;have:=h.r1;omega,Int.le_refl _,Int.le_refl _⟩ hok.1
  have hec:=hes.c0
  rcases znP hoa with rfl | ⟨k,hk,rfl⟩
  ·have hbu:zgc w ⟨0,0⟩ (l++[-1])=zgc w ⟨0,0⟩ l:=by rw [zeG];simp [zgc]
   have hcn':∀k:Nat,cnt k (l++[-1])=cnt k l:=fun k=>by
    rw [zd9,zeV,if_neg (by omega)];exact Int.add_zero _
   have he:zig w ⟨0,0⟩ (l++[-1])=if (zig w ⟨0,0⟩ l).Credit=0 then zig w ⟨0,0⟩ l else ⟨0,(zig w ⟨0,0⟩ l).Credit-1⟩:=by
    rw [zdV];simp only [zig,zjz]
    rw [if_neg (by omega)]
    split<;>rfl
   by_cases hz:(zig w ⟨0,0⟩ l).Credit=0
   ·exact ⟨acts',x,hr,by rw [hbu,hb],fun k hk=>by rw [hcn',hcn k hk],by rw [he,if_pos hz];exact hp,by rw [he,if_pos hz];exact hc⟩
   ·by_cases hp0:x.p=0
    ·exact ⟨acts',x,hr,by rw [hbu,hb],fun k hk=>by rw [hcn',hcn k hk],by rw [he,if_neg hz];exact hp0,by rw [he,if_neg hz];show _-1<=_;omega⟩
    ·have hp1:=hX.p0
     exact ⟨_,_,hr.sel (by omega) (by omega),by rw [hbu,←hb];rfl,fun k hk=>by rw [hcn',←hcn k hk];rfl,by rw [he,if_neg hz];rfl,by rw [he,if_neg hz];show _-1<=x.c-1;omega⟩
  ·have hck:cnt k (l++[(k:Int)])=cnt k l+1:=by rw [zd9,zeV,if_pos rfl]
   have hlt:x.l.getD k 0<al.getD k 0:=by
    have:=hbag k hk
    rw [hcn k hk]
    omega
   have hkl:k<x.l.length:=by rw [hX.len];exact hk
   have he:zig w ⟨0,0⟩ (l++[(k:Int)])=⟨(turn w x.p (coin w k)).1,(zig w ⟨0,0⟩ l).Credit+(turn w x.p (coin w k)).2⟩:=by
    rw [zdV];simp only [zig,zjz]
    rw [if_pos (by omega),hp]
   refine ⟨_,_,hr.coin hk (by omega),?_,fun j hj=>?_,by rw [he];rfl,by rw [he];show (zig w ⟨0,0⟩ l).Credit+(turn w x.p (coin w k)).2<=x.c+(turn w x.p (coin w k)).2;omega⟩
   ·rw [zeG];simp only [zgc]
    rw [if_pos (by omega),←hb,←hp]
    show x.b+_=x.b+(_+0)
    omega
   ·show (zfD x.l k).getD j 0=_
    rw [zeU hkl,hcn j hj,zd9,zeV]
    congr 1
    by_cases e:k=j
    ·subst e;simp
    ·rw [if_neg e,if_neg (by omega)]
theorem zde {l m:List Int} {n:Nat} (h1:l.length=n) (h2:m.length=n) (h:∀k:Nat,k<n->l.getD k 0=m.getD k 0):l=m:=by
 apply List.ext_getElem (by omega)
 intro k a b
 have:=h k (by omega)
 simpa [List.getD_eq_getElem?_getD,a,b] using this
theorem zzb {w:Wheel} {al:List Int} (h:OkW w) (hl:al.length=w.Coins.length) (hnn:∀k,0<=al.getD k 0) {v:Int}:Can w al v↔∃acts x,RP (clT (total al)) w al acts x/\x.l=al/\x.b=v:=by
 constructor
 ·rintro ⟨acts,hok,hbag,hb⟩
  obtain ⟨acts',x,hr,h1,h2,_⟩:=zuQ h hl hnn acts.length acts rfl hok fun k hk=>Int.le_of_eq (hbag k hk)
  have hX:=hr.ok h hl hnn (zlW _)
  exact ⟨acts',x,hr,zde hX.len hl fun k hk=>by rw [h2 k hk,hbag k hk],by rw [h1,hb]⟩
 ·rintro ⟨acts,x,hr,rfl,rfl⟩
  have hX:=hr.ok h hl hnn (zlW _)
  exact ⟨acts,hX.ok,fun k _=>hX.bag k,hX.buys⟩
theorem RP.short {w:Wheel} {al:List Int} (h:OkW w) (hl:al.length=w.Coins.length) (hnn:∀k,0<=al.getD k 0) {acts:List Int} {x:Pn} (hr:RP (clT (total al)) w al acts x) :
  x.c<=total al-total x.l/\((acts.length:Int)<=2*total x.l\/x.p=0/\total x.l<total al/\(acts.length:Int)<=2*total x.l+1):=by
 induction hr with
 | zero =>
  have h0:total (zl w)=0:=zli _
  have h1:0<=total al:=zhk (zgW hnn)
  refine ⟨?_,.inl ?_⟩
  ·show (0:Int)<=total al-total (zl w)
   omega
  ·show ((0:Nat):Int)<=2*total (zl w)
   omega
 | @sel acts x hr hc hp ih =>
  refine ⟨?_,.inr ⟨rfl,?_,?_⟩⟩
  ·show min (x.c-1) (total al-total x.l)<=total al-total x.l
   omega
  ·show total x.l<total al
   omega
  ·show ((acts++[-1]).length:Int)<=2*total x.l+1
   rw [List.length_append,List.length_singleton];rcases ih.2 with h1 | ⟨h1,_⟩
   ·omega
   ·omega
 | @coin acts x k hr hk hne ih =>
  have hX:=hr.ok h hl hnn (zlW _)
  have hkl:k<x.l.length:=by rw [hX.len];exact hk
  refine ⟨?_,.inl ?_⟩
  ·show min _ (total al-(total x.l+1))<=total al-total (zfD x.l k)
   rw [zgs hkl]
   omega
  ·show ((acts++[(k:Int)]).length:Int)<=2*total (zfD x.l k)
   rw [zgs hkl,List.length_append,List.length_singleton];rcases ih.2 with h1 | ⟨_,_,h1⟩<;>omega
def lvl (cl:Int->Int->Int) (w:Wheel):Nat->List Pn
 | 0=>[zlV w]
 | t+1=>(lvl cl w t++(lvl cl w t).map (zpr cl)).flatMap fun x=>(List.range w.Coins.length).map fun k=>zps cl w x k
def lvs (cl:Int->Int->Int) (w:Wheel) (t:Nat):List Pn:=lvl cl w t++(lvl cl w t).map (zpr cl)
def zv7 (cl:Int->Int->Int) (w:Wheel):Nat->List Pn
 | 0=>lvs cl w 0
 | t+1=>zv7 cl w t++lvs cl w (t+1)
theorem zlX {α β:Type} {f:α->List β} {c:Nat}:∀{l:List α},(∀x,x∈l->(f x).length<=c)->(l.flatMap f).length<=l.length*c
 | [],_=>by simp
 | x::l,h=>by
  have h1:=h x (by simp)
  have h2:=zlX (f:=f) (c:=c) (l:=l) fun y hy=>h y (by simp [hy])
  simp only [List.flatMap_cons,List.length_append,List.length_cons,Nat.add_mul,Nat.one_mul]
  omega
theorem zrv (cl:Int->Int->Int) {w:Wheel} (hk:w.Coins.length<=3):∀t,(lvl cl w t).length<=6 ^ t
 | 0=>by simp [lvl]
 | t+1=>by
  have h1:=zrv cl hk t
  unfold lvl
  refine Nat.le_trans (zlX (c:=3) fun x _=>by simp;exact hk) ?_;rw [List.length_append,List.length_map,Nat.pow_succ]
  omega
theorem zsj (cl:Int->Int->Int) {w:Wheel} (hk:w.Coins.length<=3) {t:Nat} (ht:t<=5):(zv7 cl w t).length<=93312:=by
 have key:∀t,t<=5->(zv7 cl w t).length<=(t+1)*15552:=by
  intro t
  induction t with
  | zero =>
   intro _
   have:=zrv cl hk 0
   simp only [zv7,lvs,List.length_append,List.length_map]
   omega
  | succ t ih =>
   intro ht
   have h1:=ih (by omega)
   have h2:=zrv cl hk (t+1)
   have h3:6 ^ (t+1)<=6 ^ 5:=Nat.pow_le_pow_right (by omega) ht
   simp only [zv7,lvs,List.length_append,List.length_map]
   have:(6:Nat) ^ 5=7776:=by decide
   omega
 have:=key t ht
 omega
theorem RP.level {cl:Int->Int->Int} {w:Wheel} {al:List Int} (h:OkW w) (hl:al.length=w.Coins.length) (hnn:∀k,0<=al.getD k 0) (hcl:Clamp cl (total al)) {acts:List Int} {x:Pn} (hr:RP cl w al acts x):x∈lvl cl w (total x.l).toNat\/x.p=0/\x∈(lvl cl w (total x.l).toNat).map (zpr cl):=by
 induction hr with
 | zero =>
  refine .inl ?_;have:total (zlV w).l=0:=zli _
  rw [this];simp [lvl]
 | @sel acts x hr hc hp ih =>
  refine .inr ⟨rfl,?_⟩
  show zpr cl x∈(lvl cl w (total x.l).toNat).map (zpr cl)
  rcases ih with ih | ⟨h0,_⟩
  ·exact List.mem_map.2 ⟨x,ih,rfl⟩
  ·omega
 | @coin acts x k hr hk hne ih =>
  have hX:=hr.ok h hl hnn hcl
  have hkl:k<x.l.length:=by rw [hX.len];exact hk
  have h0:0<=total x.l:=zhk (zgW hX.nn)
  refine .inl ?_;have e:(total (zps cl w x k).l).toNat=(total x.l).toNat+1:=by
   show (total (zfD x.l k)).toNat=_
   rw [zgs hkl]
   omega
  rw [e]
  unfold lvl
  refine List.mem_flatMap.2 ⟨x,?_,List.mem_map.2 ⟨k,List.mem_range.2 hk,rfl⟩⟩;rcases ih with ih | ⟨_,ih⟩
  ·exact List.mem_append_left _ ih
  ·exact List.mem_append_right _ ih
theorem zsk (cl:Int->Int->Int) (w:Wheel):∀{t m:Nat},m<=t->∀x,x∈lvs cl w m->x∈zv7 cl w t
 | 0,m,h,x,hx=>by
  obtain rfl:m=0:=by omega
  exact hx
 | t+1,m,h,x,hx=>by
  by_cases e:m=t+1
  ·subst e
   exact List.mem_append_right _ hx
  ·exact List.mem_append_left _ (zsk cl w (by omega) x hx)
theorem RP.up {cl:Int->Int->Int} {w:Wheel} {al:List Int} (h:OkW w) (hl:al.length=w.Coins.length) (hnn:∀k,0<=al.getD k 0) (hcl:Clamp cl (total al)) {acts:List Int} {x:Pn} (hr:RP cl w al acts x) {t:Nat} (ht:total x.l<=t):x∈zv7 cl w t:=by
 refine zsk cl w (m:=(total x.l).toNat) (by omega) x ?_;rcases hr.level h hl hnn hcl with h1 | ⟨_,h1⟩
 ·exact List.mem_append_left _ h1
 ·exact List.mem_append_right _ h1
theorem zjW {α:Type} [DecidableEq α]:∀{l m:List α},l.Nodup->(∀x,x∈l->x∈m)->l.length<=m.length
 | [],_,_,_=>Nat.zero_le _
 | x::l,m,hn,h=>by
  have hn:=List.nodup_cons.1 hn
  have hx:=h x (by simp)
  have:=zjW (l:=l) (m:=m.erase x) hn.2 fun y hy=>by
   have hne:y≠x:=fun e=>hn.1 (by rw [←e];exact hy)
   exact (List.mem_erase_of_ne hne).2 (h y (by simp [hy]))
  rw [List.length_erase_of_mem hx] at this;have:=List.length_pos_of_mem hx
  simp only [List.length_cons]
  omega
theorem zuS {n:Nat} {l:List Int} (h4:l.length<=4) (hnn:∀k,0<=l.getD k 0/\l.getD k 0<=1000) (hn:10<=n):zdZ n (zcq l)=some (total l):=by
 obtain ⟨m,rfl⟩:∃m,n=m+5:=⟨n-5,by omega⟩;have h0:=hnn 0
 have h1:=hnn 1
 have h2:=hnn 2
 have h3:=hnn 3
 have ht:=zuN h4
 unfold zdZ
 have e:∀(m:Nat) (s k:Int) (j:Nat),k=j->j<4->0<=s->s<=100000->zbr (zcq l) (m+1) s k=zbr (zcq l) m (s+l.getD j 0) (k+1):=fun m s k j hk hj hs hs2=>by
  subst hk
  have hb:=hnn j
  simp only [zbr,zc8]
  rw [if_pos (by simp;omega)];rw [show idx ([(zcq l).c0,(zcq l).c1,(zcq l).c2,(zcq l).c3]:List Int) (j:Int)=some (l.getD j 0) from znH hj,zaa,zaw (by omega) (by omega),zaw (by omega) (by omega)]
 rw [e (m+4) 0 0 0 rfl (by omega) (by omega) (by omega),e (m+3) _ (0+1) 1 rfl (by omega) (by omega) (by omega),e (m+2) _ (0+1+1) 2 rfl (by omega) (by omega) (by omega),e (m+1) _ (0+1+1+1) 3 rfl (by omega) (by omega) (by omega)];simp only [zbr,zc8,zdL]
 rw [if_neg (by simp)]
 congr 1
 omega
def pnt (x:Pn):PointT_:=⟨⟨x.p,x.c⟩,zcq x.l,x.b⟩
theorem zxq {x y:Pn} (h:pnt x=pnt y) (hl:x.l.length=y.l.length) (h4:x.l.length<=4):x=y:=by
 obtain ⟨a,b,c,d⟩:=x;obtain ⟨a',b',c',d'⟩:=y;simp only [pnt,PointT_.mk.injEq,Stand.mk.injEq] at h
 obtain ⟨⟨rfl,rfl⟩,h1,rfl⟩:=h;obtain rfl:=zrs h1 hl h4
 rfl
structure Cx (w:Wheel) (al:List Int):Prop where
 v:valid w=true
 hl:al.length=w.Coins.length
 nn:∀k,0<=al.getD k 0
 k3:w.Coins.length<=3
 t5:total al<=5
theorem Cx.h {w:Wheel} {al:List Int} (C:Cx w al):OkW w:=ziV C.v
theorem zqL {w:Wheel} {al acts:List Int} {x:Pn} (C:Cx w al) (hr:RP (clT (total al)) w al acts x):OkX w al acts x/\total x.l<=total al/\(∀k,0<=x.l.getD k 0/\x.l.getD k 0<=5)/\zbV (pnt x)=true:=by
 have hX:=hr.ok C.h C.hl C.nn (zlW _)
 have ht:total x.l<=total al:=zhP (by rw [hX.len,C.hl]) hX.le
 have hk:∀k,0<=x.l.getD k 0/\x.l.getD k 0<=5:=fun k=>by
  have:=zjA (zgW hX.nn) k
  have:=C.t5
  omega
 refine ⟨hX,ht,hk,?_⟩;have h0:=hk 0
 have h1:=hk 1
 have h2:=hk 2
 have h3:=hk 3
 have h4:=hX.p0
 have h5:=hX.p1
 have h6:=hX.c0
 have h7:=hX.cb
 have h8:=hX.bt
 have h9:=C.h.r2
 have h10:=C.t5
 unfold zbV pnt zcq
 simp only [List.all_cons,List.all_nil,Bool.and_true,Bool.and_eq_true]
 exact ⟨zl8 (by omega) (by omega),zl8 (by omega) (by omega),zl8 (by omega) (by omega),zl8 (by omega) (by omega),zl8 (by omega) (by omega),zl8 (by omega) (by omega),zl8 (by omega) (by omega)⟩
structure WI (w:Wheel) (al:List Int) (A:PointT_->List Int) (M:List (PointT_×Step_)):Prop where
 nd:(M.map (·.1)).Nodup
 pt:∀k st,(k,st)∈M->(∃X,k=pnt X/\RP (clT (total al)) w al (A k) X)/\(st.act=-2/\A k=[]\/st.act≠-2/\zdf M st.from_=true/\A k=A st.from_++[st.act])
structure Ext (A:PointT_->List Int) (M:List (PointT_×Step_)) (q:List PointT_) (A':PointT_->List Int) (M':List (PointT_×Step_)) (q':List PointT_):Prop where
 ex:∃N:List (PointT_×Step_),M'=M++N/\q'=q++N.map (·.1)
 same:∀k,zdf M k=true->A' k=A k
theorem Ext.has {A M q A' M' q'} (h:Ext A M q A' M' q') {k:PointT_} (hk:zdf M k=true):zdf M' k=true:=by
 obtain ⟨N,rfl,_⟩:=h.ex;rw [zbn] at hk ⊢;rw [List.map_append];exact List.mem_append_left _ hk
theorem Ext.refl (A M q):Ext A M q A M q:=⟨⟨[],by simp,by simp⟩,fun _ _=>rfl⟩
theorem Ext.trans {A M q A' M' q' A2 M2 q2} (h:Ext A M q A' M' q') (g:Ext A' M' q' A2 M2 q2):Ext A M q A2 M2 q2:=by
 refine ⟨?_,fun k hk=>by rw [g.same k (h.has hk),h.same k hk]⟩;obtain ⟨N,rfl,rfl⟩:=h.ex;obtain ⟨N',rfl,rfl⟩:=g.ex;exact ⟨N++N',by simp,by simp⟩
theorem Ext.len {A M q A' M' q'} (h:Ext A M q A' M' q'):M.length+q'.length=M'.length+q.length:=by
 obtain ⟨N,rfl,rfl⟩:=h.ex;simp
 omega
theorem Ext.out {A M q A' M' q'} (h:Ext A M q A' M' q') {k:PointT_} (hk:zdf M' k=true) (hq:k∉q'):zdf M k=true/\k∉q:=by
 obtain ⟨N,rfl,rfl⟩:=h.ex;rw [zbn,List.map_append] at hk;rw [zbn];simp only [List.mem_append,not_or] at hk hq
 rcases hk with hk | hk
 ·exact ⟨hk,hq.1⟩
 ·exact absurd hk hq.2
theorem WI.key {w al A M} (hW:WI w al A M) {k:PointT_} (hk:zdf M k=true):∃X,k=pnt X/\RP (clT (total al)) w al (A k) X:=(hW.pt k _ (zix zbe hk)).1
theorem WI.len {w al A M} (C:Cx w al) (hW:WI w al A M):M.length<=93312:=by
 have h1:=zjW (m:=(zv7 (clT (total al)) w 5).map pnt) hW.nd fun k hk=>by
  obtain ⟨X,rfl,hr⟩:=hW.key (zbn.2 hk);exact List.mem_map.2 ⟨X,hr.up C.h C.hl C.nn (zlW _) (by have:=(zqL C hr).2.1;have:=C.t5;omega),rfl⟩
 rw [List.length_map,List.length_map] at h1;have h2:=zsj (clT (total al)) C.k3 (t:=5) (by omega)
 omega
theorem WI.mok {w al A M} (C:Cx w al) (hW:WI w al A M) {acts:List Int} {X:Pn} (hr:RP (clT (total al)) w al acts X):mok zbV M (pnt X)=true:=by
 unfold Go.AM.mok
 rw [(zqL C hr).2.2.2,Bool.true_and,Bool.and_eq_true];refine ⟨List.all_eq_true.2 fun p hp=>?_,decide_eq_true hW.nd⟩;obtain ⟨Y,e,hr'⟩:=(hW.pt p.1 p.2 hp).1
 show zbV p.1=true
 rw [e];exact (zqL C hr').2.2.2
theorem Cx.len4 {w al} (C:Cx w al):al.length<=4:=by rw [C.hl];have:=C.k3;omega
theorem zwH {w al} (C:Cx w al) {n:Nat} (hn:10<=n) {A M q} (hW:WI w al A M) {X Y:Pn} {a:Int} (hx:zdf M (pnt X)=true) (hr:RP (clT (total al)) w al (A (pnt X)++[a]) Y) (ha:a≠-2) {y:PointT_} (e1:y.in_=zcq Y.l) (e2:y.bought=Y.b) (e3:y.Stand.Place=Y.p) (e4:min y.Stand.Credit (total al-total Y.l)=Y.c) (hq:q.length<=M.length) :
  ∃A' M' q',zfr n (zcq al) (pnt X) a y (M,q)=some (M',q')/\WI w al A' M'/\Ext A M q A' M' q'/\zdf M' (pnt Y)=true:=by
 obtain ⟨hY,ht,hk,hok⟩:=zqL C hr;have h4:=C.len4
 have hal:∀k,0<=al.getD k 0/\al.getD k 0<=1000:=fun k=>by
  have h1:=zjA (zgW C.nn) k
  have h2:=C.t5
  omega
 have hnn:0<=total Y.l:=zhk (zgW hY.nn)
 have h5:=C.t5
 have e:zeZ y (w64 (total al-total Y.l))=pnt Y:=by
  rw [zaw (by omega) (by omega)]
  show (⟨⟨y.Stand.Place,min y.Stand.Credit (total al-total Y.l)⟩,y.in_,y.bought⟩:PointT_)=_
  rw [e1,e2,e3,e4]
  rfl
 have hlen:=hW.len C
 unfold zfr
 rw [zuS h4 hal hn,zaa,e1,zuS (by rw [hY.len];have:=C.k3;omega) (fun k=>by have:=hk k;omega) hn,zaa];simp only [e]
 rw [show zii zbV zbe M (pnt Y)=some (ziB zbe M (pnt Y)) from if_pos (hW.mok C hr),zaa];cases hh:zdf M (pnt Y) with
 | true =>
  rw [if_pos rfl];exact ⟨A,M,q,rfl,hW,Ext.refl A M q,hh⟩
 | false =>
  rw [if_neg (by simp),show zmZ zbV M (pnt Y) ⟨a,pnt X⟩=some (zln M (pnt Y) ⟨a,pnt X⟩) from if_pos (hW.mok C hr),zaa,if_pos (by omega),(zin zbe M _ hh).2.2];have hno:∀k,zdf M k=true->k≠pnt Y:=fun k hk he=>by rw [he,hh] at hk;cases hk
  refine ⟨fun k=>if k=pnt Y then A (pnt X)++[a] else A k,_,_,rfl,⟨?_,fun k st hm=>?_⟩,⟨⟨[(pnt Y,⟨a,pnt X⟩)],rfl,rfl⟩,fun k hk=>if_neg (hno k hk)⟩,?_⟩
  ·rw [List.map_append,List.nodup_append];refine ⟨hW.nd,by simp,fun u hu v hv=>?_⟩;simp only [List.map_cons,List.map_nil,List.mem_singleton] at hv
   rw [hv];exact hno u (zbn.2 hu)
  ·have hmono:∀k,zdf M k=true->zdf (M++[(pnt Y,(⟨a,pnt X⟩:Step_))]) k=true:=fun k hk=>by
    rw [zbn] at hk ⊢;rw [List.map_append];exact List.mem_append_left _ hk
   rcases List.mem_append.1 hm with hm | hm
   ·have hk:zdf M k=true:=zbn.2 (List.mem_map.2 ⟨_,hm,rfl⟩)
    obtain ⟨p1,p2⟩:=hW.pt k st hm;simp only [if_neg (hno k hk)]
    refine ⟨p1,?_⟩;rcases p2 with p2 | ⟨p2,p3,p4⟩
    ·exact .inl p2
    ·exact .inr ⟨p2,hmono _ p3,by rw [if_neg (hno _ p3)];exact p4⟩
   ·simp only [List.mem_singleton,Prod.mk.injEq] at hm
    obtain ⟨rfl,rfl⟩:=hm;simp only [if_pos rfl]
    exact ⟨⟨Y,rfl,hr⟩,.inr ⟨ha,hmono _ hx,by rw [if_neg (hno _ hx)];simp⟩⟩
  ·rw [zbn,List.map_append];exact List.mem_append_right _ (by simp)
theorem zxr {w:Wheel} (hv:valid w=true) {n:Nat} (hn:200<=n) {p:Int} (h0:0<=p) (h1:p<w.Round):zfK n w ⟨p,1⟩ [-1]=some (⟨0,0⟩,1,0):=by
 have h:=ziV hv
 rw [zwC (h.len (by omega)) hn _ _ (by simp) (by simp;omega)];have e:zjz w ⟨p,1⟩ (-1)=(⟨0,0⟩,true):=by
  unfold zjz
  rw [if_neg (by omega),if_neg (by simp)]
  rfl
 unfold zzO
 rw [if_pos hv,if_pos ⟨by simp only [zif,zks,Bool.and_eq_true,zck];omega,by simp,by simp [znJ]⟩];simp only [ztm,e]
 rfl
theorem zv8 {w:Wheel} (hv:valid w=true) {n:Nat} (hn:200<=n) {p:Int} (h0:0<=p) (h1:p<w.Round) {k:Nat} (hk:k<w.Coins.length):zfK n w ⟨p,0⟩ [(k:Int)]=some (⟨(turn w p (coin w k)).1,(turn w p (coin w k)).2⟩,0,0):=by
 have h:=ziV hv
 rw [zwC (h.len (by omega)) hn _ _ (by simp) (by simp;omega)];have e:zjz w ⟨p,0⟩ (k:Int)=(⟨(turn w p (coin w k)).1,(turn w p (coin w k)).2⟩,false):=by
  unfold zjz
  rw [if_pos (by omega)];simp
 unfold zzO
 rw [if_pos hv,if_pos ⟨by simp only [zif,zks,Bool.and_eq_true,zck];omega,by simp,by simp [znI hk]⟩];simp only [ztm,e]
 rfl
theorem zuT {w al} (C:Cx w al) {n:Nat} (hn:200<=n) {b:Box_} (hb:b.Box.Wheel=w) {A M q} (hW:WI w al A M) {X:Pn} (hx:zdf M (pnt X)=true) (hr:RP (clT (total al)) w al (A (pnt X)) X) (hq:q.length<=M.length) :
  ∃A' M' q',zgx n b (zcq al) (pnt X) (M,q)=some (M',q')/\WI w al A' M'/\Ext A M q A' M' q'/\(0<X.c->0<X.p->zdf M' (pnt (zpr (clT (total al)) X))=true):=by
 obtain ⟨hX,ht,hk,hok⟩:=zqL C hr;have h5:=C.t5
 have h6:=hX.cb
 have h7:=hX.bt
 unfold zgx
 rw [hb]
 show ∃A' M' q',(if decide (X.c>0)=true then if decide (X.p>0)=true then _ else _ else _)=_/\_
 by_cases hc:0<X.c
 ·by_cases hp:0<X.p
  ·rw [if_pos (by simpa using hc),if_pos (by simpa using hp)]
   show ∃A' M' q',Option.bind (zfK n w ⟨X.p,1⟩ [-1]) _=_/\_
   rw [zxr C.v hn hX.p0 hX.p1,zaa];obtain ⟨A',M',q',g1,g2,g3,g4⟩:=zwH (n:=n) C (by omega) hW (Y:=zpr (clT (total al)) X) (a:=-1) (y:=⟨⟨0,w64 (X.c-1)⟩,zcq X.l,X.b⟩) hx (hr.sel hc hp) (by omega) rfl rfl rfl (by
    show min (w64 (X.c-1)) (total al-total X.l)=min (X.c-1) (total al-total X.l)
    rw [zaw (by omega) (by omega)]) hq
   exact ⟨A',M',q',g1,g2,g3,fun _ _=>g4⟩
  ·rw [if_pos (by simpa using hc),if_neg (by simpa using hp)];exact ⟨A,M,q,rfl,hW,Ext.refl A M q,fun _ h=>absurd h hp⟩
 ·rw [if_neg (by simpa using hc)];exact ⟨A,M,q,rfl,hW,Ext.refl A M q,fun h=>absurd h hc⟩
theorem znQ {w al} (C:Cx w al) {n:Nat} (hn:200<=n) {b:Box_} (hb:b.Box.Wheel=w) {X:Pn}:∀(d i m:Nat),i+d=w.Coins.length->d<m->∀{A M q},WI w al A M->zdf M (pnt X)=true->RP (clT (total al)) w al (A (pnt X)) X->q.length<=M.length ->
  ∃A' M' q',zbG n b (zcq al) (pnt X) m (i:Int) (M,q)=some (M',q')/\WI w al A' M'/\Ext A M q A' M' q'/\∀k:Nat,i<=k->k<w.Coins.length->X.l.getD k 0≠al.getD k 0->zdf M' (pnt (zps (clT (total al)) w X k))=true
 | d,i,0,_,hm,_,_,_,_,_,_,_=>absurd hm (Nat.not_lt_zero _)
 | 0,i,m+1,hi,_,A,M,q,hW,hx,hr,hq=>by
  unfold zbG
  rw [hb,if_neg (by simp;omega)];exact ⟨A,M,q,rfl,hW,Ext.refl A M q,fun k h1 h2=>by omega⟩
 | d+1,i,m+1,hi,hm,A,M,q,hW,hx,hr,hq=>by
  obtain ⟨hX,ht,hk,hok⟩:=zqL C hr;have h5:=C.t5
  have h6:=hX.cb
  have h7:=hX.bt
  have h8:=hX.c0
  have h9:=C.k3
  have h4:=C.len4
  have hki:=hk i
  have hil:i<X.l.length:=by rw [hX.len];omega
  unfold zbG
  rw [hb,if_pos (by simp;omega)]
  show ∃A' M' q',Option.bind (idx (zwD X.l) (i:Int)) _=_/\_
  rw [znH (by omega),zaa,show idx ([(zcq al).c0,(zcq al).c1,(zcq al).c2,(zcq al).c3]:List Int) (i:Int)=some (al.getD i 0) from znH (by omega),zaa,zaw (x:=(i:Int)+1) (by omega) (by omega)]
  by_cases he:X.l.getD i 0=al.getD i 0
  ·rw [if_pos (by simpa using he)];obtain ⟨A',M',q',g1,g2,g3,g4⟩:=znQ C hn hb d (i+1) m (by omega) (by omega) hW hx hr hq;refine ⟨A',M',q',g1,g2,g3,fun k k1 k2 k3=>?_⟩
   by_cases e:k=i
   ·subst e
    exact absurd he k3
   ·exact g4 k (by omega) k2 k3
  ·rw [if_neg (by simpa using he)]
   show ∃A' M' q',Option.bind (zfK n w ⟨X.p,0⟩ [(i:Int)]) _=_/\_
   have hcoin:=zd8 C.h (a:=(i:Int)) (by omega) (by omega)
   have htr:=zfC C.h hX.p0 hX.p1 (show 0<=coin w i by omega)
   rw [zv8 C.v hn hX.p0 hX.p1 (by omega),zaa,zaw (x:=X.l.getD i 0+1) (by omega) (by omega)];rw [show zve ([(pnt X).in_.c0,(pnt X).in_.c1,(pnt X).in_.c2,(pnt X).in_.c3]:List Int) (i:Int) (X.l.getD i 0+1)=some (zwD (zfD X.l i)) from zrr hil (by rw [hX.len];omega),zaa];obtain ⟨A1,M1,q1,g1,g2,g3,g4⟩:=zwH (n:=n) C (by omega) hW (Y:=zps (clT (total al)) w X i) (a:=(i:Int)) (y:=⟨⟨(turn w X.p (coin w i)).1,w64 (X.c+(turn w X.p (coin w i)).2)⟩,zcq (zfD X.l i),w64 (X.b+(turn w X.p (coin w i)).2)⟩) hx (hr.coin (by omega) he) (by omega) rfl (by
     show w64 _=X.b+_
     rw [zaw (by omega) (by omega)]) rfl (by
     show min (w64 (X.c+(turn w X.p (coin w i)).2)) (total al-total (zfD X.l i))=min (X.c+(turn w X.p (coin w i)).2) (total al-(total X.l+1))
     rw [zaw (by omega) (by omega),zgs hil]) hq
   have hl1:=g3.len
   obtain ⟨A',M',q',k1,k2,k3,k4⟩:=znQ C hn hb d (i+1) m (by omega) (by omega) g2 (g3.has hx) (by rw [g3.same _ hx];exact hr) (show q1.length<=M1.length by omega);refine ⟨A',M',q',?_,k2,g3.trans k3,fun k j1 j2 j3=>?_⟩
   ·show Option.bind (zfr n (zcq al) (pnt X) (i:Int) ⟨⟨(turn w X.p (coin w i)).1,w64 (X.c+(turn w X.p (coin w i)).2)⟩,zcq (zfD X.l i),w64 (X.b+(turn w X.p (coin w i)).2)⟩ (M,q)) _=_
    rw [g1,zaa];exact k1
   ·by_cases e:k=i
    ·subst e
     exact k3.has g4
    ·exact k4 k (by omega) j2 j3
def Closed (w:Wheel) (al:List Int) (M:List (PointT_×Step_)) (X:Pn):Prop:=(0<X.c->0<X.p->zdf M (pnt (zpr (clT (total al)) X))=true)/\∀k:Nat,k<w.Coins.length->X.l.getD k 0≠al.getD k 0->zdf M (pnt (zps (clT (total al)) w X k))=true
theorem Closed.ext {w al A M q A' M' q'} (h:Ext A M q A' M' q') {X:Pn} (hc:Closed w al M X):Closed w al M' X:=⟨fun a b=>h.has (hc.1 a b),fun k a b=>h.has (hc.2 k a b)⟩
theorem zqv {w al} (C:Cx w al) {n:Nat} (hn:200<=n) {b:Box_} (hb:b.Box.Wheel=w):∀(m:Nat) {A M q},93312+q.length<m+M.length->WI w al A M->q.length<=M.length->(∀k,k∈q->zdf M k=true)->zdf M (pnt (zlV w))=true->(∀acts X,RP (clT (total al)) w al acts X->zdf M (pnt X)=true->pnt X∉q->Closed w al M X) ->
  ∃A' M',zd7 n b (zcq al) m (M,q)=some M'/\WI w al A' M'/\∀acts X,RP (clT (total al)) w al acts X->zdf M' (pnt X)=true
 | 0,A,M,q,hf,hW,_,_,_,_=>by
  have:=hW.len C
  omega
 | m+1,A,M,[],hf,hW,hq,hqm,hz,hcl=>by
  refine ⟨A,M,rfl,hW,fun acts X hr=>?_⟩
  induction hr with
  | zero=>exact hz
  | sel hr hc hp ih=>exact (hcl _ _ hr ih (by simp)).1 hc hp
  | coin hr hk hne ih=>exact (hcl _ _ hr ih (by simp)).2 _ hk hne
 | m+1,A,M,x::q,hf,hW,hq,hqm,hz,hcl=>by
  have hx:zdf M x=true:=hqm x (by simp)
  obtain ⟨X,rfl,hr⟩:=hW.key hx;simp only [List.length_cons] at hf hq
  obtain ⟨A1,M1,q1,g1,g2,g3,g4⟩:=zuT C hn hb hW hx hr (show q.length<=M.length by omega);have hl1:=g3.len
  obtain ⟨A2,M2,q2,k1,k2,k3,k4⟩:=znQ C hn hb w.Coins.length 0 n (by omega) (by have:=C.k3;omega) g2 (g3.has hx) (by rw [g3.same _ hx];exact hr) (show q1.length<=M1.length by omega);have hl2:=k3.len
  have hE:=g3.trans k3
  have hXc:Closed w al M2 X:=⟨fun a b=>k3.has (g4 a b),fun k a b=>k4 k (Nat.zero_le _) a b⟩
  have hX:=zqL C hr
  obtain ⟨A',M',j1,j2,j3⟩:=zqv C hn hb m (A:=A2) (M:=M2) (q:=q2) (by omega) k2 (by omega) (fun k hk=>by
   obtain ⟨N,e1,e2⟩:=hE.ex;rw [e2] at hk;rcases List.mem_append.1 hk with hk | hk
   ·exact hE.has (hqm k (List.mem_cons_of_mem _ hk))
   ·rw [zbn,e1,List.map_append];exact List.mem_append_right _ hk) (hE.has hz) fun acts Y hY hm hnq=>by
   obtain ⟨o1,o2⟩:=hE.out hm hnq
   by_cases e:pnt Y=pnt X
   ·obtain rfl:=zxq e (by rw [(zqL C hY).1.len,hX.1.len]) (by rw [(zqL C hY).1.len];have:=C.k3;omega);exact hXc
   ·exact (hcl acts Y hY o1 (by simp only [List.mem_cons,not_or];exact ⟨e,o2⟩)).ext hE
  refine ⟨A',M',?_,j2,j3⟩
  unfold zd7
  simp only
  rw [g1,zaa]
  show Option.bind (zbG n b (zcq al) (pnt X) n ((0:Nat):Int) (M1,q1)) _=_
  rw [k1,zaa];exact j1
theorem zsl (w:Wheel):pnt (zlV w)=zaU:=by
 have h:=fun k=>zku w k
 unfold pnt zlV zcq
 simp only [h]
theorem zxs {w al} (C:Cx w al) {n:Nat} (hn:100000<=n) {b:Box_} (hb:b.Box.Wheel=w):∃A M,zff n (some b) (zcq al)=some M/\WI w al A M/\∀acts X,RP (clT (total al)) w al acts X->zdf M (pnt X)=true:=by
 have hz:zdf [(zaU,(⟨-2,zaU⟩:Step_))] (pnt (zlV w))=true:=by rw [zsl];simp [zdf]
 exact zqv C (by omega) hb n (A:=fun _=>[]) (M:=[(zaU,⟨-2,zaU⟩)]) (q:=[zaU]) (by simp;omega) ⟨by simp,fun k st hm=>by
  simp only [List.mem_singleton,Prod.mk.injEq] at hm
  obtain ⟨rfl,rfl⟩:=hm;exact ⟨⟨zlV w,(zsl w).symm,.zero⟩,.inl ⟨rfl,rfl⟩⟩⟩ (by simp) (by simp [zdf]) hz fun acts X hr hm hnq=>by
  exfalso
  rw [zbn] at hm;exact hnq hm
theorem zuU {w al} (C:Cx w al) {A M} (hW:WI w al A M):∀(m:Nat) {k:PointT_} {acts:List Int},zdf M k=true->(A k).length<m->acts.length+(A k).length<100000->zex M m (ziB zbe M k) acts=some (acts++(A k).reverse)
 | 0,k,acts,hk,hm,_=>absurd hm (Nat.not_lt_zero _)
 | m+1,k,acts,hk,hm,hl=>by
  unfold zex
  rcases (hW.pt k _ (zix zbe hk)).2 with ⟨h1,h2⟩ | ⟨h1,h2,h3⟩
  ·rw [if_neg (by simpa using h1),h2];simp
  ·rw [h3,List.length_append,List.length_singleton] at hm hl;obtain ⟨Y,e,hr⟩:=hW.key h2;rw [if_pos (by simpa using h1),if_pos (by omega),show zii zbV zbe M (ziB zbe M k).from_=some (ziB zbe M (ziB zbe M k).from_) from if_pos (by rw [e];exact hW.mok C hr),zaa,zuU C hW m h2 (by omega) (by simp;omega)]
   conv=>rhs;rw [h3]
   simp
def sums (a b:List Int):List Int:=List.zipWith (·+·) a b
theorem zf9 {a b:List Int} (h:b.length=a.length):(sums a b).length=a.length:=by simp [sums,h]
theorem zga:∀{a b:List Int},b.length=a.length->∀k,(sums a b).getD k 0=a.getD k 0+b.getD k 0
 | [],[],_,k=>by simp [sums]
 | [],_::_,h,_=>by simp at h
 | _::_,[],h,_=>by simp at h
 | x::a,y::b,h,0=>by simp [sums]
 | x::a,y::b,h,k+1=>by
  have:=zga (a:=a) (b:=b) (by simpa using h) k
  simpa [sums] using this
theorem zgt:∀{a b:List Int},b.length=a.length->total (sums a b)=total a+total b
 | [],[],_=>rfl
 | [],_::_,h=>by simp at h
 | _::_,[],h=>by simp at h
 | x::a,y::b,h=>by
  have:=zgt (a:=a) (b:=b) (by simpa using h)
  simp only [sums,List.zipWith_cons_cons,total] at this ⊢
  omega
def zgd (l:List Int):Prop:=∀k,0<=l.getD k 0/\l.getD k 0<=1000
theorem zgd.sums {a b:List Int} (h:b.length=a.length) (ha:∀k,0<=a.getD k 0/\a.getD k 0<=500) (hb:∀k,0<=b.getD k 0/\b.getD k 0<=500):zgd (sums a b):=fun k=>by
 rw [zga h];have:=ha k
 have:=hb k
 omega
theorem getD_get {l:List Int} {k:Nat} (h:k<l.length):l[k]=l.getD k 0:=by simp [h]
theorem zuV {n:Nat} {a b:List Int} (h:b.length=a.length) (ha:zgd a) (hb:zgd b) (hl:a.length<1000) (hn:a.length<n):zjK n a b=some (sums a b):=by
 have key:∀(d i m:Nat) (v:List Int),d=a.length-i->i<=a.length->d<m->v.length=i->zdK a b m v (i:Int)=some (v++(sums a b).drop i):=by
  intro d
  induction d with
  | zero =>
   intro i m v hd hi hm hv
   obtain ⟨m,rfl⟩:∃q,m=q+1:=⟨m-1,by omega⟩;simp only [zdK,zfF,zg8]
   rw [if_neg (by simp;omega),List.drop_eq_nil_of_le (by rw [zf9 h];omega),List.append_nil]
  | succ d ih =>
   intro i m v hd hi hm hv
   obtain ⟨m,rfl⟩:∃q,m=q+1:=⟨m-1,by omega⟩;have h1:=ha i
   have h2:=hb i
   simp only [zdK,zfF]
   rw [if_pos (by simp;omega),zcz (by omega),zaa,zcz (by omega),zaa,getD_get,getD_get,zaw (by omega) (by omega),zf3 (by simp;omega),zaa,zaw (by omega) (by omega)];have:=ih (i+1) m (v++[a.getD i 0+b.getD i 0]) (by omega) (by omega) (by omega) (by simp [hv])
   rw [show (((i+1:Nat)):Int)=(i:Int)+1 by simp] at this;rw [this,List.drop_eq_getElem_cons (l:=sums a b) (i:=i) (by rw [zf9 h];omega),getD_get,zga h];simp
 have:=key a.length 0 n [] (by omega) (by omega) hn rfl
 rw [List.nil_append,List.drop_zero] at this;exact this
theorem zpt {n:Nat} {l:List Int} (hs:zgd l) (hl:l.length<1000) (hn:l.length<n):zgj n l=some (total l):=by
 have key:=zti (F:=fun m i (s:Int)=>zdh l m s i) (xs:=l) (spec:=fun k s=>some (s+total k)) (I:=fun k s=>0<=s/\s+1000*k.length<=100000000/\∀x,x∈k->0<=x/\x<=1000) (by omega)
  (fun m s hI=>by simp [zdh,zfc,zgv,total])
  (fun m i x k s hI hx hi _ _ hrec=>by
   obtain ⟨i1,i2,i3⟩:=hI;have hxr:=i3 x (by simp)
   simp only [List.length_cons] at i2
   simp only [zdh,zfc]
   rw [if_pos (by simpa using hi),hx,zaa,zaw (x:=s+x) (by omega) (by omega),hrec (s+x) ⟨by omega,by omega,fun y hy=>i3 y (by simp [hy])⟩];simp only [total]
   congr 1
   omega)
  l 0 n 0 (by omega) rfl (by omega) ⟨by omega,by omega,fun x hx=>by
   obtain ⟨k,hk⟩:=List.getElem?_of_mem hx;have:=hs k
   rwa [List.getD_eq_getElem?_getD,hk] at this⟩
 rw [show zgj n l=_ from key,Int.zero_add]
theorem zjX (a b c:Int):zdi a b c=some (inR a b c):=by
 unfold zdi zdy inR
 by_cases h:b<=a<;>simp [h]
theorem rwithin_eq (a b c:Int):zeu a b c=some (inR a b c):=by
 unfold zeu
 rw [Within_eq,zaa]
def zzc (b:Box):Prop:=∀k,k<b.Found.length->0<=b.Marked.getD k 0/\b.Marked.getD k 0<=b.Found.getD k 0
instance (b:Box):Decidable (zzc b):=inferInstanceAs (Decidable (∀k,k<b.Found.length->0<=b.Marked.getD k 0/\b.Marked.getD k 0<=b.Found.getD k 0))
structure BoxOk (b:Box):Prop where
 v:valid b.Wheel=true
 p:inR b.Plays 0 9999=true
 s:inR b.Skips 0 9=true
 f:zec b.Wheel b.Found=true
 g:zec b.Wheel b.Slugs=true
 ml:b.Marked.length=b.Found.length
 mkd:zzc b
 t:total b.Found+total b.Slugs<=12
open Classical in
noncomputable def zqw (b:Box):Bool:=decide (BoxOk b)
theorem ziA {b:Box}:zqw b=true↔BoxOk b:=by simp [zqw]
theorem zjB {b:Box} (h:¬BoxOk b):zqw b=false:=by simp [zqw,h]
def zxt (b:Box):Prop:=b.Wheel.Notches.length<=40/\b.Wheel.Coins.length<=40/\b.Found.length<=40/\b.Marked.length<=40/\b.Slugs.length<=40
theorem zfu {w:Wheel} {l:List Int} (h:zec w l=true):l.length=w.Coins.length/\(∀k,0<=l.getD k 0/\l.getD k 0<=12)/\total l<=12:=by
 obtain ⟨h1,h2⟩:=zv6 h;simp only [zec,Bool.and_eq_true,decide_eq_true_eq] at h
 refine ⟨h.1.1,fun k=>?_,h2⟩;have:=zjA h1.nn k
 omega
theorem zqx {w:Wheel} {l:List Int} (h:zec w l=true):l.all (fun x=>inR x 0 12)=true:=by
 simp only [zec,Bool.and_eq_true] at h
 exact h.1.2
open Classical in
theorem zv9 (b:Box) (n:Nat) (hl:zxt b) (hn:200<=n):zgi n b=some (cond (zqw b) 0 50):=by
 obtain ⟨l1,l2,l3,l4,l5⟩:=hl
 unfold zgi
 have hol:zqq n b.Wheel:=⟨by omega,by omega,by omega,by omega⟩
 have no:∀h:¬BoxOk b,(some 50:Option Int)=some (cond (zqw b) 0 50):=fun h=>by rw [zjB h];rfl
 have j1:zcs n b true=some 50:=rfl
 rw [rCheck_eq hol,zaa]
 by_cases hv:valid b.Wheel=true
 ·rw [hv]
  show Option.bind _ _=_
  rw [zlU (by omega) (by omega),zaa]
  by_cases hf:zec b.Wheel b.Found=true
  ·rw [if_neg (by simp [hf]),zlU (by omega) (by omega),zaa]
   by_cases hg:zec b.Wheel b.Slugs=true
   ·rw [if_neg (by simp [hg])]
    by_cases hm:b.Marked.length=b.Found.length
    ·rw [if_neg (by simp;omega),rwithin_eq,zaa]
     by_cases hp:inR b.Plays 0 9999=true
     ·rw [if_neg (by simp [hp]),rwithin_eq,zaa]
      by_cases hs:inR b.Skips 0 9=true
      ·rw [hs]
       show zcr n b n 0=_
       obtain ⟨f1,f2,f3⟩:=zfu hf;obtain ⟨g1,g2,g3⟩:=zfu hg;have hfg:b.Slugs.length=b.Found.length:=by omega
       have hS:=zgd.sums hfg (fun k=>by have:=f2 k;omega) (fun k=>by have:=g2 k;omega)
       have hj2:zeY n b=some (if total b.Found+total b.Slugs<=12 then 0 else 50):=by
        unfold zeY
        rw [zuV hfg (fun k=>by have:=f2 k;omega) (fun k=>by have:=g2 k;omega) (by omega) (by omega),zaa,zlU (by omega) (by omega),zaa]
        by_cases ht:total b.Found+total b.Slugs<=12
        ·rw [if_pos ht,if_neg];have hnn:∀k,0<=(sums b.Found b.Slugs).getD k 0:=fun k=>(hS k).1
         have:zec b.Wheel (sums b.Found b.Slugs)=true:=by
          simp only [zec,Bool.and_eq_true,decide_eq_true_eq,List.all_eq_true]
          refine ⟨⟨by rw [zf9 hfg];omega,fun x hx=>?_⟩,by rw [zgt hfg];exact ht⟩;obtain ⟨k,hk⟩:=List.getElem?_of_mem hx;have h1:=zjA (zgW hnn) k
          rw [zgt hfg] at h1;rw [List.getD_eq_getElem?_getD,hk] at h1;exact zck.2 ⟨h1.1,Int.le_trans h1.2 ht⟩
         simp [this]
        ·rw [if_neg ht,if_pos];have:zec b.Wheel (sums b.Found b.Slugs)=false:=by
          simp only [zec,zgt hfg]
          simp [ht]
         simp [this]
       have key:∀(d i m:Nat),d=b.Found.length-i->i<=b.Found.length->d<m->zcr n b m (i:Int)=some (if (∀k,i<=k->k<b.Found.length->0<=b.Marked.getD k 0/\b.Marked.getD k 0<=b.Found.getD k 0)/\total b.Found+total b.Slugs<=12 then 0 else 50):=by
        intro d
        induction d with
        | zero =>
         intro i m hd hi hm
         obtain ⟨m,rfl⟩:∃q,m=q+1:=⟨m-1,by omega⟩;simp only [zcr,zfb]
         rw [if_neg (by simp;omega),hj2]
         congr 1
         by_cases ht:total b.Found+total b.Slugs<=12
         ·rw [if_pos ht,if_pos ⟨fun k h1 h2=>by omega,ht⟩]
         ·rw [if_neg ht,if_neg fun h=>ht h.2]
        | succ d ih =>
         intro i m hd hi hm
         obtain ⟨m,rfl⟩:∃q,m=q+1:=⟨m-1,by omega⟩;simp only [zcr,zfb]
         rw [if_pos (by simp;omega),zcz (by omega),zaa,zcz (by omega),zaa,rwithin_eq,zaa,getD_get,getD_get,zaw (by omega) (by omega)];have:=ih (i+1) m (by omega) (by omega) (by omega)
         rw [show (((i+1:Nat)):Int)=(i:Int)+1 by simp] at this
         by_cases hq:inR (b.Marked.getD i 0) 0 (b.Found.getD i 0)=true
         ·rw [if_neg (by rw [hq];simp),this]
          congr 1
          by_cases hR:(∀k,i+1<=k->k<b.Found.length->0<=b.Marked.getD k 0/\b.Marked.getD k 0<=b.Found.getD k 0)/\total b.Found+total b.Slugs<=12
          ·have hall:∀k,i<=k->k<b.Found.length->0<=b.Marked.getD k 0/\b.Marked.getD k 0<=b.Found.getD k 0:=fun k h1 h2=>by
            by_cases e:k=i
            ·subst e
             exact zck.1 hq
            ·exact hR.1 k (by omega) h2
           rw [if_pos hR,if_pos ⟨hall,hR.2⟩]
          ·rw [if_neg hR,if_neg fun h=>hR ⟨fun k h1 h2=>h.1 k (by omega) h2,h.2⟩]
         ·rw [if_pos (by simpa using hq),if_neg fun h=>hq (zck.2 (h.1 i (Nat.le_refl _) (by omega)))]
       rw [show zcr n b n 0=_ from key b.Found.length 0 n (by omega) (by omega) (by omega)]
       by_cases hR:(∀k,0<=k->k<b.Found.length->0<=b.Marked.getD k 0/\b.Marked.getD k 0<=b.Found.getD k 0)/\total b.Found+total b.Slugs<=12
       ·rw [if_pos hR,ziA.2 ⟨hv,hp,hs,hf,hg,hm,fun k hk=>hR.1 k (Nat.zero_le _) hk,hR.2⟩]
        rfl
       ·rw [if_neg hR];exact no fun h=>hR ⟨fun k _ hk=>h.mkd k hk,h.t⟩
      ·rw [show (!inR b.Skips 0 9)=true by simpa using hs,j1];exact no fun h=>hs h.s
     ·rw [if_pos (by simpa using hp),j1];exact no fun h=>hp h.p
    ·rw [if_pos (by simp;omega),j1];exact no fun h=>hm h.ml
   ·rw [if_pos (by simpa using hg),j1];exact no fun h=>hg h.g
  ·rw [if_pos (by simpa using hf),j1];exact no fun h=>hf h.f
 ·rw [show valid b.Wheel=false by simpa using hv];exact no fun h=>hv h.v
theorem zuW {n:Nat} (f:Int->Option Bool) (g:Int->Bool) (xs:List Int) (hf:∀x,x∈xs->f x=some (g x)) (hl:xs.length<1048576) (hn:xs.length<n) :
  zbv n (fun x (_:Unit)=>(f x).map fun y=>(y,())) xs ()=some (xs.any g,()):=by
 have key:∀(l:List Int) (i m:Nat) (s:Unit),i<=xs.length->xs.drop i=l->l.length<m->(zaD xs (fun x (_:Unit)=>(f x).map fun y=>(y,())) m (i:Int) s).map (fun r=>decide (r.1≥0))=some (l.any g):=by
  intro l i m s h1 h2 h3
  refine zvZ (fun m i s=>(zaD xs (fun x (_:Unit)=>(f x).map fun y=>(y,())) m i s).map (fun r=>decide (r.1≥0))) xs (fun l _=>some (l.any g)) hl (fun m s=>?_) (fun m i x l s hx hi _ _ hrec=>?_) l i m s h1 h2 h3
  ·simp [zaD,zbj,zb5]
  ·have hmem:x∈xs:=by
    unfold idx at hx
    rw [if_pos (by omega)] at hx;exact List.mem_of_getElem? hx
   simp only [zaD,zbj]
   rw [if_pos (by simpa using hi),hx,zaa];simp only [hf x hmem,Option.map_some,zaa]
   by_cases hg:g x=true
   ·rw [if_pos (by simpa using hg)];simp [hg]
   ·rw [if_neg (by simpa using hg)];have:=hrec ()
    rw [this];simp [hg]
 have h:=key xs 0 n () (by omega) rfl hn
 unfold zbv zdp
 change Option.map _ (zaD xs _ n 0 ())=_ at h;cases hx:zaD xs (fun x (_:Unit)=>(f x).map fun y=>(y,())) n 0 () with
 | none=>rw [hx] at h;cases h
 | some r =>
  rw [hx] at h;simp only [Option.map_some,Option.some.injEq] at h
  simp only [zaa]
  rw [h]
def zwa (w:Wheel) (l:List Int):Bool:=decide (l.length≠w.Coins.length) || l.any (fun x=>!inR x 0 12)
theorem zpu {n:Nat} (hn:200<=n) (b:Box) (m:Nat) (i:Int) (l:List Int) (hi:i<3) (h0:0<=i) (hl:l.length<=40) (hc:b.Wheel.Coins.length<=40) (hx:idx ([b.Found,b.Marked,b.Slugs]:List (List Int)) i=some l) :
  zaZ n b (m+1) i=if zwa b.Wheel l=true then some 50 else zaZ n b m (i+1):=by
 simp only [zaZ,zfI,zdY]
 rw [if_pos (by simpa using hi),hx,zaa,zuW zdX (fun x=>!inR x 0 12) l (fun x _=>by unfold zdX;rw [zjX,zaa]) (by omega) (by omega),zaa,zaw (x:=i+1) (by omega) (by omega)]
 unfold zwa
 by_cases h1:l.length=b.Wheel.Coins.length
 ·rw [if_neg (by simp;omega),show decide (l.length≠b.Wheel.Coins.length)=false by simp [h1],Bool.false_or]
 ·rw [if_pos (by simp;omega),show decide (l.length≠b.Wheel.Coins.length)=true by simp [h1],Bool.true_or]
  rfl
theorem zrw {w:Wheel} {l:List Int} (h:zwa w l=false):l.length=w.Coins.length/\l.all (fun x=>inR x 0 12)=true:=by
 simp only [zwa,Bool.or_eq_false_iff,decide_eq_false_iff_not,Decidable.not_not,List.any_eq_false,List.all_eq_true] at h ⊢
 exact ⟨h.1,fun x hx=>by simpa using h.2 x hx⟩
theorem zrx {w:Wheel} {l:List Int} (h1:l.length=w.Coins.length) (h2:l.all (fun x=>inR x 0 12)=true):zwa w l=false:=by
 rw [List.all_eq_true] at h2;simp only [zwa,Bool.or_eq_false_iff,decide_eq_false_iff_not,Decidable.not_not,List.any_eq_false]
 exact ⟨h1,fun x hx=>by simp [h2 x hx]⟩
open Classical in
theorem zqy (b:Box) (n:Nat) (hl:zxt b) (hn:200<=n):zg9 n b=some (cond (zqw b) 0 50):=by
 obtain ⟨l1,l2,l3,l4,l5⟩:=hl;have hol:zqq n b.Wheel:=⟨by omega,by omega,by omega,by omega⟩
 have no:∀h:¬BoxOk b,(some 50:Option Int)=some (cond (zqw b) 0 50):=fun h=>by rw [zjB h];rfl
 have j1:zc3 n b true=some 50:=rfl
 unfold zg9
 rw [Check_eq hol,zaa]
 by_cases hv:valid b.Wheel=true
 ·rw [hv]
  show Option.bind _ _=_
  rw [zjX,zaa]
  by_cases hp:inR b.Plays 0 9999=true
  ·rw [if_neg (by simp [hp]),zjX,zaa]
   by_cases hs:inR b.Skips 0 9=true
   ·rw [hs]
    show zaZ n b n 0=_
    obtain ⟨n,rfl⟩:∃q,n=q+4:=⟨n-4,by omega⟩;have en:∀m i,zaZ (n+4) b (m+1) i=zaZ (n+4) b (m+1) i:=fun _ _=>rfl
    rw [show zaZ (n+4) b (n+4) 0=zaZ (n+4) b ((n+3)+1) 0 from rfl,zpu hn b (n+3) 0 b.Found (by omega) (by omega) (by omega) l2 rfl]
    by_cases b1:zwa b.Wheel b.Found=true
    ·rw [if_pos b1];exact no fun h=>by rw [zrx (zfu h.f).1 (zqx h.f)] at b1;cases b1
    rw [if_neg b1,show zaZ (n+4) b (n+3) (0+1)=zaZ (n+4) b ((n+2)+1) 1 from rfl,zpu hn b (n+2) 1 b.Marked (by omega) (by omega) (by omega) l2 rfl];obtain ⟨f1,f2⟩:=zrw (by simpa using b1)
    by_cases b2:zwa b.Wheel b.Marked=true
    ·rw [if_pos b2];refine no fun h=>?_
     rw [zrx (by rw [h.ml];exact f1) (List.all_eq_true.2 fun x hx=>?_)] at b2
     ·cases b2
     ·obtain ⟨k,hk⟩:=List.getElem?_of_mem hx;have hkl:k<b.Marked.length:=by
       rcases Nat.lt_or_ge k b.Marked.length with h1 | h1
       ·exact h1
       ·rw [List.getElem?_eq_none h1] at hk;cases hk
      have h1:=h.mkd k (by have:=h.ml;omega)
      have h2:=(zfu h.f).2.1 k
      rw [List.getD_eq_getElem?_getD,hk] at h1;have h3:0<=x/\x<=b.Found.getD k 0:=h1
      exact zck.2 ⟨h3.1,by omega⟩
    rw [if_neg b2,show zaZ (n+4) b (n+2) (1+1)=zaZ (n+4) b ((n+1)+1) 2 from rfl,zpu hn b (n+1) 2 b.Slugs (by omega) (by omega) (by omega) l2 rfl];obtain ⟨m1,m2⟩:=zrw (by simpa using b2)
    by_cases b3:zwa b.Wheel b.Slugs=true
    ·rw [if_pos b3];exact no fun h=>by rw [zrx (zfu h.g).1 (zqx h.g)] at b3;cases b3
    rw [if_neg b3];obtain ⟨g1,g2⟩:=zrw (by simpa using b3);have sm:∀{l:List Int},l.all (fun x=>inR x 0 12)=true->∀k,0<=l.getD k 0/\l.getD k 0<=12:=fun {l} h k=>by
     rw [List.all_eq_true] at h;rw [List.getD_eq_getElem?_getD];cases hk:l[k]? with
     | none=>simp
     | some x=>exact zck.1 (h x (List.mem_of_getElem? hk))
    have f3:=sm f2
    have g3:=sm g2
    have m3:=sm m2
    show zbJ b (n+4) 0 0=_
    have key:∀(d i m:Nat) (v:Int),d=b.Found.length-i->i<=b.Found.length->d<m->0<=v->v<=100*i->zbJ b m v (i:Int)=some (if (∀k,i<=k->k<b.Found.length->b.Marked.getD k 0<=b.Found.getD k 0)/\v+total (b.Found.drop i)+total (b.Slugs.drop i)<=12 then 0 else 50):=by
     intro d
     induction d with
     | zero =>
      intro i m v hd hi hm h0 h1
      obtain ⟨m,rfl⟩:∃q,m=q+1:=⟨m-1,by omega⟩;simp only [zbJ,zef,zfd]
      have e1:total (b.Found.drop i)=0:=by rw [List.drop_eq_nil_of_le (by omega)];rfl
      have e2:total (b.Slugs.drop i)=0:=by rw [List.drop_eq_nil_of_le (by omega)];rfl
      rw [if_neg (by simp;omega)]
      by_cases ht:v>12
      ·rw [if_pos (by simpa using ht),if_neg fun h=>by omega]
      ·rw [if_neg (by simpa using ht),if_pos ⟨fun k h1 h2=>by omega,by omega⟩]
     | succ d ih =>
      intro i m v hd hi hm h0 h1
      obtain ⟨m,rfl⟩:∃q,m=q+1:=⟨m-1,by omega⟩;have fi:=f3 i
      have gi:=g3 i
      simp only [zbJ,zef]
      rw [if_pos (by simp;omega),zcz (by omega),zaa,zcz (by omega),zaa,getD_get,getD_get]
      by_cases hq:b.Marked.getD i 0>b.Found.getD i 0
      ·rw [if_pos (by simpa using hq),if_neg fun h=>by have:=h.1 i (Nat.le_refl _) (by omega);omega]
      ·rw [if_neg (by simpa using hq),zcz (by omega),zaa,getD_get,zaw (x:=b.Found.getD i 0+b.Slugs.getD i 0) (by omega) (by omega),zaw (x:=v+_) (by omega) (by omega),zaw (x:=(i:Int)+1) (by omega) (by omega)];have:=ih (i+1) m (v+(b.Found.getD i 0+b.Slugs.getD i 0)) (by omega) (by omega) (by omega) (by omega) (by omega)
       rw [show (((i+1:Nat)):Int)=(i:Int)+1 by simp] at this;have e1:total (b.Found.drop i)=b.Found.getD i 0+total (b.Found.drop (i+1)):=by rw [List.drop_eq_getElem_cons (l:=b.Found) (i:=i) (by omega),getD_get];rfl
       have e2:total (b.Slugs.drop i)=b.Slugs.getD i 0+total (b.Slugs.drop (i+1)):=by rw [List.drop_eq_getElem_cons (l:=b.Slugs) (i:=i) (by omega),getD_get];rfl
       rw [this]
       congr 1
       by_cases hR:(∀k,i+1<=k->k<b.Found.length->b.Marked.getD k 0<=b.Found.getD k 0)/\v+(b.Found.getD i 0+b.Slugs.getD i 0)+total (b.Found.drop (i+1))+total (b.Slugs.drop (i+1))<=12
       ·have hall:∀k,i<=k->k<b.Found.length->b.Marked.getD k 0<=b.Found.getD k 0:=fun k h1 h2=>by
         by_cases e:k=i
         ·subst e
          omega
         ·exact hR.1 k (by omega) h2
        rw [if_pos hR,if_pos ⟨hall,by have:=hR.2;omega⟩]
       ·rw [if_neg hR,if_neg fun h=>hR ⟨fun k h1 h2=>h.1 k (by omega) h2,by have:=h.2;omega⟩]
    rw [show zbJ b (n+4) 0 0=_ from key b.Found.length 0 (n+4) 0 (by omega) (by omega) (by omega) (by omega) (by omega)];simp only [List.drop_zero,Int.zero_add]
    have nnf:∀x,x∈b.Found->0<=x:=zgW fun k=>(f3 k).1
    have nng:∀x,x∈b.Slugs->0<=x:=zgW fun k=>(g3 k).1
    by_cases hR:(∀k,0<=k->k<b.Found.length->b.Marked.getD k 0<=b.Found.getD k 0)/\total b.Found+total b.Slugs<=12
    ·have tf:=zhk nnf
     have tg:=zhk nng
     rw [if_pos hR,ziA.2 ⟨hv,hp,hs,by simp only [zec,Bool.and_eq_true,decide_eq_true_eq];exact ⟨⟨f1,f2⟩,by have:=hR.2;omega⟩,by simp only [zec,Bool.and_eq_true,decide_eq_true_eq];exact ⟨⟨g1,g2⟩,by have:=hR.2;omega⟩,by omega,fun k hk=>⟨(m3 k).1,hR.1 k (Nat.zero_le _) hk⟩,hR.2⟩]
     rfl
    ·rw [if_neg hR];exact no fun h=>hR ⟨fun k _ hk=>(h.mkd k hk).2,h.t⟩
   ·rw [show (!inR b.Skips 0 9)=true by simpa using hs,j1];exact no fun h=>hs h.s
  ·rw [if_pos (by simpa using hp),j1];exact no fun h=>hp h.p
 ·rw [show valid b.Wheel=false by simpa using hv];exact no fun h=>hv h.v
def zcZ (b:Box):List Int:=sums b.Found b.Slugs
structure Near (b:Box):Prop where
 ok:BoxOk b
 k3:b.Wheel.Coins.length<=3
 t3:total b.Found+total b.Slugs<=3
theorem zpv {l:List Int} {k j:Nat} {v:Int} (hk:k<l.length):(l.set k v).getD j 0=if k=j then v else l.getD j 0:=by
 by_cases e:k=j
 ·subst e
  rw [if_pos rfl,List.getD_eq_getElem?_getD,List.getElem?_set_self hk]
  rfl
 ·rw [if_neg e,List.getD_eq_getElem?_getD,List.getElem?_set_ne e,←List.getD_eq_getElem?_getD]
structure NearF (b:Box):Prop where
 fl:b.Found.length=b.Wheel.Coins.length
 sl:b.Slugs.length=b.Wheel.Coins.length
 ml:b.Marked.length=b.Wheel.Coins.length
 f:∀k,0<=b.Found.getD k 0/\b.Found.getD k 0<=12
 s:∀k,0<=b.Slugs.getD k 0/\b.Slugs.getD k 0<=12
 m:∀k,0<=b.Marked.getD k 0/\b.Marked.getD k 0<=12
 p:0<=b.Plays/\b.Plays<=9999
 k:0<=b.Skips/\b.Skips<=9
 h:OkW b.Wheel
theorem BoxOk.far {b:Box} (N:BoxOk b):NearF b:=by
 obtain ⟨f1,f2,f3⟩:=zfu N.f;obtain ⟨g1,g2,g3⟩:=zfu N.g;refine ⟨f1,g1,by rw [N.ml];exact f1,f2,g2,fun k=>?_,zck.1 N.p,zck.1 N.s,ziV N.v⟩;rcases Nat.lt_or_ge k b.Found.length with h | h
 ·have:=N.mkd k h
  have:=f2 k
  omega
 ·rw [List.getD_eq_getElem?_getD,List.getElem?_eq_none (by rw [N.ml];exact h)];simp
theorem zjC {b:Box} (F:NearF b):(zcZ b).length=b.Wheel.Coins.length:=by rw [zcZ,zf9 (by rw [F.sl,F.fl]),F.fl]
theorem zlj {b:Box} (F:NearF b) (k:Nat):(zcZ b).getD k 0=b.Found.getD k 0+b.Slugs.getD k 0:=zga (by rw [F.sl,F.fl]) k
theorem zjD {b:Box} (F:NearF b):total (zcZ b)=total b.Found+total b.Slugs:=zgt (by rw [F.sl,F.fl])
structure More (b:Box) (P:List Int):Prop where
 l:P.length=b.Wheel.Coins.length
 nn:∀k,0<=P.getD k 0
 t:total P<=2
theorem More.small {b:Box} {P:List Int} (h:More b P):∀k,0<=P.getD k 0/\P.getD k 0<=2:=fun k=>by
 have:=zjA (zgW h.nn) k
 have:=h.t
 omega
theorem Near.cx0 {b:Box} (N:Near b):Cx b.Wheel (zcZ b) :=
 have F:=N.ok.far
 ⟨N.ok.v,zjC F,fun k=>by rw [zlj F];have:=F.f k;have:=F.s k;omega,N.k3,by rw [zjD F];have:=N.t3;omega⟩
theorem Near.cx {b:Box} (N:Near b) {P:List Int} (h:More b P):Cx b.Wheel (sums (zcZ b) P) :=
 have F:=N.ok.far
 have e:P.length=(zcZ b).length:=by rw [h.l,zjC F]
 ⟨N.ok.v,by rw [zf9 e,zjC F],fun k=>by rw [zga e,zlj F];have:=F.f k;have:=F.s k;have:=h.nn k;omega,N.k3,by rw [zgt e,zjD F];have:=N.t3;have:=h.t;omega⟩
theorem put_eq {b:Box} (F:NearF b) (h4:b.Wheel.Coins.length<=4) {n:Nat} (hn:10<=n):zhz n (some ⟨b⟩)=some (zcq (zcZ b)):=by
 have hfl:=F.fl
 have hsl:=F.sl
 have key:∀(d i m:Nat) (Q:List Int),d=b.Found.length-i->i<=b.Found.length->d<m->Q.length=b.Found.length->(∀k:Nat,k<i->Q.getD k 0=b.Found.getD k 0+b.Slugs.getD k 0)->zb6 (some ⟨b⟩) ⟨b⟩ m (i:Int) (Q.getD 0 0) (Q.getD 1 0) (Q.getD 2 0) (Q.getD 3 0)=some (zcq (zcZ b)):=by
  intro d
  induction d with
  | zero =>
   intro i m Q hd hi hm hQ hk
   obtain ⟨m,rfl⟩:∃q,m=q+1:=⟨m-1,by omega⟩;simp only [zb6,zdr,zeh]
   have e:Q=zcZ b:=zde (n:=b.Found.length) hQ (by rw [zjC F,F.fl]) fun k hk'=>by rw [hk k (by omega),zlj F]
   rw [if_neg (by simp;omega),e]
   rfl
  | succ d ih =>
   intro i m Q hd hi hm hQ hk
   obtain ⟨m,rfl⟩:∃q,m=q+1:=⟨m-1,by omega⟩;have h1:=F.f i
   have h2:=F.s i
   simp only [zb6,zdr]
   rw [if_pos (by simp;omega),show idx b.Found (i:Int)=some (b.Found.getD i 0) by rw [zcz (by omega),getD_get],zaa,zaa,show idx (⟨b⟩:Box_).Box.Slugs (i:Int)=some (b.Slugs.getD i 0) by show idx b.Slugs (i:Int)=_;rw [zcz (by omega),getD_get],zaa,show idx ([Q.getD 0 0,Q.getD 1 0,Q.getD 2 0,Q.getD 3 0]:List Int) (i:Int)=some (Q.getD i 0) from znH (by omega),zaa,zaw (x:=b.Found.getD i 0+_) (by omega) (by omega),show zve ([Q.getD 0 0,Q.getD 1 0,Q.getD 2 0,Q.getD 3 0]:List Int) (i:Int) (b.Found.getD i 0+b.Slugs.getD i 0)=some (zwD (Q.set i (b.Found.getD i 0+b.Slugs.getD i 0))) from zrr (by omega) (by omega),zaa,zaw (x:=(i:Int)+1) (by omega) (by omega)];have:=ih (i+1) m (Q.set i (b.Found.getD i 0+b.Slugs.getD i 0)) (by omega) (by omega) (by omega) (by simp [hQ]) fun k hk'=>by
    rw [zpv (by omega)]
    by_cases e:i=k
    ·subst e
     rw [if_pos rfl]
    ·rw [if_neg e,hk k (by omega)]
   rw [show (((i+1:Nat)):Int)=(i:Int)+1 by simp] at this;exact this
 have:=key b.Found.length 0 n (List.replicate b.Found.length 0) (by omega) (by omega) (by omega) (by simp) fun k hk=>by omega
 have hz:∀k,(List.replicate b.Found.length (0:Int)).getD k 0=0:=fun k=>by
  rw [List.getD_eq_getElem?_getD,List.getElem?_replicate]
  split<;>rfl
 simp only [hz] at this
 exact this
theorem zqz {b:Box} {P base:List Int} (hP:More b P) (hb:base.length=b.Wheel.Coins.length) (hs:zgd base) (h4:b.Wheel.Coins.length<=4) {n:Nat} (hn:10<=n):zbX P n 0 (zcq base)=some (zcq (sums base P)):=by
 have hl:=hP.l
 have key:∀(d i m:Nat) (Q:List Int),d=P.length-i->i<=P.length->d<m->Q.length=P.length->(∀k:Nat,k<i->Q.getD k 0=base.getD k 0+P.getD k 0)->(∀k:Nat,i<=k->Q.getD k 0=base.getD k 0)->zbX P m (i:Int) (zcq Q)=some (zcq (sums base P)):=by
  intro d
  induction d with
  | zero =>
   intro i m Q hd hi hm hQ hk _
   obtain ⟨m,rfl⟩:∃q,m=q+1:=⟨m-1,by omega⟩;simp only [zbX]
   have e:Q=sums base P:=zde (n:=P.length) hQ (by rw [zf9 (by omega)];omega) fun k hk'=>by rw [hk k (by omega),zga (by omega)]
   rw [if_neg (by simp;omega),e]
  | succ d ih =>
   intro i m Q hd hi hm hQ hk hk2
   obtain ⟨m,rfl⟩:∃q,m=q+1:=⟨m-1,by omega⟩;have h1:=hs i
   have h2:=hP.small i
   have h3:=hk2 i (Nat.le_refl _)
   simp only [zbX]
   rw [if_pos (by simp;omega),zcz (by omega),zaa,getD_get,show idx ([(zcq Q).c0,(zcq Q).c1,(zcq Q).c2,(zcq Q).c3]:List Int) (i:Int)=some (Q.getD i 0) from znH (by omega),zaa,zaw (x:=Q.getD i 0+_) (by omega) (by omega),show zve ([(zcq Q).c0,(zcq Q).c1,(zcq Q).c2,(zcq Q).c3]:List Int) (i:Int) (Q.getD i 0+P.getD i 0)=some (zwD (Q.set i (Q.getD i 0+P.getD i 0))) from zrr (by omega) (by omega),zaa,zaw (x:=(i:Int)+1) (by omega) (by omega)];have:=ih (i+1) m (Q.set i (Q.getD i 0+P.getD i 0)) (by omega) (by omega) (by omega) (by simp [hQ]) (fun k hk'=>by
    rw [zpv (by omega)]
    by_cases e:i=k
    ·subst e
     rw [if_pos rfl,h3]
    ·rw [if_neg e,hk k (by omega)]) fun k hk'=>by
    rw [zpv (by omega),if_neg (by omega),hk2 k (by omega)]
   rw [show (((i+1:Nat)):Int)=(i:Int)+1 by simp] at this;exact this
 exact key P.length 0 n base (by omega) (by omega) (by omega) (by omega) (fun k hk=>by omega) fun k _=>rfl
theorem zlk {n:Nat} {b:Box} (h:OkW b.Wheel) (hn:100<=n) {l:List Int} (hlen:l.length=b.Wheel.Coins.length) (hl:zgd l):zbk n (some ⟨b⟩) l=some (zch b.Wheel l):=by
 have h4:=h.clen
 have key:∀(d i m:Nat) (s:Int),d=b.Wheel.Coins.length-i->i<=b.Wheel.Coins.length->d<m->0<=s->s+100000*d<=1000000->zbz (some ⟨b⟩) l m s (i:Int)=some (s+zpp b.Wheel l d i):=by
  intro d
  induction d with
  | zero =>
   intro i m s hd hi hm hs hs2
   obtain ⟨m,rfl⟩:∃q,m=q+1:=⟨m-1,by omega⟩;simp only [zbz,zc0,zdq,zpp]
   rw [if_neg (by simp;omega),Int.add_zero]
  | succ d ih =>
   intro i m s hd hi hm hs hs2
   obtain ⟨m,rfl⟩:∃q,m=q+1:=⟨m-1,by omega⟩;have ht:=zxp h hl (show i<b.Wheel.Coins.length by omega)
   simp only [zbz,zc0,zpp]
   rw [if_pos (by simp;omega),zcz (by omega),zaa,zaa,show idx (⟨b⟩:Box_).Box.Wheel.Coins (i:Int)=some (coin b.Wheel i) from zmF (w:=b.Wheel) (by omega) (by omega),zaa,getD_get,Int.mul_comm,zaw (x:=coin b.Wheel i*_) (by omega) (by omega),zaw (x:=s+_) (by omega) (by omega),zaw (x:=(i:Int)+1) (by omega) (by omega)];have:=ih (i+1) m (s+coin b.Wheel i*l.getD i 0) (by omega) (by omega) (by omega) (by omega) (by omega)
   rw [show (((i+1:Nat)):Int)=(i:Int)+1 by simp] at this;rw [this]
   congr 1
   omega
 have:=key b.Wheel.Coins.length 0 n 0 (by omega) (by omega) (by omega) (by omega) (by omega)
 rw [Int.zero_add] at this;exact this
def zqA (w:Wheel) (al L:List Int):Prop:=L.Pairwise (·<·)/\∀v,v∈L↔Can w al v
theorem zuX:∀{L:List Int},L.Pairwise (·<=·)->L.Nodup->L.Pairwise (·<·)
 | [],_,_=>.nil
 | x::L,h,hn=>by
  rw [List.pairwise_cons] at h ⊢;rw [List.nodup_cons] at hn;refine ⟨fun y hy=>?_,zuX h.2 hn.2⟩;have:=h.1 y hy
  rcases Int.lt_or_eq_of_le this with h1 | h1
  ·exact h1
  ·subst h1
   exact absurd hy hn.1
theorem zwI:∀{L L':List Int},L.Pairwise (·<·)->L'.Pairwise (·<·)->(∀v,v∈L↔v∈L')->L=L'
 | [],[],_,_,_=>rfl
 | [],y::_,_,_,h=>absurd ((h y).2 (by simp)) (by simp)
 | x::_,[],_,_,h=>absurd ((h x).1 (by simp)) (by simp)
 | x::L,y::L',h1,h2,h=>by
  rw [List.pairwise_cons] at h1 h2;have e:x=y:=by
   have hx:=(h x).1 (by simp)
   have hy:=(h y).2 (by simp)
   rcases List.mem_cons.1 hx with e | hx
   ·exact e
   ·rcases List.mem_cons.1 hy with e | hy
    ·exact e.symm
    ·have:=h1.1 y hy
     have:=h2.1 x hx
     omega
  subst e
  congr 1
  refine zwI h1.2 h2.2 fun v=>⟨fun hv=>?_,fun hv=>?_⟩
  ·rcases List.mem_cons.1 ((h v).1 (List.mem_cons_of_mem _ hv)) with e | hv'
   ·have:=h1.1 v hv
    omega
   ·exact hv'
  ·rcases List.mem_cons.1 ((h v).2 (List.mem_cons_of_mem _ hv)) with e | hv'
   ·have:=h2.1 v hv
    omega
   ·exact hv'
theorem zqA.eq {w:Wheel} {al L L':List Int} (h:zqA w al L) (h':zqA w al L'):L=L':=zwI h.1 h'.1 fun v=>by rw [h.2,h'.2]
theorem zuY {w:Wheel} {al K:List Int} (hn:K.Nodup) (h:∀v,v∈K↔Can w al v):zqA w al (zia K) :=
 ⟨zuX (zgR K) ((zeS K).nodup_iff.2 hn),fun v=>by rw [(zeS K).mem_iff];exact h v⟩
theorem zwb {w:Wheel} {al:List Int} (C:Cx w al) {A M} (hW:WI w al A M) (hall:∀acts X,RP (clT (total al)) w al acts X->zdf M (pnt X)=true) :
  zot M=true/\EndsOk (zcq al) (M.map (·.1)) (zhY (zcq al) M)/\zqA w al (zia ((zhY (zcq al) M).map (·.1)))/\(∀v,v∈(zhY (zcq al) M).map (·.1)->okI v=true):=by
 have hE:EndsOk (zcq al) (M.map (·.1)) (zhY (zcq al) M):=zpc (zcq al) (M.map (·.1))
 have hkey:∀o,o∈M.map (·.1)->∃X,o=pnt X/\RP (clT (total al)) w al (A o) X:=fun o ho=>hW.key (zbn.2 ho)
 have hmem:∀v,v∈(zhY (zcq al) M).map (·.1)↔∃acts X,RP (clT (total al)) w al acts X/\X.l=al/\X.b=v:=fun v=>by
  constructor
  ·intro hv
   obtain ⟨⟨b,o⟩,ho,rfl⟩:=List.mem_map.1 hv;obtain ⟨h1,h2,h3,_⟩:=(hE.mem b o).1 ho;obtain ⟨X,rfl,hr⟩:=hkey o h1;refine ⟨_,X,hr,zrs h2 (by rw [(zqL C hr).1.len,C.hl]) (by rw [(zqL C hr).1.len];have:=C.k3;omega),h3⟩
  ·rintro ⟨acts,X,hr,rfl,rfl⟩
   exact zbn.1 (hE.has (pnt X) (zbn.1 (hall acts X hr)) rfl)
 refine ⟨?_,hE,zuY hE.nd fun v=>by rw [hmem,zzb C.h C.hl C.nn],fun v hv=>?_⟩
 ·unfold zot
  rw [Bool.and_eq_true];refine ⟨List.all_eq_true.2 fun p hp=>?_,decide_eq_true (by have:=hW.len C;omega)⟩;obtain ⟨X,e,hr⟩:=(hW.pt p.1 p.2 hp).1;rw [e];have:=(zqL C hr).2.2.2
  unfold zbV at this
  simp only [List.all_cons,List.all_nil,Bool.and_true,Bool.and_eq_true] at this
  exact this.2.2.2.2.2.2
 ·obtain ⟨acts,X,hr,_,rfl⟩:=(hmem v).1 hv;have h1:=zqL C hr
  have h2:=h1.1.bt
  have h3:=h1.1.cb
  have h4:=h1.1.c0
  have h5:=C.t5
  exact zl8 (by omega) (by omega)
def zpw (b:Box) (al:List Int):Prop:=∃v,Can b.Wheel al v/\b.Plays<=v/\v<=b.Plays+b.Skips
structure ExplOk (b:Box) (al acts:List Int):Prop where
 ok:acts.all (zf8 b.Wheel)=true
 len:(acts.length:Int)<=2*total al
 bag:∀k:Nat,k<b.Wheel.Coins.length->cnt k acts=al.getD k 0
 pl:b.Plays<=zgc b.Wheel ⟨0,0⟩ acts
 pl2:zgc b.Wheel ⟨0,0⟩ acts<=b.Plays+b.Skips
theorem ExplOk.ex {b:Box} {al acts:List Int} (h:ExplOk b al acts):zpw b al:=⟨_,⟨acts,h.ok,h.bag,rfl⟩,h.pl,h.pl2⟩
theorem zto {b:Box} (N:Near b) {P:List Int} (hP:More b P) {n:Nat} (hn:100000<=n):∃r,zcp n (some ⟨b⟩) P=some r/\(r.2=true/\ExplOk b (sums (zcZ b) P) r.1\/r.2=false/\¬zpw b (sums (zcZ b) P)):=by
 have h3:=N.k3
 have F:=N.ok.far
 have hpl:=F.p
 have hsk:=F.k
 have hpt:=F.f
 have C:=N.cx hP
 obtain ⟨A,M,h1,hW,hall⟩:=zxs C hn (b:=⟨b⟩) rfl;obtain ⟨s1,s2,s3,s4⟩:=zwb C hW hall
 unfold zcp
 rw [zaa,put_eq F (by omega) (by omega),zaa,zqz hP (zjC F) (fun k=>by rw [zlj F];have:=F.f k;have:=F.s k;omega) (by omega) (by omega),zaa,h1,zaa,if_pos s1]
 generalize hal:sums (zcZ b) P=al at *
 generalize hE:zhY (zcq al) M=E at *
 generalize hbs:zia (E.map (·.1))=bs at *
 have hbl:bs.length<=93312:=by
  rw [←hbs,(zeS _).length_eq,List.length_map,←hE];have:=zpd (al:=zcq al) (M.map (·.1)) []
  simp only [List.length_map,List.length_nil] at this
  have:=hW.len C
  unfold zhY
  omega
 have key:∀(d i m:Nat),d=bs.length-i->i<=bs.length->d<m->(∀v,v∈bs->v∈bs.drop i\/¬(b.Plays<=v/\v<=b.Plays+b.Skips))->∃r,zbY n ⟨b⟩ M E bs m (i:Int)=some r/\(r.2=true/\ExplOk b al r.1\/r.2=false/\¬zpw b al):=by
  intro d
  induction d with
  | zero =>
   intro i m hd hi hm hv
   obtain ⟨m,rfl⟩:∃q,m=q+1:=⟨m-1,by omega⟩;simp only [zbY]
   rw [if_neg (by simp;omega)];refine ⟨_,rfl,.inr ⟨rfl,?_⟩⟩
   rintro ⟨v,h1,h2⟩
   rcases hv v ((s3.2 v).2 h1) with h | h
   ·rw [List.drop_eq_nil_of_le (by omega)] at h;simp at h
   ·exact h h2
  | succ d ih =>
   intro i m hd hi hm hv
   obtain ⟨m,rfl⟩:∃q,m=q+1:=⟨m-1,by omega⟩;simp only [zbY]
   have hdr:bs.drop i=bs.getD i 0::bs.drop (i+1):=by rw [List.drop_eq_getElem_cons (l:=bs) (i:=i) (by omega),getD_get]
   have hbm:bs.getD i 0∈bs:=by
    rw [←getD_get (by omega)];exact List.getElem_mem (by omega)
   rw [if_pos (by simp;omega),zcz (by omega),zaa,getD_get,zjX,zaa,zaw (x:=b.Plays+b.Skips) (by omega) (by omega),zaw (x:=(i:Int)+1) (by omega) (by omega)]
   generalize hx:bs.getD i 0=x at *
   by_cases hq:inR x b.Plays (b.Plays+b.Skips)=true
   ·rw [if_neg (by rw [hq];simp)];have hxk:x∈E.map (·.1):=by
     rw [←hbs,(zeS _).mem_iff] at hbm;exact hbm
    have hmx:zdf E x=true:=zbn.2 hxk
    have hok:mok okI E x=true:=by
     unfold Go.AM.mok
     rw [s4 x hxk,Bool.true_and,Bool.and_eq_true];exact ⟨List.all_eq_true.2 fun p hp=>s4 p.1 (List.mem_map.2 ⟨p,hp,rfl⟩),decide_eq_true s2.nd⟩
    rw [show zii okI zaU E x=some (ziB zaU E x) from if_pos hok,zaa];obtain ⟨p1,p2,p3,_⟩:=(s2.mem _ _).1 (zix zaU hmx);have hmp:=zbn.2 p1
    obtain ⟨X,e,hr⟩:=hW.key hmp;obtain ⟨hX,ht,hk,hokp⟩:=zqL C hr
    generalize hp:ziB zaU E x=p at *
    subst e
    have hXl:X.l=al:=zrs p2 (by rw [hX.len,C.hl]) (by rw [hX.len];omega)
    have hsh:=hr.short C.h C.hl C.nn
    have hlen:((A (pnt X)).length:Int)<=2*total al:=by
     rcases hsh.2 with h | ⟨_,h,_⟩
     ·rw [hXl] at h;exact h
     ·rw [hXl] at h
      omega
    have ht5:=C.t5
    rw [show zii zbV zbe M (pnt X)=some (ziB zbe M (pnt X)) from if_pos (hW.mok C hr),zaa,zuU C hW n hmp (by omega) (by simp;omega),zaa];refine ⟨_,rfl,.inl ⟨rfl,?_⟩⟩;simp only [List.nil_append,List.reverse_reverse]
    have hb:zgc b.Wheel ⟨0,0⟩ (A (pnt X))=x:=by rw [hX.buys];exact p3
    have hq:=zck.1 hq
    exact ⟨hX.ok,hlen,fun k _=>by rw [hX.bag k,hXl],by rw [hb];exact hq.1,by rw [hb];exact hq.2⟩
   ·rw [if_pos (by simpa using hq)];have:=ih (i+1) m (by omega) (by omega) (by omega) fun v hvm=>by
     rcases hv v hvm with h | h
     ·rw [hdr] at h;rcases List.mem_cons.1 h with rfl | h
      ·exact .inr fun hh=>hq (zck.2 hh)
      ·exact .inl h
     ·exact .inr h
    rw [show (((i+1:Nat)):Int)=(i:Int)+1 by simp] at this;exact this
 exact key bs.length 0 n (by omega) (by omega) (by omega) fun v hv=>.inl (by simpa using hv)
def zkv:Nat->List Int->Nat->List (List Int)
 | 0,p,_=>[p]
 | d+1,p,t=>(upF 0 (t+1)).flatMap fun v=>zkv d (p++[v]) (t-v.toNat)
def znR {S:Type} (F:List Int->S->Option (Unit×S)):List (List Int)->S->Option S
 | [],s=>some s
 | x::l,s=>(F x s).bind fun r=>znR F l r.2
theorem zl9 {S:Type} (F:List Int->S->Option (Unit×S)):∀(a b:List (List Int)) (s:S),znR F (a++b) s=(znR F a s).bind fun s=>znR F b s
 | [],b,s=>rfl
 | x::a,b,s=>by
  simp only [List.cons_append,znR]
  cases F x s with
  | none=>rfl
  | some r =>
   simp only [Option.bind_some]
   exact zl9 F a b r.2
theorem zuZ {S:Type} (F:List Int->S->Option (Unit×S)) {b:Box} (h4:b.Wheel.Coins.length<=4):∀(d:Nat) (p:List Int) (t n:Nat) (s:S),p.length+d=b.Wheel.Coins.length->t<=2->d+10<=n->zbK n F (some ⟨b⟩) p (t:Int) s=(znR F (zkv d p t) s).map fun s=>((),s)
 | d,p,t,0,s,_,_,hn=>absurd hn (by omega)
 | 0,p,t,n+1,s,hp,ht,hn=>by
  simp only [zbK,zc7]
  rw [zaa,if_pos (by simp;omega)];simp only [zkv,znR]
  cases F p s<;>rfl
 | d+1,p,t,n+1,s,hp,ht,hn=>by
  simp only [zbK,zc7]
  rw [zaa,if_neg (by simp;omega)];have loop:∀(e i m:Nat) (s:S),i+e=t+1->e<m->zbQ (zbK n F) (some ⟨b⟩) p (t:Int) m (i:Int) s=(znR F ((upF i e).flatMap fun v=>zkv d (p++[v]) (t-v.toNat)) s).map fun s=>((),s):=by
   intro e
   induction e with
   | zero =>
    intro i m s hi hm
    obtain ⟨m,rfl⟩:∃q,m=q+1:=⟨m-1,by omega⟩;simp only [zbQ,zcx]
    rw [zaw (by omega) (by omega),if_neg (by simp;omega)]
    rfl
   | succ e ih =>
    intro i m s hi hm
    obtain ⟨m,rfl⟩:∃q,m=q+1:=⟨m-1,by omega⟩;simp only [zbQ,zcx,slices_Clone_int]
    have hrec:=zuZ F h4 d (p++[(i:Int)]) (t-i) n s (by simp;omega) (by omega) (by omega)
    rw [show ((t-i:Nat):Int)=(t:Int)-(i:Int) by omega] at hrec;rw [zaw (x:=(t:Int)+1) (by omega) (by omega),if_pos (by simp;omega),zlT (by omega),zaa,zf3 (by simp;omega),zaa,zaw (x:=(t:Int)-i) (by omega) (by omega),zaw (x:=(i:Int)+1) (by omega) (by omega),hrec];simp only [upF,List.flatMap_cons,zl9,Int.toNat_natCast]
    cases znR F (zkv d (p++[(i:Int)]) (t-i)) s with
    | none=>rfl
    | some s' =>
     have:=ih (i+1) m s' (by omega) (by omega)
     rw [show (((i+1:Nat)):Int)=(i:Int)+1 by simp] at this;simp only [Option.map_some,Option.bind_some]
     exact this
  exact loop (t+1) 0 n s (by omega) (by omega)
theorem znS:∀(d:Nat) (p:List Int) (t:Nat) (P:List Int),P∈zkv d p t↔∃r,P=p++r/\r.length=d/\(∀k,0<=r.getD k 0)/\total r<=t
 | 0,p,t,P=>by
  simp only [zkv,List.mem_singleton]
  constructor
  ·rintro rfl
   exact ⟨[],by simp,rfl,fun k=>by simp,by simp [total]⟩
  ·rintro ⟨r,rfl,h,_⟩
   obtain rfl:=List.eq_nil_of_length_eq_zero h;simp
 | d+1,p,t,P=>by
  simp only [zkv,List.mem_flatMap]
  constructor
  ·rintro ⟨v,hv,hP⟩
   have hv:=znK.1 hv
   obtain ⟨r,rfl,h1,h2,h3⟩:=(znS d _ _ P).1 hP;refine ⟨v::r,by simp,by simp [h1],fun k=>?_,?_⟩
   ·cases k with
    | zero =>
     show 0<=v
     omega
    | succ k=>simpa using h2 k
   ·simp only [total]
    omega
  ·rintro ⟨r,rfl,h1,h2,h3⟩
   cases r with
   | nil=>simp at h1
   | cons v r =>
    have hv:0<=v:=h2 0
    have hr:∀k,0<=r.getD k 0:=fun k=>by simpa using h2 (k+1)
    have ht:=zhk (zgW hr)
    simp only [total] at h3
    exact ⟨v,znK.2 ⟨by omega,by omega⟩,(znS d _ _ _).2 ⟨r,by simp,by simpa using h1,hr,by omega⟩⟩
theorem znT {b:Box} {P:List Int}:P∈zkv b.Wheel.Coins.length [] 2↔More b P:=by
 rw [znS]
 constructor
 ·rintro ⟨r,rfl,h1,h2,h3⟩
  exact ⟨by simpa using h1,by simpa using h2,by simpa using h3⟩
 ·rintro ⟨h1,h2,h3⟩
  exact ⟨P,by simp,h1,h2,h3⟩
theorem zqB:∀(d:Nat) (p:List Int) (t:Nat),t<=2->(zkv d p t).length<=3 ^ d
 | 0,p,t,_=>by simp [zkv]
 | d+1,p,t,ht=>by
  simp only [zkv]
  refine Nat.le_trans (zlX (c:=3 ^ d) fun v _=>zqB d _ _ (by omega)) ?_;rw [znL,Nat.pow_succ,Nat.mul_comm];exact Nat.mul_le_mul_left _ (by omega)
structure GInv (b:Box) (xs:List (List Int)) (gs:List Gap_):Prop where
 len:gs.length<=xs.length
 mem:∀g,g∈gs->More b g.purse/\ExplOk b (sums (zcZ b) g.purse) g.acts
 eq:∀g,g∈gs->∀h,h∈gs->zch b.Wheel g.purse=zch b.Wheel h.purse
 le:∀P,P∈xs->zpw b (sums (zcZ b) P)->∃g,g∈gs/\(g.purse=P\/zch b.Wheel g.purse<zch b.Wheel P)
theorem zll {b:Box} {P:List Int} (h:More b P):zgd P:=fun k=>by have:=h.small k;omega
theorem zqC {b:Box} (N:Near b) {n:Nat} (hn:100000<=n) {xs:List (List Int)} {gs:List Gap_} {P:List Int} (hP:More b P) (hx:xs.length<=100) (h:GInv b xs gs):∃gs',zaS n (some ⟨b⟩) P gs=some ((),gs')/\GInv b (xs++[P]) gs':=by
 obtain ⟨r,hr,hc⟩:=zto N hP hn;have hw:=fun {l} (hl:More b l)=>zlk N.ok.far.h (show 100<=n by omega) hl.l (zll hl)
 have skip:r.2=false->¬zpw b (sums (zcZ b) P):=fun e=>by
  rcases hc with ⟨h1,_⟩ | ⟨_,h2⟩
  ·rw [e] at h1;cases h1
  ·exact h2
 have take:r.2=true->ExplOk b (sums (zcZ b) P) r.1:=fun e=>by
  rcases hc with ⟨_,h2⟩ | ⟨h1,_⟩
  ·exact h2
  ·rw [e] at h1;cases h1
 have keep:¬zpw b (sums (zcZ b) P)->GInv b (xs++[P]) gs:=fun hno=>⟨by have:=h.len;simp;omega,h.mem,h.eq,fun Q hQ hE=>by
  rcases List.mem_append.1 hQ with hQ | hQ
  ·exact h.le Q hQ hE
  ·obtain rfl:=List.mem_singleton.1 hQ;exact absurd hE hno⟩
 cases gs with
 | nil =>
  simp only [zaS]
  rw [hr,zaa];cases e:r.2 with
  | false =>
   rw [if_pos (by rfl)];exact ⟨_,rfl,keep (skip e)⟩
  | true =>
   rw [if_neg (by simp)];refine ⟨_,rfl,by simp,fun g hg=>?_,fun g hg g' hg'=>?_,fun Q hQ hE=>?_⟩
   ·obtain rfl:=List.mem_singleton.1 hg;exact ⟨hP,take e⟩
   ·rw [List.mem_singleton.1 hg,List.mem_singleton.1 hg']
   ·rcases List.mem_append.1 hQ with hQ | hQ
    ·obtain ⟨g,hg,_⟩:=h.le Q hQ hE;simp at hg
    ·obtain rfl:=List.mem_singleton.1 hQ;exact ⟨_,List.mem_singleton.2 rfl,.inl rfl⟩
 | cons x gs =>
  simp only [zaS]
  obtain ⟨hxm,hxe⟩:=h.mem x (by simp);rw [hw hP,zaa,hw hxm,zaa]
  by_cases hgt:zch b.Wheel P>zch b.Wheel x.purse
  ·rw [if_pos (by simpa using hgt)];refine ⟨_,rfl,by have:=h.len;simp at this ⊢;omega,h.mem,h.eq,fun Q hQ hE=>?_⟩;rcases List.mem_append.1 hQ with hQ | hQ
   ·exact h.le Q hQ hE
   ·obtain rfl:=List.mem_singleton.1 hQ;exact ⟨x,by simp,.inr (by omega)⟩
  ·rw [if_neg (by simpa using hgt),hr,zaa];cases e:r.2 with
   | false =>
    rw [if_pos (by rfl)];exact ⟨_,rfl,keep (skip e)⟩
   | true =>
    rw [if_neg (by simp),zaa,zaa]
    by_cases hlt:zch b.Wheel P<zch b.Wheel x.purse
    ·rw [if_pos (by simpa using hlt)];refine ⟨_,rfl,by simp,fun g hg=>?_,fun g hg g' hg'=>?_,fun Q hQ hE=>?_⟩
     ·obtain rfl:=List.mem_singleton.1 hg;exact ⟨hP,take e⟩
     ·rw [List.mem_singleton.1 hg,List.mem_singleton.1 hg']
     ·refine ⟨_,List.mem_singleton.2 rfl,?_⟩
      show P=Q\/zch b.Wheel P<_
      rcases List.mem_append.1 hQ with hQ | hQ
      ·obtain ⟨g,hg,hle⟩:=h.le Q hQ hE;have:=h.eq g hg x (by simp)
       rcases hle with rfl | hle
       ·exact .inr (by omega)
       ·exact .inr (by omega)
      ·obtain rfl:=List.mem_singleton.1 hQ;exact .inl rfl
    ·rw [if_neg (by simpa using hlt),zf3 (by have:=h.len;simp at this ⊢;omega),zaa];have heq:zch b.Wheel P=zch b.Wheel x.purse:=by omega
     have hall:∀g,g∈x::gs++[⟨P,r.1⟩]->zch b.Wheel g.purse=zch b.Wheel P:=fun g hg=>by
      rcases List.mem_append.1 hg with hg | hg
      ·rw [heq];exact h.eq g hg x (by simp)
      ·rw [List.mem_singleton.1 hg]
     refine ⟨_,rfl,by have:=h.len;simp at this ⊢;omega,fun g hg=>?_,fun g hg g' hg'=>by rw [hall g hg,hall g' hg'],fun Q hQ hE=>?_⟩
     ·rcases List.mem_append.1 hg with hg | hg
      ·exact h.mem g hg
      ·obtain rfl:=List.mem_singleton.1 hg;exact ⟨hP,take e⟩
     ·rcases List.mem_append.1 hQ with hQ | hQ
      ·obtain ⟨g,hg,hle⟩:=h.le Q hQ hE;exact ⟨g,List.mem_append_left _ hg,hle⟩
      ·obtain rfl:=List.mem_singleton.1 hQ;exact ⟨⟨Q,r.1⟩,List.mem_append_right _ (by simp),.inl rfl⟩
theorem zma {b:Box} (N:Near b) {n:Nat} (hn:100000<=n):∀(l xs:List (List Int)) (gs:List Gap_),(∀P,P∈l->More b P)->xs.length+l.length<=100->GInv b xs gs->∃gs',znR (fun x0 s=>zaS n (some ⟨b⟩) x0 s) l gs=some gs'/\GInv b (xs++l) gs'
 | [],xs,gs,_,_,h=>⟨gs,rfl,by simpa using h⟩
 | P::l,xs,gs,hm,hl,h=>by
  simp only [List.length_cons] at hl
  obtain ⟨gs1,h1,h2⟩:=zqC N hn (hm P (by simp)) (by omega) h;obtain ⟨gs2,h3,h4⟩:=zma N hn l (xs++[P]) gs1 (fun Q hQ=>hm Q (by simp [hQ])) (by simp;omega) h2;refine ⟨gs2,?_,by simpa using h4⟩;simp only [znR,h1,Option.bind_some]
  exact h3
def zAw (b:Box) (gs:List Gap_):Prop:=(gs=[]/\∀P,More b P->¬zpw b (sums (zcZ b) P))\/∃x t,gs=x::t/\More b x.purse/\ExplOk b (sums (zcZ b) x.purse) x.acts/\∀P,More b P->zpw b (sums (zcZ b) P)->zch b.Wheel x.purse<=zch b.Wheel P
theorem zry {b:Box} (N:Near b) {n:Nat} (hn:100000<=n):∃gs,zbR n (some ⟨b⟩)=some gs/\GInv b (zkv b.Wheel.Coins.length [] 2) gs:=by
 have h3:=N.k3
 have hlen:(zkv b.Wheel.Coins.length [] 2).length<=100:=by
  have h1:=zqB b.Wheel.Coins.length [] 2 (by omega)
  have h2:3 ^ b.Wheel.Coins.length<=3 ^ 3:=Nat.pow_le_pow_right (by omega) h3
  omega
 obtain ⟨gs,h1,h2⟩:=zma N hn (zkv b.Wheel.Coins.length [] 2) [] [] (fun P hP=>znT.1 hP) (by simpa using hlen) ⟨by simp,by simp,by simp,by simp⟩;refine ⟨gs,?_,by rw [List.nil_append] at h2;exact h2⟩
 unfold zbR
 have:=zuZ (fun x0 s=>zaS n (some ⟨b⟩) x0 s) (b:=b) (by omega) b.Wheel.Coins.length [] 2 n [] (by simp) (by omega) (by omega)
 rw [show zbK n (fun x0 s=>zaS n (some ⟨b⟩) x0 s) (some ⟨b⟩) [] 2 []=_ from this,h1]
 rfl
theorem ztp {b:Box} (N:Near b) {n:Nat} (hn:100000<=n):∃gs,zbR n (some ⟨b⟩)=some gs/\zAw b gs:=by
 obtain ⟨gs,h1,h2⟩:=zry N hn;refine ⟨gs,h1,?_⟩;cases gs with
 | nil =>
  refine .inl ⟨rfl,fun P hP hE=>?_⟩;obtain ⟨g,hg,_⟩:=h2.le P (znT.2 hP) hE;simp at hg
 | cons x t =>
  obtain ⟨m1,m2⟩:=h2.mem x (by simp);refine .inr ⟨x,t,rfl,m1,m2,fun P hP hE=>?_⟩;obtain ⟨g,hg,hle⟩:=h2.le P (znT.2 hP) hE;have:=h2.eq g hg x (by simp)
  rcases hle with rfl | hle
  ·omega
  ·omega
theorem BoxOk.len {b:Box} (N:BoxOk b):zxt b:=by
 have F:=N.far
 have h1:=F.fl
 have h2:=F.sl
 have h3:=F.ml
 have h4:=F.h.nlen
 have h5:=F.h.clen
 exact ⟨by omega,by omega,by omega,by omega,by omega⟩
theorem zu0 {b:Box} (N:BoxOk b) {n:Nat} (hn:200<=n):zew n b=some (some ⟨b⟩,0):=by
 unfold zew
 rw [zqy b n N.len hn,ziA.2 N]
 rfl
theorem zxu {b:Box} (N:¬BoxOk b) (hl:zxt b) {n:Nat} (hn:200<=n):zew n b=some (none,50):=by
 unfold zew
 rw [zqy b n hl hn,zjB N]
 rfl
theorem zu1 {b:Box} (F:NearF b) {n:Nat} (hn:200<=n):zjh n b=some (zcZ b):=by
 have h1:=F.fl
 have h2:=F.sl
 have h3:=F.h.clen
 unfold zjh
 rw [zuV (by omega) (fun k=>by have:=F.f k;omega) (fun k=>by have:=F.s k;omega) (by omega) (by omega)]
 rfl
theorem zqD {b:Box} (F:NearF b):zgd (zcZ b):=fun k=>by
 rw [zlj F];have:=F.f k
 have:=F.s k
 omega
theorem zzd (b:Box) {n:Nat} (hn:200<=n):zji n b=some true\/(zji n b=some false/\zxt b/\(BoxOk b->Near b)):=by
 unfold zji
 by_cases hl:(max (max (max (max (b.Wheel.Notches.length:Int) (b.Wheel.Coins.length:Int)) (b.Found.length:Int)) (b.Marked.length:Int)) (b.Slugs.length:Int))>40
 ·rw [if_pos (by simpa using hl)];exact .inl rfl
 ·rw [if_neg (by simpa using hl)];have hL:zxt b:=⟨by omega,by omega,by omega,by omega,by omega⟩
  rw [zv9 b n hL hn,zaa]
  by_cases hb:BoxOk b
  ·have F:=hb.far
   have h1:=F.fl
   have h3:=F.h.clen
   rw [ziA.2 hb]
   show (Option.bind _ _=_)\/(Option.bind _ _=_/\_)
   rw [zu1 F hn,zaa,zpt (zqD F) (by rw [zjC F];omega) (by rw [zjC F];omega),zaa,zjD F]
   by_cases ht:total b.Found+total b.Slugs>3
   ·rw [if_pos (by simpa using ht)];exact .inl rfl
   ·rw [if_neg (by simpa using ht)]
    unfold zfx
    by_cases hk:(b.Found.length:Int)>3
    ·exact .inl (by simp [hk])
    ·exact .inr ⟨by simp;omega,hL,fun _=>⟨hb,by omega,by omega⟩⟩
  ·rw [zjB hb];exact .inr ⟨rfl,hL,fun h=>absurd h hb⟩
def zu2 (b:Box) (m:Int):Prop:=(∃P,More b P/\zpw b (sums (zcZ b) P)/\zch b.Wheel P=m)/\∀P,More b P->zpw b (sums (zcZ b) P)->m<=zch b.Wheel P
def zze (b:Box):Prop:=∀P,More b P->¬zpw b (sums (zcZ b) P)
def zpx (b:Box) (r:Int×Int):Prop:=(r.2=0/\zu2 b r.1)\/(r=(0,3)/\zze b)
theorem settle_eq {b:Box} (N:Near b) {n:Nat} (hn:100000<=n):∃gs,zbR n (some ⟨b⟩)=some gs/\((gs=[]/\ze0 n b=some (none,[],3)/\zze b)\/∃x t,gs=x::t/\ze0 n b=some (some ⟨b⟩,x::t,0)/\More b x.purse/\ExplOk b (sums (zcZ b) x.purse) x.acts/\zu2 b (zch b.Wheel x.purse)):=by
 obtain ⟨gs,h1,h2⟩:=ztp N hn;refine ⟨gs,h1,?_⟩
 unfold ze0
 rw [zu0 N.ok (by omega),zaa,if_neg (by simp),h1,zaa];rcases h2 with ⟨rfl,h2⟩ | ⟨x,t,rfl,h3,h4,h5⟩
 ·exact .inl ⟨rfl,rfl,h2⟩
 ·rw [if_neg (by simp;omega)];exact .inr ⟨x,t,rfl,rfl,h3,h4,⟨x.purse,h3,h4.ex,rfl⟩,h5⟩
theorem ztq {b:Box} (N:Near b) {n:Nat} (hn:100000<=n):∃r,zdA n b=some r/\zpx b r:=by
 obtain ⟨gs,_,h⟩:=settle_eq N hn
 unfold zdA
 rcases h with ⟨rfl,h,h2⟩ | ⟨x,t,rfl,h,h3,h4,h5⟩
 ·rw [h];exact ⟨(0,3),rfl,.inr ⟨rfl,h2⟩⟩
 ·rw [h,zaa,if_neg (by simp)]
  show ∃r,Option.bind (some x) _=some r/\_
  rw [zaa,zlk N.ok.far.h (by omega) h3.l (zll h3)];exact ⟨_,rfl,.inl ⟨rfl,h5⟩⟩
theorem ziW {w:Wheel} (h:OkW w) {P:List Int} (hs:zgd P):0<=zch w P/\zch w P<=100000*w.Coins.length:=by
 have:=zoB h hs w.Coins.length 0 (by omega)
 exact this
theorem zpx.eq {b:Box} {r r':Int×Int} (h:zpx b r) (h':zpx b r'):r=r':=by
 obtain ⟨a,c⟩:=r;obtain ⟨a',c'⟩:=r';rcases h with ⟨h1,⟨P,p1,p2,p3⟩,h3⟩ | ⟨h1,h2⟩
 ·rcases h' with ⟨k1,⟨P',q1,q2,q3⟩,k3⟩ | ⟨k1,k2⟩
  ·have:=h3 P' q1 q2
   have:=k3 P p1 p2
   simp only at *
   have:a=a':=by omega
   rw [this,h1,k1]
  ·exact absurd p2 (k2 P p1)
 ·rcases h' with ⟨k1,⟨P',q1,q2,q3⟩,k3⟩ | ⟨k1,k2⟩
  ·exact absurd q2 (h2 P' q1)
  ·rw [h1,k1]
theorem zpx.nn {b:Box} (N:BoxOk b) {r:Int×Int} (h:zpx b r):0<=r.1/\r.1<=1000000:=by
 rcases h with ⟨_,⟨P,h1,_,he⟩,_⟩ | ⟨rfl,_⟩
 ·rw [←he];have:=ziW N.far.h (zll h1)
  have:=N.far.h.clen
  omega
 ·simp
theorem zu3 {w:Wheel} {al:List Int} (C:Cx w al) {v:Int} (h:Can w al v):0<=v/\v<=500:=by
 obtain ⟨acts,x,hr,h1,rfl⟩:=(zzb C.h C.hl C.nn).1 h;have hX:=(zqL C hr).1
 have h2:=hX.c0
 have h3:=hX.cb
 have h4:=hX.bt
 have h5:=(zqL C hr).2.1
 have h6:=C.t5
 omega
theorem zxv {w:Wheel} {al L:List Int} (C:Cx w al) (h:zqA w al L):L.length<=501:=by
 have:=zjW (l:=L) (m:=upF 0 501) (h.1.imp fun hlt he=>by omega) fun v hv=>by
  have:=zu3 C ((h.2 v).1 hv)
  exact znK.2 (by omega)
 rw [znL] at this;exact this
def zkw (b:Box):Int×Int×Int×Int:=(zch b.Wheel b.Found-zch b.Wheel b.Marked,zch b.Wheel b.Marked,zch b.Wheel b.Slugs,0)
theorem zxw {b:Box} (N:BoxOk b) {n:Nat} (hn:200<=n):zfz n b=some (zkw b):=by
 have F:=N.far
 have hf:zgd b.Found:=fun k=>by have:=F.f k;omega
 have hm:zgd b.Marked:=fun k=>by have:=F.m k;omega
 have hs:zgd b.Slugs:=fun k=>by have:=F.s k;omega
 have h1:=ziW F.h hf
 have h2:=ziW F.h hm
 have h3:=F.h.clen
 unfold zfz
 rw [zu0 N hn,zaa,if_neg (by simp),zlk F.h (by omega) F.ml hm,zaa,zlk F.h (by omega) F.fl hf,zaa,zlk F.h (by omega) F.sl hs,zaa,zaw (by omega) (by omega)]
 rfl
theorem zwc {b:Box} (N:BoxOk b) {n:Nat} (hn:200<=n):zho n b=some (zkw b):=by
 have F:=N.far
 have hf:zgd b.Found:=fun k=>by have:=F.f k;omega
 have hm:zgd b.Marked:=fun k=>by have:=F.m k;omega
 have hs:zgd b.Slugs:=fun k=>by have:=F.s k;omega
 have h1:=ziW F.h hf
 have h2:=ziW F.h hm
 have h3:=F.h.clen
 unfold zho
 rw [zv9 b n N.len hn,ziA.2 N]
 show Option.bind _ _=_
 rw [zhl F.h (by omega) F.ml hm,zaa,zhl F.h (by omega) F.fl hf,zaa,zhl F.h (by omega) F.sl hs,zaa,zaw (by omega) (by omega)]
 rfl
theorem zwd {b:Box} (h:zxt b):zjN b=some b:=by
 obtain ⟨h1,h2,h3,h4,h5⟩:=h
 unfold zjN
 rw [Copy_eq (n:=100) ⟨by omega,by omega,by omega,by omega⟩,zaa,zlT (by omega),zaa,zlT (by omega),zaa,zlT (by omega),zaa]
def mOf (n:Nat) (b:Box):Int×Int:=(zdA n b).getD (0,0)
theorem zu4 {b:Box} (N:Near b) {n:Nat} (hn:100000<=n):zdA n b=some (mOf n b)/\zpx b (mOf n b):=by
 obtain ⟨r,h1,h2⟩:=ztq N hn
 unfold mOf
 rw [h1];exact ⟨rfl,h2⟩
def pos:List Int->List Int->Nat
 | _::l,v::t=>v.toNat*(za5 l).length+pos l t
 | _,_=>0
theorem zpy {α:Type} {f:Int->List α} {c:Nat}:∀(d i v j:Nat),(∀x,x∈upF i d->(f x).length=c)->v<d->j<c->((upF i d).flatMap f)[v*c+j]?=(f ((i+v:Nat):Int))[j]?
 | 0,i,v,j,_,hv,_=>absurd hv (Nat.not_lt_zero _)
 | d+1,i,0,j,h,_,hj=>by
  simp only [upF,List.flatMap_cons]
  rw [Nat.zero_mul,Nat.zero_add,List.getElem?_append_left (by rw [h _ (by simp [upF])];exact hj)]
  rfl
 | d+1,i,v+1,j,h,hv,hj=>by
  simp only [upF,List.flatMap_cons]
  have hc:=h (i:Int) (by simp [upF])
  rw [List.getElem?_append_right (by rw [hc,Nat.add_mul];omega),hc,show (v+1)*c+j-c=v*c+j by rw [Nat.add_mul];omega,zpy d (i+1) v j (fun x hx=>h x (by simp [upF,hx])) (by omega) hj]
  congr 2
  congr 1
  omega
theorem zpz (x:Int) (l:List Int):(za5 (x::l)).length=(x.toNat+1)*(za5 l).length:=by
 simp only [za5]
 rw [zkt (c:=(za5 l).length) (fun v _=>by simp),znL]
theorem zpA:∀{l t:List Int},Part t l->(za5 l)[pos l t]?=some t/\pos l t<(za5 l).length
 | [],[],_=>by simp [za5,pos]
 | [],_::_,h=>by simp [Part] at h
 | _::_,[],h=>by simp [Part] at h
 | x::l,v::t,h=>by
  obtain ⟨⟨h0,h1⟩,h2⟩:=ziz.1 h;obtain ⟨g1,g2⟩:=zpA h2;refine ⟨?_,?_⟩
  ·simp only [za5,pos]
   rw [zpy (c:=(za5 l).length) (x.toNat+1) 0 v.toNat (pos l t) (fun y _=>by simp) (by omega) g2,List.getElem?_map,g1];simp
   omega
  ·rw [zpz];simp only [pos]
   have:v.toNat*(za5 l).length<=x.toNat*(za5 l).length:=Nat.mul_le_mul_right _ (by omega)
   rw [Nat.add_mul]
   omega
theorem zu5 {t l:List Int} (h:Part t l) {k:Nat} (hk:k<t.length) (h0:t.getD k 0≠0):Part (ze8 t k) l:=by
 refine ⟨by simp [ze8,h.1],fun j=>?_⟩;rw [zhq hk];have h1:=h.2 j
 have h2:=h.2 k
 split
 ·rename_i e
  subst e
  omega
 ·omega
theorem zsm:∀{l t:List Int} {k:Nat},Part t l->k<t.length->t.getD k 0≠0->pos l (ze8 t k)<pos l t
 | [],[],k,_,hk,_=>by simp at hk
 | [],_::_,k,h,_,_=>by simp [Part] at h
 | _::_,[],k,h,_,_=>by simp [Part] at h
 | x::l,v::t,0,h,_,h0=>by
  obtain ⟨⟨h1,h2⟩,h3⟩:=ziz.1 h;have h0:v≠0:=h0
  have hg:=(zpA h3).2
  show (v-1).toNat*(za5 l).length+pos l t<v.toNat*(za5 l).length+pos l t
  have e:v.toNat=(v-1).toNat+1:=by omega
  rw [e,Nat.add_mul]
  omega
 | x::l,v::t,k+1,h,hk,h0=>by
  obtain ⟨_,h3⟩:=ziz.1 h;have:=zsm (l:=l) (t:=t) (k:=k) h3 (by simpa using hk) (by simpa using h0)
  show v.toNat*(za5 l).length+pos l (ze8 t k)<v.toNat*(za5 l).length+pos l t
  omega
theorem zwe {n:Nat} {l t:List Int} (h:Part t l) (h4:l.length<=4) (h6:∀k,l.getD k 0<=6) (hn:100<=n):zkk n l t=some (pos l t:Int):=by
 have key:∀(l' t' pl pt:List Int) (m:Nat) (v:Nat),l=pl++l'->t=pt++t'->pt.length=pl.length->Part t' l'->l'.length<m->v<7 ^ pl.length->zdk l t m (v:Int) (pl.length:Int)=some ((v*(za5 l').length+pos l' t':Nat):Int):=by
  intro l'
  induction l' with
  | nil =>
   intro t' pl pt m v hl ht hp hpart hm hv
   obtain ⟨m,rfl⟩:∃q,m=q+1:=⟨m-1,by omega⟩;simp only [zdk,zfh,zgB]
   rw [if_neg (by rw [hl];simp)];simp [za5,pos]
  | cons x l' ih =>
   intro t' pl pt m v hl ht hp hpart hm hv
   obtain ⟨m,rfl⟩:∃q,m=q+1:=⟨m-1,by omega⟩;cases t' with
   | nil=>simp [Part] at hpart
   | cons y t' =>
    obtain ⟨⟨h0,h1⟩,h2⟩:=ziz.1 hpart;have hlen:l.length=pl.length+(l'.length+1):=by rw [hl];simp
    have hx6:x<=6:=by
     have:=h6 pl.length
     rw [hl,zpq] at this;exact this
    have hpow:7 ^ pl.length<=7 ^ 3:=Nat.pow_le_pow_right (by omega) (by omega)
    have hpw:7 ^ (pl.length+1)=7 ^ pl.length*7:=Nat.pow_succ ..
    simp only [List.length_cons] at hm
    simp only [zdk,zfh]
    have hmul:v*(x.toNat+1)<=v*7:=Nat.mul_le_mul_left _ (by omega)
    have e1:(v:Int)*(x+1)=((v*(x.toNat+1):Nat):Int):=by
     rw [Int.natCast_mul]
     congr 1
     omega
    have e2:((v*(x.toNat+1):Nat):Int)+y=((v*(x.toNat+1)+y.toNat:Nat):Int):=by omega
    rw [if_pos (by simp;omega),show idx l (pl.length:Int)=some x by rw [hl];exact zf2 _ _ _,zaa,show idx t (pl.length:Int)=some y by rw [ht,←hp];exact zf2 _ _ _,zaa,zaw (x:=x+1) (by omega) (by omega),e1,zaw (x:=((v*(x.toNat+1):Nat):Int)) (by omega) (by omega),e2,zaw (x:=((v*(x.toNat+1)+y.toNat:Nat):Int)) (by omega) (by omega),zaw (x:=(pl.length:Int)+1) (by omega) (by omega)];have:=ih t' (pl++[x]) (pt++[y]) m (v*(x.toNat+1)+y.toNat) (by simp [hl]) (by simp [ht]) (by simp [hp]) h2 (by omega) (by rw [List.length_append,List.length_singleton,hpw];omega)
    rw [show (((pl++[x]).length:Nat):Int)=(pl.length:Int)+1 by simp] at this;rw [this]
    congr 2
    rw [zpz];simp only [pos]
    rw [Nat.add_mul,Nat.mul_assoc]
    omega
 have:=key l t [] [] n 0 rfl rfl rfl h (by omega) (by simp)
 rw [Nat.zero_mul,Nat.zero_add] at this;exact this
def zbc (x:Pn):SpotR_:=⟨⟨x.p,x.c⟩,x.b⟩
structure Cr (w:Wheel) (al:List Int):Prop where
 v:valid w=true
 hl:al.length=w.Coins.length
 nn:∀k,0<=al.getD k 0
 k3:w.Coins.length<=3
 m6:∀k,al.getD k 0<=6
theorem Cr.h {w:Wheel} {al:List Int} (C:Cr w al):OkW w:=ziV C.v
structure SpI (w:Wheel) (al p:List Int) (L:List SpotR_):Prop where
 nd:L.Nodup
 pt:∀s,s∈L->∃acts X,RP clI w al acts X/\X.l=p/\s=zbc X
 cl:∀acts X,RP clI w al acts X->X.l=p->zbc X∈L->0<X.c->0<X.p->zbc (zpr clI X)∈L
theorem zsn {x y:Pn} (h:zbc x=zbc y) (hl:x.l=y.l):x=y:=by
 obtain ⟨a,b,c,d⟩:=x;obtain ⟨a',b',c',d'⟩:=y;simp only [zbc,SpotR_.mk.injEq,Stand.mk.injEq] at h
 obtain ⟨⟨rfl,rfl⟩,rfl⟩:=h;simp only at hl
 subst hl
 rfl
theorem Cr.ok {w:Wheel} {al:List Int} (C:Cr w al) {acts X} (hr:RP clI w al acts X):OkX w al acts X:=hr.ok C.h C.hl C.nn (zru _)
theorem zlm {w:Wheel} {al p:List Int} (C:Cr w al) (h5:total p<=5) {L:List SpotR_} (hn:L.Nodup) (hp:∀s,s∈L->∃acts X,RP clI w al acts X/\X.l=p/\s=zbc X):L.length<=93312:=by
 have h1:=zjW (m:=(zv7 clI w 5).map zbc) hn fun s hs=>by
  obtain ⟨acts,X,hr,rfl,rfl⟩:=hp s hs;exact List.mem_map.2 ⟨X,hr.up C.h C.hl C.nn (zru _) (by omega),rfl⟩
 rw [List.length_map] at h1;have h2:=zsj clI C.k3 (t:=5) (by omega)
 omega
theorem zwJ {x y:SpotR_}:((x.stand.Place==y.stand.Place)&&((x.stand.Credit==y.stand.Credit)&&((x.bought==y.bought)&&true)))=true↔x=y:=by
 obtain ⟨⟨a,b⟩,c⟩:=x;obtain ⟨⟨a',b'⟩,c'⟩:=y;simp only [Bool.and_eq_true,beq_iff_eq,and_true,SpotR_.mk.injEq,Stand.mk.injEq,and_assoc]
theorem zso {w:Wheel} {rec:Wheel->List SpotR_->SpotR_->Option (List SpotR_)} {n:Nat} {L:List SpotR_} {x:SpotR_} (hl:L.length<100000) (hn:100000<=n):zdJ n rec w L x n 0=if x∈L then some L else zez n rec w L x:=by
 have key:=zqn (F:=fun m i (_:Unit)=>zdJ n rec w L x m i) (xs:=L) (spec:=fun l _=>if x∈l then some L else zez n rec w L x) (n:=n) (by omega) (by omega) () (fun m s=>by
   simp only [zdJ,zgA]
   rw [if_neg (by simp)];simp)
  (fun m i y l s hx hi _ _ hrec=>by
   simp only [zdJ,zgA]
   rw [if_pos (by simpa using hi),hx,zaa]
   by_cases e:y=x
   ·rw [if_pos (zwJ.2 e),if_pos (by rw [e];simp)]
   ·rw [if_neg (fun h=>e (zwJ.1 h)),hrec ()];have:x∈y::l↔x∈l:=by
     simp only [List.mem_cons]
     exact ⟨fun h=>h.resolve_left fun h=>e h.symm,.inr⟩
    by_cases hm:x∈l
    ·rw [if_pos hm,if_pos (this.2 hm)]
    ·rw [if_neg hm,if_neg (fun h=>hm (this.1 h))])
 exact key
theorem zu6 {w:Wheel} {al p:List Int} (C:Cr w al) (h5:total p<=5) {n:Nat} (hn:200000<=n) {L:List SpotR_} (hL:SpI w al p L) {acts X} (hr:RP clI w al acts X) (hX:X.l=p):∃L',zfL n w L (zbc X)=some L'/\SpI w al p L'/\zbc X∈L'/\∀s,s∈L->s∈L':=by
 obtain ⟨n,rfl⟩:∃q,n=q+2:=⟨n-2,by omega⟩;have hlen:=zlm C h5 hL.nd hL.pt
 have hOk:=C.ok hr
 have hc0:=hOk.c0
 have hp0:=hOk.p0
 have hb5:X.b<=500:=by have:=hOk.bt;rw [hX] at this;omega
 have hcb:=hOk.cb
 have act:∀{Y:Pn} {as},RP clI w al as Y->Y.l=p->ze1 (n+2-1) w ⟨Y.p,Y.c⟩ (-1)=some (if Y.c=0 then (⟨Y.p,Y.c⟩,false) else (⟨0,Y.c-1⟩,true)):=fun {Y as} hY hl=>by
  have hO:=C.ok hY
  have h1:=hO.bt
  have h2:=hO.cb
  rw [zuL C.h (by omega) (b:=500) ⟨hO.p0,hO.p1,hO.c0,by rw [hl] at h1;show Y.c<=500;omega⟩ (by omega) znJ]
  unfold zjz
  rw [if_neg (by omega)]
 have act':∀{Y:Pn} {as},RP clI w al as Y->Y.l=p->ze1 n w ⟨Y.p,Y.c⟩ (-1)=some (if Y.c=0 then (⟨Y.p,Y.c⟩,false) else (⟨0,Y.c-1⟩,true)):=fun {Y as} hY hl=>by
  have hO:=C.ok hY
  have h1:=hO.bt
  have h2:=hO.cb
  rw [zuL C.h (by omega) (b:=500) ⟨hO.p0,hO.p1,hO.c0,by rw [hl] at h1;show Y.c<=500;omega⟩ (by omega) znJ]
  unfold zjz
  rw [if_neg (by omega)]
 show ∃L',zgm (n+1) (zfL (n+1)) w L (zbc X)=some L'/\_
 unfold zgm
 rw [zso (by omega) (by omega)]
 by_cases hm:zbc X∈L
 ·rw [if_pos hm];exact ⟨L,rfl,hL,hm,fun _ h=>h⟩
 rw [if_neg hm]
 unfold zez
 rw [zf3 (by simp;omega),zaa,show ze1 (n+1) w (zbc X).stand (-1)=_ from act hr hX,zaa];have nd1:(L++[zbc X]).Nodup:=by
  rw [List.nodup_append];exact ⟨hL.nd,by simp,fun a ha b hb e=>by rw [List.mem_singleton.1 hb] at e;exact hm (e▸ha)⟩
 have pt1:∀s,s∈L++[zbc X]->∃acts X,RP clI w al acts X/\X.l=p/\s=zbc X:=fun s hs=>by
  rcases List.mem_append.1 hs with hs | hs
  ·exact hL.pt s hs
  ·exact ⟨acts,X,hr,hX,List.mem_singleton.1 hs⟩
 have inv1:∀L':List SpotR_,L'.Nodup->(∀s,s∈L'->∃acts X,RP clI w al acts X/\X.l=p/\s=zbc X)->(∀s,s∈L++[zbc X]->s∈L')->(0<X.c->0<X.p->zbc (zpr clI X)∈L')->(∀s,s∈L'->s∈L++[zbc X]\/s.stand.Place=0)->SpI w al p L':=fun L' n1 p1 s1 c1 o1=>by
  refine ⟨n1,p1,fun as Y hY hl hmY hc hp=>?_⟩;rcases o1 _ hmY with h | h
  ·rcases List.mem_append.1 h with h | h
   ·exact s1 _ (List.mem_append_left _ (hL.cl as Y hY hl h hc hp))
   ·obtain rfl:=zsn (List.mem_singleton.1 h) (hl.trans hX.symm);exact c1 hc hp
  ·have h:Y.p=0:=h
   omega
 by_cases hc:X.c=0
 ·rw [if_pos hc,if_pos (by rfl)];refine ⟨L++[zbc X],rfl,inv1 _ nd1 pt1 (fun _ h=>h) (fun h=>by omega) (fun s h=>.inl h),by simp,fun s h=>List.mem_append_left _ h⟩
 rw [if_neg hc,if_neg (by simp)]
 unfold zey
 by_cases hp:X.p=0
 ·rw [if_pos (by simpa [zbc] using hp)];exact ⟨L++[zbc X],rfl,inv1 _ nd1 pt1 (fun _ h=>h) (fun _ h=>by omega) (fun s h=>.inl h),by simp,fun s h=>List.mem_append_left _ h⟩
 rw [if_neg (by simpa [zbc] using hp)];have hsel:=hr.sel (by omega) (by omega)
 show ∃L',Option.bind (zgm n (zfL n) w (L++[zbc X]) (zbc (zpr clI X))) _=some L'/\_
 have hlen1:(L++[zbc X]).length<=93312:=zlm C h5 nd1 pt1
 unfold zgm
 rw [zso (by omega) (by omega)]
 by_cases hm2:zbc (zpr clI X)∈L++[zbc X]
 ·rw [if_pos hm2];exact ⟨L++[zbc X],rfl,inv1 _ nd1 pt1 (fun _ h=>h) (fun _ _=>hm2) (fun s h=>.inl h),by simp,fun s h=>List.mem_append_left _ h⟩
 rw [if_neg hm2]
 unfold zez
 rw [zf3 (by simp at hlen1 ⊢;omega),zaa,show ze1 n w (zbc (zpr clI X)).stand (-1)=_ from act' hsel hX,zaa];have nd2:(L++[zbc X]++[zbc (zpr clI X)]).Nodup:=by
  rw [List.nodup_append];exact ⟨nd1,by simp,fun a ha b hb e=>by rw [List.mem_singleton.1 hb] at e;exact hm2 (e▸ha)⟩
 have pt2:∀s,s∈L++[zbc X]++[zbc (zpr clI X)]->∃acts X,RP clI w al acts X/\X.l=p/\s=zbc X:=fun s hs=>by
  rcases List.mem_append.1 hs with hs | hs
  ·exact pt1 s hs
  ·exact ⟨_,_,hsel,hX,List.mem_singleton.1 hs⟩
 have fin:∀q:Option (List SpotR_),q=some (L++[zbc X]++[zbc (zpr clI X)])->∃L',Option.bind q (fun r5=>some r5)=some L'/\SpI w al p L'/\zbc X∈L'/\∀s,s∈L->s∈L':=fun q e=>by
  rw [e];exact ⟨_,rfl,inv1 _ nd2 pt2 (fun _ h=>List.mem_append_left _ h) (fun _ _=>by simp) (fun s h=>by
   rcases List.mem_append.1 h with h | h
   ·exact .inl h
   ·rw [List.mem_singleton.1 h];exact .inr rfl),by simp,fun s h=>by simp [h]⟩
 refine fin _ ?_
 by_cases hz:(zpr clI X).c=0
 ·rw [if_pos hz,if_pos (by rfl)]
  unfold zey
  rw [if_pos rfl]
 ·rw [if_neg hz,if_neg (by simp)]
  unfold zey
  rw [if_pos (by rfl)]
def zwf (L:List SpotR_) (N:List Int):Prop:=N.Pairwise (·<·)/\∀v,v∈N↔∃s,s∈L/\s.bought=v
theorem zsp:∀(L:List SpotR_) (m:Int),m<=L.foldl (fun m s=>max m s.bought) m/\(∀s,s∈L->s.bought<=L.foldl (fun m s=>max m s.bought) m)/\(∀b,m<=b->(∀s,s∈L->s.bought<=b)->L.foldl (fun m s=>max m s.bought) m<=b)
 | [],m=>⟨Int.le_refl _,by simp,fun b h _=>h⟩
 | s::L,m=>by
  obtain ⟨h1,h2,h3⟩:=zsp L (max m s.bought);simp only [List.foldl_cons]
  refine ⟨by omega,fun t ht=>?_,fun b hb hs=>h3 b (by have:=hs s (by simp);omega) fun t ht=>hs t (by simp [ht])⟩;rcases List.mem_cons.1 ht with rfl | ht
  ·omega
  ·exact h2 t ht
theorem ztr {n:Nat} (hn:200000<=n) {rec1:List Int->Int->Option (List Int)} {L:List SpotR_} (hl:L.length<=93312) (v:Int) (N:List Int) (hN:N.length<=1000):zcf rec1 L v n N 0=zcJ rec1 v (if L.any (fun s=>s.bought==v)=true then N++[v] else N):=by
 have key:=zqn (F:=fun m i (_:Unit)=>zcf rec1 L v m N i) (xs:=L) (spec:=fun k _=>zcJ rec1 v (if k.any (fun s=>s.bought==v)=true then N++[v] else N)) (n:=n) (by omega) (by omega) () (fun m s=>by
   simp only [zcf,zei]
   rw [if_neg (by simp)]
   rfl)
  (fun m i y l s hx hi _ _ hrec=>by
   simp only [zcf,zei]
   rw [if_pos (by simpa using hi),hx,zaa]
   by_cases e:y.bought=v
   ·rw [if_pos (by simpa using e),zf3 (by simp;omega),zaa,if_pos (by simp [e])]
   ·rw [if_neg (by simpa using e),hrec ()];simp only [List.any_cons,show (y.bought==v)=false by simpa using e,Bool.false_or])
 exact key
theorem zts {n:Nat} (hn:200000<=n) {L:List SpotR_} (hl:L.length<=93312) (hb:∀s,s∈L->0<=s.bought/\s.bought<=500):∃N,zhd n L=some N/\zwf L N:=by
 obtain ⟨f1,f2,f3⟩:=zsp L 0;have f4:=f3 500 (by omega) fun s hs=>(hb s hs).2
 unfold zhd
 have k3:=zqn (F:=fun m i (s:Int)=>zcg n L m s i) (xs:=L) (spec:=fun k s=>zd1 n L (k.foldl (fun m s=>max m s.bought) s)) (n:=n) (by omega) (by omega) 0 (fun m s=>by
   simp only [zcg,zek]
   rw [if_neg (by simp)]
   rfl)
  (fun m i y l s hx hi _ _ hrec=>by
   simp only [zcg,zek]
   rw [if_pos (by simpa using hi),hx,zaa];exact hrec _)
 rw [show zcg n L n 0 0=_ from k3]
 generalize L.foldl (fun m s=>max m s.bought) 0=M at *
 unfold zd1
 have key:∀(d i m:Nat) (N:List Int),(d:Int)=M+1-i->(i:Int)<=M+1->d<m->N.Pairwise (·<·)->(∀v,v∈N↔v<i/\∃s,s∈L/\s.bought=v)->N.length<=i->∃N',zbb n L M m N (i:Int)=some N'/\zwf L N':=by
  intro d
  induction d with
  | zero =>
   intro i m N hd hi hm h1 h2 h3
   obtain ⟨m,rfl⟩:∃q,m=q+1:=⟨m-1,by omega⟩;simp only [zbb,zej,zfi]
   rw [if_neg (by simp;omega)];refine ⟨N,rfl,h1,fun v=>?_⟩;rw [h2 v];refine ⟨fun h=>h.2,fun ⟨s,hs,e⟩=>⟨?_,s,hs,e⟩⟩;have:=f2 s hs
   omega
  | succ d ih =>
   intro i m N hd hi hm h1 h2 h3
   obtain ⟨m,rfl⟩:∃q,m=q+1:=⟨m-1,by omega⟩;simp only [zbb,zej]
   rw [if_pos (by simp;omega),ztr hn hl _ N (by omega)]
   unfold zcJ
   rw [zaw (by omega) (by omega)];have hany:L.any (fun s=>s.bought==(i:Int))=true↔∃s,s∈L/\s.bought=(i:Int):=by simp
   by_cases hq:L.any (fun s=>s.bought==(i:Int))=true
   ·rw [if_pos hq];have:=ih (i+1) m (N++[(i:Int)]) (by omega) (by omega) (by omega) (by
      rw [List.pairwise_append];refine ⟨h1,by simp,fun a ha b hb'=>?_⟩;rw [List.mem_singleton.1 hb'];exact ((h2 a).1 ha).1)
     (fun v=>by
      rw [List.mem_append,h2 v,List.mem_singleton]
      constructor
      ·rintro (⟨h,hs⟩ | rfl)
       ·exact ⟨by omega,hs⟩
       ·exact ⟨by omega,hany.1 hq⟩
      ·rintro ⟨h,hs⟩
       by_cases e:v=i
       ·exact .inr e
       ·exact .inl ⟨by omega,hs⟩) (by simp;omega)
    rw [show (((i+1:Nat)):Int)=(i:Int)+1 by simp] at this;exact this
   ·rw [if_neg hq];have:=ih (i+1) m N (by omega) (by omega) (by omega) h1
     (fun v=>by
      rw [h2 v]
      constructor
      ·rintro ⟨h,hs⟩
       exact ⟨by omega,hs⟩
      ·rintro ⟨h,hs⟩
       refine ⟨?_,hs⟩
       by_cases e:v=i
       ·subst e
        exact absurd (hany.2 hs) hq
       ·omega) (by omega)
    rw [show (((i+1:Nat)):Int)=(i:Int)+1 by simp] at this;exact this
 exact key (M+1).toNat 0 n [] (by omega) (by omega) (by omega) .nil (fun v=>by
  simp only [List.not_mem_nil,false_iff]
  rintro ⟨h,s,hs,e⟩
  have:=hb s hs
  omega) (by simp)
def exc:List Int->List Int->Int
 | x::p,y::q=>max 0 (x-y)+exc p q
 | _,_=>0
theorem znU:∀{p q:List Int},q.length=p.length->total p<=total q+exc p q
 | [],[],_=>by simp [exc,total]
 | [],_::_,h=>by simp at h
 | _::_,[],h=>by simp at h
 | x::p,y::q,h=>by
  have:=znU (p:=p) (q:=q) (by simpa using h)
  simp only [exc,total]
  omega
theorem zmb:∀{p q:List Int},(∀x,x∈q->0<=x)->(∀x,x∈p->0<=x)->exc p q<=total p
 | [],_,_,_=>by simp [exc,total]
 | x::p,[],_,hp=>by
  have:=zhk hp
  simpa [exc] using this
 | x::p,y::q,hq,hp=>by
  have:=zmb (p:=p) (q:=q) (fun z hz=>hq z (by simp [hz])) (fun z hz=>hp z (by simp [hz]))
  have h1:=hq y (by simp)
  have h2:=hp x (by simp)
  simp only [exc,total]
  omega
theorem zsq:∀{p q:List Int} {k:Nat},exc (ze8 p k) q<=exc p q
 | [],q,k=>by simp [ze8,exc]
 | x::p,[],k=>by
  have e:∀l:List Int,exc l []=0:=fun l=>by cases l<;>rfl
  rw [e,e];exact Int.le_refl _
 | x::p,y::q,0=>by
  show max 0 (x-1-y)+exc p q<=max 0 (x-y)+exc p q
  omega
 | x::p,y::q,k+1=>by
  have:=zsq (p:=p) (q:=q) (k:=k)
  show max 0 (x-y)+exc (ze8 p k) q<=max 0 (x-y)+exc p q
  omega
theorem zqE {n:Nat} {p q:List Int} (h:q.length=p.length) (hl:p.length<=10) (hp:zgd p) (hq:zgd q) (hn:100<=n):zjj n p q=some (exc p q):=by
 have key:∀(q' p' pp pq:List Int) (m:Nat) (v:Int),p=pp++p'->q=pq++q'->pq.length=pp.length->q'.length=p'.length->q'.length<m->0<=v->v<=1000*pp.length->zcX p q m v (pp.length:Int)=some (v+exc p' q'):=by
  intro q'
  induction q' with
  | nil =>
   intro p' pp pq m v h1 h2 h3 h4 hm hv hv2
   obtain ⟨m,rfl⟩:∃t,m=t+1:=⟨m-1,by omega⟩;simp only [zcX,zeP,zfM]
   rw [if_neg (by rw [h2];simp;omega)];have e:exc p' []=0:=by cases p'<;>rfl
   rw [e,Int.add_zero]
  | cons y q' ih =>
   intro p' pp pq m v h1 h2 h3 h4 hm hv hv2
   obtain ⟨m,rfl⟩:∃t,m=t+1:=⟨m-1,by omega⟩;cases p' with
   | nil=>simp at h4
   | cons x p' =>
    have hx:=hp pp.length
    have hy:=hq pq.length
    rw [h1,zpq] at hx;rw [h2,zpq] at hy;have hlen:p.length=pp.length+(p'.length+1):=by rw [h1];simp
    simp only [List.length_cons] at hm h4
    simp only [zcX,zeP]
    rw [if_pos (by rw [h2];simp;omega),show idx p (pp.length:Int)=some x by rw [h1];exact zf2 _ _ _,zaa,show idx q (pp.length:Int)=some y by rw [h2,←h3];exact zf2 _ _ _,zaa,zaw (x:=x-y) (by omega) (by omega),zaw (x:=v+_) (by omega) (by omega),zaw (x:=(pp.length:Int)+1) (by omega) (by omega)];have:=ih p' (pp++[x]) (pq++[y]) m (v+max 0 (x-y)) (by simp [h1]) (by simp [h2]) (by simp [h3]) (by omega) (by omega) (by omega) (by simp;omega)
    rw [show (((pp++[x]).length:Nat):Int)=(pp.length:Int)+1 by simp] at this;rw [this];simp only [exc]
    congr 1
    omega
 have:=key q p [] [] n 0 rfl rfl rfl h (by omega) (by omega) (by simp)
 rw [Int.zero_add] at this;exact this
def zAf (w:Wheel) (al p:List Int) (L:List SpotR_):Prop:=SpI w al p L/\∀acts X,RP clI w al acts X->X.l=p->zbc X∈L
theorem zwg {w:Wheel} {al p:List Int} (C:Cr w al) (h:Part p al) {v:Int}:Can w p v↔∃acts X,RP clI w al acts X/\X.l=p/\X.b=v:=by
 constructor
 ·rintro ⟨acts,hok,hbag,hb⟩
  obtain ⟨acts',x,hr,h1,h2,_⟩:=zuR C.h C.hl C.nn acts.length acts rfl hok fun k hk=>by
   rw [hbag k hk];exact (h.2 k).2
  have hX:=C.ok hr
  exact ⟨acts',x,hr,zde hX.len (by rw [h.1,C.hl]) fun k hk=>by rw [h2 k hk,hbag k hk],by rw [h1,hb]⟩
 ·rintro ⟨acts,x,hr,rfl,rfl⟩
  have hX:=C.ok hr
  exact ⟨acts,hX.ok,fun k _=>hX.bag k,hX.buys⟩
theorem zwh {w:Wheel} {al p:List Int} (C:Cr w al) (h:Part p al) {L:List SpotR_} {N:List Int} (hF:zAf w al p L) (hN:zwf L N):zqA w p N:=by
 refine ⟨hN.1,fun v=>?_⟩;rw [hN.2,zwg C h]
 constructor
 ·rintro ⟨s,hs,rfl⟩
  obtain ⟨acts,X,hr,hl,rfl⟩:=hF.1.pt s hs;exact ⟨acts,X,hr,hl,rfl⟩
 ·rintro ⟨acts,X,hr,hl,rfl⟩
  exact ⟨_,hF.2 acts X hr hl,rfl⟩
theorem zu7 {l:List Int} {k:Nat} (hk:k<l.length):ze8 (zfD l k) k=l:=by
 refine zde (n:=l.length) (by simp [ze8,zfD]) rfl fun j hj=>?_
 rw [zhq (by rw [znM];exact hk),zeU hk]
 split<;>omega
theorem zu8 {l:List Int} {k:Nat} (hk:k<l.length):zfD (ze8 l k) k=l:=by
 have hk':k<(ze8 l k).length:=by simp [ze8];exact hk
 refine zde (n:=l.length) (by simp [ze8,zfD]) rfl fun j hj=>?_
 rw [zeU hk',zhq hk]
 split<;>omega
theorem zrz {w:Wheel} {al p:List Int} (C:Cr w al) (h5:total p<=5) {L:List SpotR_} (hL:SpI w al p L):∀s,s∈L->0<=s.bought/\s.bought<=500:=fun s hs=>by
 obtain ⟨acts,X,hr,rfl,rfl⟩:=hL.pt s hs;have h:=C.ok hr
 have h1:=h.c0
 have h2:=h.cb
 have h3:=h.bt
 show 0<=X.b/\X.b<=500
 omega
theorem zsr {w:Wheel} {al p:List Int} (C:Cr w al) (h5:total p<=5) {n:Nat} (hn:200000<=n) {k:Nat} (hk:k<w.Coins.length) (hp:Part p al) (hpk:p.getD k 0≠0) {rec2:List SpotR_->Int->Option (List (List Int))} {xs:List SpotR_} (hl:xs.length<=93312) :
  ∀(l pre:List SpotR_) (m:Nat) (S:List SpotR_),pre++l=xs->l.length<m->(∀s,s∈l->∃acts X,RP clI w al acts X/\X.l=ze8 p k/\s=zbc X)->SpI w al p S ->
   ∃S',zcS n rec2 w (k:Int) xs m S (pre.length:Int)=zdm rec2 (k:Int) S'/\SpI w al p S'/\(∀s,s∈S->s∈S')/\∀acts X,RP clI w al acts X->X.l=ze8 p k->zbc X∈l->zbc (zps clI w X k)∈S'
 | [],pre,0,S,_,hm,_,_=>absurd hm (Nat.not_lt_zero _)
 | [],pre,m+1,S,he,hm,hx,hS=>by
  simp only [zcS,zfj]
  have hpl:pre.length=xs.length:=by rw [←he];simp
  rw [if_neg (by simp;omega)];exact ⟨S,rfl,hS,fun _ h=>h,fun _ _ _ _ h=>by simp at h⟩
 | s::l,pre,0,S,_,hm,_,_=>absurd hm (Nat.not_lt_zero _)
 | s::l,pre,m+1,S,he,hm,hx,hS=>by
  obtain ⟨acts,X,hr,hXl,rfl⟩:=hx s (by simp);have hpl:k<p.length:=by rw [hp.1,C.hl];exact hk
  have hO:=C.ok hr
  have hbt:=hO.bt
  have hcb:=hO.cb
  have hc0:=hO.c0
  rw [hXl,zjV hpl] at hbt;have hcoin:=zd8 C.h (a:=(k:Int)) (by omega) (by omega)
  have htr:=zfC C.h hO.p0 hO.p1 (show 0<=coin w k by omega)
  have hlen:xs.length=pre.length+(l.length+1):=by rw [←he];simp
  have hix:idx xs (pre.length:Int)=some (zbc X):=by rw [←he];exact zf2 _ _ _
  simp only [zcS,zfj]
  have hact:ze1 n w (zbc X).stand (k:Int)=some (⟨(turn w X.p (coin w k)).1,X.c+(turn w X.p (coin w k)).2⟩,false):=by
   rw [zuL C.h (by omega) (s:=(zbc X).stand) (b:=500) ⟨hO.p0,hO.p1,hO.c0,by show X.c<=500;omega⟩ (by omega) (znI hk)]
   unfold zjz
   rw [if_pos (by omega)]
   rfl
  rw [if_pos (by simp;omega),hix,zaa,hact,zaa,zaa,zaa];have hne:X.l.getD k 0≠al.getD k 0:=by
   rw [hXl,zhq hpl,if_pos rfl];have:=(hp.2 k).2
   omega
  have hrc:=hr.coin hk hne
  obtain ⟨S1,a1,a2,a3,a4⟩:=zu6 C h5 hn hS hrc (show zfD X.l k=p by rw [hXl];exact zu8 hpl);have e:(⟨⟨(turn w X.p (coin w k)).1,X.c+(turn w X.p (coin w k)).2⟩,w64 (w64 ((zbc X).bought+(X.c+(turn w X.p (coin w k)).2))-(zbc X).stand.Credit)⟩:SpotR_)=zbc (zps clI w X k):=by
   show (⟨⟨_,_⟩,w64 (w64 (X.b+(X.c+(turn w X.p (coin w k)).2))-X.c)⟩:SpotR_)=⟨⟨_,_⟩,X.b+(turn w X.p (coin w k)).2⟩
   rw [zaw (x:=X.b+_) (by omega) (by omega),zaw (by omega) (by omega)]
   congr 1
   omega
  obtain ⟨S',b1,b2,b3,b4⟩:=zsr C h5 hn hk hp hpk hl (rec2:=rec2) l (pre++[zbc X]) m S1 (by simpa using he) (by simpa using hm) (fun s hs=>hx s (by simp [hs])) a2;refine ⟨S',?_,b2,fun s hs=>b3 s (a4 s hs),fun as Y hY hYl hm'=>?_⟩
  ·simp only
   rw [e,a1,zaa,zaw (x:=(pre.length:Int)+1) (by omega) (by omega)];rw [show (((pre++[zbc X]).length:Nat):Int)=(pre.length:Int)+1 by simp] at b1;exact b1
  ·rcases List.mem_cons.1 hm' with h | h
   ·obtain rfl:=zsn h (hYl.trans hXl.symm);exact b3 _ a3
   ·exact b4 as Y hY hYl h
theorem zwi {p al:List Int} {w:Wheel} (C:Cr w al) (hp:Part p al) {k:Nat} (hk:k<w.Coins.length):zij p (k:Int)=some (ze8 p k):=by
 have h3:=C.k3
 have hl:=C.hl
 have h1:=hp.1
 have h2:=hp.2 k
 have h6:=C.m6 k
 exact zxo (by omega) (by omega) (by omega)
structure TI (w:Wheel) (al put:List Int) (i:Nat) (v3:List (List SpotR_)) (v4:List (List Int)):Prop where
 l3:v3.length=i
 l4:v4.length=i
 ok:∀(j:Nat) (p:List Int) (L:List SpotR_) (N:List Int),(za5 al)[j]?=some p->v3[j]?=some L->v4[j]?=some N->exc p put<=2->zAf w al p L/\zwf L N
theorem zwj {w:Wheel} {al put p:List Int} (C:Cr w al) (hput:zgd put) (hpl:put.length=al.length) (hpt:total put<=3) {n:Nat} (hn:200000<=n) {rec1:List (List SpotR_)->List (List Int)->Int->Option (List (List Int))} {v3:List (List SpotR_)} {v4:List (List Int)} {i:Nat} (hT:TI w al put i v3 v4) (hi:(za5 al)[i]?=some p) (hps:pos al p=i) (hp:Part p al) (hx:exc p put<=2) :
  ∀(d k m:Nat) (S:List SpotR_),d=w.Coins.length-k->k<=w.Coins.length->d<m->SpI w al p S ->
   ∃S',za2 n rec1 w al put (za5 al) v3 v4 (i:Int) m S (k:Int)=zdl n rec1 v3 v4 (i:Int) S'/\SpI w al p S'/\(∀s,s∈S->s∈S')/\∀k':Nat,k<=k'->k'<w.Coins.length->p.getD k' 0≠0->∀acts X,RP clI w al acts X->X.l=ze8 p k'->zbc (zps clI w X k')∈S':=by
 have hl:=C.hl
 have hk3:=C.k3
 have hplen:=hp.1
 have ht5:total p<=5:=by
  have:=znU (p:=p) (q:=put) (by omega)
  omega
 have hsp:zgd p:=fun k=>by
  have:=hp.2 k
  have:=C.m6 k
  omega
 have hi':i<(za5 al).length:=by
  rcases Nat.lt_or_ge i (za5 al).length with h | h
  ·exact h
  ·rw [List.getElem?_eq_none h] at hi;cases hi
 have hpi:(za5 al)[i]=p:=by
  rw [List.getElem?_eq_getElem hi'] at hi;exact Option.some.inj hi
 have hidx:idx (za5 al) (i:Int)=some p:=by rw [zcz hi',hpi]
 intro d
 induction d with
 | zero =>
  intro k m S hd hk hm hS
  obtain ⟨m,rfl⟩:∃q,m=q+1:=⟨m-1,by omega⟩;simp only [za2,zd2]
  rw [if_neg (by simp;omega)]
  unfold zcT
  rw [if_neg (by simp)];exact ⟨S,rfl,hS,fun _ h=>h,fun k' h1 h2=>by omega⟩
 | succ d ih =>
  intro k m S hd hk hm hS
  obtain ⟨m,rfl⟩:∃q,m=q+1:=⟨m-1,by omega⟩;simp only [za2,zd2]
  rw [if_pos (by simp;omega),hidx,zaa,zqE (by omega) (by omega) hsp hput (by omega),zaa,show decide (exc p put<=2)=true by simpa using hx]
  unfold zcT
  rw [if_pos rfl,hidx,zaa,zcz (by omega),zaa,getD_get]
  by_cases hz:p.getD k 0=0
  ·rw [if_pos (by simpa using hz)]
   unfold zdm
   rw [zaw (by omega) (by omega)];obtain ⟨S',a1,a2,a3,a4⟩:=ih (k+1) m S (by omega) (by omega) (by omega) hS;rw [show (((k+1:Nat)):Int)=(k:Int)+1 by simp] at a1;refine ⟨S',a1,a2,a3,fun k' h1 h2 h3=>?_⟩
   by_cases e:k'=k
   ·subst e
    exact absurd hz h3
   ·exact a4 k' (by omega) h2 h3
  ·rw [if_neg (by simpa using hz),zaa,zwi C hp (by omega),zaa];have hpk:Part (ze8 p k) al:=zu5 hp (by omega) hz
   obtain ⟨g1,g2⟩:=zpA hpk;have hlt:=zsm (k:=k) hp (by omega) hz
   rw [hps] at hlt;rw [zwe hpk (by omega) C.m6 (by omega),zaa];have hv3:pos al (ze8 p k)<v3.length:=by rw [hT.l3];exact hlt
   have hv4:pos al (ze8 p k)<v4.length:=by rw [hT.l4];exact hlt
   obtain ⟨hF,_⟩:=hT.ok (pos al (ze8 p k)) (ze8 p k) _ _ g1 (List.getElem?_eq_getElem hv3) (List.getElem?_eq_getElem hv4) (Int.le_trans zsq hx);rw [zcz hv3,zaa]
   generalize v3[pos al (ze8 p k)]=X25 at hF
   have h5':total (ze8 p k)<=5:=by rw [zjV (by omega)];omega
   have hlen25:=zlm C h5' hF.1.nd hF.1.pt
   obtain ⟨S1,b1,b2,b3,b4⟩:=zsr C ht5 hn (show k<w.Coins.length by omega) hp hz (rec2:=za2 n rec1 w al put (za5 al) v3 v4 (i:Int) m) hlen25 X25 [] n S rfl (by omega) hF.1.pt hS;rw [show zcS n (za2 n rec1 w al put (za5 al) v3 v4 (i:Int) m) w (k:Int) X25 n S 0=_ from b1]
   unfold zdm
   rw [zaw (by omega) (by omega)];obtain ⟨S',a1,a2,a3,a4⟩:=ih (k+1) m S1 (by omega) (by omega) (by omega) b2;rw [show (((k+1:Nat)):Int)=(k:Int)+1 by simp] at a1;refine ⟨S',a1,a2,fun s hs=>a3 s (b3 s hs),fun k' h1 h2 h3 acts X hX hXl=>?_⟩
   by_cases e:k'=k
   ·subst e
    exact a3 _ (b4 acts X hX hXl (hF.2 acts X hX hXl))
   ·exact a4 k' (by omega) h2 h3 acts X hX hXl
theorem znV {w:Wheel} {al p:List Int} (C:Cr w al) (hp:Part p al) (h:total p=0):p=zl w :=
 zde (n:=w.Coins.length) (by rw [hp.1,C.hl]) (by simp [zl]) fun k _=>by rw [zku];exact ztn (zuP hp) h k
theorem zwk {w:Wheel} {al put:List Int} (C:Cr w al) (hput:zgd put) (hpl:put.length=al.length) (hpt:total put<=3) {n:Nat} (hn:200000<=n) (hsz:(za5 al).length<=1000) (hpos:∀(i:Nat) (p:List Int),(za5 al)[i]?=some p->pos al p=i) :
  ∀(d i m:Nat) (v3:List (List SpotR_)) (v4:List (List Int)),d=(za5 al).length-i->i<=(za5 al).length->d<m->TI w al put i v3 v4 ->
   ∃T,zaA n w al put (za5 al) m v3 v4 (i:Int)=some T/\∃V,TI w al put (za5 al).length V T:=by
 have hl:=C.hl
 have hk3:=C.k3
 intro d
 induction d with
 | zero =>
  intro i m v3 v4 hd hi hm hT
  obtain ⟨m,rfl⟩:∃q,m=q+1:=⟨m-1,by omega⟩;simp only [zaA,zfk,zgC]
  rw [if_neg (by simp;omega)];have:i=(za5 al).length:=by omega
  subst this
  exact ⟨v4,rfl,v3,hT⟩
 | succ d ih =>
  intro i m v3 v4 hd hi hm hT
  obtain ⟨m,rfl⟩:∃q,m=q+1:=⟨m-1,by omega⟩;have hi':i<(za5 al).length:=by omega
  obtain ⟨p,hpi⟩:∃p,(za5 al)[i]?=some p:=⟨_,List.getElem?_eq_getElem hi'⟩;have hp:Part p al:=(zlg (zgW C.nn)).1 (List.mem_of_getElem? hpi)
  have hplen:=hp.1
  have hsp:zgd p:=fun k=>by
   have:=hp.2 k
   have:=C.m6 k
   omega
  have hidx:idx (za5 al) (i:Int)=some p:=by
   rw [zcz hi'];rw [List.getElem?_eq_getElem hi'] at hpi;exact hpi
  simp only [zaA,zfk]
  rw [if_pos (by simp;omega),hidx,zaa,zpt hsp (by omega) (by omega),zaa];have fin:∀S:List SpotR_,S.length<=93312->(∀s,s∈S->0<=s.bought/\s.bought<=500)->(exc p put<=2->zAf w al p S)->∃T,zdl n (zaA n w al put (za5 al) m) v3 v4 (i:Int) S=some T/\∃V,TI w al put (za5 al).length V T:=fun S hS1 hS2 hS3=>by
   obtain ⟨N,n1,n2⟩:=zts hn hS1 hS2;have e3:=hT.l3
   have e4:=hT.l4
   unfold zdl
   rw [zf3 (by simp;omega),zaa,n1,zaa,zf3 (by simp;omega),zaa]
   unfold zgD
   rw [zaw (by omega) (by omega)];have:=ih (i+1) m (v3++[S]) (v4++[N]) (by omega) (by omega) (by omega) ⟨by simp [e3],by simp [e4],fun j q L N' h1 h2 h3 h4=>by
    by_cases hj:j<i
    ·rw [List.getElem?_append_left (by omega)] at h2 h3;exact hT.ok j q L N' h1 h2 h3 h4
    ·by_cases hj2:j=i
     ·subst hj2
      rw [←e3,List.getElem?_append_right (Nat.le_refl _),Nat.sub_self] at h2;rw [←e4,List.getElem?_append_right (Nat.le_refl _),Nat.sub_self] at h3;rw [hpi] at h1;obtain rfl:=Option.some.inj h1;obtain rfl:=Option.some.inj h2;obtain rfl:=Option.some.inj h3;exact ⟨hS3 h4,n2⟩
     ·rw [List.getElem?_eq_none (by simp;omega)] at h2;cases h2⟩
   rw [show (((i+1:Nat)):Int)=(i:Int)+1 by simp] at this;exact this
  by_cases hx:exc p put<=2
  ·have ht5:total p<=5:=by
    have:=znU (p:=p) (q:=put) (by omega)
    omega
   have go:∀S0,SpI w al p S0->(p=zl w->zbc (zlV w)∈S0)->∃T,zdn n (zaA n w al put (za5 al) m) w al put (za5 al) v3 v4 (i:Int) S0=some T/\∃V,TI w al put (za5 al).length V T:=fun S0 h1 h2=>by
    unfold zdn
    obtain ⟨S',a1,a2,a3,a4⟩:=zwj C hput hpl hpt hn (rec1:=zaA n w al put (za5 al) m) hT hpi (hpos i p hpi) hp hx w.Coins.length 0 n S0 (by omega) (by omega) (by omega) h1;rw [show za2 n (zaA n w al put (za5 al) m) w al put (za5 al) v3 v4 (i:Int) n S0 0=_ from a1];refine fin S' (zlm C ht5 a2.nd a2.pt) (zrz C ht5 a2) fun _=>⟨a2,fun acts X hr=>?_⟩
    induction hr with
    | zero=>exact fun e=>a3 _ (h2 e.symm)
    | sel hr hc hp' ih'=>exact fun e=>a2.cl _ _ hr e (ih' e) hc hp'
    | @coin acts X k hr hk hne ih' =>
     intro e
     have e:zfD X.l k=p:=e
     have hkl:k<X.l.length:=by rw [(C.ok hr).len];exact hk
     refine a4 k (Nat.zero_le _) hk ?_ acts X hr (by rw [←e,zu7 hkl]);rw [←e,zeU hkl,if_pos rfl];have:=(C.ok hr).nn k
     omega
   by_cases hz:total p=0
   ·rw [if_pos (by simpa using hz)];have hpz:=znV C hp hz
    obtain ⟨S0,b1,b2,b3,_⟩:=zu6 C ht5 hn (p:=p) (L:=[]) ⟨by simp,by simp,by simp⟩ (RP.zero (cl:=clI) (w:=w) (al:=al)) (show (zlV w).l=p from hpz.symm);rw [show zfL n w [] ⟨⟨0,0⟩,0⟩=_ from b1,zaa];exact go S0 b2 fun _=>b3
   ·rw [if_neg (by simpa using hz)];exact go [] ⟨by simp,by simp,by simp⟩ fun e=>absurd (by rw [e];exact zli _) hz
  ·have hz:total p≠0:=fun e=>by
    have:=zmb (p:=p) (q:=put) (zgW fun k=>(hput k).1) (zuP hp)
    omega
   rw [if_neg (by simpa using hz)]
   unfold zdn
   have e:za2 n (zaA n w al put (za5 al) m) w al put (za5 al) v3 v4 (i:Int) n [] 0=zdl n (zaA n w al put (za5 al) m) v3 v4 (i:Int) []:=by
    obtain ⟨n',rfl⟩:∃q,n=q+1:=⟨n-1,by omega⟩;simp only [za2,zd2]
    by_cases h0:(0:Int)<(al.length:Int)
    ·rw [if_pos (by simpa using h0),hidx,zaa,zqE (by omega) (by omega) hsp hput (by omega),zaa,show decide (exc p put<=2)=false by simpa using hx]
     unfold zcT
     rw [if_neg (by simp)]
    ·rw [if_neg (by simpa using h0)]
     unfold zcT
     rw [if_neg (by simp)]
   rw [e];exact fin [] (by simp) (by simp) fun h=>absurd h hx
theorem zu9:∀{l p:List Int} {i:Nat},(∀x,x∈l->0<=x)->(za5 l)[i]?=some p->pos l p=i
 | [],p,i,_,h=>by
  simp only [za5] at h
  cases i with
  | zero=>rfl
  | succ i=>simp at h
 | x::l,p,i,hx,h=>by
  have hi:i<(za5 (x::l)).length:=by
   rcases Nat.lt_or_ge i (za5 (x::l)).length with h1 | h1
   ·exact h1
   ·rw [List.getElem?_eq_none h1] at h;cases h
  rw [zpz] at hi;have hc:0<(za5 l).length:=by
   rcases Nat.eq_zero_or_pos (za5 l).length with h1 | h1
   ·rw [h1] at hi
    omega
   ·exact h1
  have hv:i / (za5 l).length<x.toNat+1:=Nat.div_lt_of_lt_mul (by rw [Nat.mul_comm];exact hi)
  have hj:i % (za5 l).length<(za5 l).length:=Nat.mod_lt _ hc
  have hdm:i / (za5 l).length*(za5 l).length+i % (za5 l).length=i:=by rw [Nat.mul_comm];exact Nat.div_add_mod i _
  simp only [za5] at h
  rw [←hdm,zpy (c:=(za5 l).length) (x.toNat+1) 0 _ _ (fun y _=>by simp) hv hj,List.getElem?_map] at h;cases ht:(za5 l)[i % (za5 l).length]? with
  | none=>rw [ht] at h;cases h
  | some t =>
   rw [ht] at h;simp only [Option.map_some,Option.some.injEq] at h
   subst h
   have ih:=zu9 (l:=l) (fun y hy=>hx y (by simp [hy])) ht
   simp only [pos,ih]
   rw [Nat.zero_add,Int.toNat_natCast];exact hdm
theorem zwl {w:Wheel} {al put:List Int} (C:Cr w al) (hput:zgd put) (hpl:put.length=al.length) (hpt:total put<=3) {n:Nat} (hn:200000<=n):zcW n al []=some (za5 al)/\∃T,ziL n w al put=some T/\∃V,TI w al put (za5 al).length V T:=by
 have hl:=C.hl
 have hk3:=C.k3
 have hm6:∀x,x∈al->0<=x/\x<=6:=fun x hx=>by
  obtain ⟨k,hk⟩:=List.getElem?_of_mem hx;have h1:=C.nn k
  have h2:=C.m6 k
  rw [List.getD_eq_getElem?_getD,hk] at h1 h2;exact ⟨h1,h2⟩
 have hsz:(za5 al).length<=1000:=by
  have h1:=zlh (l:=al) fun x hx=>(hm6 x hx).2
  have h2:7 ^ al.length<=7 ^ 3:=Nat.pow_le_pow_right (by omega) (by omega)
  omega
 have hparts:zcW n al []=some (za5 al):=by
  have:=zuO al [] [] n rfl (by simp;omega) hm6 (by omega)
  simpa using this
 refine ⟨hparts,?_⟩
 unfold ziL
 rw [hparts,zaa];exact zwk C hput hpl hpt hn hsz (fun i p h=>zu9 (zgW C.nn) h) (za5 al).length 0 n [] [] (by omega) (by omega) (by omega) ⟨rfl,rfl,fun j p L N h1 h2=>by simp at h2⟩
theorem TI.can {w:Wheel} {al put:List Int} (C:Cr w al) {V:List (List SpotR_)} {T:List (List Int)} (hT:TI w al put (za5 al).length V T) {i:Nat} {p:List Int} (hi:(za5 al)[i]?=some p) (hx:exc p put<=2):∃N,idx T (i:Int)=some N/\zqA w p N:=by
 have hil:i<(za5 al).length:=by
  rcases Nat.lt_or_ge i (za5 al).length with h1 | h1
  ·exact h1
  ·rw [List.getElem?_eq_none h1] at hi;cases hi
 have h3:i<V.length:=by rw [hT.l3];exact hil
 have h4:i<T.length:=by rw [hT.l4];exact hil
 obtain ⟨hF,hN⟩:=hT.ok i p _ _ hi (List.getElem?_eq_getElem h3) (List.getElem?_eq_getElem h4) hx;exact ⟨T[i],zcz h4,zwh C ((zlg (zgW C.nn)).1 (List.mem_of_getElem? hi)) hF hN⟩
def zgu (a b:List Int):List Int:=List.zipWith (·-·) a b
theorem zgX {a b:List Int} (h:b.length=a.length):(zgu a b).length=a.length:=by simp [zgu,h]
theorem zhr:∀{a b:List Int},b.length=a.length->∀k,(zgu a b).getD k 0=a.getD k 0-b.getD k 0
 | [],[],_,k=>by simp [zgu]
 | [],_::_,h,_=>by simp at h
 | _::_,[],h,_=>by simp at h
 | x::a,y::b,h,0=>by simp [zgu]
 | x::a,y::b,h,k+1=>by
  have:=zhr (a:=a) (b:=b) (by simpa using h) k
  simpa [zgu] using this
theorem znW {p put:List Int} (h:put.length=p.length):sums put (zgu p put)=p :=
 zde (n:=p.length) (by rw [zf9 (by rw [zgX h];exact h.symm),h]) rfl fun k _=>by rw [zga (by rw [zgX h];exact h.symm),zhr h];omega
theorem zva {P put:List Int} (h:P.length=put.length):zgu (sums put P) put=P :=
 zde (n:=P.length) (by rw [zgX (by rw [zf9 h]),zf9 h];exact h.symm) rfl fun k _=>by rw [zhr (by rw [zf9 h]),zga h];omega
theorem zss:∀{p q:List Int},q.length=p.length->(∀k,q.getD k 0<=p.getD k 0)->exc p q=total p-total q
 | [],[],_,_=>rfl
 | [],_::_,h,_=>by simp at h
 | _::_,[],h,_=>by simp at h
 | x::p,y::q,h,hk=>by
  have ih:=zss (p:=p) (q:=q) (by simpa using h) fun k=>by simpa using hk (k+1)
  have h0:y<=x:=hk 0
  simp only [exc,total]
  omega
theorem zqF {n:Nat} {P:List Int} (h2:∀x,x∈P->x<=2) (hl:P.length<=10) (hn:200<=n):zfN n P=some (P.all (fun x=>decide (0<=x))&&decide (total P<=2)):=by
 have fin:P.all (fun x=>decide (0<=x))=true->zcA n P=some (decide (total P<=2)):=fun h=>by
  unfold zcA
  rw [zpt (fun k=>by
   rw [List.getD_eq_getElem?_getD];cases hk:P[k]? with
   | none=>simp
   | some x =>
    have hm:=List.mem_of_getElem? hk
    have h1:=h2 x hm
    rw [List.all_eq_true] at h;have h3:0<=x:=by simpa using h x hm
    show 0<=x/\x<=1000
    omega) (by omega) (by omega)]
  rfl
 have key:=zti (F:=fun m i (_:Unit)=>zb7 n P m i) (xs:=P) (spec:=fun l _=>if l.all (fun x=>decide (0<=x))=true then zcA n P else some false) (I:=fun _ _=>True) (by omega)
  (fun m s hI=>by
   simp only [zb7,zds]
   rw [if_neg (by simp),if_pos (by rfl)])
  (fun m i x l s hI hx hi _ _ hrec=>by
   simp only [zb7,zds]
   rw [if_pos (by simpa using hi),hx,zaa]
   by_cases hq:x<0
   ·rw [if_pos (by simpa using hq),if_neg (by simp;omega)]
   ·rw [if_neg (by simpa using hq),hrec () trivial];simp only [List.all_cons,show decide (0<=x)=true by simp;omega,Bool.true_and])
  P 0 n () (by omega) rfl (by omega) trivial
 rw [show zfN n P=_ from key]
 by_cases hq:P.all (fun x=>decide (0<=x))=true
 ·rw [if_pos hq,fin hq,hq,Bool.true_and]
 ·rw [if_neg hq,show P.all (fun x=>decide (0<=x))=false by simpa using hq,Bool.false_and]
theorem zxx {n:Nat} {b:Box} (F:NearF b) {N:List Int} (hl:N.length<=1000) (hn:2000<=n):zlz n b N=some (N.any fun v=>inR v b.Plays (b.Plays+b.Skips)):=by
 have h1:=F.p
 have h2:=F.k
 have key:=zqn (F:=fun m i (_:Unit)=>zdP b N m i) (xs:=N) (spec:=fun l _=>some (l.any fun v=>inR v b.Plays (b.Plays+b.Skips))) (n:=n) (by omega) (by omega) ()
  (fun m s=>by simp [zdP,zfO,zhe])
  (fun m i x l s hx hi _ _ hrec=>by
   simp only [zdP,zfO,ziM]
   rw [if_pos (by simpa using hi),hx,zaa,zaw (by omega) (by omega),rwithin_eq,zaa,zaa]
   by_cases hq:inR x b.Plays (b.Plays+b.Skips)=true
   ·rw [if_pos hq];simp [hq]
   ·rw [if_neg hq,hrec ()];simp [hq])
 exact key
def two (l:List Int):List Int:=l.map (·+2)
theorem zpB {l:List Int} {k:Nat} (h:k<l.length):(two l).getD k 0=l.getD k 0+2:=by simp [two,h]
theorem znX (l:List Int) (k:Nat):(two l).getD k 0<=l.getD k 0+2/\(0<=l.getD k 0->0<=(two l).getD k 0):=by
 rcases Nat.lt_or_ge k l.length with h | h
 ·rw [zpB h]
  omega
 ·rw [List.getD_eq_getElem?_getD,List.getD_eq_getElem?_getD,List.getElem?_eq_none (by simpa [two] using h),List.getElem?_eq_none h];simp
theorem Near.cr2 {b:Box} (N:Near b):Cr b.Wheel (two (zcZ b)) :=
 have C:=N.cx0
 have F:=N.ok.far
 ⟨C.v,by simp [two,C.hl],fun k=>(znX _ k).2 (C.nn k),C.k3,fun k=>by
  have h1:=(znX (zcZ b) k).1
  have h2:=zjA (zgW C.nn) k
  have h3:=zjD F
  have h4:=N.t3
  omega⟩
theorem zqG {n:Nat} (hn:2000<=n) {rec1:List (List Int)->Int->Option (List (List Int))} {b:Box} {put p:List Int} {ps T v6:List (List Int)} {i:Nat} (hi:idx ps (i:Int)=some p) (h:put.length=p.length) (hl:put.length<=10) (hp:zgd p) (hq:zgd put):zbC n rec1 b put ps T v6 (i:Int) n [] 0=zcD n rec1 b T v6 (i:Int) (zgu p put):=by
 have key:∀(d k m:Nat) (v:List Int),d=put.length-k->k<=put.length->d<m->v.length=k->zbC n rec1 b put ps T v6 (i:Int) m v (k:Int)=zcD n rec1 b T v6 (i:Int) (v++(zgu p put).drop k):=by
  intro d
  induction d with
  | zero =>
   intro k m v hd hk hm hv
   obtain ⟨m,rfl⟩:∃q,m=q+1:=⟨m-1,by omega⟩;simp only [zbC,zdt]
   rw [if_neg (by simp;omega),List.drop_eq_nil_of_le (by rw [zgX h];omega),List.append_nil]
  | succ d ih =>
   intro k m v hd hk hm hv
   obtain ⟨m,rfl⟩:∃q,m=q+1:=⟨m-1,by omega⟩;have h1:=hp k
   have h2:=hq k
   simp only [zbC,zdt]
   rw [if_pos (by simp;omega),hi,zaa,zcz (by omega),zaa,zcz (by omega),zaa,getD_get,getD_get,zaw (by omega) (by omega),zf3 (by simp;omega),zaa,zaw (by omega) (by omega)];have:=ih (k+1) m (v++[p.getD k 0-put.getD k 0]) (by omega) (by omega) (by omega) (by simp [hv])
   rw [show (((k+1:Nat)):Int)=(k:Int)+1 by simp] at this;rw [this,List.drop_eq_getElem_cons (l:=zgu p put) (i:=k) (by rw [zgX h];omega),getD_get,zhr h];simp
 have:=key put.length 0 n [] (by omega) (by omega) (by omega) rfl
 simpa using this
theorem zqH {b:Box} (N:Near b) {n:Nat} (hn:200000<=n):∃R,zfP n b=some R/\R.length<=1000/\∀P,P∈R↔More b P/\zpw b (sums (zcZ b) P):=by
 have F:=N.ok.far
 have C:=N.cr2
 have C0:=N.cx0
 have h3:=N.k3
 have hpl:=zjC F
 have hs:=zqD F
 have hpt:total (zcZ b)<=3:=by rw [zjD F];exact N.t3
 unfold zfP
 rw [zu1 F (by omega),zaa];have k3:∀(d i m:Nat) (v:List Int),d=(zcZ b).length-i->i<=(zcZ b).length->d<m->v.length=i->zbD n b (zcZ b) m v (i:Int)=zdb n b (zcZ b) (v++(two (zcZ b)).drop i):=by
  intro d
  induction d with
  | zero =>
   intro i m v hd hi hm hv
   obtain ⟨m,rfl⟩:∃q,m=q+1:=⟨m-1,by omega⟩;simp only [zbD,zdv]
   rw [if_neg (by simp;omega),List.drop_eq_nil_of_le (by simp [two];omega),List.append_nil]
  | succ d ih =>
   intro i m v hd hi hm hv
   obtain ⟨m,rfl⟩:∃q,m=q+1:=⟨m-1,by omega⟩;have h1:=hs i
   simp only [zbD,zdv]
   rw [if_pos (by simp;omega),zcz (by omega),zaa,getD_get,zaw (by omega) (by omega),zf3 (by simp;omega),zaa,zaw (by omega) (by omega)];have:=ih (i+1) m (v++[(zcZ b).getD i 0+2]) (by omega) (by omega) (by omega) (by simp [hv])
   rw [show (((i+1:Nat)):Int)=(i:Int)+1 by simp] at this;rw [this,List.drop_eq_getElem_cons (l:=two (zcZ b)) (i:=i) (by simp [two];omega),getD_get,zpB (by omega)];simp
 have k3':=k3 (zcZ b).length 0 n [] (by omega) (by omega) (by omega) rfl
 rw [List.nil_append,List.drop_zero] at k3';rw [show zbD n b (zcZ b) n [] 0=_ from k3']
 unfold zdb
 have htl:(two (zcZ b)).length=(zcZ b).length:=by simp [two]
 obtain ⟨q1,T,q2,V,hT⟩:=zwl C hs htl.symm hpt hn;have hsz:(za5 (two (zcZ b))).length<=1000:=by
  have h1:=zlh (l:=two (zcZ b)) fun x hx=>by
   obtain ⟨k,hk⟩:=List.getElem?_of_mem hx;have h2:=C.m6 k
   rw [List.getD_eq_getElem?_getD,hk] at h2;exact h2
  have h2:7 ^ (two (zcZ b)).length<=7 ^ 3:=Nat.pow_le_pow_right (by omega) (by omega)
  omega
 rw [q1,zaa,q2,zaa];have key:∀(d i m:Nat) (v:List (List Int)),d=(za5 (two (zcZ b))).length-i->i<=(za5 (two (zcZ b))).length->d<m->v.length<=i->(∀P,P∈v↔∃j p,j<i/\(za5 (two (zcZ b)))[j]?=some p/\zgu p (zcZ b)=P/\More b P/\zpw b (sums (zcZ b) P))->∃R,zaR n b (zcZ b) (za5 (two (zcZ b))) T m v (i:Int)=some R/\R.length<=1000/\∀P,P∈R↔∃j p,j<(za5 (two (zcZ b))).length/\(za5 (two (zcZ b)))[j]?=some p/\zgu p (zcZ b)=P/\More b P/\zpw b (sums (zcZ b) P):=by
  intro d
  induction d with
  | zero =>
   intro i m v hd hi hm hv hvm
   obtain ⟨m,rfl⟩:∃q,m=q+1:=⟨m-1,by omega⟩;simp only [zaR,zdu,zel]
   rw [if_neg (by simp;omega)];have:i=(za5 (two (zcZ b))).length:=by omega
   subst this
   exact ⟨v,rfl,by omega,hvm⟩
  | succ d ih =>
   intro i m v hd hi hm hv hvm
   obtain ⟨m,rfl⟩:∃q,m=q+1:=⟨m-1,by omega⟩;have hi':i<(za5 (two (zcZ b))).length:=by omega
   obtain ⟨p,hpi⟩:∃p,(za5 (two (zcZ b)))[i]?=some p:=⟨_,List.getElem?_eq_getElem hi'⟩;have hp:Part p (two (zcZ b)):=(zlg (zgW C.nn)).1 (List.mem_of_getElem? hpi)
   have hplen:(zcZ b).length=p.length:=by rw [hp.1,htl]
   have hsp:zgd p:=fun k=>by
    have:=hp.2 k
    have:=C.m6 k
    omega
   have hidx:idx (za5 (two (zcZ b))) (i:Int)=some p:=by
    rw [zcz hi'];rw [List.getElem?_eq_getElem hi'] at hpi;exact hpi
   simp only [zaR,zdu]
   rw [if_pos (by simp;omega),zqG (by omega) hidx hplen (by omega) hsp hs]
   unfold zcD
   have hd2:∀x,x∈zgu p (zcZ b)->x<=2:=fun x hx=>by
    obtain ⟨k,hk⟩:=List.getElem?_of_mem hx;have h1:=zhr hplen k
    have h2:=(hp.2 k).2
    have h3:=(znX (zcZ b) k).1
    rw [List.getD_eq_getElem?_getD (l:=zgu p (zcZ b)),hk] at h1;have h1:x=p.getD k 0-(zcZ b).getD k 0:=h1
    omega
   rw [zqF hd2 (by rw [zgX hplen];omega) (by omega),zaa];have hmore:((zgu p (zcZ b)).all (fun x=>decide (0<=x))&&decide (total (zgu p (zcZ b))<=2))=true↔More b (zgu p (zcZ b)):=by
    rw [Bool.and_eq_true,List.all_eq_true,decide_eq_true_eq]
    constructor
    ·rintro ⟨h1,h2⟩
     refine ⟨by rw [zgX hplen];omega,fun k=>?_,h2⟩;rw [List.getD_eq_getElem?_getD];cases hk:(zgu p (zcZ b))[k]? with
     | none=>simp
     | some x=>simpa using h1 x (List.mem_of_getElem? hk)
    ·rintro ⟨h1,h2,h3⟩
     exact ⟨fun x hx=>by simpa using zgW h2 x hx,h3⟩
   have step:∀v':List (List Int),v'.length<=i+1->(∀P,P∈v'↔P∈v\/(zgu p (zcZ b)=P/\More b P/\zpw b (sums (zcZ b) P)))->∃R,zcB (zaR n b (zcZ b) (za5 (two (zcZ b))) T m) (i:Int) v'=some R/\R.length<=1000/\∀P,P∈R↔∃j p,j<(za5 (two (zcZ b))).length/\(za5 (two (zcZ b)))[j]?=some p/\zgu p (zcZ b)=P/\More b P/\zpw b (sums (zcZ b) P):=fun v' hl hv'=>by
    unfold zcB
    rw [zaw (by omega) (by omega)];have:=ih (i+1) m v' (by omega) (by omega) (by omega) hl fun P=>by
     rw [hv' P,hvm P]
     constructor
     ·rintro (⟨j,q,h1,h2,h3⟩ | h)
      ·exact ⟨j,q,by omega,h2,h3⟩
      ·exact ⟨i,p,by omega,hpi,h⟩
     ·rintro ⟨j,q,h1,h2,h3⟩
      by_cases e:j=i
      ·subst e
       rw [hpi] at h2;obtain rfl:=Option.some.inj h2;exact .inr h3
      ·exact .inl ⟨j,q,by omega,h2,h3⟩
    rw [show (((i+1:Nat)):Int)=(i:Int)+1 by simp] at this;exact this
   have no:¬(More b (zgu p (zcZ b))/\zpw b (sums (zcZ b) (zgu p (zcZ b))))->∀P,P∈v↔P∈v\/(zgu p (zcZ b)=P/\More b P/\zpw b (sums (zcZ b) P)):=fun h P=>by
    refine ⟨.inl,?_⟩
    rintro (h1 | ⟨rfl,h1⟩)
    ·exact h1
    ·exact absurd h1 h
   by_cases hq:More b (zgu p (zcZ b))
   ·rw [if_pos (hmore.2 hq)];have hge:∀k,(zcZ b).getD k 0<=p.getD k 0:=fun k=>by
     have h1:=hq.nn k
     rw [zhr hplen] at h1
     omega
    have hex:exc p (zcZ b)<=2:=by
     rw [zss hplen hge];have h1:=zgt (a:=zcZ b) (b:=zgu p (zcZ b)) (by rw [zgX hplen];exact hplen.symm)
     rw [znW hplen] at h1;have:=hq.t
     omega
    obtain ⟨N',n1,n2⟩:=hT.can C hpi hex;have Cp:=N.cx hq
    rw [znW hplen] at Cp;have hNl:=zxv Cp n2
    rw [n1,zaa,zxx F (by omega) (by omega),zaa];have hany:(N'.any fun v=>inR v b.Plays (b.Plays+b.Skips))=true↔zpw b (sums (zcZ b) (zgu p (zcZ b))):=by
     rw [znW hplen,List.any_eq_true]
     constructor
     ·rintro ⟨v,hv1,hv2⟩
      exact ⟨v,(n2.2 v).1 hv1,zck.1 hv2⟩
     ·rintro ⟨v,hv1,hv2⟩
      exact ⟨v,(n2.2 v).2 hv1,zck.2 hv2⟩
    unfold zcC
    by_cases hE:(N'.any fun v=>inR v b.Plays (b.Plays+b.Skips))=true
    ·rw [if_pos hE,zf3 (by simp;omega),zaa];refine step _ (by simp;omega) fun P=>?_
     rw [List.mem_append,List.mem_singleton]
     constructor
     ·rintro (h | rfl)
      ·exact .inl h
      ·exact .inr ⟨rfl,hq,hany.1 hE⟩
     ·rintro (h | ⟨rfl,_⟩)
      ·exact .inl h
      ·exact .inr rfl
    ·rw [if_neg hE];exact step v (by omega) (no fun h=>hE (hany.2 h.2))
   ·rw [if_neg fun h=>hq (hmore.1 h)]
    unfold zcC
    rw [if_neg (by simp)];exact step v (by omega) (no fun h=>hq h.1)
 obtain ⟨R,r1,r2,r3⟩:=key (za5 (two (zcZ b))).length 0 n [] (by omega) (by omega) (by omega) (by simp) fun P=>by simp
 refine ⟨R,r1,r2,fun P=>?_⟩;rw [r3 P]
 constructor
 ·rintro ⟨j,p,_,_,_,h⟩
  exact h
 ·rintro ⟨h1,h2⟩
  have hl:P.length=(zcZ b).length:=by rw [h1.l,hpl]
  have hpart:Part (sums (zcZ b) P) (two (zcZ b)):=⟨by rw [zf9 hl,htl],fun k=>by
   rw [zga hl];have h3:=h1.small k
   have h4:=C0.nn k
   refine ⟨by omega,?_⟩;rcases Nat.lt_or_ge k (zcZ b).length with h5 | h5
   ·rw [zpB h5]
    omega
   ·rw [List.getD_eq_getElem?_getD,List.getD_eq_getElem?_getD,List.getD_eq_getElem?_getD,List.getElem?_eq_none h5,List.getElem?_eq_none (by omega),List.getElem?_eq_none (by omega)];simp⟩
  obtain ⟨g1,g2⟩:=zpA hpart;exact ⟨_,_,g2,g1,zva hl,h1,h2⟩
theorem zrA {b:Box} (N:Near b) {n:Nat} (hn:200000<=n):∃r,zfQ n b=some r/\zpx b r:=by
 have F:=N.ok.far
 have h4:=F.h.clen
 obtain ⟨R,r1,r2,r3⟩:=zqH N hn;have hw:=fun {P} (hP:More b P)=>zhl F.h (show 100<=n by omega) hP.l (zll hP)
 unfold zfQ
 rw [zv9 b n N.ok.len (by omega),ziA.2 N.ok,zaa,if_neg (by simp),r1,zaa];cases R with
 | nil =>
  rw [if_pos (by rfl)];exact ⟨_,rfl,.inr ⟨rfl,fun P hP hE=>by have:=(r3 P).2 ⟨hP,hE⟩;simp at this⟩⟩
 | cons x t =>
  rw [if_neg (by simp;omega),show idx (x::t) 0=some x from rfl,zaa];obtain ⟨m0,e0⟩:=(r3 x).1 (by simp);rw [hw m0,zaa];have key:=zti (F:=fun m i (s:Int)=>zcK n b (x::t) m s i) (xs:=x::t) (spec:=fun k s=>some ((k.map (zch b.Wheel)).foldl min s,0)) (I:=fun k s=>∀P,P∈k->More b P) (by omega)
   (fun m s hI=>by simp [zcK,zem,zfl])
   (fun m i y k s hI hx hi _ _ hrec=>by
    simp only [zcK,zem,List.map_cons,List.foldl_cons]
    rw [if_pos (by simpa using hi),hx,zaa,hw (hI y (by simp)),zaa];exact hrec _ fun P hP=>hI P (by simp [hP]))
   (x::t) 0 n (zch b.Wheel x) (by omega) rfl (by simp only [List.length_cons] at r2 ⊢;omega) fun P hP=>((r3 P).1 hP).1
  refine ⟨_,key,.inl ⟨rfl,?_⟩⟩;have fm:∀(l:List Int) (s:Int),(l.foldl min s=s\/l.foldl min s∈l)/\l.foldl min s<=s/\∀y,y∈l->l.foldl min s<=y:=by
   intro l
   induction l with
   | nil=>exact fun s=>⟨.inl rfl,Int.le_refl _,by simp⟩
   | cons y l ih =>
    intro s
    obtain ⟨h1,h2,h3⟩:=ih (min s y);simp only [List.foldl_cons,List.mem_cons]
    refine ⟨?_,by omega,fun z hz=>?_⟩
    ·rcases h1 with h1 | h1
     ·rw [h1]
      omega
     ·exact .inr (.inr h1)
    ·rcases hz with rfl | hz
     ·omega
     ·exact h3 z hz
  obtain ⟨f1,f2,f3⟩:=fm ((x::t).map (zch b.Wheel)) (zch b.Wheel x);refine ⟨?_,fun P hP hE=>f3 _ (List.mem_map.2 ⟨P,(r3 P).2 ⟨hP,hE⟩,rfl⟩)⟩;rcases f1 with f1 | f1
  ·exact ⟨x,m0,e0,f1.symm⟩
  ·obtain ⟨P,hP,e⟩:=List.mem_map.1 f1;obtain ⟨p1,p2⟩:=(r3 P).1 hP;exact ⟨P,p1,p2,e⟩
theorem zpC {b:Box} (N:Near b) {n:Nat} (hn:200000<=n):zfQ n b=some (mOf n b):=by
 obtain ⟨r,h1,h2⟩:=zrA N hn;rw [h1,h2.eq (zu4 N (show 100000<=n by omega)).2]
namespace Sh
set_option linter.unusedVariables false
set_option linter.unusedSimpArgs false
def okC (c:Clause):Bool:=inR c.Kind 1 5&&inR c.Cents 0 9999&&inR c.Part 0 100&&inR c.More 0 100
def okS (s:Share):Bool:=decide (s.Clauses.length<=5)&&s.Clauses.all okC&&inR s.Loan 0 9999
theorem within_eq (a b c:Int):zdR a b c=some (inR a b c):=by
 unfold zdR zd3 inR
 by_cases h:b<=a<;>simp [h]
theorem zoC (a:Int):zct a=some (inR a 0 9999):=by simp [zct,within_eq]
theorem Within_eq (a b c:Int):zcQ a b c=some (inR a b c):=by
 unfold zcQ zdx inR
 by_cases h:b<=a<;>simp [h]
theorem rwithin_eq (a b c:Int):zeA a b c=some (inR a b c):=by simp [zeA,Within_eq]
theorem zoD (a:Int):zfT a=some (inR a 0 9999):=by simp [zfT,rwithin_eq]
theorem zrB (c:Clause):zdB c=some (!okC c):=by
 unfold zdB zb8 okC
 simp only [within_eq,zoC,Option.bind_some]
 cases inR c.Kind 1 5<;>cases inR c.Cents 0 9999<;>cases inR c.Part 0 100<;>cases inR c.More 0 100<;>rfl
theorem zvb {n:Nat} (f:Clause->Option Bool) (bad:Clause->Bool) (xs:List Clause) (hf:∀x,f x=some (bad x)) (hl:xs.length<1048576) (hn:xs.length<n) :
  zbM n (fun x (_:Unit)=>(f x).map fun y=>(y,())) xs ()=some (xs.any bad,()):=by
 have key:∀(l:List Clause) (i m:Nat) (s:Unit),i<=xs.length->xs.drop i=l->l.length<m->(zaK xs (fun x (_:Unit)=>(f x).map fun y=>(y,())) m (i:Int) s).map (fun r=>decide (r.1≥0))=some (l.any bad):=by
  intro l i m s h1 h2 h3
  refine zvZ (fun m i s=>(zaK xs (fun x (_:Unit)=>(f x).map fun y=>(y,())) m i s).map (fun r=>decide (r.1≥0))) xs (fun l _=>some (l.any bad)) hl (fun m s=>?_) (fun m i x l s hx hi _ _ hrec=>?_) l i m s h1 h2 h3
  ·simp [zaK,zbx,zbL]
  ·simp only [zaK,zbx]
   rw [if_pos (by simpa using hi),hx,zaa];simp only [hf x,Option.map_some,zaa]
   by_cases hg:bad x=true
   ·rw [if_pos (by simpa using hg)];simp [hg]
   ·rw [if_neg (by simpa using hg)];have:=hrec ()
    rw [this];simp [hg]
 have h:=key xs 0 n () (by omega) rfl hn
 unfold zbM zc2
 change Option.map _ (zaK xs _ n 0 ())=_ at h;cases hx:zaK xs (fun x (_:Unit)=>(f x).map fun y=>(y,())) n 0 () with
 | none=>rw [hx] at h;cases h
 | some r =>
  rw [hx] at h;simp only [Option.map_some,Option.some.injEq] at h
  simp only [zaa]
  rw [h]
theorem Check_eq {n:Nat} (hn:6<=n) (s:Share):zgP n s=some (if okS s then 0 else 90):=by
 unfold zgP zdC okS
 by_cases h5:s.Clauses.length<=5
 ·rw [if_neg (by simp;omega)];rw [zvb zdB (fun c=>!okC c) s.Clauses zrB (by omega) (by omega)];simp only [Option.bind_some,zoC]
  have e:s.Clauses.any (fun c=>!okC c)=!s.Clauses.all okC:=by rw [List.not_all_eq_any_not]
  rw [e];cases s.Clauses.all okC<;>cases inR s.Loan 0 9999<;>simp [h5]
 ·rw [if_pos (by simp;omega)];simp [h5]
theorem zrC (s:Share) :
  ∀(l pre:List Clause) (m:Nat),s.Clauses=pre++l->s.Clauses.length<1048576->l.length<m->zbH s m (pre.length:Int)=some (if l.all okC then 0 else 90):=by
 intro l
 induction l with
 | nil =>
  intro pre m he hs hm
  obtain ⟨m,rfl⟩:∃k,m=k+1:=⟨m-1,by omega⟩;simp [zbH,zfp,zgF,he]
 | cons c l ih =>
  intro pre m he hs hm
  simp at hm
  have hl:s.Clauses.length=pre.length+l.length+1:=by simp [he];omega
  obtain ⟨m,rfl⟩:∃k,m=k+1:=⟨m-1,by omega⟩;have h1:=ih (pre++[c]) m (by simp [he]) hs (by omega)
  have h1:zbH s m ((pre.length:Int)+1)=some (if l.all okC then 0 else 90):=by simpa using h1
  simp only [zbH,zfp]
  rw [if_pos (by simp;omega),show idx s.Clauses (pre.length:Int)=some c by rw [he,zf2]];simp only [Option.bind_some,rwithin_eq,zoD,zdo,h1,okC,List.all_cons,zaw (show -9223372036854775808<=(pre.length:Int)+1 by omega) (show (pre.length:Int)+1<9223372036854775808 by omega)]
  rcases Bool.eq_false_or_eq_true (inR c.Kind 1 5) with q1 | q1<;>rcases Bool.eq_false_or_eq_true (inR c.Cents 0 9999) with q2 | q2 <;>
   rcases Bool.eq_false_or_eq_true (inR c.Part 0 100) with q3 | q3<;>rcases Bool.eq_false_or_eq_true (inR c.More 0 100) with q4 | q4<;>simp [q1,q2,q3,q4]
theorem rCheck_eq {n:Nat} (hn:6<=n) (s:Share):ziN n s=some (if okS s then 0 else 90):=by
 unfold ziN ze2 okS
 by_cases h5:s.Clauses.length<=5
 ·rw [if_neg (by simp;omega)];have h1:=zrC s s.Clauses [] n rfl (by omega) (by omega)
  have h1:zbH s n 0=some (if s.Clauses.all okC then 0 else 90):=h1
  simp only [zoD,Option.bind_some,h1]
  cases s.Clauses.all okC<;>cases inR s.Loan 0 9999<;>simp [h5]
 ·rw [if_pos (by simp;omega)];simp [h5]
def zj2 (c:Clause) (rest got owed:Int):Int :=
 if c.Kind=1 then min rest c.Cents
 else if c.Kind=2 then min (min rest c.Cents) owed
 else if c.Kind=3 then c.Part*rest / 500*5
 else if c.Kind=4 then (c.Part*min rest c.Cents+c.More*(rest-min rest c.Cents)) / 500*5
 else min rest (max 0 (c.Cents-got))
def zi1 (c:Clause) (w:Week_):Week_ :=
 let n:=zj2 c w.rest w.Split.Owner w.owed
 if c.Kind=1 then ⟨⟨w.Split.Operator+n,w.Split.Owner,w.Split.Repaid⟩,w.rest-n,w.owed⟩
 else if c.Kind=2 then ⟨⟨w.Split.Operator+n,w.Split.Owner,w.Split.Repaid+n⟩,w.rest-n,w.owed-n⟩
 else ⟨⟨w.Split.Operator,w.Split.Owner+n,w.Split.Repaid⟩,w.rest-n,w.owed⟩
def zn9:List Clause->Week_->Week_×List Int
 | [],w=>(w,[])
 | c::l,w=>((zn9 l (zi1 c w)).1,zj2 c w.rest w.Split.Owner w.owed::(zn9 l (zi1 c w)).2)
def zwm (w:Week_):Week_:=⟨⟨w.Split.Operator+w.rest,w.Split.Owner,w.Split.Repaid⟩,0,w.owed⟩
def zoE (owed t gift:Int):Week_:=⟨⟨0,min gift t,0⟩,t-min gift t,owed⟩
def setl (l:List Clause) (owed t gift:Int):Week_×List Int:=(zwm (zn9 l (zoE owed t gift)).1,(zn9 l (zoE owed t gift)).2)
structure WB (t loan:Int) (w:Week_):Prop where
 op:0<=w.Split.Operator
 ow:0<=w.Split.Owner
 rp:0<=w.Split.Repaid
 rest:0<=w.rest
 owed:0<=w.owed
 sum:w.Split.Operator+w.Split.Owner+w.rest=t
 rep:w.Split.Repaid<=w.Split.Operator
 loan:w.Split.Repaid+w.owed=loan
theorem zpD (c:Clause):okC c=true↔(1<=c.Kind/\c.Kind<=5)/\(0<=c.Cents/\c.Cents<=9999)/\(0<=c.Part/\c.Part<=100)/\(0<=c.More/\c.More<=100):=by
 simp [okC,zck,and_assoc]
theorem ziX {p x:Int} (h0:0<=p) (h1:p<=100) (hx:0<=x):0<=p*x/\p*x<=100*x :=
 ⟨Int.mul_nonneg h0 hx,Int.mul_le_mul_of_nonneg_right h1 hx⟩
theorem zpE {c:Clause} {rest got owed:Int} (hc:okC c=true) (hr:0<=rest) (ho:0<=owed):0<=zj2 c rest got owed/\zj2 c rest got owed<=rest/\(c.Kind=2->zj2 c rest got owed<=owed):=by
 obtain ⟨hk,hce,hp,hm⟩:=(zpD c).1 hc
 unfold zj2
 by_cases h1:c.Kind=1
 ·rw [if_pos h1];omega
 rw [if_neg h1]
 by_cases h2:c.Kind=2
 ·rw [if_pos h2];omega
 rw [if_neg h2]
 by_cases h3:c.Kind=3
 ·rw [if_pos h3];have:=ziX hp.1 hp.2 hr
  omega
 rw [if_neg h3]
 by_cases h4:c.Kind=4
 ·rw [if_pos h4];have:=ziX hp.1 hp.2 (show 0<=min rest c.Cents by omega)
  have:=ziX hm.1 hm.2 (show 0<=rest-min rest c.Cents by omega)
  omega
 rw [if_neg h4]
 omega
theorem zpF {t loan:Int} {c:Clause} {w:Week_} (hc:okC c=true) (hw:WB t loan w):WB t loan (zi1 c w):=by
 obtain ⟨h1,h2,h3,h4,h5,h6,h7,h8⟩:=hw;obtain ⟨g1,g2,g3⟩:=zpE (got:=w.Split.Owner) hc h4 h5
 unfold zi1
 dsimp only
 generalize zj2 c w.rest w.Split.Owner w.owed=n at g1 g2 g3
 by_cases k1:c.Kind=1
 ·rw [if_pos k1];constructor<;>dsimp only<;>omega
 rw [if_neg k1]
 by_cases k2:c.Kind=2
 ·rw [if_pos k2];have:=g3 k2;constructor<;>dsimp only<;>omega
 rw [if_neg k2]
 constructor<;>dsimp only<;>omega
theorem zvc {t loan:Int}:∀{l:List Clause} {w:Week_},(∀c∈l,okC c=true)->WB t loan w->WB t loan (zn9 l w).1
 | [],_,_,hw=>hw
 | c::l,w,hc,hw=>zvc (l:=l) (fun d hd=>hc d (List.mem_cons_of_mem _ hd)) (zpF (hc c (List.mem_cons_self ..)) hw)
theorem znY {owed t gift:Int} (ho:0<=owed) (ht:0<=t) (hg:0<=gift):WB t owed (zoE owed t gift):=by
 unfold zoE
 constructor<;>dsimp only<;>omega
theorem zxy {t loan:Int} {w:Week_} (hw:WB t loan w):WB t loan (zwm w):=by
 obtain ⟨h1,h2,h3,h4,h5,h6,h7,h8⟩:=hw
 unfold zwm
 constructor<;>dsimp only<;>omega
theorem setl_wb {l:List Clause} {owed t gift:Int} (hl:∀c∈l,okC c=true) (ho:0<=owed) (ht:0<=t) (hg:0<=gift):WB t owed (setl l owed t gift).1 :=
 zxy (zvc hl (znY ho ht hg))
theorem zvd {x:Int} (h0:0<=x) (h1:x<=999900):zhC x=some (x / 500*5):=by
 unfold zhC
 rw [zqa h0 (by omega) (by omega)];simp only [Option.bind_some]
 rw [zaw (by omega) (by omega)]
theorem zqI {t loan:Int} (ht:t<=9999) (hlo:loan<=9999) :
  ∀(l pre:List Clause) (m:Nat) (gave:List Int) (w:Week_),(∀c∈l,okC c=true)->WB t loan w->(pre++l).length<1000->l.length<m->gave.length=pre.length ->
   zcL (pre++l) m gave (pre.length:Int) w.Split.Operator w.Split.Owner w.Split.Repaid w.rest w.owed=some (zwm (zn9 l w).1,gave++(zn9 l w).2):=by
 intro l
 induction l with
 | nil =>
  intro pre m gave w hok hw hs hm hg
  obtain ⟨m,rfl⟩:∃k,m=k+1:=⟨m-1,by omega⟩;obtain ⟨h1,h2,h3,h4,h5,h6,h7,h8⟩:=hw;simp only [zcL,zen]
  rw [if_neg (by simp)];simp only [zfm,zbB,Option.bind_some,zn9,zwm,List.append_nil]
  rw [zaw (by omega) (by omega),Int.sub_self]
  rfl
 | cons c l ih =>
  intro pre m gave w hok hw hs hm hg
  simp at hm hs
  obtain ⟨m,rfl⟩:∃k,m=k+1:=⟨m-1,by omega⟩;have hc:=hok c (List.mem_cons_self ..)
  have hw':=zpF hc hw
  have h:=ih (pre++[c]) m (gave++[zj2 c w.rest w.Split.Owner w.owed]) (zi1 c w) (fun d hd=>hok d (List.mem_cons_of_mem _ hd)) hw' (by simp;omega) (by omega) (by simp [hg])
  obtain ⟨g1,g2,g3⟩:=zpE (got:=w.Split.Owner) hc hw.rest hw.owed;obtain ⟨hk,hce,hp,hmo⟩:=(zpD c).1 hc;obtain ⟨h1,h2,h3,h4,h5,h6,h7,h8⟩:=hw;simp only [List.append_assoc,List.singleton_append,List.length_append,List.length_singleton] at h
  simp only [zcL,zen]
  rw [if_pos (by simp;omega)];simp only [zf2,Option.bind_some]
  rw [zaw (by omega) (by omega)];have ha:∀x:Int,app gave [x]=some (gave++[x]):=fun x=>zf3 (by simp;omega)
  have hrun:(zn9 (c::l) w)=((zn9 l (zi1 c w)).1,zj2 c w.rest w.Split.Owner w.owed::(zn9 l (zi1 c w)).2):=rfl
  rw [hrun];have hr:w.rest<=9999:=by omega
  generalize hge:zj2 c w.rest w.Split.Owner w.owed=n at g1 g2 g3 h ⊢
  have hst:zi1 c w=if c.Kind=1 then ⟨⟨w.Split.Operator+n,w.Split.Owner,w.Split.Repaid⟩,w.rest-n,w.owed⟩
 else if c.Kind=2 then ⟨⟨w.Split.Operator+n,w.Split.Owner,w.Split.Repaid+n⟩,w.rest-n,w.owed-n⟩
 else ⟨⟨w.Split.Operator,w.Split.Owner+n,w.Split.Repaid⟩,w.rest-n,w.owed⟩:=by unfold zi1;rw [hge]
  have c1:((pre.length+1:Nat):Int)=(pre.length:Int)+1:=by omega
  rw [c1] at h;simp only at h ⊢
  rw [←h];rw [hst]
  unfold zj2 at hge
  by_cases k1:c.Kind=1
  ·rw [if_pos (by simp [k1]),if_pos k1];rw [if_pos k1] at hge;simp only [zhB,zbB,Option.bind_some,hge,ha]
   rw [zaw (by omega) (by omega),zaw (by omega) (by omega)]
  rw [if_neg (by simp [k1]),if_neg k1];rw [if_neg k1] at hge
  by_cases k2:c.Kind=2
  ·rw [if_pos (by simp [k2]),if_pos k2];rw [if_pos k2] at hge;have g3:=g3 k2
   simp only [zgn,zbB,Option.bind_some,hge,ha]
   rw [zaw (x:=w.Split.Operator+n) (by omega) (by omega),zaw (x:=w.rest-n) (by omega) (by omega),zaw (x:=w.Split.Repaid+n) (by omega) (by omega),zaw (x:=w.owed-n) (by omega) (by omega)]
  rw [if_neg (by simp [k2]),if_neg k2];rw [if_neg k2] at hge
  by_cases k3:c.Kind=3
  ·rw [if_pos (by simp [k3])];rw [if_pos k3] at hge;have:=ziX hp.1 hp.2 h4
   simp only [zhD,zbw]
   rw [zaw (by omega) (by omega),zvd (by omega) (by omega)];simp only [Option.bind_some,hge,ha]
   rw [zaw (by omega) (by omega),zaw (by omega) (by omega)]
  rw [if_neg (by simp [k3])];rw [if_neg k3] at hge
  by_cases k4:c.Kind=4
  ·rw [if_pos (by simp [k4])];rw [if_pos k4] at hge;have:=ziX hp.1 hp.2 (show 0<=min w.rest c.Cents by omega)
   have:=ziX hmo.1 hmo.2 (show 0<=w.rest-min w.rest c.Cents by omega)
   simp only [zhE,zbw]
   rw [zaw (x:=w.rest-min w.rest c.Cents) (by omega) (by omega),zaw (x:=c.Part*min w.rest c.Cents) (by omega) (by omega),zaw (x:=c.More*(w.rest-min w.rest c.Cents)) (by omega) (by omega),zaw (by omega) (by omega),zvd (by omega) (by omega)];simp only [Option.bind_some,hge,ha]
   rw [zaw (by omega) (by omega),zaw (by omega) (by omega)]
  rw [if_neg (by simp [k4])];rw [if_neg k4] at hge
  ·rw [if_pos (by simp;omega)];simp only [zhF,zbw]
   rw [zaw (x:=c.Cents-w.Split.Owner) (by omega) (by omega)];simp only [Option.bind_some,hge,ha]
   rw [zaw (by omega) (by omega),zaw (by omega) (by omega)]
theorem settle_eq {n:Nat} {l:List Clause} {owed t gift:Int} (hl:∀c∈l,okC c=true) (hs:l.length<1000) (hn:l.length<n) (ho:0<=owed/\owed<=9999) (ht:0<=t/\t<=9999) (hg:0<=gift) :
  zdQ n l owed t gift=some (setl l owed t gift):=by
 have h:=zqI (t:=t) (loan:=owed) ht.2 ho.2 l [] n [] (zoE owed t gift) hl (znY ho.1 ht.1 hg) (by simpa using hs) hn rfl
 unfold zdQ zbw
 simp only [Option.bind_some]
 rw [Int.zero_add,zaw (by omega) (by omega),zaw (by omega) (by omega)];exact h
theorem owners_eq {n:Nat} {l:List Clause} {owed t:Int} (hl:∀c∈l,okC c=true) (hs:l.length<1000) (hn:l.length<n) (ho:0<=owed/\owed<=9999) (ht:0<=t/\t<=9999) :
  zfR n l owed t=some (setl l owed t 0).1.Split.Owner:=by
 unfold zfR
 rw [settle_eq hl hs hn ho ht (by omega)]
 rfl
theorem zwn {c:Clause} {rest got owed:Int} (hc:okC c=true) (hr:0<=rest/\rest<=9999) (hg:0<=got/\got<=9999):ziO c rest got owed=some (zj2 c rest got owed):=by
 obtain ⟨hk,hce,hp,hm⟩:=(zpD c).1 hc
 unfold ziO zj2
 by_cases k1:c.Kind=1
 ·simp [k1]
 rw [if_neg (by simp [k1]),if_neg k1]
 by_cases k2:c.Kind=2
 ·simp [k2]
 rw [if_neg (by simp [k2]),if_neg k2]
 by_cases k3:c.Kind=3
 ·rw [if_pos (by simp [k3]),if_pos k3];have:=ziX hp.1 hp.2 hr.1
  rw [zaw (by omega) (by omega),zqa (by omega) (by omega) (by omega)];simp only [Option.bind_some]
  rw [zaw (by omega) (by omega)]
 rw [if_neg (by simp [k3]),if_neg k3]
 by_cases k4:c.Kind=4
 ·rw [if_pos (by simp [k4]),if_pos k4];have:=ziX hp.1 hp.2 (show 0<=min rest c.Cents by omega)
  have:=ziX hm.1 hm.2 (show 0<=rest-min rest c.Cents by omega)
  rw [zaw (x:=rest-min rest c.Cents) (by omega) (by omega),zaw (x:=c.Part*min rest c.Cents) (by omega) (by omega),zaw (x:=c.More*(rest-min rest c.Cents)) (by omega) (by omega),zaw (by omega) (by omega),zqa (by omega) (by omega) (by omega)];simp only [Option.bind_some]
  rw [zaw (by omega) (by omega)]
 rw [if_neg (by simp [k4]),if_neg k4,zaw (by omega) (by omega)]
theorem ztt {t:Int} (s:Share) (ht:t<=9999) (hlo:s.Loan<=9999) :
  ∀(l pre:List Clause) (m:Nat) (gave:List Int) (w:Week_),s.Clauses=pre++l->(∀c∈l,okC c=true)->WB t s.Loan w->s.Clauses.length<1000->l.length<m->gave.length=pre.length ->
   zb9 s t m w.rest gave (pre.length:Int) w.Split.Owner w.Split.Repaid=some (gave++(zn9 l w).2,(zwm (zn9 l w).1).Split):=by
 intro l
 induction l with
 | nil =>
  intro pre m gave w he hok hw hs hm hg
  obtain ⟨m,rfl⟩:∃k,m=k+1:=⟨m-1,by omega⟩;obtain ⟨h1,h2,h3,h4,h5,h6,h7,h8⟩:=hw;simp only [zb9,zfW]
  rw [if_neg (by simp [he])];simp only [zhg,zn9,zwm,List.append_nil]
  rw [zaw (by omega) (by omega)];simp;omega
 | cons c l ih =>
  intro pre m gave w he hok hw hs hm hg
  simp at hm
  have hlen:s.Clauses.length=pre.length+(l.length+1):=by simp [he]
  obtain ⟨m,rfl⟩:∃k,m=k+1:=⟨m-1,by omega⟩;have hc:=hok c (List.mem_cons_self ..)
  have hw':=zpF hc hw
  have h:=ih (pre++[c]) m (gave++[zj2 c w.rest w.Split.Owner w.owed]) (zi1 c w) (by simp [he]) (fun d hd=>hok d (List.mem_cons_of_mem _ hd)) hw' hs (by omega) (by simp [hg])
  obtain ⟨g1,g2,g3⟩:=zpE (got:=w.Split.Owner) hc hw.rest hw.owed;obtain ⟨hk,hce,hp,hmo⟩:=(zpD c).1 hc;obtain ⟨h1,h2,h3,h4,h5,h6,h7,h8⟩:=hw;have hrun:(zn9 (c::l) w)=((zn9 l (zi1 c w)).1,zj2 c w.rest w.Split.Owner w.owed::(zn9 l (zi1 c w)).2):=rfl
  rw [hrun];have ha:∀x:Int,app gave [x]=some (gave++[x]):=fun x=>zf3 (by simp;omega)
  simp only [zb9,zfW]
  rw [if_pos (by simp;omega),show idx s.Clauses (pre.length:Int)=some c by rw [he,zf2],zaw (x:=s.Loan-w.Split.Repaid) (by omega) (by omega),show s.Loan-w.Split.Repaid=w.owed by omega];simp only [Option.bind_some]
  rw [zwn hc (by omega) (by omega)];simp only [Option.bind_some,ha,zic,zfV,zfU]
  have c1:(((pre++[c]).length:Nat):Int)=(pre.length:Int)+1:=by simp
  rw [c1] at h
  generalize hge:zj2 c w.rest w.Split.Owner w.owed=n at g1 g2 g3 h ⊢
  have hst:zi1 c w=if c.Kind=1 then ⟨⟨w.Split.Operator+n,w.Split.Owner,w.Split.Repaid⟩,w.rest-n,w.owed⟩
 else if c.Kind=2 then ⟨⟨w.Split.Operator+n,w.Split.Owner,w.Split.Repaid+n⟩,w.rest-n,w.owed-n⟩
 else ⟨⟨w.Split.Operator,w.Split.Owner+n,w.Split.Repaid⟩,w.rest-n,w.owed⟩:=by unfold zi1;rw [hge]
  have hres:(gave++n::(zn9 l (zi1 c w)).2,(zwm (zn9 l (zi1 c w)).1).Split)=(gave++[n]++(zn9 l (zi1 c w)).2,(zwm (zn9 l (zi1 c w)).1).Split):=by simp
  rw [hres,←h,hst];rw [zaw (x:=w.rest-n) (by omega) (by omega),zaw (x:=(pre.length:Int)+1) (by omega) (by omega)]
  by_cases k1:c.Kind=1
  ·rw [if_neg (by simp [k1]),if_neg (by simp [k1]),if_pos k1]
  rw [if_neg k1]
  by_cases k2:c.Kind=2
  ·have:=g3 k2
   rw [if_neg (by simp [k2]),if_pos (by simp [k2]),if_pos k2,zaw (by omega) (by omega)]
  rw [if_neg k2,if_pos (by simp;omega),if_neg (by simp [k2]),zaw (by omega) (by omega)]
theorem Gone_eq {n:Nat} {s:Share} {t gift:Int} (hl:∀c∈s.Clauses,okC c=true) (hs:s.Clauses.length<1000) (hn:s.Clauses.length<n) (ho:0<=s.Loan/\s.Loan<=9999) (ht:0<=t/\t<=9999) (hg:0<=gift) :
  zil n s t gift=some ((setl s.Clauses s.Loan t gift).2,(setl s.Clauses s.Loan t gift).1.Split):=by
 have h:=ztt (t:=t) s ht.2 ho.2 s.Clauses [] n [] (zoE s.Loan t gift) rfl hl (znY ho.1 ht.1 hg) hs hn rfl
 unfold zil
 rw [zaw (by omega) (by omega)];exact h
theorem same_refl {n:Nat} (s:Share) (hs:s.Clauses.length<1048576) (hn:s.Clauses.length<n):zim n s s=some true:=by
 have key:∀(k pre:List Clause) (m:Nat),s.Clauses=pre++k->k.length<m->zdT s s m (pre.length:Int)=some true:=by
  intro k
  induction k with
  | nil =>
   intro pre m he hm
   obtain ⟨m,rfl⟩:∃k,m=k+1:=⟨m-1,by omega⟩;simp [zdT,zfX,zhh,he]
  | cons x k ih =>
   intro pre m he hm
   simp at hm
   have hl:s.Clauses.length=pre.length+(k.length+1):=by simp [he]
   obtain ⟨m,rfl⟩:∃k,m=k+1:=⟨m-1,by omega⟩;have h:=ih (pre++[x]) m (by simp [he]) (by omega)
   simp only [zdT,zfX]
   rw [if_pos (by simp;omega),show idx s.Clauses (pre.length:Int)=some x by rw [he,zf2],zaw (by omega) (by omega)]
   simpa using h
 unfold zim zfY
 simp only [bne_self_eq_false,Bool.false_eq_true,if_false]
 exact key s.Clauses [] n rfl hn
theorem Copy_eq (s:Share) (hs:s.Clauses.length<1048576):zjO s=some s:=by
 unfold zjO
 rw [zf3 (by simp;omega)];simp
theorem far_eq (s:Share):zm9 s=some (decide ((s.Clauses.length:Int)>40)):=rfl
theorem okS_iff (s:Share):okS s=true↔s.Clauses.length<=5/\(∀c∈s.Clauses,okC c=true)/\(0<=s.Loan/\s.Loan<=9999):=by
 simp [okS,zck,and_assoc]
set_option linter.unusedVariables false
set_option linter.unusedSimpArgs false
theorem works09:zhH 1000000=some true:=by decide +kernel
end Sh
theorem zrD {w:Wheel} (h:OkW w) {l:List Int} (hl:∀k,0<=l.getD k 0/\l.getD k 0<=12):∀(d k:Nat),k+d<=w.Coins.length->zpp w l d k<=1200*d
 | 0,k,_=>by simp [zpp]
 | d+1,k,hk=>by
  have ih:=zrD h hl d (k+1) (by omega)
  have hco:=zd8 h (a:=(k:Int)) (by omega) (by omega)
  have hx:=hl k
  have h1:coin w k*l.getD k 0<=100*l.getD k 0:=Int.mul_le_mul_of_nonneg_right hco.2 hx.1
  simp only [zpp]
  omega
theorem zoF {b:Box} (N:Near b):0<=(zkw b).1/\(zkw b).1<=3600:=by
 have F:=N.ok.far
 have h3:=N.k3
 have h1:=zrD F.h F.f b.Wheel.Coins.length 0 (by omega)
 have h2:=zqt F.h (l:=b.Marked) (l':=b.Found) b.Wheel.Coins.length 0 (by omega) fun j=>by
  rcases Nat.lt_or_ge j b.Found.length with h | h
  ·exact (N.ok.mkd j h).2
  ·rw [List.getD_eq_getElem?_getD,List.getD_eq_getElem?_getD,List.getElem?_eq_none h,List.getElem?_eq_none (by rw [N.ok.ml];exact h)];exact Int.le_refl _
 have h4:=ziW F.h (show zgd b.Marked from fun k=>by have:=F.m k;omega)
 show 0<=zch b.Wheel b.Found-zch b.Wheel b.Marked/\zch b.Wheel b.Found-zch b.Wheel b.Marked<=3600
 have h5:zch b.Wheel b.Found<=1200*b.Wheel.Coins.length:=h1
 have h6:zch b.Wheel b.Marked<=zch b.Wheel b.Found:=h2
 omega
theorem zoG {b:Box} (N:Near b) {r:Int×Int} (h:zpx b r):0<=r.1/\r.1<=3600:=by
 have h3:=N.k3
 rcases h with ⟨_,⟨P,h1,_,he⟩,_⟩ | ⟨rfl,_⟩
 ·rw [←he];have h2:=(ziW N.ok.far.h (zll h1)).1
  have h4:zch b.Wheel P<=1200*b.Wheel.Coins.length:=zrD N.ok.far.h (fun k=>by have:=h1.small k;omega) b.Wheel.Coins.length 0 (by omega)
  omega
 ·simp
theorem zxz {b:Box} (N:Near b) {s:Share} (hs:Sh.okS s=true):zfA 1000000 s b=some ((Sh.setl s.Clauses s.Loan (zkw b).1 0).1.Split,(if (mOf 1000000 b).2=0 then (Sh.setl s.Clauses s.Loan ((zkw b).1+(mOf 1000000 b).1) 0).1.Split.Owner-(Sh.setl s.Clauses s.Loan (zkw b).1 0).1.Split.Owner else 0),0):=by
 obtain ⟨s1,s2,s3⟩:=(Sh.okS_iff s).1 hs;have hc:=zoF N
 obtain ⟨g,hm⟩:=zu4 N (n:=1000000) (by omega);have hr:=zoG N hm
 unfold zfA
 rw [Sh.Check_eq (by omega),if_pos hs,zaa,if_neg (by simp),zxw N.ok (by omega),zaa,if_neg (by simp [zkw]),Sh.settle_eq s2 (by omega) (by omega) s3 ⟨by omega,by omega⟩ (by omega),zaa,g,zaa]
 unfold zfS
 by_cases e:(mOf 1000000 b).2=0
 ·rw [if_pos (by simpa using e),if_pos e,zaw (x:=(zkw b).1+_) (by omega) (by omega),Sh.owners_eq s2 (by omega) (by omega) s3 ⟨by omega,by omega⟩,zaa];have b1:=Sh.setl_wb s2 s3.1 (show 0<=(zkw b).1 by omega) (Int.le_refl 0)
  have b2:=Sh.setl_wb s2 s3.1 (show 0<=(zkw b).1+(mOf 1000000 b).1 by omega) (Int.le_refl 0)
  have c1:=b1.op
  have c2:=b1.ow
  have c3:=b1.rest
  have c4:=b1.sum
  have d1:=b2.op
  have d2:=b2.ow
  have d3:=b2.rest
  have d4:=b2.sum
  rw [zaw (by omega) (by omega)]
 ·rw [if_neg (by simpa using e),if_neg e]
theorem zpG (s:Share) (b:Box):zhJ 1000000 s b=some true:=by
 have hj:zca 1000000 s b true=some true:=by
  unfold zca
  rw [if_pos rfl,Sh.works09]
  rfl
 unfold zhJ
 rw [Sh.far_eq,zaa]
 by_cases h0:(s.Clauses.length:Int)>40
 ·rw [if_pos (by simpa using h0),hj]
 rw [if_neg (by simpa using h0)];rcases zzd b (n:=1000000) (by omega) with hf | ⟨hf,hL,hN⟩
 ·rw [hf,zaa,hj]
 rw [hf,zaa]
 unfold zca
 rw [if_neg (by simp),Sh.Copy_eq s (by omega),zaa,zwd hL,zaa];have hsame:=Sh.same_refl (n:=1000000) s (by omega) (by omega)
 have main:∀r,zfA 1000000 s b=some r->zhI 1000000 s b=some r->(Option.bind (zfA 1000000 s b) fun r6=>Option.bind (zhI 1000000 s b) fun r7 =>
  if ((r6.1.Operator==r7.1.Operator)&&((r6.1.Owner==r7.1.Owner)&&((r6.1.Repaid==r7.1.Repaid)&&true)))=true then
   if (r6.2.1==r7.2.1)=true then
    if (r6.2.2==r7.2.2)=true then
     Option.bind (zim 1000000 s s) fun r12 =>
     if r12=true then
      Option.bind (zhH 1000000) fun r14 =>
      za7 r14
     else
      za7 false
    else
     za7 false
   else
    za7 false
  else
   za7 false)=some true:=fun r h1 h2=>by
  rw [h1,zaa,h2,zaa,if_pos (by simp),if_pos (by simp),if_pos (by simp),hsame,zaa,if_pos rfl,Sh.works09]
  rfl
 by_cases hs:Sh.okS s=true
 ·by_cases hb:BoxOk b
  ·have N:=hN hb
   obtain ⟨s1,s2,s3⟩:=(Sh.okS_iff s).1 hs;have hc:=zoF N
   obtain ⟨g,hm⟩:=zu4 N (n:=1000000) (by omega);have hr:=zoG N hm
   refine main _ (zxz N hs) ?_;have b1:=Sh.setl_wb s2 s3.1 (show 0<=(zkw b).1 by omega) (Int.le_refl 0)
   have b2:=Sh.setl_wb s2 s3.1 (show 0<=(zkw b).1+(mOf 1000000 b).1 by omega) (Int.le_refl 0)
   have c1:=b1.op
   have c2:=b1.ow
   have c3:=b1.rest
   have c4:=b1.sum
   have d1:=b2.op
   have d2:=b2.ow
   have d3:=b2.rest
   have d4:=b2.sum
   unfold zhI
   rw [Sh.rCheck_eq (by omega),if_pos hs,zaa,if_neg (by simp),zwc hb (by omega),zaa,if_neg (by simp [zkw]),Sh.Gone_eq s2 (by omega) (by omega) s3 ⟨by omega,by omega⟩ (by omega),zaa,zpC N (by omega),zaa]
   by_cases e:(mOf 1000000 b).2=0
   ·rw [if_neg (by simp [e]),zaw (x:=(zkw b).1+_) (by omega) (by omega),Sh.Gone_eq s2 (by omega) (by omega) s3 ⟨by omega,by omega⟩ (by omega),zaa,zaw (by simp only;omega) (by simp only;omega),if_pos e]
   ·rw [if_pos (by simpa using e),if_neg e]
  ·have ho:=zxu hb hL (n:=1000000) (by omega)
   have e2:zfz 1000000 b=some (0,0,0,50):=by unfold zfz;rw [ho];rfl
   have e5:zho 1000000 b=some (0,0,0,50):=by unfold zho;rw [zv9 b _ hL (by omega),zjB hb];rfl
   refine main (⟨0,0,0⟩,0,50) ?_ ?_
   ·unfold zfA
    rw [Sh.Check_eq (by omega),if_pos hs,zaa,if_neg (by simp),e2]
    rfl
   ·unfold zhI
    rw [Sh.rCheck_eq (by omega),if_pos hs,zaa,if_neg (by simp),e5]
    rfl
 ·refine main (⟨0,0,0⟩,0,90) ?_ ?_
  ·unfold zfA
   rw [Sh.Check_eq (by omega),if_neg hs]
   rfl
  ·unfold zhI
   rw [Sh.rCheck_eq (by omega),if_neg hs]
   rfl
end Go.Law
