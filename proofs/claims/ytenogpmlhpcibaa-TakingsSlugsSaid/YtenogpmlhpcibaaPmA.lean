/-
  Plain laws.
  Conditions: none.
-/
import Derived.Test.YtenogpmlhpcibaaMd
import Derived.Test.YtenogpmlhpcibaaPlA
import Derived.Test.YtenogpmlhpcibaaEn
set_option linter.all false
namespace Go.Law
open Go Go.AM
theorem zrm {α S R:Type} (F:Nat->Int->S->Option R) (xs:List α) (spec:List α->S->Option R) (hl:xs.length<1048576) (h0:∀m s,F (m+1) (xs.length:Int) s=spec [] s)
  (hs:∀m (i:Nat) x l s,idx xs (i:Int)=some x->(i:Int)<(xs.length:Int)->i<1048576->xs.drop (i+1)=l->(∀s',F m (w64 ((i:Int)+1)) s'=spec l s')->F (m+1) (i:Int) s=spec (x::l) s) :
  ∀(l:List α) (i m:Nat) (s:S),i<=xs.length->xs.drop i=l->l.length<m->F m (i:Int) s=spec l s:=by
 intro l
 induction l with
 | nil =>
  intro i m s hi hd hm
  obtain ⟨m,rfl⟩:∃k,m=k+1:=⟨m-1,by omega⟩
  have:i=xs.length:=by have:=List.drop_eq_nil_iff.1 hd;omega
  subst this
  exact h0 m s
 | cons x l ih =>
  intro i m s hi hd hm
  obtain ⟨m,rfl⟩:∃k,m=k+1:=⟨m-1,by omega⟩
  simp only [List.length_cons] at hm
  have hlt:i<xs.length:=by
   rcases Nat.lt_or_ge i xs.length with h | h
   ·exact h
   ·rw [List.drop_eq_nil_of_le h] at hd;cases hd
  rw [List.drop_eq_getElem_cons hlt] at hd
  injection hd with h1 h2
  refine hs m i x l s (by rw [zcs hlt,h1]) (by omega) (by omega) h2 fun s'=>?_
  rw [zaS (by omega) (by omega)]
  exact ih (i+1) m s' (by omega) h2 (by omega)
theorem zwh {α S R:Type} {F:Nat->Int->S->Option R} {xs:List α} {spec:List α->S->Option R} (hl:xs.length<1048576) {n:Nat} (hn:xs.length<n) (s:S) (h0:∀m s,F (m+1) (xs.length:Int) s=spec [] s)
  (hs:∀m (i:Nat) x l s,idx xs (i:Int)=some x->(i:Int)<(xs.length:Int)->i<1048576->xs.drop (i+1)=l->(∀s',F m (w64 ((i:Int)+1)) s'=spec l s')->F (m+1) (i:Int) s=spec (x::l) s) :
  F n 0 s=spec xs s:=zrm F xs spec hl h0 hs xs 0 n s (by omega) rfl hn
theorem zrn {α S R:Type} (F:Nat->Int->S->Option R) (xs:List α) (spec:List α->S->Option R) (I:List α->S->Prop) (hl:xs.length<1048576) (h0:∀m s,I [] s->F (m+1) (xs.length:Int) s=spec [] s)
  (hs:∀m (i:Nat) x l s,I (x::l) s->idx xs (i:Int)=some x->(i:Int)<(xs.length:Int)->i<1048576->xs.drop (i+1)=l->(∀s',I l s'->F m (w64 ((i:Int)+1)) s'=spec l s')->F (m+1) (i:Int) s=spec (x::l) s) :
  ∀(l:List α) (i m:Nat) (s:S),i<=xs.length->xs.drop i=l->l.length<m->I l s->F m (i:Int) s=spec l s:=by
 intro l
 induction l with
 | nil =>
  intro i m s hi hd hm hI
  obtain ⟨m,rfl⟩:∃k,m=k+1:=⟨m-1,by omega⟩
  have:i=xs.length:=by have:=List.drop_eq_nil_iff.1 hd;omega
  subst this
  exact h0 m s hI
 | cons x l ih =>
  intro i m s hi hd hm hI
  obtain ⟨m,rfl⟩:∃k,m=k+1:=⟨m-1,by omega⟩
  simp only [List.length_cons] at hm
  have hlt:i<xs.length:=by
   rcases Nat.lt_or_ge i xs.length with h | h
   ·exact h
   ·rw [List.drop_eq_nil_of_le h] at hd;cases hd
  rw [List.drop_eq_getElem_cons hlt] at hd
  injection hd with h1 h2
  refine hs m i x l s hI (by rw [zcs hlt,h1]) (by omega) (by omega) h2 fun s' hI'=>?_
  rw [zaS (by omega) (by omega)]
  exact ih (i+1) m s' (by omega) h2 (by omega) hI'
theorem zab {α β:Type} (a:α) (f:α->Option β):Option.bind (some a) f=f a:=rfl
theorem zgA (a b c:Int):zcw a b c=some (inR a b c):=by
 unfold zcw zc2 inR
 by_cases h:b<=a<;>simp [h]
theorem zhV (a b c:Int):zc1 a b c=some (inR a b c):=by
 unfold zc1 zc0 inR
 by_cases h:b<=a<;>simp [h]
def zlm (lo hi:Int):Option Int->List Int->Bool
 | _,[]=>true
 | prev,x::l=>inR x lo hi&&(match prev with | none=>true | some y=>decide (y<x))&&zlm lo hi (some x) l
theorem zhi (pre:List Int):pre=[]\/∃q y,pre=q++[y]:=by
 rcases List.eq_nil_or_concat pre with h | ⟨q,y,h⟩
 ·exact .inl h
 ·exact .inr ⟨q,y,by simpa using h⟩
theorem znH (q:List Int) (y:Int) (l:List Int) (h:(q++[y]++l).length<1048576):idx (q++[y]++l) (w64 (((q++[y]).length:Int)-1))=some y:=by
 simp at h
 rw [zaS (by simp<;>omega) (by simp<;>omega),show (((q++[y]).length:Int)-1)=(q.length:Int) by simp,show q++[y]++l=q++y::l by simp,zmK]
theorem zro (lo hi:Int):∀(l pre:List Int) (m:Nat),(pre++l).length<1048576->l.length<m ->
  zbu (pre++l) lo hi m (pre.length:Int)=some (zlm lo hi pre.getLast? l):=by
 intro l
 induction l with
 | nil =>
  intro pre m hs hm
  obtain ⟨m,rfl⟩:∃k,m=k+1:=⟨m-1,by omega⟩
  simp [zbu,zdd,zdT,zlm]
 | cons x l ih =>
  intro pre m hs hm
  obtain ⟨m,rfl⟩:∃k,m=k+1:=⟨m-1,by omega⟩
  have h:=ih (pre++[x]) m (by simpa using hs) (by simp at hm;omega)
  rw [show (((pre++[x]).length:Nat):Int)=(pre.length:Int)+1 by simp,List.getLast?_concat,show pre++[x]++l=pre++x::l by simp] at h
  simp at hs hm
  simp only [zbu,zdd]
  rw [if_pos (by simp<;>omega),zmK]
  simp only [Option.bind_some,zhV,zlm]
  by_cases hr:inR x lo hi=true
  ·rw [if_neg (by simp [hr])]
   rcases zhi pre with rfl | ⟨q,y,rfl⟩
   ·rw [if_neg (by simp)]
    simp only [zbL]
    rw [if_neg (by simp),zaS (by simp) (by simp),h]
    simp [hr]
   ·rw [if_pos (by simp<;>omega),znH q y (x::l) (by simp at hs ⊢;omega)]
    simp only [Option.bind_some,zbL,List.getLast?_concat]
    by_cases hb:x<=y
    ·rw [if_pos (by simpa using hb)]
     simp [hr,show ¬y<x by omega]
    ·rw [if_neg (by simpa using hb),zaS (by omega) (by omega),h]
     simp [hr,show y<x by omega]
  ·have hr':inR x lo hi=false:=by simpa using hr
   rw [if_pos (by simp [hr'])]
   simp [zbL,hr']
theorem zlV {n:Nat} (l:List Int) (lo hi:Int) (hs:l.length<1048576) (hn:l.length<n):zfk n l lo hi=some (zlm lo hi none l):=zro lo hi l [] n (by simpa using hs) hn
theorem zrp (many most:Int):∀(l pre:List Int) (m:Nat),(pre++l).length<1048576->l.length<m ->
  zbv (pre++l) many most m (pre.length:Int)=some (zlm 1 most pre.getLast? l&&decide (((pre++l).length:Int)<=many)):=by
 intro l
 induction l with
 | nil =>
  intro pre m hs hm
  obtain ⟨m,rfl⟩:∃k,m=k+1:=⟨m-1,by omega⟩
  simp [zbv,zdf,zdU,zlm]
 | cons x l ih =>
  intro pre m hs hm
  obtain ⟨m,rfl⟩:∃k,m=k+1:=⟨m-1,by omega⟩
  have h:=ih (pre++[x]) m (by simpa using hs) (by simp at hm;omega)
  rw [show (((pre++[x]).length:Nat):Int)=(pre.length:Int)+1 by simp,List.getLast?_concat,show pre++[x]++l=pre++x::l by simp] at h
  simp at hs hm
  simp only [zbv,zdf]
  rw [if_pos (by simp<;>omega),zmK]
  simp only [Option.bind_some,zgA,zlm]
  by_cases hr:inR x 1 most=true
  ·rw [if_neg (by simp [hr])]
   rcases zhi pre with rfl | ⟨q,y,rfl⟩
   ·rw [if_neg (by simp)]
    simp only [zbM]
    rw [if_neg (by simp),zaS (by simp) (by simp),h]
    simp [hr]
   ·rw [if_pos (by simp<;>omega),znH q y (x::l) (by simp at hs ⊢;omega)]
    simp only [Option.bind_some,zbM,List.getLast?_concat]
    by_cases hb:x<=y
    ·rw [if_pos (by simpa using hb)]
     simp [hr,show ¬y<x by omega]
    ·rw [if_neg (by simpa using hb),zaS (by omega) (by omega),h]
     simp [hr,show y<x by omega]
  ·have hr':inR x 1 most=false:=by simpa using hr
   rw [if_pos (by simp [hr'])]
   simp [zbM,hr']
theorem zlW {n:Nat} (l:List Int) (many most:Int) (hs:l.length<1048576) (hn:l.length<n):zfl n l many most=some (zlm 1 most none l&&decide ((l.length:Int)<=many)):=zrp many most l [] n (by simpa using hs) hn
def valid (w:Wheel):Bool:=inR w.Round 1 200&&(zlm 1 w.Round none w.Notches&&decide ((w.Notches.length:Int)<=12))&&(zlm 1 100 none w.Coins&&decide ((w.Coins.length:Int)<=4))
def zlX (n:Nat) (w:Wheel):Prop:=w.Notches.length<1048576/\w.Coins.length<1048576/\w.Notches.length<n/\w.Coins.length<n
theorem znI {n:Nat} {w:Wheel} (h:zlX n w):ze6 n w=some (cond (valid w) 0 10):=by
 obtain ⟨h1,h2,h3,h4⟩:=h
 unfold ze6 zcK valid
 rw [zgA,zab,zlW _ _ _ h1 h3,zlW _ _ _ h2 h4,zab,zab]
 cases inR w.Round 1 200<;>cases (zlm 1 w.Round none w.Notches&&decide ((w.Notches.length:Int)<=12))<;>cases (zlm 1 100 none w.Coins&&decide ((w.Coins.length:Int)<=4))<;>rfl
theorem zqc {n:Nat} {w:Wheel} (h:zlX n w):zfV n w=some (cond (valid w) 0 10):=by
 obtain ⟨h1,h2,h3,h4⟩:=h
 unfold zfV zb1 valid
 rw [zhV,zab,zlV _ _ _ h1 h3,zlV _ _ _ h2 h4,zab,zab]
 by_cases q1:(w.Notches.length:Int)<=12
 ·have e1:decide ((w.Notches.length:Int)>12)=false:=by simpa using q1
  rw [e1]
  by_cases q2:(w.Coins.length:Int)<=4
  ·have e2:decide ((w.Coins.length:Int)>4)=false:=by simpa using q2
   rw [e2]
   simp only [q1,q2,decide_true,Bool.and_true]
   cases inR w.Round 1 200<;>cases zlm 1 w.Round none w.Notches<;>cases zlm 1 100 none w.Coins<;>rfl
  ·have e2:decide ((w.Coins.length:Int)>4)=true:=by simp;omega
   rw [e2]
   simp only [q2,decide_false,Bool.and_false]
   cases inR w.Round 1 200<;>cases zlm 1 w.Round none w.Notches<;>rfl
 ·have e1:decide ((w.Notches.length:Int)>12)=true:=by simp;omega
  rw [e1]
  simp only [q1,decide_false,Bool.and_false,Bool.false_and]
  cases inR w.Round 1 200<;>rfl
theorem zlb {lo hi:Int}:∀{l:List Int} {p:Option Int},zlm lo hi p l=true->(∀x,x∈l->lo<=x/\x<=hi/\∀y,p=some y->y<x)/\l.Pairwise (·<·)
 | [],_,_=>⟨fun x h=>by simp at h,.nil⟩
 | x::l,p,h=>by
  simp only [zlm,Bool.and_eq_true] at h
  obtain ⟨⟨h1,h2⟩,h3⟩:=h
  obtain ⟨ih1,ih2⟩:=zlb h3
  have h1':=zbX.1 h1
  have hp:∀y,p=some y->y<x:=fun y e=>by subst e;simpa using h2
  refine ⟨fun z hz=>?_,List.pairwise_cons.2 ⟨fun z hz=>(ih1 z hz).2.2 x rfl,ih2⟩⟩
  rcases List.mem_cons.1 hz with rfl | hz
  ·exact ⟨h1'.1,h1'.2,hp⟩
  ·have:=ih1 z hz
   exact ⟨this.1,this.2.1,fun y e=>Int.lt_trans (hp y e) (this.2.2 x rfl)⟩
structure OkW (w:Wheel):Prop where
 r1:1<=w.Round
 r2:w.Round<=200
 nlen:w.Notches.length<=12
 clen:w.Coins.length<=4
 nm:∀x,x∈w.Notches->1<=x/\x<=w.Round
 nd:w.Notches.Pairwise (·<·)
 cm:∀x,x∈w.Coins->1<=x/\x<=100
 cd:w.Coins.Pairwise (·<·)
theorem zf3 {w:Wheel} (h:valid w=true):OkW w:=by
 simp only [valid,Bool.and_eq_true,decide_eq_true_eq] at h
 obtain ⟨⟨h1,h2,h3⟩,h4,h5⟩:=h
 have h1:=zbX.1 h1
 obtain ⟨a1,a2⟩:=zlb h2
 obtain ⟨b1,b2⟩:=zlb h4
 exact ⟨h1.1,h1.2,by omega,by omega,fun x hx=>⟨(a1 x hx).1,(a1 x hx).2.1⟩,a2,fun x hx=>⟨(b1 x hx).1,(b1 x hx).2.1⟩,b2⟩
theorem OkW.len {w:Wheel} (h:OkW w) {n:Nat} (hn:100<=n):zlX n w:=⟨by have:=h.nlen;omega,by have:=h.clen;omega,by have:=h.nlen;omega,by have:=h.clen;omega⟩
def nx (R p:Int):Int:=if p+1=R then 0 else p+1
def hit (w:Wheel) (p:Int):Int:=if p+1∈w.Notches then 1 else 0
def put (w:Wheel):Nat->Int->Int->Int×Int
 | 0,p,c=>(p,c)
 | k+1,p,c=>put w k (nx w.Round p) (c+hit w p)
theorem zrq {R p:Int} (h0:0<=p) (h1:p<R):0<=nx R p/\nx R p<R:=by
 unfold nx
 split<;>omega
theorem zqd (w:Wheel) (p:Int):0<=hit w p/\hit w p<=1:=by
 unfold hit
 split<;>omega
theorem zlY {w:Wheel} (h:OkW w):∀(k:Nat) (p c:Int),0<=p->p<w.Round->(0<=(put w k p c).1/\(put w k p c).1<w.Round)/\c<=(put w k p c).2/\(put w k p c).2<=c+k
 | 0,p,c,h0,h1=>⟨⟨h0,h1⟩,by simp [put],by simp [put]⟩
 | k+1,p,c,h0,h1=>by
  have hy:=zrq h0 h1
  have hx:=zqd w p
  have:=zlY h k (nx w.Round p) (c+hit w p) hy.1 hy.2
  simp only [put]
  omega
theorem zqe (w:Wheel):∀(j k:Nat) (p c:Int),put w (j+k) p c=put w k (put w j p c).1 (put w j p c).2
 | 0,k,p,c=>by simp [put]
 | j+1,k,p,c=>by
  rw [show j+1+k=(j+k)+1 by omega]
  simp only [put]
  exact zqe w j k _ _
theorem zqf {A R:Int} (hR:0<R):(A+1) / R=A / R+(if A % R=R-1 then 1 else 0):=by
 have h1:=Int.mul_ediv_add_emod A R
 have h2:=Int.emod_nonneg A (show R≠0 by omega)
 have h3:=Int.emod_lt_of_pos A hR
 split
 ·rename_i h
  have:A+1=R*(A / R+1):=by rw [Int.mul_add];omega
  rw [this,Int.mul_ediv_cancel_left _ (by omega)]
 ·rename_i h
  have:A+1=(A % R+1)+R*(A / R):=by omega
  rw [this,Int.add_mul_ediv_left _ _ (by omega),Int.ediv_eq_zero_of_lt (by omega) (by omega)]
  omega
theorem zqg {A R:Int} (hR:0<R):(A+1) % R=nx R (A % R):=by
 have h1:=Int.mul_ediv_add_emod A R
 have h2:=Int.emod_nonneg A (show R≠0 by omega)
 have h3:=Int.emod_lt_of_pos A hR
 unfold nx
 split
 ·rename_i h
  have:A+1=R*(A / R+1):=by rw [Int.mul_add];omega
  rw [this,Int.mul_emod_right]
 ·rename_i h
  have:A+1=(A % R+1)+R*(A / R):=by omega
  rw [this,Int.add_mul_emod_self_left,Int.emod_eq_of_lt (by omega) (by omega)]
theorem zoM {B R m:Int} (hR:0<R) (h1:1<=m) (h2:m<=R):(B-m+R) % R=R-1↔m=B % R+1:=by
 have e1:=Int.mul_ediv_add_emod B R
 have e2:=Int.emod_nonneg B (show R≠0 by omega)
 have e3:=Int.emod_lt_of_pos B hR
 by_cases h:m<=B % R
 ·have:B-m+R=(B % R-m)+R*(B / R+1):=by rw [Int.mul_add];omega
  rw [this,Int.add_mul_emod_self_left,Int.emod_eq_of_lt (by omega) (by omega)]
  omega
 ·have:B-m+R=(B % R-m+R)+R*(B / R):=by omega
  rw [this,Int.add_mul_emod_self_left,Int.emod_eq_of_lt (by omega) (by omega)]
  omega
def reached (R e p:Int):List Int->Int
 | []=>0
 | m::l=>(e-m+R) / R-(p-m+R) / R+reached R e p l
def turn (w:Wheel) (p c:Int):Int×Int:=((p+c) % w.Round,reached w.Round (p+c) p w.Notches)
theorem ziw {R B p:Int} (hR:0<R):∀(l:List Int),(∀x,x∈l->1<=x/\x<=R)->l.Pairwise (·<·)->reached R (B+1) p l=reached R B p l+(if B % R+1∈l then 1 else 0)
 | [],_,_=>by simp [reached]
 | m::l,h,hd=>by
  have hm:=h m (by simp)
  obtain ⟨d1,d2⟩:=List.pairwise_cons.1 hd
  have ih:=ziw (B:=B) (p:=p) hR l (fun x hx=>h x (by simp [hx])) d2
  simp only [reached]
  rw [ih,show B+1-m+R=(B-m+R)+1 by omega,zqf hR]
  have hn:=zoM (B:=B) hR hm.1 hm.2
  by_cases q:m=B % R+1
  ·rw [if_pos (hn.2 q),if_pos (show B % R+1∈m::l by simp [q]),if_neg (fun hx=>by have:=d1 _ hx;omega)]
   omega
  ·rw [if_neg (fun hx=>q (hn.1 hx))]
   by_cases q2:B % R+1∈l
   ·rw [if_pos q2,if_pos (by simp [q2])]
    omega
   ·rw [if_neg q2,if_neg (by simp [q2];omega)]
    omega
theorem zix {R p:Int}:∀(l:List Int),reached R p p l=0
 | []=>rfl
 | m::l=>by simp only [reached];rw [zix l];omega
theorem znJ {w:Wheel} (h:OkW w) {p:Int} (h0:0<=p) (h1:p<w.Round):∀k:Nat,put w k p 0=turn w p k
 | 0=>by
  unfold turn
  rw [show p+((0:Nat):Int)=p by simp,zix,Int.emod_eq_of_lt h0 h1]
  rfl
 | k+1=>by
  have hr:=h.r1
  have ih:=znJ h h0 h1 k
  rw [zqe w k 1 p 0,ih]
  unfold turn
  simp only [put]
  rw [show p+((k+1:Nat):Int)=(p+k)+1 by simp;omega,zqg (by omega),ziw (by omega) w.Notches h.nm h.nd]
  rfl
theorem zdl {w:Wheel} (h:OkW w) {p c:Int} (h0:0<=p) (h1:p<w.Round) (hc:0<=c):(0<=(turn w p c).1/\(turn w p c).1<w.Round)/\0<=(turn w p c).2/\(turn w p c).2<=c:=by
 have:=zlY h c.toNat p 0 h0 h1
 rw [znJ h h0 h1,show ((c.toNat:Nat):Int)=c by omega] at this
 omega
theorem ziy {R e p:Int} (hR:0<R) (h:p<=e):∀l:List Int,0<=reached R e p l
 | []=>by simp [reached]
 | m::l=>by
  have:=ziy hR h l
  have h2:=Int.ediv_le_ediv hR (show p-m+R<=e-m+R by omega)
  simp only [reached]
  omega
theorem zsD {n:Nat} {w:Wheel} (h:OkW w) (hn:100<=n) {p c:Int} (hp:0<=p) (hp':p<w.Round) (hc:0<=c) (hc2:c<1048576):zdC n ⟨w⟩ p c=some (turn w p c):=by
 have hr:=h.r1
 have hr2:=h.r2
 have hl:=h.nlen
 have hfin:=zdl h hp hp' hc
 unfold turn at hfin
 simp only at hfin
 have e0:w64 (p+c)=p+c:=zaS (by omega) (by omega)
 have key:=zrn (F:=fun m i s=>za7 ⟨w⟩ p c m s i) (xs:=w.Notches) (spec:=fun l s=>some ((p+c) % w.Round,s+reached w.Round (p+c) p l)) (I:=fun l s=>0<=s/\s+reached w.Round (p+c) p l<=c/\∀x,x∈l->1<=x/\x<=w.Round) (by omega)
  (fun m s hI=>by simp [za7,zcb,zcA,reached,e0,zwc (show 0<=p+c by omega) (show 0<w.Round by omega)])
  (fun m i x l s hI hx hi _ _ hrec=>by
   obtain ⟨i1,i2,i3⟩:=hI
   have hxm:=i3 x (by simp)
   simp only [reached] at i2
   have hrl:=ziy (R:=w.Round) (e:=p+c) (p:=p) (by omega) (by omega) l
   have hd1:=Int.ediv_nonneg (show 0<=p+c-x+w.Round by omega) (show 0<=w.Round by omega)
   have hd2:=Int.ediv_nonneg (show 0<=p-x+w.Round by omega) (show 0<=w.Round by omega)
   have hd3:=Int.ediv_le_self w.Round (show 0<=p+c-x+w.Round by omega)
   have hd5:=Int.ediv_le_ediv (show 0<w.Round by omega) (show p-x+w.Round<=p+c-x+w.Round by omega)
   simp only [za7,zcb]
   rw [if_pos (by simpa using hi),hx,zab,e0,zaS (x:=p+c-x) (by omega) (by omega),zaS (x:=p+c-x+w.Round) (by omega) (by omega),zaS (x:=p-x) (by omega) (by omega),zaS (x:=p-x+w.Round) (by omega) (by omega),
    zrV (by omega) (by omega) (by omega),zrV (by omega) (by omega) (by omega),zab,zab,zaS (x:=_-_) (by omega) (by omega),zaS (x:=s+_) (by omega) (by omega),
    hrec _ ⟨by omega,by omega,fun y hy=>i3 y (by simp [hy])⟩]
   simp only [reached]
   congr 2
   omega)
  w.Notches 0 n 0 (by omega) rfl (by omega) ⟨by omega,by omega,h.nm⟩
 have key:za7 ⟨w⟩ p c n 0 0=_:=key
 unfold zdC
 rw [key]
 unfold turn
 rw [Int.zero_add]
structure OkS (w:Wheel) (s:Stand) (b:Int):Prop where
 p0:0<=s.Place
 p1:s.Place<w.Round
 c0:0<=s.Credit
 c1:s.Credit<=b
def zei (w:Wheel) (a:Int):Bool:=inR a (-1) (w.Coins.length-1)
def znK (w:Wheel) (a:Int):Bool:=inR a 0 (w.Coins.length-1)
def coin (w:Wheel) (a:Int):Int:=w.Coins.getD a.toNat 0
def zhm (w:Wheel) (s:Stand) (a:Int):Stand×Bool :=
 if 0<=a then (⟨(turn w s.Place (coin w a)).1,s.Credit+(turn w s.Place (coin w a)).2⟩,false) else if s.Credit=0 then (s,false) else (⟨0,s.Credit-1⟩,true)
theorem zlc {w:Wheel} {a:Int} (h0:0<=a) (h1:a<=w.Coins.length-1):idx w.Coins a=some (coin w a):=by
 obtain ⟨k,rfl⟩:∃k:Nat,a=k:=⟨a.toNat,by omega⟩
 have hk:k<w.Coins.length:=by omega
 rw [zcs hk]
 simp [coin,hk]
theorem zdm {w:Wheel} (h:OkW w) {a:Int} (h0:0<=a) (h1:a<=w.Coins.length-1):1<=coin w a/\coin w a<=100:=by
 obtain ⟨k,rfl⟩:∃k:Nat,a=k:=⟨a.toNat,by omega⟩
 have hk:k<w.Coins.length:=by omega
 have:coin w k=w.Coins[k]:=by simp [coin,hk]
 rw [this]
 exact h.cm _ (List.getElem_mem hk)
theorem zqh {w:Wheel} (h:OkW w) {s:Stand} {b a:Int} (hs:OkS w s b) (ha:zei w a=true):OkS w (zhm w s a).1 (b+100):=by
 have ha:=zbX.1 ha
 have hr:=h.r1
 unfold zhm
 split
 ·rename_i h0
  have hc:=zdm h h0 ha.2
  have ht:=zdl h hs.p0 hs.p1 (show 0<=coin w a by omega)
  have:=hs.c0
  have:=hs.c1
  exact ⟨ht.1.1,ht.1.2,by show 0<=s.Credit+_;omega,by show s.Credit+_<=_;omega⟩
 ·have:=hs.c0
  have:=hs.c1
  split
  ·exact ⟨hs.p0,hs.p1,hs.c0,by show s.Credit<=b+100;omega⟩
  ·exact ⟨by show (0:Int)<=0;omega,by show (0:Int)<_;omega,by show 0<=s.Credit-1;omega,by show s.Credit-1<=_;omega⟩
theorem zwi {n:Nat} {w:Wheel} (h:OkW w) (hn:200<=n) {s:Stand} {b a:Int} (hs:OkS w s b) (hb:b<1099511627776) (ha:zei w a=true):zdW n ⟨w⟩ s a=some (zhm w s a).1:=by
 have ha:=zbX.1 ha
 have:=hs.c0
 have:=hs.c1
 unfold zdW zhm
 by_cases h0:0<=a
 ·have hc:=zdm h h0 ha.2
  have ht:=zdl h hs.p0 hs.p1 (show 0<=coin w a by omega)
  rw [if_pos (by simp;omega),if_pos h0,zlc h0 ha.2,zab,zsD h (by omega) hs.p0 hs.p1 (by omega) (by omega),zab,zaS (by omega) (by omega)]
 ·rw [if_neg (by simp;omega),if_neg h0]
  by_cases hc:s.Credit=0
  ·rw [if_neg (by simp;omega),if_pos hc]
  ·rw [if_pos (by simp;omega),if_neg hc,zaS (by omega) (by omega)]
theorem zy0 {n:Nat} (f:Int->Option Bool) (g:Int->Bool) (xs:List Int) (hf:∀x,x∈xs->f x=some (g x)) (hl:xs.length<1048576) (hn:xs.length<n) :
  zeQ n (fun x (_:Unit)=>(f x).map fun y=>(y,())) xs ()=some (decide ((xs.length:Int)<=20)&&xs.all g,()):=by
 have key:∀(l:List Int) (i m:Nat) (s:Unit),i<=xs.length->xs.drop i=l->l.length<m->(zam xs (zbV (fun x (_:Unit)=>(f x).map fun y=>(y,()))) m (i:Int) s).map (fun r=>decide (r.1≥0))=some (!l.all g):=by
  intro l i m s h1 h2 h3
  refine zrm (fun m i s=>(zam xs (zbV (fun x (_:Unit)=>(f x).map fun y=>(y,()))) m i s).map (fun r=>decide (r.1≥0))) xs (fun l _=>some (!l.all g)) hl (fun m s=>?_) (fun m i x l s hx hi _ _ hrec=>?_) l i m s h1 h2 h3
  ·simp [zam,za0,zbw]
  ·have hmem:x∈xs:=by
    unfold idx at hx
    rw [if_pos (by omega)] at hx
    exact List.mem_of_getElem? hx
   simp only [zam,za0]
   rw [if_pos (by simpa using hi),hx,zab]
   simp only [zbV,hf x hmem,Option.map_some,zab]
   by_cases hg:g x=true
   ·rw [if_neg (by simp [hg])]
    have:=hrec ()
    rw [this]
    simp [hg]
   ·rw [if_pos (by simpa using hg)]
    simp [hg]
 have h:=key xs 0 n () (by omega) rfl hn
 unfold zeQ zcI
 by_cases hq:(xs.length:Int)<=20
 ·rw [if_pos (by simpa using hq)]
  unfold zbc zch
  change Option.map _ (zam xs _ n 0 ())=_ at h
  cases hx:zam xs (zbV (fun x (_:Unit)=>(f x).map fun y=>(y,()))) n 0 () with
  | none=>rw [hx] at h;cases h
  | some r =>
   rw [hx] at h
   simp only [Option.map_some,Option.some.injEq] at h
   simp only [zab]
   rw [h]
   simp [hq]
 ·rw [if_neg (by simpa using hq)]
  simp [hq]
theorem zqi {w:Wheel} (hw:w.Coins.length<1048576) (x:Int):zcP ⟨w⟩ x=some (znK w x):=by
 unfold zcP znK
 simp only []
 rw [zaS (by omega) (by omega),zgA,zab]
theorem zrr {w:Wheel} (hw:w.Coins.length<1048576) (x:Int):zb2 ⟨w⟩ x=some (zei w x):=by
 unfold zb2 zbZ
 rw [zqi hw,zab]
 have e:zei w x=(decide (x=-1) || znK w x):=by
  rw [Bool.eq_iff_iff]
  simp only [zei,znK,zbX,Bool.or_eq_true,decide_eq_true_eq]
  omega
 rw [e]
 by_cases h:x=-1
 ·rw [if_pos (by simpa using h)]
  simp [h]
 ·rw [if_neg (by simpa using h)]
  simp [h]
def zhj (w:Wheel) (p:Int):Bool:=inR p 0 (w.Round-1)
theorem zoN {w:Wheel} (h:OkW w) (p:Int):zcB ⟨w⟩ p=some (zhj w p):=by
 have:=h.r1
 have:=h.r2
 unfold zcB zhj
 simp only []
 rw [zaS (by omega) (by omega),zgA,zab]
def zfB (w:Wheel) (s:Stand):Bool:=zhj w s.Place&&inR s.Credit 0 20
theorem zoO {w:Wheel} {s:Stand} (h:zfB w s=true):OkS w s 20:=by
 simp only [zfB,zhj,Bool.and_eq_true,zbX] at h
 exact ⟨h.1.1,by omega,h.2.1,h.2.2⟩
def zw:Wheel_:=⟨⟨0,[],[]⟩⟩
theorem zsE {n:Nat} {w:Wheel} (hl:zlX n w) (aF:Wheel_->Unit->Option (Bool×Unit)) (b:Bool) (ha:valid w=true->aF ⟨w⟩ ()=some (b,())) :
  zgM n aF w ()=some (cond (valid w) (cond b (((⟨w⟩:Wheel_),0),()) ((zw,1),())) ((zw,10),())):=by
 unfold zgM
 rw [znI hl,zab]
 cases hv:valid w with
 | false=>rfl
 | true =>
  rw [ha hv]
  cases b<;>rfl
def zoP (w:Wheel):List Int->Int->Stand->Stand×Int
 | [],k,s=>(s,k)
 | a::l,k,s=>zoP w l (k+if (zhm w s a).2 then 1 else 0) (zhm w s a).1
def zx6 (w:Wheel) (s:Stand) (acts:List Int):Stand×Int×Int :=
 if valid w=true then (if zfB w s=true/\(acts.length:Int)<=20/\acts.all (zei w)=true then ((zoP w acts 0 s).1,(zoP w acts 0 s).2,0) else (⟨0,0⟩,0,1)) else (⟨0,0⟩,0,10)
theorem zrs {w:Wheel} {s:Stand} {a:Int} (h:zei w a=true) (hc:0<=s.Credit):(zhm w s a).2=true↔a=-1/\s.Credit>0:=by
 have h:=zbX.1 h
 unfold zhm
 split
 ·simp;omega
 ·split<;>simp<;>omega
theorem zyO {n:Nat} {w:Wheel} (h:OkW w) (hn:200<=n) (acts:List Int) (hl:(acts.length:Int)<=20) (ha:acts.all (zei w)=true) {s:Stand} (hs:OkS w s 20) :
  zbo n acts ((⟨w⟩,0),()) n 0 0 s.Place s.Credit=some ((zoP w acts 0 s).1,(zoP w acts 0 s).2,0):=by
 have key:=zrn (F:=fun m i (q:Int×Stand)=>zbo n acts ((⟨w⟩,0),()) m q.1 i q.2.Place q.2.Credit) (xs:=acts) (spec:=fun l q=>some ((zoP w l q.1 q.2).1,(zoP w l q.1 q.2).2,0))
  (I:=fun l q=>(0<=q.1/\q.1+l.length<=100)/\OkS w q.2 (2100-100*l.length)/\l.length<=20/\l.all (zei w)=true) (by omega)
  (fun m q hI=>by simp [zbo,zen,zfm,zoP])
  (fun m i x l q hI hx hi _ _ hrec=>by
   obtain ⟨i1,i2,i3,i4⟩:=hI
   simp only [List.length_cons,List.all_cons,Bool.and_eq_true] at i1 i2 i3 i4
   have hb:(2100-100*((l.length+1:Nat):Int))+100=2100-100*(l.length:Int):=by simp;omega
   have hok:=zqh h i2 i4.1
   rw [hb] at hok
   have hmi:=zrs i4.1 i2.c0
   have goal:∀c:Bool,(c=(zhm w q.2 x).2)->zdM n (zbo n acts ((⟨w⟩,0),()) m) ((⟨w⟩,0),()) q.1 (i:Int) q.2.Place q.2.Credit x c=some ((zoP w (x::l) q.1 q.2).1,(zoP w (x::l) q.1 q.2).2,0):=by
    rintro c rfl
    have e:(⟨q.2.Place,q.2.Credit⟩:Stand)=q.2:=rfl
    simp only [zdM,zev,zoP,e,zwi h hn i2 (by omega) i4.1,zab]
    by_cases hm:(zhm w q.2 x).2=true
    ·rw [if_pos hm,zaS (x:=q.1+1) (by omega) (by omega)]
     have:=hrec (q.1+1,(zhm w q.2 x).1) ⟨⟨by simp;omega,by simp;omega⟩,hok,by omega,i4.2⟩
     simp only at this
     rw [this]
     simp [hm]
    ·rw [if_neg hm]
     have:=hrec (q.1,(zhm w q.2 x).1) ⟨⟨by simp;omega,by simp;omega⟩,hok,by omega,i4.2⟩
     simp only at this
     rw [this]
     simp [hm]
   simp only [zbo,zen]
   rw [if_pos (by simpa using hi),hx,zab]
   by_cases hx1:x=-1
   ·rw [if_pos (by simpa using hx1)]
    refine goal _ ?_
    rw [Bool.eq_iff_iff,hmi]
    simp [hx1]
   ·rw [if_neg (by simpa using hx1)]
    refine goal _ ?_
    rw [Bool.eq_iff_iff,hmi]
    simp [hx1])
  acts 0 n (0,s) (by omega) rfl (by omega) ⟨⟨by simp,by simp;omega⟩,⟨hs.p0,hs.p1,hs.c0,by have:=hs.c1;simp;omega⟩,by omega,ha⟩
 exact key
theorem zr0 {n:Nat} {w:Wheel} (hl:zlX n w) (hn:200<=n) (s:Stand) (acts:List Int) (h1:acts.length<1048576) (h2:acts.length<n):zdX n w s acts=some (zx6 w s acts):=by
 unfold zdX zx6
 rw [zsE hl _ (zfB w s&&(decide ((acts.length:Int)<=20)&&acts.all (zei w))) (fun hv=>?_),zab]
 ·cases hv:valid w with
  | false=>rfl
  | true =>
   have h:=zf3 hv
   by_cases hq:zfB w s=true/\(acts.length:Int)<=20/\acts.all (zei w)=true
   ·rw [if_pos rfl,if_pos hq,hq.1,hq.2.2,show decide ((acts.length:Int)<=20)=true by simpa using hq.2.1]
    exact zyO h hn acts hq.2.1 hq.2.2 (zoO hq.1)
   ·rw [if_pos rfl,if_neg hq,show (zfB w s&&(decide ((acts.length:Int)<=20)&&acts.all (zei w)))=false by
     cases hz:(zfB w s&&(decide ((acts.length:Int)<=20)&&acts.all (zei w))) with
     | false=>rfl
     | true=>simp only [Bool.and_eq_true,decide_eq_true_eq] at hz;exact (hq hz).elim]
    rfl
 ·have h:=zf3 hv
  show (zeu n ⟨w⟩ s acts).map (fun y=>(y,()))=_
  unfold zeu zcn
  rw [zoN h,zab,zgA,zy0 (fun x=>zb2 ⟨w⟩ x) (zei w) acts (fun x _=>zrr hl.2.1 x) h1 h2]
  unfold zfB
  cases zhj w s.Place<;>cases inR s.Credit 0 20<;>rfl
theorem zjM {n:Nat} (a b:List Int) (hs:a.length<1048576) (hn:a.length<n):zdu n a b=some (decide (a=b)):=by
 unfold zdu
 by_cases h:a.length=b.length
 ·rw [if_neg (by simp [h])]
  have:=zwh (F:=fun m i (_:Unit)=>zbr a b m i) (xs:=a.zip b) (spec:=fun l _=>some (decide (∀q,q∈l->q.1=q.2))) (n:=n) (by simp [←h];omega) (by simp [←h];omega) () (fun m s=>by simp [zbr,zcC,zdg,←h]) (fun m i x l s hx hi hi' hd hrec=>by
   have hi1:i<a.length:=by simp [←h] at hi;exact hi
   have hi2:i<b.length:=by omega
   have hx':x=(a[i],b[i]):=by
    rw [zcs (by simp;omega)] at hx
    injection hx with hx
    rw [←hx]
    simp
   simp only [zbr,zcC]
   rw [if_pos (by simp;omega),zcs hi1,zcs hi2,zab,zab]
   subst hx'
   by_cases hb:a[i]=b[i]
   ·rw [if_neg (by simp [hb]),hrec ()]
    simp [hb]
   ·rw [if_pos (by simp [hb])]
    simp [hb])
  rw [show zbr a b n 0=_ from this]
  congr 1
  apply decide_eq_decide.2
  constructor
  ·intro hq
   apply List.ext_getElem h
   intro i h1 h2
   have:=hq (a[i],b[i]) (by
    have h3:i<(a.zip b).length:=by simp;omega
    have:(a.zip b)[i]=(a[i],b[i]):=by simp
    rw [←this]
    exact List.getElem_mem h3)
   exact this
  ·rintro rfl q hq
   obtain ⟨i,hi,rfl⟩:=List.getElem_of_mem hq
   simp
 ·rw [if_pos (by simp;omega)]
  have:a≠b:=fun e=>h (by rw [e])
  simp [this]
theorem zsF {n:Nat} {w:Wheel} (h:zlX n w):zgN w=some w:=by
 unfold zgN
 rw [zkr (by simp;exact Nat.le_of_lt h.1),zkr (by simp;exact Nat.le_of_lt h.2.1)]
 rfl
theorem zld {α:Type} {l:List α} (h:l.length<1048576):app ([]:List α) l=some l:=by rw [zkr (by simp;omega)];rfl
section
variable {κ:Type} [DecidableEq κ]
theorem znL:∀{M:List (κ×Int)} {k:κ},zbY M k=true↔k∈M.map (·.1)
 | [],k=>by simp [zbY]
 | p::M,k=>by
  simp only [zbY,List.map_cons,List.mem_cons]
  by_cases h:p.1=k
  ·simp [h]
  ·rw [if_neg h,znL]
   exact ⟨.inr,fun e=>e.resolve_left (Ne.symm h)⟩
theorem znM:∀{M:List (κ×Int)} {k:κ},zbY M k=true->(k,ztI M k)∈M
 | [],k,h=>by simp [zbY] at h
 | p::M,k,h=>by
  by_cases e:p.1=k
  ·simp only [ztI,if_pos e]
   rw [←e]
   exact List.mem_cons_self
  ·simp only [zbY,if_neg e] at h
   simp only [ztI,if_neg e]
   exact List.mem_cons_of_mem _ (znM h)
theorem znN:∀{M:List (κ×Int)} {k:κ} {v:Int} {p:κ×Int},p∈zf9 M k v->p=(k,v)\/p∈M
 | [],k,v,p,h=>by simp [zf9] at h;exact .inl h
 | q::M,k,v,p,h=>by
  simp only [zf9] at h
  split at h
  ·rcases List.mem_cons.1 h with h | h
   ·exact .inl h
   ·exact .inr (List.mem_cons_of_mem _ h)
  ·rcases List.mem_cons.1 h with h | h
   ·exact .inr (h▸List.mem_cons_self)
   ·rcases znN h with h | h
    ·exact .inl h
    ·exact .inr (List.mem_cons_of_mem _ h)
theorem zlZ:∀{M:List (κ×Int)} {k:κ} {v:Int},(zf9 M k v).map (·.1)=if zbY M k=true then M.map (·.1) else M.map (·.1)++[k]
 | [],k,v=>by simp [zf9,zbY]
 | q::M,k,v=>by
  by_cases e:q.1=k
  ·simp [zf9,zbY,e]
  ·simp only [zf9,zbY,if_neg e,List.map_cons]
   rw [zlZ]
   cases zbY M k<;>simp
theorem zoQ {M:List (κ×Int)} {k:κ} {v:Int} (h:(M.map (·.1)).Nodup):((zf9 M k v).map (·.1)).Nodup:=by
 rw [zlZ]
 cases e:zbY M k with
 | true=>simpa using h
 | false =>
  have:¬k∈M.map (·.1):=fun hk=>by rw [znL.2 hk] at e;cases e
  simp only [Bool.false_eq_true,if_false]
  rw [List.nodup_append]
  refine ⟨h,by simp,fun a ha b hb=>?_⟩
  simp only [List.mem_singleton] at hb
  subst hb
  exact fun e=>this (e▸ha)
end
def ziE (b:Bool) (s:Bool×Int) (n:Int):Bool×Int:=if s.1=true\/cond b (decide (n>s.2)) (decide (n<s.2))=true then (false,n) else s
def pick (b:Bool) (vs:List Int):Int:=(vs.foldl (ziE b) (true,0)).2
def leB (b:Bool) (x y:Int):Prop:=cond b (x<=y) (y<=x)
theorem leB.refl (b:Bool) (x:Int):leB b x x:=by cases b<;>exact Int.le_refl x
theorem leB.trans {b:Bool} {x y z:Int} (h:leB b x y) (h':leB b y z):leB b x z:=by
 cases b
 ·exact Int.le_trans h' h
 ·exact Int.le_trans h h'
theorem leB.anti {b:Bool} {x y:Int} (h:leB b x y) (h':leB b y x):x=y:=by
 cases b
 ·exact Int.le_antisymm h' h
 ·exact Int.le_antisymm h h'
theorem leB.add {b:Bool} {x y:Int} (h:leB b x y) (a:Int):leB b (a+x) (a+y):=by
 cases b
 ·exact Int.add_le_add_left h a
 ·exact Int.add_le_add_left h a
theorem zif (b:Bool):∀(vs:List Int) (m:Int),(vs.foldl (ziE b) (false,m)).1=false/\((vs.foldl (ziE b) (false,m)).2=m\/(vs.foldl (ziE b) (false,m)).2∈vs)/\leB b m (vs.foldl (ziE b) (false,m)).2/\∀v,v∈vs->leB b v (vs.foldl (ziE b) (false,m)).2
 | [],m=>⟨rfl,.inl rfl,leB.refl b m,fun v h=>by simp at h⟩
 | x::vs,m=>by
  simp only [List.foldl_cons]
  by_cases h:cond b (decide (x>m)) (decide (x<m))=true
  ·have e:ziE b (false,m) x=(false,x):=by
    unfold ziE
    rw [if_pos (.inr h)]
   rw [e]
   obtain ⟨h1,h2,h3,h4⟩:=zif b vs x
   have hm:leB b m x:=by
    cases b
    ·exact Int.le_of_lt (by simpa using h)
    ·exact Int.le_of_lt (by simpa using h)
   refine ⟨h1,?_,hm.trans h3,fun v hv=>?_⟩
   ·rcases h2 with h2 | h2
    ·exact .inr (by rw [h2];exact List.mem_cons_self)
    ·exact .inr (List.mem_cons_of_mem _ h2)
   ·rcases List.mem_cons.1 hv with rfl | hv
    ·exact h3
    ·exact h4 v hv
  ·have e:ziE b (false,m) x=(false,m):=by
    unfold ziE
    rw [if_neg (by simpa using h)]
   rw [e]
   obtain ⟨h1,h2,h3,h4⟩:=zif b vs m
   have hm:leB b x m:=by
    cases b
    ·simpa [leB] using h
    ·simpa [leB] using h
   refine ⟨h1,h2.imp_right (List.mem_cons_of_mem _),h3,fun v hv=>?_⟩
   rcases List.mem_cons.1 hv with rfl | hv
   ·exact hm.trans h3
   ·exact h4 v hv
theorem zmS (b:Bool) (m x:Int):ziE b (true,m) x=(false,x):=by
 unfold ziE
 rw [if_pos (.inl rfl)]
theorem zgB (b:Bool) {vs:List Int} (h:vs≠[]):pick b vs∈vs/\∀v,v∈vs->leB b v (pick b vs):=by
 cases vs with
 | nil=>exact (h rfl).elim
 | cons x vs =>
  unfold pick
  rw [List.foldl_cons,zmS]
  obtain ⟨h1,h2,h3,h4⟩:=zif b vs x
  refine ⟨?_,fun v hv=>?_⟩
  ·rcases h2 with h2 | h2
   ·rw [h2];exact List.mem_cons_self
   ·exact List.mem_cons_of_mem _ h2
  ·rcases List.mem_cons.1 hv with rfl | hv
   ·exact h3
   ·exact h4 v hv
theorem zsG (b:Bool) {vs:List Int} {r:Int} (h:r∈vs) (hr:∀v,v∈vs->leB b v r):pick b vs=r:=by
 obtain ⟨h1,h2⟩:=zgB b (vs:=vs) (fun e=>by rw [e] at h;simp at h)
 exact (hr _ h1).anti (h2 _ h)
def total:List Int->Int
 | []=>0
 | x::l=>x+total l
def zgb (l:List Int) (k:Nat):List Int:=l.set k (l.getD k 0-1)
theorem zgC:∀{l:List Int} {k:Nat} {v:Int},k<l.length->total (l.set k v)=total l-l.getD k 0+v
 | [],k,v,h=>by simp at h
 | x::l,0,v,h=>by simp [total];omega
 | x::l,k+1,v,h=>by
  have:=zgC (l:=l) (k:=k) (v:=v) (by simpa using h)
  simp only [List.set_cons_succ,total,List.getD_cons_succ]
  omega
theorem zeW {l:List Int} {k:Nat} (h:k<l.length):total (zgb l k)=total l-1:=by
 unfold zgb
 rw [zgC h]
 omega
theorem zdn:∀{l:List Int},(∀x,x∈l->0<=x)->0<=total l
 | [],_=>Int.le_refl _
 | x::l,h=>by
  have:=h x (by simp)
  have:=zdn (l:=l) (fun y hy=>h y (by simp [hy]))
  simp only [total]
  omega
theorem zfb:∀{l:List Int},(∀x,x∈l->0<=x)->∀k,0<=l.getD k 0/\l.getD k 0<=total l
 | [],_,k=>by simp [total]
 | x::l,h,0=>by
  have:=h x (by simp)
  have:=zdn (l:=l) (fun y hy=>h y (by simp [hy]))
  simp only [List.getD_cons_zero,total]
  omega
 | x::l,h,k+1=>by
  have:=h x (by simp)
  have:=zfb (l:=l) (fun y hy=>h y (by simp [hy])) k
  simp only [List.getD_cons_succ,total]
  omega
theorem zoR:∀{l:List Int},(∀x,x∈l->0<=x)->total l=0->∀k,l.getD k 0=0:=fun h h0 k=>by
 have:=zfb h k
 omega
structure OkP (w:Wheel) (l:List Int):Prop where
 len:l.length=w.Coins.length
 nn:∀x,x∈l->0<=x
 tot:total l<=1000
theorem OkP.less {w:Wheel} {l:List Int} (h:OkP w l) {k:Nat} (hk:k<w.Coins.length) (h0:l.getD k 0≠0):OkP w (zgb l k):=by
 have hk':k<l.length:=by rw [h.len];exact hk
 have:=zfb h.nn k
 refine ⟨by simp [zgb,h.len],fun x hx=>?_,by rw [zeW hk'];have:=h.tot;omega⟩
 rcases List.mem_or_eq_of_mem_set hx with hx | rfl
 ·exact h.nn x hx
 ·omega
def zr1 (l:List Int):List Int:=[l.getD 0 0,l.getD 1 0,l.getD 2 0,l.getD 3 0]
def zbA (l:List Int):Bag_:=⟨l.getD 0 0,l.getD 1 0,l.getD 2 0,l.getD 3 0⟩
theorem zjN {l:List Int} {k:Nat} (h:k<4):idx (zr1 l) (k:Int)=some (l.getD k 0):=by
 match k,h with
 | 0,_=>rfl
 | 1,_=>rfl
 | 2,_=>rfl
 | 3,_=>rfl
theorem zmT {l:List Int} {k:Nat} {v:Int} (h:k<l.length) (h4:l.length<=4):zqI (zr1 l) (k:Int) v=some (zr1 (l.set k v)):=by
 unfold zqI
 rw [if_pos ⟨by omega,by simp [zr1];omega⟩,Int.toNat_natCast]
 match l,k,h,h4 with
 | [a],0,_,_=>rfl
 | [a,b],0,_,_=>rfl
 | [a,b],1,_,_=>rfl
 | [a,b,c],0,_,_=>rfl
 | [a,b,c],1,_,_=>rfl
 | [a,b,c],2,_,_=>rfl
 | [a,b,c,d],0,_,_=>rfl
 | [a,b,c,d],1,_,_=>rfl
 | [a,b,c,d],2,_,_=>rfl
 | [a,b,c,d],3,_,_=>rfl
theorem zle {l l':List Int} (h:zbA l=zbA l') (hl:l.length=l'.length) (h4:l.length<=4):l=l':=by
 simp only [zbA,Bag_.mk.injEq] at h
 obtain ⟨h0,h1,h2,h3⟩:=h
 apply List.ext_getElem hl
 intro i hi hi'
 have e1:l[i]=l.getD i 0:=by simp [hi]
 have e2:l'[i]=l'.getD i 0:=by simp [hi']
 rw [e1,e2]
 match i,(show i<4 by omega) with
 | 0,_=>exact h0
 | 1,_=>exact h1
 | 2,_=>exact h2
 | 3,_=>exact h3
structure Opn where
 acts:List Int
 plays:Int
 p:Int
 c:Int
 k:Nat
def zj2 (w:Wheel) (p c:Int) (k:Nat):Opn:=⟨[(k:Int)],(turn w p (coin w k)).2,(turn w p (coin w k)).1,c+(turn w p (coin w k)).2,k⟩
def zoS (w:Wheel) (c:Int) (k:Nat):Opn:=⟨[-1,(k:Int)],(turn w 0 (coin w k)).2,(turn w 0 (coin w k)).1,c-1+(turn w 0 (coin w k)).2,k⟩
def zwj (w:Wheel) (p c:Int) (k:Nat):List Opn:=zj2 w p c k::(if c=0\/p=0 then [] else [zoS w c k])
def zmU (w:Wheel) (p c:Int) (l:List Int):Nat->Nat->List Opn
 | 0,_=>[]
 | d+1,k=>(if l.getD k 0=0 then [] else zwj w p c k)++zmU w p c l d (k+1)
theorem zd2 {w:Wheel} {p c:Int} {l:List Int} {o:Opn}:∀{d k:Nat},o∈zmU w p c l d k↔∃j,k<=j/\j<k+d/\l.getD j 0≠0/\o∈zwj w p c j
 | 0,k=>by
  simp only [zmU,List.not_mem_nil,false_iff]
  rintro ⟨j,h1,h2,_⟩
  omega
 | d+1,k=>by
  simp only [zmU,List.mem_append]
  rw [zd2]
  constructor
  ·rintro (h | ⟨j,h1,h2,h3,h4⟩)
   ·split at h
    ·simp at h
    ·rename_i h0
     exact ⟨k,Nat.le_refl k,by omega,h0,h⟩
   ·exact ⟨j,by omega,by omega,h3,h4⟩
  ·rintro ⟨j,h1,h2,h3,h4⟩
   by_cases e:j=k
   ·subst e
    exact .inl (by rw [if_neg h3];exact h4)
   ·exact .inr ⟨j,by omega,by omega,h3,h4⟩
theorem zes {w:Wheel} {p c:Int} {k:Nat} {o:Opn}:o∈zwj w p c k↔o=zj2 w p c k\/(c≠0/\p≠0/\o=zoS w c k):=by
 unfold zwj
 rw [List.mem_cons]
 by_cases h:c=0\/p=0
 ·rw [if_pos h]
  simp only [List.not_mem_nil,or_false]
  exact ⟨.inl,fun q=>q.elim id fun q=>(h.elim q.1 q.2.1).elim⟩
 ·rw [if_neg h]
  simp only [List.mem_singleton]
  exact or_congr_right ⟨fun q=>⟨fun e=>h (.inl e),fun e=>h (.inr e),q⟩,fun q=>q.2.2⟩
def Q (b:Bool) (w:Wheel):Nat->Int->Int->List Int->Int
 | 0,_,_,_=>0
 | T+1,p,c,l=>pick b ((zmU w p c l l.length 0).map fun o=>o.plays+Q b w T o.p o.c (zgb l o.k))
structure OkO (w:Wheel) (c:Int) (l:List Int) (o:Opn):Prop where
 k:o.k<w.Coins.length
 nz:l.getD o.k 0≠0
 p0:0<=o.p
 p1:o.p<w.Round
 c0:0<=o.c
 c1:o.c<=c+100
 y0:0<=o.plays
 y1:o.plays<=100
theorem zqj {w:Wheel} (h:OkW w) {p c:Int} (hp:0<=p) (hp':p<w.Round) (hc:0<=c) {l:List Int} (hl:OkP w l) {o:Opn} (ho:o∈zmU w p c l l.length 0):OkO w c l o:=by
 have hr:=h.r1
 obtain ⟨j,_,h2,h3,h4⟩:=zd2.1 ho
 have hj:j<w.Coins.length:=by have:=hl.len;omega
 have hco:=zdm h (a:=(j:Int)) (by omega) (by omega)
 rcases zes.1 h4 with rfl | ⟨h5,h6,rfl⟩
 ·have ht:=zdl h hp hp' (show 0<=coin w j by omega)
  exact ⟨hj,h3,ht.1.1,ht.1.2,by show 0<=c+_;omega,by show c+_<=_;omega,ht.2.1,by show (turn w p (coin w j)).2<=100;omega⟩
 ·have ht:=zdl h (p:=0) (by omega) (by omega) (show 0<=coin w j by omega)
  exact ⟨hj,h3,ht.1.1,ht.1.2,by show 0<=c-1+_;omega,by show c-1+_<=_;omega,ht.2.1,by show (turn w 0 (coin w j)).2<=100;omega⟩
theorem zjO:∀{l:List Int},total l≠0->∃j,j<l.length/\l.getD j 0≠0
 | [],h=>(h rfl).elim
 | x::l,h=>by
  by_cases e:x=0
  ·obtain ⟨j,h1,h2⟩:=zjO (l:=l) (fun q=>h (by simp [total,q,e]))
   exact ⟨j+1,by simp;omega,by simpa using h2⟩
  ·exact ⟨0,by simp,by simpa using e⟩
theorem zqk {w:Wheel} {p c:Int} {l:List Int} (h:total l≠0):∃j,j<l.length/\l.getD j 0≠0/\zj2 w p c j∈zmU w p c l l.length 0:=by
 obtain ⟨j,h1,h2⟩:=zjO h
 exact ⟨j,h1,h2,zd2.2 ⟨j,by omega,by omega,h2,zes.2 (.inl rfl)⟩⟩
theorem OkP.out {w:Wheel} {l:List Int} (h:OkP w l):∀j,w.Coins.length<=j->l.getD j 0=0:=fun j hj=>by
 rw [←h.len] at hj
 simp [hj]
def spot (l:List Int) (p c:Int):Spot_:=⟨zbA l,p,c⟩
def zrt (b:Bool) (w:Wheel) (M:List (Spot_×Int)):Prop :=
 (M.map (·.1)).Nodup/\∀e,e∈M->∃l p c,e.1=spot l p c/\OkP w l/\(0<=p/\p<w.Round)/\(0<=c/\c<1099511627776)/\e.2=Q b w (total l).toNat p c l
theorem zrt.nil (b:Bool) (w:Wheel):zrt b w []:=⟨by simp,fun e h=>by simp at h⟩
theorem zft {x:Int} (h1:-9223372036854775808<=x) (h2:x<9223372036854775808):okI x=true:=by
 simp only [okI,Lit.wf,IntKind.min,IntKind.max,IntKind.signed,IntKind.bits]
 simp
 omega
theorem zl0 {w:Wheel} (h:OkW w) {l:List Int} (hl:OkP w l) {p c:Int} (hp:0<=p) (hp':p<w.Round) (hc:0<=c) (hc2:c<1099511627776):zkS (spot l p c)=true:=by
 have hr:=h.r2
 have ht:=hl.tot
 have g:=zfb hl.nn
 have g0:=g 0
 have g1:=g 1
 have g2:=g 2
 have g3:=g 3
 simp only [zkS,spot,zbA,List.all_cons,List.all_nil,Bool.and_true,Bool.and_eq_true]
 exact ⟨zft (by omega) (by omega),zft (by omega) (by omega),zft (by omega) (by omega),zft (by omega) (by omega),zft (by omega) (by omega),zft (by omega) (by omega)⟩
theorem zrt.mok {b:Bool} {w:Wheel} {M:List (Spot_×Int)} (hM:zrt b w M) (h:OkW w) {l:List Int} (hl:OkP w l) {p c:Int} (hp:0<=p) (hp':p<w.Round) (hc:0<=c) (hc2:c<1099511627776):mok zkS M (spot l p c)=true:=by
 unfold Go.AM.mok
 rw [zl0 h hl hp hp' hc hc2,show M.all (fun p=>zkS p.1)=true from List.all_eq_true.2 fun e he=>?_,show decide ((M.map (·.1)).Nodup)=true by simpa using hM.1]
 ·rfl
 ·obtain ⟨l',p',c',e1,e2,e3,e4,_⟩:=hM.2 e he
  rw [e1]
  exact zl0 h e2 e3.1 e3.2 e4.1 e4.2
theorem zrt.get {b:Bool} {w:Wheel} {M:List (Spot_×Int)} (hM:zrt b w M) (h:OkW w) {l:List Int} (hl:OkP w l) {p c:Int} (hk:zbY M (spot l p c)=true):ztI M (spot l p c)=Q b w (total l).toNat p c l:=by
 obtain ⟨l',p',c',e1,e2,e3,e4,e5⟩:=hM.2 _ (znM hk)
 simp only [spot,Spot_.mk.injEq] at e1
 obtain ⟨q1,q2,q3⟩:=e1
 have e:l=l':=zle q1 (by rw [hl.len,e2.len]) (by rw [hl.len];exact h.clen)
 subst e q2 q3
 exact e5
theorem zrt.set {b:Bool} {w:Wheel} {M:List (Spot_×Int)} (hM:zrt b w M) {l:List Int} (hl:OkP w l) {p c:Int} (hp:0<=p) (hp':p<w.Round) (hc:0<=c) (hc2:c<1099511627776):zrt b w (zf9 M (spot l p c) (Q b w (total l).toNat p c l)):=by
 refine ⟨zoQ hM.1,fun e he=>?_⟩
 rcases znN he with rfl | he
 ·exact ⟨l,p,c,rfl,hl,⟨hp,hp'⟩,⟨hc,hc2⟩,rfl⟩
 ·exact hM.2 e he
theorem zql {l:List Int} (h4:l.length<=4):l.getD 0 0+l.getD 1 0+l.getD 2 0+l.getD 3 0=total l:=by
 match l,h4 with
 | [],_=>rfl
 | [a],_=>simp [total]
 | [a,b],_=>simp [total]
 | [a,b,c],_=>simp [total];omega
 | [a,b,c,d],_=>simp [total];omega
def zhW (w:Wheel) (p c:Int) (l:List Int):Nat->Nat->List Opn
 | 0,_=>[]
 | d+1,k=>(if l.getD k 0=0 then [] else [zj2 w p c k])++zhW w p c l d (k+1)
theorem zfc {w:Wheel} {p c:Int} {l:List Int} {o:Opn}:∀{d k:Nat},o∈zhW w p c l d k↔∃j,k<=j/\j<k+d/\l.getD j 0≠0/\o=zj2 w p c j
 | 0,k=>by
  simp only [zhW,List.not_mem_nil,false_iff]
  rintro ⟨j,h1,h2,_⟩
  omega
 | d+1,k=>by
  simp only [zhW,List.mem_append]
  rw [zfc]
  constructor
  ·rintro (h | ⟨j,h1,h2,h3,h4⟩)
   ·split at h
    ·simp at h
    ·rename_i h0
     exact ⟨k,Nat.le_refl k,by omega,h0,by simpa using h⟩
   ·exact ⟨j,by omega,by omega,h3,h4⟩
  ·rintro ⟨j,h1,h2,h3,h4⟩
   by_cases e:j=k
   ·subst e
    exact .inl (by rw [if_neg h3];simpa using h4)
   ·exact .inr ⟨j,by omega,by omega,h3,h4⟩
theorem zr2 (w:Wheel) (c:Int) (l:List Int):∀d k,zmU w 0 c l d k=zhW w 0 c l d k
 | 0,k=>rfl
 | d+1,k=>by
  simp only [zmU,zhW,zr2 w c l d (k+1)]
  congr 1
  split
  ·rfl
  ·unfold zwj
   rw [if_pos (.inr rfl)]
def znO (b:Bool) (w:Wheel) (T:Nat) (l:List Int) (o:Opn):Int:=o.plays+Q b w T o.p o.c (zgb l o.k)
def zsH (b:Bool) (x y:Int):Int:=cond b (max x y) (min x y)
theorem znP (b:Bool) (x y:Int):leB b x (zsH b x y)/\leB b y (zsH b x y)/\(zsH b x y=x\/zsH b x y=y):=by
 cases b
 ·simp only [leB,zsH,cond_false];omega
 ·simp only [leB,zsH,cond_true];omega
theorem zsI (b:Bool) (w:Wheel) (T:Nat) (p c:Int) (l:List Int) (hc:c≠0) (hp:p≠0) (ht:total l≠0) :
  Q b w (T+1) p c l=zsH b (pick b ((zhW w p c l l.length 0).map (znO b w T l))) (Q b w (T+1) 0 (c-1) l):=by
 have h0:Q b w (T+1) 0 (c-1) l=pick b ((zhW w 0 (c-1) l l.length 0).map (znO b w T l)):=by
  simp only [Q,zr2]
  rfl
 rw [h0]
 obtain ⟨j,h1,h2,_⟩:=zqk (w:=w) (p:=p) (c:=c) ht
 have e1:(zhW w p c l l.length 0).map (znO b w T l)≠[]:=by
  intro e
  have:=List.mem_map_of_mem (f:=znO b w T l) (zfc.2 ⟨j,by omega,by omega,h2,rfl⟩:zj2 w p c j∈zhW w p c l l.length 0)
  rw [e] at this
  simp at this
 have e2:(zhW w 0 (c-1) l l.length 0).map (znO b w T l)≠[]:=by
  intro e
  have:=List.mem_map_of_mem (f:=znO b w T l) (zfc.2 ⟨j,by omega,by omega,h2,rfl⟩:zj2 w 0 (c-1) j∈zhW w 0 (c-1) l l.length 0)
  rw [e] at this
  simp at this
 obtain ⟨a1,a2⟩:=zgB b e1
 obtain ⟨b1,b2⟩:=zgB b e2
 obtain ⟨m1,m2,m3⟩:=znP b (pick b ((zhW w p c l l.length 0).map (znO b w T l))) (pick b ((zhW w 0 (c-1) l l.length 0).map (znO b w T l)))
 have vs:∀j,znO b w T l (zoS w c j)=znO b w T l (zj2 w 0 (c-1) j):=fun j=>rfl
 simp only [Q]
 refine zsG b ?_ ?_
 ·show _∈(zmU w p c l l.length 0).map (znO b w T l)
  rw [List.mem_map]
  rcases m3 with m3 | m3
  ·rw [m3]
   obtain ⟨o,ho,he⟩:=List.mem_map.1 a1
   obtain ⟨j,q1,q2,q3,rfl⟩:=zfc.1 ho
   exact ⟨_,zd2.2 ⟨j,q1,q2,q3,zes.2 (.inl rfl)⟩,he⟩
  ·rw [m3]
   obtain ⟨o,ho,he⟩:=List.mem_map.1 b1
   obtain ⟨j,q1,q2,q3,rfl⟩:=zfc.1 ho
   exact ⟨zoS w c j,zd2.2 ⟨j,q1,q2,q3,zes.2 (.inr ⟨hc,hp,rfl⟩)⟩,by rw [vs];exact he⟩
 ·intro v hv
  obtain ⟨o,ho,he⟩:=List.mem_map.1 hv
  obtain ⟨j,q1,q2,q3,q4⟩:=zd2.1 ho
  rw [←he]
  rcases zes.1 q4 with rfl | ⟨_,_,rfl⟩
  ·exact (a2 _ (List.mem_map_of_mem (f:=znO b w T l) (zfc.2 ⟨j,q1,q2,q3,rfl⟩))).trans m1
  ·refine leB.trans ?_ m2
   show leB b (znO b w T l (zoS w c j)) _
   rw [vs]
   exact b2 _ (List.mem_map_of_mem (f:=znO b w T l) (zfc.2 ⟨j,q1,q2,q3,rfl⟩))
def zcu (w:Wheel) (l:List Int):Bool:=decide (l.length=w.Coins.length)&&l.all (fun x=>inR x 0 12)&&decide (total l<=12)
theorem zru {w:Wheel} {l:List Int} (h:zcu w l=true):OkP w l/\total l<=12:=by
 simp only [zcu,Bool.and_eq_true,decide_eq_true_eq,List.all_eq_true] at h
 exact ⟨⟨h.1.1,fun x hx=>(zbX.1 (h.1.2 x hx)).1,by omega⟩,h.2⟩
theorem zig {n:Nat} {w:Wheel} (hw:w.Coins.length<100000) (hn:w.Coins.length<n) (l:List Int):zde n w l=some (zcu w l):=by
 unfold zde zcu
 by_cases hl:l.length=w.Coins.length
 ·rw [if_neg (by simp;omega)]
  have key:=zrn (F:=fun m i (s:Int)=>zby l m s i) (xs:=l) (spec:=fun k s=>some (k.all (fun x=>inR x 0 12)&&decide (s+total k<=12))) (I:=fun k s=>0<=s/\s+12*k.length<=100000000) (by omega)
   (fun m s hI=>by simp [zby,zcN,zdy,total])
   (fun m i x k s hI hx hi _ _ hrec=>by
    simp only [List.length_cons] at hI
    simp only [zby,zcN]
    rw [if_pos (by simpa using hi),hx,zab,zhV,zab,zab]
    by_cases q:inR x 0 12=true
    ·have:=zbX.1 q
     rw [if_neg (by simp [q]),zaS (x:=s+x) (by omega) (by omega),hrec (s+x) ⟨by omega,by omega⟩]
     have e:s+total (x::k)=s+x+total k:=by simp only [total];omega
     rw [e]
     simp only [List.all_cons,q,Bool.true_and]
    ·rw [if_pos (by simpa using q)]
     simp [q])
   l 0 n 0 (by omega) rfl (by omega) ⟨by omega,by omega⟩
  rw [show zby l n 0 0=_ from key]
  simp [hl]
 ·rw [if_pos (by simp;omega)]
  simp [hl]
def zd6 (w:Wheel):Stand->List Int->Int
 | _,[]=>0
 | s,a::l=>(if 0<=a then (turn w s.Place (coin w a)).2 else 0)+zd6 w (zhm w s a).1 l
def cnt (k:Int):List Int->Int
 | []=>0
 | a::l=>(if a=k then 1 else 0)+cnt k l
theorem zej (k:Int):∀(a b:List Int),cnt k (a++b)=cnt k a+cnt k b
 | [],b=>by simp [cnt]
 | x::a,b=>by
  simp only [List.cons_append,cnt]
  rw [zej k a b]
  omega
structure Way (w:Wheel) (s:Stand) (l acts:List Int) (q:Int):Prop where
 ok:acts.all (zei w)=true
 len:(acts.length:Int)<=2*total l
 bag:∀k:Nat,k<w.Coins.length->cnt k acts=l.getD k 0
 buys:zd6 w s acts=q
theorem zih {l:List Int} {k j:Nat} (hk:k<l.length):(zgb l k).getD j 0=l.getD j 0-(if k=j then 1 else 0):=by
 unfold zgb
 by_cases e:k=j
 ·subst e
  rw [if_pos rfl,List.getD_eq_getElem?_getD,List.getElem?_set_self hk]
  rfl
 ·rw [if_neg e,List.getD_eq_getElem?_getD,List.getElem?_set_ne e,←List.getD_eq_getElem?_getD]
  omega
theorem zlf {w:Wheel} {k:Nat} (h:k<w.Coins.length):zei w k=true:=zbX.2 ⟨by omega,by omega⟩
theorem zmV {w:Wheel}:zei w (-1)=true:=zbX.2 ⟨by omega,by omega⟩
theorem zqm (w:Wheel) (p c:Int) (k:Nat):zhm w ⟨p,c⟩ (k:Int)=(⟨(zj2 w p c k).p,(zj2 w p c k).c⟩,false):=by
 unfold zhm
 rw [if_pos (by omega)]
 rfl
theorem zr3 (w:Wheel) (p c:Int) (hc:c≠0):zhm w ⟨p,c⟩ (-1)=(⟨0,c-1⟩,true):=by
 unfold zhm
 rw [if_neg (by omega),if_neg hc]
theorem Way.step {w:Wheel} {p c:Int} {l acts:List Int} {q:Int} {o:Opn} (hl:OkP w l) (hc:0<=c) (ho:o∈zmU w p c l l.length 0) (h:Way w ⟨o.p,o.c⟩ (zgb l o.k) acts q):Way w ⟨p,c⟩ l (o.acts++acts) (o.plays+q):=by
 obtain ⟨j,_,h2,h3,h4⟩:=zd2.1 ho
 have hj:j<l.length:=by omega
 have hj':j<w.Coins.length:=by have:=hl.len;omega
 rcases zes.1 h4 with rfl | ⟨h5,h6,rfl⟩
 ·refine ⟨?_,?_,fun k hk=>?_,?_⟩
  ·show List.all ([(j:Int)]++acts) (zei w)=true
   rw [List.singleton_append,List.all_cons,zlf hj',h.ok]
   rfl
  ·have:=h.len
   have e:=zeW hj
   show ((([(j:Int)]++acts).length:Nat):Int)<=_
   rw [show (zj2 w p c j).k=j from rfl] at this
   simp
   omega
  ·show cnt k ((j:Int)::acts)=_
   simp only [cnt]
   rw [h.bag k hk,show (zj2 w p c j).k=j from rfl,zih hj]
   by_cases e:j=k
   ·rw [if_pos (by omega),if_pos e];omega
   ·rw [if_neg (by omega),if_neg e];omega
  ·show zd6 w ⟨p,c⟩ ((j:Int)::acts)=_
   simp only [zd6]
   rw [if_pos (by omega),zqm,h.buys]
   rfl
 ·refine ⟨?_,?_,fun k hk=>?_,?_⟩
  ·show List.all ([-1,(j:Int)]++acts) (zei w)=true
   rw [List.cons_append,List.singleton_append,List.all_cons,List.all_cons,zlf hj',zmV,h.ok]
   rfl
  ·have:=h.len
   have e:=zeW hj
   show ((([-1,(j:Int)]++acts).length:Nat):Int)<=_
   rw [show (zoS w c j).k=j from rfl] at this
   simp
   omega
  ·show cnt k (-1::(j:Int)::acts)=_
   simp only [cnt]
   rw [h.bag k hk,show (zoS w c j).k=j from rfl,zih hj,if_neg (by omega)]
   by_cases e:j=k
   ·rw [if_pos (by omega),if_pos e];omega
   ·rw [if_neg (by omega),if_neg e];omega
  ·show zd6 w ⟨p,c⟩ (-1::(j:Int)::acts)=_
   simp only [zd6]
   rw [if_neg (by omega),zr3 w p c h5]
   simp only []
   rw [if_pos (by omega),zqm]
   rw [show (⟨(zj2 w 0 (c-1) j).p,(zj2 w 0 (c-1) j).c⟩:Stand)=⟨(zoS w c j).p,(zoS w c j).c⟩ from rfl,h.buys]
   show 0+((turn w 0 (coin w j)).2+q)=(turn w 0 (coin w j)).2+q
   omega
theorem zr4 {w:Wheel} {T:Nat} {p c:Int} {l:List Int} (b:Bool) (h0:total l≠0):∃o,o∈zmU w p c l l.length 0/\o.plays+Q b w T o.p o.c (zgb l o.k)=Q b w (T+1) p c l:=by
 obtain ⟨j,h1,h2,h3⟩:=zqk (w:=w) (p:=p) (c:=c) h0
 have e:((zmU w p c l l.length 0).map fun o=>o.plays+Q b w T o.p o.c (zgb l o.k))≠[]:=by
  intro e
  rw [List.map_eq_nil_iff] at e
  rw [e] at h3
  simp at h3
 obtain ⟨a1,_⟩:=zgB b e
 obtain ⟨o,ho,he⟩:=List.mem_map.1 a1
 exact ⟨o,ho,he⟩
theorem zyP {w:Wheel} {T:Nat} {p c:Int} {l:List Int} (b:Bool) {o:Opn} (ho:o∈zmU w p c l l.length 0):leB b (o.plays+Q b w T o.p o.c (zgb l o.k)) (Q b w (T+1) p c l):=by
 have hm:=List.mem_map_of_mem (f:=fun o:Opn=>o.plays+Q b w T o.p o.c (zgb l o.k)) ho
 have e:((zmU w p c l l.length 0).map fun o=>o.plays+Q b w T o.p o.c (zgb l o.k))≠[]:=by
  intro e
  rw [e] at hm
  simp at hm
 exact (zgB b e).2 _ hm
theorem zwk (b:Bool) {w:Wheel} (h:OkW w):∀(T:Nat) {p c:Int} {l:List Int},(T:Int)=total l->OkP w l->0<=p->p<w.Round->0<=c->∃acts,Way w ⟨p,c⟩ l acts (Q b w T p c l)
 | 0,p,c,l,hT,hl,_,_,_=>⟨[],rfl,by simp;omega,fun k hk=>by rw [zoR hl.nn (by omega) k];rfl,rfl⟩
 | T+1,p,c,l,hT,hl,hp,hp',hc=>by
  obtain ⟨o,ho,he⟩:=zr4 (w:=w) (T:=T) (p:=p) (c:=c) b (show total l≠0 by omega)
  have ok:=zqj h hp hp' hc hl ho
  obtain ⟨acts,hw⟩:=zwk b h T (p:=o.p) (c:=o.c) (l:=zgb l o.k) (by rw [zeW (by rw [hl.len];exact ok.k)];omega) (hl.less ok.k ok.nz) ok.p0 ok.p1 ok.c0
  exact ⟨o.acts++acts,he▸hw.step hl hc ho⟩
theorem zl1 (k:Int):∀l:List Int,0<=cnt k l/\cnt k l<=l.length
 | []=>by simp [cnt]
 | a::l=>by
  have:=zl1 k l
  simp only [cnt,List.length_cons]
  split<;>omega
theorem zqn (b:Bool) {w:Wheel} (h:OkW w):∀(T:Nat) {p c c':Int} {l:List Int},(T:Int)=total l->OkP w l->0<=p->p<w.Round->0<=c->c<=c'->leB b (Q b w T p c l) (Q b w T p c' l)
 | 0,p,c,c',l,_,_,_,_,_,_=>leB.refl b _
 | T+1,p,c,c',l,hT,hl,hp,hp',hc,hcc=>by
  obtain ⟨o,ho,he⟩:=zr4 (w:=w) (T:=T) (p:=p) (c:=c) b (show total l≠0 by omega)
  have ok:=zqj h hp hp' hc hl ho
  have hT':(T:Int)=total (zgb l o.k):=by rw [zeW (by rw [hl.len];exact ok.k)];omega
  obtain ⟨j,h1,h2,h3,h4⟩:=zd2.1 ho
  rw [←he]
  rcases zes.1 h4 with rfl | ⟨h5,h6,rfl⟩
  ·have ih:=zqn b h T (p:=(zj2 w p c j).p) (c:=(zj2 w p c j).c) (c':=(zj2 w p c' j).c) hT' (hl.less ok.k ok.nz) ok.p0 ok.p1 ok.c0 (by show c+_<=c'+_;omega)
   exact (ih.add _).trans (zyP (T:=T) (p:=p) (c:=c') b (o:=zj2 w p c' j) (zd2.2 ⟨j,h1,h2,h3,zes.2 (.inl rfl)⟩))
  ·have ih:=zqn b h T (p:=(zoS w c j).p) (c:=(zoS w c j).c) (c':=(zoS w c' j).c) hT' (hl.less ok.k ok.nz) ok.p0 ok.p1 ok.c0 (by show c-1+_<=c'-1+_;omega)
   exact (ih.add _).trans (zyP (T:=T) (p:=p) (c:=c') b (o:=zoS w c' j) (zd2.2 ⟨j,h1,h2,h3,zes.2 (.inr ⟨by omega,h6,rfl⟩)⟩))
theorem zyQ (b:Bool) {w:Wheel} (h:OkW w) {T:Nat} {p c:Int} {l:List Int} (hT:(T:Int)=total l) (hl:OkP w l) (hp:0<=p) (hp':p<w.Round) (hc:0<c):leB b (Q b w T 0 (c-1) l) (Q b w T p c l):=by
 have hr:=h.r1
 cases T with
 | zero=>exact leB.refl b _
 | succ T =>
  by_cases e:p=0
  ·subst e
   exact zqn b h (T+1) hT hl (by omega) (by omega) (by omega) (by omega)
  ·rw [zsI b w T p c l (by omega) e (by omega)]
   exact (znP b _ _).2.1
theorem zsJ {w:Wheel} {l:List Int} (hl:OkP w l) (h:∀k:Nat,k<w.Coins.length->(0:Int)=l.getD k 0):total l=0:=by
 by_cases e:total l=0
 ·exact e
 ·obtain ⟨j,h1,h2⟩:=zjO e
  exact (h2 (h j (by rw [←hl.len];exact h1)).symm).elim
theorem zl2 (b:Bool) {w:Wheel} (h:OkW w):∀(acts:List Int) {p c:Int} {l:List Int},acts.all (zei w)=true->(∀k:Nat,k<w.Coins.length->cnt k acts=l.getD k 0)->OkP w l->0<=p->p<w.Round->0<=c->leB b (zd6 w ⟨p,c⟩ acts) (Q b w (total l).toNat p c l)
 | [],p,c,l,_,hk,hl,_,_,_=>by
  rw [zsJ hl hk]
  exact leB.refl b 0
 | a::acts,p,c,l,hok,hk,hl,hp,hp',hc=>by
  have hr:=h.r1
  simp only [List.all_cons,Bool.and_eq_true] at hok
  have ha:=zbX.1 hok.1
  by_cases h0:0<=a
  ·obtain ⟨k,rfl⟩:∃k:Nat,a=k:=⟨a.toNat,by omega⟩
   have hkl:k<w.Coins.length:=by omega
   have hkl':k<l.length:=by rw [hl.len];exact hkl
   have hnz:l.getD k 0≠0:=by
    have e:=hk k hkl
    simp only [cnt] at e
    have:=zl1 (k:Int) acts
    rw [if_pos trivial] at e
    omega
   have hco:=zdm h (a:=(k:Int)) (by omega) (by omega)
   have ht:=zdl h hp hp' (show 0<=coin w k by omega)
   have hlt:=zeW hkl'
   have hnn:=zdn (hl.less hkl hnz).nn
   have ih:=zl2 b h acts (p:=(zj2 w p c k).p) (c:=(zj2 w p c k).c) (l:=zgb l k) hok.2 (fun j hj=>by
    have e:=hk j hj
    simp only [cnt] at e
    rw [zih hkl']
    by_cases q:k=j
    ·rw [if_pos (by omega)] at e;rw [if_pos q];omega
    ·rw [if_neg (by omega)] at e;rw [if_neg q];omega) (hl.less hkl hnz) ht.1.1 ht.1.2 (by show 0<=c+_;omega)
   simp only [zd6]
   rw [if_pos h0,zqm]
   have eT:(total l).toNat=(total (zgb l k)).toNat+1:=by omega
   rw [eT]
   exact (ih.add _).trans (zyP b (o:=zj2 w p c k) (zd2.2 ⟨k,by omega,by omega,hnz,zes.2 (.inl rfl)⟩))
  ·have ea:a=-1:=by omega
   subst ea
   have hk':∀k:Nat,k<w.Coins.length->cnt k acts=l.getD k 0:=fun k hkl=>by
    have e:=hk k hkl
    simp only [cnt] at e
    rw [if_neg (by omega)] at e
    omega
   simp only [zd6]
   rw [if_neg h0,Int.zero_add]
   by_cases hc0:c=0
   ·have e:(zhm w ⟨p,c⟩ (-1)).1=⟨p,c⟩:=by
     unfold zhm
     rw [if_neg h0,if_pos hc0]
    rw [e]
    exact zl2 b h acts hok.2 hk' hl hp hp' hc
   ·rw [zr3 w p c hc0]
    have hnn:=zdn hl.nn
    exact (zl2 b h acts hok.2 hk' hl (by omega) (by omega) (by omega)).trans (zyQ b h (by omega) hl hp hp' (by omega))
def zoT (w:Wheel) (l:List Int):Nat->Nat->Int
 | 0,_=>0
 | d+1,k=>coin w k*l.getD k 0+zoT w l d (k+1)
def zbk (w:Wheel) (l:List Int):Int:=zoT w l w.Coins.length 0
theorem zwl {w:Wheel} (h:OkW w) {l:List Int} (hl:∀k,0<=l.getD k 0/\l.getD k 0<=1000) {k:Nat} (hk:k<w.Coins.length):0<=coin w k*l.getD k 0/\coin w k*l.getD k 0<=100000:=by
 have hco:=zdm h (a:=(k:Int)) (by omega) (by omega)
 have:=hl k
 refine ⟨Int.mul_nonneg (by omega) (by omega),?_⟩
 have h1:coin w k*l.getD k 0<=100*l.getD k 0:=Int.mul_le_mul_of_nonneg_right hco.2 (by omega)
 omega
theorem zku {w:Wheel} (h:OkW w) {l:List Int} (hl:∀k,0<=l.getD k 0/\l.getD k 0<=1000):∀(d k:Nat),k+d<=w.Coins.length->0<=zoT w l d k/\zoT w l d k<=100000*d
 | 0,k,_=>by simp [zoT]
 | d+1,k,hk=>by
  have:=zku h hl d (k+1) (by omega)
  have:=zwl h hl (show k<w.Coins.length by omega)
  simp only [zoT]
  omega
def down:Nat->List Int
 | 0=>[0]
 | n+1=>((n+1:Nat):Int)::down n
def upF:Nat->Nat->List Int
 | _,0=>[]
 | i,d+1=>(i:Int)::upF (i+1) d
theorem zlg {v:Int}:∀{d i:Nat},v∈upF i d↔(i:Int)<=v/\v<i+d
 | 0,i=>by simp [upF]<;>omega
 | d+1,i=>by
  simp only [upF,List.mem_cons,zlg]
  omega
theorem zmW:∀(d i:Nat),(upF i d).length=d
 | 0,i=>rfl
 | d+1,i=>by simp [upF,zmW d (i+1)]
def Part (t l:List Int):Prop:=t.length=l.length/\∀k,0<=t.getD k 0/\t.getD k 0<=l.getD k 0
def zr5 (w:Wheel) (t:List Int):List Int:=t.take w.Coins.length
structure OkT (w:Wheel) (t:List Int):Prop where
 len:t.length=4
 rng:∀k,0<=t.getD k 0/\t.getD k 0<=1000
 out:∀k,w.Coins.length<=k->t.getD k 0=0
 tot:total (zr5 w t)<=1000
theorem zl3 {w:Wheel} {t:List Int} (h:OkT w t) (k:Nat):(zr5 w t).getD k 0=t.getD k 0:=by
 unfold zr5
 rw [List.getD_eq_getElem?_getD,List.getElem?_take]
 split
 ·rfl
 ·rw [h.out k (by omega)]
  rfl
theorem OkT.purse {w:Wheel} (hw:OkW w) {t:List Int} (h:OkT w t):OkP w (zr5 w t):=by
 have h4:=hw.clen
 have hl:=h.len
 refine ⟨by simp [zr5];omega,fun x hx=>?_,h.tot⟩
 obtain ⟨i,hi,rfl⟩:=List.getElem_of_mem hx
 have e:(zr5 w t)[i]=(zr5 w t).getD i 0:=by simp [hi]
 rw [e,zl3 h]
 exact (h.rng i).1
theorem OkT.bag {w:Wheel} {t:List Int} (h:OkT w t):zbA t=zbA (zr5 w t):=by
 simp only [zbA,zl3 h]
def zhk (w:Wheel):Stand->List Int->Stand
 | s,[]=>s
 | s,a::l=>zhk w (zhm w s a).1 l
theorem zdG (w:Wheel):∀(a b:List Int) (s:Stand),zhk w s (a++b)=zhk w (zhk w s a) b
 | [],b,s=>rfl
 | x::a,b,s=>zdG w a b _
theorem zeD (w:Wheel):∀(a b:List Int) (s:Stand),zd6 w s (a++b)=zd6 w s a+zd6 w (zhk w s a) b
 | [],b,s=>by simp [zd6,zhk]
 | x::a,b,s=>by
  simp only [List.cons_append,zd6,zhk]
  rw [zeD w a b]
  omega
theorem zqo {w:Wheel} (h:OkW w):∀(acts:List Int) (s:Stand) (b:Int),OkS w s b->acts.all (zei w)=true->OkS w (zhk w s acts) (b+100*acts.length)
 | [],s,b,hs,_=>by simpa [zhk] using hs
 | a::l,s,b,hs,ha=>by
  rw [List.all_cons,Bool.and_eq_true] at ha
  have:=zqo h l _ _ (zqh h hs ha.1) ha.2
  simp only [zhk,List.length_cons]
  rwa [show b+100*((l.length+1:Nat):Int)=b+100+100*(l.length:Int) by omega]
def Can (w:Wheel) (al:List Int) (v:Int):Prop:=∃acts:List Int,acts.all (zei w)=true/\(∀k:Nat,k<w.Coins.length->cnt k acts=al.getD k 0)/\zd6 w ⟨0,0⟩ acts=v
structure Pn where
 p:Int
 c:Int
 l:List Int
 b:Int
def zl (w:Wheel):List Int:=List.replicate w.Coins.length 0
def zfd (l:List Int) (k:Nat):List Int:=l.set k (l.getD k 0+1)
def zqJ (cl:Int->Int->Int) (x:Pn):Pn:=⟨0,cl (total x.l) (x.c-1),x.l,x.b⟩
def zoU (cl:Int->Int->Int) (w:Wheel) (x:Pn) (k:Nat):Pn:=⟨(turn w x.p (coin w k)).1,cl (total x.l+1) (x.c+(turn w x.p (coin w k)).2),zfd x.l k,x.b+(turn w x.p (coin w k)).2⟩
def zj3 (w:Wheel):Pn:=⟨0,0,zl w,0⟩
inductive RP (cl:Int->Int->Int) (w:Wheel) (al:List Int):List Int->Pn->Prop
 | zero:RP cl w al [] (zj3 w)
 | sel {acts:List Int} {x:Pn} (h:RP cl w al acts x) (hc:0<x.c) (hp:0<x.p):RP cl w al (acts++[-1]) (zqJ cl x)
 | coin {acts:List Int} {x:Pn} {k:Nat} (h:RP cl w al acts x) (hk:k<w.Coins.length) (hl:x.l.getD k 0≠al.getD k 0):RP cl w al (acts++[(k:Int)]) (zoU cl w x k)
theorem ziU:∀n:Nat,total (List.replicate n 0)=0
 | 0=>rfl
 | n+1=>by rw [List.replicate_succ,total,ziU n];rfl
theorem zjP (w:Wheel) (k:Nat):(zl w).getD k 0=0:=by
 unfold zl
 rw [List.getD_eq_getElem?_getD,List.getElem?_replicate]
 split<;>rfl
theorem zl4 (l:List Int) (k:Nat):(zfd l k).length=l.length:=by simp [zfd]
theorem zfO {l:List Int} {k j:Nat} (hk:k<l.length):(zfd l k).getD j 0=l.getD j 0+(if k=j then 1 else 0):=by
 unfold zfd
 by_cases e:k=j
 ·subst e
  rw [if_pos rfl,List.getD_eq_getElem?_getD,List.getElem?_set_self hk]
  rfl
 ·rw [if_neg e,List.getD_eq_getElem?_getD,List.getElem?_set_ne e,←List.getD_eq_getElem?_getD]
  omega
theorem zek {l:List Int} {k:Nat} (h:k<l.length):total (zfd l k)=total l+1:=by
 unfold zfd
 rw [zgC h]
 omega
theorem zfe:∀{l m:List Int},l.length=m.length->(∀k,l.getD k 0<=m.getD k 0)->total l<=total m
 | [],[],_,_=>Int.le_refl _
 | [],_::_,h,_=>by simp at h
 | _::_,[],h,_=>by simp at h
 | x::l,y::m,h,hk=>by
  have h0:=hk 0
  have:=zfe (l:=l) (m:=m) (by simpa using h) (fun k=>by simpa using hk (k+1))
  simp only [total]
  simp at h0
  omega
theorem zjQ {l m:List Int} (h:l.length=m.length) (hk:∀k,l.getD k 0<=m.getD k 0) {k:Nat} (hlt:l.getD k 0<m.getD k 0):total l<total m:=by
 have hkl:k<l.length:=by
  rcases Nat.lt_or_ge k l.length with h1 | h1
  ·exact h1
  ·rw [List.getD_eq_getElem?_getD,List.getD_eq_getElem?_getD,List.getElem?_eq_none h1,List.getElem?_eq_none (by omega)] at hlt
   simp at hlt
 have h1:=zfe (l:=zfd l k) (m:=m) (by rw [zl4];exact h) fun j=>by
  rw [zfO hkl]
  have:=hk j
  split
  ·rename_i e
   subst e
   omega
  ·omega
 rw [zek hkl] at h1
 omega
structure Clamp (cl:Int->Int->Int) (T:Int):Prop where
 le:∀t c,cl t c<=c
 nn:∀t c,t<=T->0<=c->0<=cl t c
structure OkX (w:Wheel) (al:List Int) (acts:List Int) (x:Pn):Prop where
 p0:0<=x.p
 p1:x.p<w.Round
 c0:0<=x.c
 cb:x.c<=x.b
 bt:x.b<=100*total x.l
 len:x.l.length=w.Coins.length
 nn:∀k,0<=x.l.getD k 0
 le:∀k,x.l.getD k 0<=al.getD k 0
 ok:acts.all (zei w)=true
 bag:∀k:Nat,cnt k acts=x.l.getD k 0
 buys:zd6 w ⟨0,0⟩ acts=x.b
 pl:(zhk w ⟨0,0⟩ acts).Place=x.p
 cr:x.c<=(zhk w ⟨0,0⟩ acts).Credit
theorem zeX (k:Nat) (a:Int):cnt k [a]=if a=(k:Int) then 1 else 0:=by simp [cnt]
theorem RP.ok {cl:Int->Int->Int} {w:Wheel} {al:List Int} (h:OkW w) (hl:al.length=w.Coins.length) (hnn:∀k,0<=al.getD k 0) (hcl:Clamp cl (total al)) {acts:List Int} {x:Pn} (hr:RP cl w al acts x):OkX w al acts x:=by
 have hr1:=h.r1
 induction hr with
 | zero=>exact ⟨Int.le_refl _,by show (0:Int)<w.Round;omega,Int.le_refl _,Int.le_refl _,by show (0:Int)<=100*total (zl w);rw [show total (zl w)=0 from ziU _];omega,by simp [zj3,zl],fun k=>by show 0<=(zl w).getD k 0;rw [zjP];omega,fun k=>by show (zl w).getD k 0<=_;rw [zjP];exact hnn k,rfl,fun k=>by show _=(zl w).getD k 0;rw [zjP];rfl,rfl,rfl,Int.le_refl _⟩
 | @sel acts x hr hc hp ih =>
  have ht:total x.l<=total al:=zfe (by rw [ih.len,hl]) ih.le
  have hcr:=ih.cr
  have he:zhm w (zhk w ⟨0,0⟩ acts) (-1)=(⟨0,(zhk w ⟨0,0⟩ acts).Credit-1⟩,true):=by
   unfold zhm
   rw [if_neg (by omega),if_neg (by omega)]
  have hle:=hcl.le (total x.l) (x.c-1)
  have hcb:=ih.cb
  refine ⟨Int.le_refl _,by show (0:Int)<w.Round;omega,hcl.nn _ _ ht (by omega),by show cl _ _<=x.b;omega,ih.bt,ih.len,ih.nn,ih.le,?_,fun k=>?_,?_,?_,?_⟩
  ·rw [List.all_append,ih.ok]
   simp [zmV]
  ·rw [zej,ih.bag,zeX,if_neg (by omega)]
   exact Int.add_zero _
  ·rw [zeD,ih.buys]
   simp [zd6,zqJ]
  ·rw [zdG]
   simp only [zhk,he]
   rfl
  ·rw [zdG]
   simp only [zhk,he]
   show cl _ _<=_
   omega
 | @coin acts x k hr hk hne ih =>
  have hkl:k<x.l.length:=by rw [ih.len];exact hk
  have hlt:x.l.getD k 0<al.getD k 0:=by have:=ih.le k;omega
  have ht:total x.l<total al:=zjQ (by rw [ih.len,hl]) ih.le hlt
  have hcoin:=zdm h (a:=(k:Int)) (by omega) (by omega)
  have htr:=zdl h ih.p0 ih.p1 (show 0<=Go.Law.coin w k by omega)
  have hcb:=ih.cb
  have hbt:=ih.bt
  have hc0:=ih.c0
  have hcr:=ih.cr
  have he:(zhm w (zhk w ⟨0,0⟩ acts) (k:Int)).1=⟨(turn w x.p (Go.Law.coin w k)).1,(zhk w ⟨0,0⟩ acts).Credit+(turn w x.p (Go.Law.coin w k)).2⟩:=by
   unfold zhm
   rw [if_pos (by omega),ih.pl]
  have hle:=hcl.le (total x.l+1) (x.c+(turn w x.p (Go.Law.coin w k)).2)
  refine ⟨htr.1.1,htr.1.2,hcl.nn _ _ (by omega) (by omega),?_,?_,?_,fun j=>?_,fun j=>?_,?_,fun j=>?_,?_,?_,?_⟩
  ·show cl _ _<=x.b+_
   omega
  ·show x.b+_<=100*total (zfd x.l k)
   rw [zek hkl]
   omega
  ·show (zfd x.l k).length=_
   rw [zl4,ih.len]
  ·show 0<=(zfd x.l k).getD j 0
   rw [zfO hkl]
   have:=ih.nn j
   split<;>omega
  ·show (zfd x.l k).getD j 0<=_
   rw [zfO hkl]
   have:=ih.le j
   split
   ·rename_i e
    subst e
    omega
   ·omega
  ·rw [List.all_append,ih.ok]
   simp [zlf hk]
  ·show _=(zfd x.l k).getD j 0
   rw [zej,ih.bag,zeX,zfO hkl]
   congr 1
   by_cases e:k=j
   ·subst e;simp
   ·rw [if_neg e,if_neg (by omega)]
  ·rw [zeD,ih.buys]
   simp only [zd6,ih.pl]
   rw [if_pos (by omega)]
   show x.b+(_+0)=x.b+_
   omega
  ·rw [zdG]
   simp only [zhk,he]
   rfl
  ·rw [zdG]
   simp only [zhk,he]
   show cl _ _<=_
   omega
theorem zeK {al:List Int} (h:∀k,0<=al.getD k 0):∀x,x∈al->0<=x:=fun x hx=>by
 obtain ⟨k,hk⟩:=List.getElem?_of_mem hx
 have:=h k
 rwa [List.getD_eq_getElem?_getD,hk] at this
theorem zmX (l:List Int):l=[]\/∃q a,l=q++[a]:=zhi l
def clT (T:Int):Int->Int->Int:=fun t c=>min c (T-t)
theorem zii (T:Int):Clamp (clT T) T:=⟨fun t c=>by unfold clT;omega,fun t c h1 h2=>by unfold clT;omega⟩
theorem zmY {w:Wheel} {a:Int} (h:zei w a=true):a=-1\/∃k:Nat,k<w.Coins.length/\a=k:=by
 have h:=zbX.1 h
 by_cases h0:0<=a
 ·exact .inr ⟨a.toNat,by omega,by omega⟩
 ·exact .inl (by omega)
theorem cnt_mono {k:Nat} {l:List Int} {a:Int}:cnt k l<=cnt k (l++[a]):=by
 rw [zej,zeX]
 split<;>omega
theorem zqp {w:Wheel} {al:List Int} (h:OkW w) (hl:al.length=w.Coins.length) (hnn:∀k,0<=al.getD k 0):∀(n:Nat) (acts:List Int),acts.length=n->acts.all (zei w)=true->(∀k:Nat,k<w.Coins.length->cnt k acts<=al.getD k 0) ->
  ∃acts' x,RP (clT (total al)) w al acts' x/\x.b=zd6 w ⟨0,0⟩ acts/\(∀k:Nat,k<w.Coins.length->x.l.getD k 0=cnt k acts)/\(total x.l<total al->x.p=(zhk w ⟨0,0⟩ acts).Place/\min (zhk w ⟨0,0⟩ acts).Credit (if x.p=0 then total al-total x.l-1 else total al-total x.l)<=x.c)
 | 0,acts,hlen,_,_=>by
  obtain rfl:=List.eq_nil_of_length_eq_zero hlen
  refine ⟨[],zj3 w,.zero,rfl,fun k _=>zjP w k,fun ht=>⟨rfl,?_⟩⟩
  show min (0:Int) _<=0
  omega
 | n+1,acts,hlen,hok,hbag=>by
  rcases zmX acts with rfl | ⟨l,a,rfl⟩
  ·simp at hlen
  rw [List.all_append,Bool.and_eq_true] at hok
  have hoa:zei w a=true:=by simpa using hok.2
  obtain ⟨acts',x,hr,hb,hcn,hx⟩:=zqp h hl hnn n l (by simpa using hlen) hok.1 fun k hk=>Int.le_trans cnt_mono (hbag k hk)
  have hX:=hr.ok h hl hnn (zii _)
  have hes:=zqo h l ⟨0,0⟩ 0 ⟨Int.le_refl _,by show (0:Int)<w.Round;have:=h.r1;omega,Int.le_refl _,Int.le_refl _⟩ hok.1
  have hec:=hes.c0
  have hep:=hes.p0
  have htl:total x.l<=total al:=zfe (by rw [hX.len,hl]) hX.le
  rcases zmY hoa with rfl | ⟨k,hk,rfl⟩
  ·have hbu:zd6 w ⟨0,0⟩ (l++[-1])=zd6 w ⟨0,0⟩ l:=by rw [zeD];simp [zd6]
   have hcn':∀k:Nat,cnt k (l++[-1])=cnt k l:=fun k=>by
    rw [zej,zeX,if_neg (by omega)]
    exact Int.add_zero _
   have he:zhk w ⟨0,0⟩ (l++[-1])=if (zhk w ⟨0,0⟩ l).Credit=0 then zhk w ⟨0,0⟩ l else ⟨0,(zhk w ⟨0,0⟩ l).Credit-1⟩:=by
    rw [zdG]
    simp only [zhk,zhm]
    rw [if_neg (by omega)]
    split<;>rfl
   by_cases ht:total x.l<total al
   ·obtain ⟨hp,hc⟩:=hx ht
    by_cases hz:(zhk w ⟨0,0⟩ l).Credit=0
    ·exact ⟨acts',x,hr,by rw [hbu,hb],fun k hk=>by rw [hcn',hcn k hk],fun _=>by rw [he,if_pos hz];exact ⟨hp,hc⟩⟩
    ·by_cases hp0:x.p=0
     ·refine ⟨acts',x,hr,by rw [hbu,hb],fun k hk=>by rw [hcn',hcn k hk],fun _=>?_⟩
      rw [he,if_neg hz]
      refine ⟨hp0,?_⟩
      rw [if_pos hp0] at hc ⊢
      show min (_-1) _<=_
      omega
     ·rw [if_neg hp0] at hc
      have hp1:=hX.p0
      refine ⟨_,_,hr.sel (by omega) (by omega),by rw [hbu,←hb];rfl,fun k hk=>by rw [hcn',←hcn k hk];rfl,fun _=>?_⟩
      rw [he,if_neg hz]
      refine ⟨rfl,?_⟩
      show min (_-1) (if (0:Int)=0 then _ else _)<=min (x.c-1) (total al-total x.l)
      rw [if_pos rfl]
      show min (_-1) (total al-total x.l-1)<=_
      omega
   ·exact ⟨acts',x,hr,by rw [hbu,hb],fun k hk=>by rw [hcn',hcn k hk],fun ht'=>absurd ht' ht⟩
  ·have hck:cnt k (l++[(k:Int)])=cnt k l+1:=by rw [zej,zeX,if_pos rfl]
   have hlt:x.l.getD k 0<al.getD k 0:=by
    have:=hbag k hk
    rw [hcn k hk]
    omega
   have ht:total x.l<total al:=zjQ (by rw [hX.len,hl]) hX.le hlt
   obtain ⟨hp,hc⟩:=hx ht
   have hkl:k<x.l.length:=by rw [hX.len];exact hk
   have he:zhk w ⟨0,0⟩ (l++[(k:Int)])=⟨(turn w x.p (coin w k)).1,(zhk w ⟨0,0⟩ l).Credit+(turn w x.p (coin w k)).2⟩:=by
    rw [zdG]
    simp only [zhk,zhm]
    rw [if_pos (by omega),hp]
   have hcoin:=zdm h (a:=(k:Int)) (by omega) (by omega)
   have htr:=zdl h hX.p0 hX.p1 (show 0<=coin w k by omega)
   have hc0:=hX.c0
   refine ⟨_,_,hr.coin hk (by omega),?_,fun j hj=>?_,fun ht'=>?_⟩
   ·rw [zeD]
    simp only [zd6]
    rw [if_pos (by omega),←hb,←hp]
    show x.b+_=x.b+(_+0)
    omega
   ·show (zfd x.l k).getD j 0=_
    rw [zfO hkl,hcn j hj,zej,zeX]
    congr 1
    by_cases e:k=j
    ·subst e;simp
    ·rw [if_neg e,if_neg (by omega)]
   ·rw [he]
    refine ⟨rfl,?_⟩
    show min (_+_) (if (turn w x.p (coin w k)).1=0 then total al-total (zfd x.l k)-1 else total al-total (zfd x.l k))<=min (x.c+_) (total al-(total x.l+1))
    rw [zek hkl]
    by_cases h1:x.p=0
    ·rw [if_pos h1] at hc
     split<;>omega
    ·rw [if_neg h1] at hc
     split<;>omega
theorem zfu {l m:List Int} {n:Nat} (h1:l.length=n) (h2:m.length=n) (h:∀k:Nat,k<n->l.getD k 0=m.getD k 0):l=m:=by
 apply List.ext_getElem (by omega)
 intro k a b
 have:=h k (by omega)
 simpa [List.getD_eq_getElem?_getD,a,b] using this
theorem zwm {w:Wheel} {al:List Int} (h:OkW w) (hl:al.length=w.Coins.length) (hnn:∀k,0<=al.getD k 0) {v:Int}:Can w al v↔∃acts x,RP (clT (total al)) w al acts x/\x.l=al/\x.b=v:=by
 constructor
 ·rintro ⟨acts,hok,hbag,hb⟩
  obtain ⟨acts',x,hr,h1,h2,_⟩:=zqp h hl hnn acts.length acts rfl hok fun k hk=>Int.le_of_eq (hbag k hk)
  have hX:=hr.ok h hl hnn (zii _)
  exact ⟨acts',x,hr,zfu hX.len hl fun k hk=>by rw [h2 k hk,hbag k hk],by rw [h1,hb]⟩
 ·rintro ⟨acts,x,hr,rfl,rfl⟩
  have hX:=hr.ok h hl hnn (zii _)
  exact ⟨acts,hX.ok,fun k _=>hX.bag k,hX.buys⟩
theorem RP.short {w:Wheel} {al:List Int} (h:OkW w) (hl:al.length=w.Coins.length) (hnn:∀k,0<=al.getD k 0) {acts:List Int} {x:Pn} (hr:RP (clT (total al)) w al acts x) :
  x.c<=total al-total x.l/\((acts.length:Int)<=2*total x.l\/x.p=0/\total x.l<total al/\(acts.length:Int)<=2*total x.l+1):=by
 induction hr with
 | zero =>
  have h0:total (zl w)=0:=ziU _
  have h1:0<=total al:=zdn (zeK hnn)
  refine ⟨?_,.inl ?_⟩
  ·show (0:Int)<=total al-total (zl w)
   omega
  ·show ((0:Nat):Int)<=2*total (zl w)
   omega
 | @sel acts x hr hc hp ih =>
  refine ⟨?_,.inr ⟨rfl,?_,?_⟩⟩
  ·show min (x.c-1) (total al-total x.l)<=total al-total x.l
   omega
  ·show total x.l<total al
   omega
  ·show ((acts++[-1]).length:Int)<=2*total x.l+1
   rw [List.length_append,List.length_singleton]
   rcases ih.2 with h1 | ⟨h1,_⟩
   ·omega
   ·omega
 | @coin acts x k hr hk hne ih =>
  have hX:=hr.ok h hl hnn (zii _)
  have hkl:k<x.l.length:=by rw [hX.len];exact hk
  refine ⟨?_,.inl ?_⟩
  ·show min _ (total al-(total x.l+1))<=total al-total (zfd x.l k)
   rw [zek hkl]
   omega
  ·show ((acts++[(k:Int)]).length:Int)<=2*total (zfd x.l k)
   rw [zek hkl,List.length_append,List.length_singleton]
   rcases ih.2 with h1 | ⟨_,_,h1⟩<;>omega
def lvl (cl:Int->Int->Int) (w:Wheel):Nat->List Pn
 | 0=>[zj3 w]
 | t+1=>(lvl cl w t++(lvl cl w t).map (zqJ cl)).flatMap fun x=>(List.range w.Coins.length).map fun k=>zoU cl w x k
def lvs (cl:Int->Int->Int) (w:Wheel) (t:Nat):List Pn:=lvl cl w t++(lvl cl w t).map (zqJ cl)
def zr6 (cl:Int->Int->Int) (w:Wheel):Nat->List Pn
 | 0=>lvs cl w 0
 | t+1=>zr6 cl w t++lvs cl w (t+1)
theorem zij {α β:Type} {f:α->List β} {c:Nat}:∀{l:List α},(∀x,x∈l->(f x).length<=c)->(l.flatMap f).length<=l.length*c
 | [],_=>by simp
 | x::l,h=>by
  have h1:=h x (by simp)
  have h2:=zij (f:=f) (c:=c) (l:=l) fun y hy=>h y (by simp [hy])
  simp only [List.flatMap_cons,List.length_append,List.length_cons,Nat.add_mul,Nat.one_mul]
  omega
theorem zmZ (cl:Int->Int->Int) {w:Wheel} (hk:w.Coins.length<=3):∀t,(lvl cl w t).length<=6 ^ t
 | 0=>by simp [lvl]
 | t+1=>by
  have h1:=zmZ cl hk t
  unfold lvl
  refine Nat.le_trans (zij (c:=3) fun x _=>by simp;exact hk) ?_
  rw [List.length_append,List.length_map,Nat.pow_succ]
  omega
theorem zrv (cl:Int->Int->Int) {w:Wheel} (hk:w.Coins.length<=3) {t:Nat} (ht:t<=5):(zr6 cl w t).length<=93312:=by
 have key:∀t,t<=5->(zr6 cl w t).length<=(t+1)*15552:=by
  intro t
  induction t with
  | zero =>
   intro _
   have:=zmZ cl hk 0
   simp only [zr6,lvs,List.length_append,List.length_map]
   omega
  | succ t ih =>
   intro ht
   have h1:=ih (by omega)
   have h2:=zmZ cl hk (t+1)
   have h3:6 ^ (t+1)<=6 ^ 5:=Nat.pow_le_pow_right (by omega) ht
   simp only [zr6,lvs,List.length_append,List.length_map]
   have:(6:Nat) ^ 5=7776:=by decide
   omega
 have:=key t ht
 omega
theorem RP.level {cl:Int->Int->Int} {w:Wheel} {al:List Int} (h:OkW w) (hl:al.length=w.Coins.length) (hnn:∀k,0<=al.getD k 0) (hcl:Clamp cl (total al)) {acts:List Int} {x:Pn} (hr:RP cl w al acts x):x∈lvl cl w (total x.l).toNat\/x.p=0/\x∈(lvl cl w (total x.l).toNat).map (zqJ cl):=by
 induction hr with
 | zero =>
  refine .inl ?_
  have:total (zj3 w).l=0:=ziU _
  rw [this]
  simp [lvl]
 | @sel acts x hr hc hp ih =>
  refine .inr ⟨rfl,?_⟩
  show zqJ cl x∈(lvl cl w (total x.l).toNat).map (zqJ cl)
  rcases ih with ih | ⟨h0,_⟩
  ·exact List.mem_map.2 ⟨x,ih,rfl⟩
  ·omega
 | @coin acts x k hr hk hne ih =>
  have hX:=hr.ok h hl hnn hcl
  have hkl:k<x.l.length:=by rw [hX.len];exact hk
  have h0:0<=total x.l:=zdn (zeK hX.nn)
  refine .inl ?_
  have e:(total (zoU cl w x k).l).toNat=(total x.l).toNat+1:=by
   show (total (zfd x.l k)).toNat=_
   rw [zek hkl]
   omega
  rw [e]
  unfold lvl
  refine List.mem_flatMap.2 ⟨x,?_,List.mem_map.2 ⟨k,List.mem_range.2 hk,rfl⟩⟩
  rcases ih with ih | ⟨_,ih⟩
  ·exact List.mem_append_left _ ih
  ·exact List.mem_append_right _ ih
theorem znQ (cl:Int->Int->Int) (w:Wheel):∀{t m:Nat},m<=t->∀x,x∈lvs cl w m->x∈zr6 cl w t
 | 0,m,h,x,hx=>by
  obtain rfl:m=0:=by omega
  exact hx
 | t+1,m,h,x,hx=>by
  by_cases e:m=t+1
  ·subst e
   exact List.mem_append_right _ hx
  ·exact List.mem_append_left _ (znQ cl w (by omega) x hx)
theorem RP.up {cl:Int->Int->Int} {w:Wheel} {al:List Int} (h:OkW w) (hl:al.length=w.Coins.length) (hnn:∀k,0<=al.getD k 0) (hcl:Clamp cl (total al)) {acts:List Int} {x:Pn} (hr:RP cl w al acts x) {t:Nat} (ht:total x.l<=t):x∈zr6 cl w t:=by
 refine znQ cl w (m:=(total x.l).toNat) (by omega) x ?_
 rcases hr.level h hl hnn hcl with h1 | ⟨_,h1⟩
 ·exact List.mem_append_left _ h1
 ·exact List.mem_append_right _ h1
theorem zik {α:Type} [DecidableEq α]:∀{l m:List α},l.Nodup->(∀x,x∈l->x∈m)->l.length<=m.length
 | [],_,_,_=>Nat.zero_le _
 | x::l,m,hn,h=>by
  have hn:=List.nodup_cons.1 hn
  have hx:=h x (by simp)
  have:=zik (l:=l) (m:=m.erase x) hn.2 fun y hy=>by
   have hne:y≠x:=fun e=>hn.1 (by rw [←e];exact hy)
   exact (List.mem_erase_of_ne hne).2 (h y (by simp [hy]))
  rw [List.length_erase_of_mem hx] at this
  have:=List.length_pos_of_mem hx
  simp only [List.length_cons]
  omega
theorem zqq {n:Nat} {l:List Int} (h4:l.length<=4) (hnn:∀k,0<=l.getD k 0/\l.getD k 0<=1000) (hn:10<=n):zcH n (zbA l)=some (total l):=by
 obtain ⟨m,rfl⟩:∃m,n=m+5:=⟨n-5,by omega⟩
 have h0:=hnn 0
 have h1:=hnn 1
 have h2:=hnn 2
 have h3:=hnn 3
 have ht:=zql h4
 unfold zcH
 have e:∀(m:Nat) (s k:Int) (j:Nat),k=j->j<4->0<=s->s<=100000->za6 (zbA l) (m+1) s k=za6 (zbA l) m (s+l.getD j 0) (k+1):=fun m s k j hk hj hs hs2=>by
  subst hk
  have hb:=hnn j
  simp only [za6,zca]
  rw [if_pos (by simp;omega)]
  rw [show idx ([(zbA l).c0,(zbA l).c1,(zbA l).c2,(zbA l).c3]:List Int) (j:Int)=some (l.getD j 0) from zjN hj,zab,zaS (by omega) (by omega),zaS (by omega) (by omega)]
 rw [e (m+4) 0 0 0 rfl (by omega) (by omega) (by omega),e (m+3) _ (0+1) 1 rfl (by omega) (by omega) (by omega),e (m+2) _ (0+1+1) 2 rfl (by omega) (by omega) (by omega),e (m+1) _ (0+1+1+1) 3 rfl (by omega) (by omega) (by omega)]
 simp only [za6,zca,zcz]
 rw [if_neg (by simp)]
 congr 1
 omega
def pnt (x:Pn):PointT_:=⟨⟨x.p,x.c⟩,zbA x.l,x.b⟩
theorem zsK {x y:Pn} (h:pnt x=pnt y) (hl:x.l.length=y.l.length) (h4:x.l.length<=4):x=y:=by
 obtain ⟨a,b,c,d⟩:=x
 obtain ⟨a',b',c',d'⟩:=y
 simp only [pnt,PointT_.mk.injEq,Stand.mk.injEq] at h
 obtain ⟨⟨rfl,rfl⟩,h1,rfl⟩:=h
 obtain rfl:=zle h1 hl h4
 rfl
structure Cx (w:Wheel) (al:List Int):Prop where
 v:valid w=true
 hl:al.length=w.Coins.length
 nn:∀k,0<=al.getD k 0
 k3:w.Coins.length<=3
 t5:total al<=5
theorem Cx.h {w:Wheel} {al:List Int} (C:Cx w al):OkW w:=zf3 C.v
theorem zmg {w:Wheel} {al acts:List Int} {x:Pn} (C:Cx w al) (hr:RP (clT (total al)) w al acts x):OkX w al acts x/\total x.l<=total al/\(∀k,0<=x.l.getD k 0/\x.l.getD k 0<=5)/\zbn (pnt x)=true:=by
 have hX:=hr.ok C.h C.hl C.nn (zii _)
 have ht:total x.l<=total al:=zfe (by rw [hX.len,C.hl]) hX.le
 have hk:∀k,0<=x.l.getD k 0/\x.l.getD k 0<=5:=fun k=>by
  have:=zfb (zeK hX.nn) k
  have:=C.t5
  omega
 refine ⟨hX,ht,hk,?_⟩
 have h0:=hk 0
 have h1:=hk 1
 have h2:=hk 2
 have h3:=hk 3
 have h4:=hX.p0
 have h5:=hX.p1
 have h6:=hX.c0
 have h7:=hX.cb
 have h8:=hX.bt
 have h9:=C.h.r2
 have h10:=C.t5
 unfold zbn pnt zbA
 simp only [List.all_cons,List.all_nil,Bool.and_true,Bool.and_eq_true]
 exact ⟨zft (by omega) (by omega),zft (by omega) (by omega),zft (by omega) (by omega),zft (by omega) (by omega),zft (by omega) (by omega),zft (by omega) (by omega),zft (by omega) (by omega)⟩
structure WI (w:Wheel) (al:List Int) (A:PointT_->List Int) (M:List (PointT_×Step_)):Prop where
 nd:(M.map (·.1)).Nodup
 pt:∀k st,(k,st)∈M->(∃X,k=pnt X/\RP (clT (total al)) w al (A k) X)/\(st.act=-2/\A k=[]\/st.act≠-2/\zbY M st.from_=true/\A k=A st.from_++[st.act])
structure Ext (A:PointT_->List Int) (M:List (PointT_×Step_)) (q:List PointT_) (A':PointT_->List Int) (M':List (PointT_×Step_)) (q':List PointT_):Prop where
 ex:∃N:List (PointT_×Step_),M'=M++N/\q'=q++N.map (·.1)
 same:∀k,zbY M k=true->A' k=A k
theorem Ext.has {A M q A' M' q'} (h:Ext A M q A' M' q') {k:PointT_} (hk:zbY M k=true):zbY M' k=true:=by
 obtain ⟨N,rfl,_⟩:=h.ex
 rw [za3] at hk ⊢
 rw [List.map_append]
 exact List.mem_append_left _ hk
theorem Ext.refl (A M q):Ext A M q A M q:=⟨⟨[],by simp,by simp⟩,fun _ _=>rfl⟩
theorem Ext.trans {A M q A' M' q' A2 M2 q2} (h:Ext A M q A' M' q') (g:Ext A' M' q' A2 M2 q2):Ext A M q A2 M2 q2:=by
 refine ⟨?_,fun k hk=>by rw [g.same k (h.has hk),h.same k hk]⟩
 obtain ⟨N,rfl,rfl⟩:=h.ex
 obtain ⟨N',rfl,rfl⟩:=g.ex
 exact ⟨N++N',by simp,by simp⟩
theorem Ext.len {A M q A' M' q'} (h:Ext A M q A' M' q'):M.length+q'.length=M'.length+q.length:=by
 obtain ⟨N,rfl,rfl⟩:=h.ex
 simp
 omega
theorem Ext.out {A M q A' M' q'} (h:Ext A M q A' M' q') {k:PointT_} (hk:zbY M' k=true) (hq:k∉q'):zbY M k=true/\k∉q:=by
 obtain ⟨N,rfl,rfl⟩:=h.ex
 rw [za3,List.map_append] at hk
 rw [za3]
 simp only [List.mem_append,not_or] at hk hq
 rcases hk with hk | hk
 ·exact ⟨hk,hq.1⟩
 ·exact absurd hk hq.2
theorem WI.key {w al A M} (hW:WI w al A M) {k:PointT_} (hk:zbY M k=true):∃X,k=pnt X/\RP (clT (total al)) w al (A k) X:=(hW.pt k _ (zfL zaX hk)).1
theorem WI.len {w al A M} (C:Cx w al) (hW:WI w al A M):M.length<=93312:=by
 have h1:=zik (m:=(zr6 (clT (total al)) w 5).map pnt) hW.nd fun k hk=>by
  obtain ⟨X,rfl,hr⟩:=hW.key (za3.2 hk)
  exact List.mem_map.2 ⟨X,hr.up C.h C.hl C.nn (zii _) (by have:=(zmg C hr).2.1;have:=C.t5;omega),rfl⟩
 rw [List.length_map,List.length_map] at h1
 have h2:=zrv (clT (total al)) C.k3 (t:=5) (by omega)
 omega
theorem WI.mok {w al A M} (C:Cx w al) (hW:WI w al A M) {acts:List Int} {X:Pn} (hr:RP (clT (total al)) w al acts X):mok zbn M (pnt X)=true:=by
 unfold Go.AM.mok
 rw [(zmg C hr).2.2.2,Bool.true_and,Bool.and_eq_true]
 refine ⟨List.all_eq_true.2 fun p hp=>?_,decide_eq_true hW.nd⟩
 obtain ⟨Y,e,hr'⟩:=(hW.pt p.1 p.2 hp).1
 show zbn p.1=true
 rw [e]
 exact (zmg C hr').2.2.2
theorem Cx.len4 {w al} (C:Cx w al):al.length<=4:=by rw [C.hl];have:=C.k3;omega
theorem zr7 {w al} (C:Cx w al) {n:Nat} (hn:10<=n) {A M q} (hW:WI w al A M) {X Y:Pn} {a:Int} (hx:zbY M (pnt X)=true) (hr:RP (clT (total al)) w al (A (pnt X)++[a]) Y) (ha:a≠-2) {y:PointT_} (e1:y.in_=zbA Y.l) (e2:y.bought=Y.b) (e3:y.Stand.Place=Y.p) (e4:min y.Stand.Credit (total al-total Y.l)=Y.c) (hq:q.length<=M.length) :
  ∃A' M' q',zdF n (zbA al) (pnt X) a y (M,q)=some (M',q')/\WI w al A' M'/\Ext A M q A' M' q'/\zbY M' (pnt Y)=true:=by
 obtain ⟨hY,ht,hk,hok⟩:=zmg C hr
 have h4:=C.len4
 have hal:∀k,0<=al.getD k 0/\al.getD k 0<=1000:=fun k=>by
  have h1:=zfb (zeK C.nn) k
  have h2:=C.t5
  omega
 have hnn:0<=total Y.l:=zdn (zeK hY.nn)
 have h5:=C.t5
 have e:zds y (w64 (total al-total Y.l))=pnt Y:=by
  rw [zaS (by omega) (by omega)]
  show (⟨⟨y.Stand.Place,min y.Stand.Credit (total al-total Y.l)⟩,y.in_,y.bought⟩:PointT_)=_
  rw [e1,e2,e3,e4]
  rfl
 have hlen:=hW.len C
 unfold zdF
 rw [zqq h4 hal hn,zab,e1,zqq (by rw [hY.len];have:=C.k3;omega) (fun k=>by have:=hk k;omega) hn,zab]
 simp only [e]
 rw [show zfE zbn zaX M (pnt Y)=some (zfP zaX M (pnt Y)) from if_pos (hW.mok C hr),zab]
 cases hh:zbY M (pnt Y) with
 | true =>
  rw [if_pos rfl]
  exact ⟨A,M,q,rfl,hW,Ext.refl A M q,hh⟩
 | false =>
  rw [if_neg (by simp),show zjh zbn M (pnt Y) ⟨a,pnt X⟩=some (zf9 M (pnt Y) ⟨a,pnt X⟩) from if_pos (hW.mok C hr),zab,if_pos (by omega),(zfG zaX M _ hh).2.2]
  have hno:∀k,zbY M k=true->k≠pnt Y:=fun k hk he=>by rw [he,hh] at hk;cases hk
  refine ⟨fun k=>if k=pnt Y then A (pnt X)++[a] else A k,_,_,rfl,⟨?_,fun k st hm=>?_⟩,⟨⟨[(pnt Y,⟨a,pnt X⟩)],rfl,rfl⟩,fun k hk=>if_neg (hno k hk)⟩,?_⟩
  ·rw [List.map_append,List.nodup_append]
   refine ⟨hW.nd,by simp,fun u hu v hv=>?_⟩
   simp only [List.map_cons,List.map_nil,List.mem_singleton] at hv
   rw [hv]
   exact hno u (za3.2 hu)
  ·have hmono:∀k,zbY M k=true->zbY (M++[(pnt Y,(⟨a,pnt X⟩:Step_))]) k=true:=fun k hk=>by
    rw [za3] at hk ⊢
    rw [List.map_append]
    exact List.mem_append_left _ hk
   rcases List.mem_append.1 hm with hm | hm
   ·have hk:zbY M k=true:=za3.2 (List.mem_map.2 ⟨_,hm,rfl⟩)
    obtain ⟨p1,p2⟩:=hW.pt k st hm
    simp only [if_neg (hno k hk)]
    refine ⟨p1,?_⟩
    rcases p2 with p2 | ⟨p2,p3,p4⟩
    ·exact .inl p2
    ·exact .inr ⟨p2,hmono _ p3,by rw [if_neg (hno _ p3)];exact p4⟩
   ·simp only [List.mem_singleton,Prod.mk.injEq] at hm
    obtain ⟨rfl,rfl⟩:=hm
    simp only [if_pos rfl]
    exact ⟨⟨Y,rfl,hr⟩,.inr ⟨ha,hmono _ hx,by rw [if_neg (hno _ hx)];simp⟩⟩
  ·rw [za3,List.map_append]
   exact List.mem_append_right _ (by simp)
theorem zsL {w:Wheel} (hv:valid w=true) {n:Nat} (hn:200<=n) {p:Int} (h0:0<=p) (h1:p<w.Round):zdX n w ⟨p,1⟩ [-1]=some (⟨0,0⟩,1,0):=by
 have h:=zf3 hv
 rw [zr0 (h.len (by omega)) hn _ _ (by simp) (by simp;omega)]
 have e:zhm w ⟨p,1⟩ (-1)=(⟨0,0⟩,true):=by
  unfold zhm
  rw [if_neg (by omega),if_neg (by simp)]
  rfl
 unfold zx6
 rw [if_pos hv,if_pos ⟨by simp only [zfB,zhj,Bool.and_eq_true,zbX];omega,by simp,by simp [zmV]⟩]
 simp only [zoP,e]
 rfl
theorem zrw {w:Wheel} (hv:valid w=true) {n:Nat} (hn:200<=n) {p:Int} (h0:0<=p) (h1:p<w.Round) {k:Nat} (hk:k<w.Coins.length):zdX n w ⟨p,0⟩ [(k:Int)]=some (⟨(turn w p (coin w k)).1,(turn w p (coin w k)).2⟩,0,0):=by
 have h:=zf3 hv
 rw [zr0 (h.len (by omega)) hn _ _ (by simp) (by simp;omega)]
 have e:zhm w ⟨p,0⟩ (k:Int)=(⟨(turn w p (coin w k)).1,(turn w p (coin w k)).2⟩,false):=by
  unfold zhm
  rw [if_pos (by omega)]
  simp
 unfold zx6
 rw [if_pos hv,if_pos ⟨by simp only [zfB,zhj,Bool.and_eq_true,zbX];omega,by simp,by simp [zlf hk]⟩]
 simp only [zoP,e]
 rfl
theorem zqr {w al} (C:Cx w al) {n:Nat} (hn:200<=n) {b:Box_} (hb:b.Box.Wheel=w) {A M q} (hW:WI w al A M) {X:Pn} (hx:zbY M (pnt X)=true) (hr:RP (clT (total al)) w al (A (pnt X)) X) (hq:q.length<=M.length) :
  ∃A' M' q',zeo n b (zbA al) (pnt X) (M,q)=some (M',q')/\WI w al A' M'/\Ext A M q A' M' q'/\(0<X.c->0<X.p->zbY M' (pnt (zqJ (clT (total al)) X))=true):=by
 obtain ⟨hX,ht,hk,hok⟩:=zmg C hr
 have h5:=C.t5
 have h6:=hX.cb
 have h7:=hX.bt
 unfold zeo
 rw [hb]
 show ∃A' M' q',(if decide (X.c>0)=true then if decide (X.p>0)=true then _ else _ else _)=_/\_
 by_cases hc:0<X.c
 ·by_cases hp:0<X.p
  ·rw [if_pos (by simpa using hc),if_pos (by simpa using hp)]
   show ∃A' M' q',Option.bind (zdX n w ⟨X.p,1⟩ [-1]) _=_/\_
   rw [zsL C.v hn hX.p0 hX.p1,zab]
   obtain ⟨A',M',q',g1,g2,g3,g4⟩:=zr7 (n:=n) C (by omega) hW (Y:=zqJ (clT (total al)) X) (a:=-1) (y:=⟨⟨0,w64 (X.c-1)⟩,zbA X.l,X.b⟩) hx (hr.sel hc hp) (by omega) rfl rfl rfl (by
    show min (w64 (X.c-1)) (total al-total X.l)=min (X.c-1) (total al-total X.l)
    rw [zaS (by omega) (by omega)]) hq
   exact ⟨A',M',q',g1,g2,g3,fun _ _=>g4⟩
  ·rw [if_pos (by simpa using hc),if_neg (by simpa using hp)]
   exact ⟨A,M,q,rfl,hW,Ext.refl A M q,fun _ h=>absurd h hp⟩
 ·rw [if_neg (by simpa using hc)]
  exact ⟨A,M,q,rfl,hW,Ext.refl A M q,fun h=>absurd h hc⟩
theorem zjR {w al} (C:Cx w al) {n:Nat} (hn:200<=n) {b:Box_} (hb:b.Box.Wheel=w) {X:Pn}:∀(d i m:Nat),i+d=w.Coins.length->d<m->∀{A M q},WI w al A M->zbY M (pnt X)=true->RP (clT (total al)) w al (A (pnt X)) X->q.length<=M.length ->
  ∃A' M' q',zbg n b (zbA al) (pnt X) m (i:Int) (M,q)=some (M',q')/\WI w al A' M'/\Ext A M q A' M' q'/\∀k:Nat,i<=k->k<w.Coins.length->X.l.getD k 0≠al.getD k 0->zbY M' (pnt (zoU (clT (total al)) w X k))=true
 | d,i,0,_,hm,_,_,_,_,_,_,_=>absurd hm (Nat.not_lt_zero _)
 | 0,i,m+1,hi,_,A,M,q,hW,hx,hr,hq=>by
  unfold zbg
  rw [hb,if_neg (by simp;omega)]
  exact ⟨A,M,q,rfl,hW,Ext.refl A M q,fun k h1 h2=>by omega⟩
 | d+1,i,m+1,hi,hm,A,M,q,hW,hx,hr,hq=>by
  obtain ⟨hX,ht,hk,hok⟩:=zmg C hr
  have h5:=C.t5
  have h6:=hX.cb
  have h7:=hX.bt
  have h8:=hX.c0
  have h9:=C.k3
  have h4:=C.len4
  have hki:=hk i
  have hil:i<X.l.length:=by rw [hX.len];omega
  unfold zbg
  rw [hb,if_pos (by simp;omega)]
  show ∃A' M' q',Option.bind (idx (zr1 X.l) (i:Int)) _=_/\_
  rw [zjN (by omega),zab,show idx ([(zbA al).c0,(zbA al).c1,(zbA al).c2,(zbA al).c3]:List Int) (i:Int)=some (al.getD i 0) from zjN (by omega),zab,zaS (x:=(i:Int)+1) (by omega) (by omega)]
  by_cases he:X.l.getD i 0=al.getD i 0
  ·rw [if_pos (by simpa using he)]
   obtain ⟨A',M',q',g1,g2,g3,g4⟩:=zjR C hn hb d (i+1) m (by omega) (by omega) hW hx hr hq
   refine ⟨A',M',q',g1,g2,g3,fun k k1 k2 k3=>?_⟩
   by_cases e:k=i
   ·subst e
    exact absurd he k3
   ·exact g4 k (by omega) k2 k3
  ·rw [if_neg (by simpa using he)]
   show ∃A' M' q',Option.bind (zdX n w ⟨X.p,0⟩ [(i:Int)]) _=_/\_
   have hcoin:=zdm C.h (a:=(i:Int)) (by omega) (by omega)
   have htr:=zdl C.h hX.p0 hX.p1 (show 0<=coin w i by omega)
   rw [zrw C.v hn hX.p0 hX.p1 (by omega),zab,zaS (x:=X.l.getD i 0+1) (by omega) (by omega)]
   rw [show zqI ([(pnt X).in_.c0,(pnt X).in_.c1,(pnt X).in_.c2,(pnt X).in_.c3]:List Int) (i:Int) (X.l.getD i 0+1)=some (zr1 (zfd X.l i)) from zmT hil (by rw [hX.len];omega),zab]
   obtain ⟨A1,M1,q1,g1,g2,g3,g4⟩:=zr7 (n:=n) C (by omega) hW (Y:=zoU (clT (total al)) w X i) (a:=(i:Int)) (y:=⟨⟨(turn w X.p (coin w i)).1,w64 (X.c+(turn w X.p (coin w i)).2)⟩,zbA (zfd X.l i),w64 (X.b+(turn w X.p (coin w i)).2)⟩) hx (hr.coin (by omega) he) (by omega) rfl (by
     show w64 _=X.b+_
     rw [zaS (by omega) (by omega)]) rfl (by
     show min (w64 (X.c+(turn w X.p (coin w i)).2)) (total al-total (zfd X.l i))=min (X.c+(turn w X.p (coin w i)).2) (total al-(total X.l+1))
     rw [zaS (by omega) (by omega),zek hil]) hq
   have hl1:=g3.len
   obtain ⟨A',M',q',k1,k2,k3,k4⟩:=zjR C hn hb d (i+1) m (by omega) (by omega) g2 (g3.has hx) (by rw [g3.same _ hx];exact hr) (show q1.length<=M1.length by omega)
   refine ⟨A',M',q',?_,k2,g3.trans k3,fun k j1 j2 j3=>?_⟩
   ·show Option.bind (zdF n (zbA al) (pnt X) (i:Int) ⟨⟨(turn w X.p (coin w i)).1,w64 (X.c+(turn w X.p (coin w i)).2)⟩,zbA (zfd X.l i),w64 (X.b+(turn w X.p (coin w i)).2)⟩ (M,q)) _=_
    rw [g1,zab]
    exact k1
   ·by_cases e:k=i
    ·subst e
     exact k3.has g4
    ·exact k4 k (by omega) j2 j3
def Closed (w:Wheel) (al:List Int) (M:List (PointT_×Step_)) (X:Pn):Prop:=(0<X.c->0<X.p->zbY M (pnt (zqJ (clT (total al)) X))=true)/\∀k:Nat,k<w.Coins.length->X.l.getD k 0≠al.getD k 0->zbY M (pnt (zoU (clT (total al)) w X k))=true
theorem Closed.ext {w al A M q A' M' q'} (h:Ext A M q A' M' q') {X:Pn} (hc:Closed w al M X):Closed w al M' X:=⟨fun a b=>h.has (hc.1 a b),fun k a b=>h.has (hc.2 k a b)⟩
theorem zl5 {w al} (C:Cx w al) {n:Nat} (hn:200<=n) {b:Box_} (hb:b.Box.Wheel=w):∀(m:Nat) {A M q},93312+q.length<m+M.length->WI w al A M->q.length<=M.length->(∀k,k∈q->zbY M k=true)->zbY M (pnt (zj3 w))=true->(∀acts X,RP (clT (total al)) w al acts X->zbY M (pnt X)=true->pnt X∉q->Closed w al M X) ->
  ∃A' M',zcL n b (zbA al) m (M,q)=some M'/\WI w al A' M'/\∀acts X,RP (clT (total al)) w al acts X->zbY M' (pnt X)=true
 | 0,A,M,q,hf,hW,_,_,_,_=>by
  have:=hW.len C
  omega
 | m+1,A,M,[],hf,hW,hq,hqm,hz,hcl=>by
  refine ⟨A,M,rfl,hW,fun acts X hr=>?_⟩
  induction hr with
  | zero=>exact hz
  | sel hr hc hp ih=>exact (hcl _ _ hr ih (by simp)).1 hc hp
  | coin hr hk hne ih=>exact (hcl _ _ hr ih (by simp)).2 _ hk hne
 | m+1,A,M,x::q,hf,hW,hq,hqm,hz,hcl=>by
  have hx:zbY M x=true:=hqm x (by simp)
  obtain ⟨X,rfl,hr⟩:=hW.key hx
  simp only [List.length_cons] at hf hq
  obtain ⟨A1,M1,q1,g1,g2,g3,g4⟩:=zqr C hn hb hW hx hr (show q.length<=M.length by omega)
  have hl1:=g3.len
  obtain ⟨A2,M2,q2,k1,k2,k3,k4⟩:=zjR C hn hb w.Coins.length 0 n (by omega) (by have:=C.k3;omega) g2 (g3.has hx) (by rw [g3.same _ hx];exact hr) (show q1.length<=M1.length by omega)
  have hl2:=k3.len
  have hE:=g3.trans k3
  have hXc:Closed w al M2 X:=⟨fun a b=>k3.has (g4 a b),fun k a b=>k4 k (Nat.zero_le _) a b⟩
  have hX:=zmg C hr
  obtain ⟨A',M',j1,j2,j3⟩:=zl5 C hn hb m (A:=A2) (M:=M2) (q:=q2) (by omega) k2 (by omega) (fun k hk=>by
   obtain ⟨N,e1,e2⟩:=hE.ex
   rw [e2] at hk
   rcases List.mem_append.1 hk with hk | hk
   ·exact hE.has (hqm k (List.mem_cons_of_mem _ hk))
   ·rw [za3,e1,List.map_append]
    exact List.mem_append_right _ hk) (hE.has hz) fun acts Y hY hm hnq=>by
   obtain ⟨o1,o2⟩:=hE.out hm hnq
   by_cases e:pnt Y=pnt X
   ·obtain rfl:=zsK e (by rw [(zmg C hY).1.len,hX.1.len]) (by rw [(zmg C hY).1.len];have:=C.k3;omega)
    exact hXc
   ·exact (hcl acts Y hY o1 (by simp only [List.mem_cons,not_or];exact ⟨e,o2⟩)).ext hE
  refine ⟨A',M',?_,j2,j3⟩
  unfold zcL
  simp only
  rw [g1,zab]
  show Option.bind (zbg n b (zbA al) (pnt X) n ((0:Nat):Int) (M1,q1)) _=_
  rw [k1,zab]
  exact j1
theorem znR (w:Wheel):pnt (zj3 w)=zaz:=by
 have h:=fun k=>zjP w k
 unfold pnt zj3 zbA
 simp only [h]
theorem zqs {w al} (C:Cx w al) {n:Nat} (hn:100000<=n) {b:Box_} (hb:b.Box.Wheel=w):∃A M,zcJ n (some b) (zbA al)=some M/\WI w al A M/\∀acts X,RP (clT (total al)) w al acts X->zbY M (pnt X)=true:=by
 have hz:zbY [(zaz,(⟨-2,zaz⟩:Step_))] (pnt (zj3 w))=true:=by rw [znR];simp [zbY]
 exact zl5 C (by omega) hb n (A:=fun _=>[]) (M:=[(zaz,⟨-2,zaz⟩)]) (q:=[zaz]) (by simp;omega) ⟨by simp,fun k st hm=>by
  simp only [List.mem_singleton,Prod.mk.injEq] at hm
  obtain ⟨rfl,rfl⟩:=hm
  exact ⟨⟨zj3 w,(znR w).symm,.zero⟩,.inl ⟨rfl,rfl⟩⟩⟩ (by simp) (by simp [zbY]) hz fun acts X hr hm hnq=>by
  exfalso
  rw [za3] at hm
  exact hnq hm
theorem zqt {w al} (C:Cx w al) {A M} (hW:WI w al A M):∀(m:Nat) {k:PointT_} {acts:List Int},zbY M k=true->(A k).length<m->acts.length+(A k).length<100000->zc5 M m (zfP zaX M k) acts=some (acts++(A k).reverse)
 | 0,k,acts,hk,hm,_=>absurd hm (Nat.not_lt_zero _)
 | m+1,k,acts,hk,hm,hl=>by
  unfold zc5
  rcases (hW.pt k _ (zfL zaX hk)).2 with ⟨h1,h2⟩ | ⟨h1,h2,h3⟩
  ·rw [if_neg (by simpa using h1),h2]
   simp
  ·rw [h3,List.length_append,List.length_singleton] at hm hl
   obtain ⟨Y,e,hr⟩:=hW.key h2
   rw [if_pos (by simpa using h1),if_pos (by omega),show zfE zbn zaX M (zfP zaX M k).from_=some (zfP zaX M (zfP zaX M k).from_) from if_pos (by rw [e];exact hW.mok C hr),zab,zqt C hW m h2 (by omega) (by simp;omega)]
   conv=>rhs;rw [h3]
   simp
def sums (a b:List Int):List Int:=List.zipWith (·+·) a b
theorem zf4 {a b:List Int} (h:b.length=a.length):(sums a b).length=a.length:=by simp [sums,h]
theorem zeE:∀{a b:List Int},b.length=a.length->∀k,(sums a b).getD k 0=a.getD k 0+b.getD k 0
 | [],[],_,k=>by simp [sums]
 | [],_::_,h,_=>by simp at h
 | _::_,[],h,_=>by simp at h
 | x::a,y::b,h,0=>by simp [sums]
 | x::a,y::b,h,k+1=>by
  have:=zeE (a:=a) (b:=b) (by simpa using h) k
  simpa [sums] using this
theorem zeY:∀{a b:List Int},b.length=a.length->total (sums a b)=total a+total b
 | [],[],_=>rfl
 | [],_::_,h=>by simp at h
 | _::_,[],h=>by simp at h
 | x::a,y::b,h=>by
  have:=zeY (a:=a) (b:=b) (by simpa using h)
  simp only [sums,List.zipWith_cons_cons,total] at this ⊢
  omega
def zgD (l:List Int):Prop:=∀k,0<=l.getD k 0/\l.getD k 0<=1000
theorem zgD.sums {a b:List Int} (h:b.length=a.length) (ha:∀k,0<=a.getD k 0/\a.getD k 0<=500) (hb:∀k,0<=b.getD k 0/\b.getD k 0<=500):zgD (sums a b):=fun k=>by
 rw [zeE h]
 have:=ha k
 have:=hb k
 omega
theorem getD_get {l:List Int} {k:Nat} (h:k<l.length):l[k]=l.getD k 0:=by simp [h]
theorem zqu {n:Nat} {a b:List Int} (h:b.length=a.length) (ha:zgD a) (hb:zgD b) (hl:a.length<1000) (hn:a.length<n):zgL n a b=some (sums a b):=by
 have key:∀(d i m:Nat) (v:List Int),d=a.length-i->i<=a.length->d<m->v.length=i->zcy a b m v (i:Int)=some (v++(sums a b).drop i):=by
  intro d
  induction d with
  | zero =>
   intro i m v hd hi hm hv
   obtain ⟨m,rfl⟩:∃q,m=q+1:=⟨m-1,by omega⟩
   simp only [zcy,zdS,zeO]
   rw [if_neg (by simp;omega),List.drop_eq_nil_of_le (by rw [zf4 h];omega),List.append_nil]
  | succ d ih =>
   intro i m v hd hi hm hv
   obtain ⟨m,rfl⟩:∃q,m=q+1:=⟨m-1,by omega⟩
   have h1:=ha i
   have h2:=hb i
   simp only [zcy,zdS]
   rw [if_pos (by simp;omega),zcs (by omega),zab,zcs (by omega),zab,getD_get,getD_get,zaS (by omega) (by omega),zkr (by simp;omega),zab,zaS (by omega) (by omega)]
   have:=ih (i+1) m (v++[a.getD i 0+b.getD i 0]) (by omega) (by omega) (by omega) (by simp [hv])
   rw [show (((i+1:Nat)):Int)=(i:Int)+1 by simp] at this
   rw [this,List.drop_eq_getElem_cons (l:=sums a b) (i:=i) (by rw [zf4 h];omega),getD_get,zeE h]
   simp
 have:=key a.length 0 n [] (by omega) (by omega) hn rfl
 rw [List.nil_append,List.drop_zero] at this
 exact this
theorem zrx {n:Nat} {l:List Int} (hs:zgD l) (hl:l.length<1000) (hn:l.length<n):zfW n l=some (total l):=by
 have key:=zrn (F:=fun m i (s:Int)=>zce l m s i) (xs:=l) (spec:=fun k s=>some (s+total k)) (I:=fun k s=>0<=s/\s+1000*k.length<=100000000/\∀x,x∈k->0<=x/\x<=1000) (by omega)
  (fun m s hI=>by simp [zce,zdA,zel,total])
  (fun m i x k s hI hx hi _ _ hrec=>by
   obtain ⟨i1,i2,i3⟩:=hI
   have hxr:=i3 x (by simp)
   simp only [List.length_cons] at i2
   simp only [zce,zdA]
   rw [if_pos (by simpa using hi),hx,zab,zaS (x:=s+x) (by omega) (by omega),hrec (s+x) ⟨by omega,by omega,fun y hy=>i3 y (by simp [hy])⟩]
   simp only [total]
   congr 1
   omega)
  l 0 n 0 (by omega) rfl (by omega) ⟨by omega,by omega,fun x hx=>by
   obtain ⟨k,hk⟩:=List.getElem?_of_mem hx
   have:=hs k
   rwa [List.getD_eq_getElem?_getD,hk] at this⟩
 rw [show zfW n l=_ from key,Int.zero_add]
theorem zgQ (a b c:Int):zcf a b c=some (inR a b c):=by
 unfold zcf zcm inR
 by_cases h:b<=a<;>simp [h]
theorem zil (a b c:Int):zdJ a b c=some (inR a b c):=by
 unfold zdJ
 rw [zhV,zab]
def zwn (b:Box):Prop:=∀k,k<b.Found.length->0<=b.Marked.getD k 0/\b.Marked.getD k 0<=b.Found.getD k 0
instance (b:Box):Decidable (zwn b):=inferInstanceAs (Decidable (∀k,k<b.Found.length->0<=b.Marked.getD k 0/\b.Marked.getD k 0<=b.Found.getD k 0))
structure BoxOk (b:Box):Prop where
 v:valid b.Wheel=true
 p:inR b.Plays 0 9999=true
 s:inR b.Skips 0 9=true
 f:zcu b.Wheel b.Found=true
 g:zcu b.Wheel b.Slugs=true
 ml:b.Marked.length=b.Found.length
 mkd:zwn b
 t:total b.Found+total b.Slugs<=12
open Classical in
noncomputable def zl6 (b:Box):Bool:=decide (BoxOk b)
theorem zgE {b:Box}:zl6 b=true↔BoxOk b:=by simp [zl6]
theorem zhX {b:Box} (h:¬BoxOk b):zl6 b=false:=by simp [zl6,h]
def ztx (b:Box):Prop:=b.Wheel.Notches.length<=40/\b.Wheel.Coins.length<=40/\b.Found.length<=40/\b.Marked.length<=40/\b.Slugs.length<=40
theorem zdH {w:Wheel} {l:List Int} (h:zcu w l=true):l.length=w.Coins.length/\(∀k,0<=l.getD k 0/\l.getD k 0<=12)/\total l<=12:=by
 obtain ⟨h1,h2⟩:=zru h
 simp only [zcu,Bool.and_eq_true,decide_eq_true_eq] at h
 refine ⟨h.1.1,fun k=>?_,h2⟩
 have:=zfb h1.nn k
 omega
theorem zl7 {w:Wheel} {l:List Int} (h:zcu w l=true):l.all (fun x=>inR x 0 12)=true:=by
 simp only [zcu,Bool.and_eq_true] at h
 exact h.1.2
open Classical in
theorem zwo (b:Box) (n:Nat) (hl:ztx b) (hn:200<=n):ze4 n b=some (cond (zl6 b) 0 50):=by
 obtain ⟨l1,l2,l3,l4,l5⟩:=hl
 unfold ze4
 have hol:zlX n b.Wheel:=⟨by omega,by omega,by omega,by omega⟩
 have no:∀h:¬BoxOk b,(some 50:Option Int)=some (cond (zl6 b) 0 50):=fun h=>by rw [zhX h];rfl
 have j1:zbK n b true=some 50:=rfl
 rw [zqc hol,zab]
 by_cases hv:valid b.Wheel=true
 ·rw [hv]
  show Option.bind _ _=_
  rw [zig (by omega) (by omega),zab]
  by_cases hf:zcu b.Wheel b.Found=true
  ·rw [if_neg (by simp [hf]),zig (by omega) (by omega),zab]
   by_cases hg:zcu b.Wheel b.Slugs=true
   ·rw [if_neg (by simp [hg])]
    by_cases hm:b.Marked.length=b.Found.length
    ·rw [if_neg (by simp;omega),zil,zab]
     by_cases hp:inR b.Plays 0 9999=true
     ·rw [if_neg (by simp [hp]),zil,zab]
      by_cases hs:inR b.Skips 0 9=true
      ·rw [hs]
       show zbJ n b n 0=_
       obtain ⟨f1,f2,f3⟩:=zdH hf
       obtain ⟨g1,g2,g3⟩:=zdH hg
       have hfg:b.Slugs.length=b.Found.length:=by omega
       have hS:=zgD.sums hfg (fun k=>by have:=f2 k;omega) (fun k=>by have:=g2 k;omega)
       have hj2:zdr n b=some (if total b.Found+total b.Slugs<=12 then 0 else 50):=by
        unfold zdr
        rw [zqu hfg (fun k=>by have:=f2 k;omega) (fun k=>by have:=g2 k;omega) (by omega) (by omega),zab,zig (by omega) (by omega),zab]
        by_cases ht:total b.Found+total b.Slugs<=12
        ·rw [if_pos ht,if_neg]
         have hnn:∀k,0<=(sums b.Found b.Slugs).getD k 0:=fun k=>(hS k).1
         have:zcu b.Wheel (sums b.Found b.Slugs)=true:=by
          simp only [zcu,Bool.and_eq_true,decide_eq_true_eq,List.all_eq_true]
          refine ⟨⟨by rw [zf4 hfg];omega,fun x hx=>?_⟩,by rw [zeY hfg];exact ht⟩
          obtain ⟨k,hk⟩:=List.getElem?_of_mem hx
          have h1:=zfb (zeK hnn) k
          rw [zeY hfg] at h1
          rw [List.getD_eq_getElem?_getD,hk] at h1
          exact zbX.2 ⟨h1.1,Int.le_trans h1.2 ht⟩
         simp [this]
        ·rw [if_neg ht,if_pos]
         have:zcu b.Wheel (sums b.Found b.Slugs)=false:=by
          simp only [zcu,zeY hfg]
          simp [ht]
         simp [this]
       have key:∀(d i m:Nat),d=b.Found.length-i->i<=b.Found.length->d<m->zbJ n b m (i:Int)=some (if (∀k,i<=k->k<b.Found.length->0<=b.Marked.getD k 0/\b.Marked.getD k 0<=b.Found.getD k 0)/\total b.Found+total b.Slugs<=12 then 0 else 50):=by
        intro d
        induction d with
        | zero =>
         intro i m hd hi hm
         obtain ⟨m,rfl⟩:∃q,m=q+1:=⟨m-1,by omega⟩
         simp only [zbJ,zdz]
         rw [if_neg (by simp;omega),hj2]
         congr 1
         by_cases ht:total b.Found+total b.Slugs<=12
         ·rw [if_pos ht,if_pos ⟨fun k h1 h2=>by omega,ht⟩]
         ·rw [if_neg ht,if_neg fun h=>ht h.2]
        | succ d ih =>
         intro i m hd hi hm
         obtain ⟨m,rfl⟩:∃q,m=q+1:=⟨m-1,by omega⟩
         simp only [zbJ,zdz]
         rw [if_pos (by simp;omega),zcs (by omega),zab,zcs (by omega),zab,zil,zab,getD_get,getD_get,zaS (by omega) (by omega)]
         have:=ih (i+1) m (by omega) (by omega) (by omega)
         rw [show (((i+1:Nat)):Int)=(i:Int)+1 by simp] at this
         by_cases hq:inR (b.Marked.getD i 0) 0 (b.Found.getD i 0)=true
         ·rw [if_neg (by rw [hq];simp),this]
          congr 1
          by_cases hR:(∀k,i+1<=k->k<b.Found.length->0<=b.Marked.getD k 0/\b.Marked.getD k 0<=b.Found.getD k 0)/\total b.Found+total b.Slugs<=12
          ·have hall:∀k,i<=k->k<b.Found.length->0<=b.Marked.getD k 0/\b.Marked.getD k 0<=b.Found.getD k 0:=fun k h1 h2=>by
            by_cases e:k=i
            ·subst e
             exact zbX.1 hq
            ·exact hR.1 k (by omega) h2
           rw [if_pos hR,if_pos ⟨hall,hR.2⟩]
          ·rw [if_neg hR,if_neg fun h=>hR ⟨fun k h1 h2=>h.1 k (by omega) h2,h.2⟩]
         ·rw [if_pos (by simpa using hq),if_neg fun h=>hq (zbX.2 (h.1 i (Nat.le_refl _) (by omega)))]
       rw [show zbJ n b n 0=_ from key b.Found.length 0 n (by omega) (by omega) (by omega)]
       by_cases hR:(∀k,0<=k->k<b.Found.length->0<=b.Marked.getD k 0/\b.Marked.getD k 0<=b.Found.getD k 0)/\total b.Found+total b.Slugs<=12
       ·rw [if_pos hR,zgE.2 ⟨hv,hp,hs,hf,hg,hm,fun k hk=>hR.1 k (Nat.zero_le _) hk,hR.2⟩]
        rfl
       ·rw [if_neg hR]
        exact no fun h=>hR ⟨fun k _ hk=>h.mkd k hk,h.t⟩
      ·rw [show (!inR b.Skips 0 9)=true by simpa using hs,j1]
       exact no fun h=>hs h.s
     ·rw [if_pos (by simpa using hp),j1]
      exact no fun h=>hp h.p
    ·rw [if_pos (by simp;omega),j1]
     exact no fun h=>hm h.ml
   ·rw [if_pos (by simpa using hg),j1]
    exact no fun h=>hg h.g
  ·rw [if_pos (by simpa using hf),j1]
   exact no fun h=>hf h.f
 ·rw [show valid b.Wheel=false by simpa using hv]
  exact no fun h=>hv h.v
theorem zqv {n:Nat} (f:Int->Option Bool) (g:Int->Bool) (xs:List Int) (hf:∀x,x∈xs->f x=some (g x)) (hl:xs.length<1048576) (hn:xs.length<n) :
  zbc n (fun x (_:Unit)=>(f x).map fun y=>(y,())) xs ()=some (xs.any g,()):=by
 have key:∀(l:List Int) (i m:Nat) (s:Unit),i<=xs.length->xs.drop i=l->l.length<m->(zam xs (fun x (_:Unit)=>(f x).map fun y=>(y,())) m (i:Int) s).map (fun r=>decide (r.1≥0))=some (l.any g):=by
  intro l i m s h1 h2 h3
  refine zrm (fun m i s=>(zam xs (fun x (_:Unit)=>(f x).map fun y=>(y,())) m i s).map (fun r=>decide (r.1≥0))) xs (fun l _=>some (l.any g)) hl (fun m s=>?_) (fun m i x l s hx hi _ _ hrec=>?_) l i m s h1 h2 h3
  ·simp [zam,za0,zbw]
  ·have hmem:x∈xs:=by
    unfold idx at hx
    rw [if_pos (by omega)] at hx
    exact List.mem_of_getElem? hx
   simp only [zam,za0]
   rw [if_pos (by simpa using hi),hx,zab]
   simp only [hf x hmem,Option.map_some,zab]
   by_cases hg:g x=true
   ·rw [if_pos (by simpa using hg)]
    simp [hg]
   ·rw [if_neg (by simpa using hg)]
    have:=hrec ()
    rw [this]
    simp [hg]
 have h:=key xs 0 n () (by omega) rfl hn
 unfold zbc zch
 change Option.map _ (zam xs _ n 0 ())=_ at h
 cases hx:zam xs (fun x (_:Unit)=>(f x).map fun y=>(y,())) n 0 () with
 | none=>rw [hx] at h;cases h
 | some r =>
  rw [hx] at h
  simp only [Option.map_some,Option.some.injEq] at h
  simp only [zab]
  rw [h]
def zry (w:Wheel) (l:List Int):Bool:=decide (l.length≠w.Coins.length) || l.any (fun x=>!inR x 0 12)
theorem zlh {n:Nat} (hn:200<=n) (b:Box) (m:Nat) (i:Int) (l:List Int) (hi:i<3) (h0:0<=i) (hl:l.length<=40) (hc:b.Wheel.Coins.length<=40) (hx:idx ([b.Found,b.Marked,b.Slugs]:List (List Int)) i=some l) :
  zaG n b (m+1) i=if zry b.Wheel l=true then some 50 else zaG n b m (i+1):=by
 simp only [zaG,zdV,zcG]
 rw [if_pos (by simpa using hi),hx,zab,zqv zcF (fun x=>!inR x 0 12) l (fun x _=>by unfold zcF;rw [zgQ,zab]) (by omega) (by omega),zab,zaS (x:=i+1) (by omega) (by omega)]
 unfold zry
 by_cases h1:l.length=b.Wheel.Coins.length
 ·rw [if_neg (by simp;omega),show decide (l.length≠b.Wheel.Coins.length)=false by simp [h1],Bool.false_or]
 ·rw [if_pos (by simp;omega),show decide (l.length≠b.Wheel.Coins.length)=true by simp [h1],Bool.true_or]
  rfl
theorem zm0 {w:Wheel} {l:List Int} (h:zry w l=false):l.length=w.Coins.length/\l.all (fun x=>inR x 0 12)=true:=by
 simp only [zry,Bool.or_eq_false_iff,decide_eq_false_iff_not,Decidable.not_not,List.any_eq_false,List.all_eq_true] at h ⊢
 exact ⟨h.1,fun x hx=>by simpa using h.2 x hx⟩
theorem zm1 {w:Wheel} {l:List Int} (h1:l.length=w.Coins.length) (h2:l.all (fun x=>inR x 0 12)=true):zry w l=false:=by
 rw [List.all_eq_true] at h2
 simp only [zry,Bool.or_eq_false_iff,decide_eq_false_iff_not,Decidable.not_not,List.any_eq_false]
 exact ⟨h1,fun x hx=>by simp [h2 x hx]⟩
open Classical in
theorem zqw (b:Box) (n:Nat) (hl:ztx b) (hn:200<=n):zeP n b=some (cond (zl6 b) 0 50):=by
 obtain ⟨l1,l2,l3,l4,l5⟩:=hl
 have hol:zlX n b.Wheel:=⟨by omega,by omega,by omega,by omega⟩
 have no:∀h:¬BoxOk b,(some 50:Option Int)=some (cond (zl6 b) 0 50):=fun h=>by rw [zhX h];rfl
 have j1:zb8 n b true=some 50:=rfl
 unfold zeP
 rw [znI hol,zab]
 by_cases hv:valid b.Wheel=true
 ·rw [hv]
  show Option.bind _ _=_
  rw [zgQ,zab]
  by_cases hp:inR b.Plays 0 9999=true
  ·rw [if_neg (by simp [hp]),zgQ,zab]
   by_cases hs:inR b.Skips 0 9=true
   ·rw [hs]
    show zaG n b n 0=_
    obtain ⟨n,rfl⟩:∃q,n=q+4:=⟨n-4,by omega⟩
    have en:∀m i,zaG (n+4) b (m+1) i=zaG (n+4) b (m+1) i:=fun _ _=>rfl
    rw [show zaG (n+4) b (n+4) 0=zaG (n+4) b ((n+3)+1) 0 from rfl,zlh hn b (n+3) 0 b.Found (by omega) (by omega) (by omega) l2 rfl]
    by_cases b1:zry b.Wheel b.Found=true
    ·rw [if_pos b1]
     exact no fun h=>by rw [zm1 (zdH h.f).1 (zl7 h.f)] at b1;cases b1
    rw [if_neg b1,show zaG (n+4) b (n+3) (0+1)=zaG (n+4) b ((n+2)+1) 1 from rfl,zlh hn b (n+2) 1 b.Marked (by omega) (by omega) (by omega) l2 rfl]
    obtain ⟨f1,f2⟩:=zm0 (by simpa using b1)
    by_cases b2:zry b.Wheel b.Marked=true
    ·rw [if_pos b2]
     refine no fun h=>?_
     rw [zm1 (by rw [h.ml];exact f1) (List.all_eq_true.2 fun x hx=>?_)] at b2
     ·cases b2
     ·obtain ⟨k,hk⟩:=List.getElem?_of_mem hx
      have hkl:k<b.Marked.length:=by
       rcases Nat.lt_or_ge k b.Marked.length with h1 | h1
       ·exact h1
       ·rw [List.getElem?_eq_none h1] at hk
        cases hk
      have h1:=h.mkd k (by have:=h.ml;omega)
      have h2:=(zdH h.f).2.1 k
      rw [List.getD_eq_getElem?_getD,hk] at h1
      have h3:0<=x/\x<=b.Found.getD k 0:=h1
      exact zbX.2 ⟨h3.1,by omega⟩
    rw [if_neg b2,show zaG (n+4) b (n+2) (1+1)=zaG (n+4) b ((n+1)+1) 2 from rfl,zlh hn b (n+1) 2 b.Slugs (by omega) (by omega) (by omega) l2 rfl]
    obtain ⟨m1,m2⟩:=zm0 (by simpa using b2)
    by_cases b3:zry b.Wheel b.Slugs=true
    ·rw [if_pos b3]
     exact no fun h=>by rw [zm1 (zdH h.g).1 (zl7 h.g)] at b3;cases b3
    rw [if_neg b3]
    obtain ⟨g1,g2⟩:=zm0 (by simpa using b3)
    have sm:∀{l:List Int},l.all (fun x=>inR x 0 12)=true->∀k,0<=l.getD k 0/\l.getD k 0<=12:=fun {l} h k=>by
     rw [List.all_eq_true] at h
     rw [List.getD_eq_getElem?_getD]
     cases hk:l[k]? with
     | none=>simp
     | some x=>exact zbX.1 (h x (List.mem_of_getElem? hk))
    have f3:=sm f2
    have g3:=sm g2
    have m3:=sm m2
    show zbi b (n+4) 0 0=_
    have key:∀(d i m:Nat) (v:Int),d=b.Found.length-i->i<=b.Found.length->d<m->0<=v->v<=100*i->zbi b m v (i:Int)=some (if (∀k,i<=k->k<b.Found.length->b.Marked.getD k 0<=b.Found.getD k 0)/\v+total (b.Found.drop i)+total (b.Slugs.drop i)<=12 then 0 else 50):=by
     intro d
     induction d with
     | zero =>
      intro i m v hd hi hm h0 h1
      obtain ⟨m,rfl⟩:∃q,m=q+1:=⟨m-1,by omega⟩
      simp only [zbi,zcO,zdB]
      have e1:total (b.Found.drop i)=0:=by rw [List.drop_eq_nil_of_le (by omega)];rfl
      have e2:total (b.Slugs.drop i)=0:=by rw [List.drop_eq_nil_of_le (by omega)];rfl
      rw [if_neg (by simp;omega)]
      by_cases ht:v>12
      ·rw [if_pos (by simpa using ht),if_neg fun h=>by omega]
      ·rw [if_neg (by simpa using ht),if_pos ⟨fun k h1 h2=>by omega,by omega⟩]
     | succ d ih =>
      intro i m v hd hi hm h0 h1
      obtain ⟨m,rfl⟩:∃q,m=q+1:=⟨m-1,by omega⟩
      have fi:=f3 i
      have gi:=g3 i
      simp only [zbi,zcO]
      rw [if_pos (by simp;omega),zcs (by omega),zab,zcs (by omega),zab,getD_get,getD_get]
      by_cases hq:b.Marked.getD i 0>b.Found.getD i 0
      ·rw [if_pos (by simpa using hq),if_neg fun h=>by have:=h.1 i (Nat.le_refl _) (by omega);omega]
      ·rw [if_neg (by simpa using hq),zcs (by omega),zab,getD_get,zaS (x:=b.Found.getD i 0+b.Slugs.getD i 0) (by omega) (by omega),zaS (x:=v+_) (by omega) (by omega),zaS (x:=(i:Int)+1) (by omega) (by omega)]
       have:=ih (i+1) m (v+(b.Found.getD i 0+b.Slugs.getD i 0)) (by omega) (by omega) (by omega) (by omega) (by omega)
       rw [show (((i+1:Nat)):Int)=(i:Int)+1 by simp] at this
       have e1:total (b.Found.drop i)=b.Found.getD i 0+total (b.Found.drop (i+1)):=by rw [List.drop_eq_getElem_cons (l:=b.Found) (i:=i) (by omega),getD_get];rfl
       have e2:total (b.Slugs.drop i)=b.Slugs.getD i 0+total (b.Slugs.drop (i+1)):=by rw [List.drop_eq_getElem_cons (l:=b.Slugs) (i:=i) (by omega),getD_get];rfl
       rw [this]
       congr 1
       by_cases hR:(∀k,i+1<=k->k<b.Found.length->b.Marked.getD k 0<=b.Found.getD k 0)/\v+(b.Found.getD i 0+b.Slugs.getD i 0)+total (b.Found.drop (i+1))+total (b.Slugs.drop (i+1))<=12
       ·have hall:∀k,i<=k->k<b.Found.length->b.Marked.getD k 0<=b.Found.getD k 0:=fun k h1 h2=>by
         by_cases e:k=i
         ·subst e
          omega
         ·exact hR.1 k (by omega) h2
        rw [if_pos hR,if_pos ⟨hall,by have:=hR.2;omega⟩]
       ·rw [if_neg hR,if_neg fun h=>hR ⟨fun k h1 h2=>h.1 k (by omega) h2,by have:=h.2;omega⟩]
    rw [show zbi b (n+4) 0 0=_ from key b.Found.length 0 (n+4) 0 (by omega) (by omega) (by omega) (by omega) (by omega)]
    simp only [List.drop_zero,Int.zero_add]
    have nnf:∀x,x∈b.Found->0<=x:=zeK fun k=>(f3 k).1
    have nng:∀x,x∈b.Slugs->0<=x:=zeK fun k=>(g3 k).1
    by_cases hR:(∀k,0<=k->k<b.Found.length->b.Marked.getD k 0<=b.Found.getD k 0)/\total b.Found+total b.Slugs<=12
    ·have tf:=zdn nnf
     have tg:=zdn nng
     rw [if_pos hR,zgE.2 ⟨hv,hp,hs,by simp only [zcu,Bool.and_eq_true,decide_eq_true_eq];exact ⟨⟨f1,f2⟩,by have:=hR.2;omega⟩,by simp only [zcu,Bool.and_eq_true,decide_eq_true_eq];exact ⟨⟨g1,g2⟩,by have:=hR.2;omega⟩,by omega,fun k hk=>⟨(m3 k).1,hR.1 k (Nat.zero_le _) hk⟩,hR.2⟩]
     rfl
    ·rw [if_neg hR]
     exact no fun h=>hR ⟨fun k _ hk=>(h.mkd k hk).2,h.t⟩
   ·rw [show (!inR b.Skips 0 9)=true by simpa using hs,j1]
    exact no fun h=>hs h.s
  ·rw [if_pos (by simpa using hp),j1]
   exact no fun h=>hp h.p
 ·rw [show valid b.Wheel=false by simpa using hv]
  exact no fun h=>hv h.v
def zf5 (b:Box):List Int:=sums b.Found b.Slugs
structure Near (b:Box):Prop where
 ok:BoxOk b
 k3:b.Wheel.Coins.length<=3
 t3:total b.Found+total b.Slugs<=3
theorem zeS {l:List Int} {k j:Nat} {v:Int} (hk:k<l.length):(l.set k v).getD j 0=if k=j then v else l.getD j 0:=by
 by_cases e:k=j
 ·subst e
  rw [if_pos rfl,List.getD_eq_getElem?_getD,List.getElem?_set_self hk]
  rfl
 ·rw [if_neg e,List.getD_eq_getElem?_getD,List.getElem?_set_ne e,←List.getD_eq_getElem?_getD]
structure NearF (b:Box):Prop where
 fl:b.Found.length=b.Wheel.Coins.length
 sl:b.Slugs.length=b.Wheel.Coins.length
 ml:b.Marked.length=b.Wheel.Coins.length
 f:∀k,0<=b.Found.getD k 0/\b.Found.getD k 0<=12
 s:∀k,0<=b.Slugs.getD k 0/\b.Slugs.getD k 0<=12
 m:∀k,0<=b.Marked.getD k 0/\b.Marked.getD k 0<=12
 p:0<=b.Plays/\b.Plays<=9999
 k:0<=b.Skips/\b.Skips<=9
 h:OkW b.Wheel
theorem BoxOk.far {b:Box} (N:BoxOk b):NearF b:=by
 obtain ⟨f1,f2,f3⟩:=zdH N.f
 obtain ⟨g1,g2,g3⟩:=zdH N.g
 refine ⟨f1,g1,by rw [N.ml];exact f1,f2,g2,fun k=>?_,zbX.1 N.p,zbX.1 N.s,zf3 N.v⟩
 rcases Nat.lt_or_ge k b.Found.length with h | h
 ·have:=N.mkd k h
  have:=f2 k
  omega
 ·rw [List.getD_eq_getElem?_getD,List.getElem?_eq_none (by rw [N.ml];exact h)]
  simp
theorem zgF {b:Box} (F:NearF b):(zf5 b).length=b.Wheel.Coins.length:=by rw [zf5,zf4 (by rw [F.sl,F.fl]),F.fl]
theorem zhY {b:Box} (F:NearF b) (k:Nat):(zf5 b).getD k 0=b.Found.getD k 0+b.Slugs.getD k 0:=zeE (by rw [F.sl,F.fl]) k
theorem zjS {b:Box} (F:NearF b):total (zf5 b)=total b.Found+total b.Slugs:=zeY (by rw [F.sl,F.fl])
structure More (b:Box) (P:List Int):Prop where
 l:P.length=b.Wheel.Coins.length
 nn:∀k,0<=P.getD k 0
 t:total P<=2
theorem More.small {b:Box} {P:List Int} (h:More b P):∀k,0<=P.getD k 0/\P.getD k 0<=2:=fun k=>by
 have:=zfb (zeK h.nn) k
 have:=h.t
 omega
theorem Near.cx0 {b:Box} (N:Near b):Cx b.Wheel (zf5 b) :=
 have F:=N.ok.far
 ⟨N.ok.v,zgF F,fun k=>by rw [zhY F];have:=F.f k;have:=F.s k;omega,N.k3,by rw [zjS F];have:=N.t3;omega⟩
theorem Near.cx {b:Box} (N:Near b) {P:List Int} (h:More b P):Cx b.Wheel (sums (zf5 b) P) :=
 have F:=N.ok.far
 have e:P.length=(zf5 b).length:=by rw [h.l,zgF F]
 ⟨N.ok.v,by rw [zf4 e,zgF F],fun k=>by rw [zeE e,zhY F];have:=F.f k;have:=F.s k;have:=h.nn k;omega,N.k3,by rw [zeY e,zjS F];have:=N.t3;have:=h.t;omega⟩
theorem put_eq {b:Box} (F:NearF b) (h4:b.Wheel.Coins.length<=4) {n:Nat} (hn:10<=n):zc4 n (some ⟨b⟩)=some (zbA (zf5 b)):=by
 have hfl:=F.fl
 have hsl:=F.sl
 have key:∀(d i m:Nat) (Q:List Int),d=b.Found.length-i->i<=b.Found.length->d<m->Q.length=b.Found.length->(∀k:Nat,k<i->Q.getD k 0=b.Found.getD k 0+b.Slugs.getD k 0)->zbx (some ⟨b⟩) ⟨b⟩ m (i:Int) (Q.getD 0 0) (Q.getD 1 0) (Q.getD 2 0) (Q.getD 3 0)=some (zbA (zf5 b)):=by
  intro d
  induction d with
  | zero =>
   intro i m Q hd hi hm hQ hk
   obtain ⟨m,rfl⟩:∃q,m=q+1:=⟨m-1,by omega⟩
   simp only [zbx,zci,zcQ]
   have e:Q=zf5 b:=zfu (n:=b.Found.length) hQ (by rw [zgF F,F.fl]) fun k hk'=>by rw [hk k (by omega),zhY F]
   rw [if_neg (by simp;omega),e]
   rfl
  | succ d ih =>
   intro i m Q hd hi hm hQ hk
   obtain ⟨m,rfl⟩:∃q,m=q+1:=⟨m-1,by omega⟩
   have h1:=F.f i
   have h2:=F.s i
   simp only [zbx,zci]
   rw [if_pos (by simp;omega),show idx b.Found (i:Int)=some (b.Found.getD i 0) by rw [zcs (by omega),getD_get],zab,zab,show idx (⟨b⟩:Box_).Box.Slugs (i:Int)=some (b.Slugs.getD i 0) by show idx b.Slugs (i:Int)=_;rw [zcs (by omega),getD_get],zab,show idx ([Q.getD 0 0,Q.getD 1 0,Q.getD 2 0,Q.getD 3 0]:List Int) (i:Int)=some (Q.getD i 0) from zjN (by omega),zab,zaS (x:=b.Found.getD i 0+_) (by omega) (by omega),show zqI ([Q.getD 0 0,Q.getD 1 0,Q.getD 2 0,Q.getD 3 0]:List Int) (i:Int) (b.Found.getD i 0+b.Slugs.getD i 0)=some (zr1 (Q.set i (b.Found.getD i 0+b.Slugs.getD i 0))) from zmT (by omega) (by omega),zab,zaS (x:=(i:Int)+1) (by omega) (by omega)]
   have:=ih (i+1) m (Q.set i (b.Found.getD i 0+b.Slugs.getD i 0)) (by omega) (by omega) (by omega) (by simp [hQ]) fun k hk'=>by
    rw [zeS (by omega)]
    by_cases e:i=k
    ·subst e
     rw [if_pos rfl]
    ·rw [if_neg e,hk k (by omega)]
   rw [show (((i+1:Nat)):Int)=(i:Int)+1 by simp] at this
   exact this
 have:=key b.Found.length 0 n (List.replicate b.Found.length 0) (by omega) (by omega) (by omega) (by simp) fun k hk=>by omega
 have hz:∀k,(List.replicate b.Found.length (0:Int)).getD k 0=0:=fun k=>by
  rw [List.getD_eq_getElem?_getD,List.getElem?_replicate]
  split<;>rfl
 simp only [hz] at this
 exact this
theorem zl8 {b:Box} {P base:List Int} (hP:More b P) (hb:base.length=b.Wheel.Coins.length) (hs:zgD base) (h4:b.Wheel.Coins.length<=4) {n:Nat} (hn:10<=n):zbp P n 0 (zbA base)=some (zbA (sums base P)):=by
 have hl:=hP.l
 have key:∀(d i m:Nat) (Q:List Int),d=P.length-i->i<=P.length->d<m->Q.length=P.length->(∀k:Nat,k<i->Q.getD k 0=base.getD k 0+P.getD k 0)->(∀k:Nat,i<=k->Q.getD k 0=base.getD k 0)->zbp P m (i:Int) (zbA Q)=some (zbA (sums base P)):=by
  intro d
  induction d with
  | zero =>
   intro i m Q hd hi hm hQ hk _
   obtain ⟨m,rfl⟩:∃q,m=q+1:=⟨m-1,by omega⟩
   simp only [zbp]
   have e:Q=sums base P:=zfu (n:=P.length) hQ (by rw [zf4 (by omega)];omega) fun k hk'=>by rw [hk k (by omega),zeE (by omega)]
   rw [if_neg (by simp;omega),e]
  | succ d ih =>
   intro i m Q hd hi hm hQ hk hk2
   obtain ⟨m,rfl⟩:∃q,m=q+1:=⟨m-1,by omega⟩
   have h1:=hs i
   have h2:=hP.small i
   have h3:=hk2 i (Nat.le_refl _)
   simp only [zbp]
   rw [if_pos (by simp;omega),zcs (by omega),zab,getD_get,show idx ([(zbA Q).c0,(zbA Q).c1,(zbA Q).c2,(zbA Q).c3]:List Int) (i:Int)=some (Q.getD i 0) from zjN (by omega),zab,zaS (x:=Q.getD i 0+_) (by omega) (by omega),show zqI ([(zbA Q).c0,(zbA Q).c1,(zbA Q).c2,(zbA Q).c3]:List Int) (i:Int) (Q.getD i 0+P.getD i 0)=some (zr1 (Q.set i (Q.getD i 0+P.getD i 0))) from zmT (by omega) (by omega),zab,zaS (x:=(i:Int)+1) (by omega) (by omega)]
   have:=ih (i+1) m (Q.set i (Q.getD i 0+P.getD i 0)) (by omega) (by omega) (by omega) (by simp [hQ]) (fun k hk'=>by
    rw [zeS (by omega)]
    by_cases e:i=k
    ·subst e
     rw [if_pos rfl,h3]
    ·rw [if_neg e,hk k (by omega)]) fun k hk'=>by
    rw [zeS (by omega),if_neg (by omega),hk2 k (by omega)]
   rw [show (((i+1:Nat)):Int)=(i:Int)+1 by simp] at this
   exact this
 exact key P.length 0 n base (by omega) (by omega) (by omega) (by omega) (fun k hk=>by omega) fun k _=>rfl
theorem zhZ {n:Nat} {b:Box} (h:OkW b.Wheel) (hn:100<=n) {l:List Int} (hlen:l.length=b.Wheel.Coins.length) (hl:zgD l):za1 n (some ⟨b⟩) l=some (zbk b.Wheel l):=by
 have h4:=h.clen
 have key:∀(d i m:Nat) (s:Int),d=b.Wheel.Coins.length-i->i<=b.Wheel.Coins.length->d<m->0<=s->s+100000*d<=1000000->zbe (some ⟨b⟩) l m s (i:Int)=some (s+zoT b.Wheel l d i):=by
  intro d
  induction d with
  | zero =>
   intro i m s hd hi hm hs hs2
   obtain ⟨m,rfl⟩:∃q,m=q+1:=⟨m-1,by omega⟩
   simp only [zbe,zb6,zcj,zoT]
   rw [if_neg (by simp;omega),Int.add_zero]
  | succ d ih =>
   intro i m s hd hi hm hs hs2
   obtain ⟨m,rfl⟩:∃q,m=q+1:=⟨m-1,by omega⟩
   have ht:=zwl h hl (show i<b.Wheel.Coins.length by omega)
   simp only [zbe,zb6,zoT]
   rw [if_pos (by simp;omega),zcs (by omega),zab,zab,show idx (⟨b⟩:Box_).Box.Wheel.Coins (i:Int)=some (coin b.Wheel i) from zlc (w:=b.Wheel) (by omega) (by omega),zab,getD_get,Int.mul_comm,zaS (x:=coin b.Wheel i*_) (by omega) (by omega),zaS (x:=s+_) (by omega) (by omega),zaS (x:=(i:Int)+1) (by omega) (by omega)]
   have:=ih (i+1) m (s+coin b.Wheel i*l.getD i 0) (by omega) (by omega) (by omega) (by omega) (by omega)
   rw [show (((i+1:Nat)):Int)=(i:Int)+1 by simp] at this
   rw [this]
   congr 1
   omega
 have:=key b.Wheel.Coins.length 0 n 0 (by omega) (by omega) (by omega) (by omega) (by omega)
 rw [Int.zero_add] at this
 exact this
def ziF (w:Wheel) (al L:List Int):Prop:=L.Pairwise (·<·)/\∀v,v∈L↔Can w al v
theorem zqx:∀{L:List Int},L.Pairwise (·<=·)->L.Nodup->L.Pairwise (·<·)
 | [],_,_=>.nil
 | x::L,h,hn=>by
  rw [List.pairwise_cons] at h ⊢
  rw [List.nodup_cons] at hn
  refine ⟨fun y hy=>?_,zqx h.2 hn.2⟩
  have:=h.1 y hy
  rcases Int.lt_or_eq_of_le this with h1 | h1
  ·exact h1
  ·subst h1
   exact absurd hy hn.1
theorem zr8:∀{L L':List Int},L.Pairwise (·<·)->L'.Pairwise (·<·)->(∀v,v∈L↔v∈L')->L=L'
 | [],[],_,_,_=>rfl
 | [],y::_,_,_,h=>absurd ((h y).2 (by simp)) (by simp)
 | x::_,[],_,_,h=>absurd ((h x).1 (by simp)) (by simp)
 | x::L,y::L',h1,h2,h=>by
  rw [List.pairwise_cons] at h1 h2
  have e:x=y:=by
   have hx:=(h x).1 (by simp)
   have hy:=(h y).2 (by simp)
   rcases List.mem_cons.1 hx with e | hx
   ·exact e
   ·rcases List.mem_cons.1 hy with e | hy
    ·exact e.symm
    ·have:=h1.1 y hy
     have:=h2.1 x hx
     omega
  subst e
  congr 1
  refine zr8 h1.2 h2.2 fun v=>⟨fun hv=>?_,fun hv=>?_⟩
  ·rcases List.mem_cons.1 ((h v).1 (List.mem_cons_of_mem _ hv)) with e | hv'
   ·have:=h1.1 v hv
    omega
   ·exact hv'
  ·rcases List.mem_cons.1 ((h v).2 (List.mem_cons_of_mem _ hv)) with e | hv'
   ·have:=h2.1 v hv
    omega
   ·exact hv'
theorem ziF.eq {w:Wheel} {al L L':List Int} (h:ziF w al L) (h':ziF w al L'):L=L':=zr8 h.1 h'.1 fun v=>by rw [h.2,h'.2]
theorem zqy {w:Wheel} {al K:List Int} (hn:K.Nodup) (h:∀v,v∈K↔Can w al v):ziF w al (zec K) :=
 ⟨zqx (zex K) ((zdj K).nodup_iff.2 hn),fun v=>by rw [(zdj K).mem_iff];exact h v⟩
theorem znS {w:Wheel} {al:List Int} (C:Cx w al) {A M} (hW:WI w al A M) (hall:∀acts X,RP (clT (total al)) w al acts X->zbY M (pnt X)=true) :
  zhx M=true/\EndsOk (zbA al) (M.map (·.1)) (zdL (zbA al) M)/\ziF w al (zec ((zdL (zbA al) M).map (·.1)))/\(∀v,v∈(zdL (zbA al) M).map (·.1)->okI v=true):=by
 have hE:EndsOk (zbA al) (M.map (·.1)) (zdL (zbA al) M):=zjB (zbA al) (M.map (·.1))
 have hkey:∀o,o∈M.map (·.1)->∃X,o=pnt X/\RP (clT (total al)) w al (A o) X:=fun o ho=>hW.key (za3.2 ho)
 have hmem:∀v,v∈(zdL (zbA al) M).map (·.1)↔∃acts X,RP (clT (total al)) w al acts X/\X.l=al/\X.b=v:=fun v=>by
  constructor
  ·intro hv
   obtain ⟨⟨b,o⟩,ho,rfl⟩:=List.mem_map.1 hv
   obtain ⟨h1,h2,h3,_⟩:=(hE.mem b o).1 ho
   obtain ⟨X,rfl,hr⟩:=hkey o h1
   refine ⟨_,X,hr,zle h2 (by rw [(zmg C hr).1.len,C.hl]) (by rw [(zmg C hr).1.len];have:=C.k3;omega),h3⟩
  ·rintro ⟨acts,X,hr,rfl,rfl⟩
   exact za3.1 (hE.has (pnt X) (za3.1 (hall acts X hr)) rfl)
 refine ⟨?_,hE,zqy hE.nd fun v=>by rw [hmem,zwm C.h C.hl C.nn],fun v hv=>?_⟩
 ·unfold zhx
  rw [Bool.and_eq_true]
  refine ⟨List.all_eq_true.2 fun p hp=>?_,decide_eq_true (by have:=hW.len C;omega)⟩
  obtain ⟨X,e,hr⟩:=(hW.pt p.1 p.2 hp).1
  rw [e]
  have:=(zmg C hr).2.2.2
  unfold zbn at this
  simp only [List.all_cons,List.all_nil,Bool.and_true,Bool.and_eq_true] at this
  exact this.2.2.2.2.2.2
 ·obtain ⟨acts,X,hr,_,rfl⟩:=(hmem v).1 hv
  have h1:=zmg C hr
  have h2:=h1.1.bt
  have h3:=h1.1.cb
  have h4:=h1.1.c0
  have h5:=C.t5
  exact zft (by omega) (by omega)
theorem zl9 {b:Box} (N:Near b) {n:Nat} (hn:100000<=n):∃L,zco n (some ⟨b⟩)=some L/\ziF b.Wheel (zf5 b) L:=by
 have h3:=N.k3
 obtain ⟨A,M,h1,hW,hall⟩:=zqs N.cx0 hn (b:=⟨b⟩) rfl
 obtain ⟨s1,s2,s3,s4⟩:=znS N.cx0 hW hall
 refine ⟨_,?_,s3⟩
 unfold zco
 rw [put_eq N.ok.far (by omega) (by omega),zab,h1,zab,zab,if_pos s1]
def zm2 (b:Box) (al:List Int):Prop:=∃v,Can b.Wheel al v/\b.Plays<=v/\v<=b.Plays+b.Skips
structure ExplOk (b:Box) (al acts:List Int):Prop where
 ok:acts.all (zei b.Wheel)=true
 len:(acts.length:Int)<=2*total al
 bag:∀k:Nat,k<b.Wheel.Coins.length->cnt k acts=al.getD k 0
 pl:b.Plays<=zd6 b.Wheel ⟨0,0⟩ acts
 pl2:zd6 b.Wheel ⟨0,0⟩ acts<=b.Plays+b.Skips
theorem ExplOk.ex {b:Box} {al acts:List Int} (h:ExplOk b al acts):zm2 b al:=⟨_,⟨acts,h.ok,h.bag,rfl⟩,h.pl,h.pl2⟩
theorem zoV {b:Box} (N:Near b) {P:List Int} (hP:More b P) {n:Nat} (hn:100000<=n):∃r,zbG n (some ⟨b⟩) P=some r/\(r.2=true/\ExplOk b (sums (zf5 b) P) r.1\/r.2=false/\¬zm2 b (sums (zf5 b) P)):=by
 have h3:=N.k3
 have F:=N.ok.far
 have hpl:=F.p
 have hsk:=F.k
 have hpt:=F.f
 have C:=N.cx hP
 obtain ⟨A,M,h1,hW,hall⟩:=zqs C hn (b:=⟨b⟩) rfl
 obtain ⟨s1,s2,s3,s4⟩:=znS C hW hall
 unfold zbG
 rw [zab,put_eq F (by omega) (by omega),zab,zl8 hP (zgF F) (fun k=>by rw [zhY F];have:=F.f k;have:=F.s k;omega) (by omega) (by omega),zab,h1,zab,if_pos s1]
 generalize hal:sums (zf5 b) P=al at *
 generalize hE:zdL (zbA al) M=E at *
 generalize hbs:zec (E.map (·.1))=bs at *
 have hbl:bs.length<=93312:=by
  rw [←hbs,(zdj _).length_eq,List.length_map,←hE]
  have:=ziT (al:=zbA al) (M.map (·.1)) []
  simp only [List.length_map,List.length_nil] at this
  have:=hW.len C
  unfold zdL
  omega
 have key:∀(d i m:Nat),d=bs.length-i->i<=bs.length->d<m->(∀v,v∈bs->v∈bs.drop i\/¬(b.Plays<=v/\v<=b.Plays+b.Skips))->∃r,zbq n ⟨b⟩ M E bs m (i:Int)=some r/\(r.2=true/\ExplOk b al r.1\/r.2=false/\¬zm2 b al):=by
  intro d
  induction d with
  | zero =>
   intro i m hd hi hm hv
   obtain ⟨m,rfl⟩:∃q,m=q+1:=⟨m-1,by omega⟩
   simp only [zbq]
   rw [if_neg (by simp;omega)]
   refine ⟨_,rfl,.inr ⟨rfl,?_⟩⟩
   rintro ⟨v,h1,h2⟩
   rcases hv v ((s3.2 v).2 h1) with h | h
   ·rw [List.drop_eq_nil_of_le (by omega)] at h
    simp at h
   ·exact h h2
  | succ d ih =>
   intro i m hd hi hm hv
   obtain ⟨m,rfl⟩:∃q,m=q+1:=⟨m-1,by omega⟩
   simp only [zbq]
   have hdr:bs.drop i=bs.getD i 0::bs.drop (i+1):=by rw [List.drop_eq_getElem_cons (l:=bs) (i:=i) (by omega),getD_get]
   have hbm:bs.getD i 0∈bs:=by
    rw [←getD_get (by omega)]
    exact List.getElem_mem (by omega)
   rw [if_pos (by simp;omega),zcs (by omega),zab,getD_get,zgQ,zab,zaS (x:=b.Plays+b.Skips) (by omega) (by omega),zaS (x:=(i:Int)+1) (by omega) (by omega)]
   generalize hx:bs.getD i 0=x at *
   by_cases hq:inR x b.Plays (b.Plays+b.Skips)=true
   ·rw [if_neg (by rw [hq];simp)]
    have hxk:x∈E.map (·.1):=by
     rw [←hbs,(zdj _).mem_iff] at hbm
     exact hbm
    have hmx:zbY E x=true:=za3.2 hxk
    have hok:mok okI E x=true:=by
     unfold Go.AM.mok
     rw [s4 x hxk,Bool.true_and,Bool.and_eq_true]
     exact ⟨List.all_eq_true.2 fun p hp=>s4 p.1 (List.mem_map.2 ⟨p,hp,rfl⟩),decide_eq_true s2.nd⟩
    rw [show zfE okI zaz E x=some (zfP zaz E x) from if_pos hok,zab]
    obtain ⟨p1,p2,p3,_⟩:=(s2.mem _ _).1 (zfL zaz hmx)
    have hmp:=za3.2 p1
    obtain ⟨X,e,hr⟩:=hW.key hmp
    obtain ⟨hX,ht,hk,hokp⟩:=zmg C hr
    generalize hp:zfP zaz E x=p at *
    subst e
    have hXl:X.l=al:=zle p2 (by rw [hX.len,C.hl]) (by rw [hX.len];omega)
    have hsh:=hr.short C.h C.hl C.nn
    have hlen:((A (pnt X)).length:Int)<=2*total al:=by
     rcases hsh.2 with h | ⟨_,h,_⟩
     ·rw [hXl] at h
      exact h
     ·rw [hXl] at h
      omega
    have ht5:=C.t5
    rw [show zfE zbn zaX M (pnt X)=some (zfP zaX M (pnt X)) from if_pos (hW.mok C hr),zab,zqt C hW n hmp (by omega) (by simp;omega),zab]
    refine ⟨_,rfl,.inl ⟨rfl,?_⟩⟩
    simp only [List.nil_append,List.reverse_reverse]
    have hb:zd6 b.Wheel ⟨0,0⟩ (A (pnt X))=x:=by rw [hX.buys];exact p3
    have hq:=zbX.1 hq
    exact ⟨hX.ok,hlen,fun k _=>by rw [hX.bag k,hXl],by rw [hb];exact hq.1,by rw [hb];exact hq.2⟩
   ·rw [if_pos (by simpa using hq)]
    have:=ih (i+1) m (by omega) (by omega) (by omega) fun v hvm=>by
     rcases hv v hvm with h | h
     ·rw [hdr] at h
      rcases List.mem_cons.1 h with rfl | h
      ·exact .inr fun hh=>hq (zbX.2 hh)
      ·exact .inl h
     ·exact .inr h
    rw [show (((i+1:Nat)):Int)=(i:Int)+1 by simp] at this
    exact this
 exact key bs.length 0 n (by omega) (by omega) (by omega) fun v hv=>.inl (by simpa using hv)
def zh0:Nat->List Int->Nat->List (List Int)
 | 0,p,_=>[p]
 | d+1,p,t=>(upF 0 (t+1)).flatMap fun v=>zh0 d (p++[v]) (t-v.toNat)
def zjT {S:Type} (F:List Int->S->Option (Unit×S)):List (List Int)->S->Option S
 | [],s=>some s
 | x::l,s=>(F x s).bind fun r=>zjT F l r.2
theorem ziz {S:Type} (F:List Int->S->Option (Unit×S)):∀(a b:List (List Int)) (s:S),zjT F (a++b) s=(zjT F a s).bind fun s=>zjT F b s
 | [],b,s=>rfl
 | x::a,b,s=>by
  simp only [List.cons_append,zjT]
  cases F x s with
  | none=>rfl
  | some r =>
   simp only [Option.bind_some]
   exact ziz F a b r.2
theorem zqz {S:Type} (F:List Int->S->Option (Unit×S)) {b:Box} (h4:b.Wheel.Coins.length<=4):∀(d:Nat) (p:List Int) (t n:Nat) (s:S),p.length+d=b.Wheel.Coins.length->t<=2->d+10<=n->zbj n F (some ⟨b⟩) p (t:Int) s=(zjT F (zh0 d p t) s).map fun s=>((),s)
 | d,p,t,0,s,_,_,hn=>absurd hn (by omega)
 | 0,p,t,n+1,s,hp,ht,hn=>by
  simp only [zbj,zcc]
  rw [zab,if_pos (by simp;omega)]
  simp only [zh0,zjT]
  cases F p s<;>rfl
 | d+1,p,t,n+1,s,hp,ht,hn=>by
  simp only [zbj,zcc]
  rw [zab,if_neg (by simp;omega)]
  have loop:∀(e i m:Nat) (s:S),i+e=t+1->e<m->zbl (zbj n F) (some ⟨b⟩) p (t:Int) m (i:Int) s=(zjT F ((upF i e).flatMap fun v=>zh0 d (p++[v]) (t-v.toNat)) s).map fun s=>((),s):=by
   intro e
   induction e with
   | zero =>
    intro i m s hi hm
    obtain ⟨m,rfl⟩:∃q,m=q+1:=⟨m-1,by omega⟩
    simp only [zbl,zbN]
    rw [zaS (by omega) (by omega),if_neg (by simp;omega)]
    rfl
   | succ e ih =>
    intro i m s hi hm
    obtain ⟨m,rfl⟩:∃q,m=q+1:=⟨m-1,by omega⟩
    simp only [zbl,zbN,slices_Clone_int]
    have hrec:=zqz F h4 d (p++[(i:Int)]) (t-i) n s (by simp;omega) (by omega) (by omega)
    rw [show ((t-i:Nat):Int)=(t:Int)-(i:Int) by omega] at hrec
    rw [zaS (x:=(t:Int)+1) (by omega) (by omega),if_pos (by simp;omega),zld (by omega),zab,zkr (by simp;omega),zab,zaS (x:=(t:Int)-i) (by omega) (by omega),zaS (x:=(i:Int)+1) (by omega) (by omega),hrec]
    simp only [upF,List.flatMap_cons,ziz,Int.toNat_natCast]
    cases zjT F (zh0 d (p++[(i:Int)]) (t-i)) s with
    | none=>rfl
    | some s' =>
     have:=ih (i+1) m s' (by omega) (by omega)
     rw [show (((i+1:Nat)):Int)=(i:Int)+1 by simp] at this
     simp only [Option.map_some,Option.bind_some]
     exact this
  exact loop (t+1) 0 n s (by omega) (by omega)
theorem zjU:∀(d:Nat) (p:List Int) (t:Nat) (P:List Int),P∈zh0 d p t↔∃r,P=p++r/\r.length=d/\(∀k,0<=r.getD k 0)/\total r<=t
 | 0,p,t,P=>by
  simp only [zh0,List.mem_singleton]
  constructor
  ·rintro rfl
   exact ⟨[],by simp,rfl,fun k=>by simp,by simp [total]⟩
  ·rintro ⟨r,rfl,h,_⟩
   obtain rfl:=List.eq_nil_of_length_eq_zero h
   simp
 | d+1,p,t,P=>by
  simp only [zh0,List.mem_flatMap]
  constructor
  ·rintro ⟨v,hv,hP⟩
   have hv:=zlg.1 hv
   obtain ⟨r,rfl,h1,h2,h3⟩:=(zjU d _ _ P).1 hP
   refine ⟨v::r,by simp,by simp [h1],fun k=>?_,?_⟩
   ·cases k with
    | zero =>
     show 0<=v
     omega
    | succ k=>simpa using h2 k
   ·simp only [total]
    omega
  ·rintro ⟨r,rfl,h1,h2,h3⟩
   cases r with
   | nil=>simp at h1
   | cons v r =>
    have hv:0<=v:=h2 0
    have hr:∀k,0<=r.getD k 0:=fun k=>by simpa using h2 (k+1)
    have ht:=zdn (zeK hr)
    simp only [total] at h3
    exact ⟨v,zlg.2 ⟨by omega,by omega⟩,(zjU d _ _ _).2 ⟨r,by simp,by simpa using h1,hr,by omega⟩⟩
theorem zjV {b:Box} {P:List Int}:P∈zh0 b.Wheel.Coins.length [] 2↔More b P:=by
 rw [zjU]
 constructor
 ·rintro ⟨r,rfl,h1,h2,h3⟩
  exact ⟨by simpa using h1,by simpa using h2,by simpa using h3⟩
 ·rintro ⟨h1,h2,h3⟩
  exact ⟨P,by simp,h1,h2,h3⟩
theorem zma:∀(d:Nat) (p:List Int) (t:Nat),t<=2->(zh0 d p t).length<=3 ^ d
 | 0,p,t,_=>by simp [zh0]
 | d+1,p,t,ht=>by
  simp only [zh0]
  refine Nat.le_trans (zij (c:=3 ^ d) fun v _=>zma d _ _ (by omega)) ?_
  rw [zmW,Nat.pow_succ,Nat.mul_comm]
  exact Nat.mul_le_mul_left _ (by omega)
structure GInv (b:Box) (xs:List (List Int)) (gs:List Gap_):Prop where
 len:gs.length<=xs.length
 mem:∀g,g∈gs->More b g.purse/\ExplOk b (sums (zf5 b) g.purse) g.acts
 eq:∀g,g∈gs->∀h,h∈gs->zbk b.Wheel g.purse=zbk b.Wheel h.purse
 le:∀P,P∈xs->zm2 b (sums (zf5 b) P)->∃g,g∈gs/\zbk b.Wheel g.purse<=zbk b.Wheel P
theorem zli {b:Box} {P:List Int} (h:More b P):zgD P:=fun k=>by have:=h.small k;omega
theorem zmb {b:Box} (N:Near b) {n:Nat} (hn:100000<=n) {xs:List (List Int)} {gs:List Gap_} {P:List Int} (hP:More b P) (hx:xs.length<=100) (h:GInv b xs gs):∃gs',zay n (some ⟨b⟩) P gs=some ((),gs')/\GInv b (xs++[P]) gs':=by
 obtain ⟨r,hr,hc⟩:=zoV N hP hn
 have hw:=fun {l} (hl:More b l)=>zhZ N.ok.far.h (show 100<=n by omega) hl.l (zli hl)
 have skip:r.2=false->¬zm2 b (sums (zf5 b) P):=fun e=>by
  rcases hc with ⟨h1,_⟩ | ⟨_,h2⟩
  ·rw [e] at h1
   cases h1
  ·exact h2
 have take:r.2=true->ExplOk b (sums (zf5 b) P) r.1:=fun e=>by
  rcases hc with ⟨_,h2⟩ | ⟨h1,_⟩
  ·exact h2
  ·rw [e] at h1
   cases h1
 have keep:¬zm2 b (sums (zf5 b) P)->GInv b (xs++[P]) gs:=fun hno=>⟨by have:=h.len;simp;omega,h.mem,h.eq,fun Q hQ hE=>by
  rcases List.mem_append.1 hQ with hQ | hQ
  ·exact h.le Q hQ hE
  ·obtain rfl:=List.mem_singleton.1 hQ
   exact absurd hE hno⟩
 cases gs with
 | nil =>
  simp only [zay]
  rw [hr,zab]
  cases e:r.2 with
  | false =>
   rw [if_pos (by rfl)]
   exact ⟨_,rfl,keep (skip e)⟩
  | true =>
   rw [if_neg (by simp)]
   refine ⟨_,rfl,by simp,fun g hg=>?_,fun g hg g' hg'=>?_,fun Q hQ hE=>?_⟩
   ·obtain rfl:=List.mem_singleton.1 hg
    exact ⟨hP,take e⟩
   ·rw [List.mem_singleton.1 hg,List.mem_singleton.1 hg']
   ·rcases List.mem_append.1 hQ with hQ | hQ
    ·obtain ⟨g,hg,_⟩:=h.le Q hQ hE
     simp at hg
    ·obtain rfl:=List.mem_singleton.1 hQ
     exact ⟨_,List.mem_singleton.2 rfl,Int.le_refl _⟩
 | cons x gs =>
  simp only [zay]
  obtain ⟨hxm,hxe⟩:=h.mem x (by simp)
  rw [hw hP,zab,hw hxm,zab]
  by_cases hgt:zbk b.Wheel P>zbk b.Wheel x.purse
  ·rw [if_pos (by simpa using hgt)]
   refine ⟨_,rfl,by have:=h.len;simp at this ⊢;omega,h.mem,h.eq,fun Q hQ hE=>?_⟩
   rcases List.mem_append.1 hQ with hQ | hQ
   ·exact h.le Q hQ hE
   ·obtain rfl:=List.mem_singleton.1 hQ
    exact ⟨x,by simp,by omega⟩
  ·rw [if_neg (by simpa using hgt),hr,zab]
   cases e:r.2 with
   | false =>
    rw [if_pos (by rfl)]
    exact ⟨_,rfl,keep (skip e)⟩
   | true =>
    rw [if_neg (by simp),zab,zab]
    by_cases hlt:zbk b.Wheel P<zbk b.Wheel x.purse
    ·rw [if_pos (by simpa using hlt)]
     refine ⟨_,rfl,by simp,fun g hg=>?_,fun g hg g' hg'=>?_,fun Q hQ hE=>?_⟩
     ·obtain rfl:=List.mem_singleton.1 hg
      exact ⟨hP,take e⟩
     ·rw [List.mem_singleton.1 hg,List.mem_singleton.1 hg']
     ·refine ⟨_,List.mem_singleton.2 rfl,?_⟩
      show zbk b.Wheel P<=_
      rcases List.mem_append.1 hQ with hQ | hQ
      ·obtain ⟨g,hg,hle⟩:=h.le Q hQ hE
       have:=h.eq g hg x (by simp)
       omega
      ·obtain rfl:=List.mem_singleton.1 hQ
       exact Int.le_refl _
    ·rw [if_neg (by simpa using hlt),zkr (by have:=h.len;simp at this ⊢;omega),zab]
     have heq:zbk b.Wheel P=zbk b.Wheel x.purse:=by omega
     have hall:∀g,g∈x::gs++[⟨P,r.1⟩]->zbk b.Wheel g.purse=zbk b.Wheel P:=fun g hg=>by
      rcases List.mem_append.1 hg with hg | hg
      ·rw [heq]
       exact h.eq g hg x (by simp)
      ·rw [List.mem_singleton.1 hg]
     refine ⟨_,rfl,by have:=h.len;simp at this ⊢;omega,fun g hg=>?_,fun g hg g' hg'=>by rw [hall g hg,hall g' hg'],fun Q hQ hE=>?_⟩
     ·rcases List.mem_append.1 hg with hg | hg
      ·exact h.mem g hg
      ·obtain rfl:=List.mem_singleton.1 hg
       exact ⟨hP,take e⟩
     ·rcases List.mem_append.1 hQ with hQ | hQ
      ·obtain ⟨g,hg,hle⟩:=h.le Q hQ hE
       exact ⟨g,List.mem_append_left _ hg,hle⟩
      ·obtain rfl:=List.mem_singleton.1 hQ
       exact ⟨⟨Q,r.1⟩,List.mem_append_right _ (by simp),Int.le_refl _⟩
theorem ziA {b:Box} (N:Near b) {n:Nat} (hn:100000<=n):∀(l xs:List (List Int)) (gs:List Gap_),(∀P,P∈l->More b P)->xs.length+l.length<=100->GInv b xs gs->∃gs',zjT (fun x0 s=>zay n (some ⟨b⟩) x0 s) l gs=some gs'/\GInv b (xs++l) gs'
 | [],xs,gs,_,_,h=>⟨gs,rfl,by simpa using h⟩
 | P::l,xs,gs,hm,hl,h=>by
  simp only [List.length_cons] at hl
  obtain ⟨gs1,h1,h2⟩:=zmb N hn (hm P (by simp)) (by omega) h
  obtain ⟨gs2,h3,h4⟩:=ziA N hn l (xs++[P]) gs1 (fun Q hQ=>hm Q (by simp [hQ])) (by simp;omega) h2
  refine ⟨gs2,?_,by simpa using h4⟩
  simp only [zjT,h1,Option.bind_some]
  exact h3
def zy1 (b:Box) (gs:List Gap_):Prop:=(gs=[]/\∀P,More b P->¬zm2 b (sums (zf5 b) P))\/∃x t,gs=x::t/\More b x.purse/\ExplOk b (sums (zf5 b) x.purse) x.acts/\∀P,More b P->zm2 b (sums (zf5 b) P)->zbk b.Wheel x.purse<=zbk b.Wheel P
theorem zoW {b:Box} (N:Near b) {n:Nat} (hn:100000<=n):∃gs,zbH n (some ⟨b⟩)=some gs/\zy1 b gs:=by
 have h3:=N.k3
 have hlen:(zh0 b.Wheel.Coins.length [] 2).length<=100:=by
  have h1:=zma b.Wheel.Coins.length [] 2 (by omega)
  have h2:3 ^ b.Wheel.Coins.length<=3 ^ 3:=Nat.pow_le_pow_right (by omega) h3
  omega
 obtain ⟨gs,h1,h2⟩:=ziA N hn (zh0 b.Wheel.Coins.length [] 2) [] [] (fun P hP=>zjV.1 hP) (by simpa using hlen) ⟨by simp,by simp,by simp,by simp⟩
 refine ⟨gs,?_,?_⟩
 ·unfold zbH
  have:=zqz (fun x0 s=>zay n (some ⟨b⟩) x0 s) (b:=b) (by omega) b.Wheel.Coins.length [] 2 n [] (by simp) (by omega) (by omega)
  rw [show zbj n (fun x0 s=>zay n (some ⟨b⟩) x0 s) (some ⟨b⟩) [] 2 []=_ from this,h1]
  rfl
 ·rw [List.nil_append] at h2
  cases gs with
  | nil =>
   refine .inl ⟨rfl,fun P hP hE=>?_⟩
   obtain ⟨g,hg,_⟩:=h2.le P (zjV.2 hP) hE
   simp at hg
  | cons x t =>
   obtain ⟨m1,m2⟩:=h2.mem x (by simp)
   refine .inr ⟨x,t,rfl,m1,m2,fun P hP hE=>?_⟩
   obtain ⟨g,hg,hle⟩:=h2.le P (zjV.2 hP) hE
   have:=h2.eq g hg x (by simp)
   omega
theorem BoxOk.len {b:Box} (N:BoxOk b):ztx b:=by
 have F:=N.far
 have h1:=F.fl
 have h2:=F.sl
 have h3:=F.ml
 have h4:=F.h.nlen
 have h5:=F.h.clen
 exact ⟨by omega,by omega,by omega,by omega,by omega⟩
theorem zlj {b:Box} (N:BoxOk b) {n:Nat} (hn:200<=n):zc3 n b=some (some ⟨b⟩,0):=by
 unfold zc3
 rw [zqw b n N.len hn,zgE.2 N]
 rfl
theorem zsM {b:Box} (F:NearF b) {n:Nat} (hn:200<=n):zhw n b=some (zf5 b):=by
 have h1:=F.fl
 have h2:=F.sl
 have h3:=F.h.clen
 unfold zhw
 rw [zqu (by omega) (fun k=>by have:=F.f k;omega) (fun k=>by have:=F.s k;omega) (by omega) (by omega)]
 rfl
theorem zqA {b:Box} (F:NearF b):zgD (zf5 b):=fun k=>by
 rw [zhY F]
 have:=F.f k
 have:=F.s k
 omega
theorem zwp (b:Box) {n:Nat} (hn:200<=n):zgr n b=some true\/(zgr n b=some false/\ztx b/\(BoxOk b->Near b)):=by
 unfold zgr
 by_cases hl:(max (max (max (max (b.Wheel.Notches.length:Int) (b.Wheel.Coins.length:Int)) (b.Found.length:Int)) (b.Marked.length:Int)) (b.Slugs.length:Int))>40
 ·rw [if_pos (by simpa using hl)]
  exact .inl rfl
 ·rw [if_neg (by simpa using hl)]
  have hL:ztx b:=⟨by omega,by omega,by omega,by omega,by omega⟩
  rw [zwo b n hL hn,zab]
  by_cases hb:BoxOk b
  ·have F:=hb.far
   have h1:=F.fl
   have h3:=F.h.clen
   rw [zgE.2 hb]
   show (Option.bind _ _=_)\/(Option.bind _ _=_/\_)
   rw [zsM F hn,zab,zrx (zqA F) (by rw [zgF F];omega) (by rw [zgF F];omega),zab,zjS F]
   by_cases ht:total b.Found+total b.Slugs>3
   ·rw [if_pos (by simpa using ht)]
    exact .inl rfl
   ·rw [if_neg (by simpa using ht)]
    unfold zdK
    by_cases hk:(b.Found.length:Int)>3
    ·exact .inl (by simp [hk])
    ·exact .inr ⟨by simp;omega,hL,fun _=>⟨hb,by omega,by omega⟩⟩
  ·rw [zhX hb]
   exact .inr ⟨rfl,hL,fun h=>absurd h hb⟩
theorem ready_eq (b:Box) {n:Nat} (hn:200<=n):ze5 n b=some false\/(ze5 n b=some true/\Near b):=by
 unfold ze5
 rcases zwp b hn with h | ⟨h,hL,hN⟩
 ·rw [h]
  exact .inl rfl
 ·rw [h,zab,zwo b n hL hn]
  by_cases hb:BoxOk b
  ·rw [zgE.2 hb]
   exact .inr ⟨rfl,hN hb⟩
  ·rw [zhX hb]
   exact .inl rfl
def zm3 (b:Box) (m:Int):Prop:=(∃P,More b P/\zm2 b (sums (zf5 b) P)/\zbk b.Wheel P=m)/\∀P,More b P->zm2 b (sums (zf5 b) P)->m<=zbk b.Wheel P
def zwq (b:Box):Prop:=∀P,More b P->¬zm2 b (sums (zf5 b) P)
def zj4 (b:Box) (r:Int×Int):Prop:=(r.2=0/\zm3 b r.1)\/(r=(0,3)/\zwq b)
theorem zqB {b:Box} (N:Near b) {n:Nat} (hn:100000<=n):∃gs,zbH n (some ⟨b⟩)=some gs/\((gs=[]/\zdt n b=some (none,[],3)/\zwq b)\/∃x t,gs=x::t/\zdt n b=some (some ⟨b⟩,x::t,0)/\More b x.purse/\ExplOk b (sums (zf5 b) x.purse) x.acts/\zm3 b (zbk b.Wheel x.purse)):=by
 obtain ⟨gs,h1,h2⟩:=zoW N hn
 refine ⟨gs,h1,?_⟩
 unfold zdt
 rw [zlj N.ok (by omega),zab,if_neg (by simp),h1,zab]
 rcases h2 with ⟨rfl,h2⟩ | ⟨x,t,rfl,h3,h4,h5⟩
 ·exact .inl ⟨rfl,rfl,h2⟩
 ·rw [if_neg (by simp;omega)]
  exact .inr ⟨x,t,rfl,rfl,h3,h4,⟨x.purse,h3,h4.ex,rfl⟩,h5⟩
theorem zim {b:Box} (N:Near b) {n:Nat} (hn:100000<=n):∃r,zcp n b=some r/\zj4 b r:=by
 obtain ⟨gs,_,h⟩:=zqB N hn
 unfold zcp
 rcases h with ⟨rfl,h,h2⟩ | ⟨x,t,rfl,h,h3,h4,h5⟩
 ·rw [h]
  exact ⟨(0,3),rfl,.inr ⟨rfl,h2⟩⟩
 ·rw [h,zab,if_neg (by simp)]
  show ∃r,Option.bind (some x) _=some r/\_
  rw [zab,zhZ N.ok.far.h (by omega) h3.l (zli h3)]
  exact ⟨_,rfl,.inl ⟨rfl,h5⟩⟩
theorem zgR {w:Wheel} (h:OkW w) {P:List Int} (hs:zgD P):0<=zbk w P/\zbk w P<=100000*w.Coins.length:=by
 have:=zku h hs w.Coins.length 0 (by omega)
 exact this
theorem zj4.eq {b:Box} {r r':Int×Int} (h:zj4 b r) (h':zj4 b r'):r=r':=by
 obtain ⟨a,c⟩:=r
 obtain ⟨a',c'⟩:=r'
 rcases h with ⟨h1,⟨P,p1,p2,p3⟩,h3⟩ | ⟨h1,h2⟩
 ·rcases h' with ⟨k1,⟨P',q1,q2,q3⟩,k3⟩ | ⟨k1,k2⟩
  ·have:=h3 P' q1 q2
   have:=k3 P p1 p2
   simp only at *
   have:a=a':=by omega
   rw [this,h1,k1]
  ·exact absurd p2 (k2 P p1)
 ·rcases h' with ⟨k1,⟨P',q1,q2,q3⟩,k3⟩ | ⟨k1,k2⟩
  ·exact absurd q2 (h2 P' q1)
  ·rw [h1,k1]
theorem zj4.nn {b:Box} (N:BoxOk b) {r:Int×Int} (h:zj4 b r):0<=r.1/\r.1<=1000000:=by
 rcases h with ⟨_,⟨P,h1,_,he⟩,_⟩ | ⟨rfl,_⟩
 ·rw [←he]
  have:=zgR N.far.h (zli h1)
  have:=N.far.h.clen
  omega
 ·simp
theorem zmc {w:Wheel} {al:List Int} (C:Cx w al) {v:Int} (h:Can w al v):0<=v/\v<=500:=by
 obtain ⟨acts,x,hr,h1,rfl⟩:=(zwm C.h C.hl C.nn).1 h
 have hX:=(zmg C hr).1
 have h2:=hX.c0
 have h3:=hX.cb
 have h4:=hX.bt
 have h5:=(zmg C hr).2.1
 have h6:=C.t5
 omega
theorem zqC {w:Wheel} {al L:List Int} (C:Cx w al) (h:ziF w al L):L.length<=501:=by
 have:=zik (l:=L) (m:=upF 0 501) (h.1.imp fun hlt he=>by omega) fun v hv=>by
  have:=zmc C ((h.2 v).1 hv)
  exact zlg.2 (by omega)
 rw [zmW] at this
 exact this
theorem zrz {w:Wheel} {al:List Int} (C:Cx w al):∃v,Can w al v:=by
 have ht:0<=total al:=zdn (zeK C.nn)
 have h5:=C.t5
 obtain ⟨acts,hw⟩:=zwk true C.h (total al).toNat (p:=0) (c:=0) (l:=al) (by omega) ⟨C.hl,zeK C.nn,by omega⟩ (Int.le_refl _) (by have:=C.h.r1;omega) (Int.le_refl _)
 exact ⟨_,acts,hw.ok,hw.bag,rfl⟩
theorem zwr {L:List Int} {n:Nat} (h:L≠[]) (hl:L.length<1048576) (hn:L.length<n):slices_Max_int n L=some (L.tail.foldl max (L.getD 0 0)):=by
 cases L with
 | nil=>exact absurd rfl h
 | cons x t =>
  unfold slices_Max_int zdi
  rw [if_neg (by simp;omega),show idx (x::t) 0=some x from rfl,zab]
  have key:=zrm (F:=fun m i (s:Int)=>zbI (x::t) m s i) (xs:=x::t) (spec:=fun l s=>some (l.foldl max s)) hl
   (fun m s=>by simp [zbI,zcD,zdh])
   (fun m i y l s hx hi _ _ hrec=>by
    simp only [zbI,zcD,List.foldl_cons]
    rw [if_pos (by simpa using hi),hx,zab]
    exact hrec _)
   t 1 n x (by simp) rfl (by simp at hn;omega)
  exact key
theorem zmd:∀(t:List Int) (x:Int),(∀y,y∈t->x<y)->t.Pairwise (·<·)->t.foldl max x=(x::t).getLast (by simp)
 | [],x,_,_=>rfl
 | y::t,x,h1,h2=>by
  rw [List.pairwise_cons] at h2
  have hxy:=h1 y (by simp)
  rw [List.foldl_cons,Int.max_eq_right (by omega),zmd t y h2.1 h2.2]
  rfl
def zws (L:List Int):Int:=L.getD (L.length-1) 0
theorem zsN {L:List Int} (h:L≠[]) (hp:L.Pairwise (·<·)):L.tail.foldl max (L.getD 0 0)=zws L:=by
 cases L with
 | nil=>exact absurd rfl h
 | cons x t =>
  rw [List.pairwise_cons] at hp
  show t.foldl max x=_
  rw [zmd t x hp.1 hp.2,List.getLast_eq_getElem]
  unfold zws
  rw [getD_get]
theorem zsO {L:List Int} (h:L≠[]):zws L∈L:=by
 have hl:0<L.length:=List.length_pos_iff.2 h
 unfold zws
 rw [←getD_get (by omega)]
 exact List.getElem_mem _
theorem zwt {w:Wheel} {al L:List Int} (C:Cx w al) (h:ziF w al L):L≠[]:=fun e=>by
 obtain ⟨v,hv⟩:=zrz C
 have:=(h.2 v).2 hv
 rw [e] at this
 simp at this
theorem zrA {b:Box} (N:Near b) {n:Nat} (hn:100000<=n):∃L,ziF b.Wheel (zf5 b) L/\zeR n b=some (max 0 (b.Plays-zws L),0):=by
 obtain ⟨L,h1,h2⟩:=zl9 N hn
 have hL:=zqC N.cx0 h2
 have hne:=zwt N.cx0 h2
 have hp:=N.ok.far.p
 have ht:=zmc N.cx0 ((h2.2 _).1 (zsO hne))
 refine ⟨L,h2,?_⟩
 unfold zeR
 rw [zlj N.ok (by omega),zab,if_neg (by simp),h1,zab,zwr hne (by omega) (by omega),zab,zsN hne h2.1,zaS (by omega) (by omega)]
theorem zqD {b:Box} (N:Near b) {n:Nat} (hn:100000<=n):∃L,ziF b.Wheel (zf5 b) L/\zee n b=some (L,0):=by
 obtain ⟨L,h1,h2⟩:=zl9 N hn
 refine ⟨L,h2,?_⟩
 unfold zee
 rw [zlj N.ok (by omega),zab,if_neg (by simp),h1,zab]
def zqE (b:Box):Int×Int×Int×Int:=(zbk b.Wheel b.Found-zbk b.Wheel b.Marked,zbk b.Wheel b.Marked,zbk b.Wheel b.Slugs,0)
theorem zm4 {b:Box} (N:BoxOk b) {n:Nat} (hn:200<=n):zdN n b=some (zqE b):=by
 have F:=N.far
 have hf:zgD b.Found:=fun k=>by have:=F.f k;omega
 have hm:zgD b.Marked:=fun k=>by have:=F.m k;omega
 have hs:zgD b.Slugs:=fun k=>by have:=F.s k;omega
 have h1:=zgR F.h hf
 have h2:=zgR F.h hm
 have h3:=F.h.clen
 unfold zdN
 rw [zlj N hn,zab,if_neg (by simp),zhZ F.h (by omega) F.ml hm,zab,zhZ F.h (by omega) F.fl hf,zab,zhZ F.h (by omega) F.sl hs,zab,zaS (by omega) (by omega)]
 rfl
def exW:Wheel:=⟨50,[10,20,25],[5,10,25]⟩
def exB:Box:=⟨exW,[0,2,1],[0,1,0],[0,0,0],6,0⟩
theorem zlk:Near exB:=by
 refine ⟨⟨by decide,by decide,by decide,by decide,by decide,rfl,fun k hk=>?_,by decide⟩,by decide,by decide⟩
 have:k=0\/k=1\/k=2:=by
  have:exB.Found.length=3:=rfl
  omega
 rcases this with rfl | rfl | rfl<;>decide
theorem zwu:zf5 exB=[0,2,1]:=by decide
theorem znT {w:Wheel} {al acts:List Int} (h:(List.range w.Coins.length).all (fun k=>cnt (k:Int) acts==al.getD k 0)=true):∀k:Nat,k<w.Coins.length->cnt k acts=al.getD k 0:=fun k hk=>by
 rw [List.all_eq_true] at h
 simpa using h k (List.mem_range.2 hk)
theorem zqF:ziF exW [0,2,1] [3,4,5]:=by
 have hP:OkP exW [0,2,1]:=⟨rfl,by decide,by decide⟩
 have hW:OkW exW:=zf3 (by decide)
 refine ⟨by decide,fun v=>⟨fun hv=>?_,?_⟩⟩
 ·have h3:v=3\/v=4\/v=5:=by simpa using hv
  rcases h3 with rfl | rfl | rfl
  ·exact ⟨[1,1,2],by decide,znT (by decide),by decide⟩
  ·exact ⟨[1,-1,1,2],by decide,znT (by decide),by decide⟩
  ·exact ⟨[1,-1,1,-1,2],by decide,znT (by decide),by decide⟩
 ·rintro ⟨acts,h1,h2,rfl⟩
  have hi:=zl2 true hW acts (p:=0) (c:=0) h1 h2 hP (by decide) (by decide) (by decide)
  have lo:=zl2 false hW acts (p:=0) (c:=0) h1 h2 hP (by decide) (by decide) (by decide)
  rw [show Q true exW (total [0,2,1]).toNat 0 0 [0,2,1]=5 by decide +kernel] at hi
  rw [show Q false exW (total [0,2,1]).toNat 0 0 [0,2,1]=3 by decide +kernel] at lo
  have hi:zd6 exW ⟨0,0⟩ acts<=5:=hi
  have lo:3<=zd6 exW ⟨0,0⟩ acts:=lo
  simp only [List.mem_cons,List.not_mem_nil,or_false]
  omega
theorem zrB:zm3 exB 5:=by
 have hl:exB.Wheel.Coins.length=3:=rfl
 refine ⟨⟨[1,0,0],⟨rfl,fun k=>?_,by decide⟩,⟨6,⟨[1,1,0,-1,2],by decide,znT (by decide),by decide⟩,by decide,by decide⟩,by decide⟩,fun P hP hE=>?_⟩
 ·match k with
  | 0=>decide
  | 1=>decide
  | 2=>decide
  | k+3=>simp
 ·match P,hP with
  | [a,b,c],hP =>
   have h0:0<=a:=hP.nn 0
   have h1:0<=b:=hP.nn 1
   have h2:0<=c:=hP.nn 2
   have hw:zbk exB.Wheel [a,b,c]=5*a+(10*b+(25*c+0)):=rfl
   rw [hw]
   by_cases hz:a=0/\b=0/\c=0
   ·obtain ⟨rfl,rfl,rfl⟩:=hz
    obtain ⟨v,hv,h3,h4⟩:=hE
    rw [show sums (zf5 exB) [0,0,0]=[0,2,1] by decide] at hv
    have:=(zqF.2 v).2 hv
    simp only [List.mem_cons,List.not_mem_nil,or_false] at this
    have:(6:Int)<=v:=h3
    omega
   ·omega
  | [],hP=>exact absurd hP.l (by decide)
  | [_],hP=>exact absurd hP.l (by rw [hl];simp)
  | [_,_],hP=>exact absurd hP.l (by rw [hl];simp)
  | _::_::_::_::_,hP=>exact absurd hP.l (by rw [hl];simp)
theorem zrC {n:Nat} (hn:100000<=n):ze7 n=some true:=by
 have e1:zfX=some exB:=rfl
 obtain ⟨L,h1,h2⟩:=zqD zlk hn
 obtain ⟨L',h3,h4⟩:=zrA zlk hn
 obtain ⟨r,h5,h6⟩:=zim zlk hn
 rw [zwu] at h1 h3
 obtain rfl:=h1.eq zqF
 obtain rfl:=h3.eq zqF
 obtain rfl:=h6.eq (r':=(5,0)) (.inl ⟨rfl,zrB⟩)
 unfold ze7
 rw [e1,zab,h2,zab,zm4 zlk.ok (by omega),zab,h5,zab,h4,zab,zjM _ _ (by simp) (by simp;omega)]
 decide
theorem zrD {b:Box} (h:ztx b):zgO b=some b:=by
 obtain ⟨h1,h2,h3,h4,h5⟩:=h
 unfold zgO
 rw [zsF (n:=100) ⟨by omega,by omega,by omega,by omega⟩,zab,zld (by omega),zab,zld (by omega),zab,zld (by omega),zab]
theorem zoX {b:Box} (N:BoxOk b):-1000000<=(zqE b).1/\(zqE b).1<=1000000:=by
 have F:=N.far
 have h1:=zgR F.h (show zgD b.Found from fun k=>by have:=F.f k;omega)
 have h2:=zgR F.h (show zgD b.Marked from fun k=>by have:=F.m k;omega)
 have h3:=F.h.clen
 unfold zqE
 simp only
 omega
theorem znU (w:Wheel) {l:List Int} {j:Nat} {v:Int} (hj:j<l.length):∀(d k:Nat),zoT w (l.set j v) d k=zoT w l d k+(if k<=j/\j<k+d then coin w j*(v-l.getD j 0) else 0)
 | 0,k=>by rw [if_neg (by omega)];simp [zoT]
 | d+1,k=>by
  simp only [zoT,znU w hj d (k+1),zeS hj]
  by_cases e:j=k
  ·subst e
   rw [if_pos rfl,if_neg (by omega),if_pos (by omega),Int.mul_sub]
   omega
  ·rw [if_neg e]
   by_cases h:k+1<=j/\j<k+1+d
   ·rw [if_pos h,if_pos (by omega)]
    omega
   ·rw [if_neg h,if_neg (by omega)]
    omega
theorem zme {w:Wheel} {l:List Int} {j:Nat} {v:Int} (hj:j<l.length) (hl:l.length=w.Coins.length):zbk w (l.set j v)=zbk w l+coin w j*(v-l.getD j 0):=by
 unfold zbk
 rw [znU w hj,if_pos (by omega)]
theorem znV {w:Wheel} {l:List Int} (h1:l.length=w.Coins.length) (h2:∀k,0<=l.getD k 0/\l.getD k 0<=12) (h3:total l<=12):zcu w l=true:=by
 simp only [zcu,Bool.and_eq_true,decide_eq_true_eq,List.all_eq_true]
 refine ⟨⟨h1,fun x hx=>?_⟩,h3⟩
 obtain ⟨i,hi,rfl⟩:=List.getElem_of_mem hx
 have:=h2 i
 rw [getD_get hi]
 exact zbX.2 this
theorem zj4.congr {b b':Box} (hw:b'.Wheel=b.Wheel) (hp:zf5 b'=zf5 b) (h1:b'.Plays=b.Plays) (h2:b'.Skips=b.Skips) {r:Int×Int} (h:zj4 b' r):zj4 b r:=by
 have hM:∀P,More b P->More b' P:=fun P h=>⟨by rw [hw];exact h.l,h.nn,h.t⟩
 have hM':∀P,More b' P->More b P:=fun P h=>⟨by rw [←hw];exact h.l,h.nn,h.t⟩
 have hE:∀al,zm2 b al->zm2 b' al:=fun al ⟨v,q1,q2,q3⟩=>⟨v,by rw [hw];exact q1,by rw [h1];exact q2,by rw [h1,h2];exact q3⟩
 have hE':∀al,zm2 b' al->zm2 b al:=fun al ⟨v,q1,q2,q3⟩=>⟨v,by rw [←hw];exact q1,by rw [←h1];exact q2,by rw [←h1,←h2];exact q3⟩
 rcases h with ⟨a,⟨P,p1,p2,p3⟩,c⟩ | ⟨a,c⟩
 ·refine .inl ⟨a,⟨P,hM' P p1,by rw [←hp];exact hE' _ p2,by rw [←hw];exact p3⟩,fun P q1 q2=>?_⟩
  rw [←hw]
  exact c P (hM P q1) (by rw [hp];exact hE _ q2)
 ·exact .inr ⟨a,fun P q1 q2=>c P (hM P q1) (by rw [hp];exact hE _ q2)⟩
abbrev zrE (b:Box) (k:Nat):Box:=⟨b.Wheel,b.Found.set k (b.Found.getD k 0+1),b.Marked,b.Slugs.set k (b.Slugs.getD k 0-1),b.Plays,b.Skips⟩
theorem zrF {b:Box} (F:NearF b) {k:Nat} (hk:k<b.Wheel.Coins.length):zf5 (zrE b k)=zf5 b:=by
 have h1:=F.fl
 have h2:=F.sl
 refine zfu (n:=b.Found.length) ?_ ?_ fun j hj=>?_
 ·unfold zf5
  rw [zf4 (by simp [h1,h2])]
  simp
 ·rw [zgF F,h1]
 ·unfold zf5
  rw [zeE (by simp [h1,h2]),zeE (by omega),zeS (by omega),zeS (by omega)]
  by_cases e:k=j
  ·subst e
   rw [if_pos rfl,if_pos rfl]
   omega
  ·rw [if_neg e,if_neg e]
theorem zqG {b:Box} (N:Near b) {k:Nat} (hk:k<b.Wheel.Coins.length) (h0:b.Slugs.getD k 0≠0):Near (zrE b k):=by
 have F:=N.ok.far
 have h1:=F.fl
 have h2:=F.sl
 have hf:k<b.Found.length:=by omega
 have hs:k<b.Slugs.length:=by omega
 have t1:=zgC (v:=b.Found.getD k 0+1) hf
 have t2:=zgC (v:=b.Slugs.getD k 0-1) hs
 have n1:0<=total b.Found:=zdn (zeK fun k=>(F.f k).1)
 have n2:0<=total b.Slugs:=zdn (zeK fun k=>(F.s k).1)
 have ht:=N.t3
 have l1:∀j,b.Found.getD j 0<=total b.Found:=fun j=>(zfb (zeK fun k=>(F.f k).1) j).2
 have l2:∀j,b.Slugs.getD j 0<=total b.Slugs:=fun j=>(zfb (zeK fun k=>(F.s k).1) j).2
 refine ⟨⟨N.ok.v,N.ok.p,N.ok.s,znV (by simp [h1]) (fun j=>?_) (by show total (b.Found.set _ _)<=12;omega),znV (by simp [h2]) (fun j=>?_) (by show total (b.Slugs.set _ _)<=12;omega),by simp [N.ok.ml],fun j hj=>?_,?_⟩,N.k3,?_⟩
 ·show 0<=(b.Found.set _ _).getD j 0/\(b.Found.set _ _).getD j 0<=12
  rw [zeS hf]
  have:=F.f j
  have:=l1 j
  have:=F.f k
  have:=l1 k
  split<;>omega
 ·show 0<=(b.Slugs.set _ _).getD j 0/\(b.Slugs.set _ _).getD j 0<=12
  rw [zeS hs]
  have:=F.s j
  have:=F.s k
  split<;>omega
 ·show 0<=b.Marked.getD j 0/\b.Marked.getD j 0<=(b.Found.set _ _).getD j 0
  have hj:j<b.Found.length:=by simpa using hj
  have:=N.ok.mkd j hj
  rw [zeS hf]
  split
  ·rename_i e
   subst e
   omega
  ·omega
 ·show total (b.Found.set _ _)+total (b.Slugs.set _ _)<=12
  omega
 ·show total (b.Found.set _ _)+total (b.Slugs.set _ _)<=3
  omega
theorem ziG (b:Box) (a1:Int):zdY 1000000 b a1=some true:=by
 have hw:=zrC (n:=1000000) (by omega)
 have hj:zaU 1000000 b a1 true=some true:=by
  unfold zaU
  rw [if_pos rfl,hw]
  rfl
 unfold zdY
 rcases ready_eq b (n:=1000000) (by omega) with h | ⟨h,N⟩
 ·rw [h,zab,if_pos (by rfl),hj]
 rw [h,zab,if_neg (by simp)]
 by_cases h1:a1<0
 ·rw [if_pos (by simpa using h1),hj]
 rw [if_neg (by simpa using h1)]
 by_cases h2:a1≥(b.Slugs.length:Int)
 ·rw [if_pos (by simpa using h2),hj]
 rw [if_neg (by simpa using h2)]
 obtain ⟨k,rfl⟩:∃k:Nat,a1=k:=⟨a1.toNat,by omega⟩
 have F:=N.ok.far
 have hk:k<b.Slugs.length:=by omega
 have e1:=F.sl
 have e2:=F.fl
 have hkf:k<b.Found.length:=by omega
 have i1:idx b.Slugs (k:Int)=some (b.Slugs.getD k 0):=by rw [zcs hk,getD_get hk]
 have i2:idx b.Found (k:Int)=some (b.Found.getD k 0):=by rw [zcs hkf,getD_get hkf]
 rw [i1,zab]
 by_cases h3:b.Slugs.getD k 0=0
 ·rw [show (b.Slugs.getD k 0==0)=true by simpa using h3,hj]
 rw [show (b.Slugs.getD k 0==0)=false by simpa using h3]
 have N':Near (zrE b k):=zqG N (by omega) h3
 have hput:=zrF F (k:=k) (by omega)
 have b1:=F.f k
 have b2:=F.s k
 obtain ⟨L,c1,c2⟩:=zqD N (n:=1000000) (by omega)
 obtain ⟨L',c3,c4⟩:=zqD N' (n:=1000000) (by omega)
 have c3:ziF b.Wheel (zf5 b) L':=by rw [←hput];exact c3
 obtain rfl:=c1.eq c3
 have hL:=zqC N.cx0 c1
 obtain ⟨r,m1,m2⟩:=zim N (n:=1000000) (by omega)
 obtain ⟨r',m3,m4⟩:=zim N' (n:=1000000) (by omega)
 obtain rfl:=m2.eq (zj4.congr (b:=b) (b':=zrE b k) rfl hput rfl rfl m4)
 have hc:=zdm F.h (a:=(k:Int)) (by omega) (by omega)
 have w1:=zoX N.ok
 have w2:(zqE b).2.2.1=zbk b.Wheel b.Slugs:=rfl
 have w3:=zgR F.h (show zgD b.Slugs from fun k=>by have:=F.s k;omega)
 have w4:=F.h.clen
 have p1:zbk b.Wheel (b.Found.set k (b.Found.getD k 0+1))=zbk b.Wheel b.Found+coin b.Wheel k:=by
  rw [zme hkf (by omega),show b.Found.getD k 0+1-b.Found.getD k 0=1 by omega,Int.mul_one]
 have p2:zbk b.Wheel (b.Slugs.set k (b.Slugs.getD k 0-1))=zbk b.Wheel b.Slugs-coin b.Wheel k:=by
  rw [zme hk (by omega),show b.Slugs.getD k 0-1-b.Slugs.getD k 0=-1 by omega,Int.mul_neg,Int.mul_one]
  omega
 unfold zaU
 rw [if_neg (by simp),zrD N.ok.len,zab,i1,zab,zab,i2,zab,zab,zaS (by omega) (by omega),zaS (by omega) (by omega),Int.toNat_natCast,c2,zab,c4,zab,m1,zab,m3,zab,zm4 N.ok (by omega),zab,zm4 N'.ok (by omega),zab,
  zlc (by omega) (by omega),zab]
 rw [if_pos (by rfl),if_pos (by rfl),if_pos (by rfl),if_pos (by rfl),zjM _ _ (by simp only;omega) (by simp only;omega),zab,if_pos (by simp),if_pos (by simp),if_pos (by simp),zaS (by omega) (by omega),if_pos ?_,if_pos ?_,zaS (by omega) (by omega),if_pos ?_,hw]
 ·rfl
 ·show (zbk b.Wheel (b.Slugs.set _ _)==zbk b.Wheel b.Slugs-coin b.Wheel k)=true
  rw [p2]
  simp
 ·show (zbk b.Wheel b.Marked==zbk b.Wheel b.Marked)=true
  simp
 ·show (zbk b.Wheel (b.Found.set _ _)-zbk b.Wheel b.Marked==zbk b.Wheel b.Found-zbk b.Wheel b.Marked+coin b.Wheel k)=true
  rw [p1]
  simp
  omega
end Go.Law
