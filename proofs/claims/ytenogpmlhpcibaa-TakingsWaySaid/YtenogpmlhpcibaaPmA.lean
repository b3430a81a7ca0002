/-
  Plain laws.
  Conditions: none.
-/
import Derived.Test.YtenogpmlhpcibaaMd
import Derived.Test.YtenogpmlhpcibaaPlA
import Derived.Test.YtenogpmlhpcibaaEn
set_option linter.all false
namespace Go.Law
open Go Go.AM
theorem ztL {α S R:Type} (F:Nat->Int->S->Option R) (xs:List α) (spec:List α->S->Option R) (hl:xs.length<1048576) (h0:∀m s,F (m+1) (xs.length:Int) s=spec [] s)
  (hs:∀m (i:Nat) x l s,idx xs (i:Int)=some x->(i:Int)<(xs.length:Int)->i<1048576->xs.drop (i+1)=l->(∀s',F m (w64 ((i:Int)+1)) s'=spec l s')->F (m+1) (i:Int) s=spec (x::l) s) :
  ∀(l:List α) (i m:Nat) (s:S),i<=xs.length->xs.drop i=l->l.length<m->F m (i:Int) s=spec l s:=by
 intro l
 induction l with
 | nil =>
  intro i m s hi hd hm
  obtain ⟨m,rfl⟩:∃k,m=k+1:=⟨m-1,by omega⟩
  have:i=xs.length:=by have:=List.drop_eq_nil_iff.1 hd;omega
  subst this
  exact h0 m s
 | cons x l ih =>
  intro i m s hi hd hm
  obtain ⟨m,rfl⟩:∃k,m=k+1:=⟨m-1,by omega⟩
  simp only [List.length_cons] at hm
  have hlt:i<xs.length:=by
   rcases Nat.lt_or_ge i xs.length with h | h
   ·exact h
   ·rw [List.drop_eq_nil_of_le h] at hd;cases hd
  rw [List.drop_eq_getElem_cons hlt] at hd
  injection hd with h1 h2
  refine hs m i x l s (by rw [zcL hlt,h1]) (by omega) (by omega) h2 fun s'=>?_
  rw [zaP (by omega) (by omega)]
  exact ih (i+1) m s' (by omega) h2 (by omega)
theorem zug {α S R:Type} {F:Nat->Int->S->Option R} {xs:List α} {spec:List α->S->Option R} (hl:xs.length<1048576) {n:Nat} (hn:xs.length<n) (s:S) (h0:∀m s,F (m+1) (xs.length:Int) s=spec [] s)
  (hs:∀m (i:Nat) x l s,idx xs (i:Int)=some x->(i:Int)<(xs.length:Int)->i<1048576->xs.drop (i+1)=l->(∀s',F m (w64 ((i:Int)+1)) s'=spec l s')->F (m+1) (i:Int) s=spec (x::l) s) :
  F n 0 s=spec xs s:=ztL F xs spec hl h0 hs xs 0 n s (by omega) rfl hn
theorem zqS {α S R:Type} (F:Nat->Int->S->Option R) (xs:List α) (spec:List α->S->Option R) (I:List α->S->Prop) (hl:xs.length<1048576) (h0:∀m s,I [] s->F (m+1) (xs.length:Int) s=spec [] s)
  (hs:∀m (i:Nat) x l s,I (x::l) s->idx xs (i:Int)=some x->(i:Int)<(xs.length:Int)->i<1048576->xs.drop (i+1)=l->(∀s',I l s'->F m (w64 ((i:Int)+1)) s'=spec l s')->F (m+1) (i:Int) s=spec (x::l) s) :
  ∀(l:List α) (i m:Nat) (s:S),i<=xs.length->xs.drop i=l->l.length<m->I l s->F m (i:Int) s=spec l s:=by
 intro l
 induction l with
 | nil =>
  intro i m s hi hd hm hI
  obtain ⟨m,rfl⟩:∃k,m=k+1:=⟨m-1,by omega⟩
  have:i=xs.length:=by have:=List.drop_eq_nil_iff.1 hd;omega
  subst this
  exact h0 m s hI
 | cons x l ih =>
  intro i m s hi hd hm hI
  obtain ⟨m,rfl⟩:∃k,m=k+1:=⟨m-1,by omega⟩
  simp only [List.length_cons] at hm
  have hlt:i<xs.length:=by
   rcases Nat.lt_or_ge i xs.length with h | h
   ·exact h
   ·rw [List.drop_eq_nil_of_le h] at hd;cases hd
  rw [List.drop_eq_getElem_cons hlt] at hd
  injection hd with h1 h2
  refine hs m i x l s hI (by rw [zcL hlt,h1]) (by omega) (by omega) h2 fun s' hI'=>?_
  rw [zaP (by omega) (by omega)]
  exact ih (i+1) m s' (by omega) h2 (by omega) hI'
theorem zyt {S R:Type} (F:Nat->Int->S->Option R) (b:Nat) (spec:Nat->S->Option R) (hb:b<1048576) (h0:∀m s,F (m+1) (b:Int) s=spec b s)
  (hs:∀m (i:Nat) s,i<b->(∀s',F m (w64 ((i:Int)+1)) s'=spec (i+1) s')->F (m+1) (i:Int) s=spec i s) :
  ∀(d i m:Nat) (s:S),d=b-i->i<=b->d<m->F m (i:Int) s=spec i s:=by
 intro d
 induction d with
 | zero =>
  intro i m s hd hi hm
  obtain ⟨m,rfl⟩:∃k,m=k+1:=⟨m-1,by omega⟩
  have:i=b:=by omega
  subst this
  exact h0 m s
 | succ d ih =>
  intro i m s hd hi hm
  obtain ⟨m,rfl⟩:∃k,m=k+1:=⟨m-1,by omega⟩
  refine hs m i s (by omega) fun s'=>?_
  rw [zaP (by omega) (by omega)]
  exact ih (i+1) m s' (by omega) (by omega) (by omega)
theorem zaa {α β:Type} (a:α) (f:α->Option β):Option.bind (some a) f=f a:=rfl
theorem zgU (a b c:Int):zcQ a b c=some (inR a b c):=by
 unfold zcQ zdL inR
 by_cases h:b<=a<;>simp [h]
theorem zhM (a b c:Int):zc9 a b c=some (inR a b c):=by
 unfold zc9 zdK inR
 by_cases h:b<=a<;>simp [h]
def zm0 (lo hi:Int):Option Int->List Int->Bool
 | _,[]=>true
 | prev,x::l=>inR x lo hi&&(match prev with | none=>true | some y=>decide (y<x))&&zm0 lo hi (some x) l
theorem zit (pre:List Int):pre=[]\/∃q y,pre=q++[y]:=by
 rcases List.eq_nil_or_concat pre with h | ⟨q,y,h⟩
 ·exact .inl h
 ·exact .inr ⟨q,y,by simpa using h⟩
theorem zpH (q:List Int) (y:Int) (l:List Int) (h:(q++[y]++l).length<1048576):idx (q++[y]++l) (w64 (((q++[y]).length:Int)-1))=some y:=by
 simp at h
 rw [zaP (by simp<;>omega) (by simp<;>omega),show (((q++[y]).length:Int)-1)=(q.length:Int) by simp,show q++[y]++l=q++y::l by simp,zmD]
theorem ztM (lo hi:Int):∀(l pre:List Int) (m:Nat),(pre++l).length<1048576->l.length<m ->
  zbO (pre++l) lo hi m (pre.length:Int)=some (zm0 lo hi pre.getLast? l):=by
 intro l
 induction l with
 | nil =>
  intro pre m hs hm
  obtain ⟨m,rfl⟩:∃k,m=k+1:=⟨m-1,by omega⟩
  simp [zbO,zdT,zeH,zm0]
 | cons x l ih =>
  intro pre m hs hm
  obtain ⟨m,rfl⟩:∃k,m=k+1:=⟨m-1,by omega⟩
  have h:=ih (pre++[x]) m (by simpa using hs) (by simp at hm;omega)
  rw [show (((pre++[x]).length:Nat):Int)=(pre.length:Int)+1 by simp,List.getLast?_concat,show pre++[x]++l=pre++x::l by simp] at h
  simp at hs hm
  simp only [zbO,zdT]
  rw [if_pos (by simp<;>omega),zmD]
  simp only [Option.bind_some,zhM,zm0]
  by_cases hr:inR x lo hi=true
  ·rw [if_neg (by simp [hr])]
   rcases zit pre with rfl | ⟨q,y,rfl⟩
   ·rw [if_neg (by simp)]
    simp only [zcn]
    rw [if_neg (by simp),zaP (by simp) (by simp),h]
    simp [hr]
   ·rw [if_pos (by simp<;>omega),zpH q y (x::l) (by simp at hs ⊢;omega)]
    simp only [Option.bind_some,zcn,List.getLast?_concat]
    by_cases hb:x<=y
    ·rw [if_pos (by simpa using hb)]
     simp [hr,show ¬y<x by omega]
    ·rw [if_neg (by simpa using hb),zaP (by omega) (by omega),h]
     simp [hr,show y<x by omega]
  ·have hr':inR x lo hi=false:=by simpa using hr
   rw [if_pos (by simp [hr'])]
   simp [zcn,hr']
theorem znI {n:Nat} (l:List Int) (lo hi:Int) (hs:l.length<1048576) (hn:l.length<n):zgl n l lo hi=some (zm0 lo hi none l):=ztM lo hi l [] n (by simpa using hs) hn
theorem ztN (many most:Int):∀(l pre:List Int) (m:Nat),(pre++l).length<1048576->l.length<m ->
  zbP (pre++l) many most m (pre.length:Int)=some (zm0 1 most pre.getLast? l&&decide (((pre++l).length:Int)<=many)):=by
 intro l
 induction l with
 | nil =>
  intro pre m hs hm
  obtain ⟨m,rfl⟩:∃k,m=k+1:=⟨m-1,by omega⟩
  simp [zbP,zdV,zeI,zm0]
 | cons x l ih =>
  intro pre m hs hm
  obtain ⟨m,rfl⟩:∃k,m=k+1:=⟨m-1,by omega⟩
  have h:=ih (pre++[x]) m (by simpa using hs) (by simp at hm;omega)
  rw [show (((pre++[x]).length:Nat):Int)=(pre.length:Int)+1 by simp,List.getLast?_concat,show pre++[x]++l=pre++x::l by simp] at h
  simp at hs hm
  simp only [zbP,zdV]
  rw [if_pos (by simp<;>omega),zmD]
  simp only [Option.bind_some,zgU,zm0]
  by_cases hr:inR x 1 most=true
  ·rw [if_neg (by simp [hr])]
   rcases zit pre with rfl | ⟨q,y,rfl⟩
   ·rw [if_neg (by simp)]
    simp only [zco]
    rw [if_neg (by simp),zaP (by simp) (by simp),h]
    simp [hr]
   ·rw [if_pos (by simp<;>omega),zpH q y (x::l) (by simp at hs ⊢;omega)]
    simp only [Option.bind_some,zco,List.getLast?_concat]
    by_cases hb:x<=y
    ·rw [if_pos (by simpa using hb)]
     simp [hr,show ¬y<x by omega]
    ·rw [if_neg (by simpa using hb),zaP (by omega) (by omega),h]
     simp [hr,show y<x by omega]
  ·have hr':inR x 1 most=false:=by simpa using hr
   rw [if_pos (by simp [hr'])]
   simp [zco,hr']
theorem znJ {n:Nat} (l:List Int) (many most:Int) (hs:l.length<1048576) (hn:l.length<n):zgm n l many most=some (zm0 1 most none l&&decide ((l.length:Int)<=many)):=ztN many most l [] n (by simpa using hs) hn
def valid (w:Wheel):Bool:=inR w.Round 1 200&&(zm0 1 w.Round none w.Notches&&decide ((w.Notches.length:Int)<=12))&&(zm0 1 100 none w.Coins&&decide ((w.Coins.length:Int)<=4))
def zj5 (n:Nat) (w:Wheel):Prop:=w.Notches.length<1048576/\w.Coins.length<1048576/\w.Notches.length<n/\w.Coins.length<n
theorem zmL {n:Nat} {w:Wheel} (h:zj5 n w):zf2 n w=some (cond (valid w) 0 10):=by
 obtain ⟨h1,h2,h3,h4⟩:=h
 unfold zf2 zdt valid
 rw [zgU,zaa,znJ _ _ _ h1 h3,znJ _ _ _ h2 h4,zaa,zaa]
 cases inR w.Round 1 200<;>cases (zm0 1 w.Round none w.Notches&&decide ((w.Notches.length:Int)<=12))<;>cases (zm0 1 100 none w.Coins&&decide ((w.Coins.length:Int)<=4))<;>rfl
theorem znK {n:Nat} {w:Wheel} (h:zj5 n w):zfZ n w=some (cond (valid w) 0 10):=by
 obtain ⟨h1,h2,h3,h4⟩:=h
 unfold zfZ zcC valid
 rw [zhM,zaa,znI _ _ _ h1 h3,znI _ _ _ h2 h4,zaa,zaa]
 by_cases q1:(w.Notches.length:Int)<=12
 ·have e1:decide ((w.Notches.length:Int)>12)=false:=by simpa using q1
  rw [e1]
  by_cases q2:(w.Coins.length:Int)<=4
  ·have e2:decide ((w.Coins.length:Int)>4)=false:=by simpa using q2
   rw [e2]
   simp only [q1,q2,decide_true,Bool.and_true]
   cases inR w.Round 1 200<;>cases zm0 1 w.Round none w.Notches<;>cases zm0 1 100 none w.Coins<;>rfl
  ·have e2:decide ((w.Coins.length:Int)>4)=true:=by simp;omega
   rw [e2]
   simp only [q2,decide_false,Bool.and_false]
   cases inR w.Round 1 200<;>cases zm0 1 w.Round none w.Notches<;>rfl
 ·have e1:decide ((w.Notches.length:Int)>12)=true:=by simp;omega
  rw [e1]
  simp only [q1,decide_false,Bool.and_false,Bool.false_and]
  cases inR w.Round 1 200<;>rfl
theorem zmM {lo hi:Int}:∀{l:List Int} {p:Option Int},zm0 lo hi p l=true->(∀x,x∈l->lo<=x/\x<=hi/\∀y,p=some y->y<x)/\l.Pairwise (·<·)
 | [],_,_=>⟨fun x h=>by simp at h,.nil⟩
 | x::l,p,h=>by
  simp only [zm0,Bool.and_eq_true] at h
  obtain ⟨⟨h1,h2⟩,h3⟩:=h
  obtain ⟨ih1,ih2⟩:=zmM h3
  have h1':=zbW.1 h1
  have hp:∀y,p=some y->y<x:=fun y e=>by subst e;simpa using h2
  refine ⟨fun z hz=>?_,List.pairwise_cons.2 ⟨fun z hz=>(ih1 z hz).2.2 x rfl,ih2⟩⟩
  rcases List.mem_cons.1 hz with rfl | hz
  ·exact ⟨h1'.1,h1'.2,hp⟩
  ·have:=ih1 z hz
   exact ⟨this.1,this.2.1,fun y e=>Int.lt_trans (hp y e) (this.2.2 x rfl)⟩
structure OkW (w:Wheel):Prop where
 r1:1<=w.Round
 r2:w.Round<=200
 nlen:w.Notches.length<=12
 clen:w.Coins.length<=4
 nm:∀x,x∈w.Notches->1<=x/\x<=w.Round
 nd:w.Notches.Pairwise (·<·)
 cm:∀x,x∈w.Coins->1<=x/\x<=100
 cd:w.Coins.Pairwise (·<·)
theorem zeR {w:Wheel} (h:valid w=true):OkW w:=by
 simp only [valid,Bool.and_eq_true,decide_eq_true_eq] at h
 obtain ⟨⟨h1,h2,h3⟩,h4,h5⟩:=h
 have h1:=zbW.1 h1
 obtain ⟨a1,a2⟩:=zmM h2
 obtain ⟨b1,b2⟩:=zmM h4
 exact ⟨h1.1,h1.2,by omega,by omega,fun x hx=>⟨(a1 x hx).1,(a1 x hx).2.1⟩,a2,fun x hx=>⟨(b1 x hx).1,(b1 x hx).2.1⟩,b2⟩
theorem OkW.len {w:Wheel} (h:OkW w) {n:Nat} (hn:100<=n):zj5 n w:=⟨by have:=h.nlen;omega,by have:=h.clen;omega,by have:=h.nlen;omega,by have:=h.clen;omega⟩
theorem zyu {n:Nat} (l:List Int) (x:Int) (hs:l.length<1048576) (hn:l.length<n):zkb n l x=some (decide (x∈l)):=by
 have:=zug (F:=fun m i (_:Unit)=>zem l x m i) (xs:=l) (spec:=fun l _=>some (decide (x∈l))) (n:=n) hs hn () (fun m s=>by simp [zem,zfM,zha]) (fun m i y l s hx hi _ _ hrec=>by
  simp only [zem,zfM]
  rw [if_pos (by simpa using hi),hx,zaa]
  by_cases h:y=x
  ·rw [if_pos (by simpa using h)]
   simp [h]
  ·rw [if_neg (by simpa using h),hrec ()]
   simp [Ne.symm h])
 exact this
def nx (R p:Int):Int:=if p+1=R then 0 else p+1
def hit (w:Wheel) (p:Int):Int:=if p+1∈w.Notches then 1 else 0
def put (w:Wheel):Nat->Int->Int->Int×Int
 | 0,p,c=>(p,c)
 | k+1,p,c=>put w k (nx w.Round p) (c+hit w p)
theorem zpI {R p:Int} (h0:0<=p) (h1:p<R):0<=nx R p/\nx R p<R:=by
 unfold nx
 split<;>omega
theorem znL (w:Wheel) (p:Int):0<=hit w p/\hit w p<=1:=by
 unfold hit
 split<;>omega
theorem zAS {n:Nat} {w:Wheel} (h:OkW w) (hn:100<=n) {cents:Nat} (hc:cents<1048576):∀(k i m:Nat) (p c:Int),k=cents-i->i<=cents->k<m->0<=p->p<w.Round->0<=c->c<=i ->
  zcr n w cents m p c (i:Int)=some (put w k p c):=by
 have hr:=h.r2
 intro k
 induction k with
 | zero =>
  intro i m p c hk hi hm hp hp' hc0 hc1
  obtain ⟨m,rfl⟩:∃k,m=k+1:=⟨m-1,by omega⟩
  have:i=cents:=by omega
  subst this
  simp [zcr,zff,zgr,put]
 | succ k ih =>
  intro i m p c hk hi hm hp hp' hc0 hc1
  obtain ⟨m,rfl⟩:∃k,m=k+1:=⟨m-1,by omega⟩
  have hx:=znL w p
  have hy:=zpI hp hp'
  have key:=ih (i+1) m (nx w.Round p) (c+hit w p) (by omega) (by omega) (by omega) hy.1 hy.2 (by omega) (by omega)
  simp only [zcr,zff]
  rw [if_pos (by simp;omega),zaP (by omega) (by omega),zyu _ _ (by have:=h.nlen;omega) (by have:=h.nlen;omega),zaa]
  have e1:w64 ((i:Int)+1)=((i+1:Nat):Int):=by rw [zaP (by omega) (by omega)];simp
  have e2:w64 (c+1)=c+1:=zaP (by omega) (by omega)
  simp only [zfr,zfq,e1,e2,zaP (x:=p+1) (by omega) (by omega)]
  show _=some (put w k (nx w.Round p) (c+hit w p))
  rw [←key]
  unfold nx hit
  by_cases q1:p+1∈w.Notches
  ·rw [if_pos (by simpa using q1),if_pos q1]
   by_cases q2:p+1=w.Round
   ·rw [if_pos (by simpa using q2),if_pos q2]
   ·rw [if_neg (by simpa using q2),if_neg q2]
  ·rw [if_neg (by simpa using q1),if_neg q1,Int.add_zero]
   by_cases q2:p+1=w.Round
   ·rw [if_pos (by simpa using q2),if_pos q2]
   ·rw [if_neg (by simpa using q2),if_neg q2]
theorem zyv {n:Nat} {w:Wheel} (h:OkW w) (hn:100<=n) {p c:Int} (hp:0<=p) (hp':p<w.Round) (hc:0<=c) (hc':c<n) (hc2:c<1048576):ziN n w p c=some (put w c.toNat p 0):=by
 have:=zAS h hn (cents:=c.toNat) (by omega) c.toNat 0 n p 0 (by omega) (by omega) (by omega) hp hp' (by omega) (by omega)
 rw [show ((c.toNat:Nat):Int)=c by omega] at this
 exact this
theorem znM {w:Wheel} (h:OkW w):∀(k:Nat) (p c:Int),0<=p->p<w.Round->(0<=(put w k p c).1/\(put w k p c).1<w.Round)/\c<=(put w k p c).2/\(put w k p c).2<=c+k
 | 0,p,c,h0,h1=>⟨⟨h0,h1⟩,by simp [put],by simp [put]⟩
 | k+1,p,c,h0,h1=>by
  have hy:=zpI h0 h1
  have hx:=znL w p
  have:=znM h k (nx w.Round p) (c+hit w p) hy.1 hy.2
  simp only [put]
  omega
theorem zsw (w:Wheel):∀(j k:Nat) (p c:Int),put w (j+k) p c=put w k (put w j p c).1 (put w j p c).2
 | 0,k,p,c=>by simp [put]
 | j+1,k,p,c=>by
  rw [show j+1+k=(j+k)+1 by omega]
  simp only [put]
  exact zsw w j k _ _
theorem zsx {A R:Int} (hR:0<R):(A+1) / R=A / R+(if A % R=R-1 then 1 else 0):=by
 have h1:=Int.mul_ediv_add_emod A R
 have h2:=Int.emod_nonneg A (show R≠0 by omega)
 have h3:=Int.emod_lt_of_pos A hR
 split
 ·rename_i h
  have:A+1=R*(A / R+1):=by rw [Int.mul_add];omega
  rw [this,Int.mul_ediv_cancel_left _ (by omega)]
 ·rename_i h
  have:A+1=(A % R+1)+R*(A / R):=by omega
  rw [this,Int.add_mul_ediv_left _ _ (by omega),Int.ediv_eq_zero_of_lt (by omega) (by omega)]
  omega
theorem zsy {A R:Int} (hR:0<R):(A+1) % R=nx R (A % R):=by
 have h1:=Int.mul_ediv_add_emod A R
 have h2:=Int.emod_nonneg A (show R≠0 by omega)
 have h3:=Int.emod_lt_of_pos A hR
 unfold nx
 split
 ·rename_i h
  have:A+1=R*(A / R+1):=by rw [Int.mul_add];omega
  rw [this,Int.mul_emod_right]
 ·rename_i h
  have:A+1=(A % R+1)+R*(A / R):=by omega
  rw [this,Int.add_mul_emod_self_left,Int.emod_eq_of_lt (by omega) (by omega)]
theorem zqT {B R m:Int} (hR:0<R) (h1:1<=m) (h2:m<=R):(B-m+R) % R=R-1↔m=B % R+1:=by
 have e1:=Int.mul_ediv_add_emod B R
 have e2:=Int.emod_nonneg B (show R≠0 by omega)
 have e3:=Int.emod_lt_of_pos B hR
 by_cases h:m<=B % R
 ·have:B-m+R=(B % R-m)+R*(B / R+1):=by rw [Int.mul_add];omega
  rw [this,Int.add_mul_emod_self_left,Int.emod_eq_of_lt (by omega) (by omega)]
  omega
 ·have:B-m+R=(B % R-m+R)+R*(B / R):=by omega
  rw [this,Int.add_mul_emod_self_left,Int.emod_eq_of_lt (by omega) (by omega)]
  omega
def reached (R e p:Int):List Int->Int
 | []=>0
 | m::l=>(e-m+R) / R-(p-m+R) / R+reached R e p l
def turn (w:Wheel) (p c:Int):Int×Int:=((p+c) % w.Round,reached w.Round (p+c) p w.Notches)
theorem zjS {R B p:Int} (hR:0<R):∀(l:List Int),(∀x,x∈l->1<=x/\x<=R)->l.Pairwise (·<·)->reached R (B+1) p l=reached R B p l+(if B % R+1∈l then 1 else 0)
 | [],_,_=>by simp [reached]
 | m::l,h,hd=>by
  have hm:=h m (by simp)
  obtain ⟨d1,d2⟩:=List.pairwise_cons.1 hd
  have ih:=zjS (B:=B) (p:=p) hR l (fun x hx=>h x (by simp [hx])) d2
  simp only [reached]
  rw [ih,show B+1-m+R=(B-m+R)+1 by omega,zsx hR]
  have hn:=zqT (B:=B) hR hm.1 hm.2
  by_cases q:m=B % R+1
  ·rw [if_pos (hn.2 q),if_pos (show B % R+1∈m::l by simp [q]),if_neg (fun hx=>by have:=d1 _ hx;omega)]
   omega
  ·rw [if_neg (fun hx=>q (hn.1 hx))]
   by_cases q2:B % R+1∈l
   ·rw [if_pos q2,if_pos (by simp [q2])]
    omega
   ·rw [if_neg q2,if_neg (by simp [q2];omega)]
    omega
theorem zjT {R p:Int}:∀(l:List Int),reached R p p l=0
 | []=>rfl
 | m::l=>by simp only [reached];rw [zjT l];omega
theorem zmN {w:Wheel} (h:OkW w) {p:Int} (h0:0<=p) (h1:p<w.Round):∀k:Nat,put w k p 0=turn w p k
 | 0=>by
  unfold turn
  rw [show p+((0:Nat):Int)=p by simp,zjT,Int.emod_eq_of_lt h0 h1]
  rfl
 | k+1=>by
  have hr:=h.r1
  have ih:=zmN h h0 h1 k
  rw [zsw w k 1 p 0,ih]
  unfold turn
  simp only [put]
  rw [show p+((k+1:Nat):Int)=(p+k)+1 by simp;omega,zsy (by omega),zjS (by omega) w.Notches h.nm h.nd]
  rfl
theorem zcv {w:Wheel} (h:OkW w) {p c:Int} (h0:0<=p) (h1:p<w.Round) (hc:0<=c):(0<=(turn w p c).1/\(turn w p c).1<w.Round)/\0<=(turn w p c).2/\(turn w p c).2<=c:=by
 have:=znM h c.toNat p 0 h0 h1
 rw [zmN h h0 h1,show ((c.toNat:Nat):Int)=c by omega] at this
 omega
theorem ztO {n:Nat} {w:Wheel} (h:OkW w) (hn:100<=n) {p c:Int} (hp:0<=p) (hp':p<w.Round) (hc:0<=c) (hc':c<n) (hc2:c<1048576):ziN n w p c=some (turn w p c):=by
 rw [zyv h hn hp hp' hc hc' hc2,zmN h hp hp',show ((c.toNat:Nat):Int)=c by omega]
theorem zjU {R e p:Int} (hR:0<R) (h:p<=e):∀l:List Int,0<=reached R e p l
 | []=>by simp [reached]
 | m::l=>by
  have:=zjU hR h l
  have h2:=Int.ediv_le_ediv hR (show p-m+R<=e-m+R by omega)
  simp only [reached]
  omega
theorem zsz {n:Nat} {w:Wheel} (h:OkW w) (hn:100<=n) {p c:Int} (hp:0<=p) (hp':p<w.Round) (hc:0<=c) (hc2:c<1048576):zdm n ⟨w⟩ p c=some (turn w p c):=by
 have hr:=h.r1
 have hr2:=h.r2
 have hl:=h.nlen
 have hfin:=zcv h hp hp' hc
 unfold turn at hfin
 simp only at hfin
 have e0:w64 (p+c)=p+c:=zaP (by omega) (by omega)
 have key:=zqS (F:=fun m i s=>zbm ⟨w⟩ p c m s i) (xs:=w.Notches) (spec:=fun l s=>some ((p+c) % w.Round,s+reached w.Round (p+c) p l)) (I:=fun l s=>0<=s/\s+reached w.Round (p+c) p l<=c/\∀x,x∈l->1<=x/\x<=w.Round) (by omega)
  (fun m s hI=>by simp [zbm,zcS,zdd,reached,e0,zyo (show 0<=p+c by omega) (show 0<w.Round by omega)])
  (fun m i x l s hI hx hi _ _ hrec=>by
   obtain ⟨i1,i2,i3⟩:=hI
   have hxm:=i3 x (by simp)
   simp only [reached] at i2
   have hrl:=zjU (R:=w.Round) (e:=p+c) (p:=p) (by omega) (by omega) l
   have hd1:=Int.ediv_nonneg (show 0<=p+c-x+w.Round by omega) (show 0<=w.Round by omega)
   have hd2:=Int.ediv_nonneg (show 0<=p-x+w.Round by omega) (show 0<=w.Round by omega)
   have hd3:=Int.ediv_le_self w.Round (show 0<=p+c-x+w.Round by omega)
   have hd5:=Int.ediv_le_ediv (show 0<w.Round by omega) (show p-x+w.Round<=p+c-x+w.Round by omega)
   simp only [zbm,zcS]
   rw [if_pos (by simpa using hi),hx,zaa,e0,zaP (x:=p+c-x) (by omega) (by omega),zaP (x:=p+c-x+w.Round) (by omega) (by omega),zaP (x:=p-x) (by omega) (by omega),zaP (x:=p-x+w.Round) (by omega) (by omega),
    zuc (by omega) (by omega) (by omega),zuc (by omega) (by omega) (by omega),zaa,zaa,zaP (x:=_-_) (by omega) (by omega),zaP (x:=s+_) (by omega) (by omega),
    hrec _ ⟨by omega,by omega,fun y hy=>i3 y (by simp [hy])⟩]
   simp only [reached]
   congr 2
   omega)
  w.Notches 0 n 0 (by omega) rfl (by omega) ⟨by omega,by omega,h.nm⟩
 have key:zbm ⟨w⟩ p c n 0 0=_:=key
 unfold zdm
 rw [key]
 unfold turn
 rw [Int.zero_add]
structure OkS (w:Wheel) (s:Stand) (b:Int):Prop where
 p0:0<=s.Place
 p1:s.Place<w.Round
 c0:0<=s.Credit
 c1:s.Credit<=b
def zep (w:Wheel) (a:Int):Bool:=inR a (-1) (w.Coins.length-1)
def zpJ (w:Wheel) (a:Int):Bool:=inR a 0 (w.Coins.length-1)
def coin (w:Wheel) (a:Int):Int:=w.Coins.getD a.toNat 0
def zhh (w:Wheel) (s:Stand) (a:Int):Stand×Bool :=
 if 0<=a then (⟨(turn w s.Place (coin w a)).1,s.Credit+(turn w s.Place (coin w a)).2⟩,false) else if s.Credit=0 then (s,false) else (⟨0,s.Credit-1⟩,true)
theorem zkl {w:Wheel} {a:Int} (h0:0<=a) (h1:a<=w.Coins.length-1):idx w.Coins a=some (coin w a):=by
 obtain ⟨k,rfl⟩:∃k:Nat,a=k:=⟨a.toNat,by omega⟩
 have hk:k<w.Coins.length:=by omega
 rw [zcL hk]
 simp [coin,hk]
theorem zcO {w:Wheel} (h:OkW w) {a:Int} (h0:0<=a) (h1:a<=w.Coins.length-1):1<=coin w a/\coin w a<=100:=by
 obtain ⟨k,rfl⟩:∃k:Nat,a=k:=⟨a.toNat,by omega⟩
 have hk:k<w.Coins.length:=by omega
 have:coin w k=w.Coins[k]:=by simp [coin,hk]
 rw [this]
 exact h.cm _ (List.getElem_mem hk)
theorem zoO {w:Wheel} (h:OkW w) {s:Stand} {b a:Int} (hs:OkS w s b) (ha:zep w a=true):OkS w (zhh w s a).1 (b+100):=by
 have ha:=zbW.1 ha
 have hr:=h.r1
 unfold zhh
 split
 ·rename_i h0
  have hc:=zcO h h0 ha.2
  have ht:=zcv h hs.p0 hs.p1 (show 0<=coin w a by omega)
  have:=hs.c0
  have:=hs.c1
  exact ⟨ht.1.1,ht.1.2,by show 0<=s.Credit+_;omega,by show s.Credit+_<=_;omega⟩
 ·have:=hs.c0
  have:=hs.c1
  split
  ·exact ⟨hs.p0,hs.p1,hs.c0,by show s.Credit<=b+100;omega⟩
  ·exact ⟨by show (0:Int)<=0;omega,by show (0:Int)<_;omega,by show 0<=s.Credit-1;omega,by show s.Credit-1<=_;omega⟩
theorem zyw {n:Nat} {w:Wheel} (h:OkW w) (hn:200<=n) {s:Stand} {b a:Int} (hs:OkS w s b) (hb:b<1099511627776) (ha:zep w a=true):ziO n w s a=some (zhh w s a):=by
 have ha:=zbW.1 ha
 have:=hs.c0
 have:=hs.c1
 unfold ziO zhh
 by_cases h0:0<=a
 ·have hc:=zcO h h0 ha.2
  have ht:=zcv h hs.p0 hs.p1 (show 0<=coin w a by omega)
  rw [if_pos (by simpa using h0),if_pos h0,zkl h0 ha.2,zaa,ztO h (by omega) hs.p0 hs.p1 (by omega) (by omega) (by omega),zaa,zaP (by omega) (by omega)]
 ·rw [if_neg (by simpa using h0),if_neg h0]
  by_cases hc:s.Credit=0
  ·rw [if_pos (by simpa using hc),if_pos hc]
  ·rw [if_neg (by simpa using hc),if_neg hc,zaP (by omega) (by omega)]
theorem zyx {n:Nat} {w:Wheel} (h:OkW w) (hn:200<=n) {s:Stand} {b a:Int} (hs:OkS w s b) (hb:b<1099511627776) (ha:zep w a=true):zeK n ⟨w⟩ s a=some (zhh w s a).1:=by
 have ha:=zbW.1 ha
 have:=hs.c0
 have:=hs.c1
 unfold zeK zhh
 by_cases h0:0<=a
 ·have hc:=zcO h h0 ha.2
  have ht:=zcv h hs.p0 hs.p1 (show 0<=coin w a by omega)
  rw [if_pos (by simp;omega),if_pos h0,zkl h0 ha.2,zaa,zsz h (by omega) hs.p0 hs.p1 (by omega) (by omega),zaa,zaP (by omega) (by omega)]
 ·rw [if_neg (by simp;omega),if_neg h0]
  by_cases hc:s.Credit=0
  ·rw [if_neg (by simp;omega),if_pos hc]
  ·rw [if_pos (by simp;omega),if_neg hc,zaP (by omega) (by omega)]
theorem zA4 {n:Nat} (f:Int->Option Bool) (g:Int->Bool) (xs:List Int) (hf:∀x,x∈xs->f x=some (g x)) (hl:xs.length<1048576) (hn:xs.length<n) :
  zfK n (fun x (_:Unit)=>(f x).map fun y=>(y,())) xs ()=some (decide ((xs.length:Int)<=20)&&xs.all g,()):=by
 have key:∀(l:List Int) (i m:Nat) (s:Unit),i<=xs.length->xs.drop i=l->l.length<m->(zas xs (zcw (fun x (_:Unit)=>(f x).map fun y=>(y,()))) m (i:Int) s).map (fun r=>decide (r.1≥0))=some (!l.all g):=by
  intro l i m s h1 h2 h3
  refine ztL (fun m i s=>(zas xs (zcw (fun x (_:Unit)=>(f x).map fun y=>(y,()))) m i s).map (fun r=>decide (r.1≥0))) xs (fun l _=>some (!l.all g)) hl (fun m s=>?_) (fun m i x l s hx hi _ _ hrec=>?_) l i m s h1 h2 h3
  ·simp [zas,zbb,zbQ]
  ·have hmem:x∈xs:=by
    unfold idx at hx
    rw [if_pos (by omega)] at hx
    exact List.mem_of_getElem? hx
   simp only [zas,zbb]
   rw [if_pos (by simpa using hi),hx,zaa]
   simp only [zcw,hf x hmem,Option.map_some,zaa]
   by_cases hg:g x=true
   ·rw [if_neg (by simp [hg])]
    have:=hrec ()
    rw [this]
    simp [hg]
   ·rw [if_pos (by simpa using hg)]
    simp [hg]
 have h:=key xs 0 n () (by omega) rfl hn
 unfold zfK zdn
 by_cases hq:(xs.length:Int)<=20
 ·rw [if_pos (by simpa using hq)]
  unfold zbr zc0
  change Option.map _ (zas xs _ n 0 ())=_ at h
  cases hx:zas xs (zcw (fun x (_:Unit)=>(f x).map fun y=>(y,()))) n 0 () with
  | none=>rw [hx] at h;cases h
  | some r =>
   rw [hx] at h
   simp only [Option.map_some,Option.some.injEq] at h
   simp only [zaa]
   rw [h]
   simp [hq]
 ·rw [if_neg (by simpa using hq)]
  simp [hq]
theorem zsA {w:Wheel} (hw:w.Coins.length<1048576) (x:Int):zdA ⟨w⟩ x=some (zpJ w x):=by
 unfold zdA zpJ
 simp only []
 rw [zaP (by omega) (by omega),zgU,zaa]
theorem ztP {w:Wheel} (hw:w.Coins.length<1048576) (x:Int):zcE ⟨w⟩ x=some (zep w x):=by
 unfold zcE zcx
 rw [zsA hw,zaa]
 have e:zep w x=(decide (x=-1) || zpJ w x):=by
  rw [Bool.eq_iff_iff]
  simp only [zep,zpJ,zbW,Bool.or_eq_true,decide_eq_true_eq]
  omega
 rw [e]
 by_cases h:x=-1
 ·rw [if_pos (by simpa using h)]
  simp [h]
 ·rw [if_neg (by simpa using h)]
  simp [h]
def ziu (w:Wheel) (p:Int):Bool:=inR p 0 (w.Round-1)
theorem zqU {w:Wheel} (h:OkW w) (p:Int):zde ⟨w⟩ p=some (ziu w p):=by
 have:=h.r1
 have:=h.r2
 unfold zde ziu
 simp only []
 rw [zaP (by omega) (by omega),zgU,zaa]
def zgF (w:Wheel) (s:Stand):Bool:=ziu w s.Place&&inR s.Credit 0 20
theorem zqV {w:Wheel} {s:Stand} (h:zgF w s=true):OkS w s 20:=by
 simp only [zgF,ziu,Bool.and_eq_true,zbW] at h
 exact ⟨h.1.1,by omega,h.2.1,h.2.2⟩
def zw:Wheel_:=⟨⟨0,[],[]⟩⟩
theorem zuU {n:Nat} {w:Wheel} (hl:zj5 n w) (aF:Wheel_->Unit->Option (Bool×Unit)) (b:Bool) (ha:valid w=true->aF ⟨w⟩ ()=some (b,())) :
  zeZ n aF w ()=some (cond (valid w) (cond b (((⟨w⟩:Wheel_),0),()) ((zw,1),())) ((zw,10),())):=by
 unfold zeZ
 rw [zmL hl,zaa]
 cases hv:valid w with
 | false=>rfl
 | true =>
  rw [ha hv]
  cases b<;>rfl
def zqW (w:Wheel):List Int->Int->Stand->Stand×Int
 | [],k,s=>(s,k)
 | a::l,k,s=>zqW w l (k+if (zhh w s a).2 then 1 else 0) (zhh w s a).1
def zAb (w:Wheel) (s:Stand) (acts:List Int):Stand×Int×Int :=
 if valid w=true then (if zgF w s=true/\(acts.length:Int)<=20/\acts.all (zep w)=true then ((zqW w acts 0 s).1,(zqW w acts 0 s).2,0) else (⟨0,0⟩,0,1)) else (⟨0,0⟩,0,10)
theorem ztQ {w:Wheel} {s:Stand} {a:Int} (h:zep w a=true) (hc:0<=s.Credit):(zhh w s a).2=true↔a=-1/\s.Credit>0:=by
 have h:=zbW.1 h
 unfold zhh
 split
 ·simp;omega
 ·split<;>simp<;>omega
theorem zAT {n:Nat} {w:Wheel} (h:OkW w) (hn:200<=n) (acts:List Int) (hl:(acts.length:Int)<=20) (ha:acts.all (zep w)=true) {s:Stand} (hs:OkS w s 20) :
  zbH n acts ((⟨w⟩,0),()) n 0 0 s.Place s.Credit=some ((zqW w acts 0 s).1,(zqW w acts 0 s).2,0):=by
 have key:=zqS (F:=fun m i (q:Int×Stand)=>zbH n acts ((⟨w⟩,0),()) m q.1 i q.2.Place q.2.Credit) (xs:=acts) (spec:=fun l q=>some ((zqW w l q.1 q.2).1,(zqW w l q.1 q.2).2,0))
  (I:=fun l q=>(0<=q.1/\q.1+l.length<=100)/\OkS w q.2 (2100-100*l.length)/\l.length<=20/\l.all (zep w)=true) (by omega)
  (fun m q hI=>by simp [zbH,zfa,zgn,zqW])
  (fun m i x l q hI hx hi _ _ hrec=>by
   obtain ⟨i1,i2,i3,i4⟩:=hI
   simp only [List.length_cons,List.all_cons,Bool.and_eq_true] at i1 i2 i3 i4
   have hb:(2100-100*((l.length+1:Nat):Int))+100=2100-100*(l.length:Int):=by simp;omega
   have hok:=zoO h i2 i4.1
   rw [hb] at hok
   have hmi:=ztQ i4.1 i2.c0
   have goal:∀c:Bool,(c=(zhh w q.2 x).2)->zex n (zbH n acts ((⟨w⟩,0),()) m) ((⟨w⟩,0),()) q.1 (i:Int) q.2.Place q.2.Credit x c=some ((zqW w (x::l) q.1 q.2).1,(zqW w (x::l) q.1 q.2).2,0):=by
    rintro c rfl
    have e:(⟨q.2.Place,q.2.Credit⟩:Stand)=q.2:=rfl
    simp only [zex,zfo,zqW,e,zyx h hn i2 (by omega) i4.1,zaa]
    by_cases hm:(zhh w q.2 x).2=true
    ·rw [if_pos hm,zaP (x:=q.1+1) (by omega) (by omega)]
     have:=hrec (q.1+1,(zhh w q.2 x).1) ⟨⟨by simp;omega,by simp;omega⟩,hok,by omega,i4.2⟩
     simp only at this
     rw [this]
     simp [hm]
    ·rw [if_neg hm]
     have:=hrec (q.1,(zhh w q.2 x).1) ⟨⟨by simp;omega,by simp;omega⟩,hok,by omega,i4.2⟩
     simp only at this
     rw [this]
     simp [hm]
   simp only [zbH,zfa]
   rw [if_pos (by simpa using hi),hx,zaa]
   by_cases hx1:x=-1
   ·rw [if_pos (by simpa using hx1)]
    refine goal _ ?_
    rw [Bool.eq_iff_iff,hmi]
    simp [hx1]
   ·rw [if_neg (by simpa using hx1)]
    refine goal _ ?_
    rw [Bool.eq_iff_iff,hmi]
    simp [hx1])
  acts 0 n (0,s) (by omega) rfl (by omega) ⟨⟨by simp,by simp;omega⟩,⟨hs.p0,hs.p1,hs.c0,by have:=hs.c1;simp;omega⟩,by omega,ha⟩
 exact key
theorem zuh {n:Nat} {w:Wheel} (hl:zj5 n w) (hn:200<=n) (s:Stand) (acts:List Int) (h1:acts.length<1048576) (h2:acts.length<n):zeL n w s acts=some (zAb w s acts):=by
 unfold zeL zAb
 rw [zuU hl _ (zgF w s&&(decide ((acts.length:Int)<=20)&&acts.all (zep w))) (fun hv=>?_),zaa]
 ·cases hv:valid w with
  | false=>rfl
  | true =>
   have h:=zeR hv
   by_cases hq:zgF w s=true/\(acts.length:Int)<=20/\acts.all (zep w)=true
   ·rw [if_pos rfl,if_pos hq,hq.1,hq.2.2,show decide ((acts.length:Int)<=20)=true by simpa using hq.2.1]
    exact zAT h hn acts hq.2.1 hq.2.2 (zqV hq.1)
   ·rw [if_pos rfl,if_neg hq,show (zgF w s&&(decide ((acts.length:Int)<=20)&&acts.all (zep w)))=false by
     cases hz:(zgF w s&&(decide ((acts.length:Int)<=20)&&acts.all (zep w))) with
     | false=>rfl
     | true=>simp only [Bool.and_eq_true,decide_eq_true_eq] at hz;exact (hq hz).elim]
    rfl
 ·have h:=zeR hv
  show (zfn n ⟨w⟩ s acts).map (fun y=>(y,()))=_
  unfold zfn zc4
  rw [zqU h,zaa,zgU,zA4 (fun x=>zcE ⟨w⟩ x) (zep w) acts (fun x _=>ztP hl.2.1 x) h1 h2]
  unfold zgF
  cases ziu w s.Place<;>cases inR s.Credit 0 20<;>rfl
theorem zoP {n:Nat} (a b:List Int) (hs:a.length<1048576) (hn:a.length<n):zfc n a b=some (decide (a=b)):=by
 unfold zfc
 by_cases h:a.length=b.length
 ·rw [if_neg (by simp [h])]
  have:=zug (F:=fun m i (_:Unit)=>zbK a b m i) (xs:=a.zip b) (spec:=fun l _=>some (decide (∀q,q∈l->q.1=q.2))) (n:=n) (by simp [←h];omega) (by simp [←h];omega) () (fun m s=>by simp [zbK,zdf,zdW,←h]) (fun m i x l s hx hi hi' hd hrec=>by
   have hi1:i<a.length:=by simp [←h] at hi;exact hi
   have hi2:i<b.length:=by omega
   have hx':x=(a[i],b[i]):=by
    rw [zcL (by simp;omega)] at hx
    injection hx with hx
    rw [←hx]
    simp
   simp only [zbK,zdf]
   rw [if_pos (by simp;omega),zcL hi1,zcL hi2,zaa,zaa]
   subst hx'
   by_cases hb:a[i]=b[i]
   ·rw [if_neg (by simp [hb]),hrec ()]
    simp [hb]
   ·rw [if_pos (by simp [hb])]
    simp [hb])
  rw [show zbK a b n 0=_ from this]
  congr 1
  apply decide_eq_decide.2
  constructor
  ·intro hq
   apply List.ext_getElem h
   intro i h1 h2
   have:=hq (a[i],b[i]) (by
    have h3:i<(a.zip b).length:=by simp;omega
    have:(a.zip b)[i]=(a[i],b[i]):=by simp
    rw [←this]
    exact List.getElem_mem h3)
   exact this
  ·rintro rfl q hq
   obtain ⟨i,hi,rfl⟩:=List.getElem_of_mem hq
   simp
 ·rw [if_pos (by simp;omega)]
  have:a≠b:=fun e=>h (by rw [e])
  simp [this]
theorem zuV {n:Nat} {w:Wheel} (h:zj5 n w):zhU w=some w:=by
 unfold zhU
 rw [zk1 (by simp;exact Nat.le_of_lt h.1),zk1 (by simp;exact Nat.le_of_lt h.2.1)]
 rfl
theorem zlg {α:Type} {l:List α} (h:l.length<1048576):app ([]:List α) l=some l:=by rw [zk1 (by simp;omega)];rfl
section
variable {κ:Type} [DecidableEq κ]
theorem zpK:∀{M:List (κ×Int)} {k:κ},zbv M k=true↔k∈M.map (·.1)
 | [],k=>by simp [zbv]
 | p::M,k=>by
  simp only [zbv,List.map_cons,List.mem_cons]
  by_cases h:p.1=k
  ·simp [h]
  ·rw [if_neg h,zpK]
   exact ⟨.inr,fun e=>e.resolve_left (Ne.symm h)⟩
theorem zpL:∀{M:List (κ×Int)} {k:κ},zbv M k=true->(k,zor M k)∈M
 | [],k,h=>by simp [zbv] at h
 | p::M,k,h=>by
  by_cases e:p.1=k
  ·simp only [zor,if_pos e]
   rw [←e]
   exact List.mem_cons_self
  ·simp only [zbv,if_neg e] at h
   simp only [zor,if_neg e]
   exact List.mem_cons_of_mem _ (zpL h)
theorem zsB:∀{M:List (κ×Int)} {k:κ},zbv M k=false->zor M k=0
 | [],k,h=>rfl
 | p::M,k,h=>by
  by_cases e:p.1=k
  ·simp [zbv,e] at h
  ·simp only [zbv,if_neg e] at h
   simp only [zor,if_neg e]
   exact zsB h
theorem zpM:∀{M:List (κ×Int)} {k:κ} {v:Int} {p:κ×Int},p∈zgh M k v->p=(k,v)\/p∈M
 | [],k,v,p,h=>by simp [zgh] at h;exact .inl h
 | q::M,k,v,p,h=>by
  simp only [zgh] at h
  split at h
  ·rcases List.mem_cons.1 h with h | h
   ·exact .inl h
   ·exact .inr (List.mem_cons_of_mem _ h)
  ·rcases List.mem_cons.1 h with h | h
   ·exact .inr (h▸List.mem_cons_self)
   ·rcases zpM h with h | h
    ·exact .inl h
    ·exact .inr (List.mem_cons_of_mem _ h)
theorem znN:∀{M:List (κ×Int)} {k:κ} {v:Int},(zgh M k v).map (·.1)=if zbv M k=true then M.map (·.1) else M.map (·.1)++[k]
 | [],k,v=>by simp [zgh,zbv]
 | q::M,k,v=>by
  by_cases e:q.1=k
  ·simp [zgh,zbv,e]
  ·simp only [zgh,zbv,if_neg e,List.map_cons]
   rw [znN]
   cases zbv M k<;>simp
theorem zqX {M:List (κ×Int)} {k:κ} {v:Int} (h:(M.map (·.1)).Nodup):((zgh M k v).map (·.1)).Nodup:=by
 rw [znN]
 cases e:zbv M k with
 | true=>simpa using h
 | false =>
  have:¬k∈M.map (·.1):=fun hk=>by rw [zpK.2 hk] at e;cases e
  simp only [Bool.false_eq_true,if_false]
  rw [List.nodup_append]
  refine ⟨h,by simp,fun a ha b hb=>?_⟩
  simp only [List.mem_singleton] at hb
  subst hb
  exact fun e=>this (e▸ha)
end
def zgV (b:Bool) (s:Bool×Int) (n:Int):Bool×Int:=if s.1=true\/cond b (decide (n>s.2)) (decide (n<s.2))=true then (false,n) else s
def pick (b:Bool) (vs:List Int):Int:=(vs.foldl (zgV b) (true,0)).2
def leB (b:Bool) (x y:Int):Prop:=cond b (x<=y) (y<=x)
theorem leB.refl (b:Bool) (x:Int):leB b x x:=by cases b<;>exact Int.le_refl x
theorem leB.trans {b:Bool} {x y z:Int} (h:leB b x y) (h':leB b y z):leB b x z:=by
 cases b
 ·exact Int.le_trans h' h
 ·exact Int.le_trans h h'
theorem leB.anti {b:Bool} {x y:Int} (h:leB b x y) (h':leB b y x):x=y:=by
 cases b
 ·exact Int.le_antisymm h' h
 ·exact Int.le_antisymm h h'
theorem leB.add {b:Bool} {x y:Int} (h:leB b x y) (a:Int):leB b (a+x) (a+y):=by
 cases b
 ·exact Int.add_le_add_left h a
 ·exact Int.add_le_add_left h a
theorem zjB (b:Bool):∀(vs:List Int) (m:Int),(vs.foldl (zgV b) (false,m)).1=false/\((vs.foldl (zgV b) (false,m)).2=m\/(vs.foldl (zgV b) (false,m)).2∈vs)/\leB b m (vs.foldl (zgV b) (false,m)).2/\∀v,v∈vs->leB b v (vs.foldl (zgV b) (false,m)).2
 | [],m=>⟨rfl,.inl rfl,leB.refl b m,fun v h=>by simp at h⟩
 | x::vs,m=>by
  simp only [List.foldl_cons]
  by_cases h:cond b (decide (x>m)) (decide (x<m))=true
  ·have e:zgV b (false,m) x=(false,x):=by
    unfold zgV
    rw [if_pos (.inr h)]
   rw [e]
   obtain ⟨h1,h2,h3,h4⟩:=zjB b vs x
   have hm:leB b m x:=by
    cases b
    ·exact Int.le_of_lt (by simpa using h)
    ·exact Int.le_of_lt (by simpa using h)
   refine ⟨h1,?_,hm.trans h3,fun v hv=>?_⟩
   ·rcases h2 with h2 | h2
    ·exact .inr (by rw [h2];exact List.mem_cons_self)
    ·exact .inr (List.mem_cons_of_mem _ h2)
   ·rcases List.mem_cons.1 hv with rfl | hv
    ·exact h3
    ·exact h4 v hv
  ·have e:zgV b (false,m) x=(false,m):=by
    unfold zgV
    rw [if_neg (by simpa using h)]
   rw [e]
   obtain ⟨h1,h2,h3,h4⟩:=zjB b vs m
   have hm:leB b x m:=by
    cases b
    ·simpa [leB] using h
    ·simpa [leB] using h
   refine ⟨h1,h2.imp_right (List.mem_cons_of_mem _),h3,fun v hv=>?_⟩
   rcases List.mem_cons.1 hv with rfl | hv
   ·exact hm.trans h3
   ·exact h4 v hv
theorem zoQ (b:Bool) (m x:Int):zgV b (true,m) x=(false,x):=by
 unfold zgV
 rw [if_pos (.inl rfl)]
theorem zgW (b:Bool) {vs:List Int} (h:vs≠[]):pick b vs∈vs/\∀v,v∈vs->leB b v (pick b vs):=by
 cases vs with
 | nil=>exact (h rfl).elim
 | cons x vs =>
  unfold pick
  rw [List.foldl_cons,zoQ]
  obtain ⟨h1,h2,h3,h4⟩:=zjB b vs x
  refine ⟨?_,fun v hv=>?_⟩
  ·rcases h2 with h2 | h2
   ·rw [h2];exact List.mem_cons_self
   ·exact List.mem_cons_of_mem _ h2
  ·rcases List.mem_cons.1 hv with rfl | hv
   ·exact h3
   ·exact h4 v hv
theorem zuW (b:Bool) {vs:List Int} {r:Int} (h:r∈vs) (hr:∀v,v∈vs->leB b v r):pick b vs=r:=by
 obtain ⟨h1,h2⟩:=zgW b (vs:=vs) (fun e=>by rw [e] at h;simp at h)
 exact (hr _ h1).anti (h2 _ h)
theorem zpN (b:Bool):pick b []=0:=rfl
def total:List Int->Int
 | []=>0
 | x::l=>x+total l
def zcB (l:List Int) (k:Nat):List Int:=l.set k (l.getD k 0-1)
theorem zlh:∀{l:List Int} {k:Nat} {v:Int},k<l.length->total (l.set k v)=total l-l.getD k 0+v
 | [],k,v,h=>by simp at h
 | x::l,0,v,h=>by simp [total];omega
 | x::l,k+1,v,h=>by
  have:=zlh (l:=l) (k:=k) (v:=v) (by simpa using h)
  simp only [List.set_cons_succ,total,List.getD_cons_succ]
  omega
theorem ze5 {l:List Int} {k:Nat} (h:k<l.length):total (zcB l k)=total l-1:=by
 unfold zcB
 rw [zlh h]
 omega
theorem zdE:∀{l:List Int},(∀x,x∈l->0<=x)->0<=total l
 | [],_=>Int.le_refl _
 | x::l,h=>by
  have:=h x (by simp)
  have:=zdE (l:=l) (fun y hy=>h y (by simp [hy]))
  simp only [total]
  omega
theorem zfF:∀{l:List Int},(∀x,x∈l->0<=x)->∀k,0<=l.getD k 0/\l.getD k 0<=total l
 | [],_,k=>by simp [total]
 | x::l,h,0=>by
  have:=h x (by simp)
  have:=zdE (l:=l) (fun y hy=>h y (by simp [hy]))
  simp only [List.getD_cons_zero,total]
  omega
 | x::l,h,k+1=>by
  have:=h x (by simp)
  have:=zfF (l:=l) (fun y hy=>h y (by simp [hy])) k
  simp only [List.getD_cons_succ,total]
  omega
theorem zqY:∀{l:List Int},(∀x,x∈l->0<=x)->total l=0->∀k,l.getD k 0=0:=fun h h0 k=>by
 have:=zfF h k
 omega
structure OkP (w:Wheel) (l:List Int):Prop where
 len:l.length=w.Coins.length
 nn:∀x,x∈l->0<=x
 tot:total l<=1000
theorem OkP.less {w:Wheel} {l:List Int} (h:OkP w l) {k:Nat} (hk:k<w.Coins.length) (h0:l.getD k 0≠0):OkP w (zcB l k):=by
 have hk':k<l.length:=by rw [h.len];exact hk
 have:=zfF h.nn k
 refine ⟨by simp [zcB,h.len],fun x hx=>?_,by rw [ze5 hk'];have:=h.tot;omega⟩
 rcases List.mem_or_eq_of_mem_set hx with hx | rfl
 ·exact h.nn x hx
 ·omega
def zsC (l:List Int):List Int:=[l.getD 0 0,l.getD 1 0,l.getD 2 0,l.getD 3 0]
def zb5 (l:List Int):Bag_:=⟨l.getD 0 0,l.getD 1 0,l.getD 2 0,l.getD 3 0⟩
theorem ziv {l:List Int} {k:Nat} (h:k<4):idx (zsC l) (k:Int)=some (l.getD k 0):=by
 match k,h with
 | 0,_=>rfl
 | 1,_=>rfl
 | 2,_=>rfl
 | 3,_=>rfl
theorem zmO {l:List Int} {k:Nat} {v:Int} (h:k<l.length) (h4:l.length<=4):zqm (zsC l) (k:Int) v=some (zsC (l.set k v)):=by
 unfold zqm
 rw [if_pos ⟨by omega,by simp [zsC];omega⟩,Int.toNat_natCast]
 match l,k,h,h4 with
 | [a],0,_,_=>rfl
 | [a,b],0,_,_=>rfl
 | [a,b],1,_,_=>rfl
 | [a,b,c],0,_,_=>rfl
 | [a,b,c],1,_,_=>rfl
 | [a,b,c],2,_,_=>rfl
 | [a,b,c,d],0,_,_=>rfl
 | [a,b,c,d],1,_,_=>rfl
 | [a,b,c,d],2,_,_=>rfl
 | [a,b,c,d],3,_,_=>rfl
theorem zmP {l l':List Int} (h:zb5 l=zb5 l') (hl:l.length=l'.length) (h4:l.length<=4):l=l':=by
 simp only [zb5,Bag_.mk.injEq] at h
 obtain ⟨h0,h1,h2,h3⟩:=h
 apply List.ext_getElem hl
 intro i hi hi'
 have e1:l[i]=l.getD i 0:=by simp [hi]
 have e2:l'[i]=l'.getD i 0:=by simp [hi']
 rw [e1,e2]
 match i,(show i<4 by omega) with
 | 0,_=>exact h0
 | 1,_=>exact h1
 | 2,_=>exact h2
 | 3,_=>exact h3
structure Opn where
 acts:List Int
 plays:Int
 p:Int
 c:Int
 k:Nat
def zif (w:Wheel) (p c:Int) (k:Nat):Opn:=⟨[(k:Int)],(turn w p (coin w k)).2,(turn w p (coin w k)).1,c+(turn w p (coin w k)).2,k⟩
def zj6 (w:Wheel) (c:Int) (k:Nat):Opn:=⟨[-1,(k:Int)],(turn w 0 (coin w k)).2,(turn w 0 (coin w k)).1,c-1+(turn w 0 (coin w k)).2,k⟩
def zuX (w:Wheel) (p c:Int) (k:Nat):List Opn:=zif w p c k::(if c=0\/p=0 then [] else [zj6 w c k])
def zjC (w:Wheel) (p c:Int) (l:List Int):Nat->Nat->List Opn
 | 0,_=>[]
 | d+1,k=>(if l.getD k 0=0 then [] else zuX w p c k)++zjC w p c l d (k+1)
theorem zeS {w:Wheel} {p c:Int} {l:List Int} {o:Opn}:∀{d k:Nat},o∈zjC w p c l d k↔∃j,k<=j/\j<k+d/\l.getD j 0≠0/\o∈zuX w p c j
 | 0,k=>by
  simp only [zjC,List.not_mem_nil,false_iff]
  rintro ⟨j,h1,h2,_⟩
  omega
 | d+1,k=>by
  simp only [zjC,List.mem_append]
  rw [zeS]
  constructor
  ·rintro (h | ⟨j,h1,h2,h3,h4⟩)
   ·split at h
    ·simp at h
    ·rename_i h0
     exact ⟨k,Nat.le_refl k,by omega,h0,h⟩
   ·exact ⟨j,by omega,by omega,h3,h4⟩
  ·rintro ⟨j,h1,h2,h3,h4⟩
   by_cases e:j=k
   ·subst e
    exact .inl (by rw [if_neg h3];exact h4)
   ·exact .inr ⟨j,by omega,by omega,h3,h4⟩
theorem zfj {w:Wheel} {p c:Int} {k:Nat} {o:Opn}:o∈zuX w p c k↔o=zif w p c k\/(c≠0/\p≠0/\o=zj6 w c k):=by
 unfold zuX
 rw [List.mem_cons]
 by_cases h:c=0\/p=0
 ·rw [if_pos h]
  simp only [List.not_mem_nil,or_false]
  exact ⟨.inl,fun q=>q.elim id fun q=>(h.elim q.1 q.2.1).elim⟩
 ·rw [if_neg h]
  simp only [List.mem_singleton]
  exact or_congr_right ⟨fun q=>⟨fun e=>h (.inl e),fun e=>h (.inr e),q⟩,fun q=>q.2.2⟩
def Q (b:Bool) (w:Wheel):Nat->Int->Int->List Int->Int
 | 0,_,_,_=>0
 | T+1,p,c,l=>pick b ((zjC w p c l l.length 0).map fun o=>o.plays+Q b w T o.p o.c (zcB l o.k))
structure OkO (w:Wheel) (c:Int) (l:List Int) (o:Opn):Prop where
 k:o.k<w.Coins.length
 nz:l.getD o.k 0≠0
 p0:0<=o.p
 p1:o.p<w.Round
 c0:0<=o.c
 c1:o.c<=c+100
 y0:0<=o.plays
 y1:o.plays<=100
theorem zmQ {w:Wheel} (h:OkW w) {p c:Int} (hp:0<=p) (hp':p<w.Round) (hc:0<=c) {l:List Int} (hl:OkP w l) {o:Opn} (ho:o∈zjC w p c l l.length 0):OkO w c l o:=by
 have hr:=h.r1
 obtain ⟨j,_,h2,h3,h4⟩:=zeS.1 ho
 have hj:j<w.Coins.length:=by have:=hl.len;omega
 have hco:=zcO h (a:=(j:Int)) (by omega) (by omega)
 rcases zfj.1 h4 with rfl | ⟨h5,h6,rfl⟩
 ·have ht:=zcv h hp hp' (show 0<=coin w j by omega)
  exact ⟨hj,h3,ht.1.1,ht.1.2,by show 0<=c+_;omega,by show c+_<=_;omega,ht.2.1,by show (turn w p (coin w j)).2<=100;omega⟩
 ·have ht:=zcv h (p:=0) (by omega) (by omega) (show 0<=coin w j by omega)
  exact ⟨hj,h3,ht.1.1,ht.1.2,by show 0<=c-1+_;omega,by show c-1+_<=_;omega,ht.2.1,by show (turn w 0 (coin w j)).2<=100;omega⟩
theorem zli:∀{l:List Int},total l≠0->∃j,j<l.length/\l.getD j 0≠0
 | [],h=>(h rfl).elim
 | x::l,h=>by
  by_cases e:x=0
  ·obtain ⟨j,h1,h2⟩:=zli (l:=l) (fun q=>h (by simp [total,q,e]))
   exact ⟨j+1,by simp;omega,by simpa using h2⟩
  ·exact ⟨0,by simp,by simpa using e⟩
theorem zsD {w:Wheel} {p c:Int} {l:List Int} (h:total l≠0):∃j,j<l.length/\l.getD j 0≠0/\zif w p c j∈zjC w p c l l.length 0:=by
 obtain ⟨j,h1,h2⟩:=zli h
 exact ⟨j,h1,h2,zeS.2 ⟨j,by omega,by omega,h2,zfj.2 (.inl rfl)⟩⟩
theorem zsE (b:Bool) {w:Wheel} (h:OkW w):∀(T:Nat) {p c:Int} {l:List Int},0<=p->p<w.Round->0<=c->OkP w l->0<=Q b w T p c l/\Q b w T p c l<=100*T
 | 0,p,c,l,_,_,_,_=>by simp [Q]
 | T+1,p,c,l,hp,hp',hc,hl=>by
  simp only [Q]
  by_cases e:((zjC w p c l l.length 0).map fun o=>o.plays+Q b w T o.p o.c (zcB l o.k))=[]
  ·rw [e]
   exact ⟨by simp [zpN],by simp [zpN];omega⟩
  ·obtain ⟨h1,_⟩:=zgW b e
   obtain ⟨o,ho,he⟩:=List.mem_map.1 h1
   have ok:=zmQ h hp hp' hc hl ho
   have:=zsE b h T ok.p0 ok.p1 ok.c0 (hl.less ok.k ok.nz)
   have:=ok.y0
   have:=ok.y1
   rw [←he]
   omega
theorem zsF (b:Bool) {w:Wheel} (h:OkW w):∀(T:Nat) {p c c':Int} {l:List Int},0<=p->p<w.Round->(T:Int)<=c->(T:Int)<=c'->OkP w l->(∀j,w.Coins.length<=j->l.getD j 0=0)->Q b w T p c l=Q b w T p c' l
 | 0,p,c,c',l,_,_,_,_,_,_=>rfl
 | T+1,p,c,c',l,hp,hp',hc,hc',hl,hz=>by
  simp only [Q]
  congr 1
  have key:∀o o':Opn,o.plays=o'.plays->o.p=o'.p->o.k=o'.k->(0<=o.p/\o.p<w.Round)->(T:Int)<=o.c->(T:Int)<=o'.c->o.k<w.Coins.length->l.getD o.k 0≠0->o.plays+Q b w T o.p o.c (zcB l o.k)=o'.plays+Q b w T o'.p o'.c (zcB l o'.k):=by
   intro o o' e1 e2 e3 hq h1 h2 h3 h4
   have hl':=hl.less h3 h4
   rw [←e1,←e2,←e3,zsF b h T hq.1 hq.2 h1 h2 hl' (fun j hj=>by
    unfold zcB
    rw [List.getD_eq_getElem?_getD,List.getElem?_set_ne (by omega),←List.getD_eq_getElem?_getD]
    exact hz j hj)]
  have main:∀d k,(zjC w p c l d k).map (fun o=>o.plays+Q b w T o.p o.c (zcB l o.k))=(zjC w p c' l d k).map (fun o=>o.plays+Q b w T o.p o.c (zcB l o.k)):=by
   intro d
   induction d with
   | zero=>intro k;rfl
   | succ d ih =>
    intro k
    simp only [zjC,List.map_append]
    rw [ih (k+1)]
    congr 1
    split
    ·rfl
    ·rename_i h0
     have hk:k<w.Coins.length:=by
      rcases Nat.lt_or_ge k w.Coins.length with q | q
      ·exact q
      ·exact (h0 (hz k q)).elim
     have hco:=zcO h (a:=(k:Int)) (by omega) (by omega)
     have hr:=h.r1
     have ht:=zcv h hp hp' (show 0<=coin w k by omega)
     have ht0:=zcv h (p:=0) (by omega) (by omega) (show 0<=coin w k by omega)
     have k1:=key (zif w p c k) (zif w p c' k) rfl rfl rfl ht.1 (by show (T:Int)<=c+_;omega) (by show (T:Int)<=c'+_;omega) hk h0
     have k2:=key (zj6 w c k) (zj6 w c' k) rfl rfl rfl ht0.1 (by show (T:Int)<=c-1+_;omega) (by show (T:Int)<=c'-1+_;omega) hk h0
     unfold zuX
     by_cases e:p=0
     ·rw [if_pos (.inr e),if_pos (.inr e)]
      simp [k1]
     ·rw [if_neg (by omega),if_neg (by omega)]
      simp [k1,k2]
  exact main _ _
theorem OkP.out {w:Wheel} {l:List Int} (h:OkP w l):∀j,w.Coins.length<=j->l.getD j 0=0:=fun j hj=>by
 rw [←h.len] at hj
 simp [hj]
theorem zAU (b:Bool) {w:Wheel} (h:OkW w) {T:Nat} {p c:Int} {l:List Int} (hp:0<=p) (hp':p<w.Round) (hl:OkP w l):Q b w T p (min c T) l=Q b w T p c l:=by
 by_cases e:c<=T
 ·rw [Int.min_eq_left e]
 ·rw [Int.min_eq_right (by omega)]
  exact zsF b h T hp hp' (by omega) (by omega) hl hl.out
def zs6 {S:Type} (F:Opn->S->Option (Bool×S)):List Opn->S->Option S
 | [],s=>some s
 | o::l,s=>(F o s).bind fun r=>if r.1=true then zs6 F l r.2 else some r.2
def spot (l:List Int) (p c:Int):Spot_:=⟨zb5 l,p,c⟩
theorem zsG {n:Nat} {w:Wheel} (h:OkW w) (hn:200<=n) {p c:Int} (hp:0<=p) (hp':p<w.Round) (hc:-1<=c) (hc2:c<1099511627776) {l:List Int} (hl:OkP w l) {k:Nat} (hk:k<w.Coins.length) :
  zbt n ⟨w⟩ k (l.getD 0 0) (l.getD 1 0) (l.getD 2 0) (l.getD 3 0) p c=some (spot (zcB l k) (turn w p (coin w k)).1 (c+(turn w p (coin w k)).2),(turn w p (coin w k)).2):=by
 have hco:=zcO h (a:=(k:Int)) (by omega) (by omega)
 have ht:=zcv h hp hp' (show 0<=coin w k by omega)
 have h4:=h.clen
 have hg:=zfF hl.nn k
 have htot:=hl.tot
 unfold zbt
 show Option.bind (idx w.Coins (k:Int)) _=_
 rw [zkl (by omega) (by omega),zaa,zsz h (by omega) hp hp' (by omega) (by omega),zaa]
 rw [show ([l.getD 0 0,l.getD 1 0,l.getD 2 0,l.getD 3 0]:List Int)=zsC l from rfl,ziv (by omega),zaa,zaa,zaP (by omega) (by omega),zmO (by rw [hl.len];exact hk) (by rw [hl.len];exact h4),zaa,zaP (by omega) (by omega)]
 rfl
theorem zuY {n:Nat} {w:Wheel} (h:OkW w) (hn:200<=n) {p c:Int} (hp:0<=p) (hp':p<w.Round) (hc:0<=c) (hc2:c<1099511627776) {l:List Int} (hl:OkP w l) {k:Nat} (hk:k<w.Coins.length) :
  zce n ⟨w⟩ (spot l p c) k false=some (spot (zcB l k) (zif w p c k).p (zif w p c k).c,(zif w p c k).plays):=by
 unfold zce
 rw [if_neg (by simp)]
 exact zsG h hn hp hp' (by omega) hc2 hl hk
theorem zuZ {n:Nat} {w:Wheel} (h:OkW w) (hn:200<=n) {p c:Int} (hc:0<=c) (hc2:c<1099511627776) {l:List Int} (hl:OkP w l) {k:Nat} (hk:k<w.Coins.length) :
  zce n ⟨w⟩ (spot l p c) k true=some (spot (zcB l k) (zj6 w c k).p (zj6 w c k).c,(zj6 w c k).plays):=by
 have hr:=h.r1
 unfold zce
 rw [if_pos rfl]
 show zbt n ⟨w⟩ k _ _ _ _ 0 (w64 (c-1))=_
 rw [zaP (by omega) (by omega)]
 exact zsG h hn (by omega) (by omega) (by omega) (by omega) hl hk
theorem zu0 {S:Type} {n:Nat} {w:Wheel} (h:OkW w) (hn:200<=n) {p c:Int} (hp:0<=p) (hp':p<w.Round) (hc:0<=c) (hc2:c<1099511627776) {l:List Int} (hl:OkP w l) (b:Bool) (aF:List Int->Spot_->Int->S->Option (Bool×S)) (st:S) :
  ze1 n aF (⟨w⟩,b) (spot l p c) st=(zs6 (fun o s=>aF o.acts (spot (zcB l o.k) o.p o.c) o.plays s) (zjC w p c l l.length 0) st).map fun s=>((),s):=by
 have h4:=h.clen
 have key:=zyt (F:=fun m i s=>zaU n (⟨w⟩,b) (spot l p c) aF m (l.getD 0 0) (l.getD 1 0) (l.getD 2 0) (l.getD 3 0) i s) (b:=w.Coins.length)
  (spec:=fun i s=>(zs6 (fun o s=>aF o.acts (spot (zcB l o.k) o.p o.c) o.plays s) (zjC w p c l (w.Coins.length-i) i) s).map fun s=>((),s)) (by omega)
  (fun m s=>by simp [zaU,zcJ,zjC,zs6])
  (fun m i s hi hrec=>by
   obtain ⟨d,hd⟩:∃d,w.Coins.length-i=d+1:=⟨w.Coins.length-i-1,by omega⟩
   have hd':w.Coins.length-(i+1)=d:=by omega
   simp only [hd'] at hrec
   simp only [zaU,zcJ,hd,zjC]
   rw [if_pos (by simp;omega),show ([l.getD 0 0,l.getD 1 0,l.getD 2 0,l.getD 3 0]:List Int)=zsC l from rfl,ziv (by omega),zaa]
   by_cases e:l.getD i 0=0
   ·rw [if_pos (by simpa using e),if_pos e]
    simp only [zbf,List.nil_append]
    exact hrec s
   ·rw [if_neg (by simpa using e),if_neg e]
    rw [show (⟨⟨l.getD 0 0,l.getD 1 0,l.getD 2 0,l.getD 3 0⟩,(spot l p c).place,(spot l p c).credit⟩:Spot_)=spot l p c from rfl,zuY h hn hp hp' hc hc2 hl hi,zaa]
    unfold zuX
    simp only [List.cons_append,zs6]
    show Option.bind (aF (zif w p c i).acts _ _ s) _=_
    rw [show (zif w p c i).k=i from rfl]
    cases hF:aF (zif w p c i).acts (spot (zcB l i) (zif w p c i).p (zif w p c i).c) (zif w p c i).plays s with
    | none=>rfl
    | some r =>
     simp only [zaa]
     cases hr:r.1 with
     | false=>simp
     | true =>
      simp only [Bool.not_true,Bool.false_eq_true,if_false,if_true]
      have skip:za4 n (zaU n (⟨w⟩,b) (spot l p c) aF m) (⟨w⟩,b) (spot l p c) aF (l.getD 0 0) (l.getD 1 0) (l.getD 2 0) (l.getD 3 0) (i:Int) r true=(zs6 (fun o s=>aF o.acts (spot (zcB l o.k) o.p o.c) o.plays s) (zjC w p c l d (i+1)) r.2).map fun s=>((),s):=by
       unfold za4 zbf
       rw [if_pos rfl]
       exact hrec r.2
      have go:c≠0->za4 n (zaU n (⟨w⟩,b) (spot l p c) aF m) (⟨w⟩,b) (spot l p c) aF (l.getD 0 0) (l.getD 1 0) (l.getD 2 0) (l.getD 3 0) (i:Int) r false=(zs6 (fun o s=>aF o.acts (spot (zcB l o.k) o.p o.c) o.plays s) (zj6 w c i::zjC w p c l d (i+1)) r.2).map fun s=>((),s):=by
       intro hc0
       unfold za4 zbf
       rw [if_neg (by simp)]
       rw [show (⟨⟨l.getD 0 0,l.getD 1 0,l.getD 2 0,l.getD 3 0⟩,(spot l p c).place,(spot l p c).credit⟩:Spot_)=spot l p c from rfl,zuZ h hn hc hc2 hl hi,zaa]
       simp only [zs6]
       show Option.bind (aF (zj6 w c i).acts _ _ r.2) _=_
       rw [show (zj6 w c i).k=i from rfl]
       cases hF2:aF (zj6 w c i).acts (spot (zcB l i) (zj6 w c i).p (zj6 w c i).c) (zj6 w c i).plays r.2 with
       | none=>rfl
       | some r2 =>
        simp only [zaa]
        cases hr2:r2.1 with
        | false=>simp
        | true =>
         simp only [Bool.not_true,Bool.false_eq_true,if_false,if_true]
         exact hrec r2.2
      show (if (c==0)=true then _ else za4 n _ _ _ aF _ _ _ _ _ r (p==0))=_
      by_cases e1:c=0
      ·rw [if_pos (by simpa using e1),if_pos (.inl e1)]
       exact skip
      ·rw [if_neg (by simpa using e1)]
       by_cases e2:p=0
       ·rw [if_pos (.inr e2),show (p==0)=true by simpa using e2]
        exact skip
       ·rw [if_neg (by simp [e1,e2]),show (p==0)=false by simpa using e2]
        exact go e1)
  w.Coins.length 0 n st (by omega) (by omega) (by omega)
 rw [Nat.sub_zero,←hl.len] at key
 exact key
def zmR (b:Bool) (w:Wheel) (M:List (Spot_×Int)):Prop :=
 (M.map (·.1)).Nodup/\∀e,e∈M->∃l p c,e.1=spot l p c/\OkP w l/\(0<=p/\p<w.Round)/\(0<=c/\c<1099511627776)/\e.2=Q b w (total l).toNat p c l
theorem zmR.nil (b:Bool) (w:Wheel):zmR b w []:=⟨by simp,fun e h=>by simp at h⟩
theorem zgw {x:Int} (h1:-9223372036854775808<=x) (h2:x<9223372036854775808):okI x=true:=by
 simp only [okI,Lit.wf,IntKind.min,IntKind.max,IntKind.signed,IntKind.bits]
 simp
 omega
theorem znO {w:Wheel} (h:OkW w) {l:List Int} (hl:OkP w l) {p c:Int} (hp:0<=p) (hp':p<w.Round) (hc:0<=c) (hc2:c<1099511627776):zg7 (spot l p c)=true:=by
 have hr:=h.r2
 have ht:=hl.tot
 have g:=zfF hl.nn
 have g0:=g 0
 have g1:=g 1
 have g2:=g 2
 have g3:=g 3
 simp only [zg7,spot,zb5,List.all_cons,List.all_nil,Bool.and_true,Bool.and_eq_true]
 exact ⟨zgw (by omega) (by omega),zgw (by omega) (by omega),zgw (by omega) (by omega),zgw (by omega) (by omega),zgw (by omega) (by omega),zgw (by omega) (by omega)⟩
theorem zmR.mok {b:Bool} {w:Wheel} {M:List (Spot_×Int)} (hM:zmR b w M) (h:OkW w) {l:List Int} (hl:OkP w l) {p c:Int} (hp:0<=p) (hp':p<w.Round) (hc:0<=c) (hc2:c<1099511627776):mok zg7 M (spot l p c)=true:=by
 unfold Go.AM.mok
 rw [znO h hl hp hp' hc hc2,show M.all (fun p=>zg7 p.1)=true from List.all_eq_true.2 fun e he=>?_,show decide ((M.map (·.1)).Nodup)=true by simpa using hM.1]
 ·rfl
 ·obtain ⟨l',p',c',e1,e2,e3,e4,_⟩:=hM.2 e he
  rw [e1]
  exact znO h e2 e3.1 e3.2 e4.1 e4.2
theorem zmR.get {b:Bool} {w:Wheel} {M:List (Spot_×Int)} (hM:zmR b w M) (h:OkW w) {l:List Int} (hl:OkP w l) {p c:Int} (hk:zbv M (spot l p c)=true):zor M (spot l p c)=Q b w (total l).toNat p c l:=by
 obtain ⟨l',p',c',e1,e2,e3,e4,e5⟩:=hM.2 _ (zpL hk)
 simp only [spot,Spot_.mk.injEq] at e1
 obtain ⟨q1,q2,q3⟩:=e1
 have e:l=l':=zmP q1 (by rw [hl.len,e2.len]) (by rw [hl.len];exact h.clen)
 subst e q2 q3
 exact e5
theorem zmR.set {b:Bool} {w:Wheel} {M:List (Spot_×Int)} (hM:zmR b w M) {l:List Int} (hl:OkP w l) {p c:Int} (hp:0<=p) (hp':p<w.Round) (hc:0<=c) (hc2:c<1099511627776):zmR b w (zgh M (spot l p c) (Q b w (total l).toNat p c l)):=by
 refine ⟨zqX hM.1,fun e he=>?_⟩
 rcases zpM he with rfl | he
 ·exact ⟨l,p,c,rfl,hl,⟨hp,hp'⟩,⟨hc,hc2⟩,rfl⟩
 ·exact hM.2 e he
theorem zsH (b:Bool) (x y:Int):zhB b x y=some (cond b (decide (x>y)) (decide (x<y))):=by cases b<;>rfl
theorem znP {n:Nat} {b:Bool} {w:Wheel} {l:List Int} {T:Nat}
  (rec:∀o,OkO w 2000 l o->∀M,zmR b w M->∃M',zbd n (⟨w⟩,b) (spot (zcB l o.k) o.p o.c) M=some (Q b w T o.p o.c (zcB l o.k),M')/\zmR b w M')
  (hq:∀o,OkO w 2000 l o->0<=Q b w T o.p o.c (zcB l o.k)/\Q b w T o.p o.c (zcB l o.k)<=1000000) :
  ∀(os:List Opn),(∀o,o∈os->OkO w 2000 l o)->∀(f:Bool) (m:Int) (M:List (Spot_×Int)),zmR b w M ->
   ∃M',zs6 (fun o s=>zbX (zbd n) o.acts (spot (zcB l o.k) o.p o.c) o.plays (⟨w⟩,b) s) os (f,m,M) =
    some ((((os.map fun o=>o.plays+Q b w T o.p o.c (zcB l o.k)).foldl (zgV b) (f,m)).1),(((os.map fun o=>o.plays+Q b w T o.p o.c (zcB l o.k)).foldl (zgV b) (f,m)).2),M')/\zmR b w M'
 | [],_,f,m,M,hM=>⟨M,rfl,hM⟩
 | o::os,ho,f,m,M,hM=>by
  have ok:=ho o (by simp)
  obtain ⟨M1,h1,h2⟩:=rec o ok M hM
  have hr:=hq o ok
  have y0:=ok.y0
  have y1:=ok.y1
  have step:zbX (zbd n) o.acts (spot (zcB l o.k) o.p o.c) o.plays (⟨w⟩,b) (f,m,M)=some (true,(zgV b (f,m) (o.plays+Q b w T o.p o.c (zcB l o.k))).1,(zgV b (f,m) (o.plays+Q b w T o.p o.c (zcB l o.k))).2,M1):=by
   unfold zbX
   simp only []
   rw [h1,zaa]
   simp only [zbT,zbS]
   rw [zaP (by omega) (by omega),zsH,zaa]
   unfold zgV
   cases f with
   | true=>simp
   | false =>
    simp only [Bool.false_eq_true,false_or,if_false]
    cases hb:cond b (decide (o.plays+Q b w T o.p o.c (zcB l o.k)>m)) (decide (o.plays+Q b w T o.p o.c (zcB l o.k)<m))<;>simp
  obtain ⟨M2,h3,h4⟩:=znP rec hq os (fun o' h'=>ho o' (by simp [h'])) (zgV b (f,m) (o.plays+Q b w T o.p o.c (zcB l o.k))).1 (zgV b (f,m) (o.plays+Q b w T o.p o.c (zcB l o.k))).2 M1 h2
  refine ⟨M2,?_,h4⟩
  simp only [zs6,step,zaa,if_true,h3,List.map_cons,List.foldl_cons]
theorem znQ {l:List Int} (h4:l.length<=4):l.getD 0 0+l.getD 1 0+l.getD 2 0+l.getD 3 0=total l:=by
 match l,h4 with
 | [],_=>rfl
 | [a],_=>simp [total]
 | [a,b],_=>simp [total]
 | [a,b,c],_=>simp [total];omega
 | [a,b,c,d],_=>simp [total];omega
theorem zpO {n:Nat} (rec:(Wheel_×Bool)->Spot_->(List (Spot_×Int))->Option (Int×(List (Spot_×Int)))) (a0:Wheel_×Bool) {l:List Int} (h4:l.length<=4) (hnn:∀x,x∈l->0<=x) (ht:total l<=1000) (p c:Int) (M:List (Spot_×Int)) (hn:10<=n) :
  zcf n rec a0 (spot l p c) M=zbZ n rec a0 (spot l p c) M (total l) (l.getD 0 0) (l.getD 1 0) (l.getD 2 0) (l.getD 3 0):=by
 have g:=zfF hnn
 have g0:=g 0
 have g1:=g 1
 have g2:=g 2
 have g3:=g 3
 have hb:=znQ h4
 obtain ⟨m,rfl⟩:∃m,n=m+5:=⟨n-5,by omega⟩
 unfold zcf
 simp only [zcy,zdx]
 have e1:w64 (0+1)=1:=rfl
 have e2:w64 (1+1)=2:=rfl
 have e3:w64 (2+1)=3:=rfl
 have e4:w64 (3+1)=4:=rfl
 have i0:idx ([(spot l p c).left.c0,(spot l p c).left.c1,(spot l p c).left.c2,(spot l p c).left.c3]:List Int) 0=some (l.getD 0 0):=rfl
 have i1:idx ([(spot l p c).left.c0,(spot l p c).left.c1,(spot l p c).left.c2,(spot l p c).left.c3]:List Int) 1=some (l.getD 1 0):=rfl
 have i2:idx ([(spot l p c).left.c0,(spot l p c).left.c1,(spot l p c).left.c2,(spot l p c).left.c3]:List Int) 2=some (l.getD 2 0):=rfl
 have i3:idx ([(spot l p c).left.c0,(spot l p c).left.c1,(spot l p c).left.c2,(spot l p c).left.c3]:List Int) 3=some (l.getD 3 0):=rfl
 rw [if_pos (by decide),i0,zaa,e1,zaP (x:=0+_) (by omega) (by omega)]
 rw [if_pos (by decide),i1,zaa,e2,zaP (x:=0+l.getD 0 0+_) (by omega) (by omega)]
 rw [if_pos (by decide),i2,zaa,e3,zaP (x:=0+l.getD 0 0+l.getD 1 0+_) (by omega) (by omega)]
 rw [if_pos (by decide),i3,zaa,e4,zaP (x:=0+l.getD 0 0+l.getD 1 0+l.getD 2 0+_) (by omega) (by omega)]
 rw [if_neg (by decide),show 0+l.getD 0 0+l.getD 1 0+l.getD 2 0+l.getD 3 0=total l by omega]
 rfl
theorem zu1 {b:Bool} {w:Wheel} (h:OkW w):∀(T n:Nat) (p c:Int) (l:List Int) (M:List (Spot_×Int)),(T:Int)=total l->T+300<=n->OkP w l->0<=p->p<w.Round->0<=c->c<1099511627776->zmR b w M ->
  ∃M',zbd n (⟨w⟩,b) (spot l p c) M=some (Q b w T p c l,M')/\zmR b w M':=by
 intro T
 induction T with
 | zero =>
  intro n p c l M hT hn hl hp hp' hc hc2 hM
  obtain ⟨n,rfl⟩:∃m,n=m+1:=⟨n-1,by omega⟩
  have h4:l.length<=4:=by rw [hl.len];exact h.clen
  refine ⟨M,?_,hM⟩
  show zcf n _ _ _ _=_
  rw [zpO _ _ h4 hl.nn hl.tot p c M (by omega)]
  unfold zbZ
  have e0:total l=0:=by omega
  rw [show (⟨⟨l.getD 0 0,l.getD 1 0,l.getD 2 0,l.getD 3 0⟩,(spot l p c).place,min (spot l p c).credit (total l)⟩:Spot_)=spot l p (min c (total l)) from rfl]
  unfold zrF
  rw [if_pos (hM.mok h hl hp hp' (by omega) (by omega)),zaa]
  have hv:zor M (spot l p (min c (total l)))=0:=by
   cases hh:zbv M (spot l p (min c (total l))) with
   | true =>
    rw [hM.get h hl hh,e0]
    rfl
   | false=>exact zsB hh
  rw [hv,e0]
  unfold zbY
  simp [Q]
 | succ T ih =>
  intro n p c l M hT hn hl hp hp' hc hc2 hM
  obtain ⟨n,rfl⟩:∃m,n=m+1:=⟨n-1,by omega⟩
  have h4:l.length<=4:=by rw [hl.len];exact h.clen
  have htot:=hl.tot
  have hc':0<=min c (total l)/\min c (total l)<=total l:=by omega
  have hT2:(total l).toNat=T+1:=by omega
  have hQ:Q b w (T+1) p (min c (total l)) l=Q b w (T+1) p c l:=by
   rw [←hT]
   exact zAU b h hp hp' hl
  show ∃M',zcf n _ _ _ _=_/\_
  rw [zpO _ _ h4 hl.nn hl.tot p c M (by omega)]
  unfold zbZ zbY
  rw [show (⟨⟨l.getD 0 0,l.getD 1 0,l.getD 2 0,l.getD 3 0⟩,(spot l p c).place,min (spot l p c).credit (total l)⟩:Spot_)=spot l p (min c (total l)) from rfl]
  unfold zrF
  rw [if_pos (hM.mok h hl hp hp' (by omega) (by omega)),zaa]
  cases hh:zbv M (spot l p (min c (total l))) with
  | true =>
   refine ⟨M,?_,hM⟩
   rw [if_pos rfl,if_pos rfl,hM.get h hl hh,hT2,hQ]
  | false =>
   rw [if_neg (by simp),show (total l==0)=false by simp;omega,if_neg (by simp)]
   rw [zu0 h (by omega) hp hp' hc'.1 (by omega) hl b]
   have hok:∀o,o∈zjC w p (min c (total l)) l l.length 0->OkO w 2000 l o:=fun o ho=>by
    have:=zmQ h hp hp' hc'.1 hl ho
    exact ⟨this.k,this.nz,this.p0,this.p1,this.c0,by have:=this.c1;omega,this.y0,this.y1⟩
   obtain ⟨M1,h1,h2⟩:=znP (n:=n) (b:=b) (w:=w) (l:=l) (T:=T)
    (fun o ok M0 hM0=>ih n o.p o.c (zcB l o.k) M0 (by rw [ze5 (by rw [hl.len];exact ok.k)];omega) (by omega) (hl.less ok.k ok.nz) ok.p0 ok.p1 ok.c0 (by have:=ok.c1;omega) hM0)
    (fun o ok=>by
     have:=zsE b h T ok.p0 ok.p1 ok.c0 (hl.less ok.k ok.nz)
     omega)
    _ hok true 0 M hM
   rw [h1,Option.map_some,zaa]
   simp only []
   unfold zhA
   rw [if_pos (h2.mok h hl hp hp' (by omega) (by omega)),zaa]
   have hset:=h2.set hl hp hp' hc'.1 (show min c (total l)<1099511627776 by omega)
   rw [hT2] at hset
   have hval':(((zjC w p (min c (total l)) l l.length 0).map fun o=>o.plays+Q b w T o.p o.c (zcB l o.k)).foldl (zgV b) (true,0)).2=Q b w (T+1) p (min c (total l)) l:=rfl
   rw [hval']
   exact ⟨_,by rw [hQ],hQ▸hset⟩
def zjh (w:Wheel) (p c:Int) (l:List Int):Nat->Nat->List Opn
 | 0,_=>[]
 | d+1,k=>(if l.getD k 0=0 then [] else [zif w p c k])++zjh w p c l d (k+1)
theorem zgc {w:Wheel} {p c:Int} {l:List Int} {o:Opn}:∀{d k:Nat},o∈zjh w p c l d k↔∃j,k<=j/\j<k+d/\l.getD j 0≠0/\o=zif w p c j
 | 0,k=>by
  simp only [zjh,List.not_mem_nil,false_iff]
  rintro ⟨j,h1,h2,_⟩
  omega
 | d+1,k=>by
  simp only [zjh,List.mem_append]
  rw [zgc]
  constructor
  ·rintro (h | ⟨j,h1,h2,h3,h4⟩)
   ·split at h
    ·simp at h
    ·rename_i h0
     exact ⟨k,Nat.le_refl k,by omega,h0,by simpa using h⟩
   ·exact ⟨j,by omega,by omega,h3,h4⟩
  ·rintro ⟨j,h1,h2,h3,h4⟩
   by_cases e:j=k
   ·subst e
    exact .inl (by rw [if_neg h3];simpa using h4)
   ·exact .inr ⟨j,by omega,by omega,h3,h4⟩
theorem zui (w:Wheel) (c:Int) (l:List Int):∀d k,zjC w 0 c l d k=zjh w 0 c l d k
 | 0,k=>rfl
 | d+1,k=>by
  simp only [zjC,zjh,zui w c l d (k+1)]
  congr 1
  split
  ·rfl
  ·unfold zuX
   rw [if_pos (.inr rfl)]
def zpP (b:Bool) (w:Wheel) (T:Nat) (l:List Int) (o:Opn):Int:=o.plays+Q b w T o.p o.c (zcB l o.k)
def zu2 (b:Bool) (x y:Int):Int:=cond b (max x y) (min x y)
theorem zpQ (b:Bool) (x y:Int):leB b x (zu2 b x y)/\leB b y (zu2 b x y)/\(zu2 b x y=x\/zu2 b x y=y):=by
 cases b
 ·simp only [leB,zu2,cond_false];omega
 ·simp only [leB,zu2,cond_true];omega
theorem zu3 (b:Bool) (w:Wheel) (T:Nat) (p c:Int) (l:List Int) (hc:c≠0) (hp:p≠0) (ht:total l≠0) :
  Q b w (T+1) p c l=zu2 b (pick b ((zjh w p c l l.length 0).map (zpP b w T l))) (Q b w (T+1) 0 (c-1) l):=by
 have h0:Q b w (T+1) 0 (c-1) l=pick b ((zjh w 0 (c-1) l l.length 0).map (zpP b w T l)):=by
  simp only [Q,zui]
  rfl
 rw [h0]
 obtain ⟨j,h1,h2,_⟩:=zsD (w:=w) (p:=p) (c:=c) ht
 have e1:(zjh w p c l l.length 0).map (zpP b w T l)≠[]:=by
  intro e
  have:=List.mem_map_of_mem (f:=zpP b w T l) (zgc.2 ⟨j,by omega,by omega,h2,rfl⟩:zif w p c j∈zjh w p c l l.length 0)
  rw [e] at this
  simp at this
 have e2:(zjh w 0 (c-1) l l.length 0).map (zpP b w T l)≠[]:=by
  intro e
  have:=List.mem_map_of_mem (f:=zpP b w T l) (zgc.2 ⟨j,by omega,by omega,h2,rfl⟩:zif w 0 (c-1) j∈zjh w 0 (c-1) l l.length 0)
  rw [e] at this
  simp at this
 obtain ⟨a1,a2⟩:=zgW b e1
 obtain ⟨b1,b2⟩:=zgW b e2
 obtain ⟨m1,m2,m3⟩:=zpQ b (pick b ((zjh w p c l l.length 0).map (zpP b w T l))) (pick b ((zjh w 0 (c-1) l l.length 0).map (zpP b w T l)))
 have vs:∀j,zpP b w T l (zj6 w c j)=zpP b w T l (zif w 0 (c-1) j):=fun j=>rfl
 simp only [Q]
 refine zuW b ?_ ?_
 ·show _∈(zjC w p c l l.length 0).map (zpP b w T l)
  rw [List.mem_map]
  rcases m3 with m3 | m3
  ·rw [m3]
   obtain ⟨o,ho,he⟩:=List.mem_map.1 a1
   obtain ⟨j,q1,q2,q3,rfl⟩:=zgc.1 ho
   exact ⟨_,zeS.2 ⟨j,q1,q2,q3,zfj.2 (.inl rfl)⟩,he⟩
  ·rw [m3]
   obtain ⟨o,ho,he⟩:=List.mem_map.1 b1
   obtain ⟨j,q1,q2,q3,rfl⟩:=zgc.1 ho
   exact ⟨zj6 w c j,zeS.2 ⟨j,q1,q2,q3,zfj.2 (.inr ⟨hc,hp,rfl⟩)⟩,by rw [vs];exact he⟩
 ·intro v hv
  obtain ⟨o,ho,he⟩:=List.mem_map.1 hv
  obtain ⟨j,q1,q2,q3,q4⟩:=zeS.1 ho
  rw [←he]
  rcases zfj.1 q4 with rfl | ⟨_,_,rfl⟩
  ·exact (a2 _ (List.mem_map_of_mem (f:=zpP b w T l) (zgc.2 ⟨j,q1,q2,q3,rfl⟩))).trans m1
  ·refine leB.trans ?_ m2
   show leB b (zpP b w T l (zj6 w c j)) _
   rw [vs]
   exact b2 _ (List.mem_map_of_mem (f:=zpP b w T l) (zgc.2 ⟨j,q1,q2,q3,rfl⟩))
def zbj (w:Wheel) (l:List Int):Bool:=decide (l.length=w.Coins.length)&&l.all (fun x=>inR x 0 12)&&decide (total l<=12)
theorem zpR {w:Wheel} {l:List Int} (h:zbj w l=true):OkP w l/\total l<=12:=by
 simp only [zbj,Bool.and_eq_true,decide_eq_true_eq,List.all_eq_true] at h
 exact ⟨⟨h.1.1,fun x hx=>(zbW.1 (h.1.2 x hx)).1,by omega⟩,h.2⟩
theorem zjD {n:Nat} {w:Wheel} (hw:w.Coins.length<100000) (hn:w.Coins.length<n) (l:List Int):zdU n w l=some (zbj w l):=by
 unfold zdU zbj
 by_cases hl:l.length=w.Coins.length
 ·rw [if_neg (by simp;omega)]
  have key:=zqS (F:=fun m i (s:Int)=>zb2 l m s i) (xs:=l) (spec:=fun k s=>some (k.all (fun x=>inR x 0 12)&&decide (s+total k<=12))) (I:=fun k s=>0<=s/\s+12*k.length<=100000000) (by omega)
   (fun m s hI=>by simp [zb2,zdy,zee,total])
   (fun m i x k s hI hx hi _ _ hrec=>by
    simp only [List.length_cons] at hI
    simp only [zb2,zdy]
    rw [if_pos (by simpa using hi),hx,zaa,zhM,zaa,zaa]
    by_cases q:inR x 0 12=true
    ·have:=zbW.1 q
     rw [if_neg (by simp [q]),zaP (x:=s+x) (by omega) (by omega),hrec (s+x) ⟨by omega,by omega⟩]
     have e:s+total (x::k)=s+x+total k:=by simp only [total];omega
     rw [e]
     simp only [List.all_cons,q,Bool.true_and]
    ·rw [if_pos (by simpa using q)]
     simp [q])
   l 0 n 0 (by omega) rfl (by omega) ⟨by omega,by omega⟩
  rw [show zb2 l n 0 0=_ from key]
  simp [hl]
 ·rw [if_pos (by simp;omega)]
  simp [hl]
theorem zpS:∀{l:List Int},(∀x,x∈l->0<=x/\x<=12)->total l<=12*l.length
 | [],_=>by simp [total]
 | x::l,h=>by
  have h1:=h x (by simp)
  have h2:=zpS (l:=l) (fun y hy=>h y (by simp [hy]))
  simp only [total,List.length_cons]
  omega
theorem zjV:∀(a b:List Int),total (a++b)=total a+total b
 | [],b=>by simp [total]
 | x::a,b=>by
  simp only [List.cons_append,total]
  rw [zjV a b]
  omega
theorem zu4 {n:Nat} {w:Wheel} (h:OkW w) (hn:100<=n) (l:List Int) (hl:l.length<100000) (hn2:l.length<n):∃st,zdi n ⟨w⟩ l (spot [] 0 0)=some (zbj w l,st)/\(zbj w l=true->st=spot l 0 0):=by
 have h4:=h.clen
 have key:∀(k pre:List Int) (m:Nat) (s:Int),l=pre++k->k.length<m->pre.length<=w.Coins.length->s=total pre->(∀x,x∈pre->0<=x/\x<=12) ->
   ∃st,zbD ⟨w⟩ (spot [] 0 0) l m s (pre.length:Int) (pre.getD 0 0) (pre.getD 1 0) (pre.getD 2 0) (pre.getD 3 0)=some (zbj w l,st)/\(zbj w l=true->st=spot l 0 0):=by
  intro k
  induction k with
  | nil =>
   intro pre m s he hm hpl hs hx
   obtain ⟨m,rfl⟩:∃q,m=q+1:=⟨m-1,by omega⟩
   rw [List.append_nil] at he
   subst he
   have hall:l.all (fun x=>inR x 0 12)=true:=List.all_eq_true.2 fun x hx'=>zbW.2 (hx x hx')
   simp only [zbD,zdC]
   rw [if_neg (by simp)]
   unfold zei zdp zbj
   rw [hall]
   by_cases e:l.length=w.Coins.length
   ·rw [if_pos (by simp;omega)]
    exact ⟨spot l 0 0,by simp [e,hs];rfl,fun _=>rfl⟩
   ·rw [if_neg (by simp;omega)]
    exact ⟨spot l 0 0,by simp [e];rfl,fun q=>by simp [e] at q⟩
  | cons x k ih =>
   intro pre m s he hm hpl hs hx
   obtain ⟨m,rfl⟩:∃q,m=q+1:=⟨m-1,by omega⟩
   simp only [List.length_cons] at hm
   have hlen:l.length=pre.length+(k.length+1):=by rw [he];simp
   have hxi:idx l (pre.length:Int)=some x:=by rw [he,zmD]
   simp only [zbD,zdC]
   rw [if_pos (by simp;omega),hxi,zaa]
   by_cases e:pre.length≥w.Coins.length
   ·rw [if_pos (by simp;omega)]
    unfold zcN
    rw [if_pos rfl]
    have hf:zbj w l=false:=by
     unfold zbj
     rw [show decide (l.length=w.Coins.length)=false by simp;omega]
     rfl
    rw [hf]
    exact ⟨_,rfl,fun q=>by cases q⟩
   ·rw [if_neg (by simp;omega),zgU,zaa]
    unfold zcN
    by_cases q:inR x 0 12=true
    ·have hxr:=zbW.1 q
     have hb:=zdE (l:=pre) (fun y hy=>(hx y hy).1)
     have hb2:=zpS hx
     rw [if_neg (by simp [q])]
     have hset:zqm ([pre.getD 0 0,pre.getD 1 0,pre.getD 2 0,pre.getD 3 0]:List Int) (pre.length:Int) x=some (zsC (pre++[x])):=by
      match pre,(show pre.length<4 by omega) with
      | [],_=>rfl
      | [a],_=>rfl
      | [a,b],_=>rfl
      | [a,b,c],_=>rfl
     have hidx:∃y,idx ([pre.getD 0 0,pre.getD 1 0,pre.getD 2 0,pre.getD 3 0]:List Int) (pre.length:Int)=some y:=⟨_,zcL (by simp;omega)⟩
     obtain ⟨y,hy⟩:=hidx
     rw [hy,zaa,hset,zaa,zaP (x:=s+x) (by omega) (by omega),zaP (x:=(pre.length:Int)+1) (by omega) (by omega)]
     have:=ih (pre++[x]) m (s+x) (by simp [he]) (by omega) (by simp;omega) (by
      rw [hs,zjV]
      simp [total]) (fun z hz=>by
      rcases List.mem_append.1 hz with hz | hz
      ·exact hx z hz
      ·simp only [List.mem_singleton] at hz
       subst hz
       exact hxr)
     rw [show (((pre++[x]).length:Nat):Int)=(pre.length:Int)+1 by simp] at this
     exact this
    ·rw [if_pos (by simpa using q)]
     have hf:zbj w l=false:=by
      unfold zbj
      have:l.all (fun x=>inR x 0 12)=false:=by
       rw [he,List.all_append,List.all_cons,show inR x 0 12=false by simpa using q]
       simp
      rw [this]
      simp
     rw [hf]
     exact ⟨_,rfl,fun q=>by cases q⟩
 exact key l [] n 0 rfl hn2 (by simp) rfl (fun x hx=>by simp at hx)
theorem zpT {S:Type} {n:Nat} {w:Wheel} (hl:zj5 n w) (aF:Wheel_->S->Option (Bool×S)) (s s':S) (b:Bool) (ha:valid w=true->aF ⟨w⟩ s=some (b,s')) :
  ∃s0,zeZ n aF w s=some (cond (valid w) (cond b (((⟨w⟩:Wheel_),0),s') ((zw,1),s')) ((zw,10),s0))/\(valid w=true->s0=s0):=by
 unfold zeZ
 rw [zmL hl,zaa]
 cases hv:valid w with
 | false=>exact ⟨s,rfl,fun _=>rfl⟩
 | true =>
  rw [ha hv]
  cases b<;>exact ⟨s,rfl,fun _=>rfl⟩
theorem zsI {n:Nat} {w:Wheel} (hw:zj5 n w) (hn:100<=n) (l:List Int) (hl:l.length<100000) (hn2:l.length<n) (b:Bool) :
  zfQ n w l b=some (if valid w=true then (if zbj w l=true then (some ⟨w⟩,spot l 0 0,0) else (none,spot [] 0 0,1)) else (none,spot [] 0 0,10)):=by
 unfold zfQ
 by_cases hv:valid w=true
 ·have h:=zeR hv
  obtain ⟨st,h1,h2⟩:=zu4 h hn l hl hn2
  obtain ⟨s0,h3,_⟩:=zpT hw (fun (x0:Wheel_) s=>zdi n x0 l s) (spot [] 0 0) st (zbj w l) (fun _=>h1)
  rw [show (⟨⟨0,0,0,0⟩,0,0⟩:Spot_)=spot [] 0 0 from rfl,h3,zaa,hv]
  cases hp:zbj w l with
  | true=>simp [h2 hp]
  | false=>simp
 ·have hv':valid w=false:=by simpa using hv
  obtain ⟨s0,h3,_⟩:=zpT hw (fun (x0:Wheel_) s=>zdi n x0 l s) (spot [] 0 0) (spot [] 0 0) true (fun q=>by rw [hv'] at q;cases q)
  rw [show (⟨⟨0,0,0,0⟩,0,0⟩:Spot_)=spot [] 0 0 from rfl,h3,zaa,hv']
  simp
def zqZ (b:Bool) (w:Wheel) (l:List Int):Int×Int :=
 if valid w=true then (if zbj w l=true then (Q b w (total l).toNat 0 0 l,0) else (0,1)) else (0,10)
theorem zl8 {n:Nat} {b:Bool} {w:Wheel} (h:OkW w) (hn:400<=n) {l:List Int} (hp:zbj w l=true) {M:List (Spot_×Int)} (hM:zmR b w M):∃M',zbd n (⟨w⟩,b) (spot l 0 0) M=some (Q b w (total l).toNat 0 0 l,M')/\zmR b w M':=by
 obtain ⟨hl,h12⟩:=zpR hp
 have:=zdE hl.nn
 have:=h.r1
 exact zu1 h (total l).toNat n 0 0 l M (by omega) (by omega) hl (by omega) (by omega) (by omega) (by omega) hM
theorem zu5 {n:Nat} {w:Wheel} (hw:zj5 n w) (hn:400<=n) (l:List Int) (hl:l.length<100000) (hn2:l.length<n):zgJ n w l=some (zqZ true w l):=by
 unfold zgJ zqZ
 rw [zsI hw (by omega) l hl hn2,zaa]
 by_cases hv:valid w=true
 ·rw [if_pos hv,if_pos hv]
  by_cases hp:zbj w l=true
  ·obtain ⟨M',h1,_⟩:=zl8 (zeR hv) hn hp (zmR.nil true w)
   rw [if_pos hp,if_pos hp]
   simp only [Option.isSome_some,if_true,zaa,bne_self_eq_false,Bool.false_eq_true,if_false]
   rw [h1,zaa]
  ·rw [if_neg hp,if_neg hp]
   rfl
 ·rw [if_neg hv,if_neg hv]
  rfl
theorem ztR {n:Nat} {w:Wheel} (hw:zj5 n w) (hn:400<=n) (l:List Int) (hl:l.length<100000) (hn2:l.length<n):zf5 n w l=some (zqZ false w l):=by
 unfold zf5 zqZ
 rw [zsI hw (by omega) l hl hn2,zaa]
 by_cases hv:valid w=true
 ·rw [if_pos hv,if_pos hv]
  by_cases hp:zbj w l=true
  ·obtain ⟨M',h1,_⟩:=zl8 (zeR hv) hn hp (zmR.nil false w)
   rw [if_pos hp,if_pos hp]
   simp only [Option.isSome_some,if_true,zaa,bne_self_eq_false,Bool.false_eq_true,if_false]
   rw [h1,zaa]
  ·rw [if_neg hp,if_neg hp]
   rfl
 ·rw [if_neg hv,if_neg hv]
  rfl
def zd5 (w:Wheel):Stand->List Int->Int
 | _,[]=>0
 | s,a::l=>(if 0<=a then (turn w s.Place (coin w a)).2 else 0)+zd5 w (zhh w s a).1 l
def cnt (k:Int):List Int->Int
 | []=>0
 | a::l=>(if a=k then 1 else 0)+cnt k l
theorem ze6 (k:Int):∀(a b:List Int),cnt k (a++b)=cnt k a+cnt k b
 | [],b=>by simp [cnt]
 | x::a,b=>by
  simp only [List.cons_append,cnt]
  rw [ze6 k a b]
  omega
structure Way (w:Wheel) (s:Stand) (l acts:List Int) (q:Int):Prop where
 ok:acts.all (zep w)=true
 len:(acts.length:Int)<=2*total l
 bag:∀k:Nat,k<w.Coins.length->cnt k acts=l.getD k 0
 buys:zd5 w s acts=q
theorem zjE {l:List Int} {k j:Nat} (hk:k<l.length):(zcB l k).getD j 0=l.getD j 0-(if k=j then 1 else 0):=by
 unfold zcB
 by_cases e:k=j
 ·subst e
  rw [if_pos rfl,List.getD_eq_getElem?_getD,List.getElem?_set_self hk]
  rfl
 ·rw [if_neg e,List.getD_eq_getElem?_getD,List.getElem?_set_ne e,←List.getD_eq_getElem?_getD]
  omega
theorem zmS {w:Wheel} {k:Nat} (h:k<w.Coins.length):zep w k=true:=zbW.2 ⟨by omega,by omega⟩
theorem zoR {w:Wheel}:zep w (-1)=true:=zbW.2 ⟨by omega,by omega⟩
theorem zsJ (w:Wheel) (p c:Int) (k:Nat):zhh w ⟨p,c⟩ (k:Int)=(⟨(zif w p c k).p,(zif w p c k).c⟩,false):=by
 unfold zhh
 rw [if_pos (by omega)]
 rfl
theorem zuj (w:Wheel) (p c:Int) (hc:c≠0):zhh w ⟨p,c⟩ (-1)=(⟨0,c-1⟩,true):=by
 unfold zhh
 rw [if_neg (by omega),if_neg hc]
theorem Way.step {w:Wheel} {p c:Int} {l acts:List Int} {q:Int} {o:Opn} (hl:OkP w l) (hc:0<=c) (ho:o∈zjC w p c l l.length 0) (h:Way w ⟨o.p,o.c⟩ (zcB l o.k) acts q):Way w ⟨p,c⟩ l (o.acts++acts) (o.plays+q):=by
 obtain ⟨j,_,h2,h3,h4⟩:=zeS.1 ho
 have hj:j<l.length:=by omega
 have hj':j<w.Coins.length:=by have:=hl.len;omega
 rcases zfj.1 h4 with rfl | ⟨h5,h6,rfl⟩
 ·refine ⟨?_,?_,fun k hk=>?_,?_⟩
  ·show List.all ([(j:Int)]++acts) (zep w)=true
   rw [List.singleton_append,List.all_cons,zmS hj',h.ok]
   rfl
  ·have:=h.len
   have e:=ze5 hj
   show ((([(j:Int)]++acts).length:Nat):Int)<=_
   rw [show (zif w p c j).k=j from rfl] at this
   simp
   omega
  ·show cnt k ((j:Int)::acts)=_
   simp only [cnt]
   rw [h.bag k hk,show (zif w p c j).k=j from rfl,zjE hj]
   by_cases e:j=k
   ·rw [if_pos (by omega),if_pos e];omega
   ·rw [if_neg (by omega),if_neg e];omega
  ·show zd5 w ⟨p,c⟩ ((j:Int)::acts)=_
   simp only [zd5]
   rw [if_pos (by omega),zsJ,h.buys]
   rfl
 ·refine ⟨?_,?_,fun k hk=>?_,?_⟩
  ·show List.all ([-1,(j:Int)]++acts) (zep w)=true
   rw [List.cons_append,List.singleton_append,List.all_cons,List.all_cons,zmS hj',zoR,h.ok]
   rfl
  ·have:=h.len
   have e:=ze5 hj
   show ((([-1,(j:Int)]++acts).length:Nat):Int)<=_
   rw [show (zj6 w c j).k=j from rfl] at this
   simp
   omega
  ·show cnt k (-1::(j:Int)::acts)=_
   simp only [cnt]
   rw [h.bag k hk,show (zj6 w c j).k=j from rfl,zjE hj,if_neg (by omega)]
   by_cases e:j=k
   ·rw [if_pos (by omega),if_pos e];omega
   ·rw [if_neg (by omega),if_neg e];omega
  ·show zd5 w ⟨p,c⟩ (-1::(j:Int)::acts)=_
   simp only [zd5]
   rw [if_neg (by omega),zuj w p c h5]
   simp only []
   rw [if_pos (by omega),zsJ]
   rw [show (⟨(zif w 0 (c-1) j).p,(zif w 0 (c-1) j).c⟩:Stand)=⟨(zj6 w c j).p,(zj6 w c j).c⟩ from rfl,h.buys]
   show 0+((turn w 0 (coin w j)).2+q)=(turn w 0 (coin w j)).2+q
   omega
theorem zuk {w:Wheel} {T:Nat} {p c:Int} {l:List Int} (b:Bool) (h0:total l≠0):∃o,o∈zjC w p c l l.length 0/\o.plays+Q b w T o.p o.c (zcB l o.k)=Q b w (T+1) p c l:=by
 obtain ⟨j,h1,h2,h3⟩:=zsD (w:=w) (p:=p) (c:=c) h0
 have e:((zjC w p c l l.length 0).map fun o=>o.plays+Q b w T o.p o.c (zcB l o.k))≠[]:=by
  intro e
  rw [List.map_eq_nil_iff] at e
  rw [e] at h3
  simp at h3
 obtain ⟨a1,_⟩:=zgW b e
 obtain ⟨o,ho,he⟩:=List.mem_map.1 a1
 exact ⟨o,ho,he⟩
theorem zAV {w:Wheel} {T:Nat} {p c:Int} {l:List Int} (b:Bool) {o:Opn} (ho:o∈zjC w p c l l.length 0):leB b (o.plays+Q b w T o.p o.c (zcB l o.k)) (Q b w (T+1) p c l):=by
 have hm:=List.mem_map_of_mem (f:=fun o:Opn=>o.plays+Q b w T o.p o.c (zcB l o.k)) ho
 have e:((zjC w p c l l.length 0).map fun o=>o.plays+Q b w T o.p o.c (zcB l o.k))≠[]:=by
  intro e
  rw [e] at hm
  simp at hm
 exact (zgW b e).2 _ hm
theorem zu6 (b:Bool) {w:Wheel} (h:OkW w):∀(T:Nat) {p c:Int} {l:List Int},(T:Int)=total l->OkP w l->0<=p->p<w.Round->0<=c->∃acts,Way w ⟨p,c⟩ l acts (Q b w T p c l)
 | 0,p,c,l,hT,hl,_,_,_=>⟨[],rfl,by simp;omega,fun k hk=>by rw [zqY hl.nn (by omega) k];rfl,rfl⟩
 | T+1,p,c,l,hT,hl,hp,hp',hc=>by
  obtain ⟨o,ho,he⟩:=zuk (w:=w) (T:=T) (p:=p) (c:=c) b (show total l≠0 by omega)
  have ok:=zmQ h hp hp' hc hl ho
  obtain ⟨acts,hw⟩:=zu6 b h T (p:=o.p) (c:=o.c) (l:=zcB l o.k) (by rw [ze5 (by rw [hl.len];exact ok.k)];omega) (hl.less ok.k ok.nz) ok.p0 ok.p1 ok.c0
  exact ⟨o.acts++acts,he▸hw.step hl hc ho⟩
def zgX (w:Wheel) (acts:List Int):List Int:=(List.range w.Coins.length).map fun (k:Nat)=>cnt (k:Int) acts
theorem znR (k:Int):∀l:List Int,0<=cnt k l/\cnt k l<=l.length
 | []=>by simp [cnt]
 | a::l=>by
  have:=znR k l
  simp only [cnt,List.length_cons]
  split<;>omega
theorem zyy {n:Nat} (rec1:List Int->Int->Option (List Int)) (acts v2:List Int) (v3:Int) (hl:acts.length<100000) (hn:acts.length<n):zcq rec1 acts v2 v3 n 0 0=zey rec1 v2 v3 (cnt v3 acts):=by
 have key:=zqS (F:=fun m i (s:Int)=>zcq rec1 acts v2 v3 m s i) (xs:=acts) (spec:=fun k s=>zey rec1 v2 v3 (s+cnt v3 k)) (I:=fun k s=>0<=s/\s+k.length<=1000000) (by omega)
  (fun m s hI=>by simp [zcq,zfd,cnt])
  (fun m i x k s hI hx hi _ _ hrec=>by
   simp only [List.length_cons] at hI
   simp only [zcq,zfd,zfp]
   rw [if_pos (by simpa using hi),hx,zaa]
   by_cases e:x=v3
   ·rw [if_pos (by simpa using e),zaP (x:=s+1) (by omega) (by omega),hrec (s+1) ⟨by omega,by omega⟩]
    simp only [cnt,if_pos e]
    rw [show s+1+cnt v3 k=s+(1+cnt v3 k) by omega]
   ·rw [if_neg (by simpa using e),hrec s ⟨by omega,by omega⟩]
    simp only [cnt,if_neg e]
    rw [show s+cnt v3 k=s+(0+cnt v3 k) by omega])
  acts 0 n 0 (by omega) rfl hn ⟨by omega,by omega⟩
 rw [show zcq rec1 acts v2 v3 n 0 0=_ from key,Int.zero_add]
theorem zyz {n:Nat} (w:Wheel) (acts:List Int) (hw:w.Coins.length<100000) (hn:w.Coins.length<n) (hl:acts.length<100000) (hn2:acts.length<n):ziM n w acts=some (zgX w acts):=by
 have key:=zyt (F:=fun m i (s:List Int)=>if s.length=i.toNat then zbe n w acts m s i else some (s++((List.range' i.toNat (w.Coins.length-i.toNat)).map fun (k:Nat)=>cnt (k:Int) acts))) (b:=w.Coins.length)
  (spec:=fun i s=>some (s++((List.range' i (w.Coins.length-i)).map fun (k:Nat)=>cnt (k:Int) acts))) (by omega)
  (fun m s=>by
   simp only [Int.toNat_natCast]
   split
   ·simp [zbe,zfe,zgp]
   ·rfl)
  (fun m i s hi hrec=>by
   simp only [Int.toNat_natCast] at hrec ⊢
   split
   ·rename_i hs
    obtain ⟨d,hd⟩:∃d,w.Coins.length-i=d+1:=⟨w.Coins.length-i-1,by omega⟩
    have hd':w.Coins.length-(i+1)=d:=by omega
    have e1:w64 ((i:Int)+1)=((i+1:Nat):Int):=by rw [zaP (by omega) (by omega)];simp
    have:=hrec (s++[cnt i acts])
    rw [e1] at this
    simp only [Int.toNat_natCast] at this
    rw [if_pos (by simp [hs])] at this
    simp only [zbe,zfe]
    rw [if_pos (by simp;omega),zyy _ _ _ _ hl hn2]
    simp only [zey,zgq]
    rw [zk1 (by simp;omega),zaa,e1,this,hd,hd',List.range'_succ]
    simp
   ·rfl)
  w.Coins.length 0 n [] (by omega) (by omega) (by omega)
 simp only [Int.toNat_natCast,List.length_nil,if_true,Nat.sub_zero,List.nil_append] at key
 unfold ziM zgX
 rw [List.range_eq_range']
 exact key
theorem zsK (w:Wheel) (acts:List Int) {k:Nat} (h:k<w.Coins.length):(zgX w acts).getD k 0=cnt k acts:=by
 simp [zgX,h]
theorem zu7 {n:Nat} {w:Wheel} (h:OkW w) (hn:200<=n) (acts:List Int) (hl:acts.length<=40) (ha:acts.all (zep w)=true):zhW n w acts=some (zd5 w ⟨0,0⟩ acts):=by
 have hr:=h.r1
 have key:=zqS (F:=fun m i (q:Int×Stand)=>zci n w acts m q.1 i q.2.Place q.2.Credit) (xs:=acts) (spec:=fun l q=>some (q.1+zd5 w q.2 l))
  (I:=fun l q=>(0<=q.1/\q.1+100*l.length<=100000)/\OkS w q.2 (5000-100*l.length)/\l.length<=40/\l.all (zep w)=true) (by omega)
  (fun m q hI=>by simp [zci,zeO,zfN,zd5])
  (fun m i x l q hI hx hi _ _ hrec=>by
   obtain ⟨i1,i2,i3,i4⟩:=hI
   simp only [List.length_cons,List.all_cons,Bool.and_eq_true] at i1 i2 i3 i4
   have hb:(5000-100*((l.length+1:Nat):Int))+100=5000-100*(l.length:Int):=by simp;omega
   have hok:=zoO h i2 i4.1
   rw [hb] at hok
   have hxr:=zbW.1 i4.1
   have e0:(⟨q.2.Place,q.2.Credit⟩:Stand)=q.2:=rfl
   simp only [zci,zeO]
   rw [if_pos (by simpa using hi),hx,zaa,e0,zyw h hn i2 (by omega) i4.1,zaa]
   simp only [zeN,zd5]
   have hdiff:∀y:Int,y=(if 0<=x then (turn w q.2.Place (coin w x)).2 else 0)->0<=y->y<=100 ->
     (if (zhh w q.2 x).2=true then w64 (w64 (q.1+w64 ((zhh w q.2 x).1.Credit-q.2.Credit))+1) else w64 (q.1+w64 ((zhh w q.2 x).1.Credit-q.2.Credit)))=q.1+y:=by
    intro y hy y0 y1
    have c0:=i2.c0
    have c1:=i2.c1
    unfold zhh at *
    by_cases h0:0<=x
    ·rw [if_pos h0] at hy
     simp only [if_pos h0,Bool.false_eq_true,if_false]
     rw [←hy,zaP (x:=_-_) (by omega) (by omega),zaP (by omega) (by omega)]
     omega
    ·rw [if_neg h0] at hy
     by_cases hc:q.2.Credit=0
     ·simp only [if_neg h0,if_pos hc,Bool.false_eq_true,if_false]
      rw [zaP (x:=_-_) (by omega) (by omega),zaP (by omega) (by omega)]
      omega
     ·simp only [if_neg h0,if_neg hc,if_true]
      rw [zaP (x:=_-_) (by omega) (by omega),zaP (x:=q.1+_) (by omega) (by omega),zaP (by omega) (by omega)]
      omega
   have hyr:0<=(if 0<=x then (turn w q.2.Place (coin w x)).2 else 0)/\(if 0<=x then (turn w q.2.Place (coin w x)).2 else 0)<=100:=by
    split
    ·rename_i h0
     have hc:=zcO h h0 hxr.2
     have ht:=zcv h i2.p0 i2.p1 (show 0<=coin w x by omega)
     omega
    ·omega
   have hd:=hdiff _ rfl hyr.1 hyr.2
   have fin:=hrec (q.1+(if 0<=x then (turn w q.2.Place (coin w x)).2 else 0),(zhh w q.2 x).1) ⟨⟨by simp only;omega,by simp only;omega⟩,hok,by omega,i4.2⟩
   simp only at fin
   by_cases hm:(zhh w q.2 x).2=true
   ·rw [if_pos hm] at hd ⊢
    rw [hd,fin,Int.add_assoc]
   ·rw [if_neg hm] at hd ⊢
    rw [hd,fin,Int.add_assoc])
  acts 0 n (0,⟨0,0⟩) (by omega) rfl (by omega) ⟨⟨by simp,by simp;omega⟩,⟨by simp,by simp;omega,by simp,by simp;omega⟩,hl,ha⟩
 have key:zci n w acts n 0 0 0 0=_:=key
 unfold zhW
 rw [key,Int.zero_add]
theorem zsL (b:Bool) {w:Wheel} (h:OkW w):∀(T:Nat) {p c c':Int} {l:List Int},(T:Int)=total l->OkP w l->0<=p->p<w.Round->0<=c->c<=c'->leB b (Q b w T p c l) (Q b w T p c' l)
 | 0,p,c,c',l,_,_,_,_,_,_=>leB.refl b _
 | T+1,p,c,c',l,hT,hl,hp,hp',hc,hcc=>by
  obtain ⟨o,ho,he⟩:=zuk (w:=w) (T:=T) (p:=p) (c:=c) b (show total l≠0 by omega)
  have ok:=zmQ h hp hp' hc hl ho
  have hT':(T:Int)=total (zcB l o.k):=by rw [ze5 (by rw [hl.len];exact ok.k)];omega
  obtain ⟨j,h1,h2,h3,h4⟩:=zeS.1 ho
  rw [←he]
  rcases zfj.1 h4 with rfl | ⟨h5,h6,rfl⟩
  ·have ih:=zsL b h T (p:=(zif w p c j).p) (c:=(zif w p c j).c) (c':=(zif w p c' j).c) hT' (hl.less ok.k ok.nz) ok.p0 ok.p1 ok.c0 (by show c+_<=c'+_;omega)
   exact (ih.add _).trans (zAV (T:=T) (p:=p) (c:=c') b (o:=zif w p c' j) (zeS.2 ⟨j,h1,h2,h3,zfj.2 (.inl rfl)⟩))
  ·have ih:=zsL b h T (p:=(zj6 w c j).p) (c:=(zj6 w c j).c) (c':=(zj6 w c' j).c) hT' (hl.less ok.k ok.nz) ok.p0 ok.p1 ok.c0 (by show c-1+_<=c'-1+_;omega)
   exact (ih.add _).trans (zAV (T:=T) (p:=p) (c:=c') b (o:=zj6 w c' j) (zeS.2 ⟨j,h1,h2,h3,zfj.2 (.inr ⟨by omega,h6,rfl⟩)⟩))
theorem zAW (b:Bool) {w:Wheel} (h:OkW w) {T:Nat} {p c:Int} {l:List Int} (hT:(T:Int)=total l) (hl:OkP w l) (hp:0<=p) (hp':p<w.Round) (hc:0<c):leB b (Q b w T 0 (c-1) l) (Q b w T p c l):=by
 have hr:=h.r1
 cases T with
 | zero=>exact leB.refl b _
 | succ T =>
  by_cases e:p=0
  ·subst e
   exact zsL b h (T+1) hT hl (by omega) (by omega) (by omega) (by omega)
  ·rw [zu3 b w T p c l (by omega) e (by omega)]
   exact (zpQ b _ _).2.1
theorem zu8 {w:Wheel} {l:List Int} (hl:OkP w l) (h:∀k:Nat,k<w.Coins.length->(0:Int)=l.getD k 0):total l=0:=by
 by_cases e:total l=0
 ·exact e
 ·obtain ⟨j,h1,h2⟩:=zli e
  exact (h2 (h j (by rw [←hl.len];exact h1)).symm).elim
theorem zl9 (b:Bool) {w:Wheel} (h:OkW w):∀(acts:List Int) {p c:Int} {l:List Int},acts.all (zep w)=true->(∀k:Nat,k<w.Coins.length->cnt k acts=l.getD k 0)->OkP w l->0<=p->p<w.Round->0<=c->leB b (zd5 w ⟨p,c⟩ acts) (Q b w (total l).toNat p c l)
 | [],p,c,l,_,hk,hl,_,_,_=>by
  rw [zu8 hl hk]
  exact leB.refl b 0
 | a::acts,p,c,l,hok,hk,hl,hp,hp',hc=>by
  have hr:=h.r1
  simp only [List.all_cons,Bool.and_eq_true] at hok
  have ha:=zbW.1 hok.1
  by_cases h0:0<=a
  ·obtain ⟨k,rfl⟩:∃k:Nat,a=k:=⟨a.toNat,by omega⟩
   have hkl:k<w.Coins.length:=by omega
   have hkl':k<l.length:=by rw [hl.len];exact hkl
   have hnz:l.getD k 0≠0:=by
    have e:=hk k hkl
    simp only [cnt] at e
    have:=znR (k:Int) acts
    rw [if_pos trivial] at e
    omega
   have hco:=zcO h (a:=(k:Int)) (by omega) (by omega)
   have ht:=zcv h hp hp' (show 0<=coin w k by omega)
   have hlt:=ze5 hkl'
   have hnn:=zdE (hl.less hkl hnz).nn
   have ih:=zl9 b h acts (p:=(zif w p c k).p) (c:=(zif w p c k).c) (l:=zcB l k) hok.2 (fun j hj=>by
    have e:=hk j hj
    simp only [cnt] at e
    rw [zjE hkl']
    by_cases q:k=j
    ·rw [if_pos (by omega)] at e;rw [if_pos q];omega
    ·rw [if_neg (by omega)] at e;rw [if_neg q];omega) (hl.less hkl hnz) ht.1.1 ht.1.2 (by show 0<=c+_;omega)
   simp only [zd5]
   rw [if_pos h0,zsJ]
   have eT:(total l).toNat=(total (zcB l k)).toNat+1:=by omega
   rw [eT]
   exact (ih.add _).trans (zAV b (o:=zif w p c k) (zeS.2 ⟨k,by omega,by omega,hnz,zfj.2 (.inl rfl)⟩))
  ·have ea:a=-1:=by omega
   subst ea
   have hk':∀k:Nat,k<w.Coins.length->cnt k acts=l.getD k 0:=fun k hkl=>by
    have e:=hk k hkl
    simp only [cnt] at e
    rw [if_neg (by omega)] at e
    omega
   simp only [zd5]
   rw [if_neg h0,Int.zero_add]
   by_cases hc0:c=0
   ·have e:(zhh w ⟨p,c⟩ (-1)).1=⟨p,c⟩:=by
     unfold zhh
     rw [if_neg h0,if_pos hc0]
    rw [e]
    exact zl9 b h acts hok.2 hk' hl hp hp' hc
   ·rw [zuj w p c hc0]
    have hnn:=zdE hl.nn
    exact (zl9 b h acts hok.2 hk' hl (by omega) (by omega) (by omega)).trans (zAW b h (by omega) hl hp hp' (by omega))
def ztS (w:Wheel) (l:List Int):Nat->Nat->Int
 | 0,_=>0
 | d+1,k=>coin w k*l.getD k 0+ztS w l d (k+1)
def zda (w:Wheel) (l:List Int):Int:=ztS w l w.Coins.length 0
theorem zyA {w:Wheel} (h:OkW w) {l:List Int} (hl:∀k,0<=l.getD k 0/\l.getD k 0<=1000) {k:Nat} (hk:k<w.Coins.length):0<=coin w k*l.getD k 0/\coin w k*l.getD k 0<=100000:=by
 have hco:=zcO h (a:=(k:Int)) (by omega) (by omega)
 have:=hl k
 refine ⟨Int.mul_nonneg (by omega) (by omega),?_⟩
 have h1:coin w k*l.getD k 0<=100*l.getD k 0:=Int.mul_le_mul_of_nonneg_right hco.2 (by omega)
 omega
theorem zma {w:Wheel} (h:OkW w) {l:List Int} (hl:∀k,0<=l.getD k 0/\l.getD k 0<=1000):∀(d k:Nat),k+d<=w.Coins.length->0<=ztS w l d k/\ztS w l d k<=100000*d
 | 0,k,_=>by simp [ztS]
 | d+1,k,hk=>by
  have:=zma h hl d (k+1) (by omega)
  have:=zyA h hl (show k<w.Coins.length by omega)
  simp only [ztS]
  omega
def down:Nat->List Int
 | 0=>[0]
 | n+1=>((n+1:Nat):Int)::down n
def upF:Nat->Nat->List Int
 | _,0=>[]
 | i,d+1=>(i:Int)::upF (i+1) d
theorem zmT {v:Int}:∀{d i:Nat},v∈upF i d↔(i:Int)<=v/\v<i+d
 | 0,i=>by simp [upF]<;>omega
 | d+1,i=>by
  simp only [upF,List.mem_cons,zmT]
  omega
theorem zoS:∀(d i:Nat),(upF i d).length=d
 | 0,i=>rfl
 | d+1,i=>by simp [upF,zoS d (i+1)]
def Part (t l:List Int):Prop:=t.length=l.length/\∀k,0<=t.getD k 0/\t.getD k 0<=l.getD k 0
def zul (w:Wheel) (t:List Int):List Int:=t.take w.Coins.length
structure OkT (w:Wheel) (t:List Int):Prop where
 len:t.length=4
 rng:∀k,0<=t.getD k 0/\t.getD k 0<=1000
 out:∀k,w.Coins.length<=k->t.getD k 0=0
 tot:total (zul w t)<=1000
theorem znS {w:Wheel} {t:List Int} (h:OkT w t) (k:Nat):(zul w t).getD k 0=t.getD k 0:=by
 unfold zul
 rw [List.getD_eq_getElem?_getD,List.getElem?_take]
 split
 ·rfl
 ·rw [h.out k (by omega)]
  rfl
theorem OkT.purse {w:Wheel} (hw:OkW w) {t:List Int} (h:OkT w t):OkP w (zul w t):=by
 have h4:=hw.clen
 have hl:=h.len
 refine ⟨by simp [zul];omega,fun x hx=>?_,h.tot⟩
 obtain ⟨i,hi,rfl⟩:=List.getElem_of_mem hx
 have e:(zul w t)[i]=(zul w t).getD i 0:=by simp [hi]
 rw [e,znS h]
 exact (h.rng i).1
theorem OkT.bag {w:Wheel} {t:List Int} (h:OkT w t):zb5 t=zb5 (zul w t):=by
 simp only [zb5,znS h]
def ziw (w:Wheel):Stand->List Int->Stand
 | s,[]=>s
 | s,a::l=>ziw w (zhh w s a).1 l
theorem zeq (w:Wheel):∀(a b:List Int) (s:Stand),ziw w s (a++b)=ziw w (ziw w s a) b
 | [],b,s=>rfl
 | x::a,b,s=>zeq w a b _
theorem zfz (w:Wheel):∀(a b:List Int) (s:Stand),zd5 w s (a++b)=zd5 w s a+zd5 w (ziw w s a) b
 | [],b,s=>by simp [zd5,ziw]
 | x::a,b,s=>by
  simp only [List.cons_append,zd5,ziw]
  rw [zfz w a b]
  omega
theorem zsM {w:Wheel} (h:OkW w):∀(acts:List Int) (s:Stand) (b:Int),OkS w s b->acts.all (zep w)=true->OkS w (ziw w s acts) (b+100*acts.length)
 | [],s,b,hs,_=>by simpa [ziw] using hs
 | a::l,s,b,hs,ha=>by
  rw [List.all_cons,Bool.and_eq_true] at ha
  have:=zsM h l _ _ (zoO h hs ha.1) ha.2
  simp only [ziw,List.length_cons]
  rwa [show b+100*((l.length+1:Nat):Int)=b+100+100*(l.length:Int) by omega]
def Can (w:Wheel) (al:List Int) (v:Int):Prop:=∃acts:List Int,acts.all (zep w)=true/\(∀k:Nat,k<w.Coins.length->cnt k acts=al.getD k 0)/\zd5 w ⟨0,0⟩ acts=v
structure Pn where
 p:Int
 c:Int
 l:List Int
 b:Int
def zl (w:Wheel):List Int:=List.replicate w.Coins.length 0
def zgd (l:List Int) (k:Nat):List Int:=l.set k (l.getD k 0+1)
def zs7 (cl:Int->Int->Int) (x:Pn):Pn:=⟨0,cl (total x.l) (x.c-1),x.l,x.b⟩
def zq0 (cl:Int->Int->Int) (w:Wheel) (x:Pn) (k:Nat):Pn:=⟨(turn w x.p (coin w k)).1,cl (total x.l+1) (x.c+(turn w x.p (coin w k)).2),zgd x.l k,x.b+(turn w x.p (coin w k)).2⟩
def zlD (w:Wheel):Pn:=⟨0,0,zl w,0⟩
inductive RP (cl:Int->Int->Int) (w:Wheel) (al:List Int):List Int->Pn->Prop
 | zero:RP cl w al [] (zlD w)
 | sel {acts:List Int} {x:Pn} (h:RP cl w al acts x) (hc:0<x.c) (hp:0<x.p):RP cl w al (acts++[-1]) (zs7 cl x)
 | coin {acts:List Int} {x:Pn} {k:Nat} (h:RP cl w al acts x) (hk:k<w.Coins.length) (hl:x.l.getD k 0≠al.getD k 0):RP cl w al (acts++[(k:Int)]) (zq0 cl w x k)
theorem zkm:∀n:Nat,total (List.replicate n 0)=0
 | 0=>rfl
 | n+1=>by rw [List.replicate_succ,total,zkm n];rfl
theorem zlj (w:Wheel) (k:Nat):(zl w).getD k 0=0:=by
 unfold zl
 rw [List.getD_eq_getElem?_getD,List.getElem?_replicate]
 split<;>rfl
theorem znT (l:List Int) (k:Nat):(zgd l k).length=l.length:=by simp [zgd]
theorem zgY {l:List Int} {k j:Nat} (hk:k<l.length):(zgd l k).getD j 0=l.getD j 0+(if k=j then 1 else 0):=by
 unfold zgd
 by_cases e:k=j
 ·subst e
  rw [if_pos rfl,List.getD_eq_getElem?_getD,List.getElem?_set_self hk]
  rfl
 ·rw [if_neg e,List.getD_eq_getElem?_getD,List.getElem?_set_ne e,←List.getD_eq_getElem?_getD]
  omega
theorem ze7 {l:List Int} {k:Nat} (h:k<l.length):total (zgd l k)=total l+1:=by
 unfold zgd
 rw [zlh h]
 omega
theorem zge:∀{l m:List Int},l.length=m.length->(∀k,l.getD k 0<=m.getD k 0)->total l<=total m
 | [],[],_,_=>Int.le_refl _
 | [],_::_,h,_=>by simp at h
 | _::_,[],h,_=>by simp at h
 | x::l,y::m,h,hk=>by
  have h0:=hk 0
  have:=zge (l:=l) (m:=m) (by simpa using h) (fun k=>by simpa using hk (k+1))
  simp only [total]
  simp at h0
  omega
theorem zlk {l m:List Int} (h:l.length=m.length) (hk:∀k,l.getD k 0<=m.getD k 0) {k:Nat} (hlt:l.getD k 0<m.getD k 0):total l<total m:=by
 have hkl:k<l.length:=by
  rcases Nat.lt_or_ge k l.length with h1 | h1
  ·exact h1
  ·rw [List.getD_eq_getElem?_getD,List.getD_eq_getElem?_getD,List.getElem?_eq_none h1,List.getElem?_eq_none (by omega)] at hlt
   simp at hlt
 have h1:=zge (l:=zgd l k) (m:=m) (by rw [znT];exact h) fun j=>by
  rw [zgY hkl]
  have:=hk j
  split
  ·rename_i e
   subst e
   omega
  ·omega
 rw [ze7 hkl] at h1
 omega
structure Clamp (cl:Int->Int->Int) (T:Int):Prop where
 le:∀t c,cl t c<=c
 nn:∀t c,t<=T->0<=c->0<=cl t c
structure OkX (w:Wheel) (al:List Int) (acts:List Int) (x:Pn):Prop where
 p0:0<=x.p
 p1:x.p<w.Round
 c0:0<=x.c
 cb:x.c<=x.b
 bt:x.b<=100*total x.l
 len:x.l.length=w.Coins.length
 nn:∀k,0<=x.l.getD k 0
 le:∀k,x.l.getD k 0<=al.getD k 0
 ok:acts.all (zep w)=true
 bag:∀k:Nat,cnt k acts=x.l.getD k 0
 buys:zd5 w ⟨0,0⟩ acts=x.b
 pl:(ziw w ⟨0,0⟩ acts).Place=x.p
 cr:x.c<=(ziw w ⟨0,0⟩ acts).Credit
theorem zfR (k:Nat) (a:Int):cnt k [a]=if a=(k:Int) then 1 else 0:=by simp [cnt]
theorem RP.ok {cl:Int->Int->Int} {w:Wheel} {al:List Int} (h:OkW w) (hl:al.length=w.Coins.length) (hnn:∀k,0<=al.getD k 0) (hcl:Clamp cl (total al)) {acts:List Int} {x:Pn} (hr:RP cl w al acts x):OkX w al acts x:=by
 have hr1:=h.r1
 induction hr with
 | zero=>exact ⟨Int.le_refl _,by show (0:Int)<w.Round;omega,Int.le_refl _,Int.le_refl _,by show (0:Int)<=100*total (zl w);rw [show total (zl w)=0 from zkm _];omega,by simp [zlD,zl],fun k=>by show 0<=(zl w).getD k 0;rw [zlj];omega,fun k=>by show (zl w).getD k 0<=_;rw [zlj];exact hnn k,rfl,fun k=>by show _=(zl w).getD k 0;rw [zlj];rfl,rfl,rfl,Int.le_refl _⟩
 | @sel acts x hr hc hp ih =>
  have ht:total x.l<=total al:=zge (by rw [ih.len,hl]) ih.le
  have hcr:=ih.cr
  have he:zhh w (ziw w ⟨0,0⟩ acts) (-1)=(⟨0,(ziw w ⟨0,0⟩ acts).Credit-1⟩,true):=by
   unfold zhh
   rw [if_neg (by omega),if_neg (by omega)]
  have hle:=hcl.le (total x.l) (x.c-1)
  have hcb:=ih.cb
  refine ⟨Int.le_refl _,by show (0:Int)<w.Round;omega,hcl.nn _ _ ht (by omega),by show cl _ _<=x.b;omega,ih.bt,ih.len,ih.nn,ih.le,?_,fun k=>?_,?_,?_,?_⟩
  ·rw [List.all_append,ih.ok]
   simp [zoR]
  ·rw [ze6,ih.bag,zfR,if_neg (by omega)]
   exact Int.add_zero _
  ·rw [zfz,ih.buys]
   simp [zd5,zs7]
  ·rw [zeq]
   simp only [ziw,he]
   rfl
  ·rw [zeq]
   simp only [ziw,he]
   show cl _ _<=_
   omega
 | @coin acts x k hr hk hne ih =>
  have hkl:k<x.l.length:=by rw [ih.len];exact hk
  have hlt:x.l.getD k 0<al.getD k 0:=by have:=ih.le k;omega
  have ht:total x.l<total al:=zlk (by rw [ih.len,hl]) ih.le hlt
  have hcoin:=zcO h (a:=(k:Int)) (by omega) (by omega)
  have htr:=zcv h ih.p0 ih.p1 (show 0<=Go.Law.coin w k by omega)
  have hcb:=ih.cb
  have hbt:=ih.bt
  have hc0:=ih.c0
  have hcr:=ih.cr
  have he:(zhh w (ziw w ⟨0,0⟩ acts) (k:Int)).1=⟨(turn w x.p (Go.Law.coin w k)).1,(ziw w ⟨0,0⟩ acts).Credit+(turn w x.p (Go.Law.coin w k)).2⟩:=by
   unfold zhh
   rw [if_pos (by omega),ih.pl]
  have hle:=hcl.le (total x.l+1) (x.c+(turn w x.p (Go.Law.coin w k)).2)
  refine ⟨htr.1.1,htr.1.2,hcl.nn _ _ (by omega) (by omega),?_,?_,?_,fun j=>?_,fun j=>?_,?_,fun j=>?_,?_,?_,?_⟩
  ·show cl _ _<=x.b+_
   omega
  ·show x.b+_<=100*total (zgd x.l k)
   rw [ze7 hkl]
   omega
  ·show (zgd x.l k).length=_
   rw [znT,ih.len]
  ·show 0<=(zgd x.l k).getD j 0
   rw [zgY hkl]
   have:=ih.nn j
   split<;>omega
  ·show (zgd x.l k).getD j 0<=_
   rw [zgY hkl]
   have:=ih.le j
   split
   ·rename_i e
    subst e
    omega
   ·omega
  ·rw [List.all_append,ih.ok]
   simp [zmS hk]
  ·show _=(zgd x.l k).getD j 0
   rw [ze6,ih.bag,zfR,zgY hkl]
   congr 1
   by_cases e:k=j
   ·subst e;simp
   ·rw [if_neg e,if_neg (by omega)]
  ·rw [zfz,ih.buys]
   simp only [zd5,ih.pl]
   rw [if_pos (by omega)]
   show x.b+(_+0)=x.b+_
   omega
  ·rw [zeq]
   simp only [ziw,he]
   rfl
  ·rw [zeq]
   simp only [ziw,he]
   show cl _ _<=_
   omega
theorem zgx {al:List Int} (h:∀k,0<=al.getD k 0):∀x,x∈al->0<=x:=fun x hx=>by
 obtain ⟨k,hk⟩:=List.getElem?_of_mem hx
 have:=h k
 rwa [List.getD_eq_getElem?_getD,hk] at this
theorem zoT (l:List Int):l=[]\/∃q a,l=q++[a]:=zit l
def clT (T:Int):Int->Int->Int:=fun t c=>min c (T-t)
theorem zjF (T:Int):Clamp (clT T) T:=⟨fun t c=>by unfold clT;omega,fun t c h1 h2=>by unfold clT;omega⟩
theorem zoU {w:Wheel} {a:Int} (h:zep w a=true):a=-1\/∃k:Nat,k<w.Coins.length/\a=k:=by
 have h:=zbW.1 h
 by_cases h0:0<=a
 ·exact .inr ⟨a.toNat,by omega,by omega⟩
 ·exact .inl (by omega)
theorem cnt_mono {k:Nat} {l:List Int} {a:Int}:cnt k l<=cnt k (l++[a]):=by
 rw [ze6,zfR]
 split<;>omega
theorem zsN {w:Wheel} {al:List Int} (h:OkW w) (hl:al.length=w.Coins.length) (hnn:∀k,0<=al.getD k 0):∀(n:Nat) (acts:List Int),acts.length=n->acts.all (zep w)=true->(∀k:Nat,k<w.Coins.length->cnt k acts<=al.getD k 0) ->
  ∃acts' x,RP (clT (total al)) w al acts' x/\x.b=zd5 w ⟨0,0⟩ acts/\(∀k:Nat,k<w.Coins.length->x.l.getD k 0=cnt k acts)/\(total x.l<total al->x.p=(ziw w ⟨0,0⟩ acts).Place/\min (ziw w ⟨0,0⟩ acts).Credit (if x.p=0 then total al-total x.l-1 else total al-total x.l)<=x.c)
 | 0,acts,hlen,_,_=>by
  obtain rfl:=List.eq_nil_of_length_eq_zero hlen
  refine ⟨[],zlD w,.zero,rfl,fun k _=>zlj w k,fun ht=>⟨rfl,?_⟩⟩
  show min (0:Int) _<=0
  omega
 | n+1,acts,hlen,hok,hbag=>by
  rcases zoT acts with rfl | ⟨l,a,rfl⟩
  ·simp at hlen
  rw [List.all_append,Bool.and_eq_true] at hok
  have hoa:zep w a=true:=by simpa using hok.2
  obtain ⟨acts',x,hr,hb,hcn,hx⟩:=zsN h hl hnn n l (by simpa using hlen) hok.1 fun k hk=>Int.le_trans cnt_mono (hbag k hk)
  have hX:=hr.ok h hl hnn (zjF _)
  have hes:=zsM h l ⟨0,0⟩ 0 ⟨Int.le_refl _,by show (0:Int)<w.Round;have:=h.r1;omega,Int.le_refl _,Int.le_refl _⟩ hok.1
  have hec:=hes.c0
  have hep:=hes.p0
  have htl:total x.l<=total al:=zge (by rw [hX.len,hl]) hX.le
  rcases zoU hoa with rfl | ⟨k,hk,rfl⟩
  ·have hbu:zd5 w ⟨0,0⟩ (l++[-1])=zd5 w ⟨0,0⟩ l:=by rw [zfz];simp [zd5]
   have hcn':∀k:Nat,cnt k (l++[-1])=cnt k l:=fun k=>by
    rw [ze6,zfR,if_neg (by omega)]
    exact Int.add_zero _
   have he:ziw w ⟨0,0⟩ (l++[-1])=if (ziw w ⟨0,0⟩ l).Credit=0 then ziw w ⟨0,0⟩ l else ⟨0,(ziw w ⟨0,0⟩ l).Credit-1⟩:=by
    rw [zeq]
    simp only [ziw,zhh]
    rw [if_neg (by omega)]
    split<;>rfl
   by_cases ht:total x.l<total al
   ·obtain ⟨hp,hc⟩:=hx ht
    by_cases hz:(ziw w ⟨0,0⟩ l).Credit=0
    ·exact ⟨acts',x,hr,by rw [hbu,hb],fun k hk=>by rw [hcn',hcn k hk],fun _=>by rw [he,if_pos hz];exact ⟨hp,hc⟩⟩
    ·by_cases hp0:x.p=0
     ·refine ⟨acts',x,hr,by rw [hbu,hb],fun k hk=>by rw [hcn',hcn k hk],fun _=>?_⟩
      rw [he,if_neg hz]
      refine ⟨hp0,?_⟩
      rw [if_pos hp0] at hc ⊢
      show min (_-1) _<=_
      omega
     ·rw [if_neg hp0] at hc
      have hp1:=hX.p0
      refine ⟨_,_,hr.sel (by omega) (by omega),by rw [hbu,←hb];rfl,fun k hk=>by rw [hcn',←hcn k hk];rfl,fun _=>?_⟩
      rw [he,if_neg hz]
      refine ⟨rfl,?_⟩
      show min (_-1) (if (0:Int)=0 then _ else _)<=min (x.c-1) (total al-total x.l)
      rw [if_pos rfl]
      show min (_-1) (total al-total x.l-1)<=_
      omega
   ·exact ⟨acts',x,hr,by rw [hbu,hb],fun k hk=>by rw [hcn',hcn k hk],fun ht'=>absurd ht' ht⟩
  ·have hck:cnt k (l++[(k:Int)])=cnt k l+1:=by rw [ze6,zfR,if_pos rfl]
   have hlt:x.l.getD k 0<al.getD k 0:=by
    have:=hbag k hk
    rw [hcn k hk]
    omega
   have ht:total x.l<total al:=zlk (by rw [hX.len,hl]) hX.le hlt
   obtain ⟨hp,hc⟩:=hx ht
   have hkl:k<x.l.length:=by rw [hX.len];exact hk
   have he:ziw w ⟨0,0⟩ (l++[(k:Int)])=⟨(turn w x.p (coin w k)).1,(ziw w ⟨0,0⟩ l).Credit+(turn w x.p (coin w k)).2⟩:=by
    rw [zeq]
    simp only [ziw,zhh]
    rw [if_pos (by omega),hp]
   have hcoin:=zcO h (a:=(k:Int)) (by omega) (by omega)
   have htr:=zcv h hX.p0 hX.p1 (show 0<=coin w k by omega)
   have hc0:=hX.c0
   refine ⟨_,_,hr.coin hk (by omega),?_,fun j hj=>?_,fun ht'=>?_⟩
   ·rw [zfz]
    simp only [zd5]
    rw [if_pos (by omega),←hb,←hp]
    show x.b+_=x.b+(_+0)
    omega
   ·show (zgd x.l k).getD j 0=_
    rw [zgY hkl,hcn j hj,ze6,zfR]
    congr 1
    by_cases e:k=j
    ·subst e;simp
    ·rw [if_neg e,if_neg (by omega)]
   ·rw [he]
    refine ⟨rfl,?_⟩
    show min (_+_) (if (turn w x.p (coin w k)).1=0 then total al-total (zgd x.l k)-1 else total al-total (zgd x.l k))<=min (x.c+_) (total al-(total x.l+1))
    rw [ze7 hkl]
    by_cases h1:x.p=0
    ·rw [if_pos h1] at hc
     split<;>omega
    ·rw [if_neg h1] at hc
     split<;>omega
theorem zgy {l m:List Int} {n:Nat} (h1:l.length=n) (h2:m.length=n) (h:∀k:Nat,k<n->l.getD k 0=m.getD k 0):l=m:=by
 apply List.ext_getElem (by omega)
 intro k a b
 have:=h k (by omega)
 simpa [List.getD_eq_getElem?_getD,a,b] using this
theorem zyB {w:Wheel} {al:List Int} (h:OkW w) (hl:al.length=w.Coins.length) (hnn:∀k,0<=al.getD k 0) {v:Int}:Can w al v↔∃acts x,RP (clT (total al)) w al acts x/\x.l=al/\x.b=v:=by
 constructor
 ·rintro ⟨acts,hok,hbag,hb⟩
  obtain ⟨acts',x,hr,h1,h2,_⟩:=zsN h hl hnn acts.length acts rfl hok fun k hk=>Int.le_of_eq (hbag k hk)
  have hX:=hr.ok h hl hnn (zjF _)
  exact ⟨acts',x,hr,zgy hX.len hl fun k hk=>by rw [h2 k hk,hbag k hk],by rw [h1,hb]⟩
 ·rintro ⟨acts,x,hr,rfl,rfl⟩
  have hX:=hr.ok h hl hnn (zjF _)
  exact ⟨acts,hX.ok,fun k _=>hX.bag k,hX.buys⟩
theorem RP.short {w:Wheel} {al:List Int} (h:OkW w) (hl:al.length=w.Coins.length) (hnn:∀k,0<=al.getD k 0) {acts:List Int} {x:Pn} (hr:RP (clT (total al)) w al acts x) :
  x.c<=total al-total x.l/\((acts.length:Int)<=2*total x.l\/x.p=0/\total x.l<total al/\(acts.length:Int)<=2*total x.l+1):=by
 induction hr with
 | zero =>
  have h0:total (zl w)=0:=zkm _
  have h1:0<=total al:=zdE (zgx hnn)
  refine ⟨?_,.inl ?_⟩
  ·show (0:Int)<=total al-total (zl w)
   omega
  ·show ((0:Nat):Int)<=2*total (zl w)
   omega
 | @sel acts x hr hc hp ih =>
  refine ⟨?_,.inr ⟨rfl,?_,?_⟩⟩
  ·show min (x.c-1) (total al-total x.l)<=total al-total x.l
   omega
  ·show total x.l<total al
   omega
  ·show ((acts++[-1]).length:Int)<=2*total x.l+1
   rw [List.length_append,List.length_singleton]
   rcases ih.2 with h1 | ⟨h1,_⟩
   ·omega
   ·omega
 | @coin acts x k hr hk hne ih =>
  have hX:=hr.ok h hl hnn (zjF _)
  have hkl:k<x.l.length:=by rw [hX.len];exact hk
  refine ⟨?_,.inl ?_⟩
  ·show min _ (total al-(total x.l+1))<=total al-total (zgd x.l k)
   rw [ze7 hkl]
   omega
  ·show ((acts++[(k:Int)]).length:Int)<=2*total (zgd x.l k)
   rw [ze7 hkl,List.length_append,List.length_singleton]
   rcases ih.2 with h1 | ⟨_,_,h1⟩<;>omega
def lvl (cl:Int->Int->Int) (w:Wheel):Nat->List Pn
 | 0=>[zlD w]
 | t+1=>(lvl cl w t++(lvl cl w t).map (zs7 cl)).flatMap fun x=>(List.range w.Coins.length).map fun k=>zq0 cl w x k
def lvs (cl:Int->Int->Int) (w:Wheel) (t:Nat):List Pn:=lvl cl w t++(lvl cl w t).map (zs7 cl)
def zum (cl:Int->Int->Int) (w:Wheel):Nat->List Pn
 | 0=>lvs cl w 0
 | t+1=>zum cl w t++lvs cl w (t+1)
theorem zjG {α β:Type} {f:α->List β} {c:Nat}:∀{l:List α},(∀x,x∈l->(f x).length<=c)->(l.flatMap f).length<=l.length*c
 | [],_=>by simp
 | x::l,h=>by
  have h1:=h x (by simp)
  have h2:=zjG (f:=f) (c:=c) (l:=l) fun y hy=>h y (by simp [hy])
  simp only [List.flatMap_cons,List.length_append,List.length_cons,Nat.add_mul,Nat.one_mul]
  omega
theorem zoV (cl:Int->Int->Int) {w:Wheel} (hk:w.Coins.length<=3):∀t,(lvl cl w t).length<=6 ^ t
 | 0=>by simp [lvl]
 | t+1=>by
  have h1:=zoV cl hk t
  unfold lvl
  refine Nat.le_trans (zjG (c:=3) fun x _=>by simp;exact hk) ?_
  rw [List.length_append,List.length_map,Nat.pow_succ]
  omega
theorem ztT (cl:Int->Int->Int) {w:Wheel} (hk:w.Coins.length<=3) {t:Nat} (ht:t<=5):(zum cl w t).length<=93312:=by
 have key:∀t,t<=5->(zum cl w t).length<=(t+1)*15552:=by
  intro t
  induction t with
  | zero =>
   intro _
   have:=zoV cl hk 0
   simp only [zum,lvs,List.length_append,List.length_map]
   omega
  | succ t ih =>
   intro ht
   have h1:=ih (by omega)
   have h2:=zoV cl hk (t+1)
   have h3:6 ^ (t+1)<=6 ^ 5:=Nat.pow_le_pow_right (by omega) ht
   simp only [zum,lvs,List.length_append,List.length_map]
   have:(6:Nat) ^ 5=7776:=by decide
   omega
 have:=key t ht
 omega
theorem RP.level {cl:Int->Int->Int} {w:Wheel} {al:List Int} (h:OkW w) (hl:al.length=w.Coins.length) (hnn:∀k,0<=al.getD k 0) (hcl:Clamp cl (total al)) {acts:List Int} {x:Pn} (hr:RP cl w al acts x):x∈lvl cl w (total x.l).toNat\/x.p=0/\x∈(lvl cl w (total x.l).toNat).map (zs7 cl):=by
 induction hr with
 | zero =>
  refine .inl ?_
  have:total (zlD w).l=0:=zkm _
  rw [this]
  simp [lvl]
 | @sel acts x hr hc hp ih =>
  refine .inr ⟨rfl,?_⟩
  show zs7 cl x∈(lvl cl w (total x.l).toNat).map (zs7 cl)
  rcases ih with ih | ⟨h0,_⟩
  ·exact List.mem_map.2 ⟨x,ih,rfl⟩
  ·omega
 | @coin acts x k hr hk hne ih =>
  have hX:=hr.ok h hl hnn hcl
  have hkl:k<x.l.length:=by rw [hX.len];exact hk
  have h0:0<=total x.l:=zdE (zgx hX.nn)
  refine .inl ?_
  have e:(total (zq0 cl w x k).l).toNat=(total x.l).toNat+1:=by
   show (total (zgd x.l k)).toNat=_
   rw [ze7 hkl]
   omega
  rw [e]
  unfold lvl
  refine List.mem_flatMap.2 ⟨x,?_,List.mem_map.2 ⟨k,List.mem_range.2 hk,rfl⟩⟩
  rcases ih with ih | ⟨_,ih⟩
  ·exact List.mem_append_left _ ih
  ·exact List.mem_append_right _ ih
theorem zpU (cl:Int->Int->Int) (w:Wheel):∀{t m:Nat},m<=t->∀x,x∈lvs cl w m->x∈zum cl w t
 | 0,m,h,x,hx=>by
  obtain rfl:m=0:=by omega
  exact hx
 | t+1,m,h,x,hx=>by
  by_cases e:m=t+1
  ·subst e
   exact List.mem_append_right _ hx
  ·exact List.mem_append_left _ (zpU cl w (by omega) x hx)
theorem RP.up {cl:Int->Int->Int} {w:Wheel} {al:List Int} (h:OkW w) (hl:al.length=w.Coins.length) (hnn:∀k,0<=al.getD k 0) (hcl:Clamp cl (total al)) {acts:List Int} {x:Pn} (hr:RP cl w al acts x) {t:Nat} (ht:total x.l<=t):x∈zum cl w t:=by
 refine zpU cl w (m:=(total x.l).toNat) (by omega) x ?_
 rcases hr.level h hl hnn hcl with h1 | ⟨_,h1⟩
 ·exact List.mem_append_left _ h1
 ·exact List.mem_append_right _ h1
theorem zjH {α:Type} [DecidableEq α]:∀{l m:List α},l.Nodup->(∀x,x∈l->x∈m)->l.length<=m.length
 | [],_,_,_=>Nat.zero_le _
 | x::l,m,hn,h=>by
  have hn:=List.nodup_cons.1 hn
  have hx:=h x (by simp)
  have:=zjH (l:=l) (m:=m.erase x) hn.2 fun y hy=>by
   have hne:y≠x:=fun e=>hn.1 (by rw [←e];exact hy)
   exact (List.mem_erase_of_ne hne).2 (h y (by simp [hy]))
  rw [List.length_erase_of_mem hx] at this
  have:=List.length_pos_of_mem hx
  simp only [List.length_cons]
  omega
theorem zsO {n:Nat} {l:List Int} (h4:l.length<=4) (hnn:∀k,0<=l.getD k 0/\l.getD k 0<=1000) (hn:10<=n):zdl n (zb5 l)=some (total l):=by
 obtain ⟨m,rfl⟩:∃m,n=m+5:=⟨n-5,by omega⟩
 have h0:=hnn 0
 have h1:=hnn 1
 have h2:=hnn 2
 have h3:=hnn 3
 have ht:=znQ h4
 unfold zdl
 have e:∀(m:Nat) (s k:Int) (j:Nat),k=j->j<4->0<=s->s<=100000->zbl (zb5 l) (m+1) s k=zbl (zb5 l) m (s+l.getD j 0) (k+1):=fun m s k j hk hj hs hs2=>by
  subst hk
  have hb:=hnn j
  simp only [zbl,zcR]
  rw [if_pos (by simp;omega)]
  rw [show idx ([(zb5 l).c0,(zb5 l).c1,(zb5 l).c2,(zb5 l).c3]:List Int) (j:Int)=some (l.getD j 0) from ziv hj,zaa,zaP (by omega) (by omega),zaP (by omega) (by omega)]
 rw [e (m+4) 0 0 0 rfl (by omega) (by omega) (by omega),e (m+3) _ (0+1) 1 rfl (by omega) (by omega) (by omega),e (m+2) _ (0+1+1) 2 rfl (by omega) (by omega) (by omega),e (m+1) _ (0+1+1+1) 3 rfl (by omega) (by omega) (by omega)]
 simp only [zbl,zcR,zdc]
 rw [if_neg (by simp)]
 congr 1
 omega
def pnt (x:Pn):PointT_:=⟨⟨x.p,x.c⟩,zb5 x.l,x.b⟩
theorem zu9 {x y:Pn} (h:pnt x=pnt y) (hl:x.l.length=y.l.length) (h4:x.l.length<=4):x=y:=by
 obtain ⟨a,b,c,d⟩:=x
 obtain ⟨a',b',c',d'⟩:=y
 simp only [pnt,PointT_.mk.injEq,Stand.mk.injEq] at h
 obtain ⟨⟨rfl,rfl⟩,h1,rfl⟩:=h
 obtain rfl:=zmP h1 hl h4
 rfl
structure Cx (w:Wheel) (al:List Int):Prop where
 v:valid w=true
 hl:al.length=w.Coins.length
 nn:∀k,0<=al.getD k 0
 k3:w.Coins.length<=3
 t5:total al<=5
theorem Cx.h {w:Wheel} {al:List Int} (C:Cx w al):OkW w:=zeR C.v
theorem zn5 {w:Wheel} {al acts:List Int} {x:Pn} (C:Cx w al) (hr:RP (clT (total al)) w al acts x):OkX w al acts x/\total x.l<=total al/\(∀k,0<=x.l.getD k 0/\x.l.getD k 0<=5)/\zbG (pnt x)=true:=by
 have hX:=hr.ok C.h C.hl C.nn (zjF _)
 have ht:total x.l<=total al:=zge (by rw [hX.len,C.hl]) hX.le
 have hk:∀k,0<=x.l.getD k 0/\x.l.getD k 0<=5:=fun k=>by
  have:=zfF (zgx hX.nn) k
  have:=C.t5
  omega
 refine ⟨hX,ht,hk,?_⟩
 have h0:=hk 0
 have h1:=hk 1
 have h2:=hk 2
 have h3:=hk 3
 have h4:=hX.p0
 have h5:=hX.p1
 have h6:=hX.c0
 have h7:=hX.cb
 have h8:=hX.bt
 have h9:=C.h.r2
 have h10:=C.t5
 unfold zbG pnt zb5
 simp only [List.all_cons,List.all_nil,Bool.and_true,Bool.and_eq_true]
 exact ⟨zgw (by omega) (by omega),zgw (by omega) (by omega),zgw (by omega) (by omega),zgw (by omega) (by omega),zgw (by omega) (by omega),zgw (by omega) (by omega),zgw (by omega) (by omega)⟩
structure WI (w:Wheel) (al:List Int) (A:PointT_->List Int) (M:List (PointT_×Step_)):Prop where
 nd:(M.map (·.1)).Nodup
 pt:∀k st,(k,st)∈M->(∃X,k=pnt X/\RP (clT (total al)) w al (A k) X)/\(st.act=-2/\A k=[]\/st.act≠-2/\zbv M st.from_=true/\A k=A st.from_++[st.act])
structure Ext (A:PointT_->List Int) (M:List (PointT_×Step_)) (q:List PointT_) (A':PointT_->List Int) (M':List (PointT_×Step_)) (q':List PointT_):Prop where
 ex:∃N:List (PointT_×Step_),M'=M++N/\q'=q++N.map (·.1)
 same:∀k,zbv M k=true->A' k=A k
theorem Ext.has {A M q A' M' q'} (h:Ext A M q A' M' q') {k:PointT_} (hk:zbv M k=true):zbv M' k=true:=by
 obtain ⟨N,rfl,_⟩:=h.ex
 rw [zbg] at hk ⊢
 rw [List.map_append]
 exact List.mem_append_left _ hk
theorem Ext.refl (A M q):Ext A M q A M q:=⟨⟨[],by simp,by simp⟩,fun _ _=>rfl⟩
theorem Ext.trans {A M q A' M' q' A2 M2 q2} (h:Ext A M q A' M' q') (g:Ext A' M' q' A2 M2 q2):Ext A M q A2 M2 q2:=by
 refine ⟨?_,fun k hk=>by rw [g.same k (h.has hk),h.same k hk]⟩
 obtain ⟨N,rfl,rfl⟩:=h.ex
 obtain ⟨N',rfl,rfl⟩:=g.ex
 exact ⟨N++N',by simp,by simp⟩
theorem Ext.len {A M q A' M' q'} (h:Ext A M q A' M' q'):M.length+q'.length=M'.length+q.length:=by
 obtain ⟨N,rfl,rfl⟩:=h.ex
 simp
 omega
theorem Ext.out {A M q A' M' q'} (h:Ext A M q A' M' q') {k:PointT_} (hk:zbv M' k=true) (hq:k∉q'):zbv M k=true/\k∉q:=by
 obtain ⟨N,rfl,rfl⟩:=h.ex
 rw [zbg,List.map_append] at hk
 rw [zbg]
 simp only [List.mem_append,not_or] at hk hq
 rcases hk with hk | hk
 ·exact ⟨hk,hq.1⟩
 ·exact absurd hk hq.2
theorem WI.key {w al A M} (hW:WI w al A M) {k:PointT_} (hk:zbv M k=true):∃X,k=pnt X/\RP (clT (total al)) w al (A k) X:=(hW.pt k _ (zgP za7 hk)).1
theorem WI.len {w al A M} (C:Cx w al) (hW:WI w al A M):M.length<=93312:=by
 have h1:=zjH (m:=(zum (clT (total al)) w 5).map pnt) hW.nd fun k hk=>by
  obtain ⟨X,rfl,hr⟩:=hW.key (zbg.2 hk)
  exact List.mem_map.2 ⟨X,hr.up C.h C.hl C.nn (zjF _) (by have:=(zn5 C hr).2.1;have:=C.t5;omega),rfl⟩
 rw [List.length_map,List.length_map] at h1
 have h2:=ztT (clT (total al)) C.k3 (t:=5) (by omega)
 omega
theorem WI.mok {w al A M} (C:Cx w al) (hW:WI w al A M) {acts:List Int} {X:Pn} (hr:RP (clT (total al)) w al acts X):mok zbG M (pnt X)=true:=by
 unfold Go.AM.mok
 rw [(zn5 C hr).2.2.2,Bool.true_and,Bool.and_eq_true]
 refine ⟨List.all_eq_true.2 fun p hp=>?_,decide_eq_true hW.nd⟩
 obtain ⟨Y,e,hr'⟩:=(hW.pt p.1 p.2 hp).1
 show zbG p.1=true
 rw [e]
 exact (zn5 C hr').2.2.2
theorem Cx.len4 {w al} (C:Cx w al):al.length<=4:=by rw [C.hl];have:=C.k3;omega
theorem zun {w al} (C:Cx w al) {n:Nat} (hn:10<=n) {A M q} (hW:WI w al A M) {X Y:Pn} {a:Int} (hx:zbv M (pnt X)=true) (hr:RP (clT (total al)) w al (A (pnt X)++[a]) Y) (ha:a≠-2) {y:PointT_} (e1:y.in_=zb5 Y.l) (e2:y.bought=Y.b) (e3:y.Stand.Place=Y.p) (e4:min y.Stand.Credit (total al-total Y.l)=Y.c) (hq:q.length<=M.length) :
  ∃A' M' q',zel n (zb5 al) (pnt X) a y (M,q)=some (M',q')/\WI w al A' M'/\Ext A M q A' M' q'/\zbv M' (pnt Y)=true:=by
 obtain ⟨hY,ht,hk,hok⟩:=zn5 C hr
 have h4:=C.len4
 have hal:∀k,0<=al.getD k 0/\al.getD k 0<=1000:=fun k=>by
  have h1:=zfF (zgx C.nn) k
  have h2:=C.t5
  omega
 have hnn:0<=total Y.l:=zdE (zgx hY.nn)
 have h5:=C.t5
 have e:zd7 y (w64 (total al-total Y.l))=pnt Y:=by
  rw [zaP (by omega) (by omega)]
  show (⟨⟨y.Stand.Place,min y.Stand.Credit (total al-total Y.l)⟩,y.in_,y.bought⟩:PointT_)=_
  rw [e1,e2,e3,e4]
  rfl
 have hlen:=hW.len C
 unfold zel
 rw [zsO h4 hal hn,zaa,e1,zsO (by rw [hY.len];have:=C.k3;omega) (fun k=>by have:=hk k;omega) hn,zaa]
 simp only [e]
 rw [show zgI zbG za7 M (pnt Y)=some (zg0 za7 M (pnt Y)) from if_pos (hW.mok C hr),zaa]
 cases hh:zbv M (pnt Y) with
 | true =>
  rw [if_pos rfl]
  exact ⟨A,M,q,rfl,hW,Ext.refl A M q,hh⟩
 | false =>
  rw [if_neg (by simp),show zhA zbG M (pnt Y) ⟨a,pnt X⟩=some (zgh M (pnt Y) ⟨a,pnt X⟩) from if_pos (hW.mok C hr),zaa,if_pos (by omega),(zgK za7 M _ hh).2.2]
  have hno:∀k,zbv M k=true->k≠pnt Y:=fun k hk he=>by rw [he,hh] at hk;cases hk
  refine ⟨fun k=>if k=pnt Y then A (pnt X)++[a] else A k,_,_,rfl,⟨?_,fun k st hm=>?_⟩,⟨⟨[(pnt Y,⟨a,pnt X⟩)],rfl,rfl⟩,fun k hk=>if_neg (hno k hk)⟩,?_⟩
  ·rw [List.map_append,List.nodup_append]
   refine ⟨hW.nd,by simp,fun u hu v hv=>?_⟩
   simp only [List.map_cons,List.map_nil,List.mem_singleton] at hv
   rw [hv]
   exact hno u (zbg.2 hu)
  ·have hmono:∀k,zbv M k=true->zbv (M++[(pnt Y,(⟨a,pnt X⟩:Step_))]) k=true:=fun k hk=>by
    rw [zbg] at hk ⊢
    rw [List.map_append]
    exact List.mem_append_left _ hk
   rcases List.mem_append.1 hm with hm | hm
   ·have hk:zbv M k=true:=zbg.2 (List.mem_map.2 ⟨_,hm,rfl⟩)
    obtain ⟨p1,p2⟩:=hW.pt k st hm
    simp only [if_neg (hno k hk)]
    refine ⟨p1,?_⟩
    rcases p2 with p2 | ⟨p2,p3,p4⟩
    ·exact .inl p2
    ·exact .inr ⟨p2,hmono _ p3,by rw [if_neg (hno _ p3)];exact p4⟩
   ·simp only [List.mem_singleton,Prod.mk.injEq] at hm
    obtain ⟨rfl,rfl⟩:=hm
    simp only [if_pos rfl]
    exact ⟨⟨Y,rfl,hr⟩,.inr ⟨ha,hmono _ hx,by rw [if_neg (hno _ hx)];simp⟩⟩
  ·rw [zbg,List.map_append]
   exact List.mem_append_right _ (by simp)
theorem zva {w:Wheel} (hv:valid w=true) {n:Nat} (hn:200<=n) {p:Int} (h0:0<=p) (h1:p<w.Round):zeL n w ⟨p,1⟩ [-1]=some (⟨0,0⟩,1,0):=by
 have h:=zeR hv
 rw [zuh (h.len (by omega)) hn _ _ (by simp) (by simp;omega)]
 have e:zhh w ⟨p,1⟩ (-1)=(⟨0,0⟩,true):=by
  unfold zhh
  rw [if_neg (by omega),if_neg (by simp)]
  rfl
 unfold zAb
 rw [if_pos hv,if_pos ⟨by simp only [zgF,ziu,Bool.and_eq_true,zbW];omega,by simp,by simp [zoR]⟩]
 simp only [zqW,e]
 rfl
theorem ztU {w:Wheel} (hv:valid w=true) {n:Nat} (hn:200<=n) {p:Int} (h0:0<=p) (h1:p<w.Round) {k:Nat} (hk:k<w.Coins.length):zeL n w ⟨p,0⟩ [(k:Int)]=some (⟨(turn w p (coin w k)).1,(turn w p (coin w k)).2⟩,0,0):=by
 have h:=zeR hv
 rw [zuh (h.len (by omega)) hn _ _ (by simp) (by simp;omega)]
 have e:zhh w ⟨p,0⟩ (k:Int)=(⟨(turn w p (coin w k)).1,(turn w p (coin w k)).2⟩,false):=by
  unfold zhh
  rw [if_pos (by omega)]
  simp
 unfold zAb
 rw [if_pos hv,if_pos ⟨by simp only [zgF,ziu,Bool.and_eq_true,zbW];omega,by simp,by simp [zmS hk]⟩]
 simp only [zqW,e]
 rfl
theorem zsP {w al} (C:Cx w al) {n:Nat} (hn:200<=n) {b:Box_} (hb:b.Box.Wheel=w) {A M q} (hW:WI w al A M) {X:Pn} (hx:zbv M (pnt X)=true) (hr:RP (clT (total al)) w al (A (pnt X)) X) (hq:q.length<=M.length) :
  ∃A' M' q',zfb n b (zb5 al) (pnt X) (M,q)=some (M',q')/\WI w al A' M'/\Ext A M q A' M' q'/\(0<X.c->0<X.p->zbv M' (pnt (zs7 (clT (total al)) X))=true):=by
 obtain ⟨hX,ht,hk,hok⟩:=zn5 C hr
 have h5:=C.t5
 have h6:=hX.cb
 have h7:=hX.bt
 unfold zfb
 rw [hb]
 show ∃A' M' q',(if decide (X.c>0)=true then if decide (X.p>0)=true then _ else _ else _)=_/\_
 by_cases hc:0<X.c
 ·by_cases hp:0<X.p
  ·rw [if_pos (by simpa using hc),if_pos (by simpa using hp)]
   show ∃A' M' q',Option.bind (zeL n w ⟨X.p,1⟩ [-1]) _=_/\_
   rw [zva C.v hn hX.p0 hX.p1,zaa]
   obtain ⟨A',M',q',g1,g2,g3,g4⟩:=zun (n:=n) C (by omega) hW (Y:=zs7 (clT (total al)) X) (a:=-1) (y:=⟨⟨0,w64 (X.c-1)⟩,zb5 X.l,X.b⟩) hx (hr.sel hc hp) (by omega) rfl rfl rfl (by
    show min (w64 (X.c-1)) (total al-total X.l)=min (X.c-1) (total al-total X.l)
    rw [zaP (by omega) (by omega)]) hq
   exact ⟨A',M',q',g1,g2,g3,fun _ _=>g4⟩
  ·rw [if_pos (by simpa using hc),if_neg (by simpa using hp)]
   exact ⟨A,M,q,rfl,hW,Ext.refl A M q,fun _ h=>absurd h hp⟩
 ·rw [if_neg (by simpa using hc)]
  exact ⟨A,M,q,rfl,hW,Ext.refl A M q,fun h=>absurd h hc⟩
theorem zll {w al} (C:Cx w al) {n:Nat} (hn:200<=n) {b:Box_} (hb:b.Box.Wheel=w) {X:Pn}:∀(d i m:Nat),i+d=w.Coins.length->d<m->∀{A M q},WI w al A M->zbv M (pnt X)=true->RP (clT (total al)) w al (A (pnt X)) X->q.length<=M.length ->
  ∃A' M' q',zby n b (zb5 al) (pnt X) m (i:Int) (M,q)=some (M',q')/\WI w al A' M'/\Ext A M q A' M' q'/\∀k:Nat,i<=k->k<w.Coins.length->X.l.getD k 0≠al.getD k 0->zbv M' (pnt (zq0 (clT (total al)) w X k))=true
 | d,i,0,_,hm,_,_,_,_,_,_,_=>absurd hm (Nat.not_lt_zero _)
 | 0,i,m+1,hi,_,A,M,q,hW,hx,hr,hq=>by
  unfold zby
  rw [hb,if_neg (by simp;omega)]
  exact ⟨A,M,q,rfl,hW,Ext.refl A M q,fun k h1 h2=>by omega⟩
 | d+1,i,m+1,hi,hm,A,M,q,hW,hx,hr,hq=>by
  obtain ⟨hX,ht,hk,hok⟩:=zn5 C hr
  have h5:=C.t5
  have h6:=hX.cb
  have h7:=hX.bt
  have h8:=hX.c0
  have h9:=C.k3
  have h4:=C.len4
  have hki:=hk i
  have hil:i<X.l.length:=by rw [hX.len];omega
  unfold zby
  rw [hb,if_pos (by simp;omega)]
  show ∃A' M' q',Option.bind (idx (zsC X.l) (i:Int)) _=_/\_
  rw [ziv (by omega),zaa,show idx ([(zb5 al).c0,(zb5 al).c1,(zb5 al).c2,(zb5 al).c3]:List Int) (i:Int)=some (al.getD i 0) from ziv (by omega),zaa,zaP (x:=(i:Int)+1) (by omega) (by omega)]
  by_cases he:X.l.getD i 0=al.getD i 0
  ·rw [if_pos (by simpa using he)]
   obtain ⟨A',M',q',g1,g2,g3,g4⟩:=zll C hn hb d (i+1) m (by omega) (by omega) hW hx hr hq
   refine ⟨A',M',q',g1,g2,g3,fun k k1 k2 k3=>?_⟩
   by_cases e:k=i
   ·subst e
    exact absurd he k3
   ·exact g4 k (by omega) k2 k3
  ·rw [if_neg (by simpa using he)]
   show ∃A' M' q',Option.bind (zeL n w ⟨X.p,0⟩ [(i:Int)]) _=_/\_
   have hcoin:=zcO C.h (a:=(i:Int)) (by omega) (by omega)
   have htr:=zcv C.h hX.p0 hX.p1 (show 0<=coin w i by omega)
   rw [ztU C.v hn hX.p0 hX.p1 (by omega),zaa,zaP (x:=X.l.getD i 0+1) (by omega) (by omega)]
   rw [show zqm ([(pnt X).in_.c0,(pnt X).in_.c1,(pnt X).in_.c2,(pnt X).in_.c3]:List Int) (i:Int) (X.l.getD i 0+1)=some (zsC (zgd X.l i)) from zmO hil (by rw [hX.len];omega),zaa]
   obtain ⟨A1,M1,q1,g1,g2,g3,g4⟩:=zun (n:=n) C (by omega) hW (Y:=zq0 (clT (total al)) w X i) (a:=(i:Int)) (y:=⟨⟨(turn w X.p (coin w i)).1,w64 (X.c+(turn w X.p (coin w i)).2)⟩,zb5 (zgd X.l i),w64 (X.b+(turn w X.p (coin w i)).2)⟩) hx (hr.coin (by omega) he) (by omega) rfl (by
     show w64 _=X.b+_
     rw [zaP (by omega) (by omega)]) rfl (by
     show min (w64 (X.c+(turn w X.p (coin w i)).2)) (total al-total (zgd X.l i))=min (X.c+(turn w X.p (coin w i)).2) (total al-(total X.l+1))
     rw [zaP (by omega) (by omega),ze7 hil]) hq
   have hl1:=g3.len
   obtain ⟨A',M',q',k1,k2,k3,k4⟩:=zll C hn hb d (i+1) m (by omega) (by omega) g2 (g3.has hx) (by rw [g3.same _ hx];exact hr) (show q1.length<=M1.length by omega)
   refine ⟨A',M',q',?_,k2,g3.trans k3,fun k j1 j2 j3=>?_⟩
   ·show Option.bind (zel n (zb5 al) (pnt X) (i:Int) ⟨⟨(turn w X.p (coin w i)).1,w64 (X.c+(turn w X.p (coin w i)).2)⟩,zb5 (zgd X.l i),w64 (X.b+(turn w X.p (coin w i)).2)⟩ (M,q)) _=_
    rw [g1,zaa]
    exact k1
   ·by_cases e:k=i
    ·subst e
     exact k3.has g4
    ·exact k4 k (by omega) j2 j3
def Closed (w:Wheel) (al:List Int) (M:List (PointT_×Step_)) (X:Pn):Prop:=(0<X.c->0<X.p->zbv M (pnt (zs7 (clT (total al)) X))=true)/\∀k:Nat,k<w.Coins.length->X.l.getD k 0≠al.getD k 0->zbv M (pnt (zq0 (clT (total al)) w X k))=true
theorem Closed.ext {w al A M q A' M' q'} (h:Ext A M q A' M' q') {X:Pn} (hc:Closed w al M X):Closed w al M' X:=⟨fun a b=>h.has (hc.1 a b),fun k a b=>h.has (hc.2 k a b)⟩
theorem znU {w al} (C:Cx w al) {n:Nat} (hn:200<=n) {b:Box_} (hb:b.Box.Wheel=w):∀(m:Nat) {A M q},93312+q.length<m+M.length->WI w al A M->q.length<=M.length->(∀k,k∈q->zbv M k=true)->zbv M (pnt (zlD w))=true->(∀acts X,RP (clT (total al)) w al acts X->zbv M (pnt X)=true->pnt X∉q->Closed w al M X) ->
  ∃A' M',zdu n b (zb5 al) m (M,q)=some M'/\WI w al A' M'/\∀acts X,RP (clT (total al)) w al acts X->zbv M' (pnt X)=true
 | 0,A,M,q,hf,hW,_,_,_,_=>by
  have:=hW.len C
  omega
 | m+1,A,M,[],hf,hW,hq,hqm,hz,hcl=>by
  refine ⟨A,M,rfl,hW,fun acts X hr=>?_⟩
  induction hr with
  | zero=>exact hz
  | sel hr hc hp ih=>exact (hcl _ _ hr ih (by simp)).1 hc hp
  | coin hr hk hne ih=>exact (hcl _ _ hr ih (by simp)).2 _ hk hne
 | m+1,A,M,x::q,hf,hW,hq,hqm,hz,hcl=>by
  have hx:zbv M x=true:=hqm x (by simp)
  obtain ⟨X,rfl,hr⟩:=hW.key hx
  simp only [List.length_cons] at hf hq
  obtain ⟨A1,M1,q1,g1,g2,g3,g4⟩:=zsP C hn hb hW hx hr (show q.length<=M.length by omega)
  have hl1:=g3.len
  obtain ⟨A2,M2,q2,k1,k2,k3,k4⟩:=zll C hn hb w.Coins.length 0 n (by omega) (by have:=C.k3;omega) g2 (g3.has hx) (by rw [g3.same _ hx];exact hr) (show q1.length<=M1.length by omega)
  have hl2:=k3.len
  have hE:=g3.trans k3
  have hXc:Closed w al M2 X:=⟨fun a b=>k3.has (g4 a b),fun k a b=>k4 k (Nat.zero_le _) a b⟩
  have hX:=zn5 C hr
  obtain ⟨A',M',j1,j2,j3⟩:=znU C hn hb m (A:=A2) (M:=M2) (q:=q2) (by omega) k2 (by omega) (fun k hk=>by
   obtain ⟨N,e1,e2⟩:=hE.ex
   rw [e2] at hk
   rcases List.mem_append.1 hk with hk | hk
   ·exact hE.has (hqm k (List.mem_cons_of_mem _ hk))
   ·rw [zbg,e1,List.map_append]
    exact List.mem_append_right _ hk) (hE.has hz) fun acts Y hY hm hnq=>by
   obtain ⟨o1,o2⟩:=hE.out hm hnq
   by_cases e:pnt Y=pnt X
   ·obtain rfl:=zu9 e (by rw [(zn5 C hY).1.len,hX.1.len]) (by rw [(zn5 C hY).1.len];have:=C.k3;omega)
    exact hXc
   ·exact (hcl acts Y hY o1 (by simp only [List.mem_cons,not_or];exact ⟨e,o2⟩)).ext hE
  refine ⟨A',M',?_,j2,j3⟩
  unfold zdu
  simp only
  rw [g1,zaa]
  show Option.bind (zby n b (zb5 al) (pnt X) n ((0:Nat):Int) (M1,q1)) _=_
  rw [k1,zaa]
  exact j1
theorem zpV (w:Wheel):pnt (zlD w)=zaN:=by
 have h:=fun k=>zlj w k
 unfold pnt zlD zb5
 simp only [h]
theorem zsQ {w al} (C:Cx w al) {n:Nat} (hn:100000<=n) {b:Box_} (hb:b.Box.Wheel=w):∃A M,zdo n (some b) (zb5 al)=some M/\WI w al A M/\∀acts X,RP (clT (total al)) w al acts X->zbv M (pnt X)=true:=by
 have hz:zbv [(zaN,(⟨-2,zaN⟩:Step_))] (pnt (zlD w))=true:=by rw [zpV];simp [zbv]
 exact znU C (by omega) hb n (A:=fun _=>[]) (M:=[(zaN,⟨-2,zaN⟩)]) (q:=[zaN]) (by simp;omega) ⟨by simp,fun k st hm=>by
  simp only [List.mem_singleton,Prod.mk.injEq] at hm
  obtain ⟨rfl,rfl⟩:=hm
  exact ⟨⟨zlD w,(zpV w).symm,.zero⟩,.inl ⟨rfl,rfl⟩⟩⟩ (by simp) (by simp [zbv]) hz fun acts X hr hm hnq=>by
  exfalso
  rw [zbg] at hm
  exact hnq hm
theorem zsR {w al} (C:Cx w al) {A M} (hW:WI w al A M):∀(m:Nat) {k:PointT_} {acts:List Int},zbv M k=true->(A k).length<m->acts.length+(A k).length<100000->zdO M m (zg0 za7 M k) acts=some (acts++(A k).reverse)
 | 0,k,acts,hk,hm,_=>absurd hm (Nat.not_lt_zero _)
 | m+1,k,acts,hk,hm,hl=>by
  unfold zdO
  rcases (hW.pt k _ (zgP za7 hk)).2 with ⟨h1,h2⟩ | ⟨h1,h2,h3⟩
  ·rw [if_neg (by simpa using h1),h2]
   simp
  ·rw [h3,List.length_append,List.length_singleton] at hm hl
   obtain ⟨Y,e,hr⟩:=hW.key h2
   rw [if_pos (by simpa using h1),if_pos (by omega),show zgI zbG za7 M (zg0 za7 M k).from_=some (zg0 za7 M (zg0 za7 M k).from_) from if_pos (by rw [e];exact hW.mok C hr),zaa,zsR C hW m h2 (by omega) (by simp;omega)]
   conv=>rhs;rw [h3]
   simp
def sums (a b:List Int):List Int:=List.zipWith (·+·) a b
theorem zhZ {a b:List Int} (h:b.length=a.length):(sums a b).length=a.length:=by simp [sums,h]
theorem zgZ:∀{a b:List Int},b.length=a.length->∀k,(sums a b).getD k 0=a.getD k 0+b.getD k 0
 | [],[],_,k=>by simp [sums]
 | [],_::_,h,_=>by simp at h
 | _::_,[],h,_=>by simp at h
 | x::a,y::b,h,0=>by simp [sums]
 | x::a,y::b,h,k+1=>by
  have:=zgZ (a:=a) (b:=b) (by simpa using h) k
  simpa [sums] using this
theorem zfS:∀{a b:List Int},b.length=a.length->total (sums a b)=total a+total b
 | [],[],_=>rfl
 | [],_::_,h=>by simp at h
 | _::_,[],h=>by simp at h
 | x::a,y::b,h=>by
  have:=zfS (a:=a) (b:=b) (by simpa using h)
  simp only [sums,List.zipWith_cons_cons,total] at this ⊢
  omega
def zji (l:List Int):Prop:=∀k,0<=l.getD k 0/\l.getD k 0<=1000
theorem zji.sums {a b:List Int} (h:b.length=a.length) (ha:∀k,0<=a.getD k 0/\a.getD k 0<=500) (hb:∀k,0<=b.getD k 0/\b.getD k 0<=500):zji (sums a b):=fun k=>by
 rw [zgZ h]
 have:=ha k
 have:=hb k
 omega
theorem getD_get {l:List Int} {k:Nat} (h:k<l.length):l[k]=l.getD k 0:=by simp [h]
theorem zsS {n:Nat} {a b:List Int} (h:b.length=a.length) (ha:zji a) (hb:zji b) (hl:a.length<1000) (hn:a.length<n):zhT n a b=some (sums a b):=by
 have key:∀(d i m:Nat) (v:List Int),d=a.length-i->i<=a.length->d<m->v.length=i->zdb a b m v (i:Int)=some (v++(sums a b).drop i):=by
  intro d
  induction d with
  | zero =>
   intro i m v hd hi hm hv
   obtain ⟨m,rfl⟩:∃q,m=q+1:=⟨m-1,by omega⟩
   simp only [zdb,zeG,zfI]
   rw [if_neg (by simp;omega),List.drop_eq_nil_of_le (by rw [zhZ h];omega),List.append_nil]
  | succ d ih =>
   intro i m v hd hi hm hv
   obtain ⟨m,rfl⟩:∃q,m=q+1:=⟨m-1,by omega⟩
   have h1:=ha i
   have h2:=hb i
   simp only [zdb,zeG]
   rw [if_pos (by simp;omega),zcL (by omega),zaa,zcL (by omega),zaa,getD_get,getD_get,zaP (by omega) (by omega),zk1 (by simp;omega),zaa,zaP (by omega) (by omega)]
   have:=ih (i+1) m (v++[a.getD i 0+b.getD i 0]) (by omega) (by omega) (by omega) (by simp [hv])
   rw [show (((i+1:Nat)):Int)=(i:Int)+1 by simp] at this
   rw [this,List.drop_eq_getElem_cons (l:=sums a b) (i:=i) (by rw [zhZ h];omega),getD_get,zgZ h]
   simp
 have:=key a.length 0 n [] (by omega) (by omega) hn rfl
 rw [List.nil_append,List.drop_zero] at this
 exact this
theorem ztV {n:Nat} {l:List Int} (hs:zji l) (hl:l.length<1000) (hn:l.length<n):zg8 n l=some (total l):=by
 have key:=zqS (F:=fun m i (s:Int)=>zcX l m s i) (xs:=l) (spec:=fun k s=>some (s+total k)) (I:=fun k s=>0<=s/\s+1000*k.length<=100000000/\∀x,x∈k->0<=x/\x<=1000) (by omega)
  (fun m s hI=>by simp [zcX,zeg,ze8,total])
  (fun m i x k s hI hx hi _ _ hrec=>by
   obtain ⟨i1,i2,i3⟩:=hI
   have hxr:=i3 x (by simp)
   simp only [List.length_cons] at i2
   simp only [zcX,zeg]
   rw [if_pos (by simpa using hi),hx,zaa,zaP (x:=s+x) (by omega) (by omega),hrec (s+x) ⟨by omega,by omega,fun y hy=>i3 y (by simp [hy])⟩]
   simp only [total]
   congr 1
   omega)
  l 0 n 0 (by omega) rfl (by omega) ⟨by omega,by omega,fun x hx=>by
   obtain ⟨k,hk⟩:=List.getElem?_of_mem hx
   have:=hs k
   rwa [List.getD_eq_getElem?_getD,hk] at this⟩
 rw [show zg8 n l=_ from key,Int.zero_add]
theorem zh0 (a b c:Int):zcY a b c=some (inR a b c):=by
 unfold zcY zc3 inR
 by_cases h:b<=a<;>simp [h]
theorem zjI (a b c:Int):zeu a b c=some (inR a b c):=by
 unfold zeu
 rw [zhM,zaa]
def zyC (b:Box):Prop:=∀k,k<b.Found.length->0<=b.Marked.getD k 0/\b.Marked.getD k 0<=b.Found.getD k 0
instance (b:Box):Decidable (zyC b):=inferInstanceAs (Decidable (∀k,k<b.Found.length->0<=b.Marked.getD k 0/\b.Marked.getD k 0<=b.Found.getD k 0))
structure BoxOk (b:Box):Prop where
 v:valid b.Wheel=true
 p:inR b.Plays 0 9999=true
 s:inR b.Skips 0 9=true
 f:zbj b.Wheel b.Found=true
 g:zbj b.Wheel b.Slugs=true
 ml:b.Marked.length=b.Found.length
 mkd:zyC b
 t:total b.Found+total b.Slugs<=12
open Classical in
noncomputable def znV (b:Box):Bool:=decide (BoxOk b)
theorem zhN {b:Box}:znV b=true↔BoxOk b:=by simp [znV]
theorem zjj {b:Box} (h:¬BoxOk b):znV b=false:=by simp [znV,h]
def zvR (b:Box):Prop:=b.Wheel.Notches.length<=40/\b.Wheel.Coins.length<=40/\b.Found.length<=40/\b.Marked.length<=40/\b.Slugs.length<=40
theorem zer {w:Wheel} {l:List Int} (h:zbj w l=true):l.length=w.Coins.length/\(∀k,0<=l.getD k 0/\l.getD k 0<=12)/\total l<=12:=by
 obtain ⟨h1,h2⟩:=zpR h
 simp only [zbj,Bool.and_eq_true,decide_eq_true_eq] at h
 refine ⟨h.1.1,fun k=>?_,h2⟩
 have:=zfF h1.nn k
 omega
theorem znW {w:Wheel} {l:List Int} (h:zbj w l=true):l.all (fun x=>inR x 0 12)=true:=by
 simp only [zbj,Bool.and_eq_true] at h
 exact h.1.2
open Classical in
theorem zyD (b:Box) (n:Nat) (hl:zvR b) (hn:200<=n):zf0 n b=some (cond (znV b) 0 50):=by
 obtain ⟨l1,l2,l3,l4,l5⟩:=hl
 unfold zf0
 have hol:zj5 n b.Wheel:=⟨by omega,by omega,by omega,by omega⟩
 have no:∀h:¬BoxOk b,(some 50:Option Int)=some (cond (znV b) 0 50):=fun h=>by rw [zjj h];rfl
 have j1:zch n b true=some 50:=rfl
 rw [znK hol,zaa]
 by_cases hv:valid b.Wheel=true
 ·rw [hv]
  show Option.bind _ _=_
  rw [zjD (by omega) (by omega),zaa]
  by_cases hf:zbj b.Wheel b.Found=true
  ·rw [if_neg (by simp [hf]),zjD (by omega) (by omega),zaa]
   by_cases hg:zbj b.Wheel b.Slugs=true
   ·rw [if_neg (by simp [hg])]
    by_cases hm:b.Marked.length=b.Found.length
    ·rw [if_neg (by simp;omega),zjI,zaa]
     by_cases hp:inR b.Plays 0 9999=true
     ·rw [if_neg (by simp [hp]),zjI,zaa]
      by_cases hs:inR b.Skips 0 9=true
      ·rw [hs]
       show zcg n b n 0=_
       obtain ⟨f1,f2,f3⟩:=zer hf
       obtain ⟨g1,g2,g3⟩:=zer hg
       have hfg:b.Slugs.length=b.Found.length:=by omega
       have hS:=zji.sums hfg (fun k=>by have:=f2 k;omega) (fun k=>by have:=g2 k;omega)
       have hj2:zd6 n b=some (if total b.Found+total b.Slugs<=12 then 0 else 50):=by
        unfold zd6
        rw [zsS hfg (fun k=>by have:=f2 k;omega) (fun k=>by have:=g2 k;omega) (by omega) (by omega),zaa,zjD (by omega) (by omega),zaa]
        by_cases ht:total b.Found+total b.Slugs<=12
        ·rw [if_pos ht,if_neg]
         have hnn:∀k,0<=(sums b.Found b.Slugs).getD k 0:=fun k=>(hS k).1
         have:zbj b.Wheel (sums b.Found b.Slugs)=true:=by
          simp only [zbj,Bool.and_eq_true,decide_eq_true_eq,List.all_eq_true]
          refine ⟨⟨by rw [zhZ hfg];omega,fun x hx=>?_⟩,by rw [zfS hfg];exact ht⟩
          obtain ⟨k,hk⟩:=List.getElem?_of_mem hx
          have h1:=zfF (zgx hnn) k
          rw [zfS hfg] at h1
          rw [List.getD_eq_getElem?_getD,hk] at h1
          exact zbW.2 ⟨h1.1,Int.le_trans h1.2 ht⟩
         simp [this]
        ·rw [if_neg ht,if_pos]
         have:zbj b.Wheel (sums b.Found b.Slugs)=false:=by
          simp only [zbj,zfS hfg]
          simp [ht]
         simp [this]
       have key:∀(d i m:Nat),d=b.Found.length-i->i<=b.Found.length->d<m->zcg n b m (i:Int)=some (if (∀k,i<=k->k<b.Found.length->0<=b.Marked.getD k 0/\b.Marked.getD k 0<=b.Found.getD k 0)/\total b.Found+total b.Slugs<=12 then 0 else 50):=by
        intro d
        induction d with
        | zero =>
         intro i m hd hi hm
         obtain ⟨m,rfl⟩:∃q,m=q+1:=⟨m-1,by omega⟩
         simp only [zcg,zef]
         rw [if_neg (by simp;omega),hj2]
         congr 1
         by_cases ht:total b.Found+total b.Slugs<=12
         ·rw [if_pos ht,if_pos ⟨fun k h1 h2=>by omega,ht⟩]
         ·rw [if_neg ht,if_neg fun h=>ht h.2]
        | succ d ih =>
         intro i m hd hi hm
         obtain ⟨m,rfl⟩:∃q,m=q+1:=⟨m-1,by omega⟩
         simp only [zcg,zef]
         rw [if_pos (by simp;omega),zcL (by omega),zaa,zcL (by omega),zaa,zjI,zaa,getD_get,getD_get,zaP (by omega) (by omega)]
         have:=ih (i+1) m (by omega) (by omega) (by omega)
         rw [show (((i+1:Nat)):Int)=(i:Int)+1 by simp] at this
         by_cases hq:inR (b.Marked.getD i 0) 0 (b.Found.getD i 0)=true
         ·rw [if_neg (by rw [hq];simp),this]
          congr 1
          by_cases hR:(∀k,i+1<=k->k<b.Found.length->0<=b.Marked.getD k 0/\b.Marked.getD k 0<=b.Found.getD k 0)/\total b.Found+total b.Slugs<=12
          ·have hall:∀k,i<=k->k<b.Found.length->0<=b.Marked.getD k 0/\b.Marked.getD k 0<=b.Found.getD k 0:=fun k h1 h2=>by
            by_cases e:k=i
            ·subst e
             exact zbW.1 hq
            ·exact hR.1 k (by omega) h2
           rw [if_pos hR,if_pos ⟨hall,hR.2⟩]
          ·rw [if_neg hR,if_neg fun h=>hR ⟨fun k h1 h2=>h.1 k (by omega) h2,h.2⟩]
         ·rw [if_pos (by simpa using hq),if_neg fun h=>hq (zbW.2 (h.1 i (Nat.le_refl _) (by omega)))]
       rw [show zcg n b n 0=_ from key b.Found.length 0 n (by omega) (by omega) (by omega)]
       by_cases hR:(∀k,0<=k->k<b.Found.length->0<=b.Marked.getD k 0/\b.Marked.getD k 0<=b.Found.getD k 0)/\total b.Found+total b.Slugs<=12
       ·rw [if_pos hR,zhN.2 ⟨hv,hp,hs,hf,hg,hm,fun k hk=>hR.1 k (Nat.zero_le _) hk,hR.2⟩]
        rfl
       ·rw [if_neg hR]
        exact no fun h=>hR ⟨fun k _ hk=>h.mkd k hk,h.t⟩
      ·rw [show (!inR b.Skips 0 9)=true by simpa using hs,j1]
       exact no fun h=>hs h.s
     ·rw [if_pos (by simpa using hp),j1]
      exact no fun h=>hp h.p
    ·rw [if_pos (by simp;omega),j1]
     exact no fun h=>hm h.ml
   ·rw [if_pos (by simpa using hg),j1]
    exact no fun h=>hg h.g
  ·rw [if_pos (by simpa using hf),j1]
   exact no fun h=>hf h.f
 ·rw [show valid b.Wheel=false by simpa using hv]
  exact no fun h=>hv h.v
theorem zsT {n:Nat} (f:Int->Option Bool) (g:Int->Bool) (xs:List Int) (hf:∀x,x∈xs->f x=some (g x)) (hl:xs.length<1048576) (hn:xs.length<n) :
  zbr n (fun x (_:Unit)=>(f x).map fun y=>(y,())) xs ()=some (xs.any g,()):=by
 have key:∀(l:List Int) (i m:Nat) (s:Unit),i<=xs.length->xs.drop i=l->l.length<m->(zas xs (fun x (_:Unit)=>(f x).map fun y=>(y,())) m (i:Int) s).map (fun r=>decide (r.1≥0))=some (l.any g):=by
  intro l i m s h1 h2 h3
  refine ztL (fun m i s=>(zas xs (fun x (_:Unit)=>(f x).map fun y=>(y,())) m i s).map (fun r=>decide (r.1≥0))) xs (fun l _=>some (l.any g)) hl (fun m s=>?_) (fun m i x l s hx hi _ _ hrec=>?_) l i m s h1 h2 h3
  ·simp [zas,zbb,zbQ]
  ·have hmem:x∈xs:=by
    unfold idx at hx
    rw [if_pos (by omega)] at hx
    exact List.mem_of_getElem? hx
   simp only [zas,zbb]
   rw [if_pos (by simpa using hi),hx,zaa]
   simp only [hf x hmem,Option.map_some,zaa]
   by_cases hg:g x=true
   ·rw [if_pos (by simpa using hg)]
    simp [hg]
   ·rw [if_neg (by simpa using hg)]
    have:=hrec ()
    rw [this]
    simp [hg]
 have h:=key xs 0 n () (by omega) rfl hn
 unfold zbr zc0
 change Option.map _ (zas xs _ n 0 ())=_ at h
 cases hx:zas xs (fun x (_:Unit)=>(f x).map fun y=>(y,())) n 0 () with
 | none=>rw [hx] at h;cases h
 | some r =>
  rw [hx] at h
  simp only [Option.map_some,Option.some.injEq] at h
  simp only [zaa]
  rw [h]
def ztW (w:Wheel) (l:List Int):Bool:=decide (l.length≠w.Coins.length) || l.any (fun x=>!inR x 0 12)
theorem zmU {n:Nat} (hn:200<=n) (b:Box) (m:Nat) (i:Int) (l:List Int) (hi:i<3) (h0:0<=i) (hl:l.length<=40) (hc:b.Wheel.Coins.length<=40) (hx:idx ([b.Found,b.Marked,b.Slugs]:List (List Int)) i=some l) :
  zaQ n b (m+1) i=if ztW b.Wheel l=true then some 50 else zaQ n b m (i+1):=by
 simp only [zaQ,zeJ,zdk]
 rw [if_pos (by simpa using hi),hx,zaa,zsT zdj (fun x=>!inR x 0 12) l (fun x _=>by unfold zdj;rw [zh0,zaa]) (by omega) (by omega),zaa,zaP (x:=i+1) (by omega) (by omega)]
 unfold ztW
 by_cases h1:l.length=b.Wheel.Coins.length
 ·rw [if_neg (by simp;omega),show decide (l.length≠b.Wheel.Coins.length)=false by simp [h1],Bool.false_or]
 ·rw [if_pos (by simp;omega),show decide (l.length≠b.Wheel.Coins.length)=true by simp [h1],Bool.true_or]
  rfl
theorem zoW {w:Wheel} {l:List Int} (h:ztW w l=false):l.length=w.Coins.length/\l.all (fun x=>inR x 0 12)=true:=by
 simp only [ztW,Bool.or_eq_false_iff,decide_eq_false_iff_not,Decidable.not_not,List.any_eq_false,List.all_eq_true] at h ⊢
 exact ⟨h.1,fun x hx=>by simpa using h.2 x hx⟩
theorem zoX {w:Wheel} {l:List Int} (h1:l.length=w.Coins.length) (h2:l.all (fun x=>inR x 0 12)=true):ztW w l=false:=by
 rw [List.all_eq_true] at h2
 simp only [ztW,Bool.or_eq_false_iff,decide_eq_false_iff_not,Decidable.not_not,List.any_eq_false]
 exact ⟨h1,fun x hx=>by simp [h2 x hx]⟩
open Classical in
theorem zsU (b:Box) (n:Nat) (hl:zvR b) (hn:200<=n):zfJ n b=some (cond (znV b) 0 50):=by
 obtain ⟨l1,l2,l3,l4,l5⟩:=hl
 have hol:zj5 n b.Wheel:=⟨by omega,by omega,by omega,by omega⟩
 have no:∀h:¬BoxOk b,(some 50:Option Int)=some (cond (znV b) 0 50):=fun h=>by rw [zjj h];rfl
 have j1:zcM n b true=some 50:=rfl
 unfold zfJ
 rw [zmL hol,zaa]
 by_cases hv:valid b.Wheel=true
 ·rw [hv]
  show Option.bind _ _=_
  rw [zh0,zaa]
  by_cases hp:inR b.Plays 0 9999=true
  ·rw [if_neg (by simp [hp]),zh0,zaa]
   by_cases hs:inR b.Skips 0 9=true
   ·rw [hs]
    show zaQ n b n 0=_
    obtain ⟨n,rfl⟩:∃q,n=q+4:=⟨n-4,by omega⟩
    have en:∀m i,zaQ (n+4) b (m+1) i=zaQ (n+4) b (m+1) i:=fun _ _=>rfl
    rw [show zaQ (n+4) b (n+4) 0=zaQ (n+4) b ((n+3)+1) 0 from rfl,zmU hn b (n+3) 0 b.Found (by omega) (by omega) (by omega) l2 rfl]
    by_cases b1:ztW b.Wheel b.Found=true
    ·rw [if_pos b1]
     exact no fun h=>by rw [zoX (zer h.f).1 (znW h.f)] at b1;cases b1
    rw [if_neg b1,show zaQ (n+4) b (n+3) (0+1)=zaQ (n+4) b ((n+2)+1) 1 from rfl,zmU hn b (n+2) 1 b.Marked (by omega) (by omega) (by omega) l2 rfl]
    obtain ⟨f1,f2⟩:=zoW (by simpa using b1)
    by_cases b2:ztW b.Wheel b.Marked=true
    ·rw [if_pos b2]
     refine no fun h=>?_
     rw [zoX (by rw [h.ml];exact f1) (List.all_eq_true.2 fun x hx=>?_)] at b2
     ·cases b2
     ·obtain ⟨k,hk⟩:=List.getElem?_of_mem hx
      have hkl:k<b.Marked.length:=by
       rcases Nat.lt_or_ge k b.Marked.length with h1 | h1
       ·exact h1
       ·rw [List.getElem?_eq_none h1] at hk
        cases hk
      have h1:=h.mkd k (by have:=h.ml;omega)
      have h2:=(zer h.f).2.1 k
      rw [List.getD_eq_getElem?_getD,hk] at h1
      have h3:0<=x/\x<=b.Found.getD k 0:=h1
      exact zbW.2 ⟨h3.1,by omega⟩
    rw [if_neg b2,show zaQ (n+4) b (n+2) (1+1)=zaQ (n+4) b ((n+1)+1) 2 from rfl,zmU hn b (n+1) 2 b.Slugs (by omega) (by omega) (by omega) l2 rfl]
    obtain ⟨m1,m2⟩:=zoW (by simpa using b2)
    by_cases b3:ztW b.Wheel b.Slugs=true
    ·rw [if_pos b3]
     exact no fun h=>by rw [zoX (zer h.g).1 (znW h.g)] at b3;cases b3
    rw [if_neg b3]
    obtain ⟨g1,g2⟩:=zoW (by simpa using b3)
    have sm:∀{l:List Int},l.all (fun x=>inR x 0 12)=true->∀k,0<=l.getD k 0/\l.getD k 0<=12:=fun {l} h k=>by
     rw [List.all_eq_true] at h
     rw [List.getD_eq_getElem?_getD]
     cases hk:l[k]? with
     | none=>simp
     | some x=>exact zbW.1 (h x (List.mem_of_getElem? hk))
    have f3:=sm f2
    have g3:=sm g2
    have m3:=sm m2
    show zbB b (n+4) 0 0=_
    have key:∀(d i m:Nat) (v:Int),d=b.Found.length-i->i<=b.Found.length->d<m->0<=v->v<=100*i->zbB b m v (i:Int)=some (if (∀k,i<=k->k<b.Found.length->b.Marked.getD k 0<=b.Found.getD k 0)/\v+total (b.Found.drop i)+total (b.Slugs.drop i)<=12 then 0 else 50):=by
     intro d
     induction d with
     | zero =>
      intro i m v hd hi hm h0 h1
      obtain ⟨m,rfl⟩:∃q,m=q+1:=⟨m-1,by omega⟩
      simp only [zbB,zdz,zeh]
      have e1:total (b.Found.drop i)=0:=by rw [List.drop_eq_nil_of_le (by omega)];rfl
      have e2:total (b.Slugs.drop i)=0:=by rw [List.drop_eq_nil_of_le (by omega)];rfl
      rw [if_neg (by simp;omega)]
      by_cases ht:v>12
      ·rw [if_pos (by simpa using ht),if_neg fun h=>by omega]
      ·rw [if_neg (by simpa using ht),if_pos ⟨fun k h1 h2=>by omega,by omega⟩]
     | succ d ih =>
      intro i m v hd hi hm h0 h1
      obtain ⟨m,rfl⟩:∃q,m=q+1:=⟨m-1,by omega⟩
      have fi:=f3 i
      have gi:=g3 i
      simp only [zbB,zdz]
      rw [if_pos (by simp;omega),zcL (by omega),zaa,zcL (by omega),zaa,getD_get,getD_get]
      by_cases hq:b.Marked.getD i 0>b.Found.getD i 0
      ·rw [if_pos (by simpa using hq),if_neg fun h=>by have:=h.1 i (Nat.le_refl _) (by omega);omega]
      ·rw [if_neg (by simpa using hq),zcL (by omega),zaa,getD_get,zaP (x:=b.Found.getD i 0+b.Slugs.getD i 0) (by omega) (by omega),zaP (x:=v+_) (by omega) (by omega),zaP (x:=(i:Int)+1) (by omega) (by omega)]
       have:=ih (i+1) m (v+(b.Found.getD i 0+b.Slugs.getD i 0)) (by omega) (by omega) (by omega) (by omega) (by omega)
       rw [show (((i+1:Nat)):Int)=(i:Int)+1 by simp] at this
       have e1:total (b.Found.drop i)=b.Found.getD i 0+total (b.Found.drop (i+1)):=by rw [List.drop_eq_getElem_cons (l:=b.Found) (i:=i) (by omega),getD_get];rfl
       have e2:total (b.Slugs.drop i)=b.Slugs.getD i 0+total (b.Slugs.drop (i+1)):=by rw [List.drop_eq_getElem_cons (l:=b.Slugs) (i:=i) (by omega),getD_get];rfl
       rw [this]
       congr 1
       by_cases hR:(∀k,i+1<=k->k<b.Found.length->b.Marked.getD k 0<=b.Found.getD k 0)/\v+(b.Found.getD i 0+b.Slugs.getD i 0)+total (b.Found.drop (i+1))+total (b.Slugs.drop (i+1))<=12
       ·have hall:∀k,i<=k->k<b.Found.length->b.Marked.getD k 0<=b.Found.getD k 0:=fun k h1 h2=>by
         by_cases e:k=i
         ·subst e
          omega
         ·exact hR.1 k (by omega) h2
        rw [if_pos hR,if_pos ⟨hall,by have:=hR.2;omega⟩]
       ·rw [if_neg hR,if_neg fun h=>hR ⟨fun k h1 h2=>h.1 k (by omega) h2,by have:=h.2;omega⟩]
    rw [show zbB b (n+4) 0 0=_ from key b.Found.length 0 (n+4) 0 (by omega) (by omega) (by omega) (by omega) (by omega)]
    simp only [List.drop_zero,Int.zero_add]
    have nnf:∀x,x∈b.Found->0<=x:=zgx fun k=>(f3 k).1
    have nng:∀x,x∈b.Slugs->0<=x:=zgx fun k=>(g3 k).1
    by_cases hR:(∀k,0<=k->k<b.Found.length->b.Marked.getD k 0<=b.Found.getD k 0)/\total b.Found+total b.Slugs<=12
    ·have tf:=zdE nnf
     have tg:=zdE nng
     rw [if_pos hR,zhN.2 ⟨hv,hp,hs,by simp only [zbj,Bool.and_eq_true,decide_eq_true_eq];exact ⟨⟨f1,f2⟩,by have:=hR.2;omega⟩,by simp only [zbj,Bool.and_eq_true,decide_eq_true_eq];exact ⟨⟨g1,g2⟩,by have:=hR.2;omega⟩,by omega,fun k hk=>⟨(m3 k).1,hR.1 k (Nat.zero_le _) hk⟩,hR.2⟩]
     rfl
    ·rw [if_neg hR]
     exact no fun h=>hR ⟨fun k _ hk=>(h.mkd k hk).2,h.t⟩
   ·rw [show (!inR b.Skips 0 9)=true by simpa using hs,j1]
    exact no fun h=>hs h.s
  ·rw [if_pos (by simpa using hp),j1]
   exact no fun h=>hp h.p
 ·rw [show valid b.Wheel=false by simpa using hv]
  exact no fun h=>hv h.v
def zh6 (b:Box):List Int:=sums b.Found b.Slugs
structure Near (b:Box):Prop where
 ok:BoxOk b
 k3:b.Wheel.Coins.length<=3
 t3:total b.Found+total b.Slugs<=3
theorem zmV {l:List Int} {k j:Nat} {v:Int} (hk:k<l.length):(l.set k v).getD j 0=if k=j then v else l.getD j 0:=by
 by_cases e:k=j
 ·subst e
  rw [if_pos rfl,List.getD_eq_getElem?_getD,List.getElem?_set_self hk]
  rfl
 ·rw [if_neg e,List.getD_eq_getElem?_getD,List.getElem?_set_ne e,←List.getD_eq_getElem?_getD]
structure NearF (b:Box):Prop where
 fl:b.Found.length=b.Wheel.Coins.length
 sl:b.Slugs.length=b.Wheel.Coins.length
 ml:b.Marked.length=b.Wheel.Coins.length
 f:∀k,0<=b.Found.getD k 0/\b.Found.getD k 0<=12
 s:∀k,0<=b.Slugs.getD k 0/\b.Slugs.getD k 0<=12
 m:∀k,0<=b.Marked.getD k 0/\b.Marked.getD k 0<=12
 p:0<=b.Plays/\b.Plays<=9999
 k:0<=b.Skips/\b.Skips<=9
 h:OkW b.Wheel
theorem BoxOk.far {b:Box} (N:BoxOk b):NearF b:=by
 obtain ⟨f1,f2,f3⟩:=zer N.f
 obtain ⟨g1,g2,g3⟩:=zer N.g
 refine ⟨f1,g1,by rw [N.ml];exact f1,f2,g2,fun k=>?_,zbW.1 N.p,zbW.1 N.s,zeR N.v⟩
 rcases Nat.lt_or_ge k b.Found.length with h | h
 ·have:=N.mkd k h
  have:=f2 k
  omega
 ·rw [List.getD_eq_getElem?_getD,List.getElem?_eq_none (by rw [N.ml];exact h)]
  simp
theorem zhO {b:Box} (F:NearF b):(zh6 b).length=b.Wheel.Coins.length:=by rw [zh6,zhZ (by rw [F.sl,F.fl]),F.fl]
theorem zh1 {b:Box} (F:NearF b) (k:Nat):(zh6 b).getD k 0=b.Found.getD k 0+b.Slugs.getD k 0:=zgZ (by rw [F.sl,F.fl]) k
theorem zlm {b:Box} (F:NearF b):total (zh6 b)=total b.Found+total b.Slugs:=zfS (by rw [F.sl,F.fl])
structure More (b:Box) (P:List Int):Prop where
 l:P.length=b.Wheel.Coins.length
 nn:∀k,0<=P.getD k 0
 t:total P<=2
theorem More.small {b:Box} {P:List Int} (h:More b P):∀k,0<=P.getD k 0/\P.getD k 0<=2:=fun k=>by
 have:=zfF (zgx h.nn) k
 have:=h.t
 omega
theorem Near.cx0 {b:Box} (N:Near b):Cx b.Wheel (zh6 b) :=
 have F:=N.ok.far
 ⟨N.ok.v,zhO F,fun k=>by rw [zh1 F];have:=F.f k;have:=F.s k;omega,N.k3,by rw [zlm F];have:=N.t3;omega⟩
theorem Near.cx {b:Box} (N:Near b) {P:List Int} (h:More b P):Cx b.Wheel (sums (zh6 b) P) :=
 have F:=N.ok.far
 have e:P.length=(zh6 b).length:=by rw [h.l,zhO F]
 ⟨N.ok.v,by rw [zhZ e,zhO F],fun k=>by rw [zgZ e,zh1 F];have:=F.f k;have:=F.s k;have:=h.nn k;omega,N.k3,by rw [zfS e,zlm F];have:=N.t3;have:=h.t;omega⟩
theorem put_eq {b:Box} (F:NearF b) (h4:b.Wheel.Coins.length<=4) {n:Nat} (hn:10<=n):zdN n (some ⟨b⟩)=some (zb5 (zh6 b)):=by
 have hfl:=F.fl
 have hsl:=F.sl
 have key:∀(d i m:Nat) (Q:List Int),d=b.Found.length-i->i<=b.Found.length->d<m->Q.length=b.Found.length->(∀k:Nat,k<i->Q.getD k 0=b.Found.getD k 0+b.Slugs.getD k 0)->zbR (some ⟨b⟩) ⟨b⟩ m (i:Int) (Q.getD 0 0) (Q.getD 1 0) (Q.getD 2 0) (Q.getD 3 0)=some (zb5 (zh6 b)):=by
  intro d
  induction d with
  | zero =>
   intro i m Q hd hi hm hQ hk
   obtain ⟨m,rfl⟩:∃q,m=q+1:=⟨m-1,by omega⟩
   simp only [zbR,zc1,zdB]
   have e:Q=zh6 b:=zgy (n:=b.Found.length) hQ (by rw [zhO F,F.fl]) fun k hk'=>by rw [hk k (by omega),zh1 F]
   rw [if_neg (by simp;omega),e]
   rfl
  | succ d ih =>
   intro i m Q hd hi hm hQ hk
   obtain ⟨m,rfl⟩:∃q,m=q+1:=⟨m-1,by omega⟩
   have h1:=F.f i
   have h2:=F.s i
   simp only [zbR,zc1]
   rw [if_pos (by simp;omega),show idx b.Found (i:Int)=some (b.Found.getD i 0) by rw [zcL (by omega),getD_get],zaa,zaa,show idx (⟨b⟩:Box_).Box.Slugs (i:Int)=some (b.Slugs.getD i 0) by show idx b.Slugs (i:Int)=_;rw [zcL (by omega),getD_get],zaa,show idx ([Q.getD 0 0,Q.getD 1 0,Q.getD 2 0,Q.getD 3 0]:List Int) (i:Int)=some (Q.getD i 0) from ziv (by omega),zaa,zaP (x:=b.Found.getD i 0+_) (by omega) (by omega),show zqm ([Q.getD 0 0,Q.getD 1 0,Q.getD 2 0,Q.getD 3 0]:List Int) (i:Int) (b.Found.getD i 0+b.Slugs.getD i 0)=some (zsC (Q.set i (b.Found.getD i 0+b.Slugs.getD i 0))) from zmO (by omega) (by omega),zaa,zaP (x:=(i:Int)+1) (by omega) (by omega)]
   have:=ih (i+1) m (Q.set i (b.Found.getD i 0+b.Slugs.getD i 0)) (by omega) (by omega) (by omega) (by simp [hQ]) fun k hk'=>by
    rw [zmV (by omega)]
    by_cases e:i=k
    ·subst e
     rw [if_pos rfl]
    ·rw [if_neg e,hk k (by omega)]
   rw [show (((i+1:Nat)):Int)=(i:Int)+1 by simp] at this
   exact this
 have:=key b.Found.length 0 n (List.replicate b.Found.length 0) (by omega) (by omega) (by omega) (by simp) fun k hk=>by omega
 have hz:∀k,(List.replicate b.Found.length (0:Int)).getD k 0=0:=fun k=>by
  rw [List.getD_eq_getElem?_getD,List.getElem?_replicate]
  split<;>rfl
 simp only [hz] at this
 exact this
theorem znX {b:Box} {P base:List Int} (hP:More b P) (hb:base.length=b.Wheel.Coins.length) (hs:zji base) (h4:b.Wheel.Coins.length<=4) {n:Nat} (hn:10<=n):zbI P n 0 (zb5 base)=some (zb5 (sums base P)):=by
 have hl:=hP.l
 have key:∀(d i m:Nat) (Q:List Int),d=P.length-i->i<=P.length->d<m->Q.length=P.length->(∀k:Nat,k<i->Q.getD k 0=base.getD k 0+P.getD k 0)->(∀k:Nat,i<=k->Q.getD k 0=base.getD k 0)->zbI P m (i:Int) (zb5 Q)=some (zb5 (sums base P)):=by
  intro d
  induction d with
  | zero =>
   intro i m Q hd hi hm hQ hk _
   obtain ⟨m,rfl⟩:∃q,m=q+1:=⟨m-1,by omega⟩
   simp only [zbI]
   have e:Q=sums base P:=zgy (n:=P.length) hQ (by rw [zhZ (by omega)];omega) fun k hk'=>by rw [hk k (by omega),zgZ (by omega)]
   rw [if_neg (by simp;omega),e]
  | succ d ih =>
   intro i m Q hd hi hm hQ hk hk2
   obtain ⟨m,rfl⟩:∃q,m=q+1:=⟨m-1,by omega⟩
   have h1:=hs i
   have h2:=hP.small i
   have h3:=hk2 i (Nat.le_refl _)
   simp only [zbI]
   rw [if_pos (by simp;omega),zcL (by omega),zaa,getD_get,show idx ([(zb5 Q).c0,(zb5 Q).c1,(zb5 Q).c2,(zb5 Q).c3]:List Int) (i:Int)=some (Q.getD i 0) from ziv (by omega),zaa,zaP (x:=Q.getD i 0+_) (by omega) (by omega),show zqm ([(zb5 Q).c0,(zb5 Q).c1,(zb5 Q).c2,(zb5 Q).c3]:List Int) (i:Int) (Q.getD i 0+P.getD i 0)=some (zsC (Q.set i (Q.getD i 0+P.getD i 0))) from zmO (by omega) (by omega),zaa,zaP (x:=(i:Int)+1) (by omega) (by omega)]
   have:=ih (i+1) m (Q.set i (Q.getD i 0+P.getD i 0)) (by omega) (by omega) (by omega) (by simp [hQ]) (fun k hk'=>by
    rw [zmV (by omega)]
    by_cases e:i=k
    ·subst e
     rw [if_pos rfl,h3]
    ·rw [if_neg e,hk k (by omega)]) fun k hk'=>by
    rw [zmV (by omega),if_neg (by omega),hk2 k (by omega)]
   rw [show (((i+1:Nat)):Int)=(i:Int)+1 by simp] at this
   exact this
 exact key P.length 0 n base (by omega) (by omega) (by omega) (by omega) (fun k hk=>by omega) fun k _=>rfl
theorem zjk {n:Nat} {b:Box} (h:OkW b.Wheel) (hn:100<=n) {l:List Int} (hlen:l.length=b.Wheel.Coins.length) (hl:zji l):zbc n (some ⟨b⟩) l=some (zda b.Wheel l):=by
 have h4:=h.clen
 have key:∀(d i m:Nat) (s:Int),d=b.Wheel.Coins.length-i->i<=b.Wheel.Coins.length->d<m->0<=s->s+100000*d<=1000000->zbs (some ⟨b⟩) l m s (i:Int)=some (s+ztS b.Wheel l d i):=by
  intro d
  induction d with
  | zero =>
   intro i m s hd hi hm hs hs2
   obtain ⟨m,rfl⟩:∃q,m=q+1:=⟨m-1,by omega⟩
   simp only [zbs,zcI,zc2,ztS]
   rw [if_neg (by simp;omega),Int.add_zero]
  | succ d ih =>
   intro i m s hd hi hm hs hs2
   obtain ⟨m,rfl⟩:∃q,m=q+1:=⟨m-1,by omega⟩
   have ht:=zyA h hl (show i<b.Wheel.Coins.length by omega)
   simp only [zbs,zcI,ztS]
   rw [if_pos (by simp;omega),zcL (by omega),zaa,zaa,show idx (⟨b⟩:Box_).Box.Wheel.Coins (i:Int)=some (coin b.Wheel i) from zkl (w:=b.Wheel) (by omega) (by omega),zaa,getD_get,Int.mul_comm,zaP (x:=coin b.Wheel i*_) (by omega) (by omega),zaP (x:=s+_) (by omega) (by omega),zaP (x:=(i:Int)+1) (by omega) (by omega)]
   have:=ih (i+1) m (s+coin b.Wheel i*l.getD i 0) (by omega) (by omega) (by omega) (by omega) (by omega)
   rw [show (((i+1:Nat)):Int)=(i:Int)+1 by simp] at this
   rw [this]
   congr 1
   omega
 have:=key b.Wheel.Coins.length 0 n 0 (by omega) (by omega) (by omega) (by omega) (by omega)
 rw [Int.zero_add] at this
 exact this
def zln (w:Wheel) (al L:List Int):Prop:=L.Pairwise (·<·)/\∀v,v∈L↔Can w al v
theorem zsV:∀{L:List Int},L.Pairwise (·<=·)->L.Nodup->L.Pairwise (·<·)
 | [],_,_=>.nil
 | x::L,h,hn=>by
  rw [List.pairwise_cons] at h ⊢
  rw [List.nodup_cons] at hn
  refine ⟨fun y hy=>?_,zsV h.2 hn.2⟩
  have:=h.1 y hy
  rcases Int.lt_or_eq_of_le this with h1 | h1
  ·exact h1
  ·subst h1
   exact absurd hy hn.1
theorem zuo:∀{L L':List Int},L.Pairwise (·<·)->L'.Pairwise (·<·)->(∀v,v∈L↔v∈L')->L=L'
 | [],[],_,_,_=>rfl
 | [],y::_,_,_,h=>absurd ((h y).2 (by simp)) (by simp)
 | x::_,[],_,_,h=>absurd ((h x).1 (by simp)) (by simp)
 | x::L,y::L',h1,h2,h=>by
  rw [List.pairwise_cons] at h1 h2
  have e:x=y:=by
   have hx:=(h x).1 (by simp)
   have hy:=(h y).2 (by simp)
   rcases List.mem_cons.1 hx with e | hx
   ·exact e
   ·rcases List.mem_cons.1 hy with e | hy
    ·exact e.symm
    ·have:=h1.1 y hy
     have:=h2.1 x hx
     omega
  subst e
  congr 1
  refine zuo h1.2 h2.2 fun v=>⟨fun hv=>?_,fun hv=>?_⟩
  ·rcases List.mem_cons.1 ((h v).1 (List.mem_cons_of_mem _ hv)) with e | hv'
   ·have:=h1.1 v hv
    omega
   ·exact hv'
  ·rcases List.mem_cons.1 ((h v).2 (List.mem_cons_of_mem _ hv)) with e | hv'
   ·have:=h2.1 v hv
    omega
   ·exact hv'
theorem zln.eq {w:Wheel} {al L L':List Int} (h:zln w al L) (h':zln w al L'):L=L':=zuo h.1 h'.1 fun v=>by rw [h.2,h'.2]
theorem zsW {w:Wheel} {al K:List Int} (hn:K.Nodup) (h:∀v,v∈K↔Can w al v):zln w al (zeX K) :=
 ⟨zsV (zft K) ((zd0 K).nodup_iff.2 hn),fun v=>by rw [(zd0 K).mem_iff];exact h v⟩
theorem zpW {w:Wheel} {al:List Int} (C:Cx w al) {A M} (hW:WI w al A M) (hall:∀acts X,RP (clT (total al)) w al acts X->zbv M (pnt X)=true) :
  ziJ M=true/\EndsOk (zb5 al) (M.map (·.1)) (zew (zb5 al) M)/\zln w al (zeX ((zew (zb5 al) M).map (·.1)))/\(∀v,v∈(zew (zb5 al) M).map (·.1)->okI v=true):=by
 have hE:EndsOk (zb5 al) (M.map (·.1)) (zew (zb5 al) M):=zk5 (zb5 al) (M.map (·.1))
 have hkey:∀o,o∈M.map (·.1)->∃X,o=pnt X/\RP (clT (total al)) w al (A o) X:=fun o ho=>hW.key (zbg.2 ho)
 have hmem:∀v,v∈(zew (zb5 al) M).map (·.1)↔∃acts X,RP (clT (total al)) w al acts X/\X.l=al/\X.b=v:=fun v=>by
  constructor
  ·intro hv
   obtain ⟨⟨b,o⟩,ho,rfl⟩:=List.mem_map.1 hv
   obtain ⟨h1,h2,h3,_⟩:=(hE.mem b o).1 ho
   obtain ⟨X,rfl,hr⟩:=hkey o h1
   refine ⟨_,X,hr,zmP h2 (by rw [(zn5 C hr).1.len,C.hl]) (by rw [(zn5 C hr).1.len];have:=C.k3;omega),h3⟩
  ·rintro ⟨acts,X,hr,rfl,rfl⟩
   exact zbg.1 (hE.has (pnt X) (zbg.1 (hall acts X hr)) rfl)
 refine ⟨?_,hE,zsW hE.nd fun v=>by rw [hmem,zyB C.h C.hl C.nn],fun v hv=>?_⟩
 ·unfold ziJ
  rw [Bool.and_eq_true]
  refine ⟨List.all_eq_true.2 fun p hp=>?_,decide_eq_true (by have:=hW.len C;omega)⟩
  obtain ⟨X,e,hr⟩:=(hW.pt p.1 p.2 hp).1
  rw [e]
  have:=(zn5 C hr).2.2.2
  unfold zbG at this
  simp only [List.all_cons,List.all_nil,Bool.and_true,Bool.and_eq_true] at this
  exact this.2.2.2.2.2.2
 ·obtain ⟨acts,X,hr,_,rfl⟩:=(hmem v).1 hv
  have h1:=zn5 C hr
  have h2:=h1.1.bt
  have h3:=h1.1.cb
  have h4:=h1.1.c0
  have h5:=C.t5
  exact zgw (by omega) (by omega)
theorem znY {b:Box} (N:Near b) {n:Nat} (hn:100000<=n):∃L,zc5 n (some ⟨b⟩)=some L/\zln b.Wheel (zh6 b) L:=by
 have h3:=N.k3
 obtain ⟨A,M,h1,hW,hall⟩:=zsQ N.cx0 hn (b:=⟨b⟩) rfl
 obtain ⟨s1,s2,s3,s4⟩:=zpW N.cx0 hW hall
 refine ⟨_,?_,s3⟩
 unfold zc5
 rw [put_eq N.ok.far (by omega) (by omega),zaa,h1,zaa,zaa,if_pos s1]
def zsX (b:Box) (al:List Int):Prop:=∃v,Can b.Wheel al v/\b.Plays<=v/\v<=b.Plays+b.Skips
structure ExplOk (b:Box) (al acts:List Int):Prop where
 ok:acts.all (zep b.Wheel)=true
 len:(acts.length:Int)<=2*total al
 bag:∀k:Nat,k<b.Wheel.Coins.length->cnt k acts=al.getD k 0
 pl:b.Plays<=zd5 b.Wheel ⟨0,0⟩ acts
 pl2:zd5 b.Wheel ⟨0,0⟩ acts<=b.Plays+b.Skips
theorem ExplOk.ex {b:Box} {al acts:List Int} (h:ExplOk b al acts):zsX b al:=⟨_,⟨acts,h.ok,h.bag,rfl⟩,h.pl,h.pl2⟩
theorem zq1 {b:Box} (N:Near b) {P:List Int} (hP:More b P) {n:Nat} (hn:100000<=n):∃r,zca n (some ⟨b⟩) P=some r/\(r.2=true/\ExplOk b (sums (zh6 b) P) r.1\/r.2=false/\¬zsX b (sums (zh6 b) P)):=by
 have h3:=N.k3
 have F:=N.ok.far
 have hpl:=F.p
 have hsk:=F.k
 have hpt:=F.f
 have C:=N.cx hP
 obtain ⟨A,M,h1,hW,hall⟩:=zsQ C hn (b:=⟨b⟩) rfl
 obtain ⟨s1,s2,s3,s4⟩:=zpW C hW hall
 unfold zca
 rw [zaa,put_eq F (by omega) (by omega),zaa,znX hP (zhO F) (fun k=>by rw [zh1 F];have:=F.f k;have:=F.s k;omega) (by omega) (by omega),zaa,h1,zaa,if_pos s1]
 generalize hal:sums (zh6 b) P=al at *
 generalize hE:zew (zb5 al) M=E at *
 generalize hbs:zeX (E.map (·.1))=bs at *
 have hbl:bs.length<=93312:=by
  rw [←hbs,(zd0 _).length_eq,List.length_map,←hE]
  have:=zkk (al:=zb5 al) (M.map (·.1)) []
  simp only [List.length_map,List.length_nil] at this
  have:=hW.len C
  unfold zew
  omega
 have key:∀(d i m:Nat),d=bs.length-i->i<=bs.length->d<m->(∀v,v∈bs->v∈bs.drop i\/¬(b.Plays<=v/\v<=b.Plays+b.Skips))->∃r,zbJ n ⟨b⟩ M E bs m (i:Int)=some r/\(r.2=true/\ExplOk b al r.1\/r.2=false/\¬zsX b al):=by
  intro d
  induction d with
  | zero =>
   intro i m hd hi hm hv
   obtain ⟨m,rfl⟩:∃q,m=q+1:=⟨m-1,by omega⟩
   simp only [zbJ]
   rw [if_neg (by simp;omega)]
   refine ⟨_,rfl,.inr ⟨rfl,?_⟩⟩
   rintro ⟨v,h1,h2⟩
   rcases hv v ((s3.2 v).2 h1) with h | h
   ·rw [List.drop_eq_nil_of_le (by omega)] at h
    simp at h
   ·exact h h2
  | succ d ih =>
   intro i m hd hi hm hv
   obtain ⟨m,rfl⟩:∃q,m=q+1:=⟨m-1,by omega⟩
   simp only [zbJ]
   have hdr:bs.drop i=bs.getD i 0::bs.drop (i+1):=by rw [List.drop_eq_getElem_cons (l:=bs) (i:=i) (by omega),getD_get]
   have hbm:bs.getD i 0∈bs:=by
    rw [←getD_get (by omega)]
    exact List.getElem_mem (by omega)
   rw [if_pos (by simp;omega),zcL (by omega),zaa,getD_get,zh0,zaa,zaP (x:=b.Plays+b.Skips) (by omega) (by omega),zaP (x:=(i:Int)+1) (by omega) (by omega)]
   generalize hx:bs.getD i 0=x at *
   by_cases hq:inR x b.Plays (b.Plays+b.Skips)=true
   ·rw [if_neg (by rw [hq];simp)]
    have hxk:x∈E.map (·.1):=by
     rw [←hbs,(zd0 _).mem_iff] at hbm
     exact hbm
    have hmx:zbv E x=true:=zbg.2 hxk
    have hok:mok okI E x=true:=by
     unfold Go.AM.mok
     rw [s4 x hxk,Bool.true_and,Bool.and_eq_true]
     exact ⟨List.all_eq_true.2 fun p hp=>s4 p.1 (List.mem_map.2 ⟨p,hp,rfl⟩),decide_eq_true s2.nd⟩
    rw [show zgI okI zaN E x=some (zg0 zaN E x) from if_pos hok,zaa]
    obtain ⟨p1,p2,p3,_⟩:=(s2.mem _ _).1 (zgP zaN hmx)
    have hmp:=zbg.2 p1
    obtain ⟨X,e,hr⟩:=hW.key hmp
    obtain ⟨hX,ht,hk,hokp⟩:=zn5 C hr
    generalize hp:zg0 zaN E x=p at *
    subst e
    have hXl:X.l=al:=zmP p2 (by rw [hX.len,C.hl]) (by rw [hX.len];omega)
    have hsh:=hr.short C.h C.hl C.nn
    have hlen:((A (pnt X)).length:Int)<=2*total al:=by
     rcases hsh.2 with h | ⟨_,h,_⟩
     ·rw [hXl] at h
      exact h
     ·rw [hXl] at h
      omega
    have ht5:=C.t5
    rw [show zgI zbG za7 M (pnt X)=some (zg0 za7 M (pnt X)) from if_pos (hW.mok C hr),zaa,zsR C hW n hmp (by omega) (by simp;omega),zaa]
    refine ⟨_,rfl,.inl ⟨rfl,?_⟩⟩
    simp only [List.nil_append,List.reverse_reverse]
    have hb:zd5 b.Wheel ⟨0,0⟩ (A (pnt X))=x:=by rw [hX.buys];exact p3
    have hq:=zbW.1 hq
    exact ⟨hX.ok,hlen,fun k _=>by rw [hX.bag k,hXl],by rw [hb];exact hq.1,by rw [hb];exact hq.2⟩
   ·rw [if_pos (by simpa using hq)]
    have:=ih (i+1) m (by omega) (by omega) (by omega) fun v hvm=>by
     rcases hv v hvm with h | h
     ·rw [hdr] at h
      rcases List.mem_cons.1 h with rfl | h
      ·exact .inr fun hh=>hq (zbW.2 hh)
      ·exact .inl h
     ·exact .inr h
    rw [show (((i+1:Nat)):Int)=(i:Int)+1 by simp] at this
    exact this
 exact key bs.length 0 n (by omega) (by omega) (by omega) fun v hv=>.inl (by simpa using hv)
def zjl:Nat->List Int->Nat->List (List Int)
 | 0,p,_=>[p]
 | d+1,p,t=>(upF 0 (t+1)).flatMap fun v=>zjl d (p++[v]) (t-v.toNat)
def zlo {S:Type} (F:List Int->S->Option (Unit×S)):List (List Int)->S->Option S
 | [],s=>some s
 | x::l,s=>(F x s).bind fun r=>zlo F l r.2
theorem zjW {S:Type} (F:List Int->S->Option (Unit×S)):∀(a b:List (List Int)) (s:S),zlo F (a++b) s=(zlo F a s).bind fun s=>zlo F b s
 | [],b,s=>rfl
 | x::a,b,s=>by
  simp only [List.cons_append,zlo]
  cases F x s with
  | none=>rfl
  | some r =>
   simp only [Option.bind_some]
   exact zjW F a b r.2
theorem zsY {S:Type} (F:List Int->S->Option (Unit×S)) {b:Box} (h4:b.Wheel.Coins.length<=4):∀(d:Nat) (p:List Int) (t n:Nat) (s:S),p.length+d=b.Wheel.Coins.length->t<=2->d+10<=n->zbC n F (some ⟨b⟩) p (t:Int) s=(zlo F (zjl d p t) s).map fun s=>((),s)
 | d,p,t,0,s,_,_,hn=>absurd hn (by omega)
 | 0,p,t,n+1,s,hp,ht,hn=>by
  simp only [zbC,zcT]
  rw [zaa,if_pos (by simp;omega)]
  simp only [zjl,zlo]
  cases F p s<;>rfl
 | d+1,p,t,n+1,s,hp,ht,hn=>by
  simp only [zbC,zcT]
  rw [zaa,if_neg (by simp;omega)]
  have loop:∀(e i m:Nat) (s:S),i+e=t+1->e<m->zbE (zbC n F) (some ⟨b⟩) p (t:Int) m (i:Int) s=(zlo F ((upF i e).flatMap fun v=>zjl d (p++[v]) (t-v.toNat)) s).map fun s=>((),s):=by
   intro e
   induction e with
   | zero =>
    intro i m s hi hm
    obtain ⟨m,rfl⟩:∃q,m=q+1:=⟨m-1,by omega⟩
    simp only [zbE,zcp]
    rw [zaP (by omega) (by omega),if_neg (by simp;omega)]
    rfl
   | succ e ih =>
    intro i m s hi hm
    obtain ⟨m,rfl⟩:∃q,m=q+1:=⟨m-1,by omega⟩
    simp only [zbE,zcp,slices_Clone_int]
    have hrec:=zsY F h4 d (p++[(i:Int)]) (t-i) n s (by simp;omega) (by omega) (by omega)
    rw [show ((t-i:Nat):Int)=(t:Int)-(i:Int) by omega] at hrec
    rw [zaP (x:=(t:Int)+1) (by omega) (by omega),if_pos (by simp;omega),zlg (by omega),zaa,zk1 (by simp;omega),zaa,zaP (x:=(t:Int)-i) (by omega) (by omega),zaP (x:=(i:Int)+1) (by omega) (by omega),hrec]
    simp only [upF,List.flatMap_cons,zjW,Int.toNat_natCast]
    cases zlo F (zjl d (p++[(i:Int)]) (t-i)) s with
    | none=>rfl
    | some s' =>
     have:=ih (i+1) m s' (by omega) (by omega)
     rw [show (((i+1:Nat)):Int)=(i:Int)+1 by simp] at this
     simp only [Option.map_some,Option.bind_some]
     exact this
  exact loop (t+1) 0 n s (by omega) (by omega)
theorem zlp:∀(d:Nat) (p:List Int) (t:Nat) (P:List Int),P∈zjl d p t↔∃r,P=p++r/\r.length=d/\(∀k,0<=r.getD k 0)/\total r<=t
 | 0,p,t,P=>by
  simp only [zjl,List.mem_singleton]
  constructor
  ·rintro rfl
   exact ⟨[],by simp,rfl,fun k=>by simp,by simp [total]⟩
  ·rintro ⟨r,rfl,h,_⟩
   obtain rfl:=List.eq_nil_of_length_eq_zero h
   simp
 | d+1,p,t,P=>by
  simp only [zjl,List.mem_flatMap]
  constructor
  ·rintro ⟨v,hv,hP⟩
   have hv:=zmT.1 hv
   obtain ⟨r,rfl,h1,h2,h3⟩:=(zlp d _ _ P).1 hP
   refine ⟨v::r,by simp,by simp [h1],fun k=>?_,?_⟩
   ·cases k with
    | zero =>
     show 0<=v
     omega
    | succ k=>simpa using h2 k
   ·simp only [total]
    omega
  ·rintro ⟨r,rfl,h1,h2,h3⟩
   cases r with
   | nil=>simp at h1
   | cons v r =>
    have hv:0<=v:=h2 0
    have hr:∀k,0<=r.getD k 0:=fun k=>by simpa using h2 (k+1)
    have ht:=zdE (zgx hr)
    simp only [total] at h3
    exact ⟨v,zmT.2 ⟨by omega,by omega⟩,(zlp d _ _ _).2 ⟨r,by simp,by simpa using h1,hr,by omega⟩⟩
theorem zlq {b:Box} {P:List Int}:P∈zjl b.Wheel.Coins.length [] 2↔More b P:=by
 rw [zlp]
 constructor
 ·rintro ⟨r,rfl,h1,h2,h3⟩
  exact ⟨by simpa using h1,by simpa using h2,by simpa using h3⟩
 ·rintro ⟨h1,h2,h3⟩
  exact ⟨P,by simp,h1,h2,h3⟩
theorem znZ:∀(d:Nat) (p:List Int) (t:Nat),t<=2->(zjl d p t).length<=3 ^ d
 | 0,p,t,_=>by simp [zjl]
 | d+1,p,t,ht=>by
  simp only [zjl]
  refine Nat.le_trans (zjG (c:=3 ^ d) fun v _=>znZ d _ _ (by omega)) ?_
  rw [zoS,Nat.pow_succ,Nat.mul_comm]
  exact Nat.mul_le_mul_left _ (by omega)
structure GInv (b:Box) (xs:List (List Int)) (gs:List Gap_):Prop where
 len:gs.length<=xs.length
 mem:∀g,g∈gs->More b g.purse/\ExplOk b (sums (zh6 b) g.purse) g.acts
 eq:∀g,g∈gs->∀h,h∈gs->zda b.Wheel g.purse=zda b.Wheel h.purse
 le:∀P,P∈xs->zsX b (sums (zh6 b) P)->∃g,g∈gs/\zda b.Wheel g.purse<=zda b.Wheel P
theorem zmW {b:Box} {P:List Int} (h:More b P):zji P:=fun k=>by have:=h.small k;omega
theorem zn0 {b:Box} (N:Near b) {n:Nat} (hn:100000<=n) {xs:List (List Int)} {gs:List Gap_} {P:List Int} (hP:More b P) (hx:xs.length<=100) (h:GInv b xs gs):∃gs',zaM n (some ⟨b⟩) P gs=some ((),gs')/\GInv b (xs++[P]) gs':=by
 obtain ⟨r,hr,hc⟩:=zq1 N hP hn
 have hw:=fun {l} (hl:More b l)=>zjk N.ok.far.h (show 100<=n by omega) hl.l (zmW hl)
 have skip:r.2=false->¬zsX b (sums (zh6 b) P):=fun e=>by
  rcases hc with ⟨h1,_⟩ | ⟨_,h2⟩
  ·rw [e] at h1
   cases h1
  ·exact h2
 have take:r.2=true->ExplOk b (sums (zh6 b) P) r.1:=fun e=>by
  rcases hc with ⟨_,h2⟩ | ⟨h1,_⟩
  ·exact h2
  ·rw [e] at h1
   cases h1
 have keep:¬zsX b (sums (zh6 b) P)->GInv b (xs++[P]) gs:=fun hno=>⟨by have:=h.len;simp;omega,h.mem,h.eq,fun Q hQ hE=>by
  rcases List.mem_append.1 hQ with hQ | hQ
  ·exact h.le Q hQ hE
  ·obtain rfl:=List.mem_singleton.1 hQ
   exact absurd hE hno⟩
 cases gs with
 | nil =>
  simp only [zaM]
  rw [hr,zaa]
  cases e:r.2 with
  | false =>
   rw [if_pos (by rfl)]
   exact ⟨_,rfl,keep (skip e)⟩
  | true =>
   rw [if_neg (by simp)]
   refine ⟨_,rfl,by simp,fun g hg=>?_,fun g hg g' hg'=>?_,fun Q hQ hE=>?_⟩
   ·obtain rfl:=List.mem_singleton.1 hg
    exact ⟨hP,take e⟩
   ·rw [List.mem_singleton.1 hg,List.mem_singleton.1 hg']
   ·rcases List.mem_append.1 hQ with hQ | hQ
    ·obtain ⟨g,hg,_⟩:=h.le Q hQ hE
     simp at hg
    ·obtain rfl:=List.mem_singleton.1 hQ
     exact ⟨_,List.mem_singleton.2 rfl,Int.le_refl _⟩
 | cons x gs =>
  simp only [zaM]
  obtain ⟨hxm,hxe⟩:=h.mem x (by simp)
  rw [hw hP,zaa,hw hxm,zaa]
  by_cases hgt:zda b.Wheel P>zda b.Wheel x.purse
  ·rw [if_pos (by simpa using hgt)]
   refine ⟨_,rfl,by have:=h.len;simp at this ⊢;omega,h.mem,h.eq,fun Q hQ hE=>?_⟩
   rcases List.mem_append.1 hQ with hQ | hQ
   ·exact h.le Q hQ hE
   ·obtain rfl:=List.mem_singleton.1 hQ
    exact ⟨x,by simp,by omega⟩
  ·rw [if_neg (by simpa using hgt),hr,zaa]
   cases e:r.2 with
   | false =>
    rw [if_pos (by rfl)]
    exact ⟨_,rfl,keep (skip e)⟩
   | true =>
    rw [if_neg (by simp),zaa,zaa]
    by_cases hlt:zda b.Wheel P<zda b.Wheel x.purse
    ·rw [if_pos (by simpa using hlt)]
     refine ⟨_,rfl,by simp,fun g hg=>?_,fun g hg g' hg'=>?_,fun Q hQ hE=>?_⟩
     ·obtain rfl:=List.mem_singleton.1 hg
      exact ⟨hP,take e⟩
     ·rw [List.mem_singleton.1 hg,List.mem_singleton.1 hg']
     ·refine ⟨_,List.mem_singleton.2 rfl,?_⟩
      show zda b.Wheel P<=_
      rcases List.mem_append.1 hQ with hQ | hQ
      ·obtain ⟨g,hg,hle⟩:=h.le Q hQ hE
       have:=h.eq g hg x (by simp)
       omega
      ·obtain rfl:=List.mem_singleton.1 hQ
       exact Int.le_refl _
    ·rw [if_neg (by simpa using hlt),zk1 (by have:=h.len;simp at this ⊢;omega),zaa]
     have heq:zda b.Wheel P=zda b.Wheel x.purse:=by omega
     have hall:∀g,g∈x::gs++[⟨P,r.1⟩]->zda b.Wheel g.purse=zda b.Wheel P:=fun g hg=>by
      rcases List.mem_append.1 hg with hg | hg
      ·rw [heq]
       exact h.eq g hg x (by simp)
      ·rw [List.mem_singleton.1 hg]
     refine ⟨_,rfl,by have:=h.len;simp at this ⊢;omega,fun g hg=>?_,fun g hg g' hg'=>by rw [hall g hg,hall g' hg'],fun Q hQ hE=>?_⟩
     ·rcases List.mem_append.1 hg with hg | hg
      ·exact h.mem g hg
      ·obtain rfl:=List.mem_singleton.1 hg
       exact ⟨hP,take e⟩
     ·rcases List.mem_append.1 hQ with hQ | hQ
      ·obtain ⟨g,hg,hle⟩:=h.le Q hQ hE
       exact ⟨g,List.mem_append_left _ hg,hle⟩
      ·obtain rfl:=List.mem_singleton.1 hQ
       exact ⟨⟨Q,r.1⟩,List.mem_append_right _ (by simp),Int.le_refl _⟩
theorem zjX {b:Box} (N:Near b) {n:Nat} (hn:100000<=n):∀(l xs:List (List Int)) (gs:List Gap_),(∀P,P∈l->More b P)->xs.length+l.length<=100->GInv b xs gs->∃gs',zlo (fun x0 s=>zaM n (some ⟨b⟩) x0 s) l gs=some gs'/\GInv b (xs++l) gs'
 | [],xs,gs,_,_,h=>⟨gs,rfl,by simpa using h⟩
 | P::l,xs,gs,hm,hl,h=>by
  simp only [List.length_cons] at hl
  obtain ⟨gs1,h1,h2⟩:=zn0 N hn (hm P (by simp)) (by omega) h
  obtain ⟨gs2,h3,h4⟩:=zjX N hn l (xs++[P]) gs1 (fun Q hQ=>hm Q (by simp [hQ])) (by simp;omega) h2
  refine ⟨gs2,?_,by simpa using h4⟩
  simp only [zlo,h1,Option.bind_some]
  exact h3
def zA5 (b:Box) (gs:List Gap_):Prop:=(gs=[]/\∀P,More b P->¬zsX b (sums (zh6 b) P))\/∃x t,gs=x::t/\More b x.purse/\ExplOk b (sums (zh6 b) x.purse) x.acts/\∀P,More b P->zsX b (sums (zh6 b) P)->zda b.Wheel x.purse<=zda b.Wheel P
theorem zq2 {b:Box} (N:Near b) {n:Nat} (hn:100000<=n):∃gs,zcb n (some ⟨b⟩)=some gs/\zA5 b gs:=by
 have h3:=N.k3
 have hlen:(zjl b.Wheel.Coins.length [] 2).length<=100:=by
  have h1:=znZ b.Wheel.Coins.length [] 2 (by omega)
  have h2:3 ^ b.Wheel.Coins.length<=3 ^ 3:=Nat.pow_le_pow_right (by omega) h3
  omega
 obtain ⟨gs,h1,h2⟩:=zjX N hn (zjl b.Wheel.Coins.length [] 2) [] [] (fun P hP=>zlq.1 hP) (by simpa using hlen) ⟨by simp,by simp,by simp,by simp⟩
 refine ⟨gs,?_,?_⟩
 ·unfold zcb
  have:=zsY (fun x0 s=>zaM n (some ⟨b⟩) x0 s) (b:=b) (by omega) b.Wheel.Coins.length [] 2 n [] (by simp) (by omega) (by omega)
  rw [show zbC n (fun x0 s=>zaM n (some ⟨b⟩) x0 s) (some ⟨b⟩) [] 2 []=_ from this,h1]
  rfl
 ·rw [List.nil_append] at h2
  cases gs with
  | nil =>
   refine .inl ⟨rfl,fun P hP hE=>?_⟩
   obtain ⟨g,hg,_⟩:=h2.le P (zlq.2 hP) hE
   simp at hg
  | cons x t =>
   obtain ⟨m1,m2⟩:=h2.mem x (by simp)
   refine .inr ⟨x,t,rfl,m1,m2,fun P hP hE=>?_⟩
   obtain ⟨g,hg,hle⟩:=h2.le P (zlq.2 hP) hE
   have:=h2.eq g hg x (by simp)
   omega
theorem BoxOk.len {b:Box} (N:BoxOk b):zvR b:=by
 have F:=N.far
 have h1:=F.fl
 have h2:=F.sl
 have h3:=F.ml
 have h4:=F.h.nlen
 have h5:=F.h.clen
 exact ⟨by omega,by omega,by omega,by omega,by omega⟩
theorem zmX {b:Box} (N:BoxOk b) {n:Nat} (hn:200<=n):zdM n b=some (some ⟨b⟩,0):=by
 unfold zdM
 rw [zsU b n N.len hn,zhN.2 N]
 rfl
theorem zvb {b:Box} (F:NearF b) {n:Nat} (hn:200<=n):ziI n b=some (zh6 b):=by
 have h1:=F.fl
 have h2:=F.sl
 have h3:=F.h.clen
 unfold ziI
 rw [zsS (by omega) (fun k=>by have:=F.f k;omega) (fun k=>by have:=F.s k;omega) (by omega) (by omega)]
 rfl
theorem zsZ {b:Box} (F:NearF b):zji (zh6 b):=fun k=>by
 rw [zh1 F]
 have:=F.f k
 have:=F.s k
 omega
theorem zyE (b:Box) {n:Nat} (hn:200<=n):zhC n b=some true\/(zhC n b=some false/\zvR b/\(BoxOk b->Near b)):=by
 unfold zhC
 by_cases hl:(max (max (max (max (b.Wheel.Notches.length:Int) (b.Wheel.Coins.length:Int)) (b.Found.length:Int)) (b.Marked.length:Int)) (b.Slugs.length:Int))>40
 ·rw [if_pos (by simpa using hl)]
  exact .inl rfl
 ·rw [if_neg (by simpa using hl)]
  have hL:zvR b:=⟨by omega,by omega,by omega,by omega,by omega⟩
  rw [zyD b n hL hn,zaa]
  by_cases hb:BoxOk b
  ·have F:=hb.far
   have h1:=F.fl
   have h3:=F.h.clen
   rw [zhN.2 hb]
   show (Option.bind _ _=_)\/(Option.bind _ _=_/\_)
   rw [zvb F hn,zaa,ztV (zsZ F) (by rw [zhO F];omega) (by rw [zhO F];omega),zaa,zlm F]
   by_cases ht:total b.Found+total b.Slugs>3
   ·rw [if_pos (by simpa using ht)]
    exact .inl rfl
   ·rw [if_neg (by simpa using ht)]
    unfold zev
    by_cases hk:(b.Found.length:Int)>3
    ·exact .inl (by simp [hk])
    ·exact .inr ⟨by simp;omega,hL,fun _=>⟨hb,by omega,by omega⟩⟩
  ·rw [zjj hb]
   exact .inr ⟨rfl,hL,fun h=>absurd h hb⟩
theorem ready_eq (b:Box) {n:Nat} (hn:200<=n):zf1 n b=some false\/(zf1 n b=some true/\Near b):=by
 unfold zf1
 rcases zyE b hn with h | ⟨h,hL,hN⟩
 ·rw [h]
  exact .inl rfl
 ·rw [h,zaa,zyD b n hL hn]
  by_cases hb:BoxOk b
  ·rw [zhN.2 hb]
   exact .inr ⟨rfl,hN hb⟩
  ·rw [zjj hb]
   exact .inl rfl
def zlr (b:Box) (m:Int):Prop:=(∃P,More b P/\zsX b (sums (zh6 b) P)/\zda b.Wheel P=m)/\∀P,More b P->zsX b (sums (zh6 b) P)->m<=zda b.Wheel P
def zvc (b:Box):Prop:=∀P,More b P->¬zsX b (sums (zh6 b) P)
def zq3 (b:Box) (r:Int×Int):Prop:=(r.2=0/\zlr b r.1)\/(r=(0,3)/\zvc b)
theorem zs0 {b:Box} (N:Near b) {n:Nat} (hn:100000<=n):∃gs,zcb n (some ⟨b⟩)=some gs/\((gs=[]/\zd8 n b=some (none,[],3)/\zvc b)\/∃x t,gs=x::t/\zd8 n b=some (some ⟨b⟩,x::t,0)/\More b x.purse/\ExplOk b (sums (zh6 b) x.purse) x.acts/\zlr b (zda b.Wheel x.purse)):=by
 obtain ⟨gs,h1,h2⟩:=zq2 N hn
 refine ⟨gs,h1,?_⟩
 unfold zd8
 rw [zmX N.ok (by omega),zaa,if_neg (by simp),h1,zaa]
 rcases h2 with ⟨rfl,h2⟩ | ⟨x,t,rfl,h3,h4,h5⟩
 ·exact .inl ⟨rfl,rfl,h2⟩
 ·rw [if_neg (by simp;omega)]
  exact .inr ⟨x,t,rfl,rfl,h3,h4,⟨x.purse,h3,h4.ex,rfl⟩,h5⟩
theorem zq4 {b:Box} (N:Near b) {n:Nat} (hn:100000<=n):∃r,zeM n b=some r/\zq3 b r:=by
 obtain ⟨gs,_,h⟩:=zs0 N hn
 unfold zeM
 rcases h with ⟨rfl,h,h2⟩ | ⟨x,t,rfl,h,h3,h4,h5⟩
 ·rw [h]
  exact ⟨(0,3),rfl,.inr ⟨rfl,h2⟩⟩
 ·rw [h,zaa,if_neg (by simp)]
  show ∃r,Option.bind (some x) _=some r/\_
  rw [zaa,zjk N.ok.far.h (by omega) h3.l (zmW h3)]
  exact ⟨_,rfl,.inl ⟨rfl,h5⟩⟩
theorem zmY {w:Wheel} (h:OkW w) {P:List Int} (hs:zji P):0<=zda w P/\zda w P<=100000*w.Coins.length:=by
 have:=zma h hs w.Coins.length 0 (by omega)
 exact this
theorem zq3.eq {b:Box} {r r':Int×Int} (h:zq3 b r) (h':zq3 b r'):r=r':=by
 obtain ⟨a,c⟩:=r
 obtain ⟨a',c'⟩:=r'
 rcases h with ⟨h1,⟨P,p1,p2,p3⟩,h3⟩ | ⟨h1,h2⟩
 ·rcases h' with ⟨k1,⟨P',q1,q2,q3⟩,k3⟩ | ⟨k1,k2⟩
  ·have:=h3 P' q1 q2
   have:=k3 P p1 p2
   simp only at *
   have:a=a':=by omega
   rw [this,h1,k1]
  ·exact absurd p2 (k2 P p1)
 ·rcases h' with ⟨k1,⟨P',q1,q2,q3⟩,k3⟩ | ⟨k1,k2⟩
  ·exact absurd q2 (h2 P' q1)
  ·rw [h1,k1]
theorem zq3.nn {b:Box} (N:BoxOk b) {r:Int×Int} (h:zq3 b r):0<=r.1/\r.1<=1000000:=by
 rcases h with ⟨_,⟨P,h1,_,he⟩,_⟩ | ⟨rfl,_⟩
 ·rw [←he]
  have:=zmY N.far.h (zmW h1)
  have:=N.far.h.clen
  omega
 ·simp
theorem zn1 {w:Wheel} {al:List Int} (C:Cx w al) {v:Int} (h:Can w al v):0<=v/\v<=500:=by
 obtain ⟨acts,x,hr,h1,rfl⟩:=(zyB C.h C.hl C.nn).1 h
 have hX:=(zn5 C hr).1
 have h2:=hX.c0
 have h3:=hX.cb
 have h4:=hX.bt
 have h5:=(zn5 C hr).2.1
 have h6:=C.t5
 omega
theorem zs1 {w:Wheel} {al L:List Int} (C:Cx w al) (h:zln w al L):L.length<=501:=by
 have:=zjH (l:=L) (m:=upF 0 501) (h.1.imp fun hlt he=>by omega) fun v hv=>by
  have:=zn1 C ((h.2 v).1 hv)
  exact zmT.2 (by omega)
 rw [zoS] at this
 exact this
theorem ztX {w:Wheel} {al:List Int} (C:Cx w al):∃v,Can w al v:=by
 have ht:0<=total al:=zdE (zgx C.nn)
 have h5:=C.t5
 obtain ⟨acts,hw⟩:=zu6 true C.h (total al).toNat (p:=0) (c:=0) (l:=al) (by omega) ⟨C.hl,zgx C.nn,by omega⟩ (Int.le_refl _) (by have:=C.h.r1;omega) (Int.le_refl _)
 exact ⟨_,acts,hw.ok,hw.bag,rfl⟩
theorem zyF {L:List Int} {n:Nat} (h:L≠[]) (hl:L.length<1048576) (hn:L.length<n):slices_Max_int n L=some (L.tail.foldl max (L.getD 0 0)):=by
 cases L with
 | nil=>exact absurd rfl h
 | cons x t =>
  unfold slices_Max_int zdY
  rw [if_neg (by simp;omega),show idx (x::t) 0=some x from rfl,zaa]
  have key:=ztL (F:=fun m i (s:Int)=>zcc (x::t) m s i) (xs:=x::t) (spec:=fun l s=>some (l.foldl max s)) hl
   (fun m s=>by simp [zcc,zdg,zdX])
   (fun m i y l s hx hi _ _ hrec=>by
    simp only [zcc,zdg,List.foldl_cons]
    rw [if_pos (by simpa using hi),hx,zaa]
    exact hrec _)
   t 1 n x (by simp) rfl (by simp at hn;omega)
  exact key
theorem zn2:∀(t:List Int) (x:Int),(∀y,y∈t->x<y)->t.Pairwise (·<·)->t.foldl max x=(x::t).getLast (by simp)
 | [],x,_,_=>rfl
 | y::t,x,h1,h2=>by
  rw [List.pairwise_cons] at h2
  have hxy:=h1 y (by simp)
  rw [List.foldl_cons,Int.max_eq_right (by omega),zn2 t y h2.1 h2.2]
  rfl
def zup (L:List Int):Int:=L.getD (L.length-1) 0
theorem zvd {L:List Int} (h:L≠[]) (hp:L.Pairwise (·<·)):L.tail.foldl max (L.getD 0 0)=zup L:=by
 cases L with
 | nil=>exact absurd rfl h
 | cons x t =>
  rw [List.pairwise_cons] at hp
  show t.foldl max x=_
  rw [zn2 t x hp.1 hp.2,List.getLast_eq_getElem]
  unfold zup
  rw [getD_get]
theorem zs2 {L:List Int} (h:L≠[]):zup L∈L:=by
 have hl:0<L.length:=List.length_pos_iff.2 h
 unfold zup
 rw [←getD_get (by omega)]
 exact List.getElem_mem _
theorem zyG {L:List Int} (hp:L.Pairwise (·<·)) {v:Int} (hv:v∈L):v<=zup L:=by
 obtain ⟨i,hi,rfl⟩:=List.getElem_of_mem hv
 unfold zup
 rw [←getD_get (show L.length-1<L.length by omega)]
 rcases Nat.lt_or_ge i (L.length-1) with h | h
 ·exact Int.le_of_lt (List.pairwise_iff_getElem.1 hp i (L.length-1) hi (by omega) h)
 ·have:i=L.length-1:=by omega
  subst this
  exact Int.le_refl _
theorem zuq {w:Wheel} {al L:List Int} (C:Cx w al) (h:zln w al L):L≠[]:=fun e=>by
 obtain ⟨v,hv⟩:=ztX C
 have:=(h.2 v).2 hv
 rw [e] at this
 simp at this
theorem ztY {b:Box} (N:Near b) {n:Nat} (hn:100000<=n):∃L,zln b.Wheel (zh6 b) L/\zfL n b=some (max 0 (b.Plays-zup L),0):=by
 obtain ⟨L,h1,h2⟩:=znY N hn
 have hL:=zs1 N.cx0 h2
 have hne:=zuq N.cx0 h2
 have hp:=N.ok.far.p
 have ht:=zn1 N.cx0 ((h2.2 _).1 (zs2 hne))
 refine ⟨L,h2,?_⟩
 unfold zfL
 rw [zmX N.ok (by omega),zaa,if_neg (by simp),h1,zaa,zyF hne (by omega) (by omega),zaa,zvd hne h2.1,zaP (by omega) (by omega)]
theorem zur {b:Box} (N:Near b) {n:Nat} (hn:100000<=n):∃L,zln b.Wheel (zh6 b) L/\zf3 n b=some (L,0):=by
 obtain ⟨L,h1,h2⟩:=znY N hn
 refine ⟨L,h2,?_⟩
 unfold zf3
 rw [zmX N.ok (by omega),zaa,if_neg (by simp),h1,zaa]
def zAX (b:Box):Int×Int×Int×Int:=(zda b.Wheel b.Found-zda b.Wheel b.Marked,zda b.Wheel b.Marked,zda b.Wheel b.Slugs,0)
theorem zve {b:Box} (N:BoxOk b) {n:Nat} (hn:200<=n):zgo n b=some (zAX b):=by
 have F:=N.far
 have hf:zji b.Found:=fun k=>by have:=F.f k;omega
 have hm:zji b.Marked:=fun k=>by have:=F.m k;omega
 have hs:zji b.Slugs:=fun k=>by have:=F.s k;omega
 have h1:=zmY F.h hf
 have h2:=zmY F.h hm
 have h3:=F.h.clen
 unfold zgo
 rw [zmX N hn,zaa,if_neg (by simp),zjk F.h (by omega) F.ml hm,zaa,zjk F.h (by omega) F.fl hf,zaa,zjk F.h (by omega) F.sl hs,zaa,zaP (by omega) (by omega)]
 rfl
def exW:Wheel:=⟨50,[10,20,25],[5,10,25]⟩
def exB:Box:=⟨exW,[0,2,1],[0,1,0],[0,0,0],6,0⟩
theorem zmZ:Near exB:=by
 refine ⟨⟨by decide,by decide,by decide,by decide,by decide,rfl,fun k hk=>?_,by decide⟩,by decide,by decide⟩
 have:k=0\/k=1\/k=2:=by
  have:exB.Found.length=3:=rfl
  omega
 rcases this with rfl | rfl | rfl<;>decide
theorem zyH:zh6 exB=[0,2,1]:=by decide
theorem zpX {w:Wheel} {al acts:List Int} (h:(List.range w.Coins.length).all (fun k=>cnt (k:Int) acts==al.getD k 0)=true):∀k:Nat,k<w.Coins.length->cnt k acts=al.getD k 0:=fun k hk=>by
 rw [List.all_eq_true] at h
 simpa using h k (List.mem_range.2 hk)
theorem zs3:zln exW [0,2,1] [3,4,5]:=by
 have hP:OkP exW [0,2,1]:=⟨rfl,by decide,by decide⟩
 have hW:OkW exW:=zeR (by decide)
 refine ⟨by decide,fun v=>⟨fun hv=>?_,?_⟩⟩
 ·have h3:v=3\/v=4\/v=5:=by simpa using hv
  rcases h3 with rfl | rfl | rfl
  ·exact ⟨[1,1,2],by decide,zpX (by decide),by decide⟩
  ·exact ⟨[1,-1,1,2],by decide,zpX (by decide),by decide⟩
  ·exact ⟨[1,-1,1,-1,2],by decide,zpX (by decide),by decide⟩
 ·rintro ⟨acts,h1,h2,rfl⟩
  have hi:=zl9 true hW acts (p:=0) (c:=0) h1 h2 hP (by decide) (by decide) (by decide)
  have lo:=zl9 false hW acts (p:=0) (c:=0) h1 h2 hP (by decide) (by decide) (by decide)
  rw [show Q true exW (total [0,2,1]).toNat 0 0 [0,2,1]=5 by decide +kernel] at hi
  rw [show Q false exW (total [0,2,1]).toNat 0 0 [0,2,1]=3 by decide +kernel] at lo
  have hi:zd5 exW ⟨0,0⟩ acts<=5:=hi
  have lo:3<=zd5 exW ⟨0,0⟩ acts:=lo
  simp only [List.mem_cons,List.not_mem_nil,or_false]
  omega
theorem ztZ:zlr exB 5:=by
 have hl:exB.Wheel.Coins.length=3:=rfl
 refine ⟨⟨[1,0,0],⟨rfl,fun k=>?_,by decide⟩,⟨6,⟨[1,1,0,-1,2],by decide,zpX (by decide),by decide⟩,by decide,by decide⟩,by decide⟩,fun P hP hE=>?_⟩
 ·match k with
  | 0=>decide
  | 1=>decide
  | 2=>decide
  | k+3=>simp
 ·match P,hP with
  | [a,b,c],hP =>
   have h0:0<=a:=hP.nn 0
   have h1:0<=b:=hP.nn 1
   have h2:0<=c:=hP.nn 2
   have hw:zda exB.Wheel [a,b,c]=5*a+(10*b+(25*c+0)):=rfl
   rw [hw]
   by_cases hz:a=0/\b=0/\c=0
   ·obtain ⟨rfl,rfl,rfl⟩:=hz
    obtain ⟨v,hv,h3,h4⟩:=hE
    rw [show sums (zh6 exB) [0,0,0]=[0,2,1] by decide] at hv
    have:=(zs3.2 v).2 hv
    simp only [List.mem_cons,List.not_mem_nil,or_false] at this
    have:(6:Int)<=v:=h3
    omega
   ·omega
  | [],hP=>exact absurd hP.l (by decide)
  | [_],hP=>exact absurd hP.l (by rw [hl];simp)
  | [_,_],hP=>exact absurd hP.l (by rw [hl];simp)
  | _::_::_::_::_,hP=>exact absurd hP.l (by rw [hl];simp)
theorem zt0 {n:Nat} (hn:100000<=n):ze0 n=some true:=by
 have e1:zg9=some exB:=rfl
 obtain ⟨L,h1,h2⟩:=zur zmZ hn
 obtain ⟨L',h3,h4⟩:=ztY zmZ hn
 obtain ⟨r,h5,h6⟩:=zq4 zmZ hn
 rw [zyH] at h1 h3
 obtain rfl:=h1.eq zs3
 obtain rfl:=h3.eq zs3
 obtain rfl:=h6.eq (r':=(5,0)) (.inl ⟨rfl,ztZ⟩)
 unfold ze0
 rw [e1,zaa,h2,zaa,zve zmZ.ok (by omega),zaa,h5,zaa,h4,zaa,zoP _ _ (by simp) (by simp;omega)]
 decide
theorem zt1 {b:Box} (h:zvR b):zhV b=some b:=by
 obtain ⟨h1,h2,h3,h4,h5⟩:=h
 unfold zhV
 rw [zuV (n:=100) ⟨by omega,by omega,by omega,by omega⟩,zaa,zlg (by omega),zaa,zlg (by omega),zaa,zlg (by omega),zaa]
theorem zlr.no {b:Box} {m:Int} (h:zlr b m):¬zvc b:=fun hn=>by
 obtain ⟨P,h1,h2,_⟩:=h.1
 exact hn P h1 h2
theorem zn3 {n:Nat} {w:Wheel} (hw:w.Coins.length<1048576) (l:List Int) (lo:Int) (hl:l.length<=140737488355328) (hn:l.length<n):zgC n w l lo=some (l.all (fun x=>inR x lo (w.Coins.length-1))&&decide ((l.length:Int)<=20)):=by
 have key:∀(d i m:Nat),i+d=l.length->d<m->zcd w l lo m (i:Int)=some ((l.drop i).all (fun x=>inR x lo (w.Coins.length-1))&&decide ((l.length:Int)<=20)):=by
  intro d
  induction d with
  | zero =>
   intro i m hi hm
   obtain ⟨m,rfl⟩:∃q,m=q+1:=⟨m-1,by omega⟩
   simp only [zcd,zdh,zdZ]
   rw [if_neg (by simp;omega),List.drop_eq_nil_of_le (by omega)]
   simp
  | succ d ih =>
   intro i m hi hm
   obtain ⟨m,rfl⟩:∃q,m=q+1:=⟨m-1,by omega⟩
   have hlt:i<l.length:=by omega
   simp only [zcd,zdh]
   rw [if_pos (by simp;omega),zcL hlt,zaa,zaP (by omega) (by omega),zhM,zaa,List.drop_eq_getElem_cons hlt]
   by_cases h:inR l[i] lo (w.Coins.length-1)=true
   ·have:=ih (i+1) m (by omega) (by omega)
    rw [show (((i+1:Nat)):Int)=(i:Int)+1 by simp] at this
    rw [if_neg (by simp [h]),zaP (by omega) (by omega),this,List.all_cons,h,Bool.true_and]
   ·rw [if_pos (by simpa using h),List.all_cons,show inR l[i] lo (w.Coins.length-1)=false by simpa using h,Bool.false_and,Bool.false_and]
 exact key l.length 0 n (by omega) hn
theorem zoY {w:Wheel} (h:OkW w) (acts:List Int) {n:Nat} (hn:200<=n) (hl:acts.length<n) (hl2:acts.length<=140737488355328):zf4 n w acts=some false\/(zf4 n w acts=some true/\acts.all (zep w)=true/\acts.length<=20):=by
 have h4:=h.clen
 unfold zf4
 rw [zn3 (by omega) acts (-1) hl2 hl,zaa]
 by_cases hq:(acts.all (fun x=>inR x (-1) (w.Coins.length-1))&&decide ((acts.length:Int)<=20))=true
 ·rw [hq]
  rw [Bool.and_eq_true,decide_eq_true_eq] at hq
  exact .inr ⟨rfl,hq.1,by omega⟩
 ·rw [show (acts.all (fun x=>inR x (-1) (w.Coins.length-1))&&decide ((acts.length:Int)<=20))=false by simpa using hq]
  exact .inl rfl
theorem zvf {k:Nat} (h:k<=1000000):zvl (k:Int)=some (List.replicate k 0):=by
 unfold zvl
 rw [if_pos (by omega),Int.toNat_natCast]
theorem zq5 (k j:Nat):(List.replicate k (0:Int)).getD j 0=0:=by
 rw [List.getD_eq_getElem?_getD,List.getElem?_replicate]
 split<;>rfl
theorem zt2 {n:Nat} (hn:1000000<=n) (w:Wheel) (acts:List Int) (hlen:acts.length<n) (hz:acts.length<=140737488355328):zej n w acts=some true:=by
 have hw:=zt0 (n:=n) (by omega)
 have hj:za9 n w acts true=some true:=by
  unfold za9
  rw [if_pos rfl,hw]
  rfl
 unfold zej
 by_cases h1:(max (w.Notches.length:Int) (w.Coins.length:Int))>40
 ·rw [if_pos (by simpa using h1),hj]
 rw [if_neg (by simpa using h1),znK ⟨by omega,by omega,by omega,by omega⟩,zaa]
 by_cases hv:valid w=true
 case neg =>
  rw [show valid w=false by simpa using hv]
  exact hj
 rw [hv]
 have h:=zeR hv
 rw [if_neg (by simp)]
 rcases zoY h acts (n:=n) (by omega) hlen hz with q | ⟨q,ha,h20⟩
 ·rw [q,zaa]
  exact hj
 rw [q,zaa]
 show za9 n w acts false=some true
 have h4:=h.clen
 have hbl:(zgX w acts).length=w.Coins.length:=by simp [zgX]
 unfold za9
 rw [if_neg (by simp),zyz w acts (by omega) (by omega) (by omega) (by omega),zaa,zvf (by omega),zaa,zaa]
 generalize hb:(⟨w,zgX w acts,List.replicate (zgX w acts).length 0,List.replicate (zgX w acts).length 0,0,0⟩:Box)=b
 have e1:b.Wheel=w:=by rw [←hb]
 have e2:b.Found=zgX w acts:=by rw [←hb]
 have e3:b.Slugs=List.replicate (zgX w acts).length 0:=by rw [←hb]
 rcases ready_eq b (n:=n) (by omega) with q | ⟨q,N⟩
 ·rw [q,zaa,if_pos (by rfl),hw]
  rfl
 rw [q,zaa,if_neg (by simp),zt1 N.ok.len,zaa]
 have F:=N.ok.far
 have hput:zh6 b=zgX w acts:=by
  refine zgy (n:=w.Coins.length) (by rw [zhO F,e1]) hbl fun k hk=>?_
  rw [zh1 F,e2,e3,zq5,Int.add_zero]
 obtain ⟨L,c1,c2⟩:=zur N (n:=n) (by omega)
 have C:=N.cx0
 have hL:=zs1 C c1
 have hne:=zuq C c1
 rw [e1,hput] at c1 C
 have ht5:=C.t5
 have hP:OkP w (zgX w acts):=⟨hbl,zgx C.nn,by omega⟩
 have htn:=zdE hP.nn
 have hpu:zbj w (zgX w acts)=true:=by
  simp only [zbj,Bool.and_eq_true,decide_eq_true_eq,List.all_eq_true]
  refine ⟨⟨hbl,fun x hx=>?_⟩,by omega⟩
  obtain ⟨k,hk⟩:=List.getElem?_of_mem hx
  have h1:=zfF (zgx C.nn) k
  rw [List.getD_eq_getElem?_getD,hk] at h1
  have h1:0<=x/\x<=total (zgX w acts):=h1
  exact zbW.2 ⟨h1.1,by omega⟩
 have hol:=h.len (show 100<=n by omega)
 have o1:zgJ n w (zgX w acts)=some (Q true w (total (zgX w acts)).toNat 0 0 (zgX w acts),0):=by
  rw [zu5 hol (by omega) _ (by omega) (by omega)]
  unfold zqZ
  rw [if_pos hv,if_pos hpu]
 have o2:zf5 n w (zgX w acts)=some (Q false w (total (zgX w acts)).toNat 0 0 (zgX w acts),0):=by
  rw [ztR hol (by omega) _ (by omega) (by omega)]
  unfold zqZ
  rw [if_pos hv,if_pos hpu]
 have way:∀q,Can w (zgX w acts) (Q q w (total (zgX w acts)).toNat 0 0 (zgX w acts)):=fun q=>by
  obtain ⟨acts',hw'⟩:=zu6 q h (total (zgX w acts)).toNat (p:=0) (c:=0) (l:=zgX w acts) (by omega) hP (Int.le_refl _) (by have:=h.r1;omega) (Int.le_refl _)
  exact ⟨acts',hw'.ok,hw'.bag,hw'.buys⟩
 have le:∀q v,Can w (zgX w acts) v->leB q v (Q q w (total (zgX w acts)).toNat 0 0 (zgX w acts)):=fun q v hv=>by
  obtain ⟨acts',h1,h2,rfl⟩:=hv
  exact zl9 q h acts' (p:=0) (c:=0) h1 h2 hP (Int.le_refl _) (by have:=h.r1;omega) (Int.le_refl _)
 have hin:zd5 w ⟨0,0⟩ acts∈L:=(c1.2 _).2 ⟨acts,ha,fun k hk=>(zsK _ _ hk).symm,rfl⟩
 have wM:=way true
 have wm:=way false
 have lM:∀v,Can w (zgX w acts) v->v<=Q true w (total (zgX w acts)).toNat 0 0 (zgX w acts):=fun v hv=>le true v hv
 have lm:∀v,Can w (zgX w acts) v->Q false w (total (zgX w acts)).toNat 0 0 (zgX w acts)<=v:=fun v hv=>le false v hv
 generalize Q true w (total (zgX w acts)).toNat 0 0 (zgX w acts)=M at *
 generalize Q false w (total (zgX w acts)).toNat 0 0 (zgX w acts)=m at *
 have hpos:0<L.length:=List.length_pos_iff.2 hne
 have i0:idx L 0=some m:=by
  have:idx L ((0:Nat):Int)=some L[0]:=zcL hpos
  rw [show ((0:Nat):Int)=0 from rfl] at this
  rw [this]
  congr 1
  have q1:=lm _ ((c1.2 _).1 (List.getElem_mem hpos))
  obtain ⟨i,hi,he⟩:=List.getElem_of_mem ((c1.2 m).2 wm)
  rcases Nat.eq_zero_or_pos i with h0 | h0
  ·subst h0
   exact he
  ·have:=List.pairwise_iff_getElem.1 c1.1 0 i hpos hi h0
   omega
 have i1:idx L ((L.length:Int)-1)=some M:=by
  rw [show ((L.length:Int)-1)=((L.length-1:Nat):Int) by omega,zcL (by omega),getD_get]
  congr 1
  have q1:=lM _ ((c1.2 _).1 (zs2 hne))
  have q2:=zyG c1.1 ((c1.2 M).2 wM)
  have:zup L=M:=by omega
  exact this
 have happ:app ([]:List Int) (zgX w acts)=some (zgX w acts):=zlg (by omega)
 rw [c2,zaa,happ,zaa,o2,zaa,zaa,o1,zaa,if_pos (by rfl),if_pos (by rfl),if_pos (by rfl),if_pos (by simp;omega),if_pos (by simp;omega)]
 simp only
 rw [i0,zaa,if_pos (by simp),zaP (by omega) (by omega),i1,zaa,if_pos (by simp),zu7 h (by omega) acts (by omega) ha,zaa,zyu _ _ (by omega) (by omega),zaa,if_pos (by simpa using hin),hw]
 rfl
theorem zlE (w:Wheel) (acts:List Int) {p q:Prop} (_:p) (h:acts.length<=140737488355328/\q):zej (acts.length+1000000) w acts=some true :=
 zt2 (by omega) w acts (by omega) h.1
end Go.Law
