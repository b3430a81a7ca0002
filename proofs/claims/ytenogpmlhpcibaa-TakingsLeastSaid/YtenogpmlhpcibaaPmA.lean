/-
  Plain laws.
  Conditions: none.
-/
import Derived.Test.YtenogpmlhpcibaaMd
import Derived.Test.YtenogpmlhpcibaaPlA
import Derived.Test.YtenogpmlhpcibaaEn
set_option linter.all false
namespace Go.Law
open Go Go.AM
theorem zsM {α S R:Type} (F:Nat->Int->S->Option R) (xs:List α) (spec:List α->S->Option R) (hl:xs.length<1048576) (h0:∀m s,F (m+1) (xs.length:Int) s=spec [] s)
  (hs:∀m (i:Nat) x l s,idx xs (i:Int)=some x->(i:Int)<(xs.length:Int)->i<1048576->xs.drop (i+1)=l->(∀s',F m (w64 ((i:Int)+1)) s'=spec l s')->F (m+1) (i:Int) s=spec (x::l) s) :
  ∀(l:List α) (i m:Nat) (s:S),i<=xs.length->xs.drop i=l->l.length<m->F m (i:Int) s=spec l s:=by
 intro l
 induction l with
 | nil =>
  intro i m s hi hd hm
  obtain ⟨m,rfl⟩:∃k,m=k+1:=⟨m-1,by omega⟩
  have:i=xs.length:=by have:=List.drop_eq_nil_iff.1 hd;omega
  subst this
  exact h0 m s
 | cons x l ih =>
  intro i m s hi hd hm
  obtain ⟨m,rfl⟩:∃k,m=k+1:=⟨m-1,by omega⟩
  simp only [List.length_cons] at hm
  have hlt:i<xs.length:=by
   rcases Nat.lt_or_ge i xs.length with h | h
   ·exact h
   ·rw [List.drop_eq_nil_of_le h] at hd;cases hd
  rw [List.drop_eq_getElem_cons hlt] at hd
  injection hd with h1 h2
  refine hs m i x l s (by rw [zcE hlt,h1]) (by omega) (by omega) h2 fun s'=>?_
  rw [zaM (by omega) (by omega)]
  exact ih (i+1) m s' (by omega) h2 (by omega)
theorem ztm {α S R:Type} {F:Nat->Int->S->Option R} {xs:List α} {spec:List α->S->Option R} (hl:xs.length<1048576) {n:Nat} (hn:xs.length<n) (s:S) (h0:∀m s,F (m+1) (xs.length:Int) s=spec [] s)
  (hs:∀m (i:Nat) x l s,idx xs (i:Int)=some x->(i:Int)<(xs.length:Int)->i<1048576->xs.drop (i+1)=l->(∀s',F m (w64 ((i:Int)+1)) s'=spec l s')->F (m+1) (i:Int) s=spec (x::l) s) :
  F n 0 s=spec xs s:=zsM F xs spec hl h0 hs xs 0 n s (by omega) rfl hn
theorem zkN {α S R:Type} (F:Nat->Int->S->Option R) (xs:List α) (spec:List α->S->Option R) (I:List α->S->Prop) (hl:xs.length<1048576) (h0:∀m s,I [] s->F (m+1) (xs.length:Int) s=spec [] s)
  (hs:∀m (i:Nat) x l s,I (x::l) s->idx xs (i:Int)=some x->(i:Int)<(xs.length:Int)->i<1048576->xs.drop (i+1)=l->(∀s',I l s'->F m (w64 ((i:Int)+1)) s'=spec l s')->F (m+1) (i:Int) s=spec (x::l) s) :
  ∀(l:List α) (i m:Nat) (s:S),i<=xs.length->xs.drop i=l->l.length<m->I l s->F m (i:Int) s=spec l s:=by
 intro l
 induction l with
 | nil =>
  intro i m s hi hd hm hI
  obtain ⟨m,rfl⟩:∃k,m=k+1:=⟨m-1,by omega⟩
  have:i=xs.length:=by have:=List.drop_eq_nil_iff.1 hd;omega
  subst this
  exact h0 m s hI
 | cons x l ih =>
  intro i m s hi hd hm hI
  obtain ⟨m,rfl⟩:∃k,m=k+1:=⟨m-1,by omega⟩
  simp only [List.length_cons] at hm
  have hlt:i<xs.length:=by
   rcases Nat.lt_or_ge i xs.length with h | h
   ·exact h
   ·rw [List.drop_eq_nil_of_le h] at hd;cases hd
  rw [List.drop_eq_getElem_cons hlt] at hd
  injection hd with h1 h2
  refine hs m i x l s hI (by rw [zcE hlt,h1]) (by omega) (by omega) h2 fun s' hI'=>?_
  rw [zaM (by omega) (by omega)]
  exact ih (i+1) m s' (by omega) h2 (by omega) hI'
theorem zAi {S R:Type} (F:Nat->Int->S->Option R) (b:Nat) (spec:Nat->S->Option R) (hb:b<1048576) (h0:∀m s,F (m+1) (b:Int) s=spec b s)
  (hs:∀m (i:Nat) s,i<b->(∀s',F m (w64 ((i:Int)+1)) s'=spec (i+1) s')->F (m+1) (i:Int) s=spec i s) :
  ∀(d i m:Nat) (s:S),d=b-i->i<=b->d<m->F m (i:Int) s=spec i s:=by
 intro d
 induction d with
 | zero =>
  intro i m s hd hi hm
  obtain ⟨m,rfl⟩:∃k,m=k+1:=⟨m-1,by omega⟩
  have:i=b:=by omega
  subst this
  exact h0 m s
 | succ d ih =>
  intro i m s hd hi hm
  obtain ⟨m,rfl⟩:∃k,m=k+1:=⟨m-1,by omega⟩
  refine hs m i s (by omega) fun s'=>?_
  rw [zaM (by omega) (by omega)]
  exact ih (i+1) m s' (by omega) (by omega) (by omega)
theorem zaa {α β:Type} (a:α) (f:α->Option β):Option.bind (some a) f=f a:=rfl
theorem zhx (a b c:Int):zc6 a b c=some (inR a b c):=by
 unfold zc6 zdL inR
 by_cases h:b<=a<;>simp [h]
theorem zhy (a b c:Int):zc4 a b c=some (inR a b c):=by
 unfold zc4 zdK inR
 by_cases h:b<=a<;>simp [h]
def zmu (lo hi:Int):Option Int->List Int->Bool
 | _,[]=>true
 | prev,x::l=>inR x lo hi&&(match prev with | none=>true | some y=>decide (y<x))&&zmu lo hi (some x) l
theorem zid (pre:List Int):pre=[]\/∃q y,pre=q++[y]:=by
 rcases List.eq_nil_or_concat pre with h | ⟨q,y,h⟩
 ·exact .inl h
 ·exact .inr ⟨q,y,by simpa using h⟩
theorem zo5 (q:List Int) (y:Int) (l:List Int) (h:(q++[y]++l).length<1048576):idx (q++[y]++l) (w64 (((q++[y]).length:Int)-1))=some y:=by
 simp at h
 rw [zaM (by simp<;>omega) (by simp<;>omega),show (((q++[y]).length:Int)-1)=(q.length:Int) by simp,show q++[y]++l=q++y::l by simp,zn2]
theorem zsN (lo hi:Int):∀(l pre:List Int) (m:Nat),(pre++l).length<1048576->l.length<m ->
  zbO (pre++l) lo hi m (pre.length:Int)=some (zmu lo hi pre.getLast? l):=by
 intro l
 induction l with
 | nil =>
  intro pre m hs hm
  obtain ⟨m,rfl⟩:∃k,m=k+1:=⟨m-1,by omega⟩
  simp [zbO,zdW,zeG,zmu]
 | cons x l ih =>
  intro pre m hs hm
  obtain ⟨m,rfl⟩:∃k,m=k+1:=⟨m-1,by omega⟩
  have h:=ih (pre++[x]) m (by simpa using hs) (by simp at hm;omega)
  rw [show (((pre++[x]).length:Nat):Int)=(pre.length:Int)+1 by simp,List.getLast?_concat,show pre++[x]++l=pre++x::l by simp] at h
  simp at hs hm
  simp only [zbO,zdW]
  rw [if_pos (by simp<;>omega),zn2]
  simp only [Option.bind_some,zhy,zmu]
  by_cases hr:inR x lo hi=true
  ·rw [if_neg (by simp [hr])]
   rcases zid pre with rfl | ⟨q,y,rfl⟩
   ·rw [if_neg (by simp)]
    simp only [zca]
    rw [if_neg (by simp),zaM (by simp) (by simp),h]
    simp [hr]
   ·rw [if_pos (by simp<;>omega),zo5 q y (x::l) (by simp at hs ⊢;omega)]
    simp only [Option.bind_some,zca,List.getLast?_concat]
    by_cases hb:x<=y
    ·rw [if_pos (by simpa using hb)]
     simp [hr,show ¬y<x by omega]
    ·rw [if_neg (by simpa using hb),zaM (by omega) (by omega),h]
     simp [hr,show y<x by omega]
  ·have hr':inR x lo hi=false:=by simpa using hr
   rw [if_pos (by simp [hr'])]
   simp [zca,hr']
theorem zm5 {n:Nat} (l:List Int) (lo hi:Int) (hs:l.length<1048576) (hn:l.length<n):zf9 n l lo hi=some (zmu lo hi none l):=zsN lo hi l [] n (by simpa using hs) hn
theorem zsO (many most:Int):∀(l pre:List Int) (m:Nat),(pre++l).length<1048576->l.length<m ->
  zbP (pre++l) many most m (pre.length:Int)=some (zmu 1 most pre.getLast? l&&decide (((pre++l).length:Int)<=many)):=by
 intro l
 induction l with
 | nil =>
  intro pre m hs hm
  obtain ⟨m,rfl⟩:∃k,m=k+1:=⟨m-1,by omega⟩
  simp [zbP,zdY,zeH,zmu]
 | cons x l ih =>
  intro pre m hs hm
  obtain ⟨m,rfl⟩:∃k,m=k+1:=⟨m-1,by omega⟩
  have h:=ih (pre++[x]) m (by simpa using hs) (by simp at hm;omega)
  rw [show (((pre++[x]).length:Nat):Int)=(pre.length:Int)+1 by simp,List.getLast?_concat,show pre++[x]++l=pre++x::l by simp] at h
  simp at hs hm
  simp only [zbP,zdY]
  rw [if_pos (by simp<;>omega),zn2]
  simp only [Option.bind_some,zhx,zmu]
  by_cases hr:inR x 1 most=true
  ·rw [if_neg (by simp [hr])]
   rcases zid pre with rfl | ⟨q,y,rfl⟩
   ·rw [if_neg (by simp)]
    simp only [zcb]
    rw [if_neg (by simp),zaM (by simp) (by simp),h]
    simp [hr]
   ·rw [if_pos (by simp<;>omega),zo5 q y (x::l) (by simp at hs ⊢;omega)]
    simp only [Option.bind_some,zcb,List.getLast?_concat]
    by_cases hb:x<=y
    ·rw [if_pos (by simpa using hb)]
     simp [hr,show ¬y<x by omega]
    ·rw [if_neg (by simpa using hb),zaM (by omega) (by omega),h]
     simp [hr,show y<x by omega]
  ·have hr':inR x 1 most=false:=by simpa using hr
   rw [if_pos (by simp [hr'])]
   simp [zcb,hr']
theorem zm6 {n:Nat} (l:List Int) (many most:Int) (hs:l.length<1048576) (hn:l.length<n):zga n l many most=some (zmu 1 most none l&&decide ((l.length:Int)<=many)):=zsO many most l [] n (by simpa using hs) hn
def valid (w:Wheel):Bool:=inR w.Round 1 200&&(zmu 1 w.Round none w.Notches&&decide ((w.Notches.length:Int)<=12))&&(zmu 1 100 none w.Coins&&decide ((w.Coins.length:Int)<=4))
def zod (n:Nat) (w:Wheel):Prop:=w.Notches.length<1048576/\w.Coins.length<1048576/\w.Notches.length<n/\w.Coins.length<n
theorem zo6 {n:Nat} {w:Wheel} (h:zod n w):zfT n w=some (cond (valid w) 0 10):=by
 obtain ⟨h1,h2,h3,h4⟩:=h
 unfold zfT zdq valid
 rw [zhx,zaa,zm6 _ _ _ h1 h3,zm6 _ _ _ h2 h4,zaa,zaa]
 cases inR w.Round 1 200<;>cases (zmu 1 w.Round none w.Notches&&decide ((w.Notches.length:Int)<=12))<;>cases (zmu 1 100 none w.Coins&&decide ((w.Coins.length:Int)<=4))<;>rfl
theorem zrH {n:Nat} {w:Wheel} (h:zod n w):zgS n w=some (cond (valid w) 0 10):=by
 obtain ⟨h1,h2,h3,h4⟩:=h
 unfold zgS zcw valid
 rw [zhy,zaa,zm5 _ _ _ h1 h3,zm5 _ _ _ h2 h4,zaa,zaa]
 by_cases q1:(w.Notches.length:Int)<=12
 ·have e1:decide ((w.Notches.length:Int)>12)=false:=by simpa using q1
  rw [e1]
  by_cases q2:(w.Coins.length:Int)<=4
  ·have e2:decide ((w.Coins.length:Int)>4)=false:=by simpa using q2
   rw [e2]
   simp only [q1,q2,decide_true,Bool.and_true]
   cases inR w.Round 1 200<;>cases zmu 1 w.Round none w.Notches<;>cases zmu 1 100 none w.Coins<;>rfl
  ·have e2:decide ((w.Coins.length:Int)>4)=true:=by simp;omega
   rw [e2]
   simp only [q2,decide_false,Bool.and_false]
   cases inR w.Round 1 200<;>cases zmu 1 w.Round none w.Notches<;>rfl
 ·have e1:decide ((w.Notches.length:Int)>12)=true:=by simp;omega
  rw [e1]
  simp only [q1,decide_false,Bool.and_false,Bool.false_and]
  cases inR w.Round 1 200<;>rfl
theorem zmf {lo hi:Int}:∀{l:List Int} {p:Option Int},zmu lo hi p l=true->(∀x,x∈l->lo<=x/\x<=hi/\∀y,p=some y->y<x)/\l.Pairwise (·<·)
 | [],_,_=>⟨fun x h=>by simp at h,.nil⟩
 | x::l,p,h=>by
  simp only [zmu,Bool.and_eq_true] at h
  obtain ⟨⟨h1,h2⟩,h3⟩:=h
  obtain ⟨ih1,ih2⟩:=zmf h3
  have h1':=zbl.1 h1
  have hp:∀y,p=some y->y<x:=fun y e=>by subst e;simpa using h2
  refine ⟨fun z hz=>?_,List.pairwise_cons.2 ⟨fun z hz=>(ih1 z hz).2.2 x rfl,ih2⟩⟩
  rcases List.mem_cons.1 hz with rfl | hz
  ·exact ⟨h1'.1,h1'.2,hp⟩
  ·have:=ih1 z hz
   exact ⟨this.1,this.2.1,fun y e=>Int.lt_trans (hp y e) (this.2.2 x rfl)⟩
structure OkW (w:Wheel):Prop where
 r1:1<=w.Round
 r2:w.Round<=200
 nlen:w.Notches.length<=12
 clen:w.Coins.length<=4
 nm:∀x,x∈w.Notches->1<=x/\x<=w.Round
 nd:w.Notches.Pairwise (·<·)
 cm:∀x,x∈w.Coins->1<=x/\x<=100
 cd:w.Coins.Pairwise (·<·)
theorem zg3 {w:Wheel} (h:valid w=true):OkW w:=by
 simp only [valid,Bool.and_eq_true,decide_eq_true_eq] at h
 obtain ⟨⟨h1,h2,h3⟩,h4,h5⟩:=h
 have h1:=zbl.1 h1
 obtain ⟨a1,a2⟩:=zmf h2
 obtain ⟨b1,b2⟩:=zmf h4
 exact ⟨h1.1,h1.2,by omega,by omega,fun x hx=>⟨(a1 x hx).1,(a1 x hx).2.1⟩,a2,fun x hx=>⟨(b1 x hx).1,(b1 x hx).2.1⟩,b2⟩
theorem OkW.len {w:Wheel} (h:OkW w) {n:Nat} (hn:100<=n):zod n w:=⟨by have:=h.nlen;omega,by have:=h.clen;omega,by have:=h.nlen;omega,by have:=h.clen;omega⟩
theorem zAj {n:Nat} (l:List Int) (x:Int) (hs:l.length<1048576) (hn:l.length<n):zlZ n l x=some (decide (x∈l)):=by
 have:=ztm (F:=fun m i (_:Unit)=>zer l x m i) (xs:=l) (spec:=fun l _=>some (decide (x∈l))) (n:=n) hs hn () (fun m s=>by simp [zer,zfC,zgV]) (fun m i y l s hx hi _ _ hrec=>by
  simp only [zer,zfC]
  rw [if_pos (by simpa using hi),hx,zaa]
  by_cases h:y=x
  ·rw [if_pos (by simpa using h)]
   simp [h]
  ·rw [if_neg (by simpa using h),hrec ()]
   simp [Ne.symm h])
 exact this
def nx (R p:Int):Int:=if p+1=R then 0 else p+1
def hit (w:Wheel) (p:Int):Int:=if p+1∈w.Notches then 1 else 0
def put (w:Wheel):Nat->Int->Int->Int×Int
 | 0,p,c=>(p,c)
 | k+1,p,c=>put w k (nx w.Round p) (c+hit w p)
theorem zo7 {R p:Int} (h0:0<=p) (h1:p<R):0<=nx R p/\nx R p<R:=by
 unfold nx
 split<;>omega
theorem zm7 (w:Wheel) (p:Int):0<=hit w p/\hit w p<=1:=by
 unfold hit
 split<;>omega
theorem zAk {n:Nat} {w:Wheel} (h:OkW w) (hn:100<=n) {cents:Nat} (hc:cents<1048576):∀(k i m:Nat) (p c:Int),k=cents-i->i<=cents->k<m->0<=p->p<w.Round->0<=c->c<=i ->
  zcd n w cents m p c (i:Int)=some (put w k p c):=by
 have hr:=h.r2
 intro k
 induction k with
 | zero =>
  intro i m p c hk hi hm hp hp' hc0 hc1
  obtain ⟨m,rfl⟩:∃k,m=k+1:=⟨m-1,by omega⟩
  have:i=cents:=by omega
  subst this
  simp [zcd,zfa,zgd,put]
 | succ k ih =>
  intro i m p c hk hi hm hp hp' hc0 hc1
  obtain ⟨m,rfl⟩:∃k,m=k+1:=⟨m-1,by omega⟩
  have hx:=zm7 w p
  have hy:=zo7 hp hp'
  have key:=ih (i+1) m (nx w.Round p) (c+hit w p) (by omega) (by omega) (by omega) hy.1 hy.2 (by omega) (by omega)
  simp only [zcd,zfa]
  rw [if_pos (by simp;omega),zaM (by omega) (by omega),zAj _ _ (by have:=h.nlen;omega) (by have:=h.nlen;omega),zaa]
  have e1:w64 ((i:Int)+1)=((i+1:Nat):Int):=by rw [zaM (by omega) (by omega)];simp
  have e2:w64 (c+1)=c+1:=zaM (by omega) (by omega)
  simp only [zfj,zfi,e1,e2,zaM (x:=p+1) (by omega) (by omega)]
  show _=some (put w k (nx w.Round p) (c+hit w p))
  rw [←key]
  unfold nx hit
  by_cases q1:p+1∈w.Notches
  ·rw [if_pos (by simpa using q1),if_pos q1]
   by_cases q2:p+1=w.Round
   ·rw [if_pos (by simpa using q2),if_pos q2]
   ·rw [if_neg (by simpa using q2),if_neg q2]
  ·rw [if_neg (by simpa using q1),if_neg q1,Int.add_zero]
   by_cases q2:p+1=w.Round
   ·rw [if_pos (by simpa using q2),if_pos q2]
   ·rw [if_neg (by simpa using q2),if_neg q2]
theorem zxL {n:Nat} {w:Wheel} (h:OkW w) (hn:100<=n) {p c:Int} (hp:0<=p) (hp':p<w.Round) (hc:0<=c) (hc':c<n) (hc2:c<1048576):ziv n w p c=some (put w c.toNat p 0):=by
 have:=zAk h hn (cents:=c.toNat) (by omega) c.toNat 0 n p 0 (by omega) (by omega) (by omega) hp hp' (by omega) (by omega)
 rw [show ((c.toNat:Nat):Int)=c by omega] at this
 exact this
theorem zm8 {w:Wheel} (h:OkW w):∀(k:Nat) (p c:Int),0<=p->p<w.Round->(0<=(put w k p c).1/\(put w k p c).1<w.Round)/\c<=(put w k p c).2/\(put w k p c).2<=c+k
 | 0,p,c,h0,h1=>⟨⟨h0,h1⟩,by simp [put],by simp [put]⟩
 | k+1,p,c,h0,h1=>by
  have hy:=zo7 h0 h1
  have hx:=zm7 w p
  have:=zm8 h k (nx w.Round p) (c+hit w p) hy.1 hy.2
  simp only [put]
  omega
theorem zrI (w:Wheel):∀(j k:Nat) (p c:Int),put w (j+k) p c=put w k (put w j p c).1 (put w j p c).2
 | 0,k,p,c=>by simp [put]
 | j+1,k,p,c=>by
  rw [show j+1+k=(j+k)+1 by omega]
  simp only [put]
  exact zrI w j k _ _
theorem zrJ {A R:Int} (hR:0<R):(A+1) / R=A / R+(if A % R=R-1 then 1 else 0):=by
 have h1:=Int.mul_ediv_add_emod A R
 have h2:=Int.emod_nonneg A (show R≠0 by omega)
 have h3:=Int.emod_lt_of_pos A hR
 split
 ·rename_i h
  have:A+1=R*(A / R+1):=by rw [Int.mul_add];omega
  rw [this,Int.mul_ediv_cancel_left _ (by omega)]
 ·rename_i h
  have:A+1=(A % R+1)+R*(A / R):=by omega
  rw [this,Int.add_mul_ediv_left _ _ (by omega),Int.ediv_eq_zero_of_lt (by omega) (by omega)]
  omega
theorem zrK {A R:Int} (hR:0<R):(A+1) % R=nx R (A % R):=by
 have h1:=Int.mul_ediv_add_emod A R
 have h2:=Int.emod_nonneg A (show R≠0 by omega)
 have h3:=Int.emod_lt_of_pos A hR
 unfold nx
 split
 ·rename_i h
  have:A+1=R*(A / R+1):=by rw [Int.mul_add];omega
  rw [this,Int.mul_emod_right]
 ·rename_i h
  have:A+1=(A % R+1)+R*(A / R):=by omega
  rw [this,Int.add_mul_emod_self_left,Int.emod_eq_of_lt (by omega) (by omega)]
theorem zp9 {B R m:Int} (hR:0<R) (h1:1<=m) (h2:m<=R):(B-m+R) % R=R-1↔m=B % R+1:=by
 have e1:=Int.mul_ediv_add_emod B R
 have e2:=Int.emod_nonneg B (show R≠0 by omega)
 have e3:=Int.emod_lt_of_pos B hR
 by_cases h:m<=B % R
 ·have:B-m+R=(B % R-m)+R*(B / R+1):=by rw [Int.mul_add];omega
  rw [this,Int.add_mul_emod_self_left,Int.emod_eq_of_lt (by omega) (by omega)]
  omega
 ·have:B-m+R=(B % R-m+R)+R*(B / R):=by omega
  rw [this,Int.add_mul_emod_self_left,Int.emod_eq_of_lt (by omega) (by omega)]
  omega
def reached (R e p:Int):List Int->Int
 | []=>0
 | m::l=>(e-m+R) / R-(p-m+R) / R+reached R e p l
def turn (w:Wheel) (p c:Int):Int×Int:=((p+c) % w.Round,reached w.Round (p+c) p w.Notches)
theorem zjy {R B p:Int} (hR:0<R):∀(l:List Int),(∀x,x∈l->1<=x/\x<=R)->l.Pairwise (·<·)->reached R (B+1) p l=reached R B p l+(if B % R+1∈l then 1 else 0)
 | [],_,_=>by simp [reached]
 | m::l,h,hd=>by
  have hm:=h m (by simp)
  obtain ⟨d1,d2⟩:=List.pairwise_cons.1 hd
  have ih:=zjy (B:=B) (p:=p) hR l (fun x hx=>h x (by simp [hx])) d2
  simp only [reached]
  rw [ih,show B+1-m+R=(B-m+R)+1 by omega,zrJ hR]
  have hn:=zp9 (B:=B) hR hm.1 hm.2
  by_cases q:m=B % R+1
  ·rw [if_pos (hn.2 q),if_pos (show B % R+1∈m::l by simp [q]),if_neg (fun hx=>by have:=d1 _ hx;omega)]
   omega
  ·rw [if_neg (fun hx=>q (hn.1 hx))]
   by_cases q2:B % R+1∈l
   ·rw [if_pos q2,if_pos (by simp [q2])]
    omega
   ·rw [if_neg q2,if_neg (by simp [q2];omega)]
    omega
theorem zjz {R p:Int}:∀(l:List Int),reached R p p l=0
 | []=>rfl
 | m::l=>by simp only [reached];rw [zjz l];omega
theorem zmg {w:Wheel} (h:OkW w) {p:Int} (h0:0<=p) (h1:p<w.Round):∀k:Nat,put w k p 0=turn w p k
 | 0=>by
  unfold turn
  rw [show p+((0:Nat):Int)=p by simp,zjz,Int.emod_eq_of_lt h0 h1]
  rfl
 | k+1=>by
  have hr:=h.r1
  have ih:=zmg h h0 h1 k
  rw [zrI w k 1 p 0,ih]
  unfold turn
  simp only [put]
  rw [show p+((k+1:Nat):Int)=(p+k)+1 by simp;omega,zrK (by omega),zjy (by omega) w.Notches h.nm h.nd]
  rfl
theorem zc0 {w:Wheel} (h:OkW w) {p c:Int} (h0:0<=p) (h1:p<w.Round) (hc:0<=c):(0<=(turn w p c).1/\(turn w p c).1<w.Round)/\0<=(turn w p c).2/\(turn w p c).2<=c:=by
 have:=zm8 h c.toNat p 0 h0 h1
 rw [zmg h h0 h1,show ((c.toNat:Nat):Int)=c by omega] at this
 omega
theorem zsP {n:Nat} {w:Wheel} (h:OkW w) (hn:100<=n) {p c:Int} (hp:0<=p) (hp':p<w.Round) (hc:0<=c) (hc':c<n) (hc2:c<1048576):ziv n w p c=some (turn w p c):=by
 rw [zxL h hn hp hp' hc hc' hc2,zmg h hp hp',show ((c.toNat:Nat):Int)=c by omega]
theorem zjA {R e p:Int} (hR:0<R) (h:p<=e):∀l:List Int,0<=reached R e p l
 | []=>by simp [reached]
 | m::l=>by
  have:=zjA hR h l
  have h2:=Int.ediv_le_ediv hR (show p-m+R<=e-m+R by omega)
  simp only [reached]
  omega
theorem zt6 {n:Nat} {w:Wheel} (h:OkW w) (hn:100<=n) {p c:Int} (hp:0<=p) (hp':p<w.Round) (hc:0<=c) (hc2:c<1048576):zem n ⟨w⟩ p c=some (turn w p c):=by
 have hr:=h.r1
 have hr2:=h.r2
 have hl:=h.nlen
 have hfin:=zc0 h hp hp' hc
 unfold turn at hfin
 simp only at hfin
 have e0:w64 (p+c)=p+c:=zaM (by omega) (by omega)
 have key:=zkN (F:=fun m i s=>zbe ⟨w⟩ p c m s i) (xs:=w.Notches) (spec:=fun l s=>some ((p+c) % w.Round,s+reached w.Round (p+c) p l)) (I:=fun l s=>0<=s/\s+reached w.Round (p+c) p l<=c/\∀x,x∈l->1<=x/\x<=w.Round) (by omega)
  (fun m s hI=>by simp [zbe,zcJ,zdc,reached,e0,zxG (show 0<=p+c by omega) (show 0<w.Round by omega)])
  (fun m i x l s hI hx hi _ _ hrec=>by
   obtain ⟨i1,i2,i3⟩:=hI
   have hxm:=i3 x (by simp)
   simp only [reached] at i2
   have hrl:=zjA (R:=w.Round) (e:=p+c) (p:=p) (by omega) (by omega) l
   have hd1:=Int.ediv_nonneg (show 0<=p+c-x+w.Round by omega) (show 0<=w.Round by omega)
   have hd2:=Int.ediv_nonneg (show 0<=p-x+w.Round by omega) (show 0<=w.Round by omega)
   have hd3:=Int.ediv_le_self w.Round (show 0<=p+c-x+w.Round by omega)
   have hd5:=Int.ediv_le_ediv (show 0<w.Round by omega) (show p-x+w.Round<=p+c-x+w.Round by omega)
   simp only [zbe,zcJ]
   rw [if_pos (by simpa using hi),hx,zaa,e0,zaM (x:=p+c-x) (by omega) (by omega),zaM (x:=p+c-x+w.Round) (by omega) (by omega),zaM (x:=p-x) (by omega) (by omega),zaM (x:=p-x+w.Round) (by omega) (by omega),
    zti (by omega) (by omega) (by omega),zti (by omega) (by omega) (by omega),zaa,zaa,zaM (x:=_-_) (by omega) (by omega),zaM (x:=s+_) (by omega) (by omega),
    hrec _ ⟨by omega,by omega,fun y hy=>i3 y (by simp [hy])⟩]
   simp only [reached]
   congr 2
   omega)
  w.Notches 0 n 0 (by omega) rfl (by omega) ⟨by omega,by omega,h.nm⟩
 have key:zbe ⟨w⟩ p c n 0 0=_:=key
 unfold zem
 rw [key]
 unfold turn
 rw [Int.zero_add]
structure OkS (w:Wheel) (s:Stand) (b:Int):Prop where
 p0:0<=s.Place
 p1:s.Place<w.Round
 c0:0<=s.Credit
 c1:s.Credit<=b
def zeg (w:Wheel) (a:Int):Bool:=inR a (-1) (w.Coins.length-1)
def zo8 (w:Wheel) (a:Int):Bool:=inR a 0 (w.Coins.length-1)
def coin (w:Wheel) (a:Int):Int:=w.Coins.getD a.toNat 0
def zg8 (w:Wheel) (s:Stand) (a:Int):Stand×Bool :=
 if 0<=a then (⟨(turn w s.Place (coin w a)).1,s.Credit+(turn w s.Place (coin w a)).2⟩,false) else if s.Credit=0 then (s,false) else (⟨0,s.Credit-1⟩,true)
theorem zjV {w:Wheel} {a:Int} (h0:0<=a) (h1:a<=w.Coins.length-1):idx w.Coins a=some (coin w a):=by
 obtain ⟨k,rfl⟩:∃k:Nat,a=k:=⟨a.toNat,by omega⟩
 have hk:k<w.Coins.length:=by omega
 rw [zcE hk]
 simp [coin,hk]
theorem zc1 {w:Wheel} (h:OkW w) {a:Int} (h0:0<=a) (h1:a<=w.Coins.length-1):1<=coin w a/\coin w a<=100:=by
 obtain ⟨k,rfl⟩:∃k:Nat,a=k:=⟨a.toNat,by omega⟩
 have hk:k<w.Coins.length:=by omega
 have:coin w k=w.Coins[k]:=by simp [coin,hk]
 rw [this]
 exact h.cm _ (List.getElem_mem hk)
theorem zoe {w:Wheel} (h:OkW w) {s:Stand} {b a:Int} (hs:OkS w s b) (ha:zeg w a=true):OkS w (zg8 w s a).1 (b+100):=by
 have ha:=zbl.1 ha
 have hr:=h.r1
 unfold zg8
 split
 ·rename_i h0
  have hc:=zc1 h h0 ha.2
  have ht:=zc0 h hs.p0 hs.p1 (show 0<=coin w a by omega)
  have:=hs.c0
  have:=hs.c1
  exact ⟨ht.1.1,ht.1.2,by show 0<=s.Credit+_;omega,by show s.Credit+_<=_;omega⟩
 ·have:=hs.c0
  have:=hs.c1
  split
  ·exact ⟨hs.p0,hs.p1,hs.c0,by show s.Credit<=b+100;omega⟩
  ·exact ⟨by show (0:Int)<=0;omega,by show (0:Int)<_;omega,by show 0<=s.Credit-1;omega,by show s.Credit-1<=_;omega⟩
theorem zxM {n:Nat} {w:Wheel} (h:OkW w) (hn:200<=n) {s:Stand} {b a:Int} (hs:OkS w s b) (hb:b<1099511627776) (ha:zeg w a=true):ziw n w s a=some (zg8 w s a):=by
 have ha:=zbl.1 ha
 have:=hs.c0
 have:=hs.c1
 unfold ziw zg8
 by_cases h0:0<=a
 ·have hc:=zc1 h h0 ha.2
  have ht:=zc0 h hs.p0 hs.p1 (show 0<=coin w a by omega)
  rw [if_pos (by simpa using h0),if_pos h0,zjV h0 ha.2,zaa,zsP h (by omega) hs.p0 hs.p1 (by omega) (by omega) (by omega),zaa,zaM (by omega) (by omega)]
 ·rw [if_neg (by simpa using h0),if_neg h0]
  by_cases hc:s.Credit=0
  ·rw [if_pos (by simpa using hc),if_pos hc]
  ·rw [if_neg (by simpa using hc),if_neg hc,zaM (by omega) (by omega)]
theorem zxN {n:Nat} {w:Wheel} (h:OkW w) (hn:200<=n) {s:Stand} {b a:Int} (hs:OkS w s b) (hb:b<1099511627776) (ha:zeg w a=true):zeJ n ⟨w⟩ s a=some (zg8 w s a).1:=by
 have ha:=zbl.1 ha
 have:=hs.c0
 have:=hs.c1
 unfold zeJ zg8
 by_cases h0:0<=a
 ·have hc:=zc1 h h0 ha.2
  have ht:=zc0 h hs.p0 hs.p1 (show 0<=coin w a by omega)
  rw [if_pos (by simp;omega),if_pos h0,zjV h0 ha.2,zaa,zt6 h (by omega) hs.p0 hs.p1 (by omega) (by omega),zaa,zaM (by omega) (by omega)]
 ·rw [if_neg (by simp;omega),if_neg h0]
  by_cases hc:s.Credit=0
  ·rw [if_neg (by simp;omega),if_pos hc]
  ·rw [if_pos (by simp;omega),if_neg hc,zaM (by omega) (by omega)]
theorem zAy {n:Nat} (f:Int->Option Bool) (g:Int->Bool) (xs:List Int) (hf:∀x,x∈xs->f x=some (g x)) (hl:xs.length<1048576) (hn:xs.length<n) :
  zfA n (fun x (_:Unit)=>(f x).map fun y=>(y,())) xs ()=some (decide ((xs.length:Int)<=20)&&xs.all g,()):=by
 have key:∀(l:List Int) (i m:Nat) (s:Unit),i<=xs.length->xs.drop i=l->l.length<m->(zar xs (zcl (fun x (_:Unit)=>(f x).map fun y=>(y,()))) m (i:Int) s).map (fun r=>decide (r.1≥0))=some (!l.all g):=by
  intro l i m s h1 h2 h3
  refine zsM (fun m i s=>(zar xs (zcl (fun x (_:Unit)=>(f x).map fun y=>(y,()))) m i s).map (fun r=>decide (r.1≥0))) xs (fun l _=>some (!l.all g)) hl (fun m s=>?_) (fun m i x l s hx hi _ _ hrec=>?_) l i m s h1 h2 h3
  ·simp [zar,za7,zbQ]
  ·have hmem:x∈xs:=by
    unfold idx at hx
    rw [if_pos (by omega)] at hx
    exact List.mem_of_getElem? hx
   simp only [zar,za7]
   rw [if_pos (by simpa using hi),hx,zaa]
   simp only [zcl,hf x hmem,Option.map_some,zaa]
   by_cases hg:g x=true
   ·rw [if_neg (by simp [hg])]
    have:=hrec ()
    rw [this]
    simp [hg]
   ·rw [if_pos (by simpa using hg)]
    simp [hg]
 have h:=key xs 0 n () (by omega) rfl hn
 unfold zfA zdn
 by_cases hq:(xs.length:Int)<=20
 ·rw [if_pos (by simpa using hq)]
  unfold zbq zcR
  change Option.map _ (zar xs _ n 0 ())=_ at h
  cases hx:zar xs (zcl (fun x (_:Unit)=>(f x).map fun y=>(y,()))) n 0 () with
  | none=>rw [hx] at h;cases h
  | some r =>
   rw [hx] at h
   simp only [Option.map_some,Option.some.injEq] at h
   simp only [zaa]
   rw [h]
   simp [hq]
 ·rw [if_neg (by simpa using hq)]
  simp [hq]
theorem zrL {w:Wheel} (hw:w.Coins.length<1048576) (x:Int):zdz ⟨w⟩ x=some (zo8 w x):=by
 unfold zdz zo8
 simp only []
 rw [zaM (by omega) (by omega),zhx,zaa]
theorem zsQ {w:Wheel} (hw:w.Coins.length<1048576) (x:Int):zcx ⟨w⟩ x=some (zeg w x):=by
 unfold zcx zcn
 rw [zrL hw,zaa]
 have e:zeg w x=(decide (x=-1) || zo8 w x):=by
  rw [Bool.eq_iff_iff]
  simp only [zeg,zo8,zbl,Bool.or_eq_true,decide_eq_true_eq]
  omega
 rw [e]
 by_cases h:x=-1
 ·rw [if_pos (by simpa using h)]
  simp [h]
 ·rw [if_neg (by simpa using h)]
  simp [h]
def zie (w:Wheel) (p:Int):Bool:=inR p 0 (w.Round-1)
theorem zqa {w:Wheel} (h:OkW w) (p:Int):zdd ⟨w⟩ p=some (zie w p):=by
 have:=h.r1
 have:=h.r2
 unfold zdd zie
 simp only []
 rw [zaM (by omega) (by omega),zhx,zaa]
def zgp (w:Wheel) (s:Stand):Bool:=zie w s.Place&&inR s.Credit 0 20
theorem zqb {w:Wheel} {s:Stand} (h:zgp w s=true):OkS w s 20:=by
 simp only [zgp,zie,Bool.and_eq_true,zbl] at h
 exact ⟨h.1.1,by omega,h.2.1,h.2.2⟩
def zw:Wheel_:=⟨⟨0,[],[]⟩⟩
theorem zt7 {n:Nat} {w:Wheel} (hl:zod n w) (aF:Wheel_->Unit->Option (Bool×Unit)) (b:Bool) (ha:valid w=true->aF ⟨w⟩ ()=some (b,())) :
  zhI n aF w ()=some (cond (valid w) (cond b (((⟨w⟩:Wheel_),0),()) ((zw,1),())) ((zw,10),())):=by
 unfold zhI
 rw [zo6 hl,zaa]
 cases hv:valid w with
 | false=>rfl
 | true =>
  rw [ha hv]
  cases b<;>rfl
def zqc (w:Wheel):List Int->Int->Stand->Stand×Int
 | [],k,s=>(s,k)
 | a::l,k,s=>zqc w l (k+if (zg8 w s a).2 then 1 else 0) (zg8 w s a).1
def zzB (w:Wheel) (s:Stand) (acts:List Int):Stand×Int×Int :=
 if valid w=true then (if zgp w s=true/\(acts.length:Int)<=20/\acts.all (zeg w)=true then ((zqc w acts 0 s).1,(zqc w acts 0 s).2,0) else (⟨0,0⟩,0,1)) else (⟨0,0⟩,0,10)
theorem zsR {w:Wheel} {s:Stand} {a:Int} (h:zeg w a=true) (hc:0<=s.Credit):(zg8 w s a).2=true↔a=-1/\s.Credit>0:=by
 have h:=zbl.1 h
 unfold zg8
 split
 ·simp;omega
 ·split<;>simp<;>omega
theorem zAl {n:Nat} {w:Wheel} (h:OkW w) (hn:200<=n) (acts:List Int) (hl:(acts.length:Int)<=20) (ha:acts.all (zeg w)=true) {s:Stand} (hs:OkS w s 20) :
  zbF n acts ((⟨w⟩,0),()) n 0 0 s.Place s.Credit=some ((zqc w acts 0 s).1,(zqc w acts 0 s).2,0):=by
 have key:=zkN (F:=fun m i (q:Int×Stand)=>zbF n acts ((⟨w⟩,0),()) m q.1 i q.2.Place q.2.Credit) (xs:=acts) (spec:=fun l q=>some ((zqc w l q.1 q.2).1,(zqc w l q.1 q.2).2,0))
  (I:=fun l q=>(0<=q.1/\q.1+l.length<=100)/\OkS w q.2 (2100-100*l.length)/\l.length<=20/\l.all (zeg w)=true) (by omega)
  (fun m q hI=>by simp [zbF,ze8,zgb,zqc])
  (fun m i x l q hI hx hi _ _ hrec=>by
   obtain ⟨i1,i2,i3,i4⟩:=hI
   simp only [List.length_cons,List.all_cons,Bool.and_eq_true] at i1 i2 i3 i4
   have hb:(2100-100*((l.length+1:Nat):Int))+100=2100-100*(l.length:Int):=by simp;omega
   have hok:=zoe h i2 i4.1
   rw [hb] at hok
   have hmi:=zsR i4.1 i2.c0
   have goal:∀c:Bool,(c=(zg8 w q.2 x).2)->zex n (zbF n acts ((⟨w⟩,0),()) m) ((⟨w⟩,0),()) q.1 (i:Int) q.2.Place q.2.Credit x c=some ((zqc w (x::l) q.1 q.2).1,(zqc w (x::l) q.1 q.2).2,0):=by
    rintro c rfl
    have e:(⟨q.2.Place,q.2.Credit⟩:Stand)=q.2:=rfl
    simp only [zex,zfh,zqc,e,zxN h hn i2 (by omega) i4.1,zaa]
    by_cases hm:(zg8 w q.2 x).2=true
    ·rw [if_pos hm,zaM (x:=q.1+1) (by omega) (by omega)]
     have:=hrec (q.1+1,(zg8 w q.2 x).1) ⟨⟨by simp;omega,by simp;omega⟩,hok,by omega,i4.2⟩
     simp only at this
     rw [this]
     simp [hm]
    ·rw [if_neg hm]
     have:=hrec (q.1,(zg8 w q.2 x).1) ⟨⟨by simp;omega,by simp;omega⟩,hok,by omega,i4.2⟩
     simp only at this
     rw [this]
     simp [hm]
   simp only [zbF,ze8]
   rw [if_pos (by simpa using hi),hx,zaa]
   by_cases hx1:x=-1
   ·rw [if_pos (by simpa using hx1)]
    refine goal _ ?_
    rw [Bool.eq_iff_iff,hmi]
    simp [hx1]
   ·rw [if_neg (by simpa using hx1)]
    refine goal _ ?_
    rw [Bool.eq_iff_iff,hmi]
    simp [hx1])
  acts 0 n (0,s) (by omega) rfl (by omega) ⟨⟨by simp,by simp;omega⟩,⟨hs.p0,hs.p1,hs.c0,by have:=hs.c1;simp;omega⟩,by omega,ha⟩
 exact key
theorem ztn {n:Nat} {w:Wheel} (hl:zod n w) (hn:200<=n) (s:Stand) (acts:List Int) (h1:acts.length<1048576) (h2:acts.length<n):zeK n w s acts=some (zzB w s acts):=by
 unfold zeK zzB
 rw [zt7 hl _ (zgp w s&&(decide ((acts.length:Int)<=20)&&acts.all (zeg w))) (fun hv=>?_),zaa]
 ·cases hv:valid w with
  | false=>rfl
  | true =>
   have h:=zg3 hv
   by_cases hq:zgp w s=true/\(acts.length:Int)<=20/\acts.all (zeg w)=true
   ·rw [if_pos rfl,if_pos hq,hq.1,hq.2.2,show decide ((acts.length:Int)<=20)=true by simpa using hq.2.1]
    exact zAl h hn acts hq.2.1 hq.2.2 (zqb hq.1)
   ·rw [if_pos rfl,if_neg hq,show (zgp w s&&(decide ((acts.length:Int)<=20)&&acts.all (zeg w)))=false by
     cases hz:(zgp w s&&(decide ((acts.length:Int)<=20)&&acts.all (zeg w))) with
     | false=>rfl
     | true=>simp only [Bool.and_eq_true,decide_eq_true_eq] at hz;exact (hq hz).elim]
    rfl
 ·have h:=zg3 hv
  show (zfg n ⟨w⟩ s acts).map (fun y=>(y,()))=_
  unfold zfg zcV
  rw [zqa h,zaa,zhx,zAy (fun x=>zcx ⟨w⟩ x) (zeg w) acts (fun x _=>zsQ hl.2.1 x) h1 h2]
  unfold zgp
  cases zie w s.Place<;>cases inR s.Credit 0 20<;>rfl
theorem zkO {n:Nat} (a b:List Int) (hs:a.length<1048576) (hn:a.length<n):zdt n a b=some (decide (a=b)):=by
 unfold zdt
 by_cases h:a.length=b.length
 ·rw [if_neg (by simp [h])]
  have:=ztm (F:=fun m i (_:Unit)=>zbI a b m i) (xs:=a.zip b) (spec:=fun l _=>some (decide (∀q,q∈l->q.1=q.2))) (n:=n) (by simp [←h];omega) (by simp [←h];omega) () (fun m s=>by simp [zbI,zde,zdZ,←h]) (fun m i x l s hx hi hi' hd hrec=>by
   have hi1:i<a.length:=by simp [←h] at hi;exact hi
   have hi2:i<b.length:=by omega
   have hx':x=(a[i],b[i]):=by
    rw [zcE (by simp;omega)] at hx
    injection hx with hx
    rw [←hx]
    simp
   simp only [zbI,zde]
   rw [if_pos (by simp;omega),zcE hi1,zcE hi2,zaa,zaa]
   subst hx'
   by_cases hb:a[i]=b[i]
   ·rw [if_neg (by simp [hb]),hrec ()]
    simp [hb]
   ·rw [if_pos (by simp [hb])]
    simp [hb])
  rw [show zbI a b n 0=_ from this]
  congr 1
  apply decide_eq_decide.2
  constructor
  ·intro hq
   apply List.ext_getElem h
   intro i h1 h2
   have:=hq (a[i],b[i]) (by
    have h3:i<(a.zip b).length:=by simp;omega
    have:(a.zip b)[i]=(a[i],b[i]):=by simp
    rw [←this]
    exact List.getElem_mem h3)
   exact this
  ·rintro rfl q hq
   obtain ⟨i,hi,rfl⟩:=List.getElem_of_mem hq
   simp
 ·rw [if_pos (by simp;omega)]
  have:a≠b:=fun e=>h (by rw [e])
  simp [this]
theorem zmh {n:Nat} (a:List Int) (hs:a.length<1048576) (hn:a.length<n):zdt n a a=some true:=by rw [zkO a a hs hn];simp
theorem zt8 {α:Type} {l:List α} (h:l.length<1048576):app ([]:List α) l=some l:=by rw [zmV (by simp;omega)];rfl
section
variable {κ:Type} [DecidableEq κ]
theorem zo9:∀{M:List (κ×Int)} {k:κ},zcm M k=true↔k∈M.map (·.1)
 | [],k=>by simp [zcm]
 | p::M,k=>by
  simp only [zcm,List.map_cons,List.mem_cons]
  by_cases h:p.1=k
  ·simp [h]
  ·rw [if_neg h,zo9]
   exact ⟨.inr,fun e=>e.resolve_left (Ne.symm h)⟩
theorem zpa:∀{M:List (κ×Int)} {k:κ},zcm M k=true->(k,zvb M k)∈M
 | [],k,h=>by simp [zcm] at h
 | p::M,k,h=>by
  by_cases e:p.1=k
  ·simp only [zvb,if_pos e]
   rw [←e]
   exact List.mem_cons_self
  ·simp only [zcm,if_neg e] at h
   simp only [zvb,if_neg e]
   exact List.mem_cons_of_mem _ (zpa h)
theorem zpb:∀{M:List (κ×Int)} {k:κ} {v:Int} {p:κ×Int},p∈zg9 M k v->p=(k,v)\/p∈M
 | [],k,v,p,h=>by simp [zg9] at h;exact .inl h
 | q::M,k,v,p,h=>by
  simp only [zg9] at h
  split at h
  ·rcases List.mem_cons.1 h with h | h
   ·exact .inl h
   ·exact .inr (List.mem_cons_of_mem _ h)
  ·rcases List.mem_cons.1 h with h | h
   ·exact .inr (h▸List.mem_cons_self)
   ·rcases zpb h with h | h
    ·exact .inl h
    ·exact .inr (List.mem_cons_of_mem _ h)
theorem zm9:∀{M:List (κ×Int)} {k:κ} {v:Int},(zg9 M k v).map (·.1)=if zcm M k=true then M.map (·.1) else M.map (·.1)++[k]
 | [],k,v=>by simp [zg9,zcm]
 | q::M,k,v=>by
  by_cases e:q.1=k
  ·simp [zg9,zcm,e]
  ·simp only [zg9,zcm,if_neg e,List.map_cons]
   rw [zm9]
   cases zcm M k<;>simp
theorem zqd {M:List (κ×Int)} {k:κ} {v:Int} (h:(M.map (·.1)).Nodup):((zg9 M k v).map (·.1)).Nodup:=by
 rw [zm9]
 cases e:zcm M k with
 | true=>simpa using h
 | false =>
  have:¬k∈M.map (·.1):=fun hk=>by rw [zo9.2 hk] at e;cases e
  simp only [Bool.false_eq_true,if_false]
  rw [List.nodup_append]
  refine ⟨h,by simp,fun a ha b hb=>?_⟩
  simp only [List.mem_singleton] at hb
  subst hb
  exact fun e=>this (e▸ha)
end
def zjH (b:Bool) (s:Bool×Int) (n:Int):Bool×Int:=if s.1=true\/cond b (decide (n>s.2)) (decide (n<s.2))=true then (false,n) else s
def pick (b:Bool) (vs:List Int):Int:=(vs.foldl (zjH b) (true,0)).2
def leB (b:Bool) (x y:Int):Prop:=cond b (x<=y) (y<=x)
theorem leB.refl (b:Bool) (x:Int):leB b x x:=by cases b<;>exact Int.le_refl x
theorem leB.trans {b:Bool} {x y z:Int} (h:leB b x y) (h':leB b y z):leB b x z:=by
 cases b
 ·exact Int.le_trans h' h
 ·exact Int.le_trans h h'
theorem leB.anti {b:Bool} {x y:Int} (h:leB b x y) (h':leB b y x):x=y:=by
 cases b
 ·exact Int.le_antisymm h' h
 ·exact Int.le_antisymm h h'
theorem leB.add {b:Bool} {x y:Int} (h:leB b x y) (a:Int):leB b (a+x) (a+y):=by
 cases b
 ·exact Int.add_le_add_left h a
 ·exact Int.add_le_add_left h a
theorem zjh (b:Bool):∀(vs:List Int) (m:Int),(vs.foldl (zjH b) (false,m)).1=false/\((vs.foldl (zjH b) (false,m)).2=m\/(vs.foldl (zjH b) (false,m)).2∈vs)/\leB b m (vs.foldl (zjH b) (false,m)).2/\∀v,v∈vs->leB b v (vs.foldl (zjH b) (false,m)).2
 | [],m=>⟨rfl,.inl rfl,leB.refl b m,fun v h=>by simp at h⟩
 | x::vs,m=>by
  simp only [List.foldl_cons]
  by_cases h:cond b (decide (x>m)) (decide (x<m))=true
  ·have e:zjH b (false,m) x=(false,x):=by
    unfold zjH
    rw [if_pos (.inr h)]
   rw [e]
   obtain ⟨h1,h2,h3,h4⟩:=zjh b vs x
   have hm:leB b m x:=by
    cases b
    ·exact Int.le_of_lt (by simpa using h)
    ·exact Int.le_of_lt (by simpa using h)
   refine ⟨h1,?_,hm.trans h3,fun v hv=>?_⟩
   ·rcases h2 with h2 | h2
    ·exact .inr (by rw [h2];exact List.mem_cons_self)
    ·exact .inr (List.mem_cons_of_mem _ h2)
   ·rcases List.mem_cons.1 hv with rfl | hv
    ·exact h3
    ·exact h4 v hv
  ·have e:zjH b (false,m) x=(false,m):=by
    unfold zjH
    rw [if_neg (by simpa using h)]
   rw [e]
   obtain ⟨h1,h2,h3,h4⟩:=zjh b vs m
   have hm:leB b x m:=by
    cases b
    ·simpa [leB] using h
    ·simpa [leB] using h
   refine ⟨h1,h2.imp_right (List.mem_cons_of_mem _),h3,fun v hv=>?_⟩
   rcases List.mem_cons.1 hv with rfl | hv
   ·exact hm.trans h3
   ·exact h4 v hv
theorem zof (b:Bool) (m x:Int):zjH b (true,m) x=(false,x):=by
 unfold zjH
 rw [if_pos (.inl rfl)]
theorem zhz (b:Bool) {vs:List Int} (h:vs≠[]):pick b vs∈vs/\∀v,v∈vs->leB b v (pick b vs):=by
 cases vs with
 | nil=>exact (h rfl).elim
 | cons x vs =>
  unfold pick
  rw [List.foldl_cons,zof]
  obtain ⟨h1,h2,h3,h4⟩:=zjh b vs x
  refine ⟨?_,fun v hv=>?_⟩
  ·rcases h2 with h2 | h2
   ·rw [h2];exact List.mem_cons_self
   ·exact List.mem_cons_of_mem _ h2
  ·rcases List.mem_cons.1 hv with rfl | hv
   ·exact h3
   ·exact h4 v hv
theorem zt9 (b:Bool) {vs:List Int} {r:Int} (h:r∈vs) (hr:∀v,v∈vs->leB b v r):pick b vs=r:=by
 obtain ⟨h1,h2⟩:=zhz b (vs:=vs) (fun e=>by rw [e] at h;simp at h)
 exact (hr _ h1).anti (h2 _ h)
def total:List Int->Int
 | []=>0
 | x::l=>x+total l
def zhb (l:List Int) (k:Nat):List Int:=l.set k (l.getD k 0-1)
theorem zkP:∀{l:List Int} {k:Nat} {v:Int},k<l.length->total (l.set k v)=total l-l.getD k 0+v
 | [],k,v,h=>by simp at h
 | x::l,0,v,h=>by simp [total];omega
 | x::l,k+1,v,h=>by
  have:=zkP (l:=l) (k:=k) (v:=v) (by simpa using h)
  simp only [List.set_cons_succ,total,List.getD_cons_succ]
  omega
theorem zfH {l:List Int} {k:Nat} (h:k<l.length):total (zhb l k)=total l-1:=by
 unfold zhb
 rw [zkP h]
 omega
theorem zeP:∀{l:List Int},(∀x,x∈l->0<=x)->0<=total l
 | [],_=>Int.le_refl _
 | x::l,h=>by
  have:=h x (by simp)
  have:=zeP (l:=l) (fun y hy=>h y (by simp [hy]))
  simp only [total]
  omega
theorem zgq:∀{l:List Int},(∀x,x∈l->0<=x)->∀k,0<=l.getD k 0/\l.getD k 0<=total l
 | [],_,k=>by simp [total]
 | x::l,h,0=>by
  have:=h x (by simp)
  have:=zeP (l:=l) (fun y hy=>h y (by simp [hy]))
  simp only [List.getD_cons_zero,total]
  omega
 | x::l,h,k+1=>by
  have:=h x (by simp)
  have:=zgq (l:=l) (fun y hy=>h y (by simp [hy])) k
  simp only [List.getD_cons_succ,total]
  omega
theorem zqe:∀{l:List Int},(∀x,x∈l->0<=x)->total l=0->∀k,l.getD k 0=0:=fun h h0 k=>by
 have:=zgq h k
 omega
structure OkP (w:Wheel) (l:List Int):Prop where
 len:l.length=w.Coins.length
 nn:∀x,x∈l->0<=x
 tot:total l<=1000
theorem OkP.less {w:Wheel} {l:List Int} (h:OkP w l) {k:Nat} (hk:k<w.Coins.length) (h0:l.getD k 0≠0):OkP w (zhb l k):=by
 have hk':k<l.length:=by rw [h.len];exact hk
 have:=zgq h.nn k
 refine ⟨by simp [zhb,h.len],fun x hx=>?_,by rw [zfH hk'];have:=h.tot;omega⟩
 rcases List.mem_or_eq_of_mem_set hx with hx | rfl
 ·exact h.nn x hx
 ·omega
def zto (l:List Int):List Int:=[l.getD 0 0,l.getD 1 0,l.getD 2 0,l.getD 3 0]
def zbX (l:List Int):Bag_:=⟨l.getD 0 0,l.getD 1 0,l.getD 2 0,l.getD 3 0⟩
theorem zkQ {l:List Int} {k:Nat} (h:k<4):idx (zto l) (k:Int)=some (l.getD k 0):=by
 match k,h with
 | 0,_=>rfl
 | 1,_=>rfl
 | 2,_=>rfl
 | 3,_=>rfl
theorem zog {l:List Int} {k:Nat} {v:Int} (h:k<l.length) (h4:l.length<=4):zr8 (zto l) (k:Int) v=some (zto (l.set k v)):=by
 unfold zr8
 rw [if_pos ⟨by omega,by simp [zto];omega⟩,Int.toNat_natCast]
 match l,k,h,h4 with
 | [a],0,_,_=>rfl
 | [a,b],0,_,_=>rfl
 | [a,b],1,_,_=>rfl
 | [a,b,c],0,_,_=>rfl
 | [a,b,c],1,_,_=>rfl
 | [a,b,c],2,_,_=>rfl
 | [a,b,c,d],0,_,_=>rfl
 | [a,b,c,d],1,_,_=>rfl
 | [a,b,c,d],2,_,_=>rfl
 | [a,b,c,d],3,_,_=>rfl
theorem zmi {l l':List Int} (h:zbX l=zbX l') (hl:l.length=l'.length) (h4:l.length<=4):l=l':=by
 simp only [zbX,Bag_.mk.injEq] at h
 obtain ⟨h0,h1,h2,h3⟩:=h
 apply List.ext_getElem hl
 intro i hi hi'
 have e1:l[i]=l.getD i 0:=by simp [hi]
 have e2:l'[i]=l'.getD i 0:=by simp [hi']
 rw [e1,e2]
 match i,(show i<4 by omega) with
 | 0,_=>exact h0
 | 1,_=>exact h1
 | 2,_=>exact h2
 | 3,_=>exact h3
structure Opn where
 acts:List Int
 plays:Int
 p:Int
 c:Int
 k:Nat
def zlc (w:Wheel) (p c:Int) (k:Nat):Opn:=⟨[(k:Int)],(turn w p (coin w k)).2,(turn w p (coin w k)).1,c+(turn w p (coin w k)).2,k⟩
def zqf (w:Wheel) (c:Int) (k:Nat):Opn:=⟨[-1,(k:Int)],(turn w 0 (coin w k)).2,(turn w 0 (coin w k)).1,c-1+(turn w 0 (coin w k)).2,k⟩
def zxO (w:Wheel) (p c:Int) (k:Nat):List Opn:=zlc w p c k::(if c=0\/p=0 then [] else [zqf w c k])
def zoh (w:Wheel) (p c:Int) (l:List Int):Nat->Nat->List Opn
 | 0,_=>[]
 | d+1,k=>(if l.getD k 0=0 then [] else zxO w p c k)++zoh w p c l d (k+1)
theorem zeQ {w:Wheel} {p c:Int} {l:List Int} {o:Opn}:∀{d k:Nat},o∈zoh w p c l d k↔∃j,k<=j/\j<k+d/\l.getD j 0≠0/\o∈zxO w p c j
 | 0,k=>by
  simp only [zoh,List.not_mem_nil,false_iff]
  rintro ⟨j,h1,h2,_⟩
  omega
 | d+1,k=>by
  simp only [zoh,List.mem_append]
  rw [zeQ]
  constructor
  ·rintro (h | ⟨j,h1,h2,h3,h4⟩)
   ·split at h
    ·simp at h
    ·rename_i h0
     exact ⟨k,Nat.le_refl k,by omega,h0,h⟩
   ·exact ⟨j,by omega,by omega,h3,h4⟩
  ·rintro ⟨j,h1,h2,h3,h4⟩
   by_cases e:j=k
   ·subst e
    exact .inl (by rw [if_neg h3];exact h4)
   ·exact .inr ⟨j,by omega,by omega,h3,h4⟩
theorem zfd {w:Wheel} {p c:Int} {k:Nat} {o:Opn}:o∈zxO w p c k↔o=zlc w p c k\/(c≠0/\p≠0/\o=zqf w c k):=by
 unfold zxO
 rw [List.mem_cons]
 by_cases h:c=0\/p=0
 ·rw [if_pos h]
  simp only [List.not_mem_nil,or_false]
  exact ⟨.inl,fun q=>q.elim id fun q=>(h.elim q.1 q.2.1).elim⟩
 ·rw [if_neg h]
  simp only [List.mem_singleton]
  exact or_congr_right ⟨fun q=>⟨fun e=>h (.inl e),fun e=>h (.inr e),q⟩,fun q=>q.2.2⟩
def Q (b:Bool) (w:Wheel):Nat->Int->Int->List Int->Int
 | 0,_,_,_=>0
 | T+1,p,c,l=>pick b ((zoh w p c l l.length 0).map fun o=>o.plays+Q b w T o.p o.c (zhb l o.k))
structure OkO (w:Wheel) (c:Int) (l:List Int) (o:Opn):Prop where
 k:o.k<w.Coins.length
 nz:l.getD o.k 0≠0
 p0:0<=o.p
 p1:o.p<w.Round
 c0:0<=o.c
 c1:o.c<=c+100
 y0:0<=o.plays
 y1:o.plays<=100
theorem zrM {w:Wheel} (h:OkW w) {p c:Int} (hp:0<=p) (hp':p<w.Round) (hc:0<=c) {l:List Int} (hl:OkP w l) {o:Opn} (ho:o∈zoh w p c l l.length 0):OkO w c l o:=by
 have hr:=h.r1
 obtain ⟨j,_,h2,h3,h4⟩:=zeQ.1 ho
 have hj:j<w.Coins.length:=by have:=hl.len;omega
 have hco:=zc1 h (a:=(j:Int)) (by omega) (by omega)
 rcases zfd.1 h4 with rfl | ⟨h5,h6,rfl⟩
 ·have ht:=zc0 h hp hp' (show 0<=coin w j by omega)
  exact ⟨hj,h3,ht.1.1,ht.1.2,by show 0<=c+_;omega,by show c+_<=_;omega,ht.2.1,by show (turn w p (coin w j)).2<=100;omega⟩
 ·have ht:=zc0 h (p:=0) (by omega) (by omega) (show 0<=coin w j by omega)
  exact ⟨hj,h3,ht.1.1,ht.1.2,by show 0<=c-1+_;omega,by show c-1+_<=_;omega,ht.2.1,by show (turn w 0 (coin w j)).2<=100;omega⟩
theorem zkR:∀{l:List Int},total l≠0->∃j,j<l.length/\l.getD j 0≠0
 | [],h=>(h rfl).elim
 | x::l,h=>by
  by_cases e:x=0
  ·obtain ⟨j,h1,h2⟩:=zkR (l:=l) (fun q=>h (by simp [total,q,e]))
   exact ⟨j+1,by simp;omega,by simpa using h2⟩
  ·exact ⟨0,by simp,by simpa using e⟩
theorem zrN {w:Wheel} {p c:Int} {l:List Int} (h:total l≠0):∃j,j<l.length/\l.getD j 0≠0/\zlc w p c j∈zoh w p c l l.length 0:=by
 obtain ⟨j,h1,h2⟩:=zkR h
 exact ⟨j,h1,h2,zeQ.2 ⟨j,by omega,by omega,h2,zfd.2 (.inl rfl)⟩⟩
theorem OkP.out {w:Wheel} {l:List Int} (h:OkP w l):∀j,w.Coins.length<=j->l.getD j 0=0:=fun j hj=>by
 rw [←h.len] at hj
 simp [hj]
def spot (l:List Int) (p c:Int):Spot_:=⟨zbX l,p,c⟩
def zsS (b:Bool) (w:Wheel) (M:List (Spot_×Int)):Prop :=
 (M.map (·.1)).Nodup/\∀e,e∈M->∃l p c,e.1=spot l p c/\OkP w l/\(0<=p/\p<w.Round)/\(0<=c/\c<1099511627776)/\e.2=Q b w (total l).toNat p c l
theorem zsS.nil (b:Bool) (w:Wheel):zsS b w []:=⟨by simp,fun e h=>by simp at h⟩
theorem zgi {x:Int} (h1:-9223372036854775808<=x) (h2:x<9223372036854775808):okI x=true:=by
 simp only [okI,Lit.wf,IntKind.min,IntKind.max,IntKind.signed,IntKind.bits]
 simp
 omega
theorem zna {w:Wheel} (h:OkW w) {l:List Int} (hl:OkP w l) {p c:Int} (hp:0<=p) (hp':p<w.Round) (hc:0<=c) (hc2:c<1099511627776):zlY (spot l p c)=true:=by
 have hr:=h.r2
 have ht:=hl.tot
 have g:=zgq hl.nn
 have g0:=g 0
 have g1:=g 1
 have g2:=g 2
 have g3:=g 3
 simp only [zlY,spot,zbX,List.all_cons,List.all_nil,Bool.and_true,Bool.and_eq_true]
 exact ⟨zgi (by omega) (by omega),zgi (by omega) (by omega),zgi (by omega) (by omega),zgi (by omega) (by omega),zgi (by omega) (by omega),zgi (by omega) (by omega)⟩
theorem zsS.mok {b:Bool} {w:Wheel} {M:List (Spot_×Int)} (hM:zsS b w M) (h:OkW w) {l:List Int} (hl:OkP w l) {p c:Int} (hp:0<=p) (hp':p<w.Round) (hc:0<=c) (hc2:c<1099511627776):mok zlY M (spot l p c)=true:=by
 unfold Go.AM.mok
 rw [zna h hl hp hp' hc hc2,show M.all (fun p=>zlY p.1)=true from List.all_eq_true.2 fun e he=>?_,show decide ((M.map (·.1)).Nodup)=true by simpa using hM.1]
 ·rfl
 ·obtain ⟨l',p',c',e1,e2,e3,e4,_⟩:=hM.2 e he
  rw [e1]
  exact zna h e2 e3.1 e3.2 e4.1 e4.2
theorem zsS.get {b:Bool} {w:Wheel} {M:List (Spot_×Int)} (hM:zsS b w M) (h:OkW w) {l:List Int} (hl:OkP w l) {p c:Int} (hk:zcm M (spot l p c)=true):zvb M (spot l p c)=Q b w (total l).toNat p c l:=by
 obtain ⟨l',p',c',e1,e2,e3,e4,e5⟩:=hM.2 _ (zpa hk)
 simp only [spot,Spot_.mk.injEq] at e1
 obtain ⟨q1,q2,q3⟩:=e1
 have e:l=l':=zmi q1 (by rw [hl.len,e2.len]) (by rw [hl.len];exact h.clen)
 subst e q2 q3
 exact e5
theorem zsS.set {b:Bool} {w:Wheel} {M:List (Spot_×Int)} (hM:zsS b w M) {l:List Int} (hl:OkP w l) {p c:Int} (hp:0<=p) (hp':p<w.Round) (hc:0<=c) (hc2:c<1099511627776):zsS b w (zg9 M (spot l p c) (Q b w (total l).toNat p c l)):=by
 refine ⟨zqd hM.1,fun e he=>?_⟩
 rcases zpb he with rfl | he
 ·exact ⟨l,p,c,rfl,hl,⟨hp,hp'⟩,⟨hc,hc2⟩,rfl⟩
 ·exact hM.2 e he
theorem zrO {l:List Int} (h4:l.length<=4):l.getD 0 0+l.getD 1 0+l.getD 2 0+l.getD 3 0=total l:=by
 match l,h4 with
 | [],_=>rfl
 | [a],_=>simp [total]
 | [a,b],_=>simp [total]
 | [a,b,c],_=>simp [total];omega
 | [a,b,c,d],_=>simp [total];omega
def ziU (w:Wheel) (p c:Int) (l:List Int):Nat->Nat->List Opn
 | 0,_=>[]
 | d+1,k=>(if l.getD k 0=0 then [] else [zlc w p c k])++ziU w p c l d (k+1)
theorem zf2 {w:Wheel} {p c:Int} {l:List Int} {o:Opn}:∀{d k:Nat},o∈ziU w p c l d k↔∃j,k<=j/\j<k+d/\l.getD j 0≠0/\o=zlc w p c j
 | 0,k=>by
  simp only [ziU,List.not_mem_nil,false_iff]
  rintro ⟨j,h1,h2,_⟩
  omega
 | d+1,k=>by
  simp only [ziU,List.mem_append]
  rw [zf2]
  constructor
  ·rintro (h | ⟨j,h1,h2,h3,h4⟩)
   ·split at h
    ·simp at h
    ·rename_i h0
     exact ⟨k,Nat.le_refl k,by omega,h0,by simpa using h⟩
   ·exact ⟨j,by omega,by omega,h3,h4⟩
  ·rintro ⟨j,h1,h2,h3,h4⟩
   by_cases e:j=k
   ·subst e
    exact .inl (by rw [if_neg h3];simpa using h4)
   ·exact .inr ⟨j,by omega,by omega,h3,h4⟩
theorem ztp (w:Wheel) (c:Int) (l:List Int):∀d k,zoh w 0 c l d k=ziU w 0 c l d k
 | 0,k=>rfl
 | d+1,k=>by
  simp only [zoh,ziU,ztp w c l d (k+1)]
  congr 1
  split
  ·rfl
  ·unfold zxO
   rw [if_pos (.inr rfl)]
def zpc (b:Bool) (w:Wheel) (T:Nat) (l:List Int) (o:Opn):Int:=o.plays+Q b w T o.p o.c (zhb l o.k)
def zua (b:Bool) (x y:Int):Int:=cond b (max x y) (min x y)
theorem zpd (b:Bool) (x y:Int):leB b x (zua b x y)/\leB b y (zua b x y)/\(zua b x y=x\/zua b x y=y):=by
 cases b
 ·simp only [leB,zua,cond_false];omega
 ·simp only [leB,zua,cond_true];omega
theorem zub (b:Bool) (w:Wheel) (T:Nat) (p c:Int) (l:List Int) (hc:c≠0) (hp:p≠0) (ht:total l≠0) :
  Q b w (T+1) p c l=zua b (pick b ((ziU w p c l l.length 0).map (zpc b w T l))) (Q b w (T+1) 0 (c-1) l):=by
 have h0:Q b w (T+1) 0 (c-1) l=pick b ((ziU w 0 (c-1) l l.length 0).map (zpc b w T l)):=by
  simp only [Q,ztp]
  rfl
 rw [h0]
 obtain ⟨j,h1,h2,_⟩:=zrN (w:=w) (p:=p) (c:=c) ht
 have e1:(ziU w p c l l.length 0).map (zpc b w T l)≠[]:=by
  intro e
  have:=List.mem_map_of_mem (f:=zpc b w T l) (zf2.2 ⟨j,by omega,by omega,h2,rfl⟩:zlc w p c j∈ziU w p c l l.length 0)
  rw [e] at this
  simp at this
 have e2:(ziU w 0 (c-1) l l.length 0).map (zpc b w T l)≠[]:=by
  intro e
  have:=List.mem_map_of_mem (f:=zpc b w T l) (zf2.2 ⟨j,by omega,by omega,h2,rfl⟩:zlc w 0 (c-1) j∈ziU w 0 (c-1) l l.length 0)
  rw [e] at this
  simp at this
 obtain ⟨a1,a2⟩:=zhz b e1
 obtain ⟨b1,b2⟩:=zhz b e2
 obtain ⟨m1,m2,m3⟩:=zpd b (pick b ((ziU w p c l l.length 0).map (zpc b w T l))) (pick b ((ziU w 0 (c-1) l l.length 0).map (zpc b w T l)))
 have vs:∀j,zpc b w T l (zqf w c j)=zpc b w T l (zlc w 0 (c-1) j):=fun j=>rfl
 simp only [Q]
 refine zt9 b ?_ ?_
 ·show _∈(zoh w p c l l.length 0).map (zpc b w T l)
  rw [List.mem_map]
  rcases m3 with m3 | m3
  ·rw [m3]
   obtain ⟨o,ho,he⟩:=List.mem_map.1 a1
   obtain ⟨j,q1,q2,q3,rfl⟩:=zf2.1 ho
   exact ⟨_,zeQ.2 ⟨j,q1,q2,q3,zfd.2 (.inl rfl)⟩,he⟩
  ·rw [m3]
   obtain ⟨o,ho,he⟩:=List.mem_map.1 b1
   obtain ⟨j,q1,q2,q3,rfl⟩:=zf2.1 ho
   exact ⟨zqf w c j,zeQ.2 ⟨j,q1,q2,q3,zfd.2 (.inr ⟨hc,hp,rfl⟩)⟩,by rw [vs];exact he⟩
 ·intro v hv
  obtain ⟨o,ho,he⟩:=List.mem_map.1 hv
  obtain ⟨j,q1,q2,q3,q4⟩:=zeQ.1 ho
  rw [←he]
  rcases zfd.1 q4 with rfl | ⟨_,_,rfl⟩
  ·exact (a2 _ (List.mem_map_of_mem (f:=zpc b w T l) (zf2.2 ⟨j,q1,q2,q3,rfl⟩))).trans m1
  ·refine leB.trans ?_ m2
   show leB b (zpc b w T l (zqf w c j)) _
   rw [vs]
   exact b2 _ (List.mem_map_of_mem (f:=zpc b w T l) (zf2.2 ⟨j,q1,q2,q3,rfl⟩))
def zdv (w:Wheel) (l:List Int):Bool:=decide (l.length=w.Coins.length)&&l.all (fun x=>inR x 0 12)&&decide (total l<=12)
theorem zsT {w:Wheel} {l:List Int} (h:zdv w l=true):OkP w l/\total l<=12:=by
 simp only [zdv,Bool.and_eq_true,decide_eq_true_eq,List.all_eq_true] at h
 exact ⟨⟨h.1.1,fun x hx=>(zbl.1 (h.1.2 x hx)).1,by omega⟩,h.2⟩
theorem zji {n:Nat} {w:Wheel} (hw:w.Coins.length<100000) (hn:w.Coins.length<n) (l:List Int):zdX n w l=some (zdv w l):=by
 unfold zdX zdv
 by_cases hl:l.length=w.Coins.length
 ·rw [if_neg (by simp;omega)]
  have key:=zkN (F:=fun m i (s:Int)=>zbV l m s i) (xs:=l) (spec:=fun k s=>some (k.all (fun x=>inR x 0 12)&&decide (s+total k<=12))) (I:=fun k s=>0<=s/\s+12*k.length<=100000000) (by omega)
   (fun m s hI=>by simp [zbV,zdx,zei,total])
   (fun m i x k s hI hx hi _ _ hrec=>by
    simp only [List.length_cons] at hI
    simp only [zbV,zdx]
    rw [if_pos (by simpa using hi),hx,zaa,zhy,zaa,zaa]
    by_cases q:inR x 0 12=true
    ·have:=zbl.1 q
     rw [if_neg (by simp [q]),zaM (x:=s+x) (by omega) (by omega),hrec (s+x) ⟨by omega,by omega⟩]
     have e:s+total (x::k)=s+x+total k:=by simp only [total];omega
     rw [e]
     simp only [List.all_cons,q,Bool.true_and]
    ·rw [if_pos (by simpa using q)]
     simp [q])
   l 0 n 0 (by omega) rfl (by omega) ⟨by omega,by omega⟩
  rw [show zbV l n 0 0=_ from key]
  simp [hl]
 ·rw [if_pos (by simp;omega)]
  simp [hl]
def zd7 (w:Wheel):Stand->List Int->Int
 | _,[]=>0
 | s,a::l=>(if 0<=a then (turn w s.Place (coin w a)).2 else 0)+zd7 w (zg8 w s a).1 l
def cnt (k:Int):List Int->Int
 | []=>0
 | a::l=>(if a=k then 1 else 0)+cnt k l
theorem ze3 (k:Int):∀(a b:List Int),cnt k (a++b)=cnt k a+cnt k b
 | [],b=>by simp [cnt]
 | x::a,b=>by
  simp only [List.cons_append,cnt]
  rw [ze3 k a b]
  omega
structure Way (w:Wheel) (s:Stand) (l acts:List Int) (q:Int):Prop where
 ok:acts.all (zeg w)=true
 len:(acts.length:Int)<=2*total l
 bag:∀k:Nat,k<w.Coins.length->cnt k acts=l.getD k 0
 buys:zd7 w s acts=q
theorem zjj {l:List Int} {k j:Nat} (hk:k<l.length):(zhb l k).getD j 0=l.getD j 0-(if k=j then 1 else 0):=by
 unfold zhb
 by_cases e:k=j
 ·subst e
  rw [if_pos rfl,List.getD_eq_getElem?_getD,List.getElem?_set_self hk]
  rfl
 ·rw [if_neg e,List.getD_eq_getElem?_getD,List.getElem?_set_ne e,←List.getD_eq_getElem?_getD]
  omega
theorem zmj {w:Wheel} {k:Nat} (h:k<w.Coins.length):zeg w k=true:=zbl.2 ⟨by omega,by omega⟩
theorem zoi {w:Wheel}:zeg w (-1)=true:=zbl.2 ⟨by omega,by omega⟩
theorem zrP (w:Wheel) (p c:Int) (k:Nat):zg8 w ⟨p,c⟩ (k:Int)=(⟨(zlc w p c k).p,(zlc w p c k).c⟩,false):=by
 unfold zg8
 rw [if_pos (by omega)]
 rfl
theorem ztq (w:Wheel) (p c:Int) (hc:c≠0):zg8 w ⟨p,c⟩ (-1)=(⟨0,c-1⟩,true):=by
 unfold zg8
 rw [if_neg (by omega),if_neg hc]
theorem Way.step {w:Wheel} {p c:Int} {l acts:List Int} {q:Int} {o:Opn} (hl:OkP w l) (hc:0<=c) (ho:o∈zoh w p c l l.length 0) (h:Way w ⟨o.p,o.c⟩ (zhb l o.k) acts q):Way w ⟨p,c⟩ l (o.acts++acts) (o.plays+q):=by
 obtain ⟨j,_,h2,h3,h4⟩:=zeQ.1 ho
 have hj:j<l.length:=by omega
 have hj':j<w.Coins.length:=by have:=hl.len;omega
 rcases zfd.1 h4 with rfl | ⟨h5,h6,rfl⟩
 ·refine ⟨?_,?_,fun k hk=>?_,?_⟩
  ·show List.all ([(j:Int)]++acts) (zeg w)=true
   rw [List.singleton_append,List.all_cons,zmj hj',h.ok]
   rfl
  ·have:=h.len
   have e:=zfH hj
   show ((([(j:Int)]++acts).length:Nat):Int)<=_
   rw [show (zlc w p c j).k=j from rfl] at this
   simp
   omega
  ·show cnt k ((j:Int)::acts)=_
   simp only [cnt]
   rw [h.bag k hk,show (zlc w p c j).k=j from rfl,zjj hj]
   by_cases e:j=k
   ·rw [if_pos (by omega),if_pos e];omega
   ·rw [if_neg (by omega),if_neg e];omega
  ·show zd7 w ⟨p,c⟩ ((j:Int)::acts)=_
   simp only [zd7]
   rw [if_pos (by omega),zrP,h.buys]
   rfl
 ·refine ⟨?_,?_,fun k hk=>?_,?_⟩
  ·show List.all ([-1,(j:Int)]++acts) (zeg w)=true
   rw [List.cons_append,List.singleton_append,List.all_cons,List.all_cons,zmj hj',zoi,h.ok]
   rfl
  ·have:=h.len
   have e:=zfH hj
   show ((([-1,(j:Int)]++acts).length:Nat):Int)<=_
   rw [show (zqf w c j).k=j from rfl] at this
   simp
   omega
  ·show cnt k (-1::(j:Int)::acts)=_
   simp only [cnt]
   rw [h.bag k hk,show (zqf w c j).k=j from rfl,zjj hj,if_neg (by omega)]
   by_cases e:j=k
   ·rw [if_pos (by omega),if_pos e];omega
   ·rw [if_neg (by omega),if_neg e];omega
  ·show zd7 w ⟨p,c⟩ (-1::(j:Int)::acts)=_
   simp only [zd7]
   rw [if_neg (by omega),ztq w p c h5]
   simp only []
   rw [if_pos (by omega),zrP]
   rw [show (⟨(zlc w 0 (c-1) j).p,(zlc w 0 (c-1) j).c⟩:Stand)=⟨(zqf w c j).p,(zqf w c j).c⟩ from rfl,h.buys]
   show 0+((turn w 0 (coin w j)).2+q)=(turn w 0 (coin w j)).2+q
   omega
theorem ztr {w:Wheel} {T:Nat} {p c:Int} {l:List Int} (b:Bool) (h0:total l≠0):∃o,o∈zoh w p c l l.length 0/\o.plays+Q b w T o.p o.c (zhb l o.k)=Q b w (T+1) p c l:=by
 obtain ⟨j,h1,h2,h3⟩:=zrN (w:=w) (p:=p) (c:=c) h0
 have e:((zoh w p c l l.length 0).map fun o=>o.plays+Q b w T o.p o.c (zhb l o.k))≠[]:=by
  intro e
  rw [List.map_eq_nil_iff] at e
  rw [e] at h3
  simp at h3
 obtain ⟨a1,_⟩:=zhz b e
 obtain ⟨o,ho,he⟩:=List.mem_map.1 a1
 exact ⟨o,ho,he⟩
theorem zAm {w:Wheel} {T:Nat} {p c:Int} {l:List Int} (b:Bool) {o:Opn} (ho:o∈zoh w p c l l.length 0):leB b (o.plays+Q b w T o.p o.c (zhb l o.k)) (Q b w (T+1) p c l):=by
 have hm:=List.mem_map_of_mem (f:=fun o:Opn=>o.plays+Q b w T o.p o.c (zhb l o.k)) ho
 have e:((zoh w p c l l.length 0).map fun o=>o.plays+Q b w T o.p o.c (zhb l o.k))≠[]:=by
  intro e
  rw [e] at hm
  simp at hm
 exact (zhz b e).2 _ hm
theorem zxP (b:Bool) {w:Wheel} (h:OkW w):∀(T:Nat) {p c:Int} {l:List Int},(T:Int)=total l->OkP w l->0<=p->p<w.Round->0<=c->∃acts,Way w ⟨p,c⟩ l acts (Q b w T p c l)
 | 0,p,c,l,hT,hl,_,_,_=>⟨[],rfl,by simp;omega,fun k hk=>by rw [zqe hl.nn (by omega) k];rfl,rfl⟩
 | T+1,p,c,l,hT,hl,hp,hp',hc=>by
  obtain ⟨o,ho,he⟩:=ztr (w:=w) (T:=T) (p:=p) (c:=c) b (show total l≠0 by omega)
  have ok:=zrM h hp hp' hc hl ho
  obtain ⟨acts,hw⟩:=zxP b h T (p:=o.p) (c:=o.c) (l:=zhb l o.k) (by rw [zfH (by rw [hl.len];exact ok.k)];omega) (hl.less ok.k ok.nz) ok.p0 ok.p1 ok.c0
  exact ⟨o.acts++acts,he▸hw.step hl hc ho⟩
def znw (w:Wheel) (acts:List Int):List Int:=(List.range w.Coins.length).map fun (k:Nat)=>cnt (k:Int) acts
theorem zkS (k:Int):∀l:List Int,0<=cnt k l/\cnt k l<=l.length
 | []=>by simp [cnt]
 | a::l=>by
  have:=zkS k l
  simp only [cnt,List.length_cons]
  split<;>omega
theorem zxQ {n:Nat} (rec1:List Int->Int->Option (List Int)) (acts v2:List Int) (v3:Int) (hl:acts.length<100000) (hn:acts.length<n):zbf rec1 acts v2 v3 n 0 0=zc7 rec1 v2 v3 (cnt v3 acts):=by
 have key:=zkN (F:=fun m i (s:Int)=>zbf rec1 acts v2 v3 m s i) (xs:=acts) (spec:=fun k s=>zc7 rec1 v2 v3 (s+cnt v3 k)) (I:=fun k s=>0<=s/\s+k.length<=1000000) (by omega)
  (fun m s hI=>by simp [zbf,zea,cnt])
  (fun m i x k s hI hx hi _ _ hrec=>by
   simp only [List.length_cons] at hI
   simp only [zbf,zea,zdQ]
   rw [if_pos (by simpa using hi),hx,zaa]
   by_cases e:x=v3
   ·rw [if_pos (by simpa using e),zaM (x:=s+1) (by omega) (by omega),hrec (s+1) ⟨by omega,by omega⟩]
    simp only [cnt,if_pos e]
    rw [show s+1+cnt v3 k=s+(1+cnt v3 k) by omega]
   ·rw [if_neg (by simpa using e),hrec s ⟨by omega,by omega⟩]
    simp only [cnt,if_neg e]
    rw [show s+cnt v3 k=s+(0+cnt v3 k) by omega])
  acts 0 n 0 (by omega) rfl hn ⟨by omega,by omega⟩
 rw [show zbf rec1 acts v2 v3 n 0 0=_ from key,Int.zero_add]
theorem zts {n:Nat} (w:Wheel) (acts:List Int) (hw:w.Coins.length<100000) (hn:w.Coins.length<n) (hl:acts.length<100000) (hn2:acts.length<n):zgy n w acts=some (znw w acts):=by
 have key:=zAi (F:=fun m i (s:List Int)=>if s.length=i.toNat then zaL n w acts m s i else some (s++((List.range' i.toNat (w.Coins.length-i.toNat)).map fun (k:Nat)=>cnt (k:Int) acts))) (b:=w.Coins.length)
  (spec:=fun i s=>some (s++((List.range' i (w.Coins.length-i)).map fun (k:Nat)=>cnt (k:Int) acts))) (by omega)
  (fun m s=>by
   simp only [Int.toNat_natCast]
   split
   ·simp [zaL,zeb,zey]
   ·rfl)
  (fun m i s hi hrec=>by
   simp only [Int.toNat_natCast] at hrec ⊢
   split
   ·rename_i hs
    obtain ⟨d,hd⟩:∃d,w.Coins.length-i=d+1:=⟨w.Coins.length-i-1,by omega⟩
    have hd':w.Coins.length-(i+1)=d:=by omega
    have e1:w64 ((i:Int)+1)=((i+1:Nat):Int):=by rw [zaM (by omega) (by omega)];simp
    have:=hrec (s++[cnt i acts])
    rw [e1] at this
    simp only [Int.toNat_natCast] at this
    rw [if_pos (by simp [hs])] at this
    simp only [zaL,zeb]
    rw [if_pos (by simp;omega),zxQ _ _ _ _ hl hn2]
    simp only [zc7,zez]
    rw [zmV (by simp;omega),zaa,e1,this,hd,hd',List.range'_succ]
    simp
   ·rfl)
  w.Coins.length 0 n [] (by omega) (by omega) (by omega)
 simp only [Int.toNat_natCast,List.length_nil,if_true,Nat.sub_zero,List.nil_append] at key
 unfold zgy znw
 rw [List.range_eq_range']
 exact key
theorem znb (w:Wheel) (acts:List Int) {k:Nat} (h:k<w.Coins.length):(znw w acts).getD k 0=cnt k acts:=by
 simp [znw,h]
theorem zuc {w:Wheel} {l acts:List Int} (hl:l.length=w.Coins.length) (h:∀k:Nat,k<w.Coins.length->cnt k acts=l.getD k 0):znw w acts=l:=by
 apply List.ext_getElem (by simp [znw,hl])
 intro i h1 h2
 have:=h i (by omega)
 simp only [znw,List.getElem_map,List.getElem_range]
 rw [this]
 simp [h2]
theorem zrQ {n:Nat} {w:Wheel} (h:OkW w) (hn:200<=n) (acts:List Int) (hl:acts.length<=40) (ha:acts.all (zeg w)=true):zgz n w acts=some (zd7 w ⟨0,0⟩ acts):=by
 have hr:=h.r1
 have key:=zkN (F:=fun m i (q:Int×Stand)=>zb8 n w acts m q.1 i q.2.Place q.2.Credit) (xs:=acts) (spec:=fun l q=>some (q.1+zd7 w q.2 l))
  (I:=fun l q=>(0<=q.1/\q.1+100*l.length<=100000)/\OkS w q.2 (5000-100*l.length)/\l.length<=40/\l.all (zeg w)=true) (by omega)
  (fun m q hI=>by simp [zb8,zeM,zfD,zd7])
  (fun m i x l q hI hx hi _ _ hrec=>by
   obtain ⟨i1,i2,i3,i4⟩:=hI
   simp only [List.length_cons,List.all_cons,Bool.and_eq_true] at i1 i2 i3 i4
   have hb:(5000-100*((l.length+1:Nat):Int))+100=5000-100*(l.length:Int):=by simp;omega
   have hok:=zoe h i2 i4.1
   rw [hb] at hok
   have hxr:=zbl.1 i4.1
   have e0:(⟨q.2.Place,q.2.Credit⟩:Stand)=q.2:=rfl
   simp only [zb8,zeM]
   rw [if_pos (by simpa using hi),hx,zaa,e0,zxM h hn i2 (by omega) i4.1,zaa]
   simp only [zeL,zd7]
   have hdiff:∀y:Int,y=(if 0<=x then (turn w q.2.Place (coin w x)).2 else 0)->0<=y->y<=100 ->
     (if (zg8 w q.2 x).2=true then w64 (w64 (q.1+w64 ((zg8 w q.2 x).1.Credit-q.2.Credit))+1) else w64 (q.1+w64 ((zg8 w q.2 x).1.Credit-q.2.Credit)))=q.1+y:=by
    intro y hy y0 y1
    have c0:=i2.c0
    have c1:=i2.c1
    unfold zg8 at *
    by_cases h0:0<=x
    ·rw [if_pos h0] at hy
     simp only [if_pos h0,Bool.false_eq_true,if_false]
     rw [←hy,zaM (x:=_-_) (by omega) (by omega),zaM (by omega) (by omega)]
     omega
    ·rw [if_neg h0] at hy
     by_cases hc:q.2.Credit=0
     ·simp only [if_neg h0,if_pos hc,Bool.false_eq_true,if_false]
      rw [zaM (x:=_-_) (by omega) (by omega),zaM (by omega) (by omega)]
      omega
     ·simp only [if_neg h0,if_neg hc,if_true]
      rw [zaM (x:=_-_) (by omega) (by omega),zaM (x:=q.1+_) (by omega) (by omega),zaM (by omega) (by omega)]
      omega
   have hyr:0<=(if 0<=x then (turn w q.2.Place (coin w x)).2 else 0)/\(if 0<=x then (turn w q.2.Place (coin w x)).2 else 0)<=100:=by
    split
    ·rename_i h0
     have hc:=zc1 h h0 hxr.2
     have ht:=zc0 h i2.p0 i2.p1 (show 0<=coin w x by omega)
     omega
    ·omega
   have hd:=hdiff _ rfl hyr.1 hyr.2
   have fin:=hrec (q.1+(if 0<=x then (turn w q.2.Place (coin w x)).2 else 0),(zg8 w q.2 x).1) ⟨⟨by simp only;omega,by simp only;omega⟩,hok,by omega,i4.2⟩
   simp only at fin
   by_cases hm:(zg8 w q.2 x).2=true
   ·rw [if_pos hm] at hd ⊢
    rw [hd,fin,Int.add_assoc]
   ·rw [if_neg hm] at hd ⊢
    rw [hd,fin,Int.add_assoc])
  acts 0 n (0,⟨0,0⟩) (by omega) rfl (by omega) ⟨⟨by simp,by simp;omega⟩,⟨by simp,by simp;omega,by simp,by simp;omega⟩,hl,ha⟩
 have key:zb8 n w acts n 0 0 0 0=_:=key
 unfold zgz
 rw [key,Int.zero_add]
theorem zrR (b:Bool) {w:Wheel} (h:OkW w):∀(T:Nat) {p c c':Int} {l:List Int},(T:Int)=total l->OkP w l->0<=p->p<w.Round->0<=c->c<=c'->leB b (Q b w T p c l) (Q b w T p c' l)
 | 0,p,c,c',l,_,_,_,_,_,_=>leB.refl b _
 | T+1,p,c,c',l,hT,hl,hp,hp',hc,hcc=>by
  obtain ⟨o,ho,he⟩:=ztr (w:=w) (T:=T) (p:=p) (c:=c) b (show total l≠0 by omega)
  have ok:=zrM h hp hp' hc hl ho
  have hT':(T:Int)=total (zhb l o.k):=by rw [zfH (by rw [hl.len];exact ok.k)];omega
  obtain ⟨j,h1,h2,h3,h4⟩:=zeQ.1 ho
  rw [←he]
  rcases zfd.1 h4 with rfl | ⟨h5,h6,rfl⟩
  ·have ih:=zrR b h T (p:=(zlc w p c j).p) (c:=(zlc w p c j).c) (c':=(zlc w p c' j).c) hT' (hl.less ok.k ok.nz) ok.p0 ok.p1 ok.c0 (by show c+_<=c'+_;omega)
   exact (ih.add _).trans (zAm (T:=T) (p:=p) (c:=c') b (o:=zlc w p c' j) (zeQ.2 ⟨j,h1,h2,h3,zfd.2 (.inl rfl)⟩))
  ·have ih:=zrR b h T (p:=(zqf w c j).p) (c:=(zqf w c j).c) (c':=(zqf w c' j).c) hT' (hl.less ok.k ok.nz) ok.p0 ok.p1 ok.c0 (by show c-1+_<=c'-1+_;omega)
   exact (ih.add _).trans (zAm (T:=T) (p:=p) (c:=c') b (o:=zqf w c' j) (zeQ.2 ⟨j,h1,h2,h3,zfd.2 (.inr ⟨by omega,h6,rfl⟩)⟩))
theorem zAn (b:Bool) {w:Wheel} (h:OkW w) {T:Nat} {p c:Int} {l:List Int} (hT:(T:Int)=total l) (hl:OkP w l) (hp:0<=p) (hp':p<w.Round) (hc:0<c):leB b (Q b w T 0 (c-1) l) (Q b w T p c l):=by
 have hr:=h.r1
 cases T with
 | zero=>exact leB.refl b _
 | succ T =>
  by_cases e:p=0
  ·subst e
   exact zrR b h (T+1) hT hl (by omega) (by omega) (by omega) (by omega)
  ·rw [zub b w T p c l (by omega) e (by omega)]
   exact (zpd b _ _).2.1
theorem zud {w:Wheel} {l:List Int} (hl:OkP w l) (h:∀k:Nat,k<w.Coins.length->(0:Int)=l.getD k 0):total l=0:=by
 by_cases e:total l=0
 ·exact e
 ·obtain ⟨j,h1,h2⟩:=zkR e
  exact (h2 (h j (by rw [←hl.len];exact h1)).symm).elim
theorem znc (b:Bool) {w:Wheel} (h:OkW w):∀(acts:List Int) {p c:Int} {l:List Int},acts.all (zeg w)=true->(∀k:Nat,k<w.Coins.length->cnt k acts=l.getD k 0)->OkP w l->0<=p->p<w.Round->0<=c->leB b (zd7 w ⟨p,c⟩ acts) (Q b w (total l).toNat p c l)
 | [],p,c,l,_,hk,hl,_,_,_=>by
  rw [zud hl hk]
  exact leB.refl b 0
 | a::acts,p,c,l,hok,hk,hl,hp,hp',hc=>by
  have hr:=h.r1
  simp only [List.all_cons,Bool.and_eq_true] at hok
  have ha:=zbl.1 hok.1
  by_cases h0:0<=a
  ·obtain ⟨k,rfl⟩:∃k:Nat,a=k:=⟨a.toNat,by omega⟩
   have hkl:k<w.Coins.length:=by omega
   have hkl':k<l.length:=by rw [hl.len];exact hkl
   have hnz:l.getD k 0≠0:=by
    have e:=hk k hkl
    simp only [cnt] at e
    have:=zkS (k:Int) acts
    rw [if_pos trivial] at e
    omega
   have hco:=zc1 h (a:=(k:Int)) (by omega) (by omega)
   have ht:=zc0 h hp hp' (show 0<=coin w k by omega)
   have hlt:=zfH hkl'
   have hnn:=zeP (hl.less hkl hnz).nn
   have ih:=znc b h acts (p:=(zlc w p c k).p) (c:=(zlc w p c k).c) (l:=zhb l k) hok.2 (fun j hj=>by
    have e:=hk j hj
    simp only [cnt] at e
    rw [zjj hkl']
    by_cases q:k=j
    ·rw [if_pos (by omega)] at e;rw [if_pos q];omega
    ·rw [if_neg (by omega)] at e;rw [if_neg q];omega) (hl.less hkl hnz) ht.1.1 ht.1.2 (by show 0<=c+_;omega)
   simp only [zd7]
   rw [if_pos h0,zrP]
   have eT:(total l).toNat=(total (zhb l k)).toNat+1:=by omega
   rw [eT]
   exact (ih.add _).trans (zAm b (o:=zlc w p c k) (zeQ.2 ⟨k,by omega,by omega,hnz,zfd.2 (.inl rfl)⟩))
  ·have ea:a=-1:=by omega
   subst ea
   have hk':∀k:Nat,k<w.Coins.length->cnt k acts=l.getD k 0:=fun k hkl=>by
    have e:=hk k hkl
    simp only [cnt] at e
    rw [if_neg (by omega)] at e
    omega
   simp only [zd7]
   rw [if_neg h0,Int.zero_add]
   by_cases hc0:c=0
   ·have e:(zg8 w ⟨p,c⟩ (-1)).1=⟨p,c⟩:=by
     unfold zg8
     rw [if_neg h0,if_pos hc0]
    rw [e]
    exact znc b h acts hok.2 hk' hl hp hp' hc
   ·rw [ztq w p c hc0]
    have hnn:=zeP hl.nn
    exact (znc b h acts hok.2 hk' hl (by omega) (by omega) (by omega)).trans (zAn b h (by omega) hl hp hp' (by omega))
def znd (w:Wheel) (l:List Int):Nat->Nat->Int
 | 0,_=>0
 | d+1,k=>coin w k*l.getD k 0+znd w l d (k+1)
def zcz (w:Wheel) (l:List Int):Int:=znd w l w.Coins.length 0
theorem zsU {w:Wheel} (h:OkW w) {l:List Int} (hl:∀k,0<=l.getD k 0/\l.getD k 0<=1000) {k:Nat} (hk:k<w.Coins.length):0<=coin w k*l.getD k 0/\coin w k*l.getD k 0<=100000:=by
 have hco:=zc1 h (a:=(k:Int)) (by omega) (by omega)
 have:=hl k
 refine ⟨Int.mul_nonneg (by omega) (by omega),?_⟩
 have h1:coin w k*l.getD k 0<=100*l.getD k 0:=Int.mul_le_mul_of_nonneg_right hco.2 (by omega)
 omega
theorem zjk {w:Wheel} (h:OkW w) {l:List Int} (hl:∀k,0<=l.getD k 0/\l.getD k 0<=1000):∀(d k:Nat),k+d<=w.Coins.length->0<=znd w l d k/\znd w l d k<=100000*d
 | 0,k,_=>by simp [znd]
 | d+1,k,hk=>by
  have:=zjk h hl d (k+1) (by omega)
  have:=zsU h hl (show k<w.Coins.length by omega)
  simp only [znd]
  omega
theorem ziV {n:Nat} {w:Wheel} (h:OkW w) (hn:100<=n) {l:List Int} (hlen:l.length=w.Coins.length) (hl:∀k,0<=l.getD k 0/\l.getD k 0<=1000):zeo n w l=some (zcz w l):=by
 have h4:=h.clen
 have key:∀(d i m:Nat) (s:Int),d=w.Coins.length-i->i<=w.Coins.length->d<m->0<=s->s+100000*d<=1000000->zbC w l m s (i:Int)=some (s+znd w l d i):=by
  intro d
  induction d with
  | zero =>
   intro i m s hd hi hm hs hs2
   obtain ⟨m,rfl⟩:∃q,m=q+1:=⟨m-1,by omega⟩
   simp only [zbC,zcL,zdg,znd]
   rw [if_neg (by simp;omega),Int.add_zero]
  | succ d ih =>
   intro i m s hd hi hm hs hs2
   obtain ⟨m,rfl⟩:∃q,m=q+1:=⟨m-1,by omega⟩
   have ht:=zsU h hl (show i<w.Coins.length by omega)
   have ei:l[i]'(by omega)=l.getD i 0:=by simp [show i<l.length by omega]
   simp only [zbC,zcL,znd]
   rw [if_pos (by simp;omega),zcE (by omega),zaa,zjV (by omega) (by omega),zaa,ei,Int.mul_comm,zaM (x:=coin w i*_) (by omega) (by omega),zaM (x:=s+_) (by omega) (by omega),zaM (x:=(i:Int)+1) (by omega) (by omega)]
   have:=ih (i+1) m (s+coin w i*l.getD i 0) (by omega) (by omega) (by omega) (by omega) (by omega)
   rw [show (((i+1:Nat)):Int)=(i:Int)+1 by simp] at this
   rw [this]
   congr 1
   omega
 have:=key w.Coins.length 0 n 0 (by omega) (by omega) (by omega) (by omega) (by omega)
 rw [Int.zero_add] at this
 exact this
def down:Nat->List Int
 | 0=>[0]
 | n+1=>((n+1:Nat):Int)::down n
def upF:Nat->Nat->List Int
 | _,0=>[]
 | i,d+1=>(i:Int)::upF (i+1) d
theorem zmk {v:Int}:∀{d i:Nat},v∈upF i d↔(i:Int)<=v/\v<i+d
 | 0,i=>by simp [upF]<;>omega
 | d+1,i=>by
  simp only [upF,List.mem_cons,zmk]
  omega
theorem zoj:∀(d i:Nat),(upF i d).length=d
 | 0,i=>rfl
 | d+1,i=>by simp [upF,zoj d (i+1)]
def Part (t l:List Int):Prop:=t.length=l.length/\∀k,0<=t.getD k 0/\t.getD k 0<=l.getD k 0
def ztt (w:Wheel) (t:List Int):List Int:=t.take w.Coins.length
structure OkT (w:Wheel) (t:List Int):Prop where
 len:t.length=4
 rng:∀k,0<=t.getD k 0/\t.getD k 0<=1000
 out:∀k,w.Coins.length<=k->t.getD k 0=0
 tot:total (ztt w t)<=1000
theorem zne {w:Wheel} {t:List Int} (h:OkT w t) (k:Nat):(ztt w t).getD k 0=t.getD k 0:=by
 unfold ztt
 rw [List.getD_eq_getElem?_getD,List.getElem?_take]
 split
 ·rfl
 ·rw [h.out k (by omega)]
  rfl
theorem OkT.purse {w:Wheel} (hw:OkW w) {t:List Int} (h:OkT w t):OkP w (ztt w t):=by
 have h4:=hw.clen
 have hl:=h.len
 refine ⟨by simp [ztt];omega,fun x hx=>?_,h.tot⟩
 obtain ⟨i,hi,rfl⟩:=List.getElem_of_mem hx
 have e:(ztt w t)[i]=(ztt w t).getD i 0:=by simp [hi]
 rw [e,zne h]
 exact (h.rng i).1
theorem OkT.bag {w:Wheel} {t:List Int} (h:OkT w t):zbX t=zbX (ztt w t):=by
 simp only [zbX,zne h]
def zif (w:Wheel):Stand->List Int->Stand
 | s,[]=>s
 | s,a::l=>zif w (zg8 w s a).1 l
theorem zes (w:Wheel):∀(a b:List Int) (s:Stand),zif w s (a++b)=zif w (zif w s a) b
 | [],b,s=>rfl
 | x::a,b,s=>zes w a b _
theorem zfr (w:Wheel):∀(a b:List Int) (s:Stand),zd7 w s (a++b)=zd7 w s a+zd7 w (zif w s a) b
 | [],b,s=>by simp [zd7,zif]
 | x::a,b,s=>by
  simp only [List.cons_append,zd7,zif]
  rw [zfr w a b]
  omega
theorem zrS {w:Wheel} (h:OkW w):∀(acts:List Int) (s:Stand) (b:Int),OkS w s b->acts.all (zeg w)=true->OkS w (zif w s acts) (b+100*acts.length)
 | [],s,b,hs,_=>by simpa [zif] using hs
 | a::l,s,b,hs,ha=>by
  rw [List.all_cons,Bool.and_eq_true] at ha
  have:=zrS h l _ _ (zoe h hs ha.1) ha.2
  simp only [zif,List.length_cons]
  rwa [show b+100*((l.length+1:Nat):Int)=b+100+100*(l.length:Int) by omega]
def Can (w:Wheel) (al:List Int) (v:Int):Prop:=∃acts:List Int,acts.all (zeg w)=true/\(∀k:Nat,k<w.Coins.length->cnt k acts=al.getD k 0)/\zd7 w ⟨0,0⟩ acts=v
structure Pn where
 p:Int
 c:Int
 l:List Int
 b:Int
def zl (w:Wheel):List Int:=List.replicate w.Coins.length 0
def zf3 (l:List Int) (k:Nat):List Int:=l.set k (l.getD k 0+1)
def zr9 (cl:Int->Int->Int) (x:Pn):Pn:=⟨0,cl (total x.l) (x.c-1),x.l,x.b⟩
def zqg (cl:Int->Int->Int) (w:Wheel) (x:Pn) (k:Nat):Pn:=⟨(turn w x.p (coin w k)).1,cl (total x.l+1) (x.c+(turn w x.p (coin w k)).2),zf3 x.l k,x.b+(turn w x.p (coin w k)).2⟩
def zld (w:Wheel):Pn:=⟨0,0,zl w,0⟩
inductive RP (cl:Int->Int->Int) (w:Wheel) (al:List Int):List Int->Pn->Prop
 | zero:RP cl w al [] (zld w)
 | sel {acts:List Int} {x:Pn} (h:RP cl w al acts x) (hc:0<x.c) (hp:0<x.p):RP cl w al (acts++[-1]) (zr9 cl x)
 | coin {acts:List Int} {x:Pn} {k:Nat} (h:RP cl w al acts x) (hk:k<w.Coins.length) (hl:x.l.getD k 0≠al.getD k 0):RP cl w al (acts++[(k:Int)]) (zqg cl w x k)
theorem ziW:∀n:Nat,total (List.replicate n 0)=0
 | 0=>rfl
 | n+1=>by rw [List.replicate_succ,total,ziW n];rfl
theorem zjl (w:Wheel) (k:Nat):(zl w).getD k 0=0:=by
 unfold zl
 rw [List.getD_eq_getElem?_getD,List.getElem?_replicate]
 split<;>rfl
theorem znf (l:List Int) (k:Nat):(zf3 l k).length=l.length:=by simp [zf3]
theorem zgK {l:List Int} {k j:Nat} (hk:k<l.length):(zf3 l k).getD j 0=l.getD j 0+(if k=j then 1 else 0):=by
 unfold zf3
 by_cases e:k=j
 ·subst e
  rw [if_pos rfl,List.getD_eq_getElem?_getD,List.getElem?_set_self hk]
  rfl
 ·rw [if_neg e,List.getD_eq_getElem?_getD,List.getElem?_set_ne e,←List.getD_eq_getElem?_getD]
  omega
theorem ze4 {l:List Int} {k:Nat} (h:k<l.length):total (zf3 l k)=total l+1:=by
 unfold zf3
 rw [zkP h]
 omega
theorem zf4:∀{l m:List Int},l.length=m.length->(∀k,l.getD k 0<=m.getD k 0)->total l<=total m
 | [],[],_,_=>Int.le_refl _
 | [],_::_,h,_=>by simp at h
 | _::_,[],h,_=>by simp at h
 | x::l,y::m,h,hk=>by
  have h0:=hk 0
  have:=zf4 (l:=l) (m:=m) (by simpa using h) (fun k=>by simpa using hk (k+1))
  simp only [total]
  simp at h0
  omega
theorem zkT {l m:List Int} (h:l.length=m.length) (hk:∀k,l.getD k 0<=m.getD k 0) {k:Nat} (hlt:l.getD k 0<m.getD k 0):total l<total m:=by
 have hkl:k<l.length:=by
  rcases Nat.lt_or_ge k l.length with h1 | h1
  ·exact h1
  ·rw [List.getD_eq_getElem?_getD,List.getD_eq_getElem?_getD,List.getElem?_eq_none h1,List.getElem?_eq_none (by omega)] at hlt
   simp at hlt
 have h1:=zf4 (l:=zf3 l k) (m:=m) (by rw [znf];exact h) fun j=>by
  rw [zgK hkl]
  have:=hk j
  split
  ·rename_i e
   subst e
   omega
  ·omega
 rw [ze4 hkl] at h1
 omega
structure Clamp (cl:Int->Int->Int) (T:Int):Prop where
 le:∀t c,cl t c<=c
 nn:∀t c,t<=T->0<=c->0<=cl t c
structure OkX (w:Wheel) (al:List Int) (acts:List Int) (x:Pn):Prop where
 p0:0<=x.p
 p1:x.p<w.Round
 c0:0<=x.c
 cb:x.c<=x.b
 bt:x.b<=100*total x.l
 len:x.l.length=w.Coins.length
 nn:∀k,0<=x.l.getD k 0
 le:∀k,x.l.getD k 0<=al.getD k 0
 ok:acts.all (zeg w)=true
 bag:∀k:Nat,cnt k acts=x.l.getD k 0
 buys:zd7 w ⟨0,0⟩ acts=x.b
 pl:(zif w ⟨0,0⟩ acts).Place=x.p
 cr:x.c<=(zif w ⟨0,0⟩ acts).Credit
theorem zfI (k:Nat) (a:Int):cnt k [a]=if a=(k:Int) then 1 else 0:=by simp [cnt]
theorem RP.ok {cl:Int->Int->Int} {w:Wheel} {al:List Int} (h:OkW w) (hl:al.length=w.Coins.length) (hnn:∀k,0<=al.getD k 0) (hcl:Clamp cl (total al)) {acts:List Int} {x:Pn} (hr:RP cl w al acts x):OkX w al acts x:=by
 have hr1:=h.r1
 induction hr with
 | zero=>exact ⟨Int.le_refl _,by show (0:Int)<w.Round;omega,Int.le_refl _,Int.le_refl _,by show (0:Int)<=100*total (zl w);rw [show total (zl w)=0 from ziW _];omega,by simp [zld,zl],fun k=>by show 0<=(zl w).getD k 0;rw [zjl];omega,fun k=>by show (zl w).getD k 0<=_;rw [zjl];exact hnn k,rfl,fun k=>by show _=(zl w).getD k 0;rw [zjl];rfl,rfl,rfl,Int.le_refl _⟩
 | @sel acts x hr hc hp ih =>
  have ht:total x.l<=total al:=zf4 (by rw [ih.len,hl]) ih.le
  have hcr:=ih.cr
  have he:zg8 w (zif w ⟨0,0⟩ acts) (-1)=(⟨0,(zif w ⟨0,0⟩ acts).Credit-1⟩,true):=by
   unfold zg8
   rw [if_neg (by omega),if_neg (by omega)]
  have hle:=hcl.le (total x.l) (x.c-1)
  have hcb:=ih.cb
  refine ⟨Int.le_refl _,by show (0:Int)<w.Round;omega,hcl.nn _ _ ht (by omega),by show cl _ _<=x.b;omega,ih.bt,ih.len,ih.nn,ih.le,?_,fun k=>?_,?_,?_,?_⟩
  ·rw [List.all_append,ih.ok]
   simp [zoi]
  ·rw [ze3,ih.bag,zfI,if_neg (by omega)]
   exact Int.add_zero _
  ·rw [zfr,ih.buys]
   simp [zd7,zr9]
  ·rw [zes]
   simp only [zif,he]
   rfl
  ·rw [zes]
   simp only [zif,he]
   show cl _ _<=_
   omega
 | @coin acts x k hr hk hne ih =>
  have hkl:k<x.l.length:=by rw [ih.len];exact hk
  have hlt:x.l.getD k 0<al.getD k 0:=by have:=ih.le k;omega
  have ht:total x.l<total al:=zkT (by rw [ih.len,hl]) ih.le hlt
  have hcoin:=zc1 h (a:=(k:Int)) (by omega) (by omega)
  have htr:=zc0 h ih.p0 ih.p1 (show 0<=Go.Law.coin w k by omega)
  have hcb:=ih.cb
  have hbt:=ih.bt
  have hc0:=ih.c0
  have hcr:=ih.cr
  have he:(zg8 w (zif w ⟨0,0⟩ acts) (k:Int)).1=⟨(turn w x.p (Go.Law.coin w k)).1,(zif w ⟨0,0⟩ acts).Credit+(turn w x.p (Go.Law.coin w k)).2⟩:=by
   unfold zg8
   rw [if_pos (by omega),ih.pl]
  have hle:=hcl.le (total x.l+1) (x.c+(turn w x.p (Go.Law.coin w k)).2)
  refine ⟨htr.1.1,htr.1.2,hcl.nn _ _ (by omega) (by omega),?_,?_,?_,fun j=>?_,fun j=>?_,?_,fun j=>?_,?_,?_,?_⟩
  ·show cl _ _<=x.b+_
   omega
  ·show x.b+_<=100*total (zf3 x.l k)
   rw [ze4 hkl]
   omega
  ·show (zf3 x.l k).length=_
   rw [znf,ih.len]
  ·show 0<=(zf3 x.l k).getD j 0
   rw [zgK hkl]
   have:=ih.nn j
   split<;>omega
  ·show (zf3 x.l k).getD j 0<=_
   rw [zgK hkl]
   have:=ih.le j
   split
   ·rename_i e
    subst e
    omega
   ·omega
  ·rw [List.all_append,ih.ok]
   simp [zmj hk]
  ·show _=(zf3 x.l k).getD j 0
   rw [ze3,ih.bag,zfI,zgK hkl]
   congr 1
   by_cases e:k=j
   ·subst e;simp
   ·rw [if_neg e,if_neg (by omega)]
  ·rw [zfr,ih.buys]
   simp only [zd7,ih.pl]
   rw [if_pos (by omega)]
   show x.b+(_+0)=x.b+_
   omega
  ·rw [zes]
   simp only [zif,he]
   rfl
  ·rw [zes]
   simp only [zif,he]
   show cl _ _<=_
   omega
theorem zgL {al:List Int} (h:∀k,0<=al.getD k 0):∀x,x∈al->0<=x:=fun x hx=>by
 obtain ⟨k,hk⟩:=List.getElem?_of_mem hx
 have:=h k
 rwa [List.getD_eq_getElem?_getD,hk] at this
theorem zok (l:List Int):l=[]\/∃q a,l=q++[a]:=zid l
def clT (T:Int):Int->Int->Int:=fun t c=>min c (T-t)
theorem zjm (T:Int):Clamp (clT T) T:=⟨fun t c=>by unfold clT;omega,fun t c h1 h2=>by unfold clT;omega⟩
theorem zol {w:Wheel} {a:Int} (h:zeg w a=true):a=-1\/∃k:Nat,k<w.Coins.length/\a=k:=by
 have h:=zbl.1 h
 by_cases h0:0<=a
 ·exact .inr ⟨a.toNat,by omega,by omega⟩
 ·exact .inl (by omega)
theorem cnt_mono {k:Nat} {l:List Int} {a:Int}:cnt k l<=cnt k (l++[a]):=by
 rw [ze3,zfI]
 split<;>omega
theorem zrT {w:Wheel} {al:List Int} (h:OkW w) (hl:al.length=w.Coins.length) (hnn:∀k,0<=al.getD k 0):∀(n:Nat) (acts:List Int),acts.length=n->acts.all (zeg w)=true->(∀k:Nat,k<w.Coins.length->cnt k acts<=al.getD k 0) ->
  ∃acts' x,RP (clT (total al)) w al acts' x/\x.b=zd7 w ⟨0,0⟩ acts/\(∀k:Nat,k<w.Coins.length->x.l.getD k 0=cnt k acts)/\(total x.l<total al->x.p=(zif w ⟨0,0⟩ acts).Place/\min (zif w ⟨0,0⟩ acts).Credit (if x.p=0 then total al-total x.l-1 else total al-total x.l)<=x.c)
 | 0,acts,hlen,_,_=>by
  obtain rfl:=List.eq_nil_of_length_eq_zero hlen
  refine ⟨[],zld w,.zero,rfl,fun k _=>zjl w k,fun ht=>⟨rfl,?_⟩⟩
  show min (0:Int) _<=0
  omega
 | n+1,acts,hlen,hok,hbag=>by
  rcases zok acts with rfl | ⟨l,a,rfl⟩
  ·simp at hlen
  rw [List.all_append,Bool.and_eq_true] at hok
  have hoa:zeg w a=true:=by simpa using hok.2
  obtain ⟨acts',x,hr,hb,hcn,hx⟩:=zrT h hl hnn n l (by simpa using hlen) hok.1 fun k hk=>Int.le_trans cnt_mono (hbag k hk)
  have hX:=hr.ok h hl hnn (zjm _)
  have hes:=zrS h l ⟨0,0⟩ 0 ⟨Int.le_refl _,by show (0:Int)<w.Round;have:=h.r1;omega,Int.le_refl _,Int.le_refl _⟩ hok.1
  have hec:=hes.c0
  have hep:=hes.p0
  have htl:total x.l<=total al:=zf4 (by rw [hX.len,hl]) hX.le
  rcases zol hoa with rfl | ⟨k,hk,rfl⟩
  ·have hbu:zd7 w ⟨0,0⟩ (l++[-1])=zd7 w ⟨0,0⟩ l:=by rw [zfr];simp [zd7]
   have hcn':∀k:Nat,cnt k (l++[-1])=cnt k l:=fun k=>by
    rw [ze3,zfI,if_neg (by omega)]
    exact Int.add_zero _
   have he:zif w ⟨0,0⟩ (l++[-1])=if (zif w ⟨0,0⟩ l).Credit=0 then zif w ⟨0,0⟩ l else ⟨0,(zif w ⟨0,0⟩ l).Credit-1⟩:=by
    rw [zes]
    simp only [zif,zg8]
    rw [if_neg (by omega)]
    split<;>rfl
   by_cases ht:total x.l<total al
   ·obtain ⟨hp,hc⟩:=hx ht
    by_cases hz:(zif w ⟨0,0⟩ l).Credit=0
    ·exact ⟨acts',x,hr,by rw [hbu,hb],fun k hk=>by rw [hcn',hcn k hk],fun _=>by rw [he,if_pos hz];exact ⟨hp,hc⟩⟩
    ·by_cases hp0:x.p=0
     ·refine ⟨acts',x,hr,by rw [hbu,hb],fun k hk=>by rw [hcn',hcn k hk],fun _=>?_⟩
      rw [he,if_neg hz]
      refine ⟨hp0,?_⟩
      rw [if_pos hp0] at hc ⊢
      show min (_-1) _<=_
      omega
     ·rw [if_neg hp0] at hc
      have hp1:=hX.p0
      refine ⟨_,_,hr.sel (by omega) (by omega),by rw [hbu,←hb];rfl,fun k hk=>by rw [hcn',←hcn k hk];rfl,fun _=>?_⟩
      rw [he,if_neg hz]
      refine ⟨rfl,?_⟩
      show min (_-1) (if (0:Int)=0 then _ else _)<=min (x.c-1) (total al-total x.l)
      rw [if_pos rfl]
      show min (_-1) (total al-total x.l-1)<=_
      omega
   ·exact ⟨acts',x,hr,by rw [hbu,hb],fun k hk=>by rw [hcn',hcn k hk],fun ht'=>absurd ht' ht⟩
  ·have hck:cnt k (l++[(k:Int)])=cnt k l+1:=by rw [ze3,zfI,if_pos rfl]
   have hlt:x.l.getD k 0<al.getD k 0:=by
    have:=hbag k hk
    rw [hcn k hk]
    omega
   have ht:total x.l<total al:=zkT (by rw [hX.len,hl]) hX.le hlt
   obtain ⟨hp,hc⟩:=hx ht
   have hkl:k<x.l.length:=by rw [hX.len];exact hk
   have he:zif w ⟨0,0⟩ (l++[(k:Int)])=⟨(turn w x.p (coin w k)).1,(zif w ⟨0,0⟩ l).Credit+(turn w x.p (coin w k)).2⟩:=by
    rw [zes]
    simp only [zif,zg8]
    rw [if_pos (by omega),hp]
   have hcoin:=zc1 h (a:=(k:Int)) (by omega) (by omega)
   have htr:=zc0 h hX.p0 hX.p1 (show 0<=coin w k by omega)
   have hc0:=hX.c0
   refine ⟨_,_,hr.coin hk (by omega),?_,fun j hj=>?_,fun ht'=>?_⟩
   ·rw [zfr]
    simp only [zd7]
    rw [if_pos (by omega),←hb,←hp]
    show x.b+_=x.b+(_+0)
    omega
   ·show (zf3 x.l k).getD j 0=_
    rw [zgK hkl,hcn j hj,ze3,zfI]
    congr 1
    by_cases e:k=j
    ·subst e;simp
    ·rw [if_neg e,if_neg (by omega)]
   ·rw [he]
    refine ⟨rfl,?_⟩
    show min (_+_) (if (turn w x.p (coin w k)).1=0 then total al-total (zf3 x.l k)-1 else total al-total (zf3 x.l k))<=min (x.c+_) (total al-(total x.l+1))
    rw [ze4 hkl]
    by_cases h1:x.p=0
    ·rw [if_pos h1] at hc
     split<;>omega
    ·rw [if_neg h1] at hc
     split<;>omega
theorem zdT {l m:List Int} {n:Nat} (h1:l.length=n) (h2:m.length=n) (h:∀k:Nat,k<n->l.getD k 0=m.getD k 0):l=m:=by
 apply List.ext_getElem (by omega)
 intro k a b
 have:=h k (by omega)
 simpa [List.getD_eq_getElem?_getD,a,b] using this
theorem zxR {w:Wheel} {al:List Int} (h:OkW w) (hl:al.length=w.Coins.length) (hnn:∀k,0<=al.getD k 0) {v:Int}:Can w al v↔∃acts x,RP (clT (total al)) w al acts x/\x.l=al/\x.b=v:=by
 constructor
 ·rintro ⟨acts,hok,hbag,hb⟩
  obtain ⟨acts',x,hr,h1,h2,_⟩:=zrT h hl hnn acts.length acts rfl hok fun k hk=>Int.le_of_eq (hbag k hk)
  have hX:=hr.ok h hl hnn (zjm _)
  exact ⟨acts',x,hr,zdT hX.len hl fun k hk=>by rw [h2 k hk,hbag k hk],by rw [h1,hb]⟩
 ·rintro ⟨acts,x,hr,rfl,rfl⟩
  have hX:=hr.ok h hl hnn (zjm _)
  exact ⟨acts,hX.ok,fun k _=>hX.bag k,hX.buys⟩
theorem RP.short {w:Wheel} {al:List Int} (h:OkW w) (hl:al.length=w.Coins.length) (hnn:∀k,0<=al.getD k 0) {acts:List Int} {x:Pn} (hr:RP (clT (total al)) w al acts x) :
  x.c<=total al-total x.l/\((acts.length:Int)<=2*total x.l\/x.p=0/\total x.l<total al/\(acts.length:Int)<=2*total x.l+1):=by
 induction hr with
 | zero =>
  have h0:total (zl w)=0:=ziW _
  have h1:0<=total al:=zeP (zgL hnn)
  refine ⟨?_,.inl ?_⟩
  ·show (0:Int)<=total al-total (zl w)
   omega
  ·show ((0:Nat):Int)<=2*total (zl w)
   omega
 | @sel acts x hr hc hp ih =>
  refine ⟨?_,.inr ⟨rfl,?_,?_⟩⟩
  ·show min (x.c-1) (total al-total x.l)<=total al-total x.l
   omega
  ·show total x.l<total al
   omega
  ·show ((acts++[-1]).length:Int)<=2*total x.l+1
   rw [List.length_append,List.length_singleton]
   rcases ih.2 with h1 | ⟨h1,_⟩
   ·omega
   ·omega
 | @coin acts x k hr hk hne ih =>
  have hX:=hr.ok h hl hnn (zjm _)
  have hkl:k<x.l.length:=by rw [hX.len];exact hk
  refine ⟨?_,.inl ?_⟩
  ·show min _ (total al-(total x.l+1))<=total al-total (zf3 x.l k)
   rw [ze4 hkl]
   omega
  ·show ((acts++[(k:Int)]).length:Int)<=2*total (zf3 x.l k)
   rw [ze4 hkl,List.length_append,List.length_singleton]
   rcases ih.2 with h1 | ⟨_,_,h1⟩<;>omega
def lvl (cl:Int->Int->Int) (w:Wheel):Nat->List Pn
 | 0=>[zld w]
 | t+1=>(lvl cl w t++(lvl cl w t).map (zr9 cl)).flatMap fun x=>(List.range w.Coins.length).map fun k=>zqg cl w x k
def lvs (cl:Int->Int->Int) (w:Wheel) (t:Nat):List Pn:=lvl cl w t++(lvl cl w t).map (zr9 cl)
def ztu (cl:Int->Int->Int) (w:Wheel):Nat->List Pn
 | 0=>lvs cl w 0
 | t+1=>ztu cl w t++lvs cl w (t+1)
theorem zjn {α β:Type} {f:α->List β} {c:Nat}:∀{l:List α},(∀x,x∈l->(f x).length<=c)->(l.flatMap f).length<=l.length*c
 | [],_=>by simp
 | x::l,h=>by
  have h1:=h x (by simp)
  have h2:=zjn (f:=f) (c:=c) (l:=l) fun y hy=>h y (by simp [hy])
  simp only [List.flatMap_cons,List.length_append,List.length_cons,Nat.add_mul,Nat.one_mul]
  omega
theorem zom (cl:Int->Int->Int) {w:Wheel} (hk:w.Coins.length<=3):∀t,(lvl cl w t).length<=6 ^ t
 | 0=>by simp [lvl]
 | t+1=>by
  have h1:=zom cl hk t
  unfold lvl
  refine Nat.le_trans (zjn (c:=3) fun x _=>by simp;exact hk) ?_
  rw [List.length_append,List.length_map,Nat.pow_succ]
  omega
theorem zsV (cl:Int->Int->Int) {w:Wheel} (hk:w.Coins.length<=3) {t:Nat} (ht:t<=5):(ztu cl w t).length<=93312:=by
 have key:∀t,t<=5->(ztu cl w t).length<=(t+1)*15552:=by
  intro t
  induction t with
  | zero =>
   intro _
   have:=zom cl hk 0
   simp only [ztu,lvs,List.length_append,List.length_map]
   omega
  | succ t ih =>
   intro ht
   have h1:=ih (by omega)
   have h2:=zom cl hk (t+1)
   have h3:6 ^ (t+1)<=6 ^ 5:=Nat.pow_le_pow_right (by omega) ht
   simp only [ztu,lvs,List.length_append,List.length_map]
   have:(6:Nat) ^ 5=7776:=by decide
   omega
 have:=key t ht
 omega
theorem RP.level {cl:Int->Int->Int} {w:Wheel} {al:List Int} (h:OkW w) (hl:al.length=w.Coins.length) (hnn:∀k,0<=al.getD k 0) (hcl:Clamp cl (total al)) {acts:List Int} {x:Pn} (hr:RP cl w al acts x):x∈lvl cl w (total x.l).toNat\/x.p=0/\x∈(lvl cl w (total x.l).toNat).map (zr9 cl):=by
 induction hr with
 | zero =>
  refine .inl ?_
  have:total (zld w).l=0:=ziW _
  rw [this]
  simp [lvl]
 | @sel acts x hr hc hp ih =>
  refine .inr ⟨rfl,?_⟩
  show zr9 cl x∈(lvl cl w (total x.l).toNat).map (zr9 cl)
  rcases ih with ih | ⟨h0,_⟩
  ·exact List.mem_map.2 ⟨x,ih,rfl⟩
  ·omega
 | @coin acts x k hr hk hne ih =>
  have hX:=hr.ok h hl hnn hcl
  have hkl:k<x.l.length:=by rw [hX.len];exact hk
  have h0:0<=total x.l:=zeP (zgL hX.nn)
  refine .inl ?_
  have e:(total (zqg cl w x k).l).toNat=(total x.l).toNat+1:=by
   show (total (zf3 x.l k)).toNat=_
   rw [ze4 hkl]
   omega
  rw [e]
  unfold lvl
  refine List.mem_flatMap.2 ⟨x,?_,List.mem_map.2 ⟨k,List.mem_range.2 hk,rfl⟩⟩
  rcases ih with ih | ⟨_,ih⟩
  ·exact List.mem_append_left _ ih
  ·exact List.mem_append_right _ ih
theorem zpe (cl:Int->Int->Int) (w:Wheel):∀{t m:Nat},m<=t->∀x,x∈lvs cl w m->x∈ztu cl w t
 | 0,m,h,x,hx=>by
  obtain rfl:m=0:=by omega
  exact hx
 | t+1,m,h,x,hx=>by
  by_cases e:m=t+1
  ·subst e
   exact List.mem_append_right _ hx
  ·exact List.mem_append_left _ (zpe cl w (by omega) x hx)
theorem RP.up {cl:Int->Int->Int} {w:Wheel} {al:List Int} (h:OkW w) (hl:al.length=w.Coins.length) (hnn:∀k,0<=al.getD k 0) (hcl:Clamp cl (total al)) {acts:List Int} {x:Pn} (hr:RP cl w al acts x) {t:Nat} (ht:total x.l<=t):x∈ztu cl w t:=by
 refine zpe cl w (m:=(total x.l).toNat) (by omega) x ?_
 rcases hr.level h hl hnn hcl with h1 | ⟨_,h1⟩
 ·exact List.mem_append_left _ h1
 ·exact List.mem_append_right _ h1
theorem zjo {α:Type} [DecidableEq α]:∀{l m:List α},l.Nodup->(∀x,x∈l->x∈m)->l.length<=m.length
 | [],_,_,_=>Nat.zero_le _
 | x::l,m,hn,h=>by
  have hn:=List.nodup_cons.1 hn
  have hx:=h x (by simp)
  have:=zjo (l:=l) (m:=m.erase x) hn.2 fun y hy=>by
   have hne:y≠x:=fun e=>hn.1 (by rw [←e];exact hy)
   exact (List.mem_erase_of_ne hne).2 (h y (by simp [hy]))
  rw [List.length_erase_of_mem hx] at this
  have:=List.length_pos_of_mem hx
  simp only [List.length_cons]
  omega
theorem zrU {n:Nat} {l:List Int} (h4:l.length<=4) (hnn:∀k,0<=l.getD k 0/\l.getD k 0<=1000) (hn:10<=n):zdm n (zbX l)=some (total l):=by
 obtain ⟨m,rfl⟩:∃m,n=m+5:=⟨n-5,by omega⟩
 have h0:=hnn 0
 have h1:=hnn 1
 have h2:=hnn 2
 have h3:=hnn 3
 have ht:=zrO h4
 unfold zdm
 have e:∀(m:Nat) (s k:Int) (j:Nat),k=j->j<4->0<=s->s<=100000->zbd (zbX l) (m+1) s k=zbd (zbX l) m (s+l.getD j 0) (k+1):=fun m s k j hk hj hs hs2=>by
  subst hk
  have hb:=hnn j
  simp only [zbd,zcI]
  rw [if_pos (by simp;omega)]
  rw [show idx ([(zbX l).c0,(zbX l).c1,(zbX l).c2,(zbX l).c3]:List Int) (j:Int)=some (l.getD j 0) from zkQ hj,zaa,zaM (by omega) (by omega),zaM (by omega) (by omega)]
 rw [e (m+4) 0 0 0 rfl (by omega) (by omega) (by omega),e (m+3) _ (0+1) 1 rfl (by omega) (by omega) (by omega),e (m+2) _ (0+1+1) 2 rfl (by omega) (by omega) (by omega),e (m+1) _ (0+1+1+1) 3 rfl (by omega) (by omega) (by omega)]
 simp only [zbd,zcI,zdb]
 rw [if_neg (by simp)]
 congr 1
 omega
def pnt (x:Pn):PointT_:=⟨⟨x.p,x.c⟩,zbX x.l,x.b⟩
theorem zue {x y:Pn} (h:pnt x=pnt y) (hl:x.l.length=y.l.length) (h4:x.l.length<=4):x=y:=by
 obtain ⟨a,b,c,d⟩:=x
 obtain ⟨a',b',c',d'⟩:=y
 simp only [pnt,PointT_.mk.injEq,Stand.mk.injEq] at h
 obtain ⟨⟨rfl,rfl⟩,h1,rfl⟩:=h
 obtain rfl:=zmi h1 hl h4
 rfl
structure Cx (w:Wheel) (al:List Int):Prop where
 v:valid w=true
 hl:al.length=w.Coins.length
 nn:∀k,0<=al.getD k 0
 k3:w.Coins.length<=3
 t5:total al<=5
theorem Cx.h {w:Wheel} {al:List Int} (C:Cx w al):OkW w:=zg3 C.v
theorem znx {w:Wheel} {al acts:List Int} {x:Pn} (C:Cx w al) (hr:RP (clT (total al)) w al acts x):OkX w al acts x/\total x.l<=total al/\(∀k,0<=x.l.getD k 0/\x.l.getD k 0<=5)/\zbE (pnt x)=true:=by
 have hX:=hr.ok C.h C.hl C.nn (zjm _)
 have ht:total x.l<=total al:=zf4 (by rw [hX.len,C.hl]) hX.le
 have hk:∀k,0<=x.l.getD k 0/\x.l.getD k 0<=5:=fun k=>by
  have:=zgq (zgL hX.nn) k
  have:=C.t5
  omega
 refine ⟨hX,ht,hk,?_⟩
 have h0:=hk 0
 have h1:=hk 1
 have h2:=hk 2
 have h3:=hk 3
 have h4:=hX.p0
 have h5:=hX.p1
 have h6:=hX.c0
 have h7:=hX.cb
 have h8:=hX.bt
 have h9:=C.h.r2
 have h10:=C.t5
 unfold zbE pnt zbX
 simp only [List.all_cons,List.all_nil,Bool.and_true,Bool.and_eq_true]
 exact ⟨zgi (by omega) (by omega),zgi (by omega) (by omega),zgi (by omega) (by omega),zgi (by omega) (by omega),zgi (by omega) (by omega),zgi (by omega) (by omega),zgi (by omega) (by omega)⟩
structure WI (w:Wheel) (al:List Int) (A:PointT_->List Int) (M:List (PointT_×Step_)):Prop where
 nd:(M.map (·.1)).Nodup
 pt:∀k st,(k,st)∈M->(∃X,k=pnt X/\RP (clT (total al)) w al (A k) X)/\(st.act=-2/\A k=[]\/st.act≠-2/\zcm M st.from_=true/\A k=A st.from_++[st.act])
structure Ext (A:PointT_->List Int) (M:List (PointT_×Step_)) (q:List PointT_) (A':PointT_->List Int) (M':List (PointT_×Step_)) (q':List PointT_):Prop where
 ex:∃N:List (PointT_×Step_),M'=M++N/\q'=q++N.map (·.1)
 same:∀k,zcm M k=true->A' k=A k
theorem Ext.has {A M q A' M' q'} (h:Ext A M q A' M' q') {k:PointT_} (hk:zcm M k=true):zcm M' k=true:=by
 obtain ⟨N,rfl,_⟩:=h.ex
 rw [zbb] at hk ⊢
 rw [List.map_append]
 exact List.mem_append_left _ hk
theorem Ext.refl (A M q):Ext A M q A M q:=⟨⟨[],by simp,by simp⟩,fun _ _=>rfl⟩
theorem Ext.trans {A M q A' M' q' A2 M2 q2} (h:Ext A M q A' M' q') (g:Ext A' M' q' A2 M2 q2):Ext A M q A2 M2 q2:=by
 refine ⟨?_,fun k hk=>by rw [g.same k (h.has hk),h.same k hk]⟩
 obtain ⟨N,rfl,rfl⟩:=h.ex
 obtain ⟨N',rfl,rfl⟩:=g.ex
 exact ⟨N++N',by simp,by simp⟩
theorem Ext.len {A M q A' M' q'} (h:Ext A M q A' M' q'):M.length+q'.length=M'.length+q.length:=by
 obtain ⟨N,rfl,rfl⟩:=h.ex
 simp
 omega
theorem Ext.out {A M q A' M' q'} (h:Ext A M q A' M' q') {k:PointT_} (hk:zcm M' k=true) (hq:k∉q'):zcm M k=true/\k∉q:=by
 obtain ⟨N,rfl,rfl⟩:=h.ex
 rw [zbb,List.map_append] at hk
 rw [zbb]
 simp only [List.mem_append,not_or] at hk hq
 rcases hk with hk | hk
 ·exact ⟨hk,hq.1⟩
 ·exact absurd hk hq.2
theorem WI.key {w al A M} (hW:WI w al A M) {k:PointT_} (hk:zcm M k=true):∃X,k=pnt X/\RP (clT (total al)) w al (A k) X:=(hW.pt k _ (zgF za4 hk)).1
theorem WI.len {w al A M} (C:Cx w al) (hW:WI w al A M):M.length<=93312:=by
 have h1:=zjo (m:=(ztu (clT (total al)) w 5).map pnt) hW.nd fun k hk=>by
  obtain ⟨X,rfl,hr⟩:=hW.key (zbb.2 hk)
  exact List.mem_map.2 ⟨X,hr.up C.h C.hl C.nn (zjm _) (by have:=(znx C hr).2.1;have:=C.t5;omega),rfl⟩
 rw [List.length_map,List.length_map] at h1
 have h2:=zsV (clT (total al)) C.k3 (t:=5) (by omega)
 omega
theorem WI.mok {w al A M} (C:Cx w al) (hW:WI w al A M) {acts:List Int} {X:Pn} (hr:RP (clT (total al)) w al acts X):mok zbE M (pnt X)=true:=by
 unfold Go.AM.mok
 rw [(znx C hr).2.2.2,Bool.true_and,Bool.and_eq_true]
 refine ⟨List.all_eq_true.2 fun p hp=>?_,decide_eq_true hW.nd⟩
 obtain ⟨Y,e,hr'⟩:=(hW.pt p.1 p.2 hp).1
 show zbE p.1=true
 rw [e]
 exact (znx C hr').2.2.2
theorem Cx.len4 {w al} (C:Cx w al):al.length<=4:=by rw [C.hl];have:=C.k3;omega
theorem ztv {w al} (C:Cx w al) {n:Nat} (hn:10<=n) {A M q} (hW:WI w al A M) {X Y:Pn} {a:Int} (hx:zcm M (pnt X)=true) (hr:RP (clT (total al)) w al (A (pnt X)++[a]) Y) (ha:a≠-2) {y:PointT_} (e1:y.in_=zbX Y.l) (e2:y.bought=Y.b) (e3:y.Stand.Place=Y.p) (e4:min y.Stand.Credit (total al-total Y.l)=Y.c) (hq:q.length<=M.length) :
  ∃A' M' q',zeq n (zbX al) (pnt X) a y (M,q)=some (M',q')/\WI w al A' M'/\Ext A M q A' M' q'/\zcm M' (pnt Y)=true:=by
 obtain ⟨hY,ht,hk,hok⟩:=znx C hr
 have h4:=C.len4
 have hal:∀k,0<=al.getD k 0/\al.getD k 0<=1000:=fun k=>by
  have h1:=zgq (zgL C.nn) k
  have h2:=C.t5
  omega
 have hnn:0<=total Y.l:=zeP (zgL hY.nn)
 have h5:=C.t5
 have e:zd9 y (w64 (total al-total Y.l))=pnt Y:=by
  rw [zaM (by omega) (by omega)]
  show (⟨⟨y.Stand.Place,min y.Stand.Credit (total al-total Y.l)⟩,y.in_,y.bought⟩:PointT_)=_
  rw [e1,e2,e3,e4]
  rfl
 have hlen:=hW.len C
 unfold zeq
 rw [zrU h4 hal hn,zaa,e1,zrU (by rw [hY.len];have:=C.k3;omega) (fun k=>by have:=hk k;omega) hn,zaa]
 simp only [e]
 rw [show zgu zbE za4 M (pnt Y)=some (zgM za4 M (pnt Y)) from if_pos (hW.mok C hr),zaa]
 cases hh:zcm M (pnt Y) with
 | true =>
  rw [if_pos rfl]
  exact ⟨A,M,q,rfl,hW,Ext.refl A M q,hh⟩
 | false =>
  rw [if_neg (by simp),show zkj zbE M (pnt Y) ⟨a,pnt X⟩=some (zg9 M (pnt Y) ⟨a,pnt X⟩) from if_pos (hW.mok C hr),zaa,if_pos (by omega),(zgA za4 M _ hh).2.2]
  have hno:∀k,zcm M k=true->k≠pnt Y:=fun k hk he=>by rw [he,hh] at hk;cases hk
  refine ⟨fun k=>if k=pnt Y then A (pnt X)++[a] else A k,_,_,rfl,⟨?_,fun k st hm=>?_⟩,⟨⟨[(pnt Y,⟨a,pnt X⟩)],rfl,rfl⟩,fun k hk=>if_neg (hno k hk)⟩,?_⟩
  ·rw [List.map_append,List.nodup_append]
   refine ⟨hW.nd,by simp,fun u hu v hv=>?_⟩
   simp only [List.map_cons,List.map_nil,List.mem_singleton] at hv
   rw [hv]
   exact hno u (zbb.2 hu)
  ·have hmono:∀k,zcm M k=true->zcm (M++[(pnt Y,(⟨a,pnt X⟩:Step_))]) k=true:=fun k hk=>by
    rw [zbb] at hk ⊢
    rw [List.map_append]
    exact List.mem_append_left _ hk
   rcases List.mem_append.1 hm with hm | hm
   ·have hk:zcm M k=true:=zbb.2 (List.mem_map.2 ⟨_,hm,rfl⟩)
    obtain ⟨p1,p2⟩:=hW.pt k st hm
    simp only [if_neg (hno k hk)]
    refine ⟨p1,?_⟩
    rcases p2 with p2 | ⟨p2,p3,p4⟩
    ·exact .inl p2
    ·exact .inr ⟨p2,hmono _ p3,by rw [if_neg (hno _ p3)];exact p4⟩
   ·simp only [List.mem_singleton,Prod.mk.injEq] at hm
    obtain ⟨rfl,rfl⟩:=hm
    simp only [if_pos rfl]
    exact ⟨⟨Y,rfl,hr⟩,.inr ⟨ha,hmono _ hx,by rw [if_neg (hno _ hx)];simp⟩⟩
  ·rw [zbb,List.map_append]
   exact List.mem_append_right _ (by simp)
theorem zuf {w:Wheel} (hv:valid w=true) {n:Nat} (hn:200<=n) {p:Int} (h0:0<=p) (h1:p<w.Round):zeK n w ⟨p,1⟩ [-1]=some (⟨0,0⟩,1,0):=by
 have h:=zg3 hv
 rw [ztn (h.len (by omega)) hn _ _ (by simp) (by simp;omega)]
 have e:zg8 w ⟨p,1⟩ (-1)=(⟨0,0⟩,true):=by
  unfold zg8
  rw [if_neg (by omega),if_neg (by simp)]
  rfl
 unfold zzB
 rw [if_pos hv,if_pos ⟨by simp only [zgp,zie,Bool.and_eq_true,zbl];omega,by simp,by simp [zoi]⟩]
 simp only [zqc,e]
 rfl
theorem zsW {w:Wheel} (hv:valid w=true) {n:Nat} (hn:200<=n) {p:Int} (h0:0<=p) (h1:p<w.Round) {k:Nat} (hk:k<w.Coins.length):zeK n w ⟨p,0⟩ [(k:Int)]=some (⟨(turn w p (coin w k)).1,(turn w p (coin w k)).2⟩,0,0):=by
 have h:=zg3 hv
 rw [ztn (h.len (by omega)) hn _ _ (by simp) (by simp;omega)]
 have e:zg8 w ⟨p,0⟩ (k:Int)=(⟨(turn w p (coin w k)).1,(turn w p (coin w k)).2⟩,false):=by
  unfold zg8
  rw [if_pos (by omega)]
  simp
 unfold zzB
 rw [if_pos hv,if_pos ⟨by simp only [zgp,zie,Bool.and_eq_true,zbl];omega,by simp,by simp [zmj hk]⟩]
 simp only [zqc,e]
 rfl
theorem zrV {w al} (C:Cx w al) {n:Nat} (hn:200<=n) {b:Box_} (hb:b.Box.Wheel=w) {A M q} (hW:WI w al A M) {X:Pn} (hx:zcm M (pnt X)=true) (hr:RP (clT (total al)) w al (A (pnt X)) X) (hq:q.length<=M.length) :
  ∃A' M' q',ze9 n b (zbX al) (pnt X) (M,q)=some (M',q')/\WI w al A' M'/\Ext A M q A' M' q'/\(0<X.c->0<X.p->zcm M' (pnt (zr9 (clT (total al)) X))=true):=by
 obtain ⟨hX,ht,hk,hok⟩:=znx C hr
 have h5:=C.t5
 have h6:=hX.cb
 have h7:=hX.bt
 unfold ze9
 rw [hb]
 show ∃A' M' q',(if decide (X.c>0)=true then if decide (X.p>0)=true then _ else _ else _)=_/\_
 by_cases hc:0<X.c
 ·by_cases hp:0<X.p
  ·rw [if_pos (by simpa using hc),if_pos (by simpa using hp)]
   show ∃A' M' q',Option.bind (zeK n w ⟨X.p,1⟩ [-1]) _=_/\_
   rw [zuf C.v hn hX.p0 hX.p1,zaa]
   obtain ⟨A',M',q',g1,g2,g3,g4⟩:=ztv (n:=n) C (by omega) hW (Y:=zr9 (clT (total al)) X) (a:=-1) (y:=⟨⟨0,w64 (X.c-1)⟩,zbX X.l,X.b⟩) hx (hr.sel hc hp) (by omega) rfl rfl rfl (by
    show min (w64 (X.c-1)) (total al-total X.l)=min (X.c-1) (total al-total X.l)
    rw [zaM (by omega) (by omega)]) hq
   exact ⟨A',M',q',g1,g2,g3,fun _ _=>g4⟩
  ·rw [if_pos (by simpa using hc),if_neg (by simpa using hp)]
   exact ⟨A,M,q,rfl,hW,Ext.refl A M q,fun _ h=>absurd h hp⟩
 ·rw [if_neg (by simpa using hc)]
  exact ⟨A,M,q,rfl,hW,Ext.refl A M q,fun h=>absurd h hc⟩
theorem zkU {w al} (C:Cx w al) {n:Nat} (hn:200<=n) {b:Box_} (hb:b.Box.Wheel=w) {X:Pn}:∀(d i m:Nat),i+d=w.Coins.length->d<m->∀{A M q},WI w al A M->zcm M (pnt X)=true->RP (clT (total al)) w al (A (pnt X)) X->q.length<=M.length ->
  ∃A' M' q',zbw n b (zbX al) (pnt X) m (i:Int) (M,q)=some (M',q')/\WI w al A' M'/\Ext A M q A' M' q'/\∀k:Nat,i<=k->k<w.Coins.length->X.l.getD k 0≠al.getD k 0->zcm M' (pnt (zqg (clT (total al)) w X k))=true
 | d,i,0,_,hm,_,_,_,_,_,_,_=>absurd hm (Nat.not_lt_zero _)
 | 0,i,m+1,hi,_,A,M,q,hW,hx,hr,hq=>by
  unfold zbw
  rw [hb,if_neg (by simp;omega)]
  exact ⟨A,M,q,rfl,hW,Ext.refl A M q,fun k h1 h2=>by omega⟩
 | d+1,i,m+1,hi,hm,A,M,q,hW,hx,hr,hq=>by
  obtain ⟨hX,ht,hk,hok⟩:=znx C hr
  have h5:=C.t5
  have h6:=hX.cb
  have h7:=hX.bt
  have h8:=hX.c0
  have h9:=C.k3
  have h4:=C.len4
  have hki:=hk i
  have hil:i<X.l.length:=by rw [hX.len];omega
  unfold zbw
  rw [hb,if_pos (by simp;omega)]
  show ∃A' M' q',Option.bind (idx (zto X.l) (i:Int)) _=_/\_
  rw [zkQ (by omega),zaa,show idx ([(zbX al).c0,(zbX al).c1,(zbX al).c2,(zbX al).c3]:List Int) (i:Int)=some (al.getD i 0) from zkQ (by omega),zaa,zaM (x:=(i:Int)+1) (by omega) (by omega)]
  by_cases he:X.l.getD i 0=al.getD i 0
  ·rw [if_pos (by simpa using he)]
   obtain ⟨A',M',q',g1,g2,g3,g4⟩:=zkU C hn hb d (i+1) m (by omega) (by omega) hW hx hr hq
   refine ⟨A',M',q',g1,g2,g3,fun k k1 k2 k3=>?_⟩
   by_cases e:k=i
   ·subst e
    exact absurd he k3
   ·exact g4 k (by omega) k2 k3
  ·rw [if_neg (by simpa using he)]
   show ∃A' M' q',Option.bind (zeK n w ⟨X.p,0⟩ [(i:Int)]) _=_/\_
   have hcoin:=zc1 C.h (a:=(i:Int)) (by omega) (by omega)
   have htr:=zc0 C.h hX.p0 hX.p1 (show 0<=coin w i by omega)
   rw [zsW C.v hn hX.p0 hX.p1 (by omega),zaa,zaM (x:=X.l.getD i 0+1) (by omega) (by omega)]
   rw [show zr8 ([(pnt X).in_.c0,(pnt X).in_.c1,(pnt X).in_.c2,(pnt X).in_.c3]:List Int) (i:Int) (X.l.getD i 0+1)=some (zto (zf3 X.l i)) from zog hil (by rw [hX.len];omega),zaa]
   obtain ⟨A1,M1,q1,g1,g2,g3,g4⟩:=ztv (n:=n) C (by omega) hW (Y:=zqg (clT (total al)) w X i) (a:=(i:Int)) (y:=⟨⟨(turn w X.p (coin w i)).1,w64 (X.c+(turn w X.p (coin w i)).2)⟩,zbX (zf3 X.l i),w64 (X.b+(turn w X.p (coin w i)).2)⟩) hx (hr.coin (by omega) he) (by omega) rfl (by
     show w64 _=X.b+_
     rw [zaM (by omega) (by omega)]) rfl (by
     show min (w64 (X.c+(turn w X.p (coin w i)).2)) (total al-total (zf3 X.l i))=min (X.c+(turn w X.p (coin w i)).2) (total al-(total X.l+1))
     rw [zaM (by omega) (by omega),ze4 hil]) hq
   have hl1:=g3.len
   obtain ⟨A',M',q',k1,k2,k3,k4⟩:=zkU C hn hb d (i+1) m (by omega) (by omega) g2 (g3.has hx) (by rw [g3.same _ hx];exact hr) (show q1.length<=M1.length by omega)
   refine ⟨A',M',q',?_,k2,g3.trans k3,fun k j1 j2 j3=>?_⟩
   ·show Option.bind (zeq n (zbX al) (pnt X) (i:Int) ⟨⟨(turn w X.p (coin w i)).1,w64 (X.c+(turn w X.p (coin w i)).2)⟩,zbX (zf3 X.l i),w64 (X.b+(turn w X.p (coin w i)).2)⟩ (M,q)) _=_
    rw [g1,zaa]
    exact k1
   ·by_cases e:k=i
    ·subst e
     exact k3.has g4
    ·exact k4 k (by omega) j2 j3
def Closed (w:Wheel) (al:List Int) (M:List (PointT_×Step_)) (X:Pn):Prop:=(0<X.c->0<X.p->zcm M (pnt (zr9 (clT (total al)) X))=true)/\∀k:Nat,k<w.Coins.length->X.l.getD k 0≠al.getD k 0->zcm M (pnt (zqg (clT (total al)) w X k))=true
theorem Closed.ext {w al A M q A' M' q'} (h:Ext A M q A' M' q') {X:Pn} (hc:Closed w al M X):Closed w al M' X:=⟨fun a b=>h.has (hc.1 a b),fun k a b=>h.has (hc.2 k a b)⟩
theorem zng {w al} (C:Cx w al) {n:Nat} (hn:200<=n) {b:Box_} (hb:b.Box.Wheel=w):∀(m:Nat) {A M q},93312+q.length<m+M.length->WI w al A M->q.length<=M.length->(∀k,k∈q->zcm M k=true)->zcm M (pnt (zld w))=true->(∀acts X,RP (clT (total al)) w al acts X->zcm M (pnt X)=true->pnt X∉q->Closed w al M X) ->
  ∃A' M',zdr n b (zbX al) m (M,q)=some M'/\WI w al A' M'/\∀acts X,RP (clT (total al)) w al acts X->zcm M' (pnt X)=true
 | 0,A,M,q,hf,hW,_,_,_,_=>by
  have:=hW.len C
  omega
 | m+1,A,M,[],hf,hW,hq,hqm,hz,hcl=>by
  refine ⟨A,M,rfl,hW,fun acts X hr=>?_⟩
  induction hr with
  | zero=>exact hz
  | sel hr hc hp ih=>exact (hcl _ _ hr ih (by simp)).1 hc hp
  | coin hr hk hne ih=>exact (hcl _ _ hr ih (by simp)).2 _ hk hne
 | m+1,A,M,x::q,hf,hW,hq,hqm,hz,hcl=>by
  have hx:zcm M x=true:=hqm x (by simp)
  obtain ⟨X,rfl,hr⟩:=hW.key hx
  simp only [List.length_cons] at hf hq
  obtain ⟨A1,M1,q1,g1,g2,g3,g4⟩:=zrV C hn hb hW hx hr (show q.length<=M.length by omega)
  have hl1:=g3.len
  obtain ⟨A2,M2,q2,k1,k2,k3,k4⟩:=zkU C hn hb w.Coins.length 0 n (by omega) (by have:=C.k3;omega) g2 (g3.has hx) (by rw [g3.same _ hx];exact hr) (show q1.length<=M1.length by omega)
  have hl2:=k3.len
  have hE:=g3.trans k3
  have hXc:Closed w al M2 X:=⟨fun a b=>k3.has (g4 a b),fun k a b=>k4 k (Nat.zero_le _) a b⟩
  have hX:=znx C hr
  obtain ⟨A',M',j1,j2,j3⟩:=zng C hn hb m (A:=A2) (M:=M2) (q:=q2) (by omega) k2 (by omega) (fun k hk=>by
   obtain ⟨N,e1,e2⟩:=hE.ex
   rw [e2] at hk
   rcases List.mem_append.1 hk with hk | hk
   ·exact hE.has (hqm k (List.mem_cons_of_mem _ hk))
   ·rw [zbb,e1,List.map_append]
    exact List.mem_append_right _ hk) (hE.has hz) fun acts Y hY hm hnq=>by
   obtain ⟨o1,o2⟩:=hE.out hm hnq
   by_cases e:pnt Y=pnt X
   ·obtain rfl:=zue e (by rw [(znx C hY).1.len,hX.1.len]) (by rw [(znx C hY).1.len];have:=C.k3;omega)
    exact hXc
   ·exact (hcl acts Y hY o1 (by simp only [List.mem_cons,not_or];exact ⟨e,o2⟩)).ext hE
  refine ⟨A',M',?_,j2,j3⟩
  unfold zdr
  simp only
  rw [g1,zaa]
  show Option.bind (zbw n b (zbX al) (pnt X) n ((0:Nat):Int) (M1,q1)) _=_
  rw [k1,zaa]
  exact j1
theorem zpf (w:Wheel):pnt (zld w)=zaJ:=by
 have h:=fun k=>zjl w k
 unfold pnt zld zbX
 simp only [h]
theorem zrW {w al} (C:Cx w al) {n:Nat} (hn:100000<=n) {b:Box_} (hb:b.Box.Wheel=w):∃A M,zdo n (some b) (zbX al)=some M/\WI w al A M/\∀acts X,RP (clT (total al)) w al acts X->zcm M (pnt X)=true:=by
 have hz:zcm [(zaJ,(⟨-2,zaJ⟩:Step_))] (pnt (zld w))=true:=by rw [zpf];simp [zcm]
 exact zng C (by omega) hb n (A:=fun _=>[]) (M:=[(zaJ,⟨-2,zaJ⟩)]) (q:=[zaJ]) (by simp;omega) ⟨by simp,fun k st hm=>by
  simp only [List.mem_singleton,Prod.mk.injEq] at hm
  obtain ⟨rfl,rfl⟩:=hm
  exact ⟨⟨zld w,(zpf w).symm,.zero⟩,.inl ⟨rfl,rfl⟩⟩⟩ (by simp) (by simp [zcm]) hz fun acts X hr hm hnq=>by
  exfalso
  rw [zbb] at hm
  exact hnq hm
theorem zrX {w al} (C:Cx w al) {A M} (hW:WI w al A M):∀(m:Nat) {k:PointT_} {acts:List Int},zcm M k=true->(A k).length<m->acts.length+(A k).length<100000->zdO M m (zgM za4 M k) acts=some (acts++(A k).reverse)
 | 0,k,acts,hk,hm,_=>absurd hm (Nat.not_lt_zero _)
 | m+1,k,acts,hk,hm,hl=>by
  unfold zdO
  rcases (hW.pt k _ (zgF za4 hk)).2 with ⟨h1,h2⟩ | ⟨h1,h2,h3⟩
  ·rw [if_neg (by simpa using h1),h2]
   simp
  ·rw [h3,List.length_append,List.length_singleton] at hm hl
   obtain ⟨Y,e,hr⟩:=hW.key h2
   rw [if_pos (by simpa using h1),if_pos (by omega),show zgu zbE za4 M (zgM za4 M k).from_=some (zgM za4 M (zgM za4 M k).from_) from if_pos (by rw [e];exact hW.mok C hr),zaa,zrX C hW m h2 (by omega) (by simp;omega)]
   conv=>rhs;rw [h3]
   simp
def sums (a b:List Int):List Int:=List.zipWith (·+·) a b
theorem zgj {a b:List Int} (h:b.length=a.length):(sums a b).length=a.length:=by simp [sums,h]
theorem zfs:∀{a b:List Int},b.length=a.length->∀k,(sums a b).getD k 0=a.getD k 0+b.getD k 0
 | [],[],_,k=>by simp [sums]
 | [],_::_,h,_=>by simp at h
 | _::_,[],h,_=>by simp at h
 | x::a,y::b,h,0=>by simp [sums]
 | x::a,y::b,h,k+1=>by
  have:=zfs (a:=a) (b:=b) (by simpa using h) k
  simpa [sums] using this
theorem zfJ:∀{a b:List Int},b.length=a.length->total (sums a b)=total a+total b
 | [],[],_=>rfl
 | [],_::_,h=>by simp at h
 | _::_,[],h=>by simp at h
 | x::a,y::b,h=>by
  have:=zfJ (a:=a) (b:=b) (by simpa using h)
  simp only [sums,List.zipWith_cons_cons,total] at this ⊢
  omega
def zhA (l:List Int):Prop:=∀k,0<=l.getD k 0/\l.getD k 0<=1000
theorem zhA.sums {a b:List Int} (h:b.length=a.length) (ha:∀k,0<=a.getD k 0/\a.getD k 0<=500) (hb:∀k,0<=b.getD k 0/\b.getD k 0<=500):zhA (sums a b):=fun k=>by
 rw [zfs h]
 have:=ha k
 have:=hb k
 omega
theorem getD_get {l:List Int} {k:Nat} (h:k<l.length):l[k]=l.getD k 0:=by simp [h]
theorem zon {n:Nat} {a b:List Int} (h:b.length=a.length) (ha:zhA a) (hb:zhA b) (hl:a.length<1000) (hn:a.length<n):zgw n a b=some (sums a b):=by
 have key:∀(d i m:Nat) (v:List Int),d=a.length-i->i<=a.length->d<m->v.length=i->zda a b m v (i:Int)=some (v++(sums a b).drop i):=by
  intro d
  induction d with
  | zero =>
   intro i m v hd hi hm hv
   obtain ⟨m,rfl⟩:∃q,m=q+1:=⟨m-1,by omega⟩
   simp only [zda,zeF,zfy]
   rw [if_neg (by simp;omega),List.drop_eq_nil_of_le (by rw [zgj h];omega),List.append_nil]
  | succ d ih =>
   intro i m v hd hi hm hv
   obtain ⟨m,rfl⟩:∃q,m=q+1:=⟨m-1,by omega⟩
   have h1:=ha i
   have h2:=hb i
   simp only [zda,zeF]
   rw [if_pos (by simp;omega),zcE (by omega),zaa,zcE (by omega),zaa,getD_get,getD_get,zaM (by omega) (by omega),zmV (by simp;omega),zaa,zaM (by omega) (by omega)]
   have:=ih (i+1) m (v++[a.getD i 0+b.getD i 0]) (by omega) (by omega) (by omega) (by simp [hv])
   rw [show (((i+1:Nat)):Int)=(i:Int)+1 by simp] at this
   rw [this,List.drop_eq_getElem_cons (l:=sums a b) (i:=i) (by rw [zgj h];omega),getD_get,zfs h]
   simp
 have:=key a.length 0 n [] (by omega) (by omega) hn rfl
 rw [List.nil_append,List.drop_zero] at this
 exact this
theorem zjW {n:Nat} {l:List Int} (hs:zhA l) (hl:l.length<1000) (hn:l.length<n):zeX n l=some (total l):=by
 have key:=zkN (F:=fun m i (s:Int)=>zcO l m s i) (xs:=l) (spec:=fun k s=>some (s+total k)) (I:=fun k s=>0<=s/\s+1000*k.length<=100000000/\∀x,x∈k->0<=x/\x<=1000) (by omega)
  (fun m s hI=>by simp [zcO,zek,ze6,total])
  (fun m i x k s hI hx hi _ _ hrec=>by
   obtain ⟨i1,i2,i3⟩:=hI
   have hxr:=i3 x (by simp)
   simp only [List.length_cons] at i2
   simp only [zcO,zek]
   rw [if_pos (by simpa using hi),hx,zaa,zaM (x:=s+x) (by omega) (by omega),hrec (s+x) ⟨by omega,by omega,fun y hy=>i3 y (by simp [hy])⟩]
   simp only [total]
   congr 1
   omega)
  l 0 n 0 (by omega) rfl (by omega) ⟨by omega,by omega,fun x hx=>by
   obtain ⟨k,hk⟩:=List.getElem?_of_mem hx
   have:=hs k
   rwa [List.getD_eq_getElem?_getD,hk] at this⟩
 rw [show zeX n l=_ from key,Int.zero_add]
theorem zhL (a b c:Int):zcP a b c=some (inR a b c):=by
 unfold zcP zcU inR
 by_cases h:b<=a<;>simp [h]
theorem zeB (a b c:Int):zc5 a b c=some (inR a b c):=by
 unfold zc5
 rw [zhy,zaa]
def zxS (b:Box):Prop:=∀k,k<b.Found.length->0<=b.Marked.getD k 0/\b.Marked.getD k 0<=b.Found.getD k 0
instance (b:Box):Decidable (zxS b):=inferInstanceAs (Decidable (∀k,k<b.Found.length->0<=b.Marked.getD k 0/\b.Marked.getD k 0<=b.Found.getD k 0))
structure BoxOk (b:Box):Prop where
 v:valid b.Wheel=true
 p:inR b.Plays 0 9999=true
 s:inR b.Skips 0 9=true
 f:zdv b.Wheel b.Found=true
 g:zdv b.Wheel b.Slugs=true
 ml:b.Marked.length=b.Found.length
 mkd:zxS b
 t:total b.Found+total b.Slugs<=12
open Classical in
noncomputable def znh (b:Box):Bool:=decide (BoxOk b)
theorem zhB {b:Box}:znh b=true↔BoxOk b:=by simp [znh]
theorem ziX {b:Box} (h:¬BoxOk b):znh b=false:=by simp [znh,h]
def zxT (b:Box):Prop:=b.Wheel.Notches.length<=40/\b.Wheel.Coins.length<=40/\b.Found.length<=40/\b.Marked.length<=40/\b.Slugs.length<=40
theorem zet {w:Wheel} {l:List Int} (h:zdv w l=true):l.length=w.Coins.length/\(∀k,0<=l.getD k 0/\l.getD k 0<=12)/\total l<=12:=by
 obtain ⟨h1,h2⟩:=zsT h
 simp only [zdv,Bool.and_eq_true,decide_eq_true_eq] at h
 refine ⟨h.1.1,fun k=>?_,h2⟩
 have:=zgq h1.nn k
 omega
theorem zni {w:Wheel} {l:List Int} (h:zdv w l=true):l.all (fun x=>inR x 0 12)=true:=by
 simp only [zdv,Bool.and_eq_true] at h
 exact h.1.2
open Classical in
theorem zxU (b:Box) (n:Nat) (hl:zxT b) (hn:200<=n):zfR n b=some (cond (znh b) 0 50):=by
 obtain ⟨l1,l2,l3,l4,l5⟩:=hl
 unfold zfR
 have hol:zod n b.Wheel:=⟨by omega,by omega,by omega,by omega⟩
 have no:∀h:¬BoxOk b,(some 50:Option Int)=some (cond (znh b) 0 50):=fun h=>by rw [ziX h];rfl
 have j1:zb7 n b true=some 50:=rfl
 rw [zrH hol,zaa]
 by_cases hv:valid b.Wheel=true
 ·rw [hv]
  show Option.bind _ _=_
  rw [zji (by omega) (by omega),zaa]
  by_cases hf:zdv b.Wheel b.Found=true
  ·rw [if_neg (by simp [hf]),zji (by omega) (by omega),zaa]
   by_cases hg:zdv b.Wheel b.Slugs=true
   ·rw [if_neg (by simp [hg])]
    by_cases hm:b.Marked.length=b.Found.length
    ·rw [if_neg (by simp;omega),zeB,zaa]
     by_cases hp:inR b.Plays 0 9999=true
     ·rw [if_neg (by simp [hp]),zeB,zaa]
      by_cases hs:inR b.Skips 0 9=true
      ·rw [hs]
       show zb6 n b n 0=_
       obtain ⟨f1,f2,f3⟩:=zet hf
       obtain ⟨g1,g2,g3⟩:=zet hg
       have hfg:b.Slugs.length=b.Found.length:=by omega
       have hS:=zhA.sums hfg (fun k=>by have:=f2 k;omega) (fun k=>by have:=g2 k;omega)
       have hj2:zd8 n b=some (if total b.Found+total b.Slugs<=12 then 0 else 50):=by
        unfold zd8
        rw [zon hfg (fun k=>by have:=f2 k;omega) (fun k=>by have:=g2 k;omega) (by omega) (by omega),zaa,zji (by omega) (by omega),zaa]
        by_cases ht:total b.Found+total b.Slugs<=12
        ·rw [if_pos ht,if_neg]
         have hnn:∀k,0<=(sums b.Found b.Slugs).getD k 0:=fun k=>(hS k).1
         have:zdv b.Wheel (sums b.Found b.Slugs)=true:=by
          simp only [zdv,Bool.and_eq_true,decide_eq_true_eq,List.all_eq_true]
          refine ⟨⟨by rw [zgj hfg];omega,fun x hx=>?_⟩,by rw [zfJ hfg];exact ht⟩
          obtain ⟨k,hk⟩:=List.getElem?_of_mem hx
          have h1:=zgq (zgL hnn) k
          rw [zfJ hfg] at h1
          rw [List.getD_eq_getElem?_getD,hk] at h1
          exact zbl.2 ⟨h1.1,Int.le_trans h1.2 ht⟩
         simp [this]
        ·rw [if_neg ht,if_pos]
         have:zdv b.Wheel (sums b.Found b.Slugs)=false:=by
          simp only [zdv,zfJ hfg]
          simp [ht]
         simp [this]
       have key:∀(d i m:Nat),d=b.Found.length-i->i<=b.Found.length->d<m->zb6 n b m (i:Int)=some (if (∀k,i<=k->k<b.Found.length->0<=b.Marked.getD k 0/\b.Marked.getD k 0<=b.Found.getD k 0)/\total b.Found+total b.Slugs<=12 then 0 else 50):=by
        intro d
        induction d with
        | zero =>
         intro i m hd hi hm
         obtain ⟨m,rfl⟩:∃q,m=q+1:=⟨m-1,by omega⟩
         simp only [zb6,zej]
         rw [if_neg (by simp;omega),hj2]
         congr 1
         by_cases ht:total b.Found+total b.Slugs<=12
         ·rw [if_pos ht,if_pos ⟨fun k h1 h2=>by omega,ht⟩]
         ·rw [if_neg ht,if_neg fun h=>ht h.2]
        | succ d ih =>
         intro i m hd hi hm
         obtain ⟨m,rfl⟩:∃q,m=q+1:=⟨m-1,by omega⟩
         simp only [zb6,zej]
         rw [if_pos (by simp;omega),zcE (by omega),zaa,zcE (by omega),zaa,zeB,zaa,getD_get,getD_get,zaM (by omega) (by omega)]
         have:=ih (i+1) m (by omega) (by omega) (by omega)
         rw [show (((i+1:Nat)):Int)=(i:Int)+1 by simp] at this
         by_cases hq:inR (b.Marked.getD i 0) 0 (b.Found.getD i 0)=true
         ·rw [if_neg (by rw [hq];simp),this]
          congr 1
          by_cases hR:(∀k,i+1<=k->k<b.Found.length->0<=b.Marked.getD k 0/\b.Marked.getD k 0<=b.Found.getD k 0)/\total b.Found+total b.Slugs<=12
          ·have hall:∀k,i<=k->k<b.Found.length->0<=b.Marked.getD k 0/\b.Marked.getD k 0<=b.Found.getD k 0:=fun k h1 h2=>by
            by_cases e:k=i
            ·subst e
             exact zbl.1 hq
            ·exact hR.1 k (by omega) h2
           rw [if_pos hR,if_pos ⟨hall,hR.2⟩]
          ·rw [if_neg hR,if_neg fun h=>hR ⟨fun k h1 h2=>h.1 k (by omega) h2,h.2⟩]
         ·rw [if_pos (by simpa using hq),if_neg fun h=>hq (zbl.2 (h.1 i (Nat.le_refl _) (by omega)))]
       rw [show zb6 n b n 0=_ from key b.Found.length 0 n (by omega) (by omega) (by omega)]
       by_cases hR:(∀k,0<=k->k<b.Found.length->0<=b.Marked.getD k 0/\b.Marked.getD k 0<=b.Found.getD k 0)/\total b.Found+total b.Slugs<=12
       ·rw [if_pos hR,zhB.2 ⟨hv,hp,hs,hf,hg,hm,fun k hk=>hR.1 k (Nat.zero_le _) hk,hR.2⟩]
        rfl
       ·rw [if_neg hR]
        exact no fun h=>hR ⟨fun k _ hk=>h.mkd k hk,h.t⟩
      ·rw [show (!inR b.Skips 0 9)=true by simpa using hs,j1]
       exact no fun h=>hs h.s
     ·rw [if_pos (by simpa using hp),j1]
      exact no fun h=>hp h.p
    ·rw [if_pos (by simp;omega),j1]
     exact no fun h=>hm h.ml
   ·rw [if_pos (by simpa using hg),j1]
    exact no fun h=>hg h.g
  ·rw [if_pos (by simpa using hf),j1]
   exact no fun h=>hf h.f
 ·rw [show valid b.Wheel=false by simpa using hv]
  exact no fun h=>hv h.v
theorem zrY {n:Nat} (f:Int->Option Bool) (g:Int->Bool) (xs:List Int) (hf:∀x,x∈xs->f x=some (g x)) (hl:xs.length<1048576) (hn:xs.length<n) :
  zbq n (fun x (_:Unit)=>(f x).map fun y=>(y,())) xs ()=some (xs.any g,()):=by
 have key:∀(l:List Int) (i m:Nat) (s:Unit),i<=xs.length->xs.drop i=l->l.length<m->(zar xs (fun x (_:Unit)=>(f x).map fun y=>(y,())) m (i:Int) s).map (fun r=>decide (r.1≥0))=some (l.any g):=by
  intro l i m s h1 h2 h3
  refine zsM (fun m i s=>(zar xs (fun x (_:Unit)=>(f x).map fun y=>(y,())) m i s).map (fun r=>decide (r.1≥0))) xs (fun l _=>some (l.any g)) hl (fun m s=>?_) (fun m i x l s hx hi _ _ hrec=>?_) l i m s h1 h2 h3
  ·simp [zar,za7,zbQ]
  ·have hmem:x∈xs:=by
    unfold idx at hx
    rw [if_pos (by omega)] at hx
    exact List.mem_of_getElem? hx
   simp only [zar,za7]
   rw [if_pos (by simpa using hi),hx,zaa]
   simp only [hf x hmem,Option.map_some,zaa]
   by_cases hg:g x=true
   ·rw [if_pos (by simpa using hg)]
    simp [hg]
   ·rw [if_neg (by simpa using hg)]
    have:=hrec ()
    rw [this]
    simp [hg]
 have h:=key xs 0 n () (by omega) rfl hn
 unfold zbq zcR
 change Option.map _ (zar xs _ n 0 ())=_ at h
 cases hx:zar xs (fun x (_:Unit)=>(f x).map fun y=>(y,())) n 0 () with
 | none=>rw [hx] at h;cases h
 | some r =>
  rw [hx] at h
  simp only [Option.map_some,Option.some.injEq] at h
  simp only [zaa]
  rw [h]
def zsX (w:Wheel) (l:List Int):Bool:=decide (l.length≠w.Coins.length) || l.any (fun x=>!inR x 0 12)
theorem zml {n:Nat} (hn:200<=n) (b:Box) (m:Nat) (i:Int) (l:List Int) (hi:i<3) (h0:0<=i) (hl:l.length<=40) (hc:b.Wheel.Coins.length<=40) (hx:idx ([b.Found,b.Marked,b.Slugs]:List (List Int)) i=some l) :
  zaN n b (m+1) i=if zsX b.Wheel l=true then some 50 else zaN n b m (i+1):=by
 simp only [zaN,zeI,zdl]
 rw [if_pos (by simpa using hi),hx,zaa,zrY zdk (fun x=>!inR x 0 12) l (fun x _=>by unfold zdk;rw [zhL,zaa]) (by omega) (by omega),zaa,zaM (x:=i+1) (by omega) (by omega)]
 unfold zsX
 by_cases h1:l.length=b.Wheel.Coins.length
 ·rw [if_neg (by simp;omega),show decide (l.length≠b.Wheel.Coins.length)=false by simp [h1],Bool.false_or]
 ·rw [if_pos (by simp;omega),show decide (l.length≠b.Wheel.Coins.length)=true by simp [h1],Bool.true_or]
  rfl
theorem zoo {w:Wheel} {l:List Int} (h:zsX w l=false):l.length=w.Coins.length/\l.all (fun x=>inR x 0 12)=true:=by
 simp only [zsX,Bool.or_eq_false_iff,decide_eq_false_iff_not,Decidable.not_not,List.any_eq_false,List.all_eq_true] at h ⊢
 exact ⟨h.1,fun x hx=>by simpa using h.2 x hx⟩
theorem zop {w:Wheel} {l:List Int} (h1:l.length=w.Coins.length) (h2:l.all (fun x=>inR x 0 12)=true):zsX w l=false:=by
 rw [List.all_eq_true] at h2
 simp only [zsX,Bool.or_eq_false_iff,decide_eq_false_iff_not,Decidable.not_not,List.any_eq_false]
 exact ⟨h1,fun x hx=>by simp [h2 x hx]⟩
open Classical in
theorem zrZ (b:Box) (n:Nat) (hl:zxT b) (hn:200<=n):zfz n b=some (cond (znh b) 0 50):=by
 obtain ⟨l1,l2,l3,l4,l5⟩:=hl
 have hol:zod n b.Wheel:=⟨by omega,by omega,by omega,by omega⟩
 have no:∀h:¬BoxOk b,(some 50:Option Int)=some (cond (znh b) 0 50):=fun h=>by rw [ziX h];rfl
 have j1:zcG n b true=some 50:=rfl
 unfold zfz
 rw [zo6 hol,zaa]
 by_cases hv:valid b.Wheel=true
 ·rw [hv]
  show Option.bind _ _=_
  rw [zhL,zaa]
  by_cases hp:inR b.Plays 0 9999=true
  ·rw [if_neg (by simp [hp]),zhL,zaa]
   by_cases hs:inR b.Skips 0 9=true
   ·rw [hs]
    show zaN n b n 0=_
    obtain ⟨n,rfl⟩:∃q,n=q+4:=⟨n-4,by omega⟩
    have en:∀m i,zaN (n+4) b (m+1) i=zaN (n+4) b (m+1) i:=fun _ _=>rfl
    rw [show zaN (n+4) b (n+4) 0=zaN (n+4) b ((n+3)+1) 0 from rfl,zml hn b (n+3) 0 b.Found (by omega) (by omega) (by omega) l2 rfl]
    by_cases b1:zsX b.Wheel b.Found=true
    ·rw [if_pos b1]
     exact no fun h=>by rw [zop (zet h.f).1 (zni h.f)] at b1;cases b1
    rw [if_neg b1,show zaN (n+4) b (n+3) (0+1)=zaN (n+4) b ((n+2)+1) 1 from rfl,zml hn b (n+2) 1 b.Marked (by omega) (by omega) (by omega) l2 rfl]
    obtain ⟨f1,f2⟩:=zoo (by simpa using b1)
    by_cases b2:zsX b.Wheel b.Marked=true
    ·rw [if_pos b2]
     refine no fun h=>?_
     rw [zop (by rw [h.ml];exact f1) (List.all_eq_true.2 fun x hx=>?_)] at b2
     ·cases b2
     ·obtain ⟨k,hk⟩:=List.getElem?_of_mem hx
      have hkl:k<b.Marked.length:=by
       rcases Nat.lt_or_ge k b.Marked.length with h1 | h1
       ·exact h1
       ·rw [List.getElem?_eq_none h1] at hk
        cases hk
      have h1:=h.mkd k (by have:=h.ml;omega)
      have h2:=(zet h.f).2.1 k
      rw [List.getD_eq_getElem?_getD,hk] at h1
      have h3:0<=x/\x<=b.Found.getD k 0:=h1
      exact zbl.2 ⟨h3.1,by omega⟩
    rw [if_neg b2,show zaN (n+4) b (n+2) (1+1)=zaN (n+4) b ((n+1)+1) 2 from rfl,zml hn b (n+1) 2 b.Slugs (by omega) (by omega) (by omega) l2 rfl]
    obtain ⟨m1,m2⟩:=zoo (by simpa using b2)
    by_cases b3:zsX b.Wheel b.Slugs=true
    ·rw [if_pos b3]
     exact no fun h=>by rw [zop (zet h.g).1 (zni h.g)] at b3;cases b3
    rw [if_neg b3]
    obtain ⟨g1,g2⟩:=zoo (by simpa using b3)
    have sm:∀{l:List Int},l.all (fun x=>inR x 0 12)=true->∀k,0<=l.getD k 0/\l.getD k 0<=12:=fun {l} h k=>by
     rw [List.all_eq_true] at h
     rw [List.getD_eq_getElem?_getD]
     cases hk:l[k]? with
     | none=>simp
     | some x=>exact zbl.1 (h x (List.mem_of_getElem? hk))
    have f3:=sm f2
    have g3:=sm g2
    have m3:=sm m2
    show zbz b (n+4) 0 0=_
    have key:∀(d i m:Nat) (v:Int),d=b.Found.length-i->i<=b.Found.length->d<m->0<=v->v<=100*i->zbz b m v (i:Int)=some (if (∀k,i<=k->k<b.Found.length->b.Marked.getD k 0<=b.Found.getD k 0)/\v+total (b.Found.drop i)+total (b.Slugs.drop i)<=12 then 0 else 50):=by
     intro d
     induction d with
     | zero =>
      intro i m v hd hi hm h0 h1
      obtain ⟨m,rfl⟩:∃q,m=q+1:=⟨m-1,by omega⟩
      simp only [zbz,zdy,zel]
      have e1:total (b.Found.drop i)=0:=by rw [List.drop_eq_nil_of_le (by omega)];rfl
      have e2:total (b.Slugs.drop i)=0:=by rw [List.drop_eq_nil_of_le (by omega)];rfl
      rw [if_neg (by simp;omega)]
      by_cases ht:v>12
      ·rw [if_pos (by simpa using ht),if_neg fun h=>by omega]
      ·rw [if_neg (by simpa using ht),if_pos ⟨fun k h1 h2=>by omega,by omega⟩]
     | succ d ih =>
      intro i m v hd hi hm h0 h1
      obtain ⟨m,rfl⟩:∃q,m=q+1:=⟨m-1,by omega⟩
      have fi:=f3 i
      have gi:=g3 i
      simp only [zbz,zdy]
      rw [if_pos (by simp;omega),zcE (by omega),zaa,zcE (by omega),zaa,getD_get,getD_get]
      by_cases hq:b.Marked.getD i 0>b.Found.getD i 0
      ·rw [if_pos (by simpa using hq),if_neg fun h=>by have:=h.1 i (Nat.le_refl _) (by omega);omega]
      ·rw [if_neg (by simpa using hq),zcE (by omega),zaa,getD_get,zaM (x:=b.Found.getD i 0+b.Slugs.getD i 0) (by omega) (by omega),zaM (x:=v+_) (by omega) (by omega),zaM (x:=(i:Int)+1) (by omega) (by omega)]
       have:=ih (i+1) m (v+(b.Found.getD i 0+b.Slugs.getD i 0)) (by omega) (by omega) (by omega) (by omega) (by omega)
       rw [show (((i+1:Nat)):Int)=(i:Int)+1 by simp] at this
       have e1:total (b.Found.drop i)=b.Found.getD i 0+total (b.Found.drop (i+1)):=by rw [List.drop_eq_getElem_cons (l:=b.Found) (i:=i) (by omega),getD_get];rfl
       have e2:total (b.Slugs.drop i)=b.Slugs.getD i 0+total (b.Slugs.drop (i+1)):=by rw [List.drop_eq_getElem_cons (l:=b.Slugs) (i:=i) (by omega),getD_get];rfl
       rw [this]
       congr 1
       by_cases hR:(∀k,i+1<=k->k<b.Found.length->b.Marked.getD k 0<=b.Found.getD k 0)/\v+(b.Found.getD i 0+b.Slugs.getD i 0)+total (b.Found.drop (i+1))+total (b.Slugs.drop (i+1))<=12
       ·have hall:∀k,i<=k->k<b.Found.length->b.Marked.getD k 0<=b.Found.getD k 0:=fun k h1 h2=>by
         by_cases e:k=i
         ·subst e
          omega
         ·exact hR.1 k (by omega) h2
        rw [if_pos hR,if_pos ⟨hall,by have:=hR.2;omega⟩]
       ·rw [if_neg hR,if_neg fun h=>hR ⟨fun k h1 h2=>h.1 k (by omega) h2,by have:=h.2;omega⟩]
    rw [show zbz b (n+4) 0 0=_ from key b.Found.length 0 (n+4) 0 (by omega) (by omega) (by omega) (by omega) (by omega)]
    simp only [List.drop_zero,Int.zero_add]
    have nnf:∀x,x∈b.Found->0<=x:=zgL fun k=>(f3 k).1
    have nng:∀x,x∈b.Slugs->0<=x:=zgL fun k=>(g3 k).1
    by_cases hR:(∀k,0<=k->k<b.Found.length->b.Marked.getD k 0<=b.Found.getD k 0)/\total b.Found+total b.Slugs<=12
    ·have tf:=zeP nnf
     have tg:=zeP nng
     rw [if_pos hR,zhB.2 ⟨hv,hp,hs,by simp only [zdv,Bool.and_eq_true,decide_eq_true_eq];exact ⟨⟨f1,f2⟩,by have:=hR.2;omega⟩,by simp only [zdv,Bool.and_eq_true,decide_eq_true_eq];exact ⟨⟨g1,g2⟩,by have:=hR.2;omega⟩,by omega,fun k hk=>⟨(m3 k).1,hR.1 k (Nat.zero_le _) hk⟩,hR.2⟩]
     rfl
    ·rw [if_neg hR]
     exact no fun h=>hR ⟨fun k _ hk=>(h.mkd k hk).2,h.t⟩
   ·rw [show (!inR b.Skips 0 9)=true by simpa using hs,j1]
    exact no fun h=>hs h.s
  ·rw [if_pos (by simpa using hp),j1]
   exact no fun h=>hp h.p
 ·rw [show valid b.Wheel=false by simpa using hv]
  exact no fun h=>hv h.v
def zf5 (b:Box):List Int:=sums b.Found b.Slugs
structure Near (b:Box):Prop where
 ok:BoxOk b
 k3:b.Wheel.Coins.length<=3
 t3:total b.Found+total b.Slugs<=3
theorem zjX {l:List Int} {k j:Nat} {v:Int} (hk:k<l.length):(l.set k v).getD j 0=if k=j then v else l.getD j 0:=by
 by_cases e:k=j
 ·subst e
  rw [if_pos rfl,List.getD_eq_getElem?_getD,List.getElem?_set_self hk]
  rfl
 ·rw [if_neg e,List.getD_eq_getElem?_getD,List.getElem?_set_ne e,←List.getD_eq_getElem?_getD]
structure NearF (b:Box):Prop where
 fl:b.Found.length=b.Wheel.Coins.length
 sl:b.Slugs.length=b.Wheel.Coins.length
 ml:b.Marked.length=b.Wheel.Coins.length
 f:∀k,0<=b.Found.getD k 0/\b.Found.getD k 0<=12
 s:∀k,0<=b.Slugs.getD k 0/\b.Slugs.getD k 0<=12
 m:∀k,0<=b.Marked.getD k 0/\b.Marked.getD k 0<=12
 p:0<=b.Plays/\b.Plays<=9999
 k:0<=b.Skips/\b.Skips<=9
 h:OkW b.Wheel
theorem BoxOk.far {b:Box} (N:BoxOk b):NearF b:=by
 obtain ⟨f1,f2,f3⟩:=zet N.f
 obtain ⟨g1,g2,g3⟩:=zet N.g
 refine ⟨f1,g1,by rw [N.ml];exact f1,f2,g2,fun k=>?_,zbl.1 N.p,zbl.1 N.s,zg3 N.v⟩
 rcases Nat.lt_or_ge k b.Found.length with h | h
 ·have:=N.mkd k h
  have:=f2 k
  omega
 ·rw [List.getD_eq_getElem?_getD,List.getElem?_eq_none (by rw [N.ml];exact h)]
  simp
theorem zgr {b:Box} (F:NearF b):(zf5 b).length=b.Wheel.Coins.length:=by rw [zf5,zgj (by rw [F.sl,F.fl]),F.fl]
theorem ziY {b:Box} (F:NearF b) (k:Nat):(zf5 b).getD k 0=b.Found.getD k 0+b.Slugs.getD k 0:=zfs (by rw [F.sl,F.fl]) k
theorem zkV {b:Box} (F:NearF b):total (zf5 b)=total b.Found+total b.Slugs:=zfJ (by rw [F.sl,F.fl])
structure More (b:Box) (P:List Int):Prop where
 l:P.length=b.Wheel.Coins.length
 nn:∀k,0<=P.getD k 0
 t:total P<=2
theorem More.small {b:Box} {P:List Int} (h:More b P):∀k,0<=P.getD k 0/\P.getD k 0<=2:=fun k=>by
 have:=zgq (zgL h.nn) k
 have:=h.t
 omega
theorem Near.cx0 {b:Box} (N:Near b):Cx b.Wheel (zf5 b) :=
 have F:=N.ok.far
 ⟨N.ok.v,zgr F,fun k=>by rw [ziY F];have:=F.f k;have:=F.s k;omega,N.k3,by rw [zkV F];have:=N.t3;omega⟩
theorem Near.cx {b:Box} (N:Near b) {P:List Int} (h:More b P):Cx b.Wheel (sums (zf5 b) P) :=
 have F:=N.ok.far
 have e:P.length=(zf5 b).length:=by rw [h.l,zgr F]
 ⟨N.ok.v,by rw [zgj e,zgr F],fun k=>by rw [zfs e,ziY F];have:=F.f k;have:=F.s k;have:=h.nn k;omega,N.k3,by rw [zfJ e,zkV F];have:=N.t3;have:=h.t;omega⟩
theorem put_eq {b:Box} (F:NearF b) (h4:b.Wheel.Coins.length<=4) {n:Nat} (hn:10<=n):zdN n (some ⟨b⟩)=some (zbX (zf5 b)):=by
 have hfl:=F.fl
 have hsl:=F.sl
 have key:∀(d i m:Nat) (Q:List Int),d=b.Found.length-i->i<=b.Found.length->d<m->Q.length=b.Found.length->(∀k:Nat,k<i->Q.getD k 0=b.Found.getD k 0+b.Slugs.getD k 0)->zbR (some ⟨b⟩) ⟨b⟩ m (i:Int) (Q.getD 0 0) (Q.getD 1 0) (Q.getD 2 0) (Q.getD 3 0)=some (zbX (zf5 b)):=by
  intro d
  induction d with
  | zero =>
   intro i m Q hd hi hm hQ hk
   obtain ⟨m,rfl⟩:∃q,m=q+1:=⟨m-1,by omega⟩
   simp only [zbR,zcS,zdA]
   have e:Q=zf5 b:=zdT (n:=b.Found.length) hQ (by rw [zgr F,F.fl]) fun k hk'=>by rw [hk k (by omega),ziY F]
   rw [if_neg (by simp;omega),e]
   rfl
  | succ d ih =>
   intro i m Q hd hi hm hQ hk
   obtain ⟨m,rfl⟩:∃q,m=q+1:=⟨m-1,by omega⟩
   have h1:=F.f i
   have h2:=F.s i
   simp only [zbR,zcS]
   rw [if_pos (by simp;omega),show idx b.Found (i:Int)=some (b.Found.getD i 0) by rw [zcE (by omega),getD_get],zaa,zaa,show idx (⟨b⟩:Box_).Box.Slugs (i:Int)=some (b.Slugs.getD i 0) by show idx b.Slugs (i:Int)=_;rw [zcE (by omega),getD_get],zaa,show idx ([Q.getD 0 0,Q.getD 1 0,Q.getD 2 0,Q.getD 3 0]:List Int) (i:Int)=some (Q.getD i 0) from zkQ (by omega),zaa,zaM (x:=b.Found.getD i 0+_) (by omega) (by omega),show zr8 ([Q.getD 0 0,Q.getD 1 0,Q.getD 2 0,Q.getD 3 0]:List Int) (i:Int) (b.Found.getD i 0+b.Slugs.getD i 0)=some (zto (Q.set i (b.Found.getD i 0+b.Slugs.getD i 0))) from zog (by omega) (by omega),zaa,zaM (x:=(i:Int)+1) (by omega) (by omega)]
   have:=ih (i+1) m (Q.set i (b.Found.getD i 0+b.Slugs.getD i 0)) (by omega) (by omega) (by omega) (by simp [hQ]) fun k hk'=>by
    rw [zjX (by omega)]
    by_cases e:i=k
    ·subst e
     rw [if_pos rfl]
    ·rw [if_neg e,hk k (by omega)]
   rw [show (((i+1:Nat)):Int)=(i:Int)+1 by simp] at this
   exact this
 have:=key b.Found.length 0 n (List.replicate b.Found.length 0) (by omega) (by omega) (by omega) (by simp) fun k hk=>by omega
 have hz:∀k,(List.replicate b.Found.length (0:Int)).getD k 0=0:=fun k=>by
  rw [List.getD_eq_getElem?_getD,List.getElem?_replicate]
  split<;>rfl
 simp only [hz] at this
 exact this
theorem znj {b:Box} {P base:List Int} (hP:More b P) (hb:base.length=b.Wheel.Coins.length) (hs:zhA base) (h4:b.Wheel.Coins.length<=4) {n:Nat} (hn:10<=n):zbG P n 0 (zbX base)=some (zbX (sums base P)):=by
 have hl:=hP.l
 have key:∀(d i m:Nat) (Q:List Int),d=P.length-i->i<=P.length->d<m->Q.length=P.length->(∀k:Nat,k<i->Q.getD k 0=base.getD k 0+P.getD k 0)->(∀k:Nat,i<=k->Q.getD k 0=base.getD k 0)->zbG P m (i:Int) (zbX Q)=some (zbX (sums base P)):=by
  intro d
  induction d with
  | zero =>
   intro i m Q hd hi hm hQ hk _
   obtain ⟨m,rfl⟩:∃q,m=q+1:=⟨m-1,by omega⟩
   simp only [zbG]
   have e:Q=sums base P:=zdT (n:=P.length) hQ (by rw [zgj (by omega)];omega) fun k hk'=>by rw [hk k (by omega),zfs (by omega)]
   rw [if_neg (by simp;omega),e]
  | succ d ih =>
   intro i m Q hd hi hm hQ hk hk2
   obtain ⟨m,rfl⟩:∃q,m=q+1:=⟨m-1,by omega⟩
   have h1:=hs i
   have h2:=hP.small i
   have h3:=hk2 i (Nat.le_refl _)
   simp only [zbG]
   rw [if_pos (by simp;omega),zcE (by omega),zaa,getD_get,show idx ([(zbX Q).c0,(zbX Q).c1,(zbX Q).c2,(zbX Q).c3]:List Int) (i:Int)=some (Q.getD i 0) from zkQ (by omega),zaa,zaM (x:=Q.getD i 0+_) (by omega) (by omega),show zr8 ([(zbX Q).c0,(zbX Q).c1,(zbX Q).c2,(zbX Q).c3]:List Int) (i:Int) (Q.getD i 0+P.getD i 0)=some (zto (Q.set i (Q.getD i 0+P.getD i 0))) from zog (by omega) (by omega),zaa,zaM (x:=(i:Int)+1) (by omega) (by omega)]
   have:=ih (i+1) m (Q.set i (Q.getD i 0+P.getD i 0)) (by omega) (by omega) (by omega) (by simp [hQ]) (fun k hk'=>by
    rw [zjX (by omega)]
    by_cases e:i=k
    ·subst e
     rw [if_pos rfl,h3]
    ·rw [if_neg e,hk k (by omega)]) fun k hk'=>by
    rw [zjX (by omega),if_neg (by omega),hk2 k (by omega)]
   rw [show (((i+1:Nat)):Int)=(i:Int)+1 by simp] at this
   exact this
 exact key P.length 0 n base (by omega) (by omega) (by omega) (by omega) (fun k hk=>by omega) fun k _=>rfl
theorem ziZ {n:Nat} {b:Box} (h:OkW b.Wheel) (hn:100<=n) {l:List Int} (hlen:l.length=b.Wheel.Coins.length) (hl:zhA l):za8 n (some ⟨b⟩) l=some (zcz b.Wheel l):=by
 have h4:=h.clen
 have key:∀(d i m:Nat) (s:Int),d=b.Wheel.Coins.length-i->i<=b.Wheel.Coins.length->d<m->0<=s->s+100000*d<=1000000->zbr (some ⟨b⟩) l m s (i:Int)=some (s+znd b.Wheel l d i):=by
  intro d
  induction d with
  | zero =>
   intro i m s hd hi hm hs hs2
   obtain ⟨m,rfl⟩:∃q,m=q+1:=⟨m-1,by omega⟩
   simp only [zbr,zcA,zcT,znd]
   rw [if_neg (by simp;omega),Int.add_zero]
  | succ d ih =>
   intro i m s hd hi hm hs hs2
   obtain ⟨m,rfl⟩:∃q,m=q+1:=⟨m-1,by omega⟩
   have ht:=zsU h hl (show i<b.Wheel.Coins.length by omega)
   simp only [zbr,zcA,znd]
   rw [if_pos (by simp;omega),zcE (by omega),zaa,zaa,show idx (⟨b⟩:Box_).Box.Wheel.Coins (i:Int)=some (coin b.Wheel i) from zjV (w:=b.Wheel) (by omega) (by omega),zaa,getD_get,Int.mul_comm,zaM (x:=coin b.Wheel i*_) (by omega) (by omega),zaM (x:=s+_) (by omega) (by omega),zaM (x:=(i:Int)+1) (by omega) (by omega)]
   have:=ih (i+1) m (s+coin b.Wheel i*l.getD i 0) (by omega) (by omega) (by omega) (by omega) (by omega)
   rw [show (((i+1:Nat)):Int)=(i:Int)+1 by simp] at this
   rw [this]
   congr 1
   omega
 have:=key b.Wheel.Coins.length 0 n 0 (by omega) (by omega) (by omega) (by omega) (by omega)
 rw [Int.zero_add] at this
 exact this
def zkW (w:Wheel) (al L:List Int):Prop:=L.Pairwise (·<·)/\∀v,v∈L↔Can w al v
theorem zr0:∀{L:List Int},L.Pairwise (·<=·)->L.Nodup->L.Pairwise (·<·)
 | [],_,_=>.nil
 | x::L,h,hn=>by
  rw [List.pairwise_cons] at h ⊢
  rw [List.nodup_cons] at hn
  refine ⟨fun y hy=>?_,zr0 h.2 hn.2⟩
  have:=h.1 y hy
  rcases Int.lt_or_eq_of_le this with h1 | h1
  ·exact h1
  ·subst h1
   exact absurd hy hn.1
theorem ztw:∀{L L':List Int},L.Pairwise (·<·)->L'.Pairwise (·<·)->(∀v,v∈L↔v∈L')->L=L'
 | [],[],_,_,_=>rfl
 | [],y::_,_,_,h=>absurd ((h y).2 (by simp)) (by simp)
 | x::_,[],_,_,h=>absurd ((h x).1 (by simp)) (by simp)
 | x::L,y::L',h1,h2,h=>by
  rw [List.pairwise_cons] at h1 h2
  have e:x=y:=by
   have hx:=(h x).1 (by simp)
   have hy:=(h y).2 (by simp)
   rcases List.mem_cons.1 hx with e | hx
   ·exact e
   ·rcases List.mem_cons.1 hy with e | hy
    ·exact e.symm
    ·have:=h1.1 y hy
     have:=h2.1 x hx
     omega
  subst e
  congr 1
  refine ztw h1.2 h2.2 fun v=>⟨fun hv=>?_,fun hv=>?_⟩
  ·rcases List.mem_cons.1 ((h v).1 (List.mem_cons_of_mem _ hv)) with e | hv'
   ·have:=h1.1 v hv
    omega
   ·exact hv'
  ·rcases List.mem_cons.1 ((h v).2 (List.mem_cons_of_mem _ hv)) with e | hv'
   ·have:=h2.1 v hv
    omega
   ·exact hv'
theorem zkW.eq {w:Wheel} {al L L':List Int} (h:zkW w al L) (h':zkW w al L'):L=L':=ztw h.1 h'.1 fun v=>by rw [h.2,h'.2]
theorem zr1 {w:Wheel} {al K:List Int} (hn:K.Nodup) (h:∀v,v∈K↔Can w al v):zkW w al (zeW K) :=
 ⟨zr0 (zfl K) ((zd4 K).nodup_iff.2 hn),fun v=>by rw [(zd4 K).mem_iff];exact h v⟩
theorem zpg {w:Wheel} {al:List Int} (C:Cx w al) {A M} (hW:WI w al A M) (hall:∀acts X,RP (clT (total al)) w al acts X->zcm M (pnt X)=true) :
  zis M=true/\EndsOk (zbX al) (M.map (·.1)) (zew (zbX al) M)/\zkW w al (zeW ((zew (zbX al) M).map (·.1)))/\(∀v,v∈(zew (zbX al) M).map (·.1)->okI v=true):=by
 have hE:EndsOk (zbX al) (M.map (·.1)) (zew (zbX al) M):=zkB (zbX al) (M.map (·.1))
 have hkey:∀o,o∈M.map (·.1)->∃X,o=pnt X/\RP (clT (total al)) w al (A o) X:=fun o ho=>hW.key (zbb.2 ho)
 have hmem:∀v,v∈(zew (zbX al) M).map (·.1)↔∃acts X,RP (clT (total al)) w al acts X/\X.l=al/\X.b=v:=fun v=>by
  constructor
  ·intro hv
   obtain ⟨⟨b,o⟩,ho,rfl⟩:=List.mem_map.1 hv
   obtain ⟨h1,h2,h3,_⟩:=(hE.mem b o).1 ho
   obtain ⟨X,rfl,hr⟩:=hkey o h1
   refine ⟨_,X,hr,zmi h2 (by rw [(znx C hr).1.len,C.hl]) (by rw [(znx C hr).1.len];have:=C.k3;omega),h3⟩
  ·rintro ⟨acts,X,hr,rfl,rfl⟩
   exact zbb.1 (hE.has (pnt X) (zbb.1 (hall acts X hr)) rfl)
 refine ⟨?_,hE,zr1 hE.nd fun v=>by rw [hmem,zxR C.h C.hl C.nn],fun v hv=>?_⟩
 ·unfold zis
  rw [Bool.and_eq_true]
  refine ⟨List.all_eq_true.2 fun p hp=>?_,decide_eq_true (by have:=hW.len C;omega)⟩
  obtain ⟨X,e,hr⟩:=(hW.pt p.1 p.2 hp).1
  rw [e]
  have:=(znx C hr).2.2.2
  unfold zbE at this
  simp only [List.all_cons,List.all_nil,Bool.and_true,Bool.and_eq_true] at this
  exact this.2.2.2.2.2.2
 ·obtain ⟨acts,X,hr,_,rfl⟩:=(hmem v).1 hv
  have h1:=znx C hr
  have h2:=h1.1.bt
  have h3:=h1.1.cb
  have h4:=h1.1.c0
  have h5:=C.t5
  exact zgi (by omega) (by omega)
theorem znk {b:Box} (N:Near b) {n:Nat} (hn:100000<=n):∃L,zcW n (some ⟨b⟩)=some L/\zkW b.Wheel (zf5 b) L:=by
 have h3:=N.k3
 obtain ⟨A,M,h1,hW,hall⟩:=zrW N.cx0 hn (b:=⟨b⟩) rfl
 obtain ⟨s1,s2,s3,s4⟩:=zpg N.cx0 hW hall
 refine ⟨_,?_,s3⟩
 unfold zcW
 rw [put_eq N.ok.far (by omega) (by omega),zaa,h1,zaa,zaa,if_pos s1]
def zqh (b:Box) (al:List Int):Prop:=∃v,Can b.Wheel al v/\b.Plays<=v/\v<=b.Plays+b.Skips
structure ExplOk (b:Box) (al acts:List Int):Prop where
 ok:acts.all (zeg b.Wheel)=true
 len:(acts.length:Int)<=2*total al
 bag:∀k:Nat,k<b.Wheel.Coins.length->cnt k acts=al.getD k 0
 pl:b.Plays<=zd7 b.Wheel ⟨0,0⟩ acts
 pl2:zd7 b.Wheel ⟨0,0⟩ acts<=b.Plays+b.Skips
theorem ExplOk.ex {b:Box} {al acts:List Int} (h:ExplOk b al acts):zqh b al:=⟨_,⟨acts,h.ok,h.bag,rfl⟩,h.pl,h.pl2⟩
theorem zqi {b:Box} (N:Near b) {P:List Int} (hP:More b P) {n:Nat} (hn:100000<=n):∃r,zb2 n (some ⟨b⟩) P=some r/\(r.2=true/\ExplOk b (sums (zf5 b) P) r.1\/r.2=false/\¬zqh b (sums (zf5 b) P)):=by
 have h3:=N.k3
 have F:=N.ok.far
 have hpl:=F.p
 have hsk:=F.k
 have hpt:=F.f
 have C:=N.cx hP
 obtain ⟨A,M,h1,hW,hall⟩:=zrW C hn (b:=⟨b⟩) rfl
 obtain ⟨s1,s2,s3,s4⟩:=zpg C hW hall
 unfold zb2
 rw [zaa,put_eq F (by omega) (by omega),zaa,znj hP (zgr F) (fun k=>by rw [ziY F];have:=F.f k;have:=F.s k;omega) (by omega) (by omega),zaa,h1,zaa,if_pos s1]
 generalize hal:sums (zf5 b) P=al at *
 generalize hE:zew (zbX al) M=E at *
 generalize hbs:zeW (E.map (·.1))=bs at *
 have hbl:bs.length<=93312:=by
  rw [←hbs,(zd4 _).length_eq,List.length_map,←hE]
  have:=zjU (al:=zbX al) (M.map (·.1)) []
  simp only [List.length_map,List.length_nil] at this
  have:=hW.len C
  unfold zew
  omega
 have key:∀(d i m:Nat),d=bs.length-i->i<=bs.length->d<m->(∀v,v∈bs->v∈bs.drop i\/¬(b.Plays<=v/\v<=b.Plays+b.Skips))->∃r,zbH n ⟨b⟩ M E bs m (i:Int)=some r/\(r.2=true/\ExplOk b al r.1\/r.2=false/\¬zqh b al):=by
  intro d
  induction d with
  | zero =>
   intro i m hd hi hm hv
   obtain ⟨m,rfl⟩:∃q,m=q+1:=⟨m-1,by omega⟩
   simp only [zbH]
   rw [if_neg (by simp;omega)]
   refine ⟨_,rfl,.inr ⟨rfl,?_⟩⟩
   rintro ⟨v,h1,h2⟩
   rcases hv v ((s3.2 v).2 h1) with h | h
   ·rw [List.drop_eq_nil_of_le (by omega)] at h
    simp at h
   ·exact h h2
  | succ d ih =>
   intro i m hd hi hm hv
   obtain ⟨m,rfl⟩:∃q,m=q+1:=⟨m-1,by omega⟩
   simp only [zbH]
   have hdr:bs.drop i=bs.getD i 0::bs.drop (i+1):=by rw [List.drop_eq_getElem_cons (l:=bs) (i:=i) (by omega),getD_get]
   have hbm:bs.getD i 0∈bs:=by
    rw [←getD_get (by omega)]
    exact List.getElem_mem (by omega)
   rw [if_pos (by simp;omega),zcE (by omega),zaa,getD_get,zhL,zaa,zaM (x:=b.Plays+b.Skips) (by omega) (by omega),zaM (x:=(i:Int)+1) (by omega) (by omega)]
   generalize hx:bs.getD i 0=x at *
   by_cases hq:inR x b.Plays (b.Plays+b.Skips)=true
   ·rw [if_neg (by rw [hq];simp)]
    have hxk:x∈E.map (·.1):=by
     rw [←hbs,(zd4 _).mem_iff] at hbm
     exact hbm
    have hmx:zcm E x=true:=zbb.2 hxk
    have hok:mok okI E x=true:=by
     unfold Go.AM.mok
     rw [s4 x hxk,Bool.true_and,Bool.and_eq_true]
     exact ⟨List.all_eq_true.2 fun p hp=>s4 p.1 (List.mem_map.2 ⟨p,hp,rfl⟩),decide_eq_true s2.nd⟩
    rw [show zgu okI zaJ E x=some (zgM zaJ E x) from if_pos hok,zaa]
    obtain ⟨p1,p2,p3,_⟩:=(s2.mem _ _).1 (zgF zaJ hmx)
    have hmp:=zbb.2 p1
    obtain ⟨X,e,hr⟩:=hW.key hmp
    obtain ⟨hX,ht,hk,hokp⟩:=znx C hr
    generalize hp:zgM zaJ E x=p at *
    subst e
    have hXl:X.l=al:=zmi p2 (by rw [hX.len,C.hl]) (by rw [hX.len];omega)
    have hsh:=hr.short C.h C.hl C.nn
    have hlen:((A (pnt X)).length:Int)<=2*total al:=by
     rcases hsh.2 with h | ⟨_,h,_⟩
     ·rw [hXl] at h
      exact h
     ·rw [hXl] at h
      omega
    have ht5:=C.t5
    rw [show zgu zbE za4 M (pnt X)=some (zgM za4 M (pnt X)) from if_pos (hW.mok C hr),zaa,zrX C hW n hmp (by omega) (by simp;omega),zaa]
    refine ⟨_,rfl,.inl ⟨rfl,?_⟩⟩
    simp only [List.nil_append,List.reverse_reverse]
    have hb:zd7 b.Wheel ⟨0,0⟩ (A (pnt X))=x:=by rw [hX.buys];exact p3
    have hq:=zbl.1 hq
    exact ⟨hX.ok,hlen,fun k _=>by rw [hX.bag k,hXl],by rw [hb];exact hq.1,by rw [hb];exact hq.2⟩
   ·rw [if_pos (by simpa using hq)]
    have:=ih (i+1) m (by omega) (by omega) (by omega) fun v hvm=>by
     rcases hv v hvm with h | h
     ·rw [hdr] at h
      rcases List.mem_cons.1 h with rfl | h
      ·exact .inr fun hh=>hq (zbl.2 hh)
      ·exact .inl h
     ·exact .inr h
    rw [show (((i+1:Nat)):Int)=(i:Int)+1 by simp] at this
    exact this
 exact key bs.length 0 n (by omega) (by omega) (by omega) fun v hv=>.inl (by simpa using hv)
def zi0:Nat->List Int->Nat->List (List Int)
 | 0,p,_=>[p]
 | d+1,p,t=>(upF 0 (t+1)).flatMap fun v=>zi0 d (p++[v]) (t-v.toNat)
def zkX {S:Type} (F:List Int->S->Option (Unit×S)):List (List Int)->S->Option S
 | [],s=>some s
 | x::l,s=>(F x s).bind fun r=>zkX F l r.2
theorem zjB {S:Type} (F:List Int->S->Option (Unit×S)):∀(a b:List (List Int)) (s:S),zkX F (a++b) s=(zkX F a s).bind fun s=>zkX F b s
 | [],b,s=>rfl
 | x::a,b,s=>by
  simp only [List.cons_append,zkX]
  cases F x s with
  | none=>rfl
  | some r =>
   simp only [Option.bind_some]
   exact zjB F a b r.2
theorem zr2 {S:Type} (F:List Int->S->Option (Unit×S)) {b:Box} (h4:b.Wheel.Coins.length<=4):∀(d:Nat) (p:List Int) (t n:Nat) (s:S),p.length+d=b.Wheel.Coins.length->t<=2->d+10<=n->zbA n F (some ⟨b⟩) p (t:Int) s=(zkX F (zi0 d p t) s).map fun s=>((),s)
 | d,p,t,0,s,_,_,hn=>absurd hn (by omega)
 | 0,p,t,n+1,s,hp,ht,hn=>by
  simp only [zbA,zcK]
  rw [zaa,if_pos (by simp;omega)]
  simp only [zi0,zkX]
  cases F p s<;>rfl
 | d+1,p,t,n+1,s,hp,ht,hn=>by
  simp only [zbA,zcK]
  rw [zaa,if_neg (by simp;omega)]
  have loop:∀(e i m:Nat) (s:S),i+e=t+1->e<m->zbB (zbA n F) (some ⟨b⟩) p (t:Int) m (i:Int) s=(zkX F ((upF i e).flatMap fun v=>zi0 d (p++[v]) (t-v.toNat)) s).map fun s=>((),s):=by
   intro e
   induction e with
   | zero =>
    intro i m s hi hm
    obtain ⟨m,rfl⟩:∃q,m=q+1:=⟨m-1,by omega⟩
    simp only [zbB,zcc]
    rw [zaM (by omega) (by omega),if_neg (by simp;omega)]
    rfl
   | succ e ih =>
    intro i m s hi hm
    obtain ⟨m,rfl⟩:∃q,m=q+1:=⟨m-1,by omega⟩
    simp only [zbB,zcc,slices_Clone_int]
    have hrec:=zr2 F h4 d (p++[(i:Int)]) (t-i) n s (by simp;omega) (by omega) (by omega)
    rw [show ((t-i:Nat):Int)=(t:Int)-(i:Int) by omega] at hrec
    rw [zaM (x:=(t:Int)+1) (by omega) (by omega),if_pos (by simp;omega),zt8 (by omega),zaa,zmV (by simp;omega),zaa,zaM (x:=(t:Int)-i) (by omega) (by omega),zaM (x:=(i:Int)+1) (by omega) (by omega),hrec]
    simp only [upF,List.flatMap_cons,zjB,Int.toNat_natCast]
    cases zkX F (zi0 d (p++[(i:Int)]) (t-i)) s with
    | none=>rfl
    | some s' =>
     have:=ih (i+1) m s' (by omega) (by omega)
     rw [show (((i+1:Nat)):Int)=(i:Int)+1 by simp] at this
     simp only [Option.map_some,Option.bind_some]
     exact this
  exact loop (t+1) 0 n s (by omega) (by omega)
theorem zkY:∀(d:Nat) (p:List Int) (t:Nat) (P:List Int),P∈zi0 d p t↔∃r,P=p++r/\r.length=d/\(∀k,0<=r.getD k 0)/\total r<=t
 | 0,p,t,P=>by
  simp only [zi0,List.mem_singleton]
  constructor
  ·rintro rfl
   exact ⟨[],by simp,rfl,fun k=>by simp,by simp [total]⟩
  ·rintro ⟨r,rfl,h,_⟩
   obtain rfl:=List.eq_nil_of_length_eq_zero h
   simp
 | d+1,p,t,P=>by
  simp only [zi0,List.mem_flatMap]
  constructor
  ·rintro ⟨v,hv,hP⟩
   have hv:=zmk.1 hv
   obtain ⟨r,rfl,h1,h2,h3⟩:=(zkY d _ _ P).1 hP
   refine ⟨v::r,by simp,by simp [h1],fun k=>?_,?_⟩
   ·cases k with
    | zero =>
     show 0<=v
     omega
    | succ k=>simpa using h2 k
   ·simp only [total]
    omega
  ·rintro ⟨r,rfl,h1,h2,h3⟩
   cases r with
   | nil=>simp at h1
   | cons v r =>
    have hv:0<=v:=h2 0
    have hr:∀k,0<=r.getD k 0:=fun k=>by simpa using h2 (k+1)
    have ht:=zeP (zgL hr)
    simp only [total] at h3
    exact ⟨v,zmk.2 ⟨by omega,by omega⟩,(zkY d _ _ _).2 ⟨r,by simp,by simpa using h1,hr,by omega⟩⟩
theorem zkZ {b:Box} {P:List Int}:P∈zi0 b.Wheel.Coins.length [] 2↔More b P:=by
 rw [zkY]
 constructor
 ·rintro ⟨r,rfl,h1,h2,h3⟩
  exact ⟨by simpa using h1,by simpa using h2,by simpa using h3⟩
 ·rintro ⟨h1,h2,h3⟩
  exact ⟨P,by simp,h1,h2,h3⟩
theorem znl:∀(d:Nat) (p:List Int) (t:Nat),t<=2->(zi0 d p t).length<=3 ^ d
 | 0,p,t,_=>by simp [zi0]
 | d+1,p,t,ht=>by
  simp only [zi0]
  refine Nat.le_trans (zjn (c:=3 ^ d) fun v _=>znl d _ _ (by omega)) ?_
  rw [zoj,Nat.pow_succ,Nat.mul_comm]
  exact Nat.mul_le_mul_left _ (by omega)
structure GInv (b:Box) (xs:List (List Int)) (gs:List Gap_):Prop where
 len:gs.length<=xs.length
 mem:∀g,g∈gs->More b g.purse/\ExplOk b (sums (zf5 b) g.purse) g.acts
 eq:∀g,g∈gs->∀h,h∈gs->zcz b.Wheel g.purse=zcz b.Wheel h.purse
 le:∀P,P∈xs->zqh b (sums (zf5 b) P)->∃g,g∈gs/\zcz b.Wheel g.purse<=zcz b.Wheel P
theorem zgk {b:Box} {P:List Int} (h:More b P):zhA P:=fun k=>by have:=h.small k;omega
theorem znm {b:Box} (N:Near b) {n:Nat} (hn:100000<=n) {xs:List (List Int)} {gs:List Gap_} {P:List Int} (hP:More b P) (hx:xs.length<=100) (h:GInv b xs gs):∃gs',zaI n (some ⟨b⟩) P gs=some ((),gs')/\GInv b (xs++[P]) gs':=by
 obtain ⟨r,hr,hc⟩:=zqi N hP hn
 have hw:=fun {l} (hl:More b l)=>ziZ N.ok.far.h (show 100<=n by omega) hl.l (zgk hl)
 have skip:r.2=false->¬zqh b (sums (zf5 b) P):=fun e=>by
  rcases hc with ⟨h1,_⟩ | ⟨_,h2⟩
  ·rw [e] at h1
   cases h1
  ·exact h2
 have take:r.2=true->ExplOk b (sums (zf5 b) P) r.1:=fun e=>by
  rcases hc with ⟨_,h2⟩ | ⟨h1,_⟩
  ·exact h2
  ·rw [e] at h1
   cases h1
 have keep:¬zqh b (sums (zf5 b) P)->GInv b (xs++[P]) gs:=fun hno=>⟨by have:=h.len;simp;omega,h.mem,h.eq,fun Q hQ hE=>by
  rcases List.mem_append.1 hQ with hQ | hQ
  ·exact h.le Q hQ hE
  ·obtain rfl:=List.mem_singleton.1 hQ
   exact absurd hE hno⟩
 cases gs with
 | nil =>
  simp only [zaI]
  rw [hr,zaa]
  cases e:r.2 with
  | false =>
   rw [if_pos (by rfl)]
   exact ⟨_,rfl,keep (skip e)⟩
  | true =>
   rw [if_neg (by simp)]
   refine ⟨_,rfl,by simp,fun g hg=>?_,fun g hg g' hg'=>?_,fun Q hQ hE=>?_⟩
   ·obtain rfl:=List.mem_singleton.1 hg
    exact ⟨hP,take e⟩
   ·rw [List.mem_singleton.1 hg,List.mem_singleton.1 hg']
   ·rcases List.mem_append.1 hQ with hQ | hQ
    ·obtain ⟨g,hg,_⟩:=h.le Q hQ hE
     simp at hg
    ·obtain rfl:=List.mem_singleton.1 hQ
     exact ⟨_,List.mem_singleton.2 rfl,Int.le_refl _⟩
 | cons x gs =>
  simp only [zaI]
  obtain ⟨hxm,hxe⟩:=h.mem x (by simp)
  rw [hw hP,zaa,hw hxm,zaa]
  by_cases hgt:zcz b.Wheel P>zcz b.Wheel x.purse
  ·rw [if_pos (by simpa using hgt)]
   refine ⟨_,rfl,by have:=h.len;simp at this ⊢;omega,h.mem,h.eq,fun Q hQ hE=>?_⟩
   rcases List.mem_append.1 hQ with hQ | hQ
   ·exact h.le Q hQ hE
   ·obtain rfl:=List.mem_singleton.1 hQ
    exact ⟨x,by simp,by omega⟩
  ·rw [if_neg (by simpa using hgt),hr,zaa]
   cases e:r.2 with
   | false =>
    rw [if_pos (by rfl)]
    exact ⟨_,rfl,keep (skip e)⟩
   | true =>
    rw [if_neg (by simp),zaa,zaa]
    by_cases hlt:zcz b.Wheel P<zcz b.Wheel x.purse
    ·rw [if_pos (by simpa using hlt)]
     refine ⟨_,rfl,by simp,fun g hg=>?_,fun g hg g' hg'=>?_,fun Q hQ hE=>?_⟩
     ·obtain rfl:=List.mem_singleton.1 hg
      exact ⟨hP,take e⟩
     ·rw [List.mem_singleton.1 hg,List.mem_singleton.1 hg']
     ·refine ⟨_,List.mem_singleton.2 rfl,?_⟩
      show zcz b.Wheel P<=_
      rcases List.mem_append.1 hQ with hQ | hQ
      ·obtain ⟨g,hg,hle⟩:=h.le Q hQ hE
       have:=h.eq g hg x (by simp)
       omega
      ·obtain rfl:=List.mem_singleton.1 hQ
       exact Int.le_refl _
    ·rw [if_neg (by simpa using hlt),zmV (by have:=h.len;simp at this ⊢;omega),zaa]
     have heq:zcz b.Wheel P=zcz b.Wheel x.purse:=by omega
     have hall:∀g,g∈x::gs++[⟨P,r.1⟩]->zcz b.Wheel g.purse=zcz b.Wheel P:=fun g hg=>by
      rcases List.mem_append.1 hg with hg | hg
      ·rw [heq]
       exact h.eq g hg x (by simp)
      ·rw [List.mem_singleton.1 hg]
     refine ⟨_,rfl,by have:=h.len;simp at this ⊢;omega,fun g hg=>?_,fun g hg g' hg'=>by rw [hall g hg,hall g' hg'],fun Q hQ hE=>?_⟩
     ·rcases List.mem_append.1 hg with hg | hg
      ·exact h.mem g hg
      ·obtain rfl:=List.mem_singleton.1 hg
       exact ⟨hP,take e⟩
     ·rcases List.mem_append.1 hQ with hQ | hQ
      ·obtain ⟨g,hg,hle⟩:=h.le Q hQ hE
       exact ⟨g,List.mem_append_left _ hg,hle⟩
      ·obtain rfl:=List.mem_singleton.1 hQ
       exact ⟨⟨Q,r.1⟩,List.mem_append_right _ (by simp),Int.le_refl _⟩
theorem zjC {b:Box} (N:Near b) {n:Nat} (hn:100000<=n):∀(l xs:List (List Int)) (gs:List Gap_),(∀P,P∈l->More b P)->xs.length+l.length<=100->GInv b xs gs->∃gs',zkX (fun x0 s=>zaI n (some ⟨b⟩) x0 s) l gs=some gs'/\GInv b (xs++l) gs'
 | [],xs,gs,_,_,h=>⟨gs,rfl,by simpa using h⟩
 | P::l,xs,gs,hm,hl,h=>by
  simp only [List.length_cons] at hl
  obtain ⟨gs1,h1,h2⟩:=znm N hn (hm P (by simp)) (by omega) h
  obtain ⟨gs2,h3,h4⟩:=zjC N hn l (xs++[P]) gs1 (fun Q hQ=>hm Q (by simp [hQ])) (by simp;omega) h2
  refine ⟨gs2,?_,by simpa using h4⟩
  simp only [zkX,h1,Option.bind_some]
  exact h3
def zAz (b:Box) (gs:List Gap_):Prop:=(gs=[]/\∀P,More b P->¬zqh b (sums (zf5 b) P))\/∃x t,gs=x::t/\More b x.purse/\ExplOk b (sums (zf5 b) x.purse) x.acts/\∀P,More b P->zqh b (sums (zf5 b) P)->zcz b.Wheel x.purse<=zcz b.Wheel P
theorem zqj {b:Box} (N:Near b) {n:Nat} (hn:100000<=n):∃gs,zb3 n (some ⟨b⟩)=some gs/\zAz b gs:=by
 have h3:=N.k3
 have hlen:(zi0 b.Wheel.Coins.length [] 2).length<=100:=by
  have h1:=znl b.Wheel.Coins.length [] 2 (by omega)
  have h2:3 ^ b.Wheel.Coins.length<=3 ^ 3:=Nat.pow_le_pow_right (by omega) h3
  omega
 obtain ⟨gs,h1,h2⟩:=zjC N hn (zi0 b.Wheel.Coins.length [] 2) [] [] (fun P hP=>zkZ.1 hP) (by simpa using hlen) ⟨by simp,by simp,by simp,by simp⟩
 refine ⟨gs,?_,?_⟩
 ·unfold zb3
  have:=zr2 (fun x0 s=>zaI n (some ⟨b⟩) x0 s) (b:=b) (by omega) b.Wheel.Coins.length [] 2 n [] (by simp) (by omega) (by omega)
  rw [show zbA n (fun x0 s=>zaI n (some ⟨b⟩) x0 s) (some ⟨b⟩) [] 2 []=_ from this,h1]
  rfl
 ·rw [List.nil_append] at h2
  cases gs with
  | nil =>
   refine .inl ⟨rfl,fun P hP hE=>?_⟩
   obtain ⟨g,hg,_⟩:=h2.le P (zkZ.2 hP) hE
   simp at hg
  | cons x t =>
   obtain ⟨m1,m2⟩:=h2.mem x (by simp)
   refine .inr ⟨x,t,rfl,m1,m2,fun P hP hE=>?_⟩
   obtain ⟨g,hg,hle⟩:=h2.le P (zkZ.2 hP) hE
   have:=h2.eq g hg x (by simp)
   omega
theorem BoxOk.len {b:Box} (N:BoxOk b):zxT b:=by
 have F:=N.far
 have h1:=F.fl
 have h2:=F.sl
 have h3:=F.ml
 have h4:=F.h.nlen
 have h5:=F.h.clen
 exact ⟨by omega,by omega,by omega,by omega,by omega⟩
theorem zmm {b:Box} (N:BoxOk b) {n:Nat} (hn:200<=n):zdM n b=some (some ⟨b⟩,0):=by
 unfold zdM
 rw [zrZ b n N.len hn,zhB.2 N]
 rfl
theorem zoq {b:Box} (F:NearF b) {n:Nat} (hn:200<=n):zgx n b=some (zf5 b):=by
 have h1:=F.fl
 have h2:=F.sl
 have h3:=F.h.clen
 unfold zgx
 rw [zon (by omega) (fun k=>by have:=F.f k;omega) (fun k=>by have:=F.s k;omega) (by omega) (by omega)]
 rfl
theorem zk0 {b:Box} (F:NearF b):zhA (zf5 b):=fun k=>by
 rw [ziY F]
 have:=F.f k
 have:=F.s k
 omega
theorem zxV (b:Box) {n:Nat} (hn:200<=n):zhr n b=some true\/(zhr n b=some false/\zxT b/\(BoxOk b->Near b)):=by
 unfold zhr
 by_cases hl:(max (max (max (max (b.Wheel.Notches.length:Int) (b.Wheel.Coins.length:Int)) (b.Found.length:Int)) (b.Marked.length:Int)) (b.Slugs.length:Int))>40
 ·rw [if_pos (by simpa using hl)]
  exact .inl rfl
 ·rw [if_neg (by simpa using hl)]
  have hL:zxT b:=⟨by omega,by omega,by omega,by omega,by omega⟩
  rw [zxU b n hL hn,zaa]
  by_cases hb:BoxOk b
  ·have F:=hb.far
   have h1:=F.fl
   have h3:=F.h.clen
   rw [zhB.2 hb]
   show (Option.bind _ _=_)\/(Option.bind _ _=_/\_)
   rw [zoq F hn,zaa,zjW (zk0 F) (by rw [zgr F];omega) (by rw [zgr F];omega),zaa,zkV F]
   by_cases ht:total b.Found+total b.Slugs>3
   ·rw [if_pos (by simpa using ht)]
    exact .inl rfl
   ·rw [if_neg (by simpa using ht)]
    unfold zev
    by_cases hk:(b.Found.length:Int)>3
    ·exact .inl (by simp [hk])
    ·exact .inr ⟨by simp;omega,hL,fun _=>⟨hb,by omega,by omega⟩⟩
  ·rw [ziX hb]
   exact .inr ⟨rfl,hL,fun h=>absurd h hb⟩
theorem ready_eq (b:Box) {n:Nat} (hn:200<=n):zfS n b=some false\/(zfS n b=some true/\Near b):=by
 unfold zfS
 rcases zxV b hn with h | ⟨h,hL,hN⟩
 ·rw [h]
  exact .inl rfl
 ·rw [h,zaa,zxU b n hL hn]
  by_cases hb:BoxOk b
  ·rw [zhB.2 hb]
   exact .inr ⟨rfl,hN hb⟩
  ·rw [ziX hb]
   exact .inl rfl
def zg4 (b:Box) (m:Int):Prop:=(∃P,More b P/\zqh b (sums (zf5 b) P)/\zcz b.Wheel P=m)/\∀P,More b P->zqh b (sums (zf5 b) P)->m<=zcz b.Wheel P
def zsY (b:Box):Prop:=∀P,More b P->¬zqh b (sums (zf5 b) P)
def zmn (b:Box) (r:Int×Int):Prop:=(r.2=0/\zg4 b r.1)\/(r=(0,3)/\zsY b)
theorem znn {b:Box} (N:Near b) {n:Nat} (hn:100000<=n):∃gs,zb3 n (some ⟨b⟩)=some gs/\((gs=[]/\zds n b=some (none,[],3)/\zsY b)\/∃x t,gs=x::t/\zds n b=some (some ⟨b⟩,x::t,0)/\More b x.purse/\ExplOk b (sums (zf5 b) x.purse) x.acts/\zg4 b (zcz b.Wheel x.purse)):=by
 obtain ⟨gs,h1,h2⟩:=zqj N hn
 refine ⟨gs,h1,?_⟩
 unfold zds
 rw [zmm N.ok (by omega),zaa,if_neg (by simp),h1,zaa]
 rcases h2 with ⟨rfl,h2⟩ | ⟨x,t,rfl,h3,h4,h5⟩
 ·exact .inl ⟨rfl,rfl,h2⟩
 ·rw [if_neg (by simp;omega)]
  exact .inr ⟨x,t,rfl,rfl,h3,h4,⟨x.purse,h3,h4.ex,rfl⟩,h5⟩
theorem zlC {b:Box} (N:Near b) {n:Nat} (hn:100000<=n):∃r,zdP n b=some r/\zmn b r:=by
 obtain ⟨gs,_,h⟩:=znn N hn
 unfold zdP
 rcases h with ⟨rfl,h,h2⟩ | ⟨x,t,rfl,h,h3,h4,h5⟩
 ·rw [h]
  exact ⟨(0,3),rfl,.inr ⟨rfl,h2⟩⟩
 ·rw [h,zaa,if_neg (by simp)]
  show ∃r,Option.bind (some x) _=some r/\_
  rw [zaa,ziZ N.ok.far.h (by omega) h3.l (zgk h3)]
  exact ⟨_,rfl,.inl ⟨rfl,h5⟩⟩
theorem zmo {w:Wheel} (h:OkW w) {P:List Int} (hs:zhA P):0<=zcz w P/\zcz w P<=100000*w.Coins.length:=by
 have:=zjk h hs w.Coins.length 0 (by omega)
 exact this
theorem zmn.eq {b:Box} {r r':Int×Int} (h:zmn b r) (h':zmn b r'):r=r':=by
 obtain ⟨a,c⟩:=r
 obtain ⟨a',c'⟩:=r'
 rcases h with ⟨h1,⟨P,p1,p2,p3⟩,h3⟩ | ⟨h1,h2⟩
 ·rcases h' with ⟨k1,⟨P',q1,q2,q3⟩,k3⟩ | ⟨k1,k2⟩
  ·have:=h3 P' q1 q2
   have:=k3 P p1 p2
   simp only at *
   have:a=a':=by omega
   rw [this,h1,k1]
  ·exact absurd p2 (k2 P p1)
 ·rcases h' with ⟨k1,⟨P',q1,q2,q3⟩,k3⟩ | ⟨k1,k2⟩
  ·exact absurd q2 (h2 P' q1)
  ·rw [h1,k1]
theorem zmn.known {b:Box} {r:Int×Int} (h:zmn b r):zgU r.2=some true:=by
 rcases h with ⟨h,_⟩ | ⟨h,_⟩
 ·rw [h]
  rfl
 ·rw [h]
  rfl
theorem zmn.nn {b:Box} (N:BoxOk b) {r:Int×Int} (h:zmn b r):0<=r.1/\r.1<=1000000:=by
 rcases h with ⟨_,⟨P,h1,_,he⟩,_⟩ | ⟨rfl,_⟩
 ·rw [←he]
  have:=zmo N.far.h (zgk h1)
  have:=N.far.h.clen
  omega
 ·simp
theorem zno {w:Wheel} {al:List Int} (C:Cx w al) {v:Int} (h:Can w al v):0<=v/\v<=500:=by
 obtain ⟨acts,x,hr,h1,rfl⟩:=(zxR C.h C.hl C.nn).1 h
 have hX:=(znx C hr).1
 have h2:=hX.c0
 have h3:=hX.cb
 have h4:=hX.bt
 have h5:=(znx C hr).2.1
 have h6:=C.t5
 omega
theorem zr3 {w:Wheel} {al L:List Int} (C:Cx w al) (h:zkW w al L):L.length<=501:=by
 have:=zjo (l:=L) (m:=upF 0 501) (h.1.imp fun hlt he=>by omega) fun v hv=>by
  have:=zno C ((h.2 v).1 hv)
  exact zmk.2 (by omega)
 rw [zoj] at this
 exact this
theorem zsZ {w:Wheel} {al:List Int} (C:Cx w al):∃v,Can w al v:=by
 have ht:0<=total al:=zeP (zgL C.nn)
 have h5:=C.t5
 obtain ⟨acts,hw⟩:=zxP true C.h (total al).toNat (p:=0) (c:=0) (l:=al) (by omega) ⟨C.hl,zgL C.nn,by omega⟩ (Int.le_refl _) (by have:=C.h.r1;omega) (Int.le_refl _)
 exact ⟨_,acts,hw.ok,hw.bag,rfl⟩
theorem zxW {L:List Int} {n:Nat} (h:L≠[]) (hl:L.length<1048576) (hn:L.length<n):slices_Max_int n L=some (L.tail.foldl max (L.getD 0 0)):=by
 cases L with
 | nil=>exact absurd rfl h
 | cons x t =>
  unfold slices_Max_int zd1
  rw [if_neg (by simp;omega),show idx (x::t) 0=some x from rfl,zaa]
  have key:=zsM (F:=fun m i (s:Int)=>zb4 (x::t) m s i) (xs:=x::t) (spec:=fun l s=>some (l.foldl max s)) hl
   (fun m s=>by simp [zb4,zdf,zd0])
   (fun m i y l s hx hi _ _ hrec=>by
    simp only [zb4,zdf,List.foldl_cons]
    rw [if_pos (by simpa using hi),hx,zaa]
    exact hrec _)
   t 1 n x (by simp) rfl (by simp at hn;omega)
  exact key
theorem znp:∀(t:List Int) (x:Int),(∀y,y∈t->x<y)->t.Pairwise (·<·)->t.foldl max x=(x::t).getLast (by simp)
 | [],x,_,_=>rfl
 | y::t,x,h1,h2=>by
  rw [List.pairwise_cons] at h2
  have hxy:=h1 y (by simp)
  rw [List.foldl_cons,Int.max_eq_right (by omega),znp t y h2.1 h2.2]
  rfl
def zxX (L:List Int):Int:=L.getD (L.length-1) 0
theorem zug {L:List Int} (h:L≠[]) (hp:L.Pairwise (·<·)):L.tail.foldl max (L.getD 0 0)=zxX L:=by
 cases L with
 | nil=>exact absurd rfl h
 | cons x t =>
  rw [List.pairwise_cons] at hp
  show t.foldl max x=_
  rw [znp t x hp.1 hp.2,List.getLast_eq_getElem]
  unfold zxX
  rw [getD_get]
theorem zuh {L:List Int} (h:L≠[]):zxX L∈L:=by
 have hl:0<L.length:=List.length_pos_iff.2 h
 unfold zxX
 rw [←getD_get (by omega)]
 exact List.getElem_mem _
theorem zxY {w:Wheel} {al L:List Int} (C:Cx w al) (h:zkW w al L):L≠[]:=fun e=>by
 obtain ⟨v,hv⟩:=zsZ C
 have:=(h.2 v).2 hv
 rw [e] at this
 simp at this
theorem zs0 {b:Box} (N:Near b) {n:Nat} (hn:100000<=n):∃L,zkW b.Wheel (zf5 b) L/\zfB n b=some (max 0 (b.Plays-zxX L),0):=by
 obtain ⟨L,h1,h2⟩:=znk N hn
 have hL:=zr3 N.cx0 h2
 have hne:=zxY N.cx0 h2
 have hp:=N.ok.far.p
 have ht:=zno N.cx0 ((h2.2 _).1 (zuh hne))
 refine ⟨L,h2,?_⟩
 unfold zfB
 rw [zmm N.ok (by omega),zaa,if_neg (by simp),h1,zaa,zxW hne (by omega) (by omega),zaa,zug hne h2.1,zaM (by omega) (by omega)]
theorem ztx {b:Box} (N:Near b) {n:Nat} (hn:100000<=n):∃L,zkW b.Wheel (zf5 b) L/\zfU n b=some (L,0):=by
 obtain ⟨L,h1,h2⟩:=znk N hn
 refine ⟨L,h2,?_⟩
 unfold zfU
 rw [zmm N.ok (by omega),zaa,if_neg (by simp),h1,zaa]
def zAo (b:Box):Int×Int×Int×Int:=(zcz b.Wheel b.Found-zcz b.Wheel b.Marked,zcz b.Wheel b.Marked,zcz b.Wheel b.Slugs,0)
theorem zui {b:Box} (N:BoxOk b) {n:Nat} (hn:200<=n):zgc n b=some (zAo b):=by
 have F:=N.far
 have hf:zhA b.Found:=fun k=>by have:=F.f k;omega
 have hm:zhA b.Marked:=fun k=>by have:=F.m k;omega
 have hs:zhA b.Slugs:=fun k=>by have:=F.s k;omega
 have h1:=zmo F.h hf
 have h2:=zmo F.h hm
 have h3:=F.h.clen
 unfold zgc
 rw [zmm N hn,zaa,if_neg (by simp),ziZ F.h (by omega) F.ml hm,zaa,ziZ F.h (by omega) F.fl hf,zaa,ziZ F.h (by omega) F.sl hs,zaa,zaM (by omega) (by omega)]
 rfl
def exW:Wheel:=⟨50,[10,20,25],[5,10,25]⟩
def exB:Box:=⟨exW,[0,2,1],[0,1,0],[0,0,0],6,0⟩
theorem zmp:Near exB:=by
 refine ⟨⟨by decide,by decide,by decide,by decide,by decide,rfl,fun k hk=>?_,by decide⟩,by decide,by decide⟩
 have:k=0\/k=1\/k=2:=by
  have:exB.Found.length=3:=rfl
  omega
 rcases this with rfl | rfl | rfl<;>decide
theorem zxZ:zf5 exB=[0,2,1]:=by decide
theorem zph {w:Wheel} {al acts:List Int} (h:(List.range w.Coins.length).all (fun k=>cnt (k:Int) acts==al.getD k 0)=true):∀k:Nat,k<w.Coins.length->cnt k acts=al.getD k 0:=fun k hk=>by
 rw [List.all_eq_true] at h
 simpa using h k (List.mem_range.2 hk)
theorem zr4:zkW exW [0,2,1] [3,4,5]:=by
 have hP:OkP exW [0,2,1]:=⟨rfl,by decide,by decide⟩
 have hW:OkW exW:=zg3 (by decide)
 refine ⟨by decide,fun v=>⟨fun hv=>?_,?_⟩⟩
 ·have h3:v=3\/v=4\/v=5:=by simpa using hv
  rcases h3 with rfl | rfl | rfl
  ·exact ⟨[1,1,2],by decide,zph (by decide),by decide⟩
  ·exact ⟨[1,-1,1,2],by decide,zph (by decide),by decide⟩
  ·exact ⟨[1,-1,1,-1,2],by decide,zph (by decide),by decide⟩
 ·rintro ⟨acts,h1,h2,rfl⟩
  have hi:=znc true hW acts (p:=0) (c:=0) h1 h2 hP (by decide) (by decide) (by decide)
  have lo:=znc false hW acts (p:=0) (c:=0) h1 h2 hP (by decide) (by decide) (by decide)
  rw [show Q true exW (total [0,2,1]).toNat 0 0 [0,2,1]=5 by decide +kernel] at hi
  rw [show Q false exW (total [0,2,1]).toNat 0 0 [0,2,1]=3 by decide +kernel] at lo
  have hi:zd7 exW ⟨0,0⟩ acts<=5:=hi
  have lo:3<=zd7 exW ⟨0,0⟩ acts:=lo
  simp only [List.mem_cons,List.not_mem_nil,or_false]
  omega
theorem zs1:zg4 exB 5:=by
 have hl:exB.Wheel.Coins.length=3:=rfl
 refine ⟨⟨[1,0,0],⟨rfl,fun k=>?_,by decide⟩,⟨6,⟨[1,1,0,-1,2],by decide,zph (by decide),by decide⟩,by decide,by decide⟩,by decide⟩,fun P hP hE=>?_⟩
 ·match k with
  | 0=>decide
  | 1=>decide
  | 2=>decide
  | k+3=>simp
 ·match P,hP with
  | [a,b,c],hP =>
   have h0:0<=a:=hP.nn 0
   have h1:0<=b:=hP.nn 1
   have h2:0<=c:=hP.nn 2
   have hw:zcz exB.Wheel [a,b,c]=5*a+(10*b+(25*c+0)):=rfl
   rw [hw]
   by_cases hz:a=0/\b=0/\c=0
   ·obtain ⟨rfl,rfl,rfl⟩:=hz
    obtain ⟨v,hv,h3,h4⟩:=hE
    rw [show sums (zf5 exB) [0,0,0]=[0,2,1] by decide] at hv
    have:=(zr4.2 v).2 hv
    simp only [List.mem_cons,List.not_mem_nil,or_false] at this
    have:(6:Int)<=v:=h3
    omega
   ·omega
  | [],hP=>exact absurd hP.l (by decide)
  | [_],hP=>exact absurd hP.l (by rw [hl];simp)
  | [_,_],hP=>exact absurd hP.l (by rw [hl];simp)
  | _::_::_::_::_,hP=>exact absurd hP.l (by rw [hl];simp)
theorem zs2 {n:Nat} (hn:100000<=n):zeZ n=some true:=by
 have e1:zgT=some exB:=rfl
 obtain ⟨L,h1,h2⟩:=ztx zmp hn
 obtain ⟨L',h3,h4⟩:=zs0 zmp hn
 obtain ⟨r,h5,h6⟩:=zlC zmp hn
 rw [zxZ] at h1 h3
 obtain rfl:=h1.eq zr4
 obtain rfl:=h3.eq zr4
 obtain rfl:=h6.eq (r':=(5,0)) (.inl ⟨rfl,zs1⟩)
 unfold zeZ
 rw [e1,zaa,h2,zaa,zui zmp.ok (by omega),zaa,h5,zaa,h4,zaa,zkO _ _ (by simp) (by simp;omega)]
 decide
theorem zr5 {w:Wheel} (h:OkW w) {l:List Int} (hl:zhA l):∀(d k j:Nat),k+d<=w.Coins.length->k<=j->j<k+d->l.getD j 0<=znd w l d k
 | 0,k,j,_,h1,h2=>by omega
 | d+1,k,j,hk,h1,h2=>by
  have ht:=zsU h hl (show k<w.Coins.length by omega)
  have hr:=zjk h hl d (k+1) (by omega)
  simp only [znd]
  by_cases e:j=k
  ·subst e
   have hco:=zc1 h (a:=(j:Int)) (by omega) (by omega)
   have:=hl j
   have:1*l.getD j 0<=coin w j*l.getD j 0:=Int.mul_le_mul_of_nonneg_right hco.1 (by omega)
   omega
  ·have:=zr5 h hl d (k+1) j (by omega) (by omega) (by omega)
   omega
def zmq (b:Box):List Int:=List.replicate b.Wheel.Coins.length 0
theorem zhM (b:Box) (k:Nat):(zmq b).getD k 0=0:=zjl b.Wheel k
theorem znq (b:Box):More b (zmq b):=⟨by simp [zmq],fun k=>by rw [zhM];exact Int.le_refl _,by rw [show total (zmq b)=0 from ziW _];omega⟩
theorem zr6 {b:Box} (F:NearF b):sums (zf5 b) (zmq b)=zf5 b:=by
 have e:(zmq b).length=(zf5 b).length:=by rw [zgr F];simp [zmq]
 exact zdT (n:=(zf5 b).length) (zgj e) rfl fun k _=>by rw [zfs e,zhM,Int.add_zero]
theorem znr {w:Wheel} {l:List Int} (h:∀k,l.getD k 0=0):∀(d k:Nat),znd w l d k=0
 | 0,k=>rfl
 | d+1,k=>by simp only [znd,h k,znr h d (k+1)];simp
theorem zqk (b:Box):zcz b.Wheel (zmq b)=0:=znr (zhM b) _ _
theorem zql {b:Box} (N:BoxOk b) {P:List Int} (h:More b P) (hz:zcz b.Wheel P<=0):P=zmq b:=by
 refine zdT (n:=b.Wheel.Coins.length) h.l (znq b).l fun k hk=>?_
 rw [zhM]
 have h1:=zr5 N.far.h (zgk h) b.Wheel.Coins.length 0 k (by omega) (by omega) (by omega)
 have h2:=h.nn k
 have h3:znd b.Wheel P b.Wheel.Coins.length 0<=0:=hz
 omega
theorem zg4.uniq {b:Box} {m m':Int} (h:zg4 b m) (h':zg4 b m'):m=m':=by
 have:=zmn.eq (b:=b) (r:=(m,0)) (r':=(m',0)) (.inl ⟨rfl,h⟩) (.inl ⟨rfl,h'⟩)
 simpa using this
theorem zg4.no {b:Box} {m:Int} (h:zg4 b m):¬zsY b:=fun hn=>by
 obtain ⟨P,h1,h2,_⟩:=h.1
 exact hn P h1 h2
theorem zk1 {b:Box} (N:Near b) {n:Nat} (hn:100000<=n):(zsY b/\zcX n b=some ([],[],3))\/∃P acts,zcX n b=some (P,acts,0)/\More b P/\ExplOk b (sums (zf5 b) P) acts/\zg4 b (zcz b.Wheel P):=by
 obtain ⟨gs,hg,h⟩:=znn N hn
 unfold zcX
 rcases h with ⟨rfl,h,h2⟩ | ⟨x,t,rfl,h,h3,h4,h5⟩
 ·rw [h]
  exact .inl ⟨h2,rfl⟩
 ·rw [h,zaa,if_neg (by simp)]
  exact .inr ⟨x.purse,x.acts,rfl,h3,h4,h5⟩
theorem zns {b:Box} (F:NearF b) {P:List Int} (h:More b P) {n:Nat} (hn:200<=n):zby n b P=some true:=by
 have hfl:=F.fl
 have hl:=h.l
 have h4:=F.h.clen
 unfold zby
 rw [if_neg (by simp;omega)]
 have hs:=h.small
 have key:=zkN (F:=fun m i (_:Unit)=>zaV n P m i) (xs:=P) (spec:=fun _ _=>some true) (I:=fun l _=>∀x,x∈l->0<=x/\x<=2) (by omega)
  (fun m s hI=>by
   simp only [zaV,zbs,zcM]
   rw [if_neg (by simp),zjW (zgk h) (by omega) (by omega),zaa,show decide (total P<=2)=true by simpa using h.t])
  (fun m i x l s hI hx hi _ _ hrec=>by
   simp only [zaV,zbs]
   rw [if_pos (by simpa using hi),hx,zaa,zeB,zaa,zbl.2 (hI x (by simp)),if_neg (by simp)]
   exact hrec () fun y hy=>hI y (by simp [hy]))
  P 0 n () (by omega) rfl (by omega) fun x hx=>by
   obtain ⟨k,hk⟩:=List.getElem?_of_mem hx
   have:=hs k
   rwa [List.getD_eq_getElem?_getD,hk] at this
 exact key
theorem zle {n:Nat} (hn:1000000<=n) {b:Box} (N:Near b) {P acts:List Int} (h:More b P) (he:ExplOk b (sums (zf5 b) P) acts):zd3 n b P acts=some true:=by
 have F:=N.ok.far
 have hfl:=F.fl
 have hl:=h.l
 have hk3:=N.k3
 have hpl:=zgr F
 have C:=N.cx h
 have ht5:=C.t5
 have hal:=he.len
 have hsl:(sums (zf5 b) P).length=b.Wheel.Coins.length:=C.hl
 have hss:zhA (sums (zf5 b) P):=fun k=>by
  have:=zgq (zgL C.nn) k
  omega
 have hpp:=F.p
 have hkk:=F.k
 unfold zd3
 rw [if_neg (by simp;omega),if_neg (by simp;omega),zns F h (by omega),zaa]
 show zbt n b P acts false=_
 unfold zbt
 rw [if_neg (by simp)]
 have hj2:zcp n b P acts=some true:=by
  unfold zcp
  rw [zoq F (by omega),zaa,zon (by omega) (zk0 F) (zgk h) (by omega) (by omega),zaa,zjW hss (by omega) (by omega),zaa,zaM (by omega) (by omega),if_pos (by simpa using hal),zts b.Wheel acts (by omega) (by omega) (by omega) (by omega),zaa,zuc hsl he.bag,zmh _ (by omega) (by omega),zaa,if_pos rfl,zrQ F.h (by omega) acts (by omega) he.ok,zaa]
  unfold zdi
  rw [zaM (by omega) (by omega),zeB,zaa,zbl.2 ⟨he.pl,he.pl2⟩]
  rfl
 have key:=zkN (F:=fun m i (_:Unit)=>zaZ n b P acts m i) (xs:=acts) (spec:=fun _ _=>some true) (I:=fun l _=>∀x,x∈l->zeg b.Wheel x=true) (by omega)
  (fun m s hI=>by
   simp only [zaZ,zcB]
   rw [if_neg (by simp),hj2])
  (fun m i x l s hI hx hi _ _ hrec=>by
   have hok:=zbl.1 (hI x (by simp))
   simp only [zaZ,zcB]
   rw [if_pos (by simpa using hi),hx,zaa,if_neg (by simp;omega),zaa]
   unfold zcq
   rw [if_neg (by simp;omega)]
   exact hrec () fun y hy=>hI y (by simp [hy]))
  acts 0 n () (by omega) rfl (by omega) fun x hx=>List.all_eq_true.1 he.ok x hx
 exact key
def zk2 (a b:List Int):List Int:=List.zipWith (·-·) a b
theorem zi1 {a b:List Int} (h:b.length=a.length):(zk2 a b).length=a.length:=by simp [zk2,h]
theorem zjp:∀{a b:List Int},b.length=a.length->∀k,(zk2 a b).getD k 0=a.getD k 0-b.getD k 0
 | [],[],_,k=>by simp [zk2]
 | [],_::_,h,_=>by simp at h
 | _::_,[],h,_=>by simp at h
 | x::a,y::b,h,0=>by simp [zk2]
 | x::a,y::b,h,k+1=>by
  have:=zjp (a:=a) (b:=b) (by simpa using h) k
  simpa [zk2] using this
theorem zqm {p put:List Int} (h:put.length=p.length):sums put (zk2 p put)=p :=
 zdT (n:=p.length) (by rw [zgj (by rw [zi1 h];exact h.symm),h]) rfl fun k _=>by rw [zfs (by rw [zi1 h];exact h.symm),zjp h];omega
theorem zmr {b:Box} (F:NearF b) {P:List Int} (hl:P.length=b.Wheel.Coins.length) (hs:∀x,x∈P->0<=x/\x<=2) {n:Nat} (hn:200<=n):zby n b P=some (decide (total P<=2)):=by
 have hfl:=F.fl
 have h4:=F.h.clen
 unfold zby
 rw [if_neg (by simp;omega)]
 have hsm:zhA P:=fun k=>by
  rw [List.getD_eq_getElem?_getD]
  cases hk:P[k]? with
  | none=>simp
  | some x =>
   have:=hs x (List.mem_of_getElem? hk)
   simp only [Option.getD_some]
   omega
 have key:=zkN (F:=fun m i (_:Unit)=>zaV n P m i) (xs:=P) (spec:=fun _ _=>some (decide (total P<=2))) (I:=fun l _=>∀x,x∈l->0<=x/\x<=2) (by omega)
  (fun m s hI=>by
   simp only [zaV,zbs,zcM]
   rw [if_neg (by simp),zjW hsm (by omega) (by omega),zaa])
  (fun m i x l s hI hx hi _ _ hrec=>by
   simp only [zaV,zbs]
   rw [if_pos (by simpa using hi),hx,zaa,zeB,zaa,zbl.2 (hI x (by simp)),if_neg (by simp)]
   exact hrec () fun y hy=>hI y (by simp [hy]))
  P 0 n () (by omega) rfl (by omega) hs
 exact key
theorem zms {b:Box} (F:NearF b) {P:List Int} (hl:P.length=b.Wheel.Coins.length) (hs:∃x,x∈P/\¬(0<=x/\x<=2)) {n:Nat} (hn:200<=n):zby n b P=some false:=by
 have hfl:=F.fl
 have h4:=F.h.clen
 unfold zby
 rw [if_neg (by simp;omega)]
 have key:=zkN (F:=fun m i (_:Unit)=>zaV n P m i) (xs:=P) (spec:=fun _ _=>some false) (I:=fun l _=>∃x,x∈l/\¬(0<=x/\x<=2)) (by omega)
  (fun m s hI=>by
   obtain ⟨x,hx,_⟩:=hI
   simp at hx)
  (fun m i x l s hI hx hi _ _ hrec=>by
   simp only [zaV,zbs]
   rw [if_pos (by simpa using hi),hx,zaa,zeB,zaa]
   by_cases hq:0<=x/\x<=2
   ·rw [zbl.2 hq,if_neg (by simp)]
    refine hrec () ?_
    obtain ⟨y,hy,hn⟩:=hI
    rcases List.mem_cons.1 hy with rfl | hy
    ·exact absurd hq hn
    ·exact ⟨y,hy,hn⟩
   ·rw [show inR x 0 2=false from by
     cases h:inR x 0 2 with
     | false=>rfl
     | true=>exact absurd (zbl.1 h) hq,if_pos (by simp)])
  P 0 n () (by omega) rfl (by omega) hs
 exact key
theorem znt {b:Box} (F:NearF b) {P:List Int} (hl:P.length=b.Wheel.Coins.length) {n:Nat} (hn:200<=n):∃r,zby n b P=some r/\(r=true->More b P):=by
 by_cases h:∀x,x∈P->0<=x/\x<=2
 ·refine ⟨_,zmr F hl h hn,fun ht=>⟨hl,fun k=>?_,by simpa using ht⟩⟩
  rw [List.getD_eq_getElem?_getD]
  cases hk:P[k]? with
  | none=>simp
  | some x=>exact (h x (List.mem_of_getElem? hk)).1
 ·exact ⟨false,zms F hl (by simpa only [Classical.not_forall,not_imp,exists_prop] using h) hn,fun e=>by cases e⟩
theorem zk3 {b:Box} (F:NearF b) (v:Int):zdi b v=some (inR v b.Plays (b.Plays+b.Skips)):=by
 have h1:=F.p
 have h2:=F.k
 unfold zdi
 rw [zaM (by omega) (by omega),zeB]
 rfl
theorem znu {n:Nat} {w:Wheel} (hw:w.Coins.length<1048576) (l:List Int) (lo:Int) (hl:l.length<=140737488355328) (hn:l.length<n):zgn n w l lo=some (l.all (fun x=>inR x lo (w.Coins.length-1))&&decide ((l.length:Int)<=20)):=by
 have key:∀(d i m:Nat),i+d=l.length->d<m->zb5 w l lo m (i:Int)=some ((l.drop i).all (fun x=>inR x lo (w.Coins.length-1))&&decide ((l.length:Int)<=20)):=by
  intro d
  induction d with
  | zero =>
   intro i m hi hm
   obtain ⟨m,rfl⟩:∃q,m=q+1:=⟨m-1,by omega⟩
   simp only [zb5,zdh,zd2]
   rw [if_neg (by simp;omega),List.drop_eq_nil_of_le (by omega)]
   simp
  | succ d ih =>
   intro i m hi hm
   obtain ⟨m,rfl⟩:∃q,m=q+1:=⟨m-1,by omega⟩
   have hlt:i<l.length:=by omega
   simp only [zb5,zdh]
   rw [if_pos (by simp;omega),zcE hlt,zaa,zaM (by omega) (by omega),zhy,zaa,List.drop_eq_getElem_cons hlt]
   by_cases h:inR l[i] lo (w.Coins.length-1)=true
   ·have:=ih (i+1) m (by omega) (by omega)
    rw [show (((i+1:Nat)):Int)=(i:Int)+1 by simp] at this
    rw [if_neg (by simp [h]),zaM (by omega) (by omega),this,List.all_cons,h,Bool.true_and]
   ·rw [if_pos (by simpa using h),List.all_cons,show inR l[i] lo (w.Coins.length-1)=false by simpa using h,Bool.false_and,Bool.false_and]
 exact key l.length 0 n (by omega) hn
theorem zor {w:Wheel} (h:OkW w) (acts:List Int) {n:Nat} (hn:200<=n) (hl:acts.length<n) (hl2:acts.length<=140737488355328):zfV n w acts=some false\/(zfV n w acts=some true/\acts.all (zeg w)=true/\acts.length<=20):=by
 have h4:=h.clen
 unfold zfV
 rw [znu (by omega) acts (-1) hl2 hl,zaa]
 by_cases hq:(acts.all (fun x=>inR x (-1) (w.Coins.length-1))&&decide ((acts.length:Int)<=20))=true
 ·rw [hq]
  rw [Bool.and_eq_true,decide_eq_true_eq] at hq
  exact .inr ⟨rfl,hq.1,by omega⟩
 ·rw [show (acts.all (fun x=>inR x (-1) (w.Coins.length-1))&&decide ((acts.length:Int)<=20))=false by simpa using hq]
  exact .inl rfl
theorem zpi {n:Nat} {b:Box} {acts:List Int} {r5:Int×Int} {bag put:List Int} (hl:put.length=bag.length) (h4:bag.length<=10) (hb:∀k,0<=bag.getD k 0/\bag.getD k 0<=1000) (hp:∀k,0<=put.getD k 0/\put.getD k 0<=1000) :
  ∀(d i m:Nat) (v:List Int),i+d=put.length->d<m->v.length=bag.length->(∀k,v.getD k 0=if k<i then bag.getD k 0-put.getD k 0 else bag.getD k 0)->zbg n b acts r5 put m (i:Int) v=zcf n b acts r5 (zk2 bag put)
 | 0,i,m,v,hi,hm,hv,hk=>by
  obtain ⟨m,rfl⟩:∃q,m=q+1:=⟨m-1,by omega⟩
  simp only [zbg,zcu]
  rw [if_neg (by simp;omega)]
  have:v=zk2 bag put:=zdT (n:=bag.length) hv (zi1 hl) fun k hkl=>by rw [hk,if_pos (by omega),zjp hl]
  rw [this]
 | d+1,i,m,v,hi,hm,hv,hk=>by
  obtain ⟨m,rfl⟩:∃q,m=q+1:=⟨m-1,by omega⟩
  simp only [zbg,zcu]
  have e1:=hk i
  rw [if_neg (by omega)] at e1
  have b1:=hb i
  have b2:=hp i
  rw [if_pos (by simp;omega),zcE (by omega),zaa,zcE (by omega),zaa,zaa,getD_get,getD_get,e1,zaM (by omega) (by omega),zaM (by omega) (by omega),Int.toNat_natCast]
  have:=zpi (n:=n) (b:=b) (acts:=acts) (r5:=r5) hl h4 hb hp d (i+1) m (v.set i (bag.getD i 0-put.getD i 0)) (by omega) (by omega) (by simpa using hv) fun k=>by
   rw [zjX (by omega)]
   by_cases e:i=k
   ·subst e
    rw [if_pos rfl,if_pos (by omega)]
   ·rw [if_neg e,hk k]
    by_cases q:k<i
    ·rw [if_pos q,if_pos (by omega)]
    ·rw [if_neg q,if_neg (by omega)]
  rw [show (((i+1:Nat)):Int)=(i:Int)+1 by simp] at this
  exact this
theorem zqn {n:Nat} (hn:1000000<=n) (b:Box) (acts:List Int) (hlen:acts.length<n) (hz:acts.length<=140737488355328):zdB n b acts=some true:=by
 have hw:=zs2 (n:=n) (by omega)
 have hj:za3 n b acts true=some true:=by
  unfold za3
  rw [if_pos rfl,hw]
  rfl
 unfold zdB
 rcases ready_eq b (n:=n) (by omega) with h | ⟨h,N⟩
 ·rw [h,zaa,if_pos (by rfl),hj]
 rw [h,zaa,if_neg (by simp)]
 have F:=N.ok.far
 rcases zor F.h acts (n:=n) (by omega) hlen hz with h | ⟨h,ha,h20⟩
 ·rw [h,zaa]
  exact hj
 rw [h,zaa]
 show za3 n b acts false=some true
 obtain ⟨L,c1,c2⟩:=ztx N (n:=n) (by omega)
 have hL:=zr3 N.cx0 c1
 obtain ⟨r5,m1,m2⟩:=zlC N (n:=n) (by omega)
 have hnn:=m2.nn N.ok
 have hk:=m2.known
 have hfl:=F.fl
 have h4:=F.h.clen
 have hpl:=zgr F
 have h7t:∀v,za2 n b r5 v true=some true:=fun v=>by
  unfold za2
  rw [if_pos rfl,hw]
  rfl
 have hbag:∀k,0<=(znw b.Wheel acts).getD k 0/\(znw b.Wheel acts).getD k 0<=1000:=fun k=>by
  rcases Nat.lt_or_ge k b.Wheel.Coins.length with hk | hk
  ·rw [znb _ _ hk]
   have:=zkS (k:Int) acts
   omega
  ·rw [List.getD_eq_getElem?_getD,List.getElem?_eq_none (by simp [znw];omega)]
   simp
 have hbl:(znw b.Wheel acts).length=b.Wheel.Coins.length:=by simp [znw]
 have h5f:zbh n b acts r5 false=some true:=by
  unfold zbh
  rw [if_neg (by simp),zts b.Wheel acts (by omega) (by omega) (by omega) (by omega),zaa,zoq F (by omega),zaa]
  have:=zpi (n:=n) (b:=b) (acts:=acts) (r5:=r5) (bag:=znw b.Wheel acts) (put:=zf5 b) (by omega) (by omega) hbag (zk0 F) (zf5 b).length 0 n (znw b.Wheel acts) (by omega) (by omega) rfl fun k=>by rw [if_neg (by omega)]
  rw [show ((0:Nat):Int)=0 from rfl] at this
  rw [this]
  have hdl:(zk2 (znw b.Wheel acts) (zf5 b)).length=b.Wheel.Coins.length:=by rw [zi1 (by omega),hbl]
  obtain ⟨r,q1,q2⟩:=znt F hdl (n:=n) (by omega)
  unfold zcf
  rw [q1,zaa]
  cases r with
  | false=>rw [if_pos (by rfl),h7t]
  | true =>
   have hM:=q2 rfl
   rw [if_neg (by simp),zrQ F.h (by omega) acts (by omega) ha,zaa,zk3 F,zaa]
   by_cases hr:inR (zd7 b.Wheel ⟨0,0⟩ acts) b.Plays (b.Plays+b.Skips)=true
   ·rw [hr]
    show za2 n b r5 _ false=some true
    have hE:zqh b (sums (zf5 b) (zk2 (znw b.Wheel acts) (zf5 b))):=by
     rw [zqm (by omega)]
     have:=zbl.1 hr
     exact ⟨_,⟨acts,ha,fun k hk=>(znb _ _ hk).symm,rfl⟩,this.1,this.2⟩
    unfold za2
    rw [if_neg (by simp)]
    rcases m2 with ⟨e,hl⟩ | ⟨rfl,hno⟩
    ·have hle:=hl.2 _ hM hE
     rw [if_pos (by simp [e]),ziV F.h (by omega) hM.l (zgk hM),zaa,if_pos (by simpa using hle),hw]
     rfl
    ·exact absurd hE (hno _ hM)
   ·rw [show inR (zd7 b.Wheel ⟨0,0⟩ acts) b.Plays (b.Plays+b.Skips)=false by simpa using hr]
    exact h7t _
 have hzero:∀z,z=L.any (fun v=>inR v b.Plays (b.Plays+b.Skips))->(z=(decide (r5.2=0)&&decide (r5.1=0))):=fun z hz=>by
  subst hz
  rw [Bool.eq_iff_iff,List.any_eq_true,Bool.and_eq_true,decide_eq_true_eq,decide_eq_true_eq]
  have hn0:=znq b
  have hns:=zr6 F
  have hE0:(∃v,v∈L/\inR v b.Plays (b.Plays+b.Skips)=true)↔zqh b (zf5 b):=by
   constructor
   ·rintro ⟨v,v1,v2⟩
    have:=zbl.1 v2
    exact ⟨v,(c1.2 v).1 v1,this.1,this.2⟩
   ·rintro ⟨v,v1,v2,v3⟩
    exact ⟨v,(c1.2 v).2 v1,zbl.2 ⟨v2,v3⟩⟩
  rw [hE0]
  rcases m2 with ⟨e,hl⟩ | ⟨rfl,hno⟩
  ·constructor
   ·intro hE
    have:=hl.2 _ hn0 (by rw [hns];exact hE)
    rw [zqk] at this
    exact ⟨e,by omega⟩
   ·rintro ⟨_,e0⟩
    obtain ⟨⟨P,p1,p2,p3⟩,_⟩:=hl
    have hP:=zql N.ok p1 (by rw [p3,e0];exact Int.le_refl _)
    subst hP
    rw [hns] at p2
    exact p2
  ·constructor
   ·intro hE
    exact absurd (by rw [hns];exact hE) (hno _ hn0)
   ·rintro ⟨e,_⟩
    cases e
 obtain ⟨r6,x1,x2,x3⟩:∃r6,zcX n b=some r6/\r6.2.2=r5.2/\zbi n b acts r5 r6 false=some true:=by
  rcases m2 with ⟨e,hl⟩ | ⟨e,hno⟩
  ·obtain ⟨P,ex,x1,x2,x3,x4⟩:=(zk1 N (n:=n) (by omega)).resolve_left fun q=>hl.no q.1
   have hpm:=hl.uniq x4
   refine ⟨_,x1,e.symm,?_⟩
   unfold zbi
   rw [if_neg (by simp),if_pos (by simp [e]),zle hn N x2 x3,zaa,if_neg (by simp),ziV F.h (by omega) x2.l (zgk x2),zaa,show (zcz b.Wheel P != r5.1)=false by simp [hpm]]
   exact h5f
  ·have x1:=((zk1 N (n:=n) (by omega)).resolve_right fun ⟨_,_,_,_,_,q⟩=>q.no hno).2
   refine ⟨_,x1,by rw [e],?_⟩
   unfold zbi
   rw [if_neg (by simp),if_neg (by simp [e])]
   exact h5f
 unfold za3
 rw [if_neg (by simp),c2,zaa,m1,zaa,x1,zaa,if_neg (by simp),hk,zaa,if_neg (by simp),if_neg (by simp [x2]),show decide (((L,(0:Int)).1.length:Int)>10000)=false by simp;omega]
 unfold zbj
 rw [if_neg (by simp)]
 have key:=zkN (F:=fun m i (s:Bool)=>zaT n b acts (L,0) r5 r6 m s i) (xs:=L) (spec:=fun l s=>zcg n b acts r5 r6 (s || l.any (fun v=>inR v b.Plays (b.Plays+b.Skips)))) (I:=fun _ _=>True) (by omega)
  (fun m s hI=>by
   simp only [zaT,zcv]
   rw [if_neg (by simp),List.any_nil,Bool.or_false])
  (fun m i x l s hI hx hi _ _ hrec=>by
   simp only [zaT,zcv]
   rw [if_pos (by simpa using hi)]
   cases s with
   | true =>
    rw [if_pos rfl]
    unfold zbJ
    have:=hrec true trivial
    rw [this]
    simp
   | false =>
    rw [if_neg (by simp),hx,zaa,zk3 F,zaa]
    unfold zbJ
    have:=hrec (inR x b.Plays (b.Plays+b.Skips)) trivial
    rw [this]
    simp)
  L 0 n false (by omega) rfl (by omega) trivial
 rw [show zaT n b acts (L,0) r5 r6 n false 0=_ from key,Bool.false_or,hzero _ rfl]
 unfold zcg
 by_cases e:r5.2=0
 ·rw [if_pos (by simp [e]),show (!((decide (r5.2=0)&&decide (r5.1=0))==(r5.1==0)))=false by
   by_cases e2:r5.1=0<;>simp [e,e2]]
  exact x3
 ·rw [if_neg (by simpa using e),show (!((decide (r5.2=0)&&decide (r5.1=0))==false))=false by simp [e]]
  exact x3
theorem zjI (b:Box) (acts:List Int) {p q:Prop} (_:p) (h:acts.length<=140737488355328/\q):zdB (acts.length+1000000) b acts=some true :=
 zqn (by omega) b acts (by omega) h.1
end Go.Law
