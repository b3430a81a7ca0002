/-
  Plain laws.
  Conditions: none.
-/
import Derived.Test.YtchhkifidbkjcaaMd
import Derived.Test.YtchhkifidbkjcaaPlA
import Derived.Test.YtchhkifidbkjcaaEn
set_option linter.all false
namespace Go.Law
open Go Go.AM
theorem zvy {α S R:Type} (F:Nat->Int->S->Option R) (xs:List α) (spec:List α->S->Option R) (hl:xs.length<1048576) (h0:∀m s,F (m+1) (xs.length:Int) s=spec [] s)
  (hs:∀m (i:Nat) x l s,idx xs (i:Int)=some x->(i:Int)<(xs.length:Int)->i<1048576->xs.drop (i+1)=l->(∀s',F m (w64 ((i:Int)+1)) s'=spec l s')->F (m+1) (i:Int) s=spec (x::l) s) :
  ∀(l:List α) (i m:Nat) (s:S),i<=xs.length->xs.drop i=l->l.length<m->F m (i:Int) s=spec l s:=by
 intro l
 induction l with
 | nil =>
  intro i m s hi hd hm
  obtain ⟨m,rfl⟩:∃k,m=k+1:=⟨m-1,by omega⟩
  have:i=xs.length:=by have:=List.drop_eq_nil_iff.1 hd;omega
  subst this
  exact h0 m s
 | cons x l ih =>
  intro i m s hi hd hm
  obtain ⟨m,rfl⟩:∃k,m=k+1:=⟨m-1,by omega⟩
  simp only [List.length_cons] at hm
  have hlt:i<xs.length:=by
   rcases Nat.lt_or_ge i xs.length with h | h
   ·exact h
   ·rw [List.drop_eq_nil_of_le h] at hd;cases hd
  rw [List.drop_eq_getElem_cons hlt] at hd
  injection hd with h1 h2
  refine hs m i x l s (by rw [zeq hlt,h1]) (by omega) (by omega) h2 fun s'=>?_
  rw [zaT (by omega) (by omega)]
  exact ih (i+1) m s' (by omega) h2 (by omega)
theorem zxd {α S R:Type} {F:Nat->Int->S->Option R} {xs:List α} {spec:List α->S->Option R} (hl:xs.length<1048576) {n:Nat} (hn:xs.length<n) (s:S) (h0:∀m s,F (m+1) (xs.length:Int) s=spec [] s)
  (hs:∀m (i:Nat) x l s,idx xs (i:Int)=some x->(i:Int)<(xs.length:Int)->i<1048576->xs.drop (i+1)=l->(∀s',F m (w64 ((i:Int)+1)) s'=spec l s')->F (m+1) (i:Int) s=spec (x::l) s) :
  F n 0 s=spec xs s:=zvy F xs spec hl h0 hs xs 0 n s (by omega) rfl hn
theorem zua {α S R:Type} (F:Nat->Int->S->Option R) (xs:List α) (spec:List α->S->Option R) (I:List α->S->Prop) (hl:xs.length<1048576) (h0:∀m s,I [] s->F (m+1) (xs.length:Int) s=spec [] s)
  (hs:∀m (i:Nat) x l s,I (x::l) s->idx xs (i:Int)=some x->(i:Int)<(xs.length:Int)->i<1048576->xs.drop (i+1)=l->(∀s',I l s'->F m (w64 ((i:Int)+1)) s'=spec l s')->F (m+1) (i:Int) s=spec (x::l) s) :
  ∀(l:List α) (i m:Nat) (s:S),i<=xs.length->xs.drop i=l->l.length<m->I l s->F m (i:Int) s=spec l s:=by
 intro l
 induction l with
 | nil =>
  intro i m s hi hd hm hI
  obtain ⟨m,rfl⟩:∃k,m=k+1:=⟨m-1,by omega⟩
  have:i=xs.length:=by have:=List.drop_eq_nil_iff.1 hd;omega
  subst this
  exact h0 m s hI
 | cons x l ih =>
  intro i m s hi hd hm hI
  obtain ⟨m,rfl⟩:∃k,m=k+1:=⟨m-1,by omega⟩
  simp only [List.length_cons] at hm
  have hlt:i<xs.length:=by
   rcases Nat.lt_or_ge i xs.length with h | h
   ·exact h
   ·rw [List.drop_eq_nil_of_le h] at hd;cases hd
  rw [List.drop_eq_getElem_cons hlt] at hd
  injection hd with h1 h2
  refine hs m i x l s hI (by rw [zeq hlt,h1]) (by omega) (by omega) h2 fun s' hI'=>?_
  rw [zaT (by omega) (by omega)]
  exact ih (i+1) m s' (by omega) h2 (by omega) hI'
theorem zyA {S R:Type} (F:Nat->Int->S->Option R) (b:Nat) (spec:Nat->S->Option R) (hb:b<1048576) (h0:∀m s,F (m+1) (b:Int) s=spec b s)
  (hs:∀m (i:Nat) s,i<b->(∀s',F m (w64 ((i:Int)+1)) s'=spec (i+1) s')->F (m+1) (i:Int) s=spec i s) :
  ∀(d i m:Nat) (s:S),d=b-i->i<=b->d<m->F m (i:Int) s=spec i s:=by
 intro d
 induction d with
 | zero =>
  intro i m s hd hi hm
  obtain ⟨m,rfl⟩:∃k,m=k+1:=⟨m-1,by omega⟩
  have:i=b:=by omega
  subst this
  exact h0 m s
 | succ d ih =>
  intro i m s hd hi hm
  obtain ⟨m,rfl⟩:∃k,m=k+1:=⟨m-1,by omega⟩
  refine hs m i s (by omega) fun s'=>?_
  rw [zaT (by omega) (by omega)]
  exact ih (i+1) m s' (by omega) (by omega) (by omega)
theorem zac {α β:Type} (a:α) (f:α->Option β):Option.bind (some a) f=f a:=rfl
theorem zgJ (a b c:Int):zcP a b c=some (inR a b c):=by
 unfold zcP zdR inR
 by_cases h:b<=a<;>simp [h]
theorem zle (a b c:Int):zet a b c=some (inR a b c):=by
 unfold zet zdQ inR
 by_cases h:b<=a<;>simp [h]
def zm9 (lo hi:Int):Option Int->List Int->Bool
 | _,[]=>true
 | prev,x::l=>inR x lo hi&&(match prev with | none=>true | some y=>decide (y<x))&&zm9 lo hi (some x) l
theorem zin (pre:List Int):pre=[]\/∃q y,pre=q++[y]:=by
 rcases List.eq_nil_or_concat pre with h | ⟨q,y,h⟩
 ·exact .inl h
 ·exact .inr ⟨q,y,by simpa using h⟩
theorem zpM (q:List Int) (y:Int) (l:List Int) (h:(q++[y]++l).length<1048576):idx (q++[y]++l) (w64 (((q++[y]).length:Int)-1))=some y:=by
 simp at h
 rw [zaT (by simp<;>omega) (by simp<;>omega),show (((q++[y]).length:Int)-1)=(q.length:Int) by simp,show q++[y]++l=q++y::l by simp,zmB]
theorem zub (lo hi:Int):∀(l pre:List Int) (m:Nat),(pre++l).length<1048576->l.length<m ->
  zbO (pre++l) lo hi m (pre.length:Int)=some (zm9 lo hi pre.getLast? l):=by
 intro l
 induction l with
 | nil =>
  intro pre m hs hm
  obtain ⟨m,rfl⟩:∃k,m=k+1:=⟨m-1,by omega⟩
  simp [zbO,zd3,zeB,zm9]
 | cons x l ih =>
  intro pre m hs hm
  obtain ⟨m,rfl⟩:∃k,m=k+1:=⟨m-1,by omega⟩
  have h:=ih (pre++[x]) m (by simpa using hs) (by simp at hm;omega)
  rw [show (((pre++[x]).length:Nat):Int)=(pre.length:Int)+1 by simp,List.getLast?_concat,show pre++[x]++l=pre++x::l by simp] at h
  simp at hs hm
  simp only [zbO,zd3]
  rw [if_pos (by simp<;>omega),zmB]
  simp only [Option.bind_some,zle,zm9]
  by_cases hr:inR x lo hi=true
  ·rw [if_neg (by simp [hr])]
   rcases zin pre with rfl | ⟨q,y,rfl⟩
   ·rw [if_neg (by simp)]
    simp only [zcj]
    rw [if_neg (by simp),zaT (by simp) (by simp),h]
    simp [hr]
   ·rw [if_pos (by simp<;>omega),zpM q y (x::l) (by simp at hs ⊢;omega)]
    simp only [Option.bind_some,zcj,List.getLast?_concat]
    by_cases hb:x<=y
    ·rw [if_pos (by simpa using hb)]
     simp [hr,show ¬y<x by omega]
    ·rw [if_neg (by simpa using hb),zaT (by omega) (by omega),h]
     simp [hr,show y<x by omega]
  ·have hr':inR x lo hi=false:=by simpa using hr
   rw [if_pos (by simp [hr'])]
   simp [zcj,hr']
theorem znV {n:Nat} (l:List Int) (lo hi:Int) (hs:l.length<1048576) (hn:l.length<n):zgd n l lo hi=some (zm9 lo hi none l):=zub lo hi l [] n (by simpa using hs) hn
theorem zuc (many most:Int):∀(l pre:List Int) (m:Nat),(pre++l).length<1048576->l.length<m ->
  zbP (pre++l) many most m (pre.length:Int)=some (zm9 1 most pre.getLast? l&&decide (((pre++l).length:Int)<=many)):=by
 intro l
 induction l with
 | nil =>
  intro pre m hs hm
  obtain ⟨m,rfl⟩:∃k,m=k+1:=⟨m-1,by omega⟩
  simp [zbP,zd4,zeC,zm9]
 | cons x l ih =>
  intro pre m hs hm
  obtain ⟨m,rfl⟩:∃k,m=k+1:=⟨m-1,by omega⟩
  have h:=ih (pre++[x]) m (by simpa using hs) (by simp at hm;omega)
  rw [show (((pre++[x]).length:Nat):Int)=(pre.length:Int)+1 by simp,List.getLast?_concat,show pre++[x]++l=pre++x::l by simp] at h
  simp at hs hm
  simp only [zbP,zd4]
  rw [if_pos (by simp<;>omega),zmB]
  simp only [Option.bind_some,zgJ,zm9]
  by_cases hr:inR x 1 most=true
  ·rw [if_neg (by simp [hr])]
   rcases zin pre with rfl | ⟨q,y,rfl⟩
   ·rw [if_neg (by simp)]
    simp only [zck]
    rw [if_neg (by simp),zaT (by simp) (by simp),h]
    simp [hr]
   ·rw [if_pos (by simp<;>omega),zpM q y (x::l) (by simp at hs ⊢;omega)]
    simp only [Option.bind_some,zck,List.getLast?_concat]
    by_cases hb:x<=y
    ·rw [if_pos (by simpa using hb)]
     simp [hr,show ¬y<x by omega]
    ·rw [if_neg (by simpa using hb),zaT (by omega) (by omega),h]
     simp [hr,show y<x by omega]
  ·have hr':inR x 1 most=false:=by simpa using hr
   rw [if_pos (by simp [hr'])]
   simp [zck,hr']
theorem znW {n:Nat} (l:List Int) (many most:Int) (hs:l.length<1048576) (hn:l.length<n):zge n l many most=some (zm9 1 most none l&&decide ((l.length:Int)<=many)):=zuc many most l [] n (by simpa using hs) hn
def valid (w:Wheel):Bool:=inR w.Round 1 200&&(zm9 1 w.Round none w.Notches&&decide ((w.Notches.length:Int)<=12))&&(zm9 1 100 none w.Coins&&decide ((w.Coins.length:Int)<=4))
def zlB (n:Nat) (w:Wheel):Prop:=w.Notches.length<1048576/\w.Coins.length<1048576/\w.Notches.length<n/\w.Coins.length<n
theorem zmW {n:Nat} {w:Wheel} (h:zlB n w):zfU n w=some (cond (valid w) 0 10):=by
 obtain ⟨h1,h2,h3,h4⟩:=h
 unfold zfU zdx valid
 rw [zgJ,zac,znW _ _ _ h1 h3,znW _ _ _ h2 h4,zac,zac]
 cases inR w.Round 1 200<;>cases (zm9 1 w.Round none w.Notches&&decide ((w.Notches.length:Int)<=12))<;>cases (zm9 1 100 none w.Coins&&decide ((w.Coins.length:Int)<=4))<;>rfl
theorem zsF {n:Nat} {w:Wheel} (h:zlB n w):zg0 n w=some (cond (valid w) 0 10):=by
 obtain ⟨h1,h2,h3,h4⟩:=h
 unfold zg0 zcz valid
 rw [zle,zac,znV _ _ _ h1 h3,znV _ _ _ h2 h4,zac,zac]
 by_cases q1:(w.Notches.length:Int)<=12
 ·have e1:decide ((w.Notches.length:Int)>12)=false:=by simpa using q1
  rw [e1]
  by_cases q2:(w.Coins.length:Int)<=4
  ·have e2:decide ((w.Coins.length:Int)>4)=false:=by simpa using q2
   rw [e2]
   simp only [q1,q2,decide_true,Bool.and_true]
   cases inR w.Round 1 200<;>cases zm9 1 w.Round none w.Notches<;>cases zm9 1 100 none w.Coins<;>rfl
  ·have e2:decide ((w.Coins.length:Int)>4)=true:=by simp;omega
   rw [e2]
   simp only [q2,decide_false,Bool.and_false]
   cases inR w.Round 1 200<;>cases zm9 1 w.Round none w.Notches<;>rfl
 ·have e1:decide ((w.Notches.length:Int)>12)=true:=by simp;omega
  rw [e1]
  simp only [q1,decide_false,Bool.and_false,Bool.false_and]
  cases inR w.Round 1 200<;>rfl
theorem zmX {lo hi:Int}:∀{l:List Int} {p:Option Int},zm9 lo hi p l=true->(∀x,x∈l->lo<=x/\x<=hi/\∀y,p=some y->y<x)/\l.Pairwise (·<·)
 | [],_,_=>⟨fun x h=>by simp at h,.nil⟩
 | x::l,p,h=>by
  simp only [zm9,Bool.and_eq_true] at h
  obtain ⟨⟨h1,h2⟩,h3⟩:=h
  obtain ⟨ih1,ih2⟩:=zmX h3
  have h1':=zci.1 h1
  have hp:∀y,p=some y->y<x:=fun y e=>by subst e;simpa using h2
  refine ⟨fun z hz=>?_,List.pairwise_cons.2 ⟨fun z hz=>(ih1 z hz).2.2 x rfl,ih2⟩⟩
  rcases List.mem_cons.1 hz with rfl | hz
  ·exact ⟨h1'.1,h1'.2,hp⟩
  ·have:=ih1 z hz
   exact ⟨this.1,this.2.1,fun y e=>Int.lt_trans (hp y e) (this.2.2 x rfl)⟩
structure OkW (w:Wheel):Prop where
 r1:1<=w.Round
 r2:w.Round<=200
 nlen:w.Notches.length<=12
 clen:w.Coins.length<=4
 nm:∀x,x∈w.Notches->1<=x/\x<=w.Round
 nd:w.Notches.Pairwise (·<·)
 cm:∀x,x∈w.Coins->1<=x/\x<=100
 cd:w.Coins.Pairwise (·<·)
theorem zfc {w:Wheel} (h:valid w=true):OkW w:=by
 simp only [valid,Bool.and_eq_true,decide_eq_true_eq] at h
 obtain ⟨⟨h1,h2,h3⟩,h4,h5⟩:=h
 have h1:=zci.1 h1
 obtain ⟨a1,a2⟩:=zmX h2
 obtain ⟨b1,b2⟩:=zmX h4
 exact ⟨h1.1,h1.2,by omega,by omega,fun x hx=>⟨(a1 x hx).1,(a1 x hx).2.1⟩,a2,fun x hx=>⟨(b1 x hx).1,(b1 x hx).2.1⟩,b2⟩
theorem OkW.len {w:Wheel} (h:OkW w) {n:Nat} (hn:100<=n):zlB n w:=⟨by have:=h.nlen;omega,by have:=h.clen;omega,by have:=h.nlen;omega,by have:=h.clen;omega⟩
def nx (R p:Int):Int:=if p+1=R then 0 else p+1
def hit (w:Wheel) (p:Int):Int:=if p+1∈w.Notches then 1 else 0
def put (w:Wheel):Nat->Int->Int->Int×Int
 | 0,p,c=>(p,c)
 | k+1,p,c=>put w k (nx w.Round p) (c+hit w p)
theorem zud {R p:Int} (h0:0<=p) (h1:p<R):0<=nx R p/\nx R p<R:=by
 unfold nx
 split<;>omega
theorem zsG (w:Wheel) (p:Int):0<=hit w p/\hit w p<=1:=by
 unfold hit
 split<;>omega
theorem znX {w:Wheel} (h:OkW w):∀(k:Nat) (p c:Int),0<=p->p<w.Round->(0<=(put w k p c).1/\(put w k p c).1<w.Round)/\c<=(put w k p c).2/\(put w k p c).2<=c+k
 | 0,p,c,h0,h1=>⟨⟨h0,h1⟩,by simp [put],by simp [put]⟩
 | k+1,p,c,h0,h1=>by
  have hy:=zud h0 h1
  have hx:=zsG w p
  have:=znX h k (nx w.Round p) (c+hit w p) hy.1 hy.2
  simp only [put]
  omega
theorem zsH (w:Wheel):∀(j k:Nat) (p c:Int),put w (j+k) p c=put w k (put w j p c).1 (put w j p c).2
 | 0,k,p,c=>by simp [put]
 | j+1,k,p,c=>by
  rw [show j+1+k=(j+k)+1 by omega]
  simp only [put]
  exact zsH w j k _ _
theorem zsI {A R:Int} (hR:0<R):(A+1) / R=A / R+(if A % R=R-1 then 1 else 0):=by
 have h1:=Int.mul_ediv_add_emod A R
 have h2:=Int.emod_nonneg A (show R≠0 by omega)
 have h3:=Int.emod_lt_of_pos A hR
 split
 ·rename_i h
  have:A+1=R*(A / R+1):=by rw [Int.mul_add];omega
  rw [this,Int.mul_ediv_cancel_left _ (by omega)]
 ·rename_i h
  have:A+1=(A % R+1)+R*(A / R):=by omega
  rw [this,Int.add_mul_ediv_left _ _ (by omega),Int.ediv_eq_zero_of_lt (by omega) (by omega)]
  omega
theorem zsJ {A R:Int} (hR:0<R):(A+1) % R=nx R (A % R):=by
 have h1:=Int.mul_ediv_add_emod A R
 have h2:=Int.emod_nonneg A (show R≠0 by omega)
 have h3:=Int.emod_lt_of_pos A hR
 unfold nx
 split
 ·rename_i h
  have:A+1=R*(A / R+1):=by rw [Int.mul_add];omega
  rw [this,Int.mul_emod_right]
 ·rename_i h
  have:A+1=(A % R+1)+R*(A / R):=by omega
  rw [this,Int.add_mul_emod_self_left,Int.emod_eq_of_lt (by omega) (by omega)]
theorem zqV {B R m:Int} (hR:0<R) (h1:1<=m) (h2:m<=R):(B-m+R) % R=R-1↔m=B % R+1:=by
 have e1:=Int.mul_ediv_add_emod B R
 have e2:=Int.emod_nonneg B (show R≠0 by omega)
 have e3:=Int.emod_lt_of_pos B hR
 by_cases h:m<=B % R
 ·have:B-m+R=(B % R-m)+R*(B / R+1):=by rw [Int.mul_add];omega
  rw [this,Int.add_mul_emod_self_left,Int.emod_eq_of_lt (by omega) (by omega)]
  omega
 ·have:B-m+R=(B % R-m+R)+R*(B / R):=by omega
  rw [this,Int.add_mul_emod_self_left,Int.emod_eq_of_lt (by omega) (by omega)]
  omega
def reached (R e p:Int):List Int->Int
 | []=>0
 | m::l=>(e-m+R) / R-(p-m+R) / R+reached R e p l
def turn (w:Wheel) (p c:Int):Int×Int:=((p+c) % w.Round,reached w.Round (p+c) p w.Notches)
theorem zjL {R B p:Int} (hR:0<R):∀(l:List Int),(∀x,x∈l->1<=x/\x<=R)->l.Pairwise (·<·)->reached R (B+1) p l=reached R B p l+(if B % R+1∈l then 1 else 0)
 | [],_,_=>by simp [reached]
 | m::l,h,hd=>by
  have hm:=h m (by simp)
  obtain ⟨d1,d2⟩:=List.pairwise_cons.1 hd
  have ih:=zjL (B:=B) (p:=p) hR l (fun x hx=>h x (by simp [hx])) d2
  simp only [reached]
  rw [ih,show B+1-m+R=(B-m+R)+1 by omega,zsI hR]
  have hn:=zqV (B:=B) hR hm.1 hm.2
  by_cases q:m=B % R+1
  ·rw [if_pos (hn.2 q),if_pos (show B % R+1∈m::l by simp [q]),if_neg (fun hx=>by have:=d1 _ hx;omega)]
   omega
  ·rw [if_neg (fun hx=>q (hn.1 hx))]
   by_cases q2:B % R+1∈l
   ·rw [if_pos q2,if_pos (by simp [q2])]
    omega
   ·rw [if_neg q2,if_neg (by simp [q2];omega)]
    omega
theorem zjM {R p:Int}:∀(l:List Int),reached R p p l=0
 | []=>rfl
 | m::l=>by simp only [reached];rw [zjM l];omega
theorem zpN {w:Wheel} (h:OkW w) {p:Int} (h0:0<=p) (h1:p<w.Round):∀k:Nat,put w k p 0=turn w p k
 | 0=>by
  unfold turn
  rw [show p+((0:Nat):Int)=p by simp,zjM,Int.emod_eq_of_lt h0 h1]
  rfl
 | k+1=>by
  have hr:=h.r1
  have ih:=zpN h h0 h1 k
  rw [zsH w k 1 p 0,ih]
  unfold turn
  simp only [put]
  rw [show p+((k+1:Nat):Int)=(p+k)+1 by simp;omega,zsJ (by omega),zjL (by omega) w.Notches h.nm h.nd]
  rfl
theorem zcO {w:Wheel} (h:OkW w) {p c:Int} (h0:0<=p) (h1:p<w.Round) (hc:0<=c):(0<=(turn w p c).1/\(turn w p c).1<w.Round)/\0<=(turn w p c).2/\(turn w p c).2<=c:=by
 have:=znX h c.toNat p 0 h0 h1
 rw [zpN h h0 h1,show ((c.toNat:Nat):Int)=c by omega] at this
 omega
theorem zjN {R e p:Int} (hR:0<R) (h:p<=e):∀l:List Int,0<=reached R e p l
 | []=>by simp [reached]
 | m::l=>by
  have:=zjN hR h l
  have h2:=Int.ediv_le_ediv hR (show p-m+R<=e-m+R by omega)
  simp only [reached]
  omega
theorem zsK {n:Nat} {w:Wheel} (h:OkW w) (hn:100<=n) {p c:Int} (hp:0<=p) (hp':p<w.Round) (hc:0<=c) (hc2:c<1048576):zds n ⟨w⟩ p c=some (turn w p c):=by
 have hr:=h.r1
 have hr2:=h.r2
 have hl:=h.nlen
 have hfin:=zcO h hp hp' hc
 unfold turn at hfin
 simp only at hfin
 have e0:w64 (p+c)=p+c:=zaT (by omega) (by omega)
 have key:=zua (F:=fun m i s=>zbh ⟨w⟩ p c m s i) (xs:=w.Notches) (spec:=fun l s=>some ((p+c) % w.Round,s+reached w.Round (p+c) p l)) (I:=fun l s=>0<=s/\s+reached w.Round (p+c) p l<=c/\∀x,x∈l->1<=x/\x<=w.Round) (by omega)
  (fun m s hI=>by simp [zbh,zcQ,zdj,reached,e0,zwv (show 0<=p+c by omega) (show 0<w.Round by omega)])
  (fun m i x l s hI hx hi _ _ hrec=>by
   obtain ⟨i1,i2,i3⟩:=hI
   have hxm:=i3 x (by simp)
   simp only [reached] at i2
   have hrl:=zjN (R:=w.Round) (e:=p+c) (p:=p) (by omega) (by omega) l
   have hd1:=Int.ediv_nonneg (show 0<=p+c-x+w.Round by omega) (show 0<=w.Round by omega)
   have hd2:=Int.ediv_nonneg (show 0<=p-x+w.Round by omega) (show 0<=w.Round by omega)
   have hd3:=Int.ediv_le_self w.Round (show 0<=p+c-x+w.Round by omega)
   have hd5:=Int.ediv_le_ediv (show 0<w.Round by omega) (show p-x+w.Round<=p+c-x+w.Round by omega)
   simp only [zbh,zcQ]
   rw [if_pos (by simpa using hi),hx,zac,e0,zaT (x:=p+c-x) (by omega) (by omega),zaT (x:=p+c-x+w.Round) (by omega) (by omega),zaT (x:=p-x) (by omega) (by omega),zaT (x:=p-x+w.Round) (by omega) (by omega),
    zr7 (by omega) (by omega) (by omega),zr7 (by omega) (by omega) (by omega),zac,zac,zaT (x:=_-_) (by omega) (by omega),zaT (x:=s+_) (by omega) (by omega),
    hrec _ ⟨by omega,by omega,fun y hy=>i3 y (by simp [hy])⟩]
   simp only [reached]
   congr 2
   omega)
  w.Notches 0 n 0 (by omega) rfl (by omega) ⟨by omega,by omega,h.nm⟩
 have key:zbh ⟨w⟩ p c n 0 0=_:=key
 unfold zds
 rw [key]
 unfold turn
 rw [Int.zero_add]
structure OkS (w:Wheel) (s:Stand) (b:Int):Prop where
 p0:0<=s.Place
 p1:s.Place<w.Round
 c0:0<=s.Credit
 c1:s.Credit<=b
def ze2 (w:Wheel) (a:Int):Bool:=inR a (-1) (w.Coins.length-1)
def zpO (w:Wheel) (a:Int):Bool:=inR a 0 (w.Coins.length-1)
def coin (w:Wheel) (a:Int):Int:=w.Coins.getD a.toNat 0
def zit (w:Wheel) (s:Stand) (a:Int):Stand×Bool :=
 if 0<=a then (⟨(turn w s.Place (coin w a)).1,s.Credit+(turn w s.Place (coin w a)).2⟩,false) else if s.Credit=0 then (s,false) else (⟨0,s.Credit-1⟩,true)
theorem zmY {w:Wheel} {a:Int} (h0:0<=a) (h1:a<=w.Coins.length-1):idx w.Coins a=some (coin w a):=by
 obtain ⟨k,rfl⟩:∃k:Nat,a=k:=⟨a.toNat,by omega⟩
 have hk:k<w.Coins.length:=by omega
 rw [zeq hk]
 simp [coin,hk]
theorem zdB {w:Wheel} (h:OkW w) {a:Int} (h0:0<=a) (h1:a<=w.Coins.length-1):1<=coin w a/\coin w a<=100:=by
 obtain ⟨k,rfl⟩:∃k:Nat,a=k:=⟨a.toNat,by omega⟩
 have hk:k<w.Coins.length:=by omega
 have:coin w k=w.Coins[k]:=by simp [coin,hk]
 rw [this]
 exact h.cm _ (List.getElem_mem hk)
theorem zsL {w:Wheel} (h:OkW w) {s:Stand} {b a:Int} (hs:OkS w s b) (ha:ze2 w a=true):OkS w (zit w s a).1 (b+100):=by
 have ha:=zci.1 ha
 have hr:=h.r1
 unfold zit
 split
 ·rename_i h0
  have hc:=zdB h h0 ha.2
  have ht:=zcO h hs.p0 hs.p1 (show 0<=coin w a by omega)
  have:=hs.c0
  have:=hs.c1
  exact ⟨ht.1.1,ht.1.2,by show 0<=s.Credit+_;omega,by show s.Credit+_<=_;omega⟩
 ·have:=hs.c0
  have:=hs.c1
  split
  ·exact ⟨hs.p0,hs.p1,hs.c0,by show s.Credit<=b+100;omega⟩
  ·exact ⟨by show (0:Int)<=0;omega,by show (0:Int)<_;omega,by show 0<=s.Credit-1;omega,by show s.Credit-1<=_;omega⟩
theorem zxe {n:Nat} {w:Wheel} (h:OkW w) (hn:200<=n) {s:Stand} {b a:Int} (hs:OkS w s b) (hb:b<1099511627776) (ha:ze2 w a=true):zeE n ⟨w⟩ s a=some (zit w s a).1:=by
 have ha:=zci.1 ha
 have:=hs.c0
 have:=hs.c1
 unfold zeE zit
 by_cases h0:0<=a
 ·have hc:=zdB h h0 ha.2
  have ht:=zcO h hs.p0 hs.p1 (show 0<=coin w a by omega)
  rw [if_pos (by simp;omega),if_pos h0,zmY h0 ha.2,zac,zsK h (by omega) hs.p0 hs.p1 (by omega) (by omega),zac,zaT (by omega) (by omega)]
 ·rw [if_neg (by simp;omega),if_neg h0]
  by_cases hc:s.Credit=0
  ·rw [if_neg (by simp;omega),if_pos hc]
  ·rw [if_pos (by simp;omega),if_neg hc,zaT (by omega) (by omega)]
theorem zyP {n:Nat} (f:Int->Option Bool) (g:Int->Bool) (xs:List Int) (hf:∀x,x∈xs->f x=some (g x)) (hl:xs.length<1048576) (hn:xs.length<n) :
  zfG n (fun x (_:Unit)=>(f x).map fun y=>(y,())) xs ()=some (decide ((xs.length:Int)<=20)&&xs.all g,()):=by
 have key:∀(l:List Int) (i m:Nat) (s:Unit),i<=xs.length->xs.drop i=l->l.length<m->(zak xs (zcs (fun x (_:Unit)=>(f x).map fun y=>(y,()))) m (i:Int) s).map (fun r=>decide (r.1≥0))=some (!l.all g):=by
  intro l i m s h1 h2 h3
  refine zvy (fun m i s=>(zak xs (zcs (fun x (_:Unit)=>(f x).map fun y=>(y,()))) m i s).map (fun r=>decide (r.1≥0))) xs (fun l _=>some (!l.all g)) hl (fun m s=>?_) (fun m i x l s hx hi _ _ hrec=>?_) l i m s h1 h2 h3
  ·simp [zak,zaZ,zbm]
  ·have hmem:x∈xs:=by
    unfold idx at hx
    rw [if_pos (by omega)] at hx
    exact List.mem_of_getElem? hx
   simp only [zak,zaZ]
   rw [if_pos (by simpa using hi),hx,zac]
   simp only [zcs,hf x hmem,Option.map_some,zac]
   by_cases hg:g x=true
   ·rw [if_neg (by simp [hg])]
    have:=hrec ()
    rw [this]
    simp [hg]
   ·rw [if_pos (by simpa using hg)]
    simp [hg]
 have h:=key xs 0 n () (by omega) rfl hn
 unfold zfG zdw
 by_cases hq:(xs.length:Int)<=20
 ·rw [if_pos (by simpa using hq)]
  unfold zaX zcu
  change Option.map _ (zak xs _ n 0 ())=_ at h
  cases hx:zak xs (zcs (fun x (_:Unit)=>(f x).map fun y=>(y,()))) n 0 () with
  | none=>rw [hx] at h;cases h
  | some r =>
   rw [hx] at h
   simp only [Option.map_some,Option.some.injEq] at h
   simp only [zac]
   rw [h]
   simp [hq]
 ·rw [if_neg (by simpa using hq)]
  simp [hq]
theorem zsM {w:Wheel} (hw:w.Coins.length<1048576) (x:Int):zdI ⟨w⟩ x=some (zpO w x):=by
 unfold zdI zpO
 simp only []
 rw [zaT (by omega) (by omega),zgJ,zac]
theorem zue {w:Wheel} (hw:w.Coins.length<1048576) (x:Int):zcA ⟨w⟩ x=some (ze2 w x):=by
 unfold zcA zcv
 rw [zsM hw,zac]
 have e:ze2 w x=(decide (x=-1) || zpO w x):=by
  rw [Bool.eq_iff_iff]
  simp only [ze2,zpO,zci,Bool.or_eq_true,decide_eq_true_eq]
  omega
 rw [e]
 by_cases h:x=-1
 ·rw [if_pos (by simpa using h)]
  simp [h]
 ·rw [if_neg (by simpa using h)]
  simp [h]
def zio (w:Wheel) (p:Int):Bool:=inR p 0 (w.Round-1)
theorem zqW {w:Wheel} (h:OkW w) (p:Int):zdl ⟨w⟩ p=some (zio w p):=by
 have:=h.r1
 have:=h.r2
 unfold zdl zio
 simp only []
 rw [zaT (by omega) (by omega),zgJ,zac]
def zgs (w:Wheel) (s:Stand):Bool:=zio w s.Place&&inR s.Credit 0 20
theorem zqX {w:Wheel} {s:Stand} (h:zgs w s=true):OkS w s 20:=by
 simp only [zgs,zio,Bool.and_eq_true,zci] at h
 exact ⟨h.1.1,by omega,h.2.1,h.2.2⟩
def zw:Wheel_:=⟨⟨0,[],[]⟩⟩
theorem zvz {n:Nat} {w:Wheel} (hl:zlB n w) (aF:Wheel_->Unit->Option (Bool×Unit)) (b:Bool) (ha:valid w=true->aF ⟨w⟩ ()=some (b,())) :
  zeY n aF w ()=some (cond (valid w) (cond b (((⟨w⟩:Wheel_),0),()) ((zw,1),())) ((zw,10),())):=by
 unfold zeY
 rw [zmW hl,zac]
 cases hv:valid w with
 | false=>rfl
 | true =>
  rw [ha hv]
  cases b<;>rfl
def zqY (w:Wheel):List Int->Int->Stand->Stand×Int
 | [],k,s=>(s,k)
 | a::l,k,s=>zqY w l (k+if (zit w s a).2 then 1 else 0) (zit w s a).1
def zx9 (w:Wheel) (s:Stand) (acts:List Int):Stand×Int×Int :=
 if valid w=true then (if zgs w s=true/\(acts.length:Int)<=20/\acts.all (ze2 w)=true then ((zqY w acts 0 s).1,(zqY w acts 0 s).2,0) else (⟨0,0⟩,0,1)) else (⟨0,0⟩,0,10)
theorem zuf {w:Wheel} {s:Stand} {a:Int} (h:ze2 w a=true) (hc:0<=s.Credit):(zit w s a).2=true↔a=-1/\s.Credit>0:=by
 have h:=zci.1 h
 unfold zit
 split
 ·simp;omega
 ·split<;>simp<;>omega
theorem zyB {n:Nat} {w:Wheel} (h:OkW w) (hn:200<=n) (acts:List Int) (hl:(acts.length:Int)<=20) (ha:acts.all (ze2 w)=true) {s:Stand} (hs:OkS w s 20) :
  zbG n acts ((⟨w⟩,0),()) n 0 0 s.Place s.Credit=some ((zqY w acts 0 s).1,(zqY w acts 0 s).2,0):=by
 have key:=zua (F:=fun m i (q:Int×Stand)=>zbG n acts ((⟨w⟩,0),()) m q.1 i q.2.Place q.2.Credit) (xs:=acts) (spec:=fun l q=>some ((zqY w l q.1 q.2).1,(zqY w l q.1 q.2).2,0))
  (I:=fun l q=>(0<=q.1/\q.1+l.length<=100)/\OkS w q.2 (2100-100*l.length)/\l.length<=20/\l.all (ze2 w)=true) (by omega)
  (fun m q hI=>by simp [zbG,ze7,zgh,zqY])
  (fun m i x l q hI hx hi _ _ hrec=>by
   obtain ⟨i1,i2,i3,i4⟩:=hI
   simp only [List.length_cons,List.all_cons,Bool.and_eq_true] at i1 i2 i3 i4
   have hb:(2100-100*((l.length+1:Nat):Int))+100=2100-100*(l.length:Int):=by simp;omega
   have hok:=zsL h i2 i4.1
   rw [hb] at hok
   have hmi:=zuf i4.1 i2.c0
   have goal:∀c:Bool,(c=(zit w q.2 x).2)->zev n (zbG n acts ((⟨w⟩,0),()) m) ((⟨w⟩,0),()) q.1 (i:Int) q.2.Place q.2.Credit x c=some ((zqY w (x::l) q.1 q.2).1,(zqY w (x::l) q.1 q.2).2,0):=by
    rintro c rfl
    have e:(⟨q.2.Place,q.2.Credit⟩:Stand)=q.2:=rfl
    simp only [zev,zfj,zqY,e,zxe h hn i2 (by omega) i4.1,zac]
    by_cases hm:(zit w q.2 x).2=true
    ·rw [if_pos hm,zaT (x:=q.1+1) (by omega) (by omega)]
     have:=hrec (q.1+1,(zit w q.2 x).1) ⟨⟨by simp;omega,by simp;omega⟩,hok,by omega,i4.2⟩
     simp only at this
     rw [this]
     simp [hm]
    ·rw [if_neg hm]
     have:=hrec (q.1,(zit w q.2 x).1) ⟨⟨by simp;omega,by simp;omega⟩,hok,by omega,i4.2⟩
     simp only at this
     rw [this]
     simp [hm]
   simp only [zbG,ze7]
   rw [if_pos (by simpa using hi),hx,zac]
   by_cases hx1:x=-1
   ·rw [if_pos (by simpa using hx1)]
    refine goal _ ?_
    rw [Bool.eq_iff_iff,hmi]
    simp [hx1]
   ·rw [if_neg (by simpa using hx1)]
    refine goal _ ?_
    rw [Bool.eq_iff_iff,hmi]
    simp [hx1])
  acts 0 n (0,s) (by omega) rfl (by omega) ⟨⟨by simp,by simp;omega⟩,⟨hs.p0,hs.p1,hs.c0,by have:=hs.c1;simp;omega⟩,by omega,ha⟩
 exact key
theorem zuF {n:Nat} {w:Wheel} (hl:zlB n w) (hn:200<=n) (s:Stand) (acts:List Int) (h1:acts.length<1048576) (h2:acts.length<n):zeF n w s acts=some (zx9 w s acts):=by
 unfold zeF zx9
 rw [zvz hl _ (zgs w s&&(decide ((acts.length:Int)<=20)&&acts.all (ze2 w))) (fun hv=>?_),zac]
 ·cases hv:valid w with
  | false=>rfl
  | true =>
   have h:=zfc hv
   by_cases hq:zgs w s=true/\(acts.length:Int)<=20/\acts.all (ze2 w)=true
   ·rw [if_pos rfl,if_pos hq,hq.1,hq.2.2,show decide ((acts.length:Int)<=20)=true by simpa using hq.2.1]
    exact zyB h hn acts hq.2.1 hq.2.2 (zqX hq.1)
   ·rw [if_pos rfl,if_neg hq,show (zgs w s&&(decide ((acts.length:Int)<=20)&&acts.all (ze2 w)))=false by
     cases hz:(zgs w s&&(decide ((acts.length:Int)<=20)&&acts.all (ze2 w))) with
     | false=>rfl
     | true=>simp only [Bool.and_eq_true,decide_eq_true_eq] at hz;exact (hq hz).elim]
    rfl
 ·have h:=zfc hv
  show (zfi n ⟨w⟩ s acts).map (fun y=>(y,()))=_
  unfold zfi zc7
  rw [zqW h,zac,zgJ,zyP (fun x=>zcA ⟨w⟩ x) (ze2 w) acts (fun x _=>zue hl.2.1 x) h1 h2]
  unfold zgs
  cases zio w s.Place<;>cases inR s.Credit 0 20<;>rfl
theorem zoX {n:Nat} (a b:List Int) (hs:a.length<1048576) (hn:a.length<n):zee n a b=some (decide (a=b)):=by
 unfold zee
 by_cases h:a.length=b.length
 ·rw [if_neg (by simp [h])]
  have:=zxd (F:=fun m i (_:Unit)=>zbJ a b m i) (xs:=a.zip b) (spec:=fun l _=>some (decide (∀q,q∈l->q.1=q.2))) (n:=n) (by simp [←h];omega) (by simp [←h];omega) () (fun m s=>by simp [zbJ,zdo,zd6,←h]) (fun m i x l s hx hi hi' hd hrec=>by
   have hi1:i<a.length:=by simp [←h] at hi;exact hi
   have hi2:i<b.length:=by omega
   have hx':x=(a[i],b[i]):=by
    rw [zeq (by simp;omega)] at hx
    injection hx with hx
    rw [←hx]
    simp
   simp only [zbJ,zdo]
   rw [if_pos (by simp;omega),zeq hi1,zeq hi2,zac,zac]
   subst hx'
   by_cases hb:a[i]=b[i]
   ·rw [if_neg (by simp [hb]),hrec ()]
    simp [hb]
   ·rw [if_pos (by simp [hb])]
    simp [hb])
  rw [show zbJ a b n 0=_ from this]
  congr 1
  apply decide_eq_decide.2
  constructor
  ·intro hq
   apply List.ext_getElem h
   intro i h1 h2
   have:=hq (a[i],b[i]) (by
    have h3:i<(a.zip b).length:=by simp;omega
    have:(a.zip b)[i]=(a[i],b[i]):=by simp
    rw [←this]
    exact List.getElem_mem h3)
   exact this
  ·rintro rfl q hq
   obtain ⟨i,hi,rfl⟩:=List.getElem_of_mem hq
   simp
 ·rw [if_pos (by simp;omega)]
  have:a≠b:=fun e=>h (by rw [e])
  simp [this]
theorem zvA {α:Type} {l:List α} (h:l.length<1048576):app ([]:List α) l=some l:=by rw [zpA (by simp;omega)];rfl
section
variable {κ:Type} [DecidableEq κ]
theorem zpP:∀{M:List (κ×Int)} {k:κ},zbt M k=true↔k∈M.map (·.1)
 | [],k=>by simp [zbt]
 | p::M,k=>by
  simp only [zbt,List.map_cons,List.mem_cons]
  by_cases h:p.1=k
  ·simp [h]
  ·rw [if_neg h,zpP]
   exact ⟨.inr,fun e=>e.resolve_left (Ne.symm h)⟩
theorem zpQ:∀{M:List (κ×Int)} {k:κ},zbt M k=true->(k,zoC M k)∈M
 | [],k,h=>by simp [zbt] at h
 | p::M,k,h=>by
  by_cases e:p.1=k
  ·simp only [zoC,if_pos e]
   rw [←e]
   exact List.mem_cons_self
  ·simp only [zbt,if_neg e] at h
   simp only [zoC,if_neg e]
   exact List.mem_cons_of_mem _ (zpQ h)
theorem zsN:∀{M:List (κ×Int)} {k:κ},zbt M k=false->zoC M k=0
 | [],k,h=>rfl
 | p::M,k,h=>by
  by_cases e:p.1=k
  ·simp [zbt,e] at h
  ·simp only [zbt,if_neg e] at h
   simp only [zoC,if_neg e]
   exact zsN h
theorem zpR:∀{M:List (κ×Int)} {k:κ} {v:Int} {p:κ×Int},p∈zf8 M k v->p=(k,v)\/p∈M
 | [],k,v,p,h=>by simp [zf8] at h;exact .inl h
 | q::M,k,v,p,h=>by
  simp only [zf8] at h
  split at h
  ·rcases List.mem_cons.1 h with h | h
   ·exact .inl h
   ·exact .inr (List.mem_cons_of_mem _ h)
  ·rcases List.mem_cons.1 h with h | h
   ·exact .inr (h▸List.mem_cons_self)
   ·rcases zpR h with h | h
    ·exact .inl h
    ·exact .inr (List.mem_cons_of_mem _ h)
theorem znY:∀{M:List (κ×Int)} {k:κ} {v:Int},(zf8 M k v).map (·.1)=if zbt M k=true then M.map (·.1) else M.map (·.1)++[k]
 | [],k,v=>by simp [zf8,zbt]
 | q::M,k,v=>by
  by_cases e:q.1=k
  ·simp [zf8,zbt,e]
  ·simp only [zf8,zbt,if_neg e,List.map_cons]
   rw [znY]
   cases zbt M k<;>simp
theorem zqZ {M:List (κ×Int)} {k:κ} {v:Int} (h:(M.map (·.1)).Nodup):((zf8 M k v).map (·.1)).Nodup:=by
 rw [znY]
 cases e:zbt M k with
 | true=>simpa using h
 | false =>
  have:¬k∈M.map (·.1):=fun hk=>by rw [zpP.2 hk] at e;cases e
  simp only [Bool.false_eq_true,if_false]
  rw [List.nodup_append]
  refine ⟨h,by simp,fun a ha b hb=>?_⟩
  simp only [List.mem_singleton] at hb
  subst hb
  exact fun e=>this (e▸ha)
end
def zgK (b:Bool) (s:Bool×Int) (n:Int):Bool×Int:=if s.1=true\/cond b (decide (n>s.2)) (decide (n<s.2))=true then (false,n) else s
def pick (b:Bool) (vs:List Int):Int:=(vs.foldl (zgK b) (true,0)).2
def leB (b:Bool) (x y:Int):Prop:=cond b (x<=y) (y<=x)
theorem leB.refl (b:Bool) (x:Int):leB b x x:=by cases b<;>exact Int.le_refl x
theorem leB.trans {b:Bool} {x y z:Int} (h:leB b x y) (h':leB b y z):leB b x z:=by
 cases b
 ·exact Int.le_trans h' h
 ·exact Int.le_trans h h'
theorem leB.anti {b:Bool} {x y:Int} (h:leB b x y) (h':leB b y x):x=y:=by
 cases b
 ·exact Int.le_antisymm h' h
 ·exact Int.le_antisymm h h'
theorem leB.add {b:Bool} {x y:Int} (h:leB b x y) (a:Int):leB b (a+x) (a+y):=by
 cases b
 ·exact Int.add_le_add_left h a
 ·exact Int.add_le_add_left h a
theorem zju (b:Bool):∀(vs:List Int) (m:Int),(vs.foldl (zgK b) (false,m)).1=false/\((vs.foldl (zgK b) (false,m)).2=m\/(vs.foldl (zgK b) (false,m)).2∈vs)/\leB b m (vs.foldl (zgK b) (false,m)).2/\∀v,v∈vs->leB b v (vs.foldl (zgK b) (false,m)).2
 | [],m=>⟨rfl,.inl rfl,leB.refl b m,fun v h=>by simp at h⟩
 | x::vs,m=>by
  simp only [List.foldl_cons]
  by_cases h:cond b (decide (x>m)) (decide (x<m))=true
  ·have e:zgK b (false,m) x=(false,x):=by
    unfold zgK
    rw [if_pos (.inr h)]
   rw [e]
   obtain ⟨h1,h2,h3,h4⟩:=zju b vs x
   have hm:leB b m x:=by
    cases b
    ·exact Int.le_of_lt (by simpa using h)
    ·exact Int.le_of_lt (by simpa using h)
   refine ⟨h1,?_,hm.trans h3,fun v hv=>?_⟩
   ·rcases h2 with h2 | h2
    ·exact .inr (by rw [h2];exact List.mem_cons_self)
    ·exact .inr (List.mem_cons_of_mem _ h2)
   ·rcases List.mem_cons.1 hv with rfl | hv
    ·exact h3
    ·exact h4 v hv
  ·have e:zgK b (false,m) x=(false,m):=by
    unfold zgK
    rw [if_neg (by simpa using h)]
   rw [e]
   obtain ⟨h1,h2,h3,h4⟩:=zju b vs m
   have hm:leB b x m:=by
    cases b
    ·simpa [leB] using h
    ·simpa [leB] using h
   refine ⟨h1,h2.imp_right (List.mem_cons_of_mem _),h3,fun v hv=>?_⟩
   rcases List.mem_cons.1 hv with rfl | hv
   ·exact hm.trans h3
   ·exact h4 v hv
theorem zoY (b:Bool) (m x:Int):zgK b (true,m) x=(false,x):=by
 unfold zgK
 rw [if_pos (.inl rfl)]
theorem zgL (b:Bool) {vs:List Int} (h:vs≠[]):pick b vs∈vs/\∀v,v∈vs->leB b v (pick b vs):=by
 cases vs with
 | nil=>exact (h rfl).elim
 | cons x vs =>
  unfold pick
  rw [List.foldl_cons,zoY]
  obtain ⟨h1,h2,h3,h4⟩:=zju b vs x
  refine ⟨?_,fun v hv=>?_⟩
  ·rcases h2 with h2 | h2
   ·rw [h2];exact List.mem_cons_self
   ·exact List.mem_cons_of_mem _ h2
  ·rcases List.mem_cons.1 hv with rfl | hv
   ·exact h3
   ·exact h4 v hv
theorem zvB (b:Bool) {vs:List Int} {r:Int} (h:r∈vs) (hr:∀v,v∈vs->leB b v r):pick b vs=r:=by
 obtain ⟨h1,h2⟩:=zgL b (vs:=vs) (fun e=>by rw [e] at h;simp at h)
 exact (hr _ h1).anti (h2 _ h)
theorem zpS (b:Bool):pick b []=0:=rfl
def total:List Int->Int
 | []=>0
 | x::l=>x+total l
def zcC (l:List Int) (k:Nat):List Int:=l.set k (l.getD k 0-1)
theorem zlf:∀{l:List Int} {k:Nat} {v:Int},k<l.length->total (l.set k v)=total l-l.getD k 0+v
 | [],k,v,h=>by simp at h
 | x::l,0,v,h=>by simp [total];omega
 | x::l,k+1,v,h=>by
  have:=zlf (l:=l) (k:=k) (v:=v) (by simpa using h)
  simp only [List.set_cons_succ,total,List.getD_cons_succ]
  omega
theorem zfK {l:List Int} {k:Nat} (h:k<l.length):total (zcC l k)=total l-1:=by
 unfold zcC
 rw [zlf h]
 omega
theorem zep:∀{l:List Int},(∀x,x∈l->0<=x)->0<=total l
 | [],_=>Int.le_refl _
 | x::l,h=>by
  have:=h x (by simp)
  have:=zep (l:=l) (fun y hy=>h y (by simp [hy]))
  simp only [total]
  omega
theorem zgt:∀{l:List Int},(∀x,x∈l->0<=x)->∀k,0<=l.getD k 0/\l.getD k 0<=total l
 | [],_,k=>by simp [total]
 | x::l,h,0=>by
  have:=h x (by simp)
  have:=zep (l:=l) (fun y hy=>h y (by simp [hy]))
  simp only [List.getD_cons_zero,total]
  omega
 | x::l,h,k+1=>by
  have:=h x (by simp)
  have:=zgt (l:=l) (fun y hy=>h y (by simp [hy])) k
  simp only [List.getD_cons_succ,total]
  omega
structure OkP (w:Wheel) (l:List Int):Prop where
 len:l.length=w.Coins.length
 nn:∀x,x∈l->0<=x
 tot:total l<=1000
theorem OkP.less {w:Wheel} {l:List Int} (h:OkP w l) {k:Nat} (hk:k<w.Coins.length) (h0:l.getD k 0≠0):OkP w (zcC l k):=by
 have hk':k<l.length:=by rw [h.len];exact hk
 have:=zgt h.nn k
 refine ⟨by simp [zcC,h.len],fun x hx=>?_,by rw [zfK hk'];have:=h.tot;omega⟩
 rcases List.mem_or_eq_of_mem_set hx with hx | rfl
 ·exact h.nn x hx
 ·omega
def zsO (l:List Int):List Int:=[l.getD 0 0,l.getD 1 0,l.getD 2 0,l.getD 3 0]
def zb4 (l:List Int):Bag_:=⟨l.getD 0 0,l.getD 1 0,l.getD 2 0,l.getD 3 0⟩
theorem ziq {l:List Int} {k:Nat} (h:k<4):idx (zsO l) (k:Int)=some (l.getD k 0):=by
 match k,h with
 | 0,_=>rfl
 | 1,_=>rfl
 | 2,_=>rfl
 | 3,_=>rfl
theorem zmZ {l:List Int} {k:Nat} {v:Int} (h:k<l.length) (h4:l.length<=4):zqt (zsO l) (k:Int) v=some (zsO (l.set k v)):=by
 unfold zqt
 rw [if_pos ⟨by omega,by simp [zsO];omega⟩,Int.toNat_natCast]
 match l,k,h,h4 with
 | [a],0,_,_=>rfl
 | [a,b],0,_,_=>rfl
 | [a,b],1,_,_=>rfl
 | [a,b,c],0,_,_=>rfl
 | [a,b,c],1,_,_=>rfl
 | [a,b,c],2,_,_=>rfl
 | [a,b,c,d],0,_,_=>rfl
 | [a,b,c,d],1,_,_=>rfl
 | [a,b,c,d],2,_,_=>rfl
 | [a,b,c,d],3,_,_=>rfl
theorem zm0 {l l':List Int} (h:zb4 l=zb4 l') (hl:l.length=l'.length) (h4:l.length<=4):l=l':=by
 simp only [zb4,Bag_.mk.injEq] at h
 obtain ⟨h0,h1,h2,h3⟩:=h
 apply List.ext_getElem hl
 intro i hi hi'
 have e1:l[i]=l.getD i 0:=by simp [hi]
 have e2:l'[i]=l'.getD i 0:=by simp [hi']
 rw [e1,e2]
 match i,(show i<4 by omega) with
 | 0,_=>exact h0
 | 1,_=>exact h1
 | 2,_=>exact h2
 | 3,_=>exact h3
structure Opn where
 acts:List Int
 plays:Int
 p:Int
 c:Int
 k:Nat
def zh6 (w:Wheel) (p c:Int) (k:Nat):Opn:=⟨[(k:Int)],(turn w p (coin w k)).2,(turn w p (coin w k)).1,c+(turn w p (coin w k)).2,k⟩
def zjW (w:Wheel) (c:Int) (k:Nat):Opn:=⟨[-1,(k:Int)],(turn w 0 (coin w k)).2,(turn w 0 (coin w k)).1,c-1+(turn w 0 (coin w k)).2,k⟩
def zvC (w:Wheel) (p c:Int) (k:Nat):List Opn:=zh6 w p c k::(if c=0\/p=0 then [] else [zjW w c k])
def zjv (w:Wheel) (p c:Int) (l:List Int):Nat->Nat->List Opn
 | 0,_=>[]
 | d+1,k=>(if l.getD k 0=0 then [] else zvC w p c k)++zjv w p c l d (k+1)
theorem zeN {w:Wheel} {p c:Int} {l:List Int} {o:Opn}:∀{d k:Nat},o∈zjv w p c l d k↔∃j,k<=j/\j<k+d/\l.getD j 0≠0/\o∈zvC w p c j
 | 0,k=>by
  simp only [zjv,List.not_mem_nil,false_iff]
  rintro ⟨j,h1,h2,_⟩
  omega
 | d+1,k=>by
  simp only [zjv,List.mem_append]
  rw [zeN]
  constructor
  ·rintro (h | ⟨j,h1,h2,h3,h4⟩)
   ·split at h
    ·simp at h
    ·rename_i h0
     exact ⟨k,Nat.le_refl k,by omega,h0,h⟩
   ·exact ⟨j,by omega,by omega,h3,h4⟩
  ·rintro ⟨j,h1,h2,h3,h4⟩
   by_cases e:j=k
   ·subst e
    exact .inl (by rw [if_neg h3];exact h4)
   ·exact .inr ⟨j,by omega,by omega,h3,h4⟩
theorem zfd {w:Wheel} {p c:Int} {k:Nat} {o:Opn}:o∈zvC w p c k↔o=zh6 w p c k\/(c≠0/\p≠0/\o=zjW w c k):=by
 unfold zvC
 rw [List.mem_cons]
 by_cases h:c=0\/p=0
 ·rw [if_pos h]
  simp only [List.not_mem_nil,or_false]
  exact ⟨.inl,fun q=>q.elim id fun q=>(h.elim q.1 q.2.1).elim⟩
 ·rw [if_neg h]
  simp only [List.mem_singleton]
  exact or_congr_right ⟨fun q=>⟨fun e=>h (.inl e),fun e=>h (.inr e),q⟩,fun q=>q.2.2⟩
def Q (b:Bool) (w:Wheel):Nat->Int->Int->List Int->Int
 | 0,_,_,_=>0
 | T+1,p,c,l=>pick b ((zjv w p c l l.length 0).map fun o=>o.plays+Q b w T o.p o.c (zcC l o.k))
structure OkO (w:Wheel) (c:Int) (l:List Int) (o:Opn):Prop where
 k:o.k<w.Coins.length
 nz:l.getD o.k 0≠0
 p0:0<=o.p
 p1:o.p<w.Round
 c0:0<=o.c
 c1:o.c<=c+100
 y0:0<=o.plays
 y1:o.plays<=100
theorem zoZ {w:Wheel} (h:OkW w) {p c:Int} (hp:0<=p) (hp':p<w.Round) (hc:0<=c) {l:List Int} (hl:OkP w l) {o:Opn} (ho:o∈zjv w p c l l.length 0):OkO w c l o:=by
 have hr:=h.r1
 obtain ⟨j,_,h2,h3,h4⟩:=zeN.1 ho
 have hj:j<w.Coins.length:=by have:=hl.len;omega
 have hco:=zdB h (a:=(j:Int)) (by omega) (by omega)
 rcases zfd.1 h4 with rfl | ⟨h5,h6,rfl⟩
 ·have ht:=zcO h hp hp' (show 0<=coin w j by omega)
  exact ⟨hj,h3,ht.1.1,ht.1.2,by show 0<=c+_;omega,by show c+_<=_;omega,ht.2.1,by show (turn w p (coin w j)).2<=100;omega⟩
 ·have ht:=zcO h (p:=0) (by omega) (by omega) (show 0<=coin w j by omega)
  exact ⟨hj,h3,ht.1.1,ht.1.2,by show 0<=c-1+_;omega,by show c-1+_<=_;omega,ht.2.1,by show (turn w 0 (coin w j)).2<=100;omega⟩
theorem zlg:∀{l:List Int},total l≠0->∃j,j<l.length/\l.getD j 0≠0
 | [],h=>(h rfl).elim
 | x::l,h=>by
  by_cases e:x=0
  ·obtain ⟨j,h1,h2⟩:=zlg (l:=l) (fun q=>h (by simp [total,q,e]))
   exact ⟨j+1,by simp;omega,by simpa using h2⟩
  ·exact ⟨0,by simp,by simpa using e⟩
theorem zsP {w:Wheel} {p c:Int} {l:List Int} (h:total l≠0):∃j,j<l.length/\l.getD j 0≠0/\zh6 w p c j∈zjv w p c l l.length 0:=by
 obtain ⟨j,h1,h2⟩:=zlg h
 exact ⟨j,h1,h2,zeN.2 ⟨j,by omega,by omega,h2,zfd.2 (.inl rfl)⟩⟩
theorem zo0 (b:Bool) {w:Wheel} (h:OkW w):∀(T:Nat) {p c:Int} {l:List Int},0<=p->p<w.Round->0<=c->OkP w l->0<=Q b w T p c l/\Q b w T p c l<=100*T
 | 0,p,c,l,_,_,_,_=>by simp [Q]
 | T+1,p,c,l,hp,hp',hc,hl=>by
  simp only [Q]
  by_cases e:((zjv w p c l l.length 0).map fun o=>o.plays+Q b w T o.p o.c (zcC l o.k))=[]
  ·rw [e]
   exact ⟨by simp [zpS],by simp [zpS];omega⟩
  ·obtain ⟨h1,_⟩:=zgL b e
   obtain ⟨o,ho,he⟩:=List.mem_map.1 h1
   have ok:=zoZ h hp hp' hc hl ho
   have:=zo0 b h T ok.p0 ok.p1 ok.c0 (hl.less ok.k ok.nz)
   have:=ok.y0
   have:=ok.y1
   rw [←he]
   omega
theorem zsQ (b:Bool) {w:Wheel} (h:OkW w):∀(T:Nat) {p c c':Int} {l:List Int},0<=p->p<w.Round->(T:Int)<=c->(T:Int)<=c'->OkP w l->(∀j,w.Coins.length<=j->l.getD j 0=0)->Q b w T p c l=Q b w T p c' l
 | 0,p,c,c',l,_,_,_,_,_,_=>rfl
 | T+1,p,c,c',l,hp,hp',hc,hc',hl,hz=>by
  simp only [Q]
  congr 1
  have key:∀o o':Opn,o.plays=o'.plays->o.p=o'.p->o.k=o'.k->(0<=o.p/\o.p<w.Round)->(T:Int)<=o.c->(T:Int)<=o'.c->o.k<w.Coins.length->l.getD o.k 0≠0->o.plays+Q b w T o.p o.c (zcC l o.k)=o'.plays+Q b w T o'.p o'.c (zcC l o'.k):=by
   intro o o' e1 e2 e3 hq h1 h2 h3 h4
   have hl':=hl.less h3 h4
   rw [←e1,←e2,←e3,zsQ b h T hq.1 hq.2 h1 h2 hl' (fun j hj=>by
    unfold zcC
    rw [List.getD_eq_getElem?_getD,List.getElem?_set_ne (by omega),←List.getD_eq_getElem?_getD]
    exact hz j hj)]
  have main:∀d k,(zjv w p c l d k).map (fun o=>o.plays+Q b w T o.p o.c (zcC l o.k))=(zjv w p c' l d k).map (fun o=>o.plays+Q b w T o.p o.c (zcC l o.k)):=by
   intro d
   induction d with
   | zero=>intro k;rfl
   | succ d ih =>
    intro k
    simp only [zjv,List.map_append]
    rw [ih (k+1)]
    congr 1
    split
    ·rfl
    ·rename_i h0
     have hk:k<w.Coins.length:=by
      rcases Nat.lt_or_ge k w.Coins.length with q | q
      ·exact q
      ·exact (h0 (hz k q)).elim
     have hco:=zdB h (a:=(k:Int)) (by omega) (by omega)
     have hr:=h.r1
     have ht:=zcO h hp hp' (show 0<=coin w k by omega)
     have ht0:=zcO h (p:=0) (by omega) (by omega) (show 0<=coin w k by omega)
     have k1:=key (zh6 w p c k) (zh6 w p c' k) rfl rfl rfl ht.1 (by show (T:Int)<=c+_;omega) (by show (T:Int)<=c'+_;omega) hk h0
     have k2:=key (zjW w c k) (zjW w c' k) rfl rfl rfl ht0.1 (by show (T:Int)<=c-1+_;omega) (by show (T:Int)<=c'-1+_;omega) hk h0
     unfold zvC
     by_cases e:p=0
     ·rw [if_pos (.inr e),if_pos (.inr e)]
      simp [k1]
     ·rw [if_neg (by omega),if_neg (by omega)]
      simp [k1,k2]
  exact main _ _
theorem OkP.out {w:Wheel} {l:List Int} (h:OkP w l):∀j,w.Coins.length<=j->l.getD j 0=0:=fun j hj=>by
 rw [←h.len] at hj
 simp [hj]
theorem zyC (b:Bool) {w:Wheel} (h:OkW w) {T:Nat} {p c:Int} {l:List Int} (hp:0<=p) (hp':p<w.Round) (hl:OkP w l):Q b w T p (min c T) l=Q b w T p c l:=by
 by_cases e:c<=T
 ·rw [Int.min_eq_left e]
 ·rw [Int.min_eq_right (by omega)]
  exact zsQ b h T hp hp' (by omega) (by omega) hl hl.out
def zti {S:Type} (F:Opn->S->Option (Bool×S)):List Opn->S->Option S
 | [],s=>some s
 | o::l,s=>(F o s).bind fun r=>if r.1=true then zti F l r.2 else some r.2
def spot (l:List Int) (p c:Int):Spot_:=⟨zb4 l,p,c⟩
theorem zsR {n:Nat} {w:Wheel} (h:OkW w) (hn:200<=n) {p c:Int} (hp:0<=p) (hp':p<w.Round) (hc:-1<=c) (hc2:c<1099511627776) {l:List Int} (hl:OkP w l) {k:Nat} (hk:k<w.Coins.length) :
  zbp n ⟨w⟩ k (l.getD 0 0) (l.getD 1 0) (l.getD 2 0) (l.getD 3 0) p c=some (spot (zcC l k) (turn w p (coin w k)).1 (c+(turn w p (coin w k)).2),(turn w p (coin w k)).2):=by
 have hco:=zdB h (a:=(k:Int)) (by omega) (by omega)
 have ht:=zcO h hp hp' (show 0<=coin w k by omega)
 have h4:=h.clen
 have hg:=zgt hl.nn k
 have htot:=hl.tot
 unfold zbp
 show Option.bind (idx w.Coins (k:Int)) _=_
 rw [zmY (by omega) (by omega),zac,zsK h (by omega) hp hp' (by omega) (by omega),zac]
 rw [show ([l.getD 0 0,l.getD 1 0,l.getD 2 0,l.getD 3 0]:List Int)=zsO l from rfl,ziq (by omega),zac,zac,zaT (by omega) (by omega),zmZ (by rw [hl.len];exact hk) (by rw [hl.len];exact h4),zac,zaT (by omega) (by omega)]
 rfl
theorem zvD {n:Nat} {w:Wheel} (h:OkW w) (hn:200<=n) {p c:Int} (hp:0<=p) (hp':p<w.Round) (hc:0<=c) (hc2:c<1099511627776) {l:List Int} (hl:OkP w l) {k:Nat} (hk:k<w.Coins.length) :
  zca n ⟨w⟩ (spot l p c) k false=some (spot (zcC l k) (zh6 w p c k).p (zh6 w p c k).c,(zh6 w p c k).plays):=by
 unfold zca
 rw [if_neg (by simp)]
 exact zsR h hn hp hp' (by omega) hc2 hl hk
theorem zvE {n:Nat} {w:Wheel} (h:OkW w) (hn:200<=n) {p c:Int} (hc:0<=c) (hc2:c<1099511627776) {l:List Int} (hl:OkP w l) {k:Nat} (hk:k<w.Coins.length) :
  zca n ⟨w⟩ (spot l p c) k true=some (spot (zcC l k) (zjW w c k).p (zjW w c k).c,(zjW w c k).plays):=by
 have hr:=h.r1
 unfold zca
 rw [if_pos rfl]
 show zbp n ⟨w⟩ k _ _ _ _ 0 (w64 (c-1))=_
 rw [zaT (by omega) (by omega)]
 exact zsR h hn (by omega) (by omega) (by omega) (by omega) hl hk
theorem zvF {S:Type} {n:Nat} {w:Wheel} (h:OkW w) (hn:200<=n) {p c:Int} (hp:0<=p) (hp':p<w.Round) (hc:0<=c) (hc2:c<1099511627776) {l:List Int} (hl:OkP w l) (b:Bool) (aF:List Int->Spot_->Int->S->Option (Bool×S)) (st:S) :
  zeZ n aF (⟨w⟩,b) (spot l p c) st=(zti (fun o s=>aF o.acts (spot (zcC l o.k) o.p o.c) o.plays s) (zjv w p c l l.length 0) st).map fun s=>((),s):=by
 have h4:=h.clen
 have key:=zyA (F:=fun m i s=>zaN n (⟨w⟩,b) (spot l p c) aF m (l.getD 0 0) (l.getD 1 0) (l.getD 2 0) (l.getD 3 0) i s) (b:=w.Coins.length)
  (spec:=fun i s=>(zti (fun o s=>aF o.acts (spot (zcC l o.k) o.p o.c) o.plays s) (zjv w p c l (w.Coins.length-i) i) s).map fun s=>((),s)) (by omega)
  (fun m s=>by simp [zaN,zcG,zjv,zti])
  (fun m i s hi hrec=>by
   obtain ⟨d,hd⟩:∃d,w.Coins.length-i=d+1:=⟨w.Coins.length-i-1,by omega⟩
   have hd':w.Coins.length-(i+1)=d:=by omega
   simp only [hd'] at hrec
   simp only [zaN,zcG,hd,zjv]
   rw [if_pos (by simp;omega),show ([l.getD 0 0,l.getD 1 0,l.getD 2 0,l.getD 3 0]:List Int)=zsO l from rfl,ziq (by omega),zac]
   by_cases e:l.getD i 0=0
   ·rw [if_pos (by simpa using e),if_pos e]
    simp only [zbb,List.nil_append]
    exact hrec s
   ·rw [if_neg (by simpa using e),if_neg e]
    rw [show (⟨⟨l.getD 0 0,l.getD 1 0,l.getD 2 0,l.getD 3 0⟩,(spot l p c).place,(spot l p c).credit⟩:Spot_)=spot l p c from rfl,zvD h hn hp hp' hc hc2 hl hi,zac]
    unfold zvC
    simp only [List.cons_append,zti]
    show Option.bind (aF (zh6 w p c i).acts _ _ s) _=_
    rw [show (zh6 w p c i).k=i from rfl]
    cases hF:aF (zh6 w p c i).acts (spot (zcC l i) (zh6 w p c i).p (zh6 w p c i).c) (zh6 w p c i).plays s with
    | none=>rfl
    | some r =>
     simp only [zac]
     cases hr:r.1 with
     | false=>simp
     | true =>
      simp only [Bool.not_true,Bool.false_eq_true,if_false,if_true]
      have skip:za1 n (zaN n (⟨w⟩,b) (spot l p c) aF m) (⟨w⟩,b) (spot l p c) aF (l.getD 0 0) (l.getD 1 0) (l.getD 2 0) (l.getD 3 0) (i:Int) r true=(zti (fun o s=>aF o.acts (spot (zcC l o.k) o.p o.c) o.plays s) (zjv w p c l d (i+1)) r.2).map fun s=>((),s):=by
       unfold za1 zbb
       rw [if_pos rfl]
       exact hrec r.2
      have go:c≠0->za1 n (zaN n (⟨w⟩,b) (spot l p c) aF m) (⟨w⟩,b) (spot l p c) aF (l.getD 0 0) (l.getD 1 0) (l.getD 2 0) (l.getD 3 0) (i:Int) r false=(zti (fun o s=>aF o.acts (spot (zcC l o.k) o.p o.c) o.plays s) (zjW w c i::zjv w p c l d (i+1)) r.2).map fun s=>((),s):=by
       intro hc0
       unfold za1 zbb
       rw [if_neg (by simp)]
       rw [show (⟨⟨l.getD 0 0,l.getD 1 0,l.getD 2 0,l.getD 3 0⟩,(spot l p c).place,(spot l p c).credit⟩:Spot_)=spot l p c from rfl,zvE h hn hc hc2 hl hi,zac]
       simp only [zti]
       show Option.bind (aF (zjW w c i).acts _ _ r.2) _=_
       rw [show (zjW w c i).k=i from rfl]
       cases hF2:aF (zjW w c i).acts (spot (zcC l i) (zjW w c i).p (zjW w c i).c) (zjW w c i).plays r.2 with
       | none=>rfl
       | some r2 =>
        simp only [zac]
        cases hr2:r2.1 with
        | false=>simp
        | true =>
         simp only [Bool.not_true,Bool.false_eq_true,if_false,if_true]
         exact hrec r2.2
      show (if (c==0)=true then _ else za1 n _ _ _ aF _ _ _ _ _ r (p==0))=_
      by_cases e1:c=0
      ·rw [if_pos (by simpa using e1),if_pos (.inl e1)]
       exact skip
      ·rw [if_neg (by simpa using e1)]
       by_cases e2:p=0
       ·rw [if_pos (.inr e2),show (p==0)=true by simpa using e2]
        exact skip
       ·rw [if_neg (by simp [e1,e2]),show (p==0)=false by simpa using e2]
        exact go e1)
  w.Coins.length 0 n st (by omega) (by omega) (by omega)
 rw [Nat.sub_zero,←hl.len] at key
 exact key
def zna (b:Bool) (w:Wheel) (M:List (Spot_×Int)):Prop :=
 (M.map (·.1)).Nodup/\(∀e,e∈M->∃l p c,e.1=spot l p c/\OkP w l/\(0<=p/\p<w.Round)/\(0<=c/\c<1099511627776)/\e.2=Q b w (total l).toNat p c l)/\b=true
theorem zna.nil (b:Bool) (w:Wheel) (hb:b=true:=by rfl):zna b w []:=⟨by simp,fun e h=>by simp at h,hb⟩
theorem zgm {x:Int} (h1:-9223372036854775808<=x) (h2:x<9223372036854775808):okI x=true:=by
 simp only [okI,Lit.wf,IntKind.min,IntKind.max,IntKind.signed,IntKind.bits]
 simp
 omega
theorem znZ {w:Wheel} (h:OkW w) {l:List Int} (hl:OkP w l) {p c:Int} (hp:0<=p) (hp':p<w.Round) (hc:0<=c) (hc2:c<1099511627776):zgZ (spot l p c)=true:=by
 have hr:=h.r2
 have ht:=hl.tot
 have g:=zgt hl.nn
 have g0:=g 0
 have g1:=g 1
 have g2:=g 2
 have g3:=g 3
 simp only [zgZ,spot,zb4,List.all_cons,List.all_nil,Bool.and_true,Bool.and_eq_true]
 exact ⟨zgm (by omega) (by omega),zgm (by omega) (by omega),zgm (by omega) (by omega),zgm (by omega) (by omega),zgm (by omega) (by omega),zgm (by omega) (by omega)⟩
theorem zna.mok {b:Bool} {w:Wheel} {M:List (Spot_×Int)} (hM:zna b w M) (h:OkW w) {l:List Int} (hl:OkP w l) {p c:Int} (hp:0<=p) (hp':p<w.Round) (hc:0<=c) (hc2:c<1099511627776):mok zgZ M (spot l p c)=true:=by
 unfold Go.AM.mok
 rw [znZ h hl hp hp' hc hc2,show M.all (fun p=>zgZ p.1)=true from List.all_eq_true.2 fun e he=>?_,show decide ((M.map (·.1)).Nodup)=true by simpa using hM.1]
 ·rfl
 ·obtain ⟨l',p',c',e1,e2,e3,e4,_⟩:=hM.2.1 e he
  rw [e1]
  exact znZ h e2 e3.1 e3.2 e4.1 e4.2
theorem zna.get {b:Bool} {w:Wheel} {M:List (Spot_×Int)} (hM:zna b w M) (h:OkW w) {l:List Int} (hl:OkP w l) {p c:Int} (hk:zbt M (spot l p c)=true):zoC M (spot l p c)=Q b w (total l).toNat p c l:=by
 obtain ⟨l',p',c',e1,e2,e3,e4,e5⟩:=hM.2.1 _ (zpQ hk)
 simp only [spot,Spot_.mk.injEq] at e1
 obtain ⟨q1,q2,q3⟩:=e1
 have e:l=l':=zm0 q1 (by rw [hl.len,e2.len]) (by rw [hl.len];exact h.clen)
 subst e q2 q3
 exact e5
theorem zna.set {b:Bool} {w:Wheel} {M:List (Spot_×Int)} (hM:zna b w M) {l:List Int} (hl:OkP w l) {p c:Int} (hp:0<=p) (hp':p<w.Round) (hc:0<=c) (hc2:c<1099511627776):zna b w (zf8 M (spot l p c) (Q b w (total l).toNat p c l)):=by
 refine ⟨zqZ hM.1,fun e he=>?_,hM.2.2⟩
 rcases zpR he with rfl | he
 ·exact ⟨l,p,c,rfl,hl,⟨hp,hp'⟩,⟨hc,hc2⟩,rfl⟩
 ·exact hM.2.1 e he
theorem zsS {b:Bool} (hb:b=true) (x y:Int):zhv b x y=some (cond b (decide (x>y)) (decide (x<y))):=by subst hb;rfl
theorem zn0 {n:Nat} {b:Bool} {w:Wheel} {l:List Int} {T:Nat}
  (rec:∀o,OkO w 2000 l o->∀M,zna b w M->∃M',zbl n (⟨w⟩,b) (spot (zcC l o.k) o.p o.c) M=some (Q b w T o.p o.c (zcC l o.k),M')/\zna b w M')
  (hq:∀o,OkO w 2000 l o->0<=Q b w T o.p o.c (zcC l o.k)/\Q b w T o.p o.c (zcC l o.k)<=1000000) :
  ∀(os:List Opn),(∀o,o∈os->OkO w 2000 l o)->∀(f:Bool) (m:Int) (M:List (Spot_×Int)),zna b w M ->
   ∃M',zti (fun o s=>zbY n (zbl n) o.acts (spot (zcC l o.k) o.p o.c) o.plays (⟨w⟩,b) s) os (f,m,M) =
    some ((((os.map fun o=>o.plays+Q b w T o.p o.c (zcC l o.k)).foldl (zgK b) (f,m)).1),(((os.map fun o=>o.plays+Q b w T o.p o.c (zcC l o.k)).foldl (zgK b) (f,m)).2),M')/\zna b w M'
 | [],_,f,m,M,hM=>⟨M,rfl,hM⟩
 | o::os,ho,f,m,M,hM=>by
  have ok:=ho o (by simp)
  obtain ⟨M1,h1,h2⟩:=rec o ok M hM
  have hr:=hq o ok
  have y0:=ok.y0
  have y1:=ok.y1
  have step:zbY n (zbl n) o.acts (spot (zcC l o.k) o.p o.c) o.plays (⟨w⟩,b) (f,m,M)=some (true,(zgK b (f,m) (o.plays+Q b w T o.p o.c (zcC l o.k))).1,(zgK b (f,m) (o.plays+Q b w T o.p o.c (zcC l o.k))).2,M1):=by
   unfold zbY
   simp only []
   rw [h1,zac]
   simp only [zbR,zbQ]
   rw [zaT (by omega) (by omega),zsS hM.2.2,zac]
   unfold zgK
   cases f with
   | true=>simp
   | false =>
    simp only [Bool.false_eq_true,false_or,if_false]
    cases hb:cond b (decide (o.plays+Q b w T o.p o.c (zcC l o.k)>m)) (decide (o.plays+Q b w T o.p o.c (zcC l o.k)<m))<;>simp
  obtain ⟨M2,h3,h4⟩:=zn0 rec hq os (fun o' h'=>ho o' (by simp [h'])) (zgK b (f,m) (o.plays+Q b w T o.p o.c (zcC l o.k))).1 (zgK b (f,m) (o.plays+Q b w T o.p o.c (zcC l o.k))).2 M1 h2
  refine ⟨M2,?_,h4⟩
  simp only [zti,step,zac,if_true,h3,List.map_cons,List.foldl_cons]
theorem zn1 {l:List Int} (h4:l.length<=4):l.getD 0 0+l.getD 1 0+l.getD 2 0+l.getD 3 0=total l:=by
 match l,h4 with
 | [],_=>rfl
 | [a],_=>simp [total]
 | [a,b],_=>simp [total]
 | [a,b,c],_=>simp [total];omega
 | [a,b,c,d],_=>simp [total];omega
theorem zpT {n:Nat} (rec:(Wheel_×Bool)->Spot_->(List (Spot_×Int))->Option (Int×(List (Spot_×Int)))) (a0:Wheel_×Bool) {l:List Int} (h4:l.length<=4) (hnn:∀x,x∈l->0<=x) (ht:total l<=1000) (p c:Int) (M:List (Spot_×Int)) (hn:10<=n) :
  zcb n rec a0 (spot l p c) M=zb0 n rec a0 (spot l p c) M (total l) (l.getD 0 0) (l.getD 1 0) (l.getD 2 0) (l.getD 3 0):=by
 have g:=zgt hnn
 have g0:=g 0
 have g1:=g 1
 have g2:=g 2
 have g3:=g 3
 have hb:=zn1 h4
 obtain ⟨m,rfl⟩:∃m,n=m+5:=⟨n-5,by omega⟩
 unfold zcb
 simp only [zct,zdD]
 have e1:w64 (0+1)=1:=rfl
 have e2:w64 (1+1)=2:=rfl
 have e3:w64 (2+1)=3:=rfl
 have e4:w64 (3+1)=4:=rfl
 have i0:idx ([(spot l p c).left.c0,(spot l p c).left.c1,(spot l p c).left.c2,(spot l p c).left.c3]:List Int) 0=some (l.getD 0 0):=rfl
 have i1:idx ([(spot l p c).left.c0,(spot l p c).left.c1,(spot l p c).left.c2,(spot l p c).left.c3]:List Int) 1=some (l.getD 1 0):=rfl
 have i2:idx ([(spot l p c).left.c0,(spot l p c).left.c1,(spot l p c).left.c2,(spot l p c).left.c3]:List Int) 2=some (l.getD 2 0):=rfl
 have i3:idx ([(spot l p c).left.c0,(spot l p c).left.c1,(spot l p c).left.c2,(spot l p c).left.c3]:List Int) 3=some (l.getD 3 0):=rfl
 rw [if_pos (by decide),i0,zac,e1,zaT (x:=0+_) (by omega) (by omega)]
 rw [if_pos (by decide),i1,zac,e2,zaT (x:=0+l.getD 0 0+_) (by omega) (by omega)]
 rw [if_pos (by decide),i2,zac,e3,zaT (x:=0+l.getD 0 0+l.getD 1 0+_) (by omega) (by omega)]
 rw [if_pos (by decide),i3,zac,e4,zaT (x:=0+l.getD 0 0+l.getD 1 0+l.getD 2 0+_) (by omega) (by omega)]
 rw [if_neg (by decide),show 0+l.getD 0 0+l.getD 1 0+l.getD 2 0+l.getD 3 0=total l by omega]
 rfl
theorem zvG {b:Bool} {w:Wheel} (h:OkW w):∀(T n:Nat) (p c:Int) (l:List Int) (M:List (Spot_×Int)),(T:Int)=total l->T+300<=n->OkP w l->0<=p->p<w.Round->0<=c->c<1099511627776->zna b w M ->
  ∃M',zbl n (⟨w⟩,b) (spot l p c) M=some (Q b w T p c l,M')/\zna b w M':=by
 intro T
 induction T with
 | zero =>
  intro n p c l M hT hn hl hp hp' hc hc2 hM
  obtain ⟨n,rfl⟩:∃m,n=m+1:=⟨n-1,by omega⟩
  have h4:l.length<=4:=by rw [hl.len];exact h.clen
  refine ⟨M,?_,hM⟩
  show zcb n _ _ _ _=_
  rw [zpT _ _ h4 hl.nn hl.tot p c M (by omega)]
  unfold zb0
  have e0:total l=0:=by omega
  rw [show (⟨⟨l.getD 0 0,l.getD 1 0,l.getD 2 0,l.getD 3 0⟩,(spot l p c).place,min (spot l p c).credit (total l)⟩:Spot_)=spot l p (min c (total l)) from rfl]
  unfold zrF
  rw [if_pos (hM.mok h hl hp hp' (by omega) (by omega)),zac]
  have hv:zoC M (spot l p (min c (total l)))=0:=by
   cases hh:zbt M (spot l p (min c (total l))) with
   | true =>
    rw [hM.get h hl hh,e0]
    rfl
   | false=>exact zsN hh
  rw [hv,e0]
  unfold zbZ
  simp [Q]
 | succ T ih =>
  intro n p c l M hT hn hl hp hp' hc hc2 hM
  obtain ⟨n,rfl⟩:∃m,n=m+1:=⟨n-1,by omega⟩
  have h4:l.length<=4:=by rw [hl.len];exact h.clen
  have htot:=hl.tot
  have hc':0<=min c (total l)/\min c (total l)<=total l:=by omega
  have hT2:(total l).toNat=T+1:=by omega
  have hQ:Q b w (T+1) p (min c (total l)) l=Q b w (T+1) p c l:=by
   rw [←hT]
   exact zyC b h hp hp' hl
  show ∃M',zcb n _ _ _ _=_/\_
  rw [zpT _ _ h4 hl.nn hl.tot p c M (by omega)]
  unfold zb0 zbZ
  rw [show (⟨⟨l.getD 0 0,l.getD 1 0,l.getD 2 0,l.getD 3 0⟩,(spot l p c).place,min (spot l p c).credit (total l)⟩:Spot_)=spot l p (min c (total l)) from rfl]
  unfold zrF
  rw [if_pos (hM.mok h hl hp hp' (by omega) (by omega)),zac]
  cases hh:zbt M (spot l p (min c (total l))) with
  | true =>
   refine ⟨M,?_,hM⟩
   rw [if_pos rfl,if_pos rfl,hM.get h hl hh,hT2,hQ]
  | false =>
   rw [if_neg (by simp),show (total l==0)=false by simp;omega,if_neg (by simp)]
   rw [zvF h (by omega) hp hp' hc'.1 (by omega) hl b]
   have hok:∀o,o∈zjv w p (min c (total l)) l l.length 0->OkO w 2000 l o:=fun o ho=>by
    have:=zoZ h hp hp' hc'.1 hl ho
    exact ⟨this.k,this.nz,this.p0,this.p1,this.c0,by have:=this.c1;omega,this.y0,this.y1⟩
   obtain ⟨M1,h1,h2⟩:=zn0 (n:=n) (b:=b) (w:=w) (l:=l) (T:=T)
    (fun o ok M0 hM0=>ih n o.p o.c (zcC l o.k) M0 (by rw [zfK (by rw [hl.len];exact ok.k)];omega) (by omega) (hl.less ok.k ok.nz) ok.p0 ok.p1 ok.c0 (by have:=ok.c1;omega) hM0)
    (fun o ok=>by
     have:=zo0 b h T ok.p0 ok.p1 ok.c0 (hl.less ok.k ok.nz)
     omega)
    _ hok true 0 M hM
   rw [h1,Option.map_some,zac]
   simp only []
   unfold zhp
   rw [if_pos (h2.mok h hl hp hp' (by omega) (by omega)),zac]
   have hset:=h2.set hl hp hp' hc'.1 (show min c (total l)<1099511627776 by omega)
   rw [hT2] at hset
   have hval':(((zjv w p (min c (total l)) l l.length 0).map fun o=>o.plays+Q b w T o.p o.c (zcC l o.k)).foldl (zgK b) (true,0)).2=Q b w (T+1) p (min c (total l)) l:=rfl
   rw [hval']
   exact ⟨_,by rw [hQ],hQ▸hset⟩
def zi8 (w:Wheel) (p c:Int) (l:List Int):Nat->Nat->List Opn
 | 0,_=>[]
 | d+1,k=>(if l.getD k 0=0 then [] else [zh6 w p c k])++zi8 w p c l d (k+1)
theorem zf3 {w:Wheel} {p c:Int} {l:List Int} {o:Opn}:∀{d k:Nat},o∈zi8 w p c l d k↔∃j,k<=j/\j<k+d/\l.getD j 0≠0/\o=zh6 w p c j
 | 0,k=>by
  simp only [zi8,List.not_mem_nil,false_iff]
  rintro ⟨j,h1,h2,_⟩
  omega
 | d+1,k=>by
  simp only [zi8,List.mem_append]
  rw [zf3]
  constructor
  ·rintro (h | ⟨j,h1,h2,h3,h4⟩)
   ·split at h
    ·simp at h
    ·rename_i h0
     exact ⟨k,Nat.le_refl k,by omega,h0,by simpa using h⟩
   ·exact ⟨j,by omega,by omega,h3,h4⟩
  ·rintro ⟨j,h1,h2,h3,h4⟩
   by_cases e:j=k
   ·subst e
    exact .inl (by rw [if_neg h3];simpa using h4)
   ·exact .inr ⟨j,by omega,by omega,h3,h4⟩
theorem zuG (w:Wheel) (c:Int) (l:List Int):∀d k,zjv w 0 c l d k=zi8 w 0 c l d k
 | 0,k=>rfl
 | d+1,k=>by
  simp only [zjv,zi8,zuG w c l d (k+1)]
  congr 1
  split
  ·rfl
  ·unfold zvC
   rw [if_pos (.inr rfl)]
def zpU (b:Bool) (w:Wheel) (T:Nat) (l:List Int) (o:Opn):Int:=o.plays+Q b w T o.p o.c (zcC l o.k)
def zvH (b:Bool) (x y:Int):Int:=cond b (max x y) (min x y)
theorem zpV (b:Bool) (x y:Int):leB b x (zvH b x y)/\leB b y (zvH b x y)/\(zvH b x y=x\/zvH b x y=y):=by
 cases b
 ·simp only [leB,zvH,cond_false];omega
 ·simp only [leB,zvH,cond_true];omega
theorem zvI (b:Bool) (w:Wheel) (T:Nat) (p c:Int) (l:List Int) (hc:c≠0) (hp:p≠0) (ht:total l≠0) :
  Q b w (T+1) p c l=zvH b (pick b ((zi8 w p c l l.length 0).map (zpU b w T l))) (Q b w (T+1) 0 (c-1) l):=by
 have h0:Q b w (T+1) 0 (c-1) l=pick b ((zi8 w 0 (c-1) l l.length 0).map (zpU b w T l)):=by
  simp only [Q,zuG]
  rfl
 rw [h0]
 obtain ⟨j,h1,h2,_⟩:=zsP (w:=w) (p:=p) (c:=c) ht
 have e1:(zi8 w p c l l.length 0).map (zpU b w T l)≠[]:=by
  intro e
  have:=List.mem_map_of_mem (f:=zpU b w T l) (zf3.2 ⟨j,by omega,by omega,h2,rfl⟩:zh6 w p c j∈zi8 w p c l l.length 0)
  rw [e] at this
  simp at this
 have e2:(zi8 w 0 (c-1) l l.length 0).map (zpU b w T l)≠[]:=by
  intro e
  have:=List.mem_map_of_mem (f:=zpU b w T l) (zf3.2 ⟨j,by omega,by omega,h2,rfl⟩:zh6 w 0 (c-1) j∈zi8 w 0 (c-1) l l.length 0)
  rw [e] at this
  simp at this
 obtain ⟨a1,a2⟩:=zgL b e1
 obtain ⟨b1,b2⟩:=zgL b e2
 obtain ⟨m1,m2,m3⟩:=zpV b (pick b ((zi8 w p c l l.length 0).map (zpU b w T l))) (pick b ((zi8 w 0 (c-1) l l.length 0).map (zpU b w T l)))
 have vs:∀j,zpU b w T l (zjW w c j)=zpU b w T l (zh6 w 0 (c-1) j):=fun j=>rfl
 simp only [Q]
 refine zvB b ?_ ?_
 ·show _∈(zjv w p c l l.length 0).map (zpU b w T l)
  rw [List.mem_map]
  rcases m3 with m3 | m3
  ·rw [m3]
   obtain ⟨o,ho,he⟩:=List.mem_map.1 a1
   obtain ⟨j,q1,q2,q3,rfl⟩:=zf3.1 ho
   exact ⟨_,zeN.2 ⟨j,q1,q2,q3,zfd.2 (.inl rfl)⟩,he⟩
  ·rw [m3]
   obtain ⟨o,ho,he⟩:=List.mem_map.1 b1
   obtain ⟨j,q1,q2,q3,rfl⟩:=zf3.1 ho
   exact ⟨zjW w c j,zeN.2 ⟨j,q1,q2,q3,zfd.2 (.inr ⟨hc,hp,rfl⟩)⟩,by rw [vs];exact he⟩
 ·intro v hv
  obtain ⟨o,ho,he⟩:=List.mem_map.1 hv
  obtain ⟨j,q1,q2,q3,q4⟩:=zeN.1 ho
  rw [←he]
  rcases zfd.1 q4 with rfl | ⟨_,_,rfl⟩
  ·exact (a2 _ (List.mem_map_of_mem (f:=zpU b w T l) (zf3.2 ⟨j,q1,q2,q3,rfl⟩))).trans m1
  ·refine leB.trans ?_ m2
   show leB b (zpU b w T l (zjW w c j)) _
   rw [vs]
   exact b2 _ (List.mem_map_of_mem (f:=zpU b w T l) (zf3.2 ⟨j,q1,q2,q3,rfl⟩))
def zb5 (w:Wheel) (l:List Int):Bool:=decide (l.length=w.Coins.length)&&l.all (fun x=>inR x 0 12)&&decide (total l<=12)
theorem zm1 {w:Wheel} {l:List Int} (h:zb5 w l=true):OkP w l/\total l<=12:=by
 simp only [zb5,Bool.and_eq_true,decide_eq_true_eq,List.all_eq_true] at h
 exact ⟨⟨h.1.1,fun x hx=>(zci.1 (h.1.2 x hx)).1,by omega⟩,h.2⟩
theorem zq0 {n:Nat} {w:Wheel} (hw:w.Coins.length<100000) (hn:w.Coins.length<n) (l:List Int):zfE n w l=some (zb5 w l):=by
 unfold zfE zb5
 by_cases hl:l.length=w.Coins.length
 ·rw [if_neg (by simp;omega)]
  have key:=zua (F:=fun m i (s:Int)=>zb3 l m s i) (xs:=l) (spec:=fun k s=>some (k.all (fun x=>inR x 0 12)&&decide (s+total k<=12))) (I:=fun k s=>0<=s/\s+12*k.length<=100000000) (by omega)
   (fun m s hI=>by simp [zb3,zdE,zej,total])
   (fun m i x k s hI hx hi _ _ hrec=>by
    simp only [List.length_cons] at hI
    simp only [zb3,zdE]
    rw [if_pos (by simpa using hi),hx,zac,zle,zac,zac]
    by_cases q:inR x 0 12=true
    ·have:=zci.1 q
     rw [if_neg (by simp [q]),zaT (x:=s+x) (by omega) (by omega),hrec (s+x) ⟨by omega,by omega⟩]
     have e:s+total (x::k)=s+x+total k:=by simp only [total];omega
     rw [e]
     simp only [List.all_cons,q,Bool.true_and]
    ·rw [if_pos (by simpa using q)]
     simp [q])
   l 0 n 0 (by omega) rfl (by omega) ⟨by omega,by omega⟩
  rw [show zb3 l n 0 0=_ from key]
  simp [hl]
 ·rw [if_pos (by simp;omega)]
  simp [hl]
theorem zpW:∀{l:List Int},(∀x,x∈l->0<=x/\x<=12)->total l<=12*l.length
 | [],_=>by simp [total]
 | x::l,h=>by
  have h1:=h x (by simp)
  have h2:=zpW (l:=l) (fun y hy=>h y (by simp [hy]))
  simp only [total,List.length_cons]
  omega
theorem zjO:∀(a b:List Int),total (a++b)=total a+total b
 | [],b=>by simp [total]
 | x::a,b=>by
  simp only [List.cons_append,total]
  rw [zjO a b]
  omega
theorem zvJ {n:Nat} {w:Wheel} (h:OkW w) (hn:100<=n) (l:List Int) (hl:l.length<100000) (hn2:l.length<n):∃st,zdi n ⟨w⟩ l (spot [] 0 0)=some (zb5 w l,st)/\(zb5 w l=true->st=spot l 0 0):=by
 have h4:=h.clen
 have key:∀(k pre:List Int) (m:Nat) (s:Int),l=pre++k->k.length<m->pre.length<=w.Coins.length->s=total pre->(∀x,x∈pre->0<=x/\x<=12) ->
   ∃st,zbv ⟨w⟩ (spot [] 0 0) l m s (pre.length:Int) (pre.getD 0 0) (pre.getD 1 0) (pre.getD 2 0) (pre.getD 3 0)=some (zb5 w l,st)/\(zb5 w l=true->st=spot l 0 0):=by
  intro k
  induction k with
  | nil =>
   intro pre m s he hm hpl hs hx
   obtain ⟨m,rfl⟩:∃q,m=q+1:=⟨m-1,by omega⟩
   rw [List.append_nil] at he
   subst he
   have hall:l.all (fun x=>inR x 0 12)=true:=List.all_eq_true.2 fun x hx'=>zci.2 (hx x hx')
   simp only [zbv,zdF]
   rw [if_neg (by simp)]
   unfold zel zdr zb5
   rw [hall]
   by_cases e:l.length=w.Coins.length
   ·rw [if_pos (by simp;omega)]
    exact ⟨spot l 0 0,by simp [e,hs];rfl,fun _=>rfl⟩
   ·rw [if_neg (by simp;omega)]
    exact ⟨spot l 0 0,by simp [e];rfl,fun q=>by simp [e] at q⟩
  | cons x k ih =>
   intro pre m s he hm hpl hs hx
   obtain ⟨m,rfl⟩:∃q,m=q+1:=⟨m-1,by omega⟩
   simp only [List.length_cons] at hm
   have hlen:l.length=pre.length+(k.length+1):=by rw [he];simp
   have hxi:idx l (pre.length:Int)=some x:=by rw [he,zmB]
   simp only [zbv,zdF]
   rw [if_pos (by simp;omega),hxi,zac]
   by_cases e:pre.length≥w.Coins.length
   ·rw [if_pos (by simp;omega)]
    unfold zcM
    rw [if_pos rfl]
    have hf:zb5 w l=false:=by
     unfold zb5
     rw [show decide (l.length=w.Coins.length)=false by simp;omega]
     rfl
    rw [hf]
    exact ⟨_,rfl,fun q=>by cases q⟩
   ·rw [if_neg (by simp;omega),zgJ,zac]
    unfold zcM
    by_cases q:inR x 0 12=true
    ·have hxr:=zci.1 q
     have hb:=zep (l:=pre) (fun y hy=>(hx y hy).1)
     have hb2:=zpW hx
     rw [if_neg (by simp [q])]
     have hset:zqt ([pre.getD 0 0,pre.getD 1 0,pre.getD 2 0,pre.getD 3 0]:List Int) (pre.length:Int) x=some (zsO (pre++[x])):=by
      match pre,(show pre.length<4 by omega) with
      | [],_=>rfl
      | [a],_=>rfl
      | [a,b],_=>rfl
      | [a,b,c],_=>rfl
     have hidx:∃y,idx ([pre.getD 0 0,pre.getD 1 0,pre.getD 2 0,pre.getD 3 0]:List Int) (pre.length:Int)=some y:=⟨_,zeq (by simp;omega)⟩
     obtain ⟨y,hy⟩:=hidx
     rw [hy,zac,hset,zac,zaT (x:=s+x) (by omega) (by omega),zaT (x:=(pre.length:Int)+1) (by omega) (by omega)]
     have:=ih (pre++[x]) m (s+x) (by simp [he]) (by omega) (by simp;omega) (by
      rw [hs,zjO]
      simp [total]) (fun z hz=>by
      rcases List.mem_append.1 hz with hz | hz
      ·exact hx z hz
      ·simp only [List.mem_singleton] at hz
       subst hz
       exact hxr)
     rw [show (((pre++[x]).length:Nat):Int)=(pre.length:Int)+1 by simp] at this
     exact this
    ·rw [if_pos (by simpa using q)]
     have hf:zb5 w l=false:=by
      unfold zb5
      have:l.all (fun x=>inR x 0 12)=false:=by
       rw [he,List.all_append,List.all_cons,show inR x 0 12=false by simpa using q]
       simp
      rw [this]
      simp
     rw [hf]
     exact ⟨_,rfl,fun q=>by cases q⟩
 exact key l [] n 0 rfl hn2 (by simp) rfl (fun x hx=>by simp at hx)
theorem zpX {S:Type} {n:Nat} {w:Wheel} (hl:zlB n w) (aF:Wheel_->S->Option (Bool×S)) (s s':S) (b:Bool) (ha:valid w=true->aF ⟨w⟩ s=some (b,s')) :
  ∃s0,zeY n aF w s=some (cond (valid w) (cond b (((⟨w⟩:Wheel_),0),s') ((zw,1),s')) ((zw,10),s0))/\(valid w=true->s0=s0):=by
 unfold zeY
 rw [zmW hl,zac]
 cases hv:valid w with
 | false=>exact ⟨s,rfl,fun _=>rfl⟩
 | true =>
  rw [ha hv]
  cases b<;>exact ⟨s,rfl,fun _=>rfl⟩
theorem zvK {n:Nat} {w:Wheel} (hw:zlB n w) (hn:100<=n) (l:List Int) (hl:l.length<100000) (hn2:l.length<n) (b:Bool) :
  zgD n w l b=some (if valid w=true then (if zb5 w l=true then (some ⟨w⟩,spot l 0 0,0) else (none,spot [] 0 0,1)) else (none,spot [] 0 0,10)):=by
 unfold zgD
 by_cases hv:valid w=true
 ·have h:=zfc hv
  obtain ⟨st,h1,h2⟩:=zvJ h hn l hl hn2
  obtain ⟨s0,h3,_⟩:=zpX hw (fun (x0:Wheel_) s=>zdi n x0 l s) (spot [] 0 0) st (zb5 w l) (fun _=>h1)
  rw [show (⟨⟨0,0,0,0⟩,0,0⟩:Spot_)=spot [] 0 0 from rfl,h3,zac,hv]
  cases hp:zb5 w l with
  | true=>simp [h2 hp]
  | false=>simp
 ·have hv':valid w=false:=by simpa using hv
  obtain ⟨s0,h3,_⟩:=zpX hw (fun (x0:Wheel_) s=>zdi n x0 l s) (spot [] 0 0) (spot [] 0 0) true (fun q=>by rw [hv'] at q;cases q)
  rw [show (⟨⟨0,0,0,0⟩,0,0⟩:Spot_)=spot [] 0 0 from rfl,h3,zac,hv']
  simp
def zug (b:Bool) (w:Wheel) (l:List Int):Int×Int :=
 if valid w=true then (if zb5 w l=true then (Q b w (total l).toNat 0 0 l,0) else (0,1)) else (0,10)
theorem zq1 {n:Nat} {b:Bool} {w:Wheel} (h:OkW w) (hn:400<=n) {l:List Int} (hp:zb5 w l=true) {M:List (Spot_×Int)} (hM:zna b w M):∃M',zbl n (⟨w⟩,b) (spot l 0 0) M=some (Q b w (total l).toNat 0 0 l,M')/\zna b w M':=by
 obtain ⟨hl,h12⟩:=zm1 hp
 have:=zep hl.nn
 have:=h.r1
 exact zvG h (total l).toNat n 0 0 l M (by omega) (by omega) hl (by omega) (by omega) (by omega) (by omega) hM
theorem zsT {n:Nat} {w:Wheel} (hw:zlB n w) (hn:400<=n) (l:List Int) (hl:l.length<100000) (hn2:l.length<n):zeu n w l=some (zug true w l):=by
 unfold zeu zug
 rw [zvK hw (by omega) l hl hn2,zac]
 by_cases hv:valid w=true
 ·rw [if_pos hv,if_pos hv]
  by_cases hp:zb5 w l=true
  ·obtain ⟨M',h1,_⟩:=zq1 (zfc hv) hn hp (zna.nil true w)
   rw [if_pos hp,if_pos hp]
   simp only [Option.isSome_some,if_true,zac,bne_self_eq_false,Bool.false_eq_true,if_false]
   rw [h1,zac]
  ·rw [if_neg hp,if_neg hp]
   rfl
 ·rw [if_neg hv,if_neg hv]
  rfl
def zfs (w:Wheel):Stand->List Int->Int
 | _,[]=>0
 | s,a::l=>(if 0<=a then (turn w s.Place (coin w a)).2 else 0)+zfs w (zit w s a).1 l
def cnt (k:Int):List Int->Int
 | []=>0
 | a::l=>(if a=k then 1 else 0)+cnt k l
theorem ze3 (k:Int):∀(a b:List Int),cnt k (a++b)=cnt k a+cnt k b
 | [],b=>by simp [cnt]
 | x::a,b=>by
  simp only [List.cons_append,cnt]
  rw [ze3 k a b]
  omega
structure Way (w:Wheel) (s:Stand) (l acts:List Int) (q:Int):Prop where
 ok:acts.all (ze2 w)=true
 len:(acts.length:Int)<=2*total l
 bag:∀k:Nat,k<w.Coins.length->cnt k acts=l.getD k 0
 buys:zfs w s acts=q
theorem zjw {l:List Int} {k j:Nat} (hk:k<l.length):(zcC l k).getD j 0=l.getD j 0-(if k=j then 1 else 0):=by
 unfold zcC
 by_cases e:k=j
 ·subst e
  rw [if_pos rfl,List.getD_eq_getElem?_getD,List.getElem?_set_self hk]
  rfl
 ·rw [if_neg e,List.getD_eq_getElem?_getD,List.getElem?_set_ne e,←List.getD_eq_getElem?_getD]
  omega
theorem zm2 {w:Wheel} {k:Nat} (h:k<w.Coins.length):ze2 w k=true:=zci.2 ⟨by omega,by omega⟩
theorem zo1 {w:Wheel}:ze2 w (-1)=true:=zci.2 ⟨by omega,by omega⟩
theorem zsU (w:Wheel) (p c:Int) (k:Nat):zit w ⟨p,c⟩ (k:Int)=(⟨(zh6 w p c k).p,(zh6 w p c k).c⟩,false):=by
 unfold zit
 rw [if_pos (by omega)]
 rfl
theorem zuH (w:Wheel) (p c:Int) (hc:c≠0):zit w ⟨p,c⟩ (-1)=(⟨0,c-1⟩,true):=by
 unfold zit
 rw [if_neg (by omega),if_neg hc]
theorem Way.step {w:Wheel} {p c:Int} {l acts:List Int} {q:Int} {o:Opn} (hl:OkP w l) (hc:0<=c) (ho:o∈zjv w p c l l.length 0) (h:Way w ⟨o.p,o.c⟩ (zcC l o.k) acts q):Way w ⟨p,c⟩ l (o.acts++acts) (o.plays+q):=by
 obtain ⟨j,_,h2,h3,h4⟩:=zeN.1 ho
 have hj:j<l.length:=by omega
 have hj':j<w.Coins.length:=by have:=hl.len;omega
 rcases zfd.1 h4 with rfl | ⟨h5,h6,rfl⟩
 ·refine ⟨?_,?_,fun k hk=>?_,?_⟩
  ·show List.all ([(j:Int)]++acts) (ze2 w)=true
   rw [List.singleton_append,List.all_cons,zm2 hj',h.ok]
   rfl
  ·have:=h.len
   have e:=zfK hj
   show ((([(j:Int)]++acts).length:Nat):Int)<=_
   rw [show (zh6 w p c j).k=j from rfl] at this
   simp
   omega
  ·show cnt k ((j:Int)::acts)=_
   simp only [cnt]
   rw [h.bag k hk,show (zh6 w p c j).k=j from rfl,zjw hj]
   by_cases e:j=k
   ·rw [if_pos (by omega),if_pos e];omega
   ·rw [if_neg (by omega),if_neg e];omega
  ·show zfs w ⟨p,c⟩ ((j:Int)::acts)=_
   simp only [zfs]
   rw [if_pos (by omega),zsU,h.buys]
   rfl
 ·refine ⟨?_,?_,fun k hk=>?_,?_⟩
  ·show List.all ([-1,(j:Int)]++acts) (ze2 w)=true
   rw [List.cons_append,List.singleton_append,List.all_cons,List.all_cons,zm2 hj',zo1,h.ok]
   rfl
  ·have:=h.len
   have e:=zfK hj
   show ((([-1,(j:Int)]++acts).length:Nat):Int)<=_
   rw [show (zjW w c j).k=j from rfl] at this
   simp
   omega
  ·show cnt k (-1::(j:Int)::acts)=_
   simp only [cnt]
   rw [h.bag k hk,show (zjW w c j).k=j from rfl,zjw hj,if_neg (by omega)]
   by_cases e:j=k
   ·rw [if_pos (by omega),if_pos e];omega
   ·rw [if_neg (by omega),if_neg e];omega
  ·show zfs w ⟨p,c⟩ (-1::(j:Int)::acts)=_
   simp only [zfs]
   rw [if_neg (by omega),zuH w p c h5]
   simp only []
   rw [if_pos (by omega),zsU]
   rw [show (⟨(zh6 w 0 (c-1) j).p,(zh6 w 0 (c-1) j).c⟩:Stand)=⟨(zjW w c j).p,(zjW w c j).c⟩ from rfl,h.buys]
   show 0+((turn w 0 (coin w j)).2+q)=(turn w 0 (coin w j)).2+q
   omega
theorem zxf {w:Wheel} {T:Nat} {p c:Int} {l:List Int} (b:Bool) (h0:total l≠0):∃o,o∈zjv w p c l l.length 0/\o.plays+Q b w T o.p o.c (zcC l o.k)=Q b w (T+1) p c l:=by
 obtain ⟨j,h1,h2,h3⟩:=zsP (w:=w) (p:=p) (c:=c) h0
 have e:((zjv w p c l l.length 0).map fun o=>o.plays+Q b w T o.p o.c (zcC l o.k))≠[]:=by
  intro e
  rw [List.map_eq_nil_iff] at e
  rw [e] at h3
  simp at h3
 obtain ⟨a1,_⟩:=zgL b e
 obtain ⟨o,ho,he⟩:=List.mem_map.1 a1
 exact ⟨o,ho,he⟩
theorem zyD {w:Wheel} {T:Nat} {p c:Int} {l:List Int} (b:Bool) {o:Opn} (ho:o∈zjv w p c l l.length 0):leB b (o.plays+Q b w T o.p o.c (zcC l o.k)) (Q b w (T+1) p c l):=by
 have hm:=List.mem_map_of_mem (f:=fun o:Opn=>o.plays+Q b w T o.p o.c (zcC l o.k)) ho
 have e:((zjv w p c l l.length 0).map fun o=>o.plays+Q b w T o.p o.c (zcC l o.k))≠[]:=by
  intro e
  rw [e] at hm
  simp at hm
 exact (zgL b e).2 _ hm
theorem zn2 (k:Int):∀l:List Int,0<=cnt k l/\cnt k l<=l.length
 | []=>by simp [cnt]
 | a::l=>by
  have:=zn2 k l
  simp only [cnt,List.length_cons]
  split<;>omega
theorem zsV (b:Bool) {w:Wheel} (h:OkW w):∀(T:Nat) {p c c':Int} {l:List Int},(T:Int)=total l->OkP w l->0<=p->p<w.Round->0<=c->c<=c'->leB b (Q b w T p c l) (Q b w T p c' l)
 | 0,p,c,c',l,_,_,_,_,_,_=>leB.refl b _
 | T+1,p,c,c',l,hT,hl,hp,hp',hc,hcc=>by
  obtain ⟨o,ho,he⟩:=zxf (w:=w) (T:=T) (p:=p) (c:=c) b (show total l≠0 by omega)
  have ok:=zoZ h hp hp' hc hl ho
  have hT':(T:Int)=total (zcC l o.k):=by rw [zfK (by rw [hl.len];exact ok.k)];omega
  obtain ⟨j,h1,h2,h3,h4⟩:=zeN.1 ho
  rw [←he]
  rcases zfd.1 h4 with rfl | ⟨h5,h6,rfl⟩
  ·have ih:=zsV b h T (p:=(zh6 w p c j).p) (c:=(zh6 w p c j).c) (c':=(zh6 w p c' j).c) hT' (hl.less ok.k ok.nz) ok.p0 ok.p1 ok.c0 (by show c+_<=c'+_;omega)
   exact (ih.add _).trans (zyD (T:=T) (p:=p) (c:=c') b (o:=zh6 w p c' j) (zeN.2 ⟨j,h1,h2,h3,zfd.2 (.inl rfl)⟩))
  ·have ih:=zsV b h T (p:=(zjW w c j).p) (c:=(zjW w c j).c) (c':=(zjW w c' j).c) hT' (hl.less ok.k ok.nz) ok.p0 ok.p1 ok.c0 (by show c-1+_<=c'-1+_;omega)
   exact (ih.add _).trans (zyD (T:=T) (p:=p) (c:=c') b (o:=zjW w c' j) (zeN.2 ⟨j,h1,h2,h3,zfd.2 (.inr ⟨by omega,h6,rfl⟩)⟩))
theorem zyE (b:Bool) {w:Wheel} (h:OkW w) {T:Nat} {p c:Int} {l:List Int} (hT:(T:Int)=total l) (hl:OkP w l) (hp:0<=p) (hp':p<w.Round) (hc:0<c):leB b (Q b w T 0 (c-1) l) (Q b w T p c l):=by
 have hr:=h.r1
 cases T with
 | zero=>exact leB.refl b _
 | succ T =>
  by_cases e:p=0
  ·subst e
   exact zsV b h (T+1) hT hl (by omega) (by omega) (by omega) (by omega)
  ·rw [zvI b w T p c l (by omega) e (by omega)]
   exact (zpV b _ _).2.1
theorem zvL {w:Wheel} {l:List Int} (hl:OkP w l) (h:∀k:Nat,k<w.Coins.length->(0:Int)=l.getD k 0):total l=0:=by
 by_cases e:total l=0
 ·exact e
 ·obtain ⟨j,h1,h2⟩:=zlg e
  exact (h2 (h j (by rw [←hl.len];exact h1)).symm).elim
theorem zpY (b:Bool) {w:Wheel} (h:OkW w):∀(acts:List Int) {p c:Int} {l:List Int},acts.all (ze2 w)=true->(∀k:Nat,k<w.Coins.length->cnt k acts=l.getD k 0)->OkP w l->0<=p->p<w.Round->0<=c->leB b (zfs w ⟨p,c⟩ acts) (Q b w (total l).toNat p c l)
 | [],p,c,l,_,hk,hl,_,_,_=>by
  rw [zvL hl hk]
  exact leB.refl b 0
 | a::acts,p,c,l,hok,hk,hl,hp,hp',hc=>by
  have hr:=h.r1
  simp only [List.all_cons,Bool.and_eq_true] at hok
  have ha:=zci.1 hok.1
  by_cases h0:0<=a
  ·obtain ⟨k,rfl⟩:∃k:Nat,a=k:=⟨a.toNat,by omega⟩
   have hkl:k<w.Coins.length:=by omega
   have hkl':k<l.length:=by rw [hl.len];exact hkl
   have hnz:l.getD k 0≠0:=by
    have e:=hk k hkl
    simp only [cnt] at e
    have:=zn2 (k:Int) acts
    rw [if_pos trivial] at e
    omega
   have hco:=zdB h (a:=(k:Int)) (by omega) (by omega)
   have ht:=zcO h hp hp' (show 0<=coin w k by omega)
   have hlt:=zfK hkl'
   have hnn:=zep (hl.less hkl hnz).nn
   have ih:=zpY b h acts (p:=(zh6 w p c k).p) (c:=(zh6 w p c k).c) (l:=zcC l k) hok.2 (fun j hj=>by
    have e:=hk j hj
    simp only [cnt] at e
    rw [zjw hkl']
    by_cases q:k=j
    ·rw [if_pos (by omega)] at e;rw [if_pos q];omega
    ·rw [if_neg (by omega)] at e;rw [if_neg q];omega) (hl.less hkl hnz) ht.1.1 ht.1.2 (by show 0<=c+_;omega)
   simp only [zfs]
   rw [if_pos h0,zsU]
   have eT:(total l).toNat=(total (zcC l k)).toNat+1:=by omega
   rw [eT]
   exact (ih.add _).trans (zyD b (o:=zh6 w p c k) (zeN.2 ⟨k,by omega,by omega,hnz,zfd.2 (.inl rfl)⟩))
  ·have ea:a=-1:=by omega
   subst ea
   have hk':∀k:Nat,k<w.Coins.length->cnt k acts=l.getD k 0:=fun k hkl=>by
    have e:=hk k hkl
    simp only [cnt] at e
    rw [if_neg (by omega)] at e
    omega
   simp only [zfs]
   rw [if_neg h0,Int.zero_add]
   by_cases hc0:c=0
   ·have e:(zit w ⟨p,c⟩ (-1)).1=⟨p,c⟩:=by
     unfold zit
     rw [if_neg h0,if_pos hc0]
    rw [e]
    exact zpY b h acts hok.2 hk' hl hp hp' hc
   ·rw [zuH w p c hc0]
    have hnn:=zep hl.nn
    exact (zpY b h acts hok.2 hk' hl (by omega) (by omega) (by omega)).trans (zyE b h (by omega) hl hp hp' (by omega))
def zuh (w:Wheel) (l:List Int):Nat->Nat->Int
 | 0,_=>0
 | d+1,k=>coin w k*l.getD k 0+zuh w l d (k+1)
def zd8 (w:Wheel) (l:List Int):Int:=zuh w l w.Coins.length 0
theorem zxg {w:Wheel} (h:OkW w) {l:List Int} (hl:∀k,0<=l.getD k 0/\l.getD k 0<=1000) {k:Nat} (hk:k<w.Coins.length):0<=coin w k*l.getD k 0/\coin w k*l.getD k 0<=100000:=by
 have hco:=zdB h (a:=(k:Int)) (by omega) (by omega)
 have:=hl k
 refine ⟨Int.mul_nonneg (by omega) (by omega),?_⟩
 have h1:coin w k*l.getD k 0<=100*l.getD k 0:=Int.mul_le_mul_of_nonneg_right hco.2 (by omega)
 omega
theorem zl8 {w:Wheel} (h:OkW w) {l:List Int} (hl:∀k,0<=l.getD k 0/\l.getD k 0<=1000):∀(d k:Nat),k+d<=w.Coins.length->0<=zuh w l d k/\zuh w l d k<=100000*d
 | 0,k,_=>by simp [zuh]
 | d+1,k,hk=>by
  have:=zl8 h hl d (k+1) (by omega)
  have:=zxg h hl (show k<w.Coins.length by omega)
  simp only [zuh]
  omega
def down:Nat->List Int
 | 0=>[0]
 | n+1=>((n+1:Nat):Int)::down n
def upF:Nat->Nat->List Int
 | _,0=>[]
 | i,d+1=>(i:Int)::upF (i+1) d
theorem zo2 {v:Int}:∀{d i:Nat},v∈upF i d↔(i:Int)<=v/\v<i+d
 | 0,i=>by simp [upF]<;>omega
 | d+1,i=>by
  simp only [upF,List.mem_cons,zo2]
  omega
theorem zsW:∀(d i:Nat),(upF i d).length=d
 | 0,i=>rfl
 | d+1,i=>by simp [upF,zsW d (i+1)]
def zuI (w:Wheel) (t:List Int):List Int:=t.take w.Coins.length
structure OkT (w:Wheel) (t:List Int):Prop where
 len:t.length=4
 rng:∀k,0<=t.getD k 0/\t.getD k 0<=1000
 out:∀k,w.Coins.length<=k->t.getD k 0=0
 tot:total (zuI w t)<=1000
theorem zn3 {w:Wheel} {t:List Int} (h:OkT w t) (k:Nat):(zuI w t).getD k 0=t.getD k 0:=by
 unfold zuI
 rw [List.getD_eq_getElem?_getD,List.getElem?_take]
 split
 ·rfl
 ·rw [h.out k (by omega)]
  rfl
theorem OkT.purse {w:Wheel} (hw:OkW w) {t:List Int} (h:OkT w t):OkP w (zuI w t):=by
 have h4:=hw.clen
 have hl:=h.len
 refine ⟨by simp [zuI];omega,fun x hx=>?_,h.tot⟩
 obtain ⟨i,hi,rfl⟩:=List.getElem_of_mem hx
 have e:(zuI w t)[i]=(zuI w t).getD i 0:=by simp [hi]
 rw [e,zn3 h]
 exact (h.rng i).1
theorem OkT.bag {w:Wheel} {t:List Int} (h:OkT w t):zb4 t=zb4 (zuI w t):=by
 simp only [zb4,zn3 h]
def zir (w:Wheel):Stand->List Int->Stand
 | s,[]=>s
 | s,a::l=>zir w (zit w s a).1 l
theorem zes (w:Wheel):∀(a b:List Int) (s:Stand),zir w s (a++b)=zir w (zir w s a) b
 | [],b,s=>rfl
 | x::a,b,s=>zes w a b _
theorem zft (w:Wheel):∀(a b:List Int) (s:Stand),zfs w s (a++b)=zfs w s a+zfs w (zir w s a) b
 | [],b,s=>by simp [zfs,zir]
 | x::a,b,s=>by
  simp only [List.cons_append,zfs,zir]
  rw [zft w a b]
  omega
theorem zsX {w:Wheel} (h:OkW w):∀(acts:List Int) (s:Stand) (b:Int),OkS w s b->acts.all (ze2 w)=true->OkS w (zir w s acts) (b+100*acts.length)
 | [],s,b,hs,_=>by simpa [zir] using hs
 | a::l,s,b,hs,ha=>by
  rw [List.all_cons,Bool.and_eq_true] at ha
  have:=zsX h l _ _ (zsL h hs ha.1) ha.2
  simp only [zir,List.length_cons]
  rwa [show b+100*((l.length+1:Nat):Int)=b+100+100*(l.length:Int) by omega]
def Can (w:Wheel) (al:List Int) (v:Int):Prop:=∃acts:List Int,acts.all (ze2 w)=true/\(∀k:Nat,k<w.Coins.length->cnt k acts=al.getD k 0)/\zfs w ⟨0,0⟩ acts=v
structure Pn where
 p:Int
 c:Int
 l:List Int
 b:Int
def zl (w:Wheel):List Int:=List.replicate w.Coins.length 0
def zf4 (l:List Int) (k:Nat):List Int:=l.set k (l.getD k 0+1)
def ztj (cl:Int->Int->Int) (x:Pn):Pn:=⟨0,cl (total x.l) (x.c-1),x.l,x.b⟩
def zq2 (cl:Int->Int->Int) (w:Wheel) (x:Pn) (k:Nat):Pn:=⟨(turn w x.p (coin w k)).1,cl (total x.l+1) (x.c+(turn w x.p (coin w k)).2),zf4 x.l k,x.b+(turn w x.p (coin w k)).2⟩
def zlC (w:Wheel):Pn:=⟨0,0,zl w,0⟩
inductive RP (cl:Int->Int->Int) (w:Wheel) (al:List Int):List Int->Pn->Prop
 | zero:RP cl w al [] (zlC w)
 | sel {acts:List Int} {x:Pn} (h:RP cl w al acts x) (hc:0<x.c) (hp:0<x.p):RP cl w al (acts++[-1]) (ztj cl x)
 | coin {acts:List Int} {x:Pn} {k:Nat} (h:RP cl w al acts x) (hk:k<w.Coins.length) (hl:x.l.getD k 0≠al.getD k 0):RP cl w al (acts++[(k:Int)]) (zq2 cl w x k)
theorem zke:∀n:Nat,total (List.replicate n 0)=0
 | 0=>rfl
 | n+1=>by rw [List.replicate_succ,total,zke n];rfl
theorem zlh (w:Wheel) (k:Nat):(zl w).getD k 0=0:=by
 unfold zl
 rw [List.getD_eq_getElem?_getD,List.getElem?_replicate]
 split<;>rfl
theorem zn4 (l:List Int) (k:Nat):(zf4 l k).length=l.length:=by simp [zf4]
theorem zgM {l:List Int} {k j:Nat} (hk:k<l.length):(zf4 l k).getD j 0=l.getD j 0+(if k=j then 1 else 0):=by
 unfold zf4
 by_cases e:k=j
 ·subst e
  rw [if_pos rfl,List.getD_eq_getElem?_getD,List.getElem?_set_self hk]
  rfl
 ·rw [if_neg e,List.getD_eq_getElem?_getD,List.getElem?_set_ne e,←List.getD_eq_getElem?_getD]
  omega
theorem ze4 {l:List Int} {k:Nat} (h:k<l.length):total (zf4 l k)=total l+1:=by
 unfold zf4
 rw [zlf h]
 omega
theorem zf5:∀{l m:List Int},l.length=m.length->(∀k,l.getD k 0<=m.getD k 0)->total l<=total m
 | [],[],_,_=>Int.le_refl _
 | [],_::_,h,_=>by simp at h
 | _::_,[],h,_=>by simp at h
 | x::l,y::m,h,hk=>by
  have h0:=hk 0
  have:=zf5 (l:=l) (m:=m) (by simpa using h) (fun k=>by simpa using hk (k+1))
  simp only [total]
  simp at h0
  omega
theorem zli {l m:List Int} (h:l.length=m.length) (hk:∀k,l.getD k 0<=m.getD k 0) {k:Nat} (hlt:l.getD k 0<m.getD k 0):total l<total m:=by
 have hkl:k<l.length:=by
  rcases Nat.lt_or_ge k l.length with h1 | h1
  ·exact h1
  ·rw [List.getD_eq_getElem?_getD,List.getD_eq_getElem?_getD,List.getElem?_eq_none h1,List.getElem?_eq_none (by omega)] at hlt
   simp at hlt
 have h1:=zf5 (l:=zf4 l k) (m:=m) (by rw [zn4];exact h) fun j=>by
  rw [zgM hkl]
  have:=hk j
  split
  ·rename_i e
   subst e
   omega
  ·omega
 rw [ze4 hkl] at h1
 omega
structure Clamp (cl:Int->Int->Int) (T:Int):Prop where
 le:∀t c,cl t c<=c
 nn:∀t c,t<=T->0<=c->0<=cl t c
structure OkX (w:Wheel) (al:List Int) (acts:List Int) (x:Pn):Prop where
 p0:0<=x.p
 p1:x.p<w.Round
 c0:0<=x.c
 cb:x.c<=x.b
 bt:x.b<=100*total x.l
 len:x.l.length=w.Coins.length
 nn:∀k,0<=x.l.getD k 0
 le:∀k,x.l.getD k 0<=al.getD k 0
 ok:acts.all (ze2 w)=true
 bag:∀k:Nat,cnt k acts=x.l.getD k 0
 buys:zfs w ⟨0,0⟩ acts=x.b
 pl:(zir w ⟨0,0⟩ acts).Place=x.p
 cr:x.c<=(zir w ⟨0,0⟩ acts).Credit
theorem zfL (k:Nat) (a:Int):cnt k [a]=if a=(k:Int) then 1 else 0:=by simp [cnt]
theorem RP.ok {cl:Int->Int->Int} {w:Wheel} {al:List Int} (h:OkW w) (hl:al.length=w.Coins.length) (hnn:∀k,0<=al.getD k 0) (hcl:Clamp cl (total al)) {acts:List Int} {x:Pn} (hr:RP cl w al acts x):OkX w al acts x:=by
 have hr1:=h.r1
 induction hr with
 | zero=>exact ⟨Int.le_refl _,by show (0:Int)<w.Round;omega,Int.le_refl _,Int.le_refl _,by show (0:Int)<=100*total (zl w);rw [show total (zl w)=0 from zke _];omega,by simp [zlC,zl],fun k=>by show 0<=(zl w).getD k 0;rw [zlh];omega,fun k=>by show (zl w).getD k 0<=_;rw [zlh];exact hnn k,rfl,fun k=>by show _=(zl w).getD k 0;rw [zlh];rfl,rfl,rfl,Int.le_refl _⟩
 | @sel acts x hr hc hp ih =>
  have ht:total x.l<=total al:=zf5 (by rw [ih.len,hl]) ih.le
  have hcr:=ih.cr
  have he:zit w (zir w ⟨0,0⟩ acts) (-1)=(⟨0,(zir w ⟨0,0⟩ acts).Credit-1⟩,true):=by
   unfold zit
   rw [if_neg (by omega),if_neg (by omega)]
  have hle:=hcl.le (total x.l) (x.c-1)
  have hcb:=ih.cb
  refine ⟨Int.le_refl _,by show (0:Int)<w.Round;omega,hcl.nn _ _ ht (by omega),by show cl _ _<=x.b;omega,ih.bt,ih.len,ih.nn,ih.le,?_,fun k=>?_,?_,?_,?_⟩
  ·rw [List.all_append,ih.ok]
   simp [zo1]
  ·rw [ze3,ih.bag,zfL,if_neg (by omega)]
   exact Int.add_zero _
  ·rw [zft,ih.buys]
   simp [zfs,ztj]
  ·rw [zes]
   simp only [zir,he]
   rfl
  ·rw [zes]
   simp only [zir,he]
   show cl _ _<=_
   omega
 | @coin acts x k hr hk hne ih =>
  have hkl:k<x.l.length:=by rw [ih.len];exact hk
  have hlt:x.l.getD k 0<al.getD k 0:=by have:=ih.le k;omega
  have ht:total x.l<total al:=zli (by rw [ih.len,hl]) ih.le hlt
  have hcoin:=zdB h (a:=(k:Int)) (by omega) (by omega)
  have htr:=zcO h ih.p0 ih.p1 (show 0<=Go.Law.coin w k by omega)
  have hcb:=ih.cb
  have hbt:=ih.bt
  have hc0:=ih.c0
  have hcr:=ih.cr
  have he:(zit w (zir w ⟨0,0⟩ acts) (k:Int)).1=⟨(turn w x.p (Go.Law.coin w k)).1,(zir w ⟨0,0⟩ acts).Credit+(turn w x.p (Go.Law.coin w k)).2⟩:=by
   unfold zit
   rw [if_pos (by omega),ih.pl]
  have hle:=hcl.le (total x.l+1) (x.c+(turn w x.p (Go.Law.coin w k)).2)
  refine ⟨htr.1.1,htr.1.2,hcl.nn _ _ (by omega) (by omega),?_,?_,?_,fun j=>?_,fun j=>?_,?_,fun j=>?_,?_,?_,?_⟩
  ·show cl _ _<=x.b+_
   omega
  ·show x.b+_<=100*total (zf4 x.l k)
   rw [ze4 hkl]
   omega
  ·show (zf4 x.l k).length=_
   rw [zn4,ih.len]
  ·show 0<=(zf4 x.l k).getD j 0
   rw [zgM hkl]
   have:=ih.nn j
   split<;>omega
  ·show (zf4 x.l k).getD j 0<=_
   rw [zgM hkl]
   have:=ih.le j
   split
   ·rename_i e
    subst e
    omega
   ·omega
  ·rw [List.all_append,ih.ok]
   simp [zm2 hk]
  ·show _=(zf4 x.l k).getD j 0
   rw [ze3,ih.bag,zfL,zgM hkl]
   congr 1
   by_cases e:k=j
   ·subst e;simp
   ·rw [if_neg e,if_neg (by omega)]
  ·rw [zft,ih.buys]
   simp only [zfs,ih.pl]
   rw [if_pos (by omega)]
   show x.b+(_+0)=x.b+_
   omega
  ·rw [zes]
   simp only [zir,he]
   rfl
  ·rw [zes]
   simp only [zir,he]
   show cl _ _<=_
   omega
theorem zi9 {al:List Int} (h:∀k,0<=al.getD k 0):∀x,x∈al->0<=x:=fun x hx=>by
 obtain ⟨k,hk⟩:=List.getElem?_of_mem hx
 have:=h k
 rwa [List.getD_eq_getElem?_getD,hk] at this
theorem zo3 (l:List Int):l=[]\/∃q a,l=q++[a]:=zin l
def clT (T:Int):Int->Int->Int:=fun t c=>min c (T-t)
theorem zjx (T:Int):Clamp (clT T) T:=⟨fun t c=>by unfold clT;omega,fun t c h1 h2=>by unfold clT;omega⟩
theorem zo4 {w:Wheel} {a:Int} (h:ze2 w a=true):a=-1\/∃k:Nat,k<w.Coins.length/\a=k:=by
 have h:=zci.1 h
 by_cases h0:0<=a
 ·exact .inr ⟨a.toNat,by omega,by omega⟩
 ·exact .inl (by omega)
theorem cnt_mono {k:Nat} {l:List Int} {a:Int}:cnt k l<=cnt k (l++[a]):=by
 rw [ze3,zfL]
 split<;>omega
theorem zsY {w:Wheel} {al:List Int} (h:OkW w) (hl:al.length=w.Coins.length) (hnn:∀k,0<=al.getD k 0):∀(n:Nat) (acts:List Int),acts.length=n->acts.all (ze2 w)=true->(∀k:Nat,k<w.Coins.length->cnt k acts<=al.getD k 0) ->
  ∃acts' x,RP (clT (total al)) w al acts' x/\x.b=zfs w ⟨0,0⟩ acts/\(∀k:Nat,k<w.Coins.length->x.l.getD k 0=cnt k acts)/\(total x.l<total al->x.p=(zir w ⟨0,0⟩ acts).Place/\min (zir w ⟨0,0⟩ acts).Credit (if x.p=0 then total al-total x.l-1 else total al-total x.l)<=x.c)
 | 0,acts,hlen,_,_=>by
  obtain rfl:=List.eq_nil_of_length_eq_zero hlen
  refine ⟨[],zlC w,.zero,rfl,fun k _=>zlh w k,fun ht=>⟨rfl,?_⟩⟩
  show min (0:Int) _<=0
  omega
 | n+1,acts,hlen,hok,hbag=>by
  rcases zo3 acts with rfl | ⟨l,a,rfl⟩
  ·simp at hlen
  rw [List.all_append,Bool.and_eq_true] at hok
  have hoa:ze2 w a=true:=by simpa using hok.2
  obtain ⟨acts',x,hr,hb,hcn,hx⟩:=zsY h hl hnn n l (by simpa using hlen) hok.1 fun k hk=>Int.le_trans cnt_mono (hbag k hk)
  have hX:=hr.ok h hl hnn (zjx _)
  have hes:=zsX h l ⟨0,0⟩ 0 ⟨Int.le_refl _,by show (0:Int)<w.Round;have:=h.r1;omega,Int.le_refl _,Int.le_refl _⟩ hok.1
  have hec:=hes.c0
  have hep:=hes.p0
  have htl:total x.l<=total al:=zf5 (by rw [hX.len,hl]) hX.le
  rcases zo4 hoa with rfl | ⟨k,hk,rfl⟩
  ·have hbu:zfs w ⟨0,0⟩ (l++[-1])=zfs w ⟨0,0⟩ l:=by rw [zft];simp [zfs]
   have hcn':∀k:Nat,cnt k (l++[-1])=cnt k l:=fun k=>by
    rw [ze3,zfL,if_neg (by omega)]
    exact Int.add_zero _
   have he:zir w ⟨0,0⟩ (l++[-1])=if (zir w ⟨0,0⟩ l).Credit=0 then zir w ⟨0,0⟩ l else ⟨0,(zir w ⟨0,0⟩ l).Credit-1⟩:=by
    rw [zes]
    simp only [zir,zit]
    rw [if_neg (by omega)]
    split<;>rfl
   by_cases ht:total x.l<total al
   ·obtain ⟨hp,hc⟩:=hx ht
    by_cases hz:(zir w ⟨0,0⟩ l).Credit=0
    ·exact ⟨acts',x,hr,by rw [hbu,hb],fun k hk=>by rw [hcn',hcn k hk],fun _=>by rw [he,if_pos hz];exact ⟨hp,hc⟩⟩
    ·by_cases hp0:x.p=0
     ·refine ⟨acts',x,hr,by rw [hbu,hb],fun k hk=>by rw [hcn',hcn k hk],fun _=>?_⟩
      rw [he,if_neg hz]
      refine ⟨hp0,?_⟩
      rw [if_pos hp0] at hc ⊢
      show min (_-1) _<=_
      omega
     ·rw [if_neg hp0] at hc
      have hp1:=hX.p0
      refine ⟨_,_,hr.sel (by omega) (by omega),by rw [hbu,←hb];rfl,fun k hk=>by rw [hcn',←hcn k hk];rfl,fun _=>?_⟩
      rw [he,if_neg hz]
      refine ⟨rfl,?_⟩
      show min (_-1) (if (0:Int)=0 then _ else _)<=min (x.c-1) (total al-total x.l)
      rw [if_pos rfl]
      show min (_-1) (total al-total x.l-1)<=_
      omega
   ·exact ⟨acts',x,hr,by rw [hbu,hb],fun k hk=>by rw [hcn',hcn k hk],fun ht'=>absurd ht' ht⟩
  ·have hck:cnt k (l++[(k:Int)])=cnt k l+1:=by rw [ze3,zfL,if_pos rfl]
   have hlt:x.l.getD k 0<al.getD k 0:=by
    have:=hbag k hk
    rw [hcn k hk]
    omega
   have ht:total x.l<total al:=zli (by rw [hX.len,hl]) hX.le hlt
   obtain ⟨hp,hc⟩:=hx ht
   have hkl:k<x.l.length:=by rw [hX.len];exact hk
   have he:zir w ⟨0,0⟩ (l++[(k:Int)])=⟨(turn w x.p (coin w k)).1,(zir w ⟨0,0⟩ l).Credit+(turn w x.p (coin w k)).2⟩:=by
    rw [zes]
    simp only [zir,zit]
    rw [if_pos (by omega),hp]
   have hcoin:=zdB h (a:=(k:Int)) (by omega) (by omega)
   have htr:=zcO h hX.p0 hX.p1 (show 0<=coin w k by omega)
   have hc0:=hX.c0
   refine ⟨_,_,hr.coin hk (by omega),?_,fun j hj=>?_,fun ht'=>?_⟩
   ·rw [zft]
    simp only [zfs]
    rw [if_pos (by omega),←hb,←hp]
    show x.b+_=x.b+(_+0)
    omega
   ·show (zf4 x.l k).getD j 0=_
    rw [zgM hkl,hcn j hj,ze3,zfL]
    congr 1
    by_cases e:k=j
    ·subst e;simp
    ·rw [if_neg e,if_neg (by omega)]
   ·rw [he]
    refine ⟨rfl,?_⟩
    show min (_+_) (if (turn w x.p (coin w k)).1=0 then total al-total (zf4 x.l k)-1 else total al-total (zf4 x.l k))<=min (x.c+_) (total al-(total x.l+1))
    rw [ze4 hkl]
    by_cases h1:x.p=0
    ·rw [if_pos h1] at hc
     split<;>omega
    ·rw [if_neg h1] at hc
     split<;>omega
theorem zhJ {l m:List Int} {n:Nat} (h1:l.length=n) (h2:m.length=n) (h:∀k:Nat,k<n->l.getD k 0=m.getD k 0):l=m:=by
 apply List.ext_getElem (by omega)
 intro k a b
 have:=h k (by omega)
 simpa [List.getD_eq_getElem?_getD,a,b] using this
theorem zyF {w:Wheel} {al:List Int} (h:OkW w) (hl:al.length=w.Coins.length) (hnn:∀k,0<=al.getD k 0) {v:Int}:Can w al v↔∃acts x,RP (clT (total al)) w al acts x/\x.l=al/\x.b=v:=by
 constructor
 ·rintro ⟨acts,hok,hbag,hb⟩
  obtain ⟨acts',x,hr,h1,h2,_⟩:=zsY h hl hnn acts.length acts rfl hok fun k hk=>Int.le_of_eq (hbag k hk)
  have hX:=hr.ok h hl hnn (zjx _)
  exact ⟨acts',x,hr,zhJ hX.len hl fun k hk=>by rw [h2 k hk,hbag k hk],by rw [h1,hb]⟩
 ·rintro ⟨acts,x,hr,rfl,rfl⟩
  have hX:=hr.ok h hl hnn (zjx _)
  exact ⟨acts,hX.ok,fun k _=>hX.bag k,hX.buys⟩
theorem RP.short {w:Wheel} {al:List Int} (h:OkW w) (hl:al.length=w.Coins.length) (hnn:∀k,0<=al.getD k 0) {acts:List Int} {x:Pn} (hr:RP (clT (total al)) w al acts x) :
  x.c<=total al-total x.l/\((acts.length:Int)<=2*total x.l\/x.p=0/\total x.l<total al/\(acts.length:Int)<=2*total x.l+1):=by
 induction hr with
 | zero =>
  have h0:total (zl w)=0:=zke _
  have h1:0<=total al:=zep (zi9 hnn)
  refine ⟨?_,.inl ?_⟩
  ·show (0:Int)<=total al-total (zl w)
   omega
  ·show ((0:Nat):Int)<=2*total (zl w)
   omega
 | @sel acts x hr hc hp ih =>
  refine ⟨?_,.inr ⟨rfl,?_,?_⟩⟩
  ·show min (x.c-1) (total al-total x.l)<=total al-total x.l
   omega
  ·show total x.l<total al
   omega
  ·show ((acts++[-1]).length:Int)<=2*total x.l+1
   rw [List.length_append,List.length_singleton]
   rcases ih.2 with h1 | ⟨h1,_⟩
   ·omega
   ·omega
 | @coin acts x k hr hk hne ih =>
  have hX:=hr.ok h hl hnn (zjx _)
  have hkl:k<x.l.length:=by rw [hX.len];exact hk
  refine ⟨?_,.inl ?_⟩
  ·show min _ (total al-(total x.l+1))<=total al-total (zf4 x.l k)
   rw [ze4 hkl]
   omega
  ·show ((acts++[(k:Int)]).length:Int)<=2*total (zf4 x.l k)
   rw [ze4 hkl,List.length_append,List.length_singleton]
   rcases ih.2 with h1 | ⟨_,_,h1⟩<;>omega
def lvl (cl:Int->Int->Int) (w:Wheel):Nat->List Pn
 | 0=>[zlC w]
 | t+1=>(lvl cl w t++(lvl cl w t).map (ztj cl)).flatMap fun x=>(List.range w.Coins.length).map fun k=>zq2 cl w x k
def lvs (cl:Int->Int->Int) (w:Wheel) (t:Nat):List Pn:=lvl cl w t++(lvl cl w t).map (ztj cl)
def zuJ (cl:Int->Int->Int) (w:Wheel):Nat->List Pn
 | 0=>lvs cl w 0
 | t+1=>zuJ cl w t++lvs cl w (t+1)
theorem zjy {α β:Type} {f:α->List β} {c:Nat}:∀{l:List α},(∀x,x∈l->(f x).length<=c)->(l.flatMap f).length<=l.length*c
 | [],_=>by simp
 | x::l,h=>by
  have h1:=h x (by simp)
  have h2:=zjy (f:=f) (c:=c) (l:=l) fun y hy=>h y (by simp [hy])
  simp only [List.flatMap_cons,List.length_append,List.length_cons,Nat.add_mul,Nat.one_mul]
  omega
theorem zo5 (cl:Int->Int->Int) {w:Wheel} (hk:w.Coins.length<=3):∀t,(lvl cl w t).length<=6 ^ t
 | 0=>by simp [lvl]
 | t+1=>by
  have h1:=zo5 cl hk t
  unfold lvl
  refine Nat.le_trans (zjy (c:=3) fun x _=>by simp;exact hk) ?_
  rw [List.length_append,List.length_map,Nat.pow_succ]
  omega
theorem zui (cl:Int->Int->Int) {w:Wheel} (hk:w.Coins.length<=3) {t:Nat} (ht:t<=5):(zuJ cl w t).length<=93312:=by
 have key:∀t,t<=5->(zuJ cl w t).length<=(t+1)*15552:=by
  intro t
  induction t with
  | zero =>
   intro _
   have:=zo5 cl hk 0
   simp only [zuJ,lvs,List.length_append,List.length_map]
   omega
  | succ t ih =>
   intro ht
   have h1:=ih (by omega)
   have h2:=zo5 cl hk (t+1)
   have h3:6 ^ (t+1)<=6 ^ 5:=Nat.pow_le_pow_right (by omega) ht
   simp only [zuJ,lvs,List.length_append,List.length_map]
   have:(6:Nat) ^ 5=7776:=by decide
   omega
 have:=key t ht
 omega
theorem RP.level {cl:Int->Int->Int} {w:Wheel} {al:List Int} (h:OkW w) (hl:al.length=w.Coins.length) (hnn:∀k,0<=al.getD k 0) (hcl:Clamp cl (total al)) {acts:List Int} {x:Pn} (hr:RP cl w al acts x):x∈lvl cl w (total x.l).toNat\/x.p=0/\x∈(lvl cl w (total x.l).toNat).map (ztj cl):=by
 induction hr with
 | zero =>
  refine .inl ?_
  have:total (zlC w).l=0:=zke _
  rw [this]
  simp [lvl]
 | @sel acts x hr hc hp ih =>
  refine .inr ⟨rfl,?_⟩
  show ztj cl x∈(lvl cl w (total x.l).toNat).map (ztj cl)
  rcases ih with ih | ⟨h0,_⟩
  ·exact List.mem_map.2 ⟨x,ih,rfl⟩
  ·omega
 | @coin acts x k hr hk hne ih =>
  have hX:=hr.ok h hl hnn hcl
  have hkl:k<x.l.length:=by rw [hX.len];exact hk
  have h0:0<=total x.l:=zep (zi9 hX.nn)
  refine .inl ?_
  have e:(total (zq2 cl w x k).l).toNat=(total x.l).toNat+1:=by
   show (total (zf4 x.l k)).toNat=_
   rw [ze4 hkl]
   omega
  rw [e]
  unfold lvl
  refine List.mem_flatMap.2 ⟨x,?_,List.mem_map.2 ⟨k,List.mem_range.2 hk,rfl⟩⟩
  rcases ih with ih | ⟨_,ih⟩
  ·exact List.mem_append_left _ ih
  ·exact List.mem_append_right _ ih
theorem zpZ (cl:Int->Int->Int) (w:Wheel):∀{t m:Nat},m<=t->∀x,x∈lvs cl w m->x∈zuJ cl w t
 | 0,m,h,x,hx=>by
  obtain rfl:m=0:=by omega
  exact hx
 | t+1,m,h,x,hx=>by
  by_cases e:m=t+1
  ·subst e
   exact List.mem_append_right _ hx
  ·exact List.mem_append_left _ (zpZ cl w (by omega) x hx)
theorem RP.up {cl:Int->Int->Int} {w:Wheel} {al:List Int} (h:OkW w) (hl:al.length=w.Coins.length) (hnn:∀k,0<=al.getD k 0) (hcl:Clamp cl (total al)) {acts:List Int} {x:Pn} (hr:RP cl w al acts x) {t:Nat} (ht:total x.l<=t):x∈zuJ cl w t:=by
 refine zpZ cl w (m:=(total x.l).toNat) (by omega) x ?_
 rcases hr.level h hl hnn hcl with h1 | ⟨_,h1⟩
 ·exact List.mem_append_left _ h1
 ·exact List.mem_append_right _ h1
theorem zl9 {α:Type} [DecidableEq α]:∀{l m:List α},l.Nodup->(∀x,x∈l->x∈m)->l.length<=m.length
 | [],_,_,_=>Nat.zero_le _
 | x::l,m,hn,h=>by
  have hn:=List.nodup_cons.1 hn
  have hx:=h x (by simp)
  have:=zl9 (l:=l) (m:=m.erase x) hn.2 fun y hy=>by
   have hne:y≠x:=fun e=>hn.1 (by rw [←e];exact hy)
   exact (List.mem_erase_of_ne hne).2 (h y (by simp [hy]))
  rw [List.length_erase_of_mem hx] at this
  have:=List.length_pos_of_mem hx
  simp only [List.length_cons]
  omega
theorem zsZ {n:Nat} {l:List Int} (h4:l.length<=4) (hnn:∀k,0<=l.getD k 0/\l.getD k 0<=1000) (hn:10<=n):zdv n (zb4 l)=some (total l):=by
 obtain ⟨m,rfl⟩:∃m,n=m+5:=⟨n-5,by omega⟩
 have h0:=hnn 0
 have h1:=hnn 1
 have h2:=hnn 2
 have h3:=hnn 3
 have ht:=zn1 h4
 unfold zdv
 have e:∀(m:Nat) (s k:Int) (j:Nat),k=j->j<4->0<=s->s<=100000->zbi (zb4 l) (m+1) s k=zbi (zb4 l) m (s+l.getD j 0) (k+1):=fun m s k j hk hj hs hs2=>by
  subst hk
  have hb:=hnn j
  simp only [zbi,zcS]
  rw [if_pos (by simp;omega)]
  rw [show idx ([(zb4 l).c0,(zb4 l).c1,(zb4 l).c2,(zb4 l).c3]:List Int) (j:Int)=some (l.getD j 0) from ziq hj,zac,zaT (by omega) (by omega),zaT (by omega) (by omega)]
 rw [e (m+4) 0 0 0 rfl (by omega) (by omega) (by omega),e (m+3) _ (0+1) 1 rfl (by omega) (by omega) (by omega),e (m+2) _ (0+1+1) 2 rfl (by omega) (by omega) (by omega),e (m+1) _ (0+1+1+1) 3 rfl (by omega) (by omega) (by omega)]
 simp only [zbi,zcS,zdk]
 rw [if_neg (by simp)]
 congr 1
 omega
def pnt (x:Pn):PointT_:=⟨⟨x.p,x.c⟩,zb4 x.l,x.b⟩
theorem zvM {x y:Pn} (h:pnt x=pnt y) (hl:x.l.length=y.l.length) (h4:x.l.length<=4):x=y:=by
 obtain ⟨a,b,c,d⟩:=x
 obtain ⟨a',b',c',d'⟩:=y
 simp only [pnt,PointT_.mk.injEq,Stand.mk.injEq] at h
 obtain ⟨⟨rfl,rfl⟩,h1,rfl⟩:=h
 obtain rfl:=zm0 h1 hl h4
 rfl
structure Cx (w:Wheel) (al:List Int):Prop where
 v:valid w=true
 hl:al.length=w.Coins.length
 nn:∀k,0<=al.getD k 0
 k3:w.Coins.length<=3
 t5:total al<=5
theorem Cx.h {w:Wheel} {al:List Int} (C:Cx w al):OkW w:=zfc C.v
theorem zp0 {w:Wheel} {al acts:List Int} {x:Pn} (C:Cx w al) (hr:RP (clT (total al)) w al acts x):OkX w al acts x/\total x.l<=total al/\(∀k,0<=x.l.getD k 0/\x.l.getD k 0<=5)/\zbF (pnt x)=true:=by
 have hX:=hr.ok C.h C.hl C.nn (zjx _)
 have ht:total x.l<=total al:=zf5 (by rw [hX.len,C.hl]) hX.le
 have hk:∀k,0<=x.l.getD k 0/\x.l.getD k 0<=5:=fun k=>by
  have:=zgt (zi9 hX.nn) k
  have:=C.t5
  omega
 refine ⟨hX,ht,hk,?_⟩
 have h0:=hk 0
 have h1:=hk 1
 have h2:=hk 2
 have h3:=hk 3
 have h4:=hX.p0
 have h5:=hX.p1
 have h6:=hX.c0
 have h7:=hX.cb
 have h8:=hX.bt
 have h9:=C.h.r2
 have h10:=C.t5
 unfold zbF pnt zb4
 simp only [List.all_cons,List.all_nil,Bool.and_true,Bool.and_eq_true]
 exact ⟨zgm (by omega) (by omega),zgm (by omega) (by omega),zgm (by omega) (by omega),zgm (by omega) (by omega),zgm (by omega) (by omega),zgm (by omega) (by omega),zgm (by omega) (by omega)⟩
structure WI (w:Wheel) (al:List Int) (A:PointT_->List Int) (M:List (PointT_×Step_)):Prop where
 nd:(M.map (·.1)).Nodup
 pt:∀k st,(k,st)∈M->(∃X,k=pnt X/\RP (clT (total al)) w al (A k) X)/\(st.act=-2/\A k=[]\/st.act≠-2/\zbt M st.from_=true/\A k=A st.from_++[st.act])
structure Ext (A:PointT_->List Int) (M:List (PointT_×Step_)) (q:List PointT_) (A':PointT_->List Int) (M':List (PointT_×Step_)) (q':List PointT_):Prop where
 ex:∃N:List (PointT_×Step_),M'=M++N/\q'=q++N.map (·.1)
 same:∀k,zbt M k=true->A' k=A k
theorem Ext.has {A M q A' M' q'} (h:Ext A M q A' M' q') {k:PointT_} (hk:zbt M k=true):zbt M' k=true:=by
 obtain ⟨N,rfl,_⟩:=h.ex
 rw [zbc] at hk ⊢
 rw [List.map_append]
 exact List.mem_append_left _ hk
theorem Ext.refl (A M q):Ext A M q A M q:=⟨⟨[],by simp,by simp⟩,fun _ _=>rfl⟩
theorem Ext.trans {A M q A' M' q' A2 M2 q2} (h:Ext A M q A' M' q') (g:Ext A' M' q' A2 M2 q2):Ext A M q A2 M2 q2:=by
 refine ⟨?_,fun k hk=>by rw [g.same k (h.has hk),h.same k hk]⟩
 obtain ⟨N,rfl,rfl⟩:=h.ex
 obtain ⟨N',rfl,rfl⟩:=g.ex
 exact ⟨N++N',by simp,by simp⟩
theorem Ext.len {A M q A' M' q'} (h:Ext A M q A' M' q'):M.length+q'.length=M'.length+q.length:=by
 obtain ⟨N,rfl,rfl⟩:=h.ex
 simp
 omega
theorem Ext.out {A M q A' M' q'} (h:Ext A M q A' M' q') {k:PointT_} (hk:zbt M' k=true) (hq:k∉q'):zbt M k=true/\k∉q:=by
 obtain ⟨N,rfl,rfl⟩:=h.ex
 rw [zbc,List.map_append] at hk
 rw [zbc]
 simp only [List.mem_append,not_or] at hk hq
 rcases hk with hk | hk
 ·exact ⟨hk,hq.1⟩
 ·exact absurd hk hq.2
theorem WI.key {w al A M} (hW:WI w al A M) {k:PointT_} (hk:zbt M k=true):∃X,k=pnt X/\RP (clT (total al)) w al (A k) X:=(hW.pt k _ (zgC za9 hk)).1
theorem WI.len {w al A M} (C:Cx w al) (hW:WI w al A M):M.length<=93312:=by
 have h1:=zl9 (m:=(zuJ (clT (total al)) w 5).map pnt) hW.nd fun k hk=>by
  obtain ⟨X,rfl,hr⟩:=hW.key (zbc.2 hk)
  exact List.mem_map.2 ⟨X,hr.up C.h C.hl C.nn (zjx _) (by have:=(zp0 C hr).2.1;have:=C.t5;omega),rfl⟩
 rw [List.length_map,List.length_map] at h1
 have h2:=zui (clT (total al)) C.k3 (t:=5) (by omega)
 omega
theorem WI.mok {w al A M} (C:Cx w al) (hW:WI w al A M) {acts:List Int} {X:Pn} (hr:RP (clT (total al)) w al acts X):mok zbF M (pnt X)=true:=by
 unfold Go.AM.mok
 rw [(zp0 C hr).2.2.2,Bool.true_and,Bool.and_eq_true]
 refine ⟨List.all_eq_true.2 fun p hp=>?_,decide_eq_true hW.nd⟩
 obtain ⟨Y,e,hr'⟩:=(hW.pt p.1 p.2 hp).1
 show zbF p.1=true
 rw [e]
 exact (zp0 C hr').2.2.2
theorem Cx.len4 {w al} (C:Cx w al):al.length<=4:=by rw [C.hl];have:=C.k3;omega
theorem zuK {w al} (C:Cx w al) {n:Nat} (hn:10<=n) {A M q} (hW:WI w al A M) {X Y:Pn} {a:Int} (hx:zbt M (pnt X)=true) (hr:RP (clT (total al)) w al (A (pnt X)++[a]) Y) (ha:a≠-2) {y:PointT_} (e1:y.in_=zb4 Y.l) (e2:y.bought=Y.b) (e3:y.Stand.Place=Y.p) (e4:min y.Stand.Credit (total al-total Y.l)=Y.c) (hq:q.length<=M.length) :
  ∃A' M' q',zer n (zb4 al) (pnt X) a y (M,q)=some (M',q')/\WI w al A' M'/\Ext A M q A' M' q'/\zbt M' (pnt Y)=true:=by
 obtain ⟨hY,ht,hk,hok⟩:=zp0 C hr
 have h4:=C.len4
 have hal:∀k,0<=al.getD k 0/\al.getD k 0<=1000:=fun k=>by
  have h1:=zgt (zi9 C.nn) k
  have h2:=C.t5
  omega
 have hnn:0<=total Y.l:=zep (zi9 hY.nn)
 have h5:=C.t5
 have e:zeb y (w64 (total al-total Y.l))=pnt Y:=by
  rw [zaT (by omega) (by omega)]
  show (⟨⟨y.Stand.Place,min y.Stand.Credit (total al-total Y.l)⟩,y.in_,y.bought⟩:PointT_)=_
  rw [e1,e2,e3,e4]
  rfl
 have hlen:=hW.len C
 unfold zer
 rw [zsZ h4 hal hn,zac,e1,zsZ (by rw [hY.len];have:=C.k3;omega) (fun k=>by have:=hk k;omega) hn,zac]
 simp only [e]
 rw [show zgz zbF za9 M (pnt Y)=some (zgO za9 M (pnt Y)) from if_pos (hW.mok C hr),zac]
 cases hh:zbt M (pnt Y) with
 | true =>
  rw [if_pos rfl]
  exact ⟨A,M,q,rfl,hW,Ext.refl A M q,hh⟩
 | false =>
  rw [if_neg (by simp),show zhp zbF M (pnt Y) ⟨a,pnt X⟩=some (zf8 M (pnt Y) ⟨a,pnt X⟩) from if_pos (hW.mok C hr),zac,if_pos (by omega),(zgA za9 M _ hh).2.2]
  have hno:∀k,zbt M k=true->k≠pnt Y:=fun k hk he=>by rw [he,hh] at hk;cases hk
  refine ⟨fun k=>if k=pnt Y then A (pnt X)++[a] else A k,_,_,rfl,⟨?_,fun k st hm=>?_⟩,⟨⟨[(pnt Y,⟨a,pnt X⟩)],rfl,rfl⟩,fun k hk=>if_neg (hno k hk)⟩,?_⟩
  ·rw [List.map_append,List.nodup_append]
   refine ⟨hW.nd,by simp,fun u hu v hv=>?_⟩
   simp only [List.map_cons,List.map_nil,List.mem_singleton] at hv
   rw [hv]
   exact hno u (zbc.2 hu)
  ·have hmono:∀k,zbt M k=true->zbt (M++[(pnt Y,(⟨a,pnt X⟩:Step_))]) k=true:=fun k hk=>by
    rw [zbc] at hk ⊢
    rw [List.map_append]
    exact List.mem_append_left _ hk
   rcases List.mem_append.1 hm with hm | hm
   ·have hk:zbt M k=true:=zbc.2 (List.mem_map.2 ⟨_,hm,rfl⟩)
    obtain ⟨p1,p2⟩:=hW.pt k st hm
    simp only [if_neg (hno k hk)]
    refine ⟨p1,?_⟩
    rcases p2 with p2 | ⟨p2,p3,p4⟩
    ·exact .inl p2
    ·exact .inr ⟨p2,hmono _ p3,by rw [if_neg (hno _ p3)];exact p4⟩
   ·simp only [List.mem_singleton,Prod.mk.injEq] at hm
    obtain ⟨rfl,rfl⟩:=hm
    simp only [if_pos rfl]
    exact ⟨⟨Y,rfl,hr⟩,.inr ⟨ha,hmono _ hx,by rw [if_neg (hno _ hx)];simp⟩⟩
  ·rw [zbc,List.map_append]
   exact List.mem_append_right _ (by simp)
theorem zvN {w:Wheel} (hv:valid w=true) {n:Nat} (hn:200<=n) {p:Int} (h0:0<=p) (h1:p<w.Round):zeF n w ⟨p,1⟩ [-1]=some (⟨0,0⟩,1,0):=by
 have h:=zfc hv
 rw [zuF (h.len (by omega)) hn _ _ (by simp) (by simp;omega)]
 have e:zit w ⟨p,1⟩ (-1)=(⟨0,0⟩,true):=by
  unfold zit
  rw [if_neg (by omega),if_neg (by simp)]
  rfl
 unfold zx9
 rw [if_pos hv,if_pos ⟨by simp only [zgs,zio,Bool.and_eq_true,zci];omega,by simp,by simp [zo1]⟩]
 simp only [zqY,e]
 rfl
theorem zuj {w:Wheel} (hv:valid w=true) {n:Nat} (hn:200<=n) {p:Int} (h0:0<=p) (h1:p<w.Round) {k:Nat} (hk:k<w.Coins.length):zeF n w ⟨p,0⟩ [(k:Int)]=some (⟨(turn w p (coin w k)).1,(turn w p (coin w k)).2⟩,0,0):=by
 have h:=zfc hv
 rw [zuF (h.len (by omega)) hn _ _ (by simp) (by simp;omega)]
 have e:zit w ⟨p,0⟩ (k:Int)=(⟨(turn w p (coin w k)).1,(turn w p (coin w k)).2⟩,false):=by
  unfold zit
  rw [if_pos (by omega)]
  simp
 unfold zx9
 rw [if_pos hv,if_pos ⟨by simp only [zgs,zio,Bool.and_eq_true,zci];omega,by simp,by simp [zm2 hk]⟩]
 simp only [zqY,e]
 rfl
theorem zs0 {w al} (C:Cx w al) {n:Nat} (hn:200<=n) {b:Box_} (hb:b.Box.Wheel=w) {A M q} (hW:WI w al A M) {X:Pn} (hx:zbt M (pnt X)=true) (hr:RP (clT (total al)) w al (A (pnt X)) X) (hq:q.length<=M.length) :
  ∃A' M' q',ze8 n b (zb4 al) (pnt X) (M,q)=some (M',q')/\WI w al A' M'/\Ext A M q A' M' q'/\(0<X.c->0<X.p->zbt M' (pnt (ztj (clT (total al)) X))=true):=by
 obtain ⟨hX,ht,hk,hok⟩:=zp0 C hr
 have h5:=C.t5
 have h6:=hX.cb
 have h7:=hX.bt
 unfold ze8
 rw [hb]
 show ∃A' M' q',(if decide (X.c>0)=true then if decide (X.p>0)=true then _ else _ else _)=_/\_
 by_cases hc:0<X.c
 ·by_cases hp:0<X.p
  ·rw [if_pos (by simpa using hc),if_pos (by simpa using hp)]
   show ∃A' M' q',Option.bind (zeF n w ⟨X.p,1⟩ [-1]) _=_/\_
   rw [zvN C.v hn hX.p0 hX.p1,zac]
   obtain ⟨A',M',q',g1,g2,g3,g4⟩:=zuK (n:=n) C (by omega) hW (Y:=ztj (clT (total al)) X) (a:=-1) (y:=⟨⟨0,w64 (X.c-1)⟩,zb4 X.l,X.b⟩) hx (hr.sel hc hp) (by omega) rfl rfl rfl (by
    show min (w64 (X.c-1)) (total al-total X.l)=min (X.c-1) (total al-total X.l)
    rw [zaT (by omega) (by omega)]) hq
   exact ⟨A',M',q',g1,g2,g3,fun _ _=>g4⟩
  ·rw [if_pos (by simpa using hc),if_neg (by simpa using hp)]
   exact ⟨A,M,q,rfl,hW,Ext.refl A M q,fun _ h=>absurd h hp⟩
 ·rw [if_neg (by simpa using hc)]
  exact ⟨A,M,q,rfl,hW,Ext.refl A M q,fun h=>absurd h hc⟩
theorem zlj {w al} (C:Cx w al) {n:Nat} (hn:200<=n) {b:Box_} (hb:b.Box.Wheel=w) {X:Pn}:∀(d i m:Nat),i+d=w.Coins.length->d<m->∀{A M q},WI w al A M->zbt M (pnt X)=true->RP (clT (total al)) w al (A (pnt X)) X->q.length<=M.length ->
  ∃A' M' q',zbu n b (zb4 al) (pnt X) m (i:Int) (M,q)=some (M',q')/\WI w al A' M'/\Ext A M q A' M' q'/\∀k:Nat,i<=k->k<w.Coins.length->X.l.getD k 0≠al.getD k 0->zbt M' (pnt (zq2 (clT (total al)) w X k))=true
 | d,i,0,_,hm,_,_,_,_,_,_,_=>absurd hm (Nat.not_lt_zero _)
 | 0,i,m+1,hi,_,A,M,q,hW,hx,hr,hq=>by
  unfold zbu
  rw [hb,if_neg (by simp;omega)]
  exact ⟨A,M,q,rfl,hW,Ext.refl A M q,fun k h1 h2=>by omega⟩
 | d+1,i,m+1,hi,hm,A,M,q,hW,hx,hr,hq=>by
  obtain ⟨hX,ht,hk,hok⟩:=zp0 C hr
  have h5:=C.t5
  have h6:=hX.cb
  have h7:=hX.bt
  have h8:=hX.c0
  have h9:=C.k3
  have h4:=C.len4
  have hki:=hk i
  have hil:i<X.l.length:=by rw [hX.len];omega
  unfold zbu
  rw [hb,if_pos (by simp;omega)]
  show ∃A' M' q',Option.bind (idx (zsO X.l) (i:Int)) _=_/\_
  rw [ziq (by omega),zac,show idx ([(zb4 al).c0,(zb4 al).c1,(zb4 al).c2,(zb4 al).c3]:List Int) (i:Int)=some (al.getD i 0) from ziq (by omega),zac,zaT (x:=(i:Int)+1) (by omega) (by omega)]
  by_cases he:X.l.getD i 0=al.getD i 0
  ·rw [if_pos (by simpa using he)]
   obtain ⟨A',M',q',g1,g2,g3,g4⟩:=zlj C hn hb d (i+1) m (by omega) (by omega) hW hx hr hq
   refine ⟨A',M',q',g1,g2,g3,fun k k1 k2 k3=>?_⟩
   by_cases e:k=i
   ·subst e
    exact absurd he k3
   ·exact g4 k (by omega) k2 k3
  ·rw [if_neg (by simpa using he)]
   show ∃A' M' q',Option.bind (zeF n w ⟨X.p,0⟩ [(i:Int)]) _=_/\_
   have hcoin:=zdB C.h (a:=(i:Int)) (by omega) (by omega)
   have htr:=zcO C.h hX.p0 hX.p1 (show 0<=coin w i by omega)
   rw [zuj C.v hn hX.p0 hX.p1 (by omega),zac,zaT (x:=X.l.getD i 0+1) (by omega) (by omega)]
   rw [show zqt ([(pnt X).in_.c0,(pnt X).in_.c1,(pnt X).in_.c2,(pnt X).in_.c3]:List Int) (i:Int) (X.l.getD i 0+1)=some (zsO (zf4 X.l i)) from zmZ hil (by rw [hX.len];omega),zac]
   obtain ⟨A1,M1,q1,g1,g2,g3,g4⟩:=zuK (n:=n) C (by omega) hW (Y:=zq2 (clT (total al)) w X i) (a:=(i:Int)) (y:=⟨⟨(turn w X.p (coin w i)).1,w64 (X.c+(turn w X.p (coin w i)).2)⟩,zb4 (zf4 X.l i),w64 (X.b+(turn w X.p (coin w i)).2)⟩) hx (hr.coin (by omega) he) (by omega) rfl (by
     show w64 _=X.b+_
     rw [zaT (by omega) (by omega)]) rfl (by
     show min (w64 (X.c+(turn w X.p (coin w i)).2)) (total al-total (zf4 X.l i))=min (X.c+(turn w X.p (coin w i)).2) (total al-(total X.l+1))
     rw [zaT (by omega) (by omega),ze4 hil]) hq
   have hl1:=g3.len
   obtain ⟨A',M',q',k1,k2,k3,k4⟩:=zlj C hn hb d (i+1) m (by omega) (by omega) g2 (g3.has hx) (by rw [g3.same _ hx];exact hr) (show q1.length<=M1.length by omega)
   refine ⟨A',M',q',?_,k2,g3.trans k3,fun k j1 j2 j3=>?_⟩
   ·show Option.bind (zer n (zb4 al) (pnt X) (i:Int) ⟨⟨(turn w X.p (coin w i)).1,w64 (X.c+(turn w X.p (coin w i)).2)⟩,zb4 (zf4 X.l i),w64 (X.b+(turn w X.p (coin w i)).2)⟩ (M,q)) _=_
    rw [g1,zac]
    exact k1
   ·by_cases e:k=i
    ·subst e
     exact k3.has g4
    ·exact k4 k (by omega) j2 j3
def Closed (w:Wheel) (al:List Int) (M:List (PointT_×Step_)) (X:Pn):Prop:=(0<X.c->0<X.p->zbt M (pnt (ztj (clT (total al)) X))=true)/\∀k:Nat,k<w.Coins.length->X.l.getD k 0≠al.getD k 0->zbt M (pnt (zq2 (clT (total al)) w X k))=true
theorem Closed.ext {w al A M q A' M' q'} (h:Ext A M q A' M' q') {X:Pn} (hc:Closed w al M X):Closed w al M' X:=⟨fun a b=>h.has (hc.1 a b),fun k a b=>h.has (hc.2 k a b)⟩
theorem zn5 {w al} (C:Cx w al) {n:Nat} (hn:200<=n) {b:Box_} (hb:b.Box.Wheel=w):∀(m:Nat) {A M q},93312+q.length<m+M.length->WI w al A M->q.length<=M.length->(∀k,k∈q->zbt M k=true)->zbt M (pnt (zlC w))=true->(∀acts X,RP (clT (total al)) w al acts X->zbt M (pnt X)=true->pnt X∉q->Closed w al M X) ->
  ∃A' M',zdy n b (zb4 al) m (M,q)=some M'/\WI w al A' M'/\∀acts X,RP (clT (total al)) w al acts X->zbt M' (pnt X)=true
 | 0,A,M,q,hf,hW,_,_,_,_=>by
  have:=hW.len C
  omega
 | m+1,A,M,[],hf,hW,hq,hqm,hz,hcl=>by
  refine ⟨A,M,rfl,hW,fun acts X hr=>?_⟩
  induction hr with
  | zero=>exact hz
  | sel hr hc hp ih=>exact (hcl _ _ hr ih (by simp)).1 hc hp
  | coin hr hk hne ih=>exact (hcl _ _ hr ih (by simp)).2 _ hk hne
 | m+1,A,M,x::q,hf,hW,hq,hqm,hz,hcl=>by
  have hx:zbt M x=true:=hqm x (by simp)
  obtain ⟨X,rfl,hr⟩:=hW.key hx
  simp only [List.length_cons] at hf hq
  obtain ⟨A1,M1,q1,g1,g2,g3,g4⟩:=zs0 C hn hb hW hx hr (show q.length<=M.length by omega)
  have hl1:=g3.len
  obtain ⟨A2,M2,q2,k1,k2,k3,k4⟩:=zlj C hn hb w.Coins.length 0 n (by omega) (by have:=C.k3;omega) g2 (g3.has hx) (by rw [g3.same _ hx];exact hr) (show q1.length<=M1.length by omega)
  have hl2:=k3.len
  have hE:=g3.trans k3
  have hXc:Closed w al M2 X:=⟨fun a b=>k3.has (g4 a b),fun k a b=>k4 k (Nat.zero_le _) a b⟩
  have hX:=zp0 C hr
  obtain ⟨A',M',j1,j2,j3⟩:=zn5 C hn hb m (A:=A2) (M:=M2) (q:=q2) (by omega) k2 (by omega) (fun k hk=>by
   obtain ⟨N,e1,e2⟩:=hE.ex
   rw [e2] at hk
   rcases List.mem_append.1 hk with hk | hk
   ·exact hE.has (hqm k (List.mem_cons_of_mem _ hk))
   ·rw [zbc,e1,List.map_append]
    exact List.mem_append_right _ hk) (hE.has hz) fun acts Y hY hm hnq=>by
   obtain ⟨o1,o2⟩:=hE.out hm hnq
   by_cases e:pnt Y=pnt X
   ·obtain rfl:=zvM e (by rw [(zp0 C hY).1.len,hX.1.len]) (by rw [(zp0 C hY).1.len];have:=C.k3;omega)
    exact hXc
   ·exact (hcl acts Y hY o1 (by simp only [List.mem_cons,not_or];exact ⟨e,o2⟩)).ext hE
  refine ⟨A',M',?_,j2,j3⟩
  unfold zdy
  simp only
  rw [g1,zac]
  show Option.bind (zbu n b (zb4 al) (pnt X) n ((0:Nat):Int) (M1,q1)) _=_
  rw [k1,zac]
  exact j1
theorem zp1 (w:Wheel):pnt (zlC w)=zaG:=by
 have h:=fun k=>zlh w k
 unfold pnt zlC zb4
 simp only [h]
theorem zvO {w al} (C:Cx w al) {n:Nat} (hn:100000<=n) {b:Box_} (hb:b.Box.Wheel=w):∃A M,zen n (some b) (zb4 al)=some M/\WI w al A M/\∀acts X,RP (clT (total al)) w al acts X->zbt M (pnt X)=true:=by
 have hz:zbt [(zaG,(⟨-2,zaG⟩:Step_))] (pnt (zlC w))=true:=by rw [zp1];simp [zbt]
 exact zn5 C (by omega) hb n (A:=fun _=>[]) (M:=[(zaG,⟨-2,zaG⟩)]) (q:=[zaG]) (by simp;omega) ⟨by simp,fun k st hm=>by
  simp only [List.mem_singleton,Prod.mk.injEq] at hm
  obtain ⟨rfl,rfl⟩:=hm
  exact ⟨⟨zlC w,(zp1 w).symm,.zero⟩,.inl ⟨rfl,rfl⟩⟩⟩ (by simp) (by simp [zbt]) hz fun acts X hr hm hnq=>by
  exfalso
  rw [zbc] at hm
  exact hnq hm
theorem zs1 {w al} (C:Cx w al) {A M} (hW:WI w al A M):∀(m:Nat) {k:PointT_} {acts:List Int},zbt M k=true->(A k).length<m->acts.length+(A k).length<100000->zdS M m (zgO za9 M k) acts=some (acts++(A k).reverse)
 | 0,k,acts,hk,hm,_=>absurd hm (Nat.not_lt_zero _)
 | m+1,k,acts,hk,hm,hl=>by
  unfold zdS
  rcases (hW.pt k _ (zgC za9 hk)).2 with ⟨h1,h2⟩ | ⟨h1,h2,h3⟩
  ·rw [if_neg (by simpa using h1),h2]
   simp
  ·rw [h3,List.length_append,List.length_singleton] at hm hl
   obtain ⟨Y,e,hr⟩:=hW.key h2
   rw [if_pos (by simpa using h1),if_pos (by omega),show zgz zbF za9 M (zgO za9 M k).from_=some (zgO za9 M (zgO za9 M k).from_) from if_pos (by rw [e];exact hW.mok C hr),zac,zs1 C hW m h2 (by omega) (by simp;omega)]
   conv=>rhs;rw [h3]
   simp
def sums (a b:List Int):List Int:=List.zipWith (·+·) a b
theorem zm3 {a b:List Int} (h:b.length=a.length):(sums a b).length=a.length:=by simp [sums,h]
theorem zhK:∀{a b:List Int},b.length=a.length->∀k,(sums a b).getD k 0=a.getD k 0+b.getD k 0
 | [],[],_,k=>by simp [sums]
 | [],_::_,h,_=>by simp at h
 | _::_,[],h,_=>by simp at h
 | x::a,y::b,h,0=>by simp [sums]
 | x::a,y::b,h,k+1=>by
  have:=zhK (a:=a) (b:=b) (by simpa using h) k
  simpa [sums] using this
theorem zjz:∀{a b:List Int},b.length=a.length->total (sums a b)=total a+total b
 | [],[],_=>rfl
 | [],_::_,h=>by simp at h
 | _::_,[],h=>by simp at h
 | x::a,y::b,h=>by
  have:=zjz (a:=a) (b:=b) (by simpa using h)
  simp only [sums,List.zipWith_cons_cons,total] at this ⊢
  omega
def zn6 (l:List Int):Prop:=∀k,0<=l.getD k 0/\l.getD k 0<=1000
theorem zn6.sums {a b:List Int} (h:b.length=a.length) (ha:∀k,0<=a.getD k 0/\a.getD k 0<=500) (hb:∀k,0<=b.getD k 0/\b.getD k 0<=500):zn6 (sums a b):=fun k=>by
 rw [zhK h]
 have:=ha k
 have:=hb k
 omega
theorem getD_get {l:List Int} {k:Nat} (h:k<l.length):l[k]=l.getD k 0:=by simp [h]
theorem zuk {n:Nat} {l:List Int} (hs:zn6 l) (hl:l.length<1000) (hn:l.length<n):zg1 n l=some (total l):=by
 have key:=zua (F:=fun m i (s:Int)=>zcX l m s i) (xs:=l) (spec:=fun k s=>some (s+total k)) (I:=fun k s=>0<=s/\s+1000*k.length<=100000000/\∀x,x∈k->0<=x/\x<=1000) (by omega)
  (fun m s hI=>by simp [zcX,zek,ze6,total])
  (fun m i x k s hI hx hi _ _ hrec=>by
   obtain ⟨i1,i2,i3⟩:=hI
   have hxr:=i3 x (by simp)
   simp only [List.length_cons] at i2
   simp only [zcX,zek]
   rw [if_pos (by simpa using hi),hx,zac,zaT (x:=s+x) (by omega) (by omega),hrec (s+x) ⟨by omega,by omega,fun y hy=>i3 y (by simp [hy])⟩]
   simp only [total]
   congr 1
   omega)
  l 0 n 0 (by omega) rfl (by omega) ⟨by omega,by omega,fun x hx=>by
   obtain ⟨k,hk⟩:=List.getElem?_of_mem hx
   have:=hs k
   rwa [List.getD_eq_getElem?_getD,hk] at this⟩
 rw [show zg1 n l=_ from key,Int.zero_add]
theorem zhV (a b c:Int):zcY a b c=some (inR a b c):=by
 unfold zcY zc6 inR
 by_cases h:b<=a<;>simp [h]
def zxh (b:Box):Prop:=∀k,k<b.Found.length->0<=b.Marked.getD k 0/\b.Marked.getD k 0<=b.Found.getD k 0
instance (b:Box):Decidable (zxh b):=inferInstanceAs (Decidable (∀k,k<b.Found.length->0<=b.Marked.getD k 0/\b.Marked.getD k 0<=b.Found.getD k 0))
structure BoxOk (b:Box):Prop where
 v:valid b.Wheel=true
 p:inR b.Plays 0 9999=true
 s:inR b.Skips 0 9=true
 f:zb5 b.Wheel b.Found=true
 g:zb5 b.Wheel b.Slugs=true
 ml:b.Marked.length=b.Found.length
 mkd:zxh b
 t:total b.Found+total b.Slugs<=12
open Classical in
noncomputable def zq3 (b:Box):Bool:=decide (BoxOk b)
theorem zn7 {b:Box}:zq3 b=true↔BoxOk b:=by simp [zq3]
theorem zs2 {b:Box} (h:¬BoxOk b):zq3 b=false:=by simp [zq3,h]
def zyL (b:Box):Prop:=b.Wheel.Notches.length<=40/\b.Wheel.Coins.length<=40/\b.Found.length<=40/\b.Marked.length<=40/\b.Slugs.length<=40
theorem zf6 {w:Wheel} {l:List Int} (h:zb5 w l=true):l.length=w.Coins.length/\(∀k,0<=l.getD k 0/\l.getD k 0<=12)/\total l<=12:=by
 obtain ⟨h1,h2⟩:=zm1 h
 simp only [zb5,Bool.and_eq_true,decide_eq_true_eq] at h
 refine ⟨h.1.1,fun k=>?_,h2⟩
 have:=zgt h1.nn k
 omega
theorem zn8 {w:Wheel} {l:List Int} (h:zb5 w l=true):l.all (fun x=>inR x 0 12)=true:=by
 simp only [zb5,Bool.and_eq_true] at h
 exact h.1.2
theorem zs3 {n:Nat} (f:Int->Option Bool) (g:Int->Bool) (xs:List Int) (hf:∀x,x∈xs->f x=some (g x)) (hl:xs.length<1048576) (hn:xs.length<n) :
  zaX n (fun x (_:Unit)=>(f x).map fun y=>(y,())) xs ()=some (xs.any g,()):=by
 have key:∀(l:List Int) (i m:Nat) (s:Unit),i<=xs.length->xs.drop i=l->l.length<m->(zak xs (fun x (_:Unit)=>(f x).map fun y=>(y,())) m (i:Int) s).map (fun r=>decide (r.1≥0))=some (l.any g):=by
  intro l i m s h1 h2 h3
  refine zvy (fun m i s=>(zak xs (fun x (_:Unit)=>(f x).map fun y=>(y,())) m i s).map (fun r=>decide (r.1≥0))) xs (fun l _=>some (l.any g)) hl (fun m s=>?_) (fun m i x l s hx hi _ _ hrec=>?_) l i m s h1 h2 h3
  ·simp [zak,zaZ,zbm]
  ·have hmem:x∈xs:=by
    unfold idx at hx
    rw [if_pos (by omega)] at hx
    exact List.mem_of_getElem? hx
   simp only [zak,zaZ]
   rw [if_pos (by simpa using hi),hx,zac]
   simp only [hf x hmem,Option.map_some,zac]
   by_cases hg:g x=true
   ·rw [if_pos (by simpa using hg)]
    simp [hg]
   ·rw [if_neg (by simpa using hg)]
    have:=hrec ()
    rw [this]
    simp [hg]
 have h:=key xs 0 n () (by omega) rfl hn
 unfold zaX zcu
 change Option.map _ (zak xs _ n 0 ())=_ at h
 cases hx:zak xs (fun x (_:Unit)=>(f x).map fun y=>(y,())) n 0 () with
 | none=>rw [hx] at h;cases h
 | some r =>
  rw [hx] at h
  simp only [Option.map_some,Option.some.injEq] at h
  simp only [zac]
  rw [h]
def zul (w:Wheel) (l:List Int):Bool:=decide (l.length≠w.Coins.length) || l.any (fun x=>!inR x 0 12)
theorem zm4 {n:Nat} (hn:200<=n) (b:Box) (m:Nat) (i:Int) (l:List Int) (hi:i<3) (h0:0<=i) (hl:l.length<=40) (hc:b.Wheel.Coins.length<=40) (hx:idx ([b.Found,b.Marked,b.Slugs]:List (List Int)) i=some l) :
  zaM n b (m+1) i=if zul b.Wheel l=true then some 50 else zaM n b m (i+1):=by
 simp only [zaM,zeD,zdu]
 rw [if_pos (by simpa using hi),hx,zac,zs3 zdt (fun x=>!inR x 0 12) l (fun x _=>by unfold zdt;rw [zhV,zac]) (by omega) (by omega),zac,zaT (x:=i+1) (by omega) (by omega)]
 unfold zul
 by_cases h1:l.length=b.Wheel.Coins.length
 ·rw [if_neg (by simp;omega),show decide (l.length≠b.Wheel.Coins.length)=false by simp [h1],Bool.false_or]
 ·rw [if_pos (by simp;omega),show decide (l.length≠b.Wheel.Coins.length)=true by simp [h1],Bool.true_or]
  rfl
theorem zo6 {w:Wheel} {l:List Int} (h:zul w l=false):l.length=w.Coins.length/\l.all (fun x=>inR x 0 12)=true:=by
 simp only [zul,Bool.or_eq_false_iff,decide_eq_false_iff_not,Decidable.not_not,List.any_eq_false,List.all_eq_true] at h ⊢
 exact ⟨h.1,fun x hx=>by simpa using h.2 x hx⟩
theorem zo7 {w:Wheel} {l:List Int} (h1:l.length=w.Coins.length) (h2:l.all (fun x=>inR x 0 12)=true):zul w l=false:=by
 rw [List.all_eq_true] at h2
 simp only [zul,Bool.or_eq_false_iff,decide_eq_false_iff_not,Decidable.not_not,List.any_eq_false]
 exact ⟨h1,fun x hx=>by simp [h2 x hx]⟩
open Classical in
theorem zs4 (b:Box) (n:Nat) (hl:zyL b) (hn:200<=n):zfF n b=some (cond (zq3 b) 0 50):=by
 obtain ⟨l1,l2,l3,l4,l5⟩:=hl
 have hol:zlB n b.Wheel:=⟨by omega,by omega,by omega,by omega⟩
 have no:∀h:¬BoxOk b,(some 50:Option Int)=some (cond (zq3 b) 0 50):=fun h=>by rw [zs2 h];rfl
 have j1:zcN n b true=some 50:=rfl
 unfold zfF
 rw [zmW hol,zac]
 by_cases hv:valid b.Wheel=true
 ·rw [hv]
  show Option.bind _ _=_
  rw [zhV,zac]
  by_cases hp:inR b.Plays 0 9999=true
  ·rw [if_neg (by simp [hp]),zhV,zac]
   by_cases hs:inR b.Skips 0 9=true
   ·rw [hs]
    show zaM n b n 0=_
    obtain ⟨n,rfl⟩:∃q,n=q+4:=⟨n-4,by omega⟩
    have en:∀m i,zaM (n+4) b (m+1) i=zaM (n+4) b (m+1) i:=fun _ _=>rfl
    rw [show zaM (n+4) b (n+4) 0=zaM (n+4) b ((n+3)+1) 0 from rfl,zm4 hn b (n+3) 0 b.Found (by omega) (by omega) (by omega) l2 rfl]
    by_cases b1:zul b.Wheel b.Found=true
    ·rw [if_pos b1]
     exact no fun h=>by rw [zo7 (zf6 h.f).1 (zn8 h.f)] at b1;cases b1
    rw [if_neg b1,show zaM (n+4) b (n+3) (0+1)=zaM (n+4) b ((n+2)+1) 1 from rfl,zm4 hn b (n+2) 1 b.Marked (by omega) (by omega) (by omega) l2 rfl]
    obtain ⟨f1,f2⟩:=zo6 (by simpa using b1)
    by_cases b2:zul b.Wheel b.Marked=true
    ·rw [if_pos b2]
     refine no fun h=>?_
     rw [zo7 (by rw [h.ml];exact f1) (List.all_eq_true.2 fun x hx=>?_)] at b2
     ·cases b2
     ·obtain ⟨k,hk⟩:=List.getElem?_of_mem hx
      have hkl:k<b.Marked.length:=by
       rcases Nat.lt_or_ge k b.Marked.length with h1 | h1
       ·exact h1
       ·rw [List.getElem?_eq_none h1] at hk
        cases hk
      have h1:=h.mkd k (by have:=h.ml;omega)
      have h2:=(zf6 h.f).2.1 k
      rw [List.getD_eq_getElem?_getD,hk] at h1
      have h3:0<=x/\x<=b.Found.getD k 0:=h1
      exact zci.2 ⟨h3.1,by omega⟩
    rw [if_neg b2,show zaM (n+4) b (n+2) (1+1)=zaM (n+4) b ((n+1)+1) 2 from rfl,zm4 hn b (n+1) 2 b.Slugs (by omega) (by omega) (by omega) l2 rfl]
    obtain ⟨m1,m2⟩:=zo6 (by simpa using b2)
    by_cases b3:zul b.Wheel b.Slugs=true
    ·rw [if_pos b3]
     exact no fun h=>by rw [zo7 (zf6 h.g).1 (zn8 h.g)] at b3;cases b3
    rw [if_neg b3]
    obtain ⟨g1,g2⟩:=zo6 (by simpa using b3)
    have sm:∀{l:List Int},l.all (fun x=>inR x 0 12)=true->∀k,0<=l.getD k 0/\l.getD k 0<=12:=fun {l} h k=>by
     rw [List.all_eq_true] at h
     rw [List.getD_eq_getElem?_getD]
     cases hk:l[k]? with
     | none=>simp
     | some x=>exact zci.1 (h x (List.mem_of_getElem? hk))
    have f3:=sm f2
    have g3:=sm g2
    have m3:=sm m2
    show zbw b (n+4) 0 0=_
    have key:∀(d i m:Nat) (v:Int),d=b.Found.length-i->i<=b.Found.length->d<m->0<=v->v<=100*i->zbw b m v (i:Int)=some (if (∀k,i<=k->k<b.Found.length->b.Marked.getD k 0<=b.Found.getD k 0)/\v+total (b.Found.drop i)+total (b.Slugs.drop i)<=12 then 0 else 50):=by
     intro d
     induction d with
     | zero =>
      intro i m v hd hi hm h0 h1
      obtain ⟨m,rfl⟩:∃q,m=q+1:=⟨m-1,by omega⟩
      simp only [zbw,zdG,zem]
      have e1:total (b.Found.drop i)=0:=by rw [List.drop_eq_nil_of_le (by omega)];rfl
      have e2:total (b.Slugs.drop i)=0:=by rw [List.drop_eq_nil_of_le (by omega)];rfl
      rw [if_neg (by simp;omega)]
      by_cases ht:v>12
      ·rw [if_pos (by simpa using ht),if_neg fun h=>by omega]
      ·rw [if_neg (by simpa using ht),if_pos ⟨fun k h1 h2=>by omega,by omega⟩]
     | succ d ih =>
      intro i m v hd hi hm h0 h1
      obtain ⟨m,rfl⟩:∃q,m=q+1:=⟨m-1,by omega⟩
      have fi:=f3 i
      have gi:=g3 i
      simp only [zbw,zdG]
      rw [if_pos (by simp;omega),zeq (by omega),zac,zeq (by omega),zac,getD_get,getD_get]
      by_cases hq:b.Marked.getD i 0>b.Found.getD i 0
      ·rw [if_pos (by simpa using hq),if_neg fun h=>by have:=h.1 i (Nat.le_refl _) (by omega);omega]
      ·rw [if_neg (by simpa using hq),zeq (by omega),zac,getD_get,zaT (x:=b.Found.getD i 0+b.Slugs.getD i 0) (by omega) (by omega),zaT (x:=v+_) (by omega) (by omega),zaT (x:=(i:Int)+1) (by omega) (by omega)]
       have:=ih (i+1) m (v+(b.Found.getD i 0+b.Slugs.getD i 0)) (by omega) (by omega) (by omega) (by omega) (by omega)
       rw [show (((i+1:Nat)):Int)=(i:Int)+1 by simp] at this
       have e1:total (b.Found.drop i)=b.Found.getD i 0+total (b.Found.drop (i+1)):=by rw [List.drop_eq_getElem_cons (l:=b.Found) (i:=i) (by omega),getD_get];rfl
       have e2:total (b.Slugs.drop i)=b.Slugs.getD i 0+total (b.Slugs.drop (i+1)):=by rw [List.drop_eq_getElem_cons (l:=b.Slugs) (i:=i) (by omega),getD_get];rfl
       rw [this]
       congr 1
       by_cases hR:(∀k,i+1<=k->k<b.Found.length->b.Marked.getD k 0<=b.Found.getD k 0)/\v+(b.Found.getD i 0+b.Slugs.getD i 0)+total (b.Found.drop (i+1))+total (b.Slugs.drop (i+1))<=12
       ·have hall:∀k,i<=k->k<b.Found.length->b.Marked.getD k 0<=b.Found.getD k 0:=fun k h1 h2=>by
         by_cases e:k=i
         ·subst e
          omega
         ·exact hR.1 k (by omega) h2
        rw [if_pos hR,if_pos ⟨hall,by have:=hR.2;omega⟩]
       ·rw [if_neg hR,if_neg fun h=>hR ⟨fun k h1 h2=>h.1 k (by omega) h2,by have:=h.2;omega⟩]
    rw [show zbw b (n+4) 0 0=_ from key b.Found.length 0 (n+4) 0 (by omega) (by omega) (by omega) (by omega) (by omega)]
    simp only [List.drop_zero,Int.zero_add]
    have nnf:∀x,x∈b.Found->0<=x:=zi9 fun k=>(f3 k).1
    have nng:∀x,x∈b.Slugs->0<=x:=zi9 fun k=>(g3 k).1
    by_cases hR:(∀k,0<=k->k<b.Found.length->b.Marked.getD k 0<=b.Found.getD k 0)/\total b.Found+total b.Slugs<=12
    ·have tf:=zep nnf
     have tg:=zep nng
     rw [if_pos hR,zn7.2 ⟨hv,hp,hs,by simp only [zb5,Bool.and_eq_true,decide_eq_true_eq];exact ⟨⟨f1,f2⟩,by have:=hR.2;omega⟩,by simp only [zb5,Bool.and_eq_true,decide_eq_true_eq];exact ⟨⟨g1,g2⟩,by have:=hR.2;omega⟩,by omega,fun k hk=>⟨(m3 k).1,hR.1 k (Nat.zero_le _) hk⟩,hR.2⟩]
     rfl
    ·rw [if_neg hR]
     exact no fun h=>hR ⟨fun k _ hk=>(h.mkd k hk).2,h.t⟩
   ·rw [show (!inR b.Skips 0 9)=true by simpa using hs,j1]
    exact no fun h=>hs h.s
  ·rw [if_pos (by simpa using hp),j1]
   exact no fun h=>hp h.p
 ·rw [show valid b.Wheel=false by simpa using hv]
  exact no fun h=>hv h.v
def zjX (b:Box):List Int:=sums b.Found b.Slugs
structure Near (b:Box):Prop where
 ok:BoxOk b
 k3:b.Wheel.Coins.length<=3
 t3:total b.Found+total b.Slugs<=3
theorem zm5 {l:List Int} {k j:Nat} {v:Int} (hk:k<l.length):(l.set k v).getD j 0=if k=j then v else l.getD j 0:=by
 by_cases e:k=j
 ·subst e
  rw [if_pos rfl,List.getD_eq_getElem?_getD,List.getElem?_set_self hk]
  rfl
 ·rw [if_neg e,List.getD_eq_getElem?_getD,List.getElem?_set_ne e,←List.getD_eq_getElem?_getD]
structure NearF (b:Box):Prop where
 fl:b.Found.length=b.Wheel.Coins.length
 sl:b.Slugs.length=b.Wheel.Coins.length
 ml:b.Marked.length=b.Wheel.Coins.length
 f:∀k,0<=b.Found.getD k 0/\b.Found.getD k 0<=12
 s:∀k,0<=b.Slugs.getD k 0/\b.Slugs.getD k 0<=12
 m:∀k,0<=b.Marked.getD k 0/\b.Marked.getD k 0<=12
 p:0<=b.Plays/\b.Plays<=9999
 k:0<=b.Skips/\b.Skips<=9
 h:OkW b.Wheel
theorem BoxOk.far {b:Box} (N:BoxOk b):NearF b:=by
 obtain ⟨f1,f2,f3⟩:=zf6 N.f
 obtain ⟨g1,g2,g3⟩:=zf6 N.g
 refine ⟨f1,g1,by rw [N.ml];exact f1,f2,g2,fun k=>?_,zci.1 N.p,zci.1 N.s,zfc N.v⟩
 rcases Nat.lt_or_ge k b.Found.length with h | h
 ·have:=N.mkd k h
  have:=f2 k
  omega
 ·rw [List.getD_eq_getElem?_getD,List.getElem?_eq_none (by rw [N.ml];exact h)]
  simp
theorem zm6 {b:Box} (F:NearF b):(zjX b).length=b.Wheel.Coins.length:=by rw [zjX,zm3 (by rw [F.sl,F.fl]),F.fl]
theorem zm7 {b:Box} (F:NearF b) (k:Nat):(zjX b).getD k 0=b.Found.getD k 0+b.Slugs.getD k 0:=zhK (by rw [F.sl,F.fl]) k
theorem zs5 {b:Box} (F:NearF b):total (zjX b)=total b.Found+total b.Slugs:=zjz (by rw [F.sl,F.fl])
structure More (b:Box) (P:List Int):Prop where
 l:P.length=b.Wheel.Coins.length
 nn:∀k,0<=P.getD k 0
 t:total P<=2
theorem More.small {b:Box} {P:List Int} (h:More b P):∀k,0<=P.getD k 0/\P.getD k 0<=2:=fun k=>by
 have:=zgt (zi9 h.nn) k
 have:=h.t
 omega
theorem Near.cx {b:Box} (N:Near b) {P:List Int} (h:More b P):Cx b.Wheel (sums (zjX b) P) :=
 have F:=N.ok.far
 have e:P.length=(zjX b).length:=by rw [h.l,zm6 F]
 ⟨N.ok.v,by rw [zm3 e,zm6 F],fun k=>by rw [zhK e,zm7 F];have:=F.f k;have:=F.s k;have:=h.nn k;omega,N.k3,by rw [zjz e,zs5 F];have:=N.t3;have:=h.t;omega⟩
theorem put_eq {b:Box} (F:NearF b) (h4:b.Wheel.Coins.length<=4) {n:Nat} (hn:10<=n):zfV n (some ⟨b⟩)=some (zb4 (zjX b)):=by
 have hfl:=F.fl
 have hsl:=F.sl
 have key:∀(d i m:Nat) (Q:List Int),d=b.Found.length-i->i<=b.Found.length->d<m->Q.length=b.Found.length->(∀k:Nat,k<i->Q.getD k 0=b.Found.getD k 0+b.Slugs.getD k 0)->zbS (some ⟨b⟩) ⟨b⟩ m (i:Int) (Q.getD 0 0) (Q.getD 1 0) (Q.getD 2 0) (Q.getD 3 0)=some (zb4 (zjX b)):=by
  intro d
  induction d with
  | zero =>
   intro i m Q hd hi hm hQ hk
   obtain ⟨m,rfl⟩:∃q,m=q+1:=⟨m-1,by omega⟩
   simp only [zbS,zc2,zdH]
   have e:Q=zjX b:=zhJ (n:=b.Found.length) hQ (by rw [zm6 F,F.fl]) fun k hk'=>by rw [hk k (by omega),zm7 F]
   rw [if_neg (by simp;omega),e]
   rfl
  | succ d ih =>
   intro i m Q hd hi hm hQ hk
   obtain ⟨m,rfl⟩:∃q,m=q+1:=⟨m-1,by omega⟩
   have h1:=F.f i
   have h2:=F.s i
   simp only [zbS,zc2]
   rw [if_pos (by simp;omega),show idx b.Found (i:Int)=some (b.Found.getD i 0) by rw [zeq (by omega),getD_get],zac,zac,show idx (⟨b⟩:Box_).Box.Slugs (i:Int)=some (b.Slugs.getD i 0) by show idx b.Slugs (i:Int)=_;rw [zeq (by omega),getD_get],zac,show idx ([Q.getD 0 0,Q.getD 1 0,Q.getD 2 0,Q.getD 3 0]:List Int) (i:Int)=some (Q.getD i 0) from ziq (by omega),zac,zaT (x:=b.Found.getD i 0+_) (by omega) (by omega),show zqt ([Q.getD 0 0,Q.getD 1 0,Q.getD 2 0,Q.getD 3 0]:List Int) (i:Int) (b.Found.getD i 0+b.Slugs.getD i 0)=some (zsO (Q.set i (b.Found.getD i 0+b.Slugs.getD i 0))) from zmZ (by omega) (by omega),zac,zaT (x:=(i:Int)+1) (by omega) (by omega)]
   have:=ih (i+1) m (Q.set i (b.Found.getD i 0+b.Slugs.getD i 0)) (by omega) (by omega) (by omega) (by simp [hQ]) fun k hk'=>by
    rw [zm5 (by omega)]
    by_cases e:i=k
    ·subst e
     rw [if_pos rfl]
    ·rw [if_neg e,hk k (by omega)]
   rw [show (((i+1:Nat)):Int)=(i:Int)+1 by simp] at this
   exact this
 have:=key b.Found.length 0 n (List.replicate b.Found.length 0) (by omega) (by omega) (by omega) (by simp) fun k hk=>by omega
 have hz:∀k,(List.replicate b.Found.length (0:Int)).getD k 0=0:=fun k=>by
  rw [List.getD_eq_getElem?_getD,List.getElem?_replicate]
  split<;>rfl
 simp only [hz] at this
 exact this
theorem zn9 {b:Box} {P base:List Int} (hP:More b P) (hb:base.length=b.Wheel.Coins.length) (hs:zn6 base) (h4:b.Wheel.Coins.length<=4) {n:Nat} (hn:10<=n):zbH P n 0 (zb4 base)=some (zb4 (sums base P)):=by
 have hl:=hP.l
 have key:∀(d i m:Nat) (Q:List Int),d=P.length-i->i<=P.length->d<m->Q.length=P.length->(∀k:Nat,k<i->Q.getD k 0=base.getD k 0+P.getD k 0)->(∀k:Nat,i<=k->Q.getD k 0=base.getD k 0)->zbH P m (i:Int) (zb4 Q)=some (zb4 (sums base P)):=by
  intro d
  induction d with
  | zero =>
   intro i m Q hd hi hm hQ hk _
   obtain ⟨m,rfl⟩:∃q,m=q+1:=⟨m-1,by omega⟩
   simp only [zbH]
   have e:Q=sums base P:=zhJ (n:=P.length) hQ (by rw [zm3 (by omega)];omega) fun k hk'=>by rw [hk k (by omega),zhK (by omega)]
   rw [if_neg (by simp;omega),e]
  | succ d ih =>
   intro i m Q hd hi hm hQ hk hk2
   obtain ⟨m,rfl⟩:∃q,m=q+1:=⟨m-1,by omega⟩
   have h1:=hs i
   have h2:=hP.small i
   have h3:=hk2 i (Nat.le_refl _)
   simp only [zbH]
   rw [if_pos (by simp;omega),zeq (by omega),zac,getD_get,show idx ([(zb4 Q).c0,(zb4 Q).c1,(zb4 Q).c2,(zb4 Q).c3]:List Int) (i:Int)=some (Q.getD i 0) from ziq (by omega),zac,zaT (x:=Q.getD i 0+_) (by omega) (by omega),show zqt ([(zb4 Q).c0,(zb4 Q).c1,(zb4 Q).c2,(zb4 Q).c3]:List Int) (i:Int) (Q.getD i 0+P.getD i 0)=some (zsO (Q.set i (Q.getD i 0+P.getD i 0))) from zmZ (by omega) (by omega),zac,zaT (x:=(i:Int)+1) (by omega) (by omega)]
   have:=ih (i+1) m (Q.set i (Q.getD i 0+P.getD i 0)) (by omega) (by omega) (by omega) (by simp [hQ]) (fun k hk'=>by
    rw [zm5 (by omega)]
    by_cases e:i=k
    ·subst e
     rw [if_pos rfl,h3]
    ·rw [if_neg e,hk k (by omega)]) fun k hk'=>by
    rw [zm5 (by omega),if_neg (by omega),hk2 k (by omega)]
   rw [show (((i+1:Nat)):Int)=(i:Int)+1 by simp] at this
   exact this
 exact key P.length 0 n base (by omega) (by omega) (by omega) (by omega) (fun k hk=>by omega) fun k _=>rfl
theorem zp2 {n:Nat} {b:Box} (h:OkW b.Wheel) (hn:100<=n) {l:List Int} (hlen:l.length=b.Wheel.Coins.length) (hl:zn6 l):zcc n (some ⟨b⟩) l=some (zd8 b.Wheel l):=by
 have h4:=h.clen
 have key:∀(d i m:Nat) (s:Int),d=b.Wheel.Coins.length-i->i<=b.Wheel.Coins.length->d<m->0<=s->s+100000*d<=1000000->zbq (some ⟨b⟩) l m s (i:Int)=some (s+zuh b.Wheel l d i):=by
  intro d
  induction d with
  | zero =>
   intro i m s hd hi hm hs hs2
   obtain ⟨m,rfl⟩:∃q,m=q+1:=⟨m-1,by omega⟩
   simp only [zbq,zcH,zc1,zuh]
   rw [if_neg (by simp;omega),Int.add_zero]
  | succ d ih =>
   intro i m s hd hi hm hs hs2
   obtain ⟨m,rfl⟩:∃q,m=q+1:=⟨m-1,by omega⟩
   have ht:=zxg h hl (show i<b.Wheel.Coins.length by omega)
   simp only [zbq,zcH,zuh]
   rw [if_pos (by simp;omega),zeq (by omega),zac,zac,show idx (⟨b⟩:Box_).Box.Wheel.Coins (i:Int)=some (coin b.Wheel i) from zmY (w:=b.Wheel) (by omega) (by omega),zac,getD_get,Int.mul_comm,zaT (x:=coin b.Wheel i*_) (by omega) (by omega),zaT (x:=s+_) (by omega) (by omega),zaT (x:=(i:Int)+1) (by omega) (by omega)]
   have:=ih (i+1) m (s+coin b.Wheel i*l.getD i 0) (by omega) (by omega) (by omega) (by omega) (by omega)
   rw [show (((i+1:Nat)):Int)=(i:Int)+1 by simp] at this
   rw [this]
   congr 1
   omega
 have:=key b.Wheel.Coins.length 0 n 0 (by omega) (by omega) (by omega) (by omega) (by omega)
 rw [Int.zero_add] at this
 exact this
def zs6 (w:Wheel) (al L:List Int):Prop:=L.Pairwise (·<·)/\∀v,v∈L↔Can w al v
theorem zs7:∀{L:List Int},L.Pairwise (·<=·)->L.Nodup->L.Pairwise (·<·)
 | [],_,_=>.nil
 | x::L,h,hn=>by
  rw [List.pairwise_cons] at h ⊢
  rw [List.nodup_cons] at hn
  refine ⟨fun y hy=>?_,zs7 h.2 hn.2⟩
  have:=h.1 y hy
  rcases Int.lt_or_eq_of_le this with h1 | h1
  ·exact h1
  ·subst h1
   exact absurd hy hn.1
theorem zuL:∀{L L':List Int},L.Pairwise (·<·)->L'.Pairwise (·<·)->(∀v,v∈L↔v∈L')->L=L'
 | [],[],_,_,_=>rfl
 | [],y::_,_,_,h=>absurd ((h y).2 (by simp)) (by simp)
 | x::_,[],_,_,h=>absurd ((h x).1 (by simp)) (by simp)
 | x::L,y::L',h1,h2,h=>by
  rw [List.pairwise_cons] at h1 h2
  have e:x=y:=by
   have hx:=(h x).1 (by simp)
   have hy:=(h y).2 (by simp)
   rcases List.mem_cons.1 hx with e | hx
   ·exact e
   ·rcases List.mem_cons.1 hy with e | hy
    ·exact e.symm
    ·have:=h1.1 y hy
     have:=h2.1 x hx
     omega
  subst e
  congr 1
  refine zuL h1.2 h2.2 fun v=>⟨fun hv=>?_,fun hv=>?_⟩
  ·rcases List.mem_cons.1 ((h v).1 (List.mem_cons_of_mem _ hv)) with e | hv'
   ·have:=h1.1 v hv
    omega
   ·exact hv'
  ·rcases List.mem_cons.1 ((h v).2 (List.mem_cons_of_mem _ hv)) with e | hv'
   ·have:=h2.1 v hv
    omega
   ·exact hv'
theorem zs6.eq {w:Wheel} {al L L':List Int} (h:zs6 w al L) (h':zs6 w al L'):L=L':=zuL h.1 h'.1 fun v=>by rw [h.2,h'.2]
theorem zs8 {w:Wheel} {al K:List Int} (hn:K.Nodup) (h:∀v,v∈K↔Can w al v):zs6 w al (zgp K) :=
 ⟨zs7 (zfh K) ((zd2 K).nodup_iff.2 hn),fun v=>by rw [(zd2 K).mem_iff];exact h v⟩
theorem zum {w:Wheel} {al:List Int} (C:Cx w al) {A M} (hW:WI w al A M) (hall:∀acts X,RP (clT (total al)) w al acts X->zbt M (pnt X)=true) :
  zl4 M=true/\EndsOk (zb4 al) (M.map (·.1)) (zgg (zb4 al) M)/\zs6 w al (zgp ((zgg (zb4 al) M).map (·.1)))/\(∀v,v∈(zgg (zb4 al) M).map (·.1)->okI v=true):=by
 have hE:EndsOk (zb4 al) (M.map (·.1)) (zgg (zb4 al) M):=zmQ (zb4 al) (M.map (·.1))
 have hkey:∀o,o∈M.map (·.1)->∃X,o=pnt X/\RP (clT (total al)) w al (A o) X:=fun o ho=>hW.key (zbc.2 ho)
 have hmem:∀v,v∈(zgg (zb4 al) M).map (·.1)↔∃acts X,RP (clT (total al)) w al acts X/\X.l=al/\X.b=v:=fun v=>by
  constructor
  ·intro hv
   obtain ⟨⟨b,o⟩,ho,rfl⟩:=List.mem_map.1 hv
   obtain ⟨h1,h2,h3,_⟩:=(hE.mem b o).1 ho
   obtain ⟨X,rfl,hr⟩:=hkey o h1
   refine ⟨_,X,hr,zm0 h2 (by rw [(zp0 C hr).1.len,C.hl]) (by rw [(zp0 C hr).1.len];have:=C.k3;omega),h3⟩
  ·rintro ⟨acts,X,hr,rfl,rfl⟩
   exact zbc.1 (hE.has (pnt X) (zbc.1 (hall acts X hr)) rfl)
 refine ⟨?_,hE,zs8 hE.nd fun v=>by rw [hmem,zyF C.h C.hl C.nn],fun v hv=>?_⟩
 ·unfold zl4
  rw [Bool.and_eq_true]
  refine ⟨List.all_eq_true.2 fun p hp=>?_,decide_eq_true (by have:=hW.len C;omega)⟩
  obtain ⟨X,e,hr⟩:=(hW.pt p.1 p.2 hp).1
  rw [e]
  have:=(zp0 C hr).2.2.2
  unfold zbF at this
  simp only [List.all_cons,List.all_nil,Bool.and_true,Bool.and_eq_true] at this
  exact this.2.2.2.2.2.2
 ·obtain ⟨acts,X,hr,_,rfl⟩:=(hmem v).1 hv
  have h1:=zp0 C hr
  have h2:=h1.1.bt
  have h3:=h1.1.cb
  have h4:=h1.1.c0
  have h5:=C.t5
  exact zgm (by omega) (by omega)
def zs9 (b:Box) (al:List Int):Prop:=∃v,Can b.Wheel al v/\b.Plays<=v/\v<=b.Plays+b.Skips
structure ExplOk (b:Box) (al acts:List Int):Prop where
 ok:acts.all (ze2 b.Wheel)=true
 len:(acts.length:Int)<=2*total al
 bag:∀k:Nat,k<b.Wheel.Coins.length->cnt k acts=al.getD k 0
 pl:b.Plays<=zfs b.Wheel ⟨0,0⟩ acts
 pl2:zfs b.Wheel ⟨0,0⟩ acts<=b.Plays+b.Skips
theorem ExplOk.ex {b:Box} {al acts:List Int} (h:ExplOk b al acts):zs9 b al:=⟨_,⟨acts,h.ok,h.bag,rfl⟩,h.pl,h.pl2⟩
theorem zq4 {b:Box} (N:Near b) {P:List Int} (hP:More b P) {n:Nat} (hn:100000<=n):∃r,zcd n (some ⟨b⟩) P=some r/\(r.2=true/\ExplOk b (sums (zjX b) P) r.1\/r.2=false/\¬zs9 b (sums (zjX b) P)):=by
 have h3:=N.k3
 have F:=N.ok.far
 have hpl:=F.p
 have hsk:=F.k
 have hpt:=F.f
 have C:=N.cx hP
 obtain ⟨A,M,h1,hW,hall⟩:=zvO C hn (b:=⟨b⟩) rfl
 obtain ⟨s1,s2,s3,s4⟩:=zum C hW hall
 unfold zcd
 rw [zac,put_eq F (by omega) (by omega),zac,zn9 hP (zm6 F) (fun k=>by rw [zm7 F];have:=F.f k;have:=F.s k;omega) (by omega) (by omega),zac,h1,zac,if_pos s1]
 generalize hal:sums (zjX b) P=al at *
 generalize hE:zgg (zb4 al) M=E at *
 generalize hbs:zgp (E.map (·.1))=bs at *
 have hbl:bs.length<=93312:=by
  rw [←hbs,(zd2 _).length_eq,List.length_map,←hE]
  have:=zmR (al:=zb4 al) (M.map (·.1)) []
  simp only [List.length_map,List.length_nil] at this
  have:=hW.len C
  unfold zgg
  omega
 have key:∀(d i m:Nat),d=bs.length-i->i<=bs.length->d<m->(∀v,v∈bs->v∈bs.drop i\/¬(b.Plays<=v/\v<=b.Plays+b.Skips))->∃r,zbI n ⟨b⟩ M E bs m (i:Int)=some r/\(r.2=true/\ExplOk b al r.1\/r.2=false/\¬zs9 b al):=by
  intro d
  induction d with
  | zero =>
   intro i m hd hi hm hv
   obtain ⟨m,rfl⟩:∃q,m=q+1:=⟨m-1,by omega⟩
   simp only [zbI]
   rw [if_neg (by simp;omega)]
   refine ⟨_,rfl,.inr ⟨rfl,?_⟩⟩
   rintro ⟨v,h1,h2⟩
   rcases hv v ((s3.2 v).2 h1) with h | h
   ·rw [List.drop_eq_nil_of_le (by omega)] at h
    simp at h
   ·exact h h2
  | succ d ih =>
   intro i m hd hi hm hv
   obtain ⟨m,rfl⟩:∃q,m=q+1:=⟨m-1,by omega⟩
   simp only [zbI]
   have hdr:bs.drop i=bs.getD i 0::bs.drop (i+1):=by rw [List.drop_eq_getElem_cons (l:=bs) (i:=i) (by omega),getD_get]
   have hbm:bs.getD i 0∈bs:=by
    rw [←getD_get (by omega)]
    exact List.getElem_mem (by omega)
   rw [if_pos (by simp;omega),zeq (by omega),zac,getD_get,zhV,zac,zaT (x:=b.Plays+b.Skips) (by omega) (by omega),zaT (x:=(i:Int)+1) (by omega) (by omega)]
   generalize hx:bs.getD i 0=x at *
   by_cases hq:inR x b.Plays (b.Plays+b.Skips)=true
   ·rw [if_neg (by rw [hq];simp)]
    have hxk:x∈E.map (·.1):=by
     rw [←hbs,(zd2 _).mem_iff] at hbm
     exact hbm
    have hmx:zbt E x=true:=zbc.2 hxk
    have hok:mok okI E x=true:=by
     unfold Go.AM.mok
     rw [s4 x hxk,Bool.true_and,Bool.and_eq_true]
     exact ⟨List.all_eq_true.2 fun p hp=>s4 p.1 (List.mem_map.2 ⟨p,hp,rfl⟩),decide_eq_true s2.nd⟩
    rw [show zgz okI zaG E x=some (zgO zaG E x) from if_pos hok,zac]
    obtain ⟨p1,p2,p3,_⟩:=(s2.mem _ _).1 (zgC zaG hmx)
    have hmp:=zbc.2 p1
    obtain ⟨X,e,hr⟩:=hW.key hmp
    obtain ⟨hX,ht,hk,hokp⟩:=zp0 C hr
    generalize hp:zgO zaG E x=p at *
    subst e
    have hXl:X.l=al:=zm0 p2 (by rw [hX.len,C.hl]) (by rw [hX.len];omega)
    have hsh:=hr.short C.h C.hl C.nn
    have hlen:((A (pnt X)).length:Int)<=2*total al:=by
     rcases hsh.2 with h | ⟨_,h,_⟩
     ·rw [hXl] at h
      exact h
     ·rw [hXl] at h
      omega
    have ht5:=C.t5
    rw [show zgz zbF za9 M (pnt X)=some (zgO za9 M (pnt X)) from if_pos (hW.mok C hr),zac,zs1 C hW n hmp (by omega) (by simp;omega),zac]
    refine ⟨_,rfl,.inl ⟨rfl,?_⟩⟩
    simp only [List.nil_append,List.reverse_reverse]
    have hb:zfs b.Wheel ⟨0,0⟩ (A (pnt X))=x:=by rw [hX.buys];exact p3
    have hq:=zci.1 hq
    exact ⟨hX.ok,hlen,fun k _=>by rw [hX.bag k,hXl],by rw [hb];exact hq.1,by rw [hb];exact hq.2⟩
   ·rw [if_pos (by simpa using hq)]
    have:=ih (i+1) m (by omega) (by omega) (by omega) fun v hvm=>by
     rcases hv v hvm with h | h
     ·rw [hdr] at h
      rcases List.mem_cons.1 h with rfl | h
      ·exact .inr fun hh=>hq (zci.2 hh)
      ·exact .inl h
     ·exact .inr h
    rw [show (((i+1:Nat)):Int)=(i:Int)+1 by simp] at this
    exact this
 exact key bs.length 0 n (by omega) (by omega) (by omega) fun v hv=>.inl (by simpa using hv)
def zja:Nat->List Int->Nat->List (List Int)
 | 0,p,_=>[p]
 | d+1,p,t=>(upF 0 (t+1)).flatMap fun v=>zja d (p++[v]) (t-v.toNat)
def zlk {S:Type} (F:List Int->S->Option (Unit×S)):List (List Int)->S->Option S
 | [],s=>some s
 | x::l,s=>(F x s).bind fun r=>zlk F l r.2
theorem zjP {S:Type} (F:List Int->S->Option (Unit×S)):∀(a b:List (List Int)) (s:S),zlk F (a++b) s=(zlk F a s).bind fun s=>zlk F b s
 | [],b,s=>rfl
 | x::a,b,s=>by
  simp only [List.cons_append,zlk]
  cases F x s with
  | none=>rfl
  | some r =>
   simp only [Option.bind_some]
   exact zjP F a b r.2
theorem zta {S:Type} (F:List Int->S->Option (Unit×S)) {b:Box} (h4:b.Wheel.Coins.length<=4):∀(d:Nat) (p:List Int) (t n:Nat) (s:S),p.length+d=b.Wheel.Coins.length->t<=2->d+10<=n->zbx n F (some ⟨b⟩) p (t:Int) s=(zlk F (zja d p t) s).map fun s=>((),s)
 | d,p,t,0,s,_,_,hn=>absurd hn (by omega)
 | 0,p,t,n+1,s,hp,ht,hn=>by
  simp only [zbx,zcR]
  rw [zac,if_pos (by simp;omega)]
  simp only [zja,zlk]
  cases F p s<;>rfl
 | d+1,p,t,n+1,s,hp,ht,hn=>by
  simp only [zbx,zcR]
  rw [zac,if_neg (by simp;omega)]
  have loop:∀(e i m:Nat) (s:S),i+e=t+1->e<m->zbB (zbx n F) (some ⟨b⟩) p (t:Int) m (i:Int) s=(zlk F ((upF i e).flatMap fun v=>zja d (p++[v]) (t-v.toNat)) s).map fun s=>((),s):=by
   intro e
   induction e with
   | zero =>
    intro i m s hi hm
    obtain ⟨m,rfl⟩:∃q,m=q+1:=⟨m-1,by omega⟩
    simp only [zbB,zcl]
    rw [zaT (by omega) (by omega),if_neg (by simp;omega)]
    rfl
   | succ e ih =>
    intro i m s hi hm
    obtain ⟨m,rfl⟩:∃q,m=q+1:=⟨m-1,by omega⟩
    simp only [zbB,zcl,slices_Clone_int]
    have hrec:=zta F h4 d (p++[(i:Int)]) (t-i) n s (by simp;omega) (by omega) (by omega)
    rw [show ((t-i:Nat):Int)=(t:Int)-(i:Int) by omega] at hrec
    rw [zaT (x:=(t:Int)+1) (by omega) (by omega),if_pos (by simp;omega),zvA (by omega),zac,zpA (by simp;omega),zac,zaT (x:=(t:Int)-i) (by omega) (by omega),zaT (x:=(i:Int)+1) (by omega) (by omega),hrec]
    simp only [upF,List.flatMap_cons,zjP,Int.toNat_natCast]
    cases zlk F (zja d (p++[(i:Int)]) (t-i)) s with
    | none=>rfl
    | some s' =>
     have:=ih (i+1) m s' (by omega) (by omega)
     rw [show (((i+1:Nat)):Int)=(i:Int)+1 by simp] at this
     simp only [Option.map_some,Option.bind_some]
     exact this
  exact loop (t+1) 0 n s (by omega) (by omega)
theorem zll:∀(d:Nat) (p:List Int) (t:Nat) (P:List Int),P∈zja d p t↔∃r,P=p++r/\r.length=d/\(∀k,0<=r.getD k 0)/\total r<=t
 | 0,p,t,P=>by
  simp only [zja,List.mem_singleton]
  constructor
  ·rintro rfl
   exact ⟨[],by simp,rfl,fun k=>by simp,by simp [total]⟩
  ·rintro ⟨r,rfl,h,_⟩
   obtain rfl:=List.eq_nil_of_length_eq_zero h
   simp
 | d+1,p,t,P=>by
  simp only [zja,List.mem_flatMap]
  constructor
  ·rintro ⟨v,hv,hP⟩
   have hv:=zo2.1 hv
   obtain ⟨r,rfl,h1,h2,h3⟩:=(zll d _ _ P).1 hP
   refine ⟨v::r,by simp,by simp [h1],fun k=>?_,?_⟩
   ·cases k with
    | zero =>
     show 0<=v
     omega
    | succ k=>simpa using h2 k
   ·simp only [total]
    omega
  ·rintro ⟨r,rfl,h1,h2,h3⟩
   cases r with
   | nil=>simp at h1
   | cons v r =>
    have hv:0<=v:=h2 0
    have hr:∀k,0<=r.getD k 0:=fun k=>by simpa using h2 (k+1)
    have ht:=zep (zi9 hr)
    simp only [total] at h3
    exact ⟨v,zo2.2 ⟨by omega,by omega⟩,(zll d _ _ _).2 ⟨r,by simp,by simpa using h1,hr,by omega⟩⟩
theorem zlm {b:Box} {P:List Int}:P∈zja b.Wheel.Coins.length [] 2↔More b P:=by
 rw [zll]
 constructor
 ·rintro ⟨r,rfl,h1,h2,h3⟩
  exact ⟨by simpa using h1,by simpa using h2,by simpa using h3⟩
 ·rintro ⟨h1,h2,h3⟩
  exact ⟨P,by simp,h1,h2,h3⟩
theorem zoa:∀(d:Nat) (p:List Int) (t:Nat),t<=2->(zja d p t).length<=3 ^ d
 | 0,p,t,_=>by simp [zja]
 | d+1,p,t,ht=>by
  simp only [zja]
  refine Nat.le_trans (zjy (c:=3 ^ d) fun v _=>zoa d _ _ (by omega)) ?_
  rw [zsW,Nat.pow_succ,Nat.mul_comm]
  exact Nat.mul_le_mul_left _ (by omega)
structure GInv (b:Box) (xs:List (List Int)) (gs:List Gap_):Prop where
 len:gs.length<=xs.length
 mem:∀g,g∈gs->More b g.purse/\ExplOk b (sums (zjX b) g.purse) g.acts
 eq:∀g,g∈gs->∀h,h∈gs->zd8 b.Wheel g.purse=zd8 b.Wheel h.purse
 le:∀P,P∈xs->zs9 b (sums (zjX b) P)->∃g,g∈gs/\zd8 b.Wheel g.purse<=zd8 b.Wheel P
theorem zm8 {b:Box} {P:List Int} (h:More b P):zn6 P:=fun k=>by have:=h.small k;omega
theorem zob {b:Box} (N:Near b) {n:Nat} (hn:100000<=n) {xs:List (List Int)} {gs:List Gap_} {P:List Int} (hP:More b P) (hx:xs.length<=100) (h:GInv b xs gs):∃gs',zaE n (some ⟨b⟩) P gs=some ((),gs')/\GInv b (xs++[P]) gs':=by
 obtain ⟨r,hr,hc⟩:=zq4 N hP hn
 have hw:=fun {l} (hl:More b l)=>zp2 N.ok.far.h (show 100<=n by omega) hl.l (zm8 hl)
 have skip:r.2=false->¬zs9 b (sums (zjX b) P):=fun e=>by
  rcases hc with ⟨h1,_⟩ | ⟨_,h2⟩
  ·rw [e] at h1
   cases h1
  ·exact h2
 have take:r.2=true->ExplOk b (sums (zjX b) P) r.1:=fun e=>by
  rcases hc with ⟨_,h2⟩ | ⟨h1,_⟩
  ·exact h2
  ·rw [e] at h1
   cases h1
 have keep:¬zs9 b (sums (zjX b) P)->GInv b (xs++[P]) gs:=fun hno=>⟨by have:=h.len;simp;omega,h.mem,h.eq,fun Q hQ hE=>by
  rcases List.mem_append.1 hQ with hQ | hQ
  ·exact h.le Q hQ hE
  ·obtain rfl:=List.mem_singleton.1 hQ
   exact absurd hE hno⟩
 cases gs with
 | nil =>
  simp only [zaE]
  rw [hr,zac]
  cases e:r.2 with
  | false =>
   rw [if_pos (by rfl)]
   exact ⟨_,rfl,keep (skip e)⟩
  | true =>
   rw [if_neg (by simp)]
   refine ⟨_,rfl,by simp,fun g hg=>?_,fun g hg g' hg'=>?_,fun Q hQ hE=>?_⟩
   ·obtain rfl:=List.mem_singleton.1 hg
    exact ⟨hP,take e⟩
   ·rw [List.mem_singleton.1 hg,List.mem_singleton.1 hg']
   ·rcases List.mem_append.1 hQ with hQ | hQ
    ·obtain ⟨g,hg,_⟩:=h.le Q hQ hE
     simp at hg
    ·obtain rfl:=List.mem_singleton.1 hQ
     exact ⟨_,List.mem_singleton.2 rfl,Int.le_refl _⟩
 | cons x gs =>
  simp only [zaE]
  obtain ⟨hxm,hxe⟩:=h.mem x (by simp)
  rw [hw hP,zac,hw hxm,zac]
  by_cases hgt:zd8 b.Wheel P>zd8 b.Wheel x.purse
  ·rw [if_pos (by simpa using hgt)]
   refine ⟨_,rfl,by have:=h.len;simp at this ⊢;omega,h.mem,h.eq,fun Q hQ hE=>?_⟩
   rcases List.mem_append.1 hQ with hQ | hQ
   ·exact h.le Q hQ hE
   ·obtain rfl:=List.mem_singleton.1 hQ
    exact ⟨x,by simp,by omega⟩
  ·rw [if_neg (by simpa using hgt),hr,zac]
   cases e:r.2 with
   | false =>
    rw [if_pos (by rfl)]
    exact ⟨_,rfl,keep (skip e)⟩
   | true =>
    rw [if_neg (by simp),zac,zac]
    by_cases hlt:zd8 b.Wheel P<zd8 b.Wheel x.purse
    ·rw [if_pos (by simpa using hlt)]
     refine ⟨_,rfl,by simp,fun g hg=>?_,fun g hg g' hg'=>?_,fun Q hQ hE=>?_⟩
     ·obtain rfl:=List.mem_singleton.1 hg
      exact ⟨hP,take e⟩
     ·rw [List.mem_singleton.1 hg,List.mem_singleton.1 hg']
     ·refine ⟨_,List.mem_singleton.2 rfl,?_⟩
      show zd8 b.Wheel P<=_
      rcases List.mem_append.1 hQ with hQ | hQ
      ·obtain ⟨g,hg,hle⟩:=h.le Q hQ hE
       have:=h.eq g hg x (by simp)
       omega
      ·obtain rfl:=List.mem_singleton.1 hQ
       exact Int.le_refl _
    ·rw [if_neg (by simpa using hlt),zpA (by have:=h.len;simp at this ⊢;omega),zac]
     have heq:zd8 b.Wheel P=zd8 b.Wheel x.purse:=by omega
     have hall:∀g,g∈x::gs++[⟨P,r.1⟩]->zd8 b.Wheel g.purse=zd8 b.Wheel P:=fun g hg=>by
      rcases List.mem_append.1 hg with hg | hg
      ·rw [heq]
       exact h.eq g hg x (by simp)
      ·rw [List.mem_singleton.1 hg]
     refine ⟨_,rfl,by have:=h.len;simp at this ⊢;omega,fun g hg=>?_,fun g hg g' hg'=>by rw [hall g hg,hall g' hg'],fun Q hQ hE=>?_⟩
     ·rcases List.mem_append.1 hg with hg | hg
      ·exact h.mem g hg
      ·obtain rfl:=List.mem_singleton.1 hg
       exact ⟨hP,take e⟩
     ·rcases List.mem_append.1 hQ with hQ | hQ
      ·obtain ⟨g,hg,hle⟩:=h.le Q hQ hE
       exact ⟨g,List.mem_append_left _ hg,hle⟩
      ·obtain rfl:=List.mem_singleton.1 hQ
       exact ⟨⟨Q,r.1⟩,List.mem_append_right _ (by simp),Int.le_refl _⟩
theorem zjQ {b:Box} (N:Near b) {n:Nat} (hn:100000<=n):∀(l xs:List (List Int)) (gs:List Gap_),(∀P,P∈l->More b P)->xs.length+l.length<=100->GInv b xs gs->∃gs',zlk (fun x0 s=>zaE n (some ⟨b⟩) x0 s) l gs=some gs'/\GInv b (xs++l) gs'
 | [],xs,gs,_,_,h=>⟨gs,rfl,by simpa using h⟩
 | P::l,xs,gs,hm,hl,h=>by
  simp only [List.length_cons] at hl
  obtain ⟨gs1,h1,h2⟩:=zob N hn (hm P (by simp)) (by omega) h
  obtain ⟨gs2,h3,h4⟩:=zjQ N hn l (xs++[P]) gs1 (fun Q hQ=>hm Q (by simp [hQ])) (by simp;omega) h2
  refine ⟨gs2,?_,by simpa using h4⟩
  simp only [zlk,h1,Option.bind_some]
  exact h3
def zyQ (b:Box) (gs:List Gap_):Prop:=(gs=[]/\∀P,More b P->¬zs9 b (sums (zjX b) P))\/∃x t,gs=x::t/\More b x.purse/\ExplOk b (sums (zjX b) x.purse) x.acts/\∀P,More b P->zs9 b (sums (zjX b) P)->zd8 b.Wheel x.purse<=zd8 b.Wheel P
theorem zq5 {b:Box} (N:Near b) {n:Nat} (hn:100000<=n):∃gs,zce n (some ⟨b⟩)=some gs/\zyQ b gs:=by
 have h3:=N.k3
 have hlen:(zja b.Wheel.Coins.length [] 2).length<=100:=by
  have h1:=zoa b.Wheel.Coins.length [] 2 (by omega)
  have h2:3 ^ b.Wheel.Coins.length<=3 ^ 3:=Nat.pow_le_pow_right (by omega) h3
  omega
 obtain ⟨gs,h1,h2⟩:=zjQ N hn (zja b.Wheel.Coins.length [] 2) [] [] (fun P hP=>zlm.1 hP) (by simpa using hlen) ⟨by simp,by simp,by simp,by simp⟩
 refine ⟨gs,?_,?_⟩
 ·unfold zce
  have:=zta (fun x0 s=>zaE n (some ⟨b⟩) x0 s) (b:=b) (by omega) b.Wheel.Coins.length [] 2 n [] (by simp) (by omega) (by omega)
  rw [show zbx n (fun x0 s=>zaE n (some ⟨b⟩) x0 s) (some ⟨b⟩) [] 2 []=_ from this,h1]
  rfl
 ·rw [List.nil_append] at h2
  cases gs with
  | nil =>
   refine .inl ⟨rfl,fun P hP hE=>?_⟩
   obtain ⟨g,hg,_⟩:=h2.le P (zlm.2 hP) hE
   simp at hg
  | cons x t =>
   obtain ⟨m1,m2⟩:=h2.mem x (by simp)
   refine .inr ⟨x,t,rfl,m1,m2,fun P hP hE=>?_⟩
   obtain ⟨g,hg,hle⟩:=h2.le P (zlm.2 hP) hE
   have:=h2.eq g hg x (by simp)
   omega
theorem BoxOk.len {b:Box} (N:BoxOk b):zyL b:=by
 have F:=N.far
 have h1:=F.fl
 have h2:=F.sl
 have h3:=F.ml
 have h4:=F.h.nlen
 have h5:=F.h.clen
 exact ⟨by omega,by omega,by omega,by omega,by omega⟩
theorem zvP {b:Box} (N:BoxOk b) {n:Nat} (hn:200<=n):zgf n b=some (some ⟨b⟩,0):=by
 unfold zgf
 rw [zs4 b n N.len hn,zn7.2 N]
 rfl
def zo8 (b:Box) (m:Int):Prop:=(∃P,More b P/\zs9 b (sums (zjX b) P)/\zd8 b.Wheel P=m)/\∀P,More b P->zs9 b (sums (zjX b) P)->m<=zd8 b.Wheel P
def zxi (b:Box):Prop:=∀P,More b P->¬zs9 b (sums (zjX b) P)
def zq6 (b:Box) (r:Int×Int):Prop:=(r.2=0/\zo8 b r.1)\/(r=(0,3)/\zxi b)
theorem ztb {b:Box} (N:Near b) {n:Nat} (hn:100000<=n):∃gs,zce n (some ⟨b⟩)=some gs/\((gs=[]/\zec n b=some (none,[],3)/\zxi b)\/∃x t,gs=x::t/\zec n b=some (some ⟨b⟩,x::t,0)/\More b x.purse/\ExplOk b (sums (zjX b) x.purse) x.acts/\zo8 b (zd8 b.Wheel x.purse)):=by
 obtain ⟨gs,h1,h2⟩:=zq5 N hn
 refine ⟨gs,h1,?_⟩
 unfold zec
 rw [zvP N.ok (by omega),zac,if_neg (by simp),h1,zac]
 rcases h2 with ⟨rfl,h2⟩ | ⟨x,t,rfl,h3,h4,h5⟩
 ·exact .inl ⟨rfl,rfl,h2⟩
 ·rw [if_neg (by simp;omega)]
  exact .inr ⟨x,t,rfl,rfl,h3,h4,⟨x.purse,h3,h4.ex,rfl⟩,h5⟩
theorem zq7 {b:Box} (N:Near b) {n:Nat} (hn:100000<=n):∃r,zdT n b=some r/\zq6 b r:=by
 obtain ⟨gs,_,h⟩:=ztb N hn
 unfold zdT
 rcases h with ⟨rfl,h,h2⟩ | ⟨x,t,rfl,h,h3,h4,h5⟩
 ·rw [h]
  exact ⟨(0,3),rfl,.inr ⟨rfl,h2⟩⟩
 ·rw [h,zac,if_neg (by simp)]
  show ∃r,Option.bind (some x) _=some r/\_
  rw [zac,zp2 N.ok.far.h (by omega) h3.l (zm8 h3)]
  exact ⟨_,rfl,.inl ⟨rfl,h5⟩⟩
theorem zun {w:Wheel} (h:OkW w) {P:List Int} (hs:zn6 P):0<=zd8 w P/\zd8 w P<=100000*w.Coins.length:=by
 have:=zl8 h hs w.Coins.length 0 (by omega)
 exact this
theorem zq6.eq {b:Box} {r r':Int×Int} (h:zq6 b r) (h':zq6 b r'):r=r':=by
 obtain ⟨a,c⟩:=r
 obtain ⟨a',c'⟩:=r'
 rcases h with ⟨h1,⟨P,p1,p2,p3⟩,h3⟩ | ⟨h1,h2⟩
 ·rcases h' with ⟨k1,⟨P',q1,q2,q3⟩,k3⟩ | ⟨k1,k2⟩
  ·have:=h3 P' q1 q2
   have:=k3 P p1 p2
   simp only at *
   have:a=a':=by omega
   rw [this,h1,k1]
  ·exact absurd p2 (k2 P p1)
 ·rcases h' with ⟨k1,⟨P',q1,q2,q3⟩,k3⟩ | ⟨k1,k2⟩
  ·exact absurd q2 (h2 P' q1)
  ·rw [h1,k1]
theorem zq6.nn {b:Box} (N:BoxOk b) {r:Int×Int} (h:zq6 b r):0<=r.1/\r.1<=1000000:=by
 rcases h with ⟨_,⟨P,h1,_,he⟩,_⟩ | ⟨rfl,_⟩
 ·rw [←he]
  have:=zun N.far.h (zm8 h1)
  have:=N.far.h.clen
  omega
 ·simp
def exW:Wheel:=⟨50,[10,20,25],[5,10,25]⟩
theorem zxj {w:Wheel} {al acts:List Int} (h:(List.range w.Coins.length).all (fun k=>cnt (k:Int) acts==al.getD k 0)=true):∀k:Nat,k<w.Coins.length->cnt k acts=al.getD k 0:=fun k hk=>by
 rw [List.all_eq_true] at h
 simpa using h k (List.mem_range.2 hk)
def onB:Box:=⟨exW,[0,0,0],[0,0,0],[0,0,0],3,0⟩
theorem zvQ:Near onB:=by
 refine ⟨⟨by decide,by decide,by decide,by decide,by decide,rfl,fun k hk=>?_,by decide⟩,by decide,by decide⟩
 have:k=0\/k=1\/k=2:=by
  have:onB.Found.length=3:=rfl
  omega
 rcases this with rfl | rfl | rfl<;>decide
theorem zjA {al:List Int} {q:Int} (hP:OkP exW al) (hq:Q true exW (total al).toNat 0 0 al=q) {v:Int} (h:Can exW al v):v<=q:=by
 obtain ⟨acts,h1,h2,rfl⟩:=h
 have hi:=zpY true (zfc (show valid exW=true by decide)) acts (p:=0) (c:=0) h1 h2 hP (by decide) (by decide) (by decide)
 rw [hq] at hi
 exact hi
theorem zuo:zo8 onB 25:=by
 have hl:onB.Wheel.Coins.length=3:=rfl
 refine ⟨⟨[0,0,1],⟨rfl,fun k=>?_,by decide⟩,⟨3,⟨[2],by decide,zxj (by decide),by decide⟩,by decide,by decide⟩,by decide⟩,fun P hP hE=>?_⟩
 ·match k with
  | 0=>decide
  | 1=>decide
  | 2=>decide
  | k+3=>simp
 ·match P,hP with
  | [a,b,c],hP =>
   have h0:0<=a:=hP.nn 0
   have h1:0<=b:=hP.nn 1
   have h2:0<=c:=hP.nn 2
   have ht:a+(b+(c+0))<=2:=hP.t
   have hw:zd8 onB.Wheel [a,b,c]=5*a+(10*b+(25*c+0)):=rfl
   rw [hw]
   by_cases hc:c=0
   ·exfalso
    subst hc
    obtain ⟨v,hv,h3,_⟩:=hE
    have h3:(3:Int)<=v:=h3
    have hs:sums (zjX onB) [a,b,0]=[a,b,0]:=by
     show [0+0+a,0+0+b,0+0+0]=_
     simp
    rw [hs] at hv
    have hcs:(a=0/\b=0)\/(a=1/\b=0)\/(a=2/\b=0)\/(a=0/\b=1)\/(a=1/\b=1)\/(a=0/\b=2):=by omega
    rcases hcs with ⟨rfl,rfl⟩ | ⟨rfl,rfl⟩ | ⟨rfl,rfl⟩ | ⟨rfl,rfl⟩ | ⟨rfl,rfl⟩ | ⟨rfl,rfl⟩
    ·have:=zjA (al:=[0,0,0]) (q:=0) ⟨rfl,by decide,by decide⟩ (by decide +kernel) hv
     omega
    ·have:=zjA (al:=[1,0,0]) (q:=0) ⟨rfl,by decide,by decide⟩ (by decide +kernel) hv
     omega
    ·have:=zjA (al:=[2,0,0]) (q:=1) ⟨rfl,by decide,by decide⟩ (by decide +kernel) hv
     omega
    ·have:=zjA (al:=[0,1,0]) (q:=1) ⟨rfl,by decide,by decide⟩ (by decide +kernel) hv
     omega
    ·have:=zjA (al:=[1,1,0]) (q:=1) ⟨rfl,by decide,by decide⟩ (by decide +kernel) hv
     omega
    ·have:=zjA (al:=[0,2,0]) (q:=2) ⟨rfl,by decide,by decide⟩ (by decide +kernel) hv
     omega
   ·omega
  | [],hP=>exact absurd hP.l (by decide)
  | [_],hP=>exact absurd hP.l (by rw [hl];simp)
  | [_,_],hP=>exact absurd hP.l (by rw [hl];simp)
  | _::_::_::_::_,hP=>exact absurd hP.l (by rw [hl];simp)
theorem zo9:zdz 1000000=some true:=by
 obtain ⟨r,h5,h6⟩:=zq7 zvQ (n:=1000000) (by omega)
 obtain rfl:=h6.eq (r':=(25,0)) (.inl ⟨rfl,zuo⟩)
 have hm:zeu 1000000 exW [0,0,2]=some (6,0):=by
  rw [zsT (w:=exW) ⟨by decide,by decide,by decide,by decide⟩ (by omega) _ (by simp) (by simp),show zug true exW [0,0,2]=(6,0) by decide +kernel]
 unfold zdz
 show Option.bind (zeu 1000000 exW [0,0,2]) _=_
 rw [hm,zac]
 show Option.bind (zdT 1000000 onB) _=_
 rw [h5]
 rfl
theorem zgN (a b c:Int):zbC a b c=some (inR a b c):=by
 unfold zbC zed inR
 by_cases h:b<=a<;>simp [h]
theorem zp3:w64 (0+1)=1:=by decide
theorem zxk:w64 (1-1)=0:=by decide
def zoc (A S R m:Int):Wear:=⟨1,0,A,S,[R],[⟨0,99999,0,[m]⟩]⟩
def zod (A S R m:Int):Bool:=inR A 0 9999&&(inR S 1 999&&(inR R 0 99&&inR m 0 99))
theorem ztc (k:Nat) (x:Int):ze9 (k+1+1+1) (fun (x0:Int) (_:Unit)=>(zeG x0).map fun y=>(y,())) [x] ()=some (inR x 0 99,()):=by
 unfold ze9 zaX zcu
 simp only [zak,zaZ]
 rw [if_pos (by simp),show idx [x] 0=some x from rfl]
 simp only [zac,zd5,zeG,zgN,Option.map_some]
 cases h:inR x 0 99 with
 | false=>simp
 | true =>
  simp only [Bool.not_true,Bool.false_eq_true,if_false,zp3]
  rw [if_neg (by simp)]
  simp [zbm]
theorem zoe (k:Nat) (A S R m:Int):zfJ (k+1+1+1) (zoc A S R m)=some (cond (zod A S R m) 0 30):=by
 have e0:inR (1:Int) 0 6=true:=by decide
 have e1:inR (0:Int) 0 999=true:=by decide
 have e2:inR (((1:Nat):Int)) 1 8=true:=by decide
 have e3:inR (0:Int) 0 99999=true:=by decide
 have e4:inR (99999:Int) 0 99999=true:=by decide
 unfold zfJ zod
 simp only [zgN,zac,zoc,List.length_cons,List.length_nil,Nat.zero_add,e0,e1,e2,Bool.not_true,Bool.false_eq_true,if_false]
 cases h1:inR A 0 9999 with
 | false=>simp [zbT]
 | true =>
  simp only [Bool.not_true,Bool.false_eq_true,if_false]
  cases h2:inR S 1 999 with
  | false=>simp [zbT]
  | true =>
   simp only [Bool.not_true,Bool.false_eq_true,if_false]
   rw [show decide (((1:Nat):Int)>4)=false by decide]
   unfold zbT
   rw [if_neg (by decide)]
   simp only [zcU,zeI]
   rw [if_pos (by simp),show idx [R] 0=some R from rfl]
   simp only [zac,zgN]
   cases h3:inR R 0 99 with
   | false=>simp [zdm]
   | true =>
    simp only [Bool.not_true,Bool.false_eq_true,if_false]
    rw [if_neg (by decide)]
    simp only [zdm,Bool.false_eq_true,if_false,zp3,zcU,zeI]
    rw [if_neg (by simp)]
    simp only [zfH,zcT,zeH]
    rw [if_pos (by simp),show idx [(⟨0,99999,0,[m]⟩:WearRecord)] 0=some ⟨0,99999,0,[m]⟩ from rfl]
    simp only [zac,zgN,e1,e3,e4,Bool.not_true,Bool.false_eq_true,if_false,List.length_cons,List.length_nil,Nat.zero_add]
    rw [if_neg (by decide),ztc]
    simp only [zac]
    cases h4:inR m 0 99 with
    | false=>simp [zcw]
    | true =>
     simp only [zcw,Bool.not_true,Bool.false_eq_true,if_false,zp3,zcT,zeH]
     rw [if_neg (by simp)]
     rfl
theorem ztd (k:Nat) (b:BoxW_) (nd:Int) (h:inR nd 0 1=true):zc8 (k+1) b ⟨nd,[]⟩=some true:=by
 unfold zc8
 simp only [zbV,zd9]
 rw [if_neg (by simp)]
 simp [zdJ,zgN,h]
theorem zq8 (k:Nat) (b:BoxW_) (nd:Int) (h:inR nd 0 1=true):zcI (k+1+1+1) (fun (x0:WearWeek) (_:Unit)=>(zc8 (k+1+1+1) b x0).map fun y=>(y,())) [⟨nd,[]⟩] ()=some (true,()):=by
 unfold zcI zcf zcx
 simp only [za5,zbU]
 rw [if_pos (by simp),show idx [(⟨nd,[]⟩:WearWeek)] 0=some ⟨nd,[]⟩ from rfl]
 simp only [zac,zch,ztd (k+1+1) b nd h,Option.map_some,Bool.not_true,Bool.false_eq_true,if_false,zp3]
 rw [if_neg (by simp)]
 simp [zbn]
theorem zup (k:Nat) {A S R m nd:Int} (hb:zod A S R m=true) (h:inR nd 0 1=true):zhR (k+1+1+1) (zoc A S R m) [⟨nd,[]⟩]=some (⟨zoc A S R m⟩,0):=by
 unfold zhR
 rw [zoe,hb,zac]
 simp only [cond_true,bne_self_eq_false,Bool.false_eq_true,if_false]
 rw [if_neg (by simp [zoc]),zq8 k _ nd h,zac]
 simp [zeJ]
theorem zuq {A S R m a:Int} (hS:1<=S) (ha:0<=a) (ha2:a<=100000):zfa (⟨zoc A S R m⟩:BoxW_) a=some R:=by
 unfold zfa
 rw [show (⟨zoc A S R m⟩:BoxW_).Wear.Step=S from rfl,zr7 ha (by omega) (by omega),zac]
 rw [show ((⟨zoc A S R m⟩:BoxW_).Wear.Rough.length:Int)=1 from rfl,zxk]
 have h0:0<=a / S:=Int.ediv_nonneg ha (by omega)
 rw [show min (a / S) 0=0 by omega]
 rfl
theorem zuM {A S R m:Int} (hS:1<=S) (hR:0<=R/\R<=99) (hm:0<=m/\m<=99) {a0:Int} (ha:0<=a0/\a0<=9999):∀(d f:Nat) (i v:Int),i+d=m->0<=i->v=i*R->d<f->zbj (⟨zoc A S R m⟩:BoxW_) m f v i (a0+i)=some (a0+m,m*R)
 | 0,f,i,v,hi,h0,hv,hf=>by
  obtain ⟨f,rfl⟩:∃k,f=k+1:=⟨f-1,by omega⟩
  simp only [zbj,zcW,zdn]
  rw [if_neg (by simp;omega)]
  have:i=m:=by omega
  subst this
  rw [hv]
 | d+1,f,i,v,hi,h0,hv,hf=>by
  obtain ⟨f,rfl⟩:∃k,f=k+1:=⟨f-1,by omega⟩
  have hb1:0<=i*R:=Int.mul_nonneg h0 hR.1
  have hb2:i*R<=99*R:=Int.mul_le_mul_of_nonneg_right (by omega) hR.1
  have ih:=zuM (A:=A) hS hR hm ha d f (i+1) (v+R) (by omega) (by omega) (by rw [hv,Int.add_mul,Int.one_mul]) (by omega)
  simp only [zbj,zcW]
  rw [if_pos (by simp;omega),zuq hS (by omega) (by omega),zac,zaT (by omega) (by omega),zaT (by omega) (by omega),zaT (by omega) (by omega),show a0+i+1=a0+(i+1) by omega]
  exact ih
theorem zte (k:Nat) (hk:200<=k) {A S R m nd:Int} (hb:zod A S R m=true) (h:nd=0\/nd=1):zg3 (k+1+1+1) (zoc A S R m) [⟨nd,[]⟩]=some ([m*R],(if nd=1 then 0 else A)+m,0,0):=by
 have hb':=hb
 simp only [zod,Bool.and_eq_true,zci] at hb'
 obtain ⟨hA,hS,hR,hm⟩:=hb'
 have hn:inR nd 0 1=true:=zci.2 (by omega)
 have hc1:0<=m*R:=Int.mul_nonneg hm.1 hR.1
 have hc2:m*R<=99*R:=Int.mul_le_mul_of_nonneg_right (by omega) hR.1
 have ha:0<=(if nd=1 then (0:Int) else A)/\(if nd=1 then (0:Int) else A)<=9999:=by split<;>omega
 have hp:=zuM (A:=A) hS.1 hR hm ha m.toNat (k+1+1+1) 0 0 (by omega) (by omega) (by simp) (by omega)
 rw [Int.add_zero] at hp
 unfold zg3
 rw [zup k hb hn,zac]
 simp only [bne_self_eq_false,Bool.false_eq_true,if_false]
 show zhw (k+1+1+1) [⟨nd,[]⟩] (⟨zoc A S R m⟩:BoxW_)=_
 unfold zhw
 show Option.bind (zcD (k+1+1+1) (fun _ (_:Unit)=>some (true,())) [⟨nd,[]⟩] (⟨zoc A S R m⟩:BoxW_) ((0,A,0),())) _=_
 have hc:zcD (k+1+1+1) (fun _ (_:Unit)=>some (true,())) [⟨nd,[]⟩] (⟨zoc A S R m⟩:BoxW_) ((0,A,0),())=some ((m*R,(if nd=1 then 0 else A)+m,0),()):=by
  show Option.bind (zgE (k+1+1+1) (⟨zoc A S R m⟩:BoxW_) ⟨0,99999,0,[m]⟩ ⟨nd,[]⟩ (0,A,0)) _=_
  have hw:zgE (k+1+1+1) (⟨zoc A S R m⟩:BoxW_) ⟨0,99999,0,[m]⟩ ⟨nd,[]⟩ (0,A,0)=some (m*R,(if nd=1 then 0 else A)+m,0):=by
   unfold zgE
   rw [show idx (⟨0,99999,0,[m]⟩:WearRecord).Plays 0=some m from rfl,zac]
   unfold zfz
   rw [show zbj (⟨zoc A S R m⟩:BoxW_) m (k+1+1+1) 0 0 (if (⟨nd,[]⟩:WearWeek).Needle=1 then 0 else ((0,A,0):Int×Int×Int).2.1)=some ((if nd=1 then 0 else A)+m,m*R) from hp,zac]
   simp only [Int.zero_add]
   rw [zaT (by omega) (by omega)]
   have:(if nd=1 then w64 ((0:Int)+(⟨zoc A S R m⟩:BoxW_).Wear.Price) else 0)=0:=by
    split
    ·show w64 ((0:Int)+0)=0
     decide
    ·rfl
   simp only [Int.zero_add] at this
   rw [this]
  rw [hw,zac]
  rfl
 rw [hc,zac]
theorem zof (w:Wheel) (l:List Int) (x:Turning):zhx 1000000 w l x=some true:=by
 have hj:zbX 1000000 w l x true=some true:=by
  unfold zbX
  rw [if_pos rfl,zo9]
  rfl
 unfold zhx
 by_cases h40:decide (max (max (w.Notches.length:Int) (w.Coins.length:Int)) (l.length:Int)>40)=true
 ·rw [if_pos h40,hj]
 rw [if_neg h40]
 simp only [decide_eq_true_eq,Int.not_lt] at h40
 have l1:w.Notches.length<=40:=by omega
 have l2:w.Coins.length<=40:=by omega
 have l3:l.length<=40:=by omega
 have hol:zlB 1000000 w:=⟨by omega,by omega,by omega,by omega⟩
 rw [zsF hol,zac]
 cases hv:valid w with
 | false=>rw [if_pos (by decide),hj]
 | true =>
  have hw:=zfc hv
  rw [if_neg (by decide),zq0 (by omega) (by omega),zac]
  cases hp:zb5 w l with
  | false=>rw [if_pos (by decide),hj]
  | true =>
   obtain ⟨hP,h12⟩:=zm1 hp
   have hsm:zn6 l:=fun k=>by
    have g:=zgt hP.nn k
    have:=hP.tot
    omega
   rw [if_neg (by decide),zuk hsm (by omega) (by omega),zac]
   by_cases h5:total l>5
   ·rw [decide_eq_true h5,hj]
   rw [decide_eq_false h5]
   have hM:zeu 1000000 w l=some (Q true w (total l).toNat 0 0 l,0):=by
    rw [zsT hol (by omega) _ (by omega) (by omega)]
    unfold zug
    rw [if_pos hv,if_pos hp]
   have hq:=(zo0 true hw (total l).toNat (p:=0) (c:=0) (l:=l) (by omega) (by have:=hw.r1;omega) (by omega) hP).1
   unfold zbX
   rw [if_neg (by decide),zpA (by simp;omega),zac,List.nil_append,hM,zac]
   generalize Q true w (total l).toNat 0 0 l=m at hq
   simp only [bne_self_eq_false,Bool.false_eq_true,if_false]
   rw [decide_eq_false (by omega:¬m<0)]
   have jt:zcm 1000000 x (m,0) true=some true:=by
    unfold zcm
    rw [if_pos rfl,zo9]
    rfl
   unfold zdU
   rw [if_neg (by decide)]
   by_cases h99:m>99
   ·rw [if_pos (by simpa using h99),jt]
   rw [if_neg (by simpa using h99)]
   have hch:zfJ 1000000 (⟨1,0,x.Age,x.Step,[x.Rough],[⟨0,99999,0,[m]⟩]⟩:Wear)=some (cond (zod x.Age x.Step x.Rough m) 0 30):=zoe 999997 x.Age x.Step x.Rough m
   rw [hch,zac]
   cases hb:zod x.Age x.Step x.Rough m with
   | false=>exact jt
   | true =>
    have r1:zg3 1000000 (⟨1,0,x.Age,x.Step,[x.Rough],[⟨0,99999,0,[m]⟩]⟩:Wear) [⟨0,[]⟩]=some ([m*x.Rough],x.Age+m,0,0):=zte 999997 (by omega) hb (.inl rfl)
    have r2:zg3 1000000 (⟨1,0,x.Age,x.Step,[x.Rough],[⟨0,99999,0,[m]⟩]⟩:Wear) [⟨1,[]⟩]=some ([m*x.Rough],0+m,0,0):=zte 999997 (by omega) hb (.inr rfl)
    have hb':=hb
    simp only [zod,Bool.and_eq_true,zci] at hb'
    obtain ⟨hA,hS,hR,hm⟩:=hb'
    have hc1:0<=m*x.Rough:=Int.mul_nonneg hm.1 hR.1
    have hc2:m*x.Rough<=99*x.Rough:=Int.mul_le_mul_of_nonneg_right (by omega) hR.1
    show zcm 1000000 x (m,0) false=_
    unfold zcm
    rw [if_neg (by decide)]
    simp only
    rw [r1,zac,r2,zac,if_pos (by simp),if_pos (by simp)]
    rw [zaT (x:=x.Age+m) (by omega) (by omega),if_pos (by simp),if_pos (by simp),zaT (x:=m*x.Rough) (by omega) (by omega)]
    rw [zoX _ _ (by simp) (by simp),zac,if_pos (by simp),zac,if_pos (by simp),zo9]
    rfl
end Go.Law
